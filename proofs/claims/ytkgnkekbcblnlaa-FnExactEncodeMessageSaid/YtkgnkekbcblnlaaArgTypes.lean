import Derived.Test.YtkgnkekbcblnlaaProg
import Derived.Test.YtkgnkekbcblnlaaTypes
import Derived.StillTailTactics
import Derived.Deep.RegionHeld3
import Derived.Laws.IdiomStrings
import Derived.Test.YtkgnkekbcblnlaaAppend
import Derived.Laws.StructEq
import Derived.Lib.SliceRun
import Derived.Shelf.RegionOpenPlain
import Derived.Test.YtkgnkekbcblnlaaArgs
namespace Go.Proofs.Ytkgnkekbcblnlaa
open Go.RowKit Go.ChangeShapes Go.WideShapes Go.ChangeAt Go.Deep
set_option linter.unusedVariables false
set_option linter.unusedSimpArgs false

theorem arg_eWire {H : Type} {enc : TypeId × Value → H} {w : World} {base : Nat} {spare : Nat → Bool} {held : Bool} {fuel : Nat} {cs : List Value} {x : DataW H × List MemPlace} (h : DataW.trod enc Try.prog w base spare held fuel 23 cs = some x) (hw : WOk Try.prog 23 x.1) : ∃ a : GWire, RdLW w (eWire a) cs ∧ StrOkL (eWire a) := by
  obtain ⟨hl, hf⟩ := arg_struct Try.underlying23 h hw
  rw [show Try.prog.cellsOf 23 = 2 from by kernel_rfl] at hl
  have hl0 := hl
  clear hl
  obtain ⟨c0, cs0, rfl, hl1⟩ := cons_of hl0
  obtain ⟨c1, cs1, rfl, hl2⟩ := cons_of hl1
  obtain rfl := nil_of hl2
  clear hl0 hl1 hl2
  obtain ⟨n0, y0, t0, w0⟩ := hf 0 _ rfl
  replace t0 : DataW.trod enc Try.prog w base spare held n0 3 ((([c0, c1] : List Value).drop 0).take (Try.prog.cellsOf 3)) = some y0 := t0
  rw [show Try.prog.cellsOf 3 = 1 from by kernel_rfl] at t0
  replace t0 : DataW.trod enc Try.prog w base spare held n0 3 [c0] = some y0 := t0
  obtain ⟨n1, y1, t1, w1⟩ := hf 1 _ rfl
  replace t1 : DataW.trod enc Try.prog w base spare held n1 3 ((([c0, c1] : List Value).drop 1).take (Try.prog.cellsOf 3)) = some y1 := t1
  rw [show Try.prog.cellsOf 3 = 1 from by kernel_rfl] at t1
  replace t1 : DataW.trod enc Try.prog w base spare held n1 3 [c1] = some y1 := t1
  obtain ⟨a0, e0⟩ := arg_int Try.underlying3 t0
  injection e0 with e0 _
  subst e0
  obtain ⟨a1, e1⟩ := arg_int Try.underlying3 t1
  injection e1 with e1 _
  subst e1
  refine ⟨⟨a0, a1⟩, mkrd_eWire, ?_⟩
  simp only [eWire, StrOkL_cons, StrOkL_nil, StrOk_str, StrOk_int, StrOk_bool, StrOk_s, true_and, and_true]

theorem arg_eTag {H : Type} {enc : TypeId × Value → H} {w : World} {base : Nat} {spare : Nat → Bool} {held : Bool} {fuel : Nat} {cs : List Value} {x : DataW H × List MemPlace} (h : DataW.trod enc Try.prog w base spare held fuel 30 cs = some x) (hw : WOk Try.prog 30 x.1) : ∃ a : GTag, RdLW w (eTag a) cs ∧ StrOkL (eTag a) := by
  obtain ⟨hl, hf⟩ := arg_struct Try.underlying30 h hw
  rw [show Try.prog.cellsOf 30 = 3 from by kernel_rfl] at hl
  have hl0 := hl
  clear hl
  obtain ⟨c0, cs0, rfl, hl1⟩ := cons_of hl0
  obtain ⟨c1, cs1, rfl, hl2⟩ := cons_of hl1
  obtain ⟨c2, cs2, rfl, hl3⟩ := cons_of hl2
  obtain rfl := nil_of hl3
  clear hl0 hl1 hl2 hl3
  obtain ⟨n0, y0, t0, w0⟩ := hf 0 _ rfl
  replace t0 : DataW.trod enc Try.prog w base spare held n0 3 ((([c0, c1, c2] : List Value).drop 0).take (Try.prog.cellsOf 3)) = some y0 := t0
  rw [show Try.prog.cellsOf 3 = 1 from by kernel_rfl] at t0
  replace t0 : DataW.trod enc Try.prog w base spare held n0 3 [c0] = some y0 := t0
  obtain ⟨n1, y1, t1, w1⟩ := hf 1 _ rfl
  replace t1 : DataW.trod enc Try.prog w base spare held n1 3 ((([c0, c1, c2] : List Value).drop 1).take (Try.prog.cellsOf 3)) = some y1 := t1
  rw [show Try.prog.cellsOf 3 = 1 from by kernel_rfl] at t1
  replace t1 : DataW.trod enc Try.prog w base spare held n1 3 [c1] = some y1 := t1
  obtain ⟨n2, y2, t2, w2⟩ := hf 2 _ rfl
  replace t2 : DataW.trod enc Try.prog w base spare held n2 3 ((([c0, c1, c2] : List Value).drop 2).take (Try.prog.cellsOf 3)) = some y2 := t2
  rw [show Try.prog.cellsOf 3 = 1 from by kernel_rfl] at t2
  replace t2 : DataW.trod enc Try.prog w base spare held n2 3 [c2] = some y2 := t2
  obtain ⟨a0, e0⟩ := arg_int Try.underlying3 t0
  injection e0 with e0 _
  subst e0
  obtain ⟨a1, e1⟩ := arg_int Try.underlying3 t1
  injection e1 with e1 _
  subst e1
  obtain ⟨a2, e2⟩ := arg_int Try.underlying3 t2
  injection e2 with e2 _
  subst e2
  refine ⟨⟨a0, a1, a2⟩, mkrd_eTag, ?_⟩
  simp only [eTag, StrOkL_cons, StrOkL_nil, StrOk_str, StrOk_int, StrOk_bool, StrOk_s, true_and, and_true]

theorem arg_eMessage {H : Type} {enc : TypeId × Value → H} {w : World} {base : Nat} {spare : Nat → Bool} {held : Bool} {fuel : Nat} {cs : List Value} {x : DataW H × List MemPlace} (h : DataW.trod enc Try.prog w base spare held fuel 32 cs = some x) (hw : WOk Try.prog 32 x.1) : ∃ a : GMessage, RdLW w (eMessage a) cs ∧ StrOkL (eMessage a) := by
  obtain ⟨hl, hf⟩ := arg_struct Try.underlying32 h hw
  rw [show Try.prog.cellsOf 32 = 12 from by kernel_rfl] at hl
  have hl0 := hl
  clear hl
  obtain ⟨c0, cs0, rfl, hl1⟩ := cons_of hl0
  obtain ⟨c1, cs1, rfl, hl2⟩ := cons_of hl1
  obtain ⟨c2, cs2, rfl, hl3⟩ := cons_of hl2
  obtain ⟨c3, cs3, rfl, hl4⟩ := cons_of hl3
  obtain ⟨c4, cs4, rfl, hl5⟩ := cons_of hl4
  obtain ⟨c5, cs5, rfl, hl6⟩ := cons_of hl5
  obtain ⟨c6, cs6, rfl, hl7⟩ := cons_of hl6
  obtain ⟨c7, cs7, rfl, hl8⟩ := cons_of hl7
  obtain ⟨c8, cs8, rfl, hl9⟩ := cons_of hl8
  obtain ⟨c9, cs9, rfl, hl10⟩ := cons_of hl9
  obtain ⟨c10, cs10, rfl, hl11⟩ := cons_of hl10
  obtain ⟨c11, cs11, rfl, hl12⟩ := cons_of hl11
  obtain rfl := nil_of hl12
  clear hl0 hl1 hl2 hl3 hl4 hl5 hl6 hl7 hl8 hl9 hl10 hl11 hl12
  obtain ⟨n0, y0, t0, w0⟩ := hf 0 _ rfl
  replace t0 : DataW.trod enc Try.prog w base spare held n0 3 ((([c0, c1, c2, c3, c4, c5, c6, c7, c8, c9, c10, c11] : List Value).drop 0).take (Try.prog.cellsOf 3)) = some y0 := t0
  rw [show Try.prog.cellsOf 3 = 1 from by kernel_rfl] at t0
  replace t0 : DataW.trod enc Try.prog w base spare held n0 3 [c0] = some y0 := t0
  obtain ⟨n1, y1, t1, w1⟩ := hf 1 _ rfl
  replace t1 : DataW.trod enc Try.prog w base spare held n1 3 ((([c0, c1, c2, c3, c4, c5, c6, c7, c8, c9, c10, c11] : List Value).drop 1).take (Try.prog.cellsOf 3)) = some y1 := t1
  rw [show Try.prog.cellsOf 3 = 1 from by kernel_rfl] at t1
  replace t1 : DataW.trod enc Try.prog w base spare held n1 3 [c1] = some y1 := t1
  obtain ⟨n2, y2, t2, w2⟩ := hf 2 _ rfl
  replace t2 : DataW.trod enc Try.prog w base spare held n2 3 ((([c0, c1, c2, c3, c4, c5, c6, c7, c8, c9, c10, c11] : List Value).drop 2).take (Try.prog.cellsOf 3)) = some y2 := t2
  rw [show Try.prog.cellsOf 3 = 1 from by kernel_rfl] at t2
  replace t2 : DataW.trod enc Try.prog w base spare held n2 3 [c2] = some y2 := t2
  obtain ⟨n3, y3, t3, w3⟩ := hf 3 _ rfl
  replace t3 : DataW.trod enc Try.prog w base spare held n3 3 ((([c0, c1, c2, c3, c4, c5, c6, c7, c8, c9, c10, c11] : List Value).drop 3).take (Try.prog.cellsOf 3)) = some y3 := t3
  rw [show Try.prog.cellsOf 3 = 1 from by kernel_rfl] at t3
  replace t3 : DataW.trod enc Try.prog w base spare held n3 3 [c3] = some y3 := t3
  obtain ⟨n4, y4, t4, w4⟩ := hf 4 _ rfl
  replace t4 : DataW.trod enc Try.prog w base spare held n4 9 ((([c0, c1, c2, c3, c4, c5, c6, c7, c8, c9, c10, c11] : List Value).drop 4).take (Try.prog.cellsOf 9)) = some y4 := t4
  rw [show Try.prog.cellsOf 9 = 1 from by kernel_rfl] at t4
  replace t4 : DataW.trod enc Try.prog w base spare held n4 9 [c4] = some y4 := t4
  obtain ⟨n5, y5, t5, w5⟩ := hf 5 _ rfl
  replace t5 : DataW.trod enc Try.prog w base spare held n5 28 ((([c0, c1, c2, c3, c4, c5, c6, c7, c8, c9, c10, c11] : List Value).drop 5).take (Try.prog.cellsOf 28)) = some y5 := t5
  rw [show Try.prog.cellsOf 28 = 1 from by kernel_rfl] at t5
  replace t5 : DataW.trod enc Try.prog w base spare held n5 28 [c5] = some y5 := t5
  obtain ⟨n6, y6, t6, w6⟩ := hf 6 _ rfl
  replace t6 : DataW.trod enc Try.prog w base spare held n6 23 ((([c0, c1, c2, c3, c4, c5, c6, c7, c8, c9, c10, c11] : List Value).drop 6).take (Try.prog.cellsOf 23)) = some y6 := t6
  rw [show Try.prog.cellsOf 23 = 2 from by kernel_rfl] at t6
  replace t6 : DataW.trod enc Try.prog w base spare held n6 23 [c6, c7] = some y6 := t6
  obtain ⟨n7, y7, t7, w7⟩ := hf 7 _ rfl
  replace t7 : DataW.trod enc Try.prog w base spare held n7 3 ((([c0, c1, c2, c3, c4, c5, c6, c7, c8, c9, c10, c11] : List Value).drop 8).take (Try.prog.cellsOf 3)) = some y7 := t7
  rw [show Try.prog.cellsOf 3 = 1 from by kernel_rfl] at t7
  replace t7 : DataW.trod enc Try.prog w base spare held n7 3 [c8] = some y7 := t7
  obtain ⟨n8, y8, t8, w8⟩ := hf 8 _ rfl
  replace t8 : DataW.trod enc Try.prog w base spare held n8 30 ((([c0, c1, c2, c3, c4, c5, c6, c7, c8, c9, c10, c11] : List Value).drop 9).take (Try.prog.cellsOf 30)) = some y8 := t8
  rw [show Try.prog.cellsOf 30 = 3 from by kernel_rfl] at t8
  replace t8 : DataW.trod enc Try.prog w base spare held n8 30 [c9, c10, c11] = some y8 := t8
  obtain ⟨a0, e0⟩ := arg_int Try.underlying3 t0
  injection e0 with e0 _
  subst e0
  obtain ⟨a1, e1⟩ := arg_int Try.underlying3 t1
  injection e1 with e1 _
  subst e1
  obtain ⟨a2, e2⟩ := arg_int Try.underlying3 t2
  injection e2 with e2 _
  subst e2
  obtain ⟨a3, e3⟩ := arg_int Try.underlying3 t3
  injection e3 with e3 _
  subst e3
  obtain ⟨a4, e4, s4⟩ := arg_str Try.underlying9 t4 w4
  injection e4 with e4 _
  subst e4
  obtain ⟨a5, v5, e5, r5, s5⟩ := arg_slice eWire Try.underlying28 (show Try.prog.cellsOf 23 = 2 from by kernel_rfl) (by omega) (by rw [show Try.prog.bytesOf 23 = 16 from by kernel_rfl]; omega) len_eWire (fun _ _ _ h hw => arg_eWire h hw) t5 w5
  injection e5 with e5 _
  subst e5
  obtain ⟨a6, r6, s6⟩ := arg_eWire t6 w6
  have e6 := rd_eWire r6
  simp only [List.cons.injEq, and_true] at e6
  obtain ⟨rfl, rfl⟩ := e6
  obtain ⟨a7, e7⟩ := arg_int Try.underlying3 t7
  injection e7 with e7 _
  subst e7
  obtain ⟨a8, r8, s8⟩ := arg_eTag t8 w8
  have e8 := rd_eTag r8
  simp only [List.cons.injEq, and_true] at e8
  obtain ⟨rfl, rfl, rfl⟩ := e8
  refine ⟨⟨a0, a1, a2, a3, a4, a5, a6, a7, a8⟩, mkrd_eMessage r5, ?_⟩
  try simp only [eWire, StrOkL_cons, StrOkL_nil, StrOk_str, StrOk_int, StrOk_bool, StrOk_s, true_and, and_true] at s6
  try simp only [eTag, StrOkL_cons, StrOkL_nil, StrOk_str, StrOk_int, StrOk_bool, StrOk_s, true_and, and_true] at s8
  simp only [eMessage, StrOkL_cons, StrOkL_nil, StrOk_str, StrOk_int, StrOk_bool, StrOk_s, true_and, and_true]
  simp_all

theorem arg_eChannel {H : Type} {enc : TypeId × Value → H} {w : World} {base : Nat} {spare : Nat → Bool} {held : Bool} {fuel : Nat} {cs : List Value} {x : DataW H × List MemPlace} (h : DataW.trod enc Try.prog w base spare held fuel 73 cs = some x) (hw : WOk Try.prog 73 x.1) : ∃ a : GChannel, RdLW w (eChannel a) cs ∧ StrOkL (eChannel a) := by
  obtain ⟨hl, hf⟩ := arg_struct Try.underlying73 h hw
  rw [show Try.prog.cellsOf 73 = 3 from by kernel_rfl] at hl
  have hl0 := hl
  clear hl
  obtain ⟨c0, cs0, rfl, hl1⟩ := cons_of hl0
  obtain ⟨c1, cs1, rfl, hl2⟩ := cons_of hl1
  obtain ⟨c2, cs2, rfl, hl3⟩ := cons_of hl2
  obtain rfl := nil_of hl3
  clear hl0 hl1 hl2 hl3
  obtain ⟨n0, y0, t0, w0⟩ := hf 0 _ rfl
  replace t0 : DataW.trod enc Try.prog w base spare held n0 3 ((([c0, c1, c2] : List Value).drop 0).take (Try.prog.cellsOf 3)) = some y0 := t0
  rw [show Try.prog.cellsOf 3 = 1 from by kernel_rfl] at t0
  replace t0 : DataW.trod enc Try.prog w base spare held n0 3 [c0] = some y0 := t0
  obtain ⟨n1, y1, t1, w1⟩ := hf 1 _ rfl
  replace t1 : DataW.trod enc Try.prog w base spare held n1 3 ((([c0, c1, c2] : List Value).drop 1).take (Try.prog.cellsOf 3)) = some y1 := t1
  rw [show Try.prog.cellsOf 3 = 1 from by kernel_rfl] at t1
  replace t1 : DataW.trod enc Try.prog w base spare held n1 3 [c1] = some y1 := t1
  obtain ⟨n2, y2, t2, w2⟩ := hf 2 _ rfl
  replace t2 : DataW.trod enc Try.prog w base spare held n2 71 ((([c0, c1, c2] : List Value).drop 2).take (Try.prog.cellsOf 71)) = some y2 := t2
  rw [show Try.prog.cellsOf 71 = 1 from by kernel_rfl] at t2
  replace t2 : DataW.trod enc Try.prog w base spare held n2 71 [c2] = some y2 := t2
  obtain ⟨a0, e0⟩ := arg_int Try.underlying3 t0
  injection e0 with e0 _
  subst e0
  obtain ⟨a1, e1⟩ := arg_int Try.underlying3 t1
  injection e1 with e1 _
  subst e1
  obtain ⟨a2, v2, e2, r2, s2⟩ := arg_slice eMessage Try.underlying71 (show Try.prog.cellsOf 32 = 12 from by kernel_rfl) (by omega) (by rw [show Try.prog.bytesOf 32 = 120 from by kernel_rfl]; omega) len_eMessage (fun _ _ _ h hw => arg_eMessage h hw) t2 w2
  injection e2 with e2 _
  subst e2
  refine ⟨⟨a0, a1, a2⟩, mkrd_eChannel r2, ?_⟩
  simp only [eChannel, StrOkL_cons, StrOkL_nil, StrOk_str, StrOk_int, StrOk_bool, StrOk_s, true_and, and_true]
  simp_all

end Go.Proofs.Ytkgnkekbcblnlaa
