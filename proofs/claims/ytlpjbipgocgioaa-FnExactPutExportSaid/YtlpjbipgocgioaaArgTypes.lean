import Derived.Test.YtlpjbipgocgioaaProg
import Derived.Test.YtlpjbipgocgioaaTypes
import Derived.StillTailTactics
import Derived.Deep.RegionHeld3
import Derived.Laws.IdiomStrings
import Derived.Test.YtlpjbipgocgioaaAppend
import Derived.Laws.StructEq
import Derived.Lib.SliceRun
import Derived.Shelf.RegionOpenPlain
import Derived.Test.YtlpjbipgocgioaaArgs
namespace Go.Proofs.Ytlpjbipgocgioaa
open Go.RowKit Go.ChangeShapes Go.WideShapes Go.ChangeAt Go.Deep
set_option linter.unusedVariables false
set_option linter.unusedSimpArgs false

theorem arg_eExport {H : Type} {enc : TypeId × Value → H} {w : World} {base : Nat} {spare : Nat → Bool} {held : Bool} {fuel : Nat} {cs : List Value} {x : DataW H × List MemPlace} (h : DataW.trod enc Try.prog w base spare held fuel 53 cs = some x) (hw : WOk Try.prog 53 x.1) : ∃ a : GExport, RdLW w (eExport a) cs ∧ StrOkL (eExport a) := by
  obtain ⟨hl, hf⟩ := arg_struct Try.underlying53 h hw
  rw [show Try.prog.cellsOf 53 = 3 from by kernel_rfl] at hl
  have hl0 := hl
  clear hl
  obtain ⟨c0, cs0, rfl, hl1⟩ := cons_of hl0
  obtain ⟨c1, cs1, rfl, hl2⟩ := cons_of hl1
  obtain ⟨c2, cs2, rfl, hl3⟩ := cons_of hl2
  obtain rfl := nil_of hl3
  clear hl0 hl1 hl2 hl3
  obtain ⟨n0, y0, t0, w0⟩ := hf 0 _ rfl
  replace t0 : DataW.trod enc Try.prog w base spare held n0 3 ((([c0, c1, c2] : List Value).drop 0).take (Try.prog.cellsOf 3)) = some y0 := t0
  rw [show Try.prog.cellsOf 3 = 1 from by kernel_rfl] at t0
  replace t0 : DataW.trod enc Try.prog w base spare held n0 3 [c0] = some y0 := t0
  obtain ⟨n1, y1, t1, w1⟩ := hf 1 _ rfl
  replace t1 : DataW.trod enc Try.prog w base spare held n1 3 ((([c0, c1, c2] : List Value).drop 1).take (Try.prog.cellsOf 3)) = some y1 := t1
  rw [show Try.prog.cellsOf 3 = 1 from by kernel_rfl] at t1
  replace t1 : DataW.trod enc Try.prog w base spare held n1 3 [c1] = some y1 := t1
  obtain ⟨n2, y2, t2, w2⟩ := hf 2 _ rfl
  replace t2 : DataW.trod enc Try.prog w base spare held n2 3 ((([c0, c1, c2] : List Value).drop 2).take (Try.prog.cellsOf 3)) = some y2 := t2
  rw [show Try.prog.cellsOf 3 = 1 from by kernel_rfl] at t2
  replace t2 : DataW.trod enc Try.prog w base spare held n2 3 [c2] = some y2 := t2
  obtain ⟨a0, e0⟩ := arg_int Try.underlying3 t0
  injection e0 with e0 _
  subst e0
  obtain ⟨a1, e1⟩ := arg_int Try.underlying3 t1
  injection e1 with e1 _
  subst e1
  obtain ⟨a2, e2⟩ := arg_int Try.underlying3 t2
  injection e2 with e2 _
  subst e2
  refine ⟨⟨a0, a1, a2⟩, mkrd_eExport, ?_⟩
  simp only [eExport, StrOkL_cons, StrOkL_nil, StrOk_str, StrOk_int, StrOk_bool, StrOk_s, true_and, and_true]

theorem arg_eQuestion {H : Type} {enc : TypeId × Value → H} {w : World} {base : Nat} {spare : Nat → Bool} {held : Bool} {fuel : Nat} {cs : List Value} {x : DataW H × List MemPlace} (h : DataW.trod enc Try.prog w base spare held fuel 55 cs = some x) (hw : WOk Try.prog 55 x.1) : ∃ a : GQuestion, RdLW w (eQuestion a) cs ∧ StrOkL (eQuestion a) := by
  obtain ⟨hl, hf⟩ := arg_struct Try.underlying55 h hw
  rw [show Try.prog.cellsOf 55 = 2 from by kernel_rfl] at hl
  have hl0 := hl
  clear hl
  obtain ⟨c0, cs0, rfl, hl1⟩ := cons_of hl0
  obtain ⟨c1, cs1, rfl, hl2⟩ := cons_of hl1
  obtain rfl := nil_of hl2
  clear hl0 hl1 hl2
  obtain ⟨n0, y0, t0, w0⟩ := hf 0 _ rfl
  replace t0 : DataW.trod enc Try.prog w base spare held n0 3 ((([c0, c1] : List Value).drop 0).take (Try.prog.cellsOf 3)) = some y0 := t0
  rw [show Try.prog.cellsOf 3 = 1 from by kernel_rfl] at t0
  replace t0 : DataW.trod enc Try.prog w base spare held n0 3 [c0] = some y0 := t0
  obtain ⟨n1, y1, t1, w1⟩ := hf 1 _ rfl
  replace t1 : DataW.trod enc Try.prog w base spare held n1 3 ((([c0, c1] : List Value).drop 1).take (Try.prog.cellsOf 3)) = some y1 := t1
  rw [show Try.prog.cellsOf 3 = 1 from by kernel_rfl] at t1
  replace t1 : DataW.trod enc Try.prog w base spare held n1 3 [c1] = some y1 := t1
  obtain ⟨a0, e0⟩ := arg_int Try.underlying3 t0
  injection e0 with e0 _
  subst e0
  obtain ⟨a1, e1⟩ := arg_int Try.underlying3 t1
  injection e1 with e1 _
  subst e1
  refine ⟨⟨a0, a1⟩, mkrd_eQuestion, ?_⟩
  simp only [eQuestion, StrOkL_cons, StrOkL_nil, StrOk_str, StrOk_int, StrOk_bool, StrOk_s, true_and, and_true]

theorem arg_eLink {H : Type} {enc : TypeId × Value → H} {w : World} {base : Nat} {spare : Nat → Bool} {held : Bool} {fuel : Nat} {cs : List Value} {x : DataW H × List MemPlace} (h : DataW.trod enc Try.prog w base spare held fuel 25 cs = some x) (hw : WOk Try.prog 25 x.1) : ∃ a : GLink, RdLW w (eLink a) cs ∧ StrOkL (eLink a) := by
  obtain ⟨hl, hf⟩ := arg_struct Try.underlying25 h hw
  rw [show Try.prog.cellsOf 25 = 7 from by kernel_rfl] at hl
  have hl0 := hl
  clear hl
  obtain ⟨c0, cs0, rfl, hl1⟩ := cons_of hl0
  obtain ⟨c1, cs1, rfl, hl2⟩ := cons_of hl1
  obtain ⟨c2, cs2, rfl, hl3⟩ := cons_of hl2
  obtain ⟨c3, cs3, rfl, hl4⟩ := cons_of hl3
  obtain ⟨c4, cs4, rfl, hl5⟩ := cons_of hl4
  obtain ⟨c5, cs5, rfl, hl6⟩ := cons_of hl5
  obtain ⟨c6, cs6, rfl, hl7⟩ := cons_of hl6
  obtain rfl := nil_of hl7
  clear hl0 hl1 hl2 hl3 hl4 hl5 hl6 hl7
  obtain ⟨n0, y0, t0, w0⟩ := hf 0 _ rfl
  replace t0 : DataW.trod enc Try.prog w base spare held n0 3 ((([c0, c1, c2, c3, c4, c5, c6] : List Value).drop 0).take (Try.prog.cellsOf 3)) = some y0 := t0
  rw [show Try.prog.cellsOf 3 = 1 from by kernel_rfl] at t0
  replace t0 : DataW.trod enc Try.prog w base spare held n0 3 [c0] = some y0 := t0
  obtain ⟨n1, y1, t1, w1⟩ := hf 1 _ rfl
  replace t1 : DataW.trod enc Try.prog w base spare held n1 4 ((([c0, c1, c2, c3, c4, c5, c6] : List Value).drop 1).take (Try.prog.cellsOf 4)) = some y1 := t1
  rw [show Try.prog.cellsOf 4 = 1 from by kernel_rfl] at t1
  replace t1 : DataW.trod enc Try.prog w base spare held n1 4 [c1] = some y1 := t1
  obtain ⟨n2, y2, t2, w2⟩ := hf 2 _ rfl
  replace t2 : DataW.trod enc Try.prog w base spare held n2 22 ((([c0, c1, c2, c3, c4, c5, c6] : List Value).drop 2).take (Try.prog.cellsOf 22)) = some y2 := t2
  rw [show Try.prog.cellsOf 22 = 1 from by kernel_rfl] at t2
  replace t2 : DataW.trod enc Try.prog w base spare held n2 22 [c2] = some y2 := t2
  obtain ⟨n3, y3, t3, w3⟩ := hf 3 _ rfl
  replace t3 : DataW.trod enc Try.prog w base spare held n3 3 ((([c0, c1, c2, c3, c4, c5, c6] : List Value).drop 3).take (Try.prog.cellsOf 3)) = some y3 := t3
  rw [show Try.prog.cellsOf 3 = 1 from by kernel_rfl] at t3
  replace t3 : DataW.trod enc Try.prog w base spare held n3 3 [c3] = some y3 := t3
  obtain ⟨n4, y4, t4, w4⟩ := hf 4 _ rfl
  replace t4 : DataW.trod enc Try.prog w base spare held n4 23 ((([c0, c1, c2, c3, c4, c5, c6] : List Value).drop 4).take (Try.prog.cellsOf 23)) = some y4 := t4
  rw [show Try.prog.cellsOf 23 = 1 from by kernel_rfl] at t4
  replace t4 : DataW.trod enc Try.prog w base spare held n4 23 [c4] = some y4 := t4
  obtain ⟨n5, y5, t5, w5⟩ := hf 5 _ rfl
  replace t5 : DataW.trod enc Try.prog w base spare held n5 3 ((([c0, c1, c2, c3, c4, c5, c6] : List Value).drop 5).take (Try.prog.cellsOf 3)) = some y5 := t5
  rw [show Try.prog.cellsOf 3 = 1 from by kernel_rfl] at t5
  replace t5 : DataW.trod enc Try.prog w base spare held n5 3 [c5] = some y5 := t5
  obtain ⟨n6, y6, t6, w6⟩ := hf 6 _ rfl
  replace t6 : DataW.trod enc Try.prog w base spare held n6 23 ((([c0, c1, c2, c3, c4, c5, c6] : List Value).drop 6).take (Try.prog.cellsOf 23)) = some y6 := t6
  rw [show Try.prog.cellsOf 23 = 1 from by kernel_rfl] at t6
  replace t6 : DataW.trod enc Try.prog w base spare held n6 23 [c6] = some y6 := t6
  obtain ⟨a0, e0⟩ := arg_int Try.underlying3 t0
  injection e0 with e0 _
  subst e0
  obtain ⟨a1, e1⟩ := arg_bool Try.underlying4 t1
  injection e1 with e1 _
  subst e1
  obtain ⟨a2, v2, e2, r2, s2⟩ := arg_slice eExport Try.underlying22 (show Try.prog.cellsOf 53 = 3 from by kernel_rfl) (by omega) (by rw [show Try.prog.bytesOf 53 = 24 from by kernel_rfl]; omega) len_eExport (fun _ _ _ h hw => arg_eExport h hw) t2 w2
  injection e2 with e2 _
  subst e2
  obtain ⟨a3, e3⟩ := arg_int Try.underlying3 t3
  injection e3 with e3 _
  subst e3
  obtain ⟨a4, v4, e4, r4, s4⟩ := arg_slice eQuestion Try.underlying23 (show Try.prog.cellsOf 55 = 2 from by kernel_rfl) (by omega) (by rw [show Try.prog.bytesOf 55 = 16 from by kernel_rfl]; omega) len_eQuestion (fun _ _ _ h hw => arg_eQuestion h hw) t4 w4
  injection e4 with e4 _
  subst e4
  obtain ⟨a5, e5⟩ := arg_int Try.underlying3 t5
  injection e5 with e5 _
  subst e5
  obtain ⟨a6, v6, e6, r6, s6⟩ := arg_slice eQuestion Try.underlying23 (show Try.prog.cellsOf 55 = 2 from by kernel_rfl) (by omega) (by rw [show Try.prog.bytesOf 55 = 16 from by kernel_rfl]; omega) len_eQuestion (fun _ _ _ h hw => arg_eQuestion h hw) t6 w6
  injection e6 with e6 _
  subst e6
  refine ⟨⟨a0, a1, a2, a3, a4, a5, a6⟩, mkrd_eLink r2 r4 r6, ?_⟩
  simp only [eLink, StrOkL_cons, StrOkL_nil, StrOk_str, StrOk_int, StrOk_bool, StrOk_s, true_and, and_true]
  simp_all

end Go.Proofs.Ytlpjbipgocgioaa
