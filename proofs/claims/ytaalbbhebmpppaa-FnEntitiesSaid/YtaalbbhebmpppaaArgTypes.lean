import Derived.Test.YtaalbbhebmpppaaProg
import Derived.Test.YtaalbbhebmpppaaTypes
import Derived.StillTailTactics
import Derived.Deep.RegionHeld3
import Derived.Laws.IdiomStrings
import Derived.Test.YtaalbbhebmpppaaAppend
import Derived.Laws.StructEq
import Derived.Lib.SliceRun
import Derived.Shelf.RegionOpenPlain
import Derived.Test.YtaalbbhebmpppaaArgs
namespace Go.Proofs.Ytaalbbhebmpppaa
open Go.RowKit Go.ChangeShapes Go.WideShapes Go.ChangeAt Go.Deep
set_option linter.unusedVariables false
set_option linter.unusedSimpArgs false

theorem arg_eValue {H : Type} {enc : TypeId × Value → H} {w : World} {base : Nat} {spare : Nat → Bool} {held : Bool} {fuel : Nat} {cs : List Value} {x : DataW H × List MemPlace} (h : DataW.trod enc Try.prog w base spare held fuel 24 cs = some x) (hw : WOk Try.prog 24 x.1) : ∃ a : GValue, RdLW w (eValue a) cs ∧ StrOkL (eValue a) := by
  obtain ⟨hl, hf⟩ := arg_struct Try.underlying24 h hw
  rw [show Try.prog.cellsOf 24 = 2 from by kernel_rfl] at hl
  have hl0 := hl
  clear hl
  obtain ⟨c0, cs0, rfl, hl1⟩ := cons_of hl0
  obtain ⟨c1, cs1, rfl, hl2⟩ := cons_of hl1
  obtain rfl := nil_of hl2
  clear hl0 hl1 hl2
  obtain ⟨n0, y0, t0, w0⟩ := hf 0 _ rfl
  replace t0 : DataW.trod enc Try.prog w base spare held n0 3 ((([c0, c1] : List Value).drop 0).take (Try.prog.cellsOf 3)) = some y0 := t0
  rw [show Try.prog.cellsOf 3 = 1 from by kernel_rfl] at t0
  replace t0 : DataW.trod enc Try.prog w base spare held n0 3 [c0] = some y0 := t0
  obtain ⟨n1, y1, t1, w1⟩ := hf 1 _ rfl
  replace t1 : DataW.trod enc Try.prog w base spare held n1 3 ((([c0, c1] : List Value).drop 1).take (Try.prog.cellsOf 3)) = some y1 := t1
  rw [show Try.prog.cellsOf 3 = 1 from by kernel_rfl] at t1
  replace t1 : DataW.trod enc Try.prog w base spare held n1 3 [c1] = some y1 := t1
  obtain ⟨a0, e0⟩ := arg_int Try.underlying3 t0
  injection e0 with e0 _
  subst e0
  obtain ⟨a1, e1⟩ := arg_int Try.underlying3 t1
  injection e1 with e1 _
  subst e1
  refine ⟨⟨a0, a1⟩, mkrd_eValue, ?_⟩
  simp only [eValue, StrOkL_cons, StrOkL_nil, StrOk_str, StrOk_int, StrOk_bool, StrOk_s, true_and, and_true]

theorem arg_eTag {H : Type} {enc : TypeId × Value → H} {w : World} {base : Nat} {spare : Nat → Bool} {held : Bool} {fuel : Nat} {cs : List Value} {x : DataW H × List MemPlace} (h : DataW.trod enc Try.prog w base spare held fuel 96 cs = some x) (hw : WOk Try.prog 96 x.1) : ∃ a : GTag, RdLW w (eTag a) cs ∧ StrOkL (eTag a) := by
  obtain ⟨hl, hf⟩ := arg_struct Try.underlying96 h hw
  rw [show Try.prog.cellsOf 96 = 3 from by kernel_rfl] at hl
  have hl0 := hl
  clear hl
  obtain ⟨c0, cs0, rfl, hl1⟩ := cons_of hl0
  obtain ⟨c1, cs1, rfl, hl2⟩ := cons_of hl1
  obtain ⟨c2, cs2, rfl, hl3⟩ := cons_of hl2
  obtain rfl := nil_of hl3
  clear hl0 hl1 hl2 hl3
  obtain ⟨n0, y0, t0, w0⟩ := hf 0 _ rfl
  replace t0 : DataW.trod enc Try.prog w base spare held n0 3 ((([c0, c1, c2] : List Value).drop 0).take (Try.prog.cellsOf 3)) = some y0 := t0
  rw [show Try.prog.cellsOf 3 = 1 from by kernel_rfl] at t0
  replace t0 : DataW.trod enc Try.prog w base spare held n0 3 [c0] = some y0 := t0
  obtain ⟨n1, y1, t1, w1⟩ := hf 1 _ rfl
  replace t1 : DataW.trod enc Try.prog w base spare held n1 3 ((([c0, c1, c2] : List Value).drop 1).take (Try.prog.cellsOf 3)) = some y1 := t1
  rw [show Try.prog.cellsOf 3 = 1 from by kernel_rfl] at t1
  replace t1 : DataW.trod enc Try.prog w base spare held n1 3 [c1] = some y1 := t1
  obtain ⟨n2, y2, t2, w2⟩ := hf 2 _ rfl
  replace t2 : DataW.trod enc Try.prog w base spare held n2 3 ((([c0, c1, c2] : List Value).drop 2).take (Try.prog.cellsOf 3)) = some y2 := t2
  rw [show Try.prog.cellsOf 3 = 1 from by kernel_rfl] at t2
  replace t2 : DataW.trod enc Try.prog w base spare held n2 3 [c2] = some y2 := t2
  obtain ⟨a0, e0⟩ := arg_int Try.underlying3 t0
  injection e0 with e0 _
  subst e0
  obtain ⟨a1, e1⟩ := arg_int Try.underlying3 t1
  injection e1 with e1 _
  subst e1
  obtain ⟨a2, e2⟩ := arg_int Try.underlying3 t2
  injection e2 with e2 _
  subst e2
  refine ⟨⟨a0, a1, a2⟩, mkrd_eTag, ?_⟩
  simp only [eTag, StrOkL_cons, StrOkL_nil, StrOk_str, StrOk_int, StrOk_bool, StrOk_s, true_and, and_true]

theorem arg_eAsker {H : Type} {enc : TypeId × Value → H} {w : World} {base : Nat} {spare : Nat → Bool} {held : Bool} {fuel : Nat} {cs : List Value} {x : DataW H × List MemPlace} (h : DataW.trod enc Try.prog w base spare held fuel 101 cs = some x) (hw : WOk Try.prog 101 x.1) : ∃ a : GAsker, RdLW w (eAsker a) cs ∧ StrOkL (eAsker a) := by
  obtain ⟨hl, hf⟩ := arg_struct Try.underlying101 h hw
  rw [show Try.prog.cellsOf 101 = 2 from by kernel_rfl] at hl
  have hl0 := hl
  clear hl
  obtain ⟨c0, cs0, rfl, hl1⟩ := cons_of hl0
  obtain ⟨c1, cs1, rfl, hl2⟩ := cons_of hl1
  obtain rfl := nil_of hl2
  clear hl0 hl1 hl2
  obtain ⟨n0, y0, t0, w0⟩ := hf 0 _ rfl
  replace t0 : DataW.trod enc Try.prog w base spare held n0 3 ((([c0, c1] : List Value).drop 0).take (Try.prog.cellsOf 3)) = some y0 := t0
  rw [show Try.prog.cellsOf 3 = 1 from by kernel_rfl] at t0
  replace t0 : DataW.trod enc Try.prog w base spare held n0 3 [c0] = some y0 := t0
  obtain ⟨n1, y1, t1, w1⟩ := hf 1 _ rfl
  replace t1 : DataW.trod enc Try.prog w base spare held n1 3 ((([c0, c1] : List Value).drop 1).take (Try.prog.cellsOf 3)) = some y1 := t1
  rw [show Try.prog.cellsOf 3 = 1 from by kernel_rfl] at t1
  replace t1 : DataW.trod enc Try.prog w base spare held n1 3 [c1] = some y1 := t1
  obtain ⟨a0, e0⟩ := arg_int Try.underlying3 t0
  injection e0 with e0 _
  subst e0
  obtain ⟨a1, e1⟩ := arg_int Try.underlying3 t1
  injection e1 with e1 _
  subst e1
  refine ⟨⟨a0, a1⟩, mkrd_eAsker, ?_⟩
  simp only [eAsker, StrOkL_cons, StrOkL_nil, StrOk_str, StrOk_int, StrOk_bool, StrOk_s, true_and, and_true]

theorem arg_eSent {H : Type} {enc : TypeId × Value → H} {w : World} {base : Nat} {spare : Nat → Bool} {held : Bool} {fuel : Nat} {cs : List Value} {x : DataW H × List MemPlace} (h : DataW.trod enc Try.prog w base spare held fuel 98 cs = some x) (hw : WOk Try.prog 98 x.1) : ∃ a : GSent, RdLW w (eSent a) cs ∧ StrOkL (eSent a) := by
  obtain ⟨hl, hf⟩ := arg_struct Try.underlying98 h hw
  rw [show Try.prog.cellsOf 98 = 7 from by kernel_rfl] at hl
  have hl0 := hl
  clear hl
  obtain ⟨c0, cs0, rfl, hl1⟩ := cons_of hl0
  obtain ⟨c1, cs1, rfl, hl2⟩ := cons_of hl1
  obtain ⟨c2, cs2, rfl, hl3⟩ := cons_of hl2
  obtain ⟨c3, cs3, rfl, hl4⟩ := cons_of hl3
  obtain ⟨c4, cs4, rfl, hl5⟩ := cons_of hl4
  obtain ⟨c5, cs5, rfl, hl6⟩ := cons_of hl5
  obtain ⟨c6, cs6, rfl, hl7⟩ := cons_of hl6
  obtain rfl := nil_of hl7
  clear hl0 hl1 hl2 hl3 hl4 hl5 hl6 hl7
  obtain ⟨n0, y0, t0, w0⟩ := hf 0 _ rfl
  replace t0 : DataW.trod enc Try.prog w base spare held n0 3 ((([c0, c1, c2, c3, c4, c5, c6] : List Value).drop 0).take (Try.prog.cellsOf 3)) = some y0 := t0
  rw [show Try.prog.cellsOf 3 = 1 from by kernel_rfl] at t0
  replace t0 : DataW.trod enc Try.prog w base spare held n0 3 [c0] = some y0 := t0
  obtain ⟨n1, y1, t1, w1⟩ := hf 1 _ rfl
  replace t1 : DataW.trod enc Try.prog w base spare held n1 9 ((([c0, c1, c2, c3, c4, c5, c6] : List Value).drop 1).take (Try.prog.cellsOf 9)) = some y1 := t1
  rw [show Try.prog.cellsOf 9 = 1 from by kernel_rfl] at t1
  replace t1 : DataW.trod enc Try.prog w base spare held n1 9 [c1] = some y1 := t1
  obtain ⟨n2, y2, t2, w2⟩ := hf 2 _ rfl
  replace t2 : DataW.trod enc Try.prog w base spare held n2 22 ((([c0, c1, c2, c3, c4, c5, c6] : List Value).drop 2).take (Try.prog.cellsOf 22)) = some y2 := t2
  rw [show Try.prog.cellsOf 22 = 1 from by kernel_rfl] at t2
  replace t2 : DataW.trod enc Try.prog w base spare held n2 22 [c2] = some y2 := t2
  obtain ⟨n3, y3, t3, w3⟩ := hf 3 _ rfl
  replace t3 : DataW.trod enc Try.prog w base spare held n3 3 ((([c0, c1, c2, c3, c4, c5, c6] : List Value).drop 3).take (Try.prog.cellsOf 3)) = some y3 := t3
  rw [show Try.prog.cellsOf 3 = 1 from by kernel_rfl] at t3
  replace t3 : DataW.trod enc Try.prog w base spare held n3 3 [c3] = some y3 := t3
  obtain ⟨n4, y4, t4, w4⟩ := hf 4 _ rfl
  replace t4 : DataW.trod enc Try.prog w base spare held n4 96 ((([c0, c1, c2, c3, c4, c5, c6] : List Value).drop 4).take (Try.prog.cellsOf 96)) = some y4 := t4
  rw [show Try.prog.cellsOf 96 = 3 from by kernel_rfl] at t4
  replace t4 : DataW.trod enc Try.prog w base spare held n4 96 [c4, c5, c6] = some y4 := t4
  obtain ⟨a0, e0⟩ := arg_int Try.underlying3 t0
  injection e0 with e0 _
  subst e0
  obtain ⟨a1, e1, s1⟩ := arg_str Try.underlying9 t1 w1
  injection e1 with e1 _
  subst e1
  obtain ⟨a2, v2, e2, r2, s2⟩ := arg_slice eValue Try.underlying22 (show Try.prog.cellsOf 24 = 2 from by kernel_rfl) (by omega) (by rw [show Try.prog.bytesOf 24 = 16 from by kernel_rfl]; omega) len_eValue (fun _ _ _ h hw => arg_eValue h hw) t2 w2
  injection e2 with e2 _
  subst e2
  obtain ⟨a3, e3⟩ := arg_int Try.underlying3 t3
  injection e3 with e3 _
  subst e3
  obtain ⟨a4, r4, s4⟩ := arg_eTag t4 w4
  have e4 := rd_eTag r4
  simp only [List.cons.injEq, and_true] at e4
  obtain ⟨rfl, rfl, rfl⟩ := e4
  refine ⟨⟨a0, a1, a2, a3, a4⟩, mkrd_eSent r2, ?_⟩
  try simp only [eTag, StrOkL_cons, StrOkL_nil, StrOk_str, StrOk_int, StrOk_bool, StrOk_s, true_and, and_true] at s4
  simp only [eSent, StrOkL_cons, StrOkL_nil, StrOk_str, StrOk_int, StrOk_bool, StrOk_s, true_and, and_true]
  simp_all

theorem arg_eEntity {H : Type} {enc : TypeId × Value → H} {w : World} {base : Nat} {spare : Nat → Bool} {held : Bool} {fuel : Nat} {cs : List Value} {x : DataW H × List MemPlace} (h : DataW.trod enc Try.prog w base spare held fuel 28 cs = some x) (hw : WOk Try.prog 28 x.1) : ∃ a : GEntity, RdLW w (eEntity a) cs ∧ StrOkL (eEntity a) := by
  obtain ⟨hl, hf⟩ := arg_struct Try.underlying28 h hw
  rw [show Try.prog.cellsOf 28 = 12 from by kernel_rfl] at hl
  have hl0 := hl
  clear hl
  obtain ⟨c0, cs0, rfl, hl1⟩ := cons_of hl0
  obtain ⟨c1, cs1, rfl, hl2⟩ := cons_of hl1
  obtain ⟨c2, cs2, rfl, hl3⟩ := cons_of hl2
  obtain ⟨c3, cs3, rfl, hl4⟩ := cons_of hl3
  obtain ⟨c4, cs4, rfl, hl5⟩ := cons_of hl4
  obtain ⟨c5, cs5, rfl, hl6⟩ := cons_of hl5
  obtain ⟨c6, cs6, rfl, hl7⟩ := cons_of hl6
  obtain ⟨c7, cs7, rfl, hl8⟩ := cons_of hl7
  obtain ⟨c8, cs8, rfl, hl9⟩ := cons_of hl8
  obtain ⟨c9, cs9, rfl, hl10⟩ := cons_of hl9
  obtain ⟨c10, cs10, rfl, hl11⟩ := cons_of hl10
  obtain ⟨c11, cs11, rfl, hl12⟩ := cons_of hl11
  obtain rfl := nil_of hl12
  clear hl0 hl1 hl2 hl3 hl4 hl5 hl6 hl7 hl8 hl9 hl10 hl11 hl12
  obtain ⟨n0, y0, t0, w0⟩ := hf 0 _ rfl
  replace t0 : DataW.trod enc Try.prog w base spare held n0 3 ((([c0, c1, c2, c3, c4, c5, c6, c7, c8, c9, c10, c11] : List Value).drop 0).take (Try.prog.cellsOf 3)) = some y0 := t0
  rw [show Try.prog.cellsOf 3 = 1 from by kernel_rfl] at t0
  replace t0 : DataW.trod enc Try.prog w base spare held n0 3 [c0] = some y0 := t0
  obtain ⟨n1, y1, t1, w1⟩ := hf 1 _ rfl
  replace t1 : DataW.trod enc Try.prog w base spare held n1 3 ((([c0, c1, c2, c3, c4, c5, c6, c7, c8, c9, c10, c11] : List Value).drop 1).take (Try.prog.cellsOf 3)) = some y1 := t1
  rw [show Try.prog.cellsOf 3 = 1 from by kernel_rfl] at t1
  replace t1 : DataW.trod enc Try.prog w base spare held n1 3 [c1] = some y1 := t1
  obtain ⟨n2, y2, t2, w2⟩ := hf 2 _ rfl
  replace t2 : DataW.trod enc Try.prog w base spare held n2 22 ((([c0, c1, c2, c3, c4, c5, c6, c7, c8, c9, c10, c11] : List Value).drop 2).take (Try.prog.cellsOf 22)) = some y2 := t2
  rw [show Try.prog.cellsOf 22 = 1 from by kernel_rfl] at t2
  replace t2 : DataW.trod enc Try.prog w base spare held n2 22 [c2] = some y2 := t2
  obtain ⟨n3, y3, t3, w3⟩ := hf 3 _ rfl
  replace t3 : DataW.trod enc Try.prog w base spare held n3 3 ((([c0, c1, c2, c3, c4, c5, c6, c7, c8, c9, c10, c11] : List Value).drop 3).take (Try.prog.cellsOf 3)) = some y3 := t3
  rw [show Try.prog.cellsOf 3 = 1 from by kernel_rfl] at t3
  replace t3 : DataW.trod enc Try.prog w base spare held n3 3 [c3] = some y3 := t3
  obtain ⟨n4, y4, t4, w4⟩ := hf 4 _ rfl
  replace t4 : DataW.trod enc Try.prog w base spare held n4 24 ((([c0, c1, c2, c3, c4, c5, c6, c7, c8, c9, c10, c11] : List Value).drop 4).take (Try.prog.cellsOf 24)) = some y4 := t4
  rw [show Try.prog.cellsOf 24 = 2 from by kernel_rfl] at t4
  replace t4 : DataW.trod enc Try.prog w base spare held n4 24 [c4, c5] = some y4 := t4
  obtain ⟨n5, y5, t5, w5⟩ := hf 5 _ rfl
  replace t5 : DataW.trod enc Try.prog w base spare held n5 25 ((([c0, c1, c2, c3, c4, c5, c6, c7, c8, c9, c10, c11] : List Value).drop 6).take (Try.prog.cellsOf 25)) = some y5 := t5
  rw [show Try.prog.cellsOf 25 = 1 from by kernel_rfl] at t5
  replace t5 : DataW.trod enc Try.prog w base spare held n5 25 [c6] = some y5 := t5
  obtain ⟨n6, y6, t6, w6⟩ := hf 6 _ rfl
  replace t6 : DataW.trod enc Try.prog w base spare held n6 26 ((([c0, c1, c2, c3, c4, c5, c6, c7, c8, c9, c10, c11] : List Value).drop 7).take (Try.prog.cellsOf 26)) = some y6 := t6
  rw [show Try.prog.cellsOf 26 = 1 from by kernel_rfl] at t6
  replace t6 : DataW.trod enc Try.prog w base spare held n6 26 [c7] = some y6 := t6
  obtain ⟨n7, y7, t7, w7⟩ := hf 7 _ rfl
  replace t7 : DataW.trod enc Try.prog w base spare held n7 3 ((([c0, c1, c2, c3, c4, c5, c6, c7, c8, c9, c10, c11] : List Value).drop 8).take (Try.prog.cellsOf 3)) = some y7 := t7
  rw [show Try.prog.cellsOf 3 = 1 from by kernel_rfl] at t7
  replace t7 : DataW.trod enc Try.prog w base spare held n7 3 [c8] = some y7 := t7
  obtain ⟨n8, y8, t8, w8⟩ := hf 8 _ rfl
  replace t8 : DataW.trod enc Try.prog w base spare held n8 3 ((([c0, c1, c2, c3, c4, c5, c6, c7, c8, c9, c10, c11] : List Value).drop 9).take (Try.prog.cellsOf 3)) = some y8 := t8
  rw [show Try.prog.cellsOf 3 = 1 from by kernel_rfl] at t8
  replace t8 : DataW.trod enc Try.prog w base spare held n8 3 [c9] = some y8 := t8
  obtain ⟨n9, y9, t9, w9⟩ := hf 9 _ rfl
  replace t9 : DataW.trod enc Try.prog w base spare held n9 3 ((([c0, c1, c2, c3, c4, c5, c6, c7, c8, c9, c10, c11] : List Value).drop 10).take (Try.prog.cellsOf 3)) = some y9 := t9
  rw [show Try.prog.cellsOf 3 = 1 from by kernel_rfl] at t9
  replace t9 : DataW.trod enc Try.prog w base spare held n9 3 [c10] = some y9 := t9
  obtain ⟨n10, y10, t10, w10⟩ := hf 10 _ rfl
  replace t10 : DataW.trod enc Try.prog w base spare held n10 3 ((([c0, c1, c2, c3, c4, c5, c6, c7, c8, c9, c10, c11] : List Value).drop 11).take (Try.prog.cellsOf 3)) = some y10 := t10
  rw [show Try.prog.cellsOf 3 = 1 from by kernel_rfl] at t10
  replace t10 : DataW.trod enc Try.prog w base spare held n10 3 [c11] = some y10 := t10
  obtain ⟨a0, e0⟩ := arg_int Try.underlying3 t0
  injection e0 with e0 _
  subst e0
  obtain ⟨a1, e1⟩ := arg_int Try.underlying3 t1
  injection e1 with e1 _
  subst e1
  obtain ⟨a2, v2, e2, r2, s2⟩ := arg_slice eValue Try.underlying22 (show Try.prog.cellsOf 24 = 2 from by kernel_rfl) (by omega) (by rw [show Try.prog.bytesOf 24 = 16 from by kernel_rfl]; omega) len_eValue (fun _ _ _ h hw => arg_eValue h hw) t2 w2
  injection e2 with e2 _
  subst e2
  obtain ⟨a3, e3⟩ := arg_int Try.underlying3 t3
  injection e3 with e3 _
  subst e3
  obtain ⟨a4, r4, s4⟩ := arg_eValue t4 w4
  have e4 := rd_eValue r4
  simp only [List.cons.injEq, and_true] at e4
  obtain ⟨rfl, rfl⟩ := e4
  obtain ⟨a5, v5, e5, r5, s5⟩ := arg_slice eSent Try.underlying25 (show Try.prog.cellsOf 98 = 7 from by kernel_rfl) (by omega) (by rw [show Try.prog.bytesOf 98 = 80 from by kernel_rfl]; omega) len_eSent (fun _ _ _ h hw => arg_eSent h hw) t5 w5
  injection e5 with e5 _
  subst e5
  obtain ⟨a6, v6, e6, r6, s6⟩ := arg_slice eAsker Try.underlying26 (show Try.prog.cellsOf 101 = 2 from by kernel_rfl) (by omega) (by rw [show Try.prog.bytesOf 101 = 16 from by kernel_rfl]; omega) len_eAsker (fun _ _ _ h hw => arg_eAsker h hw) t6 w6
  injection e6 with e6 _
  subst e6
  obtain ⟨a7, e7⟩ := arg_int Try.underlying3 t7
  injection e7 with e7 _
  subst e7
  obtain ⟨a8, e8⟩ := arg_int Try.underlying3 t8
  injection e8 with e8 _
  subst e8
  obtain ⟨a9, e9⟩ := arg_int Try.underlying3 t9
  injection e9 with e9 _
  subst e9
  obtain ⟨a10, e10⟩ := arg_int Try.underlying3 t10
  injection e10 with e10 _
  subst e10
  refine ⟨⟨a0, a1, a2, a3, a4, a5, a6, a7, a8, a9, a10⟩, mkrd_eEntity r2 r5 r6, ?_⟩
  try simp only [eValue, StrOkL_cons, StrOkL_nil, StrOk_str, StrOk_int, StrOk_bool, StrOk_s, true_and, and_true] at s4
  simp only [eEntity, StrOkL_cons, StrOkL_nil, StrOk_str, StrOk_int, StrOk_bool, StrOk_s, true_and, and_true]
  simp_all

end Go.Proofs.Ytaalbbhebmpppaa
