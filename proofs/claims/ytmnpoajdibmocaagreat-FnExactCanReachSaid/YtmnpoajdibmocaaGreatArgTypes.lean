import Derived.Test.YtmnpoajdibmocaaGreatProg
import Derived.Test.YtmnpoajdibmocaaGreatTypes
import Derived.StillTailTactics
import Derived.Deep.RegionHeld3
import Derived.Laws.IdiomStrings
import Derived.Test.YtmnpoajdibmocaaGreatAppend
import Derived.Laws.StructEq
import Derived.Lib.SliceRun
import Derived.Shelf.RegionOpenPlain
import Derived.Test.YtmnpoajdibmocaaGreatArgs
namespace Go.Proofs.YtmnpoajdibmocaaGreat
open Go.RowKit Go.ChangeShapes Go.WideShapes Go.ChangeAt Go.Deep
set_option linter.unusedVariables false
set_option linter.unusedSimpArgs false

theorem arg_eValue {H : Type} {enc : TypeId × Value → H} {w : World} {base : Nat} {spare : Nat → Bool} {held : Bool} {fuel : Nat} {cs : List Value} {x : DataW H × List MemPlace} (h : DataW.trod enc Tryz.prog w base spare held fuel 80 cs = some x) (hw : WOk Tryz.prog 80 x.1) : ∃ a : GValue, RdLW w (eValue a) cs ∧ StrOkL (eValue a) := by
  obtain ⟨hl, hf⟩ := arg_struct Tryz.underlying80 h hw
  rw [show Tryz.prog.cellsOf 80 = 2 from by kernel_rfl] at hl
  have hl0 := hl
  clear hl
  obtain ⟨c0, cs0, rfl, hl1⟩ := cons_of hl0
  obtain ⟨c1, cs1, rfl, hl2⟩ := cons_of hl1
  obtain rfl := nil_of hl2
  clear hl0 hl1 hl2
  obtain ⟨n0, y0, t0, w0⟩ := hf 0 _ rfl
  replace t0 : DataW.trod enc Tryz.prog w base spare held n0 3 ((([c0, c1] : List Value).drop 0).take (Tryz.prog.cellsOf 3)) = some y0 := t0
  rw [show Tryz.prog.cellsOf 3 = 1 from by kernel_rfl] at t0
  replace t0 : DataW.trod enc Tryz.prog w base spare held n0 3 [c0] = some y0 := t0
  obtain ⟨n1, y1, t1, w1⟩ := hf 1 _ rfl
  replace t1 : DataW.trod enc Tryz.prog w base spare held n1 3 ((([c0, c1] : List Value).drop 1).take (Tryz.prog.cellsOf 3)) = some y1 := t1
  rw [show Tryz.prog.cellsOf 3 = 1 from by kernel_rfl] at t1
  replace t1 : DataW.trod enc Tryz.prog w base spare held n1 3 [c1] = some y1 := t1
  obtain ⟨a0, e0⟩ := arg_int Tryz.underlying3 t0
  injection e0 with e0 _
  subst e0
  obtain ⟨a1, e1⟩ := arg_int Tryz.underlying3 t1
  injection e1 with e1 _
  subst e1
  refine ⟨⟨a0, a1⟩, mkrd_eValue, ?_⟩
  simp only [eValue, StrOkL_cons, StrOkL_nil, StrOk_str, StrOk_int, StrOk_bool, StrOk_s, true_and, and_true]

theorem arg_eWire {H : Type} {enc : TypeId × Value → H} {w : World} {base : Nat} {spare : Nat → Bool} {held : Bool} {fuel : Nat} {cs : List Value} {x : DataW H × List MemPlace} (h : DataW.trod enc Tryz.prog w base spare held fuel 96 cs = some x) (hw : WOk Tryz.prog 96 x.1) : ∃ a : GWire, RdLW w (eWire a) cs ∧ StrOkL (eWire a) := by
  obtain ⟨hl, hf⟩ := arg_struct Tryz.underlying96 h hw
  rw [show Tryz.prog.cellsOf 96 = 2 from by kernel_rfl] at hl
  have hl0 := hl
  clear hl
  obtain ⟨c0, cs0, rfl, hl1⟩ := cons_of hl0
  obtain ⟨c1, cs1, rfl, hl2⟩ := cons_of hl1
  obtain rfl := nil_of hl2
  clear hl0 hl1 hl2
  obtain ⟨n0, y0, t0, w0⟩ := hf 0 _ rfl
  replace t0 : DataW.trod enc Tryz.prog w base spare held n0 3 ((([c0, c1] : List Value).drop 0).take (Tryz.prog.cellsOf 3)) = some y0 := t0
  rw [show Tryz.prog.cellsOf 3 = 1 from by kernel_rfl] at t0
  replace t0 : DataW.trod enc Tryz.prog w base spare held n0 3 [c0] = some y0 := t0
  obtain ⟨n1, y1, t1, w1⟩ := hf 1 _ rfl
  replace t1 : DataW.trod enc Tryz.prog w base spare held n1 3 ((([c0, c1] : List Value).drop 1).take (Tryz.prog.cellsOf 3)) = some y1 := t1
  rw [show Tryz.prog.cellsOf 3 = 1 from by kernel_rfl] at t1
  replace t1 : DataW.trod enc Tryz.prog w base spare held n1 3 [c1] = some y1 := t1
  obtain ⟨a0, e0⟩ := arg_int Tryz.underlying3 t0
  injection e0 with e0 _
  subst e0
  obtain ⟨a1, e1⟩ := arg_int Tryz.underlying3 t1
  injection e1 with e1 _
  subst e1
  refine ⟨⟨a0, a1⟩, mkrd_eWire, ?_⟩
  simp only [eWire, StrOkL_cons, StrOkL_nil, StrOk_str, StrOk_int, StrOk_bool, StrOk_s, true_and, and_true]

theorem arg_eTag {H : Type} {enc : TypeId × Value → H} {w : World} {base : Nat} {spare : Nat → Bool} {held : Bool} {fuel : Nat} {cs : List Value} {x : DataW H × List MemPlace} (h : DataW.trod enc Tryz.prog w base spare held fuel 86 cs = some x) (hw : WOk Tryz.prog 86 x.1) : ∃ a : GTag, RdLW w (eTag a) cs ∧ StrOkL (eTag a) := by
  obtain ⟨hl, hf⟩ := arg_struct Tryz.underlying86 h hw
  rw [show Tryz.prog.cellsOf 86 = 3 from by kernel_rfl] at hl
  have hl0 := hl
  clear hl
  obtain ⟨c0, cs0, rfl, hl1⟩ := cons_of hl0
  obtain ⟨c1, cs1, rfl, hl2⟩ := cons_of hl1
  obtain ⟨c2, cs2, rfl, hl3⟩ := cons_of hl2
  obtain rfl := nil_of hl3
  clear hl0 hl1 hl2 hl3
  obtain ⟨n0, y0, t0, w0⟩ := hf 0 _ rfl
  replace t0 : DataW.trod enc Tryz.prog w base spare held n0 3 ((([c0, c1, c2] : List Value).drop 0).take (Tryz.prog.cellsOf 3)) = some y0 := t0
  rw [show Tryz.prog.cellsOf 3 = 1 from by kernel_rfl] at t0
  replace t0 : DataW.trod enc Tryz.prog w base spare held n0 3 [c0] = some y0 := t0
  obtain ⟨n1, y1, t1, w1⟩ := hf 1 _ rfl
  replace t1 : DataW.trod enc Tryz.prog w base spare held n1 3 ((([c0, c1, c2] : List Value).drop 1).take (Tryz.prog.cellsOf 3)) = some y1 := t1
  rw [show Tryz.prog.cellsOf 3 = 1 from by kernel_rfl] at t1
  replace t1 : DataW.trod enc Tryz.prog w base spare held n1 3 [c1] = some y1 := t1
  obtain ⟨n2, y2, t2, w2⟩ := hf 2 _ rfl
  replace t2 : DataW.trod enc Tryz.prog w base spare held n2 3 ((([c0, c1, c2] : List Value).drop 2).take (Tryz.prog.cellsOf 3)) = some y2 := t2
  rw [show Tryz.prog.cellsOf 3 = 1 from by kernel_rfl] at t2
  replace t2 : DataW.trod enc Tryz.prog w base spare held n2 3 [c2] = some y2 := t2
  obtain ⟨a0, e0⟩ := arg_int Tryz.underlying3 t0
  injection e0 with e0 _
  subst e0
  obtain ⟨a1, e1⟩ := arg_int Tryz.underlying3 t1
  injection e1 with e1 _
  subst e1
  obtain ⟨a2, e2⟩ := arg_int Tryz.underlying3 t2
  injection e2 with e2 _
  subst e2
  refine ⟨⟨a0, a1, a2⟩, mkrd_eTag, ?_⟩
  simp only [eTag, StrOkL_cons, StrOkL_nil, StrOk_str, StrOk_int, StrOk_bool, StrOk_s, true_and, and_true]

theorem arg_eAsker {H : Type} {enc : TypeId × Value → H} {w : World} {base : Nat} {spare : Nat → Bool} {held : Bool} {fuel : Nat} {cs : List Value} {x : DataW H × List MemPlace} (h : DataW.trod enc Tryz.prog w base spare held fuel 173 cs = some x) (hw : WOk Tryz.prog 173 x.1) : ∃ a : GAsker, RdLW w (eAsker a) cs ∧ StrOkL (eAsker a) := by
  obtain ⟨hl, hf⟩ := arg_struct Tryz.underlying173 h hw
  rw [show Tryz.prog.cellsOf 173 = 2 from by kernel_rfl] at hl
  have hl0 := hl
  clear hl
  obtain ⟨c0, cs0, rfl, hl1⟩ := cons_of hl0
  obtain ⟨c1, cs1, rfl, hl2⟩ := cons_of hl1
  obtain rfl := nil_of hl2
  clear hl0 hl1 hl2
  obtain ⟨n0, y0, t0, w0⟩ := hf 0 _ rfl
  replace t0 : DataW.trod enc Tryz.prog w base spare held n0 3 ((([c0, c1] : List Value).drop 0).take (Tryz.prog.cellsOf 3)) = some y0 := t0
  rw [show Tryz.prog.cellsOf 3 = 1 from by kernel_rfl] at t0
  replace t0 : DataW.trod enc Tryz.prog w base spare held n0 3 [c0] = some y0 := t0
  obtain ⟨n1, y1, t1, w1⟩ := hf 1 _ rfl
  replace t1 : DataW.trod enc Tryz.prog w base spare held n1 3 ((([c0, c1] : List Value).drop 1).take (Tryz.prog.cellsOf 3)) = some y1 := t1
  rw [show Tryz.prog.cellsOf 3 = 1 from by kernel_rfl] at t1
  replace t1 : DataW.trod enc Tryz.prog w base spare held n1 3 [c1] = some y1 := t1
  obtain ⟨a0, e0⟩ := arg_int Tryz.underlying3 t0
  injection e0 with e0 _
  subst e0
  obtain ⟨a1, e1⟩ := arg_int Tryz.underlying3 t1
  injection e1 with e1 _
  subst e1
  refine ⟨⟨a0, a1⟩, mkrd_eAsker, ?_⟩
  simp only [eAsker, StrOkL_cons, StrOkL_nil, StrOk_str, StrOk_int, StrOk_bool, StrOk_s, true_and, and_true]

theorem arg_eExport {H : Type} {enc : TypeId × Value → H} {w : World} {base : Nat} {spare : Nat → Bool} {held : Bool} {fuel : Nat} {cs : List Value} {x : DataW H × List MemPlace} (h : DataW.trod enc Tryz.prog w base spare held fuel 175 cs = some x) (hw : WOk Tryz.prog 175 x.1) : ∃ a : GExport, RdLW w (eExport a) cs ∧ StrOkL (eExport a) := by
  obtain ⟨hl, hf⟩ := arg_struct Tryz.underlying175 h hw
  rw [show Tryz.prog.cellsOf 175 = 3 from by kernel_rfl] at hl
  have hl0 := hl
  clear hl
  obtain ⟨c0, cs0, rfl, hl1⟩ := cons_of hl0
  obtain ⟨c1, cs1, rfl, hl2⟩ := cons_of hl1
  obtain ⟨c2, cs2, rfl, hl3⟩ := cons_of hl2
  obtain rfl := nil_of hl3
  clear hl0 hl1 hl2 hl3
  obtain ⟨n0, y0, t0, w0⟩ := hf 0 _ rfl
  replace t0 : DataW.trod enc Tryz.prog w base spare held n0 3 ((([c0, c1, c2] : List Value).drop 0).take (Tryz.prog.cellsOf 3)) = some y0 := t0
  rw [show Tryz.prog.cellsOf 3 = 1 from by kernel_rfl] at t0
  replace t0 : DataW.trod enc Tryz.prog w base spare held n0 3 [c0] = some y0 := t0
  obtain ⟨n1, y1, t1, w1⟩ := hf 1 _ rfl
  replace t1 : DataW.trod enc Tryz.prog w base spare held n1 3 ((([c0, c1, c2] : List Value).drop 1).take (Tryz.prog.cellsOf 3)) = some y1 := t1
  rw [show Tryz.prog.cellsOf 3 = 1 from by kernel_rfl] at t1
  replace t1 : DataW.trod enc Tryz.prog w base spare held n1 3 [c1] = some y1 := t1
  obtain ⟨n2, y2, t2, w2⟩ := hf 2 _ rfl
  replace t2 : DataW.trod enc Tryz.prog w base spare held n2 3 ((([c0, c1, c2] : List Value).drop 2).take (Tryz.prog.cellsOf 3)) = some y2 := t2
  rw [show Tryz.prog.cellsOf 3 = 1 from by kernel_rfl] at t2
  replace t2 : DataW.trod enc Tryz.prog w base spare held n2 3 [c2] = some y2 := t2
  obtain ⟨a0, e0⟩ := arg_int Tryz.underlying3 t0
  injection e0 with e0 _
  subst e0
  obtain ⟨a1, e1⟩ := arg_int Tryz.underlying3 t1
  injection e1 with e1 _
  subst e1
  obtain ⟨a2, e2⟩ := arg_int Tryz.underlying3 t2
  injection e2 with e2 _
  subst e2
  refine ⟨⟨a0, a1, a2⟩, mkrd_eExport, ?_⟩
  simp only [eExport, StrOkL_cons, StrOkL_nil, StrOk_str, StrOk_int, StrOk_bool, StrOk_s, true_and, and_true]

theorem arg_eQuestion {H : Type} {enc : TypeId × Value → H} {w : World} {base : Nat} {spare : Nat → Bool} {held : Bool} {fuel : Nat} {cs : List Value} {x : DataW H × List MemPlace} (h : DataW.trod enc Tryz.prog w base spare held fuel 177 cs = some x) (hw : WOk Tryz.prog 177 x.1) : ∃ a : GQuestion, RdLW w (eQuestion a) cs ∧ StrOkL (eQuestion a) := by
  obtain ⟨hl, hf⟩ := arg_struct Tryz.underlying177 h hw
  rw [show Tryz.prog.cellsOf 177 = 2 from by kernel_rfl] at hl
  have hl0 := hl
  clear hl
  obtain ⟨c0, cs0, rfl, hl1⟩ := cons_of hl0
  obtain ⟨c1, cs1, rfl, hl2⟩ := cons_of hl1
  obtain rfl := nil_of hl2
  clear hl0 hl1 hl2
  obtain ⟨n0, y0, t0, w0⟩ := hf 0 _ rfl
  replace t0 : DataW.trod enc Tryz.prog w base spare held n0 3 ((([c0, c1] : List Value).drop 0).take (Tryz.prog.cellsOf 3)) = some y0 := t0
  rw [show Tryz.prog.cellsOf 3 = 1 from by kernel_rfl] at t0
  replace t0 : DataW.trod enc Tryz.prog w base spare held n0 3 [c0] = some y0 := t0
  obtain ⟨n1, y1, t1, w1⟩ := hf 1 _ rfl
  replace t1 : DataW.trod enc Tryz.prog w base spare held n1 3 ((([c0, c1] : List Value).drop 1).take (Tryz.prog.cellsOf 3)) = some y1 := t1
  rw [show Tryz.prog.cellsOf 3 = 1 from by kernel_rfl] at t1
  replace t1 : DataW.trod enc Tryz.prog w base spare held n1 3 [c1] = some y1 := t1
  obtain ⟨a0, e0⟩ := arg_int Tryz.underlying3 t0
  injection e0 with e0 _
  subst e0
  obtain ⟨a1, e1⟩ := arg_int Tryz.underlying3 t1
  injection e1 with e1 _
  subst e1
  refine ⟨⟨a0, a1⟩, mkrd_eQuestion, ?_⟩
  simp only [eQuestion, StrOkL_cons, StrOkL_nil, StrOk_str, StrOk_int, StrOk_bool, StrOk_s, true_and, and_true]

theorem arg_eSent {H : Type} {enc : TypeId × Value → H} {w : World} {base : Nat} {spare : Nat → Bool} {held : Bool} {fuel : Nat} {cs : List Value} {x : DataW H × List MemPlace} (h : DataW.trod enc Tryz.prog w base spare held fuel 88 cs = some x) (hw : WOk Tryz.prog 88 x.1) : ∃ a : GSent, RdLW w (eSent a) cs ∧ StrOkL (eSent a) := by
  obtain ⟨hl, hf⟩ := arg_struct Tryz.underlying88 h hw
  rw [show Tryz.prog.cellsOf 88 = 7 from by kernel_rfl] at hl
  have hl0 := hl
  clear hl
  obtain ⟨c0, cs0, rfl, hl1⟩ := cons_of hl0
  obtain ⟨c1, cs1, rfl, hl2⟩ := cons_of hl1
  obtain ⟨c2, cs2, rfl, hl3⟩ := cons_of hl2
  obtain ⟨c3, cs3, rfl, hl4⟩ := cons_of hl3
  obtain ⟨c4, cs4, rfl, hl5⟩ := cons_of hl4
  obtain ⟨c5, cs5, rfl, hl6⟩ := cons_of hl5
  obtain ⟨c6, cs6, rfl, hl7⟩ := cons_of hl6
  obtain rfl := nil_of hl7
  clear hl0 hl1 hl2 hl3 hl4 hl5 hl6 hl7
  obtain ⟨n0, y0, t0, w0⟩ := hf 0 _ rfl
  replace t0 : DataW.trod enc Tryz.prog w base spare held n0 3 ((([c0, c1, c2, c3, c4, c5, c6] : List Value).drop 0).take (Tryz.prog.cellsOf 3)) = some y0 := t0
  rw [show Tryz.prog.cellsOf 3 = 1 from by kernel_rfl] at t0
  replace t0 : DataW.trod enc Tryz.prog w base spare held n0 3 [c0] = some y0 := t0
  obtain ⟨n1, y1, t1, w1⟩ := hf 1 _ rfl
  replace t1 : DataW.trod enc Tryz.prog w base spare held n1 9 ((([c0, c1, c2, c3, c4, c5, c6] : List Value).drop 1).take (Tryz.prog.cellsOf 9)) = some y1 := t1
  rw [show Tryz.prog.cellsOf 9 = 1 from by kernel_rfl] at t1
  replace t1 : DataW.trod enc Tryz.prog w base spare held n1 9 [c1] = some y1 := t1
  obtain ⟨n2, y2, t2, w2⟩ := hf 2 _ rfl
  replace t2 : DataW.trod enc Tryz.prog w base spare held n2 79 ((([c0, c1, c2, c3, c4, c5, c6] : List Value).drop 2).take (Tryz.prog.cellsOf 79)) = some y2 := t2
  rw [show Tryz.prog.cellsOf 79 = 1 from by kernel_rfl] at t2
  replace t2 : DataW.trod enc Tryz.prog w base spare held n2 79 [c2] = some y2 := t2
  obtain ⟨n3, y3, t3, w3⟩ := hf 3 _ rfl
  replace t3 : DataW.trod enc Tryz.prog w base spare held n3 3 ((([c0, c1, c2, c3, c4, c5, c6] : List Value).drop 3).take (Tryz.prog.cellsOf 3)) = some y3 := t3
  rw [show Tryz.prog.cellsOf 3 = 1 from by kernel_rfl] at t3
  replace t3 : DataW.trod enc Tryz.prog w base spare held n3 3 [c3] = some y3 := t3
  obtain ⟨n4, y4, t4, w4⟩ := hf 4 _ rfl
  replace t4 : DataW.trod enc Tryz.prog w base spare held n4 86 ((([c0, c1, c2, c3, c4, c5, c6] : List Value).drop 4).take (Tryz.prog.cellsOf 86)) = some y4 := t4
  rw [show Tryz.prog.cellsOf 86 = 3 from by kernel_rfl] at t4
  replace t4 : DataW.trod enc Tryz.prog w base spare held n4 86 [c4, c5, c6] = some y4 := t4
  obtain ⟨a0, e0⟩ := arg_int Tryz.underlying3 t0
  injection e0 with e0 _
  subst e0
  obtain ⟨a1, e1, s1⟩ := arg_str Tryz.underlying9 t1 w1
  injection e1 with e1 _
  subst e1
  obtain ⟨a2, v2, e2, r2, s2⟩ := arg_slice eValue Tryz.underlying79 (show Tryz.prog.cellsOf 80 = 2 from by kernel_rfl) (by omega) (by rw [show Tryz.prog.bytesOf 80 = 16 from by kernel_rfl]; omega) len_eValue (fun _ _ _ h hw => arg_eValue h hw) t2 w2
  injection e2 with e2 _
  subst e2
  obtain ⟨a3, e3⟩ := arg_int Tryz.underlying3 t3
  injection e3 with e3 _
  subst e3
  obtain ⟨a4, r4, s4⟩ := arg_eTag t4 w4
  have e4 := rd_eTag r4
  simp only [List.cons.injEq, and_true] at e4
  obtain ⟨rfl, rfl, rfl⟩ := e4
  refine ⟨⟨a0, a1, a2, a3, a4⟩, mkrd_eSent r2, ?_⟩
  try simp only [eTag, StrOkL_cons, StrOkL_nil, StrOk_str, StrOk_int, StrOk_bool, StrOk_s, true_and, and_true] at s4
  simp only [eSent, StrOkL_cons, StrOkL_nil, StrOk_str, StrOk_int, StrOk_bool, StrOk_s, true_and, and_true]
  simp_all

theorem arg_eEntity {H : Type} {enc : TypeId × Value → H} {w : World} {base : Nat} {spare : Nat → Bool} {held : Bool} {fuel : Nat} {cs : List Value} {x : DataW H × List MemPlace} (h : DataW.trod enc Tryz.prog w base spare held fuel 83 cs = some x) (hw : WOk Tryz.prog 83 x.1) : ∃ a : GEntity, RdLW w (eEntity a) cs ∧ StrOkL (eEntity a) := by
  obtain ⟨hl, hf⟩ := arg_struct Tryz.underlying83 h hw
  rw [show Tryz.prog.cellsOf 83 = 12 from by kernel_rfl] at hl
  have hl0 := hl
  clear hl
  obtain ⟨c0, cs0, rfl, hl1⟩ := cons_of hl0
  obtain ⟨c1, cs1, rfl, hl2⟩ := cons_of hl1
  obtain ⟨c2, cs2, rfl, hl3⟩ := cons_of hl2
  obtain ⟨c3, cs3, rfl, hl4⟩ := cons_of hl3
  obtain ⟨c4, cs4, rfl, hl5⟩ := cons_of hl4
  obtain ⟨c5, cs5, rfl, hl6⟩ := cons_of hl5
  obtain ⟨c6, cs6, rfl, hl7⟩ := cons_of hl6
  obtain ⟨c7, cs7, rfl, hl8⟩ := cons_of hl7
  obtain ⟨c8, cs8, rfl, hl9⟩ := cons_of hl8
  obtain ⟨c9, cs9, rfl, hl10⟩ := cons_of hl9
  obtain ⟨c10, cs10, rfl, hl11⟩ := cons_of hl10
  obtain ⟨c11, cs11, rfl, hl12⟩ := cons_of hl11
  obtain rfl := nil_of hl12
  clear hl0 hl1 hl2 hl3 hl4 hl5 hl6 hl7 hl8 hl9 hl10 hl11 hl12
  obtain ⟨n0, y0, t0, w0⟩ := hf 0 _ rfl
  replace t0 : DataW.trod enc Tryz.prog w base spare held n0 3 ((([c0, c1, c2, c3, c4, c5, c6, c7, c8, c9, c10, c11] : List Value).drop 0).take (Tryz.prog.cellsOf 3)) = some y0 := t0
  rw [show Tryz.prog.cellsOf 3 = 1 from by kernel_rfl] at t0
  replace t0 : DataW.trod enc Tryz.prog w base spare held n0 3 [c0] = some y0 := t0
  obtain ⟨n1, y1, t1, w1⟩ := hf 1 _ rfl
  replace t1 : DataW.trod enc Tryz.prog w base spare held n1 3 ((([c0, c1, c2, c3, c4, c5, c6, c7, c8, c9, c10, c11] : List Value).drop 1).take (Tryz.prog.cellsOf 3)) = some y1 := t1
  rw [show Tryz.prog.cellsOf 3 = 1 from by kernel_rfl] at t1
  replace t1 : DataW.trod enc Tryz.prog w base spare held n1 3 [c1] = some y1 := t1
  obtain ⟨n2, y2, t2, w2⟩ := hf 2 _ rfl
  replace t2 : DataW.trod enc Tryz.prog w base spare held n2 79 ((([c0, c1, c2, c3, c4, c5, c6, c7, c8, c9, c10, c11] : List Value).drop 2).take (Tryz.prog.cellsOf 79)) = some y2 := t2
  rw [show Tryz.prog.cellsOf 79 = 1 from by kernel_rfl] at t2
  replace t2 : DataW.trod enc Tryz.prog w base spare held n2 79 [c2] = some y2 := t2
  obtain ⟨n3, y3, t3, w3⟩ := hf 3 _ rfl
  replace t3 : DataW.trod enc Tryz.prog w base spare held n3 3 ((([c0, c1, c2, c3, c4, c5, c6, c7, c8, c9, c10, c11] : List Value).drop 3).take (Tryz.prog.cellsOf 3)) = some y3 := t3
  rw [show Tryz.prog.cellsOf 3 = 1 from by kernel_rfl] at t3
  replace t3 : DataW.trod enc Tryz.prog w base spare held n3 3 [c3] = some y3 := t3
  obtain ⟨n4, y4, t4, w4⟩ := hf 4 _ rfl
  replace t4 : DataW.trod enc Tryz.prog w base spare held n4 80 ((([c0, c1, c2, c3, c4, c5, c6, c7, c8, c9, c10, c11] : List Value).drop 4).take (Tryz.prog.cellsOf 80)) = some y4 := t4
  rw [show Tryz.prog.cellsOf 80 = 2 from by kernel_rfl] at t4
  replace t4 : DataW.trod enc Tryz.prog w base spare held n4 80 [c4, c5] = some y4 := t4
  obtain ⟨n5, y5, t5, w5⟩ := hf 5 _ rfl
  replace t5 : DataW.trod enc Tryz.prog w base spare held n5 23 ((([c0, c1, c2, c3, c4, c5, c6, c7, c8, c9, c10, c11] : List Value).drop 6).take (Tryz.prog.cellsOf 23)) = some y5 := t5
  rw [show Tryz.prog.cellsOf 23 = 1 from by kernel_rfl] at t5
  replace t5 : DataW.trod enc Tryz.prog w base spare held n5 23 [c6] = some y5 := t5
  obtain ⟨n6, y6, t6, w6⟩ := hf 6 _ rfl
  replace t6 : DataW.trod enc Tryz.prog w base spare held n6 81 ((([c0, c1, c2, c3, c4, c5, c6, c7, c8, c9, c10, c11] : List Value).drop 7).take (Tryz.prog.cellsOf 81)) = some y6 := t6
  rw [show Tryz.prog.cellsOf 81 = 1 from by kernel_rfl] at t6
  replace t6 : DataW.trod enc Tryz.prog w base spare held n6 81 [c7] = some y6 := t6
  obtain ⟨n7, y7, t7, w7⟩ := hf 7 _ rfl
  replace t7 : DataW.trod enc Tryz.prog w base spare held n7 3 ((([c0, c1, c2, c3, c4, c5, c6, c7, c8, c9, c10, c11] : List Value).drop 8).take (Tryz.prog.cellsOf 3)) = some y7 := t7
  rw [show Tryz.prog.cellsOf 3 = 1 from by kernel_rfl] at t7
  replace t7 : DataW.trod enc Tryz.prog w base spare held n7 3 [c8] = some y7 := t7
  obtain ⟨n8, y8, t8, w8⟩ := hf 8 _ rfl
  replace t8 : DataW.trod enc Tryz.prog w base spare held n8 3 ((([c0, c1, c2, c3, c4, c5, c6, c7, c8, c9, c10, c11] : List Value).drop 9).take (Tryz.prog.cellsOf 3)) = some y8 := t8
  rw [show Tryz.prog.cellsOf 3 = 1 from by kernel_rfl] at t8
  replace t8 : DataW.trod enc Tryz.prog w base spare held n8 3 [c9] = some y8 := t8
  obtain ⟨n9, y9, t9, w9⟩ := hf 9 _ rfl
  replace t9 : DataW.trod enc Tryz.prog w base spare held n9 3 ((([c0, c1, c2, c3, c4, c5, c6, c7, c8, c9, c10, c11] : List Value).drop 10).take (Tryz.prog.cellsOf 3)) = some y9 := t9
  rw [show Tryz.prog.cellsOf 3 = 1 from by kernel_rfl] at t9
  replace t9 : DataW.trod enc Tryz.prog w base spare held n9 3 [c10] = some y9 := t9
  obtain ⟨n10, y10, t10, w10⟩ := hf 10 _ rfl
  replace t10 : DataW.trod enc Tryz.prog w base spare held n10 3 ((([c0, c1, c2, c3, c4, c5, c6, c7, c8, c9, c10, c11] : List Value).drop 11).take (Tryz.prog.cellsOf 3)) = some y10 := t10
  rw [show Tryz.prog.cellsOf 3 = 1 from by kernel_rfl] at t10
  replace t10 : DataW.trod enc Tryz.prog w base spare held n10 3 [c11] = some y10 := t10
  obtain ⟨a0, e0⟩ := arg_int Tryz.underlying3 t0
  injection e0 with e0 _
  subst e0
  obtain ⟨a1, e1⟩ := arg_int Tryz.underlying3 t1
  injection e1 with e1 _
  subst e1
  obtain ⟨a2, v2, e2, r2, s2⟩ := arg_slice eValue Tryz.underlying79 (show Tryz.prog.cellsOf 80 = 2 from by kernel_rfl) (by omega) (by rw [show Tryz.prog.bytesOf 80 = 16 from by kernel_rfl]; omega) len_eValue (fun _ _ _ h hw => arg_eValue h hw) t2 w2
  injection e2 with e2 _
  subst e2
  obtain ⟨a3, e3⟩ := arg_int Tryz.underlying3 t3
  injection e3 with e3 _
  subst e3
  obtain ⟨a4, r4, s4⟩ := arg_eValue t4 w4
  have e4 := rd_eValue r4
  simp only [List.cons.injEq, and_true] at e4
  obtain ⟨rfl, rfl⟩ := e4
  obtain ⟨a5, v5, e5, r5, s5⟩ := arg_slice eSent Tryz.underlying23 (show Tryz.prog.cellsOf 88 = 7 from by kernel_rfl) (by omega) (by rw [show Tryz.prog.bytesOf 88 = 80 from by kernel_rfl]; omega) len_eSent (fun _ _ _ h hw => arg_eSent h hw) t5 w5
  injection e5 with e5 _
  subst e5
  obtain ⟨a6, v6, e6, r6, s6⟩ := arg_slice eAsker Tryz.underlying81 (show Tryz.prog.cellsOf 173 = 2 from by kernel_rfl) (by omega) (by rw [show Tryz.prog.bytesOf 173 = 16 from by kernel_rfl]; omega) len_eAsker (fun _ _ _ h hw => arg_eAsker h hw) t6 w6
  injection e6 with e6 _
  subst e6
  obtain ⟨a7, e7⟩ := arg_int Tryz.underlying3 t7
  injection e7 with e7 _
  subst e7
  obtain ⟨a8, e8⟩ := arg_int Tryz.underlying3 t8
  injection e8 with e8 _
  subst e8
  obtain ⟨a9, e9⟩ := arg_int Tryz.underlying3 t9
  injection e9 with e9 _
  subst e9
  obtain ⟨a10, e10⟩ := arg_int Tryz.underlying3 t10
  injection e10 with e10 _
  subst e10
  refine ⟨⟨a0, a1, a2, a3, a4, a5, a6, a7, a8, a9, a10⟩, mkrd_eEntity r2 r5 r6, ?_⟩
  try simp only [eValue, StrOkL_cons, StrOkL_nil, StrOk_str, StrOk_int, StrOk_bool, StrOk_s, true_and, and_true] at s4
  simp only [eEntity, StrOkL_cons, StrOkL_nil, StrOk_str, StrOk_int, StrOk_bool, StrOk_s, true_and, and_true]
  simp_all

theorem arg_eLink {H : Type} {enc : TypeId × Value → H} {w : World} {base : Nat} {spare : Nat → Bool} {held : Bool} {fuel : Nat} {cs : List Value} {x : DataW H × List MemPlace} (h : DataW.trod enc Tryz.prog w base spare held fuel 93 cs = some x) (hw : WOk Tryz.prog 93 x.1) : ∃ a : GLink, RdLW w (eLink a) cs ∧ StrOkL (eLink a) := by
  obtain ⟨hl, hf⟩ := arg_struct Tryz.underlying93 h hw
  rw [show Tryz.prog.cellsOf 93 = 7 from by kernel_rfl] at hl
  have hl0 := hl
  clear hl
  obtain ⟨c0, cs0, rfl, hl1⟩ := cons_of hl0
  obtain ⟨c1, cs1, rfl, hl2⟩ := cons_of hl1
  obtain ⟨c2, cs2, rfl, hl3⟩ := cons_of hl2
  obtain ⟨c3, cs3, rfl, hl4⟩ := cons_of hl3
  obtain ⟨c4, cs4, rfl, hl5⟩ := cons_of hl4
  obtain ⟨c5, cs5, rfl, hl6⟩ := cons_of hl5
  obtain ⟨c6, cs6, rfl, hl7⟩ := cons_of hl6
  obtain rfl := nil_of hl7
  clear hl0 hl1 hl2 hl3 hl4 hl5 hl6 hl7
  obtain ⟨n0, y0, t0, w0⟩ := hf 0 _ rfl
  replace t0 : DataW.trod enc Tryz.prog w base spare held n0 3 ((([c0, c1, c2, c3, c4, c5, c6] : List Value).drop 0).take (Tryz.prog.cellsOf 3)) = some y0 := t0
  rw [show Tryz.prog.cellsOf 3 = 1 from by kernel_rfl] at t0
  replace t0 : DataW.trod enc Tryz.prog w base spare held n0 3 [c0] = some y0 := t0
  obtain ⟨n1, y1, t1, w1⟩ := hf 1 _ rfl
  replace t1 : DataW.trod enc Tryz.prog w base spare held n1 4 ((([c0, c1, c2, c3, c4, c5, c6] : List Value).drop 1).take (Tryz.prog.cellsOf 4)) = some y1 := t1
  rw [show Tryz.prog.cellsOf 4 = 1 from by kernel_rfl] at t1
  replace t1 : DataW.trod enc Tryz.prog w base spare held n1 4 [c1] = some y1 := t1
  obtain ⟨n2, y2, t2, w2⟩ := hf 2 _ rfl
  replace t2 : DataW.trod enc Tryz.prog w base spare held n2 90 ((([c0, c1, c2, c3, c4, c5, c6] : List Value).drop 2).take (Tryz.prog.cellsOf 90)) = some y2 := t2
  rw [show Tryz.prog.cellsOf 90 = 1 from by kernel_rfl] at t2
  replace t2 : DataW.trod enc Tryz.prog w base spare held n2 90 [c2] = some y2 := t2
  obtain ⟨n3, y3, t3, w3⟩ := hf 3 _ rfl
  replace t3 : DataW.trod enc Tryz.prog w base spare held n3 3 ((([c0, c1, c2, c3, c4, c5, c6] : List Value).drop 3).take (Tryz.prog.cellsOf 3)) = some y3 := t3
  rw [show Tryz.prog.cellsOf 3 = 1 from by kernel_rfl] at t3
  replace t3 : DataW.trod enc Tryz.prog w base spare held n3 3 [c3] = some y3 := t3
  obtain ⟨n4, y4, t4, w4⟩ := hf 4 _ rfl
  replace t4 : DataW.trod enc Tryz.prog w base spare held n4 91 ((([c0, c1, c2, c3, c4, c5, c6] : List Value).drop 4).take (Tryz.prog.cellsOf 91)) = some y4 := t4
  rw [show Tryz.prog.cellsOf 91 = 1 from by kernel_rfl] at t4
  replace t4 : DataW.trod enc Tryz.prog w base spare held n4 91 [c4] = some y4 := t4
  obtain ⟨n5, y5, t5, w5⟩ := hf 5 _ rfl
  replace t5 : DataW.trod enc Tryz.prog w base spare held n5 3 ((([c0, c1, c2, c3, c4, c5, c6] : List Value).drop 5).take (Tryz.prog.cellsOf 3)) = some y5 := t5
  rw [show Tryz.prog.cellsOf 3 = 1 from by kernel_rfl] at t5
  replace t5 : DataW.trod enc Tryz.prog w base spare held n5 3 [c5] = some y5 := t5
  obtain ⟨n6, y6, t6, w6⟩ := hf 6 _ rfl
  replace t6 : DataW.trod enc Tryz.prog w base spare held n6 91 ((([c0, c1, c2, c3, c4, c5, c6] : List Value).drop 6).take (Tryz.prog.cellsOf 91)) = some y6 := t6
  rw [show Tryz.prog.cellsOf 91 = 1 from by kernel_rfl] at t6
  replace t6 : DataW.trod enc Tryz.prog w base spare held n6 91 [c6] = some y6 := t6
  obtain ⟨a0, e0⟩ := arg_int Tryz.underlying3 t0
  injection e0 with e0 _
  subst e0
  obtain ⟨a1, e1⟩ := arg_bool Tryz.underlying4 t1
  injection e1 with e1 _
  subst e1
  obtain ⟨a2, v2, e2, r2, s2⟩ := arg_slice eExport Tryz.underlying90 (show Tryz.prog.cellsOf 175 = 3 from by kernel_rfl) (by omega) (by rw [show Tryz.prog.bytesOf 175 = 24 from by kernel_rfl]; omega) len_eExport (fun _ _ _ h hw => arg_eExport h hw) t2 w2
  injection e2 with e2 _
  subst e2
  obtain ⟨a3, e3⟩ := arg_int Tryz.underlying3 t3
  injection e3 with e3 _
  subst e3
  obtain ⟨a4, v4, e4, r4, s4⟩ := arg_slice eQuestion Tryz.underlying91 (show Tryz.prog.cellsOf 177 = 2 from by kernel_rfl) (by omega) (by rw [show Tryz.prog.bytesOf 177 = 16 from by kernel_rfl]; omega) len_eQuestion (fun _ _ _ h hw => arg_eQuestion h hw) t4 w4
  injection e4 with e4 _
  subst e4
  obtain ⟨a5, e5⟩ := arg_int Tryz.underlying3 t5
  injection e5 with e5 _
  subst e5
  obtain ⟨a6, v6, e6, r6, s6⟩ := arg_slice eQuestion Tryz.underlying91 (show Tryz.prog.cellsOf 177 = 2 from by kernel_rfl) (by omega) (by rw [show Tryz.prog.bytesOf 177 = 16 from by kernel_rfl]; omega) len_eQuestion (fun _ _ _ h hw => arg_eQuestion h hw) t6 w6
  injection e6 with e6 _
  subst e6
  refine ⟨⟨a0, a1, a2, a3, a4, a5, a6⟩, mkrd_eLink r2 r4 r6, ?_⟩
  simp only [eLink, StrOkL_cons, StrOkL_nil, StrOk_str, StrOk_int, StrOk_bool, StrOk_s, true_and, and_true]
  simp_all

theorem arg_eMessage {H : Type} {enc : TypeId × Value → H} {w : World} {base : Nat} {spare : Nat → Bool} {held : Bool} {fuel : Nat} {cs : List Value} {x : DataW H × List MemPlace} (h : DataW.trod enc Tryz.prog w base spare held fuel 98 cs = some x) (hw : WOk Tryz.prog 98 x.1) : ∃ a : GMessage, RdLW w (eMessage a) cs ∧ StrOkL (eMessage a) := by
  obtain ⟨hl, hf⟩ := arg_struct Tryz.underlying98 h hw
  rw [show Tryz.prog.cellsOf 98 = 12 from by kernel_rfl] at hl
  have hl0 := hl
  clear hl
  obtain ⟨c0, cs0, rfl, hl1⟩ := cons_of hl0
  obtain ⟨c1, cs1, rfl, hl2⟩ := cons_of hl1
  obtain ⟨c2, cs2, rfl, hl3⟩ := cons_of hl2
  obtain ⟨c3, cs3, rfl, hl4⟩ := cons_of hl3
  obtain ⟨c4, cs4, rfl, hl5⟩ := cons_of hl4
  obtain ⟨c5, cs5, rfl, hl6⟩ := cons_of hl5
  obtain ⟨c6, cs6, rfl, hl7⟩ := cons_of hl6
  obtain ⟨c7, cs7, rfl, hl8⟩ := cons_of hl7
  obtain ⟨c8, cs8, rfl, hl9⟩ := cons_of hl8
  obtain ⟨c9, cs9, rfl, hl10⟩ := cons_of hl9
  obtain ⟨c10, cs10, rfl, hl11⟩ := cons_of hl10
  obtain ⟨c11, cs11, rfl, hl12⟩ := cons_of hl11
  obtain rfl := nil_of hl12
  clear hl0 hl1 hl2 hl3 hl4 hl5 hl6 hl7 hl8 hl9 hl10 hl11 hl12
  obtain ⟨n0, y0, t0, w0⟩ := hf 0 _ rfl
  replace t0 : DataW.trod enc Tryz.prog w base spare held n0 3 ((([c0, c1, c2, c3, c4, c5, c6, c7, c8, c9, c10, c11] : List Value).drop 0).take (Tryz.prog.cellsOf 3)) = some y0 := t0
  rw [show Tryz.prog.cellsOf 3 = 1 from by kernel_rfl] at t0
  replace t0 : DataW.trod enc Tryz.prog w base spare held n0 3 [c0] = some y0 := t0
  obtain ⟨n1, y1, t1, w1⟩ := hf 1 _ rfl
  replace t1 : DataW.trod enc Tryz.prog w base spare held n1 3 ((([c0, c1, c2, c3, c4, c5, c6, c7, c8, c9, c10, c11] : List Value).drop 1).take (Tryz.prog.cellsOf 3)) = some y1 := t1
  rw [show Tryz.prog.cellsOf 3 = 1 from by kernel_rfl] at t1
  replace t1 : DataW.trod enc Tryz.prog w base spare held n1 3 [c1] = some y1 := t1
  obtain ⟨n2, y2, t2, w2⟩ := hf 2 _ rfl
  replace t2 : DataW.trod enc Tryz.prog w base spare held n2 3 ((([c0, c1, c2, c3, c4, c5, c6, c7, c8, c9, c10, c11] : List Value).drop 2).take (Tryz.prog.cellsOf 3)) = some y2 := t2
  rw [show Tryz.prog.cellsOf 3 = 1 from by kernel_rfl] at t2
  replace t2 : DataW.trod enc Tryz.prog w base spare held n2 3 [c2] = some y2 := t2
  obtain ⟨n3, y3, t3, w3⟩ := hf 3 _ rfl
  replace t3 : DataW.trod enc Tryz.prog w base spare held n3 3 ((([c0, c1, c2, c3, c4, c5, c6, c7, c8, c9, c10, c11] : List Value).drop 3).take (Tryz.prog.cellsOf 3)) = some y3 := t3
  rw [show Tryz.prog.cellsOf 3 = 1 from by kernel_rfl] at t3
  replace t3 : DataW.trod enc Tryz.prog w base spare held n3 3 [c3] = some y3 := t3
  obtain ⟨n4, y4, t4, w4⟩ := hf 4 _ rfl
  replace t4 : DataW.trod enc Tryz.prog w base spare held n4 9 ((([c0, c1, c2, c3, c4, c5, c6, c7, c8, c9, c10, c11] : List Value).drop 4).take (Tryz.prog.cellsOf 9)) = some y4 := t4
  rw [show Tryz.prog.cellsOf 9 = 1 from by kernel_rfl] at t4
  replace t4 : DataW.trod enc Tryz.prog w base spare held n4 9 [c4] = some y4 := t4
  obtain ⟨n5, y5, t5, w5⟩ := hf 5 _ rfl
  replace t5 : DataW.trod enc Tryz.prog w base spare held n5 95 ((([c0, c1, c2, c3, c4, c5, c6, c7, c8, c9, c10, c11] : List Value).drop 5).take (Tryz.prog.cellsOf 95)) = some y5 := t5
  rw [show Tryz.prog.cellsOf 95 = 1 from by kernel_rfl] at t5
  replace t5 : DataW.trod enc Tryz.prog w base spare held n5 95 [c5] = some y5 := t5
  obtain ⟨n6, y6, t6, w6⟩ := hf 6 _ rfl
  replace t6 : DataW.trod enc Tryz.prog w base spare held n6 96 ((([c0, c1, c2, c3, c4, c5, c6, c7, c8, c9, c10, c11] : List Value).drop 6).take (Tryz.prog.cellsOf 96)) = some y6 := t6
  rw [show Tryz.prog.cellsOf 96 = 2 from by kernel_rfl] at t6
  replace t6 : DataW.trod enc Tryz.prog w base spare held n6 96 [c6, c7] = some y6 := t6
  obtain ⟨n7, y7, t7, w7⟩ := hf 7 _ rfl
  replace t7 : DataW.trod enc Tryz.prog w base spare held n7 3 ((([c0, c1, c2, c3, c4, c5, c6, c7, c8, c9, c10, c11] : List Value).drop 8).take (Tryz.prog.cellsOf 3)) = some y7 := t7
  rw [show Tryz.prog.cellsOf 3 = 1 from by kernel_rfl] at t7
  replace t7 : DataW.trod enc Tryz.prog w base spare held n7 3 [c8] = some y7 := t7
  obtain ⟨n8, y8, t8, w8⟩ := hf 8 _ rfl
  replace t8 : DataW.trod enc Tryz.prog w base spare held n8 86 ((([c0, c1, c2, c3, c4, c5, c6, c7, c8, c9, c10, c11] : List Value).drop 9).take (Tryz.prog.cellsOf 86)) = some y8 := t8
  rw [show Tryz.prog.cellsOf 86 = 3 from by kernel_rfl] at t8
  replace t8 : DataW.trod enc Tryz.prog w base spare held n8 86 [c9, c10, c11] = some y8 := t8
  obtain ⟨a0, e0⟩ := arg_int Tryz.underlying3 t0
  injection e0 with e0 _
  subst e0
  obtain ⟨a1, e1⟩ := arg_int Tryz.underlying3 t1
  injection e1 with e1 _
  subst e1
  obtain ⟨a2, e2⟩ := arg_int Tryz.underlying3 t2
  injection e2 with e2 _
  subst e2
  obtain ⟨a3, e3⟩ := arg_int Tryz.underlying3 t3
  injection e3 with e3 _
  subst e3
  obtain ⟨a4, e4, s4⟩ := arg_str Tryz.underlying9 t4 w4
  injection e4 with e4 _
  subst e4
  obtain ⟨a5, v5, e5, r5, s5⟩ := arg_slice eWire Tryz.underlying95 (show Tryz.prog.cellsOf 96 = 2 from by kernel_rfl) (by omega) (by rw [show Tryz.prog.bytesOf 96 = 16 from by kernel_rfl]; omega) len_eWire (fun _ _ _ h hw => arg_eWire h hw) t5 w5
  injection e5 with e5 _
  subst e5
  obtain ⟨a6, r6, s6⟩ := arg_eWire t6 w6
  have e6 := rd_eWire r6
  simp only [List.cons.injEq, and_true] at e6
  obtain ⟨rfl, rfl⟩ := e6
  obtain ⟨a7, e7⟩ := arg_int Tryz.underlying3 t7
  injection e7 with e7 _
  subst e7
  obtain ⟨a8, r8, s8⟩ := arg_eTag t8 w8
  have e8 := rd_eTag r8
  simp only [List.cons.injEq, and_true] at e8
  obtain ⟨rfl, rfl, rfl⟩ := e8
  refine ⟨⟨a0, a1, a2, a3, a4, a5, a6, a7, a8⟩, mkrd_eMessage r5, ?_⟩
  try simp only [eWire, StrOkL_cons, StrOkL_nil, StrOk_str, StrOk_int, StrOk_bool, StrOk_s, true_and, and_true] at s6
  try simp only [eTag, StrOkL_cons, StrOkL_nil, StrOk_str, StrOk_int, StrOk_bool, StrOk_s, true_and, and_true] at s8
  simp only [eMessage, StrOkL_cons, StrOkL_nil, StrOk_str, StrOk_int, StrOk_bool, StrOk_s, true_and, and_true]
  simp_all

theorem arg_eOutgoing {H : Type} {enc : TypeId × Value → H} {w : World} {base : Nat} {spare : Nat → Bool} {held : Bool} {fuel : Nat} {cs : List Value} {x : DataW H × List MemPlace} (h : DataW.trod enc Tryz.prog w base spare held fuel 100 cs = some x) (hw : WOk Tryz.prog 100 x.1) : ∃ a : GOutgoing, RdLW w (eOutgoing a) cs ∧ StrOkL (eOutgoing a) := by
  obtain ⟨hl, hf⟩ := arg_struct Tryz.underlying100 h hw
  rw [show Tryz.prog.cellsOf 100 = 13 from by kernel_rfl] at hl
  have hl0 := hl
  clear hl
  obtain ⟨c0, cs0, rfl, hl1⟩ := cons_of hl0
  obtain ⟨c1, cs1, rfl, hl2⟩ := cons_of hl1
  obtain ⟨c2, cs2, rfl, hl3⟩ := cons_of hl2
  obtain ⟨c3, cs3, rfl, hl4⟩ := cons_of hl3
  obtain ⟨c4, cs4, rfl, hl5⟩ := cons_of hl4
  obtain ⟨c5, cs5, rfl, hl6⟩ := cons_of hl5
  obtain ⟨c6, cs6, rfl, hl7⟩ := cons_of hl6
  obtain ⟨c7, cs7, rfl, hl8⟩ := cons_of hl7
  obtain ⟨c8, cs8, rfl, hl9⟩ := cons_of hl8
  obtain ⟨c9, cs9, rfl, hl10⟩ := cons_of hl9
  obtain ⟨c10, cs10, rfl, hl11⟩ := cons_of hl10
  obtain ⟨c11, cs11, rfl, hl12⟩ := cons_of hl11
  obtain ⟨c12, cs12, rfl, hl13⟩ := cons_of hl12
  obtain rfl := nil_of hl13
  clear hl0 hl1 hl2 hl3 hl4 hl5 hl6 hl7 hl8 hl9 hl10 hl11 hl12 hl13
  obtain ⟨n0, y0, t0, w0⟩ := hf 0 _ rfl
  replace t0 : DataW.trod enc Tryz.prog w base spare held n0 3 ((([c0, c1, c2, c3, c4, c5, c6, c7, c8, c9, c10, c11, c12] : List Value).drop 0).take (Tryz.prog.cellsOf 3)) = some y0 := t0
  rw [show Tryz.prog.cellsOf 3 = 1 from by kernel_rfl] at t0
  replace t0 : DataW.trod enc Tryz.prog w base spare held n0 3 [c0] = some y0 := t0
  obtain ⟨n1, y1, t1, w1⟩ := hf 1 _ rfl
  replace t1 : DataW.trod enc Tryz.prog w base spare held n1 98 ((([c0, c1, c2, c3, c4, c5, c6, c7, c8, c9, c10, c11, c12] : List Value).drop 1).take (Tryz.prog.cellsOf 98)) = some y1 := t1
  rw [show Tryz.prog.cellsOf 98 = 12 from by kernel_rfl] at t1
  replace t1 : DataW.trod enc Tryz.prog w base spare held n1 98 [c1, c2, c3, c4, c5, c6, c7, c8, c9, c10, c11, c12] = some y1 := t1
  obtain ⟨a0, e0⟩ := arg_int Tryz.underlying3 t0
  injection e0 with e0 _
  subst e0
  obtain ⟨a1, r1, s1⟩ := arg_eMessage t1 w1
  obtain ⟨u6, e1, r1_5⟩ := rd_eMessage r1
  simp only [List.cons.injEq, and_true] at e1
  obtain ⟨rfl, rfl, rfl, rfl, rfl, rfl, rfl, rfl, rfl, rfl, rfl, rfl⟩ := e1
  refine ⟨⟨a0, a1⟩, mkrd_eOutgoing r1_5, ?_⟩
  try simp only [eMessage, StrOkL_cons, StrOkL_nil, StrOk_str, StrOk_int, StrOk_bool, StrOk_s, true_and, and_true] at s1
  simp only [eOutgoing, StrOkL_cons, StrOkL_nil, StrOk_str, StrOk_int, StrOk_bool, StrOk_s, true_and, and_true]
  simp_all

theorem arg_eVat {H : Type} {enc : TypeId × Value → H} {w : World} {base : Nat} {spare : Nat → Bool} {held : Bool} {fuel : Nat} {cs : List Value} {x : DataW H × List MemPlace} (h : DataW.trod enc Tryz.prog w base spare held fuel 27 cs = some x) (hw : WOk Tryz.prog 27 x.1) : ∃ a : GVat, RdLW w (eVat a) cs ∧ StrOkL (eVat a) := by
  obtain ⟨hl, hf⟩ := arg_struct Tryz.underlying27 h hw
  rw [show Tryz.prog.cellsOf 27 = 5 from by kernel_rfl] at hl
  have hl0 := hl
  clear hl
  obtain ⟨c0, cs0, rfl, hl1⟩ := cons_of hl0
  obtain ⟨c1, cs1, rfl, hl2⟩ := cons_of hl1
  obtain ⟨c2, cs2, rfl, hl3⟩ := cons_of hl2
  obtain ⟨c3, cs3, rfl, hl4⟩ := cons_of hl3
  obtain ⟨c4, cs4, rfl, hl5⟩ := cons_of hl4
  obtain rfl := nil_of hl5
  clear hl0 hl1 hl2 hl3 hl4 hl5
  obtain ⟨n0, y0, t0, w0⟩ := hf 0 _ rfl
  replace t0 : DataW.trod enc Tryz.prog w base spare held n0 3 ((([c0, c1, c2, c3, c4] : List Value).drop 0).take (Tryz.prog.cellsOf 3)) = some y0 := t0
  rw [show Tryz.prog.cellsOf 3 = 1 from by kernel_rfl] at t0
  replace t0 : DataW.trod enc Tryz.prog w base spare held n0 3 [c0] = some y0 := t0
  obtain ⟨n1, y1, t1, w1⟩ := hf 1 _ rfl
  replace t1 : DataW.trod enc Tryz.prog w base spare held n1 22 ((([c0, c1, c2, c3, c4] : List Value).drop 1).take (Tryz.prog.cellsOf 22)) = some y1 := t1
  rw [show Tryz.prog.cellsOf 22 = 1 from by kernel_rfl] at t1
  replace t1 : DataW.trod enc Tryz.prog w base spare held n1 22 [c1] = some y1 := t1
  obtain ⟨n2, y2, t2, w2⟩ := hf 2 _ rfl
  replace t2 : DataW.trod enc Tryz.prog w base spare held n2 23 ((([c0, c1, c2, c3, c4] : List Value).drop 2).take (Tryz.prog.cellsOf 23)) = some y2 := t2
  rw [show Tryz.prog.cellsOf 23 = 1 from by kernel_rfl] at t2
  replace t2 : DataW.trod enc Tryz.prog w base spare held n2 23 [c2] = some y2 := t2
  obtain ⟨n3, y3, t3, w3⟩ := hf 3 _ rfl
  replace t3 : DataW.trod enc Tryz.prog w base spare held n3 24 ((([c0, c1, c2, c3, c4] : List Value).drop 3).take (Tryz.prog.cellsOf 24)) = some y3 := t3
  rw [show Tryz.prog.cellsOf 24 = 1 from by kernel_rfl] at t3
  replace t3 : DataW.trod enc Tryz.prog w base spare held n3 24 [c3] = some y3 := t3
  obtain ⟨n4, y4, t4, w4⟩ := hf 4 _ rfl
  replace t4 : DataW.trod enc Tryz.prog w base spare held n4 25 ((([c0, c1, c2, c3, c4] : List Value).drop 4).take (Tryz.prog.cellsOf 25)) = some y4 := t4
  rw [show Tryz.prog.cellsOf 25 = 1 from by kernel_rfl] at t4
  replace t4 : DataW.trod enc Tryz.prog w base spare held n4 25 [c4] = some y4 := t4
  obtain ⟨a0, e0⟩ := arg_int Tryz.underlying3 t0
  injection e0 with e0 _
  subst e0
  obtain ⟨a1, v1, e1, r1, s1⟩ := arg_slice eEntity Tryz.underlying22 (show Tryz.prog.cellsOf 83 = 12 from by kernel_rfl) (by omega) (by rw [show Tryz.prog.bytesOf 83 = 144 from by kernel_rfl]; omega) len_eEntity (fun _ _ _ h hw => arg_eEntity h hw) t1 w1
  injection e1 with e1 _
  subst e1
  obtain ⟨a2, v2, e2, r2, s2⟩ := arg_slice eSent Tryz.underlying23 (show Tryz.prog.cellsOf 88 = 7 from by kernel_rfl) (by omega) (by rw [show Tryz.prog.bytesOf 88 = 80 from by kernel_rfl]; omega) len_eSent (fun _ _ _ h hw => arg_eSent h hw) t2 w2
  injection e2 with e2 _
  subst e2
  obtain ⟨a3, v3, e3, r3, s3⟩ := arg_slice eLink Tryz.underlying24 (show Tryz.prog.cellsOf 93 = 7 from by kernel_rfl) (by omega) (by rw [show Tryz.prog.bytesOf 93 = 104 from by kernel_rfl]; omega) len_eLink (fun _ _ _ h hw => arg_eLink h hw) t3 w3
  injection e3 with e3 _
  subst e3
  obtain ⟨a4, v4, e4, r4, s4⟩ := arg_slice eOutgoing Tryz.underlying25 (show Tryz.prog.cellsOf 100 = 13 from by kernel_rfl) (by omega) (by rw [show Tryz.prog.bytesOf 100 = 128 from by kernel_rfl]; omega) len_eOutgoing (fun _ _ _ h hw => arg_eOutgoing h hw) t4 w4
  injection e4 with e4 _
  subst e4
  refine ⟨⟨a0, a1, a2, a3, a4⟩, mkrd_eVat r1 r2 r3 r4, ?_⟩
  simp only [eVat, StrOkL_cons, StrOkL_nil, StrOk_str, StrOk_int, StrOk_bool, StrOk_s, true_and, and_true]
  simp_all

end Go.Proofs.YtmnpoajdibmocaaGreat
