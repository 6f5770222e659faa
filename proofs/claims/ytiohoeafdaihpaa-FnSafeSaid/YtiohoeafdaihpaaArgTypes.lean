import Derived.Test.YtiohoeafdaihpaaProg
import Derived.Test.YtiohoeafdaihpaaTypes
import Derived.StillTailTactics
import Derived.Deep.RegionHeld3
import Derived.Laws.IdiomStrings
import Derived.Test.YtiohoeafdaihpaaAppend
import Derived.Laws.StructEq
import Derived.Lib.SliceRun
import Derived.Shelf.RegionOpenPlain
import Derived.Test.YtiohoeafdaihpaaArgs
namespace Go.Proofs.Ytiohoeafdaihpaa
open Go.RowKit Go.ChangeShapes Go.WideShapes Go.ChangeAt Go.Deep
set_option linter.unusedVariables false
set_option linter.unusedSimpArgs false

theorem arg_eInstr {H : Type} {enc : TypeId × Value → H} {w : World} {base : Nat} {spare : Nat → Bool} {held : Bool} {fuel : Nat} {cs : List Value} {x : DataW H × List MemPlace} (h : DataW.trod enc Try.prog w base spare held fuel 91 cs = some x) (hw : WOk Try.prog 91 x.1) : ∃ a : GInstr, RdLW w (eInstr a) cs ∧ StrOkL (eInstr a) := by
  obtain ⟨hl, hf⟩ := arg_struct Try.underlying91 h hw
  rw [show Try.prog.cellsOf 91 = 6 from by kernel_rfl] at hl
  have hl0 := hl
  clear hl
  obtain ⟨c0, cs0, rfl, hl1⟩ := cons_of hl0
  obtain ⟨c1, cs1, rfl, hl2⟩ := cons_of hl1
  obtain ⟨c2, cs2, rfl, hl3⟩ := cons_of hl2
  obtain ⟨c3, cs3, rfl, hl4⟩ := cons_of hl3
  obtain ⟨c4, cs4, rfl, hl5⟩ := cons_of hl4
  obtain ⟨c5, cs5, rfl, hl6⟩ := cons_of hl5
  obtain rfl := nil_of hl6
  clear hl0 hl1 hl2 hl3 hl4 hl5 hl6
  obtain ⟨n0, y0, t0, w0⟩ := hf 0 _ rfl
  replace t0 : DataW.trod enc Try.prog w base spare held n0 3 ((([c0, c1, c2, c3, c4, c5] : List Value).drop 0).take (Try.prog.cellsOf 3)) = some y0 := t0
  rw [show Try.prog.cellsOf 3 = 1 from by kernel_rfl] at t0
  replace t0 : DataW.trod enc Try.prog w base spare held n0 3 [c0] = some y0 := t0
  obtain ⟨n1, y1, t1, w1⟩ := hf 1 _ rfl
  replace t1 : DataW.trod enc Try.prog w base spare held n1 3 ((([c0, c1, c2, c3, c4, c5] : List Value).drop 1).take (Try.prog.cellsOf 3)) = some y1 := t1
  rw [show Try.prog.cellsOf 3 = 1 from by kernel_rfl] at t1
  replace t1 : DataW.trod enc Try.prog w base spare held n1 3 [c1] = some y1 := t1
  obtain ⟨n2, y2, t2, w2⟩ := hf 2 _ rfl
  replace t2 : DataW.trod enc Try.prog w base spare held n2 3 ((([c0, c1, c2, c3, c4, c5] : List Value).drop 2).take (Try.prog.cellsOf 3)) = some y2 := t2
  rw [show Try.prog.cellsOf 3 = 1 from by kernel_rfl] at t2
  replace t2 : DataW.trod enc Try.prog w base spare held n2 3 [c2] = some y2 := t2
  obtain ⟨n3, y3, t3, w3⟩ := hf 3 _ rfl
  replace t3 : DataW.trod enc Try.prog w base spare held n3 3 ((([c0, c1, c2, c3, c4, c5] : List Value).drop 3).take (Try.prog.cellsOf 3)) = some y3 := t3
  rw [show Try.prog.cellsOf 3 = 1 from by kernel_rfl] at t3
  replace t3 : DataW.trod enc Try.prog w base spare held n3 3 [c3] = some y3 := t3
  obtain ⟨n4, y4, t4, w4⟩ := hf 4 _ rfl
  replace t4 : DataW.trod enc Try.prog w base spare held n4 3 ((([c0, c1, c2, c3, c4, c5] : List Value).drop 4).take (Try.prog.cellsOf 3)) = some y4 := t4
  rw [show Try.prog.cellsOf 3 = 1 from by kernel_rfl] at t4
  replace t4 : DataW.trod enc Try.prog w base spare held n4 3 [c4] = some y4 := t4
  obtain ⟨n5, y5, t5, w5⟩ := hf 5 _ rfl
  replace t5 : DataW.trod enc Try.prog w base spare held n5 9 ((([c0, c1, c2, c3, c4, c5] : List Value).drop 5).take (Try.prog.cellsOf 9)) = some y5 := t5
  rw [show Try.prog.cellsOf 9 = 1 from by kernel_rfl] at t5
  replace t5 : DataW.trod enc Try.prog w base spare held n5 9 [c5] = some y5 := t5
  obtain ⟨a0, e0⟩ := arg_int Try.underlying3 t0
  injection e0 with e0 _
  subst e0
  obtain ⟨a1, e1⟩ := arg_int Try.underlying3 t1
  injection e1 with e1 _
  subst e1
  obtain ⟨a2, e2⟩ := arg_int Try.underlying3 t2
  injection e2 with e2 _
  subst e2
  obtain ⟨a3, e3⟩ := arg_int Try.underlying3 t3
  injection e3 with e3 _
  subst e3
  obtain ⟨a4, e4⟩ := arg_int Try.underlying3 t4
  injection e4 with e4 _
  subst e4
  obtain ⟨a5, e5, s5⟩ := arg_str Try.underlying9 t5 w5
  injection e5 with e5 _
  subst e5
  refine ⟨⟨a0, a1, a2, a3, a4, a5⟩, mkrd_eInstr, ?_⟩
  simp only [eInstr, StrOkL_cons, StrOkL_nil, StrOk_str, StrOk_int, StrOk_bool, StrOk_s, true_and, and_true]
  simp_all

theorem arg_eMethod {H : Type} {enc : TypeId × Value → H} {w : World} {base : Nat} {spare : Nat → Bool} {held : Bool} {fuel : Nat} {cs : List Value} {x : DataW H × List MemPlace} (h : DataW.trod enc Try.prog w base spare held fuel 24 cs = some x) (hw : WOk Try.prog 24 x.1) : ∃ a : GMethod, RdLW w (eMethod a) cs ∧ StrOkL (eMethod a) := by
  obtain ⟨hl, hf⟩ := arg_struct Try.underlying24 h hw
  rw [show Try.prog.cellsOf 24 = 2 from by kernel_rfl] at hl
  have hl0 := hl
  clear hl
  obtain ⟨c0, cs0, rfl, hl1⟩ := cons_of hl0
  obtain ⟨c1, cs1, rfl, hl2⟩ := cons_of hl1
  obtain rfl := nil_of hl2
  clear hl0 hl1 hl2
  obtain ⟨n0, y0, t0, w0⟩ := hf 0 _ rfl
  replace t0 : DataW.trod enc Try.prog w base spare held n0 9 ((([c0, c1] : List Value).drop 0).take (Try.prog.cellsOf 9)) = some y0 := t0
  rw [show Try.prog.cellsOf 9 = 1 from by kernel_rfl] at t0
  replace t0 : DataW.trod enc Try.prog w base spare held n0 9 [c0] = some y0 := t0
  obtain ⟨n1, y1, t1, w1⟩ := hf 1 _ rfl
  replace t1 : DataW.trod enc Try.prog w base spare held n1 22 ((([c0, c1] : List Value).drop 1).take (Try.prog.cellsOf 22)) = some y1 := t1
  rw [show Try.prog.cellsOf 22 = 1 from by kernel_rfl] at t1
  replace t1 : DataW.trod enc Try.prog w base spare held n1 22 [c1] = some y1 := t1
  obtain ⟨a0, e0, s0⟩ := arg_str Try.underlying9 t0 w0
  injection e0 with e0 _
  subst e0
  obtain ⟨a1, v1, e1, r1, s1⟩ := arg_slice eInstr Try.underlying22 (show Try.prog.cellsOf 91 = 6 from by kernel_rfl) (by omega) (by rw [show Try.prog.bytesOf 91 = 56 from by kernel_rfl]; omega) len_eInstr (fun _ _ _ h hw => arg_eInstr h hw) t1 w1
  injection e1 with e1 _
  subst e1
  refine ⟨⟨a0, a1⟩, mkrd_eMethod r1, ?_⟩
  simp only [eMethod, StrOkL_cons, StrOkL_nil, StrOk_str, StrOk_int, StrOk_bool, StrOk_s, true_and, and_true]
  simp_all

theorem arg_eScript {H : Type} {enc : TypeId × Value → H} {w : World} {base : Nat} {spare : Nat → Bool} {held : Bool} {fuel : Nat} {cs : List Value} {x : DataW H × List MemPlace} (h : DataW.trod enc Try.prog w base spare held fuel 61 cs = some x) (hw : WOk Try.prog 61 x.1) : ∃ a : GScript, RdLW w (eScript a) cs ∧ StrOkL (eScript a) := by
  obtain ⟨hl, hf⟩ := arg_struct Try.underlying61 h hw
  rw [show Try.prog.cellsOf 61 = 2 from by kernel_rfl] at hl
  have hl0 := hl
  clear hl
  obtain ⟨c0, cs0, rfl, hl1⟩ := cons_of hl0
  obtain ⟨c1, cs1, rfl, hl2⟩ := cons_of hl1
  obtain rfl := nil_of hl2
  clear hl0 hl1 hl2
  obtain ⟨n0, y0, t0, w0⟩ := hf 0 _ rfl
  replace t0 : DataW.trod enc Try.prog w base spare held n0 9 ((([c0, c1] : List Value).drop 0).take (Try.prog.cellsOf 9)) = some y0 := t0
  rw [show Try.prog.cellsOf 9 = 1 from by kernel_rfl] at t0
  replace t0 : DataW.trod enc Try.prog w base spare held n0 9 [c0] = some y0 := t0
  obtain ⟨n1, y1, t1, w1⟩ := hf 1 _ rfl
  replace t1 : DataW.trod enc Try.prog w base spare held n1 59 ((([c0, c1] : List Value).drop 1).take (Try.prog.cellsOf 59)) = some y1 := t1
  rw [show Try.prog.cellsOf 59 = 1 from by kernel_rfl] at t1
  replace t1 : DataW.trod enc Try.prog w base spare held n1 59 [c1] = some y1 := t1
  obtain ⟨a0, e0, s0⟩ := arg_str Try.underlying9 t0 w0
  injection e0 with e0 _
  subst e0
  obtain ⟨a1, v1, e1, r1, s1⟩ := arg_slice eMethod Try.underlying59 (show Try.prog.cellsOf 24 = 2 from by kernel_rfl) (by omega) (by rw [show Try.prog.bytesOf 24 = 40 from by kernel_rfl]; omega) len_eMethod (fun _ _ _ h hw => arg_eMethod h hw) t1 w1
  injection e1 with e1 _
  subst e1
  refine ⟨⟨a0, a1⟩, mkrd_eScript r1, ?_⟩
  simp only [eScript, StrOkL_cons, StrOkL_nil, StrOk_str, StrOk_int, StrOk_bool, StrOk_s, true_and, and_true]
  simp_all

end Go.Proofs.Ytiohoeafdaihpaa
