import Derived.Test.YtaalbbhebmpppaaProg
import Derived.Test.YtaalbbhebmpppaaTypes
import Derived.StillTailTactics
import Derived.Deep.RegionHeld3
import Derived.Laws.IdiomStrings
import Derived.Test.YtaalbbhebmpppaaAppend
import Derived.Laws.StructEq
import Derived.Lib.SliceRun
import Derived.Shelf.RegionOpenPlain
import Derived.Test.YtaalbbhebmpppaaPureEntity
import Derived.Test.YtaalbbhebmpppaaSlicesE
import Derived.Test.YtaalbbhebmpppaaCommon
namespace Go.Proofs.Ytaalbbhebmpppaa
open Go.RowKit
set_option linter.unusedVariables false
set_option linter.unusedSimpArgs false

set_option maxHeartbeats 3200000 in
set_option maxRecDepth 100000 in
theorem impl_equalSent_calls (us : List Value) (x : GSent) (us' : List Value) (y : GSent) (w : World) (hr : RdLW w (eSent x) us) (hr' : RdLW w (eSent y) us') :
    Calls Try.prog 83 #[.agg us.toArray, .agg us'.toArray] w fun e w' => e = .returned (.bool (eqbSent' x y)) ∧ Below w.heap.size w w' := by
  obtain ⟨f0, f1, f2, f3, f4⟩ := x
  obtain ⟨f0', f1', f2', f3', f4'⟩ := y
  obtain ⟨v2, rfl, h2⟩ := rd_eSent hr
  obtain ⟨A2, c2, rfl, ⟨_, _, hl2⟩⟩ := h2.slice
  obtain ⟨v2', rfl, h2'⟩ := rd_eSent hr'
  obtain ⟨A2', c2', rfl, ⟨_, _, hl2'⟩⟩ := h2'.slice
  dsimp only at h2 h2' hl2 hl2' ⊢
  have HR2 := Lib.hid h2
  have HS2 := Lib.hid h2'
  clear hr hr' h2 h2'
  have HB := Lib.hid (((Below.refl w.heap.size w).alloc (Nat.le_refl _) (.cells #[.int .i64 f0, .string f1, .slice A2 f2.length c2, .int .i64 f3, .int .i64 f4.Vat, .int .i64 f4.Entity, .int .i64 f4.Seq] 71)).alloc (by simp) (.cells #[.int .i64 f0', .string f1', .slice A2' f2'.length c2', .int .i64 f3', .int .i64 f4'.Vat, .int .i64 f4'.Entity, .int .i64 f4'.Seq] 71))
  have heq := run_eql_Tag
  by_cases q0 : ¬ f0 = f0'
  · have HE : Hid (eqbSent' ⟨f0, f1, f2, f3, f4⟩ ⟨f0', f1', f2', f3', f4'⟩ = false) := by unfold Hid; simp [eqbSent', q0]
    go_enter Try.func83, Try.ntmps83
    go_wp2
    go_ret
    exact ⟨by rw [HE.out]; first | rfl | exact congrArg (fun b => Ending.returned (Value.bool b)) (by simpa using q0 : (f0 == f0') = false), HB.out⟩
  replace q0 := Classical.not_not.1 q0
  subst q0
  by_cases q1 : ¬ f1.toList = f1'.toList
  · have HE : Hid (eqbSent' ⟨f0, f1, f2, f3, f4⟩ ⟨f0, f1', f2', f3', f4'⟩ = false) := by unfold Hid; simp [eqbSent', q1]
    go_enter Try.func83, Try.ntmps83
    go_wp2
    go_ret
    exact ⟨by rw [HE.out]; first | rfl | exact congrArg (fun b => Ending.returned (Value.bool b)) (by simpa using q1 : (f1.toList == f1'.toList) = false), HB.out⟩
  replace q1 := bytes_inj (Classical.not_not.1 q1)
  subst q1
  go_enter Try.func83, Try.ntmps83
  go_wp2_with fail
  refine (slices_Equal_Value_calls _ _ f2 f2' _ (HR2.out.below HB.out) (HS2.out.below HB.out)).mono ?_
  rintro e w1 ⟨rfl, hb1⟩
  have HW1 := Lib.hid (HB.out.trans (hb1.mono (by first | exact HB.out.size | (simp only [size_alloc]; omega))))
  have K1_1 : Hid (Blk w1 w.heap.size 71 #[.int .i64 f0, .string f1, .slice A2 f2.length c2, .int .i64 f3, .int .i64 f4.Vat, .int .i64 f4.Entity, .int .i64 f4.Seq]) := Lib.hid (((Blk.new w 71 _).alloc _).below hb1)
  have K2_1 : Hid (Blk w1 (w.heap.size + 1) 71 #[.int .i64 f0, .string f1, .slice A2' f2'.length c2', .int .i64 f3', .int .i64 f4'.Vat, .int .i64 f4'.Entity, .int .i64 f4'.Seq]) := Lib.hid ((Blk.made (by simp)).below hb1)
  obtain ⟨k1_1, g1_1⟩ := K1_1.out.rules
  obtain ⟨k2_1, g2_1⟩ := K2_1.out.rules
  clear hb1
  rcases Bool.eq_false_or_eq_true (sameL eqbValue f2 f2') with s1 | s1
  rotate_left
  · have HE : Hid (eqbSent' ⟨f0, f1, f2, f3, f4⟩ ⟨f0, f1, f2', f3', f4'⟩ = false) := by unfold Hid; simp [eqbSent', s1]
    rw [s1]
    go_wp2
    go_ret
    exact ⟨by rw [HE.out]; rfl, HW1.out⟩
  rw [s1]
  have S1 := Lib.hid s1
  clear s1
  by_cases q3 : ¬ f3 = f3'
  · have HE : Hid (eqbSent' ⟨f0, f1, f2, f3, f4⟩ ⟨f0, f1, f2', f3', f4'⟩ = false) := by unfold Hid; simp [eqbSent', q3, S1.out]
    go_wp2
    go_ret
    exact ⟨by rw [HE.out]; first | rfl | exact congrArg (fun b => Ending.returned (Value.bool b)) (by simpa using q3 : (f3 == f3') = false), HW1.out⟩
  replace q3 := Classical.not_not.1 q3
  subst q3
  rcases Bool.eq_false_or_eq_true (eqbTag f4 f4') with q4 | q4
  rotate_left
  · have HE : Hid (eqbSent' ⟨f0, f1, f2, f3, f4⟩ ⟨f0, f1, f2', f3, f4'⟩ = false) := by unfold Hid; simp [eqbSent', q4, S1.out]
    go_wp2
    go_ret
    exact ⟨by rw [HE.out]; rfl, HW1.out⟩
  replace q4 := (eqbTag_iff _ _).1 q4
  subst q4
  have r4 := eqbTag_refl f4
  have HE : Hid (eqbSent' ⟨f0, f1, f2, f3, f4⟩ ⟨f0, f1, f2', f3, f4⟩ = true) := by unfold Hid; simp [eqbSent', S1.out, eqbTag_refl]
  go_wp2
  go_ret
  exact ⟨by rw [HE.out]; rfl, HW1.out⟩

end Go.Proofs.Ytaalbbhebmpppaa
