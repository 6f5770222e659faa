import Derived.Test.YtaalbbhebmpppaaProg
import Derived.Test.YtaalbbhebmpppaaTypes
import Derived.StillTailTactics
import Derived.Deep.RegionHeld3
import Derived.Laws.IdiomStrings
import Derived.Test.YtaalbbhebmpppaaAppend
import Derived.Laws.StructEq
import Derived.Lib.SliceRun
import Derived.Shelf.RegionOpenPlain
import Derived.Test.YtaalbbhebmpppaaEqSents
namespace Go.Proofs.Ytaalbbhebmpppaa
open Go.RowKit
set_option linter.unusedVariables false
set_option linter.unusedSimpArgs false

set_option maxHeartbeats 3200000 in
set_option maxRecDepth 100000 in
theorem impl_EqualEntities_calls (us : List Value) (x : GEntity) (us' : List Value) (y : GEntity) (w : World) (hr : RdLW w (eEntity x) us) (hr' : RdLW w (eEntity y) us') (hz : sizL (eEntity x) ≤ 1048576) (hz' : sizL (eEntity y) ≤ 1048576) :
    Calls Try.prog 22 #[.agg us.toArray, .agg us'.toArray] w fun e w' => e = .returned (.bool (sameEntity x y)) ∧ Below w.heap.size w w' := by
  obtain ⟨f0, f1, f2, f3, f4, f5, f6, f7, f8, f9, f10⟩ := x
  obtain ⟨f0', f1', f2', f3', f4', f5', f6', f7', f8', f9', f10'⟩ := y
  obtain ⟨v2, v6, v7, rfl, h2, h6, h7⟩ := rd_eEntity hr
  obtain ⟨A2, c2, rfl, ⟨_, _, hl2⟩⟩ := h2.slice
  obtain ⟨A6, c6, rfl, ⟨_, _, hl6⟩⟩ := h6.slice
  obtain ⟨A7, c7, rfl, ⟨_, _, hl7⟩⟩ := h7.slice
  obtain ⟨v2', v6', v7', rfl, h2', h6', h7'⟩ := rd_eEntity hr'
  obtain ⟨A2', c2', rfl, ⟨_, _, hl2'⟩⟩ := h2'.slice
  obtain ⟨A6', c6', rfl, ⟨_, _, hl6'⟩⟩ := h6'.slice
  obtain ⟨A7', c7', rfl, ⟨_, _, hl7'⟩⟩ := h7'.slice
  have hzq := hz
  have hzq' := hz'
  rw [siz_eEntity] at hzq hzq'
  dsimp only at h2 h2' hl2 hl2' h6 h6' hl6 hl6' h7 h7' hl7 hl7' hzq hzq' ⊢
  have HR2 := Lib.hid h2
  have HS2 := Lib.hid h2'
  have HR6 := Lib.hid h6
  have HS6 := Lib.hid h6'
  have HR7 := Lib.hid h7
  have HS7 := Lib.hid h7'
  clear hr hr' h2 h2' h6 h6' h7 h7' hz hz'
  have HB := Lib.hid (((Below.refl w.heap.size w).alloc (Nat.le_refl _) (.cells #[.int .i64 f0, .int .i64 f1, .slice A2 f2.length c2, .int .i64 f3, .int .i64 f4.Kind, .int .i64 f4.N, .slice A6 f5.length c6, .slice A7 f6.length c7, .int .i64 f7, .int .i64 f8, .int .i64 f9, .int .i64 f10] 37)).alloc (by simp) (.cells #[.int .i64 f0', .int .i64 f1', .slice A2' f2'.length c2', .int .i64 f3', .int .i64 f4'.Kind, .int .i64 f4'.N, .slice A6' f5'.length c6', .slice A7' f6'.length c7', .int .i64 f7', .int .i64 f8', .int .i64 f9', .int .i64 f10'] 37))
  have hev := run_eql_Value
  by_cases q0 : ¬ f0 = f0'
  · have HE : Hid (sameEntity ⟨f0, f1, f2, f3, f4, f5, f6, f7, f8, f9, f10⟩ ⟨f0', f1', f2', f3', f4', f5', f6', f7', f8', f9', f10'⟩ = false) := by unfold Hid; simp [sameEntity, q0]
    go_enter Try.func22, Try.ntmps22
    go_wp2
    go_ret
    exact ⟨by rw [HE.out]; first | rfl | exact congrArg (fun b => Ending.returned (Value.bool b)) (by simpa using q0 : (f0 == f0') = false), HB.out⟩
  replace q0 := Classical.not_not.1 q0
  subst q0
  by_cases q1 : ¬ f1 = f1'
  · have HE : Hid (sameEntity ⟨f0, f1, f2, f3, f4, f5, f6, f7, f8, f9, f10⟩ ⟨f0, f1', f2', f3', f4', f5', f6', f7', f8', f9', f10'⟩ = false) := by unfold Hid; simp [sameEntity, q1]
    go_enter Try.func22, Try.ntmps22
    go_wp2
    go_ret
    exact ⟨by rw [HE.out]; first | rfl | exact congrArg (fun b => Ending.returned (Value.bool b)) (by simpa using q1 : (f1 == f1') = false), HB.out⟩
  replace q1 := Classical.not_not.1 q1
  subst q1
  go_enter Try.func22, Try.ntmps22
  go_wp2_with fail
  refine (slices_Equal_Value_calls _ _ f2 f2' _ (HR2.out.below HB.out) (HS2.out.below HB.out)).mono ?_
  rintro e w1 ⟨rfl, hb1⟩
  have HW1 := Lib.hid (HB.out.trans (hb1.mono (by first | exact HB.out.size | (simp only [size_alloc]; omega))))
  have K1_1 : Hid (Blk w1 w.heap.size 37 #[.int .i64 f0, .int .i64 f1, .slice A2 f2.length c2, .int .i64 f3, .int .i64 f4.Kind, .int .i64 f4.N, .slice A6 f5.length c6, .slice A7 f6.length c7, .int .i64 f7, .int .i64 f8, .int .i64 f9, .int .i64 f10]) := Lib.hid (((Blk.new w 37 _).alloc _).below hb1)
  have K2_1 : Hid (Blk w1 (w.heap.size + 1) 37 #[.int .i64 f0, .int .i64 f1, .slice A2' f2'.length c2', .int .i64 f3', .int .i64 f4'.Kind, .int .i64 f4'.N, .slice A6' f5'.length c6', .slice A7' f6'.length c7', .int .i64 f7', .int .i64 f8', .int .i64 f9', .int .i64 f10']) := Lib.hid ((Blk.made (by simp)).below hb1)
  obtain ⟨k1_1, g1_1⟩ := K1_1.out.rules
  obtain ⟨k2_1, g2_1⟩ := K2_1.out.rules
  clear hb1
  rcases Bool.eq_false_or_eq_true (sameL eqbValue f2 f2') with s1 | s1
  rotate_left
  · have HE : Hid (sameEntity ⟨f0, f1, f2, f3, f4, f5, f6, f7, f8, f9, f10⟩ ⟨f0, f1, f2', f3', f4', f5', f6', f7', f8', f9', f10'⟩ = false) := by unfold Hid; simp [sameEntity, s1]
    rw [s1]
    go_wp2
    go_ret
    exact ⟨by rw [HE.out]; rfl, HW1.out⟩
  rw [s1]
  have S1 := Lib.hid s1
  clear s1
  by_cases q3 : ¬ f3 = f3'
  · have HE : Hid (sameEntity ⟨f0, f1, f2, f3, f4, f5, f6, f7, f8, f9, f10⟩ ⟨f0, f1, f2', f3', f4', f5', f6', f7', f8', f9', f10'⟩ = false) := by unfold Hid; simp [sameEntity, q3, S1.out]
    go_wp2
    go_ret
    exact ⟨by rw [HE.out]; first | rfl | exact congrArg (fun b => Ending.returned (Value.bool b)) (by simpa using q3 : (f3 == f3') = false), HW1.out⟩
  replace q3 := Classical.not_not.1 q3
  subst q3
  rcases Bool.eq_false_or_eq_true (eqbValue f4 f4') with q4 | q4
  rotate_left
  · have HE : Hid (sameEntity ⟨f0, f1, f2, f3, f4, f5, f6, f7, f8, f9, f10⟩ ⟨f0, f1, f2', f3, f4', f5', f6', f7', f8', f9', f10'⟩ = false) := by unfold Hid; simp [sameEntity, q4, S1.out]
    go_wp2
    go_ret
    exact ⟨by rw [HE.out]; rfl, HW1.out⟩
  replace q4 := (eqbValue_iff _ _).1 q4
  subst q4
  have r4 := eqbValue_refl f4
  go_wp2_with fail
  refine (impl_EqualSents_calls _ f5 _ f5' _ (HR6.out.below HW1.out) (HS6.out.below HW1.out) (by omega) (by omega)).mono ?_
  rintro e w2 ⟨rfl, hb2⟩
  have HW2 := Lib.hid (HW1.out.trans (hb2.mono (by first | exact HW1.out.size | (simp only [size_alloc]; omega))))
  have K1_2 := Lib.hid (K1_1.out.below hb2)
  have K2_2 := Lib.hid (K2_1.out.below hb2)
  obtain ⟨k1_2, g1_2⟩ := K1_2.out.rules
  obtain ⟨k2_2, g2_2⟩ := K2_2.out.rules
  clear hb2 k1_1 g1_1 k2_1 g2_1
  rcases Bool.eq_false_or_eq_true (sameSents f5 f5') with s2 | s2
  rotate_left
  · have HE : Hid (sameEntity ⟨f0, f1, f2, f3, f4, f5, f6, f7, f8, f9, f10⟩ ⟨f0, f1, f2', f3, f4, f5', f6', f7', f8', f9', f10'⟩ = false) := by unfold Hid; simp [sameEntity, s2, S1.out, eqbValue_refl]
    rw [s2]
    go_wp2
    go_ret
    exact ⟨by rw [HE.out]; rfl, HW2.out⟩
  rw [s2]
  have S2 := Lib.hid s2
  clear s2
  go_wp2_with fail
  refine (slices_Equal_Asker_calls _ _ f6 f6' _ (HR7.out.below HW2.out) (HS7.out.below HW2.out)).mono ?_
  rintro e w3 ⟨rfl, hb3⟩
  have HW3 := Lib.hid (HW2.out.trans (hb3.mono (by first | exact HW2.out.size | (simp only [size_alloc]; omega))))
  have K1_3 := Lib.hid (K1_2.out.below hb3)
  have K2_3 := Lib.hid (K2_2.out.below hb3)
  obtain ⟨k1_3, g1_3⟩ := K1_3.out.rules
  obtain ⟨k2_3, g2_3⟩ := K2_3.out.rules
  clear hb3 k1_2 g1_2 k2_2 g2_2
  rcases Bool.eq_false_or_eq_true (sameL eqbAsker f6 f6') with s3 | s3
  rotate_left
  · have HE : Hid (sameEntity ⟨f0, f1, f2, f3, f4, f5, f6, f7, f8, f9, f10⟩ ⟨f0, f1, f2', f3, f4, f5', f6', f7', f8', f9', f10'⟩ = false) := by unfold Hid; simp [sameEntity, s3, S1.out, eqbValue_refl, S2.out]
    rw [s3]
    go_wp2
    go_ret
    exact ⟨by rw [HE.out]; rfl, HW3.out⟩
  rw [s3]
  have S3 := Lib.hid s3
  clear s3
  by_cases q7 : ¬ f7 = f7'
  · have HE : Hid (sameEntity ⟨f0, f1, f2, f3, f4, f5, f6, f7, f8, f9, f10⟩ ⟨f0, f1, f2', f3, f4, f5', f6', f7', f8', f9', f10'⟩ = false) := by unfold Hid; simp [sameEntity, q7, S1.out, eqbValue_refl, S2.out, S3.out]
    go_wp2
    go_ret
    exact ⟨by rw [HE.out]; first | rfl | exact congrArg (fun b => Ending.returned (Value.bool b)) (by simpa using q7 : (f7 == f7') = false), HW3.out⟩
  replace q7 := Classical.not_not.1 q7
  subst q7
  by_cases q8 : ¬ f8 = f8'
  · have HE : Hid (sameEntity ⟨f0, f1, f2, f3, f4, f5, f6, f7, f8, f9, f10⟩ ⟨f0, f1, f2', f3, f4, f5', f6', f7, f8', f9', f10'⟩ = false) := by unfold Hid; simp [sameEntity, q8, S1.out, eqbValue_refl, S2.out, S3.out]
    go_wp2
    go_ret
    exact ⟨by rw [HE.out]; first | rfl | exact congrArg (fun b => Ending.returned (Value.bool b)) (by simpa using q8 : (f8 == f8') = false), HW3.out⟩
  replace q8 := Classical.not_not.1 q8
  subst q8
  by_cases q9 : ¬ f9 = f9'
  · have HE : Hid (sameEntity ⟨f0, f1, f2, f3, f4, f5, f6, f7, f8, f9, f10⟩ ⟨f0, f1, f2', f3, f4, f5', f6', f7, f8, f9', f10'⟩ = false) := by unfold Hid; simp [sameEntity, q9, S1.out, eqbValue_refl, S2.out, S3.out]
    go_wp2
    go_ret
    exact ⟨by rw [HE.out]; first | rfl | exact congrArg (fun b => Ending.returned (Value.bool b)) (by simpa using q9 : (f9 == f9') = false), HW3.out⟩
  replace q9 := Classical.not_not.1 q9
  subst q9
  by_cases q10 : ¬ f10 = f10'
  · have HE : Hid (sameEntity ⟨f0, f1, f2, f3, f4, f5, f6, f7, f8, f9, f10⟩ ⟨f0, f1, f2', f3, f4, f5', f6', f7, f8, f9, f10'⟩ = false) := by unfold Hid; simp [sameEntity, q10, S1.out, eqbValue_refl, S2.out, S3.out]
    go_wp2
    go_ret
    exact ⟨by rw [HE.out]; first | rfl | exact congrArg (fun b => Ending.returned (Value.bool b)) (by simpa using q10 : (f10 == f10') = false), HW3.out⟩
  replace q10 := Classical.not_not.1 q10
  subst q10
  have HE : Hid (sameEntity ⟨f0, f1, f2, f3, f4, f5, f6, f7, f8, f9, f10⟩ ⟨f0, f1, f2', f3, f4, f5', f6', f7, f8, f9, f10⟩ = true) := by unfold Hid; simp [sameEntity, S1.out, eqbValue_refl, S2.out, S3.out]
  go_wp2
  go_ret
  exact ⟨by rw [HE.out]; rfl, HW3.out⟩

end Go.Proofs.Ytaalbbhebmpppaa
