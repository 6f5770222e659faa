import Derived.Test.YtapbejepffpckaaProg
import Derived.Test.YtapbejepffpckaaTypes
import Derived.StillTailTactics
import Derived.Deep.RegionHeld3
import Derived.Laws.IdiomStrings
import Derived.Test.YtapbejepffpckaaAppend
import Derived.Laws.StructEq
import Derived.Lib.SliceRun
import Derived.Shelf.RegionOpenPlain
import Derived.Test.YtapbejepffpckaaEqEnt
import Derived.Test.YtapbejepffpckaaEqMsg
namespace Go.Proofs.Ytapbejepffpckaa
open Go.RowKit
set_option linter.unusedVariables false
set_option linter.unusedSimpArgs false

set_option maxHeartbeats 1600000 in
theorem impl_EqualVats1_calls (us : List Value) (x : GOutgoing) (us' : List Value) (y : GOutgoing) (w : World) (hr : RdLW w (eOutgoing x) us) (hr' : RdLW w (eOutgoing y) us') :
    Calls Try.prog 80 #[.agg us.toArray, .agg us'.toArray] w fun e w' => e = .returned (.bool (sameOut x y)) ∧ Below w.heap.size w w' := by
  obtain ⟨to, m⟩ := x
  obtain ⟨to', m'⟩ := y
  obtain ⟨v6, rfl, h6⟩ := rd_eOutgoing hr
  obtain ⟨u6, rfl, g6⟩ := rd_eOutgoing hr'
  obtain ⟨A6, c6, rfl, -⟩ := h6.slice
  obtain ⟨A6', c6', rfl, -⟩ := g6.slice
  dsimp only at h6 g6 ⊢
  have H6 := Lib.hid h6
  have G6 := Lib.hid g6
  clear hr hr' h6 g6
  have HB := Lib.hid (((Below.refl w.heap.size w).alloc (Nat.le_refl _) (.cells #[.int .i64 to, .int .i64 m.Kind, .int .i64 m.Pos, .int .i64 m.Answer, .int .i64 m.Question, .string m.Name, .slice A6 m.Args.length c6, .int .i64 m.Value.Kind, .int .i64 m.Value.N, .int .i64 m.Count, .int .i64 m.Tag.Vat, .int .i64 m.Tag.Entity, .int .i64 m.Tag.Seq] 97)).alloc (by simp) (.cells #[.int .i64 to', .int .i64 m'.Kind, .int .i64 m'.Pos, .int .i64 m'.Answer, .int .i64 m'.Question, .string m'.Name, .slice A6' m'.Args.length c6', .int .i64 m'.Value.Kind, .int .i64 m'.Value.N, .int .i64 m'.Count, .int .i64 m'.Tag.Vat, .int .i64 m'.Tag.Entity, .int .i64 m'.Tag.Seq] 97))
  by_cases q0 : ¬ to = to'
  · have HE : Hid (sameOut ⟨to, m⟩ ⟨to', m'⟩ = false) := by unfold Hid; simp [sameOut, q0]
    go_enter Try.func80, Try.ntmps80
    go_wp2
    go_ret
    exact ⟨by rw [HE.out]; rfl, HB.out⟩
  replace q0 := Classical.not_not.1 q0
  subst q0
  have HE : Hid (sameOut ⟨to, m⟩ ⟨to, m'⟩ = sameMessage m m') := by unfold Hid; simp [sameOut]
  have HC := Lib.hid (impl_equalMessage_calls _ m _ m' _ (mkrd_eMessage (H6.out.below HB.out)) (mkrd_eMessage (G6.out.below HB.out)))
  go_enter Try.func80, Try.ntmps80
  go_wp2_with fail
  refine HC.out.mono ?_
  rintro e w1 ⟨rfl, hb1⟩
  go_wp2
  go_ret
  exact ⟨by rw [HE.out]; rfl, HB.out.trans (hb1.mono HB.out.size)⟩
set_option maxHeartbeats 3200000 in
set_option maxRecDepth 100000 in
theorem impl_EqualVats_calls (us : List Value) (x : GVat) (us' : List Value) (y : GVat) (w : World) (hr : RdLW w (eVat x) us) (hr' : RdLW w (eVat y) us') (hz : sizL (eVat x) ≤ 1048576) (hz' : sizL (eVat y) ≤ 1048576) :
    Calls Try.prog 37 #[.agg us.toArray, .agg us'.toArray] w fun e w' => e = .returned (.bool (sameVat x y)) ∧ Below w.heap.size w w' := by
  obtain ⟨f0, f1, f2, f3, f4⟩ := x
  obtain ⟨f0', f1', f2', f3', f4'⟩ := y
  obtain ⟨v1, v2, v3, v4, rfl, h1, h2, h3, h4⟩ := rd_eVat hr
  obtain ⟨A1, c1, rfl, ⟨_, _, hl1⟩⟩ := h1.slice
  obtain ⟨A2, c2, rfl, ⟨_, _, hl2⟩⟩ := h2.slice
  obtain ⟨A3, c3, rfl, ⟨_, _, hl3⟩⟩ := h3.slice
  obtain ⟨A4, c4, rfl, ⟨_, _, hl4⟩⟩ := h4.slice
  obtain ⟨v1', v2', v3', v4', rfl, h1', h2', h3', h4'⟩ := rd_eVat hr'
  obtain ⟨A1', c1', rfl, ⟨_, _, hl1'⟩⟩ := h1'.slice
  obtain ⟨A2', c2', rfl, ⟨_, _, hl2'⟩⟩ := h2'.slice
  obtain ⟨A3', c3', rfl, ⟨_, _, hl3'⟩⟩ := h3'.slice
  obtain ⟨A4', c4', rfl, ⟨_, _, hl4'⟩⟩ := h4'.slice
  have hzq := hz
  have hzq' := hz'
  rw [siz_eVat] at hzq hzq'
  dsimp only at h1 h1' hl1 hl1' h2 h2' hl2 hl2' h3 h3' hl3 hl3' h4 h4' hl4 hl4' hzq hzq' ⊢
  have HR1 := Lib.hid h1
  have HS1 := Lib.hid h1'
  have HR2 := Lib.hid h2
  have HS2 := Lib.hid h2'
  have HR3 := Lib.hid h3
  have HS3 := Lib.hid h3'
  have HR4 := Lib.hid h4
  have HS4 := Lib.hid h4'
  clear hr hr' h1 h1' h2 h2' h3 h3' h4 h4' hz hz'
  have HB := Lib.hid (((Below.refl w.heap.size w).alloc (Nat.le_refl _) (.cells #[.int .i64 f0, .slice A1 f1.length c1, .slice A2 f2.length c2, .slice A3 f3.length c3, .slice A4 f4.length c4] 35)).alloc (by simp) (.cells #[.int .i64 f0', .slice A1' f1'.length c1', .slice A2' f2'.length c2', .slice A3' f3'.length c3', .slice A4' f4'.length c4'] 35))
  by_cases q0 : ¬ f0 = f0'
  · have HE : Hid (sameVat ⟨f0, f1, f2, f3, f4⟩ ⟨f0', f1', f2', f3', f4'⟩ = false) := by unfold Hid; simp [sameVat, q0]
    go_enter Try.func37, Try.ntmps37
    go_wp2
    go_ret
    exact ⟨by rw [HE.out]; first | rfl | exact congrArg (fun b => Ending.returned (Value.bool b)) (by simpa using q0 : (f0 == f0') = false), HB.out⟩
  replace q0 := Classical.not_not.1 q0
  subst q0
  go_enter Try.func37, Try.ntmps37
  go_wp2_with fail
  refine (slices_EqualFunc_Entity sameEntity 75 #[] (enters_of Try.func75 (by kernel_rfl) rfl) _ _ f1 f1' _ (HR1.out.below HB.out) (HS1.out.below HB.out) (fun W p q us us' _ hp hq hu hu' => impl_EqualEntities_calls us p us' q W hu hu' (by have h := sizL_flat_le eEntity f1 p hp; omega) (by have h := sizL_flat_le eEntity f1' q hq; omega))).mono ?_
  rintro e w1 ⟨rfl, hb1⟩
  have HW1 := Lib.hid (HB.out.trans (hb1.mono (by first | exact HB.out.size | (simp only [size_alloc]; omega))))
  have K1_1 : Hid (Blk w1 w.heap.size 35 #[.int .i64 f0, .slice A1 f1.length c1, .slice A2 f2.length c2, .slice A3 f3.length c3, .slice A4 f4.length c4]) := Lib.hid (((Blk.new w 35 _).alloc _).below hb1)
  have K2_1 : Hid (Blk w1 (w.heap.size + 1) 35 #[.int .i64 f0, .slice A1' f1'.length c1', .slice A2' f2'.length c2', .slice A3' f3'.length c3', .slice A4' f4'.length c4']) := Lib.hid ((Blk.made (by simp)).below hb1)
  obtain ⟨k1_1, g1_1⟩ := K1_1.out.rules
  obtain ⟨k2_1, g2_1⟩ := K2_1.out.rules
  clear hb1
  rcases Bool.eq_false_or_eq_true (sameL sameEntity f1 f1') with s1 | s1
  rotate_left
  · have HE : Hid (sameVat ⟨f0, f1, f2, f3, f4⟩ ⟨f0, f1', f2', f3', f4'⟩ = false) := by unfold Hid; simp [sameVat, s1]
    rw [s1]
    go_wp2
    go_ret
    exact ⟨by rw [HE.out]; rfl, HW1.out⟩
  rw [s1]
  have S1 := Lib.hid s1
  clear s1
  go_wp2_with fail
  refine (impl_EqualSents_calls _ f2 _ f2' _ (HR2.out.below HW1.out) (HS2.out.below HW1.out) (by omega) (by omega)).mono ?_
  rintro e w2 ⟨rfl, hb2⟩
  have HW2 := Lib.hid (HW1.out.trans (hb2.mono (by first | exact HW1.out.size | (simp only [size_alloc]; omega))))
  have K1_2 := Lib.hid (K1_1.out.below hb2)
  have K2_2 := Lib.hid (K2_1.out.below hb2)
  obtain ⟨k1_2, g1_2⟩ := K1_2.out.rules
  obtain ⟨k2_2, g2_2⟩ := K2_2.out.rules
  clear hb2 k1_1 g1_1 k2_1 g2_1
  rcases Bool.eq_false_or_eq_true (sameSents f2 f2') with s2 | s2
  rotate_left
  · have HE : Hid (sameVat ⟨f0, f1, f2, f3, f4⟩ ⟨f0, f1', f2', f3', f4'⟩ = false) := by unfold Hid; simp [sameVat, s2, S1.out]
    rw [s2]
    go_wp2
    go_ret
    exact ⟨by rw [HE.out]; rfl, HW2.out⟩
  rw [s2]
  have S2 := Lib.hid s2
  clear s2
  go_wp2_with fail
  refine (slices_EqualFunc_Link sameLink 78 #[] (enters_of Try.func78 (by kernel_rfl) rfl) _ _ f3 f3' _ (HR3.out.below HW2.out) (HS3.out.below HW2.out) (fun W p q us us' _ hp hq hu hu' => impl_EqualLinks_calls us p us' q W hu hu' (by have h := sizL_flat_le eLink f3 p hp; omega) (by have h := sizL_flat_le eLink f3' q hq; omega))).mono ?_
  rintro e w3 ⟨rfl, hb3⟩
  have HW3 := Lib.hid (HW2.out.trans (hb3.mono (by first | exact HW2.out.size | (simp only [size_alloc]; omega))))
  have K1_3 := Lib.hid (K1_2.out.below hb3)
  have K2_3 := Lib.hid (K2_2.out.below hb3)
  obtain ⟨k1_3, g1_3⟩ := K1_3.out.rules
  obtain ⟨k2_3, g2_3⟩ := K2_3.out.rules
  clear hb3 k1_2 g1_2 k2_2 g2_2
  rcases Bool.eq_false_or_eq_true (sameL sameLink f3 f3') with s3 | s3
  rotate_left
  · have HE : Hid (sameVat ⟨f0, f1, f2, f3, f4⟩ ⟨f0, f1', f2', f3', f4'⟩ = false) := by unfold Hid; simp [sameVat, s3, S1.out, S2.out]
    rw [s3]
    go_wp2
    go_ret
    exact ⟨by rw [HE.out]; rfl, HW3.out⟩
  rw [s3]
  have S3 := Lib.hid s3
  clear s3
  go_wp2_with fail
  refine (slices_EqualFunc_Outgoing sameOut 80 #[] (enters_of Try.func80 (by kernel_rfl) rfl) _ _ f4 f4' _ (HR4.out.below HW3.out) (HS4.out.below HW3.out) (fun W p q us us' _ hp hq hu hu' => impl_EqualVats1_calls us p us' q W hu hu')).mono ?_
  rintro e w4 ⟨rfl, hb4⟩
  have HW4 := Lib.hid (HW3.out.trans (hb4.mono (by first | exact HW3.out.size | (simp only [size_alloc]; omega))))
  have K1_4 := Lib.hid (K1_3.out.below hb4)
  have K2_4 := Lib.hid (K2_3.out.below hb4)
  obtain ⟨k1_4, g1_4⟩ := K1_4.out.rules
  obtain ⟨k2_4, g2_4⟩ := K2_4.out.rules
  clear hb4 k1_3 g1_3 k2_3 g2_3
  rcases Bool.eq_false_or_eq_true (sameL sameOut f4 f4') with s4 | s4
  rotate_left
  · have HE : Hid (sameVat ⟨f0, f1, f2, f3, f4⟩ ⟨f0, f1', f2', f3', f4'⟩ = false) := by unfold Hid; simp [sameVat, s4, S1.out, S2.out, S3.out]
    rw [s4]
    go_wp2
    go_ret
    exact ⟨by rw [HE.out]; rfl, HW4.out⟩
  rw [s4]
  have S4 := Lib.hid s4
  clear s4
  have HE : Hid (sameVat ⟨f0, f1, f2, f3, f4⟩ ⟨f0, f1', f2', f3', f4'⟩ = true) := by unfold Hid; simp [sameVat, S1.out, S2.out, S3.out, S4.out]
  go_wp2
  go_ret
  exact ⟨by rw [HE.out]; rfl, HW4.out⟩

end Go.Proofs.Ytapbejepffpckaa
