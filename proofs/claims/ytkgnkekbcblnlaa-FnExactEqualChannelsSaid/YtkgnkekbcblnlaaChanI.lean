import Derived.Test.YtkgnkekbcblnlaaProg
import Derived.Test.YtkgnkekbcblnlaaTypes
import Derived.StillTailTactics
import Derived.Deep.RegionHeld3
import Derived.Laws.IdiomStrings
import Derived.Test.YtkgnkekbcblnlaaAppend
import Derived.Laws.StructEq
import Derived.Lib.SliceRun
import Derived.Shelf.RegionOpenPlain
import Derived.Test.YtkgnkekbcblnlaaSlicesF
import Derived.Test.YtkgnkekbcblnlaaEqMsg
namespace Go.Proofs.Ytkgnkekbcblnlaa
open Go.RowKit
set_option linter.unusedVariables false
set_option linter.unusedSimpArgs false

set_option maxHeartbeats 3200000 in
set_option maxRecDepth 100000 in
theorem impl_EqualChannels1_calls (us : List Value) (x : GChannel) (us' : List Value) (y : GChannel) (w : World) (hr : RdLW w (eChannel x) us) (hr' : RdLW w (eChannel y) us') :
    Calls Try.prog 58 #[.agg us.toArray, .agg us'.toArray] w fun e w' => e = .returned (.bool (eqChan x y)) ∧ Below w.heap.size w w' := by
  obtain ⟨f0, f1, f2⟩ := x
  obtain ⟨f0', f1', f2'⟩ := y
  obtain ⟨v2, rfl, h2⟩ := rd_eChannel hr
  obtain ⟨A2, c2, rfl, ⟨_, _, hl2⟩⟩ := h2.slice
  obtain ⟨v2', rfl, h2'⟩ := rd_eChannel hr'
  obtain ⟨A2', c2', rfl, ⟨_, _, hl2'⟩⟩ := h2'.slice
  dsimp only at h2 h2' hl2 hl2' ⊢
  have HR2 := Lib.hid h2
  have HS2 := Lib.hid h2'
  clear hr hr' h2 h2'
  have HB := Lib.hid (((Below.refl w.heap.size w).alloc (Nat.le_refl _) (.cells #[.int .i64 f0, .int .i64 f1, .slice A2 f2.length c2] 76)).alloc (by simp) (.cells #[.int .i64 f0', .int .i64 f1', .slice A2' f2'.length c2'] 76))
  by_cases q0 : ¬ f0 = f0'
  · have HE : Hid (eqChan ⟨f0, f1, f2⟩ ⟨f0', f1', f2'⟩ = false) := by unfold Hid; simp [eqChan, q0]
    go_enter Try.func58, Try.ntmps58
    go_wp2
    go_ret
    exact ⟨by rw [HE.out]; first | rfl | exact congrArg (fun b => Ending.returned (Value.bool b)) (by simpa using q0 : (f0 == f0') = false), HB.out⟩
  replace q0 := Classical.not_not.1 q0
  subst q0
  by_cases q1 : ¬ f1 = f1'
  · have HE : Hid (eqChan ⟨f0, f1, f2⟩ ⟨f0, f1', f2'⟩ = false) := by unfold Hid; simp [eqChan, q1]
    go_enter Try.func58, Try.ntmps58
    go_wp2
    go_ret
    exact ⟨by rw [HE.out]; first | rfl | exact congrArg (fun b => Ending.returned (Value.bool b)) (by simpa using q1 : (f1 == f1') = false), HB.out⟩
  replace q1 := Classical.not_not.1 q1
  subst q1
  go_enter Try.func58, Try.ntmps58
  go_wp2_with fail
  refine (slices_EqualFunc_Message sameMessage 47 #[] (enters_of Try.func47 (by kernel_rfl) rfl) _ _ f2 f2' _ (HR2.out.below HB.out) (HS2.out.below HB.out) (fun W p q us us' _ _ _ hu hu' => impl_equalMessage_calls us p us' q W hu hu')).mono ?_
  rintro e w1 ⟨rfl, hb1⟩
  have HW1 := Lib.hid (HB.out.trans (hb1.mono (by first | exact HB.out.size | (simp only [size_alloc]; omega))))
  have K1_1 : Hid (Blk w1 w.heap.size 76 #[.int .i64 f0, .int .i64 f1, .slice A2 f2.length c2]) := Lib.hid (((Blk.new w 76 _).alloc _).below hb1)
  have K2_1 : Hid (Blk w1 (w.heap.size + 1) 76 #[.int .i64 f0, .int .i64 f1, .slice A2' f2'.length c2']) := Lib.hid ((Blk.made (by simp)).below hb1)
  obtain ⟨k1_1, g1_1⟩ := K1_1.out.rules
  obtain ⟨k2_1, g2_1⟩ := K2_1.out.rules
  clear hb1
  rcases Bool.eq_false_or_eq_true (sameL sameMessage f2 f2') with s1 | s1
  rotate_left
  · have HE : Hid (eqChan ⟨f0, f1, f2⟩ ⟨f0, f1, f2'⟩ = false) := by unfold Hid; simp [eqChan, s1]
    rw [s1]
    go_wp2
    go_ret
    exact ⟨by rw [HE.out]; rfl, HW1.out⟩
  rw [s1]
  have S1 := Lib.hid s1
  clear s1
  have HE : Hid (eqChan ⟨f0, f1, f2⟩ ⟨f0, f1, f2'⟩ = true) := by unfold Hid; simp [eqChan, S1.out]
  go_wp2
  go_ret
  exact ⟨by rw [HE.out]; rfl, HW1.out⟩

set_option maxHeartbeats 800000 in
theorem impl_EqualChannels_calls (v : Value) (xs : List GChannel) (v' : Value) (ys : List GChannel) (w : World) (hr : RdW w (.s xs.length (xs.flatMap eChannel)) v) (hr' : RdW w (.s ys.length (ys.flatMap eChannel)) v') (hz : xs.length + sizL (xs.flatMap eChannel) ≤ 1048576) (hz' : ys.length + sizL (ys.flatMap eChannel) ≤ 1048576) :
    Calls Try.prog 27 #[v, v'] w fun e w' => e = .returned (.bool (sameChannels xs ys)) ∧ Below w.heap.size w w' := by
  have HC := Lib.hid (slices_EqualFunc_Channel eqChan 58 #[] (enters_of Try.func58 (by kernel_rfl) rfl) v v' xs ys w hr hr' (fun W x y us us' _ _ _ hu hu' => impl_EqualChannels1_calls us x us' y W hu hu'))
  obtain ⟨A, c, rfl, -⟩ := hr.slice
  obtain ⟨A', c', rfl, -⟩ := hr'.slice
  clear hr hr'
  go_enter Try.func27, Try.ntmps27
  go_wp2_with fail
  refine HC.out.mono ?_
  rintro e w1 ⟨rfl, hb1⟩
  go_wp2
  go_ret
  exact ⟨rfl, hb1⟩

end Go.Proofs.Ytkgnkekbcblnlaa
