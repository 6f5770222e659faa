import Derived.Test.YtiohoeafdaihpaaProg
import Derived.Test.YtiohoeafdaihpaaTypes
import Derived.StillTailTactics
import Derived.Deep.RegionHeld3
import Derived.Laws.IdiomStrings
import Derived.Test.YtiohoeafdaihpaaAppend
import Derived.Laws.StructEq
import Derived.Lib.SliceRun
import Derived.Shelf.RegionOpenPlain
import Derived.Test.YtiohoeafdaihpaaPureFirst2
import Derived.Test.YtiohoeafdaihpaaFirstI
import Derived.Test.YtiohoeafdaihpaaFirstS
import Derived.Test.YtiohoeafdaihpaaIsMethod
namespace Go.Proofs.Ytiohoeafdaihpaa
open Go.RowKit
set_option linter.unusedVariables false
set_option linter.unusedSimpArgs false

set_option maxHeartbeats 1600000 in
theorem impl_isSafe_calls (us : List Value) (x : GMethod) (w : World) (hr : RdLW w (eMethod x) us) (hz : sizL (eMethod x) ≤ 1048576) :
    Calls Try.prog 31 #[.agg us.toArray] w fun e w' => e = .returned (.bool (safeB x)) ∧ Below w.heap.size w w' := by
  obtain ⟨v1, rfl, h1⟩ := rd_eMethod hr
  obtain ⟨A, c, rfl, ⟨_, _, hl⟩⟩ := h1.slice
  have HBL := Lib.hid (Blk.new w 29 #[.string x.Name, .slice A x.Code.length c])
  have HM := Lib.hid (impl_isMethod_calls _ x (w.alloc (.cells #[.string x.Name, .slice A x.Code.length c] 29)) (hr.below ((Below.refl _ w).alloc (Nat.le_refl _) _)) hz)
  have HRL := Lib.hid hr
  rcases Bool.eq_false_or_eq_true (methodB x) with q1 | q1
  rotate_left
  · have HE : Hid (safeB x = false) := by unfold Hid safeB; rw [q1]; rfl
    clear hr h1
    go_enter Try.func31, Try.ntmps31
    go_wp2_with (first | (go_at_call 60; refine HM.out.mono ?_; rintro e w1 ⟨rfl, hb1⟩; rw [q1]; obtain ⟨kb, kf⟩ := (HBL.out.below hb1).rules; have lb := (HBL.out.below hb1).lt))
    go_ret
    exact ⟨by rw [HE.out]; rfl, ((Below.refl _ _).alloc (Nat.le_refl _) _).trans (hb1.mono (by simp))⟩
  have HE : Hid (safeB x = (firstI x.Code == -1)) := by unfold Hid safeB; rw [q1, Bool.true_and]
  clear hr h1
  obtain ⟨k, hk⟩ : ∃ k, k = firstI x.Code := ⟨_, rfl⟩
  rw [← hk] at HE
  have HK := Lib.hid hk
  clear hk
  go_enter Try.func31, Try.ntmps31
  go_wp2_with fail
  refine HM.out.mono ?_
  rintro e w1 ⟨rfl, hb1⟩
  rw [q1]
  obtain ⟨kb, kf⟩ := (HBL.out.below hb1).rules
  have lb := (HBL.out.below hb1).lt
  have HB1 := Lib.hid (((Below.refl w.heap.size w).alloc (Nat.le_refl _) (.cells #[.string x.Name, .slice A x.Code.length c] 29)).trans (hb1.mono (by simp)))
  have HF := Lib.hid (impl_FirstUnset_calls _ x w1 (HRL.out.below HB1.out) hz)
  rw [← HK.out] at HF
  clear hb1
  go_wp2_with fail
  refine HF.out.mono ?_
  rintro e w2 ⟨rfl, hb2⟩
  go_wp2
  go_ret
  exact ⟨by rw [HE.out]; rfl, HB1.out.trans (hb2.mono HB1.out.size)⟩
set_option maxHeartbeats 1600000 in
theorem impl_IsSafe_calls (us : List Value) (x : GMethod) (w : World) (hr : RdLW w (eMethod x) us) (hz : sizL (eMethod x) ≤ 1048576) :
    Calls Try.prog 9 #[.agg us.toArray] w fun e w' => e = .returned (.bool (safeB x)) ∧ Below w.heap.size w w' := by
  obtain ⟨v1, rfl, h1⟩ := rd_eMethod hr
  obtain ⟨A, c, rfl, ⟨_, _, hl⟩⟩ := h1.slice
  have HM := Lib.hid (impl_isSafe_calls _ x (w.alloc (.cells #[.string x.Name, .slice A x.Code.length c] 29)) (hr.below ((Below.refl _ w).alloc (Nat.le_refl _) _)) hz)
  clear hr h1
  go_enter Try.func9, Try.ntmps9
  go_wp2_with fail
  refine HM.out.mono ?_
  rintro e w1 ⟨rfl, hb1⟩
  go_wp2
  go_ret
  exact ⟨rfl, ((Below.refl _ _).alloc (Nat.le_refl _) _).trans (hb1.mono (by simp))⟩
set_option maxHeartbeats 1600000 in
theorem spec_IsSafe_calls (us : List Value) (x : GMethod) (w : World) (hr : RdLW w (eMethod x) us) (hz : sizL (eMethod x) ≤ 1048576) :
    Calls Try.prog 7 #[.agg us.toArray] w fun e w' => e = .returned (.bool (safeB x)) ∧ Below w.heap.size w w' := by
  obtain ⟨v1, rfl, h1⟩ := rd_eMethod hr
  obtain ⟨A, c, rfl, ⟨_, _, hl⟩⟩ := h1.slice
  have HBL := Lib.hid (Blk.new w 29 #[.string x.Name, .slice A x.Code.length c])
  have HM := Lib.hid (spec_IsMethod_calls _ x (w.alloc (.cells #[.string x.Name, .slice A x.Code.length c] 29)) (hr.below ((Below.refl _ w).alloc (Nat.le_refl _) _)) hz)
  have HRL := Lib.hid hr
  rcases Bool.eq_false_or_eq_true (methodB x) with q1 | q1
  rotate_left
  · have HE : Hid (safeB x = false) := by unfold Hid safeB; rw [q1]; rfl
    clear hr h1
    go_enter Try.func7, Try.ntmps7
    go_wp2_with (first | (go_at_call 29; refine HM.out.mono ?_; rintro e w1 ⟨rfl, hb1⟩; rw [q1]; obtain ⟨kb, kf⟩ := (HBL.out.below hb1).rules; have lb := (HBL.out.below hb1).lt))
    go_ret
    exact ⟨by rw [HE.out]; rfl, ((Below.refl _ _).alloc (Nat.le_refl _) _).trans (hb1.mono (by simp))⟩
  have HE : Hid (safeB x = decide (firstS x.Code < 0)) := by unfold Hid; exact safe_s q1
  clear hr h1
  obtain ⟨k, hk⟩ : ∃ k, k = firstS x.Code := ⟨_, rfl⟩
  rw [← hk] at HE
  have HK := Lib.hid hk
  clear hk
  go_enter Try.func7, Try.ntmps7
  go_wp2_with fail
  refine HM.out.mono ?_
  rintro e w1 ⟨rfl, hb1⟩
  rw [q1]
  obtain ⟨kb, kf⟩ := (HBL.out.below hb1).rules
  have lb := (HBL.out.below hb1).lt
  have HB1 := Lib.hid (((Below.refl w.heap.size w).alloc (Nat.le_refl _) (.cells #[.string x.Name, .slice A x.Code.length c] 29)).trans (hb1.mono (by simp)))
  have HF := Lib.hid (spec_FirstUnset_calls _ x w1 (HRL.out.below HB1.out) hz)
  rw [← HK.out] at HF
  clear hb1
  go_wp2_with fail
  refine HF.out.mono ?_
  rintro e w2 ⟨rfl, hb2⟩
  go_wp2
  go_ret
  exact ⟨by rw [HE.out]; rfl, HB1.out.trans (hb2.mono HB1.out.size)⟩

end Go.Proofs.Ytiohoeafdaihpaa
