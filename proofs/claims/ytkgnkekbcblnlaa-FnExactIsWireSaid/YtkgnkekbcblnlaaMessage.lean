import Derived.Test.YtkgnkekbcblnlaaProg
import Derived.Test.YtkgnkekbcblnlaaTypes
import Derived.StillTailTactics
import Derived.Deep.RegionHeld3
import Derived.Laws.IdiomStrings
import Derived.Test.YtkgnkekbcblnlaaAppend
import Derived.Laws.StructEq
import Derived.Lib.SliceRun
import Derived.Shelf.RegionOpenPlain
import Derived.Test.YtkgnkekbcblnlaaHelp
import Derived.Test.YtkgnkekbcblnlaaCommon
import Derived.Test.YtkgnkekbcblnlaaPureMessage
namespace Go.Proofs.Ytkgnkekbcblnlaa
open Go.RowKit
set_option linter.unusedVariables false
set_option linter.unusedSimpArgs false

set_option maxHeartbeats 400000 in
theorem impl_named_calls (a : Int) (w : World) : Calls Try.prog 74 #[.int .i64 a] w fun e w' => e = .returned (.bool (inR a 1 999999)) ∧ w' = w := by
  go_enter Try.func74, Try.ntmps74
  go_wp2_with (go_at_call 60; refine (impl_in_calls _ _ _ _).mono ?_; rintro e w1 ⟨rfl, rfl⟩)
  go_ret
  exact ⟨rfl, rfl⟩
set_option maxHeartbeats 400000 in
theorem spec_l11One_calls (a : Int) (w : World) : Calls Try.prog 54 #[.int .i64 a] w fun e w' => e = .returned (.bool (inR a 1 999999)) ∧ w' = w := by
  go_enter Try.func54, Try.ntmps54
  go_wp2_with (go_at_call 42; refine (spec_l1In_calls _ _ _ _).mono ?_; rintro e w1 ⟨rfl, rfl⟩)
  go_ret
  exact ⟨rfl, rfl⟩
set_option maxHeartbeats 800000 in
theorem spec_IsWire_calls (us : List Value) (x : GWire) (w : World) (hr : RdLW w (eWire x) us) :
    Calls Try.prog 11 #[.agg us.toArray] w fun e w' => e = .returned (.bool (isWireB x)) ∧ Below w.heap.size w w' := by
  obtain rfl := rd_eWire hr
  obtain ⟨k, n⟩ := x
  clear hr
  dsimp only
  have HB := Lib.hid ((Below.refl w.heap.size w).alloc (Nat.le_refl _) (.cells #[.int .i64 k, .int .i64 n] 25))
  by_cases h0 : k = 0
  · subst h0
    go_enter Try.func11, Try.ntmps11
    go_wp2_with (go_at_call 42; refine (spec_l1In_calls _ _ _ _).mono ?_; rintro e w1 ⟨rfl, rfl⟩)
    go_ret
    exact ⟨rfl, HB.out⟩
  by_cases h1 : k = 1
  · subst h1
    go_enter Try.func11, Try.ntmps11
    go_wp2_with (go_at_call 42; refine (spec_l1In_calls _ _ _ _).mono ?_; rintro e w1 ⟨rfl, rfl⟩)
    go_ret
    exact ⟨rfl, HB.out⟩
  by_cases h2 : k = 2
  · subst h2
    go_enter Try.func11, Try.ntmps11
    go_wp2_with (go_at_call 42; refine (spec_l1In_calls _ _ _ _).mono ?_; rintro e w1 ⟨rfl, rfl⟩)
    go_ret
    exact ⟨rfl, HB.out⟩
  by_cases h3 : k = 3
  · subst h3
    by_cases hn : n = 0
    · subst hn
      go_enter Try.func11, Try.ntmps11
      go_wp2
      go_ret
      exact ⟨rfl, HB.out⟩
    · have HE : Hid (isWireB ⟨3, n⟩ = false) := by unfold Hid isWireB; simp [hn]
      have hnb : (n == 0) = false := by simpa using hn
      go_enter Try.func11, Try.ntmps11
      go_wp2
      go_ret
      exact ⟨by rw [HE.out]; rfl, HB.out⟩
  · have HE : Hid (isWireB ⟨k, n⟩ = false) := by unfold Hid isWireB; simp [h0, h1, h2, h3]
    go_enter Try.func11, Try.ntmps11
    go_wp2
    go_ret
    exact ⟨by rw [HE.out]; rfl, HB.out⟩
set_option maxHeartbeats 800000 in
theorem impl_isWire_calls (us : List Value) (x : GWire) (w : World) (hr : RdLW w (eWire x) us) :
    Calls Try.prog 43 #[.agg us.toArray] w fun e w' => e = .returned (.bool (isWireB x)) ∧ Below w.heap.size w w' := by
  obtain rfl := rd_eWire hr
  obtain ⟨k, n⟩ := x
  clear hr
  dsimp only
  have HB := Lib.hid ((Below.refl w.heap.size w).alloc (Nat.le_refl _) (.cells #[.int .i64 k, .int .i64 n] 25))
  by_cases h0 : k = 0
  · subst h0
    go_enter Try.func43, Try.ntmps43
    go_wp2_with (go_at_call 60; refine (impl_in_calls _ _ _ _).mono ?_; rintro e w1 ⟨rfl, rfl⟩)
    go_ret
    exact ⟨rfl, HB.out⟩
  by_cases h1 : k = 1
  · subst h1
    go_enter Try.func43, Try.ntmps43
    go_wp2_with (go_at_call 74; refine (impl_named_calls _ _).mono ?_; rintro e w1 ⟨rfl, rfl⟩)
    go_ret
    exact ⟨rfl, HB.out⟩
  by_cases h2 : k = 2
  · subst h2
    go_enter Try.func43, Try.ntmps43
    go_wp2_with (go_at_call 74; refine (impl_named_calls _ _).mono ?_; rintro e w1 ⟨rfl, rfl⟩)
    go_ret
    exact ⟨rfl, HB.out⟩
  by_cases h3 : k = 3
  · subst h3
    by_cases hn : n = 0
    · subst hn
      go_enter Try.func43, Try.ntmps43
      go_wp2
      go_ret
      exact ⟨rfl, HB.out⟩
    · have HE : Hid (isWireB ⟨3, n⟩ = false) := by unfold Hid isWireB; simp [hn]
      have hnb : (n == 0) = false := by simpa using hn
      go_enter Try.func43, Try.ntmps43
      go_wp2
      go_ret
      exact ⟨by rw [HE.out]; rfl, HB.out⟩
  · have HE : Hid (isWireB ⟨k, n⟩ = false) := by unfold Hid isWireB; simp [h0, h1, h2, h3]
    go_enter Try.func43, Try.ntmps43
    go_wp2
    go_ret
    exact ⟨by rw [HE.out]; rfl, HB.out⟩
set_option maxHeartbeats 400000 in
theorem impl_IsWire_calls (us : List Value) (x : GWire) (w : World) (hr : RdLW w (eWire x) us) :
    Calls Try.prog 13 #[.agg us.toArray] w fun e w' => e = .returned (.bool (isWireB x)) ∧ Below w.heap.size w w' := by
  have hcon := Lib.hid (impl_isWire_calls us x (w.alloc (.cells us.toArray 25)) (hr.below ((Below.refl _ _).alloc (Nat.le_refl _) _)))
  obtain rfl := rd_eWire hr
  clear hr
  go_enter Try.func13, Try.ntmps13
  go_wp2_with (go_at_call 43; refine hcon.out.mono ?_; rintro e w1 ⟨rfl, hb1⟩)
  go_ret
  exact ⟨rfl, ((Below.refl _ _).alloc (Nat.le_refl _) _).trans (hb1.mono (by simp only [size_alloc]; omega))⟩

end Go.Proofs.Ytkgnkekbcblnlaa
