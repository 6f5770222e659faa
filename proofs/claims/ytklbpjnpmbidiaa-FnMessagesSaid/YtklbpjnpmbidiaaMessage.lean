import Derived.Test.YtklbpjnpmbidiaaProg
import Derived.Test.YtklbpjnpmbidiaaTypes
import Derived.StillTailTactics
import Derived.Deep.RegionHeld3
import Derived.Laws.IdiomStrings
import Derived.Test.YtklbpjnpmbidiaaAppend
import Derived.Laws.StructEq
import Derived.Lib.SliceRun
import Derived.Shelf.RegionOpenPlain
import Derived.Test.YtklbpjnpmbidiaaHelp
import Derived.Test.YtklbpjnpmbidiaaCommon
import Derived.Test.YtklbpjnpmbidiaaPureMessage
import Derived.Test.YtklbpjnpmbidiaaSlices
import Derived.Test.YtklbpjnpmbidiaaEqMsg
namespace Go.Proofs.Ytklbpjnpmbidiaa
open Go.RowKit
set_option linter.unusedVariables false
set_option linter.unusedSimpArgs false

set_option maxHeartbeats 400000 in
theorem impl_named_calls (a : Int) (w : World) : Calls Try.prog 49 #[.int .i64 a] w fun e w' => e = .returned (.bool (inR a 1 999999)) ∧ w' = w := by
  go_enter Try.func49, Try.ntmps49
  go_wp2_with (go_at_call 45; refine (impl_in_calls _ _ _ _).mono ?_; rintro e w1 ⟨rfl, rfl⟩)
  go_ret
  exact ⟨rfl, rfl⟩
set_option maxHeartbeats 400000 in
theorem spec_l11One_calls (a : Int) (w : World) : Calls Try.prog 37 #[.int .i64 a] w fun e w' => e = .returned (.bool (inR a 1 999999)) ∧ w' = w := by
  go_enter Try.func37, Try.ntmps37
  go_wp2_with (go_at_call 39; refine (spec_l1In_calls _ _ _ _).mono ?_; rintro e w1 ⟨rfl, rfl⟩)
  go_ret
  exact ⟨rfl, rfl⟩
set_option maxHeartbeats 800000 in
theorem spec_IsWire_calls (us : List Value) (x : GWire) (w : World) (hr : RdLW w (eWire x) us) :
    Calls Try.prog 36 #[.agg us.toArray] w fun e w' => e = .returned (.bool (isWireB x)) ∧ Below w.heap.size w w' := by
  obtain rfl := rd_eWire hr
  obtain ⟨k, n⟩ := x
  clear hr
  dsimp only
  have HB := Lib.hid ((Below.refl w.heap.size w).alloc (Nat.le_refl _) (.cells #[.int .i64 k, .int .i64 n] 25))
  by_cases h0 : k = 0
  · subst h0
    go_enter Try.func36, Try.ntmps36
    go_wp2_with (go_at_call 39; refine (spec_l1In_calls _ _ _ _).mono ?_; rintro e w1 ⟨rfl, rfl⟩)
    go_ret
    exact ⟨rfl, HB.out⟩
  by_cases h1 : k = 1
  · subst h1
    go_enter Try.func36, Try.ntmps36
    go_wp2_with (go_at_call 39; refine (spec_l1In_calls _ _ _ _).mono ?_; rintro e w1 ⟨rfl, rfl⟩)
    go_ret
    exact ⟨rfl, HB.out⟩
  by_cases h2 : k = 2
  · subst h2
    go_enter Try.func36, Try.ntmps36
    go_wp2_with (go_at_call 39; refine (spec_l1In_calls _ _ _ _).mono ?_; rintro e w1 ⟨rfl, rfl⟩)
    go_ret
    exact ⟨rfl, HB.out⟩
  by_cases h3 : k = 3
  · subst h3
    by_cases hn : n = 0
    · subst hn
      go_enter Try.func36, Try.ntmps36
      go_wp2
      go_ret
      exact ⟨rfl, HB.out⟩
    · have HE : Hid (isWireB ⟨3, n⟩ = false) := by unfold Hid isWireB; simp [hn]
      have hnb : (n == 0) = false := by simpa using hn
      go_enter Try.func36, Try.ntmps36
      go_wp2
      go_ret
      exact ⟨by rw [HE.out]; rfl, HB.out⟩
  · have HE : Hid (isWireB ⟨k, n⟩ = false) := by unfold Hid isWireB; simp [h0, h1, h2, h3]
    go_enter Try.func36, Try.ntmps36
    go_wp2
    go_ret
    exact ⟨by rw [HE.out]; rfl, HB.out⟩
set_option maxHeartbeats 800000 in
theorem impl_isWire_calls (us : List Value) (x : GWire) (w : World) (hr : RdLW w (eWire x) us) :
    Calls Try.prog 53 #[.agg us.toArray] w fun e w' => e = .returned (.bool (isWireB x)) ∧ Below w.heap.size w w' := by
  obtain rfl := rd_eWire hr
  obtain ⟨k, n⟩ := x
  clear hr
  dsimp only
  have HB := Lib.hid ((Below.refl w.heap.size w).alloc (Nat.le_refl _) (.cells #[.int .i64 k, .int .i64 n] 25))
  by_cases h0 : k = 0
  · subst h0
    go_enter Try.func53, Try.ntmps53
    go_wp2_with (go_at_call 45; refine (impl_in_calls _ _ _ _).mono ?_; rintro e w1 ⟨rfl, rfl⟩)
    go_ret
    exact ⟨rfl, HB.out⟩
  by_cases h1 : k = 1
  · subst h1
    go_enter Try.func53, Try.ntmps53
    go_wp2_with (go_at_call 49; refine (impl_named_calls _ _).mono ?_; rintro e w1 ⟨rfl, rfl⟩)
    go_ret
    exact ⟨rfl, HB.out⟩
  by_cases h2 : k = 2
  · subst h2
    go_enter Try.func53, Try.ntmps53
    go_wp2_with (go_at_call 49; refine (impl_named_calls _ _).mono ?_; rintro e w1 ⟨rfl, rfl⟩)
    go_ret
    exact ⟨rfl, HB.out⟩
  by_cases h3 : k = 3
  · subst h3
    by_cases hn : n = 0
    · subst hn
      go_enter Try.func53, Try.ntmps53
      go_wp2
      go_ret
      exact ⟨rfl, HB.out⟩
    · have HE : Hid (isWireB ⟨3, n⟩ = false) := by unfold Hid isWireB; simp [hn]
      have hnb : (n == 0) = false := by simpa using hn
      go_enter Try.func53, Try.ntmps53
      go_wp2
      go_ret
      exact ⟨by rw [HE.out]; rfl, HB.out⟩
  · have HE : Hid (isWireB ⟨k, n⟩ = false) := by unfold Hid isWireB; simp [h0, h1, h2, h3]
    go_enter Try.func53, Try.ntmps53
    go_wp2
    go_ret
    exact ⟨by rw [HE.out]; rfl, HB.out⟩
set_option maxHeartbeats 800000 in
theorem impl_EqualMessages_calls (us : List Value) (x : GMessage) (us' : List Value) (y : GMessage) (w : World) (hr : RdLW w (eMessage x) us) (hr' : RdLW w (eMessage y) us') (hz : sizL (eMessage x) ≤ 1048576) (hz' : sizL (eMessage y) ≤ 1048576) :
    Calls Try.prog 17 #[.agg us.toArray, .agg us'.toArray] w fun e w' => e = .returned (.bool (sameMessage x y)) ∧ Below w.heap.size w w' := by
  have hcon := Lib.hid (impl_equalMessage_calls us x us' y ((w.alloc (.cells us.toArray 29)).alloc (.cells us'.toArray 29)) (hr.below (((Below.refl _ _).alloc (Nat.le_refl _) _).alloc (by simp) _)) (hr'.below (((Below.refl _ _).alloc (Nat.le_refl _) _).alloc (by simp) _)))
  obtain ⟨v5, rfl, h5⟩ := rd_eMessage hr
  obtain ⟨u5, rfl, g5⟩ := rd_eMessage hr'
  obtain ⟨A5, c5, rfl, -⟩ := h5.slice
  obtain ⟨A5', c5', rfl, -⟩ := g5.slice
  clear hr hr' h5 g5
  go_enter Try.func17, Try.ntmps17
  go_wp2_with (go_at_call 40; refine hcon.out.mono ?_; rintro e w1 ⟨rfl, hb1⟩)
  go_ret
  exact ⟨rfl, (((Below.refl _ _).alloc (Nat.le_refl _) _).alloc (by simp) _).trans (hb1.mono (by simp only [size_alloc]; omega))⟩
end Go.Proofs.Ytklbpjnpmbidiaa
