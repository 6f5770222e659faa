import Derived.Test.YtaalbbhebmpppaaProg
import Derived.Test.YtaalbbhebmpppaaTypes
import Derived.StillTailTactics
import Derived.Deep.RegionHeld3
import Derived.Laws.IdiomStrings
import Derived.Test.YtaalbbhebmpppaaAppend
import Derived.Laws.StructEq
import Derived.Lib.SliceRun
import Derived.Shelf.RegionOpenPlain
namespace Go.Proofs.Ytaalbbhebmpppaa
open Go.RowKit
set_option linter.unusedVariables false
set_option linter.unusedSimpArgs false

/-- from lo to hi -/
def inR (a lo hi : Int) : Bool := decide (lo ≤ a ∧ a ≤ hi)
set_option maxHeartbeats 400000 in
theorem spec_l1In_calls (a lo hi : Int) (w : World) :
    Calls Try.prog 56 #[.int .i64 a, .int .i64 lo, .int .i64 hi] w fun e w' => e = .returned (.bool (inR a lo hi)) ∧ w' = w := by
  by_cases h1 : lo ≤ a
  · by_cases h2 : a ≤ hi
    · have HE : Hid (inR a lo hi = true) := by unfold Hid inR; simp [h1, h2]
      go_enter Try.func56, Try.ntmps56
      go_wp2
      go_ret
      exact ⟨by rw [HE.out]; rfl, rfl⟩
    · have HE : Hid (inR a lo hi = false) := by unfold Hid inR; simp [h1]; omega
      go_enter Try.func56, Try.ntmps56
      go_wp2
      go_ret
      exact ⟨by rw [HE.out]; rfl, rfl⟩
  · have HE : Hid (inR a lo hi = false) := by unfold Hid inR; simp; omega
    go_enter Try.func56, Try.ntmps56
    go_wp2
    go_ret
    exact ⟨by rw [HE.out]; rfl, rfl⟩
set_option maxHeartbeats 400000 in
theorem impl_in_calls (a lo hi : Int) (w : World) :
    Calls Try.prog 52 #[.int .i64 a, .int .i64 lo, .int .i64 hi] w fun e w' => e = .returned (.bool (inR a lo hi)) ∧ w' = w := by
  by_cases h1 : lo ≤ a
  · by_cases h2 : a ≤ hi
    · have HE : Hid (inR a lo hi = true) := by unfold Hid inR; simp [h1, h2]
      go_enter Try.func52, Try.ntmps52
      go_wp2
      go_ret
      exact ⟨by rw [HE.out]; rfl, rfl⟩
    · have HE : Hid (inR a lo hi = false) := by unfold Hid inR; simp [h1]; omega
      go_enter Try.func52, Try.ntmps52
      go_wp2
      go_ret
      exact ⟨by rw [HE.out]; rfl, rfl⟩
  · have HE : Hid (inR a lo hi = false) := by unfold Hid inR; simp; omega
    go_enter Try.func52, Try.ntmps52
    go_wp2
    go_ret
    exact ⟨by rw [HE.out]; rfl, rfl⟩
set_option maxHeartbeats 400000 in
theorem impl_Mod0_calls (w : World) :
    Calls Try.prog 62 #[.int .i64 0, .int .i64 1000000] w fun e w' => e = .returned (.int .i64 0) ∧ w' = w := by
  have H : Hid (inR 1000000 1 1000000000000 = true) := by unfold Hid; decide
  go_enter Try.func62, Try.ntmps62
  go_wp2_with fail
  refine (impl_in_calls 1000000 1 1000000000000 _).mono ?_
  rintro e w1 ⟨rfl, rfl⟩
  rw [H.out]
  go_wp2
  go_ret
  exact ⟨rfl, rfl⟩
set_option maxHeartbeats 400000 in
theorem impl_IntValue0_calls (w : World) :
    Calls Try.prog 23 #[.int .i64 0] w fun e w' => e = .returned (.agg #[.int .i64 0, .int .i64 0]) ∧ Below w.heap.size w w' := by
  go_enter Try.func23, Try.ntmps23
  go_wp2_with fail
  refine (impl_Mod0_calls _).mono ?_
  rintro e w1 ⟨rfl, rfl⟩
  go_wp2
  refine bodyPost_ret (v := .agg #[.int .i64 0, .int .i64 0]) (by simp [results, Try.results23, go_sem]) rfl ⟨rfl, ?_⟩
  exact (Below.refl _ _).alloc (Nat.le_refl _) _

end Go.Proofs.Ytaalbbhebmpppaa
