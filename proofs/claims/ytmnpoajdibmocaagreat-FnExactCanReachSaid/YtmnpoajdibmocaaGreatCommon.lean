import Derived.Test.YtmnpoajdibmocaaGreatProg
import Derived.Test.YtmnpoajdibmocaaGreatTypes
import Derived.StillTailTactics
import Derived.Deep.RegionHeld3
import Derived.Laws.IdiomStrings
import Derived.Test.YtmnpoajdibmocaaGreatAppend
import Derived.Laws.StructEq
import Derived.Lib.SliceRun
import Derived.Shelf.RegionOpenPlain
namespace Go.Proofs.YtmnpoajdibmocaaGreat
open Go.RowKit
set_option linter.unusedVariables false
set_option linter.unusedSimpArgs false

/-- from lo to hi -/
def inR (a lo hi : Int) : Bool := decide (lo ≤ a ∧ a ≤ hi)
set_option maxHeartbeats 400000 in
theorem spec_l1In_calls (a lo hi : Int) (w : World) :
    Calls Tryz.prog 20 #[.int .i64 a, .int .i64 lo, .int .i64 hi] w fun e w' => e = .returned (.bool (inR a lo hi)) ∧ w' = w := by
  by_cases h1 : lo ≤ a
  · by_cases h2 : a ≤ hi
    · have HE : Hid (inR a lo hi = true) := by unfold Hid inR; simp [h1, h2]
      go_enter Tryz.func20, Tryz.ntmps20
      go_wp2
      go_ret
      exact ⟨by rw [HE.out]; rfl, rfl⟩
    · have HE : Hid (inR a lo hi = false) := by unfold Hid inR; simp [h1]; omega
      go_enter Tryz.func20, Tryz.ntmps20
      go_wp2
      go_ret
      exact ⟨by rw [HE.out]; rfl, rfl⟩
  · have HE : Hid (inR a lo hi = false) := by unfold Hid inR; simp; omega
    go_enter Tryz.func20, Tryz.ntmps20
    go_wp2
    go_ret
    exact ⟨by rw [HE.out]; rfl, rfl⟩
set_option maxHeartbeats 400000 in
theorem impl_in_calls (a lo hi : Int) (w : World) :
    Calls Tryz.prog 76 #[.int .i64 a, .int .i64 lo, .int .i64 hi] w fun e w' => e = .returned (.bool (inR a lo hi)) ∧ w' = w := by
  by_cases h1 : lo ≤ a
  · by_cases h2 : a ≤ hi
    · have HE : Hid (inR a lo hi = true) := by unfold Hid inR; simp [h1, h2]
      go_enter Tryz.func76, Tryz.ntmps76
      go_wp2
      go_ret
      exact ⟨by rw [HE.out]; rfl, rfl⟩
    · have HE : Hid (inR a lo hi = false) := by unfold Hid inR; simp [h1]; omega
      go_enter Tryz.func76, Tryz.ntmps76
      go_wp2
      go_ret
      exact ⟨by rw [HE.out]; rfl, rfl⟩
  · have HE : Hid (inR a lo hi = false) := by unfold Hid inR; simp; omega
    go_enter Tryz.func76, Tryz.ntmps76
    go_wp2
    go_ret
    exact ⟨by rw [HE.out]; rfl, rfl⟩
end Go.Proofs.YtmnpoajdibmocaaGreat
