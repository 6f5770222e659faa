import Derived.Test.YtiohoeafdaihpaaProg
import Derived.Test.YtiohoeafdaihpaaTypes
import Derived.StillTailTactics
import Derived.Deep.RegionHeld3
import Derived.Laws.IdiomStrings
import Derived.Test.YtiohoeafdaihpaaAppend
import Derived.Laws.StructEq
import Derived.Lib.SliceRun
import Derived.Shelf.RegionOpenPlain
import Derived.Test.YtiohoeafdaihpaaCommon
import Derived.Test.YtiohoeafdaihpaaPureMethod
import Derived.Test.YtiohoeafdaihpaaSlices
namespace Go.Proofs.Ytiohoeafdaihpaa
open Go.RowKit
set_option linter.unusedVariables false
set_option linter.unusedSimpArgs false

set_option maxHeartbeats 400000 in
theorem spec_TargetOf_calls (y : GInstr) (w : World) :
    Calls Try.prog 52 #[.agg #[.int .i64 y.Op, .int .i64 y.A, .int .i64 y.B, .int .i64 y.C, .int .i64 y.D, .string y.Name]] w fun e w' => e = .returned (.int .i64 (targetOf y)) ∧ Below w.heap.size w w' := by
  rcases Bool.eq_false_or_eq_true (inR y.Op 1 7) with h | h
  rotate_left
  · have HE : Hid (targetOf y = -1) := by unfold Hid targetOf; rw [h]; simp
    have HH := Lib.hid h
    clear h
    go_enter Try.func52, Try.ntmps52
    go_wp2_with fail
    refine (spec_l1In_calls _ _ _ _).mono ?_
    rintro e w1 ⟨rfl, rfl⟩
    rw [HH.out]
    go_wp2
    go_ret
    exact ⟨by rw [HE.out]; rfl, (Below.refl _ _).alloc (Nat.le_refl _) _⟩
  · have HE : Hid (targetOf y = y.A) := by unfold Hid targetOf; rw [h]; simp
    have HH := Lib.hid h
    clear h
    go_enter Try.func52, Try.ntmps52
    go_wp2_with fail
    refine (spec_l1In_calls _ _ _ _).mono ?_
    rintro e w1 ⟨rfl, rfl⟩
    rw [HH.out]
    go_wp2
    go_ret
    exact ⟨by rw [HE.out]; rfl, (Below.refl _ _).alloc (Nat.le_refl _) _⟩
set_option maxHeartbeats 400000 in
theorem impl_TargetOf_calls (y : GInstr) (w : World) :
    Calls Try.prog 48 #[.agg #[.int .i64 y.Op, .int .i64 y.A, .int .i64 y.B, .int .i64 y.C, .int .i64 y.D, .string y.Name]] w fun e w' => e = .returned (.int .i64 (targetOf y)) ∧ Below w.heap.size w w' := by
  rcases Bool.eq_false_or_eq_true (inR y.Op 1 7) with h | h
  rotate_left
  · have HE : Hid (targetOf y = -1) := by unfold Hid targetOf; rw [h]; simp
    have HH := Lib.hid h
    clear h
    go_enter Try.func48, Try.ntmps48
    go_wp2_with fail
    refine (impl_in_calls _ _ _ _).mono ?_
    rintro e w1 ⟨rfl, rfl⟩
    rw [HH.out]
    go_wp2
    go_ret
    exact ⟨by rw [HE.out]; rfl, (Below.refl _ _).alloc (Nat.le_refl _) _⟩
  · have HE : Hid (targetOf y = y.A) := by unfold Hid targetOf; rw [h]; simp
    have HH := Lib.hid h
    clear h
    go_enter Try.func48, Try.ntmps48
    go_wp2_with fail
    refine (impl_in_calls _ _ _ _).mono ?_
    rintro e w1 ⟨rfl, rfl⟩
    rw [HH.out]
    go_wp2
    go_ret
    exact ⟨by rw [HE.out]; rfl, (Below.refl _ _).alloc (Nat.le_refl _) _⟩
end Go.Proofs.Ytiohoeafdaihpaa
