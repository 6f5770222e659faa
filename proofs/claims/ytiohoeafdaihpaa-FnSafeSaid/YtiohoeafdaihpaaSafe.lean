import Derived.Test.YtiohoeafdaihpaaProg
import Derived.Test.YtiohoeafdaihpaaTypes
import Derived.StillTailTactics
import Derived.Deep.RegionHeld3
import Derived.Laws.IdiomStrings
import Derived.Test.YtiohoeafdaihpaaAppend
import Derived.Laws.StructEq
import Derived.Lib.SliceRun
import Derived.Shelf.RegionOpenPlain
import Derived.Test.YtiohoeafdaihpaaName
import Derived.Test.YtiohoeafdaihpaaPureSafe
namespace Go.Proofs.Ytiohoeafdaihpaa
open Go.RowKit
set_option linter.unusedVariables false
set_option linter.unusedSimpArgs false

set_option maxHeartbeats 400000 in
theorem spec_IsReg_calls (n : Int) (w : World) :
    Calls Try.prog 51 #[.int .i64 n] w fun e w' => e = .returned (.bool (regB n)) ∧ w' = w := by
  go_enter Try.func51, Try.ntmps51
  go_wp2_with fail
  refine (spec_l1In_calls _ _ _ _).mono ?_
  rintro e w1 ⟨rfl, rfl⟩
  go_wp2
  go_ret
  exact ⟨rfl, rfl⟩
set_option maxHeartbeats 400000 in
theorem impl_isReg_calls (n : Int) (w : World) :
    Calls Try.prog 109 #[.int .i64 n] w fun e w' => e = .returned (.bool (regB n)) ∧ w' = w := by
  go_enter Try.func109, Try.ntmps109
  go_wp2_with fail
  refine (impl_in_calls _ _ _ _).mono ?_
  rintro e w1 ⟨rfl, rfl⟩
  go_wp2
  go_ret
  exact ⟨rfl, rfl⟩
set_option maxHeartbeats 1600000 in
theorem impl_pairOk_calls (c d : Int) (w : World) :
    Calls Try.prog 110 #[.int .i64 c, .int .i64 d] w fun e w' => e = .returned (.bool (pairB c d)) ∧ w' = w := by
  have m1 : regB (-1) = false := by decide
  by_cases c1 : c = -1
  · subst c1
    have hc := m1
    by_cases d1 : d = -1
    · subst d1
      have hd := m1
      have HE : Hid (pairB (-1) (-1) = true) := by unfold Hid pairB; simp [m1]
      go_enter Try.func110, Try.ntmps110
      go_wp2_with (first | (go_at_call 109; refine (impl_isReg_calls _ _).mono ?_; rintro e w1 ⟨rfl, rfl⟩; rw [hc]) | (go_at_call 109; refine (impl_isReg_calls _ _).mono ?_; rintro e w1 ⟨rfl, rfl⟩; rw [hd]))
      go_ret
      exact ⟨by rw [HE.out]; rfl, rfl⟩
    · have hd1 : (d == -1) = false := by simpa using d1
      rcases Bool.eq_false_or_eq_true (regB d) with hd | hd
      · skip
        have HE : Hid (pairB (-1) d = false) := by unfold Hid pairB; simp [m1, d1]
        go_enter Try.func110, Try.ntmps110
        go_wp2_with (first | (go_at_call 109; refine (impl_isReg_calls _ _).mono ?_; rintro e w1 ⟨rfl, rfl⟩; rw [hc]) | (go_at_call 109; refine (impl_isReg_calls _ _).mono ?_; rintro e w1 ⟨rfl, rfl⟩; rw [hd]))
        go_ret
        exact ⟨by rw [HE.out]; rfl, rfl⟩
      · skip
        have HE : Hid (pairB (-1) d = false) := by unfold Hid pairB; simp [m1, d1]
        go_enter Try.func110, Try.ntmps110
        go_wp2_with (first | (go_at_call 109; refine (impl_isReg_calls _ _).mono ?_; rintro e w1 ⟨rfl, rfl⟩; rw [hc]) | (go_at_call 109; refine (impl_isReg_calls _ _).mono ?_; rintro e w1 ⟨rfl, rfl⟩; rw [hd]))
        go_ret
        exact ⟨by rw [HE.out]; rfl, rfl⟩
  · have hc1 : (c == -1) = false := by simpa using c1
    have hc2 : (c != -1) = true := by simpa using c1
    rcases Bool.eq_false_or_eq_true (regB c) with hc | hc
    · by_cases d1 : d = -1
      · subst d1
        have hd := m1
        have HE : Hid (pairB c (-1) = true) := by unfold Hid pairB; simp [hc]
        go_enter Try.func110, Try.ntmps110
        go_wp2_with (first | (go_at_call 109; refine (impl_isReg_calls _ _).mono ?_; rintro e w1 ⟨rfl, rfl⟩; rw [hc]) | (go_at_call 109; refine (impl_isReg_calls _ _).mono ?_; rintro e w1 ⟨rfl, rfl⟩; rw [hd]))
        go_ret
        exact ⟨by rw [HE.out]; rfl, rfl⟩
      · have hd1 : (d == -1) = false := by simpa using d1
        rcases Bool.eq_false_or_eq_true (regB d) with hd | hd
        · skip
          have HE : Hid (pairB c d = true) := by unfold Hid pairB; simp [hc, hd, c1, d1]
          go_enter Try.func110, Try.ntmps110
          go_wp2_with (first | (go_at_call 109; refine (impl_isReg_calls _ _).mono ?_; rintro e w1 ⟨rfl, rfl⟩; rw [hc]) | (go_at_call 109; refine (impl_isReg_calls _ _).mono ?_; rintro e w1 ⟨rfl, rfl⟩; rw [hd]))
          go_ret
          exact ⟨by rw [HE.out]; rfl, rfl⟩
        · skip
          have HE : Hid (pairB c d = false) := by unfold Hid pairB; simp [hc, hd, c1, d1]
          go_enter Try.func110, Try.ntmps110
          go_wp2_with (first | (go_at_call 109; refine (impl_isReg_calls _ _).mono ?_; rintro e w1 ⟨rfl, rfl⟩; rw [hc]) | (go_at_call 109; refine (impl_isReg_calls _ _).mono ?_; rintro e w1 ⟨rfl, rfl⟩; rw [hd]))
          go_ret
          exact ⟨by rw [HE.out]; rfl, rfl⟩
    · skip
      have HE : Hid (pairB c d = false) := by unfold Hid pairB; simp [hc, c1]
      go_enter Try.func110, Try.ntmps110
      go_wp2_with (first | (go_at_call 109; refine (impl_isReg_calls _ _).mono ?_; rintro e w1 ⟨rfl, rfl⟩; rw [hc]) | (go_at_call 109; refine (impl_isReg_calls _ _).mono ?_; rintro e w1 ⟨rfl, rfl⟩; rw [hd]))
      go_ret
      exact ⟨by rw [HE.out]; rfl, rfl⟩
set_option maxHeartbeats 1600000 in
theorem spec_l5Two_calls (y : GInstr) (w : World) :
    Calls Try.prog 100 #[.agg #[.int .i64 y.Op, .int .i64 y.A, .int .i64 y.B, .int .i64 y.C, .int .i64 y.D, .string y.Name]] w fun e w' => e = .returned (.bool (pairB y.C y.D)) ∧ Below w.heap.size w w' := by
  obtain ⟨op, a, b, c, d, nm⟩ := y
  dsimp only
  have m1 : regB (-1) = false := by decide
  by_cases c1 : c = -1
  · subst c1
    have hc := m1
    by_cases d1 : d = -1
    · subst d1
      have hd := m1
      have HE : Hid (pairB (-1) (-1) = true) := by unfold Hid pairB; simp [m1]
      go_enter Try.func100, Try.ntmps100
      go_wp2_with (first | (go_at_call 51; refine (spec_IsReg_calls _ _).mono ?_; rintro e w1 ⟨rfl, rfl⟩; rw [hc]) | (go_at_call 51; refine (spec_IsReg_calls _ _).mono ?_; rintro e w1 ⟨rfl, rfl⟩; rw [hd]))
      go_ret
      exact ⟨by rw [HE.out]; rfl, (Below.refl _ _).alloc (Nat.le_refl _) _⟩
    · have hd1 : (d == -1) = false := by simpa using d1
      rcases Bool.eq_false_or_eq_true (regB d) with hd | hd
      · skip
        have HE : Hid (pairB (-1) d = false) := by unfold Hid pairB; simp [m1, d1]
        go_enter Try.func100, Try.ntmps100
        go_wp2_with (first | (go_at_call 51; refine (spec_IsReg_calls _ _).mono ?_; rintro e w1 ⟨rfl, rfl⟩; rw [hc]) | (go_at_call 51; refine (spec_IsReg_calls _ _).mono ?_; rintro e w1 ⟨rfl, rfl⟩; rw [hd]))
        go_ret
        exact ⟨by rw [HE.out]; rfl, (Below.refl _ _).alloc (Nat.le_refl _) _⟩
      · skip
        have HE : Hid (pairB (-1) d = false) := by unfold Hid pairB; simp [m1, d1]
        go_enter Try.func100, Try.ntmps100
        go_wp2_with (first | (go_at_call 51; refine (spec_IsReg_calls _ _).mono ?_; rintro e w1 ⟨rfl, rfl⟩; rw [hc]) | (go_at_call 51; refine (spec_IsReg_calls _ _).mono ?_; rintro e w1 ⟨rfl, rfl⟩; rw [hd]))
        go_ret
        exact ⟨by rw [HE.out]; rfl, (Below.refl _ _).alloc (Nat.le_refl _) _⟩
  · have hc1 : (c == -1) = false := by simpa using c1
    rcases Bool.eq_false_or_eq_true (regB c) with hc | hc
    · by_cases d1 : d = -1
      · subst d1
        have hd := m1
        have HE : Hid (pairB c (-1) = true) := by unfold Hid pairB; simp [hc]
        go_enter Try.func100, Try.ntmps100
        go_wp2_with (first | (go_at_call 51; refine (spec_IsReg_calls _ _).mono ?_; rintro e w1 ⟨rfl, rfl⟩; rw [hc]) | (go_at_call 51; refine (spec_IsReg_calls _ _).mono ?_; rintro e w1 ⟨rfl, rfl⟩; rw [hd]))
        go_ret
        exact ⟨by rw [HE.out]; rfl, (Below.refl _ _).alloc (Nat.le_refl _) _⟩
      · have hd1 : (d == -1) = false := by simpa using d1
        rcases Bool.eq_false_or_eq_true (regB d) with hd | hd
        · skip
          have HE : Hid (pairB c d = true) := by unfold Hid pairB; simp [hc, hd, c1, d1]
          go_enter Try.func100, Try.ntmps100
          go_wp2_with (first | (go_at_call 51; refine (spec_IsReg_calls _ _).mono ?_; rintro e w1 ⟨rfl, rfl⟩; rw [hc]) | (go_at_call 51; refine (spec_IsReg_calls _ _).mono ?_; rintro e w1 ⟨rfl, rfl⟩; rw [hd]))
          go_ret
          exact ⟨by rw [HE.out]; rfl, (Below.refl _ _).alloc (Nat.le_refl _) _⟩
        · skip
          have HE : Hid (pairB c d = false) := by unfold Hid pairB; simp [hc, hd, c1, d1]
          go_enter Try.func100, Try.ntmps100
          go_wp2_with (first | (go_at_call 51; refine (spec_IsReg_calls _ _).mono ?_; rintro e w1 ⟨rfl, rfl⟩; rw [hc]) | (go_at_call 51; refine (spec_IsReg_calls _ _).mono ?_; rintro e w1 ⟨rfl, rfl⟩; rw [hd]))
          go_ret
          exact ⟨by rw [HE.out]; rfl, (Below.refl _ _).alloc (Nat.le_refl _) _⟩
    · skip
      have HE : Hid (pairB c d = false) := by unfold Hid pairB; simp [hc, c1]
      go_enter Try.func100, Try.ntmps100
      go_wp2_with (first | (go_at_call 51; refine (spec_IsReg_calls _ _).mono ?_; rintro e w1 ⟨rfl, rfl⟩; rw [hc]) | (go_at_call 51; refine (spec_IsReg_calls _ _).mono ?_; rintro e w1 ⟨rfl, rfl⟩; rw [hd]))
      go_ret
      exact ⟨by rw [HE.out]; rfl, (Below.refl _ _).alloc (Nat.le_refl _) _⟩

end Go.Proofs.Ytiohoeafdaihpaa
