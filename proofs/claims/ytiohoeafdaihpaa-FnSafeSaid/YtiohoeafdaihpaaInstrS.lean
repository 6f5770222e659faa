import Derived.Deep.CutRange
import Derived.Test.YtiohoeafdaihpaaProg
import Derived.Test.YtiohoeafdaihpaaTypes
import Derived.StillTailTactics
import Derived.Deep.RegionHeld3
import Derived.Laws.IdiomStrings
import Derived.Test.YtiohoeafdaihpaaAppend
import Derived.Laws.StructEq
import Derived.Lib.SliceRun
import Derived.Shelf.RegionOpenPlain
import Derived.Test.YtiohoeafdaihpaaSafe
namespace Go.Proofs.Ytiohoeafdaihpaa
open Go.RowKit
set_option linter.unusedVariables false
set_option linter.unusedSimpArgs false

set_option maxHeartbeats 12800000 in
set_option maxRecDepth 100000 in
theorem spec_IsInstr_calls (y : GInstr) (w : World) (hs : y.Name.size ≤ 140737488355328) :
    Calls Try.prog 68 #[.agg #[.int .i64 y.Op, .int .i64 y.A, .int .i64 y.B, .int .i64 y.C, .int .i64 y.D, .string y.Name]] w fun e w' => e = .returned (.bool (instrB y)) ∧ Below w.heap.size w w' := by
  obtain ⟨op, a, b, c, d, nm⟩ := y
  dsimp only at hs ⊢
  obtain ⟨p, hp⟩ : ∃ p, p = (c == 0 && (d == 0 && noName nm)) := ⟨_, rfl⟩
  have HP := Lib.hid hp
  clear hp
  go_enter Try.func68, Try.ntmps68
  go_upto_region 1 with fail
  go_cut [3] from 4 to 16 (fun p_ wx => p_ = .bool p ∧ wx = w.alloc (.cells #[.int .i64 op, .int .i64 a, .int .i64 b, .int .i64 c, .int .i64 d, .string nm] 47))
  case first =>
    by_cases c0 : c = 0
    · subst c0
      by_cases d0 : d = 0
      · subst d0
        have HX : Hid (p = nm.toList.isEmpty) := by
          unfold Hid; rw [HP.out]; unfold noName
          have e0 : (⟨#[]⟩ : ByteArray).toList = [] := by simp [ByteArray.toList_eq]
          rw [e0]; cases nm.toList <;> simp
        go_wp2
        go_meet
        case rel => exact ⟨by rw [HX.out], rfl⟩
      · have d0b : (d == 0) = false := by simpa using d0
        have HX : Hid (p = false) := by unfold Hid; rw [HP.out]; simp [d0]
        go_wp2
        go_meet
        case rel => exact ⟨by rw [HX.out], rfl⟩
    · have c0b : (c == 0) = false := by simpa using c0
      have HX : Hid (p = false) := by unfold Hid; rw [HP.out]; simp [c0]
      go_wp2
      go_meet
      case rel => exact ⟨by rw [HX.out], rfl⟩
  case rest =>
    obtain ⟨rfl, rfl⟩ := hcut
    by_cases e1 : op = 1
    · subst e1
      rcases Bool.eq_false_or_eq_true ((c == 0 && (d == 0 && noName nm))) with h0 | h0
      rotate_left
      · skip
        have HE : Hid (instrB ⟨1, a, b, c, d, nm⟩ = false) := by
          unfold Hid
          show ((c == 0 && (d == 0 && noName nm)) && (regB a && inR b 0 999999)) = false
          revert h0
          generalize (c == 0) = x0
          generalize (d == 0) = x1
          generalize (noName nm) = x2
          generalize (regB a) = x3
          generalize (inR b 0 999999) = x4
          clear hs
          revert x0 x1 x2 x3 x4
          simp [Bool.forall_bool]
        obtain rfl : p = false := HP.out.trans h0
        go_wp2
        go_ret
        exact ⟨by rw [HE.out]; rfl, (Below.refl _ _).alloc (Nat.le_refl _) _⟩
      rcases Bool.eq_false_or_eq_true (regB a) with h1 | h1
      rotate_left
      · skip
        have HE : Hid (instrB ⟨1, a, b, c, d, nm⟩ = false) := by
          unfold Hid
          show ((c == 0 && (d == 0 && noName nm)) && (regB a && inR b 0 999999)) = false
          revert h0 h1
          generalize (c == 0) = x0
          generalize (d == 0) = x1
          generalize (noName nm) = x2
          generalize (regB a) = x3
          generalize (inR b 0 999999) = x4
          clear hs
          revert x0 x1 x2 x3 x4
          simp [Bool.forall_bool]
        obtain rfl : p = true := HP.out.trans h0
        go_wp2_with (first | (go_at_call 51; refine (spec_IsReg_calls _ _).mono ?_; rintro e w1 ⟨rfl, rfl⟩; rw [h1]))
        go_ret
        exact ⟨by rw [HE.out]; rfl, (Below.refl _ _).alloc (Nat.le_refl _) _⟩
      rcases Bool.eq_false_or_eq_true (inR b 0 999999) with h2 | h2
      rotate_left
      · skip
        have HE : Hid (instrB ⟨1, a, b, c, d, nm⟩ = false) := by
          unfold Hid
          show ((c == 0 && (d == 0 && noName nm)) && (regB a && inR b 0 999999)) = false
          revert h0 h1 h2
          generalize (c == 0) = x0
          generalize (d == 0) = x1
          generalize (noName nm) = x2
          generalize (regB a) = x3
          generalize (inR b 0 999999) = x4
          clear hs
          revert x0 x1 x2 x3 x4
          simp [Bool.forall_bool]
        obtain rfl : p = true := HP.out.trans h0
        go_wp2_with (first | (go_at_call 51; refine (spec_IsReg_calls _ _).mono ?_; rintro e w1 ⟨rfl, rfl⟩; rw [h1]) | (go_at_call 54; refine (spec_l1In_calls _ _ _ _).mono ?_; rintro e w1 ⟨rfl, rfl⟩; rw [h2]))
        go_ret
        exact ⟨by rw [HE.out]; rfl, (Below.refl _ _).alloc (Nat.le_refl _) _⟩
      have HE : Hid (instrB ⟨1, a, b, c, d, nm⟩ = true) := by
        unfold Hid
        show ((c == 0 && (d == 0 && noName nm)) && (regB a && inR b 0 999999)) = true
        revert h0 h1 h2
        generalize (c == 0) = x0
        generalize (d == 0) = x1
        generalize (noName nm) = x2
        generalize (regB a) = x3
        generalize (inR b 0 999999) = x4
        clear hs
        revert x0 x1 x2 x3 x4
        simp [Bool.forall_bool]
      obtain rfl : p = true := HP.out.trans h0
      go_wp2_with (first | (go_at_call 51; refine (spec_IsReg_calls _ _).mono ?_; rintro e w1 ⟨rfl, rfl⟩; rw [h1]) | (go_at_call 54; refine (spec_l1In_calls _ _ _ _).mono ?_; rintro e w1 ⟨rfl, rfl⟩; rw [h2]))
      go_ret
      exact ⟨by rw [HE.out]; rfl, (Below.refl _ _).alloc (Nat.le_refl _) _⟩
    by_cases e2 : op = 2
    · subst e2
      rcases Bool.eq_false_or_eq_true ((c == 0 && (d == 0 && noName nm))) with h0 | h0
      rotate_left
      · skip
        have HE : Hid (instrB ⟨2, a, b, c, d, nm⟩ = false) := by
          unfold Hid
          show ((c == 0 && (d == 0 && noName nm)) && (regB a && inR b 0 1)) = false
          revert h0
          generalize (c == 0) = x0
          generalize (d == 0) = x1
          generalize (noName nm) = x2
          generalize (regB a) = x3
          generalize (inR b 0 1) = x4
          clear hs
          revert x0 x1 x2 x3 x4
          simp [Bool.forall_bool]
        obtain rfl : p = false := HP.out.trans h0
        go_wp2
        go_ret
        exact ⟨by rw [HE.out]; rfl, (Below.refl _ _).alloc (Nat.le_refl _) _⟩
      rcases Bool.eq_false_or_eq_true (regB a) with h1 | h1
      rotate_left
      · skip
        have HE : Hid (instrB ⟨2, a, b, c, d, nm⟩ = false) := by
          unfold Hid
          show ((c == 0 && (d == 0 && noName nm)) && (regB a && inR b 0 1)) = false
          revert h0 h1
          generalize (c == 0) = x0
          generalize (d == 0) = x1
          generalize (noName nm) = x2
          generalize (regB a) = x3
          generalize (inR b 0 1) = x4
          clear hs
          revert x0 x1 x2 x3 x4
          simp [Bool.forall_bool]
        obtain rfl : p = true := HP.out.trans h0
        go_wp2_with (first | (go_at_call 51; refine (spec_IsReg_calls _ _).mono ?_; rintro e w1 ⟨rfl, rfl⟩; rw [h1]))
        go_ret
        exact ⟨by rw [HE.out]; rfl, (Below.refl _ _).alloc (Nat.le_refl _) _⟩
      rcases Bool.eq_false_or_eq_true (inR b 0 1) with h2 | h2
      rotate_left
      · skip
        have HE : Hid (instrB ⟨2, a, b, c, d, nm⟩ = false) := by
          unfold Hid
          show ((c == 0 && (d == 0 && noName nm)) && (regB a && inR b 0 1)) = false
          revert h0 h1 h2
          generalize (c == 0) = x0
          generalize (d == 0) = x1
          generalize (noName nm) = x2
          generalize (regB a) = x3
          generalize (inR b 0 1) = x4
          clear hs
          revert x0 x1 x2 x3 x4
          simp [Bool.forall_bool]
        obtain rfl : p = true := HP.out.trans h0
        go_wp2_with (first | (go_at_call 51; refine (spec_IsReg_calls _ _).mono ?_; rintro e w1 ⟨rfl, rfl⟩; rw [h1]) | (go_at_call 54; refine (spec_l1In_calls _ _ _ _).mono ?_; rintro e w1 ⟨rfl, rfl⟩; rw [h2]))
        go_ret
        exact ⟨by rw [HE.out]; rfl, (Below.refl _ _).alloc (Nat.le_refl _) _⟩
      have HE : Hid (instrB ⟨2, a, b, c, d, nm⟩ = true) := by
        unfold Hid
        show ((c == 0 && (d == 0 && noName nm)) && (regB a && inR b 0 1)) = true
        revert h0 h1 h2
        generalize (c == 0) = x0
        generalize (d == 0) = x1
        generalize (noName nm) = x2
        generalize (regB a) = x3
        generalize (inR b 0 1) = x4
        clear hs
        revert x0 x1 x2 x3 x4
        simp [Bool.forall_bool]
      obtain rfl : p = true := HP.out.trans h0
      go_wp2_with (first | (go_at_call 51; refine (spec_IsReg_calls _ _).mono ?_; rintro e w1 ⟨rfl, rfl⟩; rw [h1]) | (go_at_call 54; refine (spec_l1In_calls _ _ _ _).mono ?_; rintro e w1 ⟨rfl, rfl⟩; rw [h2]))
      go_ret
      exact ⟨by rw [HE.out]; rfl, (Below.refl _ _).alloc (Nat.le_refl _) _⟩
    by_cases e3 : op = 3
    · subst e3
      rcases Bool.eq_false_or_eq_true ((c == 0 && (d == 0 && noName nm))) with h0 | h0
      rotate_left
      · skip
        have HE : Hid (instrB ⟨3, a, b, c, d, nm⟩ = false) := by
          unfold Hid
          show ((c == 0 && (d == 0 && noName nm)) && (regB a && inR b 0 2)) = false
          revert h0
          generalize (c == 0) = x0
          generalize (d == 0) = x1
          generalize (noName nm) = x2
          generalize (regB a) = x3
          generalize (inR b 0 2) = x4
          clear hs
          revert x0 x1 x2 x3 x4
          simp [Bool.forall_bool]
        obtain rfl : p = false := HP.out.trans h0
        go_wp2
        go_ret
        exact ⟨by rw [HE.out]; rfl, (Below.refl _ _).alloc (Nat.le_refl _) _⟩
      rcases Bool.eq_false_or_eq_true (regB a) with h1 | h1
      rotate_left
      · skip
        have HE : Hid (instrB ⟨3, a, b, c, d, nm⟩ = false) := by
          unfold Hid
          show ((c == 0 && (d == 0 && noName nm)) && (regB a && inR b 0 2)) = false
          revert h0 h1
          generalize (c == 0) = x0
          generalize (d == 0) = x1
          generalize (noName nm) = x2
          generalize (regB a) = x3
          generalize (inR b 0 2) = x4
          clear hs
          revert x0 x1 x2 x3 x4
          simp [Bool.forall_bool]
        obtain rfl : p = true := HP.out.trans h0
        go_wp2_with (first | (go_at_call 51; refine (spec_IsReg_calls _ _).mono ?_; rintro e w1 ⟨rfl, rfl⟩; rw [h1]))
        go_ret
        exact ⟨by rw [HE.out]; rfl, (Below.refl _ _).alloc (Nat.le_refl _) _⟩
      rcases Bool.eq_false_or_eq_true (inR b 0 2) with h2 | h2
      rotate_left
      · skip
        have HE : Hid (instrB ⟨3, a, b, c, d, nm⟩ = false) := by
          unfold Hid
          show ((c == 0 && (d == 0 && noName nm)) && (regB a && inR b 0 2)) = false
          revert h0 h1 h2
          generalize (c == 0) = x0
          generalize (d == 0) = x1
          generalize (noName nm) = x2
          generalize (regB a) = x3
          generalize (inR b 0 2) = x4
          clear hs
          revert x0 x1 x2 x3 x4
          simp [Bool.forall_bool]
        obtain rfl : p = true := HP.out.trans h0
        go_wp2_with (first | (go_at_call 51; refine (spec_IsReg_calls _ _).mono ?_; rintro e w1 ⟨rfl, rfl⟩; rw [h1]) | (go_at_call 54; refine (spec_l1In_calls _ _ _ _).mono ?_; rintro e w1 ⟨rfl, rfl⟩; rw [h2]))
        go_ret
        exact ⟨by rw [HE.out]; rfl, (Below.refl _ _).alloc (Nat.le_refl _) _⟩
      have HE : Hid (instrB ⟨3, a, b, c, d, nm⟩ = true) := by
        unfold Hid
        show ((c == 0 && (d == 0 && noName nm)) && (regB a && inR b 0 2)) = true
        revert h0 h1 h2
        generalize (c == 0) = x0
        generalize (d == 0) = x1
        generalize (noName nm) = x2
        generalize (regB a) = x3
        generalize (inR b 0 2) = x4
        clear hs
        revert x0 x1 x2 x3 x4
        simp [Bool.forall_bool]
      obtain rfl : p = true := HP.out.trans h0
      go_wp2_with (first | (go_at_call 51; refine (spec_IsReg_calls _ _).mono ?_; rintro e w1 ⟨rfl, rfl⟩; rw [h1]) | (go_at_call 54; refine (spec_l1In_calls _ _ _ _).mono ?_; rintro e w1 ⟨rfl, rfl⟩; rw [h2]))
      go_ret
      exact ⟨by rw [HE.out]; rfl, (Below.refl _ _).alloc (Nat.le_refl _) _⟩
    by_cases e4 : op = 4
    · subst e4
      rcases Bool.eq_false_or_eq_true ((c == 0 && (d == 0 && noName nm))) with h0 | h0
      rotate_left
      · skip
        have HE : Hid (instrB ⟨4, a, b, c, d, nm⟩ = false) := by
          unfold Hid
          show ((c == 0 && (d == 0 && noName nm)) && (regB a && (b == 0))) = false
          revert h0
          generalize (c == 0) = x0
          generalize (d == 0) = x1
          generalize (noName nm) = x2
          generalize (regB a) = x3
          generalize (b == 0) = x4
          clear hs
          revert x0 x1 x2 x3 x4
          simp [Bool.forall_bool]
        obtain rfl : p = false := HP.out.trans h0
        go_wp2
        go_ret
        exact ⟨by rw [HE.out]; rfl, (Below.refl _ _).alloc (Nat.le_refl _) _⟩
      rcases Bool.eq_false_or_eq_true (regB a) with h1 | h1
      rotate_left
      · skip
        have HE : Hid (instrB ⟨4, a, b, c, d, nm⟩ = false) := by
          unfold Hid
          show ((c == 0 && (d == 0 && noName nm)) && (regB a && (b == 0))) = false
          revert h0 h1
          generalize (c == 0) = x0
          generalize (d == 0) = x1
          generalize (noName nm) = x2
          generalize (regB a) = x3
          generalize (b == 0) = x4
          clear hs
          revert x0 x1 x2 x3 x4
          simp [Bool.forall_bool]
        obtain rfl : p = true := HP.out.trans h0
        go_wp2_with (first | (go_at_call 51; refine (spec_IsReg_calls _ _).mono ?_; rintro e w1 ⟨rfl, rfl⟩; rw [h1]))
        go_ret
        exact ⟨by rw [HE.out]; rfl, (Below.refl _ _).alloc (Nat.le_refl _) _⟩
      rcases Bool.eq_false_or_eq_true (b == 0) with h2 | h2
      rotate_left
      · skip
        have HE : Hid (instrB ⟨4, a, b, c, d, nm⟩ = false) := by
          unfold Hid
          show ((c == 0 && (d == 0 && noName nm)) && (regB a && (b == 0))) = false
          revert h0 h1 h2
          generalize (c == 0) = x0
          generalize (d == 0) = x1
          generalize (noName nm) = x2
          generalize (regB a) = x3
          generalize (b == 0) = x4
          clear hs
          revert x0 x1 x2 x3 x4
          simp [Bool.forall_bool]
        obtain rfl : p = true := HP.out.trans h0
        go_wp2_with (first | (go_at_call 51; refine (spec_IsReg_calls _ _).mono ?_; rintro e w1 ⟨rfl, rfl⟩; rw [h1]))
        go_ret
        exact ⟨by rw [HE.out]; rfl, (Below.refl _ _).alloc (Nat.le_refl _) _⟩
      have HE : Hid (instrB ⟨4, a, b, c, d, nm⟩ = true) := by
        unfold Hid
        show ((c == 0 && (d == 0 && noName nm)) && (regB a && (b == 0))) = true
        revert h0 h1 h2
        generalize (c == 0) = x0
        generalize (d == 0) = x1
        generalize (noName nm) = x2
        generalize (regB a) = x3
        generalize (b == 0) = x4
        clear hs
        revert x0 x1 x2 x3 x4
        simp [Bool.forall_bool]
      obtain rfl : p = true := HP.out.trans h0
      go_wp2_with (first | (go_at_call 51; refine (spec_IsReg_calls _ _).mono ?_; rintro e w1 ⟨rfl, rfl⟩; rw [h1]))
      go_ret
      exact ⟨by rw [HE.out]; rfl, (Below.refl _ _).alloc (Nat.le_refl _) _⟩
    by_cases e10 : op = 10
    · subst e10
      rcases Bool.eq_false_or_eq_true ((c == 0 && (d == 0 && noName nm))) with h0 | h0
      rotate_left
      · skip
        have HE : Hid (instrB ⟨10, a, b, c, d, nm⟩ = false) := by
          unfold Hid
          show ((c == 0 && (d == 0 && noName nm)) && (regB a && (b == 0))) = false
          revert h0
          generalize (c == 0) = x0
          generalize (d == 0) = x1
          generalize (noName nm) = x2
          generalize (regB a) = x3
          generalize (b == 0) = x4
          clear hs
          revert x0 x1 x2 x3 x4
          simp [Bool.forall_bool]
        obtain rfl : p = false := HP.out.trans h0
        go_wp2
        go_ret
        exact ⟨by rw [HE.out]; rfl, (Below.refl _ _).alloc (Nat.le_refl _) _⟩
      rcases Bool.eq_false_or_eq_true (regB a) with h1 | h1
      rotate_left
      · skip
        have HE : Hid (instrB ⟨10, a, b, c, d, nm⟩ = false) := by
          unfold Hid
          show ((c == 0 && (d == 0 && noName nm)) && (regB a && (b == 0))) = false
          revert h0 h1
          generalize (c == 0) = x0
          generalize (d == 0) = x1
          generalize (noName nm) = x2
          generalize (regB a) = x3
          generalize (b == 0) = x4
          clear hs
          revert x0 x1 x2 x3 x4
          simp [Bool.forall_bool]
        obtain rfl : p = true := HP.out.trans h0
        go_wp2_with (first | (go_at_call 51; refine (spec_IsReg_calls _ _).mono ?_; rintro e w1 ⟨rfl, rfl⟩; rw [h1]))
        go_ret
        exact ⟨by rw [HE.out]; rfl, (Below.refl _ _).alloc (Nat.le_refl _) _⟩
      rcases Bool.eq_false_or_eq_true (b == 0) with h2 | h2
      rotate_left
      · skip
        have HE : Hid (instrB ⟨10, a, b, c, d, nm⟩ = false) := by
          unfold Hid
          show ((c == 0 && (d == 0 && noName nm)) && (regB a && (b == 0))) = false
          revert h0 h1 h2
          generalize (c == 0) = x0
          generalize (d == 0) = x1
          generalize (noName nm) = x2
          generalize (regB a) = x3
          generalize (b == 0) = x4
          clear hs
          revert x0 x1 x2 x3 x4
          simp [Bool.forall_bool]
        obtain rfl : p = true := HP.out.trans h0
        go_wp2_with (first | (go_at_call 51; refine (spec_IsReg_calls _ _).mono ?_; rintro e w1 ⟨rfl, rfl⟩; rw [h1]))
        go_ret
        exact ⟨by rw [HE.out]; rfl, (Below.refl _ _).alloc (Nat.le_refl _) _⟩
      have HE : Hid (instrB ⟨10, a, b, c, d, nm⟩ = true) := by
        unfold Hid
        show ((c == 0 && (d == 0 && noName nm)) && (regB a && (b == 0))) = true
        revert h0 h1 h2
        generalize (c == 0) = x0
        generalize (d == 0) = x1
        generalize (noName nm) = x2
        generalize (regB a) = x3
        generalize (b == 0) = x4
        clear hs
        revert x0 x1 x2 x3 x4
        simp [Bool.forall_bool]
      obtain rfl : p = true := HP.out.trans h0
      go_wp2_with (first | (go_at_call 51; refine (spec_IsReg_calls _ _).mono ?_; rintro e w1 ⟨rfl, rfl⟩; rw [h1]))
      go_ret
      exact ⟨by rw [HE.out]; rfl, (Below.refl _ _).alloc (Nat.le_refl _) _⟩
    by_cases e5 : op = 5
    · subst e5
      rcases Bool.eq_false_or_eq_true (regB a) with h0 | h0
      rotate_left
      · skip
        have HE : Hid (instrB ⟨5, a, b, c, d, nm⟩ = false) := by
          unfold Hid
          show (regB a && (regB b && (regB c && ((d == 0) && noName nm)))) = false
          revert h0
          generalize (regB a) = x0
          generalize (regB b) = x1
          generalize (regB c) = x2
          generalize (d == 0) = x3
          generalize (noName nm) = x4
          clear hs
          revert x0 x1 x2 x3 x4
          simp [Bool.forall_bool]
        go_wp2_with (first | (go_at_call 51; refine (spec_IsReg_calls _ _).mono ?_; rintro e w1 ⟨rfl, rfl⟩; rw [h0]))
        go_ret
        exact ⟨by rw [HE.out]; rfl, (Below.refl _ _).alloc (Nat.le_refl _) _⟩
      rcases Bool.eq_false_or_eq_true (regB b) with h1 | h1
      rotate_left
      · skip
        have HE : Hid (instrB ⟨5, a, b, c, d, nm⟩ = false) := by
          unfold Hid
          show (regB a && (regB b && (regB c && ((d == 0) && noName nm)))) = false
          revert h0 h1
          generalize (regB a) = x0
          generalize (regB b) = x1
          generalize (regB c) = x2
          generalize (d == 0) = x3
          generalize (noName nm) = x4
          clear hs
          revert x0 x1 x2 x3 x4
          simp [Bool.forall_bool]
        go_wp2_with (first | (go_at_call 51; refine (spec_IsReg_calls _ _).mono ?_; rintro e w1 ⟨rfl, rfl⟩; rw [h0]) | (go_at_call 51; refine (spec_IsReg_calls _ _).mono ?_; rintro e w1 ⟨rfl, rfl⟩; rw [h1]))
        go_ret
        exact ⟨by rw [HE.out]; rfl, (Below.refl _ _).alloc (Nat.le_refl _) _⟩
      rcases Bool.eq_false_or_eq_true (regB c) with h2 | h2
      rotate_left
      · skip
        have HE : Hid (instrB ⟨5, a, b, c, d, nm⟩ = false) := by
          unfold Hid
          show (regB a && (regB b && (regB c && ((d == 0) && noName nm)))) = false
          revert h0 h1 h2
          generalize (regB a) = x0
          generalize (regB b) = x1
          generalize (regB c) = x2
          generalize (d == 0) = x3
          generalize (noName nm) = x4
          clear hs
          revert x0 x1 x2 x3 x4
          simp [Bool.forall_bool]
        go_wp2_with (first | (go_at_call 51; refine (spec_IsReg_calls _ _).mono ?_; rintro e w1 ⟨rfl, rfl⟩; rw [h0]) | (go_at_call 51; refine (spec_IsReg_calls _ _).mono ?_; rintro e w1 ⟨rfl, rfl⟩; rw [h1]) | (go_at_call 51; refine (spec_IsReg_calls _ _).mono ?_; rintro e w1 ⟨rfl, rfl⟩; rw [h2]))
        go_ret
        exact ⟨by rw [HE.out]; rfl, (Below.refl _ _).alloc (Nat.le_refl _) _⟩
      rcases Bool.eq_false_or_eq_true (d == 0) with h3 | h3
      rotate_left
      · skip
        have HE : Hid (instrB ⟨5, a, b, c, d, nm⟩ = false) := by
          unfold Hid
          show (regB a && (regB b && (regB c && ((d == 0) && noName nm)))) = false
          revert h0 h1 h2 h3
          generalize (regB a) = x0
          generalize (regB b) = x1
          generalize (regB c) = x2
          generalize (d == 0) = x3
          generalize (noName nm) = x4
          clear hs
          revert x0 x1 x2 x3 x4
          simp [Bool.forall_bool]
        go_wp2_with (first | (go_at_call 51; refine (spec_IsReg_calls _ _).mono ?_; rintro e w1 ⟨rfl, rfl⟩; rw [h0]) | (go_at_call 51; refine (spec_IsReg_calls _ _).mono ?_; rintro e w1 ⟨rfl, rfl⟩; rw [h1]) | (go_at_call 51; refine (spec_IsReg_calls _ _).mono ?_; rintro e w1 ⟨rfl, rfl⟩; rw [h2]))
        go_ret
        exact ⟨by rw [HE.out]; rfl, (Below.refl _ _).alloc (Nat.le_refl _) _⟩
      rcases Bool.eq_false_or_eq_true (noName nm) with h4 | h4
      rotate_left
      · skip
        have HE : Hid (instrB ⟨5, a, b, c, d, nm⟩ = false) := by
          unfold Hid
          show (regB a && (regB b && (regB c && ((d == 0) && noName nm)))) = false
          revert h0 h1 h2 h3 h4
          generalize (regB a) = x0
          generalize (regB b) = x1
          generalize (regB c) = x2
          generalize (d == 0) = x3
          generalize (noName nm) = x4
          clear hs
          revert x0 x1 x2 x3 x4
          simp [Bool.forall_bool]
        have hq4 : nm.toList.isEmpty = false := by rw [← h4]; unfold noName; cases h : nm.toList <;> simp [h, ByteArray.toList_eq]
        go_wp2_with (first | (go_at_call 51; refine (spec_IsReg_calls _ _).mono ?_; rintro e w1 ⟨rfl, rfl⟩; rw [h0]) | (go_at_call 51; refine (spec_IsReg_calls _ _).mono ?_; rintro e w1 ⟨rfl, rfl⟩; rw [h1]) | (go_at_call 51; refine (spec_IsReg_calls _ _).mono ?_; rintro e w1 ⟨rfl, rfl⟩; rw [h2]))
        go_ret
        exact ⟨by rw [HE.out]; rfl, (Below.refl _ _).alloc (Nat.le_refl _) _⟩
      have HE : Hid (instrB ⟨5, a, b, c, d, nm⟩ = true) := by
        unfold Hid
        show (regB a && (regB b && (regB c && ((d == 0) && noName nm)))) = true
        revert h0 h1 h2 h3 h4
        generalize (regB a) = x0
        generalize (regB b) = x1
        generalize (regB c) = x2
        generalize (d == 0) = x3
        generalize (noName nm) = x4
        clear hs
        revert x0 x1 x2 x3 x4
        simp [Bool.forall_bool]
      have hq4 : nm.toList.isEmpty = true := by rw [← h4]; unfold noName; cases h : nm.toList <;> simp [h, ByteArray.toList_eq]
      go_wp2_with (first | (go_at_call 51; refine (spec_IsReg_calls _ _).mono ?_; rintro e w1 ⟨rfl, rfl⟩; rw [h0]) | (go_at_call 51; refine (spec_IsReg_calls _ _).mono ?_; rintro e w1 ⟨rfl, rfl⟩; rw [h1]) | (go_at_call 51; refine (spec_IsReg_calls _ _).mono ?_; rintro e w1 ⟨rfl, rfl⟩; rw [h2]))
      go_ret
      exact ⟨by rw [HE.out]; rfl, (Below.refl _ _).alloc (Nat.le_refl _) _⟩
    by_cases e6 : op = 6
    · subst e6
      rcases Bool.eq_false_or_eq_true (regB a) with h0 | h0
      rotate_left
      · skip
        have HE : Hid (instrB ⟨6, a, b, c, d, nm⟩ = false) := by
          unfold Hid
          show (regB a && (regB b && (pairB c d && nameB nm))) = false
          revert h0
          generalize (regB a) = x0
          generalize (regB b) = x1
          generalize (pairB c d) = x2
          generalize (nameB nm) = x3
          clear hs
          revert x0 x1 x2 x3
          simp [Bool.forall_bool]
        go_wp2_with (first | (go_at_call 51; refine (spec_IsReg_calls _ _).mono ?_; rintro e w1 ⟨rfl, rfl⟩; rw [h0]))
        go_ret
        exact ⟨by rw [HE.out]; rfl, (Below.refl _ _).alloc (Nat.le_refl _) _⟩
      rcases Bool.eq_false_or_eq_true (regB b) with h1 | h1
      rotate_left
      · skip
        have HE : Hid (instrB ⟨6, a, b, c, d, nm⟩ = false) := by
          unfold Hid
          show (regB a && (regB b && (pairB c d && nameB nm))) = false
          revert h0 h1
          generalize (regB a) = x0
          generalize (regB b) = x1
          generalize (pairB c d) = x2
          generalize (nameB nm) = x3
          clear hs
          revert x0 x1 x2 x3
          simp [Bool.forall_bool]
        go_wp2_with (first | (go_at_call 51; refine (spec_IsReg_calls _ _).mono ?_; rintro e w1 ⟨rfl, rfl⟩; rw [h0]) | (go_at_call 51; refine (spec_IsReg_calls _ _).mono ?_; rintro e w1 ⟨rfl, rfl⟩; rw [h1]))
        go_ret
        exact ⟨by rw [HE.out]; rfl, (Below.refl _ _).alloc (Nat.le_refl _) _⟩
      rcases Bool.eq_false_or_eq_true (pairB c d) with h2 | h2
      rotate_left
      · skip
        have HE : Hid (instrB ⟨6, a, b, c, d, nm⟩ = false) := by
          unfold Hid
          show (regB a && (regB b && (pairB c d && nameB nm))) = false
          revert h0 h1 h2
          generalize (regB a) = x0
          generalize (regB b) = x1
          generalize (pairB c d) = x2
          generalize (nameB nm) = x3
          clear hs
          revert x0 x1 x2 x3
          simp [Bool.forall_bool]
        have HK := Lib.hid (Blk.new w 47 #[.int .i64 6, .int .i64 a, .int .i64 b, .int .i64 c, .int .i64 d, .string nm])
        go_wp2_with (first | (go_at_call 51; refine (spec_IsReg_calls _ _).mono ?_; rintro e w1 ⟨rfl, rfl⟩; rw [h0]) | (go_at_call 51; refine (spec_IsReg_calls _ _).mono ?_; rintro e w1 ⟨rfl, rfl⟩; rw [h1]) | (go_at_call 100; refine (spec_l5Two_calls ⟨6, a, b, c, d, nm⟩ _).mono ?_; rintro e w1 ⟨rfl, hb1⟩; rw [h2]; obtain ⟨k0, f0⟩ := (HK.out.below hb1).rules; have l0 := (HK.out.below hb1).lt))
        go_ret
        exact ⟨by rw [HE.out]; rfl, ((Below.refl _ _).alloc (Nat.le_refl _) _).trans (hb1.mono (by simp))⟩
      rcases Bool.eq_false_or_eq_true (nameB nm) with h3 | h3
      rotate_left
      · skip
        have HE : Hid (instrB ⟨6, a, b, c, d, nm⟩ = false) := by
          unfold Hid
          show (regB a && (regB b && (pairB c d && nameB nm))) = false
          revert h0 h1 h2 h3
          generalize (regB a) = x0
          generalize (regB b) = x1
          generalize (pairB c d) = x2
          generalize (nameB nm) = x3
          clear hs
          revert x0 x1 x2 x3
          simp [Bool.forall_bool]
        have HK := Lib.hid (Blk.new w 47 #[.int .i64 6, .int .i64 a, .int .i64 b, .int .i64 c, .int .i64 d, .string nm])
        go_wp2_with (first | (go_at_call 51; refine (spec_IsReg_calls _ _).mono ?_; rintro e w1 ⟨rfl, rfl⟩; rw [h0]) | (go_at_call 51; refine (spec_IsReg_calls _ _).mono ?_; rintro e w1 ⟨rfl, rfl⟩; rw [h1]) | (go_at_call 100; refine (spec_l5Two_calls ⟨6, a, b, c, d, nm⟩ _).mono ?_; rintro e w1 ⟨rfl, hb1⟩; rw [h2]; obtain ⟨k0, f0⟩ := (HK.out.below hb1).rules; have l0 := (HK.out.below hb1).lt) | (go_at_call 69; refine (spec_IsName_calls _ _ hs).mono ?_; rintro e w1 ⟨rfl, rfl⟩; rw [h3]))
        go_ret
        exact ⟨by rw [HE.out]; rfl, ((Below.refl _ _).alloc (Nat.le_refl _) _).trans (hb1.mono (by simp))⟩
      have HE : Hid (instrB ⟨6, a, b, c, d, nm⟩ = true) := by
        unfold Hid
        show (regB a && (regB b && (pairB c d && nameB nm))) = true
        revert h0 h1 h2 h3
        generalize (regB a) = x0
        generalize (regB b) = x1
        generalize (pairB c d) = x2
        generalize (nameB nm) = x3
        clear hs
        revert x0 x1 x2 x3
        simp [Bool.forall_bool]
      have HK := Lib.hid (Blk.new w 47 #[.int .i64 6, .int .i64 a, .int .i64 b, .int .i64 c, .int .i64 d, .string nm])
      go_wp2_with (first | (go_at_call 51; refine (spec_IsReg_calls _ _).mono ?_; rintro e w1 ⟨rfl, rfl⟩; rw [h0]) | (go_at_call 51; refine (spec_IsReg_calls _ _).mono ?_; rintro e w1 ⟨rfl, rfl⟩; rw [h1]) | (go_at_call 100; refine (spec_l5Two_calls ⟨6, a, b, c, d, nm⟩ _).mono ?_; rintro e w1 ⟨rfl, hb1⟩; rw [h2]; obtain ⟨k0, f0⟩ := (HK.out.below hb1).rules; have l0 := (HK.out.below hb1).lt) | (go_at_call 69; refine (spec_IsName_calls _ _ hs).mono ?_; rintro e w1 ⟨rfl, rfl⟩; rw [h3]))
      go_ret
      exact ⟨by rw [HE.out]; rfl, ((Below.refl _ _).alloc (Nat.le_refl _) _).trans (hb1.mono (by simp))⟩
    by_cases e7 : op = 7
    · subst e7
      rcases Bool.eq_false_or_eq_true (regB a) with h0 | h0
      rotate_left
      · skip
        have HE : Hid (instrB ⟨7, a, b, c, d, nm⟩ = false) := by
          unfold Hid
          show (regB a && ((b == 0) && (pairB c d && nameB nm))) = false
          revert h0
          generalize (regB a) = x0
          generalize (b == 0) = x1
          generalize (pairB c d) = x2
          generalize (nameB nm) = x3
          clear hs
          revert x0 x1 x2 x3
          simp [Bool.forall_bool]
        go_wp2_with (first | (go_at_call 51; refine (spec_IsReg_calls _ _).mono ?_; rintro e w1 ⟨rfl, rfl⟩; rw [h0]))
        go_ret
        exact ⟨by rw [HE.out]; rfl, (Below.refl _ _).alloc (Nat.le_refl _) _⟩
      rcases Bool.eq_false_or_eq_true (b == 0) with h1 | h1
      rotate_left
      · skip
        have HE : Hid (instrB ⟨7, a, b, c, d, nm⟩ = false) := by
          unfold Hid
          show (regB a && ((b == 0) && (pairB c d && nameB nm))) = false
          revert h0 h1
          generalize (regB a) = x0
          generalize (b == 0) = x1
          generalize (pairB c d) = x2
          generalize (nameB nm) = x3
          clear hs
          revert x0 x1 x2 x3
          simp [Bool.forall_bool]
        go_wp2_with (first | (go_at_call 51; refine (spec_IsReg_calls _ _).mono ?_; rintro e w1 ⟨rfl, rfl⟩; rw [h0]))
        go_ret
        exact ⟨by rw [HE.out]; rfl, (Below.refl _ _).alloc (Nat.le_refl _) _⟩
      rcases Bool.eq_false_or_eq_true (pairB c d) with h2 | h2
      rotate_left
      · skip
        have HE : Hid (instrB ⟨7, a, b, c, d, nm⟩ = false) := by
          unfold Hid
          show (regB a && ((b == 0) && (pairB c d && nameB nm))) = false
          revert h0 h1 h2
          generalize (regB a) = x0
          generalize (b == 0) = x1
          generalize (pairB c d) = x2
          generalize (nameB nm) = x3
          clear hs
          revert x0 x1 x2 x3
          simp [Bool.forall_bool]
        have HK := Lib.hid (Blk.new w 47 #[.int .i64 7, .int .i64 a, .int .i64 b, .int .i64 c, .int .i64 d, .string nm])
        go_wp2_with (first | (go_at_call 51; refine (spec_IsReg_calls _ _).mono ?_; rintro e w1 ⟨rfl, rfl⟩; rw [h0]) | (go_at_call 100; refine (spec_l5Two_calls ⟨7, a, b, c, d, nm⟩ _).mono ?_; rintro e w1 ⟨rfl, hb1⟩; rw [h2]; obtain ⟨k0, f0⟩ := (HK.out.below hb1).rules; have l0 := (HK.out.below hb1).lt))
        go_ret
        exact ⟨by rw [HE.out]; rfl, ((Below.refl _ _).alloc (Nat.le_refl _) _).trans (hb1.mono (by simp))⟩
      rcases Bool.eq_false_or_eq_true (nameB nm) with h3 | h3
      rotate_left
      · skip
        have HE : Hid (instrB ⟨7, a, b, c, d, nm⟩ = false) := by
          unfold Hid
          show (regB a && ((b == 0) && (pairB c d && nameB nm))) = false
          revert h0 h1 h2 h3
          generalize (regB a) = x0
          generalize (b == 0) = x1
          generalize (pairB c d) = x2
          generalize (nameB nm) = x3
          clear hs
          revert x0 x1 x2 x3
          simp [Bool.forall_bool]
        have HK := Lib.hid (Blk.new w 47 #[.int .i64 7, .int .i64 a, .int .i64 b, .int .i64 c, .int .i64 d, .string nm])
        go_wp2_with (first | (go_at_call 51; refine (spec_IsReg_calls _ _).mono ?_; rintro e w1 ⟨rfl, rfl⟩; rw [h0]) | (go_at_call 100; refine (spec_l5Two_calls ⟨7, a, b, c, d, nm⟩ _).mono ?_; rintro e w1 ⟨rfl, hb1⟩; rw [h2]; obtain ⟨k0, f0⟩ := (HK.out.below hb1).rules; have l0 := (HK.out.below hb1).lt) | (go_at_call 69; refine (spec_IsName_calls _ _ hs).mono ?_; rintro e w1 ⟨rfl, rfl⟩; rw [h3]))
        go_ret
        exact ⟨by rw [HE.out]; rfl, ((Below.refl _ _).alloc (Nat.le_refl _) _).trans (hb1.mono (by simp))⟩
      have HE : Hid (instrB ⟨7, a, b, c, d, nm⟩ = true) := by
        unfold Hid
        show (regB a && ((b == 0) && (pairB c d && nameB nm))) = true
        revert h0 h1 h2 h3
        generalize (regB a) = x0
        generalize (b == 0) = x1
        generalize (pairB c d) = x2
        generalize (nameB nm) = x3
        clear hs
        revert x0 x1 x2 x3
        simp [Bool.forall_bool]
      have HK := Lib.hid (Blk.new w 47 #[.int .i64 7, .int .i64 a, .int .i64 b, .int .i64 c, .int .i64 d, .string nm])
      go_wp2_with (first | (go_at_call 51; refine (spec_IsReg_calls _ _).mono ?_; rintro e w1 ⟨rfl, rfl⟩; rw [h0]) | (go_at_call 100; refine (spec_l5Two_calls ⟨7, a, b, c, d, nm⟩ _).mono ?_; rintro e w1 ⟨rfl, hb1⟩; rw [h2]; obtain ⟨k0, f0⟩ := (HK.out.below hb1).rules; have l0 := (HK.out.below hb1).lt) | (go_at_call 69; refine (spec_IsName_calls _ _ hs).mono ?_; rintro e w1 ⟨rfl, rfl⟩; rw [h3]))
      go_ret
      exact ⟨by rw [HE.out]; rfl, ((Below.refl _ _).alloc (Nat.le_refl _) _).trans (hb1.mono (by simp))⟩
    by_cases e8 : op = 8
    · subst e8
      rcases Bool.eq_false_or_eq_true ((c == 0 && (d == 0 && noName nm))) with h0 | h0
      rotate_left
      · skip
        have HE : Hid (instrB ⟨8, a, b, c, d, nm⟩ = false) := by
          unfold Hid
          show ((c == 0 && (d == 0 && noName nm)) && (inR a 0 2 && regB b)) = false
          revert h0
          generalize (c == 0) = x0
          generalize (d == 0) = x1
          generalize (noName nm) = x2
          generalize (inR a 0 2) = x3
          generalize (regB b) = x4
          clear hs
          revert x0 x1 x2 x3 x4
          simp [Bool.forall_bool]
        obtain rfl : p = false := HP.out.trans h0
        go_wp2
        go_ret
        exact ⟨by rw [HE.out]; rfl, (Below.refl _ _).alloc (Nat.le_refl _) _⟩
      rcases Bool.eq_false_or_eq_true (inR a 0 2) with h1 | h1
      rotate_left
      · skip
        have HE : Hid (instrB ⟨8, a, b, c, d, nm⟩ = false) := by
          unfold Hid
          show ((c == 0 && (d == 0 && noName nm)) && (inR a 0 2 && regB b)) = false
          revert h0 h1
          generalize (c == 0) = x0
          generalize (d == 0) = x1
          generalize (noName nm) = x2
          generalize (inR a 0 2) = x3
          generalize (regB b) = x4
          clear hs
          revert x0 x1 x2 x3 x4
          simp [Bool.forall_bool]
        obtain rfl : p = true := HP.out.trans h0
        go_wp2_with (first | (go_at_call 54; refine (spec_l1In_calls _ _ _ _).mono ?_; rintro e w1 ⟨rfl, rfl⟩; rw [h1]))
        go_ret
        exact ⟨by rw [HE.out]; rfl, (Below.refl _ _).alloc (Nat.le_refl _) _⟩
      rcases Bool.eq_false_or_eq_true (regB b) with h2 | h2
      rotate_left
      · skip
        have HE : Hid (instrB ⟨8, a, b, c, d, nm⟩ = false) := by
          unfold Hid
          show ((c == 0 && (d == 0 && noName nm)) && (inR a 0 2 && regB b)) = false
          revert h0 h1 h2
          generalize (c == 0) = x0
          generalize (d == 0) = x1
          generalize (noName nm) = x2
          generalize (inR a 0 2) = x3
          generalize (regB b) = x4
          clear hs
          revert x0 x1 x2 x3 x4
          simp [Bool.forall_bool]
        obtain rfl : p = true := HP.out.trans h0
        go_wp2_with (first | (go_at_call 54; refine (spec_l1In_calls _ _ _ _).mono ?_; rintro e w1 ⟨rfl, rfl⟩; rw [h1]) | (go_at_call 51; refine (spec_IsReg_calls _ _).mono ?_; rintro e w1 ⟨rfl, rfl⟩; rw [h2]))
        go_ret
        exact ⟨by rw [HE.out]; rfl, (Below.refl _ _).alloc (Nat.le_refl _) _⟩
      have HE : Hid (instrB ⟨8, a, b, c, d, nm⟩ = true) := by
        unfold Hid
        show ((c == 0 && (d == 0 && noName nm)) && (inR a 0 2 && regB b)) = true
        revert h0 h1 h2
        generalize (c == 0) = x0
        generalize (d == 0) = x1
        generalize (noName nm) = x2
        generalize (inR a 0 2) = x3
        generalize (regB b) = x4
        clear hs
        revert x0 x1 x2 x3 x4
        simp [Bool.forall_bool]
      obtain rfl : p = true := HP.out.trans h0
      go_wp2_with (first | (go_at_call 54; refine (spec_l1In_calls _ _ _ _).mono ?_; rintro e w1 ⟨rfl, rfl⟩; rw [h1]) | (go_at_call 51; refine (spec_IsReg_calls _ _).mono ?_; rintro e w1 ⟨rfl, rfl⟩; rw [h2]))
      go_ret
      exact ⟨by rw [HE.out]; rfl, (Below.refl _ _).alloc (Nat.le_refl _) _⟩
    by_cases e9 : op = 9
    · subst e9
      rcases Bool.eq_false_or_eq_true ((c == 0 && (d == 0 && noName nm))) with h0 | h0
      rotate_left
      · skip
        have HE : Hid (instrB ⟨9, a, b, c, d, nm⟩ = false) := by
          unfold Hid
          show ((c == 0 && (d == 0 && noName nm)) && (regB a && inR b 1 12)) = false
          revert h0
          generalize (c == 0) = x0
          generalize (d == 0) = x1
          generalize (noName nm) = x2
          generalize (regB a) = x3
          generalize (inR b 1 12) = x4
          clear hs
          revert x0 x1 x2 x3 x4
          simp [Bool.forall_bool]
        obtain rfl : p = false := HP.out.trans h0
        go_wp2
        go_ret
        exact ⟨by rw [HE.out]; rfl, (Below.refl _ _).alloc (Nat.le_refl _) _⟩
      rcases Bool.eq_false_or_eq_true (regB a) with h1 | h1
      rotate_left
      · skip
        have HE : Hid (instrB ⟨9, a, b, c, d, nm⟩ = false) := by
          unfold Hid
          show ((c == 0 && (d == 0 && noName nm)) && (regB a && inR b 1 12)) = false
          revert h0 h1
          generalize (c == 0) = x0
          generalize (d == 0) = x1
          generalize (noName nm) = x2
          generalize (regB a) = x3
          generalize (inR b 1 12) = x4
          clear hs
          revert x0 x1 x2 x3 x4
          simp [Bool.forall_bool]
        obtain rfl : p = true := HP.out.trans h0
        go_wp2_with (first | (go_at_call 51; refine (spec_IsReg_calls _ _).mono ?_; rintro e w1 ⟨rfl, rfl⟩; rw [h1]))
        go_ret
        exact ⟨by rw [HE.out]; rfl, (Below.refl _ _).alloc (Nat.le_refl _) _⟩
      rcases Bool.eq_false_or_eq_true (inR b 1 12) with h2 | h2
      rotate_left
      · skip
        have HE : Hid (instrB ⟨9, a, b, c, d, nm⟩ = false) := by
          unfold Hid
          show ((c == 0 && (d == 0 && noName nm)) && (regB a && inR b 1 12)) = false
          revert h0 h1 h2
          generalize (c == 0) = x0
          generalize (d == 0) = x1
          generalize (noName nm) = x2
          generalize (regB a) = x3
          generalize (inR b 1 12) = x4
          clear hs
          revert x0 x1 x2 x3 x4
          simp [Bool.forall_bool]
        obtain rfl : p = true := HP.out.trans h0
        go_wp2_with (first | (go_at_call 51; refine (spec_IsReg_calls _ _).mono ?_; rintro e w1 ⟨rfl, rfl⟩; rw [h1]) | (go_at_call 54; refine (spec_l1In_calls _ _ _ _).mono ?_; rintro e w1 ⟨rfl, rfl⟩; rw [h2]))
        go_ret
        exact ⟨by rw [HE.out]; rfl, (Below.refl _ _).alloc (Nat.le_refl _) _⟩
      have HE : Hid (instrB ⟨9, a, b, c, d, nm⟩ = true) := by
        unfold Hid
        show ((c == 0 && (d == 0 && noName nm)) && (regB a && inR b 1 12)) = true
        revert h0 h1 h2
        generalize (c == 0) = x0
        generalize (d == 0) = x1
        generalize (noName nm) = x2
        generalize (regB a) = x3
        generalize (inR b 1 12) = x4
        clear hs
        revert x0 x1 x2 x3 x4
        simp [Bool.forall_bool]
      obtain rfl : p = true := HP.out.trans h0
      go_wp2_with (first | (go_at_call 51; refine (spec_IsReg_calls _ _).mono ?_; rintro e w1 ⟨rfl, rfl⟩; rw [h1]) | (go_at_call 54; refine (spec_l1In_calls _ _ _ _).mono ?_; rintro e w1 ⟨rfl, rfl⟩; rw [h2]))
      go_ret
      exact ⟨by rw [HE.out]; rfl, (Below.refl _ _).alloc (Nat.le_refl _) _⟩
    have HE : Hid (instrB ⟨op, a, b, c, d, nm⟩ = false) := by unfold Hid instrB; dsimp only; simp [e1, e2, e3, e4, e5, e6, e7, e8, e9, e10]
    go_wp2
    go_ret
    exact ⟨by rw [HE.out]; rfl, (Below.refl _ _).alloc (Nat.le_refl _) _⟩

end Go.Proofs.Ytiohoeafdaihpaa
