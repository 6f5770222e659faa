import Derived.Test.YtiohoeafdaihpaaProg
import Derived.Test.YtiohoeafdaihpaaTypes
import Derived.StillTailTactics
import Derived.Deep.RegionHeld3
import Derived.Laws.IdiomStrings
import Derived.Test.YtiohoeafdaihpaaAppend
import Derived.Laws.StructEq
import Derived.Lib.SliceRun
import Derived.Shelf.RegionOpenPlain
import Derived.Test.YtiohoeafdaihpaaSafe
namespace Go.Proofs.Ytiohoeafdaihpaa
open Go.RowKit
set_option linter.unusedVariables false
set_option linter.unusedSimpArgs false

theorem run_eql_Instr (x y : GInstr) (w : World) : Sem.run Try.prog (binOp .eql 47 (.agg #[.int .i64 x.Op, .int .i64 x.A, .int .i64 x.B, .int .i64 x.C, .int .i64 x.D, .string x.Name]) (.agg #[.int .i64 y.Op, .int .i64 y.A, .int .i64 y.B, .int .i64 y.C, .int .i64 y.D, .string y.Name])) w = .ok (.bool (eqbInstr x y)) w := by
  have hS47 : Try.prog.underlying 47 = some (.struct (Try.prog.fieldsOf 47)) := by kernel_rfl
  have hp47 : Try.prog.stoodInHeld 47 = false := by kernel_rfl
  have u3 := Try.underlying3
  have u9 := Try.underlying9
  rw [run_eql_struct, show (10000 : Nat) = 9999 + 1 from rfl, run_equalIn_struct w 9999 47 _ _ hS47 hp47]
  simp only [Program.fieldsOf, Try.underlying47]
  go_simp
  unfold eqbInstr
  repeat' split
  all_goals simp_all
theorem run_neq_Instr (x y : GInstr) (w : World) : Sem.run Try.prog (binOp .neq 47 (.agg #[.int .i64 x.Op, .int .i64 x.A, .int .i64 x.B, .int .i64 x.C, .int .i64 x.D, .string x.Name]) (.agg #[.int .i64 y.Op, .int .i64 y.A, .int .i64 y.B, .int .i64 y.C, .int .i64 y.D, .string y.Name])) w = .ok (.bool (!eqbInstr x y)) w := by
  have hS47 : Try.prog.underlying 47 = some (.struct (Try.prog.fieldsOf 47)) := by kernel_rfl
  have hp47 : Try.prog.stoodInHeld 47 = false := by kernel_rfl
  have u3 := Try.underlying3
  have u9 := Try.underlying9
  rw [run_neq_struct, show (10000 : Nat) = 9999 + 1 from rfl, run_equalIn_struct w 9999 47 _ _ hS47 hp47]
  simp only [Program.fieldsOf, Try.underlying47]
  go_simp
  unfold eqbInstr
  repeat' split
  all_goals simp_all

set_option maxHeartbeats 12800000 in
set_option maxRecDepth 100000 in
theorem impl_isInstr_calls (y : GInstr) (w : World) (hs : y.Name.size ≤ 140737488355328) :
    Calls Try.prog 96 #[.agg #[.int .i64 y.Op, .int .i64 y.A, .int .i64 y.B, .int .i64 y.C, .int .i64 y.D, .string y.Name]] w fun e w' => e = .returned (.bool (instrB y)) ∧ Below w.heap.size w w' := by
  have p2 := eqb_plain2 y
  have p3 := eqb_plain3 y
  have p4 := eqb_plain4 y
  obtain ⟨op, a, b, c, d, nm⟩ := y
  unfold plainB at p2 p3
  dsimp only at p2 p3 p4 hs ⊢
  by_cases e1 : op = 1
  · subst e1
    rcases Bool.eq_false_or_eq_true ((c == 0 && (d == 0 && noName nm))) with h0 | h0
    rotate_left
    · skip
      have HE : Hid (instrB ⟨1, a, b, c, d, nm⟩ = false) := by
        unfold Hid
        show ((c == 0 && (d == 0 && noName nm)) && (regB a && inR b 0 999999)) = false
        revert h0
        generalize (c == 0) = x0
        generalize (d == 0) = x1
        generalize (noName nm) = x2
        generalize (regB a) = x3
        generalize (inR b 0 999999) = x4
        clear p2 p3 p4 hs
        revert x0 x1 x2 x3 x4
        simp [Bool.forall_bool]
      have q0 := fun w => run_eql_Instr ⟨1, a, b, c, d, nm⟩ ⟨1, a, b, 0, 0, ⟨#[]⟩⟩ w
      rw [p3, h0] at q0
      dsimp only at q0
      clear p2 p3 p4
      go_enter Try.func96, Try.ntmps96
      go_wp2
      go_ret
      exact ⟨by rw [HE.out]; rfl, (Below.refl _ _).alloc (Nat.le_refl _) _⟩
    rcases Bool.eq_false_or_eq_true (regB a) with h1 | h1
    rotate_left
    · skip
      have HE : Hid (instrB ⟨1, a, b, c, d, nm⟩ = false) := by
        unfold Hid
        show ((c == 0 && (d == 0 && noName nm)) && (regB a && inR b 0 999999)) = false
        revert h0 h1
        generalize (c == 0) = x0
        generalize (d == 0) = x1
        generalize (noName nm) = x2
        generalize (regB a) = x3
        generalize (inR b 0 999999) = x4
        clear p2 p3 p4 hs
        revert x0 x1 x2 x3 x4
        simp [Bool.forall_bool]
      have q0 := fun w => run_eql_Instr ⟨1, a, b, c, d, nm⟩ ⟨1, a, b, 0, 0, ⟨#[]⟩⟩ w
      rw [p3, h0] at q0
      dsimp only at q0
      clear p2 p3 p4
      go_enter Try.func96, Try.ntmps96
      go_wp2_with (first | (go_at_call 109; refine (impl_isReg_calls _ _).mono ?_; rintro e w1 ⟨rfl, rfl⟩; rw [h1]))
      go_ret
      exact ⟨by rw [HE.out]; rfl, (Below.refl _ _).alloc (Nat.le_refl _) _⟩
    rcases Bool.eq_false_or_eq_true (inR b 0 999999) with h2 | h2
    rotate_left
    · skip
      have HE : Hid (instrB ⟨1, a, b, c, d, nm⟩ = false) := by
        unfold Hid
        show ((c == 0 && (d == 0 && noName nm)) && (regB a && inR b 0 999999)) = false
        revert h0 h1 h2
        generalize (c == 0) = x0
        generalize (d == 0) = x1
        generalize (noName nm) = x2
        generalize (regB a) = x3
        generalize (inR b 0 999999) = x4
        clear p2 p3 p4 hs
        revert x0 x1 x2 x3 x4
        simp [Bool.forall_bool]
      have q0 := fun w => run_eql_Instr ⟨1, a, b, c, d, nm⟩ ⟨1, a, b, 0, 0, ⟨#[]⟩⟩ w
      rw [p3, h0] at q0
      dsimp only at q0
      clear p2 p3 p4
      go_enter Try.func96, Try.ntmps96
      go_wp2_with (first | (go_at_call 109; refine (impl_isReg_calls _ _).mono ?_; rintro e w1 ⟨rfl, rfl⟩; rw [h1]) | (go_at_call 88; refine (impl_in_calls _ _ _ _).mono ?_; rintro e w1 ⟨rfl, rfl⟩; rw [h2]))
      go_ret
      exact ⟨by rw [HE.out]; rfl, (Below.refl _ _).alloc (Nat.le_refl _) _⟩
    have HE : Hid (instrB ⟨1, a, b, c, d, nm⟩ = true) := by
      unfold Hid
      show ((c == 0 && (d == 0 && noName nm)) && (regB a && inR b 0 999999)) = true
      revert h0 h1 h2
      generalize (c == 0) = x0
      generalize (d == 0) = x1
      generalize (noName nm) = x2
      generalize (regB a) = x3
      generalize (inR b 0 999999) = x4
      clear p2 p3 p4 hs
      revert x0 x1 x2 x3 x4
      simp [Bool.forall_bool]
    have q0 := fun w => run_eql_Instr ⟨1, a, b, c, d, nm⟩ ⟨1, a, b, 0, 0, ⟨#[]⟩⟩ w
    rw [p3, h0] at q0
    dsimp only at q0
    clear p2 p3 p4
    go_enter Try.func96, Try.ntmps96
    go_wp2_with (first | (go_at_call 109; refine (impl_isReg_calls _ _).mono ?_; rintro e w1 ⟨rfl, rfl⟩; rw [h1]) | (go_at_call 88; refine (impl_in_calls _ _ _ _).mono ?_; rintro e w1 ⟨rfl, rfl⟩; rw [h2]))
    go_ret
    exact ⟨by rw [HE.out]; rfl, (Below.refl _ _).alloc (Nat.le_refl _) _⟩
  by_cases e2 : op = 2
  · subst e2
    rcases Bool.eq_false_or_eq_true ((c == 0 && (d == 0 && noName nm))) with h0 | h0
    rotate_left
    · skip
      have HE : Hid (instrB ⟨2, a, b, c, d, nm⟩ = false) := by
        unfold Hid
        show ((c == 0 && (d == 0 && noName nm)) && (regB a && inR b 0 1)) = false
        revert h0
        generalize (c == 0) = x0
        generalize (d == 0) = x1
        generalize (noName nm) = x2
        generalize (regB a) = x3
        generalize (inR b 0 1) = x4
        clear p2 p3 p4 hs
        revert x0 x1 x2 x3 x4
        simp [Bool.forall_bool]
      have q0 := fun w => run_eql_Instr ⟨2, a, b, c, d, nm⟩ ⟨2, a, b, 0, 0, ⟨#[]⟩⟩ w
      rw [p3, h0] at q0
      dsimp only at q0
      clear p2 p3 p4
      go_enter Try.func96, Try.ntmps96
      go_wp2
      go_ret
      exact ⟨by rw [HE.out]; rfl, (Below.refl _ _).alloc (Nat.le_refl _) _⟩
    rcases Bool.eq_false_or_eq_true (regB a) with h1 | h1
    rotate_left
    · skip
      have HE : Hid (instrB ⟨2, a, b, c, d, nm⟩ = false) := by
        unfold Hid
        show ((c == 0 && (d == 0 && noName nm)) && (regB a && inR b 0 1)) = false
        revert h0 h1
        generalize (c == 0) = x0
        generalize (d == 0) = x1
        generalize (noName nm) = x2
        generalize (regB a) = x3
        generalize (inR b 0 1) = x4
        clear p2 p3 p4 hs
        revert x0 x1 x2 x3 x4
        simp [Bool.forall_bool]
      have q0 := fun w => run_eql_Instr ⟨2, a, b, c, d, nm⟩ ⟨2, a, b, 0, 0, ⟨#[]⟩⟩ w
      rw [p3, h0] at q0
      dsimp only at q0
      clear p2 p3 p4
      go_enter Try.func96, Try.ntmps96
      go_wp2_with (first | (go_at_call 109; refine (impl_isReg_calls _ _).mono ?_; rintro e w1 ⟨rfl, rfl⟩; rw [h1]))
      go_ret
      exact ⟨by rw [HE.out]; rfl, (Below.refl _ _).alloc (Nat.le_refl _) _⟩
    rcases Bool.eq_false_or_eq_true (inR b 0 1) with h2 | h2
    rotate_left
    · skip
      have HE : Hid (instrB ⟨2, a, b, c, d, nm⟩ = false) := by
        unfold Hid
        show ((c == 0 && (d == 0 && noName nm)) && (regB a && inR b 0 1)) = false
        revert h0 h1 h2
        generalize (c == 0) = x0
        generalize (d == 0) = x1
        generalize (noName nm) = x2
        generalize (regB a) = x3
        generalize (inR b 0 1) = x4
        clear p2 p3 p4 hs
        revert x0 x1 x2 x3 x4
        simp [Bool.forall_bool]
      have q0 := fun w => run_eql_Instr ⟨2, a, b, c, d, nm⟩ ⟨2, a, b, 0, 0, ⟨#[]⟩⟩ w
      rw [p3, h0] at q0
      dsimp only at q0
      clear p2 p3 p4
      go_enter Try.func96, Try.ntmps96
      go_wp2_with (first | (go_at_call 109; refine (impl_isReg_calls _ _).mono ?_; rintro e w1 ⟨rfl, rfl⟩; rw [h1]) | (go_at_call 88; refine (impl_in_calls _ _ _ _).mono ?_; rintro e w1 ⟨rfl, rfl⟩; rw [h2]))
      go_ret
      exact ⟨by rw [HE.out]; rfl, (Below.refl _ _).alloc (Nat.le_refl _) _⟩
    have HE : Hid (instrB ⟨2, a, b, c, d, nm⟩ = true) := by
      unfold Hid
      show ((c == 0 && (d == 0 && noName nm)) && (regB a && inR b 0 1)) = true
      revert h0 h1 h2
      generalize (c == 0) = x0
      generalize (d == 0) = x1
      generalize (noName nm) = x2
      generalize (regB a) = x3
      generalize (inR b 0 1) = x4
      clear p2 p3 p4 hs
      revert x0 x1 x2 x3 x4
      simp [Bool.forall_bool]
    have q0 := fun w => run_eql_Instr ⟨2, a, b, c, d, nm⟩ ⟨2, a, b, 0, 0, ⟨#[]⟩⟩ w
    rw [p3, h0] at q0
    dsimp only at q0
    clear p2 p3 p4
    go_enter Try.func96, Try.ntmps96
    go_wp2_with (first | (go_at_call 109; refine (impl_isReg_calls _ _).mono ?_; rintro e w1 ⟨rfl, rfl⟩; rw [h1]) | (go_at_call 88; refine (impl_in_calls _ _ _ _).mono ?_; rintro e w1 ⟨rfl, rfl⟩; rw [h2]))
    go_ret
    exact ⟨by rw [HE.out]; rfl, (Below.refl _ _).alloc (Nat.le_refl _) _⟩
  by_cases e3 : op = 3
  · subst e3
    rcases Bool.eq_false_or_eq_true ((c == 0 && (d == 0 && noName nm))) with h0 | h0
    rotate_left
    · skip
      have HE : Hid (instrB ⟨3, a, b, c, d, nm⟩ = false) := by
        unfold Hid
        show ((c == 0 && (d == 0 && noName nm)) && (regB a && inR b 0 2)) = false
        revert h0
        generalize (c == 0) = x0
        generalize (d == 0) = x1
        generalize (noName nm) = x2
        generalize (regB a) = x3
        generalize (inR b 0 2) = x4
        clear p2 p3 p4 hs
        revert x0 x1 x2 x3 x4
        simp [Bool.forall_bool]
      have q0 := fun w => run_eql_Instr ⟨3, a, b, c, d, nm⟩ ⟨3, a, b, 0, 0, ⟨#[]⟩⟩ w
      rw [p3, h0] at q0
      dsimp only at q0
      clear p2 p3 p4
      go_enter Try.func96, Try.ntmps96
      go_wp2
      go_ret
      exact ⟨by rw [HE.out]; rfl, (Below.refl _ _).alloc (Nat.le_refl _) _⟩
    rcases Bool.eq_false_or_eq_true (regB a) with h1 | h1
    rotate_left
    · skip
      have HE : Hid (instrB ⟨3, a, b, c, d, nm⟩ = false) := by
        unfold Hid
        show ((c == 0 && (d == 0 && noName nm)) && (regB a && inR b 0 2)) = false
        revert h0 h1
        generalize (c == 0) = x0
        generalize (d == 0) = x1
        generalize (noName nm) = x2
        generalize (regB a) = x3
        generalize (inR b 0 2) = x4
        clear p2 p3 p4 hs
        revert x0 x1 x2 x3 x4
        simp [Bool.forall_bool]
      have q0 := fun w => run_eql_Instr ⟨3, a, b, c, d, nm⟩ ⟨3, a, b, 0, 0, ⟨#[]⟩⟩ w
      rw [p3, h0] at q0
      dsimp only at q0
      clear p2 p3 p4
      go_enter Try.func96, Try.ntmps96
      go_wp2_with (first | (go_at_call 109; refine (impl_isReg_calls _ _).mono ?_; rintro e w1 ⟨rfl, rfl⟩; rw [h1]))
      go_ret
      exact ⟨by rw [HE.out]; rfl, (Below.refl _ _).alloc (Nat.le_refl _) _⟩
    rcases Bool.eq_false_or_eq_true (inR b 0 2) with h2 | h2
    rotate_left
    · skip
      have HE : Hid (instrB ⟨3, a, b, c, d, nm⟩ = false) := by
        unfold Hid
        show ((c == 0 && (d == 0 && noName nm)) && (regB a && inR b 0 2)) = false
        revert h0 h1 h2
        generalize (c == 0) = x0
        generalize (d == 0) = x1
        generalize (noName nm) = x2
        generalize (regB a) = x3
        generalize (inR b 0 2) = x4
        clear p2 p3 p4 hs
        revert x0 x1 x2 x3 x4
        simp [Bool.forall_bool]
      have q0 := fun w => run_eql_Instr ⟨3, a, b, c, d, nm⟩ ⟨3, a, b, 0, 0, ⟨#[]⟩⟩ w
      rw [p3, h0] at q0
      dsimp only at q0
      clear p2 p3 p4
      go_enter Try.func96, Try.ntmps96
      go_wp2_with (first | (go_at_call 109; refine (impl_isReg_calls _ _).mono ?_; rintro e w1 ⟨rfl, rfl⟩; rw [h1]) | (go_at_call 88; refine (impl_in_calls _ _ _ _).mono ?_; rintro e w1 ⟨rfl, rfl⟩; rw [h2]))
      go_ret
      exact ⟨by rw [HE.out]; rfl, (Below.refl _ _).alloc (Nat.le_refl _) _⟩
    have HE : Hid (instrB ⟨3, a, b, c, d, nm⟩ = true) := by
      unfold Hid
      show ((c == 0 && (d == 0 && noName nm)) && (regB a && inR b 0 2)) = true
      revert h0 h1 h2
      generalize (c == 0) = x0
      generalize (d == 0) = x1
      generalize (noName nm) = x2
      generalize (regB a) = x3
      generalize (inR b 0 2) = x4
      clear p2 p3 p4 hs
      revert x0 x1 x2 x3 x4
      simp [Bool.forall_bool]
    have q0 := fun w => run_eql_Instr ⟨3, a, b, c, d, nm⟩ ⟨3, a, b, 0, 0, ⟨#[]⟩⟩ w
    rw [p3, h0] at q0
    dsimp only at q0
    clear p2 p3 p4
    go_enter Try.func96, Try.ntmps96
    go_wp2_with (first | (go_at_call 109; refine (impl_isReg_calls _ _).mono ?_; rintro e w1 ⟨rfl, rfl⟩; rw [h1]) | (go_at_call 88; refine (impl_in_calls _ _ _ _).mono ?_; rintro e w1 ⟨rfl, rfl⟩; rw [h2]))
    go_ret
    exact ⟨by rw [HE.out]; rfl, (Below.refl _ _).alloc (Nat.le_refl _) _⟩
  by_cases e4 : op = 4
  · subst e4
    rcases Bool.eq_false_or_eq_true (b == 0 && (c == 0 && (d == 0 && noName nm))) with h0 | h0
    rotate_left
    · skip
      have HE : Hid (instrB ⟨4, a, b, c, d, nm⟩ = false) := by
        unfold Hid
        show ((c == 0 && (d == 0 && noName nm)) && (regB a && (b == 0))) = false
        revert h0
        generalize (c == 0) = x0
        generalize (d == 0) = x1
        generalize (noName nm) = x2
        generalize (regB a) = x3
        generalize (b == 0) = x4
        clear p2 p3 p4 hs
        revert x0 x1 x2 x3 x4
        simp [Bool.forall_bool]
      have q0 := fun w => run_eql_Instr ⟨4, a, b, c, d, nm⟩ ⟨4, a, 0, 0, 0, ⟨#[]⟩⟩ w
      rw [p2, h0] at q0
      dsimp only at q0
      clear p2 p3 p4
      go_enter Try.func96, Try.ntmps96
      go_wp2
      go_ret
      exact ⟨by rw [HE.out]; rfl, (Below.refl _ _).alloc (Nat.le_refl _) _⟩
    rcases Bool.eq_false_or_eq_true (regB a) with h1 | h1
    rotate_left
    · skip
      have HE : Hid (instrB ⟨4, a, b, c, d, nm⟩ = false) := by
        unfold Hid
        show ((c == 0 && (d == 0 && noName nm)) && (regB a && (b == 0))) = false
        revert h0 h1
        generalize (c == 0) = x0
        generalize (d == 0) = x1
        generalize (noName nm) = x2
        generalize (regB a) = x3
        generalize (b == 0) = x4
        clear p2 p3 p4 hs
        revert x0 x1 x2 x3 x4
        simp [Bool.forall_bool]
      have q0 := fun w => run_eql_Instr ⟨4, a, b, c, d, nm⟩ ⟨4, a, 0, 0, 0, ⟨#[]⟩⟩ w
      rw [p2, h0] at q0
      dsimp only at q0
      clear p2 p3 p4
      go_enter Try.func96, Try.ntmps96
      go_wp2_with (first | (go_at_call 109; refine (impl_isReg_calls _ _).mono ?_; rintro e w1 ⟨rfl, rfl⟩; rw [h1]))
      go_ret
      exact ⟨by rw [HE.out]; rfl, (Below.refl _ _).alloc (Nat.le_refl _) _⟩
    have HE : Hid (instrB ⟨4, a, b, c, d, nm⟩ = true) := by
      unfold Hid
      show ((c == 0 && (d == 0 && noName nm)) && (regB a && (b == 0))) = true
      revert h0 h1
      generalize (c == 0) = x0
      generalize (d == 0) = x1
      generalize (noName nm) = x2
      generalize (regB a) = x3
      generalize (b == 0) = x4
      clear p2 p3 p4 hs
      revert x0 x1 x2 x3 x4
      simp [Bool.forall_bool]
    have q0 := fun w => run_eql_Instr ⟨4, a, b, c, d, nm⟩ ⟨4, a, 0, 0, 0, ⟨#[]⟩⟩ w
    rw [p2, h0] at q0
    dsimp only at q0
    clear p2 p3 p4
    go_enter Try.func96, Try.ntmps96
    go_wp2_with (first | (go_at_call 109; refine (impl_isReg_calls _ _).mono ?_; rintro e w1 ⟨rfl, rfl⟩; rw [h1]))
    go_ret
    exact ⟨by rw [HE.out]; rfl, (Below.refl _ _).alloc (Nat.le_refl _) _⟩
  by_cases e10 : op = 10
  · subst e10
    rcases Bool.eq_false_or_eq_true (b == 0 && (c == 0 && (d == 0 && noName nm))) with h0 | h0
    rotate_left
    · skip
      have HE : Hid (instrB ⟨10, a, b, c, d, nm⟩ = false) := by
        unfold Hid
        show ((c == 0 && (d == 0 && noName nm)) && (regB a && (b == 0))) = false
        revert h0
        generalize (c == 0) = x0
        generalize (d == 0) = x1
        generalize (noName nm) = x2
        generalize (regB a) = x3
        generalize (b == 0) = x4
        clear p2 p3 p4 hs
        revert x0 x1 x2 x3 x4
        simp [Bool.forall_bool]
      have q0 := fun w => run_eql_Instr ⟨10, a, b, c, d, nm⟩ ⟨10, a, 0, 0, 0, ⟨#[]⟩⟩ w
      rw [p2, h0] at q0
      dsimp only at q0
      clear p2 p3 p4
      go_enter Try.func96, Try.ntmps96
      go_wp2
      go_ret
      exact ⟨by rw [HE.out]; rfl, (Below.refl _ _).alloc (Nat.le_refl _) _⟩
    rcases Bool.eq_false_or_eq_true (regB a) with h1 | h1
    rotate_left
    · skip
      have HE : Hid (instrB ⟨10, a, b, c, d, nm⟩ = false) := by
        unfold Hid
        show ((c == 0 && (d == 0 && noName nm)) && (regB a && (b == 0))) = false
        revert h0 h1
        generalize (c == 0) = x0
        generalize (d == 0) = x1
        generalize (noName nm) = x2
        generalize (regB a) = x3
        generalize (b == 0) = x4
        clear p2 p3 p4 hs
        revert x0 x1 x2 x3 x4
        simp [Bool.forall_bool]
      have q0 := fun w => run_eql_Instr ⟨10, a, b, c, d, nm⟩ ⟨10, a, 0, 0, 0, ⟨#[]⟩⟩ w
      rw [p2, h0] at q0
      dsimp only at q0
      clear p2 p3 p4
      go_enter Try.func96, Try.ntmps96
      go_wp2_with (first | (go_at_call 109; refine (impl_isReg_calls _ _).mono ?_; rintro e w1 ⟨rfl, rfl⟩; rw [h1]))
      go_ret
      exact ⟨by rw [HE.out]; rfl, (Below.refl _ _).alloc (Nat.le_refl _) _⟩
    have HE : Hid (instrB ⟨10, a, b, c, d, nm⟩ = true) := by
      unfold Hid
      show ((c == 0 && (d == 0 && noName nm)) && (regB a && (b == 0))) = true
      revert h0 h1
      generalize (c == 0) = x0
      generalize (d == 0) = x1
      generalize (noName nm) = x2
      generalize (regB a) = x3
      generalize (b == 0) = x4
      clear p2 p3 p4 hs
      revert x0 x1 x2 x3 x4
      simp [Bool.forall_bool]
    have q0 := fun w => run_eql_Instr ⟨10, a, b, c, d, nm⟩ ⟨10, a, 0, 0, 0, ⟨#[]⟩⟩ w
    rw [p2, h0] at q0
    dsimp only at q0
    clear p2 p3 p4
    go_enter Try.func96, Try.ntmps96
    go_wp2_with (first | (go_at_call 109; refine (impl_isReg_calls _ _).mono ?_; rintro e w1 ⟨rfl, rfl⟩; rw [h1]))
    go_ret
    exact ⟨by rw [HE.out]; rfl, (Below.refl _ _).alloc (Nat.le_refl _) _⟩
  by_cases e5 : op = 5
  · subst e5
    rcases Bool.eq_false_or_eq_true (d == 0 && noName nm) with h0 | h0
    rotate_left
    · skip
      have HE : Hid (instrB ⟨5, a, b, c, d, nm⟩ = false) := by
        unfold Hid
        show (regB a && (regB b && (regB c && ((d == 0) && noName nm)))) = false
        revert h0
        generalize (regB a) = x0
        generalize (regB b) = x1
        generalize (regB c) = x2
        generalize (d == 0) = x3
        generalize (noName nm) = x4
        clear p2 p3 p4 hs
        revert x0 x1 x2 x3 x4
        simp [Bool.forall_bool]
      have q0 := fun w => run_eql_Instr ⟨5, a, b, c, d, nm⟩ ⟨5, a, b, c, 0, ⟨#[]⟩⟩ w
      rw [p4, h0] at q0
      dsimp only at q0
      clear p2 p3 p4
      go_enter Try.func96, Try.ntmps96
      go_wp2
      go_ret
      exact ⟨by rw [HE.out]; rfl, (Below.refl _ _).alloc (Nat.le_refl _) _⟩
    rcases Bool.eq_false_or_eq_true (regB a) with h1 | h1
    rotate_left
    · skip
      have HE : Hid (instrB ⟨5, a, b, c, d, nm⟩ = false) := by
        unfold Hid
        show (regB a && (regB b && (regB c && ((d == 0) && noName nm)))) = false
        revert h0 h1
        generalize (regB a) = x0
        generalize (regB b) = x1
        generalize (regB c) = x2
        generalize (d == 0) = x3
        generalize (noName nm) = x4
        clear p2 p3 p4 hs
        revert x0 x1 x2 x3 x4
        simp [Bool.forall_bool]
      have q0 := fun w => run_eql_Instr ⟨5, a, b, c, d, nm⟩ ⟨5, a, b, c, 0, ⟨#[]⟩⟩ w
      rw [p4, h0] at q0
      dsimp only at q0
      clear p2 p3 p4
      go_enter Try.func96, Try.ntmps96
      go_wp2_with (first | (go_at_call 109; refine (impl_isReg_calls _ _).mono ?_; rintro e w1 ⟨rfl, rfl⟩; rw [h1]))
      go_ret
      exact ⟨by rw [HE.out]; rfl, (Below.refl _ _).alloc (Nat.le_refl _) _⟩
    rcases Bool.eq_false_or_eq_true (regB b) with h2 | h2
    rotate_left
    · skip
      have HE : Hid (instrB ⟨5, a, b, c, d, nm⟩ = false) := by
        unfold Hid
        show (regB a && (regB b && (regB c && ((d == 0) && noName nm)))) = false
        revert h0 h1 h2
        generalize (regB a) = x0
        generalize (regB b) = x1
        generalize (regB c) = x2
        generalize (d == 0) = x3
        generalize (noName nm) = x4
        clear p2 p3 p4 hs
        revert x0 x1 x2 x3 x4
        simp [Bool.forall_bool]
      have q0 := fun w => run_eql_Instr ⟨5, a, b, c, d, nm⟩ ⟨5, a, b, c, 0, ⟨#[]⟩⟩ w
      rw [p4, h0] at q0
      dsimp only at q0
      clear p2 p3 p4
      go_enter Try.func96, Try.ntmps96
      go_wp2_with (first | (go_at_call 109; refine (impl_isReg_calls _ _).mono ?_; rintro e w1 ⟨rfl, rfl⟩; rw [h1]) | (go_at_call 109; refine (impl_isReg_calls _ _).mono ?_; rintro e w1 ⟨rfl, rfl⟩; rw [h2]))
      go_ret
      exact ⟨by rw [HE.out]; rfl, (Below.refl _ _).alloc (Nat.le_refl _) _⟩
    rcases Bool.eq_false_or_eq_true (regB c) with h3 | h3
    rotate_left
    · skip
      have HE : Hid (instrB ⟨5, a, b, c, d, nm⟩ = false) := by
        unfold Hid
        show (regB a && (regB b && (regB c && ((d == 0) && noName nm)))) = false
        revert h0 h1 h2 h3
        generalize (regB a) = x0
        generalize (regB b) = x1
        generalize (regB c) = x2
        generalize (d == 0) = x3
        generalize (noName nm) = x4
        clear p2 p3 p4 hs
        revert x0 x1 x2 x3 x4
        simp [Bool.forall_bool]
      have q0 := fun w => run_eql_Instr ⟨5, a, b, c, d, nm⟩ ⟨5, a, b, c, 0, ⟨#[]⟩⟩ w
      rw [p4, h0] at q0
      dsimp only at q0
      clear p2 p3 p4
      go_enter Try.func96, Try.ntmps96
      go_wp2_with (first | (go_at_call 109; refine (impl_isReg_calls _ _).mono ?_; rintro e w1 ⟨rfl, rfl⟩; rw [h1]) | (go_at_call 109; refine (impl_isReg_calls _ _).mono ?_; rintro e w1 ⟨rfl, rfl⟩; rw [h2]) | (go_at_call 109; refine (impl_isReg_calls _ _).mono ?_; rintro e w1 ⟨rfl, rfl⟩; rw [h3]))
      go_ret
      exact ⟨by rw [HE.out]; rfl, (Below.refl _ _).alloc (Nat.le_refl _) _⟩
    have HE : Hid (instrB ⟨5, a, b, c, d, nm⟩ = true) := by
      unfold Hid
      show (regB a && (regB b && (regB c && ((d == 0) && noName nm)))) = true
      revert h0 h1 h2 h3
      generalize (regB a) = x0
      generalize (regB b) = x1
      generalize (regB c) = x2
      generalize (d == 0) = x3
      generalize (noName nm) = x4
      clear p2 p3 p4 hs
      revert x0 x1 x2 x3 x4
      simp [Bool.forall_bool]
    have q0 := fun w => run_eql_Instr ⟨5, a, b, c, d, nm⟩ ⟨5, a, b, c, 0, ⟨#[]⟩⟩ w
    rw [p4, h0] at q0
    dsimp only at q0
    clear p2 p3 p4
    go_enter Try.func96, Try.ntmps96
    go_wp2_with (first | (go_at_call 109; refine (impl_isReg_calls _ _).mono ?_; rintro e w1 ⟨rfl, rfl⟩; rw [h1]) | (go_at_call 109; refine (impl_isReg_calls _ _).mono ?_; rintro e w1 ⟨rfl, rfl⟩; rw [h2]) | (go_at_call 109; refine (impl_isReg_calls _ _).mono ?_; rintro e w1 ⟨rfl, rfl⟩; rw [h3]))
    go_ret
    exact ⟨by rw [HE.out]; rfl, (Below.refl _ _).alloc (Nat.le_refl _) _⟩
  by_cases e6 : op = 6
  · subst e6
    rcases Bool.eq_false_or_eq_true (regB a) with h0 | h0
    rotate_left
    · skip
      have HE : Hid (instrB ⟨6, a, b, c, d, nm⟩ = false) := by
        unfold Hid
        show (regB a && (regB b && (pairB c d && nameB nm))) = false
        revert h0
        generalize (regB a) = x0
        generalize (regB b) = x1
        generalize (pairB c d) = x2
        generalize (nameB nm) = x3
        clear p2 p3 p4 hs
        revert x0 x1 x2 x3
        simp [Bool.forall_bool]
      clear p2 p3 p4
      go_enter Try.func96, Try.ntmps96
      go_wp2_with (first | (go_at_call 109; refine (impl_isReg_calls _ _).mono ?_; rintro e w1 ⟨rfl, rfl⟩; rw [h0]))
      go_ret
      exact ⟨by rw [HE.out]; rfl, (Below.refl _ _).alloc (Nat.le_refl _) _⟩
    rcases Bool.eq_false_or_eq_true (regB b) with h1 | h1
    rotate_left
    · skip
      have HE : Hid (instrB ⟨6, a, b, c, d, nm⟩ = false) := by
        unfold Hid
        show (regB a && (regB b && (pairB c d && nameB nm))) = false
        revert h0 h1
        generalize (regB a) = x0
        generalize (regB b) = x1
        generalize (pairB c d) = x2
        generalize (nameB nm) = x3
        clear p2 p3 p4 hs
        revert x0 x1 x2 x3
        simp [Bool.forall_bool]
      clear p2 p3 p4
      go_enter Try.func96, Try.ntmps96
      go_wp2_with (first | (go_at_call 109; refine (impl_isReg_calls _ _).mono ?_; rintro e w1 ⟨rfl, rfl⟩; rw [h0]) | (go_at_call 109; refine (impl_isReg_calls _ _).mono ?_; rintro e w1 ⟨rfl, rfl⟩; rw [h1]))
      go_ret
      exact ⟨by rw [HE.out]; rfl, (Below.refl _ _).alloc (Nat.le_refl _) _⟩
    rcases Bool.eq_false_or_eq_true (pairB c d) with h2 | h2
    rotate_left
    · skip
      have HE : Hid (instrB ⟨6, a, b, c, d, nm⟩ = false) := by
        unfold Hid
        show (regB a && (regB b && (pairB c d && nameB nm))) = false
        revert h0 h1 h2
        generalize (regB a) = x0
        generalize (regB b) = x1
        generalize (pairB c d) = x2
        generalize (nameB nm) = x3
        clear p2 p3 p4 hs
        revert x0 x1 x2 x3
        simp [Bool.forall_bool]
      clear p2 p3 p4
      go_enter Try.func96, Try.ntmps96
      go_wp2_with (first | (go_at_call 109; refine (impl_isReg_calls _ _).mono ?_; rintro e w1 ⟨rfl, rfl⟩; rw [h0]) | (go_at_call 109; refine (impl_isReg_calls _ _).mono ?_; rintro e w1 ⟨rfl, rfl⟩; rw [h1]) | (go_at_call 110; refine (impl_pairOk_calls _ _ _).mono ?_; rintro e w1 ⟨rfl, rfl⟩; rw [h2]))
      go_ret
      exact ⟨by rw [HE.out]; rfl, (Below.refl _ _).alloc (Nat.le_refl _) _⟩
    rcases Bool.eq_false_or_eq_true (nameB nm) with h3 | h3
    rotate_left
    · skip
      have HE : Hid (instrB ⟨6, a, b, c, d, nm⟩ = false) := by
        unfold Hid
        show (regB a && (regB b && (pairB c d && nameB nm))) = false
        revert h0 h1 h2 h3
        generalize (regB a) = x0
        generalize (regB b) = x1
        generalize (pairB c d) = x2
        generalize (nameB nm) = x3
        clear p2 p3 p4 hs
        revert x0 x1 x2 x3
        simp [Bool.forall_bool]
      clear p2 p3 p4
      go_enter Try.func96, Try.ntmps96
      go_wp2_with (first | (go_at_call 109; refine (impl_isReg_calls _ _).mono ?_; rintro e w1 ⟨rfl, rfl⟩; rw [h0]) | (go_at_call 109; refine (impl_isReg_calls _ _).mono ?_; rintro e w1 ⟨rfl, rfl⟩; rw [h1]) | (go_at_call 110; refine (impl_pairOk_calls _ _ _).mono ?_; rintro e w1 ⟨rfl, rfl⟩; rw [h2]) | (go_at_call 93; refine (impl_isName_calls _ _ hs).mono ?_; rintro e w1 ⟨rfl, rfl⟩; rw [h3]))
      go_ret
      exact ⟨by rw [HE.out]; rfl, (Below.refl _ _).alloc (Nat.le_refl _) _⟩
    have HE : Hid (instrB ⟨6, a, b, c, d, nm⟩ = true) := by
      unfold Hid
      show (regB a && (regB b && (pairB c d && nameB nm))) = true
      revert h0 h1 h2 h3
      generalize (regB a) = x0
      generalize (regB b) = x1
      generalize (pairB c d) = x2
      generalize (nameB nm) = x3
      clear p2 p3 p4 hs
      revert x0 x1 x2 x3
      simp [Bool.forall_bool]
    clear p2 p3 p4
    go_enter Try.func96, Try.ntmps96
    go_wp2_with (first | (go_at_call 109; refine (impl_isReg_calls _ _).mono ?_; rintro e w1 ⟨rfl, rfl⟩; rw [h0]) | (go_at_call 109; refine (impl_isReg_calls _ _).mono ?_; rintro e w1 ⟨rfl, rfl⟩; rw [h1]) | (go_at_call 110; refine (impl_pairOk_calls _ _ _).mono ?_; rintro e w1 ⟨rfl, rfl⟩; rw [h2]) | (go_at_call 93; refine (impl_isName_calls _ _ hs).mono ?_; rintro e w1 ⟨rfl, rfl⟩; rw [h3]))
    go_ret
    exact ⟨by rw [HE.out]; rfl, (Below.refl _ _).alloc (Nat.le_refl _) _⟩
  by_cases e7 : op = 7
  · subst e7
    rcases Bool.eq_false_or_eq_true (regB a) with h0 | h0
    rotate_left
    · skip
      have HE : Hid (instrB ⟨7, a, b, c, d, nm⟩ = false) := by
        unfold Hid
        show (regB a && ((b == 0) && (pairB c d && nameB nm))) = false
        revert h0
        generalize (regB a) = x0
        generalize (b == 0) = x1
        generalize (pairB c d) = x2
        generalize (nameB nm) = x3
        clear p2 p3 p4 hs
        revert x0 x1 x2 x3
        simp [Bool.forall_bool]
      clear p2 p3 p4
      go_enter Try.func96, Try.ntmps96
      go_wp2_with (first | (go_at_call 109; refine (impl_isReg_calls _ _).mono ?_; rintro e w1 ⟨rfl, rfl⟩; rw [h0]))
      go_ret
      exact ⟨by rw [HE.out]; rfl, (Below.refl _ _).alloc (Nat.le_refl _) _⟩
    rcases Bool.eq_false_or_eq_true (b == 0) with h1 | h1
    rotate_left
    · skip
      have HE : Hid (instrB ⟨7, a, b, c, d, nm⟩ = false) := by
        unfold Hid
        show (regB a && ((b == 0) && (pairB c d && nameB nm))) = false
        revert h0 h1
        generalize (regB a) = x0
        generalize (b == 0) = x1
        generalize (pairB c d) = x2
        generalize (nameB nm) = x3
        clear p2 p3 p4 hs
        revert x0 x1 x2 x3
        simp [Bool.forall_bool]
      clear p2 p3 p4
      go_enter Try.func96, Try.ntmps96
      go_wp2_with (first | (go_at_call 109; refine (impl_isReg_calls _ _).mono ?_; rintro e w1 ⟨rfl, rfl⟩; rw [h0]))
      go_ret
      exact ⟨by rw [HE.out]; rfl, (Below.refl _ _).alloc (Nat.le_refl _) _⟩
    rcases Bool.eq_false_or_eq_true (pairB c d) with h2 | h2
    rotate_left
    · skip
      have HE : Hid (instrB ⟨7, a, b, c, d, nm⟩ = false) := by
        unfold Hid
        show (regB a && ((b == 0) && (pairB c d && nameB nm))) = false
        revert h0 h1 h2
        generalize (regB a) = x0
        generalize (b == 0) = x1
        generalize (pairB c d) = x2
        generalize (nameB nm) = x3
        clear p2 p3 p4 hs
        revert x0 x1 x2 x3
        simp [Bool.forall_bool]
      clear p2 p3 p4
      go_enter Try.func96, Try.ntmps96
      go_wp2_with (first | (go_at_call 109; refine (impl_isReg_calls _ _).mono ?_; rintro e w1 ⟨rfl, rfl⟩; rw [h0]) | (go_at_call 110; refine (impl_pairOk_calls _ _ _).mono ?_; rintro e w1 ⟨rfl, rfl⟩; rw [h2]))
      go_ret
      exact ⟨by rw [HE.out]; rfl, (Below.refl _ _).alloc (Nat.le_refl _) _⟩
    rcases Bool.eq_false_or_eq_true (nameB nm) with h3 | h3
    rotate_left
    · skip
      have HE : Hid (instrB ⟨7, a, b, c, d, nm⟩ = false) := by
        unfold Hid
        show (regB a && ((b == 0) && (pairB c d && nameB nm))) = false
        revert h0 h1 h2 h3
        generalize (regB a) = x0
        generalize (b == 0) = x1
        generalize (pairB c d) = x2
        generalize (nameB nm) = x3
        clear p2 p3 p4 hs
        revert x0 x1 x2 x3
        simp [Bool.forall_bool]
      clear p2 p3 p4
      go_enter Try.func96, Try.ntmps96
      go_wp2_with (first | (go_at_call 109; refine (impl_isReg_calls _ _).mono ?_; rintro e w1 ⟨rfl, rfl⟩; rw [h0]) | (go_at_call 110; refine (impl_pairOk_calls _ _ _).mono ?_; rintro e w1 ⟨rfl, rfl⟩; rw [h2]) | (go_at_call 93; refine (impl_isName_calls _ _ hs).mono ?_; rintro e w1 ⟨rfl, rfl⟩; rw [h3]))
      go_ret
      exact ⟨by rw [HE.out]; rfl, (Below.refl _ _).alloc (Nat.le_refl _) _⟩
    have HE : Hid (instrB ⟨7, a, b, c, d, nm⟩ = true) := by
      unfold Hid
      show (regB a && ((b == 0) && (pairB c d && nameB nm))) = true
      revert h0 h1 h2 h3
      generalize (regB a) = x0
      generalize (b == 0) = x1
      generalize (pairB c d) = x2
      generalize (nameB nm) = x3
      clear p2 p3 p4 hs
      revert x0 x1 x2 x3
      simp [Bool.forall_bool]
    clear p2 p3 p4
    go_enter Try.func96, Try.ntmps96
    go_wp2_with (first | (go_at_call 109; refine (impl_isReg_calls _ _).mono ?_; rintro e w1 ⟨rfl, rfl⟩; rw [h0]) | (go_at_call 110; refine (impl_pairOk_calls _ _ _).mono ?_; rintro e w1 ⟨rfl, rfl⟩; rw [h2]) | (go_at_call 93; refine (impl_isName_calls _ _ hs).mono ?_; rintro e w1 ⟨rfl, rfl⟩; rw [h3]))
    go_ret
    exact ⟨by rw [HE.out]; rfl, (Below.refl _ _).alloc (Nat.le_refl _) _⟩
  by_cases e8 : op = 8
  · subst e8
    rcases Bool.eq_false_or_eq_true ((c == 0 && (d == 0 && noName nm))) with h0 | h0
    rotate_left
    · skip
      have HE : Hid (instrB ⟨8, a, b, c, d, nm⟩ = false) := by
        unfold Hid
        show ((c == 0 && (d == 0 && noName nm)) && (inR a 0 2 && regB b)) = false
        revert h0
        generalize (c == 0) = x0
        generalize (d == 0) = x1
        generalize (noName nm) = x2
        generalize (inR a 0 2) = x3
        generalize (regB b) = x4
        clear p2 p3 p4 hs
        revert x0 x1 x2 x3 x4
        simp [Bool.forall_bool]
      have q0 := fun w => run_eql_Instr ⟨8, a, b, c, d, nm⟩ ⟨8, a, b, 0, 0, ⟨#[]⟩⟩ w
      rw [p3, h0] at q0
      dsimp only at q0
      clear p2 p3 p4
      go_enter Try.func96, Try.ntmps96
      go_wp2
      go_ret
      exact ⟨by rw [HE.out]; rfl, (Below.refl _ _).alloc (Nat.le_refl _) _⟩
    rcases Bool.eq_false_or_eq_true (inR a 0 2) with h1 | h1
    rotate_left
    · skip
      have HE : Hid (instrB ⟨8, a, b, c, d, nm⟩ = false) := by
        unfold Hid
        show ((c == 0 && (d == 0 && noName nm)) && (inR a 0 2 && regB b)) = false
        revert h0 h1
        generalize (c == 0) = x0
        generalize (d == 0) = x1
        generalize (noName nm) = x2
        generalize (inR a 0 2) = x3
        generalize (regB b) = x4
        clear p2 p3 p4 hs
        revert x0 x1 x2 x3 x4
        simp [Bool.forall_bool]
      have q0 := fun w => run_eql_Instr ⟨8, a, b, c, d, nm⟩ ⟨8, a, b, 0, 0, ⟨#[]⟩⟩ w
      rw [p3, h0] at q0
      dsimp only at q0
      clear p2 p3 p4
      go_enter Try.func96, Try.ntmps96
      go_wp2_with (first | (go_at_call 88; refine (impl_in_calls _ _ _ _).mono ?_; rintro e w1 ⟨rfl, rfl⟩; rw [h1]))
      go_ret
      exact ⟨by rw [HE.out]; rfl, (Below.refl _ _).alloc (Nat.le_refl _) _⟩
    rcases Bool.eq_false_or_eq_true (regB b) with h2 | h2
    rotate_left
    · skip
      have HE : Hid (instrB ⟨8, a, b, c, d, nm⟩ = false) := by
        unfold Hid
        show ((c == 0 && (d == 0 && noName nm)) && (inR a 0 2 && regB b)) = false
        revert h0 h1 h2
        generalize (c == 0) = x0
        generalize (d == 0) = x1
        generalize (noName nm) = x2
        generalize (inR a 0 2) = x3
        generalize (regB b) = x4
        clear p2 p3 p4 hs
        revert x0 x1 x2 x3 x4
        simp [Bool.forall_bool]
      have q0 := fun w => run_eql_Instr ⟨8, a, b, c, d, nm⟩ ⟨8, a, b, 0, 0, ⟨#[]⟩⟩ w
      rw [p3, h0] at q0
      dsimp only at q0
      clear p2 p3 p4
      go_enter Try.func96, Try.ntmps96
      go_wp2_with (first | (go_at_call 88; refine (impl_in_calls _ _ _ _).mono ?_; rintro e w1 ⟨rfl, rfl⟩; rw [h1]) | (go_at_call 109; refine (impl_isReg_calls _ _).mono ?_; rintro e w1 ⟨rfl, rfl⟩; rw [h2]))
      go_ret
      exact ⟨by rw [HE.out]; rfl, (Below.refl _ _).alloc (Nat.le_refl _) _⟩
    have HE : Hid (instrB ⟨8, a, b, c, d, nm⟩ = true) := by
      unfold Hid
      show ((c == 0 && (d == 0 && noName nm)) && (inR a 0 2 && regB b)) = true
      revert h0 h1 h2
      generalize (c == 0) = x0
      generalize (d == 0) = x1
      generalize (noName nm) = x2
      generalize (inR a 0 2) = x3
      generalize (regB b) = x4
      clear p2 p3 p4 hs
      revert x0 x1 x2 x3 x4
      simp [Bool.forall_bool]
    have q0 := fun w => run_eql_Instr ⟨8, a, b, c, d, nm⟩ ⟨8, a, b, 0, 0, ⟨#[]⟩⟩ w
    rw [p3, h0] at q0
    dsimp only at q0
    clear p2 p3 p4
    go_enter Try.func96, Try.ntmps96
    go_wp2_with (first | (go_at_call 88; refine (impl_in_calls _ _ _ _).mono ?_; rintro e w1 ⟨rfl, rfl⟩; rw [h1]) | (go_at_call 109; refine (impl_isReg_calls _ _).mono ?_; rintro e w1 ⟨rfl, rfl⟩; rw [h2]))
    go_ret
    exact ⟨by rw [HE.out]; rfl, (Below.refl _ _).alloc (Nat.le_refl _) _⟩
  by_cases e9 : op = 9
  · subst e9
    rcases Bool.eq_false_or_eq_true ((c == 0 && (d == 0 && noName nm))) with h0 | h0
    rotate_left
    · skip
      have HE : Hid (instrB ⟨9, a, b, c, d, nm⟩ = false) := by
        unfold Hid
        show ((c == 0 && (d == 0 && noName nm)) && (regB a && inR b 1 12)) = false
        revert h0
        generalize (c == 0) = x0
        generalize (d == 0) = x1
        generalize (noName nm) = x2
        generalize (regB a) = x3
        generalize (inR b 1 12) = x4
        clear p2 p3 p4 hs
        revert x0 x1 x2 x3 x4
        simp [Bool.forall_bool]
      have q0 := fun w => run_eql_Instr ⟨9, a, b, c, d, nm⟩ ⟨9, a, b, 0, 0, ⟨#[]⟩⟩ w
      rw [p3, h0] at q0
      dsimp only at q0
      clear p2 p3 p4
      go_enter Try.func96, Try.ntmps96
      go_wp2
      go_ret
      exact ⟨by rw [HE.out]; rfl, (Below.refl _ _).alloc (Nat.le_refl _) _⟩
    rcases Bool.eq_false_or_eq_true (regB a) with h1 | h1
    rotate_left
    · skip
      have HE : Hid (instrB ⟨9, a, b, c, d, nm⟩ = false) := by
        unfold Hid
        show ((c == 0 && (d == 0 && noName nm)) && (regB a && inR b 1 12)) = false
        revert h0 h1
        generalize (c == 0) = x0
        generalize (d == 0) = x1
        generalize (noName nm) = x2
        generalize (regB a) = x3
        generalize (inR b 1 12) = x4
        clear p2 p3 p4 hs
        revert x0 x1 x2 x3 x4
        simp [Bool.forall_bool]
      have q0 := fun w => run_eql_Instr ⟨9, a, b, c, d, nm⟩ ⟨9, a, b, 0, 0, ⟨#[]⟩⟩ w
      rw [p3, h0] at q0
      dsimp only at q0
      clear p2 p3 p4
      go_enter Try.func96, Try.ntmps96
      go_wp2_with (first | (go_at_call 109; refine (impl_isReg_calls _ _).mono ?_; rintro e w1 ⟨rfl, rfl⟩; rw [h1]))
      go_ret
      exact ⟨by rw [HE.out]; rfl, (Below.refl _ _).alloc (Nat.le_refl _) _⟩
    rcases Bool.eq_false_or_eq_true (inR b 1 12) with h2 | h2
    rotate_left
    · skip
      have HE : Hid (instrB ⟨9, a, b, c, d, nm⟩ = false) := by
        unfold Hid
        show ((c == 0 && (d == 0 && noName nm)) && (regB a && inR b 1 12)) = false
        revert h0 h1 h2
        generalize (c == 0) = x0
        generalize (d == 0) = x1
        generalize (noName nm) = x2
        generalize (regB a) = x3
        generalize (inR b 1 12) = x4
        clear p2 p3 p4 hs
        revert x0 x1 x2 x3 x4
        simp [Bool.forall_bool]
      have q0 := fun w => run_eql_Instr ⟨9, a, b, c, d, nm⟩ ⟨9, a, b, 0, 0, ⟨#[]⟩⟩ w
      rw [p3, h0] at q0
      dsimp only at q0
      clear p2 p3 p4
      go_enter Try.func96, Try.ntmps96
      go_wp2_with (first | (go_at_call 109; refine (impl_isReg_calls _ _).mono ?_; rintro e w1 ⟨rfl, rfl⟩; rw [h1]) | (go_at_call 88; refine (impl_in_calls _ _ _ _).mono ?_; rintro e w1 ⟨rfl, rfl⟩; rw [h2]))
      go_ret
      exact ⟨by rw [HE.out]; rfl, (Below.refl _ _).alloc (Nat.le_refl _) _⟩
    have HE : Hid (instrB ⟨9, a, b, c, d, nm⟩ = true) := by
      unfold Hid
      show ((c == 0 && (d == 0 && noName nm)) && (regB a && inR b 1 12)) = true
      revert h0 h1 h2
      generalize (c == 0) = x0
      generalize (d == 0) = x1
      generalize (noName nm) = x2
      generalize (regB a) = x3
      generalize (inR b 1 12) = x4
      clear p2 p3 p4 hs
      revert x0 x1 x2 x3 x4
      simp [Bool.forall_bool]
    have q0 := fun w => run_eql_Instr ⟨9, a, b, c, d, nm⟩ ⟨9, a, b, 0, 0, ⟨#[]⟩⟩ w
    rw [p3, h0] at q0
    dsimp only at q0
    clear p2 p3 p4
    go_enter Try.func96, Try.ntmps96
    go_wp2_with (first | (go_at_call 109; refine (impl_isReg_calls _ _).mono ?_; rintro e w1 ⟨rfl, rfl⟩; rw [h1]) | (go_at_call 88; refine (impl_in_calls _ _ _ _).mono ?_; rintro e w1 ⟨rfl, rfl⟩; rw [h2]))
    go_ret
    exact ⟨by rw [HE.out]; rfl, (Below.refl _ _).alloc (Nat.le_refl _) _⟩
  have HE : Hid (instrB ⟨op, a, b, c, d, nm⟩ = false) := by unfold Hid instrB; dsimp only; simp [e1, e2, e3, e4, e5, e6, e7, e8, e9, e10]
  clear p2 p3 p4
  go_enter Try.func96, Try.ntmps96
  go_wp2
  go_ret
  exact ⟨by rw [HE.out]; rfl, (Below.refl _ _).alloc (Nat.le_refl _) _⟩

end Go.Proofs.Ytiohoeafdaihpaa
