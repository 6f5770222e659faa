/- A method is safe, in plain Lean. -/
import Derived.Test.YtiohoeafdaihpaaCommon
import Derived.Test.YtiohoeafdaihpaaPureFirst
set_option linter.unusedSimpArgs false
set_option linter.unusedVariables false
namespace Go.Proofs.Ytiohoeafdaihpaa
open Go.RowKit
def safeB (m : GMethod) : Bool := methodB m && (firstI m.Code == -1)
theorem runG_ge {α : Type} {bad : α → GInstr → Bool} {next : α → GInstr → α} {meet : α → α → α} {n : Nat} : ∀ (xs : List GInstr) (i : Nat) (S : List (Option α)), runG bad next meet n xs i S = -1 ∨ (i : Int) ≤ runG bad next meet n xs i S
  | [], _, _ => .inl rfl
  | y :: ys, i, S => by
    rw [runG]
    split
    · split
      · exact .inr (Int.le_refl _)
      · rcases runG_ge ys (i + 1) (stepG next meet n i y S _) with h | h
        · exact .inl h
        · exact .inr (by push_cast at h; omega)
    · rcases runG_ge ys (i + 1) S with h | h
      · exact .inl h
      · exact .inr (by push_cast at h; omega)
theorem safe_s {m : GMethod} (h : methodB m = true) : safeB m = decide (firstS m.Code < 0) := by
  unfold safeB
  rw [h, Bool.true_and, first_alike (fine_of h)]
  rcases runG_ge (bad := badS) (next := nextS) (meet := meetS) (n := m.Code.length) m.Code 0 (some (List.replicate 8 false) :: List.replicate m.Code.length none) with h | h
  · have h' : firstS m.Code = -1 := h
    rw [h']; rfl
  · have h' : 0 ≤ firstS m.Code := h
    have h1 : (firstS m.Code == -1) = false := by simp; omega
    have h2 : decide (firstS m.Code < 0) = false := by simp; omega
    rw [h1, h2]

end Go.Proofs.Ytiohoeafdaihpaa
