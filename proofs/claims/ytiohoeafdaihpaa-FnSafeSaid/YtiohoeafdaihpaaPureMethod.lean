/- What the functions over methods come to, in plain Lean. -/
import Derived.Test.YtiohoeafdaihpaaCommon
set_option linter.unusedSimpArgs false
set_option linter.unusedVariables false
namespace Go.Proofs.Ytiohoeafdaihpaa
open Go.RowKit
def targetOf (x : GInstr) : Int := if inR x.Op 1 7 = true then x.A else -1
def writes (m : GMethod) (r : Int) : Bool := m.Code.any fun x => targetOf x == r && decide (0 ≤ r)
theorem any_hit {α : Type} {p : α → Bool} {xs : List α} {i : Nat} {x : α} (hx : xs[i]? = some x) (hp : p x = true) : xs.any p = true := List.any_eq_true.2 ⟨x, List.mem_of_getElem? hx, hp⟩
theorem any_miss {α : Type} {p : α → Bool} {xs : List α} (h : ∀ y, y ∈ xs → p y = false) : xs.any p = false := by
  rw [List.any_eq_false]; intro y hy; simp [h y hy]

end Go.Proofs.Ytiohoeafdaihpaa
