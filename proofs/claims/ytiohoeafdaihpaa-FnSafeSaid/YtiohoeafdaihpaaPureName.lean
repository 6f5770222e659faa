/- Names, in plain Lean. -/
import Derived.Test.YtiohoeafdaihpaaCommon
set_option linter.unusedSimpArgs false
set_option linter.unusedVariables false
namespace Go.Proofs.Ytiohoeafdaihpaa
open Go.RowKit
def lowB (b : UInt8) : Bool := decide (97 ≤ b.toNat) && decide (b.toNat ≤ 122)
/-- one to six letters -/
def nameB (s : ByteArray) : Bool := s.data.toList.all lowB && inR s.size 1 6
theorem byte_at (s : ByteArray) (i : Nat) (h : i < s.size) : s.data.toList[i]? = some s[i] := by
  rw [Array.getElem?_toList]
  exact Array.getElem?_eq_getElem h
theorem name_bad {s : ByteArray} {i : Nat} {b : UInt8} (hb : s.data.toList[i]? = some b) (h : lowB b = false) : nameB s = false := by
  unfold nameB
  rw [List.all_eq_false.2 ⟨b, List.mem_of_getElem? hb, by simp [h]⟩, Bool.false_and]
theorem name_good {s : ByteArray} (h : ∀ j b, j < s.size → s.data.toList[j]? = some b → lowB b = true) : nameB s = inR s.size 1 6 := by
  unfold nameB
  rw [List.all_eq_true.2 (fun b hb => by
    obtain ⟨j, hj⟩ := List.getElem?_of_mem hb
    exact h j b (by have := (List.getElem?_eq_some_iff.1 hj).1; rwa [Array.length_toList] at this) hj), Bool.true_and]

end Go.Proofs.Ytiohoeafdaihpaa
