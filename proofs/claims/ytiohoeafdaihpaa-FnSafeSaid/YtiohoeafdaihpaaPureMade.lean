/- What the functions over scripts come to, in plain Lean. -/
import Derived.Test.YtiohoeafdaihpaaPureMethod
set_option linter.unusedSimpArgs false
set_option linter.unusedVariables false
namespace Go.Proofs.Ytiohoeafdaihpaa
open Go.RowKit
/-- is the name among these -/
def known (out : List ByteArray) (n : ByteArray) : Bool := out.any fun o => o.toList == n.toList
def addName (out : List ByteArray) (x : GInstr) : List ByteArray := if x.Op = 7 ∧ known out x.Name = false then out ++ [x.Name] else out
theorem addName_no {out : List ByteArray} {x : GInstr} (h : ¬ x.Op = 7) : addName out x = out := by unfold addName; rw [if_neg (fun h' => h h'.1)]
theorem addName_known {out : List ByteArray} {x : GInstr} (h : known out x.Name = true) : addName out x = out := by unfold addName; rw [if_neg (fun h' => by rw [h] at h'; cases h'.2)]
theorem addName_new {out : List ByteArray} {x : GInstr} (h : x.Op = 7) (h2 : known out x.Name = false) : addName out x = out ++ [x.Name] := by unfold addName; rw [if_pos ⟨h, h2⟩]
theorem addName_len (out : List ByteArray) (x : GInstr) : (addName out x).length ≤ out.length + 1 := by unfold addName; split <;> simp
/-- with the instructions of the first methods -/
def madeTo (s : GScript) (i : Nat) : List ByteArray := (s.Methods.take i).foldl (fun out m => m.Code.foldl addName out) []
def madeIn (s : GScript) (i : Nat) (m : GMethod) (k : Nat) : List ByteArray := (m.Code.take k).foldl addName (madeTo s i)
def madeBy (s : GScript) : List ByteArray := madeTo s s.Methods.length
theorem madeIn_zero (s : GScript) (i : Nat) (m : GMethod) : madeIn s i m 0 = madeTo s i := rfl
theorem madeIn_step {s : GScript} {i : Nat} {m : GMethod} {k : Nat} {x : GInstr} (hx : m.Code[k]? = some x) : madeIn s i m (k + 1) = addName (madeIn s i m k) x := by
  unfold madeIn; rw [List.take_add_one, hx, List.foldl_append]; rfl
theorem madeTo_step {s : GScript} {i : Nat} {m : GMethod} (hm : s.Methods[i]? = some m) : madeTo s (i + 1) = madeIn s i m m.Code.length := by
  unfold madeTo madeIn; rw [List.take_add_one, hm, List.foldl_append, List.take_length]; rfl
def codes (s : GScript) (i : Nat) : Nat := ((s.Methods.take i).map fun m => m.Code.length).sum
theorem codes_step {s : GScript} {i : Nat} {m : GMethod} (hm : s.Methods[i]? = some m) : codes s (i + 1) = codes s i + m.Code.length := by
  unfold codes; rw [List.take_add_one, hm]; simp
theorem fold_len (xs : List GInstr) : ∀ out : List ByteArray, (xs.foldl addName out).length ≤ out.length + xs.length := by
  induction xs with
  | nil => intro out; simp
  | cons x xs ih => intro out; rw [List.foldl_cons, List.length_cons]; have h1 := ih (addName out x); have h2 := addName_len out x; omega
theorem madeTo_len (s : GScript) (i : Nat) (hi : i ≤ s.Methods.length) : (madeTo s i).length ≤ codes s i := by
  induction i with
  | zero => simp [madeTo]
  | succ i ih =>
    obtain ⟨m, hm⟩ : ∃ m, s.Methods[i]? = some m := ⟨s.Methods[i]'(by omega), List.getElem?_eq_getElem _⟩
    rw [madeTo_step hm, codes_step hm, madeIn, List.take_length]
    have := fold_len m.Code (madeTo s i)
    have := ih (by omega)
    omega
theorem codes_sum (xs : List GMethod) : (xs.map fun m => m.Code.length).sum ≤ sizL (xs.flatMap eMethod) := by
  induction xs with
  | nil => simp
  | cons m xs ih => rw [List.flatMap_cons, sizL_append, List.map_cons, List.sum_cons, siz_eMethod]; omega
theorem codes_le (s : GScript) (i : Nat) : codes s i ≤ sizL (s.Methods.flatMap eMethod) := Nat.le_trans (codes_sum _) (siz_take_le eMethod s.Methods i)
theorem madeIn_len {s : GScript} {i : Nat} {m : GMethod} (hm : s.Methods[i]? = some m) (k : Nat) : (madeIn s i m k).length ≤ sizL (s.Methods.flatMap eMethod) := by
  have h1 := madeTo_len s i (by have := (List.getElem?_eq_some_iff.1 hm).1; omega)
  have h2 := fold_len (m.Code.take k) (madeTo s i)
  have h3 := codes_le s (i + 1)
  rw [codes_step hm] at h3
  rw [List.length_take] at h2
  unfold madeIn
  have : min k m.Code.length ≤ m.Code.length := Nat.min_le_right _ _
  omega
theorem madeTo_len2 (s : GScript) (i : Nat) (hi : i ≤ s.Methods.length) : (madeTo s i).length ≤ sizL (s.Methods.flatMap eMethod) := Nat.le_trans (madeTo_len s i hi) (codes_le s i)
theorem known_step {out : List ByteArray} {n : ByteArray} {j : Nat} {o : ByteArray} (h : out[j]? = some o) : known (out.take (j + 1)) n = (known (out.take j) n || o.toList == n.toList) := by
  unfold known; rw [List.take_add_one, h, List.any_append]; simp
def findScript (l : List GScript) (n : ByteArray) : Int := idx (fun s : GScript => s.Name.toList == n.toList) l
def unknown (l : List GScript) (n : ByteArray) : Bool := decide (findScript l n < 0)
def areKnown (l : List GScript) : Bool := !(l.any fun s => (madeBy s).any (unknown l))

end Go.Proofs.Ytiohoeafdaihpaa
