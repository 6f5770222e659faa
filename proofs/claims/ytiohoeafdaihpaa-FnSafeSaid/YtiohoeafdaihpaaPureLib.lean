/- Libraries, in plain Lean. -/
import Derived.Test.YtiohoeafdaihpaaCommon
import Derived.Test.YtiohoeafdaihpaaPureFirst2
set_option linter.unusedSimpArgs false
set_option linter.unusedVariables false
namespace Go.Proofs.Ytiohoeafdaihpaa
open Go.RowKit
def allAt {α : Type} (p : Nat → α → Bool) (xs : List α) : Bool := (List.range xs.length).all fun i => match xs[i]? with | some x => p i x | none => true
theorem allAt_false {α : Type} {p : Nat → α → Bool} {xs : List α} {i : Nat} {x : α} (hx : xs[i]? = some x) (h : p i x = false) : allAt p xs = false := by
  unfold allAt
  rw [List.all_eq_false]
  exact ⟨i, List.mem_range.2 (List.getElem?_eq_some_iff.1 hx).1, by rw [hx]; simp [h]⟩
theorem allAt_true {α : Type} {p : Nat → α → Bool} {xs : List α} (h : ∀ i x, i < xs.length → xs[i]? = some x → p i x = true) : allAt p xs = true := by
  unfold allAt
  rw [List.all_eq_true]
  intro i hi
  have hi' := List.mem_range.1 hi
  rw [List.getElem?_eq_getElem hi']
  exact h i _ hi' (List.getElem?_eq_getElem hi')
theorem stepAt {α : Type} {p : Nat → α → Bool} {xs : List α} {i : Nat} {x : α} (h : ∀ j y, j < i → xs[j]? = some y → p j y = true) (hx : xs[i]? = some x) (hp : p i x = true) : ∀ j y, j < i + 1 → xs[j]? = some y → p j y = true := by
  intro j y hj hy
  by_cases e : j = i
  · subst e; rw [hx] at hy; injection hy with hy; subst hy; exact hp
  · exact h j y (by omega) hy
def methodAt (ms : List GMethod) (i : Nat) (m : GMethod) : Bool := methodB m && !((ms.take i).any fun o => o.Name.toList == m.Name.toList)
def scriptB (s : GScript) : Bool := nameB s.Name && (decide (s.Methods.length ≤ 4) && allAt (methodAt s.Methods) s.Methods)
def scriptAt (l : List GScript) (i : Nat) (s : GScript) : Bool := scriptB s && !((l.take i).any fun o => o.Name.toList == s.Name.toList)
def libraryB (l : List GScript) : Bool := decide (l.length ≤ 6) && allAt (scriptAt l) l
def areSafeB (l : List GScript) : Bool := libraryB l && !(l.any fun s => s.Methods.any fun m => !safeB m)
theorem any_take_hit {α : Type} {p : α → Bool} {xs : List α} {i j : Nat} {x : α} (hx : xs[j]? = some x) (hj : j < i) (hp : p x = true) : (xs.take i).any p = true :=
  any_hit (i := j) (by rw [List.getElem?_take_of_lt hj]; exact hx) hp
theorem any_take_miss {α : Type} {p : α → Bool} {xs : List α} {i : Nat} (h : ∀ j y, j < i → xs[j]? = some y → p y = false) : (xs.take i).any p = false := by
  refine any_miss fun y hy => ?_
  obtain ⟨j, hj⟩ := List.getElem?_of_mem hy
  have hl := (List.getElem?_eq_some_iff.1 hj).1
  rw [List.length_take] at hl
  rw [List.getElem?_take_of_lt (by omega)] at hj
  exact h j y (by omega) hj
/-- the first place of the name is i just if it is at none before -/
theorem find_self {l : List GScript} {i : Nat} {s : GScript} (hs : l[i]? = some s) : (findScript l s.Name != (i : Int)) = ((l.take i).any fun o => o.Name.toList == s.Name.toList) := by
  cases h : (l.take i).any fun o => o.Name.toList == s.Name.toList with
  | false =>
    have : findScript l s.Name = i := idx_hit hs (by simp) (fun j y hj hy => by
      rw [List.any_eq_false] at h
      have := h y (by
        rw [List.mem_iff_getElem?]; exact ⟨j, by rw [List.getElem?_take_of_lt hj]; exact hy⟩)
      simpa using this)
    rw [this]; simp
  | true =>
    rw [List.any_eq_true] at h
    obtain ⟨y, hy, hp⟩ := h
    obtain ⟨j, hj⟩ := List.getElem?_of_mem hy
    have hl := (List.getElem?_eq_some_iff.1 hj).1
    rw [List.length_take] at hl
    rw [List.getElem?_take_of_lt (by omega)] at hj
    have hne : findScript l s.Name ≠ i := by
      intro he
      unfold findScript idx at he
      cases hf : l.findIdx? (fun s' : GScript => s'.Name.toList == s.Name.toList) with
      | none => rw [hf] at he; simp at he
      | some k =>
        rw [hf] at he
        rw [List.findIdx?_eq_some_iff_getElem] at hf
        obtain ⟨hk, hpk, hno⟩ := hf
        have hki : k = i := by have h : (k : Int) = (i : Int) := he; omega
        have hji : j < k := by omega
        have h1 := hno j hji
        have h2 := (List.getElem?_eq_some_iff.1 hj).2
        rw [h2] at h1
        rw [hp] at h1; exact h1 rfl
    simp [hne]
theorem find_take {l : List GScript} {n : ByteArray} : decide (findScript l n ≥ 0) = l.any fun o => o.Name.toList == n.toList := idx_any _ _
theorem RdW.takeN {α : Type} {w : World} {en : α → List Lf} {xs : List α} {A : Option Addr} {c : Nat} (h : RdW w (.s xs.length (xs.flatMap en)) (.slice A xs.length c)) (i : Nat) (hi : i ≤ xs.length) :
    RdW w (.s (xs.take i).length ((xs.take i).flatMap en)) (.slice A i c) := by
  rw [RdW, Rd] at h ⊢
  obtain ⟨A', c', e, ⟨h1, h2, h3⟩, hr⟩ := h
  injection e with e1 e2 e3
  subst e1; subst e3
  have hl : (xs.take i).length = i := by rw [List.length_take]; omega
  rw [hl]
  refine ⟨A, c, rfl, ⟨by omega, h2, by omega⟩, ?_⟩
  rcases hr with h0 | ⟨ad, us, rfl, hs, hc, hq⟩
  · exact .inl (by omega)
  · have e : xs.flatMap en = (xs.take i).flatMap en ++ (xs.drop i).flatMap en := by rw [← List.flatMap_append, List.take_append_drop]
    rw [e] at hq
    obtain ⟨ua, ub, rfl, hla, ha, hb⟩ := RdL.split _ _ _ hq
    refine .inr ⟨ad, ua, rfl, hs, fun k x hx => hc k x ?_, ha⟩
    rw [List.getElem?_append_left (List.getElem?_eq_some_iff.1 hx).1]; exact hx

end Go.Proofs.Ytiohoeafdaihpaa
