import Derived.Test.YtiohoeafdaihpaaProg
import Derived.Test.YtiohoeafdaihpaaTypes
import Derived.StillTailTactics
import Derived.Deep.CutBlock
import Derived.Deep.CutRange
import Derived.Laws.OwnMore
import Derived.Deep.AppendLies
import Derived.Deep.RegionWith
import Derived.Deep.RegionHeld3
import Derived.Laws.IdiomStrings
import Derived.Test.YtiohoeafdaihpaaAppend
import Derived.Laws.StructEq
import Derived.Lib.SliceRun
import Derived.Shelf.RegionOpenPlain
import Derived.Test.YtiohoeafdaihpaaDrawF3
import Derived.Test.YtiohoeafdaihpaaPureFirst2
namespace Go.Proofs.Ytiohoeafdaihpaa
open Go.RowKit
set_option linter.unusedVariables false
set_option linter.unusedSimpArgs false

/-- the sets name registers that are there -/
def VS (S : List (Option (List Int))) : Prop := ∀ (k : Nat) l, S[k]? = some (some l) → ∀ r, hasI l r = true → regB r = true
theorem VS.reach {S : List (Option (List Int))} (h : VS S) {l : List Int} (hl : ∀ r, hasI l r = true → regB r = true) (k : Nat) : VS (reachG meetI S k l) := by
  intro j l' hj r hr
  unfold reachG at hj
  rw [List.getElem?_set] at hj
  split at hj
  · split at hj
    · injection hj with hj
      injection hj with hj
      cases hS : S[k]? with
      | none => rw [hS] at hj; dsimp only at hj; subst hj; exact hl r hr
      | some o => cases o with
        | none => rw [hS] at hj; dsimp only at hj; subst hj; exact hl r hr
        | some q =>
          rw [hS] at hj; dsimp only at hj; subst hj
          rw [hasI_meet, Bool.and_eq_true] at hr
          exact hl r hr.2
    · cases hj
  · exact h j l' hj r hr
theorem valid_next {l : List Int} (hl : ∀ r, hasI l r = true → regB r = true) {y : GInstr} (ht : targetOf y = -1 ∨ regB (targetOf y) = true) : ∀ r, hasI (nextI l y) r = true → regB r = true := by
  intro r hr
  unfold nextI at hr
  split at hr
  · exact hl r hr
  · rename_i h1
    rw [hasI_append, Bool.or_eq_true] at hr
    rcases hr with h | h
    · exact hl r h
    · rw [← eq_of_beq h]; exact ht.resolve_left h1
theorem VS.step {S : List (Option (List Int))} (h : VS S) {l : List Int} (hl : ∀ r, hasI l r = true → regB r = true) {y : GInstr} (ht : targetOf y = -1 ∨ regB (targetOf y) = true) (n i : Nat) : VS (stepG nextI meetI n i y S l) := by
  unfold stepG
  split
  · exact h
  · split
    · exact (h.reach (valid_next hl ht) _).reach (valid_next hl ht) _
    · exact h.reach (valid_next hl ht) _
theorem Alike.bad2 {a : List Int} {c : List Bool} (h : Alike a c) (hv : ∀ r, hasI a r = true → regB r = true) (y : GInstr) : badI a y = badS c y := by
  unfold badI badS
  induction regsOf y with
  | nil => rfl
  | cons k l ih =>
    rw [List.any_cons, List.any_cons, ih]
    congr 1
    cases hb : regB k with
    | false =>
      cases hk : hasI a k with
      | false => rfl
      | true => rw [hv k hk] at hb; cases hb
    | true =>
      obtain ⟨r0, r1⟩ := regB_iff.1 hb
      have h2 := h.2 k.toNat (by omega)
      have h3 : ((k.toNat : Nat) : Int) = k := by omega
      rw [h3] at h2
      rw [List.getD_eq_getElem?_getD, h2]; simp
theorem run_alike2 {n : Nat} : ∀ (xs : List GInstr) (i : Nat) (S : List (Option (List Int))) (T : List (Option (List Bool))), FineBut xs → AlikeS S T → VS S → runG badI nextI meetI n xs i S = runG badS nextS meetS n xs i T
  | [], _, _, _, _, _, _ => rfl
  | y :: ys, i, S, T, hf, h, hv => by
    have hf' : FineBut ys := fun j z hz hl => hf (j + 1) z (by simpa using hz) (by simp only [List.length_cons]; omega)
    rw [runG, runG]
    by_cases hi : i < S.length
    · have hi2 : i < T.length := by rw [← h.1]; exact hi
      have hs := h.2 i _ _ (List.getElem?_eq_getElem hi) (List.getElem?_eq_getElem hi2)
      rw [List.getElem?_eq_getElem hi, List.getElem?_eq_getElem hi2]
      cases hS : S[i] with
      | none => cases hT : T[i] with
        | none => exact run_alike2 ys _ _ _ hf' h hv
        | some c => rw [hS, hT] at hs; exact hs.elim
      | some q => cases hT : T[i] with
        | none => rw [hS, hT] at hs; exact hs.elim
        | some c =>
          rw [hS, hT] at hs
          have hs' : Alike q c := hs
          have hq : ∀ r, hasI q r = true → regB r = true := hv i q (by rw [List.getElem?_eq_getElem hi, hS])
          dsimp only
          rw [hs'.bad2 hq]
          split
          · rfl
          · cases ys with
            | nil => rfl
            | cons z zs =>
              have h0 := (hf 0 y rfl (by simp)).2
              exact run_alike2 (z :: zs) _ _ _ hf' (h.step hs' h0 n i) (hv.step hq h0 n i)
    · have hi2 : ¬ i < T.length := by rw [← h.1]; exact hi
      rw [List.getElem?_eq_none (by omega), List.getElem?_eq_none (by omega)]
      exact run_alike2 ys _ _ _ hf' h hv
theorem first_alike2 {xs : List GInstr} (hf : FineBut xs) : firstI xs = firstS xs := by
  refine run_alike2 xs 0 _ _ hf ⟨by simp, fun k s t hs ht => ?_⟩ (fun k l hl r hr => ?_)
  · cases k with
    | zero =>
      simp at hs ht; subst hs; subst ht
      exact ⟨rfl, fun k hk => by
        have h8 : ∀ k : Fin 8, [false, false, false, false, false, false, false, false][k.1]? = some false := by decide
        exact h8 ⟨k, hk⟩⟩
    | succ k =>
      simp [List.getElem?_replicate] at hs ht
      obtain ⟨_, rfl⟩ := hs
      obtain ⟨_, rfl⟩ := ht
      trivial
  · cases k with
    | zero => simp at hl; subst hl; cases hr
    | succ k => simp [List.getElem?_replicate] at hl
-- the part ahead of the first place
theorem agree_reach {α : Type} {meet : α → α → α} {S S' : List (Option α)} {k t t' : Nat} {r : α} (h : ∀ j, j < k → S'[j]? = S[j]?) (ht : t = t' ∨ (k ≤ t ∧ k ≤ t')) : ∀ j, j < k → (reachG meet S' t' r)[j]? = (reachG meet S t r)[j]? := by
  intro j hj
  unfold reachG
  rcases ht with rfl | ⟨h1, h2⟩
  · rw [List.getElem?_set, List.getElem?_set]
    by_cases htj : t = j
    · subst htj
      rw [if_pos rfl, if_pos rfl, h t hj]
      have hl : t < S'.length ↔ t < S.length := by
        have := h t hj
        rcases Nat.lt_or_ge t S'.length with a | a <;> rcases Nat.lt_or_ge t S.length with b | b
        · exact ⟨fun _ => b, fun _ => a⟩
        · rw [List.getElem?_eq_getElem a, List.getElem?_eq_none b] at this; cases this
        · rw [List.getElem?_eq_none a, List.getElem?_eq_getElem b] at this; cases this
        · exact ⟨fun x => absurd x (by omega), fun x => absurd x (by omega)⟩
      by_cases hb : t < S.length
      · rw [if_pos hb, if_pos (hl.2 hb)]
      · rw [if_neg hb, if_neg (fun x => hb (hl.1 x))]
    · rw [if_neg htj, if_neg htj]; exact h j hj
  · rw [List.getElem?_set_ne (by omega), List.getElem?_set_ne (by omega)]; exact h j hj
theorem skip_agree {n k i : Nat} (hk : k ≤ n) (hi : i < k) (y : GInstr) : skipTo n i y = skipTo k i y ∨ (k ≤ skipTo n i y ∧ k ≤ skipTo k i y) := by
  unfold skipTo
  split <;> split <;> omega
theorem agree_step {α : Type} {next : α → GInstr → α} {meet : α → α → α} {S S' : List (Option α)} {n k i : Nat} {y : GInstr} {r : α} (hk : k ≤ n) (hi : i < k) (h : ∀ j, j < k → S'[j]? = S[j]?) : ∀ j, j < k → (stepG next meet k i y S' r)[j]? = (stepG next meet n i y S r)[j]? := by
  unfold stepG
  split
  · exact h
  · split
    · exact agree_reach (agree_reach h (.inl rfl)) (skip_agree hk hi y)
    · exact agree_reach h (.inl rfl)
theorem run_prefix {α : Type} {bad : α → GInstr → Bool} {next : α → GInstr → α} {meet : α → α → α} {n k : Nat} (hk : k ≤ n) {zs : List GInstr} : ∀ (ys : List GInstr) (i : Nat) (S S' : List (Option α)), i + ys.length = k → (∀ j, j < k → S'[j]? = S[j]?) → runG bad next meet n (ys ++ zs) i S = k → runG bad next meet k ys i S' = -1 ∧ ∃ z zs' r, zs = z :: zs' ∧ bad r z = true
  | [], i, S, S', hi, h, hr => by
    refine ⟨rfl, ?_⟩
    have hik : i = k := by simpa using hi
    subst hik
    rw [List.nil_append] at hr
    cases zs with
    | nil => rw [runG] at hr; omega
    | cons z zs' =>
      rw [runG] at hr
      split at hr
      · rename_i r _
        split at hr
        · rename_i hb
          exact ⟨z, zs', r, rfl, hb⟩
        · rcases runG_ge (bad := bad) (next := next) (meet := meet) (n := n) zs' (i + 1) (stepG next meet n i z S r) with h1 | h1 <;> omega
      · rcases runG_ge (bad := bad) (next := next) (meet := meet) (n := n) zs' (i + 1) S with h1 | h1 <;> omega
  | y :: ys, i, S, S', hi, h, hr => by
    have hik : i < k := by simp only [List.length_cons] at hi; omega
    have hi' : i + 1 + ys.length = k := by simp only [List.length_cons] at hi; omega
    rw [List.cons_append, runG] at hr
    rw [runG, h i hik]
    cases hS : S[i]? with
    | none => rw [hS] at hr; exact run_prefix hk ys (i + 1) S S' hi' h hr
    | some o => cases o with
      | none => rw [hS] at hr; exact run_prefix hk ys (i + 1) S S' hi' h hr
      | some r =>
        rw [hS] at hr
        dsimp only at hr ⊢
        split at hr
        · omega
        · rename_i hb
          rw [if_neg hb]
          exact run_prefix hk ys (i + 1) _ _ hi' (agree_step hk hik h) hr
theorem firstI_range (xs : List GInstr) : firstI xs = -1 ∨ 0 ≤ firstI xs := by
  have h := runG_ge (bad := badI) (next := nextI) (meet := meetI) (n := xs.length) xs 0 (some [] :: List.replicate xs.length none)
  exact h
theorem firstI_prefix {xs : List GInstr} {k : Nat} (h : firstI xs = k) : k < xs.length ∧ firstI (xs.take k) = -1 ∧ ∃ z, xs[k]? = some z ∧ regsOf z ≠ [] := by
  have hle : k ≤ xs.length := by
    rcases Nat.lt_or_ge xs.length k with hlt | hge
    · exfalso
      have hb : ∀ (ys : List GInstr) (i : Nat) (S : List (Option (List Int))), runG badI nextI meetI xs.length ys i S < ((i + ys.length : Nat) : Int) ∨ runG badI nextI meetI xs.length ys i S = -1 := by
        intro ys
        induction ys with
        | nil => intro i S; exact .inr rfl
        | cons y ys ih =>
          intro i S
          rw [runG]
          simp only [List.length_cons]
          split
          · rename_i q _
            split
            · left; omega
            · rcases ih (i + 1) (stepG nextI meetI xs.length i y S q) with h1 | h1
              · left; omega
              · exact .inr h1
          · rcases ih (i + 1) S with h1 | h1
            · left; omega
            · exact .inr h1
      have h2 := hb xs 0 (some [] :: List.replicate xs.length none)
      unfold firstI at h
      rw [h] at h2
      omega
    · exact hge
  have hx : xs.take k ++ xs.drop k = xs := List.take_append_drop k xs
  have hlen : (xs.take k).length = k := by rw [List.length_take]; omega
  have h' : runG badI nextI meetI xs.length (xs.take k ++ xs.drop k) 0 (some [] :: List.replicate xs.length none) = k := by rw [hx]; exact h
  obtain ⟨h1, z, zs', r, hz, hb⟩ := run_prefix hle (xs.take k) 0 (some [] :: List.replicate xs.length none) (some [] :: List.replicate k none) (by omega) (fun j hj => by
    cases j with
    | zero => rfl
    | succ j => simp only [List.getElem?_cons_succ, List.getElem?_replicate]; rw [if_pos (by omega), if_pos (by omega)]) h'
  have hkl : k < xs.length := by
    rcases Nat.lt_or_ge k xs.length with h2 | h2
    · exact h2
    · rw [List.drop_eq_nil_of_le h2] at hz; cases hz
  refine ⟨hkl, ?_, z, ?_, ?_⟩
  · unfold firstI; rw [hlen]; exact h1
  · have h2 := List.drop_eq_getElem_cons hkl
    rw [h2] at hz
    injection hz with hz _
    rw [List.getElem?_eq_getElem hkl, hz]
  · intro he
    unfold badI at hb
    rw [he] at hb
    cases hb

end Go.Proofs.Ytiohoeafdaihpaa
