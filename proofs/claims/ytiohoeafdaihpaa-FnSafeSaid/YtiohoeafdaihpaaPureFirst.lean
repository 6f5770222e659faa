/- The first instruction that reads what is not set, in plain Lean. -/
import Derived.Test.YtiohoeafdaihpaaCommon
import Derived.Test.YtiohoeafdaihpaaPureSafe
set_option linter.unusedSimpArgs false
set_option linter.unusedVariables false
namespace Go.Proofs.Ytiohoeafdaihpaa
open Go.RowKit
def reachG {α : Type} (meet : α → α → α) (S : List (Option α)) (k : Nat) (r : α) : List (Option α) := S.set k (some (match S[k]? with | some (some q) => meet q r | _ => r))
theorem reachG_none {α : Type} {meet : α → α → α} {S : List (Option α)} {k : Nat} {r : α} (h : S[k]? = some none) : reachG meet S k r = S.set k (some r) := by unfold reachG; rw [h]
theorem reachG_some {α : Type} {meet : α → α → α} {S : List (Option α)} {k : Nat} {r q : α} (h : S[k]? = some (some q)) : reachG meet S k r = S.set k (some (meet q r)) := by unfold reachG; rw [h]
/-- where a skip leads -/
def skipTo (n i : Nat) (y : GInstr) : Nat := if 0 ≤ y.B ∧ y.B < (n : Int) - i then i + 1 + y.B.toNat else n
def stepG {α : Type} (next : α → GInstr → α) (meet : α → α → α) (n i : Nat) (y : GInstr) (S : List (Option α)) (r : α) : List (Option α) :=
  if y.Op = 10 then S
  else if y.Op = 9 then reachG meet (reachG meet S (i + 1) (next r y)) (skipTo n i y) (next r y)
  else reachG meet S (i + 1) (next r y)
/-- the first instruction that reads what is not set -/
def runG {α : Type} (bad : α → GInstr → Bool) (next : α → GInstr → α) (meet : α → α → α) (n : Nat) : List GInstr → Nat → List (Option α) → Int
  | [], _, _ => -1
  | y :: ys, i, S => match S[i]? with
    | some (some r) => if bad r y then (i : Int) else runG bad next meet n ys (i + 1) (stepG next meet n i y S r)
    | _ => runG bad next meet n ys (i + 1) S
theorem runG_skip {α : Type} {bad : α → GInstr → Bool} {next : α → GInstr → α} {meet : α → α → α} {n : Nat} {xs : List GInstr} {i : Nat} {y : GInstr} {S : List (Option α)} (hx : xs[i]? = some y) (hS : S[i]? = some none) :
    runG bad next meet n (xs.drop i) i S = runG bad next meet n (xs.drop (i + 1)) (i + 1) S := by
  have hi := (List.getElem?_eq_some_iff.1 hx).1
  rw [List.drop_eq_getElem_cons hi, runG, hS]
theorem runG_bad {α : Type} {bad : α → GInstr → Bool} {next : α → GInstr → α} {meet : α → α → α} {n : Nat} {xs : List GInstr} {i : Nat} {y : GInstr} {S : List (Option α)} {r : α} (hx : xs[i]? = some y) (hS : S[i]? = some (some r)) (hb : bad r y = true) :
    runG bad next meet n (xs.drop i) i S = i := by
  have hi := (List.getElem?_eq_some_iff.1 hx).1
  have he := (List.getElem?_eq_some_iff.1 hx).2
  rw [List.drop_eq_getElem_cons hi, runG, hS, he]
  simp [hb]
theorem runG_good {α : Type} {bad : α → GInstr → Bool} {next : α → GInstr → α} {meet : α → α → α} {n : Nat} {xs : List GInstr} {i : Nat} {y : GInstr} {S : List (Option α)} {r : α} (hx : xs[i]? = some y) (hS : S[i]? = some (some r)) (hb : bad r y = false) :
    runG bad next meet n (xs.drop i) i S = runG bad next meet n (xs.drop (i + 1)) (i + 1) (stepG next meet n i y S r) := by
  have hi := (List.getElem?_eq_some_iff.1 hx).1
  have he := (List.getElem?_eq_some_iff.1 hx).2
  rw [List.drop_eq_getElem_cons hi, runG, hS, he]
  simp [hb]
theorem runG_end {α : Type} {bad : α → GInstr → Bool} {next : α → GInstr → α} {meet : α → α → α} {n : Nat} {xs : List GInstr} {i : Nat} {S : List (Option α)} (hi : xs.length ≤ i) :
    runG bad next meet n (xs.drop i) i S = -1 := by rw [List.drop_eq_nil_of_le hi, runG]
def badI (r : List Int) (y : GInstr) : Bool := (regsOf y).any fun k => !hasI r k
def nextI (r : List Int) (y : GInstr) : List Int := if targetOf y = -1 then r else r ++ [targetOf y]
def firstI (xs : List GInstr) : Int := runG badI nextI meetI xs.length xs 0 (some [] :: List.replicate xs.length none)
def badS (r : List Bool) (y : GInstr) : Bool := (regsOf y).any fun k => !regB k || !(r.getD k.toNat false)
def nextS (r : List Bool) (y : GInstr) : List Bool := if regB (targetOf y) = true then r.set (targetOf y).toNat true else r
def meetS (a b : List Bool) : List Bool := List.zipWith (fun x y => x && y) a b
def firstS (xs : List GInstr) : Int := runG badS nextS meetS xs.length xs 0 (some (List.replicate 8 false) :: List.replicate xs.length none)
-- the two are alike
def Alike (l : List Int) (b : List Bool) : Prop := b.length = 8 ∧ ∀ k : Nat, k < 8 → b[k]? = some (hasI l (k : Int))
def AlikeO : Option (List Int) → Option (List Bool) → Prop
  | none, none => True
  | some l, some b => Alike l b
  | _, _ => False
def AlikeS (S : List (Option (List Int))) (T : List (Option (List Bool))) : Prop := S.length = T.length ∧ ∀ (k : Nat) s t, S[k]? = some s → T[k]? = some t → AlikeO s t
theorem hasI_append (l : List Int) (t n : Int) : hasI (l ++ [t]) n = (hasI l n || t == n) := by unfold hasI; rw [List.any_append]; simp
theorem hasI_meet (a b : List Int) (n : Int) : hasI (meetI a b) n = (hasI a n && hasI b n) := by
  unfold meetI
  have h : ∀ xs : List Int, hasI (xs.filter fun x => hasI b x) n = (hasI xs n && hasI b n) := by
    intro xs
    induction xs with
    | nil => simp [hasI]
    | cons x xs ih =>
      rw [List.filter_cons]
      have hc : hasI (x :: xs) n = (x == n || hasI xs n) := rfl
      rw [hc]
      by_cases hx : x = n
      · subst hx
        cases hb : hasI b x with
        | true =>
          rw [if_pos rfl]
          have hc2 : hasI (x :: xs.filter fun x => hasI b x) x = (x == x || hasI (xs.filter fun x => hasI b x) x) := rfl
          rw [hc2]; simp
        | false => rw [if_neg (by simp), ih, hb]; simp
      · have hx' : (x == n) = false := by simpa using hx
        rw [hx', Bool.false_or]
        split
        · have hc2 : hasI (x :: xs.filter fun x => hasI b x) n = (x == n || hasI (xs.filter fun x => hasI b x) n) := rfl
          rw [hc2, hx', Bool.false_or, ih]
        · exact ih
  exact h a
theorem Alike.meet {a b : List Int} {c d : List Bool} (h1 : Alike a c) (h2 : Alike b d) : Alike (meetI a b) (meetS c d) := by
  refine ⟨by unfold meetS; rw [List.length_zipWith, h1.1, h2.1]; rfl, fun k hk => ?_⟩
  unfold meetS
  rw [List.getElem?_zipWith, h1.2 k hk, h2.2 k hk, hasI_meet]
theorem Alike.next {a : List Int} {c : List Bool} (h : Alike a c) {y : GInstr} (ht : targetOf y = -1 ∨ regB (targetOf y) = true) : Alike (nextI a y) (nextS c y) := by
  unfold nextI nextS
  by_cases h1 : targetOf y = -1
  · rw [if_pos h1, h1, if_neg (by decide)]; exact h
  · have hr : regB (targetOf y) = true := by rcases ht with h2 | h2; exact absurd h2 h1; exact h2
    rw [if_neg h1, if_pos hr]
    obtain ⟨r0, r1⟩ := regB_iff.1 hr
    refine ⟨by rw [List.length_set]; exact h.1, fun k hk => ?_⟩
    rw [hasI_append]
    by_cases hkt : (targetOf y).toNat = k
    · have : targetOf y = (k : Int) := by omega
      rw [← hkt, List.getElem?_set_self (by rw [h.1]; omega)]
      simp; right; omega
    · rw [List.getElem?_set_ne hkt, h.2 k hk]
      have : (targetOf y == (k : Int)) = false := by simp; omega
      rw [this, Bool.or_false]
theorem Alike.bad {a : List Int} {c : List Bool} (h : Alike a c) {y : GInstr} (hr : ∀ k, k ∈ regsOf y → regB k = true) : badI a y = badS c y := by
  unfold badI badS
  have : ∀ l : List Int, (∀ k, k ∈ l → regB k = true) → (l.any fun k => !hasI a k) = l.any fun k => !regB k || !(c.getD k.toNat false) := by
    intro l
    induction l with
    | nil => intro _; rfl
    | cons k l ih =>
      intro hk
      rw [List.any_cons, List.any_cons, ih (fun j hj => hk j (by simp [hj]))]
      have h1 := hk k (by simp)
      obtain ⟨r0, r1⟩ := regB_iff.1 h1
      have h2 := h.2 k.toNat (by omega)
      have h3 : ((k.toNat : Nat) : Int) = k := by omega
      rw [h3] at h2
      rw [h1, List.getD_eq_getElem?_getD, h2]; simp
  exact this _ hr
theorem AlikeS.reach {S : List (Option (List Int))} {T : List (Option (List Bool))} (h : AlikeS S T) {r : List Int} {b : List Bool} (hr : Alike r b) (k : Nat) : AlikeS (reachG meetI S k r) (reachG meetS T k b) := by
  refine ⟨by unfold reachG; rw [List.length_set, List.length_set]; exact h.1, fun j s t hs ht => ?_⟩
  unfold reachG at hs ht
  by_cases hjk : k = j
  · subst hjk
    by_cases hk : k < S.length
    · have hk2 : k < T.length := by rw [← h.1]; exact hk
      rw [List.getElem?_set_self hk] at hs
      rw [List.getElem?_set_self hk2] at ht
      injection hs with hs; injection ht with ht
      subst hs; subst ht
      have h0 := h.2 k _ _ (List.getElem?_eq_getElem hk) (List.getElem?_eq_getElem hk2)
      rw [List.getElem?_eq_getElem hk, List.getElem?_eq_getElem hk2]
      cases hS : S[k] with
      | none => cases hT : T[k] with
        | none => exact hr
        | some c => rw [hS, hT] at h0; exact h0.elim
      | some q => cases hT : T[k] with
        | none => rw [hS, hT] at h0; exact h0.elim
        | some c => rw [hS, hT] at h0; exact Alike.meet h0 hr
    · rw [List.getElem?_eq_none (by rw [List.length_set]; omega)] at hs; cases hs
  · rw [List.getElem?_set_ne hjk] at hs ht
    exact h.2 j s t hs ht
theorem AlikeS.step {S : List (Option (List Int))} {T : List (Option (List Bool))} (h : AlikeS S T) {r : List Int} {b : List Bool} (hr : Alike r b) {y : GInstr} (ht : targetOf y = -1 ∨ regB (targetOf y) = true) (n i : Nat) :
    AlikeS (stepG nextI meetI n i y S r) (stepG nextS meetS n i y T b) := by
  unfold stepG
  split
  · exact h
  · split
    · exact (h.reach (hr.next ht) _).reach (hr.next ht) _
    · exact h.reach (hr.next ht) _
/-- the registers are there, and the targets, but for those of the last instruction -/
def Fine (xs : List GInstr) : Prop := ∀ (i : Nat) y, xs[i]? = some y → (∀ k, k ∈ regsOf y → regB k = true) ∧ (targetOf y = -1 ∨ regB (targetOf y) = true)
theorem run_alike {n : Nat} : ∀ (xs : List GInstr) (i : Nat) (S : List (Option (List Int))) (T : List (Option (List Bool))), Fine xs → AlikeS S T → runG badI nextI meetI n xs i S = runG badS nextS meetS n xs i T
  | [], _, _, _, _, _ => rfl
  | y :: ys, i, S, T, hf, h => by
    have h0 := hf 0 y rfl
    have hf' : Fine ys := fun j z hz => hf (j + 1) z (by simpa using hz)
    rw [runG, runG]
    by_cases hi : i < S.length
    · have hi2 : i < T.length := by rw [← h.1]; exact hi
      have hs := h.2 i _ _ (List.getElem?_eq_getElem hi) (List.getElem?_eq_getElem hi2)
      rw [List.getElem?_eq_getElem hi, List.getElem?_eq_getElem hi2]
      cases hS : S[i] with
      | none => cases hT : T[i] with
        | none => exact run_alike ys _ _ _ hf' h
        | some c => rw [hS, hT] at hs; exact hs.elim
      | some q => cases hT : T[i] with
        | none => rw [hS, hT] at hs; exact hs.elim
        | some c =>
          rw [hS, hT] at hs
          have hs' : Alike q c := hs
          dsimp only
          rw [hs'.bad h0.1]
          split
          · rfl
          · exact run_alike ys _ _ _ hf' (h.step hs' h0.2 n i)
    · have hi2 : ¬ i < T.length := by rw [← h.1]; exact hi
      rw [List.getElem?_eq_none (by omega), List.getElem?_eq_none (by omega)]
      exact run_alike ys _ _ _ hf' h
theorem first_alike {xs : List GInstr} (hf : Fine xs) : firstI xs = firstS xs := by
  refine run_alike xs 0 _ _ hf ⟨by simp, fun k s t hs ht => ?_⟩
  cases k with
  | zero =>
    simp at hs ht; subst hs; subst ht
    exact ⟨rfl, fun k hk => by
      have h8 : ∀ k : Fin 8, [false, false, false, false, false, false, false, false][k.1]? = some false := by decide
      exact h8 ⟨k, hk⟩⟩
  | succ k =>
    simp [List.getElem?_replicate] at hs ht
    obtain ⟨_, rfl⟩ := hs
    obtain ⟨_, rfl⟩ := ht
    trivial
theorem fine_of {m : GMethod} (h : methodB m = true) : Fine m.Code := by
  intro i y hy
  unfold methodB at h
  rw [Bool.and_eq_true, Bool.and_eq_true, List.all_eq_true] at h
  have hi := h.2.2 y (List.mem_of_getElem? hy)
  unfold instrB at hi
  have hsome : ∀ c d : Int, pairB c d = true → ∀ k, k ∈ someI c d → regB k = true := by
    intro c d hp k hk
    unfold someI at hk
    rw [List.mem_filter] at hk
    obtain ⟨hm, hne⟩ := hk
    simp at hm hne
    unfold pairB at hp
    simp at hp
    rcases hm with rfl | rfl
    · rcases hp with ⟨h1, _⟩ | ⟨h1, _⟩
      · exact absurd h1 hne
      · exact h1
    · rcases hp with ⟨_, h1⟩ | ⟨_, h1 | h1⟩
      · exact absurd h1 hne
      · exact absurd h1 hne
      · exact h1
  by_cases e1 : y.Op = 1
  · have ht : targetOf y = y.A := by simp [targetOf, e1, inR]
    have hr : regsOf y = [] := by simp [regsOf, e1]
    rw [hr, ht]
    simp [e1] at hi
    exact ⟨by simp, .inr hi.2.1⟩
  by_cases e2 : y.Op = 2
  · have ht : targetOf y = y.A := by simp [targetOf, e2, inR]
    have hr : regsOf y = [] := by simp [regsOf, e2]
    rw [hr, ht]
    simp [e2] at hi
    exact ⟨by simp, .inr hi.2.1⟩
  by_cases e3 : y.Op = 3
  · have ht : targetOf y = y.A := by simp [targetOf, e3, inR]
    have hr : regsOf y = [] := by simp [regsOf, e3]
    rw [hr, ht]
    simp [e3] at hi
    exact ⟨by simp, .inr hi.2.1⟩
  by_cases e4 : y.Op = 4
  · have ht : targetOf y = y.A := by simp [targetOf, e4, inR]
    have hr : regsOf y = [] := by simp [regsOf, e4]
    rw [hr, ht]
    simp [e4] at hi
    exact ⟨by simp, .inr hi.2.1⟩
  by_cases e10 : y.Op = 10
  · have ht : targetOf y = -1 := by simp [targetOf, e10, inR]
    have hr : regsOf y = [y.A] := by simp [regsOf, e10]
    rw [hr, ht]
    simp [e10] at hi
    exact ⟨by intro k hk; simp at hk; subst hk; exact hi.2.1, .inl rfl⟩
  by_cases e5 : y.Op = 5
  · have ht : targetOf y = y.A := by simp [targetOf, e5, inR]
    have hr : regsOf y = [y.B, y.C] := by simp [regsOf, e5]
    rw [hr, ht]
    simp [e5] at hi
    exact ⟨by intro k hk; simp at hk; rcases hk with rfl | rfl; exact hi.2.1; exact hi.2.2.1, .inr hi.1⟩
  by_cases e6 : y.Op = 6
  · have ht : targetOf y = y.A := by simp [targetOf, e6, inR]
    have hr : regsOf y = y.B :: someI y.C y.D := by simp [regsOf, e6]
    rw [hr, ht]
    simp [e6] at hi
    exact ⟨by intro k hk; rcases List.mem_cons.1 hk with rfl | hk; exact hi.2.1; exact hsome _ _ hi.2.2.1 k hk, .inr hi.1⟩
  by_cases e7 : y.Op = 7
  · have ht : targetOf y = y.A := by simp [targetOf, e7, inR]
    have hr : regsOf y = someI y.C y.D := by simp [regsOf, e7]
    rw [hr, ht]
    simp [e7] at hi
    exact ⟨fun k hk => hsome _ _ hi.2.2.1 k hk, .inr hi.1⟩
  by_cases e8 : y.Op = 8
  · have ht : targetOf y = -1 := by simp [targetOf, e8, inR]
    have hr : regsOf y = [y.B] := by simp [regsOf, e8]
    rw [hr, ht]
    simp [e8] at hi
    exact ⟨by intro k hk; simp at hk; subst hk; exact hi.2.2, .inl rfl⟩
  by_cases e9 : y.Op = 9
  · have ht : targetOf y = -1 := by simp [targetOf, e9, inR]
    have hr : regsOf y = [y.A] := by simp [regsOf, e9]
    rw [hr, ht]
    simp [e9] at hi
    exact ⟨by intro k hk; simp at hk; subst hk; exact hi.2.1, .inl rfl⟩
  simp [e1, e2, e3, e4, e5, e6, e7, e8, e9, e10] at hi
theorem reach_len {S : List (Option (List Int))} {k m : Nat} {r : List Int} (h : ∀ (j : Nat) l, S[j]? = some (some l) → l.length ≤ m) (hr : r.length ≤ m) : ∀ (j : Nat) l, (reachG meetI S k r)[j]? = some (some l) → l.length ≤ m := by
  intro j l hl
  unfold reachG at hl
  by_cases hj : k = j
  · subst hj
    by_cases hk : k < S.length
    · rw [List.getElem?_set_self hk] at hl
      injection hl with hl; injection hl with hl
      subst hl
      split
      · rename_i q hq
        exact Nat.le_trans (List.length_filter_le _ _) (h k q hq)
      · exact hr
    · rw [List.getElem?_eq_none (by rw [List.length_set]; omega)] at hl; cases hl
  · rw [List.getElem?_set_ne hj] at hl
    exact h j l hl
theorem nextI_len (r : List Int) (y : GInstr) : (nextI r y).length ≤ r.length + 1 := by unfold nextI; split <;> simp
theorem step_len {S : List (Option (List Int))} {m : Nat} {r : List Int} (h : ∀ (j : Nat) l, S[j]? = some (some l) → l.length ≤ m) (hr : r.length ≤ m) (n i : Nat) (y : GInstr) : ∀ (j : Nat) l, (stepG nextI meetI n i y S r)[j]? = some (some l) → l.length ≤ m + 1 := by
  have h' : ∀ (j : Nat) l, S[j]? = some (some l) → l.length ≤ m + 1 := fun j l hl => Nat.le_succ_of_le (h j l hl)
  have hn : (nextI r y).length ≤ m + 1 := Nat.le_trans (nextI_len r y) (by omega)
  unfold stepG
  split
  · exact h'
  · split
    · exact reach_len (reach_len h' hn) hn
    · exact reach_len h' hn
theorem skipTo_in {n i : Nat} {y : GInstr} (h1 : 0 ≤ y.B) (h2 : y.B < (n : Int) - i) : skipTo n i y = i + 1 + y.B.toNat := by unfold skipTo; rw [if_pos ⟨h1, h2⟩]
theorem skipTo_out {n i : Nat} {y : GInstr} (h : ¬ (0 ≤ y.B ∧ y.B < (n : Int) - i)) : skipTo n i y = n := by unfold skipTo; rw [if_neg h]
/-- the first i places met -/
def meetTo (xs ys : List Bool) (i : Nat) : List Bool := List.zipWith (fun x y => x && y) (xs.take i) (ys.take i) ++ ys.drop i
theorem meetTo_zero (xs ys : List Bool) : meetTo xs ys 0 = ys := by simp [meetTo]
theorem meetTo_all {xs ys : List Bool} (h : xs.length = ys.length) : meetTo xs ys xs.length = meetS xs ys := by
  unfold meetTo meetS
  rw [List.take_length, h, List.take_length, List.drop_length, List.append_nil]
theorem meetTo_len {xs ys : List Bool} (h : xs.length = ys.length) (i : Nat) (hi : i ≤ xs.length) : (meetTo xs ys i).length = ys.length := by
  unfold meetTo
  rw [List.length_append, List.length_zipWith, List.length_take, List.length_take, List.length_drop]
  omega
theorem meetTo_step {xs ys : List Bool} {i : Nat} {x y : Bool} (hx : xs[i]? = some x) (hy : ys[i]? = some y) : meetTo xs ys (i + 1) = (meetTo xs ys i).set i (x && y) := by
  have h1 := (List.getElem?_eq_some_iff.1 hx).1
  have h2 := (List.getElem?_eq_some_iff.1 hy).1
  unfold meetTo
  have hl : (List.zipWith (fun x y => x && y) (xs.take i) (ys.take i)).length = i := by rw [List.length_zipWith, List.length_take, List.length_take]; omega
  rw [List.take_add_one, List.take_add_one, hx, hy]
  rw [List.set_append_right _ _ (by rw [hl]; exact Nat.le_refl _), hl, Nat.sub_self]
  rw [List.drop_eq_getElem_cons h2]
  simp only [List.set_cons_zero, Option.toList_some]
  rw [List.zipWith_append (by rw [List.length_take, List.length_take]; omega)]
  simp
theorem regsOf_len (y : GInstr) : (regsOf y).length ≤ 3 := by
  have h : ∀ c d, (someI c d).length ≤ 2 := fun c d => by unfold someI; exact List.length_filter_le _ _
  unfold regsOf
  repeat' split
  all_goals first | (simp; done) | (have := h y.C y.D; simp; omega)

end Go.Proofs.Ytiohoeafdaihpaa
