/- What CanReach comes to, in plain Lean. -/
import Derived.Test.YtmnpoajdibmocaaGreatTypes
import Derived.Test.YtmnpoajdibmocaaGreatPureVat
import Derived.Lib.SlicesCompact
set_option linter.unusedSimpArgs false
set_option linter.unusedVariables false
namespace Go.Proofs.YtmnpoajdibmocaaGreat
open Go.RowKit
/-- the entity that a number of an entity comes to -/
def reachAt (v : GVat) (n : Int) : Option Nat :=
  if (lookOf v ⟨1, n⟩).Kind = 1 ∧ 0 ≤ (lookOf v ⟨1, n⟩).N ∧ (lookOf v ⟨1, n⟩).N ≤ (v.Entities.length : Int) - 1 then some (lookOf v ⟨1, n⟩).N.toNat else none
theorem reachAt_yes {v : GVat} {n : Int} {i : Nat} (h1 : (lookOf v ⟨1, n⟩).Kind = 1) (h2 : (lookOf v ⟨1, n⟩).N = i) (h3 : i < v.Entities.length) : reachAt v n = some i := by
  unfold reachAt
  rw [if_pos ⟨h1, by omega, by omega⟩, h2, Int.toNat_natCast]
theorem reachAt_kind {v : GVat} {n : Int} (h : ¬ (lookOf v ⟨1, n⟩).Kind = 1) : reachAt v n = none := by
  unfold reachAt
  rw [if_neg (fun hh => h hh.1)]
theorem reachAt_out {v : GVat} {n : Int} (h : ¬ (0 ≤ (lookOf v ⟨1, n⟩).N ∧ (lookOf v ⟨1, n⟩).N ≤ (v.Entities.length : Int) - 1)) : reachAt v n = none := by
  unfold reachAt
  rw [if_neg (fun hh => h hh.2)]
theorem reachAt_lt {v : GVat} {n : Int} {k : Nat} (h : reachAt v n = some k) : k < v.Entities.length := by
  unfold reachAt at h
  split at h
  · injection h with h; omega
  · cases h
def reachL (v : GVat) (ns : List Int) : List Nat := ns.filterMap (reachAt v)
theorem reachL_lt {v : GVat} {ns : List Int} {k : Nat} (h : k ∈ reachL v ns) : k < v.Entities.length := by
  unfold reachL at h
  rw [List.mem_filterMap] at h
  obtain ⟨n, _, h⟩ := h
  exact reachAt_lt h
theorem reachL_nil (v : GVat) : reachL v [] = [] := rfl
theorem reachL_snoc (v : GVat) (ns : List Int) (n : Int) : reachL v (ns ++ [n]) = reachL v ns ++ (match reachAt v n with | some k => [k] | none => []) := by
  unfold reachL
  rw [List.filterMap_append]
  congr 1
  rw [List.filterMap_cons, List.filterMap_nil]
  cases reachAt v n <;> rfl
theorem reachL_len (v : GVat) (ns : List Int) : (reachL v ns).length ≤ ns.length := List.length_filterMap_le _ _
def linkNums (l : GLink) : List Int := l.Exports.map (·.Entity) ++ l.Answers.map (·.Promise)
def reachNums (v : GVat) (a : Int) : List Int := match v.Links[(linkTo v a).toNat]? with | some l => if 0 ≤ linkTo v a then linkNums l else [] | none => []
/-- the numbers below n that are on a list, in their order -/
def setN (ks : List Nat) (n : Nat) : List Int := ((List.range n).filter fun i => decide (i ∈ ks)).map fun i : Nat => (i : Int)
theorem setN_zero (ks : List Nat) : setN ks 0 = [] := rfl
theorem setN_yes {ks : List Nat} {n : Nat} (h : n ∈ ks) : setN ks (n + 1) = setN ks n ++ [(n : Int)] := by
  unfold setN; rw [List.range_succ, List.filter_append]; simp [h]
theorem setN_no {ks : List Nat} {n : Nat} (h : ¬ n ∈ ks) : setN ks (n + 1) = setN ks n := by
  unfold setN; rw [List.range_succ, List.filter_append]; simp [h]
theorem setN_len (ks : List Nat) (n : Nat) : (setN ks n).length ≤ n := by
  unfold setN; rw [List.length_map]; have := List.length_filter_le (fun i => decide (i ∈ ks)) (List.range n); rwa [List.length_range] at this
theorem setN_nil (n : Nat) : setN [] n = [] := by
  unfold setN
  rw [List.map_eq_nil_iff, List.filter_eq_nil_iff]
  intro a _; simp
def canReach (v : GVat) (a : Int) : List Int := setN (reachL v (reachNums v a)) v.Entities.length
theorem canReach_len (v : GVat) (a : Int) : (canReach v a).length ≤ v.Entities.length := setN_len _ _
theorem asc_ext : ∀ (l1 l2 : List Int), l1.Pairwise (· < ·) → l2.Pairwise (· < ·) → (∀ x, x ∈ l1 ↔ x ∈ l2) → l1 = l2
  | [], [], _, _, _ => rfl
  | [], b :: l2, _, _, h => absurd ((h b).2 (by simp)) (by simp)
  | a :: l1, [], _, _, h => absurd ((h a).1 (by simp)) (by simp)
  | a :: l1, b :: l2, h1, h2, h => by
    rw [List.pairwise_cons] at h1 h2
    have e : a = b := by
      rcases List.mem_cons.1 ((h a).1 (by simp)) with e | e
      · exact e
      · rcases List.mem_cons.1 ((h b).2 (by simp)) with e' | e'
        · exact e'.symm
        · have := h2.1 a e; have := h1.1 b e'; omega
    subst e
    congr 1
    refine asc_ext l1 l2 h1.2 h2.2 fun x => ⟨fun hx => ?_, fun hx => ?_⟩
    · rcases List.mem_cons.1 ((h x).1 (by simp [hx])) with e | e
      · have := h1.1 x hx; omega
      · exact e
    · rcases List.mem_cons.1 ((h x).2 (by simp [hx])) with e | e
      · have := h2.1 x hx; omega
      · exact e
theorem setN_asc (ks : List Nat) (n : Nat) : (setN ks n).Pairwise (· < ·) := by
  unfold setN
  rw [List.pairwise_map]
  exact (List.pairwise_lt_range.filter _).imp (fun h => by omega)
theorem mem_setN {ks : List Nat} {n : Nat} {x : Int} : x ∈ setN ks n ↔ ∃ k, k < n ∧ k ∈ ks ∧ (k : Int) = x := by
  unfold setN
  simp only [List.mem_map, List.mem_filter, List.mem_range, decide_eq_true_eq, and_assoc]
theorem sorted_get {zs : List Int} (h : zs.Pairwise (· ≤ ·)) {i j : Nat} (hij : i ≤ j) (hj : j < zs.length) : zs.toArray[i]! ≤ zs.toArray[j]! := by
  rw [getElem!_pos zs.toArray i (by simp; omega), getElem!_pos zs.toArray j (by simpa using hj)]
  simp only [List.getElem_toArray]
  rcases Nat.lt_or_ge i j with hlt | hge
  · exact List.pairwise_iff_getElem.1 h i j (by omega) hj hlt
  · have : i = j := by omega
    subst this; exact Int.le_refl _
theorem compact_asc {zs : List Int} (h : zs.Pairwise (· ≤ ·)) : (Go.Lib.compact zs).Pairwise (· < ·) := by
  unfold Go.Lib.compact Go.Lib.compactUpTo
  rw [List.pairwise_map]
  refine (List.pairwise_lt_range.filter _).imp_of_mem ?_
  intro i j _ hj hlt
  rw [List.mem_filter, List.mem_range] at hj
  obtain ⟨hj, hk⟩ := hj
  unfold Go.Lib.keeps at hk
  rw [decide_eq_true_eq] at hk
  have h1 := sorted_get h (i := i) (j := j - 1) (by omega) (by omega)
  have h2 := sorted_get h (i := j - 1) (j := j) (by omega) hj
  rcases hk with hk | hk
  · omega
  · omega
theorem compact_mem {zs : List Int} {x : Int} : x ∈ Go.Lib.compact zs ↔ x ∈ zs := by
  unfold Go.Lib.compact Go.Lib.compactUpTo
  rw [List.mem_map]
  constructor
  · rintro ⟨j, hj, rfl⟩
    rw [List.mem_filter, List.mem_range] at hj
    rw [getElem!_pos zs.toArray j (by simpa using hj.1)]
    simp
  · intro hx
    obtain ⟨j0, hj0, he0⟩ := List.getElem_of_mem hx
    have key : ∀ j, (hj : j < zs.length) → zs.toArray[j]! = x → ∃ i, i ∈ (List.range zs.length).filter (Go.Lib.keeps zs.toArray) ∧ zs.toArray[i]! = x := by
      intro j
      induction j with
      | zero => intro hj he; exact ⟨0, by rw [List.mem_filter, List.mem_range]; exact ⟨hj, by simp [Go.Lib.keeps]⟩, he⟩
      | succ j ih =>
        intro hj he
        by_cases hp : zs.toArray[j]! = x
        · exact ih (by omega) hp
        · refine ⟨j + 1, ?_, he⟩
          rw [List.mem_filter, List.mem_range]
          refine ⟨hj, ?_⟩
          unfold Go.Lib.keeps
          rw [decide_eq_true_eq]
          right
          rw [he, Nat.add_sub_cancel]
          exact fun h => hp h.symm
    refine key j0 hj0 ?_
    rw [getElem!_pos zs.toArray j0 (by simpa using hj0)]
    simpa using he0
/-- sorted and with its doubles struck a list of numbers below n is the numbers below n that are on it -/
theorem compact_sort {ks : List Nat} {n : Nat} (h : ∀ k, k ∈ ks → k < n) : Go.Lib.compact ((ks.map fun k : Nat => (k : Int)).mergeSort fun x y => decide (x ≤ y)) = setN ks n := by
  have hs : ((ks.map fun k : Nat => (k : Int)).mergeSort fun x y => decide (x ≤ y)).Pairwise (· ≤ ·) := by
    refine (List.pairwise_mergeSort (fun a b c h1 h2 => ?_) (fun a b => ?_) _).imp (fun h => of_decide_eq_true h)
    · have h1 := of_decide_eq_true h1
      have h2 := of_decide_eq_true h2
      exact decide_eq_true (by omega)
    · rcases Int.le_total a b with h | h
      · simp [h]
      · simp [h]
  refine asc_ext _ _ (compact_asc hs) (setN_asc ks n) fun x => ?_
  rw [compact_mem, List.mem_mergeSort, mem_setN, List.mem_map]
  constructor
  · rintro ⟨k, hk, e⟩; exact ⟨k, h k hk, hk, e⟩
  · rintro ⟨k, _, hk, e⟩; exact ⟨k, hk, e⟩

end Go.Proofs.YtmnpoajdibmocaaGreat
