import Derived.Test.YtklbpjnpmbidiaaProg
import Derived.Test.YtklbpjnpmbidiaaTypes
import Derived.StillTailTactics
import Derived.Deep.RegionHeld3
import Derived.Laws.IdiomStrings
import Derived.Test.YtklbpjnpmbidiaaAppend
import Derived.Laws.StructEq
import Derived.Lib.SliceRun
import Derived.Shelf.RegionOpenPlain
import Derived.Test.YtklbpjnpmbidiaaPureEncM
namespace Go.Proofs.Ytklbpjnpmbidiaa
open Go.RowKit
set_option linter.unusedVariables false
set_option linter.unusedSimpArgs false

/-- a varint that is read: what is known of it, how many bytes were taken -/
def rdUv : Nat → Nat → List UInt8 → Option (Nat × Nat)
  | _, _, [] => none
  | k, acc, c :: r => if 6 ≤ k then none else if c.toNat < 128 then (if (c.toNat = 0 ∧ 0 < k) ∨ 1000000000000 < acc + c.toNat % 128 * 128 ^ k then none else some (acc + c.toNat % 128 * 128 ^ k, k + 1)) else rdUv (k + 1) (acc + c.toNat % 128 * 128 ^ k) r
theorem rdUv_nil (k acc : Nat) : rdUv k acc [] = none := by rw [rdUv]
theorem rdUv_six (acc : Nat) (l : List UInt8) : rdUv 6 acc l = none := by
  cases l with
  | nil => rw [rdUv]
  | cons c r => rw [rdUv, if_pos (by omega)]
theorem rdUv_more {k acc : Nat} {c : UInt8} {r : List UInt8} (hk : k < 6) (hc : ¬ c.toNat < 128) : rdUv k acc (c :: r) = rdUv (k + 1) (acc + c.toNat % 128 * 128 ^ k) r := by
  rw [rdUv, if_neg (by omega), if_neg hc]
theorem rdUv_bad {k acc : Nat} {c : UInt8} {r : List UInt8} (hc : c.toNat < 128) (hb : (c.toNat = 0 ∧ 0 < k) ∨ 1000000000000 < acc + c.toNat % 128 * 128 ^ k) : rdUv k acc (c :: r) = none := by
  rw [rdUv, if_pos hc, if_pos hb]; split <;> rfl
theorem rdUv_last {k acc : Nat} {c : UInt8} {r : List UInt8} (hk : k < 6) (hc : c.toNat < 128) (hb : ¬ ((c.toNat = 0 ∧ 0 < k) ∨ 1000000000000 < acc + c.toNat % 128 * 128 ^ k)) : rdUv k acc (c :: r) = some (acc + c.toNat % 128 * 128 ^ k, k + 1) := by
  rw [rdUv, if_neg (by omega), if_pos hc, if_neg hb]
theorem ofNat_of {c : UInt8} {n : Nat} (h : c.toNat = n) : c = UInt8.ofNat n := by
  subst h; simp
theorem rdUv_sound : ∀ (l : List UInt8) (k acc N m : Nat), rdUv k acc l = some (N, m) →
    ∃ t, N = acc + t * 128 ^ k ∧ m = k + (uv t).length ∧ (t ≠ 0 ∨ k = 0) ∧ N ≤ 1000000000000 ∧ ∃ r, l = uv t ++ r
  | [], k, acc, N, m, h => by rw [rdUv] at h; cases h
  | c :: r, k, acc, N, m, h => by
    have hlt : c.toNat < 256 := c.toNat_lt
    rw [rdUv] at h
    split at h
    · cases h
    split at h
    · rename_i hc
      split at h
      · cases h
      · rename_i hb
        injection h with h; injection h with h1 h2
        subst h1; subst h2
        have hmod : c.toNat % 128 = c.toNat := Nat.mod_eq_of_lt hc
        refine ⟨c.toNat, by rw [hmod], by rw [uv_small hc]; rfl, by omega, by omega, r, ?_⟩
        rw [uv_small hc, ← ofNat_of rfl]; rfl
    · rename_i hc
      obtain ⟨t, hN, hm, ht, hM, r', hr⟩ := rdUv_sound r (k + 1) _ N m h
      have hdiv : (t * 128 + c.toNat % 128) / 128 = t := by omega
      have hmd : (t * 128 + c.toNat % 128) % 128 = c.toNat % 128 := by omega
      have hb : ¬ t * 128 + c.toNat % 128 < 128 := by omega
      have hu := uv_big hb
      rw [hdiv, hmd] at hu
      refine ⟨t * 128 + c.toNat % 128, ?_, ?_, by omega, hM, r', ?_⟩
      · rw [hN, Nat.pow_succ, Nat.add_mul]
        have : t * (128 ^ k * 128) = t * 128 * 128 ^ k := by rw [Nat.mul_comm (128 ^ k) 128, Nat.mul_assoc]
        omega
      · rw [hu, List.length_cons, hm]; omega
      · rw [hu, hr, List.cons_append]
        congr 1
        exact ofNat_of (by omega)
theorem rdUv_full : ∀ (t k acc : Nat) (r : List UInt8), k + (uv t).length ≤ 6 → (t ≠ 0 ∨ k = 0) → acc + t * 128 ^ k ≤ 1000000000000 → rdUv k acc (uv t ++ r) = some (acc + t * 128 ^ k, k + (uv t).length) := by
  intro t
  induction t using Nat.strongRecOn with
  | _ t ih =>
    intro k acc r hl ht hM
    by_cases hs : t < 128
    · rw [uv_small hs] at hl ⊢
      have hc : (UInt8.ofNat t).toNat = t := by rw [UInt8.toNat_ofNat']; omega
      have hmod : t % 128 = t := Nat.mod_eq_of_lt hs
      rw [List.singleton_append, rdUv_last (by simp at hl; omega) (by omega) (by rw [hc, hmod]; omega), hc, hmod]; rfl
    · have hu := uv_big hs
      rw [hu] at hl ⊢
      rw [List.length_cons] at hl
      have hc : (UInt8.ofNat (t % 128 + 128)).toNat = t % 128 + 128 := by rw [UInt8.toNat_ofNat']; omega
      have hk : k < 6 := by omega
      have e : acc + t % 128 * 128 ^ k + t / 128 * 128 ^ (k + 1) = acc + t * 128 ^ k := by
        rw [Nat.pow_succ, Nat.mul_comm (128 ^ k) 128, ← Nat.mul_assoc, Nat.add_assoc, ← Nat.add_mul]
        congr 2; omega
      rw [List.cons_append, rdUv_more hk (by omega), hc, show (t % 128 + 128) % 128 = t % 128 from by omega,
        ih (t / 128) (by omega) (k + 1) _ r (by omega) (by omega) (by omega), e, List.length_cons]
      congr 2; omega
/-- so many varints that are read: the numbers, how many bytes were taken -/
def rdInts : Nat → List UInt8 → Option (List Nat × Nat)
  | 0, _ => some ([], 0)
  | n + 1, l => match rdUv 0 0 l with
    | none => none
    | some (x, m) => match rdInts n (l.drop m) with
      | none => none
      | some (xs, m') => some (x :: xs, m + m')
theorem rdInts_sound : ∀ (n : Nat) (l : List UInt8) (xs : List Nat) (m : Nat), rdInts n l = some (xs, m) → xs.length = n ∧ m = (xs.flatMap uv).length ∧ (∀ x, x ∈ xs → x ≤ 1000000000000) ∧ ∃ r, l = xs.flatMap uv ++ r
  | 0, l, xs, m, h => by rw [rdInts] at h; injection h with h; injection h with h1 h2; subst h1; subst h2; exact ⟨rfl, rfl, by simp, l, rfl⟩
  | n + 1, l, xs, m, h => by
    rw [rdInts] at h
    split at h
    · cases h
    · rename_i x m1 h1
      split at h
      · cases h
      · rename_i xs' m2 h2
        injection h with h; injection h with e1 e2; subst e1; subst e2
        obtain ⟨t, ht, hm1, -, hM, r, hr⟩ := rdUv_sound _ _ _ _ _ h1
        have : x = t := by rw [ht]; simp
        subst this
        have hm : m1 = (uv x).length := by omega
        subst hm
        rw [hr, List.drop_left] at h2
        obtain ⟨g1, g2, g3, r', g4⟩ := rdInts_sound n _ _ _ h2
        refine ⟨by simp [g1], by rw [List.flatMap_cons, List.length_append, g2], ?_, r', by rw [hr, g4, List.flatMap_cons, List.append_assoc]⟩
        intro y hy
        rcases List.mem_cons.1 hy with rfl | hy
        · exact hM
        · exact g3 y hy
theorem rdInts_full : ∀ (xs : List Nat) (r : List UInt8), (∀ x, x ∈ xs → x ≤ 1000000000000) → rdInts xs.length (xs.flatMap uv ++ r) = some (xs, (xs.flatMap uv).length)
  | [], r, _ => rfl
  | x :: xs, r, h => by
    have hx := h x (by simp)
    have h1 := rdUv_full x 0 0 (xs.flatMap uv ++ r) (by have := uv_len6 x hx; omega) (.inr rfl) (by omega)
    have h2 := rdInts_full xs r (fun y hy => h y (by simp [hy]))
    rw [List.length_cons, List.flatMap_cons, List.append_assoc, rdInts, h1]
    simp only [Nat.zero_add, Nat.pow_zero, Nat.mul_one]
    rw [List.drop_left, h2]
    simp
theorem rdInts_none {n : Nat} {l : List UInt8} (h : rdUv 0 0 l = none) : rdInts (n + 1) l = none := by rw [rdInts, h]
theorem rdInts_more {n : Nat} {l : List UInt8} {x m : Nat} (h : rdUv 0 0 l = some (x, m)) : rdInts (n + 1) l = (rdInts n (l.drop m)).map fun p => (x :: p.1, m + p.2) := by
  rw [rdInts, h]
  simp only
  cases rdInts n (l.drop m) with
  | none => rfl
  | some p => rfl
/-- how far a reading of many numbers has come -/
def Rdi (b : List UInt8) (at_ cnt i p : Nat) (xs : List Nat) : Prop := at_ ≤ p ∧ xs.length = i ∧ rdInts cnt (b.drop at_) = (rdInts (cnt - i) (b.drop p)).map fun q => (xs ++ q.1, p - at_ + q.2)
theorem Rdi.start (b : List UInt8) (at_ cnt : Nat) : Rdi b at_ cnt 0 at_ [] := by
  refine ⟨Nat.le_refl _, rfl, ?_⟩
  rw [Nat.sub_zero]
  cases rdInts cnt (b.drop at_) with
  | none => rfl
  | some q => simp
theorem Rdi.bad {b : List UInt8} {at_ cnt i p : Nat} {xs : List Nat} (h : Rdi b at_ cnt i p xs) (hi : i < cnt) (hu : rdUv 0 0 (b.drop p) = none) : rdInts cnt (b.drop at_) = none := by
  rw [h.2.2, show cnt - i = (cnt - (i + 1)) + 1 from by omega, rdInts_none hu]; rfl
theorem Rdi.step {b : List UInt8} {at_ cnt i p : Nat} {xs : List Nat} (h : Rdi b at_ cnt i p xs) (hi : i < cnt) {x m : Nat} (hu : rdUv 0 0 (b.drop p) = some (x, m)) : Rdi b at_ cnt (i + 1) (p + m) (xs ++ [x]) := by
  refine ⟨by have := h.1; omega, by simp [h.2.1], ?_⟩
  rw [h.2.2, show cnt - i = (cnt - (i + 1)) + 1 from by omega, rdInts_more hu, List.drop_drop]
  have hp := h.1
  cases rdInts (cnt - (i + 1)) (b.drop (p + m)) with
  | none => rfl
  | some q => simp; omega
theorem Rdi.done {b : List UInt8} {at_ cnt p : Nat} {xs : List Nat} (h : Rdi b at_ cnt cnt p xs) : rdInts cnt (b.drop at_) = some (xs, p - at_) := by
  rw [h.2.2, Nat.sub_self, rdInts]; simp

/-- bytes with their length ahead that are read: the bytes, how many were taken -/
def rdBytes (l : List UInt8) (most : Int) : Option (List UInt8 × Nat) :=
  match rdUv 0 0 l with
  | none => none
  | some (n, m) => if most < (n : Int) ∨ l.length - m < n then none else some ((l.drop m).take n, m + n)
def wiresOf : List Nat → List GWire
  | a :: b :: r => ⟨a, b⟩ :: wiresOf r
  | _ => []
theorem wiresOf_len : ∀ (k : Nat) (l : List Nat), l.length = 2 * k → (wiresOf l).length = k
  | 0, l, h => by rw [List.length_eq_zero_iff.1 h]; rfl
  | k + 1, a :: b :: r, h => by rw [wiresOf, List.length_cons, wiresOf_len k r (by simp at h; omega)]
  | k + 1, [a], h => by simp at h; omega
  | k + 1, [], h => by simp at h
def toI (l : List Nat) : List Int := l.map fun n : Nat => (n : Int)
theorem wiresOf_ints : ∀ (k : Nat) (l : List Nat), l.length = 2 * k → (wiresOf l).flatMap wInts = toI l
  | 0, l, h => by rw [List.length_eq_zero_iff.1 h]; rfl
  | k + 1, a :: b :: r, h => by rw [wiresOf, List.flatMap_cons, wiresOf_ints k r (by simp at h; omega)]; rfl
  | k + 1, [a], h => by simp at h; omega
  | k + 1, [], h => by simp at h
/-- the message of the numbers and the name -/
def msgOf (n args : List Nat) (name : List UInt8) : GMessage :=
  ⟨n.getD 0 0, n.getD 1 0, n.getD 2 0, n.getD 3 0, ⟨name.toArray⟩, wiresOf args, ⟨n.getD 8 0, n.getD 9 0⟩, n.getD 4 0, ⟨n.getD 5 0, n.getD 6 0, n.getD 7 0⟩⟩
def decMsg (b : List UInt8) : Option GMessage :=
  match rdInts 11 b with
  | none => none
  | some (n, a1) => if 2 < n.getD 10 0 then none else match rdInts (2 * n.getD 10 0) (b.drop a1) with
    | none => none
    | some (args, a2) => match rdBytes (b.drop (a1 + a2)) 6 with
      | none => none
      | some (name, m) => if a1 + a2 + m = b.length ∧ isMessageB (msgOf n args name) = true then some (msgOf n args name) else none
def decodeMessage1 (b : List UInt8) : GMessage := (decMsg b).getD zMessage
def decodeMessage2 (b : List UInt8) : Bool := (decMsg b).isSome
theorem list11 {α : Type} {l : List α} (h : l.length = 11) : ∃ a0 a1 a2 a3 a4 a5 a6 a7 a8 a9 a10, l = [a0, a1, a2, a3, a4, a5, a6, a7, a8, a9, a10] := by
  match l, h with
  | [a0, a1, a2, a3, a4, a5, a6, a7, a8, a9, a10], _ => exact ⟨a0, a1, a2, a3, a4, a5, a6, a7, a8, a9, a10, rfl⟩
theorem uvI_nat {n : Nat} (h : n ≤ 1000000000000) : uvI (n : Int) = uv n := by
  unfold uvI inR; rw [if_pos (by simp; omega)]; simp
theorem uvI_toI (l : List Nat) (h : ∀ x, x ∈ l → x ≤ 1000000000000) : (toI l).flatMap uvI = l.flatMap uv := by
  induction l with
  | nil => rfl
  | cons x l ih =>
    have h1 := ih (fun y hy => h y (by simp [hy]))
    unfold toI at h1
    rw [toI, List.map_cons, List.flatMap_cons, List.flatMap_cons, h1, uvI_nat (h x (by simp))]
theorem rdBytes_sound {l : List UInt8} {most : Int} {name : List UInt8} {m : Nat} (h : rdBytes l most = some (name, m)) :
    (name.length : Int) ≤ most ∧ name.length ≤ 1000000000000 ∧ m = (uv name.length).length + name.length ∧ ∃ r, l = uv name.length ++ (name ++ r) := by
  unfold rdBytes at h
  split at h
  · cases h
  · rename_i n m1 h1
    split at h
    · cases h
    · rename_i hb
      injection h with h; injection h with e1 e2
      obtain ⟨t, ht, hm, -, hM, r, hr⟩ := rdUv_sound _ _ _ _ _ h1
      have : n = t := by rw [ht]; simp
      subst this
      have hm' : m1 = (uv n).length := by omega
      subst hm'
      rw [hr, List.drop_left] at e1
      rw [hr, List.length_append] at hb
      have hl : name.length = n := by rw [← e1, List.length_take]; omega
      subst hl
      refine ⟨by omega, hM, e2.symm, r.drop name.length, ?_⟩
      conv => lhs; rw [hr, ← List.take_append_drop name.length r, e1]
/-- what the numbers and the name say of the bytes -/
theorem decMsg_parts {b : List UInt8} {n args : List Nat} {name : List UInt8} {a1 a2 m : Nat} (h1 : rdInts 11 b = some (n, a1)) (hn : ¬ 2 < n.getD 10 0)
    (h2 : rdInts (2 * n.getD 10 0) (b.drop a1) = some (args, a2)) (h3 : rdBytes (b.drop (a1 + a2)) 6 = some (name, m)) :
    ∃ r, b = encM (msgOf n args name) ++ r ∧ a1 + a2 + m = (encM (msgOf n args name)).length := by
  obtain ⟨g1, g2, g3, r1, g4⟩ := rdInts_sound _ _ _ _ h1
  subst g2
  rw [g4, List.drop_left] at h2
  obtain ⟨k1, k2, k3, r2, k4⟩ := rdInts_sound _ _ _ _ h2
  subst k2
  rw [g4, k4, ← List.append_assoc, ← List.length_append, List.drop_left] at h3
  obtain ⟨j1, j2, j3, r3, j4⟩ := rdBytes_sound h3
  obtain ⟨x0, x1, x2, x3, x4, x5, x6, x7, x8, x9, x10, rfl⟩ := list11 g1
  have hx10 : ([x0, x1, x2, x3, x4, x5, x6, x7, x8, x9, x10] : List Nat).getD 10 0 = x10 := rfl
  rw [hx10] at k1
  have hi : intsM (msgOf [x0, x1, x2, x3, x4, x5, x6, x7, x8, x9, x10] args name) = toI [x0, x1, x2, x3, x4, x5, x6, x7, x8, x9, x10] := by
    unfold intsM msgOf
    rw [show (wiresOf args).length = x10 from wiresOf_len _ _ k1]
    rfl
  have hw : (msgOf [x0, x1, x2, x3, x4, x5, x6, x7, x8, x9, x10] args name).Args.flatMap wInts = toI args := wiresOf_ints _ _ k1
  have hnm : (msgOf [x0, x1, x2, x3, x4, x5, x6, x7, x8, x9, x10] args name).Name.data.toList = name := rfl
  have he : encM (msgOf [x0, x1, x2, x3, x4, x5, x6, x7, x8, x9, x10] args name) = [x0, x1, x2, x3, x4, x5, x6, x7, x8, x9, x10].flatMap uv ++ args.flatMap uv ++ uv name.length ++ name := by
    unfold encM numsM
    rw [hi, hw, hnm, List.flatMap_append, uvI_toI _ g3, uvI_toI _ k3, uvI_nat j2]
  refine ⟨r3, ?_, ?_⟩
  · rw [he, g4, k4, j4]; simp only [List.append_assoc]
  · rw [he, j3]; simp only [List.length_append]; omega
theorem decMsg_none1 {b : List UInt8} (h : rdInts 11 b = none) : decMsg b = none := by unfold decMsg; rw [h]
theorem decMsg_none2 {b : List UInt8} {n : List Nat} {a1 : Nat} (h1 : rdInts 11 b = some (n, a1)) (hn : 2 < n.getD 10 0) : decMsg b = none := by unfold decMsg; rw [h1]; simp only; rw [if_pos hn]
theorem decMsg_none3 {b : List UInt8} {n : List Nat} {a1 : Nat} (h1 : rdInts 11 b = some (n, a1)) (hn : ¬ 2 < n.getD 10 0) (h2 : rdInts (2 * n.getD 10 0) (b.drop a1) = none) : decMsg b = none := by unfold decMsg; rw [h1]; simp only; rw [if_neg hn, h2]
theorem decMsg_none4 {b : List UInt8} {n args : List Nat} {a1 a2 : Nat} (h1 : rdInts 11 b = some (n, a1)) (hn : ¬ 2 < n.getD 10 0) (h2 : rdInts (2 * n.getD 10 0) (b.drop a1) = some (args, a2)) (h3 : rdBytes (b.drop (a1 + a2)) 6 = none) : decMsg b = none := by
  unfold decMsg; rw [h1]; simp only; rw [if_neg hn, h2]; simp only; rw [h3]
theorem decMsg_some {b : List UInt8} {n args : List Nat} {name : List UInt8} {a1 a2 m : Nat} (h1 : rdInts 11 b = some (n, a1)) (hn : ¬ 2 < n.getD 10 0)
    (h2 : rdInts (2 * n.getD 10 0) (b.drop a1) = some (args, a2)) (h3 : rdBytes (b.drop (a1 + a2)) 6 = some (name, m)) :
    decMsg b = if a1 + a2 + m = b.length ∧ isMessageB (msgOf n args name) = true then some (msgOf n args name) else none := by
  unfold decMsg; rw [h1]; simp only; rw [if_neg hn, h2]; simp only; rw [h3]
/-- the same, by the message's own encoding -/
theorem decMsg_some' {b : List UInt8} {n args : List Nat} {name : List UInt8} {a1 a2 m : Nat} (h1 : rdInts 11 b = some (n, a1)) (hn : ¬ 2 < n.getD 10 0)
    (h2 : rdInts (2 * n.getD 10 0) (b.drop a1) = some (args, a2)) (h3 : rdBytes (b.drop (a1 + a2)) 6 = some (name, m)) :
    decMsg b = if isMessageB (msgOf n args name) = true ∧ encM (msgOf n args name) = b then some (msgOf n args name) else none := by
  rw [decMsg_some h1 hn h2 h3]
  obtain ⟨r, hb, hl⟩ := decMsg_parts h1 hn h2 h3
  have : (a1 + a2 + m = b.length) ↔ (encM (msgOf n args name) = b) := by
    rw [hl]
    generalize encM (msgOf n args name) = e at hb
    refine ⟨fun h => ?_, fun h => by rw [h]⟩
    rw [hb, List.length_append] at h
    rw [hb, List.eq_nil_of_length_eq_zero (by omega : r.length = 0), List.append_nil]
  by_cases c1 : isMessageB (msgOf n args name) = true
  · by_cases c2 : encM (msgOf n args name) = b
    · rw [if_pos ⟨this.2 c2, c1⟩, if_pos ⟨c1, c2⟩]
    · rw [if_neg (fun h => c2 (this.1 h.1)), if_neg (fun h => c2 h.2)]
  · rw [if_neg (fun h => c1 h.2), if_neg (fun h => c1 h.1)]

theorem msgOf_args {b : List UInt8} {n args : List Nat} {a1 a2 : Nat} (h1 : rdInts 11 b = some (n, a1)) (h2 : rdInts (2 * n.getD 10 0) (b.drop a1) = some (args, a2)) : (wiresOf args).length = n.getD 10 0 := by
  obtain ⟨g1, _⟩ := rdInts_sound _ _ _ _ h2
  exact wiresOf_len _ _ g1
theorem decodeMessage1_cnt (b : List UInt8) : cntL (eMessage (decodeMessage1 b)) ≤ 1099511627776 := by
  have h : (decodeMessage1 b).Args.length ≤ 2 := by
    unfold decodeMessage1 decMsg
    split
    · simp [zMessage]
    · rename_i n a1 h1
      split
      · simp [zMessage]
      · rename_i hn
        split
        · simp [zMessage]
        · rename_i args a2 h2
          split
          · simp [zMessage]
          · split
            · simp only [Option.getD_some]
              show (wiresOf args).length ≤ 2
              rw [msgOf_args h1 h2]; omega
            · simp [zMessage]
  rw [cnt_eMessage, cntf_eWire]; omega
theorem rdInts_at {n : Nat} {l : List UInt8} {xs : List Nat} {m : Nat} (h : rdInts n l = some (xs, m)) : m ≤ l.length := by
  obtain ⟨_, g2, _, r, g4⟩ := rdInts_sound _ _ _ _ h
  rw [g4, List.length_append]; omega
theorem rdUv_at {l : List UInt8} {x m : Nat} (h : rdUv 0 0 l = some (x, m)) : 0 < m ∧ m ≤ l.length ∧ x ≤ 1000000000000 := by
  obtain ⟨t, ht, hm, _, hM, r, hr⟩ := rdUv_sound _ _ _ _ _ h
  have : 0 < (uv t).length := by
    by_cases hs : t < 128
    · rw [uv_small hs]; simp
    · rw [uv_big hs]; simp
  rw [hr, List.length_append]; omega
theorem siz_wires (xs : List GWire) : sizL (xs.flatMap eWire) = 0 := by
  induction xs with
  | nil => simp [sizL_nil]
  | cons x xs ih => rw [List.flatMap_cons, sizL_append, ih]; simp [eWire, sizL_cons, sizL_nil, siz_int]
theorem flatInt_at (l : List Nat) (j x : Nat) (h : l[j]? = some x) : ((toI l).flatMap vsInt)[j]? = some (Value.int .i64 x) := by
  have : (toI l).flatMap vsInt = l.map fun n : Nat => Value.int .i64 (n : Int) := by
    unfold toI
    clear h
    induction l with
    | nil => rfl
    | cons y l ih => rw [List.map_cons, List.flatMap_cons, ih]; rfl
  rw [this, List.getElem?_map, h]; rfl
theorem wires_step0 {l : List Nat} {a b : Nat} (h0 : l[0]? = some a) (h1 : l[1]? = some b) : wiresOf (l.take (2 * 1)) = [⟨a, b⟩] := by
  match l, h0, h1 with
  | x :: y :: r, h0, h1 => simp at h0 h1; subst h0; subst h1; rfl
theorem wires_step1 {l : List Nat} {a b : Nat} (h0 : l[2]? = some a) (h1 : l[3]? = some b) : wiresOf (l.take (2 * 2)) = wiresOf (l.take (2 * 1)) ++ [⟨a, b⟩] := by
  match l, h0, h1 with
  | u :: v :: x :: y :: r, h0, h1 => simp at h0 h1; subst h0; subst h1; rfl
/-- a message's name and arguments are small -/
theorem siz_msg (x0 x1 x2 x3 x8 x9 x4 x5 x6 x7 : Int) (name : List UInt8) (ws : List GWire) (hn : name.length ≤ 6) (hw : ws.length ≤ 2) : sizL (eMessage ⟨x0, x1, x2, x3, ⟨name.toArray⟩, ws, ⟨x8, x9⟩, x4, ⟨x5, x6, x7⟩⟩) ≤ 1048576 := by
  rw [siz_eMessage]
  have : (⟨name.toArray⟩ : ByteArray).size = name.length := by simp [ByteArray.size]
  simp only [this, siz_wires]
  omega
def wireAt (args : List Nat) (j : Nat) : GWire := ⟨args.getD (2 * j) 0, args.getD (2 * j + 1) 0⟩
theorem wires_range {args : List Nat} {x : Nat} (h : args.length = 2 * x) (hx : x ≤ 2) : (List.range x).map (wireAt args) = wiresOf args := by
  have h2 : x = 0 ∨ x = 1 ∨ x = 2 := by omega
  rcases h2 with rfl | rfl | rfl
  · rw [List.length_eq_zero_iff.1 (by omega : args.length = 0)]; rfl
  · match args, h with
    | [a, b], _ => rfl
  · match args, h with
    | [a, b, c, d], _ => rfl

end Go.Proofs.Ytklbpjnpmbidiaa
