/- Appends of plain rows: what is appended reads, what it is appended to is the call's own; no program in sight. -/
import Derived.Test.YtclpknilfhkalaaBase
import Derived.Maps.AppendAt
import Derived.Laws.AppendOwnNone
import Derived.Deep.Onto
namespace Go.Proofs.Ytclpknilfhkalaa
open Go.RowKit
set_option linter.unusedVariables false
set_option linter.unusedSimpArgs false

theorem ownsRow_sl {w : World} {base : Nat} {e : TypeId} {sz n : Nat} {v : Value} {xs : List Value} (h : w.ownsRow base e sz v n xs) : ∃ A c, v = .slice A n c := by
  rcases h.2 with ⟨rfl, rfl⟩ | ⟨g, cap, cur, rfl, _⟩
  · exact ⟨none, 0, rfl⟩
  · exact ⟨_, cap, rfl⟩
theorem run_append_owned_noneC {P : Program} {w : World} (base : Nat) (t ty e : TypeId) (i : TypeInfo) (size : Nat) (ht : P.underlying t = some (.slice e)) (hi : P.info? e = some i)
    (v : Value) (n c : Nat) (xs : List Value) (hown : w.ownsRow base e size v n xs) :
    (Builtin.append_ #[t, t] ty #[v, .slice none 0 c]).run P w = .ok v w := by
  rcases hown.2 with ⟨rfl, rfl⟩ | ⟨g, cap, cur, rfl, _, _, hnc, _⟩
  · simp [Builtin.append_, run_underlying ht, sizeOf, typeInfo, hi, Builtin.lenOf, Builtin.firstCells]
  · simp [Builtin.append_, run_underlying ht, sizeOf, typeInfo, hi, Builtin.lenOf, Builtin.firstCells, hnc, storeCells]
/-- append(s, x...): s is the call's own row, x reads as plain rows -/
theorem wpList_append_rd {P : Program} {w : World} {ops : Array Oper} {rest : List Oper} {o : Oper} {a : Act} {Q : Exit → Act → World → Prop} (hgd : o.guard = none) (s x : Operand) (t : TypeId)
    (ho : o.op = .call { callee := .builtin .append, args := #[s, x], argTypes := #[t, t] })
    (base : Nat) (e : TypeId) (i : TypeInfo) (z : Value) (size bytes : Nat) (ht : P.underlying t = some (.slice e)) (hi : P.info? e = some i) (hz : i.zero = some z)
    (hsize : i.size = size) (hby : i.bytes = bytes) (hzs : z.cells.size = size) (hsz : 0 < size)
    (v : Value) (n : Nat) (xs : List Value) (hs : a.eval s = v) (hown : w.ownsRow base e size v n xs)
    {α : Type} {en : α → List Lf} {vs : α → List Value} (hvals : ∀ x, en x = (vs x).map Lf.v) (ys : List α) (hone : ∀ u, u ∈ ys.flatMap vs → u.oneCell' = true) (hlenv : (ys.flatMap vs).length = ys.length * size)
    (A : Option Addr) (c : Nat) (hx : a.eval x = .slice A ys.length c) (hr : RdW w (.s ys.length (ys.flatMap en)) (.slice A ys.length c))
    (h63 : n + ys.length ≤ 1099511627776) (hb : bytes ≤ 128) (hbase : base ≤ w.heap.size)
    (h : ∀ A' c' w', w'.ownsRow base e size (.slice A' (n + ys.length) c') (n + ys.length) (xs ++ ys.flatMap vs) → w.grownBy w' v.ownBlock → wpList P ops Q rest (a.put o.dst (.slice A' (n + ys.length) c')) w') :
    wpList P ops Q (o :: rest) a w := by
  have hcells := hr.cells hvals
  have hmx : maxLen = 9223372036854775807 := by decide
  cases A with
  | none =>
    have h0 : ys.length = 0 := by
      rcases hcells with h | ⟨ad, h, _⟩
      · exact h
      · cases h
    have hy : ys = [] := List.eq_nil_of_length_eq_zero h0
    subst hy
    obtain ⟨A', c', rfl⟩ := ownsRow_sl hown
    refine wpList_plain hgd fun K hK => ?_
    have hrun := run_append_owned_noneC (P := P) (w := w) base t o.type e i size ht hi _ n c xs hown
    unfold Oper.wp
    simp only [List.length_nil] at hx
    simp [execOp, ho, resolve, invoke, builtin, hs, hx, hrun, Result.andThen]
    refine hK _ _ (h A' c' w ?_ ⟨rfl, rfl, rfl, Nat.le_refl _, fun _ _ _ => rfl⟩)
    simpa using hown
  | some ad =>
    have hc : ∀ (j : Nat) u, (ys.flatMap vs)[j]? = some u → w.cell? (ad.add j) = some u := by
      rcases hcells with h | ⟨ad', h, _, hc⟩
      · have hxs : ys = [] := List.eq_nil_of_length_eq_zero h
        subst hxs
        exact fun j u hu => by simp at hu
      · injection h with h; subst h; exact hc
    refine wpList_append_own_at w hgd s x t ho base e i z size bytes ht hi hz hsize hby hzs hsz v n xs hs hown ad ys.length c (ys.flatMap vs) hx hlenv hc hone ?_ ?_ hbase ?_
    · rw [hmx]; omega
    · have : (n + ys.length) * bytes ≤ 1099511627776 * 128 := Nat.mul_le_mul h63 hb
      omega
    · intro v' w' h1 h2 _ _
      obtain ⟨A', c', rfl⟩ := ownsRow_sl h1
      exact h A' c' w' h1 h2
/-- append([]T{}, x...) -/
theorem wpList_copy_rd {P : Program} {w : World} {ops : Array Oper} {rest : List Oper} {o : Oper} {a : Act} {Q : Exit → Act → World → Prop} (hgd : o.guard = none) (s x : Operand) (t : TypeId)
    (ho : o.op = .call { callee := .builtin .append, args := #[s, x], argTypes := #[t, t] })
    (base : Nat) (e : TypeId) (i : TypeInfo) (z : Value) (size bytes : Nat) (ht : P.underlying t = some (.slice e)) (hi : P.info? e = some i) (hz : i.zero = some z)
    (hsize : i.size = size) (hby : i.bytes = bytes) (hzs : z.cells.size = size) (hsz : 0 < size)
    (v : Value) (hs : a.eval s = v) (hown : w.ownsRow base e size v 0 [])
    {α : Type} {en : α → List Lf} {vs : α → List Value} (hvals : ∀ x, en x = (vs x).map Lf.v) (ys : List α) (hone : ∀ u, u ∈ ys.flatMap vs → u.oneCell' = true) (hlenv : (ys.flatMap vs).length = ys.length * size)
    (A : Option Addr) (c : Nat) (hx : a.eval x = .slice A ys.length c) (hr : RdW w (.s ys.length (ys.flatMap en)) (.slice A ys.length c))
    (h63 : ys.length ≤ 1099511627776) (hb : bytes ≤ 128) (hbase : base ≤ w.heap.size)
    (h : ∀ A' c' w', w'.ownsRow base e size (.slice A' ys.length c') ys.length (ys.flatMap vs) → w.grownBy w' v.ownBlock → wpList P ops Q rest (a.put o.dst (.slice A' ys.length c')) w') :
    wpList P ops Q (o :: rest) a w := by
  refine wpList_append_rd hgd s x t ho base e i z size bytes ht hi hz hsize hby hzs hsz v 0 [] hs hown hvals ys hone hlenv A c hx hr (by omega) hb hbase ?_
  intro A' c' w' h1 h2
  rw [Nat.zero_add, List.nil_append] at h1
  rw [Nat.zero_add]
  exact h A' c' w' h1 h2
theorem rdL_plain (S : Nat → Prop) (W : World) : ∀ us : List Value, RdL S W (us.map Lf.v) us
  | [] => RdL_nil.2 rfl
  | u :: us => RdL_cons.2 ⟨u, us, rfl, by rw [Rd], rdL_plain S W us⟩
theorem ownL_plain_fp {W : World} : ∀ {qs us : List Value} {fp : List Nat}, OwnL W (qs.map Lf.v) us fp → fp = []
  | [], _, _, h => (OwnL_nil.1 h).2
  | q :: qs, _, _, h => by
    obtain ⟨us', rfl, h2⟩ := OwnL_w.1 h
    exact ownL_plain_fp h2
/-- a slice of one, built for an append -/
theorem rdW_one {α : Type} {en : α → List Lf} {vs : α → List Value} (hvals : ∀ x, en x = (vs x).map Lf.v) (w : World) (y : α) (t : TypeId) : RdW (w.alloc (.cells (vs y).toArray t)) (.s [y].length ([y].flatMap en)) (.slice (some ⟨w.heap.size, 0, none⟩) [y].length [y].length) := by
  rw [RdW, Rd]
  refine ⟨_, _, rfl, ⟨Nat.le_refl _, by simp, by simp⟩, .inr ⟨_, vs y, rfl, by simp, fun k u hk => ?_, ?_⟩⟩
  · rw [add_zero_own, (Blk.new w t (vs y).toArray).cell k]; simpa using hk
  · rw [List.flatMap_cons, List.flatMap_nil, List.append_nil, hvals]
    exact rdL_plain _ _ _
/-- what a growth keeps -/
theorem grown_below {B : Nat} {w w' : World} {row : Option Nat} (h : w.grownBy w' row) (hB : B ≤ w.heap.size) (hr : ∀ k, row = some k → B ≤ k) : Below B w w' :=
  ⟨h.os, h.tape, h.output, h.size, fun i hi => h.block i (by omega) (fun e => by have := hr i e.symm; omega)⟩
theorem grown_chg {w w' : World} {row : Option Nat} (h : w.grownBy w' row) : Chg (fun k => row = some k) w w' :=
  ⟨h.os, h.tape, h.output, h.size, fun i hi hn => h.block i hi (fun e => hn e.symm)⟩
theorem ownsRow_keep {w w' : World} {base : Nat} {e : TypeId} {sz n : Nat} {v : Value} {xs : List Value} (h : w.ownsRow base e sz v n xs) {T : Nat → Prop} (hc : Chg T w w') (hT : ∀ k, v.ownBlock = some k → ¬ T k) : w'.ownsRow base e sz v n xs := by
  refine ⟨h.1, ?_⟩
  rcases h.2 with h0 | ⟨g, cap, cur, hv, hb, hg, rest⟩
  · exact .inl h0
  · refine .inr ⟨g, cap, cur, hv, hb, ?_, rest⟩
    have hlt : g < w.heap.size := by
      rcases Nat.lt_or_ge g w.heap.size with h1 | h1
      · exact h1
      · rw [Array.getElem?_eq_none h1] at hg; cases hg
    exact (hc.block g hlt (hT g (by rw [hv]; rfl))).trans hg
theorem ownsRow_below {w w' : World} {base : Nat} {e : TypeId} {sz n : Nat} {v : Value} {xs : List Value} (h : w.ownsRow base e sz v n xs) (hb : Below w.heap.size w w') : w'.ownsRow base e sz v n xs :=
  ownsRow_keep h (Chg.of_below hb (fun _ => False)) (fun _ _ h => h)
theorem ownsRow_rdw {α : Type} {en : α → List Lf} {vs : α → List Value} (hv : ∀ x, en x = (vs x).map Lf.v) {w : World} {base : Nat} {e : TypeId} {sz : Nat} {xs : List α} {v : Value}
    (h : w.ownsRow base e sz v xs.length (xs.flatMap vs)) (hl : xs.length ≤ 140737488355328) : RdW w (.s xs.length (xs.flatMap en)) v := by
  obtain ⟨fp, ho, _⟩ := ownRow_own hv h hl
  exact ho.rdw
/-- as data of one's own, the block named -/
theorem ownRow_own' {α : Type} {en : α → List Lf} {vs : α → List Value} (hv : ∀ x, en x = (vs x).map Lf.v) {w : World} {base : Nat} {e : TypeId} {sz : Nat} {xs : List α} {v : Value}
    (h : w.ownsRow base e sz v xs.length (xs.flatMap vs)) (hl : xs.length ≤ 140737488355328) : ∃ fp, Own w (.s xs.length (xs.flatMap en)) v fp ∧ fp.Nodup ∧ ∀ g, g ∈ fp → base ≤ g ∧ v.ownBlock = some g := by
  obtain ⟨fp, ho, hn, hb⟩ := ownRow_own hv h hl
  refine ⟨fp, ho, hn, fun g hg => ⟨hb g hg, ?_⟩⟩
  rw [Own] at ho
  rcases ho with ⟨_, _, rfl⟩ | ⟨_, g', c, us, fp', rfl, _, rfl, _, _, hl'⟩
  · cases hg
  · have : fp' = [] := by
      rw [flat_vals hv xs] at hl'
      exact ownL_plain_fp hl'
    subst this
    simp at hg; subst hg; rfl
end Go.Proofs.Ytclpknilfhkalaa
