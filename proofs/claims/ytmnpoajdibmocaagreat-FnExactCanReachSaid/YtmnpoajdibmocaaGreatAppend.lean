/- Appends of plain rows: what is appended reads, what it is appended to is the call's own; no program in sight. -/
import Derived.Test.YtmnpoajdibmocaaGreatBase
import Derived.Maps.AppendAt
import Derived.Laws.AppendOwnNone
import Derived.Deep.Onto
import Derived.Lib.SliceRun
import Derived.Laws.ResultCell
namespace Go.Proofs.YtmnpoajdibmocaaGreat
open Go.RowKit
set_option linter.unusedVariables false
set_option linter.unusedSimpArgs false

theorem ownsRow_sl {w : World} {base : Nat} {e : TypeId} {sz n : Nat} {v : Value} {xs : List Value} (h : w.ownsRow base e sz v n xs) : ∃ A c, v = .slice A n c := by
  rcases h.2 with ⟨rfl, rfl⟩ | ⟨g, cap, cur, rfl, _⟩
  · exact ⟨none, 0, rfl⟩
  · exact ⟨_, cap, rfl⟩
theorem run_append_owned_noneC {P : Program} {w : World} (base : Nat) (t ty e : TypeId) (i : TypeInfo) (size : Nat) (ht : P.underlying t = some (.slice e)) (hi : P.info? e = some i)
    (v : Value) (n c : Nat) (xs : List Value) (hown : w.ownsRow base e size v n xs) :
    (Builtin.append_ #[t, t] ty #[v, .slice none 0 c]).run P w = .ok v w := by
  rcases hown.2 with ⟨rfl, rfl⟩ | ⟨g, cap, cur, rfl, _, _, hnc, _⟩
  · simp [Builtin.append_, run_underlying ht, sizeOf, typeInfo, hi, Builtin.lenOf, Builtin.firstCells]
  · simp [Builtin.append_, run_underlying ht, sizeOf, typeInfo, hi, Builtin.lenOf, Builtin.firstCells, hnc, storeCells]
/-- append(s, x...): s is the call's own row, x reads as plain rows -/
theorem wpList_append_rd_at {P : Program} {w : World} {ops : Array Oper} {rest : List Oper} {o : Oper} {a : Act} {Q : Exit → Act → World → Prop} (hgd : o.guard = none) (s x : Operand) (t : TypeId)
    (ho : o.op = .call { callee := .builtin .append, args := #[s, x], argTypes := #[t, t] })
    (base : Nat) (e : TypeId) (i : TypeInfo) (z : Value) (size bytes : Nat) (ht : P.underlying t = some (.slice e)) (hi : P.info? e = some i) (hz : i.zero = some z)
    (hsize : i.size = size) (hby : i.bytes = bytes) (hzs : z.cells.size = size) (hsz : 0 < size)
    (v : Value) (n : Nat) (xs : List Value) (hs : a.eval s = v) (hown : w.ownsRow base e size v n xs)
    {α : Type} {en : α → List Lf} {vs : α → List Value} (hvals : ∀ x, en x = (vs x).map Lf.v) (ys : List α) (hone : ∀ u, u ∈ ys.flatMap vs → u.oneCell' = true) (hlenv : (ys.flatMap vs).length = ys.length * size)
    (A : Option Addr) (c : Nat) (hx : a.eval x = .slice A ys.length c) (hr : RdW w (.s ys.length (ys.flatMap en)) (.slice A ys.length c))
    (h63 : n + ys.length ≤ 1099511627776) (hb : bytes ≤ 128) (hbase : base ≤ w.heap.size)
    (h : ∀ A' c' w', w'.ownsRow base e size (.slice A' (n + ys.length) c') (n + ys.length) (xs ++ ys.flatMap vs) → w.grownBy w' v.ownBlock → ((Value.slice A' (n + ys.length) c').ownBlock = v.ownBlock ∨ (Value.slice A' (n + ys.length) c').ownBlock = some w.heap.size) → wpList P ops Q rest (a.put o.dst (.slice A' (n + ys.length) c')) w') :
    wpList P ops Q (o :: rest) a w := by
  have hcells := hr.cells hvals
  have hmx : maxLen = 9223372036854775807 := by decide
  cases A with
  | none =>
    have h0 : ys.length = 0 := by
      rcases hcells with h | ⟨ad, h, _⟩
      · exact h
      · cases h
    have hy : ys = [] := List.eq_nil_of_length_eq_zero h0
    subst hy
    obtain ⟨A', c', rfl⟩ := ownsRow_sl hown
    refine wpList_plain hgd fun K hK => ?_
    have hrun := run_append_owned_noneC (P := P) (w := w) base t o.type e i size ht hi _ n c xs hown
    unfold Oper.wp
    simp only [List.length_nil] at hx
    simp [execOp, ho, resolve, invoke, builtin, hs, hx, hrun, Result.andThen]
    refine hK _ _ (h A' c' w ?_ ⟨rfl, rfl, rfl, Nat.le_refl _, fun _ _ _ => rfl⟩ (.inl rfl))
    simpa using hown
  | some ad =>
    have hc : ∀ (j : Nat) u, (ys.flatMap vs)[j]? = some u → w.cell? (ad.add j) = some u := by
      rcases hcells with h | ⟨ad', h, _, hc⟩
      · have hxs : ys = [] := List.eq_nil_of_length_eq_zero h
        subst hxs
        exact fun j u hu => by simp at hu
      · injection h with h; subst h; exact hc
    refine wpList_append_own_at w hgd s x t ho base e i z size bytes ht hi hz hsize hby hzs hsz v n xs hs hown ad ys.length c (ys.flatMap vs) hx hlenv hc hone ?_ ?_ hbase ?_
    · rw [hmx]; omega
    · have : (n + ys.length) * bytes ≤ 1099511627776 * 128 := Nat.mul_le_mul h63 hb
      omega
    · intro v' w' h1 h2 _ h4
      obtain ⟨A', c', rfl⟩ := ownsRow_sl h1
      exact h A' c' w' h1 h2 h4
/-- append(s, x...): s is the call's own row, x reads as plain rows -/
theorem wpList_append_rd {P : Program} {w : World} {ops : Array Oper} {rest : List Oper} {o : Oper} {a : Act} {Q : Exit → Act → World → Prop} (hgd : o.guard = none) (s x : Operand) (t : TypeId)
    (ho : o.op = .call { callee := .builtin .append, args := #[s, x], argTypes := #[t, t] })
    (base : Nat) (e : TypeId) (i : TypeInfo) (z : Value) (size bytes : Nat) (ht : P.underlying t = some (.slice e)) (hi : P.info? e = some i) (hz : i.zero = some z)
    (hsize : i.size = size) (hby : i.bytes = bytes) (hzs : z.cells.size = size) (hsz : 0 < size)
    (v : Value) (n : Nat) (xs : List Value) (hs : a.eval s = v) (hown : w.ownsRow base e size v n xs)
    {α : Type} {en : α → List Lf} {vs : α → List Value} (hvals : ∀ x, en x = (vs x).map Lf.v) (ys : List α) (hone : ∀ u, u ∈ ys.flatMap vs → u.oneCell' = true) (hlenv : (ys.flatMap vs).length = ys.length * size)
    (A : Option Addr) (c : Nat) (hx : a.eval x = .slice A ys.length c) (hr : RdW w (.s ys.length (ys.flatMap en)) (.slice A ys.length c))
    (h63 : n + ys.length ≤ 1099511627776) (hb : bytes ≤ 128) (hbase : base ≤ w.heap.size)
    (h : ∀ A' c' w', w'.ownsRow base e size (.slice A' (n + ys.length) c') (n + ys.length) (xs ++ ys.flatMap vs) → w.grownBy w' v.ownBlock → wpList P ops Q rest (a.put o.dst (.slice A' (n + ys.length) c')) w') :
    wpList P ops Q (o :: rest) a w :=
  wpList_append_rd_at hgd s x t ho base e i z size bytes ht hi hz hsize hby hzs hsz v n xs hs hown hvals ys hone hlenv A c hx hr h63 hb hbase (fun A' c' w' h1 h2 _ => h A' c' w' h1 h2)
/-- append([]T{}, x...) -/
theorem wpList_copy_rd {P : Program} {w : World} {ops : Array Oper} {rest : List Oper} {o : Oper} {a : Act} {Q : Exit → Act → World → Prop} (hgd : o.guard = none) (s x : Operand) (t : TypeId)
    (ho : o.op = .call { callee := .builtin .append, args := #[s, x], argTypes := #[t, t] })
    (base : Nat) (e : TypeId) (i : TypeInfo) (z : Value) (size bytes : Nat) (ht : P.underlying t = some (.slice e)) (hi : P.info? e = some i) (hz : i.zero = some z)
    (hsize : i.size = size) (hby : i.bytes = bytes) (hzs : z.cells.size = size) (hsz : 0 < size)
    (v : Value) (hs : a.eval s = v) (hown : w.ownsRow base e size v 0 [])
    {α : Type} {en : α → List Lf} {vs : α → List Value} (hvals : ∀ x, en x = (vs x).map Lf.v) (ys : List α) (hone : ∀ u, u ∈ ys.flatMap vs → u.oneCell' = true) (hlenv : (ys.flatMap vs).length = ys.length * size)
    (A : Option Addr) (c : Nat) (hx : a.eval x = .slice A ys.length c) (hr : RdW w (.s ys.length (ys.flatMap en)) (.slice A ys.length c))
    (h63 : ys.length ≤ 1099511627776) (hb : bytes ≤ 128) (hbase : base ≤ w.heap.size)
    (h : ∀ A' c' w', w'.ownsRow base e size (.slice A' ys.length c') ys.length (ys.flatMap vs) → w.grownBy w' v.ownBlock → wpList P ops Q rest (a.put o.dst (.slice A' ys.length c')) w') :
    wpList P ops Q (o :: rest) a w := by
  refine wpList_append_rd hgd s x t ho base e i z size bytes ht hi hz hsize hby hzs hsz v 0 [] hs hown hvals ys hone hlenv A c hx hr (by omega) hb hbase ?_
  intro A' c' w' h1 h2
  rw [Nat.zero_add, List.nil_append] at h1
  rw [Nat.zero_add]
  exact h A' c' w' h1 h2
theorem rdL_plain (S : Nat → Prop) (W : World) : ∀ us : List Value, RdL S W (us.map Lf.v) us
  | [] => RdL_nil.2 rfl
  | u :: us => RdL_cons.2 ⟨u, us, rfl, by rw [Rd], rdL_plain S W us⟩
theorem ownsRow_made' {w : World} {base g : Nat} {e : TypeId} {sz : Nat} (hg : g = w.heap.size) (hb : base ≤ w.heap.size) : (w.alloc (.cells #[] e)).ownsRow base e sz (.slice (some ⟨g, 0, none⟩) 0 0) 0 [] := by
  subst hg
  exact World.ownsRow_made w #[] 0 hb (Nat.zero_le _) (by simp)
theorem ownL_plain (W : World) : ∀ us : List Value, OwnL W (us.map Lf.v) us []
  | [] => OwnL_nil.2 ⟨rfl, rfl⟩
  | u :: us => OwnL_w.2 ⟨us, rfl, ownL_plain W us⟩
theorem ownL_plain_eq {W : World} : ∀ {qs us : List Value} {fp : List Nat}, OwnL W (qs.map Lf.v) us fp → us = qs
  | [], _, _, h => (OwnL_nil.1 h).1
  | q :: qs, _, _, h => by
    obtain ⟨us', rfl, h2⟩ := OwnL_w.1 h
    rw [ownL_plain_eq h2]
theorem flat_lenV {α : Type} {vs : α → List Value} {sz : Nat} (hl : ∀ x, (vs x).length = sz) : ∀ xs : List α, (xs.flatMap vs).length = xs.length * sz
  | [] => by simp
  | x :: xs => by rw [List.flatMap_cons, List.length_append, hl, flat_lenV hl xs, List.length_cons, Nat.succ_mul, Nat.add_comm]
theorem frozen_setCell (w : World) (p a : Addr) (u : Value) : (w.setCell p u).frozen? a = w.frozen? a := by simp
theorem ownL_plain_fp {W : World} : ∀ {qs us : List Value} {fp : List Nat}, OwnL W (qs.map Lf.v) us fp → fp = []
  | [], _, _, h => (OwnL_nil.1 h).2
  | q :: qs, _, _, h => by
    obtain ⟨us', rfl, h2⟩ := OwnL_w.1 h
    exact ownL_plain_fp h2
/-- a slice of one, built for an append -/
theorem rdW_one {α : Type} {en : α → List Lf} {vs : α → List Value} (hvals : ∀ x, en x = (vs x).map Lf.v) (w : World) (y : α) (t : TypeId) : RdW (w.alloc (.cells (vs y).toArray t)) (.s [y].length ([y].flatMap en)) (.slice (some ⟨w.heap.size, 0, none⟩) [y].length [y].length) := by
  rw [RdW, Rd]
  refine ⟨_, _, rfl, ⟨Nat.le_refl _, by simp, by simp⟩, .inr ⟨_, vs y, rfl, by simp, fun k u hk => ?_, ?_⟩⟩
  · rw [add_zero_own, (Blk.new w t (vs y).toArray).cell k]; simpa using hk
  · rw [List.flatMap_cons, List.flatMap_nil, List.append_nil, hvals]
    exact rdL_plain _ _ _
theorem rdW_one' {α : Type} {en : α → List Lf} {vs : α → List Value} (hvals : ∀ x, en x = (vs x).map Lf.v) {w : World} (y : α) (t : TypeId) {g : Nat} (hg : g = w.heap.size) : RdW (w.alloc (.cells (vs y).toArray t)) (.s [y].length ([y].flatMap en)) (.slice (some ⟨g, 0, none⟩) [y].length [y].length) := by
  subst hg; exact rdW_one hvals w y t
/-- what a growth keeps -/
theorem grown_below {B : Nat} {w w' : World} {row : Option Nat} (h : w.grownBy w' row) (hB : B ≤ w.heap.size) (hr : ∀ k, row = some k → B ≤ k) : Below B w w' :=
  ⟨h.os, h.tape, h.output, h.size, fun i hi => h.block i (by omega) (fun e => by have := hr i e.symm; omega)⟩
theorem grown_chg {w w' : World} {row : Option Nat} (h : w.grownBy w' row) : Chg (fun k => row = some k) w w' :=
  ⟨h.os, h.tape, h.output, h.size, fun i hi hn => h.block i hi (fun e => hn e.symm)⟩
theorem ownsRow_keep {w w' : World} {base : Nat} {e : TypeId} {sz n : Nat} {v : Value} {xs : List Value} (h : w.ownsRow base e sz v n xs) {T : Nat → Prop} (hc : Chg T w w') (hT : ∀ k, v.ownBlock = some k → ¬ T k) : w'.ownsRow base e sz v n xs := by
  refine ⟨h.1, ?_⟩
  rcases h.2 with h0 | ⟨g, cap, cur, hv, hb, hg, rest⟩
  · exact .inl h0
  · refine .inr ⟨g, cap, cur, hv, hb, ?_, rest⟩
    have hlt : g < w.heap.size := by
      rcases Nat.lt_or_ge g w.heap.size with h1 | h1
      · exact h1
      · rw [Array.getElem?_eq_none h1] at hg; cases hg
    exact (hc.block g hlt (hT g (by rw [hv]; rfl))).trans hg
theorem ownsRow_below {w w' : World} {base : Nat} {e : TypeId} {sz n : Nat} {v : Value} {xs : List Value} (h : w.ownsRow base e sz v n xs) (hb : Below w.heap.size w w') : w'.ownsRow base e sz v n xs :=
  ownsRow_keep h (Chg.of_below hb (fun _ => False)) (fun _ _ h => h)
theorem ownsRow_rdw {α : Type} {en : α → List Lf} {vs : α → List Value} (hv : ∀ x, en x = (vs x).map Lf.v) {w : World} {base : Nat} {e : TypeId} {sz : Nat} {xs : List α} {v : Value}
    (h : w.ownsRow base e sz v xs.length (xs.flatMap vs)) (hl : xs.length ≤ 140737488355328) : RdW w (.s xs.length (xs.flatMap en)) v := by
  obtain ⟨fp, ho, _⟩ := ownRow_own hv h hl
  exact ho.rdw
/-- as data of one's own, the block named -/
theorem ownRow_own' {α : Type} {en : α → List Lf} {vs : α → List Value} (hv : ∀ x, en x = (vs x).map Lf.v) {w : World} {base : Nat} {e : TypeId} {sz : Nat} {xs : List α} {v : Value}
    (h : w.ownsRow base e sz v xs.length (xs.flatMap vs)) (hl : xs.length ≤ 140737488355328) : ∃ fp, Own w (.s xs.length (xs.flatMap en)) v fp ∧ fp.Nodup ∧ ∀ g, g ∈ fp → base ≤ g ∧ v.ownBlock = some g := by
  obtain ⟨fp, ho, hn, hb⟩ := ownRow_own hv h hl
  refine ⟨fp, ho, hn, fun g hg => ⟨hb g hg, ?_⟩⟩
  rw [Own] at ho
  rcases ho with ⟨_, _, rfl⟩ | ⟨_, g', c, us, fp', rfl, _, rfl, _, _, hl'⟩
  · cases hg
  · have : fp' = [] := by
      rw [flat_vals hv xs] at hl'
      exact ownL_plain_fp hl'
    subst this
    simp at hg; subst hg; rfl
/-- clear of rows: what lies ahead of them stays -/
theorem run_clear_rows {P : Program} (w : World) (t e ty : TypeId) (z : Value) (i : TypeInfo) (sz : Nat) (ht : P.underlying t = some (.slice e)) (hi : P.info? e = some i) (hz : i.zero = some z) (hs : z.cells.size = sz) (h1 : ∀ u, u ∈ z.cells → u.oneCell' = true) (g o n c : Nat)
    (hc : ∀ j, j < n * sz → (w.cell? ⟨g, o + j, none⟩).isSome = true) (hf : ∀ j, j < n * sz → w.frozen? ⟨g, o + j, none⟩ = false) :
    ∃ w', (Builtin.clear_ #[t] ty #[.slice (some ⟨g, o, none⟩) n c]).run P w = .ok (.tuple #[]) w' ∧ Chg (· = g) w w' ∧ ∀ us, us.length ≤ o → RowIs w g us → RowIs w' g us := by
  subst hs
  have hv : (zeroValue e).run P w = .ok z w := by simp [zeroValue, typeInfo, hi, hz]
  cases n with
  | zero =>
    refine ⟨w, ?_, Chg.refl _ _, fun us _ h => h⟩
    simp [Builtin.clear_, run_underlying ht]
  | succ n =>
    have hlen : (Builtin.zeroCells z.cells (n + 1)).toList.length = (n + 1) * z.cells.size := by simp [Builtin.zeroCells]
    have hone : ∀ v, v ∈ (Builtin.zeroCells z.cells (n + 1)).toList → v.oneCell' = true := by
      intro v hv'
      simp [Builtin.zeroCells] at hv'
      obtain ⟨q, hq, rfl⟩ := hv'
      have hpos : 0 < z.cells.size := by
        rcases Nat.eq_zero_or_pos z.cells.size with h0 | h0
        · rw [h0] at hq; simp at hq
        · exact h0
      have hlt := Nat.mod_lt q hpos
      rw [getElem!_pos z.cells (q % z.cells.size) hlt]
      exact h1 _ (Array.getElem_mem hlt)
    have hst := run_storeCells_cells (P := P) g o (Builtin.zeroCells z.cells (n + 1)).toList 0 w (by rw [hlen]; simpa using hc) (by rw [hlen]; simpa using hf) hone
    simp only [Nat.add_zero] at hst
    refine ⟨_, by simp [Builtin.clear_, run_underlying ht, hv, hst]; rfl, ?_, ?_⟩
    · have : ∀ (vs : List Value) (k : Nat) (a : World), Chg (· = g) w a → Chg (· = g) w (a.setCells g k vs) := by
        intro vs
        induction vs with
        | nil => intro k a h; exact h
        | cons v vs ih => intro k a h; exact ih (k + 1) _ (h.setCell (p := ⟨g, k, none⟩) (.inl rfl) v)
      exact this _ _ _ (Chg.refl _ _)
    · intro us hl hr
      have : ∀ (vs : List Value) (k : Nat) (a : World), us.length ≤ k → RowIs a g us → RowIs (a.setCells g k vs) g us := by
        intro vs
        induction vs with
        | nil => intro k a _ h; exact h
        | cons v vs ih =>
          intro k a hk h
          refine ih (k + 1) _ (by omega) ?_
          intro q u hq
          have hql : q < us.length := (List.getElem?_eq_some_iff.1 hq).1
          have := h q u hq
          refine ⟨?_, ?_⟩
          · rw [← this.1]; exact World.cell?_setCell_other _ _ _ _ (fun e => by injection e with _ e2 _; omega)
          · rw [← this.2]; exact frozen_setCell _ _ _ _
      exact this _ _ _ hl hr
/-- the cells of a row of a block that is known as a list -/
theorem RowIs.row {α : Type} {vs : α → List Value} {sz : Nat} (hl : ∀ x, (vs x).length = sz) {w : World} {g : Nat} {ys : List α} (h : RowIs w g (ys.flatMap vs)) {j : Nat} {x : α} (hx : ys[j]? = some x) (k : Nat) (u : Value) (hk : (vs x)[k]? = some u) :
    w.cell? ⟨g, j * sz + k, none⟩ = some u ∧ w.frozen? ⟨g, j * sz + k, none⟩ = false := by
  have hj : j < ys.length := (List.getElem?_eq_some_iff.1 hx).1
  have e : ys.flatMap vs = (ys.take j).flatMap vs ++ (vs x ++ (ys.drop (j + 1)).flatMap vs) := by
    conv => lhs; rw [← List.take_append_drop j ys, List.drop_eq_getElem_cons hj, (List.getElem?_eq_some_iff.1 hx).2]
    simp
  have hlen : ((ys.take j).flatMap vs).length = j * sz := by
    rw [flat_lenV hl, List.length_take, Nat.min_eq_left (by omega)]
  rw [e] at h
  exact h.midk hlen k u hk
theorem RowIs.setRow {α : Type} {vs : α → List Value} {sz : Nat} (hl : ∀ x, (vs x).length = sz) {w : World} {g : Nat} {ys : List α} (h : RowIs w g (ys.flatMap vs)) {j : Nat} (hj : j < ys.length) (x : α) :
    RowIs (putRow w g (j * sz) (vs x)) g ((ys.set j x).flatMap vs) := by
  have hx : ys[j]? = some ys[j] := List.getElem?_eq_getElem hj
  have e : ys.flatMap vs = (ys.take j).flatMap vs ++ (vs ys[j] ++ (ys.drop (j + 1)).flatMap vs) := by
    have e0 : ys = ys.take j ++ (ys[j] :: ys.drop (j + 1)) := by rw [← List.drop_eq_getElem_cons hj, List.take_append_drop]
    conv => lhs; rw [e0]
    rw [List.flatMap_append, List.flatMap_cons]
  have e2 : (ys.set j x).flatMap vs = (ys.take j).flatMap vs ++ (vs x ++ (ys.drop (j + 1)).flatMap vs) := by
    rw [List.set_eq_take_append_cons_drop, if_pos hj]
    simp
  have hlen : ((ys.take j).flatMap vs).length = j * sz := by
    rw [flat_lenV hl, List.length_take, Nat.min_eq_left (by omega)]
  have := putRow_row g (vs x) w (j * sz) (ys.flatMap vs) (by
    rw [flat_lenV hl, hl]
    have : (j + 1) * sz ≤ ys.length * sz := Nat.mul_le_mul_right _ hj
    rw [Nat.succ_mul] at this; exact this) h
  rw [e2]
  rw [← hlen, e, sets_mid _ _ _ _ (by rw [hl, hl])] at this
  rw [← hlen]; exact this
/-- the round of a deletion: the first i rows are those that stay, those from j on are as they were -/
structure Df {α : Type} (p : α → Bool) (xs : List α) (i j : Nat) (ys : List α) : Prop where
  len : ys.length = xs.length
  lt : i < j
  le : j ≤ xs.length
  pre : ys.take i = (xs.take j).filter (fun x => !p x)
  post : ys.drop j = xs.drop j
theorem filter_take {α : Type} {p : α → Bool} {xs : List α} {i : Nat} {x : α} (hx : xs[i]? = some x) : (xs.take (i + 1)).filter p = (xs.take i).filter p ++ (if p x then [x] else []) := by
  have hi : i < xs.length := (List.getElem?_eq_some_iff.1 hx).1
  rw [List.take_add_one, hx, List.filter_append]
  cases hp : p x <;> simp [hp]
theorem Df.start {α : Type} {p : α → Bool} {xs : List α} {i : Nat} {x : α} (hx : xs[i]? = some x) (hp : p x = true) (hno : ∀ j y, j < i → xs[j]? = some y → p y = false) : Df p xs i (i + 1) xs := by
  have hi : i < xs.length := (List.getElem?_eq_some_iff.1 hx).1
  refine ⟨rfl, by omega, by omega, ?_, rfl⟩
  rw [filter_take hx]
  have : (xs.take i).filter (fun x => !p x) = xs.take i := by
    rw [List.filter_eq_self]
    intro y hy
    obtain ⟨j, hj⟩ := List.getElem?_of_mem hy
    have hjl := (List.getElem?_eq_some_iff.1 hj).1
    rw [List.length_take] at hjl
    rw [List.getElem?_take_of_lt (by omega)] at hj
    simp [hno j y (by omega) hj]
  rw [this]; simp [hp]
theorem Df.at_ {α : Type} {p : α → Bool} {xs ys : List α} {i j : Nat} (h : Df p xs i j ys) {x : α} (hx : xs[j]? = some x) : ys[j]? = some x := by
  have h1 : (ys.drop j)[0]? = (xs.drop j)[0]? := by rw [h.post]
  simpa [hx] using h1
theorem Df.skip {α : Type} {p : α → Bool} {xs ys : List α} {i j : Nat} (h : Df p xs i j ys) {x : α} (hx : xs[j]? = some x) (hp : p x = true) : Df p xs i (j + 1) ys := by
  have hj : j < xs.length := (List.getElem?_eq_some_iff.1 hx).1
  refine ⟨h.len, by have := h.lt; omega, by omega, ?_, ?_⟩
  · rw [filter_take hx, h.pre]; simp [hp]
  · rw [← List.drop_drop, h.post, List.drop_drop]
theorem Df.put {α : Type} {p : α → Bool} {xs ys : List α} {i j : Nat} (h : Df p xs i j ys) {x : α} (hx : xs[j]? = some x) (hp : p x = false) : Df p xs (i + 1) (j + 1) (ys.set i x) := by
  have hj : j < xs.length := (List.getElem?_eq_some_iff.1 hx).1
  have hl := h.len; have hlt := h.lt
  refine ⟨by simp [hl], by omega, by omega, ?_, ?_⟩
  · rw [filter_take hx, ← h.pre]
    simp only [hp, Bool.not_false, if_true]
    rw [List.take_add_one, List.take_set_of_le (by omega)]
    simp [List.getElem?_set_self (show i < ys.length by omega)]
  · rw [List.drop_set_of_lt (by omega), ← List.drop_drop, h.post, List.drop_drop]
theorem Df.finish {α : Type} {p : α → Bool} {xs ys : List α} {i : Nat} (h : Df p xs i xs.length ys) : xs.filter (fun x => !p x) = ys.take i := by
  have := h.pre; rw [List.take_length] at this; exact this.symm
theorem own_rows {α : Type} {en : α → List Lf} {vs : α → List Value} (hv : ∀ x, en x = (vs x).map Lf.v) {w : World} {g c : Nat} {ys : List α} (hr : RowIs w g (ys.flatMap vs)) (hg : g < w.heap.size) (hc : SlOk ys.length c) :
    ∃ fp, Own w (.s ys.length (ys.flatMap en)) (.slice (some ⟨g, 0, none⟩) ys.length c) fp ∧ fp.Nodup ∧ ∀ k, k ∈ fp → k = g := by
  by_cases h0 : ys.length = 0
  · refine ⟨[], ?_, by simp, by simp⟩
    rw [Own]; rw [h0] at hc ⊢
    exact .inl ⟨rfl, ⟨_, _, rfl, hc⟩, rfl⟩
  · refine ⟨[g], ?_, by simp, by simp⟩
    rw [Own]
    refine .inr ⟨by omega, g, c, ys.flatMap vs, [], rfl, hc, rfl, hg, hr, ?_⟩
    rw [flat_vals hv]
    exact ownL_plain _ _
/-- the rows of a slice of one's own -/
theorem own_rowis {α : Type} {en : α → List Lf} {vs : α → List Value} (hv : ∀ x, en x = (vs x).map Lf.v) {w : World} {v : Value} {xs : List α} {fp : List Nat} (h : Own w (.s xs.length (xs.flatMap en)) v fp) (hn : 0 < xs.length) :
    ∃ g c, v = .slice (some ⟨g, 0, none⟩) xs.length c ∧ SlOk xs.length c ∧ fp = [g] ∧ g < w.heap.size ∧ RowIs w g (xs.flatMap vs) := by
  rw [Own] at h
  rcases h with ⟨h0, _⟩ | ⟨_, g, c, us, fp', rfl, hc, rfl, hg, hr, hl⟩
  · omega
  · rw [flat_vals hv] at hl
    have h1 := ownL_plain_fp hl
    have h2 := ownL_plain_eq hl
    subst h1; subst h2
    exact ⟨g, c, rfl, hc, rfl, hg, hr⟩
theorem idx_some {α : Type} {p : α → Bool} {xs : List α} (h : 0 ≤ idx p xs) : ∃ (i : Nat) (x : α), idx p xs = i ∧ xs[i]? = some x ∧ p x = true ∧ ∀ j y, j < i → xs[j]? = some y → p y = false := by
  unfold idx at h ⊢
  cases hf : xs.findIdx? p with
  | none => rw [hf] at h; simp at h
  | some i =>
    rw [List.findIdx?_eq_some_iff_getElem] at hf
    obtain ⟨hi, hp, hno⟩ := hf
    refine ⟨i, xs[i], rfl, List.getElem?_eq_getElem hi, hp, fun j y hj hy => ?_⟩
    have h1 := hno j hj
    have h2 := (List.getElem?_eq_some_iff.1 hy).2
    rw [h2] at h1; simpa using h1
theorem idx_none {α : Type} {p : α → Bool} {xs : List α} (h : ¬ 0 ≤ idx p xs) : idx p xs = -1 ∧ ∀ y, y ∈ xs → p y = false := by
  unfold idx at h ⊢
  cases hf : xs.findIdx? p with
  | none => rw [List.findIdx?_eq_none_iff] at hf; exact ⟨rfl, fun y hy => by simpa using hf y hy⟩
  | some i => rw [hf] at h; simp at h
/-- a function's end: a struct in a block of its own, and a plain result -/
theorem post_cell2 {P : Program} {fn : Func} {R : Ending → World → Prop} {a : Act} {w w0 : World} {p u : Tmp} {ty : TypeId} (T : Nat → Prop) (h : fn.results = #[.cell p ty, .tmp u]) (g : Nat) (cs : Array Value) (r : Value) (d : TypeDesc)
    (hp : a.tmps.getD p undef = .pointer (some ⟨g, 0, none⟩)) (hg : Blk w g ty cs) (hu : P.underlying ty = some d) (hd : (match d with | .struct _ | .array _ _ => true | _ => false) = true) (hi : (P.info? ty).map (·.size) = some cs.size)
    (hr : a.tmps.getD u undef = r) (hf : a.defers = [])
    (hc : Chg T w0 w) (hR : ∀ W, Chg T w0 W → R (.returned (.tuple #[.agg cs, r])) W) : bodyPost P fn R .ret a w := by
  refine bodyPost_ret (v := .tuple #[.agg cs, r]) ?_ hf (hR w hc)
  rw [results_cell_tmp h, hp, hr]
  simp [asAddr, run_loadVar_row w g ty ty cs (0, 0) d hg hu hd hi]
end Go.Proofs.YtmnpoajdibmocaaGreat
