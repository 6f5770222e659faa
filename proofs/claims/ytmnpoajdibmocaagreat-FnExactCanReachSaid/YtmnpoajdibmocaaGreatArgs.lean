/- How arguments that can be read as data read as trees of cells; the last step of a law's row; no program in sight. -/
import Derived.Test.YtmnpoajdibmocaaGreatBase
import Derived.ProofKit
import Derived.Deep.Slices
import Derived.SizedLaws
import Derived.Carry
namespace Go.Proofs.YtmnpoajdibmocaaGreat
open Go.ChangeShapes Go.WideShapes Go.ChangeAt Go.RowKit Go.Deep
set_option linter.unusedVariables false
set_option linter.unusedSimpArgs false

/-- no part of a datum is greater than memory -/
def WOk {H : Type} (P : Program) (t : TypeId) (d : DataW H) : Prop := ∀ n, n ∈ d.weights P t → n ≤ reachBytes

theorem list_choose {α : Type} (n : Nat) (p : Nat → α → Prop) (h : ∀ i, i < n → ∃ a, p i a) : ∃ xs : List α, xs.length = n ∧ ∀ i a, xs[i]? = some a → p i a := by
  induction n with
  | zero => exact ⟨[], rfl, fun i a h => by simp at h⟩
  | succ n ih =>
    obtain ⟨xs, hl, hp⟩ := ih fun i hi => h i (by omega)
    obtain ⟨a, ha⟩ := h n (by omega)
    refine ⟨xs ++ [a], by simp [hl], fun i b hb => ?_⟩
    by_cases hi : i < n
    · rw [List.getElem?_append_left (by omega)] at hb; exact hp i b hb
    · have hin : i = n := by
        have := (List.getElem?_eq_some_iff.1 hb).1
        simp [hl] at this; omega
      subst hin
      rw [List.getElem?_append_right (by omega), hl, Nat.sub_self] at hb
      simp at hb; subst hb; exact ha

theorem block_lt_of_cell {w : World} {a : Addr} {y : Value} (h : w.cell? a = some y) : a.block < w.heap.size := by
  rcases Nat.lt_or_ge a.block w.heap.size with h1 | h1
  · exact h1
  · unfold World.cell? at h
    rw [Array.getElem?_eq_none h1] at h; cases h

theorem cons_of {α : Type} {l : List α} {n : Nat} (h : l.length = n + 1) : ∃ a l', l = a :: l' ∧ l'.length = n := by
  cases l with
  | nil => cases h
  | cons a l => exact ⟨a, l, rfl, by simpa using h⟩
theorem nil_of {α : Type} {l : List α} (h : l.length = 0) : l = [] := List.eq_nil_of_length_eq_zero h

section
variable {H : Type} {enc : TypeId × Value → H} {P : Program} {w : World} {base : Nat} {spare : Nat → Bool} {held : Bool}

theorem weightsAll_mem {e : TypeId} {ds : List (DataW H)} {d : DataW H} (hd : d ∈ ds) : ∀ n, n ∈ d.weights P e → n ∈ DataW.weightsAll P e ds := by
  induction ds with
  | nil => cases hd
  | cons x xs ih =>
    intro n hn
    rw [DataW.weightsAll, List.mem_append]
    rcases List.mem_cons.1 hd with rfl | hd
    · exact .inl hn
    · exact .inr (ih hd n hn)

theorem arg_slice {α : Type} (en : α → List Lf) {t e : TypeId} {k : Nat} (ht : P.underlying t = some (.slice e)) (hC : P.cellsOf e = k) (hk : 0 < k) (hB : 1 ≤ P.bytesOf e) (hlen : ∀ a, (en a).length = k)
    (hel : ∀ (fuel : Nat) (cs : List Value) (x : DataW H × List MemPlace), DataW.trod enc P w base spare held fuel e cs = some x → WOk P e x.1 → ∃ a, RdLW w (en a) cs ∧ StrOkL (en a))
    {fuel : Nat} {cs : List Value} {x : DataW H × List MemPlace} (h : DataW.trod enc P w base spare held fuel t cs = some x) (hw : WOk P t x.1) :
    ∃ (xs : List α) (v : Value), cs = [v] ∧ RdW w (.s xs.length (xs.flatMap en)) v ∧ StrOkL (xs.flatMap en) := by
  rcases open_slice ht h with ⟨rfl, rfl⟩ | ⟨a, len, cap, m, n, D, Pl, rfl, hb, hl, hm, hmm, rfl, hi⟩
  · refine ⟨[], _, rfl, ?_, by simp [StrOkL_nil]⟩
    rw [RdW, Rd]
    exact ⟨none, 0, rfl, ⟨Nat.le_refl _, by omega, by simp⟩, .inl rfl⟩
  · have hlm : len ≤ m := by rw [hmm]; split <;> omega
    have hsum : ((List.range len).map D).length + ((List.range (m - len)).map fun j => D (len + j)).length = m := by simp; omega
    have hwt : m * P.bytesOf e ≤ reachBytes := by
      refine hw _ ?_
      rw [DataW.weights, ht]
      simp only [List.mem_cons]
      left; rw [hsum]
    have hwe : ∀ i, i < len → WOk P e (D i) := fun i hi' n hn => by
      refine hw n ?_
      rw [DataW.weights, ht]
      simp only [List.mem_cons, List.mem_append]
      exact .inr (.inl (weightsAll_mem (List.mem_map.2 ⟨i, List.mem_range.2 hi', rfl⟩) n hn))
    have hreach : reachBytes < 140737488355328 := by decide
    have hm47 : m ≤ 140737488355328 := by
      have : m * 1 ≤ m * P.bytesOf e := Nat.mul_le_mul_left _ hB
      omega
    rw [hC] at hi
    obtain ⟨xs, hxl, hxs⟩ := list_choose len (fun i (b : α) => ∃ cs', w.cells? base (a.add (i * k)) k = some cs' ∧ RdLW w (en b) cs' ∧ StrOkL (en b)) (fun i hi' => by
      obtain ⟨cs', hc, htr⟩ := hi i (by omega)
      obtain ⟨b, h1, h2⟩ := hel _ _ _ htr (hwe i hi')
      exact ⟨b, cs', hc, h1, h2⟩)
    have hpre : ∀ q, q ≤ len → ∃ us : List Value, us.length = q * k ∧ (∀ (j : Nat) y, us[j]? = some y → w.cell? (a.add j) = some y) ∧ RdLW w ((xs.take q).flatMap en) us ∧ StrOkL ((xs.take q).flatMap en) := by
      intro q
      induction q with
      | zero => intro _; exact ⟨[], by simp, by simp, by simp [RdLW_nil], by simp [StrOkL_nil]⟩
      | succ q ih =>
        intro hq
        obtain ⟨us, hul, huc, hur, hus⟩ := ih (by omega)
        have hqx : xs[q]? = some (xs[q]'(by omega)) := List.getElem?_eq_getElem (by omega)
        obtain ⟨cs', hc, hr, hs⟩ := hxs q _ hqx
        obtain ⟨_, hcl, hat⟩ := World.cells?_some hc
        refine ⟨us ++ cs', by rw [List.length_append, hul, hcl, Nat.succ_mul], fun j y hy => ?_, ?_, ?_⟩
        · by_cases hj : j < us.length
          · rw [List.getElem?_append_left hj] at hy; exact huc j y hy
          · rw [List.getElem?_append_right (by omega)] at hy
            have hjl : j - us.length < k := by have := (List.getElem?_eq_some_iff.1 hy).1; omega
            have h2 := hat (j - us.length) hjl
            rw [hy] at h2
            rw [← h2, Go.Proofs.YtmnpoajdibmocaaGreat.add_of_add]
            congr 2; omega
        · rw [flat_take en xs q _ hqx]
          exact RdL.append _ _ _ _ hur hr
        · rw [flat_take en xs q _ hqx, StrOkL_append]
          exact ⟨hus, hs⟩
    obtain ⟨us, hul, huc, hur, hus⟩ := hpre len (Nat.le_refl _)
    rw [← hxl, List.take_length] at hur hus
    refine ⟨xs, _, rfl, ?_, hus⟩
    rw [RdW, Rd, hxl]
    have h63 : maxLen = 9223372036854775807 := by decide
    refine ⟨some a, cap, rfl, ⟨hl, by omega, by omega⟩, ?_⟩
    by_cases h0 : len = 0
    · exact .inl h0
    · refine .inr ⟨a, us, rfl, ?_, huc, hur⟩
      have h1 : 1 * k ≤ len * k := Nat.mul_le_mul_right _ (by omega)
      have hu0 : us[0]? = some (us[0]'(by omega)) := List.getElem?_eq_getElem (by omega)
      have := block_lt_of_cell (huc 0 _ hu0)
      rwa [Go.Proofs.YtmnpoajdibmocaaGreat.block_of_add] at this
theorem arg_int {t : TypeId} (ht : P.underlying t = some (.int .i64)) {fuel : Nat} {cs : List Value} {x : DataW H × List MemPlace} (h : DataW.trod enc P w base spare held fuel t cs = some x) : ∃ n, cs = [.int .i64 n] := by
  obtain ⟨n, rfl, _⟩ := DataW.trod_int ht h; exact ⟨n, rfl⟩
theorem arg_u8 {t : TypeId} (ht : P.underlying t = some (.int .u8)) {fuel : Nat} {cs : List Value} {x : DataW H × List MemPlace} (h : DataW.trod enc P w base spare held fuel t cs = some x) : ∃ n : UInt8, cs = [.int .u8 (n.toNat : Int)] := by
  obtain ⟨n, rfl, _, hw⟩ := DataW.trod_int ht h
  have h1 : 0 ≤ n ∧ n < 256 := by
    have h2 : (Lit.int .u8 n).wf = true := hw
    simp [Lit.wf] at h2
    obtain ⟨h3, h4⟩ := h2
    have e1 : IntKind.u8.min = 0 := by decide
    have e2 : IntKind.u8.max = 255 := by decide
    omega
  refine ⟨UInt8.ofNat n.toNat, ?_⟩
  have : (UInt8.ofNat n.toNat).toNat = n.toNat := by simp; omega
  rw [this]; congr 2; omega
theorem arg_bool {t : TypeId} (ht : P.underlying t = some .bool) {fuel : Nat} {cs : List Value} {x : DataW H × List MemPlace} (h : DataW.trod enc P w base spare held fuel t cs = some x) : ∃ b, cs = [.bool b] := by
  obtain ⟨n, rfl, _⟩ := DataW.trod_bool ht h; exact ⟨n, rfl⟩
theorem arg_str {t : TypeId} (ht : P.underlying t = some .string) {fuel : Nat} {cs : List Value} {x : DataW H × List MemPlace} (h : DataW.trod enc P w base spare held fuel t cs = some x) (hw : WOk P t x.1) : ∃ s : ByteArray, cs = [.string s] ∧ s.size ≤ 140737488355328 := by
  obtain ⟨s, rfl, rfl, _⟩ := DataW.trod_string ht h
  refine ⟨s, rfl, ?_⟩
  have h1 := hw s.data.toList.length (by rw [DataW.weights]; exact List.mem_singleton.2 rfl)
  have hreach : reachBytes < 140737488355328 := by decide
  have h2 : s.data.toList.length = s.size := rfl
  omega
/-- a struct's parts: the cells of each field, its reading, its weights -/
theorem arg_struct {t : TypeId} {fs : Array Field} (ht : P.underlying t = some (.struct fs)) {fuel : Nat} {cs : List Value} {x : DataW H × List MemPlace} (h : DataW.trod enc P w base spare held fuel t cs = some x) (hw : WOk P t x.1) :
    cs.length = P.cellsOf t ∧ ∀ (i : Nat) (f : Field), fs[i]? = some f → ∃ n y, DataW.trod enc P w base spare held n f.type ((cs.drop f.offset).take (P.cellsOf f.type)) = some y ∧ WOk P f.type y.1 := by
  obtain ⟨xs, n, _, rfl, hl, hlen, hf⟩ := DataW.trod_struct ht h
  refine ⟨hl, fun i f hi => ?_⟩
  have hil : i < fs.size := (Array.getElem?_eq_some_iff.1 hi).1
  have hx : xs[i]? = some (xs[i]'(by omega)) := List.getElem?_eq_getElem (by omega)
  refine ⟨n, _, (hf i f hi).trans hx, fun q hq => hw q ?_⟩
  simp only [DataW.weights, ht]
  refine DataW.weights_mem_each (j := i) (t := f.type) (d := (xs[i]'(by omega)).1) ?_ ?_ q hq
  · rw [List.getElem?_map, show fs.toList[i]? = some f from by simpa using hi]; rfl
  · rw [List.getElem?_map, hx]; rfl
end

section
variable {H : Type} {enc : TypeId × Value → H} {P : Program}
theorem post_of_below {f : Func} {s : ChangeSpec} {apart fresh handsOn again : Bool} {W W' : World} {args : Array Value} {v : Value} {ds gs : List (DataW H)} {before pa pv : List MemPlace}
    (hW : DataW.Whole enc P f.params.toList s.vars apart W args.toList ds gs before)
    (hres : ∀ (b : Nat) (sp : Nat → Bool) (hd : Bool), DataW.TrodAll enc P W' b sp hd f.resultTypes.toList (v.resultList f.resultTypes.size) (s.fn H (ds ++ gs)).results [])
    (hargs : ∀ sp : Nat → Bool, (∀ p ∈ before, sp p.block = true) → DataW.TrodAll enc P W' 0 sp true f.params.toList args.toList (s.fn H (ds ++ gs)).args pa)
    (hvars : ∀ sp : Nat → Bool, (∀ p ∈ before, sp p.block = true) → DataW.TrodVars enc P W' sp s.vars (s.fn H (ds ++ gs)).vars pv)
    (hps : before = pa ++ pv) (hb : Below W.heap.size W W')
    (hok : ∀ (j : Nat) (t : TypeId) (r : Value), f.resultTypes[j]? = some t → (v.resultList f.resultTypes.size)[j]? = some r → Value.okWide P W' .any 0 t r) :
    s.post enc P f apart fresh handsOn again W args v W' := by
  have hlt : ∀ p ∈ before, p.block < W.heap.size := fun p hp => hW.lt p hp
  have hold : ∀ p ∈ before, (fun b => decide (b < W.heap.size)) p.block = true := fun p hp => by simpa using hlt p hp
  refine ⟨ds, gs, before, [], pa, pv, hW, hres _ _ _, hargs _ hold, hvars _ hold, World.keptBut_mono (fun p hp => ⟨hp, ?_⟩) (hb.frame (· ∈ before)), fun _ => ?_⟩
  · rw [hps, List.mem_append] at hp
    exact Or.inr hp
  · obtain ⟨_, _, _, _, _, hz, hn⟩ := hW
    refine ⟨hok, _, _, ([] ++ pa) ++ pv, ⟨[] ++ pa, pv, trodAll_append (hargs _ (fun _ _ => rfl)) (hres _ _ _), hvars _ (fun _ _ => rfl), rfl, ?_, ?_⟩, ?_⟩
    · intro b off hp
      have hin : MemPlace.cell b off ∈ before := by rw [hps]; simpa using hp
      rw [hb.frozen (hlt _ hin)]
      exact hz b off hin
    · intro ha
      have := hn ha
      rw [hps] at this
      simpa using this
    · intro p hp _
      rw [hps]
      simpa using hp
theorem trod_carry {t : TypeId} (hl : laidOutB P = true) (hr : P.readableRec t = true) (hrow : t < P.types.size) {W W' : World} {v : Value} {d : DataW H} {ps : List MemPlace}
    (h : DataW.Trod enc P W 0 (fun _ => true) true t v d ps) (hb : Below W.heap.size W W') (hlt : ∀ x ∈ ps, x.block < W.heap.size) (sp : Nat → Bool) (hsp : ∀ x ∈ ps, sp x.block = true) :
    DataW.Trod enc P W' 0 sp true t v d ps := WideElems.Trod_stays hl hr hrow h (fun x hx => hb.same (hlt x hx)) (fun x hx => hsp x hx)
end

section
variable {H : Type} {enc : TypeId × Value → H} {P : Program}
theorem bool_reads {t : TypeId} (ht : P.underlying t = some .bool) {W : World} {base : Nat} {sp : Nat → Bool} {held : Bool} (b : Bool) : DataW.Trod enc P W base sp held t (.bool b) (.lit (.bool b)) [] := ⟨1, by simp [DataW.trod, Value.cells, ht]⟩
theorem bool_okw {t : TypeId} (ht : P.underlying t = some .bool) {W : World} (b : Bool) : Value.okWide P W .any 0 t (.bool b) := by simp [Value.okWide, ht, Cell.okWide, Cell.ok]
theorem wok_of {ts : List TypeId} {ds : List (DataW H)} (h : (DataW.weightsEach P ts ds).all (· ≤ reachBytes) = true) (j : Nat) {t : TypeId} {d : DataW H} (ht : ts[j]? = some t) (hd : ds[j]? = some d) : WOk P t d := fun n hn => by
  have := List.all_eq_true.1 h n (DataW.weights_mem_each ht hd n hn)
  simpa using this
theorem i64_of {n : Int} (h : (Lit.int .i64 n).wf = true) : I64 n := by
  simp [Lit.wf] at h
  have e1 : IntKind.i64.min = -9223372036854775808 := by decide
  have e2 : IntKind.i64.max = 9223372036854775807 := by decide
  unfold I64; omega
theorem slice_cells {A : Option Addr} {n c : Nat} : (Value.cells (.slice A n c)).toList = [.slice A n c] := rfl
theorem agg_cells {cs : Array Value} : (Value.cells (.agg cs)).toList = cs.toList := rfl
end
end Go.Proofs.YtmnpoajdibmocaaGreat
