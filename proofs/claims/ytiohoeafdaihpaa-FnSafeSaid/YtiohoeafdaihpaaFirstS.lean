import Derived.Deep.CutRange
import Derived.Test.YtiohoeafdaihpaaProg
import Derived.Test.YtiohoeafdaihpaaTypes
import Derived.StillTailTactics
import Derived.Deep.CutRange
import Derived.Laws.OwnMore
import Derived.Deep.AppendLies
import Derived.Deep.RegionWith
import Derived.Deep.RegionHeld3
import Derived.Laws.IdiomStrings
import Derived.Test.YtiohoeafdaihpaaAppend
import Derived.Laws.StructEq
import Derived.Lib.SliceRun
import Derived.Shelf.RegionOpenPlain
import Derived.Test.YtiohoeafdaihpaaMeet
import Derived.Test.YtiohoeafdaihpaaRegsS
import Derived.Test.YtiohoeafdaihpaaMethod
import Derived.Test.YtiohoeafdaihpaaOrders
import Derived.Test.YtiohoeafdaihpaaSafe
namespace Go.Proofs.Ytiohoeafdaihpaa
open Go.RowKit
set_option linter.unusedVariables false
set_option linter.unusedSimpArgs false

/-- a slice is made, of n zeros -/
theorem run_make_repS {P : Program} (t e : TypeId) (bytes : Nat) (z : Value) (ht : P.underlying t = some (.slice e)) (hi : ∃ i, P.info? e = some i ∧ i.zero = some z ∧ z.cells = #[z] ∧ i.bytes = bytes ∧ i.size = 1) (n : Nat) (hn : bytes * n ≤ 281474976710656) (h63 : n ≤ 9223372036854775807) :
    ∀ W : World, (Instr.makeSlice t (.int .i64 (n : Int)) (.int .i64 (n : Int))).run P W = .ok (.slice (some ⟨W.heap.size, 0, none⟩) n n) (W.alloc (.cells (List.replicate n z).toArray e)) := by
  obtain ⟨i, h1, h2, hc, h3, h4⟩ := hi
  intro W
  have h := run_make_rowN t e i z ht h1 h2 .i64 .i64 n n (Nat.le_refl _) (by rw [h3]; exact hn) h63 W
  rw [h4, Nat.mul_one, hc] at h
  rw [h]
  have hq : madeCells #[z] n = (List.replicate n z).toArray := by
    apply Array.ext'
    rw [toList_madeCells_one]
  rw [hq]

/-- the two rows of the reference's walk -/
structure StS (w : World) (B gs gr N : Nat) (S : List (Option (List Bool))) (us : List Value) : Prop where
  len : S.length = N
  ulen : us.length = N
  hgs : B ≤ gs
  hgr : B ≤ gr
  n5 : gs ≠ gr
  kgs : Blk w gs 69 us.toArray
  kgr : Blk w gr 4 (S.map fun o => Value.bool o.isSome).toArray
  rd : ∀ (j : Nat) l u, S[j]? = some (some l) → us[j]? = some u → Rd (fun k => k < w.heap.size ∧ k ≠ gs ∧ k ≠ gr) w (.s l.length (l.flatMap eBool)) u
  nl : ∀ (j : Nat) u, S[j]? = some none → us[j]? = some u → u = .slice none 0 0
  l8 : ∀ (j : Nat) l, S[j]? = some (some l) → l.length = 8
theorem StS.below {w w' : World} {B gs gr N : Nat} {S : List (Option (List Bool))} {us : List Value} (h : StS w B gs gr N S us) (hb : Below w.heap.size w w') : StS w' B gs gr N S us :=
  ⟨h.len, h.ulen, h.hgs, h.hgr, h.n5, h.kgs.below hb, h.kgr.below hb,
    fun j l u hs hu => Rd.mono (fun k hk => ⟨Nat.lt_of_lt_of_le hk.1 hb.size, hk.2⟩) _ _ (Rd.keep (fun k hk => hb.block k hk.1) _ _ (h.rd j l u hs hu)), h.nl, h.l8⟩
theorem chg_puts (w : World) (gs gr k : Nat) (x y : Value) : Chg (fun i => i = gs ∨ i = gr) w ((w.setCell ⟨gs, k, none⟩ x).setCell ⟨gr, k, none⟩ y) := ((Chg.refl _ w).setCell (p := ⟨gs, k, none⟩) (.inl (.inl rfl)) _).setCell (p := ⟨gr, k, none⟩) (.inl (.inr rfl)) _
theorem StS.put {w : World} {B gs gr N : Nat} {S : List (Option (List Bool))} {us : List Value} (h : StS w B gs gr N S us) {k : Nat} (hk : k < N) {l : List Bool} {v : Value} (hl : l.length = 8)
    (hr : Rd (fun k => k < w.heap.size ∧ k ≠ gs ∧ k ≠ gr) w (.s l.length (l.flatMap eBool)) v) :
    StS ((w.setCell ⟨gs, k, none⟩ v).setCell ⟨gr, k, none⟩ (.bool true)) B gs gr N (S.set k (some l)) (us.set k v) := by
  have hc := chg_puts w gs gr k v (.bool true)
  have hrd : ∀ (l : List Bool) u, Rd (fun k => k < w.heap.size ∧ k ≠ gs ∧ k ≠ gr) w (.s l.length (l.flatMap eBool)) u → Rd (fun i => i < ((w.setCell ⟨gs, k, none⟩ v).setCell ⟨gr, k, none⟩ (.bool true)).heap.size ∧ i ≠ gs ∧ i ≠ gr) ((w.setCell ⟨gs, k, none⟩ v).setCell ⟨gr, k, none⟩ (.bool true)) (.s l.length (l.flatMap eBool)) u := fun l u hu =>
    Rd.mono (fun i hi => ⟨Nat.lt_of_lt_of_le hi.1 hc.size, hi.2⟩) _ _ (Rd.chg hu hc (fun i hi => hi.1) (fun i hi ht => by rcases ht with rfl | rfl; exact hi.2.1 rfl; exact hi.2.2 rfl))
  refine ⟨by rw [List.length_set]; exact h.len, by rw [List.length_set]; exact h.ulen, h.hgs, h.hgr, h.n5, ?_, ?_, ?_, ?_, ?_⟩
  · refine ((h.kgs.set_ k v).far h.n5 _).eq ?_
    simp
  · refine ((h.kgr.far (p := ⟨gs, k, none⟩) (Ne.symm h.n5) _).set_ k (.bool true)).eq ?_
    simp [List.map_set]
  · intro j l' u hs hu
    by_cases hj : k = j
    · subst hj
      rw [List.getElem?_set_self (by rw [h.len]; exact hk)] at hs
      rw [List.getElem?_set_self (by rw [h.ulen]; exact hk)] at hu
      injection hs with hs; injection hs with hs; injection hu with hu
      subst hs; subst hu
      exact hrd _ _ hr
    · rw [List.getElem?_set_ne hj] at hs hu
      exact hrd _ _ (h.rd j l' u hs hu)
  · intro j u hs hu
    by_cases hj : k = j
    · subst hj
      rw [List.getElem?_set_self (by rw [h.len]; exact hk)] at hs
      injection hs with hs; cases hs
    · rw [List.getElem?_set_ne hj] at hs hu
      exact h.nl j u hs hu
  · intro j l' hs
    by_cases hj : k = j
    · subst hj
      rw [List.getElem?_set_self (by rw [h.len]; exact hk)] at hs
      injection hs with hs; injection hs with hs
      subst hs; exact hl
    · rw [List.getElem?_set_ne hj] at hs
      exact h.l8 j l' hs
theorem StS.cells {w : World} {B gs gr N : Nat} {S : List (Option (List Bool))} {us : List Value} (h : StS w B gs gr N S us) {k : Nat} (hk : k < N) :
    ∃ o u, S[k]? = some o ∧ us[k]? = some u ∧ w.cell? ⟨gr, k, none⟩ = some (.bool o.isSome) ∧ w.cell? ⟨gs, k, none⟩ = some u := by
  have h1 : k < S.length := by rw [h.len]; exact hk
  have h2 : k < us.length := by rw [h.ulen]; exact hk
  refine ⟨S[k], us[k], List.getElem?_eq_getElem h1, List.getElem?_eq_getElem h2, ?_, ?_⟩
  · rw [h.kgr.cell k]; simp [List.getElem?_eq_getElem h1]
  · rw [h.kgs.cell k]; simp [List.getElem?_eq_getElem h2]
theorem StS.at1 {w : World} {B gs gr N : Nat} {S : List (Option (List Bool))} {us : List Value} (h : StS w B gs gr N S us) {k : Nat} {o : Option (List Bool)} {u : Value} (hs : S[k]? = some o) (hu : us[k]? = some u) :
    w.cell? ⟨gr, k, none⟩ = some (.bool o.isSome) ∧ w.cell? ⟨gs, k, none⟩ = some u ∧ w.frozen? ⟨gr, k, none⟩ = false ∧ w.frozen? ⟨gs, k, none⟩ = false := by
  refine ⟨?_, ?_, h.kgr.frozen k, h.kgs.frozen k⟩
  · rw [h.kgr.cell k]; simp [hs]
  · rw [h.kgs.cell k]; simp [hu]
/-- what is met at a place -/
theorem meet_at {w : World} {B gs gr N k : Nat} {S : List (Option (List Bool))} {us : List Value} (h : StS w B gs gr N S us) {o : Option (List Bool)} {u : Value} (hs : S[k]? = some o) (hu : us[k]? = some u)
    {now : List Bool} {vn : Value} (hn : now.length = 8) (hr : RdW w (.s now.length (now.flatMap eBool)) vn) :
    Calls Try.prog 53 #[u, vn, .bool o.isSome] w fun e w' => ∃ (R : List Bool) (A' : Option Addr) (c' : Nat), e = .returned (.slice A' R.length c') ∧ Hid (reachG meetS S k now = S.set k (some R)) ∧ Hid (R.length = 8) ∧ Hid (Rd (fun i => i < w'.heap.size ∧ i ≠ gs ∧ i ≠ gr) w' (.s R.length (R.flatMap eBool)) (.slice A' R.length c')) ∧ Below w.heap.size w w' := by
  have hl1 := h.kgs.lt
  have hl2 := h.kgr.lt
  have hfresh : ∀ {w' : World} {R : List Bool} {v : Value} {fp : List Nat}, Own w' (.s R.length (R.flatMap eBool)) v fp → (∀ k, k ∈ fp → w.heap.size ≤ k) → Rd (fun i => i < w'.heap.size ∧ i ≠ gs ∧ i ≠ gr) w' (.s R.length (R.flatMap eBool)) v := fun ho hf =>
    Rd.mono (fun i hi => ⟨Own.lt _ _ _ ho i hi, fun e => by have := hf i hi; omega, fun e => by have := hf i hi; omega⟩) _ _ ho.rd
  cases o with
  | none =>
    obtain rfl := h.nl k u hs hu
    refine (spec_l8Meet_calls (.slice none 0 0) vn [] now false w (rd_none w) hr (fun h => by cases h) (by omega) (by omega)).mono ?_
    rintro e w' ⟨A', c', rfl, fp, ho, hf, hb⟩
    exact ⟨now, A', c', rfl, reachG_none hs, hn, hfresh ho hf, hb⟩
  | some q =>
    have h8 := h.l8 k q hs
    refine (spec_l8Meet_calls u vn q now true w (Rd.mono (fun i hi => hi.1) _ _ (h.rd k q u hs hu)) hr (fun _ => by rw [h8, hn]) (by omega) (by omega)).mono ?_
    rintro e w' ⟨A', c', rfl, fp, ho, hf, hb⟩
    exact ⟨meetS q now, A', c', rfl, reachG_some hs, by unfold Hid meetS; rw [List.length_zipWith, h8, hn]; rfl, hfresh ho hf, hb⟩
theorem World.ownsRow_lit8 (w : World) : (w.alloc (.cells #[.bool false, .bool false, .bool false, .bool false, .bool false, .bool false, .bool false, .bool false] 4)).ownsRow w.heap.size 4 1 (.slice (some ⟨w.heap.size, 0, none⟩) 8 8) 8 ([false, false, false, false, false, false, false, false].flatMap vsBool) :=
  ⟨by simp [vsBool], .inr ⟨w.heap.size, 8, _, rfl, Nat.le_refl _, heap_alloc_new w _, Nat.le_refl _, by decide, rfl, rfl⟩⟩
theorem nextS_len (r : List Bool) (y : GInstr) : (nextS r y).length = r.length := by unfold nextS; split <;> simp
set_option maxHeartbeats 12800000 in
set_option maxRecDepth 100000 in
theorem spec_FirstUnset_calls (us : List Value) (x : GMethod) (w : World) (hr : RdLW w (eMethod x) us) (hz : sizL (eMethod x) ≤ 1048576) :
    Calls Try.prog 19 #[.agg us.toArray] w fun e w' => e = .returned (.int .i64 (firstS x.Code)) ∧ Below w.heap.size w w' := by
  have hzq := hz
  rw [siz_eMethod] at hzq
  obtain ⟨v1, rfl, h1⟩ := rd_eMethod hr
  obtain ⟨A, c, rfl, ⟨_, _, hl⟩⟩ := h1.slice
  have HR := Lib.hid h1
  have hn1 : x.Code.length ≤ 1048576 := by omega
  have hmk1 : ∀ W : World, (Instr.makeSlice 78 (.int .i64 ((x.Code.length : Int) + 1)) (.int .i64 ((x.Code.length : Int) + 1))).run Try.prog W = .ok (.slice (some ⟨W.heap.size, 0, none⟩) (x.Code.length + 1) (x.Code.length + 1)) (W.alloc (.cells (List.replicate (x.Code.length + 1) (.slice none 0 0 : Value)).toArray 69)) := fun W => by
    have h := run_make_repS (P := Try.prog) 78 69 24 (.slice none 0 0) Try.underlying78 ⟨_, rfl, rfl, rfl, rfl, rfl⟩ (x.Code.length + 1) (by omega) (by omega) W
    push_cast at h; exact h
  have hmk2 : ∀ W : World, (Instr.makeSlice 69 (.int .i64 ((x.Code.length : Int) + 1)) (.int .i64 ((x.Code.length : Int) + 1))).run Try.prog W = .ok (.slice (some ⟨W.heap.size, 0, none⟩) (x.Code.length + 1) (x.Code.length + 1)) (W.alloc (.cells (List.replicate (x.Code.length + 1) (.bool false : Value)).toArray 4)) := fun W => by
    have h := run_make_repS (P := Try.prog) 69 4 1 (.bool false) Try.underlying69 ⟨_, rfl, rfl, rfl, rfl, rfl⟩ (x.Code.length + 1) (by omega) (by omega) W
    push_cast at h; exact h
  have hmk3 : ∀ W : World, (Instr.makeSlice 69 (.int .i64 8) (.int .i64 8)).run Try.prog W = .ok (.slice (some ⟨W.heap.size, 0, none⟩) 8 8) (W.alloc (.cells #[.bool false, .bool false, .bool false, .bool false, .bool false, .bool false, .bool false, .bool false] 4)) := fun W => by
    have h := run_make_repS (P := Try.prog) 69 4 1 (.bool false) Try.underlying69 ⟨_, rfl, rfl, rfl, rfl, rfl⟩ 8 (by omega) (by omega) W
    exact h
  clear hz hr h1 hzq
  go_enter Try.func19, Try.ntmps19
  go_upto_region 2 with fail
  obtain ⟨w0, hw0⟩ : ∃ q, q = w.alloc (.cells #[.string x.Name, .slice A x.Code.length c] 29) := ⟨_, rfl⟩
  rw [← hw0]
  have HK0 : Hid (Blk w0 w.heap.size 29 #[.string x.Name, .slice A x.Code.length c]) := by unfold Hid; rw [hw0]; exact Blk.new w _ _
  have HBw : Hid (Below w.heap.size w w0) := by unfold Hid; rw [hw0]; exact (Below.refl _ _).alloc (Nat.le_refl _) _
  have zw : w0.heap.size ≤ w.heap.size + 1 := by rw [hw0]; simp
  have zw' : w.heap.size + 1 ≤ w0.heap.size := by rw [hw0]; simp
  clear hw0
  go_upto_region 4 with fail
  obtain ⟨w3, hw3⟩ : ∃ q, q = (w0.alloc (Obj.cells (Array.replicate (x.Code.length + 1) (Value.slice none 0 0)) 69)).alloc (Obj.cells (Array.replicate (x.Code.length + 1) (Value.bool false)) 4) := ⟨_, rfl⟩
  rw [← hw3]
  have HS3 : Hid (StS w3 w0.heap.size w0.heap.size (w0.heap.size + 1) (x.Code.length + 1) (List.replicate (x.Code.length + 1) none) (List.replicate (x.Code.length + 1) (.slice none 0 0))) := by
    unfold Hid
    refine ⟨by simp, by simp, by omega, by omega, by omega, ?_, ?_, ?_, ?_, ?_⟩
    · rw [hw3]; exact ((Blk.new w0 _ _).alloc _).eq (by simp)
    · rw [hw3]; exact (Blk.made (by simp)).eq (by simp)
    · intro j l u hs; rw [List.getElem?_replicate] at hs; split at hs <;> cases hs
    · intro j u hs hu; rw [List.getElem?_replicate] at hu; split at hu <;> cases hu; rfl
    · intro j l hs; rw [List.getElem?_replicate] at hs; split at hs <;> cases hs
  have HB3 : Hid (Below w0.heap.size w0 w3) := by unfold Hid; rw [hw3]; exact ((Below.refl _ _).alloc (Nat.le_refl _) _).alloc (by simp) _
  have HK3 := Lib.hid (HK0.out.below HB3.out)
  have z3 : w0.heap.size + 2 ≤ w3.heap.size := by rw [hw3]; simp
  have HS4 : Hid (StS (((w3.alloc (.cells #[.bool false, .bool false, .bool false, .bool false, .bool false, .bool false, .bool false, .bool false] 4)).setCell ⟨w0.heap.size, 0, none⟩ (.slice (some ⟨w3.heap.size, 0, none⟩) 8 8)).setCell ⟨w0.heap.size + 1, 0, none⟩ (.bool true)) w0.heap.size w0.heap.size (w0.heap.size + 1) (x.Code.length + 1) (some (List.replicate 8 false) :: List.replicate x.Code.length none) ((.slice (some ⟨w3.heap.size, 0, none⟩) 8 8) :: List.replicate x.Code.length (.slice none 0 0))) := by
    unfold Hid
    have ho : (w3.alloc (.cells #[.bool false, .bool false, .bool false, .bool false, .bool false, .bool false, .bool false, .bool false] 4)).ownsRow w3.heap.size 4 1 (.slice (some ⟨w3.heap.size, 0, none⟩) 8 8) 8 ([false, false, false, false, false, false, false, false].flatMap vsBool) := World.ownsRow_lit8 w3
    obtain ⟨fp, how, _, hge⟩ := ownRow_own (xs := [false, false, false, false, false, false, false, false]) vals_eBool ho (by simp)
    exact (HS3.out.below ((Below.refl _ _).alloc (Nat.le_refl _) _)).put (k := 0) (l := [false, false, false, false, false, false, false, false]) (by omega) rfl (Rd.mono (fun i hi => ⟨Own.lt _ _ _ how i hi, fun e => by have := hge i hi; omega, fun e => by have := hge i hi; omega⟩) _ _ how.rd)
  obtain ⟨kc0, kc1, kc2, kc3⟩ := StS.at1 (k := 0) (o := none) (u := .slice none 0 0) HS3.out (by simp) (by simp)
  have kd0 : ∀ q_ : Obj, (w3.alloc q_).cell? ⟨w0.heap.size, 0, none⟩ = some (.slice none 0 0) := fun q_ => cell_alloc_keep kc1
  have kd1 : ∀ q_ : Obj, (w3.alloc q_).frozen? ⟨w0.heap.size, 0, none⟩ = false := fun q_ => ((HS3.out.kgs.alloc q_).frozen 0)
  have kd2 : ∀ (q_ : Obj) v, ((w3.alloc q_).setCell ⟨w0.heap.size, 0, none⟩ v).cell? ⟨w0.heap.size + 1, 0, none⟩ = some (.bool false) := fun q_ v => by
    rw [World.cell?_setCell_far _ _ _ _ (by simp)]; exact cell_alloc_keep kc0
  have kd3 : ∀ q_ : Obj, (w3.alloc q_).frozen? ⟨w0.heap.size + 1, 0, none⟩ = false := fun q_ => ((HS3.out.kgr.alloc q_).frozen 0)
  clear hw3 kc0 kc1 kc2 kc3
  have HB4 : Hid (Below w.heap.size w (((w3.alloc (.cells #[.bool false, .bool false, .bool false, .bool false, .bool false, .bool false, .bool false, .bool false] 4)).setCell ⟨w0.heap.size, 0, none⟩ (.slice (some ⟨w3.heap.size, 0, none⟩) 8 8)).setCell ⟨w0.heap.size + 1, 0, none⟩ (.bool true))) := (((HBw.out.trans (HB3.out.mono HBw.out.size)).alloc (by omega) _).setCell (p := ⟨w0.heap.size, 0, none⟩) (by dsimp only; omega) _).setCell (p := ⟨w0.heap.size + 1, 0, none⟩) (by dsimp only; omega) _
  have HK4 : Hid (Blk (((w3.alloc (.cells #[.bool false, .bool false, .bool false, .bool false, .bool false, .bool false, .bool false, .bool false] 4)).setCell ⟨w0.heap.size, 0, none⟩ (.slice (some ⟨w3.heap.size, 0, none⟩) 8 8)).setCell ⟨w0.heap.size + 1, 0, none⟩ (.bool true)) w.heap.size 29 #[.string x.Name, .slice A x.Code.length c]) := ((HK3.out.alloc _).far (p := ⟨w0.heap.size, 0, none⟩) (by dsimp only; omega) _).far (p := ⟨w0.heap.size + 1, 0, none⟩) (by dsimp only; omega) _
  clear HS3 HB3 HK3 HK0 HBw
  go_wp2
  clear kd0 kd1 kd2 kd3
  go_loopw [6] (fun a wr => ∃ (i : Nat) (S : List (Option (List Bool))) (us : List Value), i ≤ x.Code.length ∧ a = .int .i64 i ∧ Hid (StS wr w0.heap.size w0.heap.size (w0.heap.size + 1) (x.Code.length + 1) S us) ∧ Hid (Below w.heap.size w wr) ∧ Hid (Blk wr w.heap.size 29 #[.string x.Name, .slice A x.Code.length c]) ∧ Hid (firstS x.Code = runG badS nextS meetS x.Code.length (x.Code.drop i) i S)) (fun a wr => x.Code.length - (intOf a).toNat)
  case atStart => exact ⟨0, _, _, by omega, rfl, HS4, HB4, HK4, rfl⟩
  case round =>
    clear HS4 HB4 HK4
    obtain ⟨i, S, us, hi, rfl, HS, HB, HK, HF⟩ := hrel
    rename World => wo
    obtain ⟨kb, kf⟩ := HK.out.rules
    have hbl := HK.out.lt
    have zr := HB.out.size
    by_cases hlt : i < x.Code.length
    · obtain ⟨y, hy⟩ : ∃ y, x.Code[i]? = some y := ⟨x.Code[i], List.getElem?_eq_getElem hlt⟩
      obtain ⟨ad, rfl, hab, k0, k1, k2, k3, k4, k5⟩ := row_eInstr (HR.out.below HB.out) hy
      obtain ⟨o, u, hso, huo, cm, cs⟩ := HS.out.cells (k := i) (by omega)
      have l3 := HS.out.kgs.lt
      have l4 := HS.out.kgr.lt
      have HX := Lib.hid hy
      cases o with
      | none =>
        have HF1 : Hid (firstS x.Code = runG badS nextS meetS x.Code.length (x.Code.drop (i + 1)) (i + 1) S) := HF.out.trans (runG_skip hy hso)
        simp only [Option.isSome_none] at cm
        clear hy hso huo
        go_wp2
        go_roundw
        case rel => exact ⟨i + 1, S, us, by omega, by go_num, HS.out.below ((Below.refl _ _).alloc (Nat.le_refl _) _), HB.out.alloc zr _, HK.out.alloc _, HF1⟩
        case measure => simp [intOf]; omega
      | some q =>
        simp only [Option.isSome_some] at cm
        have hrq := HS.out.rd i q u hso huo
        have h8 := Lib.hid (HS.out.l8 i q hso)
        obtain ⟨A1, c1, rfl, _⟩ := RdW.slice (Rd.mono (fun k hk => hk.1) _ _ hrq)
        have hql : q.length ≤ 8 := Nat.le_of_eq h8.out
        have hql2 : 8 ≤ q.length := Nat.le_of_eq h8.out.symm
        have HSO := Lib.hid hso
        have HUO := Lib.hid huo
        have HRQ := Lib.hid hrq
        clear hy hso huo hrq
        obtain ⟨wa, hwa⟩ : ∃ q_, q_ = wo.alloc (.cells #[.int .i64 y.Op, .int .i64 y.A, .int .i64 y.B, .int .i64 y.C, .int .i64 y.D, .string y.Name] 47) := ⟨_, rfl⟩
        have HKX : Hid (Blk wa wo.heap.size 47 #[.int .i64 y.Op, .int .i64 y.A, .int .i64 y.B, .int .i64 y.C, .int .i64 y.D, .string y.Name]) := by unfold Hid; rw [hwa]; exact Blk.new wo _ _
        have HBa : Hid (Below wo.heap.size wo wa) := by unfold Hid; rw [hwa]; exact (Below.refl _ _).alloc (Nat.le_refl _) _
        have za : wo.heap.size + 1 ≤ wa.heap.size := by rw [hwa]; simp
        have hrw := Lib.hid hwa
        clear hwa
        go_wp2_with fail
        rw [← hrw.out]
        refine (spec_RegsOf_calls y _).mono ?_
        rintro e wb ⟨vb, rfl, hrb, hbb⟩
        obtain ⟨A2, c2, rfl, _⟩ := hrb.slice
        have HBb := Lib.hid (HBa.out.trans (hbb.mono HBa.out.size))
        have HKXb := Lib.hid (HKX.out.below hbb)
        have HSb := Lib.hid (HS.out.below HBb.out)
        have HRQb : Hid (RdW wb (.s q.length (q.flatMap eBool)) (.slice A1 q.length c1)) := RdW.below (Rd.mono (fun k hk => hk.1) _ _ HRQ.out) HBb.out
        have HRB := Lib.hid hrb
        have hrl : (regsOf y).length ≤ 3 := regsOf_len y
        have zb := hbb.size
        clear hrb hbb cm cs
        go_wp2
        go_loopw [9] (fun a wk => ∃ k : Nat, k ≤ (regsOf y).length ∧ a = .int .i64 k ∧ Hid (Below wb.heap.size wb wk) ∧ Hid (∀ j r, j < k → (regsOf y)[j]? = some r → (!regB r || !(q.getD r.toNat false)) = false)) (fun a wk => (regsOf y).length - (intOf a).toNat)
        case atStart => exact ⟨0, by omega, rfl, Below.refl _ _, no_start⟩
        case round =>
          obtain ⟨k, hk, rfl, HBk, hno⟩ := hrel
          have zk := HBk.out.size
          have HSk := Lib.hid (HSb.out.below HBk.out)
          obtain ⟨cm, cs, gm1, gs1⟩ := StS.at1 HSk.out HSO.out HUO.out
          by_cases hkl : k < (regsOf y).length
          · obtain ⟨r, hrr⟩ : ∃ r, (regsOf y)[k]? = some r := ⟨(regsOf y)[k], List.getElem?_eq_getElem hkl⟩
            obtain ⟨ad2, rfl, hab2, m0⟩ := row_eInt (HRB.out.below HBk.out) hrr
            have HRR := Lib.hid hrr
            clear hrr
            rcases Bool.eq_false_or_eq_true (regB r) with hg | hg
            · obtain ⟨r0, r1⟩ := regB_iff.1 hg
              obtain ⟨p, hp⟩ : ∃ p : Nat, r = p := ⟨r.toNat, by omega⟩
              subst hp
              obtain ⟨b, hb⟩ : ∃ b, q[p]? = some b := ⟨q[p]'(by omega), List.getElem?_eq_getElem _⟩
              obtain ⟨ad3, rfl, hab3, m1⟩ := row_eBool (HRQb.out.below HBk.out) hb
              have HBB : Hid (q.getD ((p : Nat) : Int).toNat false = b) := by unfold Hid; rw [List.getD_eq_getElem?_getD, Int.toNat_natCast, hb]; rfl
              clear hb
              have hcr : ∀ W : World, Calls Try.prog 51 #[.int .i64 ((p : Nat) : Int)] W fun e w' => e = .returned (.bool true) ∧ w' = W := fun W => by have h := spec_IsReg_calls ((p : Nat) : Int) W; rw [hg] at h; exact h
              go_wp2
              go_quiet ((go_at_call 51; exact Calls.quiet_of_same (hcr _)))
              cases b with
              | true =>
                have HN := Lib.hid (step_no (p := fun r : Int => (!regB r || !(q.getD r.toNat false)) = false) hno.out HRR.out (by rw [hg, HBB.out]; rfl))
                go_wp2
                go_roundw
                case rel => exact ⟨k + 1, by omega, by go_num, belowN HBk.out _, HN⟩
                case measure => simp [intOf]; omega
              | false =>
                have HE : Hid (firstS x.Code = i) := HF.out.trans (runG_bad HX.out HSO.out (any_hit (p := fun k => !regB k || !(q.getD k.toNat false)) HRR.out (by rw [hg, HBB.out]; rfl)))
                go_wp2
                go_ret
                exact ⟨by rw [HE.out]; rfl, HB.out.trans ((HBb.out.trans (belowN HBk.out _ |>.mono HBb.out.size)).mono zr)⟩
            · have hcr : ∀ W : World, Calls Try.prog 51 #[.int .i64 r] W fun e w' => e = .returned (.bool false) ∧ w' = W := fun W => by have h := spec_IsReg_calls r W; rw [hg] at h; exact h
              go_wp2
              go_quiet ((go_at_call 51; exact Calls.quiet_of_same (hcr _)))
              have HE : Hid (firstS x.Code = i) := HF.out.trans (runG_bad HX.out HSO.out (any_hit (p := fun k => !regB k || !(q.getD k.toNat false)) HRR.out (by rw [hg]; rfl)))
              go_wp2
              go_ret
              exact ⟨by rw [HE.out]; rfl, HB.out.trans ((HBb.out.trans (belowN HBk.out _ |>.mono HBb.out.size)).mono zr)⟩
          · have : k = (regsOf y).length := by omega
            subst this
            have HBD : Hid (badS q y = false) := any_miss (all_of (p := fun r : Int => (!regB r || !(q.getD r.toNat false)) = false) hno.out)
            have HF1 : Hid (firstS x.Code = runG badS nextS meetS x.Code.length (x.Code.drop (i + 1)) (i + 1) (stepG nextS meetS x.Code.length i y S q)) := HF.out.trans (runG_good HX.out HSO.out HBD.out)
            have HRQg : Hid (RdW wr (.s q.length (q.flatMap eBool)) (.slice A1 q.length c1)) := HRQb.out.below HBk.out
            have HBr : Hid (Below wo.heap.size wo wr) := HBb.out.trans (HBk.out.mono HBb.out.size)
            have HKXr := Lib.hid (HKXb.out.below HBk.out)
            have lk := HSk.out.kgs.lt
            clear cm gm1 gs1
            go_wp2_with (at_builtin; refine wpList_copy_rd rfl _ _ 69 rfl (wr.heap.size) 4 _ _ 1 1 Try.underlying69 rfl rfl rfl rfl rfl (by omega) _ rfl (World.ownsRow_made wr #[] 0 (Nat.le_refl _) (Nat.zero_le _) (by simp)) vals_eBool q (one_eBool q) (lenv_eBool q) _ _ rfl (HRQg.out.alloc _) (by omega) (by omega) (by simp) ?_)
            intro A' c' w5 hown hgrow
            have HB5 := Lib.hid (((Below.refl _ wr).alloc (Nat.le_refl _) (.cells #[] 4)).trans (grown_below hgrow (by simp) (by intro k hk; simp [Value.ownBlock] at hk; omega)))
            obtain ⟨fp, how, _, hge⟩ := ownRow_own vals_eBool hown (by omega)
            obtain ⟨g, cc, hv, hok, rfl, hg, hrow⟩ := own_rowis vals_eBool how (by omega)
            injection hv with hv1 hv2 hv3
            subst hv1; subst hv3
            have hgw : wr.heap.size ≤ g := hge g (by simp)
            have HOK := Lib.hid hok
            have HROW := Lib.hid hrow
            have HKX5 := Lib.hid (HKXr.out.below HB5.out)
            have HBo5 := Lib.hid (HBr.out.trans (HB5.out.mono HBr.out.size))
            have z5 := HB5.out.size
            have zr5 := HBr.out.size
            obtain ⟨p1, p2⟩ := HKX5.out.rules
            have p5 := HKX5.out.lt
            clear hown hgrow how hge hok hrow hv2 cs
            go_wp2_with fail
            refine (spec_TargetOf_calls y _).mono ?_
            rintro e w6 ⟨rfl, hb6⟩
            have HKX6 := Lib.hid (HKX5.out.below hb6)
            have HBo6 := Lib.hid (HBo5.out.trans (hb6.mono HBo5.out.size))
            have HROW6 := Lib.hid (HROW.out.keep (hb6.block g hg))
            have hg6 : g < w6.heap.size := Nat.lt_of_lt_of_le hg hb6.size
            have z6 := hb6.size
            clear hb6 p1 p2 p5
            obtain ⟨p1, p2⟩ := HKX6.out.rules
            have p5 := HKX6.out.lt
            obtain ⟨tt, htt⟩ : ∃ tt, tt = targetOf y := ⟨_, rfl⟩
            rw [← htt]
            have HTT := Lib.hid htt
            clear htt
            go_wp2_with fail
            refine (spec_IsReg_calls tt _).mono ?_
            rintro e w7 ⟨rfl, rfl⟩
            go_upto_if 77 with fail
            go_cut [] from 75 to 81 (fun wx => g < wx.heap.size ∧ RowIs wx g ((nextS q y).flatMap vsBool) ∧ Blk wx wo.heap.size 47 #[.int .i64 y.Op, .int .i64 y.A, .int .i64 y.B, .int .i64 y.C, .int .i64 y.D, .string y.Name] ∧ Below wo.heap.size wo wx)
            case first =>
              have hlv : ∀ b : Bool, (vsBool b).length = 1 := fun _ => rfl
              rcases Bool.eq_false_or_eq_true (regB tt) with hg0 | hg0
              · obtain ⟨r0, r1⟩ := regB_iff.1 hg0
                have hN : Hid (nextS q y = q.set tt.toNat true) := by unfold Hid nextS; rw [← HTT.out, if_pos hg0]
                obtain ⟨p, hp⟩ : ∃ p : Nat, tt = p := ⟨tt.toNat, by omega⟩
                subst hp
                have HCT := Lib.hid (spec_TargetOf_calls y w7)
                rw [← HTT.out] at HCT
                rw [Int.toNat_natCast] at hN
                rw [hg0]
                go_wp2_with fail
                refine HCT.out.mono ?_
                rintro e w8 ⟨rfl, hb8⟩
                have hpl : p < q.length := by omega
                have HROW8 := Lib.hid (HROW6.out.keep (hb8.block g hg6))
                have hg8 : g < w8.heap.size := Nat.lt_of_lt_of_le hg6 hb8.size
                obtain ⟨q0, p0⟩ := HROW8.out.row hlv (List.getElem?_eq_getElem hpl) 0 _ rfl
                rw [Nat.add_zero, Nat.mul_one] at q0 p0
                have hset := HROW8.out.setRow hlv hpl true
                rw [← hN.out] at hset
                simp only [vsBool, putRow, Nat.add_assoc, Nat.reduceAdd, Nat.mul_one] at hset
                have HSET := Lib.hid hset
                have HKX8 := Lib.hid (HKX6.out.below hb8)
                have HBo8 := Lib.hid (HBo6.out.trans (hb8.mono HBo6.out.size))
                clear hset hb8
                go_wp2
                go_meet
                case rel => exact ⟨by simpa [World.setCell] using hg8, HSET.out, HKX8.out.far (p := ⟨g, p, none⟩) (by dsimp only; omega) _, HBo8.out.setCell (p := ⟨g, p, none⟩) (by dsimp only; omega) _⟩
              · have hN : Hid (nextS q y = q) := by unfold Hid nextS; rw [← HTT.out, if_neg (by rw [hg0]; simp)]
                rw [hg0]
                go_wp2
                go_meet
                case rel => exact ⟨hg6, by rw [hN.out]; exact HROW6.out, HKX6.out, HBo6.out⟩
            case rest =>
              obtain ⟨hgx, hrowx, hkx, hbx⟩ := hcut
              have HSx := Lib.hid (HS.out.below hbx)
              have HBx := Lib.hid (HB.out.trans (hbx.mono zr))
              have HKx := Lib.hid (HK.out.below hbx)
              have HKXx := Lib.hid hkx
              have HB0x := Lib.hid hbx
              have zx := hbx.size
              have HNL : Hid ((nextS q y).length = 8) := by unfold Hid; rw [nextS_len]; exact h8.out
              obtain ⟨fpn, hown, _, hfn⟩ := own_rows vals_eBool (c := c') hrowx hgx ⟨by rw [nextS_len]; exact HOK.out.le, HOK.out.cap, by rw [nextS_len]; exact HOK.out.lim⟩
              have HOW : Hid (Own wc (.s (nextS q y).length ((nextS q y).flatMap eBool)) (.slice (some ⟨g, 0, none⟩) q.length c') fpn) := by
                unfold Hid; rw [show q.length = (nextS q y).length from (nextS_len q y).symm]; exact hown
              have HFN := Lib.hid hfn
              clear hgx hrowx hkx hbx hown hfn p1 p2 p5
              obtain ⟨p1, p2⟩ := HKXx.out.rules
              have p5 := HKXx.out.lt
              by_cases e10 : y.Op = 10
              · have HST : Hid (stepG nextS meetS x.Code.length i y S q = S) := by unfold Hid stepG; rw [if_pos e10]
                go_wp2
                go_roundw
                case rel => exact ⟨i + 1, S, us, by omega, by go_num, HSx, HBx, HKx, by unfold Hid; rw [HST.out] at HF1; exact HF1.out⟩
                case measure => simp [intOf]; omega
              have e10b : (y.Op == 10) = false := by simpa using e10
              obtain ⟨o1, u1, hs1, hu1, -, -⟩ := HSx.out.cells (k := i + 1) (by omega)
              obtain ⟨rb1, hrb1⟩ : ∃ rb, rb = o1.isSome := ⟨_, rfl⟩
              have HRB1 := Lib.hid hrb1
              clear hrb1
              have HNOW : RdW wc.drew (.s (nextS q y).length ((nextS q y).flatMap eBool)) (.slice (some ⟨g, 0, none⟩) q.length c') := HOW.out.rdw.drew
              have hwr1 : IntKind.i64.wrap ((i : Int) + 1) = (i : Int) + 1 := by rw [IntKind.wrap_i64]; omega
              have h0i : (0 : Int) ≤ (i : Int) + 1 := by omega
              have htn : ((i : Int) + 1).toNat = i + 1 := by omega
              go_upto_region 21 with fail
              refine wp_region_U (fun wq => StS wq w0.heap.size w0.heap.size (w0.heap.size + 1) (x.Code.length + 1) S us) [0, 1, 2, 3, 4, 5, 6, 7, 8, 9, 10, 11, 12, 13, 14, 15, 16] (by kernel_rfl) ?_
              have hH_ := ((HSx.out).below (Below.refl _ _).drew : (fun wq => StS wq w0.heap.size w0.heap.size (w0.heap.size + 1) (x.Code.length + 1) S us) (wc).drew)
              refine wpAnyU_take (i := 0) (v := ?_) rfl (by kernel_rfl) (by kernel_rfl) (by kernel_rfl) (by kernel_rfl) (fun _ _ _ h => h) (Or.inl ⟨by rfl, ?_⟩) hH_ ?_
              rotate_left
              · (intro w hSw; (try dsimp only at hSw); go_simp <;> with_reducible rfl)
              simp only [Act.put, List.setIfInBounds_toArray, List.set_cons_zero, List.set_cons_succ]
              refine wpAnyU_take (i := 1) (v := ?_) rfl (by kernel_rfl) (by kernel_rfl) (by kernel_rfl) (by kernel_rfl) (fun _ _ _ h => h) (Or.inl ⟨by rfl, ?_⟩) hH_ ?_
              rotate_left
              · (intro w hSw; (try dsimp only at hSw); go_simp <;> with_reducible rfl)
              simp only [Act.put, List.setIfInBounds_toArray, List.set_cons_zero, List.set_cons_succ]
              refine wpAnyU_take (i := 2) (v := ?_) rfl (by kernel_rfl) (by kernel_rfl) (by kernel_rfl) (by kernel_rfl) (fun _ _ _ h => h) (Or.inl ⟨by rfl, ?_⟩) hH_ ?_
              rotate_left
              · (intro w hSw; (try dsimp only at hSw); go_simp <;> with_reducible rfl)
              simp only [Act.put, List.setIfInBounds_toArray, List.set_cons_zero, List.set_cons_succ]
              refine wpAnyU_take (i := 3) (v := ?_) rfl (by kernel_rfl) (by kernel_rfl) (by kernel_rfl) (by kernel_rfl) (fun _ _ _ h => h) (Or.inl ⟨by rfl, ?_⟩) hH_ ?_
              rotate_left
              · (intro w hSw; (try dsimp only at hSw); go_simp <;> with_reducible rfl)
              simp only [Act.put, List.setIfInBounds_toArray, List.set_cons_zero, List.set_cons_succ]
              refine wpAnyU_take (i := 4) (v := ?_) rfl (by kernel_rfl) (by kernel_rfl) (by kernel_rfl) (by kernel_rfl) (fun _ _ _ h => h) (Or.inl ⟨by rfl, ?_⟩) hH_ ?_
              rotate_left
              · (intro w hSw; (try dsimp only at hSw); go_simp <;> with_reducible rfl)
              simp only [Act.put, List.setIfInBounds_toArray, List.set_cons_zero, List.set_cons_succ]
              refine wpAnyU_take (i := 5) (v := ?_) rfl (by kernel_rfl) (by kernel_rfl) (by kernel_rfl) (by kernel_rfl) (fun _ _ _ h => h) (Or.inl ⟨by rfl, ?_⟩) hH_ ?_
              rotate_left
              · (intro w hSw; (try dsimp only at hSw); go_simp <;> with_reducible rfl)
              simp only [Act.put, List.setIfInBounds_toArray, List.set_cons_zero, List.set_cons_succ]
              refine wpAnyU_take (i := 6) (v := ?_) rfl (by kernel_rfl) (by kernel_rfl) (by kernel_rfl) (by kernel_rfl) (fun _ _ _ h => h) (Or.inl ⟨by rfl, ?_⟩) hH_ ?_
              rotate_left
              · (intro w hSw; (try dsimp only at hSw); (try simp only [hwr1]); go_simp <;> (try simp only [htn]) <;> with_reducible rfl)
              simp only [Act.put, List.setIfInBounds_toArray, List.set_cons_zero, List.set_cons_succ]
              refine wpAnyU_take (i := 7) (v := ?_) rfl (by kernel_rfl) (by kernel_rfl) (by kernel_rfl) (by kernel_rfl) (fun _ _ _ h => h) (Or.inl ⟨by rfl, ?_⟩) hH_ ?_
              rotate_left
              · (intro w hSw; (try dsimp only at hSw); (have kc := (StS.at1 hSw hs1 hu1).2.1; go_simp <;> with_reducible rfl))
              simp only [Act.put, List.setIfInBounds_toArray, List.set_cons_zero, List.set_cons_succ]
              refine wpAnyU_take (i := 8) (v := ?_) rfl (by kernel_rfl) (by kernel_rfl) (by kernel_rfl) (by kernel_rfl) (fun _ _ _ h => h) (Or.inl ⟨by rfl, ?_⟩) hH_ ?_
              rotate_left
              · (intro w hSw; (try dsimp only at hSw); go_simp <;> with_reducible rfl)
              simp only [Act.put, List.setIfInBounds_toArray, List.set_cons_zero, List.set_cons_succ]
              refine wpAnyU_take (i := 9) (v := ?_) rfl (by kernel_rfl) (by kernel_rfl) (by kernel_rfl) (by kernel_rfl) (fun _ _ _ h => h) (Or.inl ⟨by rfl, ?_⟩) hH_ ?_
              rotate_left
              · (intro w hSw; (try dsimp only at hSw); go_simp <;> with_reducible rfl)
              simp only [Act.put, List.setIfInBounds_toArray, List.set_cons_zero, List.set_cons_succ]
              refine wpAnyU_take (i := 10) (v := ?_) rfl (by kernel_rfl) (by kernel_rfl) (by kernel_rfl) (by kernel_rfl) (fun _ _ _ h => h) (Or.inl ⟨by rfl, ?_⟩) hH_ ?_
              rotate_left
              · (intro w hSw; (try dsimp only at hSw); go_simp <;> with_reducible rfl)
              simp only [Act.put, List.setIfInBounds_toArray, List.set_cons_zero, List.set_cons_succ]
              refine wpAnyU_take (i := 11) (v := ?_) rfl (by kernel_rfl) (by kernel_rfl) (by kernel_rfl) (by kernel_rfl) (fun _ _ _ h => h) (Or.inl ⟨by rfl, ?_⟩) hH_ ?_
              rotate_left
              · (intro w hSw; (try dsimp only at hSw); go_simp <;> with_reducible rfl)
              simp only [Act.put, List.setIfInBounds_toArray, List.set_cons_zero, List.set_cons_succ]
              refine wpAnyU_take (i := 12) (v := ?_) rfl (by kernel_rfl) (by kernel_rfl) (by kernel_rfl) (by kernel_rfl) (fun _ _ _ h => h) (Or.inl ⟨by rfl, ?_⟩) hH_ ?_
              rotate_left
              · (intro w hSw; (try dsimp only at hSw); (try simp only [hwr1]); go_simp <;> (try simp only [htn]) <;> with_reducible rfl)
              simp only [Act.put, List.setIfInBounds_toArray, List.set_cons_zero, List.set_cons_succ]
              refine wpAnyU_take (i := 13) (v := ?_) rfl (by kernel_rfl) (by kernel_rfl) (by kernel_rfl) (by kernel_rfl) (fun _ _ _ h => h) (Or.inl ⟨by rfl, ?_⟩) hH_ ?_
              rotate_left
              · (intro w hSw; (try dsimp only at hSw); (have kc := (StS.at1 hSw hs1 hu1).1; rw [← HRB1.out] at kc; go_simp <;> with_reducible rfl))
              simp only [Act.put, List.setIfInBounds_toArray, List.set_cons_zero, List.set_cons_succ]
              refine wpAnyU_one (i := 14) (by kernel_rfl) rfl (fun K hK => ?_)
              go_simp
              have hmc_ := meet_at hH_ hs1 hu1 HNL.out HNOW
              rw [← HRB1.out] at hmc_
              refine hmc_.mono ?_
              rintro e wm ⟨R, A6, c6, rfl, hR1, hR2, hR3, hbm⟩
              clear hmc_
              refine hK.out _ _ ?_ (fun hH1_ => ?_)
              · exact hH_.below hbm
              clear hK K hH_
              have hH_ := hH1_
              clear hH1_
              refine wpAnyU_take (i := 15) (v := ?_) rfl (by kernel_rfl) (by kernel_rfl) (by kernel_rfl) (by kernel_rfl) (fun _ _ _ h => h) (Or.inl ⟨by rfl, ?_⟩) hH_ ?_
              rotate_left
              · (intro w hSw; (try dsimp only at hSw); (try simp only [hwr1]); go_simp <;> (try simp only [htn]) <;> with_reducible rfl)
              simp only [Act.put, List.setIfInBounds_toArray, List.set_cons_zero, List.set_cons_succ]
              refine wpAnyU_one' (i := 16) (by kernel_rfl) rfl (by kernel_rfl) (fun K hK => ?_)
              have kc1 := (StS.at1 hH_ hs1 hu1).2.1
              have kc3 := (StS.at1 hH_ hs1 hu1).2.2.2
              go_simp
              refine hK.out _ _ ?_
              clear hK K
              refine wpAnyU_done (by kernel_rfl) ?_ _
              have HSm := Lib.hid hH_
              have hzm := hbm.size
              have kc0 := (HSm.out.at1 hs1 hu1).1
              have kc2 := (HSm.out.at1 hs1 hu1).2.2.1
              rw [← HRB1.out] at kc0
              have kd0 : ∀ v, (wm.setCell ⟨w0.heap.size, i + 1, none⟩ v).cell? ⟨w0.heap.size + 1, i + 1, none⟩ = some (.bool rb1) := fun v => by
                rw [World.cell?_setCell_far _ _ _ _ (by simp)]; exact kc0
              have lm1 := HSm.out.kgs.lt
              have lm2 := HSm.out.kgr.lt
              have HBm1 : Hid (Below w.heap.size w wm) := HBx.out.drew.trans (hbm.mono (by have := HBx.out.size; simp; omega))
              have HSn1 : Hid (StS ((wm.setCell ⟨w0.heap.size, i + 1, none⟩ (.slice A6 R.length c6)).setCell ⟨w0.heap.size + 1, i + 1, none⟩ (.bool true)) w0.heap.size w0.heap.size (w0.heap.size + 1) (x.Code.length + 1) (reachG meetS S (i + 1) (nextS q y)) (us.set (i + 1) (.slice A6 R.length c6))) := by
                unfold Hid; rw [hR1.out]; exact HSm.out.put (by omega) hR2.out hR3.out
              have HBn1 : Hid (Below w.heap.size w ((wm.setCell ⟨w0.heap.size, i + 1, none⟩ (.slice A6 R.length c6)).setCell ⟨w0.heap.size + 1, i + 1, none⟩ (.bool true))) := (HBm1.out.setCell (p := ⟨w0.heap.size, i + 1, none⟩) (by dsimp only; omega) _).setCell (p := ⟨w0.heap.size + 1, i + 1, none⟩) (by dsimp only; omega) _
              have HKn1 : Hid (Blk ((wm.setCell ⟨w0.heap.size, i + 1, none⟩ (.slice A6 R.length c6)).setCell ⟨w0.heap.size + 1, i + 1, none⟩ (.bool true)) w.heap.size 29 #[.string x.Name, .slice (some ad) x.Code.length c]) := (((HKx.out.drew).below hbm).far (p := ⟨w0.heap.size, i + 1, none⟩) (by dsimp only; omega) _).far (p := ⟨w0.heap.size + 1, i + 1, none⟩) (by dsimp only; omega) _
              have HKXn1 : Hid (Blk ((wm.setCell ⟨w0.heap.size, i + 1, none⟩ (.slice A6 R.length c6)).setCell ⟨w0.heap.size + 1, i + 1, none⟩ (.bool true)) wo.heap.size 47 #[.int .i64 y.Op, .int .i64 y.A, .int .i64 y.B, .int .i64 y.C, .int .i64 y.D, .string y.Name]) := (((HKXx.out.drew).below hbm).far (p := ⟨w0.heap.size, i + 1, none⟩) (by dsimp only; omega) _).far (p := ⟨w0.heap.size + 1, i + 1, none⟩) (by dsimp only; omega) _
              have HOWn1 : Hid (Own ((wm.setCell ⟨w0.heap.size, i + 1, none⟩ (.slice A6 R.length c6)).setCell ⟨w0.heap.size + 1, i + 1, none⟩ (.bool true)) (.s (nextS q y).length ((nextS q y).flatMap eBool)) (.slice (some ⟨g, 0, none⟩) q.length c') fpn) := ((Own.below HOW.out (Below.refl _ wc).drew).below hbm).chg (chg_puts wm w0.heap.size (w0.heap.size + 1) (i + 1) _ _) (fun k hk h => by have := HFN.out k hk; rcases h with h | h <;> omega)
              obtain ⟨wn, hwn⟩ : ∃ q_, q_ = ((wm.setCell ⟨w0.heap.size, i + 1, none⟩ (.slice A6 R.length c6)).setCell ⟨w0.heap.size + 1, i + 1, none⟩ (.bool true)) := ⟨_, rfl⟩
              have HF2 : y.Op ≠ 9 → firstS x.Code = runG badS nextS meetS x.Code.length (x.Code.drop (i + 1)) (i + 1) (reachG meetS S (i + 1) (nextS q y)) := fun h9 => by
                have h := HF1.out
                unfold stepG at h
                rw [if_neg e10, if_neg h9] at h; exact h
              have HF3 : y.Op = 9 → firstS x.Code = runG badS nextS meetS x.Code.length (x.Code.drop (i + 1)) (i + 1) (reachG meetS (reachG meetS S (i + 1) (nextS q y)) (skipTo x.Code.length i y) (nextS q y)) := fun h9 => by
                have h := HF1.out
                unfold stepG at h
                rw [if_neg e10, if_pos h9] at h; exact h
              have HF2 := Lib.hid HF2
              have HF3 := Lib.hid HF3
              clear p1 p2 p5 hR1 hR2 hR3
              by_cases e9 : ¬ y.Op = 9
              · have e9b : (y.Op == 9) = false := by simpa using e9
                obtain ⟨p1, p2⟩ := HKXn1.out.rules
                have p5 := HKXn1.out.lt
                go_wp2
                go_roundw
                case rel => exact ⟨i + 1, _, _, by omega, by go_num, HSn1, HBn1, HKn1, HF2.out e9⟩
                case measure => simp [intOf]; omega
              replace e9 := Classical.not_not.1 e9
              go_upto_region 23 with fail
              rw [← hwn] at HSn1 HBn1 HKn1 HKXn1 HOWn1
              rw [← hwn]
              obtain ⟨S2, hS2⟩ : ∃ q_, q_ = reachG meetS S (i + 1) (nextS q y) := ⟨_, rfl⟩
              obtain ⟨us2, hus2⟩ : ∃ q_, q_ = us.set (i + 1) (.slice A6 R.length c6) := ⟨_, rfl⟩
              rw [← hS2] at HSn1 HF3
              rw [← hus2] at HSn1
              have zn := HBn1.out.size
              clear hS2 hus2 hwn kc0 kc2 kd0 lm1 lm2 hbm hzm HSm hs1 hu1 HRB1 HBm1 hH_ HNOW htn hwr1 HSx HBx HKx HKXx HOW HB0x HS HB HK
              rename Value => v6_
              obtain ⟨p1, p2⟩ := HKXn1.out.rules
              have p5 := HKXn1.out.lt
              go_wp2_with fail
              refine (spec_l1In_calls _ _ _ _).mono ?_
              rintro e wz ⟨rfl, hwz⟩
              subst hwz
              by_cases hB0 : 0 ≤ y.B ∧ y.B < (x.Code.length : Int) - i
              · obtain ⟨hB1, hB2⟩ := hB0
                have hin : inR y.B 0 ((x.Code.length : Int) - i - 1) = true := by unfold inR; exact decide_eq_true (by omega)
                have hsk := skipTo_in hB1 hB2
                obtain ⟨b, hb⟩ : ∃ b : Nat, y.B = b := ⟨y.B.toNat, by omega⟩
                have HSK : Hid (skipTo x.Code.length i y = i + 1 + b) := hsk.trans (by rw [hb]; rfl)
                clear hsk
                rw [hin]
                have h02 : (0 : Int) ≤ (i : Int) + 1 + b := by omega
                have h12 : (i : Int) + 1 + b < (x.Code.length : Int) + 1 := by omega
                have htn : ((i : Int) + 1 + b).toNat = i + 1 + b := by omega
                obtain ⟨o2, u2, hs2, hu2, -, -⟩ := HSn1.out.cells (k := i + 1 + b) (by omega)
                obtain ⟨rb2, hrb2⟩ : ∃ rb, rb = o2.isSome := ⟨_, rfl⟩
                have HRB2 := Lib.hid hrb2
                clear hrb2
                have hwr1 : (0 : Int) = 0 := rfl
                have HNOW : RdW wz.drew (.s (nextS q y).length ((nextS q y).flatMap eBool)) (.slice (some ⟨g, 0, none⟩) q.length c') := HOWn1.out.rdw.drew
                go_upto_region 27 with fail
                refine wp_region_U (fun wq => StS wq w0.heap.size w0.heap.size (w0.heap.size + 1) (x.Code.length + 1) S2 us2) [0, 1, 2, 3, 4, 5, 6, 7, 8, 9, 10, 11, 12, 13] (by kernel_rfl) ?_
                have hH_ := ((HSn1.out).below (Below.refl _ _).drew : (fun wq => StS wq w0.heap.size w0.heap.size (w0.heap.size + 1) (x.Code.length + 1) S2 us2) (wz).drew)
                refine wpAnyU_take (i := 0) (v := ?_) rfl (by kernel_rfl) (by kernel_rfl) (by kernel_rfl) (by kernel_rfl) (fun _ _ _ h => h) (Or.inl ⟨by rfl, ?_⟩) hH_ ?_
                rotate_left
                · (intro w hSw; (try dsimp only at hSw); go_simp <;> with_reducible rfl)
                simp only [Act.put, List.setIfInBounds_toArray, List.set_cons_zero, List.set_cons_succ]
                refine wpAnyU_take (i := 1) (v := ?_) rfl (by kernel_rfl) (by kernel_rfl) (by kernel_rfl) (by kernel_rfl) (fun _ _ _ h => h) (Or.inl ⟨by rfl, ?_⟩) hH_ ?_
                rotate_left
                · (intro w hSw; (try dsimp only at hSw); go_simp <;> with_reducible rfl)
                simp only [Act.put, List.setIfInBounds_toArray, List.set_cons_zero, List.set_cons_succ]
                refine wpAnyU_take (i := 2) (v := ?_) rfl (by kernel_rfl) (by kernel_rfl) (by kernel_rfl) (by kernel_rfl) (fun _ _ _ h => h) (Or.inl ⟨by rfl, ?_⟩) hH_ ?_
                rotate_left
                · (intro w hSw; (try dsimp only at hSw); go_simp <;> with_reducible rfl)
                simp only [Act.put, List.setIfInBounds_toArray, List.set_cons_zero, List.set_cons_succ]
                refine wpAnyU_take (i := 3) (v := ?_) rfl (by kernel_rfl) (by kernel_rfl) (by kernel_rfl) (by kernel_rfl) (fun _ _ _ h => h) (Or.inl ⟨by rfl, ?_⟩) hH_ ?_
                rotate_left
                · (intro w hSw; (try dsimp only at hSw); go_simp <;> with_reducible rfl)
                simp only [Act.put, List.setIfInBounds_toArray, List.set_cons_zero, List.set_cons_succ]
                refine wpAnyU_take (i := 4) (v := ?_) rfl (by kernel_rfl) (by kernel_rfl) (by kernel_rfl) (by kernel_rfl) (fun _ _ _ h => h) (Or.inl ⟨by rfl, ?_⟩) hH_ ?_
                rotate_left
                · (intro w hSw; (try dsimp only at hSw); (try simp only [hwr1]); go_simp <;> (try simp only [htn]) <;> with_reducible rfl)
                simp only [Act.put, List.setIfInBounds_toArray, List.set_cons_zero, List.set_cons_succ]
                refine wpAnyU_take (i := 5) (v := ?_) rfl (by kernel_rfl) (by kernel_rfl) (by kernel_rfl) (by kernel_rfl) (fun _ _ _ h => h) (Or.inl ⟨by rfl, ?_⟩) hH_ ?_
                rotate_left
                · (intro w hSw; (try dsimp only at hSw); (have kc := (StS.at1 hSw hs2 hu2).2.1; go_simp <;> with_reducible rfl))
                simp only [Act.put, List.setIfInBounds_toArray, List.set_cons_zero, List.set_cons_succ]
                refine wpAnyU_take (i := 6) (v := ?_) rfl (by kernel_rfl) (by kernel_rfl) (by kernel_rfl) (by kernel_rfl) (fun _ _ _ h => h) (Or.inl ⟨by rfl, ?_⟩) hH_ ?_
                rotate_left
                · (intro w hSw; (try dsimp only at hSw); go_simp <;> with_reducible rfl)
                simp only [Act.put, List.setIfInBounds_toArray, List.set_cons_zero, List.set_cons_succ]
                refine wpAnyU_take (i := 7) (v := ?_) rfl (by kernel_rfl) (by kernel_rfl) (by kernel_rfl) (by kernel_rfl) (fun _ _ _ h => h) (Or.inl ⟨by rfl, ?_⟩) hH_ ?_
                rotate_left
                · (intro w hSw; (try dsimp only at hSw); go_simp <;> with_reducible rfl)
                simp only [Act.put, List.setIfInBounds_toArray, List.set_cons_zero, List.set_cons_succ]
                refine wpAnyU_take (i := 8) (v := ?_) rfl (by kernel_rfl) (by kernel_rfl) (by kernel_rfl) (by kernel_rfl) (fun _ _ _ h => h) (Or.inl ⟨by rfl, ?_⟩) hH_ ?_
                rotate_left
                · (intro w hSw; (try dsimp only at hSw); go_simp <;> with_reducible rfl)
                simp only [Act.put, List.setIfInBounds_toArray, List.set_cons_zero, List.set_cons_succ]
                refine wpAnyU_take (i := 9) (v := ?_) rfl (by kernel_rfl) (by kernel_rfl) (by kernel_rfl) (by kernel_rfl) (fun _ _ _ h => h) (Or.inl ⟨by rfl, ?_⟩) hH_ ?_
                rotate_left
                · (intro w hSw; (try dsimp only at hSw); (try simp only [hwr1]); go_simp <;> (try simp only [htn]) <;> with_reducible rfl)
                simp only [Act.put, List.setIfInBounds_toArray, List.set_cons_zero, List.set_cons_succ]
                refine wpAnyU_take (i := 10) (v := ?_) rfl (by kernel_rfl) (by kernel_rfl) (by kernel_rfl) (by kernel_rfl) (fun _ _ _ h => h) (Or.inl ⟨by rfl, ?_⟩) hH_ ?_
                rotate_left
                · (intro w hSw; (try dsimp only at hSw); (have kc := (StS.at1 hSw hs2 hu2).1; rw [← HRB2.out] at kc; go_simp <;> with_reducible rfl))
                simp only [Act.put, List.setIfInBounds_toArray, List.set_cons_zero, List.set_cons_succ]
                refine wpAnyU_one (i := 11) (by kernel_rfl) rfl (fun K hK => ?_)
                go_simp
                have hmc_ := meet_at hH_ hs2 hu2 HNL.out HNOW
                rw [← HRB2.out] at hmc_
                refine hmc_.mono ?_
                rintro e wm ⟨R, A6, c6, rfl, hR1, hR2, hR3, hbm⟩
                clear hmc_
                refine hK.out _ _ ?_ (fun hH1_ => ?_)
                · exact hH_.below hbm
                clear hK K hH_
                have hH_ := hH1_
                clear hH1_
                refine wpAnyU_take (i := 12) (v := ?_) rfl (by kernel_rfl) (by kernel_rfl) (by kernel_rfl) (by kernel_rfl) (fun _ _ _ h => h) (Or.inl ⟨by rfl, ?_⟩) hH_ ?_
                rotate_left
                · (intro w hSw; (try dsimp only at hSw); (try simp only [hwr1]); go_simp <;> (try simp only [htn]) <;> with_reducible rfl)
                simp only [Act.put, List.setIfInBounds_toArray, List.set_cons_zero, List.set_cons_succ]
                refine wpAnyU_one' (i := 13) (by kernel_rfl) rfl (by kernel_rfl) (fun K hK => ?_)
                have kc1 := (StS.at1 hH_ hs2 hu2).2.1
                have kc3 := (StS.at1 hH_ hs2 hu2).2.2.2
                go_simp
                refine hK.out _ _ ?_
                clear hK K
                refine wpAnyU_done (by kernel_rfl) ?_ _
                have HSm := Lib.hid hH_
                have hzm := hbm.size
                have kc0 := (HSm.out.at1 hs2 hu2).1
                have kc2 := (HSm.out.at1 hs2 hu2).2.2.1
                rw [← HRB2.out] at kc0
                have kd0 : ∀ v, (wm.setCell ⟨w0.heap.size, i + 1 + b, none⟩ v).cell? ⟨w0.heap.size + 1, i + 1 + b, none⟩ = some (.bool rb2) := fun v => by
                  rw [World.cell?_setCell_far _ _ _ _ (by simp)]; exact kc0
                have lm1 := HSm.out.kgs.lt
                have lm2 := HSm.out.kgr.lt
                have HBm2 : Hid (Below w.heap.size w wm) := HBn1.out.drew.trans (hbm.mono (by have := HBn1.out.size; simp; omega))
                have HSn2 : Hid (StS ((wm.setCell ⟨w0.heap.size, i + 1 + b, none⟩ (.slice A6 R.length c6)).setCell ⟨w0.heap.size + 1, i + 1 + b, none⟩ (.bool true)) w0.heap.size w0.heap.size (w0.heap.size + 1) (x.Code.length + 1) (reachG meetS S2 (i + 1 + b) (nextS q y)) (us2.set (i + 1 + b) (.slice A6 R.length c6))) := by
                  unfold Hid; rw [hR1.out]; exact HSm.out.put (by omega) hR2.out hR3.out
                have HBn2 : Hid (Below w.heap.size w ((wm.setCell ⟨w0.heap.size, i + 1 + b, none⟩ (.slice A6 R.length c6)).setCell ⟨w0.heap.size + 1, i + 1 + b, none⟩ (.bool true))) := (HBm2.out.setCell (p := ⟨w0.heap.size, i + 1 + b, none⟩) (by dsimp only; omega) _).setCell (p := ⟨w0.heap.size + 1, i + 1 + b, none⟩) (by dsimp only; omega) _
                have HKn2 : Hid (Blk ((wm.setCell ⟨w0.heap.size, i + 1 + b, none⟩ (.slice A6 R.length c6)).setCell ⟨w0.heap.size + 1, i + 1 + b, none⟩ (.bool true)) w.heap.size 29 #[.string x.Name, .slice (some ad) x.Code.length c]) := (((HKn1.out.drew).below hbm).far (p := ⟨w0.heap.size, i + 1 + b, none⟩) (by dsimp only; omega) _).far (p := ⟨w0.heap.size + 1, i + 1 + b, none⟩) (by dsimp only; omega) _
                have HKXn2 : Hid (Blk ((wm.setCell ⟨w0.heap.size, i + 1 + b, none⟩ (.slice A6 R.length c6)).setCell ⟨w0.heap.size + 1, i + 1 + b, none⟩ (.bool true)) wo.heap.size 47 #[.int .i64 y.Op, .int .i64 y.A, .int .i64 y.B, .int .i64 y.C, .int .i64 y.D, .string y.Name]) := (((HKXn1.out.drew).below hbm).far (p := ⟨w0.heap.size, i + 1 + b, none⟩) (by dsimp only; omega) _).far (p := ⟨w0.heap.size + 1, i + 1 + b, none⟩) (by dsimp only; omega) _
                have HOWn2 : Hid (Own ((wm.setCell ⟨w0.heap.size, i + 1 + b, none⟩ (.slice A6 R.length c6)).setCell ⟨w0.heap.size + 1, i + 1 + b, none⟩ (.bool true)) (.s (nextS q y).length ((nextS q y).flatMap eBool)) (.slice (some ⟨g, 0, none⟩) q.length c') fpn) := ((Own.below HOWn1.out (Below.refl _ wz).drew).below hbm).chg (chg_puts wm w0.heap.size (w0.heap.size + 1) (i + 1 + b) _ _) (fun k hk h => by have := HFN.out k hk; rcases h with h | h <;> omega)
                have HF4 : Hid (firstS x.Code = runG badS nextS meetS x.Code.length (x.Code.drop (i + 1)) (i + 1) (reachG meetS S2 (i + 1 + b) (nextS q y))) := by have h := HF3.out e9; rw [HSK.out] at h; exact h
                go_wp2
                go_roundw
                case rel => exact ⟨i + 1, _, _, by omega, by go_num, HSn2, HBn2, HKn2, HF4⟩
                case measure => simp [intOf]; omega
              · skip
                have hin : inR y.B 0 ((x.Code.length : Int) - i - 1) = false := by unfold inR; exact decide_eq_false (by omega)
                have HSK := Lib.hid (skipTo_out hB0)
                rw [hin]
                have h02 : (0 : Int) ≤ (x.Code.length : Int) := by omega
                have h12 : (x.Code.length : Int) < (x.Code.length : Int) + 1 := by omega
                have htn : ((x.Code.length : Int)).toNat = x.Code.length := by omega
                obtain ⟨o2, u2, hs2, hu2, -, -⟩ := HSn1.out.cells (k := x.Code.length) (by omega)
                obtain ⟨rb2, hrb2⟩ : ∃ rb, rb = o2.isSome := ⟨_, rfl⟩
                have HRB2 := Lib.hid hrb2
                clear hrb2
                have hwr1 : (0 : Int) = 0 := rfl
                have HNOW : RdW wz.drew (.s (nextS q y).length ((nextS q y).flatMap eBool)) (.slice (some ⟨g, 0, none⟩) q.length c') := HOWn1.out.rdw.drew
                go_upto_region 27 with fail
                refine wp_region_U (fun wq => StS wq w0.heap.size w0.heap.size (w0.heap.size + 1) (x.Code.length + 1) S2 us2) [0, 1, 2, 3, 4, 5, 6, 7, 8, 9, 10, 11, 12, 13] (by kernel_rfl) ?_
                have hH_ := ((HSn1.out).below (Below.refl _ _).drew : (fun wq => StS wq w0.heap.size w0.heap.size (w0.heap.size + 1) (x.Code.length + 1) S2 us2) (wz).drew)
                refine wpAnyU_take (i := 0) (v := ?_) rfl (by kernel_rfl) (by kernel_rfl) (by kernel_rfl) (by kernel_rfl) (fun _ _ _ h => h) (Or.inl ⟨by rfl, ?_⟩) hH_ ?_
                rotate_left
                · (intro w hSw; (try dsimp only at hSw); go_simp <;> with_reducible rfl)
                simp only [Act.put, List.setIfInBounds_toArray, List.set_cons_zero, List.set_cons_succ]
                refine wpAnyU_take (i := 1) (v := ?_) rfl (by kernel_rfl) (by kernel_rfl) (by kernel_rfl) (by kernel_rfl) (fun _ _ _ h => h) (Or.inl ⟨by rfl, ?_⟩) hH_ ?_
                rotate_left
                · (intro w hSw; (try dsimp only at hSw); go_simp <;> with_reducible rfl)
                simp only [Act.put, List.setIfInBounds_toArray, List.set_cons_zero, List.set_cons_succ]
                refine wpAnyU_take (i := 2) (v := ?_) rfl (by kernel_rfl) (by kernel_rfl) (by kernel_rfl) (by kernel_rfl) (fun _ _ _ h => h) (Or.inl ⟨by rfl, ?_⟩) hH_ ?_
                rotate_left
                · (intro w hSw; (try dsimp only at hSw); go_simp <;> with_reducible rfl)
                simp only [Act.put, List.setIfInBounds_toArray, List.set_cons_zero, List.set_cons_succ]
                refine wpAnyU_take (i := 3) (v := ?_) rfl (by kernel_rfl) (by kernel_rfl) (by kernel_rfl) (by kernel_rfl) (fun _ _ _ h => h) (Or.inl ⟨by rfl, ?_⟩) hH_ ?_
                rotate_left
                · (intro w hSw; (try dsimp only at hSw); go_simp <;> with_reducible rfl)
                simp only [Act.put, List.setIfInBounds_toArray, List.set_cons_zero, List.set_cons_succ]
                refine wpAnyU_take (i := 4) (v := ?_) rfl (by kernel_rfl) (by kernel_rfl) (by kernel_rfl) (by kernel_rfl) (fun _ _ _ h => h) (Or.inl ⟨by rfl, ?_⟩) hH_ ?_
                rotate_left
                · (intro w hSw; (try dsimp only at hSw); (try simp only [hwr1]); go_simp <;> (try simp only [htn]) <;> with_reducible rfl)
                simp only [Act.put, List.setIfInBounds_toArray, List.set_cons_zero, List.set_cons_succ]
                refine wpAnyU_take (i := 5) (v := ?_) rfl (by kernel_rfl) (by kernel_rfl) (by kernel_rfl) (by kernel_rfl) (fun _ _ _ h => h) (Or.inl ⟨by rfl, ?_⟩) hH_ ?_
                rotate_left
                · (intro w hSw; (try dsimp only at hSw); (have kc := (StS.at1 hSw hs2 hu2).2.1; go_simp <;> with_reducible rfl))
                simp only [Act.put, List.setIfInBounds_toArray, List.set_cons_zero, List.set_cons_succ]
                refine wpAnyU_take (i := 6) (v := ?_) rfl (by kernel_rfl) (by kernel_rfl) (by kernel_rfl) (by kernel_rfl) (fun _ _ _ h => h) (Or.inl ⟨by rfl, ?_⟩) hH_ ?_
                rotate_left
                · (intro w hSw; (try dsimp only at hSw); go_simp <;> with_reducible rfl)
                simp only [Act.put, List.setIfInBounds_toArray, List.set_cons_zero, List.set_cons_succ]
                refine wpAnyU_take (i := 7) (v := ?_) rfl (by kernel_rfl) (by kernel_rfl) (by kernel_rfl) (by kernel_rfl) (fun _ _ _ h => h) (Or.inl ⟨by rfl, ?_⟩) hH_ ?_
                rotate_left
                · (intro w hSw; (try dsimp only at hSw); go_simp <;> with_reducible rfl)
                simp only [Act.put, List.setIfInBounds_toArray, List.set_cons_zero, List.set_cons_succ]
                refine wpAnyU_take (i := 8) (v := ?_) rfl (by kernel_rfl) (by kernel_rfl) (by kernel_rfl) (by kernel_rfl) (fun _ _ _ h => h) (Or.inl ⟨by rfl, ?_⟩) hH_ ?_
                rotate_left
                · (intro w hSw; (try dsimp only at hSw); go_simp <;> with_reducible rfl)
                simp only [Act.put, List.setIfInBounds_toArray, List.set_cons_zero, List.set_cons_succ]
                refine wpAnyU_take (i := 9) (v := ?_) rfl (by kernel_rfl) (by kernel_rfl) (by kernel_rfl) (by kernel_rfl) (fun _ _ _ h => h) (Or.inl ⟨by rfl, ?_⟩) hH_ ?_
                rotate_left
                · (intro w hSw; (try dsimp only at hSw); (try simp only [hwr1]); go_simp <;> (try simp only [htn]) <;> with_reducible rfl)
                simp only [Act.put, List.setIfInBounds_toArray, List.set_cons_zero, List.set_cons_succ]
                refine wpAnyU_take (i := 10) (v := ?_) rfl (by kernel_rfl) (by kernel_rfl) (by kernel_rfl) (by kernel_rfl) (fun _ _ _ h => h) (Or.inl ⟨by rfl, ?_⟩) hH_ ?_
                rotate_left
                · (intro w hSw; (try dsimp only at hSw); (have kc := (StS.at1 hSw hs2 hu2).1; rw [← HRB2.out] at kc; go_simp <;> with_reducible rfl))
                simp only [Act.put, List.setIfInBounds_toArray, List.set_cons_zero, List.set_cons_succ]
                refine wpAnyU_one (i := 11) (by kernel_rfl) rfl (fun K hK => ?_)
                go_simp
                have hmc_ := meet_at hH_ hs2 hu2 HNL.out HNOW
                rw [← HRB2.out] at hmc_
                refine hmc_.mono ?_
                rintro e wm ⟨R, A6, c6, rfl, hR1, hR2, hR3, hbm⟩
                clear hmc_
                refine hK.out _ _ ?_ (fun hH1_ => ?_)
                · exact hH_.below hbm
                clear hK K hH_
                have hH_ := hH1_
                clear hH1_
                refine wpAnyU_take (i := 12) (v := ?_) rfl (by kernel_rfl) (by kernel_rfl) (by kernel_rfl) (by kernel_rfl) (fun _ _ _ h => h) (Or.inl ⟨by rfl, ?_⟩) hH_ ?_
                rotate_left
                · (intro w hSw; (try dsimp only at hSw); (try simp only [hwr1]); go_simp <;> (try simp only [htn]) <;> with_reducible rfl)
                simp only [Act.put, List.setIfInBounds_toArray, List.set_cons_zero, List.set_cons_succ]
                refine wpAnyU_one' (i := 13) (by kernel_rfl) rfl (by kernel_rfl) (fun K hK => ?_)
                have kc1 := (StS.at1 hH_ hs2 hu2).2.1
                have kc3 := (StS.at1 hH_ hs2 hu2).2.2.2
                go_simp
                refine hK.out _ _ ?_
                clear hK K
                refine wpAnyU_done (by kernel_rfl) ?_ _
                have HSm := Lib.hid hH_
                have hzm := hbm.size
                have kc0 := (HSm.out.at1 hs2 hu2).1
                have kc2 := (HSm.out.at1 hs2 hu2).2.2.1
                rw [← HRB2.out] at kc0
                have kd0 : ∀ v, (wm.setCell ⟨w0.heap.size, x.Code.length, none⟩ v).cell? ⟨w0.heap.size + 1, x.Code.length, none⟩ = some (.bool rb2) := fun v => by
                  rw [World.cell?_setCell_far _ _ _ _ (by simp)]; exact kc0
                have lm1 := HSm.out.kgs.lt
                have lm2 := HSm.out.kgr.lt
                have HBm2 : Hid (Below w.heap.size w wm) := HBn1.out.drew.trans (hbm.mono (by have := HBn1.out.size; simp; omega))
                have HSn2 : Hid (StS ((wm.setCell ⟨w0.heap.size, x.Code.length, none⟩ (.slice A6 R.length c6)).setCell ⟨w0.heap.size + 1, x.Code.length, none⟩ (.bool true)) w0.heap.size w0.heap.size (w0.heap.size + 1) (x.Code.length + 1) (reachG meetS S2 (x.Code.length) (nextS q y)) (us2.set (x.Code.length) (.slice A6 R.length c6))) := by
                  unfold Hid; rw [hR1.out]; exact HSm.out.put (by omega) hR2.out hR3.out
                have HBn2 : Hid (Below w.heap.size w ((wm.setCell ⟨w0.heap.size, x.Code.length, none⟩ (.slice A6 R.length c6)).setCell ⟨w0.heap.size + 1, x.Code.length, none⟩ (.bool true))) := (HBm2.out.setCell (p := ⟨w0.heap.size, x.Code.length, none⟩) (by dsimp only; omega) _).setCell (p := ⟨w0.heap.size + 1, x.Code.length, none⟩) (by dsimp only; omega) _
                have HKn2 : Hid (Blk ((wm.setCell ⟨w0.heap.size, x.Code.length, none⟩ (.slice A6 R.length c6)).setCell ⟨w0.heap.size + 1, x.Code.length, none⟩ (.bool true)) w.heap.size 29 #[.string x.Name, .slice (some ad) x.Code.length c]) := (((HKn1.out.drew).below hbm).far (p := ⟨w0.heap.size, x.Code.length, none⟩) (by dsimp only; omega) _).far (p := ⟨w0.heap.size + 1, x.Code.length, none⟩) (by dsimp only; omega) _
                have HKXn2 : Hid (Blk ((wm.setCell ⟨w0.heap.size, x.Code.length, none⟩ (.slice A6 R.length c6)).setCell ⟨w0.heap.size + 1, x.Code.length, none⟩ (.bool true)) wo.heap.size 47 #[.int .i64 y.Op, .int .i64 y.A, .int .i64 y.B, .int .i64 y.C, .int .i64 y.D, .string y.Name]) := (((HKXn1.out.drew).below hbm).far (p := ⟨w0.heap.size, x.Code.length, none⟩) (by dsimp only; omega) _).far (p := ⟨w0.heap.size + 1, x.Code.length, none⟩) (by dsimp only; omega) _
                have HOWn2 : Hid (Own ((wm.setCell ⟨w0.heap.size, x.Code.length, none⟩ (.slice A6 R.length c6)).setCell ⟨w0.heap.size + 1, x.Code.length, none⟩ (.bool true)) (.s (nextS q y).length ((nextS q y).flatMap eBool)) (.slice (some ⟨g, 0, none⟩) q.length c') fpn) := ((Own.below HOWn1.out (Below.refl _ wz).drew).below hbm).chg (chg_puts wm w0.heap.size (w0.heap.size + 1) (x.Code.length) _ _) (fun k hk h => by have := HFN.out k hk; rcases h with h | h <;> omega)
                have HF4 : Hid (firstS x.Code = runG badS nextS meetS x.Code.length (x.Code.drop (i + 1)) (i + 1) (reachG meetS S2 (x.Code.length) (nextS q y))) := by have h := HF3.out e9; rw [HSK.out] at h; exact h
                go_wp2
                go_roundw
                case rel => exact ⟨i + 1, _, _, by omega, by go_num, HSn2, HBn2, HKn2, HF4⟩
                case measure => simp [intOf]; omega
    · have : i = x.Code.length := by omega
      subst this
      have HE : Hid (firstS x.Code = -1) := HF.out.trans (runG_end (Nat.le_refl _))
      go_wp2
      go_ret
      exact ⟨by rw [HE.out]; rfl, HB.out⟩

end Go.Proofs.Ytiohoeafdaihpaa
