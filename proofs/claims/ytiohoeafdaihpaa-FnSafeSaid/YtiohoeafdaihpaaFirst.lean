import Derived.Test.YtiohoeafdaihpaaProg
import Derived.Test.YtiohoeafdaihpaaTypes
import Derived.StillTailTactics
import Derived.Deep.CutRange
import Derived.Laws.OwnMore
import Derived.Deep.AppendLies
import Derived.Deep.RegionWith
import Derived.Deep.RegionHeld3
import Derived.Laws.IdiomStrings
import Derived.Test.YtiohoeafdaihpaaAppend
import Derived.Laws.StructEq
import Derived.Lib.SliceRun
import Derived.Shelf.RegionOpenPlain
import Derived.Test.YtiohoeafdaihpaaPureFirst
import Derived.Test.YtiohoeafdaihpaaRegsI
namespace Go.Proofs.Ytiohoeafdaihpaa
open Go.RowKit
set_option linter.unusedVariables false
set_option linter.unusedSimpArgs false

/-- the two rows of the program's walk: which places are met, and what is set there -/
structure StI (w : World) (B bm bs gm gs N : Nat) (S : List (Option (List Int))) (us : List Value) : Prop where
  len : S.length = N
  ulen : us.length = N
  hbm : B ≤ bm
  hbs : B ≤ bs
  hgm : B ≤ gm
  hgs : B ≤ gs
  n1 : bm ≠ gm
  n2 : bm ≠ gs
  n3 : bs ≠ gm
  n4 : bs ≠ gs
  n5 : gm ≠ gs
  kbm : Blk w bm 69 #[.slice (some ⟨gm, 0, none⟩) N N]
  kbs : Blk w bs 70 #[.slice (some ⟨gs, 0, none⟩) N N]
  kgm : Blk w gm 4 (S.map fun o => Value.bool o.isSome).toArray
  kgs : Blk w gs 44 us.toArray
  rd : ∀ (j : Nat) l u, S[j]? = some (some l) → us[j]? = some u → Rd (fun k => k < w.heap.size ∧ k ≠ gm ∧ k ≠ gs) w (.s l.length (l.flatMap eInt)) u
theorem StI.below {w w' : World} {B bm bs gm gs N : Nat} {S : List (Option (List Int))} {us : List Value} (h : StI w B bm bs gm gs N S us) (hb : Below w.heap.size w w') : StI w' B bm bs gm gs N S us :=
  ⟨h.len, h.ulen, h.hbm, h.hbs, h.hgm, h.hgs, h.n1, h.n2, h.n3, h.n4, h.n5, h.kbm.below hb, h.kbs.below hb, h.kgm.below hb, h.kgs.below hb,
    fun j l u hs hu => Rd.mono (fun k hk => ⟨Nat.lt_of_lt_of_le hk.1 hb.size, hk.2⟩) _ _ (Rd.keep (fun k hk => hb.block k hk.1) _ _ (h.rd j l u hs hu))⟩
theorem StI.put {w : World} {B bm bs gm gs N : Nat} {S : List (Option (List Int))} {us : List Value} (h : StI w B bm bs gm gs N S us) {k : Nat} (hk : k < N) {l : List Int} {v : Value}
    (hr : Rd (fun k => k < w.heap.size ∧ k ≠ gm ∧ k ≠ gs) w (.s l.length (l.flatMap eInt)) v) :
    StI ((w.setCell ⟨gm, k, none⟩ (.bool true)).setCell ⟨gs, k, none⟩ v) B bm bs gm gs N (S.set k (some l)) (us.set k v) := by
  have hc : Chg (fun i => i = gm ∨ i = gs) w ((w.setCell ⟨gm, k, none⟩ (.bool true)).setCell ⟨gs, k, none⟩ v) := ((Chg.refl _ w).setCell (p := ⟨gm, k, none⟩) (.inl (.inl rfl)) _).setCell (p := ⟨gs, k, none⟩) (.inl (.inr rfl)) _
  have hrd : ∀ (l : List Int) u, Rd (fun k => k < w.heap.size ∧ k ≠ gm ∧ k ≠ gs) w (.s l.length (l.flatMap eInt)) u → Rd (fun i => i < ((w.setCell ⟨gm, k, none⟩ (.bool true)).setCell ⟨gs, k, none⟩ v).heap.size ∧ i ≠ gm ∧ i ≠ gs) ((w.setCell ⟨gm, k, none⟩ (.bool true)).setCell ⟨gs, k, none⟩ v) (.s l.length (l.flatMap eInt)) u := fun l u hu =>
    Rd.mono (fun i hi => ⟨Nat.lt_of_lt_of_le hi.1 hc.size, hi.2⟩) _ _ (Rd.chg hu hc (fun i hi => hi.1) (fun i hi ht => by rcases ht with rfl | rfl; exact hi.2.1 rfl; exact hi.2.2 rfl))
  refine ⟨by rw [List.length_set]; exact h.len, by rw [List.length_set]; exact h.ulen, h.hbm, h.hbs, h.hgm, h.hgs, h.n1, h.n2, h.n3, h.n4, h.n5, ?_, ?_, ?_, ?_, ?_⟩
  · exact (h.kbm.far h.n1 _).far h.n2 _
  · exact (h.kbs.far h.n3 _).far h.n4 _
  · refine ((h.kgm.set_ k (.bool true)).far h.n5 _).eq ?_
    simp [List.map_set]
  · refine ((h.kgs.far (p := ⟨gm, k, none⟩) (Ne.symm h.n5) _).set_ k v).eq ?_
    simp
  · intro j l' u hs hu
    by_cases hj : k = j
    · subst hj
      rw [List.getElem?_set_self (by rw [h.len]; exact hk)] at hs
      rw [List.getElem?_set_self (by rw [h.ulen]; exact hk)] at hu
      injection hs with hs; injection hs with hs; injection hu with hu
      subst hs; subst hu
      exact hrd _ _ hr
    · rw [List.getElem?_set_ne hj] at hs hu
      exact hrd _ _ (h.rd j l' u hs hu)
theorem chg_put2 (w : World) (gm gs k : Nat) (x y : Value) : Chg (fun i => i = gm ∨ i = gs) w ((w.setCell ⟨gm, k, none⟩ x).setCell ⟨gs, k, none⟩ y) := ((Chg.refl _ w).setCell (p := ⟨gm, k, none⟩) (.inl (.inl rfl)) _).setCell (p := ⟨gs, k, none⟩) (.inl (.inr rfl)) _
theorem StI.drewN {w : World} {B bm bs gm gs N : Nat} {S : List (Option (List Int))} {us : List Value} (h : StI w B bm bs gm gs N S us) (n : Nat) : StI (w.drewN n) B bm bs gm gs N S us := h.below (belowN (Below.refl _ _) n)
theorem StI.drew {w : World} {B bm bs gm gs N : Nat} {S : List (Option (List Int))} {us : List Value} (h : StI w B bm bs gm gs N S us) : StI w.drew B bm bs gm gs N S us := h.below (Below.refl _ _).drew
theorem StI.cells {w : World} {B bm bs gm gs N : Nat} {S : List (Option (List Int))} {us : List Value} (h : StI w B bm bs gm gs N S us) {k : Nat} (hk : k < N) :
    ∃ o u, S[k]? = some o ∧ us[k]? = some u ∧ w.cell? ⟨gm, k, none⟩ = some (.bool o.isSome) ∧ w.cell? ⟨gs, k, none⟩ = some u := by
  have h1 : k < S.length := by rw [h.len]; exact hk
  have h2 : k < us.length := by rw [h.ulen]; exact hk
  refine ⟨S[k], us[k], List.getElem?_eq_getElem h1, List.getElem?_eq_getElem h2, ?_, ?_⟩
  · rw [h.kgm.cell k]; simp [List.getElem?_eq_getElem h1]
  · rw [h.kgs.cell k]; simp [List.getElem?_eq_getElem h2]
set_option maxHeartbeats 6400000 in
set_option maxRecDepth 100000 in
theorem impl_FirstUnset1_calls (B bm bs gm gs N at_ : Nat) (S : List (Option (List Int))) (us : List Value) (r : List Int) (v : Value) (w : World) (hS : StI w B bm bs gm gs N S us) (hat : at_ < N) (hN : N ≤ 1048577) (hl : ∀ (j : Nat) l, S[j]? = some (some l) → l.length ≤ 1048576)
    (hr : Rd (fun k => k < w.heap.size ∧ k ≠ gm ∧ k ≠ gs) w (.s r.length (r.flatMap eInt)) v) :
    Calls Try.prog 43 #[.int .i64 at_, v, .pointer (some ⟨bm, 0, none⟩), .pointer (some ⟨bs, 0, none⟩)] w fun e w' => e = .returned (.tuple #[]) ∧ ∃ us', StI w' B bm bs gm gs N (reachG meetI S at_ r) us' ∧ Chg (fun k => k = gm ∨ k = gs) w w' := by
  obtain ⟨o, u, hso, huo, cm, cs⟩ := hS.cells hat
  have HS := Lib.hid hS
  have HR := Lib.hid hr
  have HL := Lib.hid hl
  obtain ⟨A0, c0, rfl, _⟩ := RdW.slice (Rd.mono (fun k hk => hk.1) _ _ hr)
  obtain ⟨k1, f1⟩ := hS.kbm.rules
  obtain ⟨k2, f2⟩ := hS.kbs.rules
  have l1 := hS.kbm.lt
  have l2 := hS.kbs.lt
  have l3 := hS.kgm.lt
  have l4 := hS.kgs.lt
  have fm := hS.kgm.frozen at_
  have fs := hS.kgs.frozen at_
  clear hS hr hl
  cases o with
  | none =>
    have hcs : ∀ z, (w.setCell ⟨gm, at_, none⟩ z).cell? ⟨gs, at_, none⟩ = some u := fun z => by rw [World.cell?_setCell_far _ _ _ _ HS.out.n5]; exact cs
    have HE := Lib.hid (reachG_none (meet := meetI) (r := r) hso)
    clear hso
    simp only [Option.isSome_none] at cm
    go_enter Try.func43, Try.ntmps43
    go_wp2
    refine wp_region_U (fun wq => Blk wq bm 69 #[.slice (some ⟨gm, 0, none⟩) N N] ∧ Blk wq bs 70 #[.slice (some ⟨gs, 0, none⟩) N N]) [8] (by kernel_rfl) ?_
    have hH_ := (⟨HS.out.kbm.drew, HS.out.kbs.drew⟩ : (fun wq => Blk wq bm 69 #[.slice (some ⟨gm, 0, none⟩) N N] ∧ Blk wq bs 70 #[.slice (some ⟨gs, 0, none⟩) N N]) w.drew)
    refine wpAnyU_take (i := 0) (v := ?_) rfl (by kernel_rfl) (by kernel_rfl) (by kernel_rfl) (by kernel_rfl) (fun _ _ _ h => h) (Or.inl ⟨by rfl, ?_⟩) hH_ ?_
    rotate_left
    · (intro w hSw; (try dsimp only at hSw); (obtain ⟨ha0, ha1⟩ := hSw; obtain ⟨kc0, kf0⟩ := ha0.rules; obtain ⟨kc1, kf1⟩ := ha1.rules; go_simp <;> with_reducible rfl))
    simp only [Act.put, List.setIfInBounds_toArray, List.set_cons_zero, List.set_cons_succ]
    refine wpAnyU_take (i := 1) (v := ?_) rfl (by kernel_rfl) (by kernel_rfl) (by kernel_rfl) (by kernel_rfl) (fun _ _ _ h => h) (Or.inl ⟨by rfl, ?_⟩) hH_ ?_
    rotate_left
    · (intro w hSw; (try dsimp only at hSw); go_simp <;> with_reducible rfl)
    simp only [Act.put, List.setIfInBounds_toArray, List.set_cons_zero, List.set_cons_succ]
    refine wpAnyU_take (i := 2) (v := ?_) rfl (by kernel_rfl) (by kernel_rfl) (by kernel_rfl) (by kernel_rfl) (fun _ _ _ h => h) (Or.inl ⟨by rfl, ?_⟩) hH_ ?_
    rotate_left
    · (intro w hSw; (try dsimp only at hSw); (obtain ⟨ha0, ha1⟩ := hSw; obtain ⟨kc0, kf0⟩ := ha0.rules; obtain ⟨kc1, kf1⟩ := ha1.rules; go_simp <;> with_reducible rfl))
    simp only [Act.put, List.setIfInBounds_toArray, List.set_cons_zero, List.set_cons_succ]
    refine wpAnyU_take (i := 3) (v := ?_) rfl (by kernel_rfl) (by kernel_rfl) (by kernel_rfl) (by kernel_rfl) (fun _ _ _ h => h) (Or.inl ⟨by rfl, ?_⟩) hH_ ?_
    rotate_left
    · (intro w hSw; (try dsimp only at hSw); go_simp <;> with_reducible rfl)
    simp only [Act.put, List.setIfInBounds_toArray, List.set_cons_zero, List.set_cons_succ]
    refine wpAnyU_take (i := 4) (v := ?_) rfl (by kernel_rfl) (by kernel_rfl) (by kernel_rfl) (by kernel_rfl) (fun _ _ _ h => h) (Or.inl ⟨by rfl, ?_⟩) hH_ ?_
    rotate_left
    · (intro w hSw; (try dsimp only at hSw); go_simp <;> with_reducible rfl)
    simp only [Act.put, List.setIfInBounds_toArray, List.set_cons_zero, List.set_cons_succ]
    refine wpAnyU_take (i := 5) (v := ?_) rfl (by kernel_rfl) (by kernel_rfl) (by kernel_rfl) (by kernel_rfl) (fun _ _ _ h => h) (Or.inl ⟨by rfl, ?_⟩) hH_ ?_
    rotate_left
    · (intro w hSw; (try dsimp only at hSw); go_simp <;> with_reducible rfl)
    simp only [Act.put, List.setIfInBounds_toArray, List.set_cons_zero, List.set_cons_succ]
    refine wpAnyU_one (i := 6) (by kernel_rfl) rfl (fun K hK => ?_)
    go_simp
    refine hK.out _ _ ?_ (fun hH1_ => ?_)
    · exact ⟨hH_.1.far HS.out.n1 _, hH_.2.far HS.out.n3 _⟩
    clear hK K hH_
    have hH_ := hH1_
    clear hH1_
    refine wpAnyU_take (i := 7) (v := ?_) rfl (by kernel_rfl) (by kernel_rfl) (by kernel_rfl) (by kernel_rfl) (fun _ _ _ h => h) (Or.inl ⟨by rfl, ?_⟩) hH_ ?_
    rotate_left
    · (intro w hSw; (try dsimp only at hSw); go_simp <;> with_reducible rfl)
    simp only [Act.put, List.setIfInBounds_toArray, List.set_cons_zero, List.set_cons_succ]
    refine wpAnyU_one' (i := 8) (by kernel_rfl) rfl (by kernel_rfl) (fun K hK => ?_)
    go_simp
    refine hK.out _ _ ?_
    clear hK K
    refine wpAnyU_done (by kernel_rfl) ?_ _
    refine bodyPost_end (v := .tuple #[]) (by simp [results, Try.results43, go_sem]) rfl ⟨rfl, ?_⟩
    exact ⟨_, by rw [HE.out]; exact (HS.out.put hat HR.out).drew, (chg_put2 w gm gs at_ _ _).drew⟩
  | some q =>
    have HE := Lib.hid (reachG_some (meet := meetI) (r := r) hso)
    have hu := HS.out.rd at_ q u hso huo
    obtain ⟨A1, c1, rfl, _⟩ := RdW.slice (Rd.mono (fun k hk => hk.1) _ _ hu)
    have hq := HL.out at_ q hso
    have HC := Lib.hid (impl_shared_calls _ _ q r w (Rd.mono (fun k hk => hk.1) _ _ hu) (Rd.mono (fun k hk => hk.1) _ _ HR.out) hq)
    clear hso huo hu
    simp only [Option.isSome_some] at cm
    go_enter Try.func43, Try.ntmps43
    go_wp2_with fail
    refine HC.out.mono ?_
    rintro e w1 ⟨u1, fp, rfl, ho1, hf1, hb1⟩
    obtain ⟨A2, c2, rfl, _⟩ := ho1.slice
    have HS1 := Lib.hid (HS.out.below hb1)
    have HB1 := Lib.hid hb1
    have HR1 : Hid (Rd (fun k => k < w1.heap.size ∧ k ≠ gm ∧ k ≠ gs) w1 (.s (meetI q r).length ((meetI q r).flatMap eInt)) (.slice A2 (meetI q r).length c2)) :=
      Rd.mono (fun k hk => ⟨Own.lt _ _ _ ho1 k hk, fun e => by have := hf1 k hk; omega, fun e => by have := hf1 k hk; omega⟩) _ _ ho1.rd
    obtain ⟨o', u', hso', huo', cm', cs'⟩ := HS1.out.cells hat
    clear cm cs k1 k2 f1 f2 fm fs l1 l2 l3 l4 hf1 ho1 hb1 hso' huo'
    obtain ⟨k1, f1⟩ := HS1.out.kbm.rules
    obtain ⟨k2, f2⟩ := HS1.out.kbs.rules
    have l1 := HS1.out.kbm.lt
    have l2 := HS1.out.kbs.lt
    have l3 := HS1.out.kgm.lt
    have l4 := HS1.out.kgs.lt
    have fm := HS1.out.kgm.frozen at_
    have fs := HS1.out.kgs.frozen at_
    have hcs : ∀ z, (w1.setCell ⟨gm, at_, none⟩ z).cell? ⟨gs, at_, none⟩ = some u' := fun z => by rw [World.cell?_setCell_far _ _ _ _ HS1.out.n5]; exact cs'
    go_wp2
    refine wp_region_U (fun wq => Blk wq bm 69 #[.slice (some ⟨gm, 0, none⟩) N N] ∧ Blk wq bs 70 #[.slice (some ⟨gs, 0, none⟩) N N]) [8] (by kernel_rfl) ?_
    have hH_ := (⟨HS1.out.kbm.drew, HS1.out.kbs.drew⟩ : (fun wq => Blk wq bm 69 #[.slice (some ⟨gm, 0, none⟩) N N] ∧ Blk wq bs 70 #[.slice (some ⟨gs, 0, none⟩) N N]) w1.drew)
    refine wpAnyU_take (i := 0) (v := ?_) rfl (by kernel_rfl) (by kernel_rfl) (by kernel_rfl) (by kernel_rfl) (fun _ _ _ h => h) (Or.inl ⟨by rfl, ?_⟩) hH_ ?_
    rotate_left
    · (intro w hSw; (try dsimp only at hSw); (obtain ⟨ha0, ha1⟩ := hSw; obtain ⟨kc0, kf0⟩ := ha0.rules; obtain ⟨kc1, kf1⟩ := ha1.rules; go_simp <;> with_reducible rfl))
    simp only [Act.put, List.setIfInBounds_toArray, List.set_cons_zero, List.set_cons_succ]
    refine wpAnyU_take (i := 1) (v := ?_) rfl (by kernel_rfl) (by kernel_rfl) (by kernel_rfl) (by kernel_rfl) (fun _ _ _ h => h) (Or.inl ⟨by rfl, ?_⟩) hH_ ?_
    rotate_left
    · (intro w hSw; (try dsimp only at hSw); go_simp <;> with_reducible rfl)
    simp only [Act.put, List.setIfInBounds_toArray, List.set_cons_zero, List.set_cons_succ]
    refine wpAnyU_take (i := 2) (v := ?_) rfl (by kernel_rfl) (by kernel_rfl) (by kernel_rfl) (by kernel_rfl) (fun _ _ _ h => h) (Or.inl ⟨by rfl, ?_⟩) hH_ ?_
    rotate_left
    · (intro w hSw; (try dsimp only at hSw); (obtain ⟨ha0, ha1⟩ := hSw; obtain ⟨kc0, kf0⟩ := ha0.rules; obtain ⟨kc1, kf1⟩ := ha1.rules; go_simp <;> with_reducible rfl))
    simp only [Act.put, List.setIfInBounds_toArray, List.set_cons_zero, List.set_cons_succ]
    refine wpAnyU_take (i := 3) (v := ?_) rfl (by kernel_rfl) (by kernel_rfl) (by kernel_rfl) (by kernel_rfl) (fun _ _ _ h => h) (Or.inl ⟨by rfl, ?_⟩) hH_ ?_
    rotate_left
    · (intro w hSw; (try dsimp only at hSw); go_simp <;> with_reducible rfl)
    simp only [Act.put, List.setIfInBounds_toArray, List.set_cons_zero, List.set_cons_succ]
    refine wpAnyU_take (i := 4) (v := ?_) rfl (by kernel_rfl) (by kernel_rfl) (by kernel_rfl) (by kernel_rfl) (fun _ _ _ h => h) (Or.inl ⟨by rfl, ?_⟩) hH_ ?_
    rotate_left
    · (intro w hSw; (try dsimp only at hSw); go_simp <;> with_reducible rfl)
    simp only [Act.put, List.setIfInBounds_toArray, List.set_cons_zero, List.set_cons_succ]
    refine wpAnyU_take (i := 5) (v := ?_) rfl (by kernel_rfl) (by kernel_rfl) (by kernel_rfl) (by kernel_rfl) (fun _ _ _ h => h) (Or.inl ⟨by rfl, ?_⟩) hH_ ?_
    rotate_left
    · (intro w hSw; (try dsimp only at hSw); go_simp <;> with_reducible rfl)
    simp only [Act.put, List.setIfInBounds_toArray, List.set_cons_zero, List.set_cons_succ]
    refine wpAnyU_one (i := 6) (by kernel_rfl) rfl (fun K hK => ?_)
    go_simp
    refine hK.out _ _ ?_ (fun hH1_ => ?_)
    · exact ⟨hH_.1.far HS1.out.n1 _, hH_.2.far HS1.out.n3 _⟩
    clear hK K hH_
    have hH_ := hH1_
    clear hH1_
    refine wpAnyU_take (i := 7) (v := ?_) rfl (by kernel_rfl) (by kernel_rfl) (by kernel_rfl) (by kernel_rfl) (fun _ _ _ h => h) (Or.inl ⟨by rfl, ?_⟩) hH_ ?_
    rotate_left
    · (intro w hSw; (try dsimp only at hSw); go_simp <;> with_reducible rfl)
    simp only [Act.put, List.setIfInBounds_toArray, List.set_cons_zero, List.set_cons_succ]
    refine wpAnyU_one' (i := 8) (by kernel_rfl) rfl (by kernel_rfl) (fun K hK => ?_)
    go_simp
    refine hK.out _ _ ?_
    clear hK K
    refine wpAnyU_done (by kernel_rfl) ?_ _
    refine bodyPost_end (v := .tuple #[]) (by simp [results, Try.results43, go_sem]) rfl ⟨rfl, ?_⟩
    exact ⟨_, by rw [HE.out]; exact (HS1.out.put hat HR1.out).drew, (Chg.of_below HB1.out _).trans (chg_put2 w1 gm gs at_ _ _).drew⟩

end Go.Proofs.Ytiohoeafdaihpaa
