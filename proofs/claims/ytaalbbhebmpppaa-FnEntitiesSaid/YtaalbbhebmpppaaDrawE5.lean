import Derived.Deep.CutRange
import Derived.Test.YtaalbbhebmpppaaProg
import Derived.Test.YtaalbbhebmpppaaTypes
import Derived.StillTailTactics
import Derived.Deep.CutBlock
import Derived.Deep.CutRange
import Derived.Laws.OwnMore
import Derived.Deep.AppendLies
import Derived.Deep.RegionWith
import Derived.Deep.RegionHeld3
import Derived.Laws.IdiomStrings
import Derived.Test.YtaalbbhebmpppaaAppend
import Derived.Laws.StructEq
import Derived.Lib.SliceRun
import Derived.Shelf.RegionOpenPlain
import Derived.Test.YtaalbbhebmpppaaDrawE4
namespace Go.Proofs.Ytaalbbhebmpppaa
open Go.RowKit
set_option linter.unusedVariables false
set_option linter.unusedSimpArgs false

set_option maxHeartbeats 400000 in
theorem spec_NewPromise_lit (w : World) :
    Calls Try.prog 71 #[] w fun e w' => e = .returned (.agg #[.int .i64 2, .int .i64 0, .slice none 0 0, .int .i64 1, .int .i64 0, .int .i64 0, .slice none 0 0, .slice none 0 0, .int .i64 0, .int .i64 0, .int .i64 0, .int .i64 0]) ∧ Below w.heap.size w w' := by
  go_enter Try.func71, Try.ntmps71
  go_wp2
  refine bodyPost_ret (v := .agg #[.int .i64 2, .int .i64 0, .slice none 0 0, .int .i64 1, .int .i64 0, .int .i64 0, .slice none 0 0, .slice none 0 0, .int .i64 0, .int .i64 0, .int .i64 0, .int .i64 0]) (by simp [results, Try.results71, go_sem]) rfl ⟨rfl, ?_⟩
  exact (Below.refl _ _).alloc (Nat.le_refl _) _
set_option maxHeartbeats 400000 in
theorem spec_NewProxy_lit (a b : Int) (w : World) :
    Calls Try.prog 70 #[.int .i64 a, .int .i64 b] w fun e w' => e = .returned (.agg #[.int .i64 3, .int .i64 0, .slice none 0 0, .int .i64 0, .int .i64 0, .int .i64 0, .slice none 0 0, .slice none 0 0, .int .i64 a, .int .i64 b, .int .i64 1, .int .i64 0]) ∧ Below w.heap.size w w' := by
  go_enter Try.func70, Try.ntmps70
  go_wp2
  refine bodyPost_ret (v := .agg #[.int .i64 3, .int .i64 0, .slice none 0 0, .int .i64 0, .int .i64 0, .int .i64 0, .slice none 0 0, .slice none 0 0, .int .i64 a, .int .i64 b, .int .i64 1, .int .i64 0]) (by simp [results, Try.results70, go_sem]) rfl ⟨rfl, ?_⟩
  exact (Below.refl _ _).alloc (Nat.le_refl _) _
set_option maxHeartbeats 1600000 in
set_option maxRecDepth 100000 in
theorem spec_NewObject_lit (s : Int) (v : Value) (xs : List GValue) (w : World) (hr : RdW w (.s xs.length (xs.flatMap eValue)) v) (hz : xs.length + sizL (xs.flatMap eValue) ≤ 1048576) (hi : I64 s) :
    Calls Try.prog 69 #[.int .i64 s, v] w fun e w' => ∃ A' c', e = .returned (.agg #[.int .i64 1, .int .i64 s, .slice A' xs.length c', .int .i64 0, .int .i64 0, .int .i64 0, .slice none 0 0, .slice none 0 0, .int .i64 0, .int .i64 0, .int .i64 0, .int .i64 0]) ∧ w'.ownsRow (w.heap.size + 1) 33 2 (.slice A' xs.length c') xs.length (xs.flatMap vsValue) ∧ Below w.heap.size w w' := by
  obtain ⟨A, c, rfl, ⟨_, _, hl⟩⟩ := hr.slice
  have HR := Lib.hid hr
  clear hr
  have hz1 : xs.length ≤ 1048576 := by omega
  go_enter Try.func69, Try.ntmps69
  go_wp2_with (at_builtin; refine wpList_copy_rd rfl _ _ 32 rfl (w.heap.size + 1) 33 _ _ 2 16 Try.underlying32 rfl rfl rfl rfl rfl (by omega) _ rfl (ownsRow_made' (by simp) (by simp)) vals_eValue xs (one_eValue xs) (lenv_eValue xs) _ _ rfl ((HR.out.alloc _).alloc _) (by omega) (by omega) (by simp) ?_)
  intro A' c' w1 hown hgrow
  have HK := Lib.hid (((Blk.new w 37 #[.int .i64 0, .int .i64 0, .slice none 0 0, .int .i64 0, .int .i64 0, .int .i64 0, .slice none 0 0, .slice none 0 0, .int .i64 0, .int .i64 0, .int .i64 0, .int .i64 0]).alloc _).chg (grown_chg hgrow) (by simp [Value.ownBlock]))
  have HB := Lib.hid ((((Below.refl w.heap.size w).alloc (Nat.le_refl _) _).alloc (by simp) _).trans (grown_below hgrow (by simp; omega) (by intro k hk; simp [Value.ownBlock] at hk; omega)))
  have HO := Lib.hid hown
  obtain ⟨k0, k1⟩ := HK.out.rules
  have kl := HK.out.lt
  clear hown hgrow
  go_wp2
  refine post_cell (w0 := w1) (fun g => g = w.heap.size) Try.results69 w.heap.size #[.int .i64 1, .int .i64 s, .slice A' xs.length c', .int .i64 0, .int .i64 0, .int .i64 0, .slice none 0 0, .slice none 0 0, .int .i64 0, .int .i64 0, .int .i64 0, .int .i64 0] _ rfl (Blk.eq ((((((((((((HK.out.set_ 0 _).set_ 1 _).set_ 2 _).set_ 3 _).set_ 4 _).set_ 5 _).set_ 6 _).set_ 7 _).set_ 8 _).set_ 9 _).set_ 10 _).set_ 11 _) (by simp)) Try.underlying37 rfl (by kernel_rfl) rfl (((((((((((((Chg.refl (· = w.heap.size) _).setCell (p := ⟨w.heap.size, 0, none⟩) (.inl rfl) _).setCell (p := ⟨w.heap.size, 1, none⟩) (.inl rfl) _).setCell (p := ⟨w.heap.size, 2, none⟩) (.inl rfl) _).setCell (p := ⟨w.heap.size, 3, none⟩) (.inl rfl) _).setCell (p := ⟨w.heap.size, 4, none⟩) (.inl rfl) _).setCell (p := ⟨w.heap.size, 5, none⟩) (.inl rfl) _).setCell (p := ⟨w.heap.size, 6, none⟩) (.inl rfl) _).setCell (p := ⟨w.heap.size, 7, none⟩) (.inl rfl) _).setCell (p := ⟨w.heap.size, 8, none⟩) (.inl rfl) _).setCell (p := ⟨w.heap.size, 9, none⟩) (.inl rfl) _).setCell (p := ⟨w.heap.size, 10, none⟩) (.inl rfl) _).setCell (p := ⟨w.heap.size, 11, none⟩) (.inl rfl) _) ?_
  intro W hW
  exact ⟨A', c', rfl, ownsRow_keep HO.out hW (fun k hk e => by have := (HO.out.lt k hk).1; omega), below_chg HB.out hW HB.out.size (fun i hi => by omega)⟩

/-- the lists of an entity, in blocks of their own from L on -/
def EntS (L : Nat) (w : World) (sl : List GValue) (qu : List GSent) (ak : List GAsker) (v2 v6 v7 : Value) : Prop :=
  ∃ f2 f6 f7, Own w (.s sl.length (sl.flatMap eValue)) v2 f2 ∧ Own w (.s qu.length (qu.flatMap eSent)) v6 f6 ∧ Own w (.s ak.length (ak.flatMap eAsker)) v7 f7 ∧ ∀ k, k ∈ f2 ++ (f6 ++ f7) → L ≤ k
theorem EntS.chg {L : Nat} {w w' : World} {sl : List GValue} {qu : List GSent} {ak : List GAsker} {v2 v6 v7 : Value} {T : Nat → Prop} (h : EntS L w sl qu ak v2 v6 v7) (hc : Chg T w w') (hT : ∀ k, T k → k < L) : EntS L w' sl qu ak v2 v6 v7 := by
  obtain ⟨f2, f6, f7, h2, h6, h7, hf⟩ := h
  exact ⟨f2, f6, f7, h2.chg hc (fun k hk ht => by have := hT k ht; have := hf k (by simp [hk]); omega), h6.chg hc (fun k hk ht => by have := hT k ht; have := hf k (by simp [hk]); omega), h7.chg hc (fun k hk ht => by have := hT k ht; have := hf k (by simp [hk]); omega), hf⟩
theorem EntS.below {L : Nat} {w w' : World} {sl : List GValue} {qu : List GSent} {ak : List GAsker} {v2 v6 v7 : Value} (h : EntS L w sl qu ak v2 v6 v7) (hb : Below w.heap.size w w') : EntS L w' sl qu ak v2 v6 v7 := by
  obtain ⟨f2, f6, f7, h2, h6, h7, hf⟩ := h
  exact ⟨f2, f6, f7, h2.below hb, h6.below hb, h7.below hb, hf⟩
theorem EntS.alloc {L : Nat} {w : World} {sl : List GValue} {qu : List GSent} {ak : List GAsker} {v2 v6 v7 : Value} (h : EntS L w sl qu ak v2 v6 v7) (o : Obj) : EntS L (w.alloc o) sl qu ak v2 v6 v7 := h.below ((Below.refl _ _).alloc (Nat.le_refl _) o)
theorem entS_nil (L : Nat) (w : World) : EntS L w [] [] [] (.slice none 0 0) (.slice none 0 0) (.slice none 0 0) := ⟨[], [], [], own_none _, own_none _, own_none _, by simp⟩
theorem sizV (xs : List GValue) : sizL (xs.flatMap eValue) = 0 := by
  induction xs with
  | nil => exact sizL_nil
  | cons x xs ih => rw [List.flatMap_cons, sizL_append, ih, siz_eValue]
def SmallE (x : GEntity) : Prop := x.Slots.length ≤ 3 ∧ x.Queue.length ≤ 1 ∧ x.Askers.length ≤ 1 ∧ ∀ s, s ∈ x.Queue → s.Args.length ≤ 2 ∧ s.Name.size ≤ 4
theorem smallE_nil {x : GEntity} (h2 : x.Slots = []) (h6 : x.Queue = []) (h7 : x.Askers = []) : SmallE x := by unfold SmallE; rw [h2, h6, h7]; simp
/-- the cells of an entity -/
def entC (x : GEntity) (v2 v6 v7 : Value) : Array Value := #[.int .i64 x.Kind, .int .i64 x.Script, v2, .int .i64 x.State, .int .i64 x.Value.Kind, .int .i64 x.Value.N, v6, v7, .int .i64 x.Peer, .int .i64 x.Pos, .int .i64 x.Count, .int .i64 x.Sent]
set_option maxHeartbeats 25600000 in
set_option maxRecDepth 100000 in
theorem spec_l9Any_calls (W0 : World) (g : Nat) (w : World) (hC : Cur W0 g w) :
    Calls Try.prog 46 #[.pointer (some ⟨g, 0, none⟩)] w fun e w' => ∃ (x : GEntity) (v2 v6 v7 : Value), e = .returned (.agg (entC x v2 v6 v7)) ∧ EntS (w.heap.size + 2) w' x.Slots x.Queue x.Askers v2 v6 v7 ∧ SmallE x ∧ Cur W0 g w' ∧ Chg (· = g) w w' := by
  have hlt := hC.lt
  have hge := hC.ge
  have hW0 := hC.base.size
  have HC := Lib.hid ((hC.below ((Below.refl w.heap.size w).alloc (Nat.le_refl _) (.cells #[.int .i64 0, .int .i64 0, .slice none 0 0, .int .i64 0, .int .i64 0, .int .i64 0, .slice none 0 0, .slice none 0 0, .int .i64 0, .int .i64 0, .int .i64 0, .int .i64 0] 37))).below ((Below.refl _ _).alloc (Nat.le_refl _) (.cells #[.int .i64 0, .int .i64 0, .slice none 0 0, .int .i64 0, .int .i64 0, .int .i64 0, .slice none 0 0, .slice none 0 0, .int .i64 0, .int .i64 0, .int .i64 0, .int .i64 0] 37)))
  have HKR := Lib.hid ((Blk.new w 37 #[.int .i64 0, .int .i64 0, .slice none 0 0, .int .i64 0, .int .i64 0, .int .i64 0, .slice none 0 0, .slice none 0 0, .int .i64 0, .int .i64 0, .int .i64 0, .int .i64 0]).alloc (.cells #[.int .i64 0, .int .i64 0, .slice none 0 0, .int .i64 0, .int .i64 0, .int .i64 0, .slice none 0 0, .slice none 0 0, .int .i64 0, .int .i64 0, .int .i64 0, .int .i64 0] 37))
  have HKM : Hid (Blk ((w.alloc (.cells #[.int .i64 0, .int .i64 0, .slice none 0 0, .int .i64 0, .int .i64 0, .int .i64 0, .slice none 0 0, .slice none 0 0, .int .i64 0, .int .i64 0, .int .i64 0, .int .i64 0] 37)).alloc (.cells #[.int .i64 0, .int .i64 0, .slice none 0 0, .int .i64 0, .int .i64 0, .int .i64 0, .slice none 0 0, .slice none 0 0, .int .i64 0, .int .i64 0, .int .i64 0, .int .i64 0] 37)) (w.heap.size + 1) 37 #[.int .i64 0, .int .i64 0, .slice none 0 0, .int .i64 0, .int .i64 0, .int .i64 0, .slice none 0 0, .slice none 0 0, .int .i64 0, .int .i64 0, .int .i64 0, .int .i64 0]) := Blk.made (by simp)
  have HG := Lib.hid (((Chg.refl (· = g) w).alloc (.cells #[.int .i64 0, .int .i64 0, .slice none 0 0, .int .i64 0, .int .i64 0, .int .i64 0, .slice none 0 0, .slice none 0 0, .int .i64 0, .int .i64 0, .int .i64 0, .int .i64 0] 37)).alloc (.cells #[.int .i64 0, .int .i64 0, .slice none 0 0, .int .i64 0, .int .i64 0, .int .i64 0, .slice none 0 0, .slice none 0 0, .int .i64 0, .int .i64 0, .int .i64 0, .int .i64 0] 37))
  have HE := Lib.hid (entS_nil (w.heap.size + 2) ((w.alloc (.cells #[.int .i64 0, .int .i64 0, .slice none 0 0, .int .i64 0, .int .i64 0, .int .i64 0, .slice none 0 0, .slice none 0 0, .int .i64 0, .int .i64 0, .int .i64 0, .int .i64 0] 37)).alloc (.cells #[.int .i64 0, .int .i64 0, .slice none 0 0, .int .i64 0, .int .i64 0, .int .i64 0, .slice none 0 0, .slice none 0 0, .int .i64 0, .int .i64 0, .int .i64 0, .int .i64 0] 37)))
  clear hC
  have HGN : Hid (∀ (W : World) (A : Addr) (n : Nat) (c n' c' : Nat), g < W.heap.size → Value.slice (some ⟨W.heap.size, 0, none⟩) n' c' = .slice (some A) n c → A.block ≠ g) := by
    intro W A n c n' c' hW h; injection h with h; injection h with h; subst h; exact Nat.ne_of_gt hW
  go_enter Try.func46, Try.ntmps46
  go_wp2_with fail
  refine (spec_l1Below_calls W0 g _ _ HC.out).mono ?_
  rintro e w1 ⟨r, hr0, hr1, rfl, hc_, hg_⟩
  have hs_1 := hg_.size
  (try simp only [size_alloc] at hs_1)
  have HCn := Lib.hid (hc_)
  clear HC
  have HC := HCn
  clear HCn
  replace HKR := Lib.hid ((HKR.out).chg hg_ (by omega))
  replace HKM := Lib.hid ((HKM.out).chg hg_ (by omega))
  replace HG := Lib.hid ((HG.out).trans hg_)
  replace HE := Lib.hid ((HE.out).chg hg_ (by rintro _ rfl; omega))
  clear hc_ hg_
  (try clear k_HKR f_HKR k_HKM f_HKM)
  obtain ⟨k_HKR, f_HKR⟩ := HKR.out.rules
  have l_HKR := HKR.out.lt
  obtain ⟨k_HKM, f_HKM⟩ := HKM.out.rules
  have l_HKM := HKM.out.lt
  replace hr1 := hr1 (by omega)
  go_upto_block 0 with fail
  go_cut [] from 6 to 69 (fun wx => ∃ (x : GEntity) (v2 v6 v7 : Value), Blk wx (w.heap.size + 1) 37 (entC x v2 v6 v7) ∧ Blk wx w.heap.size 37 #[.int .i64 0, .int .i64 0, .slice none 0 0, .int .i64 0, .int .i64 0, .int .i64 0, .slice none 0 0, .slice none 0 0, .int .i64 0, .int .i64 0, .int .i64 0, .int .i64 0] ∧ EntS (w.heap.size + 2) wx x.Slots x.Queue x.Askers v2 v6 v7 ∧ SmallE x ∧ Cur W0 g wx ∧ Chg (· = g) w wx)
  case first =>
    by_cases r0 : r = 0
    · skip
      go_wp2_with fail
      refine (spec_l1Below_calls W0 g _ _ HC.out).mono ?_
      rintro e w2 ⟨s, hs0, hs1, rfl, hc_, hg_⟩
      have hs_2 := hg_.size
      (try simp only [size_alloc] at hs_2)
      have HCn := Lib.hid (hc_)
      clear HC
      have HC := HCn
      clear HCn
      replace HKR := Lib.hid ((HKR.out).chg hg_ (by omega))
      replace HKM := Lib.hid ((HKM.out).chg hg_ (by omega))
      replace HG := Lib.hid ((HG.out).trans hg_)
      replace HE := Lib.hid ((HE.out).chg hg_ (by rintro _ rfl; omega))
      clear hc_ hg_
      (try clear k_HKR f_HKR k_HKM f_HKM)
      obtain ⟨k_HKR, f_HKR⟩ := HKR.out.rules
      have l_HKR := HKR.out.lt
      obtain ⟨k_HKM, f_HKM⟩ := HKM.out.rules
      have l_HKM := HKM.out.lt
      replace hs1 := hs1 (by omega)
      go_wp2_with fail
      refine (spec_l4List_calls W0 g _ HC.out).mono ?_
      rintro e w3 ⟨xs, A, c, rfl, hxl, hox, hc_, hg_⟩
      have hs_3 := hg_.size
      have HCn := Lib.hid (hc_)
      clear HC
      have HC := HCn
      clear HCn
      replace HKR := Lib.hid ((HKR.out).chg hg_ (by omega))
      replace HKM := Lib.hid ((HKM.out).chg hg_ (by omega))
      replace HG := Lib.hid ((HG.out).trans hg_)
      replace HE := Lib.hid ((HE.out).chg hg_ (by rintro _ rfl; omega))
      have HOX := Lib.hid hox
      clear hc_ hg_ hox
      (try clear k_HKR f_HKR k_HKM f_HKM)
      obtain ⟨k_HKR, f_HKR⟩ := HKR.out.rules
      have l_HKR := HKR.out.lt
      obtain ⟨k_HKM, f_HKM⟩ := HKM.out.rules
      have l_HKM := HKM.out.lt
      go_wp2_with fail
      refine (spec_NewObject_lit _ _ xs _ (ownsRow_rdw vals_eValue HOX.out (by omega)) (by have h := sizV xs; omega) ⟨by omega, by omega⟩).mono ?_
      rintro e w4 ⟨A', c', rfl, ho_, hb_⟩
      have hs_4 := hb_.size
      have HCn := Lib.hid (HC.out.below hb_)
      clear HC
      have HC := HCn
      clear HCn
      replace HKR := Lib.hid ((HKR.out).below hb_)
      replace HKM := Lib.hid ((HKM.out).below hb_)
      replace HG := Lib.hid (HG.out.trans (Chg.of_below hb_ _))
      replace HE := Lib.hid (HE.out.below hb_)
      obtain ⟨f2, how, _, hf2⟩ := ownRow_own vals_eValue ho_ (by omega)
      replace HE : Hid (EntS (w.heap.size + 2) w4 xs [] [] (.slice A' xs.length c') (.slice none 0 0) (.slice none 0 0)) := ⟨f2, [], [], how, own_none _, own_none _, fun k hk => by have := hf2 k (by simpa using hk); omega⟩
      clear hb_ ho_ how hf2
      (try clear k_HKR f_HKR k_HKM f_HKM)
      obtain ⟨k_HKR, f_HKR⟩ := HKR.out.rules
      have l_HKR := HKR.out.lt
      obtain ⟨k_HKM, f_HKM⟩ := HKM.out.rules
      have l_HKM := HKM.out.lt
      go_wp2_with fail
      obtain ⟨w5, hws⟩ : ∃ ws, ws = ((((((((((((w4.setCell ⟨w.heap.size + 1, 0, none⟩ (.int .i64 1)).setCell ⟨w.heap.size + 1, 1, none⟩ (.int .i64 s)).setCell ⟨w.heap.size + 1, 2, none⟩ (.slice A' xs.length c')).setCell ⟨w.heap.size + 1, 3, none⟩ (.int .i64 0)).setCell ⟨w.heap.size + 1, 4, none⟩ (.int .i64 0)).setCell ⟨w.heap.size + 1, 5, none⟩ (.int .i64 0)).setCell ⟨w.heap.size + 1, 6, none⟩ (.slice none 0 0)).setCell ⟨w.heap.size + 1, 7, none⟩ (.slice none 0 0)).setCell ⟨w.heap.size + 1, 8, none⟩ (.int .i64 0)).setCell ⟨w.heap.size + 1, 9, none⟩ (.int .i64 0)).setCell ⟨w.heap.size + 1, 10, none⟩ (.int .i64 0)).setCell ⟨w.heap.size + 1, 11, none⟩ (.int .i64 0)) := ⟨_, rfl⟩
      have hcs : Chg (· = (w.heap.size + 1)) w4 w5 := by rw [hws]; exact (((((((((((((Chg.refl (· = (w.heap.size + 1)) w4).setCell (p := ⟨w.heap.size + 1, 0, none⟩) (.inl rfl) _).setCell (p := ⟨w.heap.size + 1, 1, none⟩) (.inl rfl) _).setCell (p := ⟨w.heap.size + 1, 2, none⟩) (.inl rfl) _).setCell (p := ⟨w.heap.size + 1, 3, none⟩) (.inl rfl) _).setCell (p := ⟨w.heap.size + 1, 4, none⟩) (.inl rfl) _).setCell (p := ⟨w.heap.size + 1, 5, none⟩) (.inl rfl) _).setCell (p := ⟨w.heap.size + 1, 6, none⟩) (.inl rfl) _).setCell (p := ⟨w.heap.size + 1, 7, none⟩) (.inl rfl) _).setCell (p := ⟨w.heap.size + 1, 8, none⟩) (.inl rfl) _).setCell (p := ⟨w.heap.size + 1, 9, none⟩) (.inl rfl) _).setCell (p := ⟨w.heap.size + 1, 10, none⟩) (.inl rfl) _).setCell (p := ⟨w.heap.size + 1, 11, none⟩) (.inl rfl) _)
      have HKMn : Hid (Blk w5 (w.heap.size + 1) 37 #[.int .i64 1, .int .i64 s, .slice A' xs.length c', .int .i64 0, .int .i64 0, .int .i64 0, .slice none 0 0, .slice none 0 0, .int .i64 0, .int .i64 0, .int .i64 0, .int .i64 0]) := Lib.hid (by rw [hws]; exact (((((((((((((HKM.out.set_ 0 _).set_ 1 _).set_ 2 _).set_ 3 _).set_ 4 _).set_ 5 _).set_ 6 _).set_ 7 _).set_ 8 _).set_ 9 _).set_ 10 _).set_ 11 _)).eq (by simp))
      have hs_5 := hcs.size
      have HCn := Lib.hid (HC.out.chg hcs (by rintro _ rfl; omega) (by omega))
      clear HC
      have HC := HCn
      clear HCn
      replace HKR := Lib.hid ((HKR.out).chg hcs (by omega))
      replace HG := Lib.hid (HG.out.then_ hcs (by rintro i hi rfl; omega))
      replace HE := Lib.hid ((HE.out).chg hcs (by rintro _ rfl; omega))
      rw [← hws]
      clear hws hcs HKM
      have HKM := HKMn
      clear HKMn
      (try clear k_HKR f_HKR k_HKM f_HKM)
      obtain ⟨k_HKR, f_HKR⟩ := HKR.out.rules
      have l_HKR := HKR.out.lt
      obtain ⟨k_HKM, f_HKM⟩ := HKM.out.rules
      have l_HKM := HKM.out.lt
      go_meet
      case rel => exact ⟨⟨1, s, xs, 0, ⟨0, 0⟩, [], [], 0, 0, 0, 0⟩, .slice A' xs.length c', .slice none 0 0, .slice none 0 0, HKM.out, HKR.out, HE.out, ⟨hxl, by simp, by simp, by simp⟩, HC.out, HG.out⟩
    by_cases r1 : r = 1
    · skip
      go_wp2_with fail
      refine (spec_l1Below_calls W0 g _ _ HC.out).mono ?_
      rintro e w2 ⟨s, hs0, hs1, rfl, hc_, hg_⟩
      have hs_2 := hg_.size
      (try simp only [size_alloc] at hs_2)
      have HCn := Lib.hid (hc_)
      clear HC
      have HC := HCn
      clear HCn
      replace HKR := Lib.hid ((HKR.out).chg hg_ (by omega))
      replace HKM := Lib.hid ((HKM.out).chg hg_ (by omega))
      replace HG := Lib.hid ((HG.out).trans hg_)
      replace HE := Lib.hid ((HE.out).chg hg_ (by rintro _ rfl; omega))
      clear hc_ hg_
      (try clear k_HKR f_HKR k_HKM f_HKM)
      obtain ⟨k_HKR, f_HKR⟩ := HKR.out.rules
      have l_HKR := HKR.out.lt
      obtain ⟨k_HKM, f_HKM⟩ := HKM.out.rules
      have l_HKM := HKM.out.lt
      replace hs1 := hs1 (by omega)
      go_wp2_with fail
      refine (spec_l1Below_calls W0 g _ _ HC.out).mono ?_
      rintro e w3 ⟨t, ht0, ht1, rfl, hc_, hg_⟩
      have hs_3 := hg_.size
      (try simp only [size_alloc] at hs_3)
      have HCn := Lib.hid (hc_)
      clear HC
      have HC := HCn
      clear HCn
      replace HKR := Lib.hid ((HKR.out).chg hg_ (by omega))
      replace HKM := Lib.hid ((HKM.out).chg hg_ (by omega))
      replace HG := Lib.hid ((HG.out).trans hg_)
      replace HE := Lib.hid ((HE.out).chg hg_ (by rintro _ rfl; omega))
      clear hc_ hg_
      (try clear k_HKR f_HKR k_HKM f_HKM)
      obtain ⟨k_HKR, f_HKR⟩ := HKR.out.rules
      have l_HKR := HKR.out.lt
      obtain ⟨k_HKM, f_HKM⟩ := HKM.out.rules
      have l_HKM := HKM.out.lt
      replace ht1 := ht1 (by omega)
      go_wp2_with fail
      refine (spec_NewProxy_lit _ _ _).mono ?_
      rintro e w4 ⟨rfl, hb_⟩
      have hs_4 := hb_.size
      have HCn := Lib.hid (HC.out.below hb_)
      clear HC
      have HC := HCn
      clear HCn
      replace HKR := Lib.hid ((HKR.out).below hb_)
      replace HKM := Lib.hid ((HKM.out).below hb_)
      replace HG := Lib.hid (HG.out.trans (Chg.of_below hb_ _))
      replace HE := Lib.hid (HE.out.below hb_)
      clear hb_
      (try clear k_HKR f_HKR k_HKM f_HKM)
      obtain ⟨k_HKR, f_HKR⟩ := HKR.out.rules
      have l_HKR := HKR.out.lt
      obtain ⟨k_HKM, f_HKM⟩ := HKM.out.rules
      have l_HKM := HKM.out.lt
      go_wp2_with fail
      obtain ⟨w5, hws⟩ : ∃ ws, ws = ((((((((((((w4.setCell ⟨w.heap.size + 1, 0, none⟩ (.int .i64 3)).setCell ⟨w.heap.size + 1, 1, none⟩ (.int .i64 0)).setCell ⟨w.heap.size + 1, 2, none⟩ (.slice none 0 0)).setCell ⟨w.heap.size + 1, 3, none⟩ (.int .i64 0)).setCell ⟨w.heap.size + 1, 4, none⟩ (.int .i64 0)).setCell ⟨w.heap.size + 1, 5, none⟩ (.int .i64 0)).setCell ⟨w.heap.size + 1, 6, none⟩ (.slice none 0 0)).setCell ⟨w.heap.size + 1, 7, none⟩ (.slice none 0 0)).setCell ⟨w.heap.size + 1, 8, none⟩ (.int .i64 (1 + s))).setCell ⟨w.heap.size + 1, 9, none⟩ (.int .i64 (1 + t))).setCell ⟨w.heap.size + 1, 10, none⟩ (.int .i64 1)).setCell ⟨w.heap.size + 1, 11, none⟩ (.int .i64 0)) := ⟨_, rfl⟩
      have hcs : Chg (· = (w.heap.size + 1)) w4 w5 := by rw [hws]; exact (((((((((((((Chg.refl (· = (w.heap.size + 1)) w4).setCell (p := ⟨w.heap.size + 1, 0, none⟩) (.inl rfl) _).setCell (p := ⟨w.heap.size + 1, 1, none⟩) (.inl rfl) _).setCell (p := ⟨w.heap.size + 1, 2, none⟩) (.inl rfl) _).setCell (p := ⟨w.heap.size + 1, 3, none⟩) (.inl rfl) _).setCell (p := ⟨w.heap.size + 1, 4, none⟩) (.inl rfl) _).setCell (p := ⟨w.heap.size + 1, 5, none⟩) (.inl rfl) _).setCell (p := ⟨w.heap.size + 1, 6, none⟩) (.inl rfl) _).setCell (p := ⟨w.heap.size + 1, 7, none⟩) (.inl rfl) _).setCell (p := ⟨w.heap.size + 1, 8, none⟩) (.inl rfl) _).setCell (p := ⟨w.heap.size + 1, 9, none⟩) (.inl rfl) _).setCell (p := ⟨w.heap.size + 1, 10, none⟩) (.inl rfl) _).setCell (p := ⟨w.heap.size + 1, 11, none⟩) (.inl rfl) _)
      have HKMn : Hid (Blk w5 (w.heap.size + 1) 37 #[.int .i64 3, .int .i64 0, .slice none 0 0, .int .i64 0, .int .i64 0, .int .i64 0, .slice none 0 0, .slice none 0 0, .int .i64 (1 + s), .int .i64 (1 + t), .int .i64 1, .int .i64 0]) := Lib.hid (by rw [hws]; exact (((((((((((((HKM.out.set_ 0 _).set_ 1 _).set_ 2 _).set_ 3 _).set_ 4 _).set_ 5 _).set_ 6 _).set_ 7 _).set_ 8 _).set_ 9 _).set_ 10 _).set_ 11 _)).eq (by simp))
      have hs_5 := hcs.size
      have HCn := Lib.hid (HC.out.chg hcs (by rintro _ rfl; omega) (by omega))
      clear HC
      have HC := HCn
      clear HCn
      replace HKR := Lib.hid ((HKR.out).chg hcs (by omega))
      replace HG := Lib.hid (HG.out.then_ hcs (by rintro i hi rfl; omega))
      replace HE := Lib.hid ((HE.out).chg hcs (by rintro _ rfl; omega))
      rw [← hws]
      clear hws hcs HKM
      have HKM := HKMn
      clear HKMn
      (try clear k_HKR f_HKR k_HKM f_HKM)
      obtain ⟨k_HKR, f_HKR⟩ := HKR.out.rules
      have l_HKR := HKR.out.lt
      obtain ⟨k_HKM, f_HKM⟩ := HKM.out.rules
      have l_HKM := HKM.out.lt
      go_meet
      case rel => exact ⟨⟨3, 0, [], 0, ⟨0, 0⟩, [], [], 1 + s, 1 + t, 1, 0⟩, .slice none 0 0, .slice none 0 0, .slice none 0 0, HKM.out, HKR.out, HE.out, smallE_nil rfl rfl rfl, HC.out, HG.out⟩
    go_wp2_with fail
    refine (spec_NewPromise_lit _).mono ?_
    rintro e w2 ⟨rfl, hb_⟩
    have hs_2 := hb_.size
    have HCn := Lib.hid (HC.out.below hb_)
    clear HC
    have HC := HCn
    clear HCn
    replace HKR := Lib.hid ((HKR.out).below hb_)
    replace HKM := Lib.hid ((HKM.out).below hb_)
    replace HG := Lib.hid (HG.out.trans (Chg.of_below hb_ _))
    replace HE := Lib.hid (HE.out.below hb_)
    clear hb_
    (try clear k_HKR f_HKR k_HKM f_HKM)
    obtain ⟨k_HKR, f_HKR⟩ := HKR.out.rules
    have l_HKR := HKR.out.lt
    obtain ⟨k_HKM, f_HKM⟩ := HKM.out.rules
    have l_HKM := HKM.out.lt
    go_wp2_with fail
    obtain ⟨w3, hws⟩ : ∃ ws, ws = ((((((((((((w2.setCell ⟨w.heap.size + 1, 0, none⟩ (.int .i64 2)).setCell ⟨w.heap.size + 1, 1, none⟩ (.int .i64 0)).setCell ⟨w.heap.size + 1, 2, none⟩ (.slice none 0 0)).setCell ⟨w.heap.size + 1, 3, none⟩ (.int .i64 1)).setCell ⟨w.heap.size + 1, 4, none⟩ (.int .i64 0)).setCell ⟨w.heap.size + 1, 5, none⟩ (.int .i64 0)).setCell ⟨w.heap.size + 1, 6, none⟩ (.slice none 0 0)).setCell ⟨w.heap.size + 1, 7, none⟩ (.slice none 0 0)).setCell ⟨w.heap.size + 1, 8, none⟩ (.int .i64 0)).setCell ⟨w.heap.size + 1, 9, none⟩ (.int .i64 0)).setCell ⟨w.heap.size + 1, 10, none⟩ (.int .i64 0)).setCell ⟨w.heap.size + 1, 11, none⟩ (.int .i64 0)) := ⟨_, rfl⟩
    have hcs : Chg (· = (w.heap.size + 1)) w2 w3 := by rw [hws]; exact (((((((((((((Chg.refl (· = (w.heap.size + 1)) w2).setCell (p := ⟨w.heap.size + 1, 0, none⟩) (.inl rfl) _).setCell (p := ⟨w.heap.size + 1, 1, none⟩) (.inl rfl) _).setCell (p := ⟨w.heap.size + 1, 2, none⟩) (.inl rfl) _).setCell (p := ⟨w.heap.size + 1, 3, none⟩) (.inl rfl) _).setCell (p := ⟨w.heap.size + 1, 4, none⟩) (.inl rfl) _).setCell (p := ⟨w.heap.size + 1, 5, none⟩) (.inl rfl) _).setCell (p := ⟨w.heap.size + 1, 6, none⟩) (.inl rfl) _).setCell (p := ⟨w.heap.size + 1, 7, none⟩) (.inl rfl) _).setCell (p := ⟨w.heap.size + 1, 8, none⟩) (.inl rfl) _).setCell (p := ⟨w.heap.size + 1, 9, none⟩) (.inl rfl) _).setCell (p := ⟨w.heap.size + 1, 10, none⟩) (.inl rfl) _).setCell (p := ⟨w.heap.size + 1, 11, none⟩) (.inl rfl) _)
    have HKMn : Hid (Blk w3 (w.heap.size + 1) 37 #[.int .i64 2, .int .i64 0, .slice none 0 0, .int .i64 1, .int .i64 0, .int .i64 0, .slice none 0 0, .slice none 0 0, .int .i64 0, .int .i64 0, .int .i64 0, .int .i64 0]) := Lib.hid (by rw [hws]; exact (((((((((((((HKM.out.set_ 0 _).set_ 1 _).set_ 2 _).set_ 3 _).set_ 4 _).set_ 5 _).set_ 6 _).set_ 7 _).set_ 8 _).set_ 9 _).set_ 10 _).set_ 11 _)).eq (by simp))
    have hs_3 := hcs.size
    have HCn := Lib.hid (HC.out.chg hcs (by rintro _ rfl; omega) (by omega))
    clear HC
    have HC := HCn
    clear HCn
    replace HKR := Lib.hid ((HKR.out).chg hcs (by omega))
    replace HG := Lib.hid (HG.out.then_ hcs (by rintro i hi rfl; omega))
    replace HE := Lib.hid ((HE.out).chg hcs (by rintro _ rfl; omega))
    rw [← hws]
    clear hws hcs HKM
    have HKM := HKMn
    clear HKMn
    (try clear k_HKR f_HKR k_HKM f_HKM)
    obtain ⟨k_HKR, f_HKR⟩ := HKR.out.rules
    have l_HKR := HKR.out.lt
    obtain ⟨k_HKM, f_HKM⟩ := HKM.out.rules
    have l_HKM := HKM.out.lt
    go_wp2_with fail
    refine (spec_l1Below_calls W0 g _ _ HC.out).mono ?_
    rintro e w4 ⟨s, hs0, hs1, rfl, hc_, hg_⟩
    have hs_4 := hg_.size
    (try simp only [size_alloc] at hs_4)
    have HCn := Lib.hid (hc_)
    clear HC
    have HC := HCn
    clear HCn
    replace HKR := Lib.hid ((HKR.out).chg hg_ (by omega))
    replace HKM := Lib.hid ((HKM.out).chg hg_ (by omega))
    replace HG := Lib.hid ((HG.out).trans hg_)
    replace HE := Lib.hid ((HE.out).chg hg_ (by rintro _ rfl; omega))
    clear hc_ hg_
    (try clear k_HKR f_HKR k_HKM f_HKM)
    obtain ⟨k_HKR, f_HKR⟩ := HKR.out.rules
    have l_HKR := HKR.out.lt
    obtain ⟨k_HKM, f_HKM⟩ := HKM.out.rules
    have l_HKM := HKM.out.lt
    replace hs1 := hs1 (by omega)
    by_cases s0 : s = 0
    · skip
      subst s0
      go_wp2_with fail
      obtain ⟨w5, hws⟩ : ∃ ws, ws = (w4.setCell ⟨w.heap.size + 1, 3, none⟩ (.int .i64 1)) := ⟨_, rfl⟩
      have hcs : Chg (· = (w.heap.size + 1)) w4 w5 := by rw [hws]; exact ((Chg.refl (· = (w.heap.size + 1)) w4).setCell (p := ⟨w.heap.size + 1, 3, none⟩) (.inl rfl) _)
      have HKMn : Hid (Blk w5 (w.heap.size + 1) 37 #[.int .i64 2, .int .i64 0, .slice none 0 0, .int .i64 1, .int .i64 0, .int .i64 0, .slice none 0 0, .slice none 0 0, .int .i64 0, .int .i64 0, .int .i64 0, .int .i64 0]) := Lib.hid (by rw [hws]; exact ((HKM.out.set_ 3 _)).eq (by simp))
      have hs_5 := hcs.size
      have HCn := Lib.hid (HC.out.chg hcs (by rintro _ rfl; omega) (by omega))
      clear HC
      have HC := HCn
      clear HCn
      replace HKR := Lib.hid ((HKR.out).chg hcs (by omega))
      replace HG := Lib.hid (HG.out.then_ hcs (by rintro i hi rfl; omega))
      replace HE := Lib.hid ((HE.out).chg hcs (by rintro _ rfl; omega))
      rw [← hws]
      clear hws hcs HKM
      have HKM := HKMn
      clear HKMn
      (try clear k_HKR f_HKR k_HKM f_HKM)
      obtain ⟨k_HKR, f_HKR⟩ := HKR.out.rules
      have l_HKR := HKR.out.lt
      obtain ⟨k_HKM, f_HKM⟩ := HKM.out.rules
      have l_HKM := HKM.out.lt
      go_wp2_with fail
      refine (spec_l1Once_calls W0 g _ _ HC.out).mono ?_
      rintro e w6 ⟨t, rfl, hc_, hg_⟩
      have hs_6 := hg_.size
      (try simp only [size_alloc] at hs_6)
      have HCn := Lib.hid (hc_)
      clear HC
      have HC := HCn
      clear HCn
      replace HKR := Lib.hid ((HKR.out).chg hg_ (by omega))
      replace HKM := Lib.hid ((HKM.out).chg hg_ (by omega))
      replace HG := Lib.hid ((HG.out).trans hg_)
      replace HE := Lib.hid ((HE.out).chg hg_ (by rintro _ rfl; omega))
      clear hc_ hg_
      (try clear k_HKR f_HKR k_HKM f_HKM)
      obtain ⟨k_HKR, f_HKR⟩ := HKR.out.rules
      have l_HKR := HKR.out.lt
      obtain ⟨k_HKM, f_HKM⟩ := HKM.out.rules
      have l_HKM := HKM.out.lt
      rcases t with _ | _
      · skip
        go_wp2_with fail
        go_meet
        case rel => exact ⟨⟨2, 0, [], 1, ⟨0, 0⟩, [], [], 0, 0, 0, 0⟩, .slice none 0 0, .slice none 0 0, .slice none 0 0, HKM.out, HKR.out, HE.out, smallE_nil rfl rfl rfl, HC.out, HG.out⟩
      · skip
        go_wp2_with fail
        refine (spec_l9Sent_calls W0 g _ HC.out).mono ?_
        rintro e w7 ⟨y, us, rfl, hsa, hyl, hyn, hc_, hg_⟩
        have hs_7 := hg_.size
        have HCn := Lib.hid (hc_)
        clear HC
        have HC := HCn
        clear HCn
        replace HKR := Lib.hid ((HKR.out).chg hg_ (by omega))
        replace HKM := Lib.hid ((HKM.out).chg hg_ (by omega))
        replace HG := Lib.hid ((HG.out).trans hg_)
        replace HE := Lib.hid ((HE.out).chg hg_ (by rintro _ rfl; omega))
        obtain ⟨A, c, B, rfl, hB1, hB2, ho_⟩ := hsa
        have HOA := Lib.hid ho_
        have HYN := Lib.hid hyn
        clear hc_ hg_ ho_ hyn
        (try clear k_HKR f_HKR k_HKM f_HKM)
        obtain ⟨k_HKR, f_HKR⟩ := HKR.out.rules
        have l_HKR := HKR.out.lt
        obtain ⟨k_HKM, f_HKM⟩ := HKM.out.rules
        have l_HKM := HKM.out.lt
        go_wp2_with fail
        obtain ⟨fA, hoA, _, hfA⟩ := ownRow_own vals_eValue HOA.out (by omega)
        obtain ⟨ws, hws⟩ : ∃ ws, ws = (w7.setCell ⟨w.heap.size + 1, 6, none⟩ (.slice (some ⟨w7.heap.size, 0, none⟩) 1 1)).setCell ⟨w.heap.size + 1, 7, none⟩ (.slice (some ⟨w7.heap.size + 1, 0, none⟩) 1 1) := ⟨_, rfl⟩
        have hcs : Chg (· = (w.heap.size + 1)) w7 ws := by rw [hws]; exact ((Chg.refl (· = (w.heap.size + 1)) w7).setCell (p := ⟨w.heap.size + 1, 6, none⟩) (.inl rfl) _).setCell (p := ⟨w.heap.size + 1, 7, none⟩) (.inl rfl) _
        have hzs : ws.heap.size = w7.heap.size := by rw [hws]; simp [World.setCell]
        have HKMn : Hid (Blk ws (w.heap.size + 1) 37 #[.int .i64 2, .int .i64 0, .slice none 0 0, .int .i64 1, .int .i64 0, .int .i64 0, .slice (some ⟨w7.heap.size, 0, none⟩) 1 1, .slice (some ⟨w7.heap.size + 1, 0, none⟩) 1 1, .int .i64 0, .int .i64 0, .int .i64 0, .int .i64 0]) := Lib.hid (by rw [hws]; exact ((HKM.out.set_ 6 _).set_ 7 _).eq (by simp))
        have hoA2 := (hoA.chg hcs (fun k hk e => by have := hfA k hk; omega)).below (((Below.refl ws.heap.size ws).alloc (Nat.le_refl _) (.cells #[.int .i64 y.Target, .string y.Name, .slice A y.Args.length c, .int .i64 y.Result, .int .i64 y.Tag.Vat, .int .i64 y.Tag.Entity, .int .i64 y.Tag.Seq] 71)).alloc (by simp) (.cells #[.int .i64 1, .int .i64 2] 93))
        have hr6 : RowIs (ws.alloc (.cells #[.int .i64 y.Target, .string y.Name, .slice A y.Args.length c, .int .i64 y.Result, .int .i64 y.Tag.Vat, .int .i64 y.Tag.Entity, .int .i64 y.Tag.Seq] 71)) w7.heap.size [.int .i64 y.Target, .string y.Name, .slice A y.Args.length c, .int .i64 y.Result, .int .i64 y.Tag.Vat, .int .i64 y.Tag.Entity, .int .i64 y.Tag.Seq] := by have h := RowIs.new ws #[.int .i64 y.Target, .string y.Name, .slice A y.Args.length c, .int .i64 y.Result, .int .i64 y.Tag.Vat, .int .i64 y.Tag.Entity, .int .i64 y.Tag.Seq] 71; rw [hzs] at h; exact h
        have hr6b := hr6.keep (w' := (ws.alloc (.cells #[.int .i64 y.Target, .string y.Name, .slice A y.Args.length c, .int .i64 y.Result, .int .i64 y.Tag.Vat, .int .i64 y.Tag.Entity, .int .i64 y.Tag.Seq] 71)).alloc (.cells #[.int .i64 1, .int .i64 2] 93)) (Below.heap_alloc _ _ _ (by simp only [size_alloc]; omega))
        have hr7 : RowIs ((ws.alloc (.cells #[.int .i64 y.Target, .string y.Name, .slice A y.Args.length c, .int .i64 y.Result, .int .i64 y.Tag.Vat, .int .i64 y.Tag.Entity, .int .i64 y.Tag.Seq] 71)).alloc (.cells #[.int .i64 1, .int .i64 2] 93)) (w7.heap.size + 1) ([(⟨1, 2⟩ : GAsker)].flatMap vsAsker) := by have h := RowIs.new (ws.alloc (.cells #[.int .i64 y.Target, .string y.Name, .slice A y.Args.length c, .int .i64 y.Result, .int .i64 y.Tag.Vat, .int .i64 y.Tag.Entity, .int .i64 y.Tag.Seq] 71)) #[.int .i64 1, .int .i64 2] 93; rw [size_alloc, hzs] at h; exact h
        obtain ⟨f7, ho7, _, hf7⟩ := own_rows vals_eAsker hr7 (by simp only [size_alloc]; omega) (c := 1) ⟨Nat.le_refl _, by decide, by decide⟩
        have ho6 : Own ((ws.alloc (.cells #[.int .i64 y.Target, .string y.Name, .slice A y.Args.length c, .int .i64 y.Result, .int .i64 y.Tag.Vat, .int .i64 y.Tag.Entity, .int .i64 y.Tag.Seq] 71)).alloc (.cells #[.int .i64 1, .int .i64 2] 93)) (.s [y].length ([y].flatMap eSent)) (.slice (some ⟨w7.heap.size, 0, none⟩) 1 1) (w7.heap.size :: fA) := by
          rw [Own]
          exact .inr ⟨by simp, _, 1, _, fA, rfl, ⟨Nat.le_refl _, by simp, by simp⟩, rfl, by simp only [size_alloc]; omega, hr6b, by rw [List.flatMap_cons, List.flatMap_nil, List.append_nil]; exact mkown_eSent hoA2⟩
        have HEF : EntS (w.heap.size + 2) ((ws.alloc (.cells #[.int .i64 y.Target, .string y.Name, .slice A y.Args.length c, .int .i64 y.Result, .int .i64 y.Tag.Vat, .int .i64 y.Tag.Entity, .int .i64 y.Tag.Seq] 71)).alloc (.cells #[.int .i64 1, .int .i64 2] 93)) [] [y] [⟨1, 2⟩] (.slice none 0 0) (.slice (some ⟨w7.heap.size, 0, none⟩) 1 1) (.slice (some ⟨w7.heap.size + 1, 0, none⟩) 1 1) := ⟨[], _, f7, own_none _, ho6, ho7, fun k hk => by
          rcases List.mem_append.1 hk with h | h
          · cases h
          · rcases List.mem_append.1 h with h | h
            · rcases List.mem_cons.1 h with rfl | h
              · omega
              · have := hfA k h; omega
            · have := hf7 k h; omega⟩
        have HCf := (HC.out.chg hcs (by rintro _ rfl; omega) (by omega)).below (((Below.refl ws.heap.size ws).alloc (Nat.le_refl _) (.cells #[.int .i64 y.Target, .string y.Name, .slice A y.Args.length c, .int .i64 y.Result, .int .i64 y.Tag.Vat, .int .i64 y.Tag.Entity, .int .i64 y.Tag.Seq] 71)).alloc (by simp) (.cells #[.int .i64 1, .int .i64 2] 93))
        have HGf := ((HG.out.then_ hcs (by rintro i hi rfl; omega)).alloc (.cells #[.int .i64 y.Target, .string y.Name, .slice A y.Args.length c, .int .i64 y.Result, .int .i64 y.Tag.Vat, .int .i64 y.Tag.Entity, .int .i64 y.Tag.Seq] 71)).alloc (.cells #[.int .i64 1, .int .i64 2] 93)
        have HKRf := ((HKR.out.chg hcs (by omega)).alloc (.cells #[.int .i64 y.Target, .string y.Name, .slice A y.Args.length c, .int .i64 y.Result, .int .i64 y.Tag.Vat, .int .i64 y.Tag.Entity, .int .i64 y.Tag.Seq] 71)).alloc (.cells #[.int .i64 1, .int .i64 2] 93)
        rw [← hws]
        go_meet
        case rel => exact ⟨⟨2, 0, [], 1, ⟨0, 0⟩, [y], [⟨1, 2⟩], 0, 0, 0, 0⟩, .slice none 0 0, (.slice (some ⟨w7.heap.size, 0, none⟩) 1 1), (.slice (some ⟨w7.heap.size + 1, 0, none⟩) 1 1), (HKMn.out.alloc _).alloc _, HKRf, HEF, ⟨by simp, by simp, by simp, by simp only [List.mem_singleton, forall_eq]; exact ⟨hyl, HYN.out⟩⟩, HCf, HGf⟩
    by_cases s1 : s = 1
    · skip
      subst s1
      go_wp2_with fail
      obtain ⟨w5, hws⟩ : ∃ ws, ws = (w4.setCell ⟨w.heap.size + 1, 3, none⟩ (.int .i64 2)) := ⟨_, rfl⟩
      have hcs : Chg (· = (w.heap.size + 1)) w4 w5 := by rw [hws]; exact ((Chg.refl (· = (w.heap.size + 1)) w4).setCell (p := ⟨w.heap.size + 1, 3, none⟩) (.inl rfl) _)
      have HKMn : Hid (Blk w5 (w.heap.size + 1) 37 #[.int .i64 2, .int .i64 0, .slice none 0 0, .int .i64 2, .int .i64 0, .int .i64 0, .slice none 0 0, .slice none 0 0, .int .i64 0, .int .i64 0, .int .i64 0, .int .i64 0]) := Lib.hid (by rw [hws]; exact ((HKM.out.set_ 3 _)).eq (by simp))
      have hs_5 := hcs.size
      have HCn := Lib.hid (HC.out.chg hcs (by rintro _ rfl; omega) (by omega))
      clear HC
      have HC := HCn
      clear HCn
      replace HKR := Lib.hid ((HKR.out).chg hcs (by omega))
      replace HG := Lib.hid (HG.out.then_ hcs (by rintro i hi rfl; omega))
      replace HE := Lib.hid ((HE.out).chg hcs (by rintro _ rfl; omega))
      rw [← hws]
      clear hws hcs HKM
      have HKM := HKMn
      clear HKMn
      (try clear k_HKR f_HKR k_HKM f_HKM)
      obtain ⟨k_HKR, f_HKR⟩ := HKR.out.rules
      have l_HKR := HKR.out.lt
      obtain ⟨k_HKM, f_HKM⟩ := HKM.out.rules
      have l_HKM := HKM.out.lt
      go_wp2_with fail
      refine (spec_l1Below_calls W0 g _ _ HC.out).mono ?_
      rintro e w6 ⟨v, hv0, hv1, rfl, hc_, hg_⟩
      have hs_6 := hg_.size
      (try simp only [size_alloc] at hs_6)
      have HCn := Lib.hid (hc_)
      clear HC
      have HC := HCn
      clear HCn
      replace HKR := Lib.hid ((HKR.out).chg hg_ (by omega))
      replace HKM := Lib.hid ((HKM.out).chg hg_ (by omega))
      replace HG := Lib.hid ((HG.out).trans hg_)
      replace HE := Lib.hid ((HE.out).chg hg_ (by rintro _ rfl; omega))
      clear hc_ hg_
      (try clear k_HKR f_HKR k_HKM f_HKM)
      obtain ⟨k_HKR, f_HKR⟩ := HKR.out.rules
      have l_HKR := HKR.out.lt
      obtain ⟨k_HKM, f_HKM⟩ := HKM.out.rules
      have l_HKM := HKM.out.lt
      replace hv1 := hv1 (by omega)
      go_wp2_with fail
      refine (spec_IntValue_calls _ hv0 (by omega) _).mono ?_
      rintro e w7 ⟨rfl, hb_⟩
      have hs_7 := hb_.size
      have HCn := Lib.hid (HC.out.below hb_)
      clear HC
      have HC := HCn
      clear HCn
      replace HKR := Lib.hid ((HKR.out).below hb_)
      replace HKM := Lib.hid ((HKM.out).below hb_)
      replace HG := Lib.hid (HG.out.trans (Chg.of_below hb_ _))
      replace HE := Lib.hid (HE.out.below hb_)
      clear hb_
      (try clear k_HKR f_HKR k_HKM f_HKM)
      obtain ⟨k_HKR, f_HKR⟩ := HKR.out.rules
      have l_HKR := HKR.out.lt
      obtain ⟨k_HKM, f_HKM⟩ := HKM.out.rules
      have l_HKM := HKM.out.lt
      go_wp2_with fail
      obtain ⟨w8, hws⟩ : ∃ ws, ws = ((w7.setCell ⟨w.heap.size + 1, 4, none⟩ (.int .i64 0)).setCell ⟨w.heap.size + 1, 5, none⟩ (.int .i64 v)) := ⟨_, rfl⟩
      have hcs : Chg (· = (w.heap.size + 1)) w7 w8 := by rw [hws]; exact (((Chg.refl (· = (w.heap.size + 1)) w7).setCell (p := ⟨w.heap.size + 1, 4, none⟩) (.inl rfl) _).setCell (p := ⟨w.heap.size + 1, 5, none⟩) (.inl rfl) _)
      have HKMn : Hid (Blk w8 (w.heap.size + 1) 37 #[.int .i64 2, .int .i64 0, .slice none 0 0, .int .i64 2, .int .i64 0, .int .i64 v, .slice none 0 0, .slice none 0 0, .int .i64 0, .int .i64 0, .int .i64 0, .int .i64 0]) := Lib.hid (by rw [hws]; exact (((HKM.out.set_ 4 _).set_ 5 _)).eq (by simp))
      have hs_8 := hcs.size
      have HCn := Lib.hid (HC.out.chg hcs (by rintro _ rfl; omega) (by omega))
      clear HC
      have HC := HCn
      clear HCn
      replace HKR := Lib.hid ((HKR.out).chg hcs (by omega))
      replace HG := Lib.hid (HG.out.then_ hcs (by rintro i hi rfl; omega))
      replace HE := Lib.hid ((HE.out).chg hcs (by rintro _ rfl; omega))
      rw [← hws]
      clear hws hcs HKM
      have HKM := HKMn
      clear HKMn
      (try clear k_HKR f_HKR k_HKM f_HKM)
      obtain ⟨k_HKR, f_HKR⟩ := HKR.out.rules
      have l_HKR := HKR.out.lt
      obtain ⟨k_HKM, f_HKM⟩ := HKM.out.rules
      have l_HKM := HKM.out.lt
      go_meet
      case rel => exact ⟨⟨2, 0, [], 2, ⟨0, v⟩, [], [], 0, 0, 0, 0⟩, .slice none 0 0, .slice none 0 0, .slice none 0 0, HKM.out, HKR.out, HE.out, smallE_nil rfl rfl rfl, HC.out, HG.out⟩
    by_cases s2 : s = 2
    · skip
      subst s2
      go_wp2_with fail
      obtain ⟨w5, hws⟩ : ∃ ws, ws = (w4.setCell ⟨w.heap.size + 1, 3, none⟩ (.int .i64 3)) := ⟨_, rfl⟩
      have hcs : Chg (· = (w.heap.size + 1)) w4 w5 := by rw [hws]; exact ((Chg.refl (· = (w.heap.size + 1)) w4).setCell (p := ⟨w.heap.size + 1, 3, none⟩) (.inl rfl) _)
      have HKMn : Hid (Blk w5 (w.heap.size + 1) 37 #[.int .i64 2, .int .i64 0, .slice none 0 0, .int .i64 3, .int .i64 0, .int .i64 0, .slice none 0 0, .slice none 0 0, .int .i64 0, .int .i64 0, .int .i64 0, .int .i64 0]) := Lib.hid (by rw [hws]; exact ((HKM.out.set_ 3 _)).eq (by simp))
      have hs_5 := hcs.size
      have HCn := Lib.hid (HC.out.chg hcs (by rintro _ rfl; omega) (by omega))
      clear HC
      have HC := HCn
      clear HCn
      replace HKR := Lib.hid ((HKR.out).chg hcs (by omega))
      replace HG := Lib.hid (HG.out.then_ hcs (by rintro i hi rfl; omega))
      replace HE := Lib.hid ((HE.out).chg hcs (by rintro _ rfl; omega))
      rw [← hws]
      clear hws hcs HKM
      have HKM := HKMn
      clear HKMn
      (try clear k_HKR f_HKR k_HKM f_HKM)
      obtain ⟨k_HKR, f_HKR⟩ := HKR.out.rules
      have l_HKR := HKR.out.lt
      obtain ⟨k_HKM, f_HKM⟩ := HKM.out.rules
      have l_HKM := HKM.out.lt
      go_wp2_with fail
      refine (spec_l1Below_calls W0 g _ _ HC.out).mono ?_
      rintro e w6 ⟨p, hp0, hp1, rfl, hc_, hg_⟩
      have hs_6 := hg_.size
      (try simp only [size_alloc] at hs_6)
      have HCn := Lib.hid (hc_)
      clear HC
      have HC := HCn
      clear HCn
      replace HKR := Lib.hid ((HKR.out).chg hg_ (by omega))
      replace HKM := Lib.hid ((HKM.out).chg hg_ (by omega))
      replace HG := Lib.hid ((HG.out).trans hg_)
      replace HE := Lib.hid ((HE.out).chg hg_ (by rintro _ rfl; omega))
      clear hc_ hg_
      (try clear k_HKR f_HKR k_HKM f_HKM)
      obtain ⟨k_HKR, f_HKR⟩ := HKR.out.rules
      have l_HKR := HKR.out.lt
      obtain ⟨k_HKM, f_HKM⟩ := HKM.out.rules
      have l_HKM := HKM.out.lt
      replace hp1 := hp1 (by omega)
      go_wp2_with fail
      obtain ⟨w7, hws⟩ : ∃ ws, ws = (w6.setCell ⟨w.heap.size + 1, 8, none⟩ (.int .i64 (1 + p))) := ⟨_, rfl⟩
      have hcs : Chg (· = (w.heap.size + 1)) w6 w7 := by rw [hws]; exact ((Chg.refl (· = (w.heap.size + 1)) w6).setCell (p := ⟨w.heap.size + 1, 8, none⟩) (.inl rfl) _)
      have HKMn : Hid (Blk w7 (w.heap.size + 1) 37 #[.int .i64 2, .int .i64 0, .slice none 0 0, .int .i64 3, .int .i64 0, .int .i64 0, .slice none 0 0, .slice none 0 0, .int .i64 (1 + p), .int .i64 0, .int .i64 0, .int .i64 0]) := Lib.hid (by rw [hws]; exact ((HKM.out.set_ 8 _)).eq (by simp))
      have hs_7 := hcs.size
      have HCn := Lib.hid (HC.out.chg hcs (by rintro _ rfl; omega) (by omega))
      clear HC
      have HC := HCn
      clear HCn
      replace HKR := Lib.hid ((HKR.out).chg hcs (by omega))
      replace HG := Lib.hid (HG.out.then_ hcs (by rintro i hi rfl; omega))
      replace HE := Lib.hid ((HE.out).chg hcs (by rintro _ rfl; omega))
      rw [← hws]
      clear hws hcs HKM
      have HKM := HKMn
      clear HKMn
      (try clear k_HKR f_HKR k_HKM f_HKM)
      obtain ⟨k_HKR, f_HKR⟩ := HKR.out.rules
      have l_HKR := HKR.out.lt
      obtain ⟨k_HKM, f_HKM⟩ := HKM.out.rules
      have l_HKM := HKM.out.lt
      go_wp2_with fail
      refine (spec_l1Below_calls W0 g _ _ HC.out).mono ?_
      rintro e w8 ⟨q, hq0, hq1, rfl, hc_, hg_⟩
      have hs_8 := hg_.size
      (try simp only [size_alloc] at hs_8)
      have HCn := Lib.hid (hc_)
      clear HC
      have HC := HCn
      clear HCn
      replace HKR := Lib.hid ((HKR.out).chg hg_ (by omega))
      replace HKM := Lib.hid ((HKM.out).chg hg_ (by omega))
      replace HG := Lib.hid ((HG.out).trans hg_)
      replace HE := Lib.hid ((HE.out).chg hg_ (by rintro _ rfl; omega))
      clear hc_ hg_
      (try clear k_HKR f_HKR k_HKM f_HKM)
      obtain ⟨k_HKR, f_HKR⟩ := HKR.out.rules
      have l_HKR := HKR.out.lt
      obtain ⟨k_HKM, f_HKM⟩ := HKM.out.rules
      have l_HKM := HKM.out.lt
      replace hq1 := hq1 (by omega)
      go_wp2_with fail
      obtain ⟨w9, hws⟩ : ∃ ws, ws = (w8.setCell ⟨w.heap.size + 1, 9, none⟩ (.int .i64 (1 + q))) := ⟨_, rfl⟩
      have hcs : Chg (· = (w.heap.size + 1)) w8 w9 := by rw [hws]; exact ((Chg.refl (· = (w.heap.size + 1)) w8).setCell (p := ⟨w.heap.size + 1, 9, none⟩) (.inl rfl) _)
      have HKMn : Hid (Blk w9 (w.heap.size + 1) 37 #[.int .i64 2, .int .i64 0, .slice none 0 0, .int .i64 3, .int .i64 0, .int .i64 0, .slice none 0 0, .slice none 0 0, .int .i64 (1 + p), .int .i64 (1 + q), .int .i64 0, .int .i64 0]) := Lib.hid (by rw [hws]; exact ((HKM.out.set_ 9 _)).eq (by simp))
      have hs_9 := hcs.size
      have HCn := Lib.hid (HC.out.chg hcs (by rintro _ rfl; omega) (by omega))
      clear HC
      have HC := HCn
      clear HCn
      replace HKR := Lib.hid ((HKR.out).chg hcs (by omega))
      replace HG := Lib.hid (HG.out.then_ hcs (by rintro i hi rfl; omega))
      replace HE := Lib.hid ((HE.out).chg hcs (by rintro _ rfl; omega))
      rw [← hws]
      clear hws hcs HKM
      have HKM := HKMn
      clear HKMn
      (try clear k_HKR f_HKR k_HKM f_HKM)
      obtain ⟨k_HKR, f_HKR⟩ := HKR.out.rules
      have l_HKR := HKR.out.lt
      obtain ⟨k_HKM, f_HKM⟩ := HKM.out.rules
      have l_HKM := HKM.out.lt
      go_meet
      case rel => exact ⟨⟨2, 0, [], 3, ⟨0, 0⟩, [], [], 1 + p, 1 + q, 0, 0⟩, .slice none 0 0, .slice none 0 0, .slice none 0 0, HKM.out, HKR.out, HE.out, smallE_nil rfl rfl rfl, HC.out, HG.out⟩
    by_cases s3 : s = 3
    · skip
      subst s3
      go_wp2_with fail
      obtain ⟨w5, hws⟩ : ∃ ws, ws = (w4.setCell ⟨w.heap.size + 1, 3, none⟩ (.int .i64 4)) := ⟨_, rfl⟩
      have hcs : Chg (· = (w.heap.size + 1)) w4 w5 := by rw [hws]; exact ((Chg.refl (· = (w.heap.size + 1)) w4).setCell (p := ⟨w.heap.size + 1, 3, none⟩) (.inl rfl) _)
      have HKMn : Hid (Blk w5 (w.heap.size + 1) 37 #[.int .i64 2, .int .i64 0, .slice none 0 0, .int .i64 4, .int .i64 0, .int .i64 0, .slice none 0 0, .slice none 0 0, .int .i64 0, .int .i64 0, .int .i64 0, .int .i64 0]) := Lib.hid (by rw [hws]; exact ((HKM.out.set_ 3 _)).eq (by simp))
      have hs_5 := hcs.size
      have HCn := Lib.hid (HC.out.chg hcs (by rintro _ rfl; omega) (by omega))
      clear HC
      have HC := HCn
      clear HCn
      replace HKR := Lib.hid ((HKR.out).chg hcs (by omega))
      replace HG := Lib.hid (HG.out.then_ hcs (by rintro i hi rfl; omega))
      replace HE := Lib.hid ((HE.out).chg hcs (by rintro _ rfl; omega))
      rw [← hws]
      clear hws hcs HKM
      have HKM := HKMn
      clear HKMn
      (try clear k_HKR f_HKR k_HKM f_HKM)
      obtain ⟨k_HKR, f_HKR⟩ := HKR.out.rules
      have l_HKR := HKR.out.lt
      obtain ⟨k_HKM, f_HKM⟩ := HKM.out.rules
      have l_HKM := HKM.out.lt
      go_wp2_with fail
      refine (spec_l1Below_calls W0 g _ _ HC.out).mono ?_
      rintro e w6 ⟨v, hv0, hv1, rfl, hc_, hg_⟩
      have hs_6 := hg_.size
      (try simp only [size_alloc] at hs_6)
      have HCn := Lib.hid (hc_)
      clear HC
      have HC := HCn
      clear HCn
      replace HKR := Lib.hid ((HKR.out).chg hg_ (by omega))
      replace HKM := Lib.hid ((HKM.out).chg hg_ (by omega))
      replace HG := Lib.hid ((HG.out).trans hg_)
      replace HE := Lib.hid ((HE.out).chg hg_ (by rintro _ rfl; omega))
      clear hc_ hg_
      (try clear k_HKR f_HKR k_HKM f_HKM)
      obtain ⟨k_HKR, f_HKR⟩ := HKR.out.rules
      have l_HKR := HKR.out.lt
      obtain ⟨k_HKM, f_HKM⟩ := HKM.out.rules
      have l_HKM := HKM.out.lt
      replace hv1 := hv1 (by omega)
      go_wp2_with fail
      refine (spec_IntValue_calls _ hv0 (by omega) _).mono ?_
      rintro e w7 ⟨rfl, hb_⟩
      have hs_7 := hb_.size
      have HCn := Lib.hid (HC.out.below hb_)
      clear HC
      have HC := HCn
      clear HCn
      replace HKR := Lib.hid ((HKR.out).below hb_)
      replace HKM := Lib.hid ((HKM.out).below hb_)
      replace HG := Lib.hid (HG.out.trans (Chg.of_below hb_ _))
      replace HE := Lib.hid (HE.out.below hb_)
      clear hb_
      (try clear k_HKR f_HKR k_HKM f_HKM)
      obtain ⟨k_HKR, f_HKR⟩ := HKR.out.rules
      have l_HKR := HKR.out.lt
      obtain ⟨k_HKM, f_HKM⟩ := HKM.out.rules
      have l_HKM := HKM.out.lt
      go_wp2_with fail
      obtain ⟨w8, hws⟩ : ∃ ws, ws = ((w7.setCell ⟨w.heap.size + 1, 4, none⟩ (.int .i64 0)).setCell ⟨w.heap.size + 1, 5, none⟩ (.int .i64 v)) := ⟨_, rfl⟩
      have hcs : Chg (· = (w.heap.size + 1)) w7 w8 := by rw [hws]; exact (((Chg.refl (· = (w.heap.size + 1)) w7).setCell (p := ⟨w.heap.size + 1, 4, none⟩) (.inl rfl) _).setCell (p := ⟨w.heap.size + 1, 5, none⟩) (.inl rfl) _)
      have HKMn : Hid (Blk w8 (w.heap.size + 1) 37 #[.int .i64 2, .int .i64 0, .slice none 0 0, .int .i64 4, .int .i64 0, .int .i64 v, .slice none 0 0, .slice none 0 0, .int .i64 0, .int .i64 0, .int .i64 0, .int .i64 0]) := Lib.hid (by rw [hws]; exact (((HKM.out.set_ 4 _).set_ 5 _)).eq (by simp))
      have hs_8 := hcs.size
      have HCn := Lib.hid (HC.out.chg hcs (by rintro _ rfl; omega) (by omega))
      clear HC
      have HC := HCn
      clear HCn
      replace HKR := Lib.hid ((HKR.out).chg hcs (by omega))
      replace HG := Lib.hid (HG.out.then_ hcs (by rintro i hi rfl; omega))
      replace HE := Lib.hid ((HE.out).chg hcs (by rintro _ rfl; omega))
      rw [← hws]
      clear hws hcs HKM
      have HKM := HKMn
      clear HKMn
      (try clear k_HKR f_HKR k_HKM f_HKM)
      obtain ⟨k_HKR, f_HKR⟩ := HKR.out.rules
      have l_HKR := HKR.out.lt
      obtain ⟨k_HKM, f_HKM⟩ := HKM.out.rules
      have l_HKM := HKM.out.lt
      go_wp2_with fail
      refine (spec_l1Below_calls W0 g _ _ HC.out).mono ?_
      rintro e w9 ⟨p, hp0, hp1, rfl, hc_, hg_⟩
      have hs_9 := hg_.size
      (try simp only [size_alloc] at hs_9)
      have HCn := Lib.hid (hc_)
      clear HC
      have HC := HCn
      clear HCn
      replace HKR := Lib.hid ((HKR.out).chg hg_ (by omega))
      replace HKM := Lib.hid ((HKM.out).chg hg_ (by omega))
      replace HG := Lib.hid ((HG.out).trans hg_)
      replace HE := Lib.hid ((HE.out).chg hg_ (by rintro _ rfl; omega))
      clear hc_ hg_
      (try clear k_HKR f_HKR k_HKM f_HKM)
      obtain ⟨k_HKR, f_HKR⟩ := HKR.out.rules
      have l_HKR := HKR.out.lt
      obtain ⟨k_HKM, f_HKM⟩ := HKM.out.rules
      have l_HKM := HKM.out.lt
      replace hp1 := hp1 (by omega)
      go_wp2_with fail
      obtain ⟨w10, hws⟩ : ∃ ws, ws = (w9.setCell ⟨w.heap.size + 1, 8, none⟩ (.int .i64 (1 + p))) := ⟨_, rfl⟩
      have hcs : Chg (· = (w.heap.size + 1)) w9 w10 := by rw [hws]; exact ((Chg.refl (· = (w.heap.size + 1)) w9).setCell (p := ⟨w.heap.size + 1, 8, none⟩) (.inl rfl) _)
      have HKMn : Hid (Blk w10 (w.heap.size + 1) 37 #[.int .i64 2, .int .i64 0, .slice none 0 0, .int .i64 4, .int .i64 0, .int .i64 v, .slice none 0 0, .slice none 0 0, .int .i64 (1 + p), .int .i64 0, .int .i64 0, .int .i64 0]) := Lib.hid (by rw [hws]; exact ((HKM.out.set_ 8 _)).eq (by simp))
      have hs_10 := hcs.size
      have HCn := Lib.hid (HC.out.chg hcs (by rintro _ rfl; omega) (by omega))
      clear HC
      have HC := HCn
      clear HCn
      replace HKR := Lib.hid ((HKR.out).chg hcs (by omega))
      replace HG := Lib.hid (HG.out.then_ hcs (by rintro i hi rfl; omega))
      replace HE := Lib.hid ((HE.out).chg hcs (by rintro _ rfl; omega))
      rw [← hws]
      clear hws hcs HKM
      have HKM := HKMn
      clear HKMn
      (try clear k_HKR f_HKR k_HKM f_HKM)
      obtain ⟨k_HKR, f_HKR⟩ := HKR.out.rules
      have l_HKR := HKR.out.lt
      obtain ⟨k_HKM, f_HKM⟩ := HKM.out.rules
      have l_HKM := HKM.out.lt
      go_wp2_with fail
      refine (spec_l1Below_calls W0 g _ _ HC.out).mono ?_
      rintro e w11 ⟨q, hq0, hq1, rfl, hc_, hg_⟩
      have hs_11 := hg_.size
      (try simp only [size_alloc] at hs_11)
      have HCn := Lib.hid (hc_)
      clear HC
      have HC := HCn
      clear HCn
      replace HKR := Lib.hid ((HKR.out).chg hg_ (by omega))
      replace HKM := Lib.hid ((HKM.out).chg hg_ (by omega))
      replace HG := Lib.hid ((HG.out).trans hg_)
      replace HE := Lib.hid ((HE.out).chg hg_ (by rintro _ rfl; omega))
      clear hc_ hg_
      (try clear k_HKR f_HKR k_HKM f_HKM)
      obtain ⟨k_HKR, f_HKR⟩ := HKR.out.rules
      have l_HKR := HKR.out.lt
      obtain ⟨k_HKM, f_HKM⟩ := HKM.out.rules
      have l_HKM := HKM.out.lt
      replace hq1 := hq1 (by omega)
      go_wp2_with fail
      obtain ⟨w12, hws⟩ : ∃ ws, ws = (w11.setCell ⟨w.heap.size + 1, 9, none⟩ (.int .i64 (1 + q))) := ⟨_, rfl⟩
      have hcs : Chg (· = (w.heap.size + 1)) w11 w12 := by rw [hws]; exact ((Chg.refl (· = (w.heap.size + 1)) w11).setCell (p := ⟨w.heap.size + 1, 9, none⟩) (.inl rfl) _)
      have HKMn : Hid (Blk w12 (w.heap.size + 1) 37 #[.int .i64 2, .int .i64 0, .slice none 0 0, .int .i64 4, .int .i64 0, .int .i64 v, .slice none 0 0, .slice none 0 0, .int .i64 (1 + p), .int .i64 (1 + q), .int .i64 0, .int .i64 0]) := Lib.hid (by rw [hws]; exact ((HKM.out.set_ 9 _)).eq (by simp))
      have hs_12 := hcs.size
      have HCn := Lib.hid (HC.out.chg hcs (by rintro _ rfl; omega) (by omega))
      clear HC
      have HC := HCn
      clear HCn
      replace HKR := Lib.hid ((HKR.out).chg hcs (by omega))
      replace HG := Lib.hid (HG.out.then_ hcs (by rintro i hi rfl; omega))
      replace HE := Lib.hid ((HE.out).chg hcs (by rintro _ rfl; omega))
      rw [← hws]
      clear hws hcs HKM
      have HKM := HKMn
      clear HKMn
      (try clear k_HKR f_HKR k_HKM f_HKM)
      obtain ⟨k_HKR, f_HKR⟩ := HKR.out.rules
      have l_HKR := HKR.out.lt
      obtain ⟨k_HKM, f_HKM⟩ := HKM.out.rules
      have l_HKM := HKM.out.lt
      go_meet
      case rel => exact ⟨⟨2, 0, [], 4, ⟨0, v⟩, [], [], 1 + p, 1 + q, 0, 0⟩, .slice none 0 0, .slice none 0 0, .slice none 0 0, HKM.out, HKR.out, HE.out, smallE_nil rfl rfl rfl, HC.out, HG.out⟩
    omega
  case rest =>
    clear HC HKR HKM HG HE k_HKR f_HKR l_HKR k_HKM f_HKM l_HKM
    obtain ⟨x, v2, v6, v7, hkm, hkr, hent, hsm, hcu, hch⟩ := hcut
    have hent2 := hent
    obtain ⟨f2, f6, f7, o2, o6, o7, -⟩ := hent2
    obtain ⟨A2, c2, rfl, -⟩ := o2.slice
    obtain ⟨A6, c6, rfl, -⟩ := o6.slice
    obtain ⟨A7, c7, rfl, -⟩ := o7.slice
    have HKM : Hid (Blk wc (w.heap.size + 1) 37 #[.int .i64 x.Kind, .int .i64 x.Script, .slice A2 x.Slots.length c2, .int .i64 x.State, .int .i64 x.Value.Kind, .int .i64 x.Value.N, .slice A6 x.Queue.length c6, .slice A7 x.Askers.length c7, .int .i64 x.Peer, .int .i64 x.Pos, .int .i64 x.Count, .int .i64 x.Sent]) := hkm
    have HKR := Lib.hid hkr
    have HE := Lib.hid hent
    have HSM := Lib.hid hsm
    have HC := Lib.hid hcu
    have HG := Lib.hid hch
    have hs_0 := hch.size
    have hlm := hkm.lt
    clear hkm hkr hent hsm hcu hch o2 o6 o7
    (try clear k_HKR f_HKR k_HKM f_HKM)
    obtain ⟨k_HKR, f_HKR⟩ := HKR.out.rules
    have l_HKR := HKR.out.lt
    obtain ⟨k_HKM, f_HKM⟩ := HKM.out.rules
    have l_HKM := HKM.out.lt
    have EX : Hid (∀ (wl : World) (y : GEntity) (v2 v6 v7 : Value), EntS (w.heap.size + 2) wl y.Slots y.Queue y.Askers v2 v6 v7 → SmallE y → Cur W0 g wl → Chg (· = g) w wl → ∀ W, Chg (fun k => k = w.heap.size) wl W → ∃ (x : GEntity) (u2 u6 u7 : Value), Ending.returned (.agg (entC y v2 v6 v7)) = .returned (.agg (entC x u2 u6 u7)) ∧ EntS (w.heap.size + 2) W x.Slots x.Queue x.Askers u2 u6 u7 ∧ SmallE x ∧ Cur W0 g W ∧ Chg (· = g) w W) := by
      intro wl y v2 v6 v7 h1 h2 h3 h4 W h5
      exact ⟨y, v2, v6, v7, rfl, h1.chg h5 (by rintro _ rfl; omega), h2, h3.chg h5 (by rintro _ rfl; exact hW0) (by omega), h4.then_ h5 (by rintro i hi rfl; omega)⟩
    go_wp2_with fail
    refine (spec_l1Below_calls W0 g _ _ HC.out).mono ?_
    rintro e w1 ⟨r, hr0, hr1, rfl, hc_, hg_⟩
    have hs_1 := hg_.size
    (try simp only [size_alloc] at hs_1)
    have HCn := Lib.hid (hc_)
    clear HC
    have HC := HCn
    clear HCn
    replace HKR := Lib.hid ((HKR.out).chg hg_ (by omega))
    replace HKM := Lib.hid ((HKM.out).chg hg_ (by omega))
    replace HG := Lib.hid ((HG.out).trans hg_)
    replace HE := Lib.hid ((HE.out).chg hg_ (by rintro _ rfl; omega))
    clear hc_ hg_
    (try clear k_HKR f_HKR k_HKM f_HKM)
    obtain ⟨k_HKR, f_HKR⟩ := HKR.out.rules
    have l_HKR := HKR.out.lt
    obtain ⟨k_HKM, f_HKM⟩ := HKM.out.rules
    have l_HKM := HKM.out.lt
    replace hr1 := hr1 (by omega)
    by_cases r0 : r = 0
    · skip
      go_wp2_with fail
      refine (spec_l1Int_calls W0 g [-1, 5, 999999, 1000000] _ _ (HC.out.below ((Below.refl _ _).alloc (Nat.le_refl _) _)) (by simp) (rdW_lit vals_eInt w1 _ 3 (by simp)) (fun A n c h => HGN.out w1 A n c _ _ HC.out.lt h)).mono ?_
      rintro e w2 ⟨v, hv, rfl, hc_, hg_⟩
      have hs_2 := hg_.size
      (try simp only [size_alloc] at hs_2)
      have HCn := Lib.hid (hc_)
      clear HC
      have HC := HCn
      clear HCn
      replace HKR := Lib.hid ((HKR.out.alloc _).chg hg_ (by omega))
      replace HKM := Lib.hid ((HKM.out.alloc _).chg hg_ (by omega))
      replace HG := Lib.hid ((HG.out.alloc _).trans hg_)
      replace HE := Lib.hid ((HE.out.alloc _).chg hg_ (by rintro _ rfl; omega))
      clear hc_ hg_
      (try clear k_HKR f_HKR k_HKM f_HKM)
      obtain ⟨k_HKR, f_HKR⟩ := HKR.out.rules
      have l_HKR := HKR.out.lt
      obtain ⟨k_HKM, f_HKM⟩ := HKM.out.rules
      have l_HKM := HKM.out.lt
      go_upto_region 28 with fail
      obtain ⟨w3, hws⟩ : ∃ ws, ws = (w2.setCell ⟨w.heap.size + 1, 11, none⟩ (.int .i64 v)) := ⟨_, rfl⟩
      have hcs : Chg (· = (w.heap.size + 1)) w2 w3 := by rw [hws]; exact ((Chg.refl (· = (w.heap.size + 1)) w2).setCell (p := ⟨w.heap.size + 1, 11, none⟩) (.inl rfl) _)
      have HKMn : Hid (Blk w3 (w.heap.size + 1) 37 #[.int .i64 x.Kind, .int .i64 x.Script, .slice A2 x.Slots.length c2, .int .i64 x.State, .int .i64 x.Value.Kind, .int .i64 x.Value.N, .slice A6 x.Queue.length c6, .slice A7 x.Askers.length c7, .int .i64 x.Peer, .int .i64 x.Pos, .int .i64 x.Count, .int .i64 v]) := Lib.hid (by rw [hws]; exact ((HKM.out.set_ 11 _)).eq (by simp))
      have hs_3 := hcs.size
      have HCn := Lib.hid (HC.out.chg hcs (by rintro _ rfl; omega) (by omega))
      clear HC
      have HC := HCn
      clear HCn
      replace HKR := Lib.hid ((HKR.out).chg hcs (by omega))
      replace HG := Lib.hid (HG.out.then_ hcs (by rintro i hi rfl; omega))
      replace HE := Lib.hid ((HE.out).chg hcs (by rintro _ rfl; omega))
      rw [← hws]
      clear hws hcs HKM
      have HKM := HKMn
      clear HKMn
      (try clear k_HKR f_HKR k_HKM f_HKM)
      obtain ⟨k_HKR, f_HKR⟩ := HKR.out.rules
      have l_HKR := HKR.out.lt
      obtain ⟨k_HKM, f_HKM⟩ := HKM.out.rules
      have l_HKM := HKM.out.lt
      go_wp2
      refine post_cell (w0 := w3) (fun k => k = w.heap.size) Try.results46 w.heap.size #[.int .i64 x.Kind, .int .i64 x.Script, .slice A2 x.Slots.length c2, .int .i64 x.State, .int .i64 x.Value.Kind, .int .i64 x.Value.N, .slice A6 x.Queue.length c6, .slice A7 x.Askers.length c7, .int .i64 x.Peer, .int .i64 x.Pos, .int .i64 x.Count, .int .i64 v] _ rfl (Blk.eq ((((((((((((HKR.out.set_ 0 (.int .i64 x.Kind)).set_ 1 (.int .i64 x.Script)).set_ 2 (.slice A2 x.Slots.length c2)).set_ 3 (.int .i64 x.State)).set_ 4 (.int .i64 x.Value.Kind)).set_ 5 (.int .i64 x.Value.N)).set_ 6 (.slice A6 x.Queue.length c6)).set_ 7 (.slice A7 x.Askers.length c7)).set_ 8 (.int .i64 x.Peer)).set_ 9 (.int .i64 x.Pos)).set_ 10 (.int .i64 x.Count)).set_ 11 (.int .i64 v)) (by simp)) Try.underlying37 rfl (by kernel_rfl) rfl (((((((((((((Chg.refl (· = w.heap.size) _).setCell (p := ⟨w.heap.size, 0, none⟩) (.inl rfl) (.int .i64 x.Kind)).setCell (p := ⟨w.heap.size, 1, none⟩) (.inl rfl) (.int .i64 x.Script)).setCell (p := ⟨w.heap.size, 2, none⟩) (.inl rfl) (.slice A2 x.Slots.length c2)).setCell (p := ⟨w.heap.size, 3, none⟩) (.inl rfl) (.int .i64 x.State)).setCell (p := ⟨w.heap.size, 4, none⟩) (.inl rfl) (.int .i64 x.Value.Kind)).setCell (p := ⟨w.heap.size, 5, none⟩) (.inl rfl) (.int .i64 x.Value.N)).setCell (p := ⟨w.heap.size, 6, none⟩) (.inl rfl) (.slice A6 x.Queue.length c6)).setCell (p := ⟨w.heap.size, 7, none⟩) (.inl rfl) (.slice A7 x.Askers.length c7)).setCell (p := ⟨w.heap.size, 8, none⟩) (.inl rfl) (.int .i64 x.Peer)).setCell (p := ⟨w.heap.size, 9, none⟩) (.inl rfl) (.int .i64 x.Pos)).setCell (p := ⟨w.heap.size, 10, none⟩) (.inl rfl) (.int .i64 x.Count)).setCell (p := ⟨w.heap.size, 11, none⟩) (.inl rfl) (.int .i64 v)) (EX.out w3 ⟨x.Kind, x.Script, x.Slots, x.State, x.Value, x.Queue, x.Askers, x.Peer, x.Pos, x.Count, v⟩ (.slice A2 x.Slots.length c2) (.slice A6 x.Queue.length c6) (.slice A7 x.Askers.length c7) HE.out HSM.out HC.out HG.out)
    by_cases r1 : r = 1
    · skip
      go_wp2_with fail
      refine (spec_l1Int_calls W0 g [0, 1, 2] _ _ (HC.out.below ((Below.refl _ _).alloc (Nat.le_refl _) _)) (by simp) (rdW_lit vals_eInt w1 _ 3 (by simp)) (fun A n c h => HGN.out w1 A n c _ _ HC.out.lt h)).mono ?_
      rintro e w2 ⟨v, hv, rfl, hc_, hg_⟩
      have hs_2 := hg_.size
      (try simp only [size_alloc] at hs_2)
      have HCn := Lib.hid (hc_)
      clear HC
      have HC := HCn
      clear HCn
      replace HKR := Lib.hid ((HKR.out.alloc _).chg hg_ (by omega))
      replace HKM := Lib.hid ((HKM.out.alloc _).chg hg_ (by omega))
      replace HG := Lib.hid ((HG.out.alloc _).trans hg_)
      replace HE := Lib.hid ((HE.out.alloc _).chg hg_ (by rintro _ rfl; omega))
      clear hc_ hg_
      (try clear k_HKR f_HKR k_HKM f_HKM)
      obtain ⟨k_HKR, f_HKR⟩ := HKR.out.rules
      have l_HKR := HKR.out.lt
      obtain ⟨k_HKM, f_HKM⟩ := HKM.out.rules
      have l_HKM := HKM.out.lt
      go_upto_region 28 with fail
      obtain ⟨w3, hws⟩ : ∃ ws, ws = (w2.setCell ⟨w.heap.size + 1, 10, none⟩ (.int .i64 v)) := ⟨_, rfl⟩
      have hcs : Chg (· = (w.heap.size + 1)) w2 w3 := by rw [hws]; exact ((Chg.refl (· = (w.heap.size + 1)) w2).setCell (p := ⟨w.heap.size + 1, 10, none⟩) (.inl rfl) _)
      have HKMn : Hid (Blk w3 (w.heap.size + 1) 37 #[.int .i64 x.Kind, .int .i64 x.Script, .slice A2 x.Slots.length c2, .int .i64 x.State, .int .i64 x.Value.Kind, .int .i64 x.Value.N, .slice A6 x.Queue.length c6, .slice A7 x.Askers.length c7, .int .i64 x.Peer, .int .i64 x.Pos, .int .i64 v, .int .i64 x.Sent]) := Lib.hid (by rw [hws]; exact ((HKM.out.set_ 10 _)).eq (by simp))
      have hs_3 := hcs.size
      have HCn := Lib.hid (HC.out.chg hcs (by rintro _ rfl; omega) (by omega))
      clear HC
      have HC := HCn
      clear HCn
      replace HKR := Lib.hid ((HKR.out).chg hcs (by omega))
      replace HG := Lib.hid (HG.out.then_ hcs (by rintro i hi rfl; omega))
      replace HE := Lib.hid ((HE.out).chg hcs (by rintro _ rfl; omega))
      rw [← hws]
      clear hws hcs HKM
      have HKM := HKMn
      clear HKMn
      (try clear k_HKR f_HKR k_HKM f_HKM)
      obtain ⟨k_HKR, f_HKR⟩ := HKR.out.rules
      have l_HKR := HKR.out.lt
      obtain ⟨k_HKM, f_HKM⟩ := HKM.out.rules
      have l_HKM := HKM.out.lt
      go_wp2
      refine post_cell (w0 := w3) (fun k => k = w.heap.size) Try.results46 w.heap.size #[.int .i64 x.Kind, .int .i64 x.Script, .slice A2 x.Slots.length c2, .int .i64 x.State, .int .i64 x.Value.Kind, .int .i64 x.Value.N, .slice A6 x.Queue.length c6, .slice A7 x.Askers.length c7, .int .i64 x.Peer, .int .i64 x.Pos, .int .i64 v, .int .i64 x.Sent] _ rfl (Blk.eq ((((((((((((HKR.out.set_ 0 (.int .i64 x.Kind)).set_ 1 (.int .i64 x.Script)).set_ 2 (.slice A2 x.Slots.length c2)).set_ 3 (.int .i64 x.State)).set_ 4 (.int .i64 x.Value.Kind)).set_ 5 (.int .i64 x.Value.N)).set_ 6 (.slice A6 x.Queue.length c6)).set_ 7 (.slice A7 x.Askers.length c7)).set_ 8 (.int .i64 x.Peer)).set_ 9 (.int .i64 x.Pos)).set_ 10 (.int .i64 v)).set_ 11 (.int .i64 x.Sent)) (by simp)) Try.underlying37 rfl (by kernel_rfl) rfl (((((((((((((Chg.refl (· = w.heap.size) _).setCell (p := ⟨w.heap.size, 0, none⟩) (.inl rfl) (.int .i64 x.Kind)).setCell (p := ⟨w.heap.size, 1, none⟩) (.inl rfl) (.int .i64 x.Script)).setCell (p := ⟨w.heap.size, 2, none⟩) (.inl rfl) (.slice A2 x.Slots.length c2)).setCell (p := ⟨w.heap.size, 3, none⟩) (.inl rfl) (.int .i64 x.State)).setCell (p := ⟨w.heap.size, 4, none⟩) (.inl rfl) (.int .i64 x.Value.Kind)).setCell (p := ⟨w.heap.size, 5, none⟩) (.inl rfl) (.int .i64 x.Value.N)).setCell (p := ⟨w.heap.size, 6, none⟩) (.inl rfl) (.slice A6 x.Queue.length c6)).setCell (p := ⟨w.heap.size, 7, none⟩) (.inl rfl) (.slice A7 x.Askers.length c7)).setCell (p := ⟨w.heap.size, 8, none⟩) (.inl rfl) (.int .i64 x.Peer)).setCell (p := ⟨w.heap.size, 9, none⟩) (.inl rfl) (.int .i64 x.Pos)).setCell (p := ⟨w.heap.size, 10, none⟩) (.inl rfl) (.int .i64 v)).setCell (p := ⟨w.heap.size, 11, none⟩) (.inl rfl) (.int .i64 x.Sent)) (EX.out w3 ⟨x.Kind, x.Script, x.Slots, x.State, x.Value, x.Queue, x.Askers, x.Peer, x.Pos, v, x.Sent⟩ (.slice A2 x.Slots.length c2) (.slice A6 x.Queue.length c6) (.slice A7 x.Askers.length c7) HE.out HSM.out HC.out HG.out)
    by_cases r2 : r = 2
    · skip
      go_wp2_with fail
      refine (spec_l4Any_calls W0 g _ HC.out).mono ?_
      rintro e w2 ⟨y, rfl, hc_, hg_⟩
      have hs_2 := hg_.size
      (try simp only [size_alloc] at hs_2)
      have HCn := Lib.hid (hc_)
      clear HC
      have HC := HCn
      clear HCn
      replace HKR := Lib.hid ((HKR.out).chg hg_ (by omega))
      replace HKM := Lib.hid ((HKM.out).chg hg_ (by omega))
      replace HG := Lib.hid ((HG.out).trans hg_)
      replace HE := Lib.hid ((HE.out).chg hg_ (by rintro _ rfl; omega))
      clear hc_ hg_
      (try clear k_HKR f_HKR k_HKM f_HKM)
      obtain ⟨k_HKR, f_HKR⟩ := HKR.out.rules
      have l_HKR := HKR.out.lt
      obtain ⟨k_HKM, f_HKM⟩ := HKM.out.rules
      have l_HKM := HKM.out.lt
      go_upto_region 28 with fail
      obtain ⟨w3, hws⟩ : ∃ ws, ws = ((w2.setCell ⟨w.heap.size + 1, 4, none⟩ (.int .i64 y.Kind)).setCell ⟨w.heap.size + 1, 5, none⟩ (.int .i64 y.N)) := ⟨_, rfl⟩
      have hcs : Chg (· = (w.heap.size + 1)) w2 w3 := by rw [hws]; exact (((Chg.refl (· = (w.heap.size + 1)) w2).setCell (p := ⟨w.heap.size + 1, 4, none⟩) (.inl rfl) _).setCell (p := ⟨w.heap.size + 1, 5, none⟩) (.inl rfl) _)
      have HKMn : Hid (Blk w3 (w.heap.size + 1) 37 #[.int .i64 x.Kind, .int .i64 x.Script, .slice A2 x.Slots.length c2, .int .i64 x.State, .int .i64 y.Kind, .int .i64 y.N, .slice A6 x.Queue.length c6, .slice A7 x.Askers.length c7, .int .i64 x.Peer, .int .i64 x.Pos, .int .i64 x.Count, .int .i64 x.Sent]) := Lib.hid (by rw [hws]; exact (((HKM.out.set_ 4 _).set_ 5 _)).eq (by simp))
      have hs_3 := hcs.size
      have HCn := Lib.hid (HC.out.chg hcs (by rintro _ rfl; omega) (by omega))
      clear HC
      have HC := HCn
      clear HCn
      replace HKR := Lib.hid ((HKR.out).chg hcs (by omega))
      replace HG := Lib.hid (HG.out.then_ hcs (by rintro i hi rfl; omega))
      replace HE := Lib.hid ((HE.out).chg hcs (by rintro _ rfl; omega))
      rw [← hws]
      clear hws hcs HKM
      have HKM := HKMn
      clear HKMn
      (try clear k_HKR f_HKR k_HKM f_HKM)
      obtain ⟨k_HKR, f_HKR⟩ := HKR.out.rules
      have l_HKR := HKR.out.lt
      obtain ⟨k_HKM, f_HKM⟩ := HKM.out.rules
      have l_HKM := HKM.out.lt
      go_wp2
      refine post_cell (w0 := w3) (fun k => k = w.heap.size) Try.results46 w.heap.size #[.int .i64 x.Kind, .int .i64 x.Script, .slice A2 x.Slots.length c2, .int .i64 x.State, .int .i64 y.Kind, .int .i64 y.N, .slice A6 x.Queue.length c6, .slice A7 x.Askers.length c7, .int .i64 x.Peer, .int .i64 x.Pos, .int .i64 x.Count, .int .i64 x.Sent] _ rfl (Blk.eq ((((((((((((HKR.out.set_ 0 (.int .i64 x.Kind)).set_ 1 (.int .i64 x.Script)).set_ 2 (.slice A2 x.Slots.length c2)).set_ 3 (.int .i64 x.State)).set_ 4 (.int .i64 y.Kind)).set_ 5 (.int .i64 y.N)).set_ 6 (.slice A6 x.Queue.length c6)).set_ 7 (.slice A7 x.Askers.length c7)).set_ 8 (.int .i64 x.Peer)).set_ 9 (.int .i64 x.Pos)).set_ 10 (.int .i64 x.Count)).set_ 11 (.int .i64 x.Sent)) (by simp)) Try.underlying37 rfl (by kernel_rfl) rfl (((((((((((((Chg.refl (· = w.heap.size) _).setCell (p := ⟨w.heap.size, 0, none⟩) (.inl rfl) (.int .i64 x.Kind)).setCell (p := ⟨w.heap.size, 1, none⟩) (.inl rfl) (.int .i64 x.Script)).setCell (p := ⟨w.heap.size, 2, none⟩) (.inl rfl) (.slice A2 x.Slots.length c2)).setCell (p := ⟨w.heap.size, 3, none⟩) (.inl rfl) (.int .i64 x.State)).setCell (p := ⟨w.heap.size, 4, none⟩) (.inl rfl) (.int .i64 y.Kind)).setCell (p := ⟨w.heap.size, 5, none⟩) (.inl rfl) (.int .i64 y.N)).setCell (p := ⟨w.heap.size, 6, none⟩) (.inl rfl) (.slice A6 x.Queue.length c6)).setCell (p := ⟨w.heap.size, 7, none⟩) (.inl rfl) (.slice A7 x.Askers.length c7)).setCell (p := ⟨w.heap.size, 8, none⟩) (.inl rfl) (.int .i64 x.Peer)).setCell (p := ⟨w.heap.size, 9, none⟩) (.inl rfl) (.int .i64 x.Pos)).setCell (p := ⟨w.heap.size, 10, none⟩) (.inl rfl) (.int .i64 x.Count)).setCell (p := ⟨w.heap.size, 11, none⟩) (.inl rfl) (.int .i64 x.Sent)) (EX.out w3 ⟨x.Kind, x.Script, x.Slots, x.State, y, x.Queue, x.Askers, x.Peer, x.Pos, x.Count, x.Sent⟩ (.slice A2 x.Slots.length c2) (.slice A6 x.Queue.length c6) (.slice A7 x.Askers.length c7) HE.out HSM.out HC.out HG.out)
    by_cases r3 : r = 3
    · skip
      go_wp2_with fail
      refine (spec_l1Below_calls W0 g _ _ HC.out).mono ?_
      rintro e w2 ⟨v, hv0, hv1, rfl, hc_, hg_⟩
      have hs_2 := hg_.size
      (try simp only [size_alloc] at hs_2)
      have HCn := Lib.hid (hc_)
      clear HC
      have HC := HCn
      clear HCn
      replace HKR := Lib.hid ((HKR.out).chg hg_ (by omega))
      replace HKM := Lib.hid ((HKM.out).chg hg_ (by omega))
      replace HG := Lib.hid ((HG.out).trans hg_)
      replace HE := Lib.hid ((HE.out).chg hg_ (by rintro _ rfl; omega))
      clear hc_ hg_
      (try clear k_HKR f_HKR k_HKM f_HKM)
      obtain ⟨k_HKR, f_HKR⟩ := HKR.out.rules
      have l_HKR := HKR.out.lt
      obtain ⟨k_HKM, f_HKM⟩ := HKM.out.rules
      have l_HKM := HKM.out.lt
      replace hv1 := hv1 (by omega)
      go_upto_region 28 with fail
      obtain ⟨w3, hws⟩ : ∃ ws, ws = (w2.setCell ⟨w.heap.size + 1, 0, none⟩ (.int .i64 v)) := ⟨_, rfl⟩
      have hcs : Chg (· = (w.heap.size + 1)) w2 w3 := by rw [hws]; exact ((Chg.refl (· = (w.heap.size + 1)) w2).setCell (p := ⟨w.heap.size + 1, 0, none⟩) (.inl rfl) _)
      have HKMn : Hid (Blk w3 (w.heap.size + 1) 37 #[.int .i64 v, .int .i64 x.Script, .slice A2 x.Slots.length c2, .int .i64 x.State, .int .i64 x.Value.Kind, .int .i64 x.Value.N, .slice A6 x.Queue.length c6, .slice A7 x.Askers.length c7, .int .i64 x.Peer, .int .i64 x.Pos, .int .i64 x.Count, .int .i64 x.Sent]) := Lib.hid (by rw [hws]; exact ((HKM.out.set_ 0 _)).eq (by simp))
      have hs_3 := hcs.size
      have HCn := Lib.hid (HC.out.chg hcs (by rintro _ rfl; omega) (by omega))
      clear HC
      have HC := HCn
      clear HCn
      replace HKR := Lib.hid ((HKR.out).chg hcs (by omega))
      replace HG := Lib.hid (HG.out.then_ hcs (by rintro i hi rfl; omega))
      replace HE := Lib.hid ((HE.out).chg hcs (by rintro _ rfl; omega))
      rw [← hws]
      clear hws hcs HKM
      have HKM := HKMn
      clear HKMn
      (try clear k_HKR f_HKR k_HKM f_HKM)
      obtain ⟨k_HKR, f_HKR⟩ := HKR.out.rules
      have l_HKR := HKR.out.lt
      obtain ⟨k_HKM, f_HKM⟩ := HKM.out.rules
      have l_HKM := HKM.out.lt
      go_wp2
      refine post_cell (w0 := w3) (fun k => k = w.heap.size) Try.results46 w.heap.size #[.int .i64 v, .int .i64 x.Script, .slice A2 x.Slots.length c2, .int .i64 x.State, .int .i64 x.Value.Kind, .int .i64 x.Value.N, .slice A6 x.Queue.length c6, .slice A7 x.Askers.length c7, .int .i64 x.Peer, .int .i64 x.Pos, .int .i64 x.Count, .int .i64 x.Sent] _ rfl (Blk.eq ((((((((((((HKR.out.set_ 0 (.int .i64 v)).set_ 1 (.int .i64 x.Script)).set_ 2 (.slice A2 x.Slots.length c2)).set_ 3 (.int .i64 x.State)).set_ 4 (.int .i64 x.Value.Kind)).set_ 5 (.int .i64 x.Value.N)).set_ 6 (.slice A6 x.Queue.length c6)).set_ 7 (.slice A7 x.Askers.length c7)).set_ 8 (.int .i64 x.Peer)).set_ 9 (.int .i64 x.Pos)).set_ 10 (.int .i64 x.Count)).set_ 11 (.int .i64 x.Sent)) (by simp)) Try.underlying37 rfl (by kernel_rfl) rfl (((((((((((((Chg.refl (· = w.heap.size) _).setCell (p := ⟨w.heap.size, 0, none⟩) (.inl rfl) (.int .i64 v)).setCell (p := ⟨w.heap.size, 1, none⟩) (.inl rfl) (.int .i64 x.Script)).setCell (p := ⟨w.heap.size, 2, none⟩) (.inl rfl) (.slice A2 x.Slots.length c2)).setCell (p := ⟨w.heap.size, 3, none⟩) (.inl rfl) (.int .i64 x.State)).setCell (p := ⟨w.heap.size, 4, none⟩) (.inl rfl) (.int .i64 x.Value.Kind)).setCell (p := ⟨w.heap.size, 5, none⟩) (.inl rfl) (.int .i64 x.Value.N)).setCell (p := ⟨w.heap.size, 6, none⟩) (.inl rfl) (.slice A6 x.Queue.length c6)).setCell (p := ⟨w.heap.size, 7, none⟩) (.inl rfl) (.slice A7 x.Askers.length c7)).setCell (p := ⟨w.heap.size, 8, none⟩) (.inl rfl) (.int .i64 x.Peer)).setCell (p := ⟨w.heap.size, 9, none⟩) (.inl rfl) (.int .i64 x.Pos)).setCell (p := ⟨w.heap.size, 10, none⟩) (.inl rfl) (.int .i64 x.Count)).setCell (p := ⟨w.heap.size, 11, none⟩) (.inl rfl) (.int .i64 x.Sent)) (EX.out w3 ⟨v, x.Script, x.Slots, x.State, x.Value, x.Queue, x.Askers, x.Peer, x.Pos, x.Count, x.Sent⟩ (.slice A2 x.Slots.length c2) (.slice A6 x.Queue.length c6) (.slice A7 x.Askers.length c7) HE.out HSM.out HC.out HG.out)
    by_cases r4 : r = 4
    · skip
      go_wp2_with fail
      refine (spec_l1Int_calls W0 g [0, -1, 2] _ _ (HC.out.below ((Below.refl _ _).alloc (Nat.le_refl _) _)) (by simp) (rdW_lit vals_eInt w1 _ 3 (by simp)) (fun A n c h => HGN.out w1 A n c _ _ HC.out.lt h)).mono ?_
      rintro e w2 ⟨v, hv, rfl, hc_, hg_⟩
      have hs_2 := hg_.size
      (try simp only [size_alloc] at hs_2)
      have HCn := Lib.hid (hc_)
      clear HC
      have HC := HCn
      clear HCn
      replace HKR := Lib.hid ((HKR.out.alloc _).chg hg_ (by omega))
      replace HKM := Lib.hid ((HKM.out.alloc _).chg hg_ (by omega))
      replace HG := Lib.hid ((HG.out.alloc _).trans hg_)
      replace HE := Lib.hid ((HE.out.alloc _).chg hg_ (by rintro _ rfl; omega))
      clear hc_ hg_
      (try clear k_HKR f_HKR k_HKM f_HKM)
      obtain ⟨k_HKR, f_HKR⟩ := HKR.out.rules
      have l_HKR := HKR.out.lt
      obtain ⟨k_HKM, f_HKM⟩ := HKM.out.rules
      have l_HKM := HKM.out.lt
      go_upto_region 28 with fail
      obtain ⟨w3, hws⟩ : ∃ ws, ws = (w2.setCell ⟨w.heap.size + 1, 8, none⟩ (.int .i64 v)) := ⟨_, rfl⟩
      have hcs : Chg (· = (w.heap.size + 1)) w2 w3 := by rw [hws]; exact ((Chg.refl (· = (w.heap.size + 1)) w2).setCell (p := ⟨w.heap.size + 1, 8, none⟩) (.inl rfl) _)
      have HKMn : Hid (Blk w3 (w.heap.size + 1) 37 #[.int .i64 x.Kind, .int .i64 x.Script, .slice A2 x.Slots.length c2, .int .i64 x.State, .int .i64 x.Value.Kind, .int .i64 x.Value.N, .slice A6 x.Queue.length c6, .slice A7 x.Askers.length c7, .int .i64 v, .int .i64 x.Pos, .int .i64 x.Count, .int .i64 x.Sent]) := Lib.hid (by rw [hws]; exact ((HKM.out.set_ 8 _)).eq (by simp))
      have hs_3 := hcs.size
      have HCn := Lib.hid (HC.out.chg hcs (by rintro _ rfl; omega) (by omega))
      clear HC
      have HC := HCn
      clear HCn
      replace HKR := Lib.hid ((HKR.out).chg hcs (by omega))
      replace HG := Lib.hid (HG.out.then_ hcs (by rintro i hi rfl; omega))
      replace HE := Lib.hid ((HE.out).chg hcs (by rintro _ rfl; omega))
      rw [← hws]
      clear hws hcs HKM
      have HKM := HKMn
      clear HKMn
      (try clear k_HKR f_HKR k_HKM f_HKM)
      obtain ⟨k_HKR, f_HKR⟩ := HKR.out.rules
      have l_HKR := HKR.out.lt
      obtain ⟨k_HKM, f_HKM⟩ := HKM.out.rules
      have l_HKM := HKM.out.lt
      go_wp2
      refine post_cell (w0 := w3) (fun k => k = w.heap.size) Try.results46 w.heap.size #[.int .i64 x.Kind, .int .i64 x.Script, .slice A2 x.Slots.length c2, .int .i64 x.State, .int .i64 x.Value.Kind, .int .i64 x.Value.N, .slice A6 x.Queue.length c6, .slice A7 x.Askers.length c7, .int .i64 v, .int .i64 x.Pos, .int .i64 x.Count, .int .i64 x.Sent] _ rfl (Blk.eq ((((((((((((HKR.out.set_ 0 (.int .i64 x.Kind)).set_ 1 (.int .i64 x.Script)).set_ 2 (.slice A2 x.Slots.length c2)).set_ 3 (.int .i64 x.State)).set_ 4 (.int .i64 x.Value.Kind)).set_ 5 (.int .i64 x.Value.N)).set_ 6 (.slice A6 x.Queue.length c6)).set_ 7 (.slice A7 x.Askers.length c7)).set_ 8 (.int .i64 v)).set_ 9 (.int .i64 x.Pos)).set_ 10 (.int .i64 x.Count)).set_ 11 (.int .i64 x.Sent)) (by simp)) Try.underlying37 rfl (by kernel_rfl) rfl (((((((((((((Chg.refl (· = w.heap.size) _).setCell (p := ⟨w.heap.size, 0, none⟩) (.inl rfl) (.int .i64 x.Kind)).setCell (p := ⟨w.heap.size, 1, none⟩) (.inl rfl) (.int .i64 x.Script)).setCell (p := ⟨w.heap.size, 2, none⟩) (.inl rfl) (.slice A2 x.Slots.length c2)).setCell (p := ⟨w.heap.size, 3, none⟩) (.inl rfl) (.int .i64 x.State)).setCell (p := ⟨w.heap.size, 4, none⟩) (.inl rfl) (.int .i64 x.Value.Kind)).setCell (p := ⟨w.heap.size, 5, none⟩) (.inl rfl) (.int .i64 x.Value.N)).setCell (p := ⟨w.heap.size, 6, none⟩) (.inl rfl) (.slice A6 x.Queue.length c6)).setCell (p := ⟨w.heap.size, 7, none⟩) (.inl rfl) (.slice A7 x.Askers.length c7)).setCell (p := ⟨w.heap.size, 8, none⟩) (.inl rfl) (.int .i64 v)).setCell (p := ⟨w.heap.size, 9, none⟩) (.inl rfl) (.int .i64 x.Pos)).setCell (p := ⟨w.heap.size, 10, none⟩) (.inl rfl) (.int .i64 x.Count)).setCell (p := ⟨w.heap.size, 11, none⟩) (.inl rfl) (.int .i64 x.Sent)) (EX.out w3 ⟨x.Kind, x.Script, x.Slots, x.State, x.Value, x.Queue, x.Askers, v, x.Pos, x.Count, x.Sent⟩ (.slice A2 x.Slots.length c2) (.slice A6 x.Queue.length c6) (.slice A7 x.Askers.length c7) HE.out HSM.out HC.out HG.out)
    go_wp2
    refine post_cell (w0 := w1) (fun k => k = w.heap.size) Try.results46 w.heap.size #[.int .i64 x.Kind, .int .i64 x.Script, .slice A2 x.Slots.length c2, .int .i64 x.State, .int .i64 x.Value.Kind, .int .i64 x.Value.N, .slice A6 x.Queue.length c6, .slice A7 x.Askers.length c7, .int .i64 x.Peer, .int .i64 x.Pos, .int .i64 x.Count, .int .i64 x.Sent] _ rfl (Blk.eq ((((((((((((HKR.out.set_ 0 (.int .i64 x.Kind)).set_ 1 (.int .i64 x.Script)).set_ 2 (.slice A2 x.Slots.length c2)).set_ 3 (.int .i64 x.State)).set_ 4 (.int .i64 x.Value.Kind)).set_ 5 (.int .i64 x.Value.N)).set_ 6 (.slice A6 x.Queue.length c6)).set_ 7 (.slice A7 x.Askers.length c7)).set_ 8 (.int .i64 x.Peer)).set_ 9 (.int .i64 x.Pos)).set_ 10 (.int .i64 x.Count)).set_ 11 (.int .i64 x.Sent)) (by simp)) Try.underlying37 rfl (by kernel_rfl) rfl (((((((((((((Chg.refl (· = w.heap.size) _).setCell (p := ⟨w.heap.size, 0, none⟩) (.inl rfl) (.int .i64 x.Kind)).setCell (p := ⟨w.heap.size, 1, none⟩) (.inl rfl) (.int .i64 x.Script)).setCell (p := ⟨w.heap.size, 2, none⟩) (.inl rfl) (.slice A2 x.Slots.length c2)).setCell (p := ⟨w.heap.size, 3, none⟩) (.inl rfl) (.int .i64 x.State)).setCell (p := ⟨w.heap.size, 4, none⟩) (.inl rfl) (.int .i64 x.Value.Kind)).setCell (p := ⟨w.heap.size, 5, none⟩) (.inl rfl) (.int .i64 x.Value.N)).setCell (p := ⟨w.heap.size, 6, none⟩) (.inl rfl) (.slice A6 x.Queue.length c6)).setCell (p := ⟨w.heap.size, 7, none⟩) (.inl rfl) (.slice A7 x.Askers.length c7)).setCell (p := ⟨w.heap.size, 8, none⟩) (.inl rfl) (.int .i64 x.Peer)).setCell (p := ⟨w.heap.size, 9, none⟩) (.inl rfl) (.int .i64 x.Pos)).setCell (p := ⟨w.heap.size, 10, none⟩) (.inl rfl) (.int .i64 x.Count)).setCell (p := ⟨w.heap.size, 11, none⟩) (.inl rfl) (.int .i64 x.Sent)) (EX.out w1 x (.slice A2 x.Slots.length c2) (.slice A6 x.Queue.length c6) (.slice A7 x.Askers.length c7) HE.out HSM.out HC.out HG.out)

end Go.Proofs.Ytaalbbhebmpppaa
