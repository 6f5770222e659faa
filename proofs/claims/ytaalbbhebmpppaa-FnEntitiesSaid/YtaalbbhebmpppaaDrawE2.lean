import Derived.Test.YtaalbbhebmpppaaProg
import Derived.Test.YtaalbbhebmpppaaTypes
import Derived.StillTailTactics
import Derived.Deep.RegionHeld3
import Derived.Laws.IdiomStrings
import Derived.Test.YtaalbbhebmpppaaAppend
import Derived.Laws.StructEq
import Derived.Lib.SliceRun
import Derived.Shelf.RegionOpenPlain
import Derived.Test.YtaalbbhebmpppaaDrawE
namespace Go.Proofs.Ytaalbbhebmpppaa
open Go.RowKit
set_option linter.unusedVariables false
set_option linter.unusedSimpArgs false

set_option maxHeartbeats 6400000 in
theorem spec_l4Any_calls (W0 : World) (g : Nat) (w : World) (hC : Cur W0 g w) :
    Calls Try.prog 75 #[.pointer (some ⟨g, 0, none⟩)] w fun e w' => ∃ x : GValue, e = .returned (.agg #[.int .i64 x.Kind, .int .i64 x.N]) ∧ Cur W0 g w' ∧ Chg (· = g) w w' := by
  have hlt := hC.lt
  have hge := hC.ge
  have hW0 := hC.base.size
  have HC := Lib.hid (hC.below ((Below.refl w.heap.size w).alloc (Nat.le_refl _) (.cells #[.int .i64 0, .int .i64 0] 33)))
  have HKR := Lib.hid (Blk.new w 33 #[.int .i64 0, .int .i64 0])
  have HG := Lib.hid ((Chg.refl (· = g) w).alloc (.cells #[.int .i64 0, .int .i64 0] 33))
  clear hC
  have exit : ∀ (wl : World) (k n : Int), Cur W0 g wl → Chg (· = g) w wl → ∀ W, Chg (fun k => k = w.heap.size) wl W → ∃ x : GValue, Ending.returned (.agg #[.int .i64 k, .int .i64 n]) = .returned (.agg #[.int .i64 x.Kind, .int .i64 x.N]) ∧ Cur W0 g W ∧ Chg (· = g) w W := by
    intro wl k n h1 h2 W h3
    exact ⟨⟨k, n⟩, rfl, h1.chg h3 (by rintro _ rfl; exact hW0) (by omega), h2.then_ h3 (by rintro i hi rfl; omega)⟩
  have EX := Lib.hid exit
  clear exit
  have HGN : Hid (∀ (W : World) (A : Addr) (n : Nat) (c n' c' : Nat), g < W.heap.size → Value.slice (some ⟨W.heap.size, 0, none⟩) n' c' = .slice (some A) n c → A.block ≠ g) := by
    intro W A n c n' c' hW h; injection h with h; injection h with h; subst h; exact Nat.ne_of_gt hW
  go_enter Try.func75, Try.ntmps75
  go_wp2_with fail
  refine (spec_l1Below_calls W0 g _ _ HC.out).mono ?_
  rintro e w1 ⟨r, hr0, hr1, rfl, hc_, hg_⟩
  have hs_1 := hg_.size
  (try simp only [size_alloc] at hs_1)
  have HCn := Lib.hid hc_
  replace HKR := Lib.hid ((HKR.out).chg hg_ (by omega))
  replace HG := Lib.hid (HG.out.trans hg_)
  (try clear hc_ hg_ HC)
  have HC := HCn
  clear HCn
  (try clear k_HKR f_HKR)
  obtain ⟨k_HKR, f_HKR⟩ := HKR.out.rules
  have l_HKR := HKR.out.lt
  replace hr1 := hr1 (by omega)
  by_cases r0 : r = 0
  · skip
    go_wp2_with fail
    refine (spec_l1Int_calls W0 g [0, 1, 2, 5, -1] _ _ (HC.out.below ((Below.refl _ _).alloc (Nat.le_refl _) _)) (by simp) (rdW_lit vals_eInt w1 _ 3 (by simp)) (fun A n c h => HGN.out w1 A n c _ _ HC.out.lt h)).mono ?_
    rintro e w2 ⟨k, hk, rfl, hc_, hg_⟩
    have hs_2 := hg_.size
    (try simp only [size_alloc] at hs_2)
    have HCn := Lib.hid hc_
    replace HKR := Lib.hid ((HKR.out.alloc _).chg hg_ (by omega))
    replace HG := Lib.hid ((HG.out.alloc _).trans hg_)
    (try clear hc_ hg_ HC)
    have HC := HCn
    clear HCn
    (try clear k_HKR f_HKR)
    obtain ⟨k_HKR, f_HKR⟩ := HKR.out.rules
    have l_HKR := HKR.out.lt
    go_wp2_with fail
    refine (spec_RefValue_calls _ _).mono ?_
    rintro e w3 ⟨rfl, hb_⟩
    have hs_3 := hb_.size
    have HCn := Lib.hid (HC.out.below hb_)
    replace HKR := Lib.hid (HKR.out.below hb_)
    replace HG := Lib.hid (HG.out.trans (Chg.of_below hb_ _))
    clear hb_ HC
    have HC := HCn
    clear HCn
    (try clear k_HKR f_HKR)
    obtain ⟨k_HKR, f_HKR⟩ := HKR.out.rules
    have l_HKR := HKR.out.lt
    go_wp2
    refine post_cell (w0 := w3) (fun k => k = w.heap.size) Try.results75 w.heap.size #[.int .i64 1, .int .i64 k] _ rfl (Blk.eq ((HKR.out.set_ 0 _).set_ 1 _) (by simp)) Try.underlying33 rfl (by kernel_rfl) rfl (((Chg.refl (· = w.heap.size) _).setCell (p := ⟨w.heap.size, 0, none⟩) (.inl rfl) _).setCell (p := ⟨w.heap.size, 1, none⟩) (.inl rfl) _) (EX.out w3 _ _ HC.out HG.out)
  by_cases r1 : r = 1
  · skip
    go_wp2_with fail
    refine (spec_BrokenValue_calls _).mono ?_
    rintro e w2 ⟨rfl, hb_⟩
    have hs_2 := hb_.size
    have HCn := Lib.hid (HC.out.below hb_)
    replace HKR := Lib.hid (HKR.out.below hb_)
    replace HG := Lib.hid (HG.out.trans (Chg.of_below hb_ _))
    clear hb_ HC
    have HC := HCn
    clear HCn
    (try clear k_HKR f_HKR)
    obtain ⟨k_HKR, f_HKR⟩ := HKR.out.rules
    have l_HKR := HKR.out.lt
    go_wp2
    refine post_cell (w0 := w2) (fun k => k = w.heap.size) Try.results75 w.heap.size #[.int .i64 2, .int .i64 0] _ rfl (Blk.eq ((HKR.out.set_ 0 _).set_ 1 _) (by simp)) Try.underlying33 rfl (by kernel_rfl) rfl (((Chg.refl (· = w.heap.size) _).setCell (p := ⟨w.heap.size, 0, none⟩) (.inl rfl) _).setCell (p := ⟨w.heap.size, 1, none⟩) (.inl rfl) _) (EX.out w2 _ _ HC.out HG.out)
  by_cases r2 : r = 2
  · skip
    go_wp2_with fail
    refine (spec_l1Int_calls W0 g [0, 1, 2, 3, -1] _ _ (HC.out.below ((Below.refl _ _).alloc (Nat.le_refl _) _)) (by simp) (rdW_lit vals_eInt w1 _ 3 (by simp)) (fun A n c h => HGN.out w1 A n c _ _ HC.out.lt h)).mono ?_
    rintro e w2 ⟨k, hk, rfl, hc_, hg_⟩
    have hs_2 := hg_.size
    (try simp only [size_alloc] at hs_2)
    have HCn := Lib.hid hc_
    replace HKR := Lib.hid ((HKR.out.alloc _).chg hg_ (by omega))
    replace HG := Lib.hid ((HG.out.alloc _).trans hg_)
    (try clear hc_ hg_ HC)
    have HC := HCn
    clear HCn
    (try clear k_HKR f_HKR)
    obtain ⟨k_HKR, f_HKR⟩ := HKR.out.rules
    have l_HKR := HKR.out.lt
    go_wp2_with fail
    refine (spec_l1Int_calls W0 g [0, -1, 999999, 1000000] _ _ (HC.out.below ((Below.refl _ _).alloc (Nat.le_refl _) _)) (by simp) (rdW_lit vals_eInt w2 _ 3 (by simp)) (fun A n c h => HGN.out w2 A n c _ _ HC.out.lt h)).mono ?_
    rintro e w3 ⟨n, hn, rfl, hc_, hg_⟩
    have hs_3 := hg_.size
    (try simp only [size_alloc] at hs_3)
    have HCn := Lib.hid hc_
    replace HKR := Lib.hid ((HKR.out.alloc _).chg hg_ (by omega))
    replace HG := Lib.hid ((HG.out.alloc _).trans hg_)
    (try clear hc_ hg_ HC)
    have HC := HCn
    clear HCn
    (try clear k_HKR f_HKR)
    obtain ⟨k_HKR, f_HKR⟩ := HKR.out.rules
    have l_HKR := HKR.out.lt
    go_wp2
    refine post_cell (w0 := w3) (fun k => k = w.heap.size) Try.results75 w.heap.size #[.int .i64 k, .int .i64 n] _ rfl (Blk.eq ((HKR.out.set_ 0 _).set_ 1 _) (by simp)) Try.underlying33 rfl (by kernel_rfl) rfl (((Chg.refl (· = w.heap.size) _).setCell (p := ⟨w.heap.size, 0, none⟩) (.inl rfl) _).setCell (p := ⟨w.heap.size, 1, none⟩) (.inl rfl) _) (EX.out w3 _ _ HC.out HG.out)
  go_wp2_with fail
  refine (spec_l1Below_calls W0 g _ _ HC.out).mono ?_
  rintro e w2 ⟨s, hs0, hs1, rfl, hc_, hg_⟩
  have hs_2 := hg_.size
  (try simp only [size_alloc] at hs_2)
  have HCn := Lib.hid hc_
  replace HKR := Lib.hid ((HKR.out).chg hg_ (by omega))
  replace HG := Lib.hid (HG.out.trans hg_)
  (try clear hc_ hg_ HC)
  have HC := HCn
  clear HCn
  (try clear k_HKR f_HKR)
  obtain ⟨k_HKR, f_HKR⟩ := HKR.out.rules
  have l_HKR := HKR.out.lt
  replace hs1 := hs1 (by omega)
  go_wp2_with fail
  refine (spec_IntValue_calls _ hs0 (by omega) _).mono ?_
  rintro e w3 ⟨rfl, hb_⟩
  have hs_3 := hb_.size
  have HCn := Lib.hid (HC.out.below hb_)
  replace HKR := Lib.hid (HKR.out.below hb_)
  replace HG := Lib.hid (HG.out.trans (Chg.of_below hb_ _))
  clear hb_ HC
  have HC := HCn
  clear HCn
  (try clear k_HKR f_HKR)
  obtain ⟨k_HKR, f_HKR⟩ := HKR.out.rules
  have l_HKR := HKR.out.lt
  go_wp2
  refine post_cell (w0 := w3) (fun k => k = w.heap.size) Try.results75 w.heap.size #[.int .i64 0, .int .i64 s] _ rfl (Blk.eq ((HKR.out.set_ 0 _).set_ 1 _) (by simp)) Try.underlying33 rfl (by kernel_rfl) rfl (((Chg.refl (· = w.heap.size) _).setCell (p := ⟨w.heap.size, 0, none⟩) (.inl rfl) _).setCell (p := ⟨w.heap.size, 1, none⟩) (.inl rfl) _) (EX.out w3 _ _ HC.out HG.out)

end Go.Proofs.Ytaalbbhebmpppaa
