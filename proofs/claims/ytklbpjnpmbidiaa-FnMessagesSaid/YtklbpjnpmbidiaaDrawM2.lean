import Derived.Test.YtklbpjnpmbidiaaProg
import Derived.Test.YtklbpjnpmbidiaaTypes
import Derived.StillTailTactics
import Derived.Deep.RegionWith
import Derived.Deep.AppendLies
import Derived.Deep.CutRange
import Derived.Deep.RegionHeld3
import Derived.Laws.IdiomStrings
import Derived.Test.YtklbpjnpmbidiaaAppend
import Derived.Laws.StructEq
import Derived.Lib.SliceRun
import Derived.Shelf.RegionOpenPlain
import Derived.Test.YtklbpjnpmbidiaaDrawM
namespace Go.Proofs.Ytklbpjnpmbidiaa
open Go.RowKit
set_option linter.unusedVariables false
set_option linter.unusedSimpArgs false

set_option maxHeartbeats 6400000 in
theorem spec_l11AnyWire_calls (W0 : World) (g : Nat) (w : World) (hC : Cur W0 g w) :
    Calls Try.prog 59 #[.pointer (some ⟨g, 0, none⟩)] w fun e w' => ∃ x : GWire, e = .returned (.agg #[.int .i64 x.Kind, .int .i64 x.N]) ∧ Cur W0 g w' ∧ Chg (· = g) w w' := by
  have hlt := hC.lt
  have hge := hC.ge
  have hW0 := hC.base.size
  have HC := Lib.hid (hC.below ((Below.refl w.heap.size w).alloc (Nat.le_refl _) (.cells #[.int .i64 0, .int .i64 0] 25)))
  have HKR := Lib.hid (Blk.new w 25 #[.int .i64 0, .int .i64 0])
  have HG := Lib.hid ((Chg.refl (· = g) w).alloc (.cells #[.int .i64 0, .int .i64 0] 25))
  clear hC
  have exit : ∀ (wl : World) (k n : Int), Cur W0 g wl → Chg (· = g) w wl → ∀ W, Chg (fun k => k = w.heap.size) wl W → ∃ x : GWire, Ending.returned (.agg #[.int .i64 k, .int .i64 n]) = .returned (.agg #[.int .i64 x.Kind, .int .i64 x.N]) ∧ Cur W0 g W ∧ Chg (· = g) w W := by
    intro wl k n h1 h2 W h3
    exact ⟨⟨k, n⟩, rfl, h1.chg h3 (by rintro _ rfl; exact hW0) (by omega), h2.then_ h3 (by rintro i hi rfl; omega)⟩
  have EX := Lib.hid exit
  clear exit
  go_enter Try.func59, Try.ntmps59
  go_wp2_with fail
  refine (spec_l1Once_calls W0 g _ _ HC.out).mono ?_
  rintro e w1 ⟨r, rfl, hc_, hg_⟩
  have hs_1 := hg_.size
  (try simp only [size_alloc] at hs_1)
  have HCn := Lib.hid hc_
  replace HKR := Lib.hid ((HKR.out).chg hg_ (by omega))
  replace HG := Lib.hid (HG.out.trans hg_)
  (try clear hc_ hg_ HC)
  have HC := HCn
  clear HCn
  (try clear k_HKR f_HKR)
  obtain ⟨k_HKR, f_HKR⟩ := HKR.out.rules
  have l_HKR := HKR.out.lt
  rcases r with _ | _
  · skip
    go_wp2_with fail
    refine (spec_l11Wire_calls W0 g _ HC.out).mono ?_
    rintro e w2 ⟨x, rfl, hc_, hg_⟩
    have hs_2 := hg_.size
    (try simp only [size_alloc] at hs_2)
    have HCn := Lib.hid hc_
    replace HKR := Lib.hid ((HKR.out).chg hg_ (by omega))
    replace HG := Lib.hid (HG.out.trans hg_)
    (try clear hc_ hg_ HC)
    have HC := HCn
    clear HCn
    (try clear k_HKR f_HKR)
    obtain ⟨k_HKR, f_HKR⟩ := HKR.out.rules
    have l_HKR := HKR.out.lt
    go_wp2
    refine post_cell (w0 := w2) (fun k => k = w.heap.size) Try.results59 w.heap.size #[.int .i64 x.Kind, .int .i64 x.N] _ rfl (Blk.eq ((HKR.out.set_ 0 _).set_ 1 _) (by simp)) Try.underlying25 rfl (by kernel_rfl) rfl (((Chg.refl (· = w.heap.size) _).setCell (p := ⟨w.heap.size, 0, none⟩) (.inl rfl) _).setCell (p := ⟨w.heap.size, 1, none⟩) (.inl rfl) _) (EX.out w2 _ _ HC.out HG.out)
  · have hgn : ∀ (W : World) (A : Addr) (n : Nat) (c n' c' : Nat), g < W.heap.size → Value.slice (some ⟨W.heap.size, 0, none⟩) n' c' = .slice (some A) n c → A.block ≠ g := by
      intro W A n c n' c' hW h; injection h with h; injection h with h; subst h; exact Nat.ne_of_gt hW
    have HGN := Lib.hid hgn
    clear hgn
    go_wp2_with fail
    refine (spec_l1Int_calls W0 g [-1, 0, 1, 2, 3, 4] _ _ (HC.out.below ((Below.refl _ _).alloc (Nat.le_refl _) _)) (by simp) (rdW_lit vals_eInt w1 _ 3 (by simp)) (fun A n c h => HGN.out w1 A n c _ _ HC.out.lt h)).mono ?_
    rintro e w2 ⟨k, hk, rfl, hc_, hg_⟩
    have hs_2 := hg_.size
    (try simp only [size_alloc] at hs_2)
    have HCn := Lib.hid hc_
    replace HKR := Lib.hid ((HKR.out.alloc _).chg hg_ (by omega))
    replace HG := Lib.hid ((HG.out.alloc _).trans hg_)
    (try clear hc_ hg_ HC)
    have HC := HCn
    clear HCn
    (try clear k_HKR f_HKR)
    obtain ⟨k_HKR, f_HKR⟩ := HKR.out.rules
    have l_HKR := HKR.out.lt
    go_wp2_with fail
    refine (spec_l1Int_calls W0 g [-1, 0, 1, 999999, 1000000] _ _ (HC.out.below ((Below.refl _ _).alloc (Nat.le_refl _) _)) (by simp) (rdW_lit vals_eInt w2 _ 3 (by simp)) (fun A n c h => HGN.out w2 A n c _ _ HC.out.lt h)).mono ?_
    rintro e w3 ⟨n, hn, rfl, hc_, hg_⟩
    have hs_3 := hg_.size
    (try simp only [size_alloc] at hs_3)
    have HCn := Lib.hid hc_
    replace HKR := Lib.hid ((HKR.out.alloc _).chg hg_ (by omega))
    replace HG := Lib.hid ((HG.out.alloc _).trans hg_)
    (try clear hc_ hg_ HC)
    have HC := HCn
    clear HCn
    (try clear k_HKR f_HKR)
    obtain ⟨k_HKR, f_HKR⟩ := HKR.out.rules
    have l_HKR := HKR.out.lt
    go_wp2
    refine post_cell (w0 := w3) (fun k => k = w.heap.size) Try.results59 w.heap.size #[.int .i64 k, .int .i64 n] _ rfl (Blk.eq ((HKR.out.set_ 0 _).set_ 1 _) (by simp)) Try.underlying25 rfl (by kernel_rfl) rfl (((Chg.refl (· = w.heap.size) _).setCell (p := ⟨w.heap.size, 0, none⟩) (.inl rfl) _).setCell (p := ⟨w.heap.size, 1, none⟩) (.inl rfl) _) (EX.out w3 _ _ HC.out HG.out)

end Go.Proofs.Ytklbpjnpmbidiaa
