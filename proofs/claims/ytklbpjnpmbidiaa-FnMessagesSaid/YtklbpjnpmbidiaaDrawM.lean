import Derived.Test.YtklbpjnpmbidiaaProg
import Derived.Test.YtklbpjnpmbidiaaTypes
import Derived.StillTailTactics
import Derived.Deep.RegionWith
import Derived.Deep.AppendLies
import Derived.Deep.CutRange
import Derived.Deep.RegionHeld3
import Derived.Laws.IdiomStrings
import Derived.Test.YtklbpjnpmbidiaaAppend
import Derived.Laws.StructEq
import Derived.Lib.SliceRun
import Derived.Shelf.RegionOpenPlain
import Derived.Test.YtklbpjnpmbidiaaDraw
import Derived.Test.YtklbpjnpmbidiaaOrders
namespace Go.Proofs.Ytklbpjnpmbidiaa
open Go.RowKit
set_option linter.unusedVariables false
set_option linter.unusedSimpArgs false

set_option maxHeartbeats 3200000 in
theorem spec_l11Wire_calls (W0 : World) (g : Nat) (w : World) (hC : Cur W0 g w) :
    Calls Try.prog 64 #[.pointer (some ⟨g, 0, none⟩)] w fun e w' => ∃ x : GWire, e = .returned (.agg #[.int .i64 x.Kind, .int .i64 x.N]) ∧ Cur W0 g w' ∧ Chg (· = g) w w' := by
  have hlt := hC.lt
  have hge := hC.ge
  have hW0 := hC.base.size
  have HC := Lib.hid (hC.below ((Below.refl w.heap.size w).alloc (Nat.le_refl _) (.cells #[.int .i64 0, .int .i64 0] 25)))
  have HK := Lib.hid (Blk.new w 25 #[.int .i64 0, .int .i64 0])
  clear hC
  go_enter Try.func64, Try.ntmps64
  go_wp2_with fail
  refine (spec_l1Below_calls W0 g _ _ HC.out).mono ?_
  rintro e w1 ⟨r, hr0, hr1, rfl, hc1, hg1⟩
  have HC1 := Lib.hid hc1
  have HK1 := Lib.hid (HK.out.chg hg1 (by omega))
  have HG1 := Lib.hid (((Chg.refl (· = g) w).alloc _).trans hg1)
  clear hc1 hg1 HK HC
  have exit : ∀ (wl : World) (k n : Int), Cur W0 g wl → Chg (· = g) w wl → ∀ W, Chg (fun k => k = w.heap.size) wl W → ∃ x : GWire, Ending.returned (.agg #[.int .i64 k, .int .i64 n]) = .returned (.agg #[.int .i64 x.Kind, .int .i64 x.N]) ∧ Cur W0 g W ∧ Chg (· = g) w W := by
    intro wl k n h1 h2 W h3
    exact ⟨⟨k, n⟩, rfl, h1.chg h3 (by rintro _ rfl; exact hW0) (by omega), h2.then_ h3 (by rintro i hi rfl; omega)⟩
  have EX := Lib.hid exit
  clear exit
  obtain ⟨k1, f1⟩ := HK1.out.rules
  have l1 := HK1.out.lt
  by_cases r0 : r = 0
  · go_wp2_with fail
    refine (spec_l1Below_calls W0 g _ _ HC1.out).mono ?_
    rintro e w2 ⟨s, hs0, hs1, rfl, hc2, hg2⟩
    have HC2 := Lib.hid hc2
    have HK2 := Lib.hid (HK1.out.chg hg2 (by omega))
    have HG2 := Lib.hid (HG1.out.trans hg2)
    clear hc2 hg2 k1 f1
    obtain ⟨k1, f1⟩ := HK2.out.rules
    have l2 := HK2.out.lt
    have hs1' := hs1 (by omega)
    go_wp2
    refine post_cell (w0 := w2) (fun k => k = w.heap.size) Try.results64 w.heap.size #[.int .i64 1, .int .i64 (1 + s)] _ rfl (Blk.eq ((HK2.out.set_ 0 _).set_ 1 _) (by simp)) Try.underlying25 rfl (by kernel_rfl) rfl (((Chg.refl (· = w.heap.size) _).setCell (p := ⟨w.heap.size, 0, none⟩) (.inl rfl) _).setCell (p := ⟨w.heap.size, 1, none⟩) (.inl rfl) _) (EX.out w2 _ _ HC2.out HG2.out)
  by_cases r1 : r = 1
  · go_wp2_with fail
    refine (spec_l1Below_calls W0 g _ _ HC1.out).mono ?_
    rintro e w2 ⟨s, hs0, hs1, rfl, hc2, hg2⟩
    have HC2 := Lib.hid hc2
    have HK2 := Lib.hid (HK1.out.chg hg2 (by omega))
    have HG2 := Lib.hid (HG1.out.trans hg2)
    clear hc2 hg2 k1 f1
    obtain ⟨k1, f1⟩ := HK2.out.rules
    have l2 := HK2.out.lt
    have hs1' := hs1 (by omega)
    go_wp2
    refine post_cell (w0 := w2) (fun k => k = w.heap.size) Try.results64 w.heap.size #[.int .i64 2, .int .i64 (1 + s)] _ rfl (Blk.eq ((HK2.out.set_ 0 _).set_ 1 _) (by simp)) Try.underlying25 rfl (by kernel_rfl) rfl (((Chg.refl (· = w.heap.size) _).setCell (p := ⟨w.heap.size, 0, none⟩) (.inl rfl) _).setCell (p := ⟨w.heap.size, 1, none⟩) (.inl rfl) _) (EX.out w2 _ _ HC2.out HG2.out)
  by_cases r2 : r = 2
  · go_wp2
    refine post_cell (w0 := w1) (fun k => k = w.heap.size) Try.results64 w.heap.size #[.int .i64 3, .int .i64 0] _ rfl (Blk.eq ((HK1.out.set_ 0 _).set_ 1 _) (by simp)) Try.underlying25 rfl (by kernel_rfl) rfl (((Chg.refl (· = w.heap.size) _).setCell (p := ⟨w.heap.size, 0, none⟩) (.inl rfl) _).setCell (p := ⟨w.heap.size, 1, none⟩) (.inl rfl) _) (EX.out w1 _ _ HC1.out HG1.out)
  · go_wp2_with fail
    refine (spec_l1Below_calls W0 g _ _ HC1.out).mono ?_
    rintro e w2 ⟨s, hs0, hs1, rfl, hc2, hg2⟩
    have HC2 := Lib.hid hc2
    have HK2 := Lib.hid (HK1.out.chg hg2 (by omega))
    have HG2 := Lib.hid (HG1.out.trans hg2)
    clear hc2 hg2 k1 f1
    obtain ⟨k1, f1⟩ := HK2.out.rules
    have l2 := HK2.out.lt
    go_wp2
    refine post_cell (w0 := w2) (fun k => k = w.heap.size) Try.results64 w.heap.size #[.int .i64 0, .int .i64 s] _ rfl (Blk.eq ((HK2.out.set_ 0 _).set_ 1 _) (by simp)) Try.underlying25 rfl (by kernel_rfl) rfl (((Chg.refl (· = w.heap.size) _).setCell (p := ⟨w.heap.size, 0, none⟩) (.inl rfl) _).setCell (p := ⟨w.heap.size, 1, none⟩) (.inl rfl) _) (EX.out w2 _ _ HC2.out HG2.out)

end Go.Proofs.Ytklbpjnpmbidiaa
