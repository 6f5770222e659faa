import Derived.Test.YtiohoeafdaihpaaProg
import Derived.Test.YtiohoeafdaihpaaTypes
import Derived.StillTailTactics
import Derived.Deep.CutBlock
import Derived.Deep.CutRange
import Derived.Laws.OwnMore
import Derived.Deep.AppendLies
import Derived.Deep.RegionWith
import Derived.Deep.RegionHeld3
import Derived.Laws.IdiomStrings
import Derived.Test.YtiohoeafdaihpaaAppend
import Derived.Laws.StructEq
import Derived.Lib.SliceRun
import Derived.Shelf.RegionOpenPlain
import Derived.Test.YtiohoeafdaihpaaDraw
import Derived.Test.YtiohoeafdaihpaaPureFirst
import Derived.Test.YtiohoeafdaihpaaOrders
namespace Go.Proofs.Ytiohoeafdaihpaa
open Go.RowKit
set_option linter.unusedVariables false
set_option linter.unusedSimpArgs false

/-- the registers of an instruction are there, and its target -/
def FineI (y : GInstr) : Prop := (∀ k, k ∈ regsOf y → regB k = true) ∧ (targetOf y = -1 ∨ regB (targetOf y) = true)
theorem regB_of {k : Int} (h : 0 ≤ k) (h1 : k < 8) : regB k = true := regB_iff.2 ⟨h, by omega⟩
theorem reg6 {a b d x : Int} {nm : ByteArray} {k : Int} (h : k ∈ regsOf ⟨6, a, b, d, x, nm⟩) : k = b ∨ k = d ∨ (k = x ∧ x ≠ -1) := by
  have h2 : k ∈ b :: someI d x := h
  unfold someI at h2
  rcases List.mem_cons.1 h2 with h2 | h2
  · exact .inl h2
  · rw [List.mem_filter] at h2
    simp only [List.mem_cons, List.not_mem_nil, or_false] at h2
    obtain ⟨h3, h4⟩ := h2
    rcases h3 with h3 | h3
    · exact .inr (.inl h3)
    · subst h3; exact .inr (.inr ⟨rfl, by simpa using h4⟩)
theorem reg7 {a b d : Int} {nm : ByteArray} {k : Int} (h : k ∈ regsOf ⟨7, a, b, d, -1, nm⟩) : k = d := by
  have h2 : k ∈ someI d (-1) := h
  unfold someI at h2
  rw [List.mem_filter] at h2
  simp only [List.mem_cons, List.not_mem_nil, or_false] at h2
  obtain ⟨h3, h4⟩ := h2
  rcases h3 with h3 | h3
  · exact h3
  · subst h3; simp at h4
set_option maxHeartbeats 12800000 in
set_option maxRecDepth 100000 in
theorem spec_l5Instr_calls (W0 : World) (g : Nat) (w : World) (hC : Cur W0 g w) :
    Calls Try.prog 81 #[.pointer (some ⟨g, 0, none⟩)] w fun e w' => ∃ y : GInstr, e = .returned (.agg (vsInstr y).toArray) ∧ FineI y ∧ y.Name.size ≤ 5 ∧ Cur W0 g w' ∧ Chg (· = g) w w' := by
  have hlt := hC.lt
  have hge := hC.ge
  have hW0 := hC.base.size
  have HC := Lib.hid (hC.below ((Below.refl w.heap.size w).alloc (Nat.le_refl _) (.cells #[.int .i64 0, .int .i64 0, .int .i64 0, .int .i64 0, .int .i64 0, .string ⟨#[]⟩] 47)))
  have HKR := Lib.hid (Blk.new w 47 #[.int .i64 0, .int .i64 0, .int .i64 0, .int .i64 0, .int .i64 0, .string ⟨#[]⟩])
  have HG := Lib.hid ((Chg.refl (· = g) w).alloc (.cells #[.int .i64 0, .int .i64 0, .int .i64 0, .int .i64 0, .int .i64 0, .string ⟨#[]⟩] 47))
  clear hC
  have exit : ∀ (wl : World) (y : GInstr), Cur W0 g wl → Chg (· = g) w wl → FineI y → y.Name.size ≤ 5 → ∀ W, Chg (fun k => k = w.heap.size) wl W → ∃ x : GInstr, Ending.returned (.agg (vsInstr y).toArray) = .returned (.agg (vsInstr x).toArray) ∧ FineI x ∧ x.Name.size ≤ 5 ∧ Cur W0 g W ∧ Chg (· = g) w W := by
    intro wl y h1 h2 hf hn W h3
    exact ⟨y, rfl, hf, hn, h1.chg h3 (by rintro _ rfl; exact hW0) (by omega), h2.then_ h3 (by rintro i hi rfl; omega)⟩
  have EX := Lib.hid exit
  clear exit
  have HGN : Hid (∀ (W : World) (A : Addr) (n : Nat) (c n' c' : Nat), g < W.heap.size → Value.slice (some ⟨W.heap.size, 0, none⟩) n' c' = .slice (some A) n c → A.block ≠ g) := by
    intro W A n c n' c' hW h; injection h with h; injection h with h; subst h; exact Nat.ne_of_gt hW
  go_enter Try.func81, Try.ntmps81
  go_wp2_with fail
  refine (spec_l1Below_calls W0 g _ _ HC.out).mono ?_
  rintro e w1 ⟨a, ha0, ha1, rfl, hc_, hg_⟩
  have hs_1 := hg_.size
  (try simp only [size_alloc] at hs_1)
  have HCn := Lib.hid hc_
  replace HKR := Lib.hid ((HKR.out).chg hg_ (by omega))
  replace HG := Lib.hid (HG.out.trans hg_)
  (try clear hc_ hg_ HC)
  have HC := HCn
  clear HCn
  (try clear k_HKR f_HKR)
  obtain ⟨k_HKR, f_HKR⟩ := HKR.out.rules
  have l_HKR := HKR.out.lt
  replace ha1 := ha1 (by omega)
  go_wp2_with fail
  refine (spec_l1Below_calls W0 g _ _ HC.out).mono ?_
  rintro e w2 ⟨b, hb0, hb1, rfl, hc_, hg_⟩
  have hs_2 := hg_.size
  (try simp only [size_alloc] at hs_2)
  have HCn := Lib.hid hc_
  replace HKR := Lib.hid ((HKR.out).chg hg_ (by omega))
  replace HG := Lib.hid (HG.out.trans hg_)
  (try clear hc_ hg_ HC)
  have HC := HCn
  clear HCn
  (try clear k_HKR f_HKR)
  obtain ⟨k_HKR, f_HKR⟩ := HKR.out.rules
  have l_HKR := HKR.out.lt
  replace hb1 := hb1 (by omega)
  go_wp2_with fail
  refine (spec_l1Int_calls W0 g [-1, -1, 0, 1, 2] _ _ (HC.out.below ((Below.refl _ _).alloc (Nat.le_refl _) _)) (by simp) (rdW_lit vals_eInt w2 _ 3 (by simp)) (fun A n c h => HGN.out w2 A n c _ _ HC.out.lt h)).mono ?_
  rintro e w3 ⟨d, hd, rfl, hc_, hg_⟩
  have hs_3 := hg_.size
  (try simp only [size_alloc] at hs_3)
  have HCn := Lib.hid hc_
  replace HKR := Lib.hid ((HKR.out.alloc _).chg hg_ (by omega))
  replace HG := Lib.hid ((HG.out.alloc _).trans hg_)
  (try clear hc_ hg_ HC)
  have HC := HCn
  clear HCn
  (try clear k_HKR f_HKR)
  obtain ⟨k_HKR, f_HKR⟩ := HKR.out.rules
  have l_HKR := HKR.out.lt
  have Hd := Lib.hid hd
  clear hd
  go_wp2_with fail
  refine (spec_l1Below_calls W0 g _ _ HC.out).mono ?_
  rintro e w4 ⟨r, hr0, hr1, rfl, hc_, hg_⟩
  have hs_4 := hg_.size
  (try simp only [size_alloc] at hs_4)
  have HCn := Lib.hid hc_
  replace HKR := Lib.hid ((HKR.out).chg hg_ (by omega))
  replace HG := Lib.hid (HG.out.trans hg_)
  (try clear hc_ hg_ HC)
  have HC := HCn
  clear HCn
  (try clear k_HKR f_HKR)
  obtain ⟨k_HKR, f_HKR⟩ := HKR.out.rules
  have l_HKR := HKR.out.lt
  replace hr1 := hr1 (by omega)
  have hd := Hd.out
  simp only [List.mem_cons, List.not_mem_nil, or_false] at hd
  have hd2 : d = -1 ∨ (0 ≤ d ∧ d < 3) := by omega
  clear hd Hd
  by_cases r0 : r = 0
  · skip
    subst r0
    go_wp2_with fail
    refine (spec_l1Below_calls W0 g _ _ HC.out).mono ?_
    rintro e w5 ⟨x, hx0, hx1, rfl, hc_, hg_⟩
    have hs_5 := hg_.size
    (try simp only [size_alloc] at hs_5)
    have HCn := Lib.hid hc_
    replace HKR := Lib.hid ((HKR.out).chg hg_ (by omega))
    replace HG := Lib.hid (HG.out.trans hg_)
    (try clear hc_ hg_ HC)
    have HC := HCn
    clear HCn
    (try clear k_HKR f_HKR)
    obtain ⟨k_HKR, f_HKR⟩ := HKR.out.rules
    have l_HKR := HKR.out.lt
    replace hx1 := hx1 (by omega)
    go_wp2
    refine post_cell (w0 := w5) (fun k => k = w.heap.size) Try.results81 w.heap.size #[.int .i64 1, .int .i64 a, .int .i64 x, .int .i64 0, .int .i64 0, .string ⟨#[]⟩] _ rfl (Blk.eq ((((((HKR.out.set_ 0 _).set_ 1 _).set_ 2 _).set_ 3 _).set_ 4 _).set_ 5 _) (by simp)) Try.underlying47 rfl (by kernel_rfl) rfl (((((((Chg.refl (· = w.heap.size) _).setCell (p := ⟨w.heap.size, 0, none⟩) (.inl rfl) _).setCell (p := ⟨w.heap.size, 1, none⟩) (.inl rfl) _).setCell (p := ⟨w.heap.size, 2, none⟩) (.inl rfl) _).setCell (p := ⟨w.heap.size, 3, none⟩) (.inl rfl) _).setCell (p := ⟨w.heap.size, 4, none⟩) (.inl rfl) _).setCell (p := ⟨w.heap.size, 5, none⟩) (.inl rfl) _) (EX.out w5 ⟨1, a, x, 0, 0, ⟨#[]⟩⟩ HC.out HG.out ⟨(by intro k hk; have hk2 : k ∈ ([] : List Int) := hk; cases hk2), .inr (regB_of (by show (0:Int) ≤ a; omega) (by show a < 8; omega))⟩ (by show (0 : Nat) ≤ 5; omega))
  by_cases r1 : r = 1
  · skip
    subst r1
    go_wp2_with fail
    refine (spec_l1Below_calls W0 g _ _ HC.out).mono ?_
    rintro e w5 ⟨x, hx0, hx1, rfl, hc_, hg_⟩
    have hs_5 := hg_.size
    (try simp only [size_alloc] at hs_5)
    have HCn := Lib.hid hc_
    replace HKR := Lib.hid ((HKR.out).chg hg_ (by omega))
    replace HG := Lib.hid (HG.out.trans hg_)
    (try clear hc_ hg_ HC)
    have HC := HCn
    clear HCn
    (try clear k_HKR f_HKR)
    obtain ⟨k_HKR, f_HKR⟩ := HKR.out.rules
    have l_HKR := HKR.out.lt
    replace hx1 := hx1 (by omega)
    go_wp2
    refine post_cell (w0 := w5) (fun k => k = w.heap.size) Try.results81 w.heap.size #[.int .i64 1, .int .i64 a, .int .i64 x, .int .i64 0, .int .i64 0, .string ⟨#[]⟩] _ rfl (Blk.eq ((((((HKR.out.set_ 0 _).set_ 1 _).set_ 2 _).set_ 3 _).set_ 4 _).set_ 5 _) (by simp)) Try.underlying47 rfl (by kernel_rfl) rfl (((((((Chg.refl (· = w.heap.size) _).setCell (p := ⟨w.heap.size, 0, none⟩) (.inl rfl) _).setCell (p := ⟨w.heap.size, 1, none⟩) (.inl rfl) _).setCell (p := ⟨w.heap.size, 2, none⟩) (.inl rfl) _).setCell (p := ⟨w.heap.size, 3, none⟩) (.inl rfl) _).setCell (p := ⟨w.heap.size, 4, none⟩) (.inl rfl) _).setCell (p := ⟨w.heap.size, 5, none⟩) (.inl rfl) _) (EX.out w5 ⟨1, a, x, 0, 0, ⟨#[]⟩⟩ HC.out HG.out ⟨(by intro k hk; have hk2 : k ∈ ([] : List Int) := hk; cases hk2), .inr (regB_of (by show (0:Int) ≤ a; omega) (by show a < 8; omega))⟩ (by show (0 : Nat) ≤ 5; omega))
  by_cases r2 : r = 2
  · skip
    subst r2
    go_wp2_with fail
    refine (spec_l1Below_calls W0 g _ _ HC.out).mono ?_
    rintro e w5 ⟨x, hx0, hx1, rfl, hc_, hg_⟩
    have hs_5 := hg_.size
    (try simp only [size_alloc] at hs_5)
    have HCn := Lib.hid hc_
    replace HKR := Lib.hid ((HKR.out).chg hg_ (by omega))
    replace HG := Lib.hid (HG.out.trans hg_)
    (try clear hc_ hg_ HC)
    have HC := HCn
    clear HCn
    (try clear k_HKR f_HKR)
    obtain ⟨k_HKR, f_HKR⟩ := HKR.out.rules
    have l_HKR := HKR.out.lt
    replace hx1 := hx1 (by omega)
    go_wp2
    refine post_cell (w0 := w5) (fun k => k = w.heap.size) Try.results81 w.heap.size #[.int .i64 2, .int .i64 a, .int .i64 x, .int .i64 0, .int .i64 0, .string ⟨#[]⟩] _ rfl (Blk.eq ((((((HKR.out.set_ 0 _).set_ 1 _).set_ 2 _).set_ 3 _).set_ 4 _).set_ 5 _) (by simp)) Try.underlying47 rfl (by kernel_rfl) rfl (((((((Chg.refl (· = w.heap.size) _).setCell (p := ⟨w.heap.size, 0, none⟩) (.inl rfl) _).setCell (p := ⟨w.heap.size, 1, none⟩) (.inl rfl) _).setCell (p := ⟨w.heap.size, 2, none⟩) (.inl rfl) _).setCell (p := ⟨w.heap.size, 3, none⟩) (.inl rfl) _).setCell (p := ⟨w.heap.size, 4, none⟩) (.inl rfl) _).setCell (p := ⟨w.heap.size, 5, none⟩) (.inl rfl) _) (EX.out w5 ⟨2, a, x, 0, 0, ⟨#[]⟩⟩ HC.out HG.out ⟨(by intro k hk; have hk2 : k ∈ ([] : List Int) := hk; cases hk2), .inr (regB_of (by show (0:Int) ≤ a; omega) (by show a < 8; omega))⟩ (by show (0 : Nat) ≤ 5; omega))
  by_cases r3 : r = 3
  · skip
    subst r3
    go_wp2_with fail
    refine (spec_l1Below_calls W0 g _ _ HC.out).mono ?_
    rintro e w5 ⟨x, hx0, hx1, rfl, hc_, hg_⟩
    have hs_5 := hg_.size
    (try simp only [size_alloc] at hs_5)
    have HCn := Lib.hid hc_
    replace HKR := Lib.hid ((HKR.out).chg hg_ (by omega))
    replace HG := Lib.hid (HG.out.trans hg_)
    (try clear hc_ hg_ HC)
    have HC := HCn
    clear HCn
    (try clear k_HKR f_HKR)
    obtain ⟨k_HKR, f_HKR⟩ := HKR.out.rules
    have l_HKR := HKR.out.lt
    replace hx1 := hx1 (by omega)
    go_wp2
    refine post_cell (w0 := w5) (fun k => k = w.heap.size) Try.results81 w.heap.size #[.int .i64 2, .int .i64 a, .int .i64 x, .int .i64 0, .int .i64 0, .string ⟨#[]⟩] _ rfl (Blk.eq ((((((HKR.out.set_ 0 _).set_ 1 _).set_ 2 _).set_ 3 _).set_ 4 _).set_ 5 _) (by simp)) Try.underlying47 rfl (by kernel_rfl) rfl (((((((Chg.refl (· = w.heap.size) _).setCell (p := ⟨w.heap.size, 0, none⟩) (.inl rfl) _).setCell (p := ⟨w.heap.size, 1, none⟩) (.inl rfl) _).setCell (p := ⟨w.heap.size, 2, none⟩) (.inl rfl) _).setCell (p := ⟨w.heap.size, 3, none⟩) (.inl rfl) _).setCell (p := ⟨w.heap.size, 4, none⟩) (.inl rfl) _).setCell (p := ⟨w.heap.size, 5, none⟩) (.inl rfl) _) (EX.out w5 ⟨2, a, x, 0, 0, ⟨#[]⟩⟩ HC.out HG.out ⟨(by intro k hk; have hk2 : k ∈ ([] : List Int) := hk; cases hk2), .inr (regB_of (by show (0:Int) ≤ a; omega) (by show a < 8; omega))⟩ (by show (0 : Nat) ≤ 5; omega))
  by_cases r4 : r = 4
  · skip
    subst r4
    go_wp2_with fail
    refine (spec_l1Below_calls W0 g _ _ HC.out).mono ?_
    rintro e w5 ⟨x, hx0, hx1, rfl, hc_, hg_⟩
    have hs_5 := hg_.size
    (try simp only [size_alloc] at hs_5)
    have HCn := Lib.hid hc_
    replace HKR := Lib.hid ((HKR.out).chg hg_ (by omega))
    replace HG := Lib.hid (HG.out.trans hg_)
    (try clear hc_ hg_ HC)
    have HC := HCn
    clear HCn
    (try clear k_HKR f_HKR)
    obtain ⟨k_HKR, f_HKR⟩ := HKR.out.rules
    have l_HKR := HKR.out.lt
    replace hx1 := hx1 (by omega)
    go_wp2
    refine post_cell (w0 := w5) (fun k => k = w.heap.size) Try.results81 w.heap.size #[.int .i64 3, .int .i64 a, .int .i64 x, .int .i64 0, .int .i64 0, .string ⟨#[]⟩] _ rfl (Blk.eq ((((((HKR.out.set_ 0 _).set_ 1 _).set_ 2 _).set_ 3 _).set_ 4 _).set_ 5 _) (by simp)) Try.underlying47 rfl (by kernel_rfl) rfl (((((((Chg.refl (· = w.heap.size) _).setCell (p := ⟨w.heap.size, 0, none⟩) (.inl rfl) _).setCell (p := ⟨w.heap.size, 1, none⟩) (.inl rfl) _).setCell (p := ⟨w.heap.size, 2, none⟩) (.inl rfl) _).setCell (p := ⟨w.heap.size, 3, none⟩) (.inl rfl) _).setCell (p := ⟨w.heap.size, 4, none⟩) (.inl rfl) _).setCell (p := ⟨w.heap.size, 5, none⟩) (.inl rfl) _) (EX.out w5 ⟨3, a, x, 0, 0, ⟨#[]⟩⟩ HC.out HG.out ⟨(by intro k hk; have hk2 : k ∈ ([] : List Int) := hk; cases hk2), .inr (regB_of (by show (0:Int) ≤ a; omega) (by show a < 8; omega))⟩ (by show (0 : Nat) ≤ 5; omega))
  by_cases r5 : r = 5
  · skip
    subst r5
    go_wp2
    refine post_cell (w0 := w4) (fun k => k = w.heap.size) Try.results81 w.heap.size #[.int .i64 4, .int .i64 a, .int .i64 0, .int .i64 0, .int .i64 0, .string ⟨#[]⟩] _ rfl (Blk.eq ((((((HKR.out.set_ 0 _).set_ 1 _).set_ 2 _).set_ 3 _).set_ 4 _).set_ 5 _) (by simp)) Try.underlying47 rfl (by kernel_rfl) rfl (((((((Chg.refl (· = w.heap.size) _).setCell (p := ⟨w.heap.size, 0, none⟩) (.inl rfl) _).setCell (p := ⟨w.heap.size, 1, none⟩) (.inl rfl) _).setCell (p := ⟨w.heap.size, 2, none⟩) (.inl rfl) _).setCell (p := ⟨w.heap.size, 3, none⟩) (.inl rfl) _).setCell (p := ⟨w.heap.size, 4, none⟩) (.inl rfl) _).setCell (p := ⟨w.heap.size, 5, none⟩) (.inl rfl) _) (EX.out w4 ⟨4, a, 0, 0, 0, ⟨#[]⟩⟩ HC.out HG.out ⟨(by intro k hk; have hk2 : k ∈ ([] : List Int) := hk; cases hk2), .inr (regB_of (by show (0:Int) ≤ a; omega) (by show a < 8; omega))⟩ (by show (0 : Nat) ≤ 5; omega))
  by_cases r6 : r = 6
  · skip
    subst r6
    go_wp2_with fail
    refine (spec_l1Below_calls W0 g _ _ HC.out).mono ?_
    rintro e w5 ⟨x, hx0, hx1, rfl, hc_, hg_⟩
    have hs_5 := hg_.size
    (try simp only [size_alloc] at hs_5)
    have HCn := Lib.hid hc_
    replace HKR := Lib.hid ((HKR.out).chg hg_ (by omega))
    replace HG := Lib.hid (HG.out.trans hg_)
    (try clear hc_ hg_ HC)
    have HC := HCn
    clear HCn
    (try clear k_HKR f_HKR)
    obtain ⟨k_HKR, f_HKR⟩ := HKR.out.rules
    have l_HKR := HKR.out.lt
    replace hx1 := hx1 (by omega)
    go_wp2
    refine post_cell (w0 := w5) (fun k => k = w.heap.size) Try.results81 w.heap.size #[.int .i64 5, .int .i64 a, .int .i64 b, .int .i64 x, .int .i64 0, .string ⟨#[]⟩] _ rfl (Blk.eq ((((((HKR.out.set_ 0 _).set_ 1 _).set_ 2 _).set_ 3 _).set_ 4 _).set_ 5 _) (by simp)) Try.underlying47 rfl (by kernel_rfl) rfl (((((((Chg.refl (· = w.heap.size) _).setCell (p := ⟨w.heap.size, 0, none⟩) (.inl rfl) _).setCell (p := ⟨w.heap.size, 1, none⟩) (.inl rfl) _).setCell (p := ⟨w.heap.size, 2, none⟩) (.inl rfl) _).setCell (p := ⟨w.heap.size, 3, none⟩) (.inl rfl) _).setCell (p := ⟨w.heap.size, 4, none⟩) (.inl rfl) _).setCell (p := ⟨w.heap.size, 5, none⟩) (.inl rfl) _) (EX.out w5 ⟨5, a, b, x, 0, ⟨#[]⟩⟩ HC.out HG.out ⟨(by intro k hk; have hk2 : k ∈ ([b, x] : List Int) := hk; simp only [List.mem_cons, List.not_mem_nil, or_false] at hk2; rcases hk2 with rfl | rfl <;> exact regB_of (by omega) (by omega)), .inr (regB_of (by show (0:Int) ≤ a; omega) (by show a < 8; omega))⟩ (by show (0 : Nat) ≤ 5; omega))
  by_cases r7 : r = 7
  · skip
    subst r7
    rcases hd2 with rfl | hd2
    · skip
      go_wp2_with fail
      refine (spec_l5Name_calls W0 g _ HC.out).mono ?_
      rintro e w5 ⟨nm, hnm, rfl, hc_, hg_⟩
      have hs_5 := hg_.size
      (try simp only [size_alloc] at hs_5)
      have HCn := Lib.hid hc_
      replace HKR := Lib.hid ((HKR.out).chg hg_ (by omega))
      replace HG := Lib.hid (HG.out.trans hg_)
      (try clear hc_ hg_ HC)
      have HC := HCn
      clear HCn
      (try clear k_HKR f_HKR)
      obtain ⟨k_HKR, f_HKR⟩ := HKR.out.rules
      have l_HKR := HKR.out.lt
      go_wp2
      refine post_cell (w0 := w5) (fun k => k = w.heap.size) Try.results81 w.heap.size #[.int .i64 6, .int .i64 a, .int .i64 b, .int .i64 (-1), .int .i64 (-1), .string nm] _ rfl (Blk.eq ((((((HKR.out.set_ 0 _).set_ 1 _).set_ 2 _).set_ 3 _).set_ 4 _).set_ 5 _) (by simp)) Try.underlying47 rfl (by kernel_rfl) rfl (((((((Chg.refl (· = w.heap.size) _).setCell (p := ⟨w.heap.size, 0, none⟩) (.inl rfl) _).setCell (p := ⟨w.heap.size, 1, none⟩) (.inl rfl) _).setCell (p := ⟨w.heap.size, 2, none⟩) (.inl rfl) _).setCell (p := ⟨w.heap.size, 3, none⟩) (.inl rfl) _).setCell (p := ⟨w.heap.size, 4, none⟩) (.inl rfl) _).setCell (p := ⟨w.heap.size, 5, none⟩) (.inl rfl) _) (EX.out w5 ⟨6, a, b, (-1), (-1), nm⟩ HC.out HG.out ⟨(by intro k hk; have hk2 : k ∈ ([b] : List Int) := hk; simp only [List.mem_cons, List.not_mem_nil, or_false] at hk2; subst hk2; exact regB_of (by omega) (by omega)), .inr (regB_of (by show (0:Int) ≤ a; omega) (by show a < 8; omega))⟩ (by show nm.size ≤ 5; omega))
    · have hd3 : ¬ d = -1 := by omega
      go_wp2_with fail
      refine (spec_l1Int_calls W0 g [-1, 0, 3] _ _ (HC.out.below ((Below.refl _ _).alloc (Nat.le_refl _) _)) (by simp) (rdW_lit vals_eInt w4 _ 3 (by simp)) (fun A n c h => HGN.out w4 A n c _ _ HC.out.lt h)).mono ?_
      rintro e w5 ⟨x, hx, rfl, hc_, hg_⟩
      have hs_5 := hg_.size
      (try simp only [size_alloc] at hs_5)
      have HCn := Lib.hid hc_
      replace HKR := Lib.hid ((HKR.out.alloc _).chg hg_ (by omega))
      replace HG := Lib.hid ((HG.out.alloc _).trans hg_)
      (try clear hc_ hg_ HC)
      have HC := HCn
      clear HCn
      (try clear k_HKR f_HKR)
      obtain ⟨k_HKR, f_HKR⟩ := HKR.out.rules
      have l_HKR := HKR.out.lt
      have Hx := Lib.hid hx
      clear hx
      go_wp2_with fail
      refine (spec_l5Name_calls W0 g _ HC.out).mono ?_
      rintro e w6 ⟨nm, hnm, rfl, hc_, hg_⟩
      have hs_6 := hg_.size
      (try simp only [size_alloc] at hs_6)
      have HCn := Lib.hid hc_
      replace HKR := Lib.hid ((HKR.out).chg hg_ (by omega))
      replace HG := Lib.hid (HG.out.trans hg_)
      (try clear hc_ hg_ HC)
      have HC := HCn
      clear HCn
      (try clear k_HKR f_HKR)
      obtain ⟨k_HKR, f_HKR⟩ := HKR.out.rules
      have l_HKR := HKR.out.lt
      have hx := Hx.out
      simp only [List.mem_cons, List.not_mem_nil, or_false] at hx
      have hfi : FineI ⟨6, a, b, d, x, nm⟩ := by
        refine ⟨fun k hk => ?_, .inr (regB_of (by show (0:Int) ≤ a; omega) (by show a < 8; omega))⟩
        have hk2 : k = b ∨ k = d ∨ (k = x ∧ x ≠ -1) := reg6 hk
        rcases hk2 with rfl | rfl | ⟨rfl, h⟩ <;> exact regB_of (by omega) (by omega)
      have HFI := Lib.hid hfi
      clear hfi hx
      go_wp2
      refine post_cell (w0 := w6) (fun k => k = w.heap.size) Try.results81 w.heap.size #[.int .i64 6, .int .i64 a, .int .i64 b, .int .i64 d, .int .i64 x, .string nm] _ rfl (Blk.eq ((((((HKR.out.set_ 0 _).set_ 1 _).set_ 2 _).set_ 3 _).set_ 4 _).set_ 5 _) (by simp)) Try.underlying47 rfl (by kernel_rfl) rfl (((((((Chg.refl (· = w.heap.size) _).setCell (p := ⟨w.heap.size, 0, none⟩) (.inl rfl) _).setCell (p := ⟨w.heap.size, 1, none⟩) (.inl rfl) _).setCell (p := ⟨w.heap.size, 2, none⟩) (.inl rfl) _).setCell (p := ⟨w.heap.size, 3, none⟩) (.inl rfl) _).setCell (p := ⟨w.heap.size, 4, none⟩) (.inl rfl) _).setCell (p := ⟨w.heap.size, 5, none⟩) (.inl rfl) _) (EX.out w6 ⟨6, a, b, d, x, nm⟩ HC.out HG.out HFI.out (by show nm.size ≤ 5; omega))
  by_cases r8 : r = 8
  · skip
    subst r8
    rcases hd2 with rfl | hd2
    · skip
      go_wp2_with fail
      refine (spec_l5Name_calls W0 g _ HC.out).mono ?_
      rintro e w5 ⟨nm, hnm, rfl, hc_, hg_⟩
      have hs_5 := hg_.size
      (try simp only [size_alloc] at hs_5)
      have HCn := Lib.hid hc_
      replace HKR := Lib.hid ((HKR.out).chg hg_ (by omega))
      replace HG := Lib.hid (HG.out.trans hg_)
      (try clear hc_ hg_ HC)
      have HC := HCn
      clear HCn
      (try clear k_HKR f_HKR)
      obtain ⟨k_HKR, f_HKR⟩ := HKR.out.rules
      have l_HKR := HKR.out.lt
      go_wp2
      refine post_cell (w0 := w5) (fun k => k = w.heap.size) Try.results81 w.heap.size #[.int .i64 6, .int .i64 a, .int .i64 b, .int .i64 (-1), .int .i64 (-1), .string nm] _ rfl (Blk.eq ((((((HKR.out.set_ 0 _).set_ 1 _).set_ 2 _).set_ 3 _).set_ 4 _).set_ 5 _) (by simp)) Try.underlying47 rfl (by kernel_rfl) rfl (((((((Chg.refl (· = w.heap.size) _).setCell (p := ⟨w.heap.size, 0, none⟩) (.inl rfl) _).setCell (p := ⟨w.heap.size, 1, none⟩) (.inl rfl) _).setCell (p := ⟨w.heap.size, 2, none⟩) (.inl rfl) _).setCell (p := ⟨w.heap.size, 3, none⟩) (.inl rfl) _).setCell (p := ⟨w.heap.size, 4, none⟩) (.inl rfl) _).setCell (p := ⟨w.heap.size, 5, none⟩) (.inl rfl) _) (EX.out w5 ⟨6, a, b, (-1), (-1), nm⟩ HC.out HG.out ⟨(by intro k hk; have hk2 : k ∈ ([b] : List Int) := hk; simp only [List.mem_cons, List.not_mem_nil, or_false] at hk2; subst hk2; exact regB_of (by omega) (by omega)), .inr (regB_of (by show (0:Int) ≤ a; omega) (by show a < 8; omega))⟩ (by show nm.size ≤ 5; omega))
    · have hd3 : ¬ d = -1 := by omega
      go_wp2_with fail
      refine (spec_l1Int_calls W0 g [-1, 0, 3] _ _ (HC.out.below ((Below.refl _ _).alloc (Nat.le_refl _) _)) (by simp) (rdW_lit vals_eInt w4 _ 3 (by simp)) (fun A n c h => HGN.out w4 A n c _ _ HC.out.lt h)).mono ?_
      rintro e w5 ⟨x, hx, rfl, hc_, hg_⟩
      have hs_5 := hg_.size
      (try simp only [size_alloc] at hs_5)
      have HCn := Lib.hid hc_
      replace HKR := Lib.hid ((HKR.out.alloc _).chg hg_ (by omega))
      replace HG := Lib.hid ((HG.out.alloc _).trans hg_)
      (try clear hc_ hg_ HC)
      have HC := HCn
      clear HCn
      (try clear k_HKR f_HKR)
      obtain ⟨k_HKR, f_HKR⟩ := HKR.out.rules
      have l_HKR := HKR.out.lt
      have Hx := Lib.hid hx
      clear hx
      go_wp2_with fail
      refine (spec_l5Name_calls W0 g _ HC.out).mono ?_
      rintro e w6 ⟨nm, hnm, rfl, hc_, hg_⟩
      have hs_6 := hg_.size
      (try simp only [size_alloc] at hs_6)
      have HCn := Lib.hid hc_
      replace HKR := Lib.hid ((HKR.out).chg hg_ (by omega))
      replace HG := Lib.hid (HG.out.trans hg_)
      (try clear hc_ hg_ HC)
      have HC := HCn
      clear HCn
      (try clear k_HKR f_HKR)
      obtain ⟨k_HKR, f_HKR⟩ := HKR.out.rules
      have l_HKR := HKR.out.lt
      have hx := Hx.out
      simp only [List.mem_cons, List.not_mem_nil, or_false] at hx
      have hfi : FineI ⟨6, a, b, d, x, nm⟩ := by
        refine ⟨fun k hk => ?_, .inr (regB_of (by show (0:Int) ≤ a; omega) (by show a < 8; omega))⟩
        have hk2 : k = b ∨ k = d ∨ (k = x ∧ x ≠ -1) := reg6 hk
        rcases hk2 with rfl | rfl | ⟨rfl, h⟩ <;> exact regB_of (by omega) (by omega)
      have HFI := Lib.hid hfi
      clear hfi hx
      go_wp2
      refine post_cell (w0 := w6) (fun k => k = w.heap.size) Try.results81 w.heap.size #[.int .i64 6, .int .i64 a, .int .i64 b, .int .i64 d, .int .i64 x, .string nm] _ rfl (Blk.eq ((((((HKR.out.set_ 0 _).set_ 1 _).set_ 2 _).set_ 3 _).set_ 4 _).set_ 5 _) (by simp)) Try.underlying47 rfl (by kernel_rfl) rfl (((((((Chg.refl (· = w.heap.size) _).setCell (p := ⟨w.heap.size, 0, none⟩) (.inl rfl) _).setCell (p := ⟨w.heap.size, 1, none⟩) (.inl rfl) _).setCell (p := ⟨w.heap.size, 2, none⟩) (.inl rfl) _).setCell (p := ⟨w.heap.size, 3, none⟩) (.inl rfl) _).setCell (p := ⟨w.heap.size, 4, none⟩) (.inl rfl) _).setCell (p := ⟨w.heap.size, 5, none⟩) (.inl rfl) _) (EX.out w6 ⟨6, a, b, d, x, nm⟩ HC.out HG.out HFI.out (by show nm.size ≤ 5; omega))
  by_cases r9 : r = 9
  · skip
    subst r9
    rcases hd2 with rfl | hd2
    · skip
      go_wp2_with fail
      refine (spec_l1Str_calls W0 g [⟨#[99, 101, 108, 108]⟩, ⟨#[112, 114, 111, 120, 121]⟩, ⟨#[109, 97, 107, 101, 114]⟩, ⟨#[110, 111, 110, 101]⟩] _ _ (HC.out.below ((Below.refl _ _).alloc (Nat.le_refl _) _)) (by simp) (rdW_lit vals_eStr w4 _ 9 (by simp)) (fun A n c h => HGN.out w4 A n c _ _ HC.out.lt h)).mono ?_
      rintro e w5 ⟨nm, hnm, rfl, hc_, hg_⟩
      have hs_5 := hg_.size
      (try simp only [size_alloc] at hs_5)
      have HCn := Lib.hid hc_
      replace HKR := Lib.hid ((HKR.out.alloc _).chg hg_ (by omega))
      replace HG := Lib.hid ((HG.out.alloc _).trans hg_)
      (try clear hc_ hg_ HC)
      have HC := HCn
      clear HCn
      (try clear k_HKR f_HKR)
      obtain ⟨k_HKR, f_HKR⟩ := HKR.out.rules
      have l_HKR := HKR.out.lt
      have Hnm := Lib.hid hnm
      clear hnm
      have hnm : nm.size ≤ 5 := by have h := Hnm.out; simp only [List.mem_cons, List.not_mem_nil, or_false] at h; rcases h with rfl | rfl | rfl | rfl <;> decide
      go_wp2
      refine post_cell (w0 := w5) (fun k => k = w.heap.size) Try.results81 w.heap.size #[.int .i64 7, .int .i64 a, .int .i64 0, .int .i64 (-1), .int .i64 (-1), .string nm] _ rfl (Blk.eq ((((((HKR.out.set_ 0 _).set_ 1 _).set_ 2 _).set_ 3 _).set_ 4 _).set_ 5 _) (by simp)) Try.underlying47 rfl (by kernel_rfl) rfl (((((((Chg.refl (· = w.heap.size) _).setCell (p := ⟨w.heap.size, 0, none⟩) (.inl rfl) _).setCell (p := ⟨w.heap.size, 1, none⟩) (.inl rfl) _).setCell (p := ⟨w.heap.size, 2, none⟩) (.inl rfl) _).setCell (p := ⟨w.heap.size, 3, none⟩) (.inl rfl) _).setCell (p := ⟨w.heap.size, 4, none⟩) (.inl rfl) _).setCell (p := ⟨w.heap.size, 5, none⟩) (.inl rfl) _) (EX.out w5 ⟨7, a, 0, (-1), (-1), nm⟩ HC.out HG.out ⟨(by intro k hk; have hk2 : k ∈ ([] : List Int) := hk; cases hk2), .inr (regB_of (by show (0:Int) ≤ a; omega) (by show a < 8; omega))⟩ (by show nm.size ≤ 5; omega))
    · have hd3 : ¬ d = -1 := by omega
      go_wp2_with fail
      refine (spec_l1Str_calls W0 g [⟨#[99, 101, 108, 108]⟩, ⟨#[112, 114, 111, 120, 121]⟩, ⟨#[109, 97, 107, 101, 114]⟩] _ _ (HC.out.below ((Below.refl _ _).alloc (Nat.le_refl _) _)) (by simp) (rdW_lit vals_eStr w4 _ 9 (by simp)) (fun A n c h => HGN.out w4 A n c _ _ HC.out.lt h)).mono ?_
      rintro e w5 ⟨nm, hnm, rfl, hc_, hg_⟩
      have hs_5 := hg_.size
      (try simp only [size_alloc] at hs_5)
      have HCn := Lib.hid hc_
      replace HKR := Lib.hid ((HKR.out.alloc _).chg hg_ (by omega))
      replace HG := Lib.hid ((HG.out.alloc _).trans hg_)
      (try clear hc_ hg_ HC)
      have HC := HCn
      clear HCn
      (try clear k_HKR f_HKR)
      obtain ⟨k_HKR, f_HKR⟩ := HKR.out.rules
      have l_HKR := HKR.out.lt
      have Hnm := Lib.hid hnm
      clear hnm
      have hnm : nm.size ≤ 5 := by have h := Hnm.out; simp only [List.mem_cons, List.not_mem_nil, or_false] at h; rcases h with rfl | rfl | rfl <;> decide
      have hfi : FineI ⟨7, a, 0, d, -1, nm⟩ := by
        refine ⟨fun k hk => ?_, .inr (regB_of (by show (0:Int) ≤ a; omega) (by show a < 8; omega))⟩
        have hk2 : k = d := reg7 hk
        subst hk2; exact regB_of (by omega) (by omega)
      have HFI := Lib.hid hfi
      clear hfi
      go_wp2
      refine post_cell (w0 := w5) (fun k => k = w.heap.size) Try.results81 w.heap.size #[.int .i64 7, .int .i64 a, .int .i64 0, .int .i64 d, .int .i64 (-1), .string nm] _ rfl (Blk.eq ((((((HKR.out.set_ 0 _).set_ 1 _).set_ 2 _).set_ 3 _).set_ 4 _).set_ 5 _) (by simp)) Try.underlying47 rfl (by kernel_rfl) rfl (((((((Chg.refl (· = w.heap.size) _).setCell (p := ⟨w.heap.size, 0, none⟩) (.inl rfl) _).setCell (p := ⟨w.heap.size, 1, none⟩) (.inl rfl) _).setCell (p := ⟨w.heap.size, 2, none⟩) (.inl rfl) _).setCell (p := ⟨w.heap.size, 3, none⟩) (.inl rfl) _).setCell (p := ⟨w.heap.size, 4, none⟩) (.inl rfl) _).setCell (p := ⟨w.heap.size, 5, none⟩) (.inl rfl) _) (EX.out w5 ⟨7, a, 0, d, (-1), nm⟩ HC.out HG.out HFI.out (by show nm.size ≤ 5; omega))
  by_cases r10 : r = 10
  · skip
    subst r10
    go_wp2_with fail
    refine (spec_l1Below_calls W0 g _ _ HC.out).mono ?_
    rintro e w5 ⟨x, hx0, hx1, rfl, hc_, hg_⟩
    have hs_5 := hg_.size
    (try simp only [size_alloc] at hs_5)
    have HCn := Lib.hid hc_
    replace HKR := Lib.hid ((HKR.out).chg hg_ (by omega))
    replace HG := Lib.hid (HG.out.trans hg_)
    (try clear hc_ hg_ HC)
    have HC := HCn
    clear HCn
    (try clear k_HKR f_HKR)
    obtain ⟨k_HKR, f_HKR⟩ := HKR.out.rules
    have l_HKR := HKR.out.lt
    replace hx1 := hx1 (by omega)
    go_wp2
    refine post_cell (w0 := w5) (fun k => k = w.heap.size) Try.results81 w.heap.size #[.int .i64 8, .int .i64 x, .int .i64 b, .int .i64 0, .int .i64 0, .string ⟨#[]⟩] _ rfl (Blk.eq ((((((HKR.out.set_ 0 _).set_ 1 _).set_ 2 _).set_ 3 _).set_ 4 _).set_ 5 _) (by simp)) Try.underlying47 rfl (by kernel_rfl) rfl (((((((Chg.refl (· = w.heap.size) _).setCell (p := ⟨w.heap.size, 0, none⟩) (.inl rfl) _).setCell (p := ⟨w.heap.size, 1, none⟩) (.inl rfl) _).setCell (p := ⟨w.heap.size, 2, none⟩) (.inl rfl) _).setCell (p := ⟨w.heap.size, 3, none⟩) (.inl rfl) _).setCell (p := ⟨w.heap.size, 4, none⟩) (.inl rfl) _).setCell (p := ⟨w.heap.size, 5, none⟩) (.inl rfl) _) (EX.out w5 ⟨8, x, b, 0, 0, ⟨#[]⟩⟩ HC.out HG.out ⟨(by intro k hk; have hk2 : k ∈ ([b] : List Int) := hk; simp only [List.mem_cons, List.not_mem_nil, or_false] at hk2; subst hk2; exact regB_of (by omega) (by omega)), .inl rfl⟩ (by show (0 : Nat) ≤ 5; omega))
  go_wp2_with fail
  refine (spec_l1Once_calls W0 g _ _ HC.out).mono ?_
  rintro e w5 ⟨t, rfl, hc_, hg_⟩
  have hs_5 := hg_.size
  (try simp only [size_alloc] at hs_5)
  have HCn := Lib.hid hc_
  replace HKR := Lib.hid ((HKR.out).chg hg_ (by omega))
  replace HG := Lib.hid (HG.out.trans hg_)
  (try clear hc_ hg_ HC)
  have HC := HCn
  clear HCn
  (try clear k_HKR f_HKR)
  obtain ⟨k_HKR, f_HKR⟩ := HKR.out.rules
  have l_HKR := HKR.out.lt
  rcases t with _ | _
  · skip
    go_wp2
    refine post_cell (w0 := w5) (fun k => k = w.heap.size) Try.results81 w.heap.size #[.int .i64 10, .int .i64 a, .int .i64 0, .int .i64 0, .int .i64 0, .string ⟨#[]⟩] _ rfl (Blk.eq ((((((HKR.out.set_ 0 _).set_ 1 _).set_ 2 _).set_ 3 _).set_ 4 _).set_ 5 _) (by simp)) Try.underlying47 rfl (by kernel_rfl) rfl (((((((Chg.refl (· = w.heap.size) _).setCell (p := ⟨w.heap.size, 0, none⟩) (.inl rfl) _).setCell (p := ⟨w.heap.size, 1, none⟩) (.inl rfl) _).setCell (p := ⟨w.heap.size, 2, none⟩) (.inl rfl) _).setCell (p := ⟨w.heap.size, 3, none⟩) (.inl rfl) _).setCell (p := ⟨w.heap.size, 4, none⟩) (.inl rfl) _).setCell (p := ⟨w.heap.size, 5, none⟩) (.inl rfl) _) (EX.out w5 ⟨10, a, 0, 0, 0, ⟨#[]⟩⟩ HC.out HG.out ⟨(by intro k hk; have hk2 : k ∈ ([a] : List Int) := hk; simp only [List.mem_cons, List.not_mem_nil, or_false] at hk2; subst hk2; exact regB_of (by omega) (by omega)), .inl rfl⟩ (by show (0 : Nat) ≤ 5; omega))
  · skip
    go_wp2_with fail
    refine (spec_l1Below_calls W0 g _ _ HC.out).mono ?_
    rintro e w6 ⟨x, hx0, hx1, rfl, hc_, hg_⟩
    have hs_6 := hg_.size
    (try simp only [size_alloc] at hs_6)
    have HCn := Lib.hid hc_
    replace HKR := Lib.hid ((HKR.out).chg hg_ (by omega))
    replace HG := Lib.hid (HG.out.trans hg_)
    (try clear hc_ hg_ HC)
    have HC := HCn
    clear HCn
    (try clear k_HKR f_HKR)
    obtain ⟨k_HKR, f_HKR⟩ := HKR.out.rules
    have l_HKR := HKR.out.lt
    replace hx1 := hx1 (by omega)
    go_wp2
    refine post_cell (w0 := w6) (fun k => k = w.heap.size) Try.results81 w.heap.size #[.int .i64 9, .int .i64 a, .int .i64 (1 + x), .int .i64 0, .int .i64 0, .string ⟨#[]⟩] _ rfl (Blk.eq ((((((HKR.out.set_ 0 _).set_ 1 _).set_ 2 _).set_ 3 _).set_ 4 _).set_ 5 _) (by simp)) Try.underlying47 rfl (by kernel_rfl) rfl (((((((Chg.refl (· = w.heap.size) _).setCell (p := ⟨w.heap.size, 0, none⟩) (.inl rfl) _).setCell (p := ⟨w.heap.size, 1, none⟩) (.inl rfl) _).setCell (p := ⟨w.heap.size, 2, none⟩) (.inl rfl) _).setCell (p := ⟨w.heap.size, 3, none⟩) (.inl rfl) _).setCell (p := ⟨w.heap.size, 4, none⟩) (.inl rfl) _).setCell (p := ⟨w.heap.size, 5, none⟩) (.inl rfl) _) (EX.out w6 ⟨9, a, (1 + x), 0, 0, ⟨#[]⟩⟩ HC.out HG.out ⟨(by intro k hk; have hk2 : k ∈ ([a] : List Int) := hk; simp only [List.mem_cons, List.not_mem_nil, or_false] at hk2; subst hk2; exact regB_of (by omega) (by omega)), .inl rfl⟩ (by show (0 : Nat) ≤ 5; omega))

end Go.Proofs.Ytiohoeafdaihpaa
