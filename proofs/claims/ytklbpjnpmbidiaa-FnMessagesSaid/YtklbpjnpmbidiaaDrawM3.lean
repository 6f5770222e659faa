import Derived.Test.YtklbpjnpmbidiaaProg
import Derived.Test.YtklbpjnpmbidiaaTypes
import Derived.StillTailTactics
import Derived.Deep.RegionWith
import Derived.Deep.AppendLies
import Derived.Deep.CutRange
import Derived.Deep.RegionHeld3
import Derived.Laws.IdiomStrings
import Derived.Test.YtklbpjnpmbidiaaAppend
import Derived.Laws.StructEq
import Derived.Lib.SliceRun
import Derived.Shelf.RegionOpenPlain
import Derived.Test.YtklbpjnpmbidiaaDrawM2
namespace Go.Proofs.Ytklbpjnpmbidiaa
open Go.RowKit
set_option linter.unusedVariables false
set_option linter.unusedSimpArgs false

/-- a message that a draw returned: its list in blocks of its own, above the cursor's -/
def MsgAt (L : Nat) (w : World) (x : GMessage) (us : List Value) : Prop :=
  ∃ A c B, us = [.int .i64 x.Kind, .int .i64 x.Pos, .int .i64 x.Answer, .int .i64 x.Question, .string x.Name, .slice A x.Args.length c, .int .i64 x.Value.Kind, .int .i64 x.Value.N, .int .i64 x.Count, .int .i64 x.Tag.Vat, .int .i64 x.Tag.Entity, .int .i64 x.Tag.Seq] ∧ L ≤ B ∧ B ≤ w.heap.size ∧ w.ownsRow B 25 2 (.slice A x.Args.length c) x.Args.length (x.Args.flatMap vsWire)
set_option maxHeartbeats 12800000 in
set_option maxRecDepth 100000 in
theorem spec_l11Message_calls (W0 : World) (g : Nat) (w : World) (hC : Cur W0 g w) :
    Calls Try.prog 43 #[.pointer (some ⟨g, 0, none⟩)] w fun e w' => ∃ x us, e = .returned (.agg us.toArray) ∧ MsgAt w.heap.size w' x us ∧ x.Args.length ≤ 2 ∧ x.Name.size ≤ 4 ∧ Cur W0 g w' ∧ Chg (· = g) w w' := by
  have hlt := hC.lt
  have hge := hC.ge
  have hW0 := hC.base.size
  have HC := Lib.hid (hC.below ((Below.refl w.heap.size w).alloc (Nat.le_refl _) (.cells #[.int .i64 0, .int .i64 0, .int .i64 0, .int .i64 0, .string ⟨#[]⟩, .slice none 0 0, .int .i64 0, .int .i64 0, .int .i64 0, .int .i64 0, .int .i64 0, .int .i64 0] 29)))
  have HKR := Lib.hid (Blk.new w 29 #[.int .i64 0, .int .i64 0, .int .i64 0, .int .i64 0, .string ⟨#[]⟩, .slice none 0 0, .int .i64 0, .int .i64 0, .int .i64 0, .int .i64 0, .int .i64 0, .int .i64 0])
  have HG := Lib.hid ((Chg.refl (· = g) w).alloc (.cells #[.int .i64 0, .int .i64 0, .int .i64 0, .int .i64 0, .string ⟨#[]⟩, .slice none 0 0, .int .i64 0, .int .i64 0, .int .i64 0, .int .i64 0, .int .i64 0, .int .i64 0] 29))
  clear hC
  have exit : ∀ (wl : World) (x : GMessage) (A : Option Addr) (c B : Nat), Cur W0 g wl → Chg (· = g) w wl → w.heap.size < B → B ≤ wl.heap.size → wl.ownsRow B 25 2 (.slice A x.Args.length c) x.Args.length (x.Args.flatMap vsWire) → x.Args.length ≤ 2 → x.Name.size ≤ 4 → ∀ W, Chg (fun k => k = w.heap.size) wl W →
      ∃ (y : GMessage) (us : List Value), Ending.returned (.agg #[.int .i64 x.Kind, .int .i64 x.Pos, .int .i64 x.Answer, .int .i64 x.Question, .string x.Name, .slice A x.Args.length c, .int .i64 x.Value.Kind, .int .i64 x.Value.N, .int .i64 x.Count, .int .i64 x.Tag.Vat, .int .i64 x.Tag.Entity, .int .i64 x.Tag.Seq]) = .returned (.agg us.toArray) ∧ MsgAt w.heap.size W y us ∧ y.Args.length ≤ 2 ∧ y.Name.size ≤ 4 ∧ Cur W0 g W ∧ Chg (· = g) w W := by
    intro wl x A c B h1 h2 hB hBw ho ha hn W h3
    exact ⟨x, _, rfl, ⟨A, c, B, rfl, by omega, Nat.le_trans hBw h3.size, ownsRow_keep ho h3 (fun k hk e => by have := (ho.lt k hk).1; omega)⟩, ha, hn, h1.chg h3 (by rintro _ rfl; exact hW0) (by omega), h2.then_ h3 (by rintro i hi rfl; omega)⟩
  have EX := Lib.hid exit
  clear exit
  go_enter Try.func43, Try.ntmps43
  go_wp2_with fail
  refine (spec_l1Below_calls W0 g _ _ HC.out).mono ?_
  rintro e w1 ⟨q, hq0, hq1, rfl, hc_, hg_⟩
  have hs_1 := hg_.size
  (try simp only [size_alloc] at hs_1)
  have HCn := Lib.hid hc_
  replace HKR := Lib.hid ((HKR.out).chg hg_ (by omega))
  replace HG := Lib.hid (HG.out.trans hg_)
  (try clear hc_ hg_ HC)
  have HC := HCn
  clear HCn
  (try clear k_HKR f_HKR)
  obtain ⟨k_HKR, f_HKR⟩ := HKR.out.rules
  have l_HKR := HKR.out.lt
  replace hq1 := hq1 (by omega)
  go_wp2_with fail
  refine (spec_l1Below_calls W0 g _ _ HC.out).mono ?_
  rintro e w2 ⟨r, hr0, hr1, rfl, hc_, hg_⟩
  have hs_2 := hg_.size
  (try simp only [size_alloc] at hs_2)
  have HCn := Lib.hid hc_
  replace HKR := Lib.hid ((HKR.out).chg hg_ (by omega))
  replace HG := Lib.hid (HG.out.trans hg_)
  (try clear hc_ hg_ HC)
  have HC := HCn
  clear HCn
  (try clear k_HKR f_HKR)
  obtain ⟨k_HKR, f_HKR⟩ := HKR.out.rules
  have l_HKR := HKR.out.lt
  replace hr1 := hr1 (by omega)
  by_cases r0 : r = 0
  · skip
    go_wp2_with fail
    refine (spec_l11Wire_calls W0 g _ HC.out).mono ?_
    rintro e w3 ⟨x, rfl, hc_, hg_⟩
    have hs_3 := hg_.size
    (try simp only [size_alloc] at hs_3)
    have HCn := Lib.hid hc_
    replace HKR := Lib.hid ((HKR.out).chg hg_ (by omega))
    replace HG := Lib.hid (HG.out.trans hg_)
    (try clear hc_ hg_ HC)
    have HC := HCn
    clear HCn
    (try clear k_HKR f_HKR)
    obtain ⟨k_HKR, f_HKR⟩ := HKR.out.rules
    have l_HKR := HKR.out.lt
    go_wp2
    refine post_cell (w0 := w3) (fun k => k = w.heap.size) Try.results43 (w.heap.size) #[.int .i64 2, .int .i64 0, .int .i64 0, .int .i64 (1 + q), .string ⟨#[]⟩, .slice none 0 0, .int .i64 x.Kind, .int .i64 x.N, .int .i64 0, .int .i64 0, .int .i64 0, .int .i64 0] _ rfl (Blk.eq ((((((((((((HKR.out.set_ 0 _).set_ 1 _).set_ 2 _).set_ 3 _).set_ 4 _).set_ 5 _).set_ 6 _).set_ 7 _).set_ 8 _).set_ 9 _).set_ 10 _).set_ 11 _) (by simp)) Try.underlying29 rfl (by kernel_rfl) rfl (((((((((((((Chg.refl (· = w.heap.size) _).setCell (p := ⟨w.heap.size, 0, none⟩) (.inl rfl) _).setCell (p := ⟨w.heap.size, 1, none⟩) (.inl rfl) _).setCell (p := ⟨w.heap.size, 2, none⟩) (.inl rfl) _).setCell (p := ⟨w.heap.size, 3, none⟩) (.inl rfl) _).setCell (p := ⟨w.heap.size, 4, none⟩) (.inl rfl) _).setCell (p := ⟨w.heap.size, 5, none⟩) (.inl rfl) _).setCell (p := ⟨w.heap.size, 6, none⟩) (.inl rfl) _).setCell (p := ⟨w.heap.size, 7, none⟩) (.inl rfl) _).setCell (p := ⟨w.heap.size, 8, none⟩) (.inl rfl) _).setCell (p := ⟨w.heap.size, 9, none⟩) (.inl rfl) _).setCell (p := ⟨w.heap.size, 10, none⟩) (.inl rfl) _).setCell (p := ⟨w.heap.size, 11, none⟩) (.inl rfl) _) (EX.out w3 ⟨2, 0, 0, 1 + q, ⟨#[]⟩, [], x, 0, ⟨0, 0, 0⟩⟩ none 0 (w.heap.size + 1) HC.out HG.out (by omega) (by omega) (World.ownsRow_nil _ _ _ _) (by simp) (Nat.zero_le 4))
  by_cases r1 : r = 1
  · skip
    go_wp2_with fail
    refine (spec_l1Below_calls W0 g _ _ HC.out).mono ?_
    rintro e w3 ⟨s, hs0, hs1, rfl, hc_, hg_⟩
    have hs_3 := hg_.size
    (try simp only [size_alloc] at hs_3)
    have HCn := Lib.hid hc_
    replace HKR := Lib.hid ((HKR.out).chg hg_ (by omega))
    replace HG := Lib.hid (HG.out.trans hg_)
    (try clear hc_ hg_ HC)
    have HC := HCn
    clear HCn
    (try clear k_HKR f_HKR)
    obtain ⟨k_HKR, f_HKR⟩ := HKR.out.rules
    have l_HKR := HKR.out.lt
    replace hs1 := hs1 (by omega)
    go_wp2
    refine post_cell (w0 := w3) (fun k => k = w.heap.size) Try.results43 (w.heap.size) #[.int .i64 (3 + s), .int .i64 0, .int .i64 0, .int .i64 (1 + q), .string ⟨#[]⟩, .slice none 0 0, .int .i64 0, .int .i64 0, .int .i64 0, .int .i64 0, .int .i64 0, .int .i64 0] _ rfl (Blk.eq ((((((((((((HKR.out.set_ 0 _).set_ 1 _).set_ 2 _).set_ 3 _).set_ 4 _).set_ 5 _).set_ 6 _).set_ 7 _).set_ 8 _).set_ 9 _).set_ 10 _).set_ 11 _) (by simp)) Try.underlying29 rfl (by kernel_rfl) rfl (((((((((((((Chg.refl (· = w.heap.size) _).setCell (p := ⟨w.heap.size, 0, none⟩) (.inl rfl) _).setCell (p := ⟨w.heap.size, 1, none⟩) (.inl rfl) _).setCell (p := ⟨w.heap.size, 2, none⟩) (.inl rfl) _).setCell (p := ⟨w.heap.size, 3, none⟩) (.inl rfl) _).setCell (p := ⟨w.heap.size, 4, none⟩) (.inl rfl) _).setCell (p := ⟨w.heap.size, 5, none⟩) (.inl rfl) _).setCell (p := ⟨w.heap.size, 6, none⟩) (.inl rfl) _).setCell (p := ⟨w.heap.size, 7, none⟩) (.inl rfl) _).setCell (p := ⟨w.heap.size, 8, none⟩) (.inl rfl) _).setCell (p := ⟨w.heap.size, 9, none⟩) (.inl rfl) _).setCell (p := ⟨w.heap.size, 10, none⟩) (.inl rfl) _).setCell (p := ⟨w.heap.size, 11, none⟩) (.inl rfl) _) (EX.out w3 ⟨3 + s, 0, 0, 1 + q, ⟨#[]⟩, [], ⟨0, 0⟩, 0, ⟨0, 0, 0⟩⟩ none 0 (w.heap.size + 1) HC.out HG.out (by omega) (by omega) (World.ownsRow_nil _ _ _ _) (by simp) (Nat.zero_le 4))
  by_cases r2 : r = 2
  · skip
    go_wp2_with fail
    refine (spec_l1Below_calls W0 g _ _ HC.out).mono ?_
    rintro e w3 ⟨s, hs0, hs1, rfl, hc_, hg_⟩
    have hs_3 := hg_.size
    (try simp only [size_alloc] at hs_3)
    have HCn := Lib.hid hc_
    replace HKR := Lib.hid ((HKR.out).chg hg_ (by omega))
    replace HG := Lib.hid (HG.out.trans hg_)
    (try clear hc_ hg_ HC)
    have HC := HCn
    clear HCn
    (try clear k_HKR f_HKR)
    obtain ⟨k_HKR, f_HKR⟩ := HKR.out.rules
    have l_HKR := HKR.out.lt
    replace hs1 := hs1 (by omega)
    go_wp2
    refine post_cell (w0 := w3) (fun k => k = w.heap.size) Try.results43 (w.heap.size) #[.int .i64 6, .int .i64 (1 + q), .int .i64 0, .int .i64 0, .string ⟨#[]⟩, .slice none 0 0, .int .i64 0, .int .i64 0, .int .i64 (1 + s), .int .i64 0, .int .i64 0, .int .i64 0] _ rfl (Blk.eq ((((((((((((HKR.out.set_ 0 _).set_ 1 _).set_ 2 _).set_ 3 _).set_ 4 _).set_ 5 _).set_ 6 _).set_ 7 _).set_ 8 _).set_ 9 _).set_ 10 _).set_ 11 _) (by simp)) Try.underlying29 rfl (by kernel_rfl) rfl (((((((((((((Chg.refl (· = w.heap.size) _).setCell (p := ⟨w.heap.size, 0, none⟩) (.inl rfl) _).setCell (p := ⟨w.heap.size, 1, none⟩) (.inl rfl) _).setCell (p := ⟨w.heap.size, 2, none⟩) (.inl rfl) _).setCell (p := ⟨w.heap.size, 3, none⟩) (.inl rfl) _).setCell (p := ⟨w.heap.size, 4, none⟩) (.inl rfl) _).setCell (p := ⟨w.heap.size, 5, none⟩) (.inl rfl) _).setCell (p := ⟨w.heap.size, 6, none⟩) (.inl rfl) _).setCell (p := ⟨w.heap.size, 7, none⟩) (.inl rfl) _).setCell (p := ⟨w.heap.size, 8, none⟩) (.inl rfl) _).setCell (p := ⟨w.heap.size, 9, none⟩) (.inl rfl) _).setCell (p := ⟨w.heap.size, 10, none⟩) (.inl rfl) _).setCell (p := ⟨w.heap.size, 11, none⟩) (.inl rfl) _) (EX.out w3 ⟨6, 1 + q, 0, 0, ⟨#[]⟩, [], ⟨0, 0⟩, 1 + s, ⟨0, 0, 0⟩⟩ none 0 (w.heap.size + 1) HC.out HG.out (by omega) (by omega) (World.ownsRow_nil _ _ _ _) (by simp) (Nat.zero_le 4))
  go_wp2_with fail
  refine (spec_l5Name_calls W0 g _ HC.out).mono ?_
  rintro e w3 ⟨nm, hnm, rfl, hc_, hg_⟩
  have hs_3 := hg_.size
  (try simp only [size_alloc] at hs_3)
  have HCn := Lib.hid hc_
  replace HKR := Lib.hid ((HKR.out).chg hg_ (by omega))
  replace HG := Lib.hid (HG.out.trans hg_)
  (try clear hc_ hg_ HC)
  have HC := HCn
  clear HCn
  (try clear k_HKR f_HKR)
  obtain ⟨k_HKR, f_HKR⟩ := HKR.out.rules
  have l_HKR := HKR.out.lt
  have HNM := Lib.hid hnm
  clear hnm
  go_wp2_with fail
  refine (spec_l1Below_calls W0 g _ _ HC.out).mono ?_
  rintro e w4 ⟨a, ha0, ha1, rfl, hc_, hg_⟩
  have hs_4 := hg_.size
  (try simp only [size_alloc] at hs_4)
  have HCn := Lib.hid hc_
  replace HKR := Lib.hid ((HKR.out).chg hg_ (by omega))
  replace HG := Lib.hid (HG.out.trans hg_)
  (try clear hc_ hg_ HC)
  have HC := HCn
  clear HCn
  (try clear k_HKR f_HKR)
  obtain ⟨k_HKR, f_HKR⟩ := HKR.out.rules
  have l_HKR := HKR.out.lt
  replace ha1 := ha1 (by omega)
  go_wp2_with fail
  refine (spec_l1Below_calls W0 g _ _ HC.out).mono ?_
  rintro e w5 ⟨b, hb0, hb1, rfl, hc_, hg_⟩
  have hs_5 := hg_.size
  (try simp only [size_alloc] at hs_5)
  have HCn := Lib.hid hc_
  replace HKR := Lib.hid ((HKR.out).chg hg_ (by omega))
  replace HG := Lib.hid (HG.out.trans hg_)
  (try clear hc_ hg_ HC)
  have HC := HCn
  clear HCn
  (try clear k_HKR f_HKR)
  obtain ⟨k_HKR, f_HKR⟩ := HKR.out.rules
  have l_HKR := HKR.out.lt
  replace hb1 := hb1 (by omega)
  go_wp2_with fail
  refine (spec_l1Below_calls W0 g _ _ HC.out).mono ?_
  rintro e w6 ⟨c, hc0, hc1, rfl, hc_, hg_⟩
  have hs_6 := hg_.size
  (try simp only [size_alloc] at hs_6)
  have HCn := Lib.hid hc_
  replace HKR := Lib.hid ((HKR.out).chg hg_ (by omega))
  replace HG := Lib.hid (HG.out.trans hg_)
  (try clear hc_ hg_ HC)
  have HC := HCn
  clear HCn
  (try clear k_HKR f_HKR)
  obtain ⟨k_HKR, f_HKR⟩ := HKR.out.rules
  have l_HKR := HKR.out.lt
  replace hc1 := hc1 (by omega)
  have HKM : Hid (Blk (w6.alloc (.cells #[.int .i64 1, .int .i64 0, .int .i64 0, .int .i64 (1 + q), .string nm, .slice none 0 0, .int .i64 0, .int .i64 0, .int .i64 0, .int .i64 (1 + a), .int .i64 b, .int .i64 (1 + c)] 29)) w6.heap.size 29 #[.int .i64 1, .int .i64 0, .int .i64 0, .int .i64 (1 + q), .string nm, .slice none 0 0, .int .i64 0, .int .i64 0, .int .i64 0, .int .i64 (1 + a), .int .i64 b, .int .i64 (1 + c)]) := Lib.hid (Blk.made rfl)
  have HCn := Lib.hid (HC.out.below ((Below.refl _ _).alloc (Nat.le_refl _) (.cells #[.int .i64 1, .int .i64 0, .int .i64 0, .int .i64 (1 + q), .string nm, .slice none 0 0, .int .i64 0, .int .i64 0, .int .i64 0, .int .i64 (1 + a), .int .i64 b, .int .i64 (1 + c)] 29)))
  clear HC
  have HC := HCn
  clear HCn
  replace HKR := Lib.hid (HKR.out.alloc (.cells #[.int .i64 1, .int .i64 0, .int .i64 0, .int .i64 (1 + q), .string nm, .slice none 0 0, .int .i64 0, .int .i64 0, .int .i64 0, .int .i64 (1 + a), .int .i64 b, .int .i64 (1 + c)] 29))
  replace HG := Lib.hid (HG.out.alloc (.cells #[.int .i64 1, .int .i64 0, .int .i64 0, .int .i64 (1 + q), .string nm, .slice none 0 0, .int .i64 0, .int .i64 0, .int .i64 0, .int .i64 (1 + a), .int .i64 b, .int .i64 (1 + c)] 29))
  have hgw : w.heap.size < w6.heap.size := by omega
  clear k_HKR f_HKR
  go_wp2_with fail
  refine (spec_l1Once_calls W0 g _ _ HC.out).mono ?_
  rintro e w7 ⟨t, rfl, hc_, hg_⟩
  have hs_7 := hg_.size
  (try simp only [size_alloc] at hs_7)
  have HCn := Lib.hid hc_
  replace HKR := Lib.hid ((HKR.out).chg hg_ (by omega))
  replace HKM := Lib.hid ((HKM.out).chg hg_ (by omega))
  replace HG := Lib.hid (HG.out.trans hg_)
  (try clear hc_ hg_ HC)
  have HC := HCn
  clear HCn
  (try clear k_HKR f_HKR k_HKM f_HKM)
  obtain ⟨k_HKR, f_HKR⟩ := HKR.out.rules
  have l_HKR := HKR.out.lt
  obtain ⟨k_HKM, f_HKM⟩ := HKM.out.rules
  have l_HKM := HKM.out.lt
  rcases t with _ | _
  · skip
    go_wp2_with fail
    refine (spec_l1Below_calls W0 g _ _ HC.out).mono ?_
    rintro e w8 ⟨d, hd0, hd1, rfl, hc_, hg_⟩
    have hs_8 := hg_.size
    (try simp only [size_alloc] at hs_8)
    have HCn := Lib.hid hc_
    replace HKR := Lib.hid ((HKR.out).chg hg_ (by omega))
    replace HKM := Lib.hid ((HKM.out).chg hg_ (by omega))
    replace HG := Lib.hid (HG.out.trans hg_)
    (try clear hc_ hg_ HC)
    have HC := HCn
    clear HCn
    (try clear k_HKR f_HKR k_HKM f_HKM)
    obtain ⟨k_HKR, f_HKR⟩ := HKR.out.rules
    have l_HKR := HKR.out.lt
    obtain ⟨k_HKM, f_HKM⟩ := HKM.out.rules
    have l_HKM := HKM.out.lt
    replace hd1 := hd1 (by omega)
    go_wp2_with fail
    obtain ⟨ws, hws⟩ : ∃ ws, ws = w8.setCell ⟨w6.heap.size, 1, none⟩ (.int .i64 (1 + d)) := ⟨_, rfl⟩
    have hcs : Chg (· = w6.heap.size) w8 ws := by rw [hws]; exact (Chg.refl (· = w6.heap.size) _).setCell (p := ⟨w6.heap.size, 1, none⟩) (.inl rfl) _
    have HKMn : Hid (Blk ws w6.heap.size 29 #[.int .i64 1, .int .i64 (1 + d), .int .i64 0, .int .i64 (1 + q), .string nm, .slice none 0 0, .int .i64 0, .int .i64 0, .int .i64 0, .int .i64 (1 + a), .int .i64 b, .int .i64 (1 + c)]) := Lib.hid (by rw [hws]; exact (HKM.out.set_ 1 _).eq (by simp))
    replace HKR := Lib.hid (HKR.out.chg hcs (by omega))
    have HCn := Lib.hid (HC.out.chg hcs (by rintro _ rfl; omega) (by omega))
    clear HC
    have HC := HCn
    clear HCn
    replace HG := Lib.hid (HG.out.then_ hcs (by rintro i hi rfl; omega))
    have hs_s := hcs.size
    rw [← hws]
    clear hws hcs k_HKR f_HKR k_HKM f_HKM HKM
    have HKM := HKMn
    clear HKMn
    (try clear k_HKR f_HKR k_HKM f_HKM)
    obtain ⟨k_HKR, f_HKR⟩ := HKR.out.rules
    have l_HKR := HKR.out.lt
    obtain ⟨k_HKM, f_HKM⟩ := HKM.out.rules
    have l_HKM := HKM.out.lt
    go_wp2_with fail
    refine (spec_l1Below_calls W0 g _ _ HC.out).mono ?_
    rintro e w9 ⟨i, hi0, hi1, rfl, hc_, hg_⟩
    have hs_9 := hg_.size
    (try simp only [size_alloc] at hs_9)
    have HCn := Lib.hid hc_
    replace HKR := Lib.hid ((HKR.out).chg hg_ (by omega))
    replace HKM := Lib.hid ((HKM.out).chg hg_ (by omega))
    replace HG := Lib.hid (HG.out.trans hg_)
    (try clear hc_ hg_ HC)
    have HC := HCn
    clear HCn
    (try clear k_HKR f_HKR k_HKM f_HKM)
    obtain ⟨k_HKR, f_HKR⟩ := HKR.out.rules
    have l_HKR := HKR.out.lt
    obtain ⟨k_HKM, f_HKM⟩ := HKM.out.rules
    have l_HKM := HKM.out.lt
    replace hi1 := hi1 (by omega)
    obtain ⟨i, rfl⟩ := Int.eq_ofNat_of_zero_le hi0
    go_wp2_with fail
    clear k_HKR f_HKR k_HKM f_HKM
    go_loopw [5] (fun a_ wr => ∃ (i : Nat) (xs : List GWire) (A : Option Addr) (c_ : Nat), a_ = .int .i64 i ∧ i + xs.length ≤ 2 ∧ Hid (Blk wr (w6.heap.size) 29 #[.int .i64 1, .int .i64 (1 + d), .int .i64 0, .int .i64 (1 + q), .string nm, .slice A xs.length c_, .int .i64 0, .int .i64 0, .int .i64 0, .int .i64 (1 + a), .int .i64 b, .int .i64 (1 + c)]) ∧ Hid (wr.ownsRow (w6.heap.size + 1) 25 2 (.slice A xs.length c_) xs.length (xs.flatMap vsWire)) ∧ Hid (Cur W0 g wr) ∧ Hid (Chg (· = g) w wr) ∧ Hid (Blk wr w.heap.size 29 #[.int .i64 0, .int .i64 0, .int .i64 0, .int .i64 0, .string ⟨#[]⟩, .slice none 0 0, .int .i64 0, .int .i64 0, .int .i64 0, .int .i64 0, .int .i64 0, .int .i64 0])) (fun a_ wr => (intOf a_).toNat)
    case atStart => exact ⟨i, [], none, 0, rfl, by simp only [List.length_nil]; omega, HKM, World.ownsRow_nil _ _ _ _, HC, HG, HKR⟩
    case round =>
      clear HC HG HKM HKR
      obtain ⟨i, xs, A3, c3, rfl, hix, HKM, HO, HC, HG, HKR⟩ := hrel
      obtain ⟨km, jm⟩ := HKM.out.rules
      have lm := HKM.out.lt
      have hlo := HO.out.lt
      have zr := HG.out.size
      obtain ⟨kr, jr⟩ := HKR.out.rules
      have lr := HKR.out.lt
      by_cases hp : (0 : Int) < i
      · go_wp2_with fail
        refine wp_region_U (fun wq => wq.cell? ⟨w6.heap.size, 5, none⟩ = some (.slice A3 xs.length c3)) [0, 1, 2, 3, 4, 5] (by kernel_rfl) ?_
        have hH_ := (show wr.drew.cell? ⟨w6.heap.size, 5, none⟩ = _ from km 5)
        refine wpAnyU_take (i := 0) (v := ?_) rfl (by kernel_rfl) (by kernel_rfl) (by kernel_rfl) (by kernel_rfl) (fun _ _ _ h => h) (Or.inl ⟨by rfl, ?_⟩) hH_ ?_
        rotate_left
        · (intro w hSw; (try dsimp only at hSw); go_simp <;> with_reducible rfl)
        simp only [Act.put, List.setIfInBounds_toArray, List.set_cons_zero, List.set_cons_succ]
        refine wpAnyU_take (i := 1) (v := ?_) rfl (by kernel_rfl) (by kernel_rfl) (by kernel_rfl) (by kernel_rfl) (fun _ _ _ h => h) (Or.inl ⟨by rfl, ?_⟩) hH_ ?_
        rotate_left
        · (intro w hSw; (try dsimp only at hSw); go_simp <;> with_reducible rfl)
        simp only [Act.put, List.setIfInBounds_toArray, List.set_cons_zero, List.set_cons_succ]
        refine wpAnyU_take (i := 2) (v := ?_) rfl (by kernel_rfl) (by kernel_rfl) (by kernel_rfl) (by kernel_rfl) (fun _ _ _ h => h) (Or.inl ⟨by rfl, ?_⟩) hH_ ?_
        rotate_left
        · (intro w hSw; (try dsimp only at hSw); go_simp <;> with_reducible rfl)
        simp only [Act.put, List.setIfInBounds_toArray, List.set_cons_zero, List.set_cons_succ]
        refine wpAnyU_one (i := 3) (by kernel_rfl) rfl (fun K hK => ?_)
        go_simp
        refine (spec_l11Wire_calls W0 g _ (HC.out.below (Below.refl _ _).drew)).mono ?_
        rintro e wc ⟨⟨ka, na⟩, rfl, hc_, hg_⟩
        have hs_c : wr.heap.size ≤ wc.heap.size := hg_.size
        have HCc := Lib.hid hc_
        have HKMc := Lib.hid (HKM.out.drew.chg hg_ (by omega))
        have HKRc := Lib.hid (HKR.out.drew.chg hg_ (by omega))
        have HGc := Lib.hid (HG.out.drew.trans hg_)
        have HOc := Lib.hid (ownsRow_keep (show wr.drew.ownsRow _ _ _ _ _ _ from HO.out) hg_ (fun k hk e => by have := (hlo k hk).1; omega))
        clear hc_ hg_
        obtain ⟨kc, jc⟩ := HKMc.out.rules
        refine hK.out _ _ ?_ (fun hH1_ => ?_)
        · exact (kc 5)
        clear hK K hH_
        have hH_ := hH1_
        clear hH1_
        refine wpAnyU_one (i := 4) (by kernel_rfl) rfl (fun K hK => ?_)
        go_simp
        refine hK.out _ _ ?_ (fun hH1_ => ?_)
        · exact cell_alloc_keep (kc 5)
        clear hK K hH_
        have hH_ := hH1_
        clear hH1_
        refine wpAnyU_one' (i := 5) (by kernel_rfl) rfl (by kernel_rfl) (fun K hK => ?_)
        refine step_append_lies _ (by rfl) _ _ _ (by rfl) (w6.heap.size + 1) 25 _ _ 2 16 Try.underlying23 rfl rfl rfl rfl rfl (by omega) _ xs.length _ (by rfl) (HOc.out.alloc _) ⟨wc.heap.size, 0, none⟩ 1 1 [.int .i64 ka, .int .i64 na] (by rfl) (by rfl) (World.news_of_block (cs := #[.int .i64 ka, .int .i64 na]) (t := 25) (fr := (0, 0)) (heap_alloc_new wc _)) (by simp [Value.oneCell']) (by omega) (by have h := (by decide : maxLen = 9223372036854775807); omega) (by omega) (by simp; omega) (wc.heap.size + 1) (by simp) ?_
        intro gg cap w3 hown hgrow hat hlt2
        have hz3 : wc.heap.size + 1 ≤ w3.heap.size := by have h := hgrow.size; simp only [size_alloc] at h; exact h
        have hlo2 : ∀ k, (Value.slice A3 xs.length c3).ownBlock = some k → w6.heap.size + 1 ≤ k := fun k hk => (hlo k hk).1
        have KM3 := Lib.hid ((HKMc.out.alloc (.cells #[.int .i64 ka, .int .i64 na] 25)).chg (grown_chg hgrow) (fun h => by have := hlo2 _ h; omega))
        have KR3 := Lib.hid ((HKRc.out.alloc (.cells #[.int .i64 ka, .int .i64 na] 25)).chg (grown_chg hgrow) (fun h => by have := hlo2 _ h; omega))
        have HC3 := Lib.hid ((HCc.out.below ((Below.refl _ _).alloc (Nat.le_refl _) (.cells #[.int .i64 ka, .int .i64 na] 25))).chg (grown_chg hgrow) (fun k h => by have := hlo2 _ h; omega) (fun h => by have := hlo2 _ h; omega))
        have HG3 := Lib.hid ((HGc.out.alloc (.cells #[.int .i64 ka, .int .i64 na] 25)).then_ (grown_chg hgrow) (fun k hk h => by have := hlo2 _ h; omega))
        have HO3 := Lib.hid hown
        clear hown
        obtain ⟨km3, jm3⟩ := KM3.out.rules
        have lm3 := KM3.out.lt
        refine hK.out _ _ ?_
        clear hK K
        refine wpAnyU_one' (i := 6) (by kernel_rfl) rfl (by kernel_rfl) (fun K hK => ?_)
        go_simp
        refine hK.out _ _ ?_
        clear hK K
        refine wpAnyU_one' (i := 7) (by kernel_rfl) rfl (by kernel_rfl) (fun K hK => ?_)
        go_simp
        refine hK.out _ _ ?_
        clear hK K
        refine wpAnyU_done (by kernel_rfl) ?_ _
        have HO4 : Hid (w3.ownsRow (w6.heap.size + 1) 25 2 (.slice (some ⟨gg, 0, none⟩) (xs ++ [(⟨ka, na⟩ : GWire)]).length cap) (xs ++ [(⟨ka, na⟩ : GWire)]).length ((xs ++ [(⟨ka, na⟩ : GWire)]).flatMap vsWire)) := by unfold Hid; rw [List.flatMap_append, List.length_append]; exact HO3.out
        have HS5 := Lib.hid ((Chg.refl (· = w6.heap.size) w3).setCell (p := ⟨w6.heap.size, 5, none⟩) (.inl rfl) (.slice (some ⟨gg, 0, none⟩) (xs.length + 1) cap))
        clear hgrow hat hlo2 km3 jm3 kc jc kr jr km jm
        go_wp2
        go_roundw
        case rel =>
          exact ⟨i - 1, xs ++ [(⟨ka, na⟩ : GWire)], some ⟨gg, 0, none⟩, cap, by rw [show ((i - 1 : Nat) : Int) = (i : Int) - 1 from by omega], by rw [List.length_append]; simp; omega, Lib.hid ((KM3.out.set_ 5 _).eq (by simp)), Lib.hid (ownsRow_keep HO4.out HS5.out (fun k hk e => by have := (HO4.out.lt k hk).1; omega)), Lib.hid (HC3.out.chg HS5.out (by rintro _ rfl; omega) (by omega)), Lib.hid (HG3.out.then_ HS5.out (by rintro k hk rfl; omega)), Lib.hid (KR3.out.chg HS5.out (by omega))⟩
        case measure => simp [intOf]; omega
      · have i0 : i = 0 := by omega
        subst i0
        go_wp2
        refine post_cell (w0 := wr) (fun k => k = w.heap.size) Try.results43 (w.heap.size) #[.int .i64 1, .int .i64 (1 + d), .int .i64 0, .int .i64 (1 + q), .string nm, .slice A3 xs.length c3, .int .i64 0, .int .i64 0, .int .i64 0, .int .i64 (1 + a), .int .i64 b, .int .i64 (1 + c)] _ rfl (Blk.eq ((((((((((((HKR.out.set_ 0 _).set_ 1 _).set_ 2 _).set_ 3 _).set_ 4 _).set_ 5 _).set_ 6 _).set_ 7 _).set_ 8 _).set_ 9 _).set_ 10 _).set_ 11 _) (by simp)) Try.underlying29 rfl (by kernel_rfl) rfl (((((((((((((Chg.refl (· = w.heap.size) _).setCell (p := ⟨w.heap.size, 0, none⟩) (.inl rfl) _).setCell (p := ⟨w.heap.size, 1, none⟩) (.inl rfl) _).setCell (p := ⟨w.heap.size, 2, none⟩) (.inl rfl) _).setCell (p := ⟨w.heap.size, 3, none⟩) (.inl rfl) _).setCell (p := ⟨w.heap.size, 4, none⟩) (.inl rfl) _).setCell (p := ⟨w.heap.size, 5, none⟩) (.inl rfl) _).setCell (p := ⟨w.heap.size, 6, none⟩) (.inl rfl) _).setCell (p := ⟨w.heap.size, 7, none⟩) (.inl rfl) _).setCell (p := ⟨w.heap.size, 8, none⟩) (.inl rfl) _).setCell (p := ⟨w.heap.size, 9, none⟩) (.inl rfl) _).setCell (p := ⟨w.heap.size, 10, none⟩) (.inl rfl) _).setCell (p := ⟨w.heap.size, 11, none⟩) (.inl rfl) _) (EX.out wr ⟨1, 1 + d, 0, 1 + q, nm, xs, ⟨0, 0⟩, 0, ⟨1 + a, b, 1 + c⟩⟩ A3 c3 (w6.heap.size + 1) HC.out HG.out (by omega) (by omega) HO.out (by show xs.length ≤ 2; omega) HNM.out)
  · skip
    go_wp2_with fail
    refine (spec_l1Below_calls W0 g _ _ HC.out).mono ?_
    rintro e w8 ⟨d, hd0, hd1, rfl, hc_, hg_⟩
    have hs_8 := hg_.size
    (try simp only [size_alloc] at hs_8)
    have HCn := Lib.hid hc_
    replace HKR := Lib.hid ((HKR.out).chg hg_ (by omega))
    replace HKM := Lib.hid ((HKM.out).chg hg_ (by omega))
    replace HG := Lib.hid (HG.out.trans hg_)
    (try clear hc_ hg_ HC)
    have HC := HCn
    clear HCn
    (try clear k_HKR f_HKR k_HKM f_HKM)
    obtain ⟨k_HKR, f_HKR⟩ := HKR.out.rules
    have l_HKR := HKR.out.lt
    obtain ⟨k_HKM, f_HKM⟩ := HKM.out.rules
    have l_HKM := HKM.out.lt
    replace hd1 := hd1 (by omega)
    go_wp2_with fail
    obtain ⟨ws, hws⟩ : ∃ ws, ws = w8.setCell ⟨w6.heap.size, 2, none⟩ (.int .i64 (1 + d)) := ⟨_, rfl⟩
    have hcs : Chg (· = w6.heap.size) w8 ws := by rw [hws]; exact (Chg.refl (· = w6.heap.size) _).setCell (p := ⟨w6.heap.size, 2, none⟩) (.inl rfl) _
    have HKMn : Hid (Blk ws w6.heap.size 29 #[.int .i64 1, .int .i64 0, .int .i64 (1 + d), .int .i64 (1 + q), .string nm, .slice none 0 0, .int .i64 0, .int .i64 0, .int .i64 0, .int .i64 (1 + a), .int .i64 b, .int .i64 (1 + c)]) := Lib.hid (by rw [hws]; exact (HKM.out.set_ 2 _).eq (by simp))
    replace HKR := Lib.hid (HKR.out.chg hcs (by omega))
    have HCn := Lib.hid (HC.out.chg hcs (by rintro _ rfl; omega) (by omega))
    clear HC
    have HC := HCn
    clear HCn
    replace HG := Lib.hid (HG.out.then_ hcs (by rintro i hi rfl; omega))
    have hs_s := hcs.size
    rw [← hws]
    clear hws hcs k_HKR f_HKR k_HKM f_HKM HKM
    have HKM := HKMn
    clear HKMn
    (try clear k_HKR f_HKR k_HKM f_HKM)
    obtain ⟨k_HKR, f_HKR⟩ := HKR.out.rules
    have l_HKR := HKR.out.lt
    obtain ⟨k_HKM, f_HKM⟩ := HKM.out.rules
    have l_HKM := HKM.out.lt
    go_wp2_with fail
    refine (spec_l1Below_calls W0 g _ _ HC.out).mono ?_
    rintro e w9 ⟨i, hi0, hi1, rfl, hc_, hg_⟩
    have hs_9 := hg_.size
    (try simp only [size_alloc] at hs_9)
    have HCn := Lib.hid hc_
    replace HKR := Lib.hid ((HKR.out).chg hg_ (by omega))
    replace HKM := Lib.hid ((HKM.out).chg hg_ (by omega))
    replace HG := Lib.hid (HG.out.trans hg_)
    (try clear hc_ hg_ HC)
    have HC := HCn
    clear HCn
    (try clear k_HKR f_HKR k_HKM f_HKM)
    obtain ⟨k_HKR, f_HKR⟩ := HKR.out.rules
    have l_HKR := HKR.out.lt
    obtain ⟨k_HKM, f_HKM⟩ := HKM.out.rules
    have l_HKM := HKM.out.lt
    replace hi1 := hi1 (by omega)
    obtain ⟨i, rfl⟩ := Int.eq_ofNat_of_zero_le hi0
    go_wp2_with fail
    clear k_HKR f_HKR k_HKM f_HKM
    go_loopw [5] (fun a_ wr => ∃ (i : Nat) (xs : List GWire) (A : Option Addr) (c_ : Nat), a_ = .int .i64 i ∧ i + xs.length ≤ 2 ∧ Hid (Blk wr (w6.heap.size) 29 #[.int .i64 1, .int .i64 0, .int .i64 (1 + d), .int .i64 (1 + q), .string nm, .slice A xs.length c_, .int .i64 0, .int .i64 0, .int .i64 0, .int .i64 (1 + a), .int .i64 b, .int .i64 (1 + c)]) ∧ Hid (wr.ownsRow (w6.heap.size + 1) 25 2 (.slice A xs.length c_) xs.length (xs.flatMap vsWire)) ∧ Hid (Cur W0 g wr) ∧ Hid (Chg (· = g) w wr) ∧ Hid (Blk wr w.heap.size 29 #[.int .i64 0, .int .i64 0, .int .i64 0, .int .i64 0, .string ⟨#[]⟩, .slice none 0 0, .int .i64 0, .int .i64 0, .int .i64 0, .int .i64 0, .int .i64 0, .int .i64 0])) (fun a_ wr => (intOf a_).toNat)
    case atStart => exact ⟨i, [], none, 0, rfl, by simp only [List.length_nil]; omega, HKM, World.ownsRow_nil _ _ _ _, HC, HG, HKR⟩
    case round =>
      clear HC HG HKM HKR
      obtain ⟨i, xs, A3, c3, rfl, hix, HKM, HO, HC, HG, HKR⟩ := hrel
      obtain ⟨km, jm⟩ := HKM.out.rules
      have lm := HKM.out.lt
      have hlo := HO.out.lt
      have zr := HG.out.size
      obtain ⟨kr, jr⟩ := HKR.out.rules
      have lr := HKR.out.lt
      by_cases hp : (0 : Int) < i
      · go_wp2_with fail
        refine wp_region_U (fun wq => wq.cell? ⟨w6.heap.size, 5, none⟩ = some (.slice A3 xs.length c3)) [0, 1, 2, 3, 4, 5] (by kernel_rfl) ?_
        have hH_ := (show wr.drew.cell? ⟨w6.heap.size, 5, none⟩ = _ from km 5)
        refine wpAnyU_take (i := 0) (v := ?_) rfl (by kernel_rfl) (by kernel_rfl) (by kernel_rfl) (by kernel_rfl) (fun _ _ _ h => h) (Or.inl ⟨by rfl, ?_⟩) hH_ ?_
        rotate_left
        · (intro w hSw; (try dsimp only at hSw); go_simp <;> with_reducible rfl)
        simp only [Act.put, List.setIfInBounds_toArray, List.set_cons_zero, List.set_cons_succ]
        refine wpAnyU_take (i := 1) (v := ?_) rfl (by kernel_rfl) (by kernel_rfl) (by kernel_rfl) (by kernel_rfl) (fun _ _ _ h => h) (Or.inl ⟨by rfl, ?_⟩) hH_ ?_
        rotate_left
        · (intro w hSw; (try dsimp only at hSw); go_simp <;> with_reducible rfl)
        simp only [Act.put, List.setIfInBounds_toArray, List.set_cons_zero, List.set_cons_succ]
        refine wpAnyU_take (i := 2) (v := ?_) rfl (by kernel_rfl) (by kernel_rfl) (by kernel_rfl) (by kernel_rfl) (fun _ _ _ h => h) (Or.inl ⟨by rfl, ?_⟩) hH_ ?_
        rotate_left
        · (intro w hSw; (try dsimp only at hSw); go_simp <;> with_reducible rfl)
        simp only [Act.put, List.setIfInBounds_toArray, List.set_cons_zero, List.set_cons_succ]
        refine wpAnyU_one (i := 3) (by kernel_rfl) rfl (fun K hK => ?_)
        go_simp
        refine (spec_l11Wire_calls W0 g _ (HC.out.below (Below.refl _ _).drew)).mono ?_
        rintro e wc ⟨⟨ka, na⟩, rfl, hc_, hg_⟩
        have hs_c : wr.heap.size ≤ wc.heap.size := hg_.size
        have HCc := Lib.hid hc_
        have HKMc := Lib.hid (HKM.out.drew.chg hg_ (by omega))
        have HKRc := Lib.hid (HKR.out.drew.chg hg_ (by omega))
        have HGc := Lib.hid (HG.out.drew.trans hg_)
        have HOc := Lib.hid (ownsRow_keep (show wr.drew.ownsRow _ _ _ _ _ _ from HO.out) hg_ (fun k hk e => by have := (hlo k hk).1; omega))
        clear hc_ hg_
        obtain ⟨kc, jc⟩ := HKMc.out.rules
        refine hK.out _ _ ?_ (fun hH1_ => ?_)
        · exact (kc 5)
        clear hK K hH_
        have hH_ := hH1_
        clear hH1_
        refine wpAnyU_one (i := 4) (by kernel_rfl) rfl (fun K hK => ?_)
        go_simp
        refine hK.out _ _ ?_ (fun hH1_ => ?_)
        · exact cell_alloc_keep (kc 5)
        clear hK K hH_
        have hH_ := hH1_
        clear hH1_
        refine wpAnyU_one' (i := 5) (by kernel_rfl) rfl (by kernel_rfl) (fun K hK => ?_)
        refine step_append_lies _ (by rfl) _ _ _ (by rfl) (w6.heap.size + 1) 25 _ _ 2 16 Try.underlying23 rfl rfl rfl rfl rfl (by omega) _ xs.length _ (by rfl) (HOc.out.alloc _) ⟨wc.heap.size, 0, none⟩ 1 1 [.int .i64 ka, .int .i64 na] (by rfl) (by rfl) (World.news_of_block (cs := #[.int .i64 ka, .int .i64 na]) (t := 25) (fr := (0, 0)) (heap_alloc_new wc _)) (by simp [Value.oneCell']) (by omega) (by have h := (by decide : maxLen = 9223372036854775807); omega) (by omega) (by simp; omega) (wc.heap.size + 1) (by simp) ?_
        intro gg cap w3 hown hgrow hat hlt2
        have hz3 : wc.heap.size + 1 ≤ w3.heap.size := by have h := hgrow.size; simp only [size_alloc] at h; exact h
        have hlo2 : ∀ k, (Value.slice A3 xs.length c3).ownBlock = some k → w6.heap.size + 1 ≤ k := fun k hk => (hlo k hk).1
        have KM3 := Lib.hid ((HKMc.out.alloc (.cells #[.int .i64 ka, .int .i64 na] 25)).chg (grown_chg hgrow) (fun h => by have := hlo2 _ h; omega))
        have KR3 := Lib.hid ((HKRc.out.alloc (.cells #[.int .i64 ka, .int .i64 na] 25)).chg (grown_chg hgrow) (fun h => by have := hlo2 _ h; omega))
        have HC3 := Lib.hid ((HCc.out.below ((Below.refl _ _).alloc (Nat.le_refl _) (.cells #[.int .i64 ka, .int .i64 na] 25))).chg (grown_chg hgrow) (fun k h => by have := hlo2 _ h; omega) (fun h => by have := hlo2 _ h; omega))
        have HG3 := Lib.hid ((HGc.out.alloc (.cells #[.int .i64 ka, .int .i64 na] 25)).then_ (grown_chg hgrow) (fun k hk h => by have := hlo2 _ h; omega))
        have HO3 := Lib.hid hown
        clear hown
        obtain ⟨km3, jm3⟩ := KM3.out.rules
        have lm3 := KM3.out.lt
        refine hK.out _ _ ?_
        clear hK K
        refine wpAnyU_one' (i := 6) (by kernel_rfl) rfl (by kernel_rfl) (fun K hK => ?_)
        go_simp
        refine hK.out _ _ ?_
        clear hK K
        refine wpAnyU_one' (i := 7) (by kernel_rfl) rfl (by kernel_rfl) (fun K hK => ?_)
        go_simp
        refine hK.out _ _ ?_
        clear hK K
        refine wpAnyU_done (by kernel_rfl) ?_ _
        have HO4 : Hid (w3.ownsRow (w6.heap.size + 1) 25 2 (.slice (some ⟨gg, 0, none⟩) (xs ++ [(⟨ka, na⟩ : GWire)]).length cap) (xs ++ [(⟨ka, na⟩ : GWire)]).length ((xs ++ [(⟨ka, na⟩ : GWire)]).flatMap vsWire)) := by unfold Hid; rw [List.flatMap_append, List.length_append]; exact HO3.out
        have HS5 := Lib.hid ((Chg.refl (· = w6.heap.size) w3).setCell (p := ⟨w6.heap.size, 5, none⟩) (.inl rfl) (.slice (some ⟨gg, 0, none⟩) (xs.length + 1) cap))
        clear hgrow hat hlo2 km3 jm3 kc jc kr jr km jm
        go_wp2
        go_roundw
        case rel =>
          exact ⟨i - 1, xs ++ [(⟨ka, na⟩ : GWire)], some ⟨gg, 0, none⟩, cap, by rw [show ((i - 1 : Nat) : Int) = (i : Int) - 1 from by omega], by rw [List.length_append]; simp; omega, Lib.hid ((KM3.out.set_ 5 _).eq (by simp)), Lib.hid (ownsRow_keep HO4.out HS5.out (fun k hk e => by have := (HO4.out.lt k hk).1; omega)), Lib.hid (HC3.out.chg HS5.out (by rintro _ rfl; omega) (by omega)), Lib.hid (HG3.out.then_ HS5.out (by rintro k hk rfl; omega)), Lib.hid (KR3.out.chg HS5.out (by omega))⟩
        case measure => simp [intOf]; omega
      · have i0 : i = 0 := by omega
        subst i0
        go_wp2
        refine post_cell (w0 := wr) (fun k => k = w.heap.size) Try.results43 (w.heap.size) #[.int .i64 1, .int .i64 0, .int .i64 (1 + d), .int .i64 (1 + q), .string nm, .slice A3 xs.length c3, .int .i64 0, .int .i64 0, .int .i64 0, .int .i64 (1 + a), .int .i64 b, .int .i64 (1 + c)] _ rfl (Blk.eq ((((((((((((HKR.out.set_ 0 _).set_ 1 _).set_ 2 _).set_ 3 _).set_ 4 _).set_ 5 _).set_ 6 _).set_ 7 _).set_ 8 _).set_ 9 _).set_ 10 _).set_ 11 _) (by simp)) Try.underlying29 rfl (by kernel_rfl) rfl (((((((((((((Chg.refl (· = w.heap.size) _).setCell (p := ⟨w.heap.size, 0, none⟩) (.inl rfl) _).setCell (p := ⟨w.heap.size, 1, none⟩) (.inl rfl) _).setCell (p := ⟨w.heap.size, 2, none⟩) (.inl rfl) _).setCell (p := ⟨w.heap.size, 3, none⟩) (.inl rfl) _).setCell (p := ⟨w.heap.size, 4, none⟩) (.inl rfl) _).setCell (p := ⟨w.heap.size, 5, none⟩) (.inl rfl) _).setCell (p := ⟨w.heap.size, 6, none⟩) (.inl rfl) _).setCell (p := ⟨w.heap.size, 7, none⟩) (.inl rfl) _).setCell (p := ⟨w.heap.size, 8, none⟩) (.inl rfl) _).setCell (p := ⟨w.heap.size, 9, none⟩) (.inl rfl) _).setCell (p := ⟨w.heap.size, 10, none⟩) (.inl rfl) _).setCell (p := ⟨w.heap.size, 11, none⟩) (.inl rfl) _) (EX.out wr ⟨1, 0, 1 + d, 1 + q, nm, xs, ⟨0, 0⟩, 0, ⟨1 + a, b, 1 + c⟩⟩ A3 c3 (w6.heap.size + 1) HC.out HG.out (by omega) (by omega) HO.out (by show xs.length ≤ 2; omega) HNM.out)

end Go.Proofs.Ytklbpjnpmbidiaa
