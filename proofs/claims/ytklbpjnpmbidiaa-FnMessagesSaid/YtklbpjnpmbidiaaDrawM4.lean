import Derived.Test.YtklbpjnpmbidiaaProg
import Derived.Test.YtklbpjnpmbidiaaTypes
import Derived.StillTailTactics
import Derived.Deep.RegionWith
import Derived.Deep.AppendLies
import Derived.Deep.CutRange
import Derived.Deep.RegionHeld3
import Derived.Laws.IdiomStrings
import Derived.Test.YtklbpjnpmbidiaaAppend
import Derived.Laws.StructEq
import Derived.Lib.SliceRun
import Derived.Shelf.RegionOpenPlain
import Derived.Test.YtklbpjnpmbidiaaDrawM3
namespace Go.Proofs.Ytklbpjnpmbidiaa
open Go.RowKit
set_option linter.unusedVariables false
set_option linter.unusedSimpArgs false

set_option maxHeartbeats 12800000 in
set_option maxRecDepth 100000 in
theorem spec_l11Any_calls (W0 : World) (g : Nat) (w : World) (hC : Cur W0 g w) :
    Calls Try.prog 35 #[.pointer (some ⟨g, 0, none⟩)] w fun e w' => ∃ x us, e = .returned (.agg us.toArray) ∧ MsgAt w.heap.size w' x us ∧ x.Args.length ≤ 3 ∧ x.Name.size ≤ 7 ∧ Cur W0 g w' ∧ Chg (· = g) w w' := by
  have hlt := hC.lt
  have hge := hC.ge
  have hW0 := hC.base.size
  have HC := Lib.hid (hC.below ((Below.refl w.heap.size w).alloc (Nat.le_refl _) (.cells #[.int .i64 0, .int .i64 0, .int .i64 0, .int .i64 0, .string ⟨#[]⟩, .slice none 0 0, .int .i64 0, .int .i64 0, .int .i64 0, .int .i64 0, .int .i64 0, .int .i64 0] 29)))
  have HKR := Lib.hid (Blk.new w 29 #[.int .i64 0, .int .i64 0, .int .i64 0, .int .i64 0, .string ⟨#[]⟩, .slice none 0 0, .int .i64 0, .int .i64 0, .int .i64 0, .int .i64 0, .int .i64 0, .int .i64 0])
  have HG := Lib.hid ((Chg.refl (· = g) w).alloc (.cells #[.int .i64 0, .int .i64 0, .int .i64 0, .int .i64 0, .string ⟨#[]⟩, .slice none 0 0, .int .i64 0, .int .i64 0, .int .i64 0, .int .i64 0, .int .i64 0, .int .i64 0] 29))
  clear hC
  have exit : ∀ (wl : World) (x : GMessage) (A : Option Addr) (c B : Nat), Cur W0 g wl → Chg (· = g) w wl → w.heap.size < B → B ≤ wl.heap.size → wl.ownsRow B 25 2 (.slice A x.Args.length c) x.Args.length (x.Args.flatMap vsWire) → x.Args.length ≤ 3 → x.Name.size ≤ 7 → ∀ W, Chg (fun k => k = w.heap.size) wl W →
      ∃ (y : GMessage) (us : List Value), Ending.returned (.agg #[.int .i64 x.Kind, .int .i64 x.Pos, .int .i64 x.Answer, .int .i64 x.Question, .string x.Name, .slice A x.Args.length c, .int .i64 x.Value.Kind, .int .i64 x.Value.N, .int .i64 x.Count, .int .i64 x.Tag.Vat, .int .i64 x.Tag.Entity, .int .i64 x.Tag.Seq]) = .returned (.agg us.toArray) ∧ MsgAt w.heap.size W y us ∧ y.Args.length ≤ 3 ∧ y.Name.size ≤ 7 ∧ Cur W0 g W ∧ Chg (· = g) w W := by
    intro wl x A c B h1 h2 hB hBw ho ha hn W h3
    exact ⟨x, _, rfl, ⟨A, c, B, rfl, by omega, Nat.le_trans hBw h3.size, ownsRow_keep ho h3 (fun k hk e => by have := (ho.lt k hk).1; omega)⟩, ha, hn, h1.chg h3 (by rintro _ rfl; exact hW0) (by omega), h2.then_ h3 (by rintro i hi rfl; omega)⟩
  have EX := Lib.hid exit
  clear exit
  have HGN : Hid (∀ (W : World) (A : Addr) (n : Nat) (c n' c' : Nat), g < W.heap.size → Value.slice (some ⟨W.heap.size, 0, none⟩) n' c' = .slice (some A) n c → A.block ≠ g) := by
    intro W A n c n' c' hW h; injection h with h; injection h with h; subst h; exact Nat.ne_of_gt hW
  go_enter Try.func35, Try.ntmps35
  go_wp2_with fail
  refine (spec_l11Message_calls W0 g _ HC.out).mono ?_
  rintro e w1 ⟨x, us, rfl, hm_, hna, hnn, hc_, hg_⟩
  have hs_1 := hg_.size
  (try simp only [size_alloc] at hs_1)
  have HCn := Lib.hid hc_
  replace HKR := Lib.hid ((HKR.out).chg hg_ (by omega))
  replace HG := Lib.hid (HG.out.trans hg_)
  (try clear hc_ hg_ HC)
  have HC := HCn
  clear HCn
  (try clear k_HKR f_HKR)
  obtain ⟨k_HKR, f_HKR⟩ := HKR.out.rules
  have l_HKR := HKR.out.lt
  have hm_ : MsgAt (w.heap.size + 1) w1 x us := by simpa using hm_
  obtain ⟨A, c, B, rfl, hB1, hB2, ho_⟩ := hm_
  have HO := Lib.hid (ho_.alloc (.cells #[.int .i64 x.Kind, .int .i64 x.Pos, .int .i64 x.Answer, .int .i64 x.Question, .string x.Name, .slice A x.Args.length c, .int .i64 x.Value.Kind, .int .i64 x.Value.N, .int .i64 x.Count, .int .i64 x.Tag.Vat, .int .i64 x.Tag.Entity, .int .i64 x.Tag.Seq] 29))
  have hlo : ∀ k, (Value.slice A x.Args.length c).ownBlock = some k → B ≤ k ∧ k < w1.heap.size := fun k hk => ⟨(ho_.lt k hk).1, (ho_.lt k hk).2⟩
  clear ho_
  have HKM : Hid (Blk (w1.alloc (.cells #[.int .i64 x.Kind, .int .i64 x.Pos, .int .i64 x.Answer, .int .i64 x.Question, .string x.Name, .slice A x.Args.length c, .int .i64 x.Value.Kind, .int .i64 x.Value.N, .int .i64 x.Count, .int .i64 x.Tag.Vat, .int .i64 x.Tag.Entity, .int .i64 x.Tag.Seq] 29)) w1.heap.size 29 #[.int .i64 x.Kind, .int .i64 x.Pos, .int .i64 x.Answer, .int .i64 x.Question, .string x.Name, .slice A x.Args.length c, .int .i64 x.Value.Kind, .int .i64 x.Value.N, .int .i64 x.Count, .int .i64 x.Tag.Vat, .int .i64 x.Tag.Entity, .int .i64 x.Tag.Seq]) := Lib.hid (Blk.made rfl)
  have HCn := Lib.hid (HC.out.below ((Below.refl _ _).alloc (Nat.le_refl _) (.cells #[.int .i64 x.Kind, .int .i64 x.Pos, .int .i64 x.Answer, .int .i64 x.Question, .string x.Name, .slice A x.Args.length c, .int .i64 x.Value.Kind, .int .i64 x.Value.N, .int .i64 x.Count, .int .i64 x.Tag.Vat, .int .i64 x.Tag.Entity, .int .i64 x.Tag.Seq] 29)))
  clear HC
  have HC := HCn
  clear HCn
  replace HKR := Lib.hid (HKR.out.alloc (.cells #[.int .i64 x.Kind, .int .i64 x.Pos, .int .i64 x.Answer, .int .i64 x.Question, .string x.Name, .slice A x.Args.length c, .int .i64 x.Value.Kind, .int .i64 x.Value.N, .int .i64 x.Count, .int .i64 x.Tag.Vat, .int .i64 x.Tag.Entity, .int .i64 x.Tag.Seq] 29))
  replace HG := Lib.hid (HG.out.alloc (.cells #[.int .i64 x.Kind, .int .i64 x.Pos, .int .i64 x.Answer, .int .i64 x.Question, .string x.Name, .slice A x.Args.length c, .int .i64 x.Value.Kind, .int .i64 x.Value.N, .int .i64 x.Count, .int .i64 x.Tag.Vat, .int .i64 x.Tag.Entity, .int .i64 x.Tag.Seq] 29))
  have hgw : w.heap.size < w1.heap.size := by omega
  have HNN := Lib.hid hnn
  clear hnn
  clear k_HKR f_HKR
  go_wp2_with fail
  refine (spec_l1Below_calls W0 g _ _ HC.out).mono ?_
  rintro e w2 ⟨r, hr0, hr1, rfl, hc_, hg_⟩
  have hs_2 := hg_.size
  (try simp only [size_alloc] at hs_2)
  have HCn := Lib.hid hc_
  replace HKR := Lib.hid ((HKR.out).chg hg_ (by omega))
  replace HKM := Lib.hid ((HKM.out).chg hg_ (by omega))
  replace HO := Lib.hid (ownsRow_keep (HO.out) hg_ (fun k hk e => by have := (hlo k hk).1; omega))
  replace HG := Lib.hid (HG.out.trans hg_)
  (try clear hc_ hg_ HC)
  have HC := HCn
  clear HCn
  (try clear k_HKR f_HKR k_HKM f_HKM)
  obtain ⟨k_HKR, f_HKR⟩ := HKR.out.rules
  have l_HKR := HKR.out.lt
  obtain ⟨k_HKM, f_HKM⟩ := HKM.out.rules
  have l_HKM := HKM.out.lt
  replace hr1 := hr1 (by omega)
  by_cases r0 : r = 0
  · skip
    go_wp2_with fail
    refine (spec_l1Below_calls W0 g _ _ HC.out).mono ?_
    rintro e w3 ⟨v, hv0, hv1, rfl, hc_, hg_⟩
    have hs_3 := hg_.size
    (try simp only [size_alloc] at hs_3)
    have HCn := Lib.hid hc_
    replace HKR := Lib.hid ((HKR.out).chg hg_ (by omega))
    replace HKM := Lib.hid ((HKM.out).chg hg_ (by omega))
    replace HO := Lib.hid (ownsRow_keep (HO.out) hg_ (fun k hk e => by have := (hlo k hk).1; omega))
    replace HG := Lib.hid (HG.out.trans hg_)
    (try clear hc_ hg_ HC)
    have HC := HCn
    clear HCn
    (try clear k_HKR f_HKR k_HKM f_HKM)
    obtain ⟨k_HKR, f_HKR⟩ := HKR.out.rules
    have l_HKR := HKR.out.lt
    obtain ⟨k_HKM, f_HKM⟩ := HKM.out.rules
    have l_HKM := HKM.out.lt
    obtain ⟨ws, hws⟩ : ∃ ws, ws = (w3.setCell ⟨w1.heap.size, 0, none⟩ (.int .i64 v)) := ⟨_, rfl⟩
    have hcs : Chg (· = w1.heap.size) w3 ws := by rw [hws]; exact ((Chg.refl (· = w1.heap.size) _).setCell (p := ⟨w1.heap.size, 0, none⟩) (.inl rfl) _)
    have HKRs := Lib.hid (HKR.out.chg hcs (by omega))
    have HCs := Lib.hid (HC.out.chg hcs (by rintro _ rfl; omega) (by omega))
    have HGs := Lib.hid (HG.out.then_ hcs (by rintro i hi rfl; omega))
    have HOs := Lib.hid (ownsRow_keep HO.out hcs (fun k hk e => by have := (hlo k hk).2; omega))
    have hs_s := hcs.size
    clear hcs
    go_wp2
    rw [← hws]
    have HKR := HKRs
    refine post_cell (w0 := ws) (fun k => k = w.heap.size) Try.results35 (w.heap.size) #[.int .i64 v, .int .i64 x.Pos, .int .i64 x.Answer, .int .i64 x.Question, .string x.Name, .slice A x.Args.length c, .int .i64 x.Value.Kind, .int .i64 x.Value.N, .int .i64 x.Count, .int .i64 x.Tag.Vat, .int .i64 x.Tag.Entity, .int .i64 x.Tag.Seq] _ rfl (Blk.eq ((((((((((((HKR.out.set_ 0 _).set_ 1 _).set_ 2 _).set_ 3 _).set_ 4 _).set_ 5 _).set_ 6 _).set_ 7 _).set_ 8 _).set_ 9 _).set_ 10 _).set_ 11 _) (by simp)) Try.underlying29 rfl (by kernel_rfl) rfl (((((((((((((Chg.refl (· = w.heap.size) _).setCell (p := ⟨w.heap.size, 0, none⟩) (.inl rfl) _).setCell (p := ⟨w.heap.size, 1, none⟩) (.inl rfl) _).setCell (p := ⟨w.heap.size, 2, none⟩) (.inl rfl) _).setCell (p := ⟨w.heap.size, 3, none⟩) (.inl rfl) _).setCell (p := ⟨w.heap.size, 4, none⟩) (.inl rfl) _).setCell (p := ⟨w.heap.size, 5, none⟩) (.inl rfl) _).setCell (p := ⟨w.heap.size, 6, none⟩) (.inl rfl) _).setCell (p := ⟨w.heap.size, 7, none⟩) (.inl rfl) _).setCell (p := ⟨w.heap.size, 8, none⟩) (.inl rfl) _).setCell (p := ⟨w.heap.size, 9, none⟩) (.inl rfl) _).setCell (p := ⟨w.heap.size, 10, none⟩) (.inl rfl) _).setCell (p := ⟨w.heap.size, 11, none⟩) (.inl rfl) _) (EX.out ws ⟨v, x.Pos, x.Answer, x.Question, x.Name, x.Args, x.Value, x.Count, x.Tag⟩ A c B HCs.out HGs.out (by omega) (by omega) HOs.out (by show x.Args.length ≤ 3; omega) (by show x.Name.size ≤ 7; have := HNN.out; omega))
  by_cases r1 : r = 1
  · skip
    go_wp2_with fail
    refine (spec_l1Int_calls W0 g [-1, 0, 1, 1000000] _ _ (HC.out.below ((Below.refl _ _).alloc (Nat.le_refl _) _)) (by simp) (rdW_lit vals_eInt w2 _ 3 (by simp)) (fun A n c h => HGN.out w2 A n c _ _ HC.out.lt h)).mono ?_
    rintro e w3 ⟨v, hv, rfl, hc_, hg_⟩
    have hs_3 := hg_.size
    (try simp only [size_alloc] at hs_3)
    have HCn := Lib.hid hc_
    replace HKR := Lib.hid ((HKR.out.alloc _).chg hg_ (by omega))
    replace HKM := Lib.hid ((HKM.out.alloc _).chg hg_ (by omega))
    replace HO := Lib.hid (ownsRow_keep (HO.out.alloc _) hg_ (fun k hk e => by have := (hlo k hk).1; omega))
    replace HG := Lib.hid ((HG.out.alloc _).trans hg_)
    (try clear hc_ hg_ HC)
    have HC := HCn
    clear HCn
    (try clear k_HKR f_HKR k_HKM f_HKM)
    obtain ⟨k_HKR, f_HKR⟩ := HKR.out.rules
    have l_HKR := HKR.out.lt
    obtain ⟨k_HKM, f_HKM⟩ := HKM.out.rules
    have l_HKM := HKM.out.lt
    obtain ⟨ws, hws⟩ : ∃ ws, ws = (w3.setCell ⟨w1.heap.size, 1, none⟩ (.int .i64 v)) := ⟨_, rfl⟩
    have hcs : Chg (· = w1.heap.size) w3 ws := by rw [hws]; exact ((Chg.refl (· = w1.heap.size) _).setCell (p := ⟨w1.heap.size, 1, none⟩) (.inl rfl) _)
    have HKRs := Lib.hid (HKR.out.chg hcs (by omega))
    have HCs := Lib.hid (HC.out.chg hcs (by rintro _ rfl; omega) (by omega))
    have HGs := Lib.hid (HG.out.then_ hcs (by rintro i hi rfl; omega))
    have HOs := Lib.hid (ownsRow_keep HO.out hcs (fun k hk e => by have := (hlo k hk).2; omega))
    have hs_s := hcs.size
    clear hcs
    go_wp2
    rw [← hws]
    have HKR := HKRs
    refine post_cell (w0 := ws) (fun k => k = w.heap.size) Try.results35 (w.heap.size) #[.int .i64 x.Kind, .int .i64 v, .int .i64 x.Answer, .int .i64 x.Question, .string x.Name, .slice A x.Args.length c, .int .i64 x.Value.Kind, .int .i64 x.Value.N, .int .i64 x.Count, .int .i64 x.Tag.Vat, .int .i64 x.Tag.Entity, .int .i64 x.Tag.Seq] _ rfl (Blk.eq ((((((((((((HKR.out.set_ 0 _).set_ 1 _).set_ 2 _).set_ 3 _).set_ 4 _).set_ 5 _).set_ 6 _).set_ 7 _).set_ 8 _).set_ 9 _).set_ 10 _).set_ 11 _) (by simp)) Try.underlying29 rfl (by kernel_rfl) rfl (((((((((((((Chg.refl (· = w.heap.size) _).setCell (p := ⟨w.heap.size, 0, none⟩) (.inl rfl) _).setCell (p := ⟨w.heap.size, 1, none⟩) (.inl rfl) _).setCell (p := ⟨w.heap.size, 2, none⟩) (.inl rfl) _).setCell (p := ⟨w.heap.size, 3, none⟩) (.inl rfl) _).setCell (p := ⟨w.heap.size, 4, none⟩) (.inl rfl) _).setCell (p := ⟨w.heap.size, 5, none⟩) (.inl rfl) _).setCell (p := ⟨w.heap.size, 6, none⟩) (.inl rfl) _).setCell (p := ⟨w.heap.size, 7, none⟩) (.inl rfl) _).setCell (p := ⟨w.heap.size, 8, none⟩) (.inl rfl) _).setCell (p := ⟨w.heap.size, 9, none⟩) (.inl rfl) _).setCell (p := ⟨w.heap.size, 10, none⟩) (.inl rfl) _).setCell (p := ⟨w.heap.size, 11, none⟩) (.inl rfl) _) (EX.out ws ⟨x.Kind, v, x.Answer, x.Question, x.Name, x.Args, x.Value, x.Count, x.Tag⟩ A c B HCs.out HGs.out (by omega) (by omega) HOs.out (by show x.Args.length ≤ 3; omega) (by show x.Name.size ≤ 7; have := HNN.out; omega))
  by_cases r2 : r = 2
  · skip
    go_wp2_with fail
    obtain ⟨km, jm⟩ := HKM.out.rules
    have lm := HKM.out.lt
    refine wp_region_U (fun wq => wq.cell? ⟨w1.heap.size, 5, none⟩ = some (.slice A x.Args.length c)) [0, 1, 2, 3, 4, 5] (by kernel_rfl) ?_
    have hH_ := (show w2.drew.cell? ⟨w1.heap.size, 5, none⟩ = _ from km 5)
    refine wpAnyU_take (i := 0) (v := ?_) rfl (by kernel_rfl) (by kernel_rfl) (by kernel_rfl) (by kernel_rfl) (fun _ _ _ h => h) (Or.inl ⟨by rfl, ?_⟩) hH_ ?_
    rotate_left
    · (intro w hSw; (try dsimp only at hSw); go_simp <;> with_reducible rfl)
    simp only [Act.put, List.setIfInBounds_toArray, List.set_cons_zero, List.set_cons_succ]
    refine wpAnyU_take (i := 1) (v := ?_) rfl (by kernel_rfl) (by kernel_rfl) (by kernel_rfl) (by kernel_rfl) (fun _ _ _ h => h) (Or.inl ⟨by rfl, ?_⟩) hH_ ?_
    rotate_left
    · (intro w hSw; (try dsimp only at hSw); go_simp <;> with_reducible rfl)
    simp only [Act.put, List.setIfInBounds_toArray, List.set_cons_zero, List.set_cons_succ]
    refine wpAnyU_take (i := 2) (v := ?_) rfl (by kernel_rfl) (by kernel_rfl) (by kernel_rfl) (by kernel_rfl) (fun _ _ _ h => h) (Or.inl ⟨by rfl, ?_⟩) hH_ ?_
    rotate_left
    · (intro w hSw; (try dsimp only at hSw); go_simp <;> with_reducible rfl)
    simp only [Act.put, List.setIfInBounds_toArray, List.set_cons_zero, List.set_cons_succ]
    refine wpAnyU_one (i := 3) (by kernel_rfl) rfl (fun K hK => ?_)
    go_simp
    refine (spec_l11AnyWire_calls W0 g _ (HC.out.below (Below.refl _ _).drew)).mono ?_
    rintro e wc ⟨⟨ka, na⟩, rfl, hc_, hg_⟩
    have hs_c : w2.heap.size ≤ wc.heap.size := hg_.size
    have HCc := Lib.hid hc_
    have HKMc := Lib.hid (HKM.out.drew.chg hg_ (by omega))
    have HKRc := Lib.hid (HKR.out.drew.chg hg_ (by omega))
    have HGc := Lib.hid (HG.out.drew.trans hg_)
    have HOc := Lib.hid (ownsRow_keep (show w2.drew.ownsRow _ _ _ _ _ _ from HO.out) hg_ (fun k hk e => by have := (hlo k hk).1; omega))
    clear hc_ hg_
    obtain ⟨kc, jc⟩ := HKMc.out.rules
    refine hK.out _ _ ?_ (fun hH1_ => ?_)
    · exact (kc 5)
    clear hK K hH_
    have hH_ := hH1_
    clear hH1_
    refine wpAnyU_one (i := 4) (by kernel_rfl) rfl (fun K hK => ?_)
    go_simp
    refine hK.out _ _ ?_ (fun hH1_ => ?_)
    · exact cell_alloc_keep (kc 5)
    clear hK K hH_
    have hH_ := hH1_
    clear hH1_
    refine wpAnyU_one' (i := 5) (by kernel_rfl) rfl (by kernel_rfl) (fun K hK => ?_)
    refine step_append_lies _ (by rfl) _ _ _ (by rfl) B 25 _ _ 2 16 Try.underlying23 rfl rfl rfl rfl rfl (by omega) _ x.Args.length _ (by rfl) (HOc.out.alloc _) ⟨wc.heap.size, 0, none⟩ 1 1 [.int .i64 ka, .int .i64 na] (by rfl) (by rfl) (World.news_of_block (cs := #[.int .i64 ka, .int .i64 na]) (t := 25) (fr := (0, 0)) (heap_alloc_new wc _)) (by simp [Value.oneCell']) (by omega) (by have h := (by decide : maxLen = 9223372036854775807); omega) (by omega) (by simp; omega) (wc.heap.size + 1) (by simp) ?_
    intro gg cap w3 hown hgrow hat hlt2
    have hz3 : wc.heap.size + 1 ≤ w3.heap.size := by have h := hgrow.size; simp only [size_alloc] at h; exact h
    have hlo2 : ∀ k, (Value.slice A x.Args.length c).ownBlock = some k → B ≤ k ∧ k < w1.heap.size := hlo
    have hgg : gg ≠ w1.heap.size := by
      intro e
      rcases hat with h | h
      · have := (hlo2 _ h).2; omega
      · omega
    have KM3 := Lib.hid ((HKMc.out.alloc (.cells #[.int .i64 ka, .int .i64 na] 25)).chg (grown_chg hgrow) (fun h => by have := hlo2 _ h; omega))
    have KR3 := Lib.hid ((HKRc.out.alloc (.cells #[.int .i64 ka, .int .i64 na] 25)).chg (grown_chg hgrow) (fun h => by have := hlo2 _ h; omega))
    have HC3 := Lib.hid ((HCc.out.below ((Below.refl _ _).alloc (Nat.le_refl _) (.cells #[.int .i64 ka, .int .i64 na] 25))).chg (grown_chg hgrow) (fun k h => by have := hlo2 _ h; omega) (fun h => by have := hlo2 _ h; omega))
    have HG3 := Lib.hid ((HGc.out.alloc (.cells #[.int .i64 ka, .int .i64 na] 25)).then_ (grown_chg hgrow) (fun k hk h => by have := hlo2 _ h; omega))
    obtain ⟨ys, hys⟩ : ∃ ys, ys = x.Args ++ [(⟨ka, na⟩ : GWire)] := ⟨_, rfl⟩
    have hln : x.Args.length + 1 = ys.length := by rw [hys]; simp
    have HO3 : Hid (w3.ownsRow B 25 2 (.slice (some ⟨gg, 0, none⟩) ys.length cap) ys.length (ys.flatMap vsWire)) := by unfold Hid; rw [hys, List.flatMap_append, List.length_append]; exact hown
    have hl1 : ys.length ≤ x.Args.length + 1 := by omega
    have hl2 : x.Args.length + 1 ≤ ys.length := by omega
    clear hln hys
    have hlo_ : ∀ k, (Value.slice (some ⟨gg, 0, none⟩) ys.length cap).ownBlock = some k → k = gg := by
      intro k hk
      simp [Value.ownBlock] at hk
      omega
    clear hown
    obtain ⟨km3, jm3⟩ := KM3.out.rules
    have lm3 := KM3.out.lt
    obtain ⟨kr3, jr3⟩ := KR3.out.rules
    have lr3 := KR3.out.lt
    refine hK.out _ _ ?_
    clear hK K
    refine wpAnyU_one' (i := 6) (by kernel_rfl) rfl (by kernel_rfl) (fun K hK => ?_)
    go_simp
    refine hK.out _ _ ?_
    clear hK K
    refine wpAnyU_one' (i := 7) (by kernel_rfl) rfl (by kernel_rfl) (fun K hK => ?_)
    go_simp
    refine hK.out _ _ ?_
    clear hK K
    refine wpAnyU_done (by kernel_rfl) ?_ _
    clear hgrow hat hlo2 kc jc km jm k_HKM f_HKM k_HKR f_HKR
    rw [show x.Args.length + 1 = ys.length from by omega]
    obtain ⟨ws, hws⟩ : ∃ ws, ws = (w3.setCell ⟨w1.heap.size, 5, none⟩ (.slice (some ⟨gg, 0, none⟩) ys.length cap)) := ⟨_, rfl⟩
    have hcs : Chg (· = w1.heap.size) w3 ws := by rw [hws]; exact ((Chg.refl (· = w1.heap.size) _).setCell (p := ⟨w1.heap.size, 5, none⟩) (.inl rfl) _)
    have HKRs := Lib.hid (KR3.out.chg hcs (by omega))
    have HCs := Lib.hid (HC3.out.chg hcs (by rintro _ rfl; omega) (by omega))
    have HGs := Lib.hid (HG3.out.then_ hcs (by rintro i hi rfl; omega))
    have HOs := Lib.hid (ownsRow_keep HO3.out hcs (fun k hk e => by have := hlo_ k hk; omega))
    have hs_s := hcs.size
    clear hcs
    go_wp2
    rw [← hws]
    have HKR := HKRs
    refine post_cell (w0 := ws) (fun k => k = w.heap.size) Try.results35 (w.heap.size) #[.int .i64 x.Kind, .int .i64 x.Pos, .int .i64 x.Answer, .int .i64 x.Question, .string x.Name, .slice (some ⟨gg, 0, none⟩) ys.length cap, .int .i64 x.Value.Kind, .int .i64 x.Value.N, .int .i64 x.Count, .int .i64 x.Tag.Vat, .int .i64 x.Tag.Entity, .int .i64 x.Tag.Seq] _ rfl (Blk.eq ((((((((((((HKR.out.set_ 0 (.int .i64 x.Kind)).set_ 1 (.int .i64 x.Pos)).set_ 2 (.int .i64 x.Answer)).set_ 3 (.int .i64 x.Question)).set_ 4 (.string x.Name)).set_ 5 (.slice (some ⟨gg, 0, none⟩) ys.length cap)).set_ 6 (.int .i64 x.Value.Kind)).set_ 7 (.int .i64 x.Value.N)).set_ 8 (.int .i64 x.Count)).set_ 9 (.int .i64 x.Tag.Vat)).set_ 10 (.int .i64 x.Tag.Entity)).set_ 11 (.int .i64 x.Tag.Seq)) (by simp)) Try.underlying29 rfl (by kernel_rfl) rfl (((((((((((((Chg.refl (· = w.heap.size) _).setCell (p := ⟨w.heap.size, 0, none⟩) (.inl rfl) (.int .i64 x.Kind)).setCell (p := ⟨w.heap.size, 1, none⟩) (.inl rfl) (.int .i64 x.Pos)).setCell (p := ⟨w.heap.size, 2, none⟩) (.inl rfl) (.int .i64 x.Answer)).setCell (p := ⟨w.heap.size, 3, none⟩) (.inl rfl) (.int .i64 x.Question)).setCell (p := ⟨w.heap.size, 4, none⟩) (.inl rfl) (.string x.Name)).setCell (p := ⟨w.heap.size, 5, none⟩) (.inl rfl) (.slice (some ⟨gg, 0, none⟩) ys.length cap)).setCell (p := ⟨w.heap.size, 6, none⟩) (.inl rfl) (.int .i64 x.Value.Kind)).setCell (p := ⟨w.heap.size, 7, none⟩) (.inl rfl) (.int .i64 x.Value.N)).setCell (p := ⟨w.heap.size, 8, none⟩) (.inl rfl) (.int .i64 x.Count)).setCell (p := ⟨w.heap.size, 9, none⟩) (.inl rfl) (.int .i64 x.Tag.Vat)).setCell (p := ⟨w.heap.size, 10, none⟩) (.inl rfl) (.int .i64 x.Tag.Entity)).setCell (p := ⟨w.heap.size, 11, none⟩) (.inl rfl) (.int .i64 x.Tag.Seq)) (EX.out ws ⟨x.Kind, x.Pos, x.Answer, x.Question, x.Name, ys, x.Value, x.Count, x.Tag⟩ (some ⟨gg, 0, none⟩) cap B HCs.out HGs.out (by omega) (by omega) HOs.out (by show ys.length ≤ 3; omega) (by show x.Name.size ≤ 7; have := HNN.out; omega))
  by_cases r3 : r = 3
  · skip
    go_wp2_with fail
    refine (spec_l11AnyWire_calls W0 g _ HC.out).mono ?_
    rintro e w3 ⟨y, rfl, hc_, hg_⟩
    have hs_3 := hg_.size
    (try simp only [size_alloc] at hs_3)
    have HCn := Lib.hid hc_
    replace HKR := Lib.hid ((HKR.out).chg hg_ (by omega))
    replace HKM := Lib.hid ((HKM.out).chg hg_ (by omega))
    replace HO := Lib.hid (ownsRow_keep (HO.out) hg_ (fun k hk e => by have := (hlo k hk).1; omega))
    replace HG := Lib.hid (HG.out.trans hg_)
    (try clear hc_ hg_ HC)
    have HC := HCn
    clear HCn
    (try clear k_HKR f_HKR k_HKM f_HKM)
    obtain ⟨k_HKR, f_HKR⟩ := HKR.out.rules
    have l_HKR := HKR.out.lt
    obtain ⟨k_HKM, f_HKM⟩ := HKM.out.rules
    have l_HKM := HKM.out.lt
    obtain ⟨ws, hws⟩ : ∃ ws, ws = ((w3.setCell ⟨w1.heap.size, 6, none⟩ (.int .i64 y.Kind)).setCell ⟨w1.heap.size, 7, none⟩ (.int .i64 y.N)) := ⟨_, rfl⟩
    have hcs : Chg (· = w1.heap.size) w3 ws := by rw [hws]; exact (((Chg.refl (· = w1.heap.size) _).setCell (p := ⟨w1.heap.size, 6, none⟩) (.inl rfl) _).setCell (p := ⟨w1.heap.size, 7, none⟩) (.inl rfl) _)
    have HKRs := Lib.hid (HKR.out.chg hcs (by omega))
    have HCs := Lib.hid (HC.out.chg hcs (by rintro _ rfl; omega) (by omega))
    have HGs := Lib.hid (HG.out.then_ hcs (by rintro i hi rfl; omega))
    have HOs := Lib.hid (ownsRow_keep HO.out hcs (fun k hk e => by have := (hlo k hk).2; omega))
    have hs_s := hcs.size
    clear hcs
    go_wp2
    rw [← hws]
    have HKR := HKRs
    refine post_cell (w0 := ws) (fun k => k = w.heap.size) Try.results35 (w.heap.size) #[.int .i64 x.Kind, .int .i64 x.Pos, .int .i64 x.Answer, .int .i64 x.Question, .string x.Name, .slice A x.Args.length c, .int .i64 y.Kind, .int .i64 y.N, .int .i64 x.Count, .int .i64 x.Tag.Vat, .int .i64 x.Tag.Entity, .int .i64 x.Tag.Seq] _ rfl (Blk.eq ((((((((((((HKR.out.set_ 0 _).set_ 1 _).set_ 2 _).set_ 3 _).set_ 4 _).set_ 5 _).set_ 6 _).set_ 7 _).set_ 8 _).set_ 9 _).set_ 10 _).set_ 11 _) (by simp)) Try.underlying29 rfl (by kernel_rfl) rfl (((((((((((((Chg.refl (· = w.heap.size) _).setCell (p := ⟨w.heap.size, 0, none⟩) (.inl rfl) _).setCell (p := ⟨w.heap.size, 1, none⟩) (.inl rfl) _).setCell (p := ⟨w.heap.size, 2, none⟩) (.inl rfl) _).setCell (p := ⟨w.heap.size, 3, none⟩) (.inl rfl) _).setCell (p := ⟨w.heap.size, 4, none⟩) (.inl rfl) _).setCell (p := ⟨w.heap.size, 5, none⟩) (.inl rfl) _).setCell (p := ⟨w.heap.size, 6, none⟩) (.inl rfl) _).setCell (p := ⟨w.heap.size, 7, none⟩) (.inl rfl) _).setCell (p := ⟨w.heap.size, 8, none⟩) (.inl rfl) _).setCell (p := ⟨w.heap.size, 9, none⟩) (.inl rfl) _).setCell (p := ⟨w.heap.size, 10, none⟩) (.inl rfl) _).setCell (p := ⟨w.heap.size, 11, none⟩) (.inl rfl) _) (EX.out ws ⟨x.Kind, x.Pos, x.Answer, x.Question, x.Name, x.Args, y, x.Count, x.Tag⟩ A c B HCs.out HGs.out (by omega) (by omega) HOs.out (by show x.Args.length ≤ 3; omega) (by show x.Name.size ≤ 7; have := HNN.out; omega))
  by_cases r4 : r = 4
  · skip
    go_wp2_with fail
    refine (spec_l1Int_calls W0 g [0, 999999, 1000000] _ _ (HC.out.below ((Below.refl _ _).alloc (Nat.le_refl _) _)) (by simp) (rdW_lit vals_eInt w2 _ 3 (by simp)) (fun A n c h => HGN.out w2 A n c _ _ HC.out.lt h)).mono ?_
    rintro e w3 ⟨v, hv, rfl, hc_, hg_⟩
    have hs_3 := hg_.size
    (try simp only [size_alloc] at hs_3)
    have HCn := Lib.hid hc_
    replace HKR := Lib.hid ((HKR.out.alloc _).chg hg_ (by omega))
    replace HKM := Lib.hid ((HKM.out.alloc _).chg hg_ (by omega))
    replace HO := Lib.hid (ownsRow_keep (HO.out.alloc _) hg_ (fun k hk e => by have := (hlo k hk).1; omega))
    replace HG := Lib.hid ((HG.out.alloc _).trans hg_)
    (try clear hc_ hg_ HC)
    have HC := HCn
    clear HCn
    (try clear k_HKR f_HKR k_HKM f_HKM)
    obtain ⟨k_HKR, f_HKR⟩ := HKR.out.rules
    have l_HKR := HKR.out.lt
    obtain ⟨k_HKM, f_HKM⟩ := HKM.out.rules
    have l_HKM := HKM.out.lt
    obtain ⟨ws, hws⟩ : ∃ ws, ws = (w3.setCell ⟨w1.heap.size, 3, none⟩ (.int .i64 v)) := ⟨_, rfl⟩
    have hcs : Chg (· = w1.heap.size) w3 ws := by rw [hws]; exact ((Chg.refl (· = w1.heap.size) _).setCell (p := ⟨w1.heap.size, 3, none⟩) (.inl rfl) _)
    have HKRs := Lib.hid (HKR.out.chg hcs (by omega))
    have HCs := Lib.hid (HC.out.chg hcs (by rintro _ rfl; omega) (by omega))
    have HGs := Lib.hid (HG.out.then_ hcs (by rintro i hi rfl; omega))
    have HOs := Lib.hid (ownsRow_keep HO.out hcs (fun k hk e => by have := (hlo k hk).2; omega))
    have hs_s := hcs.size
    clear hcs
    go_wp2
    rw [← hws]
    have HKR := HKRs
    refine post_cell (w0 := ws) (fun k => k = w.heap.size) Try.results35 (w.heap.size) #[.int .i64 x.Kind, .int .i64 x.Pos, .int .i64 x.Answer, .int .i64 v, .string x.Name, .slice A x.Args.length c, .int .i64 x.Value.Kind, .int .i64 x.Value.N, .int .i64 x.Count, .int .i64 x.Tag.Vat, .int .i64 x.Tag.Entity, .int .i64 x.Tag.Seq] _ rfl (Blk.eq ((((((((((((HKR.out.set_ 0 _).set_ 1 _).set_ 2 _).set_ 3 _).set_ 4 _).set_ 5 _).set_ 6 _).set_ 7 _).set_ 8 _).set_ 9 _).set_ 10 _).set_ 11 _) (by simp)) Try.underlying29 rfl (by kernel_rfl) rfl (((((((((((((Chg.refl (· = w.heap.size) _).setCell (p := ⟨w.heap.size, 0, none⟩) (.inl rfl) _).setCell (p := ⟨w.heap.size, 1, none⟩) (.inl rfl) _).setCell (p := ⟨w.heap.size, 2, none⟩) (.inl rfl) _).setCell (p := ⟨w.heap.size, 3, none⟩) (.inl rfl) _).setCell (p := ⟨w.heap.size, 4, none⟩) (.inl rfl) _).setCell (p := ⟨w.heap.size, 5, none⟩) (.inl rfl) _).setCell (p := ⟨w.heap.size, 6, none⟩) (.inl rfl) _).setCell (p := ⟨w.heap.size, 7, none⟩) (.inl rfl) _).setCell (p := ⟨w.heap.size, 8, none⟩) (.inl rfl) _).setCell (p := ⟨w.heap.size, 9, none⟩) (.inl rfl) _).setCell (p := ⟨w.heap.size, 10, none⟩) (.inl rfl) _).setCell (p := ⟨w.heap.size, 11, none⟩) (.inl rfl) _) (EX.out ws ⟨x.Kind, x.Pos, x.Answer, v, x.Name, x.Args, x.Value, x.Count, x.Tag⟩ A c B HCs.out HGs.out (by omega) (by omega) HOs.out (by show x.Args.length ≤ 3; omega) (by show x.Name.size ≤ 7; have := HNN.out; omega))
  by_cases r5 : r = 5
  · skip
    go_wp2_with fail
    refine (spec_l1Str_calls W0 g [⟨#[]⟩, ⟨#[97, 98, 99, 100, 101, 102, 103]⟩, ⟨#[65]⟩] _ _ (HC.out.below ((Below.refl _ _).alloc (Nat.le_refl _) _)) (by simp) (rdW_lit vals_eStr w2 _ 9 (by simp)) (fun A n c h => HGN.out w2 A n c _ _ HC.out.lt h)).mono ?_
    rintro e w3 ⟨v, hv, rfl, hc_, hg_⟩
    have hs_3 := hg_.size
    (try simp only [size_alloc] at hs_3)
    have HCn := Lib.hid hc_
    replace HKR := Lib.hid ((HKR.out.alloc _).chg hg_ (by omega))
    replace HKM := Lib.hid ((HKM.out.alloc _).chg hg_ (by omega))
    replace HO := Lib.hid (ownsRow_keep (HO.out.alloc _) hg_ (fun k hk e => by have := (hlo k hk).1; omega))
    replace HG := Lib.hid ((HG.out.alloc _).trans hg_)
    (try clear hc_ hg_ HC)
    have HC := HCn
    clear HCn
    (try clear k_HKR f_HKR k_HKM f_HKM)
    obtain ⟨k_HKR, f_HKR⟩ := HKR.out.rules
    have l_HKR := HKR.out.lt
    obtain ⟨k_HKM, f_HKM⟩ := HKM.out.rules
    have l_HKM := HKM.out.lt
    have HV : Hid (v.size ≤ 7) := by
      unfold Hid
      simp only [List.mem_cons, List.not_mem_nil, or_false] at hv
      rcases hv with rfl | rfl | rfl <;> decide
    clear hv
    obtain ⟨ws, hws⟩ : ∃ ws, ws = (w3.setCell ⟨w1.heap.size, 4, none⟩ (.string v)) := ⟨_, rfl⟩
    have hcs : Chg (· = w1.heap.size) w3 ws := by rw [hws]; exact ((Chg.refl (· = w1.heap.size) _).setCell (p := ⟨w1.heap.size, 4, none⟩) (.inl rfl) _)
    have HKRs := Lib.hid (HKR.out.chg hcs (by omega))
    have HCs := Lib.hid (HC.out.chg hcs (by rintro _ rfl; omega) (by omega))
    have HGs := Lib.hid (HG.out.then_ hcs (by rintro i hi rfl; omega))
    have HOs := Lib.hid (ownsRow_keep HO.out hcs (fun k hk e => by have := (hlo k hk).2; omega))
    have hs_s := hcs.size
    clear hcs
    go_wp2
    rw [← hws]
    have HKR := HKRs
    refine post_cell (w0 := ws) (fun k => k = w.heap.size) Try.results35 (w.heap.size) #[.int .i64 x.Kind, .int .i64 x.Pos, .int .i64 x.Answer, .int .i64 x.Question, .string v, .slice A x.Args.length c, .int .i64 x.Value.Kind, .int .i64 x.Value.N, .int .i64 x.Count, .int .i64 x.Tag.Vat, .int .i64 x.Tag.Entity, .int .i64 x.Tag.Seq] _ rfl (Blk.eq ((((((((((((HKR.out.set_ 0 _).set_ 1 _).set_ 2 _).set_ 3 _).set_ 4 _).set_ 5 _).set_ 6 _).set_ 7 _).set_ 8 _).set_ 9 _).set_ 10 _).set_ 11 _) (by simp)) Try.underlying29 rfl (by kernel_rfl) rfl (((((((((((((Chg.refl (· = w.heap.size) _).setCell (p := ⟨w.heap.size, 0, none⟩) (.inl rfl) _).setCell (p := ⟨w.heap.size, 1, none⟩) (.inl rfl) _).setCell (p := ⟨w.heap.size, 2, none⟩) (.inl rfl) _).setCell (p := ⟨w.heap.size, 3, none⟩) (.inl rfl) _).setCell (p := ⟨w.heap.size, 4, none⟩) (.inl rfl) _).setCell (p := ⟨w.heap.size, 5, none⟩) (.inl rfl) _).setCell (p := ⟨w.heap.size, 6, none⟩) (.inl rfl) _).setCell (p := ⟨w.heap.size, 7, none⟩) (.inl rfl) _).setCell (p := ⟨w.heap.size, 8, none⟩) (.inl rfl) _).setCell (p := ⟨w.heap.size, 9, none⟩) (.inl rfl) _).setCell (p := ⟨w.heap.size, 10, none⟩) (.inl rfl) _).setCell (p := ⟨w.heap.size, 11, none⟩) (.inl rfl) _) (EX.out ws ⟨x.Kind, x.Pos, x.Answer, x.Question, v, x.Args, x.Value, x.Count, x.Tag⟩ A c B HCs.out HGs.out (by omega) (by omega) HOs.out (by show x.Args.length ≤ 3; omega) (HV.out))
  by_cases r6 : r = 6
  · skip
    go_wp2_with fail
    refine (spec_l1Int_calls W0 g [0, -1, 1000000] _ _ (HC.out.below ((Below.refl _ _).alloc (Nat.le_refl _) _)) (by simp) (rdW_lit vals_eInt w2 _ 3 (by simp)) (fun A n c h => HGN.out w2 A n c _ _ HC.out.lt h)).mono ?_
    rintro e w3 ⟨v, hv, rfl, hc_, hg_⟩
    have hs_3 := hg_.size
    (try simp only [size_alloc] at hs_3)
    have HCn := Lib.hid hc_
    replace HKR := Lib.hid ((HKR.out.alloc _).chg hg_ (by omega))
    replace HKM := Lib.hid ((HKM.out.alloc _).chg hg_ (by omega))
    replace HO := Lib.hid (ownsRow_keep (HO.out.alloc _) hg_ (fun k hk e => by have := (hlo k hk).1; omega))
    replace HG := Lib.hid ((HG.out.alloc _).trans hg_)
    (try clear hc_ hg_ HC)
    have HC := HCn
    clear HCn
    (try clear k_HKR f_HKR k_HKM f_HKM)
    obtain ⟨k_HKR, f_HKR⟩ := HKR.out.rules
    have l_HKR := HKR.out.lt
    obtain ⟨k_HKM, f_HKM⟩ := HKM.out.rules
    have l_HKM := HKM.out.lt
    obtain ⟨ws, hws⟩ : ∃ ws, ws = (w3.setCell ⟨w1.heap.size, 11, none⟩ (.int .i64 v)) := ⟨_, rfl⟩
    have hcs : Chg (· = w1.heap.size) w3 ws := by rw [hws]; exact ((Chg.refl (· = w1.heap.size) _).setCell (p := ⟨w1.heap.size, 11, none⟩) (.inl rfl) _)
    have HKRs := Lib.hid (HKR.out.chg hcs (by omega))
    have HCs := Lib.hid (HC.out.chg hcs (by rintro _ rfl; omega) (by omega))
    have HGs := Lib.hid (HG.out.then_ hcs (by rintro i hi rfl; omega))
    have HOs := Lib.hid (ownsRow_keep HO.out hcs (fun k hk e => by have := (hlo k hk).2; omega))
    have hs_s := hcs.size
    clear hcs
    go_wp2
    rw [← hws]
    have HKR := HKRs
    refine post_cell (w0 := ws) (fun k => k = w.heap.size) Try.results35 (w.heap.size) #[.int .i64 x.Kind, .int .i64 x.Pos, .int .i64 x.Answer, .int .i64 x.Question, .string x.Name, .slice A x.Args.length c, .int .i64 x.Value.Kind, .int .i64 x.Value.N, .int .i64 x.Count, .int .i64 x.Tag.Vat, .int .i64 x.Tag.Entity, .int .i64 v] _ rfl (Blk.eq ((((((((((((HKR.out.set_ 0 _).set_ 1 _).set_ 2 _).set_ 3 _).set_ 4 _).set_ 5 _).set_ 6 _).set_ 7 _).set_ 8 _).set_ 9 _).set_ 10 _).set_ 11 _) (by simp)) Try.underlying29 rfl (by kernel_rfl) rfl (((((((((((((Chg.refl (· = w.heap.size) _).setCell (p := ⟨w.heap.size, 0, none⟩) (.inl rfl) _).setCell (p := ⟨w.heap.size, 1, none⟩) (.inl rfl) _).setCell (p := ⟨w.heap.size, 2, none⟩) (.inl rfl) _).setCell (p := ⟨w.heap.size, 3, none⟩) (.inl rfl) _).setCell (p := ⟨w.heap.size, 4, none⟩) (.inl rfl) _).setCell (p := ⟨w.heap.size, 5, none⟩) (.inl rfl) _).setCell (p := ⟨w.heap.size, 6, none⟩) (.inl rfl) _).setCell (p := ⟨w.heap.size, 7, none⟩) (.inl rfl) _).setCell (p := ⟨w.heap.size, 8, none⟩) (.inl rfl) _).setCell (p := ⟨w.heap.size, 9, none⟩) (.inl rfl) _).setCell (p := ⟨w.heap.size, 10, none⟩) (.inl rfl) _).setCell (p := ⟨w.heap.size, 11, none⟩) (.inl rfl) _) (EX.out ws ⟨x.Kind, x.Pos, x.Answer, x.Question, x.Name, x.Args, x.Value, x.Count, ⟨x.Tag.Vat, x.Tag.Entity, v⟩⟩ A c B HCs.out HGs.out (by omega) (by omega) HOs.out (by show x.Args.length ≤ 3; omega) (by show x.Name.size ≤ 7; have := HNN.out; omega))
  go_wp2
  refine post_cell (w0 := w2) (fun k => k = w.heap.size) Try.results35 (w.heap.size) #[.int .i64 x.Kind, .int .i64 x.Pos, .int .i64 x.Answer, .int .i64 x.Question, .string x.Name, .slice A x.Args.length c, .int .i64 x.Value.Kind, .int .i64 x.Value.N, .int .i64 x.Count, .int .i64 x.Tag.Vat, .int .i64 x.Tag.Entity, .int .i64 x.Tag.Seq] _ rfl (Blk.eq ((((((((((((HKR.out.set_ 0 _).set_ 1 _).set_ 2 _).set_ 3 _).set_ 4 _).set_ 5 _).set_ 6 _).set_ 7 _).set_ 8 _).set_ 9 _).set_ 10 _).set_ 11 _) (by simp)) Try.underlying29 rfl (by kernel_rfl) rfl (((((((((((((Chg.refl (· = w.heap.size) _).setCell (p := ⟨w.heap.size, 0, none⟩) (.inl rfl) _).setCell (p := ⟨w.heap.size, 1, none⟩) (.inl rfl) _).setCell (p := ⟨w.heap.size, 2, none⟩) (.inl rfl) _).setCell (p := ⟨w.heap.size, 3, none⟩) (.inl rfl) _).setCell (p := ⟨w.heap.size, 4, none⟩) (.inl rfl) _).setCell (p := ⟨w.heap.size, 5, none⟩) (.inl rfl) _).setCell (p := ⟨w.heap.size, 6, none⟩) (.inl rfl) _).setCell (p := ⟨w.heap.size, 7, none⟩) (.inl rfl) _).setCell (p := ⟨w.heap.size, 8, none⟩) (.inl rfl) _).setCell (p := ⟨w.heap.size, 9, none⟩) (.inl rfl) _).setCell (p := ⟨w.heap.size, 10, none⟩) (.inl rfl) _).setCell (p := ⟨w.heap.size, 11, none⟩) (.inl rfl) _) (EX.out w2 x A c B HC.out HG.out (by omega) (by omega) HO.out (by omega) (by have := HNN.out; omega))

end Go.Proofs.Ytklbpjnpmbidiaa
