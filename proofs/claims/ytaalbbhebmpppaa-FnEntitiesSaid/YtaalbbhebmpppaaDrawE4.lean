import Derived.Test.YtaalbbhebmpppaaProg
import Derived.Test.YtaalbbhebmpppaaTypes
import Derived.StillTailTactics
import Derived.Deep.CutBlock
import Derived.Deep.CutRange
import Derived.Laws.OwnMore
import Derived.Deep.AppendLies
import Derived.Deep.RegionWith
import Derived.Deep.RegionHeld3
import Derived.Laws.IdiomStrings
import Derived.Test.YtaalbbhebmpppaaAppend
import Derived.Laws.StructEq
import Derived.Lib.SliceRun
import Derived.Shelf.RegionOpenPlain
import Derived.Test.YtaalbbhebmpppaaDrawE3
import Derived.Test.YtaalbbhebmpppaaOrders
namespace Go.Proofs.Ytaalbbhebmpppaa
open Go.RowKit
set_option linter.unusedVariables false
set_option linter.unusedSimpArgs false

/-- a message on the way that a draw returned: its list in blocks of its own -/
def SentAt (L : Nat) (w : World) (x : GSent) (us : List Value) : Prop :=
  ∃ A c B, us = [.int .i64 x.Target, .string x.Name, .slice A x.Args.length c, .int .i64 x.Result, .int .i64 x.Tag.Vat, .int .i64 x.Tag.Entity, .int .i64 x.Tag.Seq] ∧ L ≤ B ∧ B ≤ w.heap.size ∧ w.ownsRow B 33 2 (.slice A x.Args.length c) x.Args.length (x.Args.flatMap vsValue)
set_option maxHeartbeats 12800000 in
set_option maxRecDepth 100000 in
theorem spec_l9Sent_calls (W0 : World) (g : Nat) (w : World) (hC : Cur W0 g w) :
    Calls Try.prog 73 #[.pointer (some ⟨g, 0, none⟩)] w fun e w' => ∃ x us, e = .returned (.agg us.toArray) ∧ SentAt w.heap.size w' x us ∧ x.Args.length ≤ 2 ∧ x.Name.size ≤ 4 ∧ Cur W0 g w' ∧ Chg (· = g) w w' := by
  have hlt := hC.lt
  have hge := hC.ge
  have hW0 := hC.base.size
  have HC := Lib.hid (hC.below ((Below.refl w.heap.size w).alloc (Nat.le_refl _) (.cells #[.int .i64 0, .string ⟨#[]⟩, .slice none 0 0, .int .i64 0, .int .i64 0, .int .i64 0, .int .i64 0] 71)))
  have HKR := Lib.hid (Blk.new w 71 #[.int .i64 0, .string ⟨#[]⟩, .slice none 0 0, .int .i64 0, .int .i64 0, .int .i64 0, .int .i64 0])
  have HG := Lib.hid ((Chg.refl (· = g) w).alloc (.cells #[.int .i64 0, .string ⟨#[]⟩, .slice none 0 0, .int .i64 0, .int .i64 0, .int .i64 0, .int .i64 0] 71))
  clear hC
  have exit : ∀ (wl : World) (x : GSent) (A : Option Addr) (c B : Nat), Cur W0 g wl → Chg (· = g) w wl → w.heap.size < B → B ≤ wl.heap.size → wl.ownsRow B 33 2 (.slice A x.Args.length c) x.Args.length (x.Args.flatMap vsValue) → x.Args.length ≤ 2 → x.Name.size ≤ 4 → ∀ W, Chg (fun k => k = w.heap.size) wl W →
      ∃ (y : GSent) (us : List Value), Ending.returned (.agg #[.int .i64 x.Target, .string x.Name, .slice A x.Args.length c, .int .i64 x.Result, .int .i64 x.Tag.Vat, .int .i64 x.Tag.Entity, .int .i64 x.Tag.Seq]) = .returned (.agg us.toArray) ∧ SentAt w.heap.size W y us ∧ y.Args.length ≤ 2 ∧ y.Name.size ≤ 4 ∧ Cur W0 g W ∧ Chg (· = g) w W := by
    intro wl x A c B h1 h2 hB hBw ho ha hn W h3
    exact ⟨x, _, rfl, ⟨A, c, B, rfl, by omega, Nat.le_trans hBw h3.size, ownsRow_keep ho h3 (fun k hk e => by have := (ho.lt k hk).1; omega)⟩, ha, hn, h1.chg h3 (by rintro _ rfl; exact hW0) (by omega), h2.then_ h3 (by rintro i hi rfl; omega)⟩
  have EX := Lib.hid exit
  clear exit
  go_enter Try.func73, Try.ntmps73
  go_wp2_with fail
  refine (spec_l1Below_calls W0 g _ _ HC.out).mono ?_
  rintro e w1 ⟨q, hq0, hq1, rfl, hc_, hg_⟩
  have hs_1 := hg_.size
  (try simp only [size_alloc] at hs_1)
  have HCn := Lib.hid hc_
  replace HKR := Lib.hid ((HKR.out).chg hg_ (by omega))
  replace HG := Lib.hid (HG.out.trans hg_)
  (try clear hc_ hg_ HC)
  have HC := HCn
  clear HCn
  (try clear k_HKR f_HKR)
  obtain ⟨k_HKR, f_HKR⟩ := HKR.out.rules
  have l_HKR := HKR.out.lt
  replace hq1 := hq1 (by omega)
  go_wp2_with fail
  refine (spec_l5Name_calls W0 g _ HC.out).mono ?_
  rintro e w2 ⟨nm, hnm, rfl, hc_, hg_⟩
  have hs_2 := hg_.size
  (try simp only [size_alloc] at hs_2)
  have HCn := Lib.hid hc_
  replace HKR := Lib.hid ((HKR.out).chg hg_ (by omega))
  replace HG := Lib.hid (HG.out.trans hg_)
  (try clear hc_ hg_ HC)
  have HC := HCn
  clear HCn
  (try clear k_HKR f_HKR)
  obtain ⟨k_HKR, f_HKR⟩ := HKR.out.rules
  have l_HKR := HKR.out.lt
  have HNM := Lib.hid hnm
  clear hnm
  go_wp2_with fail
  refine (spec_l1Below_calls W0 g _ _ HC.out).mono ?_
  rintro e w3 ⟨r, hr0, hr1, rfl, hc_, hg_⟩
  have hs_3 := hg_.size
  (try simp only [size_alloc] at hs_3)
  have HCn := Lib.hid hc_
  replace HKR := Lib.hid ((HKR.out).chg hg_ (by omega))
  replace HG := Lib.hid (HG.out.trans hg_)
  (try clear hc_ hg_ HC)
  have HC := HCn
  clear HCn
  (try clear k_HKR f_HKR)
  obtain ⟨k_HKR, f_HKR⟩ := HKR.out.rules
  have l_HKR := HKR.out.lt
  replace hr1 := hr1 (by omega)
  go_wp2_with fail
  refine (spec_l1Below_calls W0 g _ _ HC.out).mono ?_
  rintro e w4 ⟨a, ha0, ha1, rfl, hc_, hg_⟩
  have hs_4 := hg_.size
  (try simp only [size_alloc] at hs_4)
  have HCn := Lib.hid hc_
  replace HKR := Lib.hid ((HKR.out).chg hg_ (by omega))
  replace HG := Lib.hid (HG.out.trans hg_)
  (try clear hc_ hg_ HC)
  have HC := HCn
  clear HCn
  (try clear k_HKR f_HKR)
  obtain ⟨k_HKR, f_HKR⟩ := HKR.out.rules
  have l_HKR := HKR.out.lt
  replace ha1 := ha1 (by omega)
  go_wp2_with fail
  refine (spec_l1Below_calls W0 g _ _ HC.out).mono ?_
  rintro e w5 ⟨b, hb0, hb1, rfl, hc_, hg_⟩
  have hs_5 := hg_.size
  (try simp only [size_alloc] at hs_5)
  have HCn := Lib.hid hc_
  replace HKR := Lib.hid ((HKR.out).chg hg_ (by omega))
  replace HG := Lib.hid (HG.out.trans hg_)
  (try clear hc_ hg_ HC)
  have HC := HCn
  clear HCn
  (try clear k_HKR f_HKR)
  obtain ⟨k_HKR, f_HKR⟩ := HKR.out.rules
  have l_HKR := HKR.out.lt
  replace hb1 := hb1 (by omega)
  go_wp2_with fail
  refine (spec_l1Below_calls W0 g _ _ HC.out).mono ?_
  rintro e w6 ⟨d, hd0, hd1, rfl, hc_, hg_⟩
  have hs_6 := hg_.size
  (try simp only [size_alloc] at hs_6)
  have HCn := Lib.hid hc_
  replace HKR := Lib.hid ((HKR.out).chg hg_ (by omega))
  replace HG := Lib.hid (HG.out.trans hg_)
  (try clear hc_ hg_ HC)
  have HC := HCn
  clear HCn
  (try clear k_HKR f_HKR)
  obtain ⟨k_HKR, f_HKR⟩ := HKR.out.rules
  have l_HKR := HKR.out.lt
  replace hd1 := hd1 (by omega)
  have HKM : Hid (Blk (w6.alloc (.cells #[.int .i64 q, .string nm, .slice none 0 0, .int .i64 r, .int .i64 (1 + a), .int .i64 b, .int .i64 (1 + d)] 71)) w6.heap.size 71 #[.int .i64 q, .string nm, .slice none 0 0, .int .i64 r, .int .i64 (1 + a), .int .i64 b, .int .i64 (1 + d)]) := Lib.hid (Blk.made rfl)
  have HCn := Lib.hid (HC.out.below ((Below.refl _ _).alloc (Nat.le_refl _) (.cells #[.int .i64 q, .string nm, .slice none 0 0, .int .i64 r, .int .i64 (1 + a), .int .i64 b, .int .i64 (1 + d)] 71)))
  clear HC
  have HC := HCn
  clear HCn
  replace HKR := Lib.hid (HKR.out.alloc (.cells #[.int .i64 q, .string nm, .slice none 0 0, .int .i64 r, .int .i64 (1 + a), .int .i64 b, .int .i64 (1 + d)] 71))
  replace HG := Lib.hid (HG.out.alloc (.cells #[.int .i64 q, .string nm, .slice none 0 0, .int .i64 r, .int .i64 (1 + a), .int .i64 b, .int .i64 (1 + d)] 71))
  have hgw : w.heap.size < w6.heap.size := by omega
  clear k_HKR f_HKR
  go_wp2_with fail
  refine (spec_l1Below_calls W0 g _ _ HC.out).mono ?_
  rintro e w7 ⟨i, hi0, hi1, rfl, hc_, hg_⟩
  have hs_7 := hg_.size
  (try simp only [size_alloc] at hs_7)
  have HCn := Lib.hid hc_
  replace HKR := Lib.hid ((HKR.out).chg hg_ (by omega))
  replace HKM := Lib.hid ((HKM.out).chg hg_ (by omega))
  replace HG := Lib.hid (HG.out.trans hg_)
  (try clear hc_ hg_ HC)
  have HC := HCn
  clear HCn
  (try clear k_HKR f_HKR k_HKM f_HKM)
  obtain ⟨k_HKR, f_HKR⟩ := HKR.out.rules
  have l_HKR := HKR.out.lt
  obtain ⟨k_HKM, f_HKM⟩ := HKM.out.rules
  have l_HKM := HKM.out.lt
  replace hi1 := hi1 (by omega)
  obtain ⟨i, rfl⟩ := Int.eq_ofNat_of_zero_le hi0
  go_wp2_with fail
  clear k_HKR f_HKR k_HKM f_HKM
  go_loopw [4] (fun a_ wr => ∃ (i : Nat) (xs : List GValue) (A : Option Addr) (c_ : Nat), a_ = .int .i64 i ∧ i + xs.length ≤ 2 ∧ Hid (Blk wr (w6.heap.size) 71 #[.int .i64 q, .string nm, .slice A xs.length c_, .int .i64 r, .int .i64 (1 + a), .int .i64 b, .int .i64 (1 + d)]) ∧ Hid (wr.ownsRow (w6.heap.size + 1) 33 2 (.slice A xs.length c_) xs.length (xs.flatMap vsValue)) ∧ Hid (Cur W0 g wr) ∧ Hid (Chg (· = g) w wr) ∧ Hid (Blk wr w.heap.size 71 #[.int .i64 0, .string ⟨#[]⟩, .slice none 0 0, .int .i64 0, .int .i64 0, .int .i64 0, .int .i64 0])) (fun a_ wr => (intOf a_).toNat)
  case atStart => exact ⟨i, [], none, 0, rfl, by simp only [List.length_nil]; omega, HKM, World.ownsRow_nil _ _ _ _, HC, HG, HKR⟩
  case round =>
    clear HC HG HKM HKR
    obtain ⟨i, xs, A3, c3, rfl, hix, HKM, HO, HC, HG, HKR⟩ := hrel
    obtain ⟨km, jm⟩ := HKM.out.rules
    have lm := HKM.out.lt
    have hlo := HO.out.lt
    have zr := HG.out.size
    obtain ⟨kr, jr⟩ := HKR.out.rules
    have lr := HKR.out.lt
    by_cases hp : (0 : Int) < i
    · go_wp2_with fail
      refine wp_region_U (fun wq => wq.cell? ⟨w6.heap.size, 2, none⟩ = some (.slice A3 xs.length c3)) [0, 1, 2, 3, 4, 5, 6] (by kernel_rfl) ?_
      have hH_ := (show wr.drew.cell? ⟨w6.heap.size, 2, none⟩ = _ from km 2)
      refine wpAnyU_take (i := 0) (v := ?_) rfl (by kernel_rfl) (by kernel_rfl) (by kernel_rfl) (by kernel_rfl) (fun _ _ _ h => h) (Or.inl ⟨by rfl, ?_⟩) hH_ ?_
      rotate_left
      · (intro w hSw; (try dsimp only at hSw); go_simp <;> with_reducible rfl)
      simp only [Act.put, List.setIfInBounds_toArray, List.set_cons_zero, List.set_cons_succ]
      refine wpAnyU_take (i := 1) (v := ?_) rfl (by kernel_rfl) (by kernel_rfl) (by kernel_rfl) (by kernel_rfl) (fun _ _ _ h => h) (Or.inl ⟨by rfl, ?_⟩) hH_ ?_
      rotate_left
      · (intro w hSw; (try dsimp only at hSw); go_simp <;> with_reducible rfl)
      simp only [Act.put, List.setIfInBounds_toArray, List.set_cons_zero, List.set_cons_succ]
      refine wpAnyU_take (i := 2) (v := ?_) rfl (by kernel_rfl) (by kernel_rfl) (by kernel_rfl) (by kernel_rfl) (fun _ _ _ h => h) (Or.inl ⟨by rfl, ?_⟩) hH_ ?_
      rotate_left
      · (intro w hSw; (try dsimp only at hSw); go_simp <;> with_reducible rfl)
      simp only [Act.put, List.setIfInBounds_toArray, List.set_cons_zero, List.set_cons_succ]
      refine wpAnyU_one (i := 3) (by kernel_rfl) rfl (fun K hK => ?_)
      go_simp
      refine (spec_l1Below_calls W0 g _ _ (HC.out.below (Below.refl _ _).drew)).mono ?_
      rintro e wb ⟨na, hn0, hn1, rfl, hc_, hg_⟩
      replace hn1 := hn1 (by omega)
      have hs_b : wr.heap.size ≤ wb.heap.size := hg_.size
      have HCb := Lib.hid hc_
      have HKMb := Lib.hid (HKM.out.drew.chg hg_ (by omega))
      have HKRb := Lib.hid (HKR.out.drew.chg hg_ (by omega))
      have HGb := Lib.hid (HG.out.drew.trans hg_)
      have HOb := Lib.hid (ownsRow_keep (show wr.drew.ownsRow _ _ _ _ _ _ from HO.out) hg_ (fun k hk e => by have := (hlo k hk).1; omega))
      clear hc_ hg_
      obtain ⟨kb, jb⟩ := HKMb.out.rules
      refine hK.out _ _ ?_ (fun hH1_ => ?_)
      · exact (kb 2)
      clear hK K hH_
      have hH_ := hH1_
      clear hH1_
      refine wpAnyU_one (i := 4) (by kernel_rfl) rfl (fun K hK => ?_)
      go_simp
      refine (spec_IntValue_calls _ hn0 (by omega) _).mono ?_
      rintro e wc ⟨rfl, hb_⟩
      have hs_c : wr.heap.size ≤ wc.heap.size := Nat.le_trans hs_b hb_.size
      have HCc := Lib.hid (HCb.out.below hb_)
      have HKMc := Lib.hid (HKMb.out.below hb_)
      have HKRc := Lib.hid (HKRb.out.below hb_)
      have HGc := Lib.hid (HGb.out.trans (Chg.of_below hb_ _))
      have HOc := Lib.hid (ownsRow_below HOb.out hb_)
      clear hb_ HCb HKMb HKRb HGb HOb kb jb
      obtain ⟨kc, jc⟩ := HKMc.out.rules
      refine hK.out _ _ ?_ (fun hH1_ => ?_)
      · exact (kc 2)
      clear hK K hH_
      have hH_ := hH1_
      clear hH1_
      refine wpAnyU_one (i := 5) (by kernel_rfl) rfl (fun K hK => ?_)
      go_simp
      refine hK.out _ _ ?_ (fun hH1_ => ?_)
      · exact cell_alloc_keep (kc 2)
      clear hK K hH_
      have hH_ := hH1_
      clear hH1_
      refine wpAnyU_one' (i := 6) (by kernel_rfl) rfl (by kernel_rfl) (fun K hK => ?_)
      refine step_append_lies _ (by rfl) _ _ _ (by rfl) (w6.heap.size + 1) 33 _ _ 2 16 Try.underlying32 rfl rfl rfl rfl rfl (by omega) _ xs.length _ (by rfl) (HOc.out.alloc _) ⟨wc.heap.size, 0, none⟩ 1 1 [.int .i64 0, .int .i64 na] (by rfl) (by rfl) (World.news_of_block (cs := #[.int .i64 0, .int .i64 na]) (t := 33) (fr := (0, 0)) (heap_alloc_new wc _)) (by simp [Value.oneCell']) (by omega) (by have h := (by decide : maxLen = 9223372036854775807); omega) (by omega) (by simp; omega) (wc.heap.size + 1) (by simp) ?_
      intro gg cap w3 hown hgrow hat hlt2
      have hz3 : wc.heap.size + 1 ≤ w3.heap.size := by have h := hgrow.size; simp only [size_alloc] at h; exact h
      have hlo2 : ∀ k, (Value.slice A3 xs.length c3).ownBlock = some k → w6.heap.size + 1 ≤ k := fun k hk => (hlo k hk).1
      have KM3 := Lib.hid ((HKMc.out.alloc (.cells #[.int .i64 0, .int .i64 na] 33)).chg (grown_chg hgrow) (fun h => by have := hlo2 _ h; omega))
      have KR3 := Lib.hid ((HKRc.out.alloc (.cells #[.int .i64 0, .int .i64 na] 33)).chg (grown_chg hgrow) (fun h => by have := hlo2 _ h; omega))
      have HC3 := Lib.hid ((HCc.out.below ((Below.refl _ _).alloc (Nat.le_refl _) (.cells #[.int .i64 0, .int .i64 na] 33))).chg (grown_chg hgrow) (fun k h => by have := hlo2 _ h; omega) (fun h => by have := hlo2 _ h; omega))
      have HG3 := Lib.hid ((HGc.out.alloc (.cells #[.int .i64 0, .int .i64 na] 33)).then_ (grown_chg hgrow) (fun k hk h => by have := hlo2 _ h; omega))
      have HO3 := Lib.hid hown
      clear hown
      obtain ⟨km3, jm3⟩ := KM3.out.rules
      have lm3 := KM3.out.lt
      refine hK.out _ _ ?_
      clear hK K
      refine wpAnyU_one' (i := 7) (by kernel_rfl) rfl (by kernel_rfl) (fun K hK => ?_)
      go_simp
      refine hK.out _ _ ?_
      clear hK K
      refine wpAnyU_one' (i := 8) (by kernel_rfl) rfl (by kernel_rfl) (fun K hK => ?_)
      go_simp
      refine hK.out _ _ ?_
      clear hK K
      refine wpAnyU_done (by kernel_rfl) ?_ _
      have HO4 : Hid (w3.ownsRow (w6.heap.size + 1) 33 2 (.slice (some ⟨gg, 0, none⟩) (xs ++ [(⟨0, na⟩ : GValue)]).length cap) (xs ++ [(⟨0, na⟩ : GValue)]).length ((xs ++ [(⟨0, na⟩ : GValue)]).flatMap vsValue)) := by unfold Hid; rw [List.flatMap_append, List.length_append]; exact HO3.out
      have HS5 := Lib.hid ((Chg.refl (· = w6.heap.size) w3).setCell (p := ⟨w6.heap.size, 2, none⟩) (.inl rfl) (.slice (some ⟨gg, 0, none⟩) (xs.length + 1) cap))
      clear hgrow hat hlo2 km3 jm3 kc jc kr jr km jm
      go_wp2
      go_roundw
      case rel =>
        exact ⟨i - 1, xs ++ [(⟨0, na⟩ : GValue)], some ⟨gg, 0, none⟩, cap, by rw [show ((i - 1 : Nat) : Int) = (i : Int) - 1 from by omega], by rw [List.length_append]; simp; omega, Lib.hid ((KM3.out.set_ 2 _).eq (by simp)), Lib.hid (ownsRow_keep HO4.out HS5.out (fun k hk e => by have := (HO4.out.lt k hk).1; omega)), Lib.hid (HC3.out.chg HS5.out (by rintro _ rfl; omega) (by omega)), Lib.hid (HG3.out.then_ HS5.out (by rintro k hk rfl; omega)), Lib.hid (KR3.out.chg HS5.out (by omega))⟩
      case measure => simp [intOf]; omega
    · have i0 : i = 0 := by omega
      subst i0
      go_wp2
      refine post_cell (w0 := wr) (fun k => k = w.heap.size) Try.results73 (w.heap.size) #[.int .i64 q, .string nm, .slice A3 xs.length c3, .int .i64 r, .int .i64 (1 + a), .int .i64 b, .int .i64 (1 + d)] _ rfl (Blk.eq (((((((HKR.out.set_ 0 _).set_ 1 _).set_ 2 _).set_ 3 _).set_ 4 _).set_ 5 _).set_ 6 _) (by simp)) Try.underlying71 rfl (by kernel_rfl) rfl ((((((((Chg.refl (· = w.heap.size) _).setCell (p := ⟨w.heap.size, 0, none⟩) (.inl rfl) _).setCell (p := ⟨w.heap.size, 1, none⟩) (.inl rfl) _).setCell (p := ⟨w.heap.size, 2, none⟩) (.inl rfl) _).setCell (p := ⟨w.heap.size, 3, none⟩) (.inl rfl) _).setCell (p := ⟨w.heap.size, 4, none⟩) (.inl rfl) _).setCell (p := ⟨w.heap.size, 5, none⟩) (.inl rfl) _).setCell (p := ⟨w.heap.size, 6, none⟩) (.inl rfl) _) (EX.out wr ⟨q, nm, xs, r, ⟨1 + a, b, 1 + d⟩⟩ A3 c3 (w6.heap.size + 1) HC.out HG.out (by omega) (by omega) HO.out (by show xs.length ≤ 2; omega) HNM.out)

end Go.Proofs.Ytaalbbhebmpppaa
