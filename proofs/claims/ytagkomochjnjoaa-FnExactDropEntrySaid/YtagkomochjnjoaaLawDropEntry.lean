import Derived.Test.YtagkomochjnjoaaProg
import Derived.Test.YtagkomochjnjoaaTypes
import Derived.StillTailTactics
import Derived.Deep.RegionHeld3
import Derived.Laws.IdiomStrings
import Derived.Test.YtagkomochjnjoaaAppend
import Derived.Laws.StructEq
import Derived.Lib.SliceRun
import Derived.Shelf.RegionOpenPlain
import Derived.Test.YtagkomochjnjoaaLink
namespace Go.Proofs.Ytagkomochjnjoaa
open Go.RowKit
set_option linter.unusedVariables false
set_option linter.unusedSimpArgs false

set_option maxHeartbeats 800000 in
set_option maxRecDepth 100000 in
theorem FnExactDropEntry_calls (w : World) (vaList : Value) (aList : List GQuestion) (raList : RdW w (.s aList.length (aList.flatMap eQuestion)) vaList) (aId : Int) (haId : I64 aId) :
    Calls Try.prog 8 #[vaList, .int .i64 aId] w fun e w' => e = .returned (.bool true) ∧ Below w.heap.size w w' := by
  obtain ⟨AaList, caList, rfl, -⟩ := raList.slice
  have ARaList := Lib.hid raList
  clear raList
  go_enter Try.func8, Try.ntmps8
  go_wp2_with fail
  refine (szQuestionS_calls aList _ _ _ (ARaList.out.below (Below.refl _ _)) (by omega) (by omega)).mono ?_
  rintro e w1 ⟨r1, rfl, hr1, hb1⟩
  have NB1 : Below w.heap.size w w1 := hb1
  have BB0_1 := Lib.hid (NB1)
  have sz1 : w.heap.size ≤ w1.heap.size := by have h := hb1.size; (try simp only [size_alloc] at h); omega
  clear hb1 NB1
  rcases hr1 with rfl | ⟨hr1, hr1_0⟩
  · go_wp2
    go_ret
    exact ⟨rfl, BB0_1.out⟩
  have hszaList : aList.length + sizL (aList.flatMap eQuestion) ≤ 1048576 := by omega
  have hr1_9 : r1 ≤ 1048576 := by omega
  clear hr1
  go_wp2_with fail
  refine (toQuestionS_calls aList _ _ (ARaList.out.below BB0_1.out) (by omega)).mono ?_
  rintro e w2 ⟨u2, fp2, rfl, o2, f2, hb2⟩
  have NB2 : Below w1.heap.size w1 w2 := hb2
  have BB0_2 := Lib.hid (BB0_1.out.trans (NB2.mono BB0_1.out.size))
  have sz2 : w1.heap.size ≤ w2.heap.size := by have h := hb2.size; (try simp only [size_alloc] at h); omega
  clear hb2 NB2
  have LB2 : Hid (∀ g, g ∈ fp2 → w1.heap.size ≤ g) := Lib.hid (fun g hg => by have h := f2.2 g hg; (try simp only [size_alloc] at h); omega)
  have UB2 : Hid (∀ g, g ∈ fp2 → g < w2.heap.size) := Lib.hid (Own.lt _ _ _ o2)
  have ND2 := Lib.hid f2.1
  clear f2
  have D2 := Lib.hid o2
  clear o2
  obtain ⟨z0, hz0⟩ : ∃ z, z = (dropEntry aList aId) := ⟨_, rfl⟩
  have HZ0 := Lib.hid hz0
  clear hz0
  go_wp2_with fail
  refine (spec_DropEntry_calls _ aList aId _ (D2.out.rdw.below (Below.refl _ _)) (by omega) haId).mono ?_
  rintro e w3 ⟨u3, rfl, o3, hb3⟩
  have NB3 : Below w2.heap.size w2 w3 := hb3
  have BB0_3 := Lib.hid (BB0_2.out.trans (NB3.mono BB0_2.out.size))
  have BB2_3 := Lib.hid (NB3)
  have sz3 : w2.heap.size ≤ w3.heap.size := by have h := hb3.size; (try simp only [size_alloc] at h); omega
  clear hb3 NB3
  rw [← HZ0.out] at o3
  have D3 := Lib.hid o3
  clear o3
  go_wp2_with fail
  refine (toQuestionS_calls aList _ _ (ARaList.out.below BB0_3.out) (by omega)).mono ?_
  rintro e w4 ⟨u4, fp4, rfl, o4, f4, hb4⟩
  have NB4 : Below w3.heap.size w3 w4 := hb4
  have BB0_4 := Lib.hid (BB0_3.out.trans (NB4.mono BB0_3.out.size))
  have BB2_4 := Lib.hid (BB2_3.out.trans (NB4.mono BB2_3.out.size))
  have BB3_4 := Lib.hid (NB4)
  have sz4 : w3.heap.size ≤ w4.heap.size := by have h := hb4.size; (try simp only [size_alloc] at h); omega
  clear hb4 NB4
  have LB4 : Hid (∀ g, g ∈ fp4 → w3.heap.size ≤ g) := Lib.hid (fun g hg => by have h := f4.2 g hg; (try simp only [size_alloc] at h); omega)
  have UB4 : Hid (∀ g, g ∈ fp4 → g < w4.heap.size) := Lib.hid (Own.lt _ _ _ o4)
  have ND4 := Lib.hid f4.1
  clear f4
  have D4 := Lib.hid o4
  clear o4
  go_wp2_with fail
  refine (impl_DropEntry_calls _ aList aId _ (D4.out.rdw.below (Below.refl _ _)) (by omega) haId).mono ?_
  rintro e w5 ⟨u5, fp5, rfl, o5, f5, hb5⟩
  have NB5 : Below w4.heap.size w4 w5 := hb5
  have BB0_5 := Lib.hid (BB0_4.out.trans (NB5.mono BB0_4.out.size))
  have BB2_5 := Lib.hid (BB2_4.out.trans (NB5.mono BB2_4.out.size))
  have BB3_5 := Lib.hid (BB3_4.out.trans (NB5.mono BB3_4.out.size))
  have BB4_5 := Lib.hid (NB5)
  have sz5 : w4.heap.size ≤ w5.heap.size := by have h := hb5.size; (try simp only [size_alloc] at h); omega
  clear hb5 NB5
  rw [← HZ0.out] at o5
  have LB5 : Hid (∀ g, g ∈ fp5 → w4.heap.size ≤ g) := Lib.hid (fun g hg => by have h := f5.2 g hg; (try simp only [size_alloc] at h); omega)
  have UB5 : Hid (∀ g, g ∈ fp5 → g < w5.heap.size) := Lib.hid (Own.lt _ _ _ o5)
  have ND5 := Lib.hid f5.1
  clear f5
  have D5 := Lib.hid o5
  clear o5
  go_wp2_with fail
  refine (eqQuestionS_calls z0 _ _ _ (D5.out.rdw.below (Below.refl _ _)) (D3.out.below BB3_5.out)).mono ?_
  rintro e w6 ⟨rfl, hb6⟩
  have NB6 : Below w5.heap.size w5 w6 := hb6
  have BB0_6 := Lib.hid (BB0_5.out.trans (NB6.mono BB0_5.out.size))
  have BB2_6 := Lib.hid (BB2_5.out.trans (NB6.mono BB2_5.out.size))
  have BB3_6 := Lib.hid (BB3_5.out.trans (NB6.mono BB3_5.out.size))
  have BB4_6 := Lib.hid (BB4_5.out.trans (NB6.mono BB4_5.out.size))
  have BB5_6 := Lib.hid (NB6)
  have sz6 : w5.heap.size ≤ w6.heap.size := by have h := hb6.size; (try simp only [size_alloc] at h); omega
  clear hb6 NB6
  go_wp2_with fail
  refine (toQuestionS_calls aList _ _ (ARaList.out.below BB0_6.out) (by omega)).mono ?_
  rintro e w7 ⟨u7, fp7, rfl, o7, f7, hb7⟩
  have NB7 : Below w6.heap.size w6 w7 := hb7
  have BB0_7 := Lib.hid (BB0_6.out.trans (NB7.mono BB0_6.out.size))
  have BB2_7 := Lib.hid (BB2_6.out.trans (NB7.mono BB2_6.out.size))
  have BB3_7 := Lib.hid (BB3_6.out.trans (NB7.mono BB3_6.out.size))
  have BB4_7 := Lib.hid (BB4_6.out.trans (NB7.mono BB4_6.out.size))
  have BB5_7 := Lib.hid (BB5_6.out.trans (NB7.mono BB5_6.out.size))
  have sz7 : w6.heap.size ≤ w7.heap.size := by have h := hb7.size; (try simp only [size_alloc] at h); omega
  clear hb7 NB7
  have LB7 : Hid (∀ g, g ∈ fp7 → w6.heap.size ≤ g) := Lib.hid (fun g hg => by have h := f7.2 g hg; (try simp only [size_alloc] at h); omega)
  have UB7 : Hid (∀ g, g ∈ fp7 → g < w7.heap.size) := Lib.hid (Own.lt _ _ _ o7)
  have ND7 := Lib.hid f7.1
  clear f7
  have D7 := Lib.hid o7
  clear o7
  go_wp2_with fail
  refine (eqQuestionS_calls aList _ _ _ (D4.out.rdw.below BB4_7.out) (D7.out.rdw.below (Below.refl _ _))).mono ?_
  rintro e w8 ⟨rfl, hb8⟩
  have NB8 : Below w7.heap.size w7 w8 := hb8
  have BB0_8 := Lib.hid (BB0_7.out.trans (NB8.mono BB0_7.out.size))
  have BB2_8 := Lib.hid (BB2_7.out.trans (NB8.mono BB2_7.out.size))
  have BB3_8 := Lib.hid (BB3_7.out.trans (NB8.mono BB3_7.out.size))
  have BB4_8 := Lib.hid (BB4_7.out.trans (NB8.mono BB4_7.out.size))
  have BB5_8 := Lib.hid (BB5_7.out.trans (NB8.mono BB5_7.out.size))
  have BB7_8 := Lib.hid (NB8)
  have sz8 : w7.heap.size ≤ w8.heap.size := by have h := hb8.size; (try simp only [size_alloc] at h); omega
  clear hb8 NB8
  have HC4 : Hid (cntL (aList.flatMap eQuestion) ≤ 1099511627776) := Lib.hid (by have h1 := cnt_le _ (Slim_flat eQuestion 2 len_eQuestion (by omega) slim_eQuestion aList); rw [cnt_s, siz_s] at h1; omega)
  go_wp2_with fail
  refine (markQuestionS_calls aList _ _ fp4 _ (D4.out.below BB4_8.out) ND4.out (by omega) (by have := HC4.out; omega)).mono ?_
  rintro e w9 ⟨r9, rfl, hr9, o9, hb9⟩
  have NC9 := hb9
  have NB9 := NC9.size
  have BB0_9 := Lib.hid (below_chg BB0_8.out NC9 BB0_8.out.size (fun i hi => by have := LB4.out _ hi; omega))
  have BB2_9 := Lib.hid (below_chg BB2_8.out NC9 BB2_8.out.size (fun i hi => by have := LB4.out _ hi; omega))
  have BB3_9 := Lib.hid (below_chg BB3_8.out NC9 BB3_8.out.size (fun i hi => by have := LB4.out _ hi; omega))
  have NCk9 := NC9
  have sz9 : w8.heap.size ≤ w9.heap.size := by have h := hb9.size; (try simp only [size_alloc] at h); omega
  clear hb9 NB9 NC9
  have hr9_0 : 0 ≤ r9 := by omega
  have HR9 := Lib.hid hr9
  clear hr9
  have D5_9 := Lib.hid ((D5.out.below BB5_8.out).chg NCk9 (fun g hg hT => by have h1 := LB5.out _ hg; have h2 := UB4.out _ hT; omega))
  clear D5
  have D5 := D5_9
  clear D5_9
  clear NCk9
  have D4m := Lib.hid o9
  clear o9
  go_wp2_with fail
  refine (eqQuestionS_calls z0 _ _ _ (D5.out.rdw.below (Below.refl _ _)) (D3.out.below BB3_9.out)).mono ?_
  rintro e w10 ⟨rfl, hb10⟩
  have NB10 : Below w9.heap.size w9 w10 := hb10
  have BB0_10 := Lib.hid (BB0_9.out.trans (NB10.mono BB0_9.out.size))
  have BB2_10 := Lib.hid (BB2_9.out.trans (NB10.mono BB2_9.out.size))
  have BB3_10 := Lib.hid (BB3_9.out.trans (NB10.mono BB3_9.out.size))
  have BB9_10 := Lib.hid (NB10)
  have sz10 : w9.heap.size ≤ w10.heap.size := by have h := hb10.size; (try simp only [size_alloc] at h); omega
  clear hb10 NB10
  have HC5 : Hid (cntL (z0.flatMap eQuestion) ≤ 1099511627776) := Lib.hid (by rw [HZ0.out]; exact (by rw [cntf_eQuestion]; have := dropEntry_len aList aId; omega))
  go_wp2_with fail
  refine (markQuestionS_calls z0 _ _ fp5 _ (D5.out.below BB9_10.out) ND5.out (by omega) (by have := HC5.out; omega)).mono ?_
  rintro e w11 ⟨r11, rfl, hr11, o11, hb11⟩
  have NC11 := hb11
  have NB11 := NC11.size
  have BB0_11 := Lib.hid (below_chg BB0_10.out NC11 BB0_10.out.size (fun i hi => by have := LB5.out _ hi; omega))
  have BB2_11 := Lib.hid (below_chg BB2_10.out NC11 BB2_10.out.size (fun i hi => by have := LB5.out _ hi; omega))
  have BB3_11 := Lib.hid (below_chg BB3_10.out NC11 BB3_10.out.size (fun i hi => by have := LB5.out _ hi; omega))
  have NCk11 := NC11
  have sz11 : w10.heap.size ≤ w11.heap.size := by have h := hb11.size; (try simp only [size_alloc] at h); omega
  clear hb11 NB11 NC11
  have hr11_0 : 0 ≤ r11 := by omega
  have HR11 := Lib.hid hr11
  clear hr11
  clear NCk11
  have D5m := Lib.hid o11
  clear o11
  go_wp2_with fail
  refine (heldQuestionS_calls z0 _ _ _ (D5m.out.rdw.below (Below.refl _ _)) (by omega) (by have := HC5.out; omega)).mono ?_
  rintro e w12 ⟨rr, rfl, hrr, hb12⟩
  have NB12 : Below w11.heap.size w11 w12 := hb12
  have BB0_12 := Lib.hid (BB0_11.out.trans (NB12.mono BB0_11.out.size))
  have BB2_12 := Lib.hid (BB2_11.out.trans (NB12.mono BB2_11.out.size))
  have BB3_12 := Lib.hid (BB3_11.out.trans (NB12.mono BB3_11.out.size))
  have BB11_12 := Lib.hid (NB12)
  have sz12 : w11.heap.size ≤ w12.heap.size := by have h := hb12.size; (try simp only [size_alloc] at h); omega
  clear hb12 NB12
  obtain rfl : r11 = rr := HR11.out.trans hrr.symm
  clear hrr
  go_wp2_with fail
  refine (toQuestionS_calls aList _ _ (ARaList.out.below BB0_12.out) (by omega)).mono ?_
  rintro e w13 ⟨u13, fp13, rfl, o13, f13, hb13⟩
  have NB13 : Below w12.heap.size w12 w13 := hb13
  have BB0_13 := Lib.hid (BB0_12.out.trans (NB13.mono BB0_12.out.size))
  have BB2_13 := Lib.hid (BB2_12.out.trans (NB13.mono BB2_12.out.size))
  have BB3_13 := Lib.hid (BB3_12.out.trans (NB13.mono BB3_12.out.size))
  have BB11_13 := Lib.hid (BB11_12.out.trans (NB13.mono BB11_12.out.size))
  have sz13 : w12.heap.size ≤ w13.heap.size := by have h := hb13.size; (try simp only [size_alloc] at h); omega
  clear hb13 NB13
  have LB13 : Hid (∀ g, g ∈ fp13 → w12.heap.size ≤ g) := Lib.hid (fun g hg => by have h := f13.2 g hg; (try simp only [size_alloc] at h); omega)
  have UB13 : Hid (∀ g, g ∈ fp13 → g < w13.heap.size) := Lib.hid (Own.lt _ _ _ o13)
  have ND13 := Lib.hid f13.1
  clear f13
  have D13 := Lib.hid o13
  clear o13
  go_wp2_with fail
  refine (impl_DropEntry_calls _ aList aId _ (D13.out.rdw.below (Below.refl _ _)) (by omega) haId).mono ?_
  rintro e w14 ⟨u14, fp14, rfl, o14, f14, hb14⟩
  have NB14 : Below w13.heap.size w13 w14 := hb14
  have BB0_14 := Lib.hid (BB0_13.out.trans (NB14.mono BB0_13.out.size))
  have BB2_14 := Lib.hid (BB2_13.out.trans (NB14.mono BB2_13.out.size))
  have BB3_14 := Lib.hid (BB3_13.out.trans (NB14.mono BB3_13.out.size))
  have BB11_14 := Lib.hid (BB11_13.out.trans (NB14.mono BB11_13.out.size))
  have BB13_14 := Lib.hid (NB14)
  have sz14 : w13.heap.size ≤ w14.heap.size := by have h := hb14.size; (try simp only [size_alloc] at h); omega
  clear hb14 NB14
  rw [← HZ0.out] at o14
  have LB14 : Hid (∀ g, g ∈ fp14 → w13.heap.size ≤ g) := Lib.hid (fun g hg => by have h := f14.2 g hg; (try simp only [size_alloc] at h); omega)
  have UB14 : Hid (∀ g, g ∈ fp14 → g < w14.heap.size) := Lib.hid (Own.lt _ _ _ o14)
  have ND14 := Lib.hid f14.1
  clear f14
  have D14 := Lib.hid o14
  clear o14
  go_wp2_with fail
  refine (eqQuestionS_calls z0 _ _ _ (D14.out.rdw.below (Below.refl _ _)) (D3.out.below BB3_14.out)).mono ?_
  rintro e w15 ⟨rfl, hb15⟩
  have NB15 : Below w14.heap.size w14 w15 := hb15
  have BB0_15 := Lib.hid (BB0_14.out.trans (NB15.mono BB0_14.out.size))
  have BB2_15 := Lib.hid (BB2_14.out.trans (NB15.mono BB2_14.out.size))
  have BB3_15 := Lib.hid (BB3_14.out.trans (NB15.mono BB3_14.out.size))
  have BB11_15 := Lib.hid (BB11_14.out.trans (NB15.mono BB11_14.out.size))
  have BB13_15 := Lib.hid (BB13_14.out.trans (NB15.mono BB13_14.out.size))
  have BB14_15 := Lib.hid (NB15)
  have sz15 : w14.heap.size ≤ w15.heap.size := by have h := hb15.size; (try simp only [size_alloc] at h); omega
  clear hb15 NB15
  go_wp2_with fail
  refine (heldQuestionS_calls z0 _ _ _ (D5m.out.rdw.below BB11_15.out) (by omega) (by have := HC5.out; omega)).mono ?_
  rintro e w16 ⟨rr, rfl, hrr, hb16⟩
  have NB16 : Below w15.heap.size w15 w16 := hb16
  have BB0_16 := Lib.hid (BB0_15.out.trans (NB16.mono BB0_15.out.size))
  have BB2_16 := Lib.hid (BB2_15.out.trans (NB16.mono BB2_15.out.size))
  have BB3_16 := Lib.hid (BB3_15.out.trans (NB16.mono BB3_15.out.size))
  have BB11_16 := Lib.hid (BB11_15.out.trans (NB16.mono BB11_15.out.size))
  have BB13_16 := Lib.hid (BB13_15.out.trans (NB16.mono BB13_15.out.size))
  have BB14_16 := Lib.hid (BB14_15.out.trans (NB16.mono BB14_15.out.size))
  have sz16 : w15.heap.size ≤ w16.heap.size := by have h := hb16.size; (try simp only [size_alloc] at h); omega
  clear hb16 NB16
  obtain rfl : r11 = rr := HR11.out.trans hrr.symm
  clear hrr
  go_wp2
  go_ret
  exact ⟨rfl, BB0_16.out⟩

end Go.Proofs.Ytagkomochjnjoaa
