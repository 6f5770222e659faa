import Derived.Test.YtmnpoajdibmocaaGreatProg
import Derived.Test.YtmnpoajdibmocaaGreatTypes
import Derived.StillTailTactics
import Derived.Deep.RegionHeld3
import Derived.Laws.IdiomStrings
import Derived.Test.YtmnpoajdibmocaaGreatAppend
import Derived.Laws.StructEq
import Derived.Lib.SliceRun
import Derived.Shelf.RegionOpenPlain
import Derived.Test.YtmnpoajdibmocaaGreatHelpM
import Derived.Test.YtmnpoajdibmocaaGreatVat
import Derived.Test.YtmnpoajdibmocaaGreatReachS
namespace Go.Proofs.YtmnpoajdibmocaaGreat
open Go.RowKit
set_option linter.unusedVariables false
set_option linter.unusedSimpArgs false

set_option maxHeartbeats 800000 in
set_option maxRecDepth 100000 in
theorem FnExactCanReach_calls (w : World) (usaV : List Value) (aV : GVat) (raV : RdLW w (eVat aV) usaV) (taV : StrOkL (eVat aV)) (aPeer : Int) (haPeer : I64 aPeer) :
    Calls Tryz.prog 3 #[.agg usaV.toArray, .int .i64 aPeer] w fun e w' => e = .returned (.bool true) ∧ Below w.heap.size w w' := by
  have ARaV := Lib.hid raV
  obtain ⟨v1aV, v2aV, v3aV, v4aV, rfl, -, -, -, -⟩ := rd_eVat raV
  clear raV
  have TSaV := Lib.hid taV
  clear taV
  go_enter Tryz.func3, Tryz.ntmps3
  go_wp2_with fail
  refine (szVat_calls _ aV _ _ (ARaV.out.below ((Below.refl _ _).alloc (Nat.le_refl _) _)) TSaV.out (by omega) (by omega)).mono ?_
  rintro e w1 ⟨r1, rfl, hr1, hb1⟩
  have NB1 : Below w.heap.size w w1 := (((Below.refl _ _).alloc (Nat.le_refl _) _)).trans (hb1.mono (by (try simp only [size_alloc]); omega))
  have BB0_1 := Lib.hid (NB1)
  have sz1 : w.heap.size + 1 ≤ w1.heap.size := by have h := hb1.size; (try simp only [size_alloc] at h); omega
  have KBaV_1 : Hid (Blk w1 (w.heap.size) 27 #[.int .i64 aV.Id, v1aV, v2aV, v3aV, v4aV]) := Lib.hid ((Blk.made rfl).below hb1)
  obtain ⟨kcBaV_1, kfBaV_1⟩ := KBaV_1.out.rules
  have klBaV_1 := KBaV_1.out.lt
  clear hb1 NB1
  rcases hr1 with rfl | ⟨hr1, hr1_0⟩
  · go_wp2
    go_ret
    exact ⟨rfl, BB0_1.out⟩
  have hszaV : sizL (eVat aV) ≤ 1048576 := by omega
  have hr1_9 : r1 ≤ 1048576 := by omega
  clear hr1
  go_wp2_with fail
  refine (toVat_calls _ aV _ (ARaV.out.below BB0_1.out) (by omega)).mono ?_
  rintro e w2 ⟨u2, fp2, rfl, o2, f2, hb2⟩
  have NB2 : Below w1.heap.size w1 w2 := hb2
  have BB0_2 := Lib.hid (BB0_1.out.trans (NB2.mono BB0_1.out.size))
  have sz2 : w1.heap.size ≤ w2.heap.size := by have h := hb2.size; (try simp only [size_alloc] at h); omega
  have KBaV_2 : Hid (Blk w2 (w.heap.size) 27 #[.int .i64 aV.Id, v1aV, v2aV, v3aV, v4aV]) := Lib.hid (KBaV_1.out.below hb2)
  clear kcBaV_1 kfBaV_1 klBaV_1
  obtain ⟨kcBaV_2, kfBaV_2⟩ := KBaV_2.out.rules
  have klBaV_2 := KBaV_2.out.lt
  clear hb2 NB2
  have LB2 : Hid (∀ g, g ∈ fp2 → w1.heap.size ≤ g) := Lib.hid (fun g hg => by have h := f2.2 g hg; (try simp only [size_alloc] at h); omega)
  have UB2 : Hid (∀ g, g ∈ fp2 → g < w2.heap.size) := Lib.hid (OwnL.lt _ _ _ o2)
  have ND2 := Lib.hid f2.1
  clear f2
  have D2 := Lib.hid o2
  clear o2
  obtain ⟨z0, hz0⟩ : ∃ z, z = (canReach aV aPeer) := ⟨_, rfl⟩
  have HZ0 := Lib.hid hz0
  clear hz0
  go_wp2_with fail
  refine (spec_CanReach_calls _ aV aPeer _ (D2.out.rdw.below (Below.refl _ _)) (by omega) haPeer).mono ?_
  rintro e w3 ⟨u3, rfl, o3, hb3⟩
  have NB3 : Below w2.heap.size w2 w3 := hb3
  have BB0_3 := Lib.hid (BB0_2.out.trans (NB3.mono BB0_2.out.size))
  have BB2_3 := Lib.hid (NB3)
  have sz3 : w2.heap.size ≤ w3.heap.size := by have h := hb3.size; (try simp only [size_alloc] at h); omega
  have KBaV_3 : Hid (Blk w3 (w.heap.size) 27 #[.int .i64 aV.Id, v1aV, v2aV, v3aV, v4aV]) := Lib.hid (KBaV_2.out.below hb3)
  clear kcBaV_2 kfBaV_2 klBaV_2
  obtain ⟨kcBaV_3, kfBaV_3⟩ := KBaV_3.out.rules
  have klBaV_3 := KBaV_3.out.lt
  clear hb3 NB3
  rw [← HZ0.out] at o3
  have D3 := Lib.hid o3
  clear o3
  go_wp2_with fail
  refine (toVat_calls _ aV _ (ARaV.out.below BB0_3.out) (by omega)).mono ?_
  rintro e w4 ⟨u4, fp4, rfl, o4, f4, hb4⟩
  have NB4 : Below w3.heap.size w3 w4 := hb4
  have BB0_4 := Lib.hid (BB0_3.out.trans (NB4.mono BB0_3.out.size))
  have BB2_4 := Lib.hid (BB2_3.out.trans (NB4.mono BB2_3.out.size))
  have BB3_4 := Lib.hid (NB4)
  have sz4 : w3.heap.size ≤ w4.heap.size := by have h := hb4.size; (try simp only [size_alloc] at h); omega
  have KBaV_4 : Hid (Blk w4 (w.heap.size) 27 #[.int .i64 aV.Id, v1aV, v2aV, v3aV, v4aV]) := Lib.hid (KBaV_3.out.below hb4)
  clear kcBaV_3 kfBaV_3 klBaV_3
  obtain ⟨kcBaV_4, kfBaV_4⟩ := KBaV_4.out.rules
  have klBaV_4 := KBaV_4.out.lt
  clear hb4 NB4
  obtain ⟨v1_4, f1_4, v2_4, f2_4, v3_4, f3_4, v4_4, f4_4, rfl, -, q1_4, q2_4, q3_4, q4_4⟩ := own_eVat o4
  obtain ⟨A1_4, c1_4, rfl, -⟩ := q1_4.slice
  obtain ⟨A2_4, c2_4, rfl, -⟩ := q2_4.slice
  obtain ⟨A3_4, c3_4, rfl, -⟩ := q3_4.slice
  obtain ⟨A4_4, c4_4, rfl, -⟩ := q4_4.slice
  clear q1_4 q2_4 q3_4 q4_4
  have LB4 : Hid (∀ g, g ∈ fp4 → w3.heap.size ≤ g) := Lib.hid (fun g hg => by have h := f4.2 g hg; (try simp only [size_alloc] at h); omega)
  have UB4 : Hid (∀ g, g ∈ fp4 → g < w4.heap.size) := Lib.hid (OwnL.lt _ _ _ o4)
  have ND4 := Lib.hid f4.1
  clear f4
  have D4 := Lib.hid o4
  clear o4
  go_wp2_with fail
  refine (impl_CanReach_calls _ aV aPeer _ (D4.out.rdw.below ((Below.refl _ _).alloc (Nat.le_refl _) _)) (by omega) haPeer).mono ?_
  rintro e w5 ⟨u5, fp5, rfl, o5, f5, hb5⟩
  have NB5 : Below w4.heap.size w4 w5 := (((Below.refl _ _).alloc (Nat.le_refl _) _)).trans (hb5.mono (by (try simp only [size_alloc]); omega))
  have BB0_5 := Lib.hid (BB0_4.out.trans (NB5.mono BB0_4.out.size))
  have BB2_5 := Lib.hid (BB2_4.out.trans (NB5.mono BB2_4.out.size))
  have BB3_5 := Lib.hid (BB3_4.out.trans (NB5.mono BB3_4.out.size))
  have BB4_5 := Lib.hid (NB5)
  have sz5 : w4.heap.size + 1 ≤ w5.heap.size := by have h := hb5.size; (try simp only [size_alloc] at h); omega
  have KBaV_5 : Hid (Blk w5 (w.heap.size) 27 #[.int .i64 aV.Id, v1aV, v2aV, v3aV, v4aV]) := Lib.hid ((KBaV_4.out.alloc _).below hb5)
  have Kx0_5 : Hid (Blk w5 (w4.heap.size) 36 #[.int .i64 aV.Id, .slice A1_4 (aV.Entities).length c1_4, .slice A2_4 (aV.Loop).length c2_4, .slice A3_4 (aV.Links).length c3_4, .slice A4_4 (aV.Out).length c4_4]) := Lib.hid ((Blk.made rfl).below hb5)
  clear kcBaV_4 kfBaV_4 klBaV_4
  obtain ⟨kcBaV_5, kfBaV_5⟩ := KBaV_5.out.rules
  have klBaV_5 := KBaV_5.out.lt
  obtain ⟨kcx0_5, kfx0_5⟩ := Kx0_5.out.rules
  have klx0_5 := Kx0_5.out.lt
  clear hb5 NB5
  rw [← HZ0.out] at o5
  have LB5 : Hid (∀ g, g ∈ fp5 → w4.heap.size + 1 ≤ g) := Lib.hid (fun g hg => by have h := f5.2 g hg; (try simp only [size_alloc] at h); omega)
  have UB5 : Hid (∀ g, g ∈ fp5 → g < w5.heap.size) := Lib.hid (Own.lt _ _ _ o5)
  have ND5 := Lib.hid f5.1
  clear f5
  have D5 := Lib.hid o5
  clear o5
  go_wp2_with fail
  refine (eqIntS_calls z0 _ _ _ (D5.out.rdw.below (Below.refl _ _)) (D3.out.below BB3_5.out)).mono ?_
  rintro e w6 ⟨rfl, hb6⟩
  have NB6 : Below w5.heap.size w5 w6 := hb6
  have BB0_6 := Lib.hid (BB0_5.out.trans (NB6.mono BB0_5.out.size))
  have BB2_6 := Lib.hid (BB2_5.out.trans (NB6.mono BB2_5.out.size))
  have BB3_6 := Lib.hid (BB3_5.out.trans (NB6.mono BB3_5.out.size))
  have BB4_6 := Lib.hid (BB4_5.out.trans (NB6.mono BB4_5.out.size))
  have BB5_6 := Lib.hid (NB6)
  have sz6 : w5.heap.size ≤ w6.heap.size := by have h := hb6.size; (try simp only [size_alloc] at h); omega
  have KBaV_6 : Hid (Blk w6 (w.heap.size) 27 #[.int .i64 aV.Id, v1aV, v2aV, v3aV, v4aV]) := Lib.hid (KBaV_5.out.below hb6)
  have Kx0_6 : Hid (Blk w6 (w4.heap.size) 36 #[.int .i64 aV.Id, .slice A1_4 (aV.Entities).length c1_4, .slice A2_4 (aV.Loop).length c2_4, .slice A3_4 (aV.Links).length c3_4, .slice A4_4 (aV.Out).length c4_4]) := Lib.hid (Kx0_5.out.below hb6)
  clear kcBaV_5 kfBaV_5 klBaV_5 kcx0_5 kfx0_5 klx0_5
  obtain ⟨kcBaV_6, kfBaV_6⟩ := KBaV_6.out.rules
  have klBaV_6 := KBaV_6.out.lt
  obtain ⟨kcx0_6, kfx0_6⟩ := Kx0_6.out.rules
  have klx0_6 := Kx0_6.out.lt
  clear hb6 NB6
  go_wp2
  go_region_held3 (fun wq => wq.cell? ⟨w4.heap.size, 0, none⟩ = some (.int .i64 aV.Id) ∧ wq.cell? ⟨w4.heap.size, 1, none⟩ = some (.slice A1_4 (aV.Entities).length c1_4) ∧ wq.cell? ⟨w4.heap.size, 2, none⟩ = some (.slice A2_4 (aV.Loop).length c2_4) ∧ wq.cell? ⟨w4.heap.size, 3, none⟩ = some (.slice A3_4 (aV.Links).length c3_4) ∧ wq.cell? ⟨w4.heap.size, 4, none⟩ = some (.slice A4_4 (aV.Out).length c4_4) ∧ wq.cell? ⟨w.heap.size, 0, none⟩ = some (.int .i64 aV.Id) ∧ wq.cell? ⟨w.heap.size, 1, none⟩ = some (v1aV) ∧ wq.cell? ⟨w.heap.size, 2, none⟩ = some (v2aV) ∧ wq.cell? ⟨w.heap.size, 3, none⟩ = some (v3aV) ∧ wq.cell? ⟨w.heap.size, 4, none⟩ = some (v4aV))
    (first | exact ⟨kcx0_8q 0, kcx0_8q 1, kcx0_8q 2, kcx0_8q 3, kcx0_8q 4, kcBaV_8q 0, kcBaV_8q 1, kcBaV_8q 2, kcBaV_8q 3, kcBaV_8q 4⟩ | exact ⟨kcx0_7q 0, kcx0_7q 1, kcx0_7q 2, kcx0_7q 3, kcx0_7q 4, kcBaV_7q 0, kcBaV_7q 1, kcBaV_7q 2, kcBaV_7q 3, kcBaV_7q 4⟩ | exact ⟨kcx0_6 0, kcx0_6 1, kcx0_6 2, kcx0_6 3, kcx0_6 4, kcBaV_6 0, kcBaV_6 1, kcBaV_6 2, kcBaV_6 3, kcBaV_6 4⟩)
    (first
      | (have _hq := hbq7; clear _hq; go_at_call 9; refine (eqVat_calls _ _ aV _ ((D4.out.rdw.below BB4_6.out).below ((Below.refl _ _).drew.trans hbq7)) o7.rdw).mono ?_; rintro e w8 ⟨rfl, hbq8⟩; obtain ⟨kcx0_8q, kfx0_8q⟩ := ((Kx0_6.out.drew.below hbq7).below hbq8).rules; obtain ⟨kcBaV_8q, kfBaV_8q⟩ := ((KBaV_6.out.drew.below hbq7).below hbq8).rules)
      | (go_at_call 6; refine (toVat_calls _ aV _ ((ARaV.out.below BB0_6.out).below (Below.refl _ _).drew) (by omega)).mono ?_; rintro e w7 ⟨u7, fp7, rfl, o7, f7, hbq7⟩; obtain ⟨kcx0_7q, kfx0_7q⟩ := (Kx0_6.out.drew.below hbq7).rules; obtain ⟨kcBaV_7q, kfBaV_7q⟩ := (KBaV_6.out.drew.below hbq7).rules))
  clear kcx0_7q kfx0_7q kcx0_8q kfx0_8q kcBaV_7q kfBaV_7q kcBaV_8q kfBaV_8q
  have hb7 := (Below.refl w6.heap.size w6).drew.trans hbq7
  have hb8 := hbq8
  clear hbq7 hbq8 o7 f7
  have NB7 : Below w6.heap.size w6 w7 := hb7
  have BB0_7 := Lib.hid (BB0_6.out.trans (NB7.mono BB0_6.out.size))
  have BB2_7 := Lib.hid (BB2_6.out.trans (NB7.mono BB2_6.out.size))
  have BB3_7 := Lib.hid (BB3_6.out.trans (NB7.mono BB3_6.out.size))
  have BB4_7 := Lib.hid (BB4_6.out.trans (NB7.mono BB4_6.out.size))
  have BB5_7 := Lib.hid (BB5_6.out.trans (NB7.mono BB5_6.out.size))
  have sz7 : w6.heap.size ≤ w7.heap.size := by have h := hb7.size; (try simp only [size_alloc] at h); omega
  have KBaV_7 : Hid (Blk w7 (w.heap.size) 27 #[.int .i64 aV.Id, v1aV, v2aV, v3aV, v4aV]) := Lib.hid (KBaV_6.out.below hb7)
  have Kx0_7 : Hid (Blk w7 (w4.heap.size) 36 #[.int .i64 aV.Id, .slice A1_4 (aV.Entities).length c1_4, .slice A2_4 (aV.Loop).length c2_4, .slice A3_4 (aV.Links).length c3_4, .slice A4_4 (aV.Out).length c4_4]) := Lib.hid (Kx0_6.out.below hb7)
  clear kcBaV_6 kfBaV_6 klBaV_6 kcx0_6 kfx0_6 klx0_6
  obtain ⟨kcBaV_7, kfBaV_7⟩ := KBaV_7.out.rules
  have klBaV_7 := KBaV_7.out.lt
  obtain ⟨kcx0_7, kfx0_7⟩ := Kx0_7.out.rules
  have klx0_7 := Kx0_7.out.lt
  clear hb7 NB7
  have NB8 : Below w7.heap.size w7 w8 := hb8
  have BB0_8 := Lib.hid (BB0_7.out.trans (NB8.mono BB0_7.out.size))
  have BB2_8 := Lib.hid (BB2_7.out.trans (NB8.mono BB2_7.out.size))
  have BB3_8 := Lib.hid (BB3_7.out.trans (NB8.mono BB3_7.out.size))
  have BB4_8 := Lib.hid (BB4_7.out.trans (NB8.mono BB4_7.out.size))
  have BB5_8 := Lib.hid (BB5_7.out.trans (NB8.mono BB5_7.out.size))
  have sz8 : w7.heap.size ≤ w8.heap.size := by have h := hb8.size; (try simp only [size_alloc] at h); omega
  have KBaV_8 : Hid (Blk w8 (w.heap.size) 27 #[.int .i64 aV.Id, v1aV, v2aV, v3aV, v4aV]) := Lib.hid (KBaV_7.out.below hb8)
  have Kx0_8 : Hid (Blk w8 (w4.heap.size) 36 #[.int .i64 aV.Id, .slice A1_4 (aV.Entities).length c1_4, .slice A2_4 (aV.Loop).length c2_4, .slice A3_4 (aV.Links).length c3_4, .slice A4_4 (aV.Out).length c4_4]) := Lib.hid (Kx0_7.out.below hb8)
  clear kcBaV_7 kfBaV_7 klBaV_7 kcx0_7 kfx0_7 klx0_7
  obtain ⟨kcBaV_8, kfBaV_8⟩ := KBaV_8.out.rules
  have klBaV_8 := KBaV_8.out.lt
  obtain ⟨kcx0_8, kfx0_8⟩ := Kx0_8.out.rules
  have klx0_8 := Kx0_8.out.lt
  clear hb8 NB8
  have HC4 : Hid (cntL (eVat aV) ≤ 1099511627776) := Lib.hid (by have h1 := cntL_le _ (slim_eVat aV); have h2 := len_eVat aV; omega)
  go_wp2_with fail
  refine (markVat_calls _ aV _ fp4 _ (D4.out.below BB4_8.out) ND4.out (by omega) (by have := HC4.out; have := tcnt_le (eVat aV); omega)).mono ?_
  rintro e w9 ⟨r9, rfl, hr9, o9, hb9⟩
  have NC9 := hb9
  have NB9 := NC9.size
  have BB0_9 := Lib.hid (below_chg BB0_8.out NC9 BB0_8.out.size (fun i hi => by have := LB4.out _ hi; omega))
  have BB2_9 := Lib.hid (below_chg BB2_8.out NC9 BB2_8.out.size (fun i hi => by have := LB4.out _ hi; omega))
  have BB3_9 := Lib.hid (below_chg BB3_8.out NC9 BB3_8.out.size (fun i hi => by have := LB4.out _ hi; omega))
  have NCk9 := NC9
  have sz9 : w8.heap.size ≤ w9.heap.size := by have h := hb9.size; (try simp only [size_alloc] at h); omega
  have KBaV_9 : Hid (Blk w9 (w.heap.size) 27 #[.int .i64 aV.Id, v1aV, v2aV, v3aV, v4aV]) := Lib.hid (KBaV_8.out.chg hb9 (fun h => by have h1 := LB4.out _ h; have h2 := UB4.out _ h; omega))
  have Kx0_9 : Hid (Blk w9 (w4.heap.size) 36 #[.int .i64 aV.Id, .slice A1_4 (aV.Entities).length c1_4, .slice A2_4 (aV.Loop).length c2_4, .slice A3_4 (aV.Links).length c3_4, .slice A4_4 (aV.Out).length c4_4]) := Lib.hid (Kx0_8.out.chg hb9 (fun h => by have h1 := LB4.out _ h; have h2 := UB4.out _ h; omega))
  clear kcBaV_8 kfBaV_8 klBaV_8 kcx0_8 kfx0_8 klx0_8
  obtain ⟨kcBaV_9, kfBaV_9⟩ := KBaV_9.out.rules
  have klBaV_9 := KBaV_9.out.lt
  obtain ⟨kcx0_9, kfx0_9⟩ := Kx0_9.out.rules
  have klx0_9 := Kx0_9.out.lt
  clear hb9 NB9 NC9
  have hr9_0 : 0 ≤ r9 := by omega
  have HR9 := Lib.hid hr9
  clear hr9
  have D5_9 := Lib.hid ((D5.out.below BB5_8.out).chg NCk9 (fun g hg hT => by have h1 := LB5.out _ hg; have h2 := UB4.out _ hT; omega))
  clear D5
  have D5 := D5_9
  clear D5_9
  clear NCk9
  have D4m := Lib.hid o9
  clear o9
  go_wp2_with fail
  refine (eqIntS_calls z0 _ _ _ (D5.out.rdw.below (Below.refl _ _)) (D3.out.below BB3_9.out)).mono ?_
  rintro e w10 ⟨rfl, hb10⟩
  have NB10 : Below w9.heap.size w9 w10 := hb10
  have BB0_10 := Lib.hid (BB0_9.out.trans (NB10.mono BB0_9.out.size))
  have BB2_10 := Lib.hid (BB2_9.out.trans (NB10.mono BB2_9.out.size))
  have BB3_10 := Lib.hid (BB3_9.out.trans (NB10.mono BB3_9.out.size))
  have BB9_10 := Lib.hid (NB10)
  have sz10 : w9.heap.size ≤ w10.heap.size := by have h := hb10.size; (try simp only [size_alloc] at h); omega
  have KBaV_10 : Hid (Blk w10 (w.heap.size) 27 #[.int .i64 aV.Id, v1aV, v2aV, v3aV, v4aV]) := Lib.hid (KBaV_9.out.below hb10)
  have Kx0_10 : Hid (Blk w10 (w4.heap.size) 36 #[.int .i64 aV.Id, .slice A1_4 (aV.Entities).length c1_4, .slice A2_4 (aV.Loop).length c2_4, .slice A3_4 (aV.Links).length c3_4, .slice A4_4 (aV.Out).length c4_4]) := Lib.hid (Kx0_9.out.below hb10)
  clear kcBaV_9 kfBaV_9 klBaV_9 kcx0_9 kfx0_9 klx0_9
  obtain ⟨kcBaV_10, kfBaV_10⟩ := KBaV_10.out.rules
  have klBaV_10 := KBaV_10.out.lt
  obtain ⟨kcx0_10, kfx0_10⟩ := Kx0_10.out.rules
  have klx0_10 := Kx0_10.out.lt
  clear hb10 NB10
  have HC5 : Hid (cntL (z0.flatMap eInt) ≤ 1099511627776) := Lib.hid (by rw [HZ0.out]; exact (by rw [cntf_eInt]; have h1 := canReach_len aV aPeer; have h2 := hszaV; rw [siz_eVat] at h2; omega))
  go_wp2_with fail
  refine (markIntS_calls z0 _ _ fp5 _ (D5.out.below BB9_10.out) ND5.out (by omega) (by have := HC5.out; omega)).mono ?_
  rintro e w11 ⟨r11, rfl, hr11, o11, hb11⟩
  have NC11 := hb11
  have NB11 := NC11.size
  have BB0_11 := Lib.hid (below_chg BB0_10.out NC11 BB0_10.out.size (fun i hi => by have := LB5.out _ hi; omega))
  have BB2_11 := Lib.hid (below_chg BB2_10.out NC11 BB2_10.out.size (fun i hi => by have := LB5.out _ hi; omega))
  have BB3_11 := Lib.hid (below_chg BB3_10.out NC11 BB3_10.out.size (fun i hi => by have := LB5.out _ hi; omega))
  have NCk11 := NC11
  have sz11 : w10.heap.size ≤ w11.heap.size := by have h := hb11.size; (try simp only [size_alloc] at h); omega
  have KBaV_11 : Hid (Blk w11 (w.heap.size) 27 #[.int .i64 aV.Id, v1aV, v2aV, v3aV, v4aV]) := Lib.hid (KBaV_10.out.chg hb11 (fun h => by have h1 := LB5.out _ h; have h2 := UB5.out _ h; omega))
  have Kx0_11 : Hid (Blk w11 (w4.heap.size) 36 #[.int .i64 aV.Id, .slice A1_4 (aV.Entities).length c1_4, .slice A2_4 (aV.Loop).length c2_4, .slice A3_4 (aV.Links).length c3_4, .slice A4_4 (aV.Out).length c4_4]) := Lib.hid (Kx0_10.out.chg hb11 (fun h => by have h1 := LB5.out _ h; have h2 := UB5.out _ h; omega))
  clear kcBaV_10 kfBaV_10 klBaV_10 kcx0_10 kfx0_10 klx0_10
  obtain ⟨kcBaV_11, kfBaV_11⟩ := KBaV_11.out.rules
  have klBaV_11 := KBaV_11.out.lt
  obtain ⟨kcx0_11, kfx0_11⟩ := Kx0_11.out.rules
  have klx0_11 := Kx0_11.out.lt
  clear hb11 NB11 NC11
  have hr11_0 : 0 ≤ r11 := by omega
  have HR11 := Lib.hid hr11
  clear hr11
  clear NCk11
  have D5m := Lib.hid o11
  clear o11
  go_wp2_with fail
  refine (heldIntS_calls z0 _ _ _ (D5m.out.rdw.below (Below.refl _ _)) (by omega) (by have := HC5.out; omega)).mono ?_
  rintro e w12 ⟨rr, rfl, hrr, hb12⟩
  have NB12 : Below w11.heap.size w11 w12 := hb12
  have BB0_12 := Lib.hid (BB0_11.out.trans (NB12.mono BB0_11.out.size))
  have BB2_12 := Lib.hid (BB2_11.out.trans (NB12.mono BB2_11.out.size))
  have BB3_12 := Lib.hid (BB3_11.out.trans (NB12.mono BB3_11.out.size))
  have BB11_12 := Lib.hid (NB12)
  have sz12 : w11.heap.size ≤ w12.heap.size := by have h := hb12.size; (try simp only [size_alloc] at h); omega
  have KBaV_12 : Hid (Blk w12 (w.heap.size) 27 #[.int .i64 aV.Id, v1aV, v2aV, v3aV, v4aV]) := Lib.hid (KBaV_11.out.below hb12)
  have Kx0_12 : Hid (Blk w12 (w4.heap.size) 36 #[.int .i64 aV.Id, .slice A1_4 (aV.Entities).length c1_4, .slice A2_4 (aV.Loop).length c2_4, .slice A3_4 (aV.Links).length c3_4, .slice A4_4 (aV.Out).length c4_4]) := Lib.hid (Kx0_11.out.below hb12)
  clear kcBaV_11 kfBaV_11 klBaV_11 kcx0_11 kfx0_11 klx0_11
  obtain ⟨kcBaV_12, kfBaV_12⟩ := KBaV_12.out.rules
  have klBaV_12 := KBaV_12.out.lt
  obtain ⟨kcx0_12, kfx0_12⟩ := Kx0_12.out.rules
  have klx0_12 := Kx0_12.out.lt
  clear hb12 NB12
  obtain rfl : r11 = rr := HR11.out.trans hrr.symm
  clear hrr
  go_wp2_with fail
  refine (toVat_calls _ aV _ (ARaV.out.below BB0_12.out) (by omega)).mono ?_
  rintro e w13 ⟨u13, fp13, rfl, o13, f13, hb13⟩
  have NB13 : Below w12.heap.size w12 w13 := hb13
  have BB0_13 := Lib.hid (BB0_12.out.trans (NB13.mono BB0_12.out.size))
  have BB2_13 := Lib.hid (BB2_12.out.trans (NB13.mono BB2_12.out.size))
  have BB3_13 := Lib.hid (BB3_12.out.trans (NB13.mono BB3_12.out.size))
  have BB11_13 := Lib.hid (BB11_12.out.trans (NB13.mono BB11_12.out.size))
  have sz13 : w12.heap.size ≤ w13.heap.size := by have h := hb13.size; (try simp only [size_alloc] at h); omega
  have KBaV_13 : Hid (Blk w13 (w.heap.size) 27 #[.int .i64 aV.Id, v1aV, v2aV, v3aV, v4aV]) := Lib.hid (KBaV_12.out.below hb13)
  have Kx0_13 : Hid (Blk w13 (w4.heap.size) 36 #[.int .i64 aV.Id, .slice A1_4 (aV.Entities).length c1_4, .slice A2_4 (aV.Loop).length c2_4, .slice A3_4 (aV.Links).length c3_4, .slice A4_4 (aV.Out).length c4_4]) := Lib.hid (Kx0_12.out.below hb13)
  clear kcBaV_12 kfBaV_12 klBaV_12 kcx0_12 kfx0_12 klx0_12
  obtain ⟨kcBaV_13, kfBaV_13⟩ := KBaV_13.out.rules
  have klBaV_13 := KBaV_13.out.lt
  obtain ⟨kcx0_13, kfx0_13⟩ := Kx0_13.out.rules
  have klx0_13 := Kx0_13.out.lt
  clear hb13 NB13
  have LB13 : Hid (∀ g, g ∈ fp13 → w12.heap.size ≤ g) := Lib.hid (fun g hg => by have h := f13.2 g hg; (try simp only [size_alloc] at h); omega)
  have UB13 : Hid (∀ g, g ∈ fp13 → g < w13.heap.size) := Lib.hid (OwnL.lt _ _ _ o13)
  have ND13 := Lib.hid f13.1
  clear f13
  have D13 := Lib.hid o13
  clear o13
  go_wp2_with fail
  refine (impl_CanReach_calls _ aV aPeer _ (D13.out.rdw.below (Below.refl _ _)) (by omega) haPeer).mono ?_
  rintro e w14 ⟨u14, fp14, rfl, o14, f14, hb14⟩
  have NB14 : Below w13.heap.size w13 w14 := hb14
  have BB0_14 := Lib.hid (BB0_13.out.trans (NB14.mono BB0_13.out.size))
  have BB2_14 := Lib.hid (BB2_13.out.trans (NB14.mono BB2_13.out.size))
  have BB3_14 := Lib.hid (BB3_13.out.trans (NB14.mono BB3_13.out.size))
  have BB11_14 := Lib.hid (BB11_13.out.trans (NB14.mono BB11_13.out.size))
  have BB13_14 := Lib.hid (NB14)
  have sz14 : w13.heap.size ≤ w14.heap.size := by have h := hb14.size; (try simp only [size_alloc] at h); omega
  have KBaV_14 : Hid (Blk w14 (w.heap.size) 27 #[.int .i64 aV.Id, v1aV, v2aV, v3aV, v4aV]) := Lib.hid (KBaV_13.out.below hb14)
  have Kx0_14 : Hid (Blk w14 (w4.heap.size) 36 #[.int .i64 aV.Id, .slice A1_4 (aV.Entities).length c1_4, .slice A2_4 (aV.Loop).length c2_4, .slice A3_4 (aV.Links).length c3_4, .slice A4_4 (aV.Out).length c4_4]) := Lib.hid (Kx0_13.out.below hb14)
  clear kcBaV_13 kfBaV_13 klBaV_13 kcx0_13 kfx0_13 klx0_13
  obtain ⟨kcBaV_14, kfBaV_14⟩ := KBaV_14.out.rules
  have klBaV_14 := KBaV_14.out.lt
  obtain ⟨kcx0_14, kfx0_14⟩ := Kx0_14.out.rules
  have klx0_14 := Kx0_14.out.lt
  clear hb14 NB14
  rw [← HZ0.out] at o14
  have LB14 : Hid (∀ g, g ∈ fp14 → w13.heap.size ≤ g) := Lib.hid (fun g hg => by have h := f14.2 g hg; (try simp only [size_alloc] at h); omega)
  have UB14 : Hid (∀ g, g ∈ fp14 → g < w14.heap.size) := Lib.hid (Own.lt _ _ _ o14)
  have ND14 := Lib.hid f14.1
  clear f14
  have D14 := Lib.hid o14
  clear o14
  go_wp2_with fail
  refine (eqIntS_calls z0 _ _ _ (D14.out.rdw.below (Below.refl _ _)) (D3.out.below BB3_14.out)).mono ?_
  rintro e w15 ⟨rfl, hb15⟩
  have NB15 : Below w14.heap.size w14 w15 := hb15
  have BB0_15 := Lib.hid (BB0_14.out.trans (NB15.mono BB0_14.out.size))
  have BB2_15 := Lib.hid (BB2_14.out.trans (NB15.mono BB2_14.out.size))
  have BB3_15 := Lib.hid (BB3_14.out.trans (NB15.mono BB3_14.out.size))
  have BB11_15 := Lib.hid (BB11_14.out.trans (NB15.mono BB11_14.out.size))
  have BB13_15 := Lib.hid (BB13_14.out.trans (NB15.mono BB13_14.out.size))
  have BB14_15 := Lib.hid (NB15)
  have sz15 : w14.heap.size ≤ w15.heap.size := by have h := hb15.size; (try simp only [size_alloc] at h); omega
  have KBaV_15 : Hid (Blk w15 (w.heap.size) 27 #[.int .i64 aV.Id, v1aV, v2aV, v3aV, v4aV]) := Lib.hid (KBaV_14.out.below hb15)
  have Kx0_15 : Hid (Blk w15 (w4.heap.size) 36 #[.int .i64 aV.Id, .slice A1_4 (aV.Entities).length c1_4, .slice A2_4 (aV.Loop).length c2_4, .slice A3_4 (aV.Links).length c3_4, .slice A4_4 (aV.Out).length c4_4]) := Lib.hid (Kx0_14.out.below hb15)
  clear kcBaV_14 kfBaV_14 klBaV_14 kcx0_14 kfx0_14 klx0_14
  obtain ⟨kcBaV_15, kfBaV_15⟩ := KBaV_15.out.rules
  have klBaV_15 := KBaV_15.out.lt
  obtain ⟨kcx0_15, kfx0_15⟩ := Kx0_15.out.rules
  have klx0_15 := Kx0_15.out.lt
  clear hb15 NB15
  go_wp2_with fail
  refine (heldIntS_calls z0 _ _ _ (D5m.out.rdw.below BB11_15.out) (by omega) (by have := HC5.out; omega)).mono ?_
  rintro e w16 ⟨rr, rfl, hrr, hb16⟩
  have NB16 : Below w15.heap.size w15 w16 := hb16
  have BB0_16 := Lib.hid (BB0_15.out.trans (NB16.mono BB0_15.out.size))
  have BB2_16 := Lib.hid (BB2_15.out.trans (NB16.mono BB2_15.out.size))
  have BB3_16 := Lib.hid (BB3_15.out.trans (NB16.mono BB3_15.out.size))
  have BB11_16 := Lib.hid (BB11_15.out.trans (NB16.mono BB11_15.out.size))
  have BB13_16 := Lib.hid (BB13_15.out.trans (NB16.mono BB13_15.out.size))
  have BB14_16 := Lib.hid (BB14_15.out.trans (NB16.mono BB14_15.out.size))
  have sz16 : w15.heap.size ≤ w16.heap.size := by have h := hb16.size; (try simp only [size_alloc] at h); omega
  have KBaV_16 : Hid (Blk w16 (w.heap.size) 27 #[.int .i64 aV.Id, v1aV, v2aV, v3aV, v4aV]) := Lib.hid (KBaV_15.out.below hb16)
  have Kx0_16 : Hid (Blk w16 (w4.heap.size) 36 #[.int .i64 aV.Id, .slice A1_4 (aV.Entities).length c1_4, .slice A2_4 (aV.Loop).length c2_4, .slice A3_4 (aV.Links).length c3_4, .slice A4_4 (aV.Out).length c4_4]) := Lib.hid (Kx0_15.out.below hb16)
  clear kcBaV_15 kfBaV_15 klBaV_15 kcx0_15 kfx0_15 klx0_15
  obtain ⟨kcBaV_16, kfBaV_16⟩ := KBaV_16.out.rules
  have klBaV_16 := KBaV_16.out.lt
  obtain ⟨kcx0_16, kfx0_16⟩ := Kx0_16.out.rules
  have klx0_16 := Kx0_16.out.lt
  clear hb16 NB16
  obtain rfl : r11 = rr := HR11.out.trans hrr.symm
  clear hrr
  go_wp2
  go_ret
  exact ⟨rfl, BB0_16.out⟩

end Go.Proofs.YtmnpoajdibmocaaGreat
