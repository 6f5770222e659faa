import Derived.Test.YtapbejepffpckaaProg
import Derived.Test.YtapbejepffpckaaTypes
import Derived.StillTailTactics
import Derived.Deep.RegionHeld3
import Derived.Laws.IdiomStrings
import Derived.Test.YtapbejepffpckaaAppend
import Derived.Laws.StructEq
import Derived.Lib.SliceRun
import Derived.Shelf.RegionOpenPlain
import Derived.Test.YtapbejepffpckaaHelpM
import Derived.Test.YtapbejepffpckaaVat
import Derived.Test.YtapbejepffpckaaVat2
namespace Go.Proofs.Ytapbejepffpckaa
open Go.RowKit
set_option linter.unusedVariables false
set_option linter.unusedSimpArgs false

set_option maxHeartbeats 800000 in
set_option maxRecDepth 100000 in
theorem FnExactResultOf_calls (w : World) (usaV : List Value) (aV : GVat) (raV : RdLW w (eVat aV) usaV) (taV : StrOkL (eVat aV)) (aP : Int) (haP : I64 aP) :
    Calls Try.prog 9 #[.agg usaV.toArray, .int .i64 aP] w fun e w' => e = .returned (.bool true) ∧ Below w.heap.size w w' := by
  have ARaV := Lib.hid raV
  obtain ⟨v1aV, v2aV, v3aV, v4aV, rfl, -, -, -, -⟩ := rd_eVat raV
  clear raV
  have TSaV := Lib.hid taV
  clear taV
  go_enter Try.func9, Try.ntmps9
  go_wp2_with fail
  refine (szVat_calls _ aV _ _ (ARaV.out.below ((Below.refl _ _).alloc (Nat.le_refl _) _)) TSaV.out (by omega) (by omega)).mono ?_
  rintro e w1 ⟨r1, rfl, hr1, hb1⟩
  have NB1 : Below w.heap.size w w1 := (((Below.refl _ _).alloc (Nat.le_refl _) _)).trans (hb1.mono (by (try simp only [size_alloc]); omega))
  have BB0_1 := Lib.hid (NB1)
  have sz1 : w.heap.size + 1 ≤ w1.heap.size := by have h := hb1.size; (try simp only [size_alloc] at h); omega
  have KBaV_1 : Hid (Blk w1 (w.heap.size) 27 #[.int .i64 aV.Id, v1aV, v2aV, v3aV, v4aV]) := Lib.hid ((Blk.made rfl).below hb1)
  obtain ⟨kcBaV_1, kfBaV_1⟩ := KBaV_1.out.rules
  have klBaV_1 := KBaV_1.out.lt
  clear hb1 NB1
  rcases hr1 with rfl | ⟨hr1, hr1_0⟩
  · go_wp2
    go_ret
    exact ⟨rfl, BB0_1.out⟩
  have hszaV : sizL (eVat aV) ≤ 1048576 := by omega
  have hr1_9 : r1 ≤ 1048576 := by omega
  clear hr1
  go_wp2_with fail
  refine (toVat_calls _ aV _ (ARaV.out.below BB0_1.out) (by omega)).mono ?_
  rintro e w2 ⟨u2, fp2, rfl, o2, f2, hb2⟩
  have NB2 : Below w1.heap.size w1 w2 := hb2
  have BB0_2 := Lib.hid (BB0_1.out.trans (NB2.mono BB0_1.out.size))
  have sz2 : w1.heap.size ≤ w2.heap.size := by have h := hb2.size; (try simp only [size_alloc] at h); omega
  have KBaV_2 : Hid (Blk w2 (w.heap.size) 27 #[.int .i64 aV.Id, v1aV, v2aV, v3aV, v4aV]) := Lib.hid (KBaV_1.out.below hb2)
  clear kcBaV_1 kfBaV_1 klBaV_1
  obtain ⟨kcBaV_2, kfBaV_2⟩ := KBaV_2.out.rules
  have klBaV_2 := KBaV_2.out.lt
  clear hb2 NB2
  have LB2 : Hid (∀ g, g ∈ fp2 → w1.heap.size ≤ g) := Lib.hid (fun g hg => by have h := f2.2 g hg; (try simp only [size_alloc] at h); omega)
  have UB2 : Hid (∀ g, g ∈ fp2 → g < w2.heap.size) := Lib.hid (OwnL.lt _ _ _ o2)
  have ND2 := Lib.hid f2.1
  clear f2
  have D2 := Lib.hid o2
  clear o2
  obtain ⟨z0, hz0⟩ : ∃ z, z = (resultOf aV aP) := ⟨_, rfl⟩
  have HZ0 := Lib.hid hz0
  clear hz0
  go_wp2_with fail
  refine (spec_ResultOf_calls _ aV aP _ (D2.out.rdw.below (Below.refl _ _)) (by omega) haP).mono ?_
  rintro e w3 ⟨u3, rfl, o3, hb3⟩
  have NB3 : Below w2.heap.size w2 w3 := hb3
  have BB0_3 := Lib.hid (BB0_2.out.trans (NB3.mono BB0_2.out.size))
  have BB2_3 := Lib.hid (NB3)
  have sz3 : w2.heap.size ≤ w3.heap.size := by have h := hb3.size; (try simp only [size_alloc] at h); omega
  have KBaV_3 : Hid (Blk w3 (w.heap.size) 27 #[.int .i64 aV.Id, v1aV, v2aV, v3aV, v4aV]) := Lib.hid (KBaV_2.out.below hb3)
  clear kcBaV_2 kfBaV_2 klBaV_2
  obtain ⟨kcBaV_3, kfBaV_3⟩ := KBaV_3.out.rules
  have klBaV_3 := KBaV_3.out.lt
  clear hb3 NB3
  rw [← HZ0.out] at o3
  obtain rfl := rd_eValue o3
  have D3 := Lib.hid o3
  clear o3
  go_wp2_with fail
  refine (toVat_calls _ aV _ (ARaV.out.below (BB0_3.out.alloc (by (try simp only [size_alloc]); omega) _)) (by omega)).mono ?_
  rintro e w4 ⟨u4, fp4, rfl, o4, f4, hb4⟩
  have NB4 : Below w3.heap.size w3 w4 := (((Below.refl _ _).alloc (Nat.le_refl _) _)).trans (hb4.mono (by (try simp only [size_alloc]); omega))
  have BB0_4 := Lib.hid (BB0_3.out.trans (NB4.mono BB0_3.out.size))
  have BB2_4 := Lib.hid (BB2_3.out.trans (NB4.mono BB2_3.out.size))
  have BB3_4 := Lib.hid (NB4)
  have sz4 : w3.heap.size + 1 ≤ w4.heap.size := by have h := hb4.size; (try simp only [size_alloc] at h); omega
  have KBaV_4 : Hid (Blk w4 (w.heap.size) 27 #[.int .i64 aV.Id, v1aV, v2aV, v3aV, v4aV]) := Lib.hid ((KBaV_3.out.alloc _).below hb4)
  have Kw0_4 : Hid (Blk w4 (w3.heap.size) 46 #[.int .i64 z0.Kind, .int .i64 z0.N]) := Lib.hid ((Blk.made rfl).below hb4)
  clear kcBaV_3 kfBaV_3 klBaV_3
  obtain ⟨kcBaV_4, kfBaV_4⟩ := KBaV_4.out.rules
  have klBaV_4 := KBaV_4.out.lt
  obtain ⟨kcw0_4, kfw0_4⟩ := Kw0_4.out.rules
  have klw0_4 := Kw0_4.out.lt
  clear hb4 NB4
  obtain ⟨v1_4, f1_4, v2_4, f2_4, v3_4, f3_4, v4_4, f4_4, rfl, -, q1_4, q2_4, q3_4, q4_4⟩ := own_eVat o4
  obtain ⟨A1_4, c1_4, rfl, -⟩ := q1_4.slice
  obtain ⟨A2_4, c2_4, rfl, -⟩ := q2_4.slice
  obtain ⟨A3_4, c3_4, rfl, -⟩ := q3_4.slice
  obtain ⟨A4_4, c4_4, rfl, -⟩ := q4_4.slice
  clear q1_4 q2_4 q3_4 q4_4
  have LB4 : Hid (∀ g, g ∈ fp4 → w3.heap.size + 1 ≤ g) := Lib.hid (fun g hg => by have h := f4.2 g hg; (try simp only [size_alloc] at h); omega)
  have UB4 : Hid (∀ g, g ∈ fp4 → g < w4.heap.size) := Lib.hid (OwnL.lt _ _ _ o4)
  have ND4 := Lib.hid f4.1
  clear f4
  have D4 := Lib.hid o4
  clear o4
  go_wp2_with fail
  refine (impl_ResultOf_calls _ aV aP _ (D4.out.rdw.below ((Below.refl _ _).alloc (Nat.le_refl _) _)) (by omega) haP).mono ?_
  rintro e w5 ⟨u5, fp5, rfl, o5, f5, hb5⟩
  have NB5 : Below w4.heap.size w4 w5 := (((Below.refl _ _).alloc (Nat.le_refl _) _)).trans (hb5.mono (by (try simp only [size_alloc]); omega))
  have BB0_5 := Lib.hid (BB0_4.out.trans (NB5.mono BB0_4.out.size))
  have BB2_5 := Lib.hid (BB2_4.out.trans (NB5.mono BB2_4.out.size))
  have BB3_5 := Lib.hid (BB3_4.out.trans (NB5.mono BB3_4.out.size))
  have BB4_5 := Lib.hid (NB5)
  have sz5 : w4.heap.size + 1 ≤ w5.heap.size := by have h := hb5.size; (try simp only [size_alloc] at h); omega
  have KBaV_5 : Hid (Blk w5 (w.heap.size) 27 #[.int .i64 aV.Id, v1aV, v2aV, v3aV, v4aV]) := Lib.hid ((KBaV_4.out.alloc _).below hb5)
  have Kw0_5 : Hid (Blk w5 (w3.heap.size) 46 #[.int .i64 z0.Kind, .int .i64 z0.N]) := Lib.hid ((Kw0_4.out.alloc _).below hb5)
  have Kx0_5 : Hid (Blk w5 (w4.heap.size) 35 #[.int .i64 aV.Id, .slice A1_4 (aV.Entities).length c1_4, .slice A2_4 (aV.Loop).length c2_4, .slice A3_4 (aV.Links).length c3_4, .slice A4_4 (aV.Out).length c4_4]) := Lib.hid ((Blk.made rfl).below hb5)
  clear kcBaV_4 kfBaV_4 klBaV_4 kcw0_4 kfw0_4 klw0_4
  obtain ⟨kcBaV_5, kfBaV_5⟩ := KBaV_5.out.rules
  have klBaV_5 := KBaV_5.out.lt
  obtain ⟨kcw0_5, kfw0_5⟩ := Kw0_5.out.rules
  have klw0_5 := Kw0_5.out.lt
  obtain ⟨kcx0_5, kfx0_5⟩ := Kx0_5.out.rules
  have klx0_5 := Kx0_5.out.lt
  clear hb5 NB5
  rw [← HZ0.out] at o5
  obtain ⟨rfl, -⟩ := own_eValue o5
  have LB5 : Hid (∀ g, g ∈ fp5 → w4.heap.size + 1 ≤ g) := Lib.hid (fun g hg => by have h := f5.2 g hg; (try simp only [size_alloc] at h); omega)
  have UB5 : Hid (∀ g, g ∈ fp5 → g < w5.heap.size) := Lib.hid (OwnL.lt _ _ _ o5)
  have ND5 := Lib.hid f5.1
  clear f5
  have D5 := Lib.hid o5
  clear o5
  go_wp2_with fail
  refine (eqValue_calls _ _ z0 _ (D5.out.rdw.below ((Below.refl _ _).alloc (Nat.le_refl _) _)) (D3.out.below (BB3_5.out.alloc (by (try simp only [size_alloc]); omega) _))).mono ?_
  rintro e w6 ⟨rfl, hb6⟩
  have NB6 : Below w5.heap.size w5 w6 := (((Below.refl _ _).alloc (Nat.le_refl _) _)).trans (hb6.mono (by (try simp only [size_alloc]); omega))
  have BB0_6 := Lib.hid (BB0_5.out.trans (NB6.mono BB0_5.out.size))
  have BB2_6 := Lib.hid (BB2_5.out.trans (NB6.mono BB2_5.out.size))
  have BB3_6 := Lib.hid (BB3_5.out.trans (NB6.mono BB3_5.out.size))
  have BB4_6 := Lib.hid (BB4_5.out.trans (NB6.mono BB4_5.out.size))
  have BB5_6 := Lib.hid (NB6)
  have sz6 : w5.heap.size + 1 ≤ w6.heap.size := by have h := hb6.size; (try simp only [size_alloc] at h); omega
  have KBaV_6 : Hid (Blk w6 (w.heap.size) 27 #[.int .i64 aV.Id, v1aV, v2aV, v3aV, v4aV]) := Lib.hid ((KBaV_5.out.alloc _).below hb6)
  have Kw0_6 : Hid (Blk w6 (w3.heap.size) 46 #[.int .i64 z0.Kind, .int .i64 z0.N]) := Lib.hid ((Kw0_5.out.alloc _).below hb6)
  have Kx0_6 : Hid (Blk w6 (w4.heap.size) 35 #[.int .i64 aV.Id, .slice A1_4 (aV.Entities).length c1_4, .slice A2_4 (aV.Loop).length c2_4, .slice A3_4 (aV.Links).length c3_4, .slice A4_4 (aV.Out).length c4_4]) := Lib.hid ((Kx0_5.out.alloc _).below hb6)
  have Kg0_6 : Hid (Blk w6 (w5.heap.size) 46 #[.int .i64 z0.Kind, .int .i64 z0.N]) := Lib.hid ((Blk.made rfl).below hb6)
  clear kcBaV_5 kfBaV_5 klBaV_5 kcw0_5 kfw0_5 klw0_5 kcx0_5 kfx0_5 klx0_5
  obtain ⟨kcBaV_6, kfBaV_6⟩ := KBaV_6.out.rules
  have klBaV_6 := KBaV_6.out.lt
  obtain ⟨kcw0_6, kfw0_6⟩ := Kw0_6.out.rules
  have klw0_6 := Kw0_6.out.lt
  obtain ⟨kcx0_6, kfx0_6⟩ := Kx0_6.out.rules
  have klx0_6 := Kx0_6.out.lt
  obtain ⟨kcg0_6, kfg0_6⟩ := Kg0_6.out.rules
  have klg0_6 := Kg0_6.out.lt
  clear hb6 NB6
  go_wp2
  go_region_held3 (fun wq => wq.cell? ⟨w4.heap.size, 0, none⟩ = some (.int .i64 aV.Id) ∧ wq.cell? ⟨w4.heap.size, 1, none⟩ = some (.slice A1_4 (aV.Entities).length c1_4) ∧ wq.cell? ⟨w4.heap.size, 2, none⟩ = some (.slice A2_4 (aV.Loop).length c2_4) ∧ wq.cell? ⟨w4.heap.size, 3, none⟩ = some (.slice A3_4 (aV.Links).length c3_4) ∧ wq.cell? ⟨w4.heap.size, 4, none⟩ = some (.slice A4_4 (aV.Out).length c4_4) ∧ wq.cell? ⟨w.heap.size, 0, none⟩ = some (.int .i64 aV.Id) ∧ wq.cell? ⟨w.heap.size, 1, none⟩ = some (v1aV) ∧ wq.cell? ⟨w.heap.size, 2, none⟩ = some (v2aV) ∧ wq.cell? ⟨w.heap.size, 3, none⟩ = some (v3aV) ∧ wq.cell? ⟨w.heap.size, 4, none⟩ = some (v4aV))
    (first | exact ⟨kcx0_8q 0, kcx0_8q 1, kcx0_8q 2, kcx0_8q 3, kcx0_8q 4, kcBaV_8q 0, kcBaV_8q 1, kcBaV_8q 2, kcBaV_8q 3, kcBaV_8q 4⟩ | exact ⟨kcx0_7q 0, kcx0_7q 1, kcx0_7q 2, kcx0_7q 3, kcx0_7q 4, kcBaV_7q 0, kcBaV_7q 1, kcBaV_7q 2, kcBaV_7q 3, kcBaV_7q 4⟩ | exact ⟨kcx0_6 0, kcx0_6 1, kcx0_6 2, kcx0_6 3, kcx0_6 4, kcBaV_6 0, kcBaV_6 1, kcBaV_6 2, kcBaV_6 3, kcBaV_6 4⟩)
    (first
      | (have _hq := hbq7; clear _hq; go_at_call 19; refine (eqVat_calls _ _ aV _ ((D4.out.rdw.below BB4_6.out).below ((Below.refl _ _).drew.trans hbq7)) o7.rdw).mono ?_; rintro e w8 ⟨rfl, hbq8⟩; obtain ⟨kcx0_8q, kfx0_8q⟩ := ((Kx0_6.out.drew.below hbq7).below hbq8).rules; obtain ⟨kcBaV_8q, kfBaV_8q⟩ := ((KBaV_6.out.drew.below hbq7).below hbq8).rules)
      | (go_at_call 17; refine (toVat_calls _ aV _ ((ARaV.out.below BB0_6.out).below (Below.refl _ _).drew) (by omega)).mono ?_; rintro e w7 ⟨u7, fp7, rfl, o7, f7, hbq7⟩; obtain ⟨kcx0_7q, kfx0_7q⟩ := (Kx0_6.out.drew.below hbq7).rules; obtain ⟨kcBaV_7q, kfBaV_7q⟩ := (KBaV_6.out.drew.below hbq7).rules))
  clear kcx0_7q kfx0_7q kcx0_8q kfx0_8q kcBaV_7q kfBaV_7q kcBaV_8q kfBaV_8q
  have hb7 := (Below.refl w6.heap.size w6).drew.trans hbq7
  have hb8 := hbq8
  clear hbq7 hbq8 o7 f7
  have NB7 : Below w6.heap.size w6 w7 := hb7
  have BB0_7 := Lib.hid (BB0_6.out.trans (NB7.mono BB0_6.out.size))
  have BB2_7 := Lib.hid (BB2_6.out.trans (NB7.mono BB2_6.out.size))
  have BB3_7 := Lib.hid (BB3_6.out.trans (NB7.mono BB3_6.out.size))
  have BB4_7 := Lib.hid (BB4_6.out.trans (NB7.mono BB4_6.out.size))
  have BB5_7 := Lib.hid (BB5_6.out.trans (NB7.mono BB5_6.out.size))
  have sz7 : w6.heap.size ≤ w7.heap.size := by have h := hb7.size; (try simp only [size_alloc] at h); omega
  have KBaV_7 : Hid (Blk w7 (w.heap.size) 27 #[.int .i64 aV.Id, v1aV, v2aV, v3aV, v4aV]) := Lib.hid (KBaV_6.out.below hb7)
  have Kw0_7 : Hid (Blk w7 (w3.heap.size) 46 #[.int .i64 z0.Kind, .int .i64 z0.N]) := Lib.hid (Kw0_6.out.below hb7)
  have Kx0_7 : Hid (Blk w7 (w4.heap.size) 35 #[.int .i64 aV.Id, .slice A1_4 (aV.Entities).length c1_4, .slice A2_4 (aV.Loop).length c2_4, .slice A3_4 (aV.Links).length c3_4, .slice A4_4 (aV.Out).length c4_4]) := Lib.hid (Kx0_6.out.below hb7)
  have Kg0_7 : Hid (Blk w7 (w5.heap.size) 46 #[.int .i64 z0.Kind, .int .i64 z0.N]) := Lib.hid (Kg0_6.out.below hb7)
  clear kcBaV_6 kfBaV_6 klBaV_6 kcw0_6 kfw0_6 klw0_6 kcx0_6 kfx0_6 klx0_6 kcg0_6 kfg0_6 klg0_6
  obtain ⟨kcBaV_7, kfBaV_7⟩ := KBaV_7.out.rules
  have klBaV_7 := KBaV_7.out.lt
  obtain ⟨kcw0_7, kfw0_7⟩ := Kw0_7.out.rules
  have klw0_7 := Kw0_7.out.lt
  obtain ⟨kcx0_7, kfx0_7⟩ := Kx0_7.out.rules
  have klx0_7 := Kx0_7.out.lt
  obtain ⟨kcg0_7, kfg0_7⟩ := Kg0_7.out.rules
  have klg0_7 := Kg0_7.out.lt
  clear hb7 NB7
  have NB8 : Below w7.heap.size w7 w8 := hb8
  have BB0_8 := Lib.hid (BB0_7.out.trans (NB8.mono BB0_7.out.size))
  have BB2_8 := Lib.hid (BB2_7.out.trans (NB8.mono BB2_7.out.size))
  have BB3_8 := Lib.hid (BB3_7.out.trans (NB8.mono BB3_7.out.size))
  have BB4_8 := Lib.hid (BB4_7.out.trans (NB8.mono BB4_7.out.size))
  have BB5_8 := Lib.hid (BB5_7.out.trans (NB8.mono BB5_7.out.size))
  have sz8 : w7.heap.size ≤ w8.heap.size := by have h := hb8.size; (try simp only [size_alloc] at h); omega
  have KBaV_8 : Hid (Blk w8 (w.heap.size) 27 #[.int .i64 aV.Id, v1aV, v2aV, v3aV, v4aV]) := Lib.hid (KBaV_7.out.below hb8)
  have Kw0_8 : Hid (Blk w8 (w3.heap.size) 46 #[.int .i64 z0.Kind, .int .i64 z0.N]) := Lib.hid (Kw0_7.out.below hb8)
  have Kx0_8 : Hid (Blk w8 (w4.heap.size) 35 #[.int .i64 aV.Id, .slice A1_4 (aV.Entities).length c1_4, .slice A2_4 (aV.Loop).length c2_4, .slice A3_4 (aV.Links).length c3_4, .slice A4_4 (aV.Out).length c4_4]) := Lib.hid (Kx0_7.out.below hb8)
  have Kg0_8 : Hid (Blk w8 (w5.heap.size) 46 #[.int .i64 z0.Kind, .int .i64 z0.N]) := Lib.hid (Kg0_7.out.below hb8)
  clear kcBaV_7 kfBaV_7 klBaV_7 kcw0_7 kfw0_7 klw0_7 kcx0_7 kfx0_7 klx0_7 kcg0_7 kfg0_7 klg0_7
  obtain ⟨kcBaV_8, kfBaV_8⟩ := KBaV_8.out.rules
  have klBaV_8 := KBaV_8.out.lt
  obtain ⟨kcw0_8, kfw0_8⟩ := Kw0_8.out.rules
  have klw0_8 := Kw0_8.out.lt
  obtain ⟨kcx0_8, kfx0_8⟩ := Kx0_8.out.rules
  have klx0_8 := Kx0_8.out.lt
  obtain ⟨kcg0_8, kfg0_8⟩ := Kg0_8.out.rules
  have klg0_8 := Kg0_8.out.lt
  clear hb8 NB8
  go_wp2
  go_ret
  exact ⟨rfl, BB0_8.out⟩

end Go.Proofs.Ytapbejepffpckaa
