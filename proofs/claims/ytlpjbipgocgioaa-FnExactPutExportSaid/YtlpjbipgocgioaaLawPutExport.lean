import Derived.Test.YtlpjbipgocgioaaProg
import Derived.Test.YtlpjbipgocgioaaTypes
import Derived.StillTailTactics
import Derived.Deep.RegionHeld3
import Derived.Laws.IdiomStrings
import Derived.Test.YtlpjbipgocgioaaAppend
import Derived.Laws.StructEq
import Derived.Lib.SliceRun
import Derived.Shelf.RegionOpenPlain
import Derived.Test.YtlpjbipgocgioaaLink
import Derived.Test.YtlpjbipgocgioaaPut
import Derived.Test.YtlpjbipgocgioaaPutS
namespace Go.Proofs.Ytlpjbipgocgioaa
open Go.RowKit
set_option linter.unusedVariables false
set_option linter.unusedSimpArgs false

set_option maxHeartbeats 800000 in
set_option maxRecDepth 100000 in
theorem FnExactPutExport_calls (w : World) (usaL : List Value) (aL : GLink) (raL : RdLW w (eLink aL) usaL) (aEntity : Int) (haEntity : I64 aEntity) :
    Calls Try.prog 4 #[.agg usaL.toArray, .int .i64 aEntity] w fun e w' => e = .returned (.bool true) ∧ Below w.heap.size w w' := by
  have ARaL := Lib.hid raL
  obtain ⟨v2aL, v4aL, v6aL, rfl, -, -, -⟩ := rd_eLink raL
  clear raL
  go_enter Try.func4, Try.ntmps4
  go_wp2_with fail
  refine (szLink_calls _ aL _ _ (ARaL.out.below ((Below.refl _ _).alloc (Nat.le_refl _) _)) (by omega) (by omega)).mono ?_
  rintro e w1 ⟨r1, rfl, hr1, hb1⟩
  have NB1 : Below w.heap.size w w1 := (((Below.refl _ _).alloc (Nat.le_refl _) _)).trans (hb1.mono (by (try simp only [size_alloc]); omega))
  have BB0_1 := Lib.hid (NB1)
  have sz1 : w.heap.size + 1 ≤ w1.heap.size := by have h := hb1.size; (try simp only [size_alloc] at h); omega
  have KBaL_1 : Hid (Blk w1 (w.heap.size) 25 #[.int .i64 aL.Peer, .bool aL.Up, v2aL, .int .i64 aL.Next, v4aL, .int .i64 aL.Asked, v6aL]) := Lib.hid ((Blk.made rfl).below hb1)
  obtain ⟨kcBaL_1, kfBaL_1⟩ := KBaL_1.out.rules
  have klBaL_1 := KBaL_1.out.lt
  clear hb1 NB1
  rcases hr1 with rfl | ⟨hr1, hr1_0⟩
  · go_wp2
    go_ret
    exact ⟨rfl, BB0_1.out⟩
  have hszaL : sizL (eLink aL) ≤ 1048576 := by omega
  have hr1_9 : r1 ≤ 1048576 := by omega
  clear hr1
  go_wp2_with fail
  refine (toLink_calls _ aL _ (ARaL.out.below BB0_1.out) (by omega)).mono ?_
  rintro e w2 ⟨u2, fp2, rfl, o2, f2, hb2⟩
  have NB2 : Below w1.heap.size w1 w2 := hb2
  have BB0_2 := Lib.hid (BB0_1.out.trans (NB2.mono BB0_1.out.size))
  have sz2 : w1.heap.size ≤ w2.heap.size := by have h := hb2.size; (try simp only [size_alloc] at h); omega
  have KBaL_2 : Hid (Blk w2 (w.heap.size) 25 #[.int .i64 aL.Peer, .bool aL.Up, v2aL, .int .i64 aL.Next, v4aL, .int .i64 aL.Asked, v6aL]) := Lib.hid (KBaL_1.out.below hb2)
  clear kcBaL_1 kfBaL_1 klBaL_1
  obtain ⟨kcBaL_2, kfBaL_2⟩ := KBaL_2.out.rules
  have klBaL_2 := KBaL_2.out.lt
  clear hb2 NB2
  have LB2 : Hid (∀ g, g ∈ fp2 → w1.heap.size ≤ g) := Lib.hid (fun g hg => by have h := f2.2 g hg; (try simp only [size_alloc] at h); omega)
  have UB2 : Hid (∀ g, g ∈ fp2 → g < w2.heap.size) := Lib.hid (OwnL.lt _ _ _ o2)
  have ND2 := Lib.hid f2.1
  clear f2
  have D2 := Lib.hid o2
  clear o2
  obtain ⟨z0, hz0⟩ : ∃ z, z = (putExport1 aL aEntity) := ⟨_, rfl⟩
  have HZ0 := Lib.hid hz0
  clear hz0
  go_wp2_with fail
  refine (spec_PutExport_calls _ aL aEntity _ (D2.out.rdw.below (Below.refl _ _)) (by omega) haEntity).mono ?_
  rintro e w3 ⟨u3, rfl, o3, hb3⟩
  have NB3 : Below w2.heap.size w2 w3 := hb3
  have BB0_3 := Lib.hid (BB0_2.out.trans (NB3.mono BB0_2.out.size))
  have BB2_3 := Lib.hid (NB3)
  have sz3 : w2.heap.size ≤ w3.heap.size := by have h := hb3.size; (try simp only [size_alloc] at h); omega
  have KBaL_3 : Hid (Blk w3 (w.heap.size) 25 #[.int .i64 aL.Peer, .bool aL.Up, v2aL, .int .i64 aL.Next, v4aL, .int .i64 aL.Asked, v6aL]) := Lib.hid (KBaL_2.out.below hb3)
  clear kcBaL_2 kfBaL_2 klBaL_2
  obtain ⟨kcBaL_3, kfBaL_3⟩ := KBaL_3.out.rules
  have klBaL_3 := KBaL_3.out.lt
  clear hb3 NB3
  rw [← HZ0.out] at o3
  obtain ⟨v2_3, v4_3, v6_3, rfl, q2_3, q4_3, q6_3⟩ := rd_eLink o3
  obtain ⟨A2_3, c2_3, rfl, -⟩ := q2_3.slice
  obtain ⟨A4_3, c4_3, rfl, -⟩ := q4_3.slice
  obtain ⟨A6_3, c6_3, rfl, -⟩ := q6_3.slice
  clear q2_3 q4_3 q6_3
  have D3 := Lib.hid o3
  clear o3
  go_wp2_with fail
  refine (toLink_calls _ aL _ (ARaL.out.below (BB0_3.out.alloc (by (try simp only [size_alloc]); omega) _)) (by omega)).mono ?_
  rintro e w4 ⟨u4, fp4, rfl, o4, f4, hb4⟩
  have NB4 : Below w3.heap.size w3 w4 := (((Below.refl _ _).alloc (Nat.le_refl _) _)).trans (hb4.mono (by (try simp only [size_alloc]); omega))
  have BB0_4 := Lib.hid (BB0_3.out.trans (NB4.mono BB0_3.out.size))
  have BB2_4 := Lib.hid (BB2_3.out.trans (NB4.mono BB2_3.out.size))
  have BB3_4 := Lib.hid (NB4)
  have sz4 : w3.heap.size + 1 ≤ w4.heap.size := by have h := hb4.size; (try simp only [size_alloc] at h); omega
  have KBaL_4 : Hid (Blk w4 (w.heap.size) 25 #[.int .i64 aL.Peer, .bool aL.Up, v2aL, .int .i64 aL.Next, v4aL, .int .i64 aL.Asked, v6aL]) := Lib.hid ((KBaL_3.out.alloc _).below hb4)
  have Kw0_4 : Hid (Blk w4 (w3.heap.size) 30 #[.int .i64 z0.Peer, .bool z0.Up, .slice A2_3 (z0.Exports).length c2_3, .int .i64 z0.Next, .slice A4_3 (z0.Questions).length c4_3, .int .i64 z0.Asked, .slice A6_3 (z0.Answers).length c6_3]) := Lib.hid ((Blk.made rfl).below hb4)
  clear kcBaL_3 kfBaL_3 klBaL_3
  obtain ⟨kcBaL_4, kfBaL_4⟩ := KBaL_4.out.rules
  have klBaL_4 := KBaL_4.out.lt
  obtain ⟨kcw0_4, kfw0_4⟩ := Kw0_4.out.rules
  have klw0_4 := Kw0_4.out.lt
  clear hb4 NB4
  obtain ⟨v2_4, f2_4, v4_4, f4_4, v6_4, f6_4, rfl, -, q2_4, q4_4, q6_4⟩ := own_eLink o4
  obtain ⟨A2_4, c2_4, rfl, -⟩ := q2_4.slice
  obtain ⟨A4_4, c4_4, rfl, -⟩ := q4_4.slice
  obtain ⟨A6_4, c6_4, rfl, -⟩ := q6_4.slice
  clear q2_4 q4_4 q6_4
  have LB4 : Hid (∀ g, g ∈ fp4 → w3.heap.size + 1 ≤ g) := Lib.hid (fun g hg => by have h := f4.2 g hg; (try simp only [size_alloc] at h); omega)
  have UB4 : Hid (∀ g, g ∈ fp4 → g < w4.heap.size) := Lib.hid (OwnL.lt _ _ _ o4)
  have ND4 := Lib.hid f4.1
  clear f4
  have D4 := Lib.hid o4
  clear o4
  go_wp2_with fail
  refine (impl_PutExport_calls _ aL aEntity _ (D4.out.rdw.below ((Below.refl _ _).alloc (Nat.le_refl _) _)) (by omega) haEntity).mono ?_
  rintro e w5 ⟨u5, fp5, rfl, o5, f5, hb5⟩
  have NB5 : Below w4.heap.size w4 w5 := (((Below.refl _ _).alloc (Nat.le_refl _) _)).trans (hb5.mono (by (try simp only [size_alloc]); omega))
  have BB0_5 := Lib.hid (BB0_4.out.trans (NB5.mono BB0_4.out.size))
  have BB2_5 := Lib.hid (BB2_4.out.trans (NB5.mono BB2_4.out.size))
  have BB3_5 := Lib.hid (BB3_4.out.trans (NB5.mono BB3_4.out.size))
  have BB4_5 := Lib.hid (NB5)
  have sz5 : w4.heap.size + 1 ≤ w5.heap.size := by have h := hb5.size; (try simp only [size_alloc] at h); omega
  have KBaL_5 : Hid (Blk w5 (w.heap.size) 25 #[.int .i64 aL.Peer, .bool aL.Up, v2aL, .int .i64 aL.Next, v4aL, .int .i64 aL.Asked, v6aL]) := Lib.hid ((KBaL_4.out.alloc _).below hb5)
  have Kw0_5 : Hid (Blk w5 (w3.heap.size) 30 #[.int .i64 z0.Peer, .bool z0.Up, .slice A2_3 (z0.Exports).length c2_3, .int .i64 z0.Next, .slice A4_3 (z0.Questions).length c4_3, .int .i64 z0.Asked, .slice A6_3 (z0.Answers).length c6_3]) := Lib.hid ((Kw0_4.out.alloc _).below hb5)
  have Kx0_5 : Hid (Blk w5 (w4.heap.size) 30 #[.int .i64 aL.Peer, .bool aL.Up, .slice A2_4 (aL.Exports).length c2_4, .int .i64 aL.Next, .slice A4_4 (aL.Questions).length c4_4, .int .i64 aL.Asked, .slice A6_4 (aL.Answers).length c6_4]) := Lib.hid ((Blk.made rfl).below hb5)
  clear kcBaL_4 kfBaL_4 klBaL_4 kcw0_4 kfw0_4 klw0_4
  obtain ⟨kcBaL_5, kfBaL_5⟩ := KBaL_5.out.rules
  have klBaL_5 := KBaL_5.out.lt
  obtain ⟨kcw0_5, kfw0_5⟩ := Kw0_5.out.rules
  have klw0_5 := Kw0_5.out.lt
  obtain ⟨kcx0_5, kfx0_5⟩ := Kx0_5.out.rules
  have klx0_5 := Kx0_5.out.lt
  clear hb5 NB5
  rw [← HZ0.out] at o5
  obtain ⟨v2_5, f2_5, v4_5, f4_5, v6_5, f6_5, rfl, -, q2_5, q4_5, q6_5⟩ := own_eLink o5
  obtain ⟨A2_5, c2_5, rfl, -⟩ := q2_5.slice
  obtain ⟨A4_5, c4_5, rfl, -⟩ := q4_5.slice
  obtain ⟨A6_5, c6_5, rfl, -⟩ := q6_5.slice
  clear q2_5 q4_5 q6_5
  have LB5 : Hid (∀ g, g ∈ fp5 → w4.heap.size + 1 ≤ g) := Lib.hid (fun g hg => by have h := f5.2 g hg; (try simp only [size_alloc] at h); omega)
  have UB5 : Hid (∀ g, g ∈ fp5 → g < w5.heap.size) := Lib.hid (OwnL.lt _ _ _ o5)
  have ND5 := Lib.hid f5.1
  clear f5
  have D5 := Lib.hid o5
  clear o5
  go_wp2_with fail
  refine (eqLink_calls _ _ z0 _ (D5.out.rdw.below ((Below.refl _ _).alloc (Nat.le_refl _) _)) (D3.out.below (BB3_5.out.alloc (by (try simp only [size_alloc]); omega) _))).mono ?_
  rintro e w6 ⟨rfl, hb6⟩
  have NB6 : Below w5.heap.size w5 w6 := (((Below.refl _ _).alloc (Nat.le_refl _) _)).trans (hb6.mono (by (try simp only [size_alloc]); omega))
  have BB0_6 := Lib.hid (BB0_5.out.trans (NB6.mono BB0_5.out.size))
  have BB2_6 := Lib.hid (BB2_5.out.trans (NB6.mono BB2_5.out.size))
  have BB3_6 := Lib.hid (BB3_5.out.trans (NB6.mono BB3_5.out.size))
  have BB4_6 := Lib.hid (BB4_5.out.trans (NB6.mono BB4_5.out.size))
  have BB5_6 := Lib.hid (NB6)
  have sz6 : w5.heap.size + 1 ≤ w6.heap.size := by have h := hb6.size; (try simp only [size_alloc] at h); omega
  have KBaL_6 : Hid (Blk w6 (w.heap.size) 25 #[.int .i64 aL.Peer, .bool aL.Up, v2aL, .int .i64 aL.Next, v4aL, .int .i64 aL.Asked, v6aL]) := Lib.hid ((KBaL_5.out.alloc _).below hb6)
  have Kw0_6 : Hid (Blk w6 (w3.heap.size) 30 #[.int .i64 z0.Peer, .bool z0.Up, .slice A2_3 (z0.Exports).length c2_3, .int .i64 z0.Next, .slice A4_3 (z0.Questions).length c4_3, .int .i64 z0.Asked, .slice A6_3 (z0.Answers).length c6_3]) := Lib.hid ((Kw0_5.out.alloc _).below hb6)
  have Kx0_6 : Hid (Blk w6 (w4.heap.size) 30 #[.int .i64 aL.Peer, .bool aL.Up, .slice A2_4 (aL.Exports).length c2_4, .int .i64 aL.Next, .slice A4_4 (aL.Questions).length c4_4, .int .i64 aL.Asked, .slice A6_4 (aL.Answers).length c6_4]) := Lib.hid ((Kx0_5.out.alloc _).below hb6)
  have Kg0_6 : Hid (Blk w6 (w5.heap.size) 30 #[.int .i64 z0.Peer, .bool z0.Up, .slice A2_5 (z0.Exports).length c2_5, .int .i64 z0.Next, .slice A4_5 (z0.Questions).length c4_5, .int .i64 z0.Asked, .slice A6_5 (z0.Answers).length c6_5]) := Lib.hid ((Blk.made rfl).below hb6)
  clear kcBaL_5 kfBaL_5 klBaL_5 kcw0_5 kfw0_5 klw0_5 kcx0_5 kfx0_5 klx0_5
  obtain ⟨kcBaL_6, kfBaL_6⟩ := KBaL_6.out.rules
  have klBaL_6 := KBaL_6.out.lt
  obtain ⟨kcw0_6, kfw0_6⟩ := Kw0_6.out.rules
  have klw0_6 := Kw0_6.out.lt
  obtain ⟨kcx0_6, kfx0_6⟩ := Kx0_6.out.rules
  have klx0_6 := Kx0_6.out.lt
  obtain ⟨kcg0_6, kfg0_6⟩ := Kg0_6.out.rules
  have klg0_6 := Kg0_6.out.lt
  clear hb6 NB6
  go_wp2
  go_region_held3 (fun wq => wq.cell? ⟨w4.heap.size, 0, none⟩ = some (.int .i64 aL.Peer) ∧ wq.cell? ⟨w4.heap.size, 1, none⟩ = some (.bool aL.Up) ∧ wq.cell? ⟨w4.heap.size, 2, none⟩ = some (.slice A2_4 (aL.Exports).length c2_4) ∧ wq.cell? ⟨w4.heap.size, 3, none⟩ = some (.int .i64 aL.Next) ∧ wq.cell? ⟨w4.heap.size, 4, none⟩ = some (.slice A4_4 (aL.Questions).length c4_4) ∧ wq.cell? ⟨w4.heap.size, 5, none⟩ = some (.int .i64 aL.Asked) ∧ wq.cell? ⟨w4.heap.size, 6, none⟩ = some (.slice A6_4 (aL.Answers).length c6_4) ∧ wq.cell? ⟨w.heap.size, 0, none⟩ = some (.int .i64 aL.Peer) ∧ wq.cell? ⟨w.heap.size, 1, none⟩ = some (.bool aL.Up) ∧ wq.cell? ⟨w.heap.size, 2, none⟩ = some (v2aL) ∧ wq.cell? ⟨w.heap.size, 3, none⟩ = some (.int .i64 aL.Next) ∧ wq.cell? ⟨w.heap.size, 4, none⟩ = some (v4aL) ∧ wq.cell? ⟨w.heap.size, 5, none⟩ = some (.int .i64 aL.Asked) ∧ wq.cell? ⟨w.heap.size, 6, none⟩ = some (v6aL))
    (first | exact ⟨kcx0_8q 0, kcx0_8q 1, kcx0_8q 2, kcx0_8q 3, kcx0_8q 4, kcx0_8q 5, kcx0_8q 6, kcBaL_8q 0, kcBaL_8q 1, kcBaL_8q 2, kcBaL_8q 3, kcBaL_8q 4, kcBaL_8q 5, kcBaL_8q 6⟩ | exact ⟨kcx0_7q 0, kcx0_7q 1, kcx0_7q 2, kcx0_7q 3, kcx0_7q 4, kcx0_7q 5, kcx0_7q 6, kcBaL_7q 0, kcBaL_7q 1, kcBaL_7q 2, kcBaL_7q 3, kcBaL_7q 4, kcBaL_7q 5, kcBaL_7q 6⟩ | exact ⟨kcx0_6 0, kcx0_6 1, kcx0_6 2, kcx0_6 3, kcx0_6 4, kcx0_6 5, kcx0_6 6, kcBaL_6 0, kcBaL_6 1, kcBaL_6 2, kcBaL_6 3, kcBaL_6 4, kcBaL_6 5, kcBaL_6 6⟩)
    (first
      | (have _hq := hbq7; clear _hq; go_at_call 9; refine (eqLink_calls _ _ aL _ ((D4.out.rdw.below BB4_6.out).below ((Below.refl _ _).drew.trans hbq7)) o7.rdw).mono ?_; rintro e w8 ⟨rfl, hbq8⟩; obtain ⟨kcx0_8q, kfx0_8q⟩ := ((Kx0_6.out.drew.below hbq7).below hbq8).rules; obtain ⟨kcBaL_8q, kfBaL_8q⟩ := ((KBaL_6.out.drew.below hbq7).below hbq8).rules)
      | (go_at_call 7; refine (toLink_calls _ aL _ ((ARaL.out.below BB0_6.out).below (Below.refl _ _).drew) (by omega)).mono ?_; rintro e w7 ⟨u7, fp7, rfl, o7, f7, hbq7⟩; obtain ⟨kcx0_7q, kfx0_7q⟩ := (Kx0_6.out.drew.below hbq7).rules; obtain ⟨kcBaL_7q, kfBaL_7q⟩ := (KBaL_6.out.drew.below hbq7).rules))
  clear kcx0_7q kfx0_7q kcx0_8q kfx0_8q kcBaL_7q kfBaL_7q kcBaL_8q kfBaL_8q
  have hb7 := (Below.refl w6.heap.size w6).drew.trans hbq7
  have hb8 := hbq8
  clear hbq7 hbq8 o7 f7
  have NB7 : Below w6.heap.size w6 w7 := hb7
  have BB0_7 := Lib.hid (BB0_6.out.trans (NB7.mono BB0_6.out.size))
  have BB2_7 := Lib.hid (BB2_6.out.trans (NB7.mono BB2_6.out.size))
  have BB3_7 := Lib.hid (BB3_6.out.trans (NB7.mono BB3_6.out.size))
  have BB4_7 := Lib.hid (BB4_6.out.trans (NB7.mono BB4_6.out.size))
  have BB5_7 := Lib.hid (BB5_6.out.trans (NB7.mono BB5_6.out.size))
  have sz7 : w6.heap.size ≤ w7.heap.size := by have h := hb7.size; (try simp only [size_alloc] at h); omega
  have KBaL_7 : Hid (Blk w7 (w.heap.size) 25 #[.int .i64 aL.Peer, .bool aL.Up, v2aL, .int .i64 aL.Next, v4aL, .int .i64 aL.Asked, v6aL]) := Lib.hid (KBaL_6.out.below hb7)
  have Kw0_7 : Hid (Blk w7 (w3.heap.size) 30 #[.int .i64 z0.Peer, .bool z0.Up, .slice A2_3 (z0.Exports).length c2_3, .int .i64 z0.Next, .slice A4_3 (z0.Questions).length c4_3, .int .i64 z0.Asked, .slice A6_3 (z0.Answers).length c6_3]) := Lib.hid (Kw0_6.out.below hb7)
  have Kx0_7 : Hid (Blk w7 (w4.heap.size) 30 #[.int .i64 aL.Peer, .bool aL.Up, .slice A2_4 (aL.Exports).length c2_4, .int .i64 aL.Next, .slice A4_4 (aL.Questions).length c4_4, .int .i64 aL.Asked, .slice A6_4 (aL.Answers).length c6_4]) := Lib.hid (Kx0_6.out.below hb7)
  have Kg0_7 : Hid (Blk w7 (w5.heap.size) 30 #[.int .i64 z0.Peer, .bool z0.Up, .slice A2_5 (z0.Exports).length c2_5, .int .i64 z0.Next, .slice A4_5 (z0.Questions).length c4_5, .int .i64 z0.Asked, .slice A6_5 (z0.Answers).length c6_5]) := Lib.hid (Kg0_6.out.below hb7)
  clear kcBaL_6 kfBaL_6 klBaL_6 kcw0_6 kfw0_6 klw0_6 kcx0_6 kfx0_6 klx0_6 kcg0_6 kfg0_6 klg0_6
  obtain ⟨kcBaL_7, kfBaL_7⟩ := KBaL_7.out.rules
  have klBaL_7 := KBaL_7.out.lt
  obtain ⟨kcw0_7, kfw0_7⟩ := Kw0_7.out.rules
  have klw0_7 := Kw0_7.out.lt
  obtain ⟨kcx0_7, kfx0_7⟩ := Kx0_7.out.rules
  have klx0_7 := Kx0_7.out.lt
  obtain ⟨kcg0_7, kfg0_7⟩ := Kg0_7.out.rules
  have klg0_7 := Kg0_7.out.lt
  clear hb7 NB7
  have NB8 : Below w7.heap.size w7 w8 := hb8
  have BB0_8 := Lib.hid (BB0_7.out.trans (NB8.mono BB0_7.out.size))
  have BB2_8 := Lib.hid (BB2_7.out.trans (NB8.mono BB2_7.out.size))
  have BB3_8 := Lib.hid (BB3_7.out.trans (NB8.mono BB3_7.out.size))
  have BB4_8 := Lib.hid (BB4_7.out.trans (NB8.mono BB4_7.out.size))
  have BB5_8 := Lib.hid (BB5_7.out.trans (NB8.mono BB5_7.out.size))
  have sz8 : w7.heap.size ≤ w8.heap.size := by have h := hb8.size; (try simp only [size_alloc] at h); omega
  have KBaL_8 : Hid (Blk w8 (w.heap.size) 25 #[.int .i64 aL.Peer, .bool aL.Up, v2aL, .int .i64 aL.Next, v4aL, .int .i64 aL.Asked, v6aL]) := Lib.hid (KBaL_7.out.below hb8)
  have Kw0_8 : Hid (Blk w8 (w3.heap.size) 30 #[.int .i64 z0.Peer, .bool z0.Up, .slice A2_3 (z0.Exports).length c2_3, .int .i64 z0.Next, .slice A4_3 (z0.Questions).length c4_3, .int .i64 z0.Asked, .slice A6_3 (z0.Answers).length c6_3]) := Lib.hid (Kw0_7.out.below hb8)
  have Kx0_8 : Hid (Blk w8 (w4.heap.size) 30 #[.int .i64 aL.Peer, .bool aL.Up, .slice A2_4 (aL.Exports).length c2_4, .int .i64 aL.Next, .slice A4_4 (aL.Questions).length c4_4, .int .i64 aL.Asked, .slice A6_4 (aL.Answers).length c6_4]) := Lib.hid (Kx0_7.out.below hb8)
  have Kg0_8 : Hid (Blk w8 (w5.heap.size) 30 #[.int .i64 z0.Peer, .bool z0.Up, .slice A2_5 (z0.Exports).length c2_5, .int .i64 z0.Next, .slice A4_5 (z0.Questions).length c4_5, .int .i64 z0.Asked, .slice A6_5 (z0.Answers).length c6_5]) := Lib.hid (Kg0_7.out.below hb8)
  clear kcBaL_7 kfBaL_7 klBaL_7 kcw0_7 kfw0_7 klw0_7 kcx0_7 kfx0_7 klx0_7 kcg0_7 kfg0_7 klg0_7
  obtain ⟨kcBaL_8, kfBaL_8⟩ := KBaL_8.out.rules
  have klBaL_8 := KBaL_8.out.lt
  obtain ⟨kcw0_8, kfw0_8⟩ := Kw0_8.out.rules
  have klw0_8 := Kw0_8.out.lt
  obtain ⟨kcx0_8, kfx0_8⟩ := Kx0_8.out.rules
  have klx0_8 := Kx0_8.out.lt
  obtain ⟨kcg0_8, kfg0_8⟩ := Kg0_8.out.rules
  have klg0_8 := Kg0_8.out.lt
  clear hb8 NB8
  have HC4 : Hid (cntL (eLink aL) ≤ 1099511627776) := Lib.hid (by have h1 := cntL_le _ (slim_eLink aL); have h2 := len_eLink aL; omega)
  go_wp2_with fail
  refine (markLink_calls _ aL _ fp4 _ (D4.out.below BB4_8.out) ND4.out (by omega) (by have := HC4.out; have := tcnt_le (eLink aL); omega)).mono ?_
  rintro e w9 ⟨r9, rfl, hr9, o9, hb9⟩
  have NC9 := hb9
  have NB9 := NC9.size
  have BB0_9 := Lib.hid (below_chg BB0_8.out NC9 BB0_8.out.size (fun i hi => by have := LB4.out _ hi; omega))
  have BB2_9 := Lib.hid (below_chg BB2_8.out NC9 BB2_8.out.size (fun i hi => by have := LB4.out _ hi; omega))
  have BB3_9 := Lib.hid (below_chg BB3_8.out NC9 BB3_8.out.size (fun i hi => by have := LB4.out _ hi; omega))
  have NCk9 := NC9
  have sz9 : w8.heap.size ≤ w9.heap.size := by have h := hb9.size; (try simp only [size_alloc] at h); omega
  have KBaL_9 : Hid (Blk w9 (w.heap.size) 25 #[.int .i64 aL.Peer, .bool aL.Up, v2aL, .int .i64 aL.Next, v4aL, .int .i64 aL.Asked, v6aL]) := Lib.hid (KBaL_8.out.chg hb9 (fun h => by have h1 := LB4.out _ h; have h2 := UB4.out _ h; omega))
  have Kw0_9 : Hid (Blk w9 (w3.heap.size) 30 #[.int .i64 z0.Peer, .bool z0.Up, .slice A2_3 (z0.Exports).length c2_3, .int .i64 z0.Next, .slice A4_3 (z0.Questions).length c4_3, .int .i64 z0.Asked, .slice A6_3 (z0.Answers).length c6_3]) := Lib.hid (Kw0_8.out.chg hb9 (fun h => by have h1 := LB4.out _ h; have h2 := UB4.out _ h; omega))
  have Kx0_9 : Hid (Blk w9 (w4.heap.size) 30 #[.int .i64 aL.Peer, .bool aL.Up, .slice A2_4 (aL.Exports).length c2_4, .int .i64 aL.Next, .slice A4_4 (aL.Questions).length c4_4, .int .i64 aL.Asked, .slice A6_4 (aL.Answers).length c6_4]) := Lib.hid (Kx0_8.out.chg hb9 (fun h => by have h1 := LB4.out _ h; have h2 := UB4.out _ h; omega))
  have Kg0_9 : Hid (Blk w9 (w5.heap.size) 30 #[.int .i64 z0.Peer, .bool z0.Up, .slice A2_5 (z0.Exports).length c2_5, .int .i64 z0.Next, .slice A4_5 (z0.Questions).length c4_5, .int .i64 z0.Asked, .slice A6_5 (z0.Answers).length c6_5]) := Lib.hid (Kg0_8.out.chg hb9 (fun h => by have h1 := LB4.out _ h; have h2 := UB4.out _ h; omega))
  clear kcBaL_8 kfBaL_8 klBaL_8 kcw0_8 kfw0_8 klw0_8 kcx0_8 kfx0_8 klx0_8 kcg0_8 kfg0_8 klg0_8
  obtain ⟨kcBaL_9, kfBaL_9⟩ := KBaL_9.out.rules
  have klBaL_9 := KBaL_9.out.lt
  obtain ⟨kcw0_9, kfw0_9⟩ := Kw0_9.out.rules
  have klw0_9 := Kw0_9.out.lt
  obtain ⟨kcx0_9, kfx0_9⟩ := Kx0_9.out.rules
  have klx0_9 := Kx0_9.out.lt
  obtain ⟨kcg0_9, kfg0_9⟩ := Kg0_9.out.rules
  have klg0_9 := Kg0_9.out.lt
  clear hb9 NB9 NC9
  have hr9_0 : 0 ≤ r9 := by omega
  have HR9 := Lib.hid hr9
  clear hr9
  have D5_9 := Lib.hid ((D5.out.below BB5_8.out).chg NCk9 (fun g hg hT => by have h1 := LB5.out _ hg; have h2 := UB4.out _ hT; omega))
  clear D5
  have D5 := D5_9
  clear D5_9
  clear NCk9
  have D4m := Lib.hid o9
  clear o9
  go_wp2_with fail
  refine (eqLink_calls _ _ z0 _ (D5.out.rdw.below (Below.refl _ _)) (D3.out.below BB3_9.out)).mono ?_
  rintro e w10 ⟨rfl, hb10⟩
  have NB10 : Below w9.heap.size w9 w10 := hb10
  have BB0_10 := Lib.hid (BB0_9.out.trans (NB10.mono BB0_9.out.size))
  have BB2_10 := Lib.hid (BB2_9.out.trans (NB10.mono BB2_9.out.size))
  have BB3_10 := Lib.hid (BB3_9.out.trans (NB10.mono BB3_9.out.size))
  have BB9_10 := Lib.hid (NB10)
  have sz10 : w9.heap.size ≤ w10.heap.size := by have h := hb10.size; (try simp only [size_alloc] at h); omega
  have KBaL_10 : Hid (Blk w10 (w.heap.size) 25 #[.int .i64 aL.Peer, .bool aL.Up, v2aL, .int .i64 aL.Next, v4aL, .int .i64 aL.Asked, v6aL]) := Lib.hid (KBaL_9.out.below hb10)
  have Kw0_10 : Hid (Blk w10 (w3.heap.size) 30 #[.int .i64 z0.Peer, .bool z0.Up, .slice A2_3 (z0.Exports).length c2_3, .int .i64 z0.Next, .slice A4_3 (z0.Questions).length c4_3, .int .i64 z0.Asked, .slice A6_3 (z0.Answers).length c6_3]) := Lib.hid (Kw0_9.out.below hb10)
  have Kx0_10 : Hid (Blk w10 (w4.heap.size) 30 #[.int .i64 aL.Peer, .bool aL.Up, .slice A2_4 (aL.Exports).length c2_4, .int .i64 aL.Next, .slice A4_4 (aL.Questions).length c4_4, .int .i64 aL.Asked, .slice A6_4 (aL.Answers).length c6_4]) := Lib.hid (Kx0_9.out.below hb10)
  have Kg0_10 : Hid (Blk w10 (w5.heap.size) 30 #[.int .i64 z0.Peer, .bool z0.Up, .slice A2_5 (z0.Exports).length c2_5, .int .i64 z0.Next, .slice A4_5 (z0.Questions).length c4_5, .int .i64 z0.Asked, .slice A6_5 (z0.Answers).length c6_5]) := Lib.hid (Kg0_9.out.below hb10)
  clear kcBaL_9 kfBaL_9 klBaL_9 kcw0_9 kfw0_9 klw0_9 kcx0_9 kfx0_9 klx0_9 kcg0_9 kfg0_9 klg0_9
  obtain ⟨kcBaL_10, kfBaL_10⟩ := KBaL_10.out.rules
  have klBaL_10 := KBaL_10.out.lt
  obtain ⟨kcw0_10, kfw0_10⟩ := Kw0_10.out.rules
  have klw0_10 := Kw0_10.out.lt
  obtain ⟨kcx0_10, kfx0_10⟩ := Kx0_10.out.rules
  have klx0_10 := Kx0_10.out.lt
  obtain ⟨kcg0_10, kfg0_10⟩ := Kg0_10.out.rules
  have klg0_10 := Kg0_10.out.lt
  clear hb10 NB10
  have HC5 : Hid (cntL (eLink z0) ≤ 1099511627776) := Lib.hid (by rw [HZ0.out]; exact (putExport1_cnt aL aEntity hszaL))
  go_wp2_with fail
  refine (markLink_calls _ z0 _ fp5 _ (D5.out.below BB9_10.out) ND5.out (by omega) (by have := HC5.out; have := tcnt_le (eLink z0); omega)).mono ?_
  rintro e w11 ⟨r11, rfl, hr11, o11, hb11⟩
  have NC11 := hb11
  have NB11 := NC11.size
  have BB0_11 := Lib.hid (below_chg BB0_10.out NC11 BB0_10.out.size (fun i hi => by have := LB5.out _ hi; omega))
  have BB2_11 := Lib.hid (below_chg BB2_10.out NC11 BB2_10.out.size (fun i hi => by have := LB5.out _ hi; omega))
  have BB3_11 := Lib.hid (below_chg BB3_10.out NC11 BB3_10.out.size (fun i hi => by have := LB5.out _ hi; omega))
  have NCk11 := NC11
  have sz11 : w10.heap.size ≤ w11.heap.size := by have h := hb11.size; (try simp only [size_alloc] at h); omega
  have KBaL_11 : Hid (Blk w11 (w.heap.size) 25 #[.int .i64 aL.Peer, .bool aL.Up, v2aL, .int .i64 aL.Next, v4aL, .int .i64 aL.Asked, v6aL]) := Lib.hid (KBaL_10.out.chg hb11 (fun h => by have h1 := LB5.out _ h; have h2 := UB5.out _ h; omega))
  have Kw0_11 : Hid (Blk w11 (w3.heap.size) 30 #[.int .i64 z0.Peer, .bool z0.Up, .slice A2_3 (z0.Exports).length c2_3, .int .i64 z0.Next, .slice A4_3 (z0.Questions).length c4_3, .int .i64 z0.Asked, .slice A6_3 (z0.Answers).length c6_3]) := Lib.hid (Kw0_10.out.chg hb11 (fun h => by have h1 := LB5.out _ h; have h2 := UB5.out _ h; omega))
  have Kx0_11 : Hid (Blk w11 (w4.heap.size) 30 #[.int .i64 aL.Peer, .bool aL.Up, .slice A2_4 (aL.Exports).length c2_4, .int .i64 aL.Next, .slice A4_4 (aL.Questions).length c4_4, .int .i64 aL.Asked, .slice A6_4 (aL.Answers).length c6_4]) := Lib.hid (Kx0_10.out.chg hb11 (fun h => by have h1 := LB5.out _ h; have h2 := UB5.out _ h; omega))
  have Kg0_11 : Hid (Blk w11 (w5.heap.size) 30 #[.int .i64 z0.Peer, .bool z0.Up, .slice A2_5 (z0.Exports).length c2_5, .int .i64 z0.Next, .slice A4_5 (z0.Questions).length c4_5, .int .i64 z0.Asked, .slice A6_5 (z0.Answers).length c6_5]) := Lib.hid (Kg0_10.out.chg hb11 (fun h => by have h1 := LB5.out _ h; have h2 := UB5.out _ h; omega))
  clear kcBaL_10 kfBaL_10 klBaL_10 kcw0_10 kfw0_10 klw0_10 kcx0_10 kfx0_10 klx0_10 kcg0_10 kfg0_10 klg0_10
  obtain ⟨kcBaL_11, kfBaL_11⟩ := KBaL_11.out.rules
  have klBaL_11 := KBaL_11.out.lt
  obtain ⟨kcw0_11, kfw0_11⟩ := Kw0_11.out.rules
  have klw0_11 := Kw0_11.out.lt
  obtain ⟨kcx0_11, kfx0_11⟩ := Kx0_11.out.rules
  have klx0_11 := Kx0_11.out.lt
  obtain ⟨kcg0_11, kfg0_11⟩ := Kg0_11.out.rules
  have klg0_11 := Kg0_11.out.lt
  clear hb11 NB11 NC11
  have hr11_0 : 0 ≤ r11 := by omega
  have HR11 := Lib.hid hr11
  clear hr11
  clear NCk11
  have D5m := Lib.hid o11
  clear o11
  go_wp2_with fail
  refine (heldLink_calls _ z0 _ _ (D5m.out.rdw.below (Below.refl _ _)) (by omega) (by have := HC5.out; have := tcnt_le (eLink z0); omega)).mono ?_
  rintro e w12 ⟨rr, rfl, hrr, hb12⟩
  have NB12 : Below w11.heap.size w11 w12 := hb12
  have BB0_12 := Lib.hid (BB0_11.out.trans (NB12.mono BB0_11.out.size))
  have BB2_12 := Lib.hid (BB2_11.out.trans (NB12.mono BB2_11.out.size))
  have BB3_12 := Lib.hid (BB3_11.out.trans (NB12.mono BB3_11.out.size))
  have BB11_12 := Lib.hid (NB12)
  have sz12 : w11.heap.size ≤ w12.heap.size := by have h := hb12.size; (try simp only [size_alloc] at h); omega
  have KBaL_12 : Hid (Blk w12 (w.heap.size) 25 #[.int .i64 aL.Peer, .bool aL.Up, v2aL, .int .i64 aL.Next, v4aL, .int .i64 aL.Asked, v6aL]) := Lib.hid (KBaL_11.out.below hb12)
  have Kw0_12 : Hid (Blk w12 (w3.heap.size) 30 #[.int .i64 z0.Peer, .bool z0.Up, .slice A2_3 (z0.Exports).length c2_3, .int .i64 z0.Next, .slice A4_3 (z0.Questions).length c4_3, .int .i64 z0.Asked, .slice A6_3 (z0.Answers).length c6_3]) := Lib.hid (Kw0_11.out.below hb12)
  have Kx0_12 : Hid (Blk w12 (w4.heap.size) 30 #[.int .i64 aL.Peer, .bool aL.Up, .slice A2_4 (aL.Exports).length c2_4, .int .i64 aL.Next, .slice A4_4 (aL.Questions).length c4_4, .int .i64 aL.Asked, .slice A6_4 (aL.Answers).length c6_4]) := Lib.hid (Kx0_11.out.below hb12)
  have Kg0_12 : Hid (Blk w12 (w5.heap.size) 30 #[.int .i64 z0.Peer, .bool z0.Up, .slice A2_5 (z0.Exports).length c2_5, .int .i64 z0.Next, .slice A4_5 (z0.Questions).length c4_5, .int .i64 z0.Asked, .slice A6_5 (z0.Answers).length c6_5]) := Lib.hid (Kg0_11.out.below hb12)
  clear kcBaL_11 kfBaL_11 klBaL_11 kcw0_11 kfw0_11 klw0_11 kcx0_11 kfx0_11 klx0_11 kcg0_11 kfg0_11 klg0_11
  obtain ⟨kcBaL_12, kfBaL_12⟩ := KBaL_12.out.rules
  have klBaL_12 := KBaL_12.out.lt
  obtain ⟨kcw0_12, kfw0_12⟩ := Kw0_12.out.rules
  have klw0_12 := Kw0_12.out.lt
  obtain ⟨kcx0_12, kfx0_12⟩ := Kx0_12.out.rules
  have klx0_12 := Kx0_12.out.lt
  obtain ⟨kcg0_12, kfg0_12⟩ := Kg0_12.out.rules
  have klg0_12 := Kg0_12.out.lt
  clear hb12 NB12
  obtain rfl : r11 = rr := HR11.out.trans hrr.symm
  clear hrr
  go_wp2_with fail
  refine (toLink_calls _ aL _ (ARaL.out.below BB0_12.out) (by omega)).mono ?_
  rintro e w13 ⟨u13, fp13, rfl, o13, f13, hb13⟩
  have NB13 : Below w12.heap.size w12 w13 := hb13
  have BB0_13 := Lib.hid (BB0_12.out.trans (NB13.mono BB0_12.out.size))
  have BB2_13 := Lib.hid (BB2_12.out.trans (NB13.mono BB2_12.out.size))
  have BB3_13 := Lib.hid (BB3_12.out.trans (NB13.mono BB3_12.out.size))
  have BB11_13 := Lib.hid (BB11_12.out.trans (NB13.mono BB11_12.out.size))
  have sz13 : w12.heap.size ≤ w13.heap.size := by have h := hb13.size; (try simp only [size_alloc] at h); omega
  have KBaL_13 : Hid (Blk w13 (w.heap.size) 25 #[.int .i64 aL.Peer, .bool aL.Up, v2aL, .int .i64 aL.Next, v4aL, .int .i64 aL.Asked, v6aL]) := Lib.hid (KBaL_12.out.below hb13)
  have Kw0_13 : Hid (Blk w13 (w3.heap.size) 30 #[.int .i64 z0.Peer, .bool z0.Up, .slice A2_3 (z0.Exports).length c2_3, .int .i64 z0.Next, .slice A4_3 (z0.Questions).length c4_3, .int .i64 z0.Asked, .slice A6_3 (z0.Answers).length c6_3]) := Lib.hid (Kw0_12.out.below hb13)
  have Kx0_13 : Hid (Blk w13 (w4.heap.size) 30 #[.int .i64 aL.Peer, .bool aL.Up, .slice A2_4 (aL.Exports).length c2_4, .int .i64 aL.Next, .slice A4_4 (aL.Questions).length c4_4, .int .i64 aL.Asked, .slice A6_4 (aL.Answers).length c6_4]) := Lib.hid (Kx0_12.out.below hb13)
  have Kg0_13 : Hid (Blk w13 (w5.heap.size) 30 #[.int .i64 z0.Peer, .bool z0.Up, .slice A2_5 (z0.Exports).length c2_5, .int .i64 z0.Next, .slice A4_5 (z0.Questions).length c4_5, .int .i64 z0.Asked, .slice A6_5 (z0.Answers).length c6_5]) := Lib.hid (Kg0_12.out.below hb13)
  clear kcBaL_12 kfBaL_12 klBaL_12 kcw0_12 kfw0_12 klw0_12 kcx0_12 kfx0_12 klx0_12 kcg0_12 kfg0_12 klg0_12
  obtain ⟨kcBaL_13, kfBaL_13⟩ := KBaL_13.out.rules
  have klBaL_13 := KBaL_13.out.lt
  obtain ⟨kcw0_13, kfw0_13⟩ := Kw0_13.out.rules
  have klw0_13 := Kw0_13.out.lt
  obtain ⟨kcx0_13, kfx0_13⟩ := Kx0_13.out.rules
  have klx0_13 := Kx0_13.out.lt
  obtain ⟨kcg0_13, kfg0_13⟩ := Kg0_13.out.rules
  have klg0_13 := Kg0_13.out.lt
  clear hb13 NB13
  have LB13 : Hid (∀ g, g ∈ fp13 → w12.heap.size ≤ g) := Lib.hid (fun g hg => by have h := f13.2 g hg; (try simp only [size_alloc] at h); omega)
  have UB13 : Hid (∀ g, g ∈ fp13 → g < w13.heap.size) := Lib.hid (OwnL.lt _ _ _ o13)
  have ND13 := Lib.hid f13.1
  clear f13
  have D13 := Lib.hid o13
  clear o13
  go_wp2_with fail
  refine (impl_PutExport_calls _ aL aEntity _ (D13.out.rdw.below (Below.refl _ _)) (by omega) haEntity).mono ?_
  rintro e w14 ⟨u14, fp14, rfl, o14, f14, hb14⟩
  have NB14 : Below w13.heap.size w13 w14 := hb14
  have BB0_14 := Lib.hid (BB0_13.out.trans (NB14.mono BB0_13.out.size))
  have BB2_14 := Lib.hid (BB2_13.out.trans (NB14.mono BB2_13.out.size))
  have BB3_14 := Lib.hid (BB3_13.out.trans (NB14.mono BB3_13.out.size))
  have BB11_14 := Lib.hid (BB11_13.out.trans (NB14.mono BB11_13.out.size))
  have BB13_14 := Lib.hid (NB14)
  have sz14 : w13.heap.size ≤ w14.heap.size := by have h := hb14.size; (try simp only [size_alloc] at h); omega
  have KBaL_14 : Hid (Blk w14 (w.heap.size) 25 #[.int .i64 aL.Peer, .bool aL.Up, v2aL, .int .i64 aL.Next, v4aL, .int .i64 aL.Asked, v6aL]) := Lib.hid (KBaL_13.out.below hb14)
  have Kw0_14 : Hid (Blk w14 (w3.heap.size) 30 #[.int .i64 z0.Peer, .bool z0.Up, .slice A2_3 (z0.Exports).length c2_3, .int .i64 z0.Next, .slice A4_3 (z0.Questions).length c4_3, .int .i64 z0.Asked, .slice A6_3 (z0.Answers).length c6_3]) := Lib.hid (Kw0_13.out.below hb14)
  have Kx0_14 : Hid (Blk w14 (w4.heap.size) 30 #[.int .i64 aL.Peer, .bool aL.Up, .slice A2_4 (aL.Exports).length c2_4, .int .i64 aL.Next, .slice A4_4 (aL.Questions).length c4_4, .int .i64 aL.Asked, .slice A6_4 (aL.Answers).length c6_4]) := Lib.hid (Kx0_13.out.below hb14)
  have Kg0_14 : Hid (Blk w14 (w5.heap.size) 30 #[.int .i64 z0.Peer, .bool z0.Up, .slice A2_5 (z0.Exports).length c2_5, .int .i64 z0.Next, .slice A4_5 (z0.Questions).length c4_5, .int .i64 z0.Asked, .slice A6_5 (z0.Answers).length c6_5]) := Lib.hid (Kg0_13.out.below hb14)
  clear kcBaL_13 kfBaL_13 klBaL_13 kcw0_13 kfw0_13 klw0_13 kcx0_13 kfx0_13 klx0_13 kcg0_13 kfg0_13 klg0_13
  obtain ⟨kcBaL_14, kfBaL_14⟩ := KBaL_14.out.rules
  have klBaL_14 := KBaL_14.out.lt
  obtain ⟨kcw0_14, kfw0_14⟩ := Kw0_14.out.rules
  have klw0_14 := Kw0_14.out.lt
  obtain ⟨kcx0_14, kfx0_14⟩ := Kx0_14.out.rules
  have klx0_14 := Kx0_14.out.lt
  obtain ⟨kcg0_14, kfg0_14⟩ := Kg0_14.out.rules
  have klg0_14 := Kg0_14.out.lt
  clear hb14 NB14
  rw [← HZ0.out] at o14
  obtain ⟨v2_14, f2_14, v4_14, f4_14, v6_14, f6_14, rfl, -, q2_14, q4_14, q6_14⟩ := own_eLink o14
  obtain ⟨A2_14, c2_14, rfl, -⟩ := q2_14.slice
  obtain ⟨A4_14, c4_14, rfl, -⟩ := q4_14.slice
  obtain ⟨A6_14, c6_14, rfl, -⟩ := q6_14.slice
  clear q2_14 q4_14 q6_14
  have LB14 : Hid (∀ g, g ∈ fp14 → w13.heap.size ≤ g) := Lib.hid (fun g hg => by have h := f14.2 g hg; (try simp only [size_alloc] at h); omega)
  have UB14 : Hid (∀ g, g ∈ fp14 → g < w14.heap.size) := Lib.hid (OwnL.lt _ _ _ o14)
  have ND14 := Lib.hid f14.1
  clear f14
  have D14 := Lib.hid o14
  clear o14
  go_wp2_with fail
  refine (eqLink_calls _ _ z0 _ (D14.out.rdw.below ((Below.refl _ _).alloc (Nat.le_refl _) _)) (D3.out.below (BB3_14.out.alloc (by (try simp only [size_alloc]); omega) _))).mono ?_
  rintro e w15 ⟨rfl, hb15⟩
  have NB15 : Below w14.heap.size w14 w15 := (((Below.refl _ _).alloc (Nat.le_refl _) _)).trans (hb15.mono (by (try simp only [size_alloc]); omega))
  have BB0_15 := Lib.hid (BB0_14.out.trans (NB15.mono BB0_14.out.size))
  have BB2_15 := Lib.hid (BB2_14.out.trans (NB15.mono BB2_14.out.size))
  have BB3_15 := Lib.hid (BB3_14.out.trans (NB15.mono BB3_14.out.size))
  have BB11_15 := Lib.hid (BB11_14.out.trans (NB15.mono BB11_14.out.size))
  have BB13_15 := Lib.hid (BB13_14.out.trans (NB15.mono BB13_14.out.size))
  have BB14_15 := Lib.hid (NB15)
  have sz15 : w14.heap.size + 1 ≤ w15.heap.size := by have h := hb15.size; (try simp only [size_alloc] at h); omega
  have KBaL_15 : Hid (Blk w15 (w.heap.size) 25 #[.int .i64 aL.Peer, .bool aL.Up, v2aL, .int .i64 aL.Next, v4aL, .int .i64 aL.Asked, v6aL]) := Lib.hid ((KBaL_14.out.alloc _).below hb15)
  have Kw0_15 : Hid (Blk w15 (w3.heap.size) 30 #[.int .i64 z0.Peer, .bool z0.Up, .slice A2_3 (z0.Exports).length c2_3, .int .i64 z0.Next, .slice A4_3 (z0.Questions).length c4_3, .int .i64 z0.Asked, .slice A6_3 (z0.Answers).length c6_3]) := Lib.hid ((Kw0_14.out.alloc _).below hb15)
  have Kx0_15 : Hid (Blk w15 (w4.heap.size) 30 #[.int .i64 aL.Peer, .bool aL.Up, .slice A2_4 (aL.Exports).length c2_4, .int .i64 aL.Next, .slice A4_4 (aL.Questions).length c4_4, .int .i64 aL.Asked, .slice A6_4 (aL.Answers).length c6_4]) := Lib.hid ((Kx0_14.out.alloc _).below hb15)
  have Kg0_15 : Hid (Blk w15 (w5.heap.size) 30 #[.int .i64 z0.Peer, .bool z0.Up, .slice A2_5 (z0.Exports).length c2_5, .int .i64 z0.Next, .slice A4_5 (z0.Questions).length c4_5, .int .i64 z0.Asked, .slice A6_5 (z0.Answers).length c6_5]) := Lib.hid ((Kg0_14.out.alloc _).below hb15)
  have Kh0_15 : Hid (Blk w15 (w14.heap.size) 30 #[.int .i64 z0.Peer, .bool z0.Up, .slice A2_14 (z0.Exports).length c2_14, .int .i64 z0.Next, .slice A4_14 (z0.Questions).length c4_14, .int .i64 z0.Asked, .slice A6_14 (z0.Answers).length c6_14]) := Lib.hid ((Blk.made rfl).below hb15)
  clear kcBaL_14 kfBaL_14 klBaL_14 kcw0_14 kfw0_14 klw0_14 kcx0_14 kfx0_14 klx0_14 kcg0_14 kfg0_14 klg0_14
  obtain ⟨kcBaL_15, kfBaL_15⟩ := KBaL_15.out.rules
  have klBaL_15 := KBaL_15.out.lt
  obtain ⟨kcw0_15, kfw0_15⟩ := Kw0_15.out.rules
  have klw0_15 := Kw0_15.out.lt
  obtain ⟨kcx0_15, kfx0_15⟩ := Kx0_15.out.rules
  have klx0_15 := Kx0_15.out.lt
  obtain ⟨kcg0_15, kfg0_15⟩ := Kg0_15.out.rules
  have klg0_15 := Kg0_15.out.lt
  obtain ⟨kch0_15, kfh0_15⟩ := Kh0_15.out.rules
  have klh0_15 := Kh0_15.out.lt
  clear hb15 NB15
  go_wp2_with fail
  refine (heldLink_calls _ z0 _ _ (D5m.out.rdw.below BB11_15.out) (by omega) (by have := HC5.out; have := tcnt_le (eLink z0); omega)).mono ?_
  rintro e w16 ⟨rr, rfl, hrr, hb16⟩
  have NB16 : Below w15.heap.size w15 w16 := hb16
  have BB0_16 := Lib.hid (BB0_15.out.trans (NB16.mono BB0_15.out.size))
  have BB2_16 := Lib.hid (BB2_15.out.trans (NB16.mono BB2_15.out.size))
  have BB3_16 := Lib.hid (BB3_15.out.trans (NB16.mono BB3_15.out.size))
  have BB11_16 := Lib.hid (BB11_15.out.trans (NB16.mono BB11_15.out.size))
  have BB13_16 := Lib.hid (BB13_15.out.trans (NB16.mono BB13_15.out.size))
  have BB14_16 := Lib.hid (BB14_15.out.trans (NB16.mono BB14_15.out.size))
  have sz16 : w15.heap.size ≤ w16.heap.size := by have h := hb16.size; (try simp only [size_alloc] at h); omega
  have KBaL_16 : Hid (Blk w16 (w.heap.size) 25 #[.int .i64 aL.Peer, .bool aL.Up, v2aL, .int .i64 aL.Next, v4aL, .int .i64 aL.Asked, v6aL]) := Lib.hid (KBaL_15.out.below hb16)
  have Kw0_16 : Hid (Blk w16 (w3.heap.size) 30 #[.int .i64 z0.Peer, .bool z0.Up, .slice A2_3 (z0.Exports).length c2_3, .int .i64 z0.Next, .slice A4_3 (z0.Questions).length c4_3, .int .i64 z0.Asked, .slice A6_3 (z0.Answers).length c6_3]) := Lib.hid (Kw0_15.out.below hb16)
  have Kx0_16 : Hid (Blk w16 (w4.heap.size) 30 #[.int .i64 aL.Peer, .bool aL.Up, .slice A2_4 (aL.Exports).length c2_4, .int .i64 aL.Next, .slice A4_4 (aL.Questions).length c4_4, .int .i64 aL.Asked, .slice A6_4 (aL.Answers).length c6_4]) := Lib.hid (Kx0_15.out.below hb16)
  have Kg0_16 : Hid (Blk w16 (w5.heap.size) 30 #[.int .i64 z0.Peer, .bool z0.Up, .slice A2_5 (z0.Exports).length c2_5, .int .i64 z0.Next, .slice A4_5 (z0.Questions).length c4_5, .int .i64 z0.Asked, .slice A6_5 (z0.Answers).length c6_5]) := Lib.hid (Kg0_15.out.below hb16)
  have Kh0_16 : Hid (Blk w16 (w14.heap.size) 30 #[.int .i64 z0.Peer, .bool z0.Up, .slice A2_14 (z0.Exports).length c2_14, .int .i64 z0.Next, .slice A4_14 (z0.Questions).length c4_14, .int .i64 z0.Asked, .slice A6_14 (z0.Answers).length c6_14]) := Lib.hid (Kh0_15.out.below hb16)
  clear kcBaL_15 kfBaL_15 klBaL_15 kcw0_15 kfw0_15 klw0_15 kcx0_15 kfx0_15 klx0_15 kcg0_15 kfg0_15 klg0_15 kch0_15 kfh0_15 klh0_15
  obtain ⟨kcBaL_16, kfBaL_16⟩ := KBaL_16.out.rules
  have klBaL_16 := KBaL_16.out.lt
  obtain ⟨kcw0_16, kfw0_16⟩ := Kw0_16.out.rules
  have klw0_16 := Kw0_16.out.lt
  obtain ⟨kcx0_16, kfx0_16⟩ := Kx0_16.out.rules
  have klx0_16 := Kx0_16.out.lt
  obtain ⟨kcg0_16, kfg0_16⟩ := Kg0_16.out.rules
  have klg0_16 := Kg0_16.out.lt
  obtain ⟨kch0_16, kfh0_16⟩ := Kh0_16.out.rules
  have klh0_16 := Kh0_16.out.lt
  clear hb16 NB16
  obtain rfl : r11 = rr := HR11.out.trans hrr.symm
  clear hrr
  go_wp2
  go_ret
  exact ⟨rfl, BB0_16.out⟩

end Go.Proofs.Ytlpjbipgocgioaa
