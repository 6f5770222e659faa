import Derived.Test.YtagkomochjnjoaaProg
import Derived.Test.YtagkomochjnjoaaTypes
import Derived.StillTailTactics
import Derived.Deep.RegionHeld3
import Derived.Test.YtagkomochjnjoaaLink
namespace Go.Proofs.Ytagkomochjnjoaa
open Go.RowKit
set_option linter.unusedVariables false
set_option linter.unusedSimpArgs false

set_option maxHeartbeats 800000 in
set_option maxRecDepth 100000 in
theorem FnExactPosOf_calls (w : World) (usaL : List Value) (aL : GLink) (raL : RdLW w (eLink aL) usaL) (aEntity : Int) (haEntity : I64 aEntity) :
    Calls Try.prog 4 #[.agg usaL.toArray, .int .i64 aEntity] w fun e w' => e = .returned (.bool true) ∧ Below w.heap.size w w' := by
  have ARaL := Lib.hid raL
  obtain ⟨v2aL, v4aL, v6aL, rfl, -, -, -⟩ := rd_eLink raL
  clear raL
  go_enter Try.func4, Try.ntmps4
  go_wp2_with fail
  refine (szLink_calls _ aL _ _ (ARaL.out.below ((Below.refl _ _).alloc (Nat.le_refl _) _)) (by omega) (by omega)).mono ?_
  rintro e w1 ⟨r1, rfl, hr1, hb1⟩
  have NB1 : Below w.heap.size w w1 := (((Below.refl _ _).alloc (Nat.le_refl _) _)).trans (hb1.mono (by simp only [size_alloc]; omega))
  have BB0_1 := Lib.hid (NB1)
  have sz1 : w.heap.size + 1 ≤ w1.heap.size := by have h := hb1.size; (try simp only [size_alloc] at h); omega
  have KBaL_1 : Hid (Blk w1 (w.heap.size) 25 #[.int .i64 aL.Peer, .bool aL.Up, v2aL, .int .i64 aL.Next, v4aL, .int .i64 aL.Asked, v6aL]) := Lib.hid ((Blk.made rfl).below hb1)
  obtain ⟨kcBaL_1, kfBaL_1⟩ := KBaL_1.out.rules
  clear hb1 NB1
  rcases hr1 with rfl | ⟨hr1, hr1_0⟩
  · go_wp2
    go_ret
    exact ⟨rfl, BB0_1.out⟩
  have hszaL : sizL (eLink aL) ≤ 1048576 := by omega
  have hr1_9 : r1 ≤ 1048576 := by omega
  clear hr1
  go_wp2_with fail
  refine (toLink_calls _ aL _ (ARaL.out.below BB0_1.out) (by omega)).mono ?_
  rintro e w2 ⟨u2, fp2, rfl, o2, f2, hb2⟩
  have NB2 : Below w1.heap.size w1 w2 := hb2
  have BB0_2 := Lib.hid (BB0_1.out.trans (NB2.mono BB0_1.out.size))
  have sz2 : w1.heap.size ≤ w2.heap.size := by have h := hb2.size; (try simp only [size_alloc] at h); omega
  have KBaL_2 : Hid (Blk w2 (w.heap.size) 25 #[.int .i64 aL.Peer, .bool aL.Up, v2aL, .int .i64 aL.Next, v4aL, .int .i64 aL.Asked, v6aL]) := Lib.hid (KBaL_1.out.below hb2)
  clear kcBaL_1 kfBaL_1
  obtain ⟨kcBaL_2, kfBaL_2⟩ := KBaL_2.out.rules
  clear hb2 NB2
  have LB2 : Hid (∀ g, g ∈ fp2 → w1.heap.size ≤ g) := Lib.hid (fun g hg => by have h := f2.2 g hg; (try simp only [size_alloc] at h); omega)
  have UB2 : Hid (∀ g, g ∈ fp2 → g < w2.heap.size) := Lib.hid (OwnL.lt _ _ _ o2)
  have ND2 := Lib.hid f2.1
  clear f2
  have D2 := Lib.hid o2
  clear o2
  go_wp2_with fail
  refine (spec_PosOf_calls _ aL aEntity _ (D2.out.rdw.below (Below.refl _ _)) (by omega) haEntity).mono ?_
  rintro e w3 ⟨rfl, hb3⟩
  have NB3 : Below w2.heap.size w2 w3 := hb3
  have BB0_3 := Lib.hid (BB0_2.out.trans (NB3.mono BB0_2.out.size))
  have BB2_3 := Lib.hid (NB3)
  have sz3 : w2.heap.size ≤ w3.heap.size := by have h := hb3.size; (try simp only [size_alloc] at h); omega
  have KBaL_3 : Hid (Blk w3 (w.heap.size) 25 #[.int .i64 aL.Peer, .bool aL.Up, v2aL, .int .i64 aL.Next, v4aL, .int .i64 aL.Asked, v6aL]) := Lib.hid (KBaL_2.out.below hb3)
  clear kcBaL_2 kfBaL_2
  obtain ⟨kcBaL_3, kfBaL_3⟩ := KBaL_3.out.rules
  clear hb3 NB3
  go_wp2_with fail
  refine (toLink_calls _ aL _ (ARaL.out.below BB0_3.out) (by omega)).mono ?_
  rintro e w4 ⟨u4, fp4, rfl, o4, f4, hb4⟩
  have NB4 : Below w3.heap.size w3 w4 := hb4
  have BB0_4 := Lib.hid (BB0_3.out.trans (NB4.mono BB0_3.out.size))
  have BB2_4 := Lib.hid (BB2_3.out.trans (NB4.mono BB2_3.out.size))
  have sz4 : w3.heap.size ≤ w4.heap.size := by have h := hb4.size; (try simp only [size_alloc] at h); omega
  have KBaL_4 : Hid (Blk w4 (w.heap.size) 25 #[.int .i64 aL.Peer, .bool aL.Up, v2aL, .int .i64 aL.Next, v4aL, .int .i64 aL.Asked, v6aL]) := Lib.hid (KBaL_3.out.below hb4)
  clear kcBaL_3 kfBaL_3
  obtain ⟨kcBaL_4, kfBaL_4⟩ := KBaL_4.out.rules
  clear hb4 NB4
  obtain ⟨v2_4, f2_4, v4_4, f4_4, v6_4, f6_4, rfl, -, q2_4, q4_4, q6_4⟩ := own_eLink o4
  obtain ⟨A2_4, c2_4, rfl, -⟩ := q2_4.slice
  obtain ⟨A4_4, c4_4, rfl, -⟩ := q4_4.slice
  obtain ⟨A6_4, c6_4, rfl, -⟩ := q6_4.slice
  clear q2_4 q4_4 q6_4
  have LB4 : Hid (∀ g, g ∈ fp4 → w3.heap.size ≤ g) := Lib.hid (fun g hg => by have h := f4.2 g hg; (try simp only [size_alloc] at h); omega)
  have UB4 : Hid (∀ g, g ∈ fp4 → g < w4.heap.size) := Lib.hid (OwnL.lt _ _ _ o4)
  have ND4 := Lib.hid f4.1
  clear f4
  have D4 := Lib.hid o4
  clear o4
  go_wp2_with fail
  refine (impl_PosOf_calls _ aL aEntity _ (D4.out.rdw.below ((Below.refl _ _).alloc (Nat.le_refl _) _)) (by omega) haEntity).mono ?_
  rintro e w5 ⟨rfl, hb5⟩
  have NB5 : Below w4.heap.size w4 w5 := (((Below.refl _ _).alloc (Nat.le_refl _) _)).trans (hb5.mono (by simp only [size_alloc]; omega))
  have BB0_5 := Lib.hid (BB0_4.out.trans (NB5.mono BB0_4.out.size))
  have BB2_5 := Lib.hid (BB2_4.out.trans (NB5.mono BB2_4.out.size))
  have BB4_5 := Lib.hid (NB5)
  have sz5 : w4.heap.size + 1 ≤ w5.heap.size := by have h := hb5.size; (try simp only [size_alloc] at h); omega
  have KBaL_5 : Hid (Blk w5 (w.heap.size) 25 #[.int .i64 aL.Peer, .bool aL.Up, v2aL, .int .i64 aL.Next, v4aL, .int .i64 aL.Asked, v6aL]) := Lib.hid ((KBaL_4.out.alloc _).below hb5)
  have Kx0_5 : Hid (Blk w5 (w4.heap.size) 30 #[.int .i64 aL.Peer, .bool aL.Up, .slice A2_4 (aL.Exports).length c2_4, .int .i64 aL.Next, .slice A4_4 (aL.Questions).length c4_4, .int .i64 aL.Asked, .slice A6_4 (aL.Answers).length c6_4]) := Lib.hid ((Blk.made rfl).below hb5)
  clear kcBaL_4 kfBaL_4
  obtain ⟨kcBaL_5, kfBaL_5⟩ := KBaL_5.out.rules
  obtain ⟨kcx0_5, kfx0_5⟩ := Kx0_5.out.rules
  clear hb5 NB5
  go_wp2
  go_region_held3 (fun wq => wq.cell? ⟨w4.heap.size, 0, none⟩ = some (.int .i64 aL.Peer) ∧ wq.cell? ⟨w4.heap.size, 1, none⟩ = some (.bool aL.Up) ∧ wq.cell? ⟨w4.heap.size, 2, none⟩ = some (.slice A2_4 (aL.Exports).length c2_4) ∧ wq.cell? ⟨w4.heap.size, 3, none⟩ = some (.int .i64 aL.Next) ∧ wq.cell? ⟨w4.heap.size, 4, none⟩ = some (.slice A4_4 (aL.Questions).length c4_4) ∧ wq.cell? ⟨w4.heap.size, 5, none⟩ = some (.int .i64 aL.Asked) ∧ wq.cell? ⟨w4.heap.size, 6, none⟩ = some (.slice A6_4 (aL.Answers).length c6_4) ∧ wq.cell? ⟨w.heap.size, 0, none⟩ = some (.int .i64 aL.Peer) ∧ wq.cell? ⟨w.heap.size, 1, none⟩ = some (.bool aL.Up) ∧ wq.cell? ⟨w.heap.size, 2, none⟩ = some (v2aL) ∧ wq.cell? ⟨w.heap.size, 3, none⟩ = some (.int .i64 aL.Next) ∧ wq.cell? ⟨w.heap.size, 4, none⟩ = some (v4aL) ∧ wq.cell? ⟨w.heap.size, 5, none⟩ = some (.int .i64 aL.Asked) ∧ wq.cell? ⟨w.heap.size, 6, none⟩ = some (v6aL))
    (first | exact ⟨kcx0_7q 0, kcx0_7q 1, kcx0_7q 2, kcx0_7q 3, kcx0_7q 4, kcx0_7q 5, kcx0_7q 6, kcBaL_7q 0, kcBaL_7q 1, kcBaL_7q 2, kcBaL_7q 3, kcBaL_7q 4, kcBaL_7q 5, kcBaL_7q 6⟩ | exact ⟨kcx0_6q 0, kcx0_6q 1, kcx0_6q 2, kcx0_6q 3, kcx0_6q 4, kcx0_6q 5, kcx0_6q 6, kcBaL_6q 0, kcBaL_6q 1, kcBaL_6q 2, kcBaL_6q 3, kcBaL_6q 4, kcBaL_6q 5, kcBaL_6q 6⟩ | exact ⟨kcx0_5 0, kcx0_5 1, kcx0_5 2, kcx0_5 3, kcx0_5 4, kcx0_5 5, kcx0_5 6, kcBaL_5 0, kcBaL_5 1, kcBaL_5 2, kcBaL_5 3, kcBaL_5 4, kcBaL_5 5, kcBaL_5 6⟩)
    (first
      | (go_at_call 12; refine (toLink_calls _ aL _ (ARaL.out.below BB0_5.out.drew) (by omega)).mono ?_; rintro e w6 ⟨u6, fp6, rfl, o6, f6, hbq6⟩; obtain ⟨kcx0_6q, kfx0_6q⟩ := (Kx0_5.out.drew.below hbq6).rules; obtain ⟨kcBaL_6q, kfBaL_6q⟩ := (KBaL_5.out.drew.below hbq6).rules)
      | (go_at_call 14; refine (eqLink_calls _ _ aL _ ((D4.out.rdw.below BB4_5.out).below ((Below.refl _ _).drew.trans hbq6)) o6.rdw).mono ?_; rintro e w7 ⟨rfl, hbq7⟩; obtain ⟨kcx0_7q, kfx0_7q⟩ := ((Kx0_5.out.drew.below hbq6).below hbq7).rules; obtain ⟨kcBaL_7q, kfBaL_7q⟩ := ((KBaL_5.out.drew.below hbq6).below hbq7).rules))
  clear kcx0_6q kfx0_6q kcBaL_6q kfBaL_6q kcx0_7q kfx0_7q kcBaL_7q kfBaL_7q
  have hb6 := (Below.refl w5.heap.size w5).drew.trans hbq6
  clear hbq6 o6 f6
  have NB6 : Below w5.heap.size w5 w6 := hb6
  have BB0_6 := Lib.hid (BB0_5.out.trans (NB6.mono BB0_5.out.size))
  have BB2_6 := Lib.hid (BB2_5.out.trans (NB6.mono BB2_5.out.size))
  have BB4_6 := Lib.hid (BB4_5.out.trans (NB6.mono BB4_5.out.size))
  have sz6 : w5.heap.size ≤ w6.heap.size := by have h := hb6.size; (try simp only [size_alloc] at h); omega
  have KBaL_6 : Hid (Blk w6 (w.heap.size) 25 #[.int .i64 aL.Peer, .bool aL.Up, v2aL, .int .i64 aL.Next, v4aL, .int .i64 aL.Asked, v6aL]) := Lib.hid (KBaL_5.out.below hb6)
  have Kx0_6 : Hid (Blk w6 (w4.heap.size) 30 #[.int .i64 aL.Peer, .bool aL.Up, .slice A2_4 (aL.Exports).length c2_4, .int .i64 aL.Next, .slice A4_4 (aL.Questions).length c4_4, .int .i64 aL.Asked, .slice A6_4 (aL.Answers).length c6_4]) := Lib.hid (Kx0_5.out.below hb6)
  clear kcBaL_5 kfBaL_5 kcx0_5 kfx0_5
  obtain ⟨kcBaL_6, kfBaL_6⟩ := KBaL_6.out.rules
  obtain ⟨kcx0_6, kfx0_6⟩ := Kx0_6.out.rules
  clear hb6 NB6
  have hb7 := hbq7
  clear hbq7
  have NB7 : Below w6.heap.size w6 w7 := hb7
  have BB0_7 := Lib.hid (BB0_6.out.trans (NB7.mono BB0_6.out.size))
  have BB2_7 := Lib.hid (BB2_6.out.trans (NB7.mono BB2_6.out.size))
  have BB4_7 := Lib.hid (BB4_6.out.trans (NB7.mono BB4_6.out.size))
  have sz7 : w6.heap.size ≤ w7.heap.size := by have h := hb7.size; (try simp only [size_alloc] at h); omega
  have KBaL_7 : Hid (Blk w7 (w.heap.size) 25 #[.int .i64 aL.Peer, .bool aL.Up, v2aL, .int .i64 aL.Next, v4aL, .int .i64 aL.Asked, v6aL]) := Lib.hid (KBaL_6.out.below hb7)
  have Kx0_7 : Hid (Blk w7 (w4.heap.size) 30 #[.int .i64 aL.Peer, .bool aL.Up, .slice A2_4 (aL.Exports).length c2_4, .int .i64 aL.Next, .slice A4_4 (aL.Questions).length c4_4, .int .i64 aL.Asked, .slice A6_4 (aL.Answers).length c6_4]) := Lib.hid (Kx0_6.out.below hb7)
  clear kcBaL_6 kfBaL_6 kcx0_6 kfx0_6
  obtain ⟨kcBaL_7, kfBaL_7⟩ := KBaL_7.out.rules
  obtain ⟨kcx0_7, kfx0_7⟩ := Kx0_7.out.rules
  clear hb7 NB7
  go_wp2
  go_ret
  exact ⟨rfl, BB0_7.out⟩

end Go.Proofs.Ytagkomochjnjoaa
