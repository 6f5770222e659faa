import Derived.Test.YtaalbbhebmpppaaProg
import Derived.Test.YtaalbbhebmpppaaTypes
import Derived.StillTailTactics
import Derived.Deep.RegionHeld3
import Derived.Laws.IdiomStrings
import Derived.Test.YtaalbbhebmpppaaAppend
import Derived.Laws.StructEq
import Derived.Lib.SliceRun
import Derived.Shelf.RegionOpenPlain
import Derived.Test.YtaalbbhebmpppaaHelp
import Derived.Test.YtaalbbhebmpppaaRefs
import Derived.Test.YtaalbbhebmpppaaRefsS
namespace Go.Proofs.Ytaalbbhebmpppaa
open Go.RowKit
set_option linter.unusedVariables false
set_option linter.unusedSimpArgs false

set_option maxHeartbeats 800000 in
set_option maxRecDepth 100000 in
theorem FnExactRefsOf_calls (w : World) (usaE : List Value) (aE : GEntity) (raE : RdLW w (eEntity aE) usaE) (taE : StrOkL (eEntity aE)) :
    Calls Try.prog 3 #[.agg usaE.toArray] w fun e w' => e = .returned (.bool true) ∧ Below w.heap.size w w' := by
  have ARaE := Lib.hid raE
  obtain ⟨v2aE, v6aE, v7aE, rfl, -, -, -⟩ := rd_eEntity raE
  clear raE
  have TSaE := Lib.hid taE
  clear taE
  go_enter Try.func3, Try.ntmps3
  go_wp2_with fail
  refine (szEntity_calls _ aE _ _ (ARaE.out.below ((Below.refl _ _).alloc (Nat.le_refl _) _)) TSaE.out (by omega) (by omega)).mono ?_
  rintro e w1 ⟨r1, rfl, hr1, hb1⟩
  have NB1 : Below w.heap.size w w1 := (((Below.refl _ _).alloc (Nat.le_refl _) _)).trans (hb1.mono (by (try simp only [size_alloc]); omega))
  have BB0_1 := Lib.hid (NB1)
  have sz1 : w.heap.size + 1 ≤ w1.heap.size := by have h := hb1.size; (try simp only [size_alloc] at h); omega
  have KBaE_1 : Hid (Blk w1 (w.heap.size) 28 #[.int .i64 aE.Kind, .int .i64 aE.Script, v2aE, .int .i64 aE.State, .int .i64 aE.Value.Kind, .int .i64 aE.Value.N, v6aE, v7aE, .int .i64 aE.Peer, .int .i64 aE.Pos, .int .i64 aE.Count, .int .i64 aE.Sent]) := Lib.hid ((Blk.made rfl).below hb1)
  obtain ⟨kcBaE_1, kfBaE_1⟩ := KBaE_1.out.rules
  have klBaE_1 := KBaE_1.out.lt
  clear hb1 NB1
  rcases hr1 with rfl | ⟨hr1, hr1_0⟩
  · go_wp2
    go_ret
    exact ⟨rfl, BB0_1.out⟩
  have hszaE : sizL (eEntity aE) ≤ 1048576 := by omega
  have hr1_9 : r1 ≤ 1048576 := by omega
  clear hr1
  go_wp2_with fail
  refine (toEntity_calls _ aE _ (ARaE.out.below BB0_1.out) (by omega)).mono ?_
  rintro e w2 ⟨u2, fp2, rfl, o2, f2, hb2⟩
  have NB2 : Below w1.heap.size w1 w2 := hb2
  have BB0_2 := Lib.hid (BB0_1.out.trans (NB2.mono BB0_1.out.size))
  have sz2 : w1.heap.size ≤ w2.heap.size := by have h := hb2.size; (try simp only [size_alloc] at h); omega
  have KBaE_2 : Hid (Blk w2 (w.heap.size) 28 #[.int .i64 aE.Kind, .int .i64 aE.Script, v2aE, .int .i64 aE.State, .int .i64 aE.Value.Kind, .int .i64 aE.Value.N, v6aE, v7aE, .int .i64 aE.Peer, .int .i64 aE.Pos, .int .i64 aE.Count, .int .i64 aE.Sent]) := Lib.hid (KBaE_1.out.below hb2)
  clear kcBaE_1 kfBaE_1 klBaE_1
  obtain ⟨kcBaE_2, kfBaE_2⟩ := KBaE_2.out.rules
  have klBaE_2 := KBaE_2.out.lt
  clear hb2 NB2
  have LB2 : Hid (∀ g, g ∈ fp2 → w1.heap.size ≤ g) := Lib.hid (fun g hg => by have h := f2.2 g hg; (try simp only [size_alloc] at h); omega)
  have UB2 : Hid (∀ g, g ∈ fp2 → g < w2.heap.size) := Lib.hid (OwnL.lt _ _ _ o2)
  have ND2 := Lib.hid f2.1
  clear f2
  have D2 := Lib.hid o2
  clear o2
  obtain ⟨z0, hz0⟩ : ∃ z, z = (refsOf aE) := ⟨_, rfl⟩
  have HZ0 := Lib.hid hz0
  clear hz0
  go_wp2_with fail
  refine (spec_RefsOf_calls _ aE _ (D2.out.rdw.below (Below.refl _ _)) (by omega)).mono ?_
  rintro e w3 ⟨u3, rfl, o3, hb3⟩
  have NB3 : Below w2.heap.size w2 w3 := hb3
  have BB0_3 := Lib.hid (BB0_2.out.trans (NB3.mono BB0_2.out.size))
  have BB2_3 := Lib.hid (NB3)
  have sz3 : w2.heap.size ≤ w3.heap.size := by have h := hb3.size; (try simp only [size_alloc] at h); omega
  have KBaE_3 : Hid (Blk w3 (w.heap.size) 28 #[.int .i64 aE.Kind, .int .i64 aE.Script, v2aE, .int .i64 aE.State, .int .i64 aE.Value.Kind, .int .i64 aE.Value.N, v6aE, v7aE, .int .i64 aE.Peer, .int .i64 aE.Pos, .int .i64 aE.Count, .int .i64 aE.Sent]) := Lib.hid (KBaE_2.out.below hb3)
  clear kcBaE_2 kfBaE_2 klBaE_2
  obtain ⟨kcBaE_3, kfBaE_3⟩ := KBaE_3.out.rules
  have klBaE_3 := KBaE_3.out.lt
  clear hb3 NB3
  rw [← HZ0.out] at o3
  have D3 := Lib.hid o3
  clear o3
  go_wp2_with fail
  refine (toEntity_calls _ aE _ (ARaE.out.below BB0_3.out) (by omega)).mono ?_
  rintro e w4 ⟨u4, fp4, rfl, o4, f4, hb4⟩
  have NB4 : Below w3.heap.size w3 w4 := hb4
  have BB0_4 := Lib.hid (BB0_3.out.trans (NB4.mono BB0_3.out.size))
  have BB2_4 := Lib.hid (BB2_3.out.trans (NB4.mono BB2_3.out.size))
  have BB3_4 := Lib.hid (NB4)
  have sz4 : w3.heap.size ≤ w4.heap.size := by have h := hb4.size; (try simp only [size_alloc] at h); omega
  have KBaE_4 : Hid (Blk w4 (w.heap.size) 28 #[.int .i64 aE.Kind, .int .i64 aE.Script, v2aE, .int .i64 aE.State, .int .i64 aE.Value.Kind, .int .i64 aE.Value.N, v6aE, v7aE, .int .i64 aE.Peer, .int .i64 aE.Pos, .int .i64 aE.Count, .int .i64 aE.Sent]) := Lib.hid (KBaE_3.out.below hb4)
  clear kcBaE_3 kfBaE_3 klBaE_3
  obtain ⟨kcBaE_4, kfBaE_4⟩ := KBaE_4.out.rules
  have klBaE_4 := KBaE_4.out.lt
  clear hb4 NB4
  obtain ⟨v2_4, f2_4, v6_4, f6_4, v7_4, f7_4, rfl, -, q2_4, q6_4, q7_4⟩ := own_eEntity o4
  obtain ⟨A2_4, c2_4, rfl, -⟩ := q2_4.slice
  obtain ⟨A6_4, c6_4, rfl, -⟩ := q6_4.slice
  obtain ⟨A7_4, c7_4, rfl, -⟩ := q7_4.slice
  clear q2_4 q6_4 q7_4
  have LB4 : Hid (∀ g, g ∈ fp4 → w3.heap.size ≤ g) := Lib.hid (fun g hg => by have h := f4.2 g hg; (try simp only [size_alloc] at h); omega)
  have UB4 : Hid (∀ g, g ∈ fp4 → g < w4.heap.size) := Lib.hid (OwnL.lt _ _ _ o4)
  have ND4 := Lib.hid f4.1
  clear f4
  have D4 := Lib.hid o4
  clear o4
  go_wp2_with fail
  refine (impl_RefsOf_calls _ aE _ (D4.out.rdw.below ((Below.refl _ _).alloc (Nat.le_refl _) _)) (by omega)).mono ?_
  rintro e w5 ⟨u5, fp5, rfl, o5, f5, hb5⟩
  have NB5 : Below w4.heap.size w4 w5 := (((Below.refl _ _).alloc (Nat.le_refl _) _)).trans (hb5.mono (by (try simp only [size_alloc]); omega))
  have BB0_5 := Lib.hid (BB0_4.out.trans (NB5.mono BB0_4.out.size))
  have BB2_5 := Lib.hid (BB2_4.out.trans (NB5.mono BB2_4.out.size))
  have BB3_5 := Lib.hid (BB3_4.out.trans (NB5.mono BB3_4.out.size))
  have BB4_5 := Lib.hid (NB5)
  have sz5 : w4.heap.size + 1 ≤ w5.heap.size := by have h := hb5.size; (try simp only [size_alloc] at h); omega
  have KBaE_5 : Hid (Blk w5 (w.heap.size) 28 #[.int .i64 aE.Kind, .int .i64 aE.Script, v2aE, .int .i64 aE.State, .int .i64 aE.Value.Kind, .int .i64 aE.Value.N, v6aE, v7aE, .int .i64 aE.Peer, .int .i64 aE.Pos, .int .i64 aE.Count, .int .i64 aE.Sent]) := Lib.hid ((KBaE_4.out.alloc _).below hb5)
  have Kx0_5 : Hid (Blk w5 (w4.heap.size) 37 #[.int .i64 aE.Kind, .int .i64 aE.Script, .slice A2_4 (aE.Slots).length c2_4, .int .i64 aE.State, .int .i64 aE.Value.Kind, .int .i64 aE.Value.N, .slice A6_4 (aE.Queue).length c6_4, .slice A7_4 (aE.Askers).length c7_4, .int .i64 aE.Peer, .int .i64 aE.Pos, .int .i64 aE.Count, .int .i64 aE.Sent]) := Lib.hid ((Blk.made rfl).below hb5)
  clear kcBaE_4 kfBaE_4 klBaE_4
  obtain ⟨kcBaE_5, kfBaE_5⟩ := KBaE_5.out.rules
  have klBaE_5 := KBaE_5.out.lt
  obtain ⟨kcx0_5, kfx0_5⟩ := Kx0_5.out.rules
  have klx0_5 := Kx0_5.out.lt
  clear hb5 NB5
  rw [← HZ0.out] at o5
  have LB5 : Hid (∀ g, g ∈ fp5 → w4.heap.size + 1 ≤ g) := Lib.hid (fun g hg => by have h := f5.2 g hg; (try simp only [size_alloc] at h); omega)
  have UB5 : Hid (∀ g, g ∈ fp5 → g < w5.heap.size) := Lib.hid (Own.lt _ _ _ o5)
  have ND5 := Lib.hid f5.1
  clear f5
  have D5 := Lib.hid o5
  clear o5
  go_wp2_with fail
  refine (eqIntS_calls z0 _ _ _ (D5.out.rdw.below (Below.refl _ _)) (D3.out.below BB3_5.out)).mono ?_
  rintro e w6 ⟨rfl, hb6⟩
  have NB6 : Below w5.heap.size w5 w6 := hb6
  have BB0_6 := Lib.hid (BB0_5.out.trans (NB6.mono BB0_5.out.size))
  have BB2_6 := Lib.hid (BB2_5.out.trans (NB6.mono BB2_5.out.size))
  have BB3_6 := Lib.hid (BB3_5.out.trans (NB6.mono BB3_5.out.size))
  have BB4_6 := Lib.hid (BB4_5.out.trans (NB6.mono BB4_5.out.size))
  have BB5_6 := Lib.hid (NB6)
  have sz6 : w5.heap.size ≤ w6.heap.size := by have h := hb6.size; (try simp only [size_alloc] at h); omega
  have KBaE_6 : Hid (Blk w6 (w.heap.size) 28 #[.int .i64 aE.Kind, .int .i64 aE.Script, v2aE, .int .i64 aE.State, .int .i64 aE.Value.Kind, .int .i64 aE.Value.N, v6aE, v7aE, .int .i64 aE.Peer, .int .i64 aE.Pos, .int .i64 aE.Count, .int .i64 aE.Sent]) := Lib.hid (KBaE_5.out.below hb6)
  have Kx0_6 : Hid (Blk w6 (w4.heap.size) 37 #[.int .i64 aE.Kind, .int .i64 aE.Script, .slice A2_4 (aE.Slots).length c2_4, .int .i64 aE.State, .int .i64 aE.Value.Kind, .int .i64 aE.Value.N, .slice A6_4 (aE.Queue).length c6_4, .slice A7_4 (aE.Askers).length c7_4, .int .i64 aE.Peer, .int .i64 aE.Pos, .int .i64 aE.Count, .int .i64 aE.Sent]) := Lib.hid (Kx0_5.out.below hb6)
  clear kcBaE_5 kfBaE_5 klBaE_5 kcx0_5 kfx0_5 klx0_5
  obtain ⟨kcBaE_6, kfBaE_6⟩ := KBaE_6.out.rules
  have klBaE_6 := KBaE_6.out.lt
  obtain ⟨kcx0_6, kfx0_6⟩ := Kx0_6.out.rules
  have klx0_6 := Kx0_6.out.lt
  clear hb6 NB6
  go_wp2
  go_region_held3 (fun wq => wq.cell? ⟨w4.heap.size, 0, none⟩ = some (.int .i64 aE.Kind) ∧ wq.cell? ⟨w4.heap.size, 1, none⟩ = some (.int .i64 aE.Script) ∧ wq.cell? ⟨w4.heap.size, 2, none⟩ = some (.slice A2_4 (aE.Slots).length c2_4) ∧ wq.cell? ⟨w4.heap.size, 3, none⟩ = some (.int .i64 aE.State) ∧ wq.cell? ⟨w4.heap.size, 4, none⟩ = some (.int .i64 aE.Value.Kind) ∧ wq.cell? ⟨w4.heap.size, 5, none⟩ = some (.int .i64 aE.Value.N) ∧ wq.cell? ⟨w4.heap.size, 6, none⟩ = some (.slice A6_4 (aE.Queue).length c6_4) ∧ wq.cell? ⟨w4.heap.size, 7, none⟩ = some (.slice A7_4 (aE.Askers).length c7_4) ∧ wq.cell? ⟨w4.heap.size, 8, none⟩ = some (.int .i64 aE.Peer) ∧ wq.cell? ⟨w4.heap.size, 9, none⟩ = some (.int .i64 aE.Pos) ∧ wq.cell? ⟨w4.heap.size, 10, none⟩ = some (.int .i64 aE.Count) ∧ wq.cell? ⟨w4.heap.size, 11, none⟩ = some (.int .i64 aE.Sent) ∧ wq.cell? ⟨w.heap.size, 0, none⟩ = some (.int .i64 aE.Kind) ∧ wq.cell? ⟨w.heap.size, 1, none⟩ = some (.int .i64 aE.Script) ∧ wq.cell? ⟨w.heap.size, 2, none⟩ = some (v2aE) ∧ wq.cell? ⟨w.heap.size, 3, none⟩ = some (.int .i64 aE.State) ∧ wq.cell? ⟨w.heap.size, 4, none⟩ = some (.int .i64 aE.Value.Kind) ∧ wq.cell? ⟨w.heap.size, 5, none⟩ = some (.int .i64 aE.Value.N) ∧ wq.cell? ⟨w.heap.size, 6, none⟩ = some (v6aE) ∧ wq.cell? ⟨w.heap.size, 7, none⟩ = some (v7aE) ∧ wq.cell? ⟨w.heap.size, 8, none⟩ = some (.int .i64 aE.Peer) ∧ wq.cell? ⟨w.heap.size, 9, none⟩ = some (.int .i64 aE.Pos) ∧ wq.cell? ⟨w.heap.size, 10, none⟩ = some (.int .i64 aE.Count) ∧ wq.cell? ⟨w.heap.size, 11, none⟩ = some (.int .i64 aE.Sent))
    (first | exact ⟨kcx0_8q 0, kcx0_8q 1, kcx0_8q 2, kcx0_8q 3, kcx0_8q 4, kcx0_8q 5, kcx0_8q 6, kcx0_8q 7, kcx0_8q 8, kcx0_8q 9, kcx0_8q 10, kcx0_8q 11, kcBaE_8q 0, kcBaE_8q 1, kcBaE_8q 2, kcBaE_8q 3, kcBaE_8q 4, kcBaE_8q 5, kcBaE_8q 6, kcBaE_8q 7, kcBaE_8q 8, kcBaE_8q 9, kcBaE_8q 10, kcBaE_8q 11⟩ | exact ⟨kcx0_7q 0, kcx0_7q 1, kcx0_7q 2, kcx0_7q 3, kcx0_7q 4, kcx0_7q 5, kcx0_7q 6, kcx0_7q 7, kcx0_7q 8, kcx0_7q 9, kcx0_7q 10, kcx0_7q 11, kcBaE_7q 0, kcBaE_7q 1, kcBaE_7q 2, kcBaE_7q 3, kcBaE_7q 4, kcBaE_7q 5, kcBaE_7q 6, kcBaE_7q 7, kcBaE_7q 8, kcBaE_7q 9, kcBaE_7q 10, kcBaE_7q 11⟩ | exact ⟨kcx0_6 0, kcx0_6 1, kcx0_6 2, kcx0_6 3, kcx0_6 4, kcx0_6 5, kcx0_6 6, kcx0_6 7, kcx0_6 8, kcx0_6 9, kcx0_6 10, kcx0_6 11, kcBaE_6 0, kcBaE_6 1, kcBaE_6 2, kcBaE_6 3, kcBaE_6 4, kcBaE_6 5, kcBaE_6 6, kcBaE_6 7, kcBaE_6 8, kcBaE_6 9, kcBaE_6 10, kcBaE_6 11⟩)
    (first
      | (have _hq := hbq7; clear _hq; go_at_call 10; refine (eqEntity_calls _ _ aE _ ((D4.out.rdw.below BB4_6.out).below ((Below.refl _ _).drew.trans hbq7)) o7.rdw).mono ?_; rintro e w8 ⟨rfl, hbq8⟩; obtain ⟨kcx0_8q, kfx0_8q⟩ := ((Kx0_6.out.drew.below hbq7).below hbq8).rules; obtain ⟨kcBaE_8q, kfBaE_8q⟩ := ((KBaE_6.out.drew.below hbq7).below hbq8).rules)
      | (go_at_call 7; refine (toEntity_calls _ aE _ ((ARaE.out.below BB0_6.out).below (Below.refl _ _).drew) (by omega)).mono ?_; rintro e w7 ⟨u7, fp7, rfl, o7, f7, hbq7⟩; obtain ⟨kcx0_7q, kfx0_7q⟩ := (Kx0_6.out.drew.below hbq7).rules; obtain ⟨kcBaE_7q, kfBaE_7q⟩ := (KBaE_6.out.drew.below hbq7).rules))
  clear kcx0_7q kfx0_7q kcx0_8q kfx0_8q kcBaE_7q kfBaE_7q kcBaE_8q kfBaE_8q
  have hb7 := (Below.refl w6.heap.size w6).drew.trans hbq7
  have hb8 := hbq8
  clear hbq7 hbq8 o7 f7
  have NB7 : Below w6.heap.size w6 w7 := hb7
  have BB0_7 := Lib.hid (BB0_6.out.trans (NB7.mono BB0_6.out.size))
  have BB2_7 := Lib.hid (BB2_6.out.trans (NB7.mono BB2_6.out.size))
  have BB3_7 := Lib.hid (BB3_6.out.trans (NB7.mono BB3_6.out.size))
  have BB4_7 := Lib.hid (BB4_6.out.trans (NB7.mono BB4_6.out.size))
  have BB5_7 := Lib.hid (BB5_6.out.trans (NB7.mono BB5_6.out.size))
  have sz7 : w6.heap.size ≤ w7.heap.size := by have h := hb7.size; (try simp only [size_alloc] at h); omega
  have KBaE_7 : Hid (Blk w7 (w.heap.size) 28 #[.int .i64 aE.Kind, .int .i64 aE.Script, v2aE, .int .i64 aE.State, .int .i64 aE.Value.Kind, .int .i64 aE.Value.N, v6aE, v7aE, .int .i64 aE.Peer, .int .i64 aE.Pos, .int .i64 aE.Count, .int .i64 aE.Sent]) := Lib.hid (KBaE_6.out.below hb7)
  have Kx0_7 : Hid (Blk w7 (w4.heap.size) 37 #[.int .i64 aE.Kind, .int .i64 aE.Script, .slice A2_4 (aE.Slots).length c2_4, .int .i64 aE.State, .int .i64 aE.Value.Kind, .int .i64 aE.Value.N, .slice A6_4 (aE.Queue).length c6_4, .slice A7_4 (aE.Askers).length c7_4, .int .i64 aE.Peer, .int .i64 aE.Pos, .int .i64 aE.Count, .int .i64 aE.Sent]) := Lib.hid (Kx0_6.out.below hb7)
  clear kcBaE_6 kfBaE_6 klBaE_6 kcx0_6 kfx0_6 klx0_6
  obtain ⟨kcBaE_7, kfBaE_7⟩ := KBaE_7.out.rules
  have klBaE_7 := KBaE_7.out.lt
  obtain ⟨kcx0_7, kfx0_7⟩ := Kx0_7.out.rules
  have klx0_7 := Kx0_7.out.lt
  clear hb7 NB7
  have NB8 : Below w7.heap.size w7 w8 := hb8
  have BB0_8 := Lib.hid (BB0_7.out.trans (NB8.mono BB0_7.out.size))
  have BB2_8 := Lib.hid (BB2_7.out.trans (NB8.mono BB2_7.out.size))
  have BB3_8 := Lib.hid (BB3_7.out.trans (NB8.mono BB3_7.out.size))
  have BB4_8 := Lib.hid (BB4_7.out.trans (NB8.mono BB4_7.out.size))
  have BB5_8 := Lib.hid (BB5_7.out.trans (NB8.mono BB5_7.out.size))
  have sz8 : w7.heap.size ≤ w8.heap.size := by have h := hb8.size; (try simp only [size_alloc] at h); omega
  have KBaE_8 : Hid (Blk w8 (w.heap.size) 28 #[.int .i64 aE.Kind, .int .i64 aE.Script, v2aE, .int .i64 aE.State, .int .i64 aE.Value.Kind, .int .i64 aE.Value.N, v6aE, v7aE, .int .i64 aE.Peer, .int .i64 aE.Pos, .int .i64 aE.Count, .int .i64 aE.Sent]) := Lib.hid (KBaE_7.out.below hb8)
  have Kx0_8 : Hid (Blk w8 (w4.heap.size) 37 #[.int .i64 aE.Kind, .int .i64 aE.Script, .slice A2_4 (aE.Slots).length c2_4, .int .i64 aE.State, .int .i64 aE.Value.Kind, .int .i64 aE.Value.N, .slice A6_4 (aE.Queue).length c6_4, .slice A7_4 (aE.Askers).length c7_4, .int .i64 aE.Peer, .int .i64 aE.Pos, .int .i64 aE.Count, .int .i64 aE.Sent]) := Lib.hid (Kx0_7.out.below hb8)
  clear kcBaE_7 kfBaE_7 klBaE_7 kcx0_7 kfx0_7 klx0_7
  obtain ⟨kcBaE_8, kfBaE_8⟩ := KBaE_8.out.rules
  have klBaE_8 := KBaE_8.out.lt
  obtain ⟨kcx0_8, kfx0_8⟩ := Kx0_8.out.rules
  have klx0_8 := Kx0_8.out.lt
  clear hb8 NB8
  have HC4 : Hid (cntL (eEntity aE) ≤ 1099511627776) := Lib.hid (by have h1 := cntL_le _ (slim_eEntity aE); have h2 := len_eEntity aE; omega)
  go_wp2_with fail
  refine (markEntity_calls _ aE _ fp4 _ (D4.out.below BB4_8.out) ND4.out (by omega) (by have := HC4.out; have := tcnt_le (eEntity aE); omega)).mono ?_
  rintro e w9 ⟨r9, rfl, hr9, o9, hb9⟩
  have NC9 := hb9
  have NB9 := NC9.size
  have BB0_9 := Lib.hid (below_chg BB0_8.out NC9 BB0_8.out.size (fun i hi => by have := LB4.out _ hi; omega))
  have BB2_9 := Lib.hid (below_chg BB2_8.out NC9 BB2_8.out.size (fun i hi => by have := LB4.out _ hi; omega))
  have BB3_9 := Lib.hid (below_chg BB3_8.out NC9 BB3_8.out.size (fun i hi => by have := LB4.out _ hi; omega))
  have NCk9 := NC9
  have sz9 : w8.heap.size ≤ w9.heap.size := by have h := hb9.size; (try simp only [size_alloc] at h); omega
  have KBaE_9 : Hid (Blk w9 (w.heap.size) 28 #[.int .i64 aE.Kind, .int .i64 aE.Script, v2aE, .int .i64 aE.State, .int .i64 aE.Value.Kind, .int .i64 aE.Value.N, v6aE, v7aE, .int .i64 aE.Peer, .int .i64 aE.Pos, .int .i64 aE.Count, .int .i64 aE.Sent]) := Lib.hid (KBaE_8.out.chg hb9 (fun h => by have h1 := LB4.out _ h; have h2 := UB4.out _ h; omega))
  have Kx0_9 : Hid (Blk w9 (w4.heap.size) 37 #[.int .i64 aE.Kind, .int .i64 aE.Script, .slice A2_4 (aE.Slots).length c2_4, .int .i64 aE.State, .int .i64 aE.Value.Kind, .int .i64 aE.Value.N, .slice A6_4 (aE.Queue).length c6_4, .slice A7_4 (aE.Askers).length c7_4, .int .i64 aE.Peer, .int .i64 aE.Pos, .int .i64 aE.Count, .int .i64 aE.Sent]) := Lib.hid (Kx0_8.out.chg hb9 (fun h => by have h1 := LB4.out _ h; have h2 := UB4.out _ h; omega))
  clear kcBaE_8 kfBaE_8 klBaE_8 kcx0_8 kfx0_8 klx0_8
  obtain ⟨kcBaE_9, kfBaE_9⟩ := KBaE_9.out.rules
  have klBaE_9 := KBaE_9.out.lt
  obtain ⟨kcx0_9, kfx0_9⟩ := Kx0_9.out.rules
  have klx0_9 := Kx0_9.out.lt
  clear hb9 NB9 NC9
  have hr9_0 : 0 ≤ r9 := by omega
  have HR9 := Lib.hid hr9
  clear hr9
  have D5_9 := Lib.hid ((D5.out.below BB5_8.out).chg NCk9 (fun g hg hT => by have h1 := LB5.out _ hg; have h2 := UB4.out _ hT; omega))
  clear D5
  have D5 := D5_9
  clear D5_9
  clear NCk9
  have D4m := Lib.hid o9
  clear o9
  go_wp2_with fail
  refine (eqIntS_calls z0 _ _ _ (D5.out.rdw.below (Below.refl _ _)) (D3.out.below BB3_9.out)).mono ?_
  rintro e w10 ⟨rfl, hb10⟩
  have NB10 : Below w9.heap.size w9 w10 := hb10
  have BB0_10 := Lib.hid (BB0_9.out.trans (NB10.mono BB0_9.out.size))
  have BB2_10 := Lib.hid (BB2_9.out.trans (NB10.mono BB2_9.out.size))
  have BB3_10 := Lib.hid (BB3_9.out.trans (NB10.mono BB3_9.out.size))
  have BB9_10 := Lib.hid (NB10)
  have sz10 : w9.heap.size ≤ w10.heap.size := by have h := hb10.size; (try simp only [size_alloc] at h); omega
  have KBaE_10 : Hid (Blk w10 (w.heap.size) 28 #[.int .i64 aE.Kind, .int .i64 aE.Script, v2aE, .int .i64 aE.State, .int .i64 aE.Value.Kind, .int .i64 aE.Value.N, v6aE, v7aE, .int .i64 aE.Peer, .int .i64 aE.Pos, .int .i64 aE.Count, .int .i64 aE.Sent]) := Lib.hid (KBaE_9.out.below hb10)
  have Kx0_10 : Hid (Blk w10 (w4.heap.size) 37 #[.int .i64 aE.Kind, .int .i64 aE.Script, .slice A2_4 (aE.Slots).length c2_4, .int .i64 aE.State, .int .i64 aE.Value.Kind, .int .i64 aE.Value.N, .slice A6_4 (aE.Queue).length c6_4, .slice A7_4 (aE.Askers).length c7_4, .int .i64 aE.Peer, .int .i64 aE.Pos, .int .i64 aE.Count, .int .i64 aE.Sent]) := Lib.hid (Kx0_9.out.below hb10)
  clear kcBaE_9 kfBaE_9 klBaE_9 kcx0_9 kfx0_9 klx0_9
  obtain ⟨kcBaE_10, kfBaE_10⟩ := KBaE_10.out.rules
  have klBaE_10 := KBaE_10.out.lt
  obtain ⟨kcx0_10, kfx0_10⟩ := Kx0_10.out.rules
  have klx0_10 := Kx0_10.out.lt
  clear hb10 NB10
  have HC5 : Hid (cntL (z0.flatMap eInt) ≤ 1099511627776) := Lib.hid (by rw [HZ0.out]; exact (by exact refsOf_cnt aE hszaE))
  go_wp2_with fail
  refine (markIntS_calls z0 _ _ fp5 _ (D5.out.below BB9_10.out) ND5.out (by omega) (by have := HC5.out; omega)).mono ?_
  rintro e w11 ⟨r11, rfl, hr11, o11, hb11⟩
  have NC11 := hb11
  have NB11 := NC11.size
  have BB0_11 := Lib.hid (below_chg BB0_10.out NC11 BB0_10.out.size (fun i hi => by have := LB5.out _ hi; omega))
  have BB2_11 := Lib.hid (below_chg BB2_10.out NC11 BB2_10.out.size (fun i hi => by have := LB5.out _ hi; omega))
  have BB3_11 := Lib.hid (below_chg BB3_10.out NC11 BB3_10.out.size (fun i hi => by have := LB5.out _ hi; omega))
  have NCk11 := NC11
  have sz11 : w10.heap.size ≤ w11.heap.size := by have h := hb11.size; (try simp only [size_alloc] at h); omega
  have KBaE_11 : Hid (Blk w11 (w.heap.size) 28 #[.int .i64 aE.Kind, .int .i64 aE.Script, v2aE, .int .i64 aE.State, .int .i64 aE.Value.Kind, .int .i64 aE.Value.N, v6aE, v7aE, .int .i64 aE.Peer, .int .i64 aE.Pos, .int .i64 aE.Count, .int .i64 aE.Sent]) := Lib.hid (KBaE_10.out.chg hb11 (fun h => by have h1 := LB5.out _ h; have h2 := UB5.out _ h; omega))
  have Kx0_11 : Hid (Blk w11 (w4.heap.size) 37 #[.int .i64 aE.Kind, .int .i64 aE.Script, .slice A2_4 (aE.Slots).length c2_4, .int .i64 aE.State, .int .i64 aE.Value.Kind, .int .i64 aE.Value.N, .slice A6_4 (aE.Queue).length c6_4, .slice A7_4 (aE.Askers).length c7_4, .int .i64 aE.Peer, .int .i64 aE.Pos, .int .i64 aE.Count, .int .i64 aE.Sent]) := Lib.hid (Kx0_10.out.chg hb11 (fun h => by have h1 := LB5.out _ h; have h2 := UB5.out _ h; omega))
  clear kcBaE_10 kfBaE_10 klBaE_10 kcx0_10 kfx0_10 klx0_10
  obtain ⟨kcBaE_11, kfBaE_11⟩ := KBaE_11.out.rules
  have klBaE_11 := KBaE_11.out.lt
  obtain ⟨kcx0_11, kfx0_11⟩ := Kx0_11.out.rules
  have klx0_11 := Kx0_11.out.lt
  clear hb11 NB11 NC11
  have hr11_0 : 0 ≤ r11 := by omega
  have HR11 := Lib.hid hr11
  clear hr11
  clear NCk11
  have D5m := Lib.hid o11
  clear o11
  go_wp2_with fail
  refine (heldIntS_calls z0 _ _ _ (D5m.out.rdw.below (Below.refl _ _)) (by omega) (by have := HC5.out; omega)).mono ?_
  rintro e w12 ⟨rr, rfl, hrr, hb12⟩
  have NB12 : Below w11.heap.size w11 w12 := hb12
  have BB0_12 := Lib.hid (BB0_11.out.trans (NB12.mono BB0_11.out.size))
  have BB2_12 := Lib.hid (BB2_11.out.trans (NB12.mono BB2_11.out.size))
  have BB3_12 := Lib.hid (BB3_11.out.trans (NB12.mono BB3_11.out.size))
  have BB11_12 := Lib.hid (NB12)
  have sz12 : w11.heap.size ≤ w12.heap.size := by have h := hb12.size; (try simp only [size_alloc] at h); omega
  have KBaE_12 : Hid (Blk w12 (w.heap.size) 28 #[.int .i64 aE.Kind, .int .i64 aE.Script, v2aE, .int .i64 aE.State, .int .i64 aE.Value.Kind, .int .i64 aE.Value.N, v6aE, v7aE, .int .i64 aE.Peer, .int .i64 aE.Pos, .int .i64 aE.Count, .int .i64 aE.Sent]) := Lib.hid (KBaE_11.out.below hb12)
  have Kx0_12 : Hid (Blk w12 (w4.heap.size) 37 #[.int .i64 aE.Kind, .int .i64 aE.Script, .slice A2_4 (aE.Slots).length c2_4, .int .i64 aE.State, .int .i64 aE.Value.Kind, .int .i64 aE.Value.N, .slice A6_4 (aE.Queue).length c6_4, .slice A7_4 (aE.Askers).length c7_4, .int .i64 aE.Peer, .int .i64 aE.Pos, .int .i64 aE.Count, .int .i64 aE.Sent]) := Lib.hid (Kx0_11.out.below hb12)
  clear kcBaE_11 kfBaE_11 klBaE_11 kcx0_11 kfx0_11 klx0_11
  obtain ⟨kcBaE_12, kfBaE_12⟩ := KBaE_12.out.rules
  have klBaE_12 := KBaE_12.out.lt
  obtain ⟨kcx0_12, kfx0_12⟩ := Kx0_12.out.rules
  have klx0_12 := Kx0_12.out.lt
  clear hb12 NB12
  obtain rfl : r11 = rr := HR11.out.trans hrr.symm
  clear hrr
  go_wp2_with fail
  refine (toEntity_calls _ aE _ (ARaE.out.below BB0_12.out) (by omega)).mono ?_
  rintro e w13 ⟨u13, fp13, rfl, o13, f13, hb13⟩
  have NB13 : Below w12.heap.size w12 w13 := hb13
  have BB0_13 := Lib.hid (BB0_12.out.trans (NB13.mono BB0_12.out.size))
  have BB2_13 := Lib.hid (BB2_12.out.trans (NB13.mono BB2_12.out.size))
  have BB3_13 := Lib.hid (BB3_12.out.trans (NB13.mono BB3_12.out.size))
  have BB11_13 := Lib.hid (BB11_12.out.trans (NB13.mono BB11_12.out.size))
  have sz13 : w12.heap.size ≤ w13.heap.size := by have h := hb13.size; (try simp only [size_alloc] at h); omega
  have KBaE_13 : Hid (Blk w13 (w.heap.size) 28 #[.int .i64 aE.Kind, .int .i64 aE.Script, v2aE, .int .i64 aE.State, .int .i64 aE.Value.Kind, .int .i64 aE.Value.N, v6aE, v7aE, .int .i64 aE.Peer, .int .i64 aE.Pos, .int .i64 aE.Count, .int .i64 aE.Sent]) := Lib.hid (KBaE_12.out.below hb13)
  have Kx0_13 : Hid (Blk w13 (w4.heap.size) 37 #[.int .i64 aE.Kind, .int .i64 aE.Script, .slice A2_4 (aE.Slots).length c2_4, .int .i64 aE.State, .int .i64 aE.Value.Kind, .int .i64 aE.Value.N, .slice A6_4 (aE.Queue).length c6_4, .slice A7_4 (aE.Askers).length c7_4, .int .i64 aE.Peer, .int .i64 aE.Pos, .int .i64 aE.Count, .int .i64 aE.Sent]) := Lib.hid (Kx0_12.out.below hb13)
  clear kcBaE_12 kfBaE_12 klBaE_12 kcx0_12 kfx0_12 klx0_12
  obtain ⟨kcBaE_13, kfBaE_13⟩ := KBaE_13.out.rules
  have klBaE_13 := KBaE_13.out.lt
  obtain ⟨kcx0_13, kfx0_13⟩ := Kx0_13.out.rules
  have klx0_13 := Kx0_13.out.lt
  clear hb13 NB13
  have LB13 : Hid (∀ g, g ∈ fp13 → w12.heap.size ≤ g) := Lib.hid (fun g hg => by have h := f13.2 g hg; (try simp only [size_alloc] at h); omega)
  have UB13 : Hid (∀ g, g ∈ fp13 → g < w13.heap.size) := Lib.hid (OwnL.lt _ _ _ o13)
  have ND13 := Lib.hid f13.1
  clear f13
  have D13 := Lib.hid o13
  clear o13
  go_wp2_with fail
  refine (impl_RefsOf_calls _ aE _ (D13.out.rdw.below (Below.refl _ _)) (by omega)).mono ?_
  rintro e w14 ⟨u14, fp14, rfl, o14, f14, hb14⟩
  have NB14 : Below w13.heap.size w13 w14 := hb14
  have BB0_14 := Lib.hid (BB0_13.out.trans (NB14.mono BB0_13.out.size))
  have BB2_14 := Lib.hid (BB2_13.out.trans (NB14.mono BB2_13.out.size))
  have BB3_14 := Lib.hid (BB3_13.out.trans (NB14.mono BB3_13.out.size))
  have BB11_14 := Lib.hid (BB11_13.out.trans (NB14.mono BB11_13.out.size))
  have BB13_14 := Lib.hid (NB14)
  have sz14 : w13.heap.size ≤ w14.heap.size := by have h := hb14.size; (try simp only [size_alloc] at h); omega
  have KBaE_14 : Hid (Blk w14 (w.heap.size) 28 #[.int .i64 aE.Kind, .int .i64 aE.Script, v2aE, .int .i64 aE.State, .int .i64 aE.Value.Kind, .int .i64 aE.Value.N, v6aE, v7aE, .int .i64 aE.Peer, .int .i64 aE.Pos, .int .i64 aE.Count, .int .i64 aE.Sent]) := Lib.hid (KBaE_13.out.below hb14)
  have Kx0_14 : Hid (Blk w14 (w4.heap.size) 37 #[.int .i64 aE.Kind, .int .i64 aE.Script, .slice A2_4 (aE.Slots).length c2_4, .int .i64 aE.State, .int .i64 aE.Value.Kind, .int .i64 aE.Value.N, .slice A6_4 (aE.Queue).length c6_4, .slice A7_4 (aE.Askers).length c7_4, .int .i64 aE.Peer, .int .i64 aE.Pos, .int .i64 aE.Count, .int .i64 aE.Sent]) := Lib.hid (Kx0_13.out.below hb14)
  clear kcBaE_13 kfBaE_13 klBaE_13 kcx0_13 kfx0_13 klx0_13
  obtain ⟨kcBaE_14, kfBaE_14⟩ := KBaE_14.out.rules
  have klBaE_14 := KBaE_14.out.lt
  obtain ⟨kcx0_14, kfx0_14⟩ := Kx0_14.out.rules
  have klx0_14 := Kx0_14.out.lt
  clear hb14 NB14
  rw [← HZ0.out] at o14
  have LB14 : Hid (∀ g, g ∈ fp14 → w13.heap.size ≤ g) := Lib.hid (fun g hg => by have h := f14.2 g hg; (try simp only [size_alloc] at h); omega)
  have UB14 : Hid (∀ g, g ∈ fp14 → g < w14.heap.size) := Lib.hid (Own.lt _ _ _ o14)
  have ND14 := Lib.hid f14.1
  clear f14
  have D14 := Lib.hid o14
  clear o14
  go_wp2_with fail
  refine (eqIntS_calls z0 _ _ _ (D14.out.rdw.below (Below.refl _ _)) (D3.out.below BB3_14.out)).mono ?_
  rintro e w15 ⟨rfl, hb15⟩
  have NB15 : Below w14.heap.size w14 w15 := hb15
  have BB0_15 := Lib.hid (BB0_14.out.trans (NB15.mono BB0_14.out.size))
  have BB2_15 := Lib.hid (BB2_14.out.trans (NB15.mono BB2_14.out.size))
  have BB3_15 := Lib.hid (BB3_14.out.trans (NB15.mono BB3_14.out.size))
  have BB11_15 := Lib.hid (BB11_14.out.trans (NB15.mono BB11_14.out.size))
  have BB13_15 := Lib.hid (BB13_14.out.trans (NB15.mono BB13_14.out.size))
  have BB14_15 := Lib.hid (NB15)
  have sz15 : w14.heap.size ≤ w15.heap.size := by have h := hb15.size; (try simp only [size_alloc] at h); omega
  have KBaE_15 : Hid (Blk w15 (w.heap.size) 28 #[.int .i64 aE.Kind, .int .i64 aE.Script, v2aE, .int .i64 aE.State, .int .i64 aE.Value.Kind, .int .i64 aE.Value.N, v6aE, v7aE, .int .i64 aE.Peer, .int .i64 aE.Pos, .int .i64 aE.Count, .int .i64 aE.Sent]) := Lib.hid (KBaE_14.out.below hb15)
  have Kx0_15 : Hid (Blk w15 (w4.heap.size) 37 #[.int .i64 aE.Kind, .int .i64 aE.Script, .slice A2_4 (aE.Slots).length c2_4, .int .i64 aE.State, .int .i64 aE.Value.Kind, .int .i64 aE.Value.N, .slice A6_4 (aE.Queue).length c6_4, .slice A7_4 (aE.Askers).length c7_4, .int .i64 aE.Peer, .int .i64 aE.Pos, .int .i64 aE.Count, .int .i64 aE.Sent]) := Lib.hid (Kx0_14.out.below hb15)
  clear kcBaE_14 kfBaE_14 klBaE_14 kcx0_14 kfx0_14 klx0_14
  obtain ⟨kcBaE_15, kfBaE_15⟩ := KBaE_15.out.rules
  have klBaE_15 := KBaE_15.out.lt
  obtain ⟨kcx0_15, kfx0_15⟩ := Kx0_15.out.rules
  have klx0_15 := Kx0_15.out.lt
  clear hb15 NB15
  go_wp2_with fail
  refine (heldIntS_calls z0 _ _ _ (D5m.out.rdw.below BB11_15.out) (by omega) (by have := HC5.out; omega)).mono ?_
  rintro e w16 ⟨rr, rfl, hrr, hb16⟩
  have NB16 : Below w15.heap.size w15 w16 := hb16
  have BB0_16 := Lib.hid (BB0_15.out.trans (NB16.mono BB0_15.out.size))
  have BB2_16 := Lib.hid (BB2_15.out.trans (NB16.mono BB2_15.out.size))
  have BB3_16 := Lib.hid (BB3_15.out.trans (NB16.mono BB3_15.out.size))
  have BB11_16 := Lib.hid (BB11_15.out.trans (NB16.mono BB11_15.out.size))
  have BB13_16 := Lib.hid (BB13_15.out.trans (NB16.mono BB13_15.out.size))
  have BB14_16 := Lib.hid (BB14_15.out.trans (NB16.mono BB14_15.out.size))
  have sz16 : w15.heap.size ≤ w16.heap.size := by have h := hb16.size; (try simp only [size_alloc] at h); omega
  have KBaE_16 : Hid (Blk w16 (w.heap.size) 28 #[.int .i64 aE.Kind, .int .i64 aE.Script, v2aE, .int .i64 aE.State, .int .i64 aE.Value.Kind, .int .i64 aE.Value.N, v6aE, v7aE, .int .i64 aE.Peer, .int .i64 aE.Pos, .int .i64 aE.Count, .int .i64 aE.Sent]) := Lib.hid (KBaE_15.out.below hb16)
  have Kx0_16 : Hid (Blk w16 (w4.heap.size) 37 #[.int .i64 aE.Kind, .int .i64 aE.Script, .slice A2_4 (aE.Slots).length c2_4, .int .i64 aE.State, .int .i64 aE.Value.Kind, .int .i64 aE.Value.N, .slice A6_4 (aE.Queue).length c6_4, .slice A7_4 (aE.Askers).length c7_4, .int .i64 aE.Peer, .int .i64 aE.Pos, .int .i64 aE.Count, .int .i64 aE.Sent]) := Lib.hid (Kx0_15.out.below hb16)
  clear kcBaE_15 kfBaE_15 klBaE_15 kcx0_15 kfx0_15 klx0_15
  obtain ⟨kcBaE_16, kfBaE_16⟩ := KBaE_16.out.rules
  have klBaE_16 := KBaE_16.out.lt
  obtain ⟨kcx0_16, kfx0_16⟩ := Kx0_16.out.rules
  have klx0_16 := Kx0_16.out.lt
  clear hb16 NB16
  obtain rfl : r11 = rr := HR11.out.trans hrr.symm
  clear hrr
  go_wp2
  go_ret
  exact ⟨rfl, BB0_16.out⟩

end Go.Proofs.Ytaalbbhebmpppaa
