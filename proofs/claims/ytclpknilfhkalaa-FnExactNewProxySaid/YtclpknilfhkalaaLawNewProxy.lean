import Derived.Test.YtclpknilfhkalaaProg
import Derived.Test.YtclpknilfhkalaaTypes
import Derived.StillTailTactics
import Derived.Deep.RegionHeld3
import Derived.Laws.IdiomStrings
import Derived.Test.YtclpknilfhkalaaAppend
import Derived.Laws.StructEq
import Derived.Lib.SliceRun
import Derived.Shelf.RegionOpenPlain
import Derived.Test.YtclpknilfhkalaaEntity
namespace Go.Proofs.Ytclpknilfhkalaa
open Go.RowKit
set_option linter.unusedVariables false
set_option linter.unusedSimpArgs false

set_option maxHeartbeats 800000 in
set_option maxRecDepth 100000 in
theorem FnExactNewProxy_calls (w : World) (aPeer : Int) (haPeer : I64 aPeer) (aPos : Int) (haPos : I64 aPos) :
    Calls Try.prog 5 #[.int .i64 aPeer, .int .i64 aPos] w fun e w' => e = .returned (.bool true) ∧ Below w.heap.size w w' := by
  go_enter Try.func5, Try.ntmps5
  obtain ⟨z0, hz0⟩ : ∃ z, z = (newProxy aPeer aPos) := ⟨_, rfl⟩
  have HZ0 := Lib.hid hz0
  clear hz0
  go_wp2_with fail
  refine (spec_NewProxy_calls aPeer aPos _ haPeer haPos).mono ?_
  rintro e w1 ⟨u1, rfl, o1, hb1⟩
  have NB1 : Below w.heap.size w w1 := hb1
  have BB0_1 := Lib.hid (NB1)
  have sz1 : w.heap.size ≤ w1.heap.size := by have h := hb1.size; (try simp only [size_alloc] at h); omega
  clear hb1 NB1
  rw [← HZ0.out] at o1
  obtain ⟨v2_1, v6_1, v7_1, rfl, q2_1, q6_1, q7_1⟩ := rd_eEntity o1
  obtain ⟨A2_1, c2_1, rfl, -⟩ := q2_1.slice
  obtain ⟨A6_1, c6_1, rfl, -⟩ := q6_1.slice
  obtain ⟨A7_1, c7_1, rfl, -⟩ := q7_1.slice
  clear q2_1 q6_1 q7_1
  have D1 := Lib.hid o1
  clear o1
  go_wp2_with fail
  refine (impl_NewProxy_calls aPeer aPos _ haPeer haPos).mono ?_
  rintro e w2 ⟨u2, fp2, rfl, o2, f2, hb2⟩
  have NB2 : Below w1.heap.size w1 w2 := (((Below.refl _ _).alloc (Nat.le_refl _) _)).trans (hb2.mono (by (try simp only [size_alloc]); omega))
  have BB0_2 := Lib.hid (BB0_1.out.trans (NB2.mono BB0_1.out.size))
  have BB1_2 := Lib.hid (NB2)
  have sz2 : w1.heap.size + 1 ≤ w2.heap.size := by have h := hb2.size; (try simp only [size_alloc] at h); omega
  have Kw0_2 : Hid (Blk w2 (w1.heap.size) 33 #[.int .i64 z0.Kind, .int .i64 z0.Script, .slice A2_1 (z0.Slots).length c2_1, .int .i64 z0.State, .int .i64 z0.Value.Kind, .int .i64 z0.Value.N, .slice A6_1 (z0.Queue).length c6_1, .slice A7_1 (z0.Askers).length c7_1, .int .i64 z0.Peer, .int .i64 z0.Pos, .int .i64 z0.Count, .int .i64 z0.Sent]) := Lib.hid ((Blk.made rfl).below hb2)
  obtain ⟨kcw0_2, kfw0_2⟩ := Kw0_2.out.rules
  have klw0_2 := Kw0_2.out.lt
  clear hb2 NB2
  rw [← HZ0.out] at o2
  obtain ⟨v2_2, f2_2, v6_2, f6_2, v7_2, f7_2, rfl, -, q2_2, q6_2, q7_2⟩ := own_eEntity o2
  obtain ⟨A2_2, c2_2, rfl, -⟩ := q2_2.slice
  obtain ⟨A6_2, c6_2, rfl, -⟩ := q6_2.slice
  obtain ⟨A7_2, c7_2, rfl, -⟩ := q7_2.slice
  clear q2_2 q6_2 q7_2
  have LB2 : Hid (∀ g, g ∈ fp2 → w1.heap.size + 1 ≤ g) := Lib.hid (fun g hg => by have h := f2.2 g hg; (try simp only [size_alloc] at h); omega)
  have UB2 : Hid (∀ g, g ∈ fp2 → g < w2.heap.size) := Lib.hid (OwnL.lt _ _ _ o2)
  have ND2 := Lib.hid f2.1
  clear f2
  have D2 := Lib.hid o2
  clear o2
  go_wp2_with fail
  refine (eqEntity_calls _ _ z0 _ (D2.out.rdw.below ((Below.refl _ _).alloc (Nat.le_refl _) _)) (D1.out.below (BB1_2.out.alloc (by (try simp only [size_alloc]); omega) _))).mono ?_
  rintro e w3 ⟨rfl, hb3⟩
  have NB3 : Below w2.heap.size w2 w3 := (((Below.refl _ _).alloc (Nat.le_refl _) _)).trans (hb3.mono (by (try simp only [size_alloc]); omega))
  have BB0_3 := Lib.hid (BB0_2.out.trans (NB3.mono BB0_2.out.size))
  have BB1_3 := Lib.hid (BB1_2.out.trans (NB3.mono BB1_2.out.size))
  have BB2_3 := Lib.hid (NB3)
  have sz3 : w2.heap.size + 1 ≤ w3.heap.size := by have h := hb3.size; (try simp only [size_alloc] at h); omega
  have Kw0_3 : Hid (Blk w3 (w1.heap.size) 33 #[.int .i64 z0.Kind, .int .i64 z0.Script, .slice A2_1 (z0.Slots).length c2_1, .int .i64 z0.State, .int .i64 z0.Value.Kind, .int .i64 z0.Value.N, .slice A6_1 (z0.Queue).length c6_1, .slice A7_1 (z0.Askers).length c7_1, .int .i64 z0.Peer, .int .i64 z0.Pos, .int .i64 z0.Count, .int .i64 z0.Sent]) := Lib.hid ((Kw0_2.out.alloc _).below hb3)
  have Kg0_3 : Hid (Blk w3 (w2.heap.size) 33 #[.int .i64 z0.Kind, .int .i64 z0.Script, .slice A2_2 (z0.Slots).length c2_2, .int .i64 z0.State, .int .i64 z0.Value.Kind, .int .i64 z0.Value.N, .slice A6_2 (z0.Queue).length c6_2, .slice A7_2 (z0.Askers).length c7_2, .int .i64 z0.Peer, .int .i64 z0.Pos, .int .i64 z0.Count, .int .i64 z0.Sent]) := Lib.hid ((Blk.made rfl).below hb3)
  clear kcw0_2 kfw0_2 klw0_2
  obtain ⟨kcw0_3, kfw0_3⟩ := Kw0_3.out.rules
  have klw0_3 := Kw0_3.out.lt
  obtain ⟨kcg0_3, kfg0_3⟩ := Kg0_3.out.rules
  have klg0_3 := Kg0_3.out.lt
  clear hb3 NB3
  have HC2 : Hid (cntL (eEntity z0) ≤ 1099511627776) := Lib.hid (by rw [HZ0.out]; exact (by rw [cnt_eEntity]; simp [newProxy, zEntity, cntL_nil]))
  go_wp2_with fail
  refine (markEntity_calls _ z0 _ fp2 _ (D2.out.below BB2_3.out) ND2.out (by omega) (by have := HC2.out; have := tcnt_le (eEntity z0); omega)).mono ?_
  rintro e w4 ⟨r4, rfl, hr4, o4, hb4⟩
  have NC4 := hb4
  have NB4 := NC4.size
  have BB0_4 := Lib.hid (below_chg BB0_3.out NC4 BB0_3.out.size (fun i hi => by have := LB2.out _ hi; omega))
  have BB1_4 := Lib.hid (below_chg BB1_3.out NC4 BB1_3.out.size (fun i hi => by have := LB2.out _ hi; omega))
  have NCk4 := NC4
  have sz4 : w3.heap.size ≤ w4.heap.size := by have h := hb4.size; (try simp only [size_alloc] at h); omega
  have Kw0_4 : Hid (Blk w4 (w1.heap.size) 33 #[.int .i64 z0.Kind, .int .i64 z0.Script, .slice A2_1 (z0.Slots).length c2_1, .int .i64 z0.State, .int .i64 z0.Value.Kind, .int .i64 z0.Value.N, .slice A6_1 (z0.Queue).length c6_1, .slice A7_1 (z0.Askers).length c7_1, .int .i64 z0.Peer, .int .i64 z0.Pos, .int .i64 z0.Count, .int .i64 z0.Sent]) := Lib.hid (Kw0_3.out.chg hb4 (fun h => by have h1 := LB2.out _ h; have h2 := UB2.out _ h; omega))
  have Kg0_4 : Hid (Blk w4 (w2.heap.size) 33 #[.int .i64 z0.Kind, .int .i64 z0.Script, .slice A2_2 (z0.Slots).length c2_2, .int .i64 z0.State, .int .i64 z0.Value.Kind, .int .i64 z0.Value.N, .slice A6_2 (z0.Queue).length c6_2, .slice A7_2 (z0.Askers).length c7_2, .int .i64 z0.Peer, .int .i64 z0.Pos, .int .i64 z0.Count, .int .i64 z0.Sent]) := Lib.hid (Kg0_3.out.chg hb4 (fun h => by have h1 := LB2.out _ h; have h2 := UB2.out _ h; omega))
  clear kcw0_3 kfw0_3 klw0_3 kcg0_3 kfg0_3 klg0_3
  obtain ⟨kcw0_4, kfw0_4⟩ := Kw0_4.out.rules
  have klw0_4 := Kw0_4.out.lt
  obtain ⟨kcg0_4, kfg0_4⟩ := Kg0_4.out.rules
  have klg0_4 := Kg0_4.out.lt
  clear hb4 NB4 NC4
  have hr4_0 : 0 ≤ r4 := by omega
  have HR4 := Lib.hid hr4
  clear hr4
  clear NCk4
  have D2m := Lib.hid o4
  clear o4
  go_wp2_with fail
  refine (heldEntity_calls _ z0 _ _ (D2m.out.rdw.below (Below.refl _ _)) (by omega) (by have := HC2.out; have := tcnt_le (eEntity z0); omega)).mono ?_
  rintro e w5 ⟨rr, rfl, hrr, hb5⟩
  have NB5 : Below w4.heap.size w4 w5 := hb5
  have BB0_5 := Lib.hid (BB0_4.out.trans (NB5.mono BB0_4.out.size))
  have BB1_5 := Lib.hid (BB1_4.out.trans (NB5.mono BB1_4.out.size))
  have BB4_5 := Lib.hid (NB5)
  have sz5 : w4.heap.size ≤ w5.heap.size := by have h := hb5.size; (try simp only [size_alloc] at h); omega
  have Kw0_5 : Hid (Blk w5 (w1.heap.size) 33 #[.int .i64 z0.Kind, .int .i64 z0.Script, .slice A2_1 (z0.Slots).length c2_1, .int .i64 z0.State, .int .i64 z0.Value.Kind, .int .i64 z0.Value.N, .slice A6_1 (z0.Queue).length c6_1, .slice A7_1 (z0.Askers).length c7_1, .int .i64 z0.Peer, .int .i64 z0.Pos, .int .i64 z0.Count, .int .i64 z0.Sent]) := Lib.hid (Kw0_4.out.below hb5)
  have Kg0_5 : Hid (Blk w5 (w2.heap.size) 33 #[.int .i64 z0.Kind, .int .i64 z0.Script, .slice A2_2 (z0.Slots).length c2_2, .int .i64 z0.State, .int .i64 z0.Value.Kind, .int .i64 z0.Value.N, .slice A6_2 (z0.Queue).length c6_2, .slice A7_2 (z0.Askers).length c7_2, .int .i64 z0.Peer, .int .i64 z0.Pos, .int .i64 z0.Count, .int .i64 z0.Sent]) := Lib.hid (Kg0_4.out.below hb5)
  clear kcw0_4 kfw0_4 klw0_4 kcg0_4 kfg0_4 klg0_4
  obtain ⟨kcw0_5, kfw0_5⟩ := Kw0_5.out.rules
  have klw0_5 := Kw0_5.out.lt
  obtain ⟨kcg0_5, kfg0_5⟩ := Kg0_5.out.rules
  have klg0_5 := Kg0_5.out.lt
  clear hb5 NB5
  obtain rfl : r4 = rr := HR4.out.trans hrr.symm
  clear hrr
  go_wp2_with fail
  refine (impl_NewProxy_calls aPeer aPos _ haPeer haPos).mono ?_
  rintro e w6 ⟨u6, fp6, rfl, o6, f6, hb6⟩
  have NB6 : Below w5.heap.size w5 w6 := hb6
  have BB0_6 := Lib.hid (BB0_5.out.trans (NB6.mono BB0_5.out.size))
  have BB1_6 := Lib.hid (BB1_5.out.trans (NB6.mono BB1_5.out.size))
  have BB4_6 := Lib.hid (BB4_5.out.trans (NB6.mono BB4_5.out.size))
  have sz6 : w5.heap.size ≤ w6.heap.size := by have h := hb6.size; (try simp only [size_alloc] at h); omega
  have Kw0_6 : Hid (Blk w6 (w1.heap.size) 33 #[.int .i64 z0.Kind, .int .i64 z0.Script, .slice A2_1 (z0.Slots).length c2_1, .int .i64 z0.State, .int .i64 z0.Value.Kind, .int .i64 z0.Value.N, .slice A6_1 (z0.Queue).length c6_1, .slice A7_1 (z0.Askers).length c7_1, .int .i64 z0.Peer, .int .i64 z0.Pos, .int .i64 z0.Count, .int .i64 z0.Sent]) := Lib.hid (Kw0_5.out.below hb6)
  have Kg0_6 : Hid (Blk w6 (w2.heap.size) 33 #[.int .i64 z0.Kind, .int .i64 z0.Script, .slice A2_2 (z0.Slots).length c2_2, .int .i64 z0.State, .int .i64 z0.Value.Kind, .int .i64 z0.Value.N, .slice A6_2 (z0.Queue).length c6_2, .slice A7_2 (z0.Askers).length c7_2, .int .i64 z0.Peer, .int .i64 z0.Pos, .int .i64 z0.Count, .int .i64 z0.Sent]) := Lib.hid (Kg0_5.out.below hb6)
  clear kcw0_5 kfw0_5 klw0_5 kcg0_5 kfg0_5 klg0_5
  obtain ⟨kcw0_6, kfw0_6⟩ := Kw0_6.out.rules
  have klw0_6 := Kw0_6.out.lt
  obtain ⟨kcg0_6, kfg0_6⟩ := Kg0_6.out.rules
  have klg0_6 := Kg0_6.out.lt
  clear hb6 NB6
  rw [← HZ0.out] at o6
  obtain ⟨v2_6, f2_6, v6_6, f6_6, v7_6, f7_6, rfl, -, q2_6, q6_6, q7_6⟩ := own_eEntity o6
  obtain ⟨A2_6, c2_6, rfl, -⟩ := q2_6.slice
  obtain ⟨A6_6, c6_6, rfl, -⟩ := q6_6.slice
  obtain ⟨A7_6, c7_6, rfl, -⟩ := q7_6.slice
  clear q2_6 q6_6 q7_6
  have LB6 : Hid (∀ g, g ∈ fp6 → w5.heap.size ≤ g) := Lib.hid (fun g hg => by have h := f6.2 g hg; (try simp only [size_alloc] at h); omega)
  have UB6 : Hid (∀ g, g ∈ fp6 → g < w6.heap.size) := Lib.hid (OwnL.lt _ _ _ o6)
  have ND6 := Lib.hid f6.1
  clear f6
  have D6 := Lib.hid o6
  clear o6
  go_wp2_with fail
  refine (eqEntity_calls _ _ z0 _ (D6.out.rdw.below ((Below.refl _ _).alloc (Nat.le_refl _) _)) (D1.out.below (BB1_6.out.alloc (by (try simp only [size_alloc]); omega) _))).mono ?_
  rintro e w7 ⟨rfl, hb7⟩
  have NB7 : Below w6.heap.size w6 w7 := (((Below.refl _ _).alloc (Nat.le_refl _) _)).trans (hb7.mono (by (try simp only [size_alloc]); omega))
  have BB0_7 := Lib.hid (BB0_6.out.trans (NB7.mono BB0_6.out.size))
  have BB1_7 := Lib.hid (BB1_6.out.trans (NB7.mono BB1_6.out.size))
  have BB4_7 := Lib.hid (BB4_6.out.trans (NB7.mono BB4_6.out.size))
  have BB6_7 := Lib.hid (NB7)
  have sz7 : w6.heap.size + 1 ≤ w7.heap.size := by have h := hb7.size; (try simp only [size_alloc] at h); omega
  have Kw0_7 : Hid (Blk w7 (w1.heap.size) 33 #[.int .i64 z0.Kind, .int .i64 z0.Script, .slice A2_1 (z0.Slots).length c2_1, .int .i64 z0.State, .int .i64 z0.Value.Kind, .int .i64 z0.Value.N, .slice A6_1 (z0.Queue).length c6_1, .slice A7_1 (z0.Askers).length c7_1, .int .i64 z0.Peer, .int .i64 z0.Pos, .int .i64 z0.Count, .int .i64 z0.Sent]) := Lib.hid ((Kw0_6.out.alloc _).below hb7)
  have Kg0_7 : Hid (Blk w7 (w2.heap.size) 33 #[.int .i64 z0.Kind, .int .i64 z0.Script, .slice A2_2 (z0.Slots).length c2_2, .int .i64 z0.State, .int .i64 z0.Value.Kind, .int .i64 z0.Value.N, .slice A6_2 (z0.Queue).length c6_2, .slice A7_2 (z0.Askers).length c7_2, .int .i64 z0.Peer, .int .i64 z0.Pos, .int .i64 z0.Count, .int .i64 z0.Sent]) := Lib.hid ((Kg0_6.out.alloc _).below hb7)
  have Kh0_7 : Hid (Blk w7 (w6.heap.size) 33 #[.int .i64 z0.Kind, .int .i64 z0.Script, .slice A2_6 (z0.Slots).length c2_6, .int .i64 z0.State, .int .i64 z0.Value.Kind, .int .i64 z0.Value.N, .slice A6_6 (z0.Queue).length c6_6, .slice A7_6 (z0.Askers).length c7_6, .int .i64 z0.Peer, .int .i64 z0.Pos, .int .i64 z0.Count, .int .i64 z0.Sent]) := Lib.hid ((Blk.made rfl).below hb7)
  clear kcw0_6 kfw0_6 klw0_6 kcg0_6 kfg0_6 klg0_6
  obtain ⟨kcw0_7, kfw0_7⟩ := Kw0_7.out.rules
  have klw0_7 := Kw0_7.out.lt
  obtain ⟨kcg0_7, kfg0_7⟩ := Kg0_7.out.rules
  have klg0_7 := Kg0_7.out.lt
  obtain ⟨kch0_7, kfh0_7⟩ := Kh0_7.out.rules
  have klh0_7 := Kh0_7.out.lt
  clear hb7 NB7
  go_wp2_with fail
  refine (heldEntity_calls _ z0 _ _ (D2m.out.rdw.below BB4_7.out) (by omega) (by have := HC2.out; have := tcnt_le (eEntity z0); omega)).mono ?_
  rintro e w8 ⟨rr, rfl, hrr, hb8⟩
  have NB8 : Below w7.heap.size w7 w8 := hb8
  have BB0_8 := Lib.hid (BB0_7.out.trans (NB8.mono BB0_7.out.size))
  have BB1_8 := Lib.hid (BB1_7.out.trans (NB8.mono BB1_7.out.size))
  have BB4_8 := Lib.hid (BB4_7.out.trans (NB8.mono BB4_7.out.size))
  have BB6_8 := Lib.hid (BB6_7.out.trans (NB8.mono BB6_7.out.size))
  have sz8 : w7.heap.size ≤ w8.heap.size := by have h := hb8.size; (try simp only [size_alloc] at h); omega
  have Kw0_8 : Hid (Blk w8 (w1.heap.size) 33 #[.int .i64 z0.Kind, .int .i64 z0.Script, .slice A2_1 (z0.Slots).length c2_1, .int .i64 z0.State, .int .i64 z0.Value.Kind, .int .i64 z0.Value.N, .slice A6_1 (z0.Queue).length c6_1, .slice A7_1 (z0.Askers).length c7_1, .int .i64 z0.Peer, .int .i64 z0.Pos, .int .i64 z0.Count, .int .i64 z0.Sent]) := Lib.hid (Kw0_7.out.below hb8)
  have Kg0_8 : Hid (Blk w8 (w2.heap.size) 33 #[.int .i64 z0.Kind, .int .i64 z0.Script, .slice A2_2 (z0.Slots).length c2_2, .int .i64 z0.State, .int .i64 z0.Value.Kind, .int .i64 z0.Value.N, .slice A6_2 (z0.Queue).length c6_2, .slice A7_2 (z0.Askers).length c7_2, .int .i64 z0.Peer, .int .i64 z0.Pos, .int .i64 z0.Count, .int .i64 z0.Sent]) := Lib.hid (Kg0_7.out.below hb8)
  have Kh0_8 : Hid (Blk w8 (w6.heap.size) 33 #[.int .i64 z0.Kind, .int .i64 z0.Script, .slice A2_6 (z0.Slots).length c2_6, .int .i64 z0.State, .int .i64 z0.Value.Kind, .int .i64 z0.Value.N, .slice A6_6 (z0.Queue).length c6_6, .slice A7_6 (z0.Askers).length c7_6, .int .i64 z0.Peer, .int .i64 z0.Pos, .int .i64 z0.Count, .int .i64 z0.Sent]) := Lib.hid (Kh0_7.out.below hb8)
  clear kcw0_7 kfw0_7 klw0_7 kcg0_7 kfg0_7 klg0_7 kch0_7 kfh0_7 klh0_7
  obtain ⟨kcw0_8, kfw0_8⟩ := Kw0_8.out.rules
  have klw0_8 := Kw0_8.out.lt
  obtain ⟨kcg0_8, kfg0_8⟩ := Kg0_8.out.rules
  have klg0_8 := Kg0_8.out.lt
  obtain ⟨kch0_8, kfh0_8⟩ := Kh0_8.out.rules
  have klh0_8 := Kh0_8.out.lt
  clear hb8 NB8
  obtain rfl : r4 = rr := HR4.out.trans hrr.symm
  clear hrr
  go_wp2
  go_ret
  exact ⟨rfl, BB0_8.out⟩

end Go.Proofs.Ytclpknilfhkalaa
