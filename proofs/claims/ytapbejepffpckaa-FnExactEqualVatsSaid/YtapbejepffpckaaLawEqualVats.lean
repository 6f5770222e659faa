import Derived.Test.YtapbejepffpckaaProg
import Derived.Test.YtapbejepffpckaaTypes
import Derived.StillTailTactics
import Derived.Deep.RegionHeld3
import Derived.Laws.IdiomStrings
import Derived.Test.YtapbejepffpckaaAppend
import Derived.Laws.StructEq
import Derived.Lib.SliceRun
import Derived.Shelf.RegionOpenPlain
import Derived.Test.YtapbejepffpckaaHelp
import Derived.Test.YtapbejepffpckaaVat
import Derived.Test.YtapbejepffpckaaEqVats
import Derived.Test.YtapbejepffpckaaEqVatsI
namespace Go.Proofs.Ytapbejepffpckaa
open Go.RowKit
set_option linter.unusedVariables false
set_option linter.unusedSimpArgs false

set_option maxHeartbeats 800000 in
set_option maxRecDepth 100000 in
theorem FnExactEqualVats_calls (w : World) (usaA : List Value) (aA : GVat) (raA : RdLW w (eVat aA) usaA) (taA : StrOkL (eVat aA)) (usaB : List Value) (aB : GVat) (raB : RdLW w (eVat aB) usaB) (taB : StrOkL (eVat aB)) :
    Calls Try.prog 11 #[.agg usaA.toArray, .agg usaB.toArray] w fun e w' => e = .returned (.bool true) ∧ Below w.heap.size w w' := by
  have ARaA := Lib.hid raA
  obtain ⟨v1aA, v2aA, v3aA, v4aA, rfl, -, -, -, -⟩ := rd_eVat raA
  clear raA
  have TSaA := Lib.hid taA
  clear taA
  have ARaB := Lib.hid raB
  obtain ⟨v1aB, v2aB, v3aB, v4aB, rfl, -, -, -, -⟩ := rd_eVat raB
  clear raB
  have TSaB := Lib.hid taB
  clear taB
  go_enter Try.func11, Try.ntmps11
  go_wp2_with fail
  refine (szVat_calls _ aA _ _ (ARaA.out.below (((Below.refl _ _).alloc (Nat.le_refl _) _).alloc (by (try simp only [size_alloc]); omega) _)) TSaA.out (by omega) (by omega)).mono ?_
  rintro e w1 ⟨r1, rfl, hr1, hb1⟩
  have NB1 : Below w.heap.size w w1 := ((((Below.refl _ _).alloc (Nat.le_refl _) _).alloc (by (try simp only [size_alloc]); omega) _)).trans (hb1.mono (by (try simp only [size_alloc]); omega))
  have BB0_1 := Lib.hid (NB1)
  have sz1 : w.heap.size + 2 ≤ w1.heap.size := by have h := hb1.size; (try simp only [size_alloc] at h); omega
  have KBaA_1 : Hid (Blk w1 (w.heap.size) 27 #[.int .i64 aA.Id, v1aA, v2aA, v3aA, v4aA]) := Lib.hid (((Blk.made rfl).alloc _).below hb1)
  have KBaB_1 : Hid (Blk w1 (w.heap.size + 1) 27 #[.int .i64 aB.Id, v1aB, v2aB, v3aB, v4aB]) := Lib.hid ((Blk.made (by simp only [size_alloc])).below hb1)
  obtain ⟨kcBaA_1, kfBaA_1⟩ := KBaA_1.out.rules
  have klBaA_1 := KBaA_1.out.lt
  obtain ⟨kcBaB_1, kfBaB_1⟩ := KBaB_1.out.rules
  have klBaB_1 := KBaB_1.out.lt
  clear hb1 NB1
  rcases hr1 with rfl | ⟨hr1, hr1_0⟩
  · go_wp2
    go_ret
    exact ⟨rfl, BB0_1.out⟩
  have hszaA : sizL (eVat aA) ≤ 1048576 := by omega
  have hr1_9 : r1 ≤ 1048576 := by omega
  clear hr1
  go_wp2_with fail
  refine (szVat_calls _ aB _ _ (ARaB.out.below BB0_1.out) TSaB.out (by omega) (by omega)).mono ?_
  rintro e w2 ⟨r2, rfl, hr2, hb2⟩
  have NB2 : Below w1.heap.size w1 w2 := hb2
  have BB0_2 := Lib.hid (BB0_1.out.trans (NB2.mono BB0_1.out.size))
  have sz2 : w1.heap.size ≤ w2.heap.size := by have h := hb2.size; (try simp only [size_alloc] at h); omega
  have KBaA_2 : Hid (Blk w2 (w.heap.size) 27 #[.int .i64 aA.Id, v1aA, v2aA, v3aA, v4aA]) := Lib.hid (KBaA_1.out.below hb2)
  have KBaB_2 : Hid (Blk w2 (w.heap.size + 1) 27 #[.int .i64 aB.Id, v1aB, v2aB, v3aB, v4aB]) := Lib.hid (KBaB_1.out.below hb2)
  clear kcBaA_1 kfBaA_1 klBaA_1 kcBaB_1 kfBaB_1 klBaB_1
  obtain ⟨kcBaA_2, kfBaA_2⟩ := KBaA_2.out.rules
  have klBaA_2 := KBaA_2.out.lt
  obtain ⟨kcBaB_2, kfBaB_2⟩ := KBaB_2.out.rules
  have klBaB_2 := KBaB_2.out.lt
  clear hb2 NB2
  rcases hr2 with rfl | ⟨hr2, hr2_0⟩
  · go_wp2
    go_ret
    exact ⟨rfl, BB0_2.out⟩
  have hszaB : sizL (eVat aB) ≤ 1048576 := by omega
  have hr2_9 : r2 ≤ 1048576 := by omega
  clear hr2
  go_wp2
  go_region_held3 (fun wq => wq.cell? ⟨w.heap.size, 0, none⟩ = some (.int .i64 aA.Id) ∧ wq.cell? ⟨w.heap.size, 1, none⟩ = some (v1aA) ∧ wq.cell? ⟨w.heap.size, 2, none⟩ = some (v2aA) ∧ wq.cell? ⟨w.heap.size, 3, none⟩ = some (v3aA) ∧ wq.cell? ⟨w.heap.size, 4, none⟩ = some (v4aA) ∧ wq.cell? ⟨w.heap.size + 1, 0, none⟩ = some (.int .i64 aB.Id) ∧ wq.cell? ⟨w.heap.size + 1, 1, none⟩ = some (v1aB) ∧ wq.cell? ⟨w.heap.size + 1, 2, none⟩ = some (v2aB) ∧ wq.cell? ⟨w.heap.size + 1, 3, none⟩ = some (v3aB) ∧ wq.cell? ⟨w.heap.size + 1, 4, none⟩ = some (v4aB))
    (first | exact ⟨kcBaA_5q 0, kcBaA_5q 1, kcBaA_5q 2, kcBaA_5q 3, kcBaA_5q 4, kcBaB_5q 0, kcBaB_5q 1, kcBaB_5q 2, kcBaB_5q 3, kcBaB_5q 4⟩ | exact ⟨kcBaA_4q 0, kcBaA_4q 1, kcBaA_4q 2, kcBaA_4q 3, kcBaA_4q 4, kcBaB_4q 0, kcBaB_4q 1, kcBaB_4q 2, kcBaB_4q 3, kcBaB_4q 4⟩ | exact ⟨kcBaA_3q 0, kcBaA_3q 1, kcBaA_3q 2, kcBaA_3q 3, kcBaA_3q 4, kcBaB_3q 0, kcBaB_3q 1, kcBaB_3q 2, kcBaB_3q 3, kcBaB_3q 4⟩ | exact ⟨kcBaA_2 0, kcBaA_2 1, kcBaA_2 2, kcBaA_2 3, kcBaA_2 4, kcBaB_2 0, kcBaB_2 1, kcBaB_2 2, kcBaB_2 3, kcBaB_2 4⟩)
    (first
      | (have _hq := hbq4; clear _hq; go_at_call 36; refine (spec_EqualVats_calls _ aA _ aB _ (o3.rdw.below hbq4) o4.rdw (by omega) (by omega)).mono ?_; rintro e w5 ⟨rfl, hbq5⟩; obtain ⟨kcBaA_5q, kfBaA_5q⟩ := (((KBaA_2.out.drew.below hbq3).below hbq4).below hbq5).rules; obtain ⟨kcBaB_5q, kfBaB_5q⟩ := (((KBaB_2.out.drew.below hbq3).below hbq4).below hbq5).rules)
      | (have _hq := hbq3; clear _hq; go_at_call 17; refine (toVat_calls _ aB _ ((ARaB.out.below BB0_2.out).below ((Below.refl _ _).drew.trans hbq3)) (by omega)).mono ?_; rintro e w4 ⟨u4, fp4, rfl, o4, f4, hbq4⟩; obtain ⟨kcBaA_4q, kfBaA_4q⟩ := ((KBaA_2.out.drew.below hbq3).below hbq4).rules; obtain ⟨kcBaB_4q, kfBaB_4q⟩ := ((KBaB_2.out.drew.below hbq3).below hbq4).rules)
      | (go_at_call 17; refine (toVat_calls _ aA _ ((ARaA.out.below BB0_2.out).below (Below.refl _ _).drew) (by omega)).mono ?_; rintro e w3 ⟨u3, fp3, rfl, o3, f3, hbq3⟩; obtain ⟨kcBaA_3q, kfBaA_3q⟩ := (KBaA_2.out.drew.below hbq3).rules; obtain ⟨kcBaB_3q, kfBaB_3q⟩ := (KBaB_2.out.drew.below hbq3).rules))
  clear kcBaA_3q kfBaA_3q kcBaA_4q kfBaA_4q kcBaA_5q kfBaA_5q kcBaB_3q kfBaB_3q kcBaB_4q kfBaB_4q kcBaB_5q kfBaB_5q
  have hb3 := (Below.refl w2.heap.size w2).drew.trans hbq3
  have hb4 := hbq4
  have hb5 := hbq5
  clear hbq3 hbq4 hbq5 o3 f3 o4 f4
  have NB3 : Below w2.heap.size w2 w3 := hb3
  have BB0_3 := Lib.hid (BB0_2.out.trans (NB3.mono BB0_2.out.size))
  have sz3 : w2.heap.size ≤ w3.heap.size := by have h := hb3.size; (try simp only [size_alloc] at h); omega
  have KBaA_3 : Hid (Blk w3 (w.heap.size) 27 #[.int .i64 aA.Id, v1aA, v2aA, v3aA, v4aA]) := Lib.hid (KBaA_2.out.below hb3)
  have KBaB_3 : Hid (Blk w3 (w.heap.size + 1) 27 #[.int .i64 aB.Id, v1aB, v2aB, v3aB, v4aB]) := Lib.hid (KBaB_2.out.below hb3)
  clear kcBaA_2 kfBaA_2 klBaA_2 kcBaB_2 kfBaB_2 klBaB_2
  obtain ⟨kcBaA_3, kfBaA_3⟩ := KBaA_3.out.rules
  have klBaA_3 := KBaA_3.out.lt
  obtain ⟨kcBaB_3, kfBaB_3⟩ := KBaB_3.out.rules
  have klBaB_3 := KBaB_3.out.lt
  clear hb3 NB3
  have NB4 : Below w3.heap.size w3 w4 := hb4
  have BB0_4 := Lib.hid (BB0_3.out.trans (NB4.mono BB0_3.out.size))
  have sz4 : w3.heap.size ≤ w4.heap.size := by have h := hb4.size; (try simp only [size_alloc] at h); omega
  have KBaA_4 : Hid (Blk w4 (w.heap.size) 27 #[.int .i64 aA.Id, v1aA, v2aA, v3aA, v4aA]) := Lib.hid (KBaA_3.out.below hb4)
  have KBaB_4 : Hid (Blk w4 (w.heap.size + 1) 27 #[.int .i64 aB.Id, v1aB, v2aB, v3aB, v4aB]) := Lib.hid (KBaB_3.out.below hb4)
  clear kcBaA_3 kfBaA_3 klBaA_3 kcBaB_3 kfBaB_3 klBaB_3
  obtain ⟨kcBaA_4, kfBaA_4⟩ := KBaA_4.out.rules
  have klBaA_4 := KBaA_4.out.lt
  obtain ⟨kcBaB_4, kfBaB_4⟩ := KBaB_4.out.rules
  have klBaB_4 := KBaB_4.out.lt
  clear hb4 NB4
  have NB5 : Below w4.heap.size w4 w5 := hb5
  have BB0_5 := Lib.hid (BB0_4.out.trans (NB5.mono BB0_4.out.size))
  have sz5 : w4.heap.size ≤ w5.heap.size := by have h := hb5.size; (try simp only [size_alloc] at h); omega
  have KBaA_5 : Hid (Blk w5 (w.heap.size) 27 #[.int .i64 aA.Id, v1aA, v2aA, v3aA, v4aA]) := Lib.hid (KBaA_4.out.below hb5)
  have KBaB_5 : Hid (Blk w5 (w.heap.size + 1) 27 #[.int .i64 aB.Id, v1aB, v2aB, v3aB, v4aB]) := Lib.hid (KBaB_4.out.below hb5)
  clear kcBaA_4 kfBaA_4 klBaA_4 kcBaB_4 kfBaB_4 klBaB_4
  obtain ⟨kcBaA_5, kfBaA_5⟩ := KBaA_5.out.rules
  have klBaA_5 := KBaA_5.out.lt
  obtain ⟨kcBaB_5, kfBaB_5⟩ := KBaB_5.out.rules
  have klBaB_5 := KBaB_5.out.lt
  clear hb5 NB5
  go_wp2_with fail
  refine (toVat_calls _ aA _ (ARaA.out.below BB0_5.out) (by omega)).mono ?_
  rintro e w6 ⟨u6, fp6, rfl, o6, f6, hb6⟩
  have NB6 : Below w5.heap.size w5 w6 := hb6
  have BB0_6 := Lib.hid (BB0_5.out.trans (NB6.mono BB0_5.out.size))
  have sz6 : w5.heap.size ≤ w6.heap.size := by have h := hb6.size; (try simp only [size_alloc] at h); omega
  have KBaA_6 : Hid (Blk w6 (w.heap.size) 27 #[.int .i64 aA.Id, v1aA, v2aA, v3aA, v4aA]) := Lib.hid (KBaA_5.out.below hb6)
  have KBaB_6 : Hid (Blk w6 (w.heap.size + 1) 27 #[.int .i64 aB.Id, v1aB, v2aB, v3aB, v4aB]) := Lib.hid (KBaB_5.out.below hb6)
  clear kcBaA_5 kfBaA_5 klBaA_5 kcBaB_5 kfBaB_5 klBaB_5
  obtain ⟨kcBaA_6, kfBaA_6⟩ := KBaA_6.out.rules
  have klBaA_6 := KBaA_6.out.lt
  obtain ⟨kcBaB_6, kfBaB_6⟩ := KBaB_6.out.rules
  have klBaB_6 := KBaB_6.out.lt
  clear hb6 NB6
  obtain ⟨v1_6, f1_6, v2_6, f2_6, v3_6, f3_6, v4_6, f4_6, rfl, -, q1_6, q2_6, q3_6, q4_6⟩ := own_eVat o6
  obtain ⟨A1_6, c1_6, rfl, -⟩ := q1_6.slice
  obtain ⟨A2_6, c2_6, rfl, -⟩ := q2_6.slice
  obtain ⟨A3_6, c3_6, rfl, -⟩ := q3_6.slice
  obtain ⟨A4_6, c4_6, rfl, -⟩ := q4_6.slice
  clear q1_6 q2_6 q3_6 q4_6
  have LB6 : Hid (∀ g, g ∈ fp6 → w5.heap.size ≤ g) := Lib.hid (fun g hg => by have h := f6.2 g hg; (try simp only [size_alloc] at h); omega)
  have UB6 : Hid (∀ g, g ∈ fp6 → g < w6.heap.size) := Lib.hid (OwnL.lt _ _ _ o6)
  have ND6 := Lib.hid f6.1
  clear f6
  have D6 := Lib.hid o6
  clear o6
  go_wp2_with fail
  refine (toVat_calls _ aB _ (ARaB.out.below (BB0_6.out.alloc (by (try simp only [size_alloc]); omega) _)) (by omega)).mono ?_
  rintro e w7 ⟨u7, fp7, rfl, o7, f7, hb7⟩
  have NB7 : Below w6.heap.size w6 w7 := (((Below.refl _ _).alloc (Nat.le_refl _) _)).trans (hb7.mono (by (try simp only [size_alloc]); omega))
  have BB0_7 := Lib.hid (BB0_6.out.trans (NB7.mono BB0_6.out.size))
  have BB6_7 := Lib.hid (NB7)
  have sz7 : w6.heap.size + 1 ≤ w7.heap.size := by have h := hb7.size; (try simp only [size_alloc] at h); omega
  have KBaA_7 : Hid (Blk w7 (w.heap.size) 27 #[.int .i64 aA.Id, v1aA, v2aA, v3aA, v4aA]) := Lib.hid ((KBaA_6.out.alloc _).below hb7)
  have KBaB_7 : Hid (Blk w7 (w.heap.size + 1) 27 #[.int .i64 aB.Id, v1aB, v2aB, v3aB, v4aB]) := Lib.hid ((KBaB_6.out.alloc _).below hb7)
  have Kx0_7 : Hid (Blk w7 (w6.heap.size) 35 #[.int .i64 aA.Id, .slice A1_6 (aA.Entities).length c1_6, .slice A2_6 (aA.Loop).length c2_6, .slice A3_6 (aA.Links).length c3_6, .slice A4_6 (aA.Out).length c4_6]) := Lib.hid ((Blk.made rfl).below hb7)
  clear kcBaA_6 kfBaA_6 klBaA_6 kcBaB_6 kfBaB_6 klBaB_6
  obtain ⟨kcBaA_7, kfBaA_7⟩ := KBaA_7.out.rules
  have klBaA_7 := KBaA_7.out.lt
  obtain ⟨kcBaB_7, kfBaB_7⟩ := KBaB_7.out.rules
  have klBaB_7 := KBaB_7.out.lt
  obtain ⟨kcx0_7, kfx0_7⟩ := Kx0_7.out.rules
  have klx0_7 := Kx0_7.out.lt
  clear hb7 NB7
  obtain ⟨v1_7, f1_7, v2_7, f2_7, v3_7, f3_7, v4_7, f4_7, rfl, -, q1_7, q2_7, q3_7, q4_7⟩ := own_eVat o7
  obtain ⟨A1_7, c1_7, rfl, -⟩ := q1_7.slice
  obtain ⟨A2_7, c2_7, rfl, -⟩ := q2_7.slice
  obtain ⟨A3_7, c3_7, rfl, -⟩ := q3_7.slice
  obtain ⟨A4_7, c4_7, rfl, -⟩ := q4_7.slice
  clear q1_7 q2_7 q3_7 q4_7
  have LB7 : Hid (∀ g, g ∈ fp7 → w6.heap.size + 1 ≤ g) := Lib.hid (fun g hg => by have h := f7.2 g hg; (try simp only [size_alloc] at h); omega)
  have UB7 : Hid (∀ g, g ∈ fp7 → g < w7.heap.size) := Lib.hid (OwnL.lt _ _ _ o7)
  have ND7 := Lib.hid f7.1
  clear f7
  have D7 := Lib.hid o7
  clear o7
  go_wp2_with fail
  refine (impl_EqualVats_calls _ aA _ aB _ (D6.out.rdw.below (BB6_7.out.alloc (by (try simp only [size_alloc]); omega) _)) (D7.out.rdw.below ((Below.refl _ _).alloc (Nat.le_refl _) _)) (by omega) (by omega)).mono ?_
  rintro e w8 ⟨rfl, hb8⟩
  have NB8 : Below w7.heap.size w7 w8 := (((Below.refl _ _).alloc (Nat.le_refl _) _)).trans (hb8.mono (by (try simp only [size_alloc]); omega))
  have BB0_8 := Lib.hid (BB0_7.out.trans (NB8.mono BB0_7.out.size))
  have BB6_8 := Lib.hid (BB6_7.out.trans (NB8.mono BB6_7.out.size))
  have BB7_8 := Lib.hid (NB8)
  have sz8 : w7.heap.size + 1 ≤ w8.heap.size := by have h := hb8.size; (try simp only [size_alloc] at h); omega
  have KBaA_8 : Hid (Blk w8 (w.heap.size) 27 #[.int .i64 aA.Id, v1aA, v2aA, v3aA, v4aA]) := Lib.hid ((KBaA_7.out.alloc _).below hb8)
  have KBaB_8 : Hid (Blk w8 (w.heap.size + 1) 27 #[.int .i64 aB.Id, v1aB, v2aB, v3aB, v4aB]) := Lib.hid ((KBaB_7.out.alloc _).below hb8)
  have Kx0_8 : Hid (Blk w8 (w6.heap.size) 35 #[.int .i64 aA.Id, .slice A1_6 (aA.Entities).length c1_6, .slice A2_6 (aA.Loop).length c2_6, .slice A3_6 (aA.Links).length c3_6, .slice A4_6 (aA.Out).length c4_6]) := Lib.hid ((Kx0_7.out.alloc _).below hb8)
  have Kx1_8 : Hid (Blk w8 (w7.heap.size) 35 #[.int .i64 aB.Id, .slice A1_7 (aB.Entities).length c1_7, .slice A2_7 (aB.Loop).length c2_7, .slice A3_7 (aB.Links).length c3_7, .slice A4_7 (aB.Out).length c4_7]) := Lib.hid ((Blk.made rfl).below hb8)
  clear kcBaA_7 kfBaA_7 klBaA_7 kcBaB_7 kfBaB_7 klBaB_7 kcx0_7 kfx0_7 klx0_7
  obtain ⟨kcBaA_8, kfBaA_8⟩ := KBaA_8.out.rules
  have klBaA_8 := KBaA_8.out.lt
  obtain ⟨kcBaB_8, kfBaB_8⟩ := KBaB_8.out.rules
  have klBaB_8 := KBaB_8.out.lt
  obtain ⟨kcx0_8, kfx0_8⟩ := Kx0_8.out.rules
  have klx0_8 := Kx0_8.out.lt
  obtain ⟨kcx1_8, kfx1_8⟩ := Kx1_8.out.rules
  have klx1_8 := Kx1_8.out.lt
  clear hb8 NB8
  go_wp2
  go_region_held3 (fun wq => wq.cell? ⟨w6.heap.size, 0, none⟩ = some (.int .i64 aA.Id) ∧ wq.cell? ⟨w6.heap.size, 1, none⟩ = some (.slice A1_6 (aA.Entities).length c1_6) ∧ wq.cell? ⟨w6.heap.size, 2, none⟩ = some (.slice A2_6 (aA.Loop).length c2_6) ∧ wq.cell? ⟨w6.heap.size, 3, none⟩ = some (.slice A3_6 (aA.Links).length c3_6) ∧ wq.cell? ⟨w6.heap.size, 4, none⟩ = some (.slice A4_6 (aA.Out).length c4_6) ∧ wq.cell? ⟨w.heap.size, 0, none⟩ = some (.int .i64 aA.Id) ∧ wq.cell? ⟨w.heap.size, 1, none⟩ = some (v1aA) ∧ wq.cell? ⟨w.heap.size, 2, none⟩ = some (v2aA) ∧ wq.cell? ⟨w.heap.size, 3, none⟩ = some (v3aA) ∧ wq.cell? ⟨w.heap.size, 4, none⟩ = some (v4aA))
    (first | exact ⟨kcx0_10q 0, kcx0_10q 1, kcx0_10q 2, kcx0_10q 3, kcx0_10q 4, kcBaA_10q 0, kcBaA_10q 1, kcBaA_10q 2, kcBaA_10q 3, kcBaA_10q 4⟩ | exact ⟨kcx0_9q 0, kcx0_9q 1, kcx0_9q 2, kcx0_9q 3, kcx0_9q 4, kcBaA_9q 0, kcBaA_9q 1, kcBaA_9q 2, kcBaA_9q 3, kcBaA_9q 4⟩ | exact ⟨kcx0_8 0, kcx0_8 1, kcx0_8 2, kcx0_8 3, kcx0_8 4, kcBaA_8 0, kcBaA_8 1, kcBaA_8 2, kcBaA_8 3, kcBaA_8 4⟩)
    (first
      | (have _hq := hbq9; clear _hq; go_at_call 19; refine (eqVat_calls _ _ aA _ ((D6.out.rdw.below BB6_8.out).below ((Below.refl _ _).drew.trans hbq9)) o9.rdw).mono ?_; rintro e w10 ⟨rfl, hbq10⟩; obtain ⟨kcx0_10q, kfx0_10q⟩ := ((Kx0_8.out.drew.below hbq9).below hbq10).rules; obtain ⟨kcBaA_10q, kfBaA_10q⟩ := ((KBaA_8.out.drew.below hbq9).below hbq10).rules)
      | (go_at_call 17; refine (toVat_calls _ aA _ ((ARaA.out.below BB0_8.out).below (Below.refl _ _).drew) (by omega)).mono ?_; rintro e w9 ⟨u9, fp9, rfl, o9, f9, hbq9⟩; obtain ⟨kcx0_9q, kfx0_9q⟩ := (Kx0_8.out.drew.below hbq9).rules; obtain ⟨kcBaA_9q, kfBaA_9q⟩ := (KBaA_8.out.drew.below hbq9).rules))
  clear kcx0_9q kfx0_9q kcx0_10q kfx0_10q kcBaA_9q kfBaA_9q kcBaA_10q kfBaA_10q
  have hb9 := (Below.refl w8.heap.size w8).drew.trans hbq9
  have hb10 := hbq10
  clear hbq9 hbq10 o9 f9
  have NB9 : Below w8.heap.size w8 w9 := hb9
  have BB0_9 := Lib.hid (BB0_8.out.trans (NB9.mono BB0_8.out.size))
  have BB6_9 := Lib.hid (BB6_8.out.trans (NB9.mono BB6_8.out.size))
  have BB7_9 := Lib.hid (BB7_8.out.trans (NB9.mono BB7_8.out.size))
  have sz9 : w8.heap.size ≤ w9.heap.size := by have h := hb9.size; (try simp only [size_alloc] at h); omega
  have KBaA_9 : Hid (Blk w9 (w.heap.size) 27 #[.int .i64 aA.Id, v1aA, v2aA, v3aA, v4aA]) := Lib.hid (KBaA_8.out.below hb9)
  have KBaB_9 : Hid (Blk w9 (w.heap.size + 1) 27 #[.int .i64 aB.Id, v1aB, v2aB, v3aB, v4aB]) := Lib.hid (KBaB_8.out.below hb9)
  have Kx0_9 : Hid (Blk w9 (w6.heap.size) 35 #[.int .i64 aA.Id, .slice A1_6 (aA.Entities).length c1_6, .slice A2_6 (aA.Loop).length c2_6, .slice A3_6 (aA.Links).length c3_6, .slice A4_6 (aA.Out).length c4_6]) := Lib.hid (Kx0_8.out.below hb9)
  have Kx1_9 : Hid (Blk w9 (w7.heap.size) 35 #[.int .i64 aB.Id, .slice A1_7 (aB.Entities).length c1_7, .slice A2_7 (aB.Loop).length c2_7, .slice A3_7 (aB.Links).length c3_7, .slice A4_7 (aB.Out).length c4_7]) := Lib.hid (Kx1_8.out.below hb9)
  clear kcBaA_8 kfBaA_8 klBaA_8 kcBaB_8 kfBaB_8 klBaB_8 kcx0_8 kfx0_8 klx0_8 kcx1_8 kfx1_8 klx1_8
  obtain ⟨kcBaA_9, kfBaA_9⟩ := KBaA_9.out.rules
  have klBaA_9 := KBaA_9.out.lt
  obtain ⟨kcBaB_9, kfBaB_9⟩ := KBaB_9.out.rules
  have klBaB_9 := KBaB_9.out.lt
  obtain ⟨kcx0_9, kfx0_9⟩ := Kx0_9.out.rules
  have klx0_9 := Kx0_9.out.lt
  obtain ⟨kcx1_9, kfx1_9⟩ := Kx1_9.out.rules
  have klx1_9 := Kx1_9.out.lt
  clear hb9 NB9
  have NB10 : Below w9.heap.size w9 w10 := hb10
  have BB0_10 := Lib.hid (BB0_9.out.trans (NB10.mono BB0_9.out.size))
  have BB6_10 := Lib.hid (BB6_9.out.trans (NB10.mono BB6_9.out.size))
  have BB7_10 := Lib.hid (BB7_9.out.trans (NB10.mono BB7_9.out.size))
  have sz10 : w9.heap.size ≤ w10.heap.size := by have h := hb10.size; (try simp only [size_alloc] at h); omega
  have KBaA_10 : Hid (Blk w10 (w.heap.size) 27 #[.int .i64 aA.Id, v1aA, v2aA, v3aA, v4aA]) := Lib.hid (KBaA_9.out.below hb10)
  have KBaB_10 : Hid (Blk w10 (w.heap.size + 1) 27 #[.int .i64 aB.Id, v1aB, v2aB, v3aB, v4aB]) := Lib.hid (KBaB_9.out.below hb10)
  have Kx0_10 : Hid (Blk w10 (w6.heap.size) 35 #[.int .i64 aA.Id, .slice A1_6 (aA.Entities).length c1_6, .slice A2_6 (aA.Loop).length c2_6, .slice A3_6 (aA.Links).length c3_6, .slice A4_6 (aA.Out).length c4_6]) := Lib.hid (Kx0_9.out.below hb10)
  have Kx1_10 : Hid (Blk w10 (w7.heap.size) 35 #[.int .i64 aB.Id, .slice A1_7 (aB.Entities).length c1_7, .slice A2_7 (aB.Loop).length c2_7, .slice A3_7 (aB.Links).length c3_7, .slice A4_7 (aB.Out).length c4_7]) := Lib.hid (Kx1_9.out.below hb10)
  clear kcBaA_9 kfBaA_9 klBaA_9 kcBaB_9 kfBaB_9 klBaB_9 kcx0_9 kfx0_9 klx0_9 kcx1_9 kfx1_9 klx1_9
  obtain ⟨kcBaA_10, kfBaA_10⟩ := KBaA_10.out.rules
  have klBaA_10 := KBaA_10.out.lt
  obtain ⟨kcBaB_10, kfBaB_10⟩ := KBaB_10.out.rules
  have klBaB_10 := KBaB_10.out.lt
  obtain ⟨kcx0_10, kfx0_10⟩ := Kx0_10.out.rules
  have klx0_10 := Kx0_10.out.lt
  obtain ⟨kcx1_10, kfx1_10⟩ := Kx1_10.out.rules
  have klx1_10 := Kx1_10.out.lt
  clear hb10 NB10
  go_wp2
  go_region_held3 (fun wq => wq.cell? ⟨w7.heap.size, 0, none⟩ = some (.int .i64 aB.Id) ∧ wq.cell? ⟨w7.heap.size, 1, none⟩ = some (.slice A1_7 (aB.Entities).length c1_7) ∧ wq.cell? ⟨w7.heap.size, 2, none⟩ = some (.slice A2_7 (aB.Loop).length c2_7) ∧ wq.cell? ⟨w7.heap.size, 3, none⟩ = some (.slice A3_7 (aB.Links).length c3_7) ∧ wq.cell? ⟨w7.heap.size, 4, none⟩ = some (.slice A4_7 (aB.Out).length c4_7) ∧ wq.cell? ⟨w.heap.size + 1, 0, none⟩ = some (.int .i64 aB.Id) ∧ wq.cell? ⟨w.heap.size + 1, 1, none⟩ = some (v1aB) ∧ wq.cell? ⟨w.heap.size + 1, 2, none⟩ = some (v2aB) ∧ wq.cell? ⟨w.heap.size + 1, 3, none⟩ = some (v3aB) ∧ wq.cell? ⟨w.heap.size + 1, 4, none⟩ = some (v4aB))
    (first | exact ⟨kcx1_12q 0, kcx1_12q 1, kcx1_12q 2, kcx1_12q 3, kcx1_12q 4, kcBaB_12q 0, kcBaB_12q 1, kcBaB_12q 2, kcBaB_12q 3, kcBaB_12q 4⟩ | exact ⟨kcx1_11q 0, kcx1_11q 1, kcx1_11q 2, kcx1_11q 3, kcx1_11q 4, kcBaB_11q 0, kcBaB_11q 1, kcBaB_11q 2, kcBaB_11q 3, kcBaB_11q 4⟩ | exact ⟨kcx1_10 0, kcx1_10 1, kcx1_10 2, kcx1_10 3, kcx1_10 4, kcBaB_10 0, kcBaB_10 1, kcBaB_10 2, kcBaB_10 3, kcBaB_10 4⟩)
    (first
      | (have _hq := hbq11; clear _hq; go_at_call 19; refine (eqVat_calls _ _ aB _ ((D7.out.rdw.below BB7_10.out).below ((Below.refl _ _).drew.trans hbq11)) o11.rdw).mono ?_; rintro e w12 ⟨rfl, hbq12⟩; obtain ⟨kcx1_12q, kfx1_12q⟩ := ((Kx1_10.out.drew.below hbq11).below hbq12).rules; obtain ⟨kcBaB_12q, kfBaB_12q⟩ := ((KBaB_10.out.drew.below hbq11).below hbq12).rules)
      | (go_at_call 17; refine (toVat_calls _ aB _ ((ARaB.out.below BB0_10.out).below (Below.refl _ _).drew) (by omega)).mono ?_; rintro e w11 ⟨u11, fp11, rfl, o11, f11, hbq11⟩; obtain ⟨kcx1_11q, kfx1_11q⟩ := (Kx1_10.out.drew.below hbq11).rules; obtain ⟨kcBaB_11q, kfBaB_11q⟩ := (KBaB_10.out.drew.below hbq11).rules))
  clear kcx1_11q kfx1_11q kcx1_12q kfx1_12q kcBaB_11q kfBaB_11q kcBaB_12q kfBaB_12q
  have hb11 := (Below.refl w10.heap.size w10).drew.trans hbq11
  have hb12 := hbq12
  clear hbq11 hbq12 o11 f11
  have NB11 : Below w10.heap.size w10 w11 := hb11
  have BB0_11 := Lib.hid (BB0_10.out.trans (NB11.mono BB0_10.out.size))
  have BB6_11 := Lib.hid (BB6_10.out.trans (NB11.mono BB6_10.out.size))
  have BB7_11 := Lib.hid (BB7_10.out.trans (NB11.mono BB7_10.out.size))
  have sz11 : w10.heap.size ≤ w11.heap.size := by have h := hb11.size; (try simp only [size_alloc] at h); omega
  have KBaA_11 : Hid (Blk w11 (w.heap.size) 27 #[.int .i64 aA.Id, v1aA, v2aA, v3aA, v4aA]) := Lib.hid (KBaA_10.out.below hb11)
  have KBaB_11 : Hid (Blk w11 (w.heap.size + 1) 27 #[.int .i64 aB.Id, v1aB, v2aB, v3aB, v4aB]) := Lib.hid (KBaB_10.out.below hb11)
  have Kx0_11 : Hid (Blk w11 (w6.heap.size) 35 #[.int .i64 aA.Id, .slice A1_6 (aA.Entities).length c1_6, .slice A2_6 (aA.Loop).length c2_6, .slice A3_6 (aA.Links).length c3_6, .slice A4_6 (aA.Out).length c4_6]) := Lib.hid (Kx0_10.out.below hb11)
  have Kx1_11 : Hid (Blk w11 (w7.heap.size) 35 #[.int .i64 aB.Id, .slice A1_7 (aB.Entities).length c1_7, .slice A2_7 (aB.Loop).length c2_7, .slice A3_7 (aB.Links).length c3_7, .slice A4_7 (aB.Out).length c4_7]) := Lib.hid (Kx1_10.out.below hb11)
  clear kcBaA_10 kfBaA_10 klBaA_10 kcBaB_10 kfBaB_10 klBaB_10 kcx0_10 kfx0_10 klx0_10 kcx1_10 kfx1_10 klx1_10
  obtain ⟨kcBaA_11, kfBaA_11⟩ := KBaA_11.out.rules
  have klBaA_11 := KBaA_11.out.lt
  obtain ⟨kcBaB_11, kfBaB_11⟩ := KBaB_11.out.rules
  have klBaB_11 := KBaB_11.out.lt
  obtain ⟨kcx0_11, kfx0_11⟩ := Kx0_11.out.rules
  have klx0_11 := Kx0_11.out.lt
  obtain ⟨kcx1_11, kfx1_11⟩ := Kx1_11.out.rules
  have klx1_11 := Kx1_11.out.lt
  clear hb11 NB11
  have NB12 : Below w11.heap.size w11 w12 := hb12
  have BB0_12 := Lib.hid (BB0_11.out.trans (NB12.mono BB0_11.out.size))
  have BB6_12 := Lib.hid (BB6_11.out.trans (NB12.mono BB6_11.out.size))
  have BB7_12 := Lib.hid (BB7_11.out.trans (NB12.mono BB7_11.out.size))
  have sz12 : w11.heap.size ≤ w12.heap.size := by have h := hb12.size; (try simp only [size_alloc] at h); omega
  have KBaA_12 : Hid (Blk w12 (w.heap.size) 27 #[.int .i64 aA.Id, v1aA, v2aA, v3aA, v4aA]) := Lib.hid (KBaA_11.out.below hb12)
  have KBaB_12 : Hid (Blk w12 (w.heap.size + 1) 27 #[.int .i64 aB.Id, v1aB, v2aB, v3aB, v4aB]) := Lib.hid (KBaB_11.out.below hb12)
  have Kx0_12 : Hid (Blk w12 (w6.heap.size) 35 #[.int .i64 aA.Id, .slice A1_6 (aA.Entities).length c1_6, .slice A2_6 (aA.Loop).length c2_6, .slice A3_6 (aA.Links).length c3_6, .slice A4_6 (aA.Out).length c4_6]) := Lib.hid (Kx0_11.out.below hb12)
  have Kx1_12 : Hid (Blk w12 (w7.heap.size) 35 #[.int .i64 aB.Id, .slice A1_7 (aB.Entities).length c1_7, .slice A2_7 (aB.Loop).length c2_7, .slice A3_7 (aB.Links).length c3_7, .slice A4_7 (aB.Out).length c4_7]) := Lib.hid (Kx1_11.out.below hb12)
  clear kcBaA_11 kfBaA_11 klBaA_11 kcBaB_11 kfBaB_11 klBaB_11 kcx0_11 kfx0_11 klx0_11 kcx1_11 kfx1_11 klx1_11
  obtain ⟨kcBaA_12, kfBaA_12⟩ := KBaA_12.out.rules
  have klBaA_12 := KBaA_12.out.lt
  obtain ⟨kcBaB_12, kfBaB_12⟩ := KBaB_12.out.rules
  have klBaB_12 := KBaB_12.out.lt
  obtain ⟨kcx0_12, kfx0_12⟩ := Kx0_12.out.rules
  have klx0_12 := Kx0_12.out.lt
  obtain ⟨kcx1_12, kfx1_12⟩ := Kx1_12.out.rules
  have klx1_12 := Kx1_12.out.lt
  clear hb12 NB12
  go_wp2
  go_ret
  exact ⟨rfl, BB0_12.out⟩

end Go.Proofs.Ytapbejepffpckaa
