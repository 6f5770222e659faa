import Derived.Test.YtapbejepffpckaaProg
import Derived.Test.YtapbejepffpckaaTypes
import Derived.StillTailTactics
import Derived.Deep.RegionHeld3
import Derived.Laws.IdiomStrings
import Derived.Test.YtapbejepffpckaaAppend
import Derived.Laws.StructEq
import Derived.Lib.SliceRun
import Derived.Shelf.RegionOpenPlain
import Derived.Test.YtapbejepffpckaaHelp
import Derived.Test.YtapbejepffpckaaVat
import Derived.Test.YtapbejepffpckaaVat5
namespace Go.Proofs.Ytapbejepffpckaa
open Go.RowKit
set_option linter.unusedVariables false
set_option linter.unusedSimpArgs false

set_option maxHeartbeats 800000 in
set_option maxRecDepth 100000 in
theorem FnExactIsLocal_calls (w : World) (usaV : List Value) (aV : GVat) (raV : RdLW w (eVat aV) usaV) (taV : StrOkL (eVat aV)) (usaX : List Value) (aX : GValue) (raX : RdLW w (eValue aX) usaX) :
    Calls Try.prog 10 #[.agg usaV.toArray, .agg usaX.toArray] w fun e w' => e = .returned (.bool true) ∧ Below w.heap.size w w' := by
  have ARaV := Lib.hid raV
  obtain ⟨v1aV, v2aV, v3aV, v4aV, rfl, -, -, -, -⟩ := rd_eVat raV
  clear raV
  have TSaV := Lib.hid taV
  clear taV
  have ARaX := Lib.hid raX
  obtain rfl := rd_eValue raX
  clear raX
  go_enter Try.func10, Try.ntmps10
  go_wp2_with fail
  refine (szVat_calls _ aV _ _ (ARaV.out.below (((Below.refl _ _).alloc (Nat.le_refl _) _).alloc (by (try simp only [size_alloc]); omega) _)) TSaV.out (by omega) (by omega)).mono ?_
  rintro e w1 ⟨r1, rfl, hr1, hb1⟩
  have NB1 : Below w.heap.size w w1 := ((((Below.refl _ _).alloc (Nat.le_refl _) _).alloc (by (try simp only [size_alloc]); omega) _)).trans (hb1.mono (by (try simp only [size_alloc]); omega))
  have BB0_1 := Lib.hid (NB1)
  have sz1 : w.heap.size + 2 ≤ w1.heap.size := by have h := hb1.size; (try simp only [size_alloc] at h); omega
  have KBaV_1 : Hid (Blk w1 (w.heap.size) 27 #[.int .i64 aV.Id, v1aV, v2aV, v3aV, v4aV]) := Lib.hid (((Blk.made rfl).alloc _).below hb1)
  have KBaX_1 : Hid (Blk w1 (w.heap.size + 1) 45 #[.int .i64 aX.Kind, .int .i64 aX.N]) := Lib.hid ((Blk.made (by simp only [size_alloc])).below hb1)
  obtain ⟨kcBaV_1, kfBaV_1⟩ := KBaV_1.out.rules
  have klBaV_1 := KBaV_1.out.lt
  obtain ⟨kcBaX_1, kfBaX_1⟩ := KBaX_1.out.rules
  have klBaX_1 := KBaX_1.out.lt
  clear hb1 NB1
  rcases hr1 with rfl | ⟨hr1, hr1_0⟩
  · go_wp2
    go_ret
    exact ⟨rfl, BB0_1.out⟩
  have hszaV : sizL (eVat aV) ≤ 1048576 := by omega
  have hr1_9 : r1 ≤ 1048576 := by omega
  clear hr1
  go_wp2
  go_region_held3 (fun wq => wq.cell? ⟨w.heap.size, 0, none⟩ = some (.int .i64 aV.Id) ∧ wq.cell? ⟨w.heap.size, 1, none⟩ = some (v1aV) ∧ wq.cell? ⟨w.heap.size, 2, none⟩ = some (v2aV) ∧ wq.cell? ⟨w.heap.size, 3, none⟩ = some (v3aV) ∧ wq.cell? ⟨w.heap.size, 4, none⟩ = some (v4aV) ∧ wq.cell? ⟨w.heap.size + 1, 0, none⟩ = some (.int .i64 aX.Kind) ∧ wq.cell? ⟨w.heap.size + 1, 1, none⟩ = some (.int .i64 aX.N))
    (first | exact ⟨kcBaV_4q 0, kcBaV_4q 1, kcBaV_4q 2, kcBaV_4q 3, kcBaV_4q 4, kcBaX_4q 0, kcBaX_4q 1⟩ | exact ⟨kcBaV_3q 0, kcBaV_3q 1, kcBaV_3q 2, kcBaV_3q 3, kcBaV_3q 4, kcBaX_3q 0, kcBaX_3q 1⟩ | exact ⟨kcBaV_2q 0, kcBaV_2q 1, kcBaV_2q 2, kcBaV_2q 3, kcBaV_2q 4, kcBaX_2q 0, kcBaX_2q 1⟩ | exact ⟨kcBaV_1 0, kcBaV_1 1, kcBaV_1 2, kcBaV_1 3, kcBaV_1 4, kcBaX_1 0, kcBaX_1 1⟩)
    (first
      | (have _hq := hbq3; clear _hq; go_at_call 34; refine (spec_IsLocal_calls _ aV _ aX _ (o2.rdw.below hbq3) o3.rdw (by omega)).mono ?_; rintro e w4 ⟨rfl, hbq4⟩; obtain ⟨kcBaV_4q, kfBaV_4q⟩ := (((KBaV_1.out.drew.below hbq2).below hbq3).below hbq4).rules; obtain ⟨kcBaX_4q, kfBaX_4q⟩ := (((KBaX_1.out.drew.below hbq2).below hbq3).below hbq4).rules)
      | (have _hq := hbq2; clear _hq; go_at_call 29; refine (toValue_calls _ aX _ ((ARaX.out.below BB0_1.out).below ((Below.refl _ _).drew.trans hbq2))).mono ?_; rintro e w3 ⟨u3, fp3, rfl, o3, f3, hbq3⟩; obtain ⟨kcBaV_3q, kfBaV_3q⟩ := ((KBaV_1.out.drew.below hbq2).below hbq3).rules; obtain ⟨kcBaX_3q, kfBaX_3q⟩ := ((KBaX_1.out.drew.below hbq2).below hbq3).rules)
      | (go_at_call 17; refine (toVat_calls _ aV _ ((ARaV.out.below BB0_1.out).below (Below.refl _ _).drew) (by omega)).mono ?_; rintro e w2 ⟨u2, fp2, rfl, o2, f2, hbq2⟩; obtain ⟨kcBaV_2q, kfBaV_2q⟩ := (KBaV_1.out.drew.below hbq2).rules; obtain ⟨kcBaX_2q, kfBaX_2q⟩ := (KBaX_1.out.drew.below hbq2).rules))
  clear kcBaV_2q kfBaV_2q kcBaV_3q kfBaV_3q kcBaV_4q kfBaV_4q kcBaX_2q kfBaX_2q kcBaX_3q kfBaX_3q kcBaX_4q kfBaX_4q
  have hb2 := (Below.refl w1.heap.size w1).drew.trans hbq2
  have hb3 := hbq3
  have hb4 := hbq4
  clear hbq2 hbq3 hbq4 o2 f2 o3 f3
  have NB2 : Below w1.heap.size w1 w2 := hb2
  have BB0_2 := Lib.hid (BB0_1.out.trans (NB2.mono BB0_1.out.size))
  have sz2 : w1.heap.size ≤ w2.heap.size := by have h := hb2.size; (try simp only [size_alloc] at h); omega
  have KBaV_2 : Hid (Blk w2 (w.heap.size) 27 #[.int .i64 aV.Id, v1aV, v2aV, v3aV, v4aV]) := Lib.hid (KBaV_1.out.below hb2)
  have KBaX_2 : Hid (Blk w2 (w.heap.size + 1) 45 #[.int .i64 aX.Kind, .int .i64 aX.N]) := Lib.hid (KBaX_1.out.below hb2)
  clear kcBaV_1 kfBaV_1 klBaV_1 kcBaX_1 kfBaX_1 klBaX_1
  obtain ⟨kcBaV_2, kfBaV_2⟩ := KBaV_2.out.rules
  have klBaV_2 := KBaV_2.out.lt
  obtain ⟨kcBaX_2, kfBaX_2⟩ := KBaX_2.out.rules
  have klBaX_2 := KBaX_2.out.lt
  clear hb2 NB2
  have NB3 : Below w2.heap.size w2 w3 := hb3
  have BB0_3 := Lib.hid (BB0_2.out.trans (NB3.mono BB0_2.out.size))
  have sz3 : w2.heap.size ≤ w3.heap.size := by have h := hb3.size; (try simp only [size_alloc] at h); omega
  have KBaV_3 : Hid (Blk w3 (w.heap.size) 27 #[.int .i64 aV.Id, v1aV, v2aV, v3aV, v4aV]) := Lib.hid (KBaV_2.out.below hb3)
  have KBaX_3 : Hid (Blk w3 (w.heap.size + 1) 45 #[.int .i64 aX.Kind, .int .i64 aX.N]) := Lib.hid (KBaX_2.out.below hb3)
  clear kcBaV_2 kfBaV_2 klBaV_2 kcBaX_2 kfBaX_2 klBaX_2
  obtain ⟨kcBaV_3, kfBaV_3⟩ := KBaV_3.out.rules
  have klBaV_3 := KBaV_3.out.lt
  obtain ⟨kcBaX_3, kfBaX_3⟩ := KBaX_3.out.rules
  have klBaX_3 := KBaX_3.out.lt
  clear hb3 NB3
  have NB4 : Below w3.heap.size w3 w4 := hb4
  have BB0_4 := Lib.hid (BB0_3.out.trans (NB4.mono BB0_3.out.size))
  have sz4 : w3.heap.size ≤ w4.heap.size := by have h := hb4.size; (try simp only [size_alloc] at h); omega
  have KBaV_4 : Hid (Blk w4 (w.heap.size) 27 #[.int .i64 aV.Id, v1aV, v2aV, v3aV, v4aV]) := Lib.hid (KBaV_3.out.below hb4)
  have KBaX_4 : Hid (Blk w4 (w.heap.size + 1) 45 #[.int .i64 aX.Kind, .int .i64 aX.N]) := Lib.hid (KBaX_3.out.below hb4)
  clear kcBaV_3 kfBaV_3 klBaV_3 kcBaX_3 kfBaX_3 klBaX_3
  obtain ⟨kcBaV_4, kfBaV_4⟩ := KBaV_4.out.rules
  have klBaV_4 := KBaV_4.out.lt
  obtain ⟨kcBaX_4, kfBaX_4⟩ := KBaX_4.out.rules
  have klBaX_4 := KBaX_4.out.lt
  clear hb4 NB4
  go_wp2_with fail
  refine (toVat_calls _ aV _ (ARaV.out.below BB0_4.out) (by omega)).mono ?_
  rintro e w5 ⟨u5, fp5, rfl, o5, f5, hb5⟩
  have NB5 : Below w4.heap.size w4 w5 := hb5
  have BB0_5 := Lib.hid (BB0_4.out.trans (NB5.mono BB0_4.out.size))
  have sz5 : w4.heap.size ≤ w5.heap.size := by have h := hb5.size; (try simp only [size_alloc] at h); omega
  have KBaV_5 : Hid (Blk w5 (w.heap.size) 27 #[.int .i64 aV.Id, v1aV, v2aV, v3aV, v4aV]) := Lib.hid (KBaV_4.out.below hb5)
  have KBaX_5 : Hid (Blk w5 (w.heap.size + 1) 45 #[.int .i64 aX.Kind, .int .i64 aX.N]) := Lib.hid (KBaX_4.out.below hb5)
  clear kcBaV_4 kfBaV_4 klBaV_4 kcBaX_4 kfBaX_4 klBaX_4
  obtain ⟨kcBaV_5, kfBaV_5⟩ := KBaV_5.out.rules
  have klBaV_5 := KBaV_5.out.lt
  obtain ⟨kcBaX_5, kfBaX_5⟩ := KBaX_5.out.rules
  have klBaX_5 := KBaX_5.out.lt
  clear hb5 NB5
  obtain ⟨v1_5, f1_5, v2_5, f2_5, v3_5, f3_5, v4_5, f4_5, rfl, -, q1_5, q2_5, q3_5, q4_5⟩ := own_eVat o5
  obtain ⟨A1_5, c1_5, rfl, -⟩ := q1_5.slice
  obtain ⟨A2_5, c2_5, rfl, -⟩ := q2_5.slice
  obtain ⟨A3_5, c3_5, rfl, -⟩ := q3_5.slice
  obtain ⟨A4_5, c4_5, rfl, -⟩ := q4_5.slice
  clear q1_5 q2_5 q3_5 q4_5
  have LB5 : Hid (∀ g, g ∈ fp5 → w4.heap.size ≤ g) := Lib.hid (fun g hg => by have h := f5.2 g hg; (try simp only [size_alloc] at h); omega)
  have UB5 : Hid (∀ g, g ∈ fp5 → g < w5.heap.size) := Lib.hid (OwnL.lt _ _ _ o5)
  have ND5 := Lib.hid f5.1
  clear f5
  have D5 := Lib.hid o5
  clear o5
  go_wp2
  obtain ⟨w6, hw6⟩ : ∃ q, q = (w5.alloc (.cells #[.int .i64 aV.Id, .slice A1_5 (aV.Entities).length c1_5, .slice A2_5 (aV.Loop).length c2_5, .slice A3_5 (aV.Links).length c3_5, .slice A4_5 (aV.Out).length c4_5] 35)) := ⟨_, rfl⟩
  rw [← hw6]
  have hb6 : Below (w5.alloc (.cells #[.int .i64 aV.Id, .slice A1_5 (aV.Entities).length c1_5, .slice A2_5 (aV.Loop).length c2_5, .slice A3_5 (aV.Links).length c3_5, .slice A4_5 (aV.Out).length c4_5] 35)).heap.size (w5.alloc (.cells #[.int .i64 aV.Id, .slice A1_5 (aV.Entities).length c1_5, .slice A2_5 (aV.Loop).length c2_5, .slice A3_5 (aV.Links).length c3_5, .slice A4_5 (aV.Out).length c4_5] 35)) w6 := by rw [hw6]; exact Below.refl _ _
  clear hw6
  have NB6 : Below w5.heap.size w5 w6 := (((Below.refl _ _).alloc (Nat.le_refl _) _)).trans (hb6.mono (by (try simp only [size_alloc]); omega))
  have BB0_6 := Lib.hid (BB0_5.out.trans (NB6.mono BB0_5.out.size))
  have BB5_6 := Lib.hid (NB6)
  have sz6 : w5.heap.size + 1 ≤ w6.heap.size := by have h := hb6.size; (try simp only [size_alloc] at h); omega
  have KBaV_6 : Hid (Blk w6 (w.heap.size) 27 #[.int .i64 aV.Id, v1aV, v2aV, v3aV, v4aV]) := Lib.hid ((KBaV_5.out.alloc _).below hb6)
  have KBaX_6 : Hid (Blk w6 (w.heap.size + 1) 45 #[.int .i64 aX.Kind, .int .i64 aX.N]) := Lib.hid ((KBaX_5.out.alloc _).below hb6)
  have Kx0_6 : Hid (Blk w6 (w5.heap.size) 35 #[.int .i64 aV.Id, .slice A1_5 (aV.Entities).length c1_5, .slice A2_5 (aV.Loop).length c2_5, .slice A3_5 (aV.Links).length c3_5, .slice A4_5 (aV.Out).length c4_5]) := Lib.hid ((Blk.made rfl).below hb6)
  clear kcBaV_5 kfBaV_5 klBaV_5 kcBaX_5 kfBaX_5 klBaX_5
  obtain ⟨kcBaV_6, kfBaV_6⟩ := KBaV_6.out.rules
  have klBaV_6 := KBaV_6.out.lt
  obtain ⟨kcBaX_6, kfBaX_6⟩ := KBaX_6.out.rules
  have klBaX_6 := KBaX_6.out.lt
  obtain ⟨kcx0_6, kfx0_6⟩ := Kx0_6.out.rules
  have klx0_6 := Kx0_6.out.lt
  clear hb6 NB6
  go_region_held3 (fun wq => wq.cell? ⟨w5.heap.size, 0, none⟩ = some (.int .i64 aV.Id) ∧ wq.cell? ⟨w5.heap.size, 1, none⟩ = some (.slice A1_5 (aV.Entities).length c1_5) ∧ wq.cell? ⟨w5.heap.size, 2, none⟩ = some (.slice A2_5 (aV.Loop).length c2_5) ∧ wq.cell? ⟨w5.heap.size, 3, none⟩ = some (.slice A3_5 (aV.Links).length c3_5) ∧ wq.cell? ⟨w5.heap.size, 4, none⟩ = some (.slice A4_5 (aV.Out).length c4_5) ∧ wq.cell? ⟨w.heap.size + 1, 0, none⟩ = some (.int .i64 aX.Kind) ∧ wq.cell? ⟨w.heap.size + 1, 1, none⟩ = some (.int .i64 aX.N))
    (first | exact ⟨kcx0_8q 0, kcx0_8q 1, kcx0_8q 2, kcx0_8q 3, kcx0_8q 4, kcBaX_8q 0, kcBaX_8q 1⟩ | exact ⟨kcx0_7q 0, kcx0_7q 1, kcx0_7q 2, kcx0_7q 3, kcx0_7q 4, kcBaX_7q 0, kcBaX_7q 1⟩ | exact ⟨kcx0_6 0, kcx0_6 1, kcx0_6 2, kcx0_6 3, kcx0_6 4, kcBaX_6 0, kcBaX_6 1⟩)
    (first
      | (have _hq := hbq7; clear _hq; go_at_call 35; refine (impl_IsLocal_calls _ aV _ aX _ ((D5.out.rdw.below BB5_6.out).below ((Below.refl _ _).drew.trans hbq7)) o7.rdw (by omega)).mono ?_; rintro e w8 ⟨rfl, hbq8⟩; obtain ⟨kcx0_8q, kfx0_8q⟩ := ((Kx0_6.out.drew.below hbq7).below hbq8).rules; obtain ⟨kcBaX_8q, kfBaX_8q⟩ := ((KBaX_6.out.drew.below hbq7).below hbq8).rules)
      | (go_at_call 29; refine (toValue_calls _ aX _ ((ARaX.out.below BB0_6.out).below (Below.refl _ _).drew)).mono ?_; rintro e w7 ⟨u7, fp7, rfl, o7, f7, hbq7⟩; obtain ⟨kcx0_7q, kfx0_7q⟩ := (Kx0_6.out.drew.below hbq7).rules; obtain ⟨kcBaX_7q, kfBaX_7q⟩ := (KBaX_6.out.drew.below hbq7).rules))
  clear kcx0_7q kfx0_7q kcx0_8q kfx0_8q kcBaX_7q kfBaX_7q kcBaX_8q kfBaX_8q
  have hb7 := (Below.refl w6.heap.size w6).drew.trans hbq7
  have hb8 := hbq8
  clear hbq7 hbq8 o7 f7
  have NB7 : Below w6.heap.size w6 w7 := hb7
  have BB0_7 := Lib.hid (BB0_6.out.trans (NB7.mono BB0_6.out.size))
  have BB5_7 := Lib.hid (BB5_6.out.trans (NB7.mono BB5_6.out.size))
  have sz7 : w6.heap.size ≤ w7.heap.size := by have h := hb7.size; (try simp only [size_alloc] at h); omega
  have KBaV_7 : Hid (Blk w7 (w.heap.size) 27 #[.int .i64 aV.Id, v1aV, v2aV, v3aV, v4aV]) := Lib.hid (KBaV_6.out.below hb7)
  have KBaX_7 : Hid (Blk w7 (w.heap.size + 1) 45 #[.int .i64 aX.Kind, .int .i64 aX.N]) := Lib.hid (KBaX_6.out.below hb7)
  have Kx0_7 : Hid (Blk w7 (w5.heap.size) 35 #[.int .i64 aV.Id, .slice A1_5 (aV.Entities).length c1_5, .slice A2_5 (aV.Loop).length c2_5, .slice A3_5 (aV.Links).length c3_5, .slice A4_5 (aV.Out).length c4_5]) := Lib.hid (Kx0_6.out.below hb7)
  clear kcBaV_6 kfBaV_6 klBaV_6 kcBaX_6 kfBaX_6 klBaX_6 kcx0_6 kfx0_6 klx0_6
  obtain ⟨kcBaV_7, kfBaV_7⟩ := KBaV_7.out.rules
  have klBaV_7 := KBaV_7.out.lt
  obtain ⟨kcBaX_7, kfBaX_7⟩ := KBaX_7.out.rules
  have klBaX_7 := KBaX_7.out.lt
  obtain ⟨kcx0_7, kfx0_7⟩ := Kx0_7.out.rules
  have klx0_7 := Kx0_7.out.lt
  clear hb7 NB7
  have NB8 : Below w7.heap.size w7 w8 := hb8
  have BB0_8 := Lib.hid (BB0_7.out.trans (NB8.mono BB0_7.out.size))
  have BB5_8 := Lib.hid (BB5_7.out.trans (NB8.mono BB5_7.out.size))
  have sz8 : w7.heap.size ≤ w8.heap.size := by have h := hb8.size; (try simp only [size_alloc] at h); omega
  have KBaV_8 : Hid (Blk w8 (w.heap.size) 27 #[.int .i64 aV.Id, v1aV, v2aV, v3aV, v4aV]) := Lib.hid (KBaV_7.out.below hb8)
  have KBaX_8 : Hid (Blk w8 (w.heap.size + 1) 45 #[.int .i64 aX.Kind, .int .i64 aX.N]) := Lib.hid (KBaX_7.out.below hb8)
  have Kx0_8 : Hid (Blk w8 (w5.heap.size) 35 #[.int .i64 aV.Id, .slice A1_5 (aV.Entities).length c1_5, .slice A2_5 (aV.Loop).length c2_5, .slice A3_5 (aV.Links).length c3_5, .slice A4_5 (aV.Out).length c4_5]) := Lib.hid (Kx0_7.out.below hb8)
  clear kcBaV_7 kfBaV_7 klBaV_7 kcBaX_7 kfBaX_7 klBaX_7 kcx0_7 kfx0_7 klx0_7
  obtain ⟨kcBaV_8, kfBaV_8⟩ := KBaV_8.out.rules
  have klBaV_8 := KBaV_8.out.lt
  obtain ⟨kcBaX_8, kfBaX_8⟩ := KBaX_8.out.rules
  have klBaX_8 := KBaX_8.out.lt
  obtain ⟨kcx0_8, kfx0_8⟩ := Kx0_8.out.rules
  have klx0_8 := Kx0_8.out.lt
  clear hb8 NB8
  go_wp2
  go_region_held3 (fun wq => wq.cell? ⟨w5.heap.size, 0, none⟩ = some (.int .i64 aV.Id) ∧ wq.cell? ⟨w5.heap.size, 1, none⟩ = some (.slice A1_5 (aV.Entities).length c1_5) ∧ wq.cell? ⟨w5.heap.size, 2, none⟩ = some (.slice A2_5 (aV.Loop).length c2_5) ∧ wq.cell? ⟨w5.heap.size, 3, none⟩ = some (.slice A3_5 (aV.Links).length c3_5) ∧ wq.cell? ⟨w5.heap.size, 4, none⟩ = some (.slice A4_5 (aV.Out).length c4_5) ∧ wq.cell? ⟨w.heap.size, 0, none⟩ = some (.int .i64 aV.Id) ∧ wq.cell? ⟨w.heap.size, 1, none⟩ = some (v1aV) ∧ wq.cell? ⟨w.heap.size, 2, none⟩ = some (v2aV) ∧ wq.cell? ⟨w.heap.size, 3, none⟩ = some (v3aV) ∧ wq.cell? ⟨w.heap.size, 4, none⟩ = some (v4aV))
    (first | exact ⟨kcx0_10q 0, kcx0_10q 1, kcx0_10q 2, kcx0_10q 3, kcx0_10q 4, kcBaV_10q 0, kcBaV_10q 1, kcBaV_10q 2, kcBaV_10q 3, kcBaV_10q 4⟩ | exact ⟨kcx0_9q 0, kcx0_9q 1, kcx0_9q 2, kcx0_9q 3, kcx0_9q 4, kcBaV_9q 0, kcBaV_9q 1, kcBaV_9q 2, kcBaV_9q 3, kcBaV_9q 4⟩ | exact ⟨kcx0_8 0, kcx0_8 1, kcx0_8 2, kcx0_8 3, kcx0_8 4, kcBaV_8 0, kcBaV_8 1, kcBaV_8 2, kcBaV_8 3, kcBaV_8 4⟩)
    (first
      | (have _hq := hbq9; clear _hq; go_at_call 19; refine (eqVat_calls _ _ aV _ ((D5.out.rdw.below BB5_8.out).below ((Below.refl _ _).drew.trans hbq9)) o9.rdw).mono ?_; rintro e w10 ⟨rfl, hbq10⟩; obtain ⟨kcx0_10q, kfx0_10q⟩ := ((Kx0_8.out.drew.below hbq9).below hbq10).rules; obtain ⟨kcBaV_10q, kfBaV_10q⟩ := ((KBaV_8.out.drew.below hbq9).below hbq10).rules)
      | (go_at_call 17; refine (toVat_calls _ aV _ ((ARaV.out.below BB0_8.out).below (Below.refl _ _).drew) (by omega)).mono ?_; rintro e w9 ⟨u9, fp9, rfl, o9, f9, hbq9⟩; obtain ⟨kcx0_9q, kfx0_9q⟩ := (Kx0_8.out.drew.below hbq9).rules; obtain ⟨kcBaV_9q, kfBaV_9q⟩ := (KBaV_8.out.drew.below hbq9).rules))
  clear kcx0_9q kfx0_9q kcx0_10q kfx0_10q kcBaV_9q kfBaV_9q kcBaV_10q kfBaV_10q
  have hb9 := (Below.refl w8.heap.size w8).drew.trans hbq9
  have hb10 := hbq10
  clear hbq9 hbq10 o9 f9
  have NB9 : Below w8.heap.size w8 w9 := hb9
  have BB0_9 := Lib.hid (BB0_8.out.trans (NB9.mono BB0_8.out.size))
  have BB5_9 := Lib.hid (BB5_8.out.trans (NB9.mono BB5_8.out.size))
  have sz9 : w8.heap.size ≤ w9.heap.size := by have h := hb9.size; (try simp only [size_alloc] at h); omega
  have KBaV_9 : Hid (Blk w9 (w.heap.size) 27 #[.int .i64 aV.Id, v1aV, v2aV, v3aV, v4aV]) := Lib.hid (KBaV_8.out.below hb9)
  have KBaX_9 : Hid (Blk w9 (w.heap.size + 1) 45 #[.int .i64 aX.Kind, .int .i64 aX.N]) := Lib.hid (KBaX_8.out.below hb9)
  have Kx0_9 : Hid (Blk w9 (w5.heap.size) 35 #[.int .i64 aV.Id, .slice A1_5 (aV.Entities).length c1_5, .slice A2_5 (aV.Loop).length c2_5, .slice A3_5 (aV.Links).length c3_5, .slice A4_5 (aV.Out).length c4_5]) := Lib.hid (Kx0_8.out.below hb9)
  clear kcBaV_8 kfBaV_8 klBaV_8 kcBaX_8 kfBaX_8 klBaX_8 kcx0_8 kfx0_8 klx0_8
  obtain ⟨kcBaV_9, kfBaV_9⟩ := KBaV_9.out.rules
  have klBaV_9 := KBaV_9.out.lt
  obtain ⟨kcBaX_9, kfBaX_9⟩ := KBaX_9.out.rules
  have klBaX_9 := KBaX_9.out.lt
  obtain ⟨kcx0_9, kfx0_9⟩ := Kx0_9.out.rules
  have klx0_9 := Kx0_9.out.lt
  clear hb9 NB9
  have NB10 : Below w9.heap.size w9 w10 := hb10
  have BB0_10 := Lib.hid (BB0_9.out.trans (NB10.mono BB0_9.out.size))
  have BB5_10 := Lib.hid (BB5_9.out.trans (NB10.mono BB5_9.out.size))
  have sz10 : w9.heap.size ≤ w10.heap.size := by have h := hb10.size; (try simp only [size_alloc] at h); omega
  have KBaV_10 : Hid (Blk w10 (w.heap.size) 27 #[.int .i64 aV.Id, v1aV, v2aV, v3aV, v4aV]) := Lib.hid (KBaV_9.out.below hb10)
  have KBaX_10 : Hid (Blk w10 (w.heap.size + 1) 45 #[.int .i64 aX.Kind, .int .i64 aX.N]) := Lib.hid (KBaX_9.out.below hb10)
  have Kx0_10 : Hid (Blk w10 (w5.heap.size) 35 #[.int .i64 aV.Id, .slice A1_5 (aV.Entities).length c1_5, .slice A2_5 (aV.Loop).length c2_5, .slice A3_5 (aV.Links).length c3_5, .slice A4_5 (aV.Out).length c4_5]) := Lib.hid (Kx0_9.out.below hb10)
  clear kcBaV_9 kfBaV_9 klBaV_9 kcBaX_9 kfBaX_9 klBaX_9 kcx0_9 kfx0_9 klx0_9
  obtain ⟨kcBaV_10, kfBaV_10⟩ := KBaV_10.out.rules
  have klBaV_10 := KBaV_10.out.lt
  obtain ⟨kcBaX_10, kfBaX_10⟩ := KBaX_10.out.rules
  have klBaX_10 := KBaX_10.out.lt
  obtain ⟨kcx0_10, kfx0_10⟩ := Kx0_10.out.rules
  have klx0_10 := Kx0_10.out.lt
  clear hb10 NB10
  go_wp2
  go_ret
  exact ⟨rfl, BB0_10.out⟩

end Go.Proofs.Ytapbejepffpckaa
