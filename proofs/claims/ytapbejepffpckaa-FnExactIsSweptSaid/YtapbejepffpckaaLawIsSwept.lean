import Derived.Test.YtapbejepffpckaaProg
import Derived.Test.YtapbejepffpckaaTypes
import Derived.StillTailTactics
import Derived.Deep.RegionHeld3
import Derived.Laws.IdiomStrings
import Derived.Test.YtapbejepffpckaaAppend
import Derived.Laws.StructEq
import Derived.Lib.SliceRun
import Derived.Shelf.RegionOpenPlain
import Derived.Test.YtapbejepffpckaaHelp
import Derived.Test.YtapbejepffpckaaVat
namespace Go.Proofs.Ytapbejepffpckaa
open Go.RowKit
set_option linter.unusedVariables false
set_option linter.unusedSimpArgs false

set_option maxHeartbeats 800000 in
set_option maxRecDepth 100000 in
theorem FnExactIsSwept_calls (w : World) (usaV : List Value) (aV : GVat) (raV : RdLW w (eVat aV) usaV) (taV : StrOkL (eVat aV)) (aI : Int) (haI : I64 aI) :
    Calls Try.prog 7 #[.agg usaV.toArray, .int .i64 aI] w fun e w' => e = .returned (.bool true) ∧ Below w.heap.size w w' := by
  have ARaV := Lib.hid raV
  obtain ⟨v1aV, v2aV, v3aV, v4aV, rfl, -, -, -, -⟩ := rd_eVat raV
  clear raV
  have TSaV := Lib.hid taV
  clear taV
  go_enter Try.func7, Try.ntmps7
  go_wp2_with fail
  refine (szVat_calls _ aV _ _ (ARaV.out.below ((Below.refl _ _).alloc (Nat.le_refl _) _)) TSaV.out (by omega) (by omega)).mono ?_
  rintro e w1 ⟨r1, rfl, hr1, hb1⟩
  have NB1 : Below w.heap.size w w1 := (((Below.refl _ _).alloc (Nat.le_refl _) _)).trans (hb1.mono (by (try simp only [size_alloc]); omega))
  have BB0_1 := Lib.hid (NB1)
  have sz1 : w.heap.size + 1 ≤ w1.heap.size := by have h := hb1.size; (try simp only [size_alloc] at h); omega
  have KBaV_1 : Hid (Blk w1 (w.heap.size) 27 #[.int .i64 aV.Id, v1aV, v2aV, v3aV, v4aV]) := Lib.hid ((Blk.made rfl).below hb1)
  obtain ⟨kcBaV_1, kfBaV_1⟩ := KBaV_1.out.rules
  have klBaV_1 := KBaV_1.out.lt
  clear hb1 NB1
  rcases hr1 with rfl | ⟨hr1, hr1_0⟩
  · go_wp2
    go_ret
    exact ⟨rfl, BB0_1.out⟩
  have hszaV : sizL (eVat aV) ≤ 1048576 := by omega
  have hr1_9 : r1 ≤ 1048576 := by omega
  clear hr1
  go_wp2_with fail
  refine (toVat_calls _ aV _ (ARaV.out.below BB0_1.out) (by omega)).mono ?_
  rintro e w2 ⟨u2, fp2, rfl, o2, f2, hb2⟩
  have NB2 : Below w1.heap.size w1 w2 := hb2
  have BB0_2 := Lib.hid (BB0_1.out.trans (NB2.mono BB0_1.out.size))
  have sz2 : w1.heap.size ≤ w2.heap.size := by have h := hb2.size; (try simp only [size_alloc] at h); omega
  have KBaV_2 : Hid (Blk w2 (w.heap.size) 27 #[.int .i64 aV.Id, v1aV, v2aV, v3aV, v4aV]) := Lib.hid (KBaV_1.out.below hb2)
  clear kcBaV_1 kfBaV_1 klBaV_1
  obtain ⟨kcBaV_2, kfBaV_2⟩ := KBaV_2.out.rules
  have klBaV_2 := KBaV_2.out.lt
  clear hb2 NB2
  have LB2 : Hid (∀ g, g ∈ fp2 → w1.heap.size ≤ g) := Lib.hid (fun g hg => by have h := f2.2 g hg; (try simp only [size_alloc] at h); omega)
  have UB2 : Hid (∀ g, g ∈ fp2 → g < w2.heap.size) := Lib.hid (OwnL.lt _ _ _ o2)
  have ND2 := Lib.hid f2.1
  clear f2
  have D2 := Lib.hid o2
  clear o2
  go_wp2_with fail
  refine (spec_IsSwept_calls _ aV aI _ (D2.out.rdw.below (Below.refl _ _)) (by omega) haI).mono ?_
  rintro e w3 ⟨rfl, hb3⟩
  have NB3 : Below w2.heap.size w2 w3 := hb3
  have BB0_3 := Lib.hid (BB0_2.out.trans (NB3.mono BB0_2.out.size))
  have BB2_3 := Lib.hid (NB3)
  have sz3 : w2.heap.size ≤ w3.heap.size := by have h := hb3.size; (try simp only [size_alloc] at h); omega
  have KBaV_3 : Hid (Blk w3 (w.heap.size) 27 #[.int .i64 aV.Id, v1aV, v2aV, v3aV, v4aV]) := Lib.hid (KBaV_2.out.below hb3)
  clear kcBaV_2 kfBaV_2 klBaV_2
  obtain ⟨kcBaV_3, kfBaV_3⟩ := KBaV_3.out.rules
  have klBaV_3 := KBaV_3.out.lt
  clear hb3 NB3
  go_wp2_with fail
  refine (toVat_calls _ aV _ (ARaV.out.below BB0_3.out) (by omega)).mono ?_
  rintro e w4 ⟨u4, fp4, rfl, o4, f4, hb4⟩
  have NB4 : Below w3.heap.size w3 w4 := hb4
  have BB0_4 := Lib.hid (BB0_3.out.trans (NB4.mono BB0_3.out.size))
  have BB2_4 := Lib.hid (BB2_3.out.trans (NB4.mono BB2_3.out.size))
  have sz4 : w3.heap.size ≤ w4.heap.size := by have h := hb4.size; (try simp only [size_alloc] at h); omega
  have KBaV_4 : Hid (Blk w4 (w.heap.size) 27 #[.int .i64 aV.Id, v1aV, v2aV, v3aV, v4aV]) := Lib.hid (KBaV_3.out.below hb4)
  clear kcBaV_3 kfBaV_3 klBaV_3
  obtain ⟨kcBaV_4, kfBaV_4⟩ := KBaV_4.out.rules
  have klBaV_4 := KBaV_4.out.lt
  clear hb4 NB4
  obtain ⟨v1_4, f1_4, v2_4, f2_4, v3_4, f3_4, v4_4, f4_4, rfl, -, q1_4, q2_4, q3_4, q4_4⟩ := own_eVat o4
  obtain ⟨A1_4, c1_4, rfl, -⟩ := q1_4.slice
  obtain ⟨A2_4, c2_4, rfl, -⟩ := q2_4.slice
  obtain ⟨A3_4, c3_4, rfl, -⟩ := q3_4.slice
  obtain ⟨A4_4, c4_4, rfl, -⟩ := q4_4.slice
  clear q1_4 q2_4 q3_4 q4_4
  have LB4 : Hid (∀ g, g ∈ fp4 → w3.heap.size ≤ g) := Lib.hid (fun g hg => by have h := f4.2 g hg; (try simp only [size_alloc] at h); omega)
  have UB4 : Hid (∀ g, g ∈ fp4 → g < w4.heap.size) := Lib.hid (OwnL.lt _ _ _ o4)
  have ND4 := Lib.hid f4.1
  clear f4
  have D4 := Lib.hid o4
  clear o4
  go_wp2_with fail
  refine (impl_IsSwept_calls _ aV aI _ (D4.out.rdw.below ((Below.refl _ _).alloc (Nat.le_refl _) _)) (by omega) haI).mono ?_
  rintro e w5 ⟨rfl, hb5⟩
  have NB5 : Below w4.heap.size w4 w5 := (((Below.refl _ _).alloc (Nat.le_refl _) _)).trans (hb5.mono (by (try simp only [size_alloc]); omega))
  have BB0_5 := Lib.hid (BB0_4.out.trans (NB5.mono BB0_4.out.size))
  have BB2_5 := Lib.hid (BB2_4.out.trans (NB5.mono BB2_4.out.size))
  have BB4_5 := Lib.hid (NB5)
  have sz5 : w4.heap.size + 1 ≤ w5.heap.size := by have h := hb5.size; (try simp only [size_alloc] at h); omega
  have KBaV_5 : Hid (Blk w5 (w.heap.size) 27 #[.int .i64 aV.Id, v1aV, v2aV, v3aV, v4aV]) := Lib.hid ((KBaV_4.out.alloc _).below hb5)
  have Kx0_5 : Hid (Blk w5 (w4.heap.size) 35 #[.int .i64 aV.Id, .slice A1_4 (aV.Entities).length c1_4, .slice A2_4 (aV.Loop).length c2_4, .slice A3_4 (aV.Links).length c3_4, .slice A4_4 (aV.Out).length c4_4]) := Lib.hid ((Blk.made rfl).below hb5)
  clear kcBaV_4 kfBaV_4 klBaV_4
  obtain ⟨kcBaV_5, kfBaV_5⟩ := KBaV_5.out.rules
  have klBaV_5 := KBaV_5.out.lt
  obtain ⟨kcx0_5, kfx0_5⟩ := Kx0_5.out.rules
  have klx0_5 := Kx0_5.out.lt
  clear hb5 NB5
  go_wp2
  go_region_held3 (fun wq => wq.cell? ⟨w4.heap.size, 0, none⟩ = some (.int .i64 aV.Id) ∧ wq.cell? ⟨w4.heap.size, 1, none⟩ = some (.slice A1_4 (aV.Entities).length c1_4) ∧ wq.cell? ⟨w4.heap.size, 2, none⟩ = some (.slice A2_4 (aV.Loop).length c2_4) ∧ wq.cell? ⟨w4.heap.size, 3, none⟩ = some (.slice A3_4 (aV.Links).length c3_4) ∧ wq.cell? ⟨w4.heap.size, 4, none⟩ = some (.slice A4_4 (aV.Out).length c4_4) ∧ wq.cell? ⟨w.heap.size, 0, none⟩ = some (.int .i64 aV.Id) ∧ wq.cell? ⟨w.heap.size, 1, none⟩ = some (v1aV) ∧ wq.cell? ⟨w.heap.size, 2, none⟩ = some (v2aV) ∧ wq.cell? ⟨w.heap.size, 3, none⟩ = some (v3aV) ∧ wq.cell? ⟨w.heap.size, 4, none⟩ = some (v4aV))
    (first | exact ⟨kcx0_7q 0, kcx0_7q 1, kcx0_7q 2, kcx0_7q 3, kcx0_7q 4, kcBaV_7q 0, kcBaV_7q 1, kcBaV_7q 2, kcBaV_7q 3, kcBaV_7q 4⟩ | exact ⟨kcx0_6q 0, kcx0_6q 1, kcx0_6q 2, kcx0_6q 3, kcx0_6q 4, kcBaV_6q 0, kcBaV_6q 1, kcBaV_6q 2, kcBaV_6q 3, kcBaV_6q 4⟩ | exact ⟨kcx0_5 0, kcx0_5 1, kcx0_5 2, kcx0_5 3, kcx0_5 4, kcBaV_5 0, kcBaV_5 1, kcBaV_5 2, kcBaV_5 3, kcBaV_5 4⟩)
    (first
      | (have _hq := hbq6; clear _hq; go_at_call 19; refine (eqVat_calls _ _ aV _ ((D4.out.rdw.below BB4_5.out).below ((Below.refl _ _).drew.trans hbq6)) o6.rdw).mono ?_; rintro e w7 ⟨rfl, hbq7⟩; obtain ⟨kcx0_7q, kfx0_7q⟩ := ((Kx0_5.out.drew.below hbq6).below hbq7).rules; obtain ⟨kcBaV_7q, kfBaV_7q⟩ := ((KBaV_5.out.drew.below hbq6).below hbq7).rules)
      | (go_at_call 17; refine (toVat_calls _ aV _ ((ARaV.out.below BB0_5.out).below (Below.refl _ _).drew) (by omega)).mono ?_; rintro e w6 ⟨u6, fp6, rfl, o6, f6, hbq6⟩; obtain ⟨kcx0_6q, kfx0_6q⟩ := (Kx0_5.out.drew.below hbq6).rules; obtain ⟨kcBaV_6q, kfBaV_6q⟩ := (KBaV_5.out.drew.below hbq6).rules))
  clear kcx0_6q kfx0_6q kcx0_7q kfx0_7q kcBaV_6q kfBaV_6q kcBaV_7q kfBaV_7q
  have hb6 := (Below.refl w5.heap.size w5).drew.trans hbq6
  have hb7 := hbq7
  clear hbq6 hbq7 o6 f6
  have NB6 : Below w5.heap.size w5 w6 := hb6
  have BB0_6 := Lib.hid (BB0_5.out.trans (NB6.mono BB0_5.out.size))
  have BB2_6 := Lib.hid (BB2_5.out.trans (NB6.mono BB2_5.out.size))
  have BB4_6 := Lib.hid (BB4_5.out.trans (NB6.mono BB4_5.out.size))
  have sz6 : w5.heap.size ≤ w6.heap.size := by have h := hb6.size; (try simp only [size_alloc] at h); omega
  have KBaV_6 : Hid (Blk w6 (w.heap.size) 27 #[.int .i64 aV.Id, v1aV, v2aV, v3aV, v4aV]) := Lib.hid (KBaV_5.out.below hb6)
  have Kx0_6 : Hid (Blk w6 (w4.heap.size) 35 #[.int .i64 aV.Id, .slice A1_4 (aV.Entities).length c1_4, .slice A2_4 (aV.Loop).length c2_4, .slice A3_4 (aV.Links).length c3_4, .slice A4_4 (aV.Out).length c4_4]) := Lib.hid (Kx0_5.out.below hb6)
  clear kcBaV_5 kfBaV_5 klBaV_5 kcx0_5 kfx0_5 klx0_5
  obtain ⟨kcBaV_6, kfBaV_6⟩ := KBaV_6.out.rules
  have klBaV_6 := KBaV_6.out.lt
  obtain ⟨kcx0_6, kfx0_6⟩ := Kx0_6.out.rules
  have klx0_6 := Kx0_6.out.lt
  clear hb6 NB6
  have NB7 : Below w6.heap.size w6 w7 := hb7
  have BB0_7 := Lib.hid (BB0_6.out.trans (NB7.mono BB0_6.out.size))
  have BB2_7 := Lib.hid (BB2_6.out.trans (NB7.mono BB2_6.out.size))
  have BB4_7 := Lib.hid (BB4_6.out.trans (NB7.mono BB4_6.out.size))
  have sz7 : w6.heap.size ≤ w7.heap.size := by have h := hb7.size; (try simp only [size_alloc] at h); omega
  have KBaV_7 : Hid (Blk w7 (w.heap.size) 27 #[.int .i64 aV.Id, v1aV, v2aV, v3aV, v4aV]) := Lib.hid (KBaV_6.out.below hb7)
  have Kx0_7 : Hid (Blk w7 (w4.heap.size) 35 #[.int .i64 aV.Id, .slice A1_4 (aV.Entities).length c1_4, .slice A2_4 (aV.Loop).length c2_4, .slice A3_4 (aV.Links).length c3_4, .slice A4_4 (aV.Out).length c4_4]) := Lib.hid (Kx0_6.out.below hb7)
  clear kcBaV_6 kfBaV_6 klBaV_6 kcx0_6 kfx0_6 klx0_6
  obtain ⟨kcBaV_7, kfBaV_7⟩ := KBaV_7.out.rules
  have klBaV_7 := KBaV_7.out.lt
  obtain ⟨kcx0_7, kfx0_7⟩ := Kx0_7.out.rules
  have klx0_7 := Kx0_7.out.lt
  clear hb7 NB7
  go_wp2
  go_ret
  exact ⟨rfl, BB0_7.out⟩

end Go.Proofs.Ytapbejepffpckaa
