import Derived.Test.YtiohoeafdaihpaaProg
import Derived.Test.YtiohoeafdaihpaaTypes
import Derived.StillTailTactics
import Derived.Deep.RegionHeld3
import Derived.Laws.IdiomStrings
import Derived.Test.YtiohoeafdaihpaaAppend
import Derived.Laws.StructEq
import Derived.Lib.SliceRun
import Derived.Shelf.RegionOpenPlain
import Derived.Test.YtiohoeafdaihpaaHelp
import Derived.Test.YtiohoeafdaihpaaIsSafe
namespace Go.Proofs.Ytiohoeafdaihpaa
open Go.RowKit
set_option linter.unusedVariables false
set_option linter.unusedSimpArgs false

set_option maxHeartbeats 800000 in
set_option maxRecDepth 100000 in
theorem FnExactIsSafe_calls (w : World) (usaM : List Value) (aM : GMethod) (raM : RdLW w (eMethod aM) usaM) (taM : StrOkL (eMethod aM)) :
    Calls Try.prog 3 #[.agg usaM.toArray] w fun e w' => e = .returned (.bool true) ∧ Below w.heap.size w w' := by
  have ARaM := Lib.hid raM
  obtain ⟨v1aM, rfl, -⟩ := rd_eMethod raM
  clear raM
  have TSaM := Lib.hid taM
  clear taM
  go_enter Try.func3, Try.ntmps3
  go_wp2_with fail
  refine (szMethod_calls _ aM _ _ (ARaM.out.below ((Below.refl _ _).alloc (Nat.le_refl _) _)) TSaM.out (by omega) (by omega)).mono ?_
  rintro e w1 ⟨r1, rfl, hr1, hb1⟩
  have NB1 : Below w.heap.size w w1 := (((Below.refl _ _).alloc (Nat.le_refl _) _)).trans (hb1.mono (by (try simp only [size_alloc]); omega))
  have BB0_1 := Lib.hid (NB1)
  have sz1 : w.heap.size + 1 ≤ w1.heap.size := by have h := hb1.size; (try simp only [size_alloc] at h); omega
  have KBaM_1 : Hid (Blk w1 (w.heap.size) 24 #[.string aM.Name, v1aM]) := Lib.hid ((Blk.made rfl).below hb1)
  obtain ⟨kcBaM_1, kfBaM_1⟩ := KBaM_1.out.rules
  have klBaM_1 := KBaM_1.out.lt
  clear hb1 NB1
  rcases hr1 with rfl | ⟨hr1, hr1_0⟩
  · go_wp2
    go_ret
    exact ⟨rfl, BB0_1.out⟩
  have hszaM : sizL (eMethod aM) ≤ 1048576 := by omega
  have hr1_9 : r1 ≤ 1048576 := by omega
  clear hr1
  go_wp2_with fail
  refine (toMethod_calls _ aM _ (ARaM.out.below BB0_1.out) (by omega)).mono ?_
  rintro e w2 ⟨u2, fp2, rfl, o2, f2, hb2⟩
  have NB2 : Below w1.heap.size w1 w2 := hb2
  have BB0_2 := Lib.hid (BB0_1.out.trans (NB2.mono BB0_1.out.size))
  have sz2 : w1.heap.size ≤ w2.heap.size := by have h := hb2.size; (try simp only [size_alloc] at h); omega
  have KBaM_2 : Hid (Blk w2 (w.heap.size) 24 #[.string aM.Name, v1aM]) := Lib.hid (KBaM_1.out.below hb2)
  clear kcBaM_1 kfBaM_1 klBaM_1
  obtain ⟨kcBaM_2, kfBaM_2⟩ := KBaM_2.out.rules
  have klBaM_2 := KBaM_2.out.lt
  clear hb2 NB2
  have LB2 : Hid (∀ g, g ∈ fp2 → w1.heap.size ≤ g) := Lib.hid (fun g hg => by have h := f2.2 g hg; (try simp only [size_alloc] at h); omega)
  have UB2 : Hid (∀ g, g ∈ fp2 → g < w2.heap.size) := Lib.hid (OwnL.lt _ _ _ o2)
  have ND2 := Lib.hid f2.1
  clear f2
  have D2 := Lib.hid o2
  clear o2
  go_wp2_with fail
  refine (spec_IsSafe_calls _ aM _ (D2.out.rdw.below (Below.refl _ _)) (by omega)).mono ?_
  rintro e w3 ⟨rfl, hb3⟩
  have NB3 : Below w2.heap.size w2 w3 := hb3
  have BB0_3 := Lib.hid (BB0_2.out.trans (NB3.mono BB0_2.out.size))
  have BB2_3 := Lib.hid (NB3)
  have sz3 : w2.heap.size ≤ w3.heap.size := by have h := hb3.size; (try simp only [size_alloc] at h); omega
  have KBaM_3 : Hid (Blk w3 (w.heap.size) 24 #[.string aM.Name, v1aM]) := Lib.hid (KBaM_2.out.below hb3)
  clear kcBaM_2 kfBaM_2 klBaM_2
  obtain ⟨kcBaM_3, kfBaM_3⟩ := KBaM_3.out.rules
  have klBaM_3 := KBaM_3.out.lt
  clear hb3 NB3
  go_wp2_with fail
  refine (toMethod_calls _ aM _ (ARaM.out.below BB0_3.out) (by omega)).mono ?_
  rintro e w4 ⟨u4, fp4, rfl, o4, f4, hb4⟩
  have NB4 : Below w3.heap.size w3 w4 := hb4
  have BB0_4 := Lib.hid (BB0_3.out.trans (NB4.mono BB0_3.out.size))
  have BB2_4 := Lib.hid (BB2_3.out.trans (NB4.mono BB2_3.out.size))
  have sz4 : w3.heap.size ≤ w4.heap.size := by have h := hb4.size; (try simp only [size_alloc] at h); omega
  have KBaM_4 : Hid (Blk w4 (w.heap.size) 24 #[.string aM.Name, v1aM]) := Lib.hid (KBaM_3.out.below hb4)
  clear kcBaM_3 kfBaM_3 klBaM_3
  obtain ⟨kcBaM_4, kfBaM_4⟩ := KBaM_4.out.rules
  have klBaM_4 := KBaM_4.out.lt
  clear hb4 NB4
  obtain ⟨v1_4, f1_4, rfl, -, q1_4⟩ := own_eMethod o4
  obtain ⟨A1_4, c1_4, rfl, -⟩ := q1_4.slice
  clear q1_4
  have LB4 : Hid (∀ g, g ∈ fp4 → w3.heap.size ≤ g) := Lib.hid (fun g hg => by have h := f4.2 g hg; (try simp only [size_alloc] at h); omega)
  have UB4 : Hid (∀ g, g ∈ fp4 → g < w4.heap.size) := Lib.hid (OwnL.lt _ _ _ o4)
  have ND4 := Lib.hid f4.1
  clear f4
  have D4 := Lib.hid o4
  clear o4
  go_wp2_with fail
  refine (impl_IsSafe_calls _ aM _ (D4.out.rdw.below ((Below.refl _ _).alloc (Nat.le_refl _) _)) (by omega)).mono ?_
  rintro e w5 ⟨rfl, hb5⟩
  have NB5 : Below w4.heap.size w4 w5 := (((Below.refl _ _).alloc (Nat.le_refl _) _)).trans (hb5.mono (by (try simp only [size_alloc]); omega))
  have BB0_5 := Lib.hid (BB0_4.out.trans (NB5.mono BB0_4.out.size))
  have BB2_5 := Lib.hid (BB2_4.out.trans (NB5.mono BB2_4.out.size))
  have BB4_5 := Lib.hid (NB5)
  have sz5 : w4.heap.size + 1 ≤ w5.heap.size := by have h := hb5.size; (try simp only [size_alloc] at h); omega
  have KBaM_5 : Hid (Blk w5 (w.heap.size) 24 #[.string aM.Name, v1aM]) := Lib.hid ((KBaM_4.out.alloc _).below hb5)
  have Kx0_5 : Hid (Blk w5 (w4.heap.size) 29 #[.string aM.Name, .slice A1_4 (aM.Code).length c1_4]) := Lib.hid ((Blk.made rfl).below hb5)
  clear kcBaM_4 kfBaM_4 klBaM_4
  obtain ⟨kcBaM_5, kfBaM_5⟩ := KBaM_5.out.rules
  have klBaM_5 := KBaM_5.out.lt
  obtain ⟨kcx0_5, kfx0_5⟩ := Kx0_5.out.rules
  have klx0_5 := Kx0_5.out.lt
  clear hb5 NB5
  go_wp2
  go_region_held3 (fun wq => wq.cell? ⟨w4.heap.size, 0, none⟩ = some (.string aM.Name) ∧ wq.cell? ⟨w4.heap.size, 1, none⟩ = some (.slice A1_4 (aM.Code).length c1_4) ∧ wq.cell? ⟨w.heap.size, 0, none⟩ = some (.string aM.Name) ∧ wq.cell? ⟨w.heap.size, 1, none⟩ = some (v1aM))
    (first | exact ⟨kcx0_7q 0, kcx0_7q 1, kcBaM_7q 0, kcBaM_7q 1⟩ | exact ⟨kcx0_6q 0, kcx0_6q 1, kcBaM_6q 0, kcBaM_6q 1⟩ | exact ⟨kcx0_5 0, kcx0_5 1, kcBaM_5 0, kcBaM_5 1⟩)
    (first
      | (have _hq := hbq6; clear _hq; go_at_call 10; refine (eqMethod_calls _ _ aM _ ((D4.out.rdw.below BB4_5.out).below ((Below.refl _ _).drew.trans hbq6)) o6.rdw).mono ?_; rintro e w7 ⟨rfl, hbq7⟩; obtain ⟨kcx0_7q, kfx0_7q⟩ := ((Kx0_5.out.drew.below hbq6).below hbq7).rules; obtain ⟨kcBaM_7q, kfBaM_7q⟩ := ((KBaM_5.out.drew.below hbq6).below hbq7).rules)
      | (go_at_call 8; refine (toMethod_calls _ aM _ ((ARaM.out.below BB0_5.out).below (Below.refl _ _).drew) (by omega)).mono ?_; rintro e w6 ⟨u6, fp6, rfl, o6, f6, hbq6⟩; obtain ⟨kcx0_6q, kfx0_6q⟩ := (Kx0_5.out.drew.below hbq6).rules; obtain ⟨kcBaM_6q, kfBaM_6q⟩ := (KBaM_5.out.drew.below hbq6).rules))
  clear kcx0_6q kfx0_6q kcx0_7q kfx0_7q kcBaM_6q kfBaM_6q kcBaM_7q kfBaM_7q
  have hb6 := (Below.refl w5.heap.size w5).drew.trans hbq6
  have hb7 := hbq7
  clear hbq6 hbq7 o6 f6
  have NB6 : Below w5.heap.size w5 w6 := hb6
  have BB0_6 := Lib.hid (BB0_5.out.trans (NB6.mono BB0_5.out.size))
  have BB2_6 := Lib.hid (BB2_5.out.trans (NB6.mono BB2_5.out.size))
  have BB4_6 := Lib.hid (BB4_5.out.trans (NB6.mono BB4_5.out.size))
  have sz6 : w5.heap.size ≤ w6.heap.size := by have h := hb6.size; (try simp only [size_alloc] at h); omega
  have KBaM_6 : Hid (Blk w6 (w.heap.size) 24 #[.string aM.Name, v1aM]) := Lib.hid (KBaM_5.out.below hb6)
  have Kx0_6 : Hid (Blk w6 (w4.heap.size) 29 #[.string aM.Name, .slice A1_4 (aM.Code).length c1_4]) := Lib.hid (Kx0_5.out.below hb6)
  clear kcBaM_5 kfBaM_5 klBaM_5 kcx0_5 kfx0_5 klx0_5
  obtain ⟨kcBaM_6, kfBaM_6⟩ := KBaM_6.out.rules
  have klBaM_6 := KBaM_6.out.lt
  obtain ⟨kcx0_6, kfx0_6⟩ := Kx0_6.out.rules
  have klx0_6 := Kx0_6.out.lt
  clear hb6 NB6
  have NB7 : Below w6.heap.size w6 w7 := hb7
  have BB0_7 := Lib.hid (BB0_6.out.trans (NB7.mono BB0_6.out.size))
  have BB2_7 := Lib.hid (BB2_6.out.trans (NB7.mono BB2_6.out.size))
  have BB4_7 := Lib.hid (BB4_6.out.trans (NB7.mono BB4_6.out.size))
  have sz7 : w6.heap.size ≤ w7.heap.size := by have h := hb7.size; (try simp only [size_alloc] at h); omega
  have KBaM_7 : Hid (Blk w7 (w.heap.size) 24 #[.string aM.Name, v1aM]) := Lib.hid (KBaM_6.out.below hb7)
  have Kx0_7 : Hid (Blk w7 (w4.heap.size) 29 #[.string aM.Name, .slice A1_4 (aM.Code).length c1_4]) := Lib.hid (Kx0_6.out.below hb7)
  clear kcBaM_6 kfBaM_6 klBaM_6 kcx0_6 kfx0_6 klx0_6
  obtain ⟨kcBaM_7, kfBaM_7⟩ := KBaM_7.out.rules
  have klBaM_7 := KBaM_7.out.lt
  obtain ⟨kcx0_7, kfx0_7⟩ := Kx0_7.out.rules
  have klx0_7 := Kx0_7.out.lt
  clear hb7 NB7
  go_wp2
  go_ret
  exact ⟨rfl, BB0_7.out⟩

end Go.Proofs.Ytiohoeafdaihpaa
