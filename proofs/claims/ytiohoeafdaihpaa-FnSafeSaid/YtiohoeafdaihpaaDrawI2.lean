import Derived.Deep.CutRange
import Derived.Test.YtiohoeafdaihpaaProg
import Derived.Test.YtiohoeafdaihpaaTypes
import Derived.StillTailTactics
import Derived.Deep.CutBlock
import Derived.Deep.CutRange
import Derived.Laws.OwnMore
import Derived.Deep.AppendLies
import Derived.Deep.RegionWith
import Derived.Deep.RegionHeld3
import Derived.Laws.IdiomStrings
import Derived.Test.YtiohoeafdaihpaaAppend
import Derived.Laws.StructEq
import Derived.Lib.SliceRun
import Derived.Shelf.RegionOpenPlain
import Derived.Test.YtiohoeafdaihpaaDrawI
namespace Go.Proofs.Ytiohoeafdaihpaa
open Go.RowKit
set_option linter.unusedVariables false
set_option linter.unusedSimpArgs false

set_option maxHeartbeats 12800000 in
set_option maxRecDepth 100000 in
theorem spec_l5Any_calls (W0 : World) (g : Nat) (w : World) (hC : Cur W0 g w) :
    Calls Try.prog 42 #[.pointer (some ⟨g, 0, none⟩)] w fun e w' => ∃ y : GInstr, e = .returned (.agg #[.int .i64 y.Op, .int .i64 y.A, .int .i64 y.B, .int .i64 y.C, .int .i64 y.D, .string y.Name]) ∧ y.Name.size ≤ 7 ∧ Cur W0 g w' ∧ Chg (· = g) w w' := by
  have hlt := hC.lt
  have hge := hC.ge
  have hW0 := hC.base.size
  have HC := Lib.hid (hC.below ((Below.refl w.heap.size w).alloc (Nat.le_refl _) (.cells #[.int .i64 0, .int .i64 0, .int .i64 0, .int .i64 0, .int .i64 0, .string ⟨#[]⟩] 47)))
  have HKR := Lib.hid (Blk.new w 47 #[.int .i64 0, .int .i64 0, .int .i64 0, .int .i64 0, .int .i64 0, .string ⟨#[]⟩])
  have HG := Lib.hid ((Chg.refl (· = g) w).alloc (.cells #[.int .i64 0, .int .i64 0, .int .i64 0, .int .i64 0, .int .i64 0, .string ⟨#[]⟩] 47))
  clear hC
  have HGN : Hid (∀ (W : World) (A : Addr) (n : Nat) (c n' c' : Nat), g < W.heap.size → Value.slice (some ⟨W.heap.size, 0, none⟩) n' c' = .slice (some A) n c → A.block ≠ g) := by
    intro W A n c n' c' hW h; injection h with h; injection h with h; subst h; exact Nat.ne_of_gt hW
  go_enter Try.func42, Try.ntmps42
  go_wp2_with fail
  refine (spec_l5Instr_calls W0 g _ HC.out).mono ?_
  rintro e w1 ⟨y, he, hfy, hny, hc_, hg_⟩
  have hs_1 := hg_.size
  (try simp only [size_alloc] at hs_1)
  have HCn := Lib.hid hc_
  replace HKR := Lib.hid ((HKR.out).chg hg_ (by omega))
  replace HG := Lib.hid (HG.out.trans hg_)
  (try clear hc_ hg_ HC)
  have HC := HCn
  clear HCn
  (try clear k_HKR f_HKR)
  obtain ⟨k_HKR, f_HKR⟩ := HKR.out.rules
  have l_HKR := HKR.out.lt
  have he2 : e = .returned (.agg #[.int .i64 y.Op, .int .i64 y.A, .int .i64 y.B, .int .i64 y.C, .int .i64 y.D, .string y.Name]) := he
  subst he2
  have HNY : Hid (y.Name.size ≤ 7) := by unfold Hid; omega
  clear he hfy hny
  have HKM : Hid (Blk (w1.alloc (.cells #[.int .i64 y.Op, .int .i64 y.A, .int .i64 y.B, .int .i64 y.C, .int .i64 y.D, .string y.Name] 47)) w1.heap.size 47 #[.int .i64 y.Op, .int .i64 y.A, .int .i64 y.B, .int .i64 y.C, .int .i64 y.D, .string y.Name]) := Lib.hid (Blk.made rfl)
  have HCn := Lib.hid (HC.out.below ((Below.refl _ _).alloc (Nat.le_refl _) (.cells #[.int .i64 y.Op, .int .i64 y.A, .int .i64 y.B, .int .i64 y.C, .int .i64 y.D, .string y.Name] 47)))
  clear HC
  have HC := HCn
  clear HCn
  replace HKR := Lib.hid (HKR.out.alloc (.cells #[.int .i64 y.Op, .int .i64 y.A, .int .i64 y.B, .int .i64 y.C, .int .i64 y.D, .string y.Name] 47))
  replace HG := Lib.hid (HG.out.alloc (.cells #[.int .i64 y.Op, .int .i64 y.A, .int .i64 y.B, .int .i64 y.C, .int .i64 y.D, .string y.Name] 47))
  have hgw : w.heap.size < w1.heap.size := by (try simp only [size_alloc] at *); omega
  have hgm : g < w1.heap.size := by omega
  clear k_HKR f_HKR
  go_wp2_with fail
  refine (spec_l1Below_calls W0 g _ _ HC.out).mono ?_
  rintro e w2 ⟨r, hr0, hr1, rfl, hc_, hg_⟩
  have hs_2 := hg_.size
  (try simp only [size_alloc] at hs_2)
  have HCn := Lib.hid hc_
  replace HKR := Lib.hid ((HKR.out).chg hg_ (by omega))
  replace HKM := Lib.hid ((HKM.out).chg hg_ (by omega))
  replace HG := Lib.hid (HG.out.trans hg_)
  (try clear hc_ hg_ HC)
  have HC := HCn
  clear HCn
  (try clear k_HKR f_HKR k_HKM f_HKM)
  obtain ⟨k_HKR, f_HKR⟩ := HKR.out.rules
  have l_HKR := HKR.out.lt
  obtain ⟨k_HKM, f_HKM⟩ := HKM.out.rules
  have l_HKM := HKM.out.lt
  replace hr1 := hr1 (by omega)
  go_upto_block 0 with fail
  go_cut [] from 7 to 43 (fun wx => ∃ y : GInstr, Blk wx w1.heap.size 47 #[.int .i64 y.Op, .int .i64 y.A, .int .i64 y.B, .int .i64 y.C, .int .i64 y.D, .string y.Name] ∧ Blk wx w.heap.size 47 #[.int .i64 0, .int .i64 0, .int .i64 0, .int .i64 0, .int .i64 0, .string ⟨#[]⟩] ∧ y.Name.size ≤ 7 ∧ Cur W0 g wx ∧ Chg (· = g) w wx)
  case first =>
    by_cases r0 : r = 0
    · skip
      subst r0
      go_wp2_with fail
      refine (spec_l1Int_calls W0 g [-1, 7, 8, 3] _ _ (HC.out.below ((Below.refl _ _).alloc (Nat.le_refl _) _)) (by simp) (rdW_lit vals_eInt w2 _ 3 (by simp)) (fun A n c h => HGN.out w2 A n c _ _ HC.out.lt h)).mono ?_
      rintro e w3 ⟨v, hv, rfl, hc_, hg_⟩
      have hs_3 := hg_.size
      (try simp only [size_alloc] at hs_3)
      have HCn := Lib.hid hc_
      replace HKR := Lib.hid ((HKR.out.alloc _).chg hg_ (by omega))
      replace HKM := Lib.hid ((HKM.out.alloc _).chg hg_ (by omega))
      replace HG := Lib.hid ((HG.out.alloc _).trans hg_)
      (try clear hc_ hg_ HC)
      have HC := HCn
      clear HCn
      (try clear k_HKR f_HKR k_HKM f_HKM)
      obtain ⟨k_HKR, f_HKR⟩ := HKR.out.rules
      have l_HKR := HKR.out.lt
      obtain ⟨k_HKM, f_HKM⟩ := HKM.out.rules
      have l_HKM := HKM.out.lt
      have Hv := Lib.hid hv
      clear hv
      go_wp2_with fail
      obtain ⟨w4, hws⟩ : ∃ ws, ws = (w3.setCell ⟨w1.heap.size, 1, none⟩ (.int .i64 v)) := ⟨_, rfl⟩
      have hcs : Chg (· = w1.heap.size) w3 w4 := by rw [hws]; exact (Chg.refl (· = w1.heap.size) w3).setCell (p := ⟨w1.heap.size, 1, none⟩) (.inl rfl) _
      have HKMn : Hid (Blk w4 w1.heap.size 47 #[.int .i64 y.Op, .int .i64 v, .int .i64 y.B, .int .i64 y.C, .int .i64 y.D, .string y.Name]) := Lib.hid (by rw [hws]; exact (HKM.out.set_ 1 _).eq (by simp))
      have HCn := Lib.hid (HC.out.chg hcs (by rintro _ rfl; omega) (by omega))
      clear HC
      have HC := HCn
      clear HCn
      replace HKR := Lib.hid (HKR.out.chg hcs (by omega))
      replace HG := Lib.hid (HG.out.then_ hcs (by rintro i hi rfl; omega))
      rw [← hws]
      clear hws hcs HKM
      have HKM := HKMn
      clear HKMn
      go_meet
      case rel => exact ⟨⟨y.Op, v, y.B, y.C, y.D, y.Name⟩, HKM.out, HKR.out, HNY.out, HC.out, HG.out⟩
    by_cases r1 : r = 1
    · skip
      subst r1
      go_wp2_with fail
      refine (spec_l1Int_calls W0 g [-1, 0, 2, 12, 13, 999999, 1000000] _ _ (HC.out.below ((Below.refl _ _).alloc (Nat.le_refl _) _)) (by simp) (rdW_lit vals_eInt w2 _ 3 (by simp)) (fun A n c h => HGN.out w2 A n c _ _ HC.out.lt h)).mono ?_
      rintro e w3 ⟨v, hv, rfl, hc_, hg_⟩
      have hs_3 := hg_.size
      (try simp only [size_alloc] at hs_3)
      have HCn := Lib.hid hc_
      replace HKR := Lib.hid ((HKR.out.alloc _).chg hg_ (by omega))
      replace HKM := Lib.hid ((HKM.out.alloc _).chg hg_ (by omega))
      replace HG := Lib.hid ((HG.out.alloc _).trans hg_)
      (try clear hc_ hg_ HC)
      have HC := HCn
      clear HCn
      (try clear k_HKR f_HKR k_HKM f_HKM)
      obtain ⟨k_HKR, f_HKR⟩ := HKR.out.rules
      have l_HKR := HKR.out.lt
      obtain ⟨k_HKM, f_HKM⟩ := HKM.out.rules
      have l_HKM := HKM.out.lt
      have Hv := Lib.hid hv
      clear hv
      go_wp2_with fail
      obtain ⟨w4, hws⟩ : ∃ ws, ws = (w3.setCell ⟨w1.heap.size, 2, none⟩ (.int .i64 v)) := ⟨_, rfl⟩
      have hcs : Chg (· = w1.heap.size) w3 w4 := by rw [hws]; exact (Chg.refl (· = w1.heap.size) w3).setCell (p := ⟨w1.heap.size, 2, none⟩) (.inl rfl) _
      have HKMn : Hid (Blk w4 w1.heap.size 47 #[.int .i64 y.Op, .int .i64 y.A, .int .i64 v, .int .i64 y.C, .int .i64 y.D, .string y.Name]) := Lib.hid (by rw [hws]; exact (HKM.out.set_ 2 _).eq (by simp))
      have HCn := Lib.hid (HC.out.chg hcs (by rintro _ rfl; omega) (by omega))
      clear HC
      have HC := HCn
      clear HCn
      replace HKR := Lib.hid (HKR.out.chg hcs (by omega))
      replace HG := Lib.hid (HG.out.then_ hcs (by rintro i hi rfl; omega))
      rw [← hws]
      clear hws hcs HKM
      have HKM := HKMn
      clear HKMn
      go_meet
      case rel => exact ⟨⟨y.Op, y.A, v, y.C, y.D, y.Name⟩, HKM.out, HKR.out, HNY.out, HC.out, HG.out⟩
    by_cases r2 : r = 2
    · skip
      subst r2
      go_wp2_with fail
      refine (spec_l1Int_calls W0 g [-1, 0, 8] _ _ (HC.out.below ((Below.refl _ _).alloc (Nat.le_refl _) _)) (by simp) (rdW_lit vals_eInt w2 _ 3 (by simp)) (fun A n c h => HGN.out w2 A n c _ _ HC.out.lt h)).mono ?_
      rintro e w3 ⟨v, hv, rfl, hc_, hg_⟩
      have hs_3 := hg_.size
      (try simp only [size_alloc] at hs_3)
      have HCn := Lib.hid hc_
      replace HKR := Lib.hid ((HKR.out.alloc _).chg hg_ (by omega))
      replace HKM := Lib.hid ((HKM.out.alloc _).chg hg_ (by omega))
      replace HG := Lib.hid ((HG.out.alloc _).trans hg_)
      (try clear hc_ hg_ HC)
      have HC := HCn
      clear HCn
      (try clear k_HKR f_HKR k_HKM f_HKM)
      obtain ⟨k_HKR, f_HKR⟩ := HKR.out.rules
      have l_HKR := HKR.out.lt
      obtain ⟨k_HKM, f_HKM⟩ := HKM.out.rules
      have l_HKM := HKM.out.lt
      have Hv := Lib.hid hv
      clear hv
      go_wp2_with fail
      obtain ⟨w4, hws⟩ : ∃ ws, ws = (w3.setCell ⟨w1.heap.size, 3, none⟩ (.int .i64 v)) := ⟨_, rfl⟩
      have hcs : Chg (· = w1.heap.size) w3 w4 := by rw [hws]; exact (Chg.refl (· = w1.heap.size) w3).setCell (p := ⟨w1.heap.size, 3, none⟩) (.inl rfl) _
      have HKMn : Hid (Blk w4 w1.heap.size 47 #[.int .i64 y.Op, .int .i64 y.A, .int .i64 y.B, .int .i64 v, .int .i64 y.D, .string y.Name]) := Lib.hid (by rw [hws]; exact (HKM.out.set_ 3 _).eq (by simp))
      have HCn := Lib.hid (HC.out.chg hcs (by rintro _ rfl; omega) (by omega))
      clear HC
      have HC := HCn
      clear HCn
      replace HKR := Lib.hid (HKR.out.chg hcs (by omega))
      replace HG := Lib.hid (HG.out.then_ hcs (by rintro i hi rfl; omega))
      rw [← hws]
      clear hws hcs HKM
      have HKM := HKMn
      clear HKMn
      go_meet
      case rel => exact ⟨⟨y.Op, y.A, y.B, v, y.D, y.Name⟩, HKM.out, HKR.out, HNY.out, HC.out, HG.out⟩
    by_cases r3 : r = 3
    · skip
      subst r3
      go_wp2_with fail
      refine (spec_l1Int_calls W0 g [-2, -1, 0, 7] _ _ (HC.out.below ((Below.refl _ _).alloc (Nat.le_refl _) _)) (by simp) (rdW_lit vals_eInt w2 _ 3 (by simp)) (fun A n c h => HGN.out w2 A n c _ _ HC.out.lt h)).mono ?_
      rintro e w3 ⟨v, hv, rfl, hc_, hg_⟩
      have hs_3 := hg_.size
      (try simp only [size_alloc] at hs_3)
      have HCn := Lib.hid hc_
      replace HKR := Lib.hid ((HKR.out.alloc _).chg hg_ (by omega))
      replace HKM := Lib.hid ((HKM.out.alloc _).chg hg_ (by omega))
      replace HG := Lib.hid ((HG.out.alloc _).trans hg_)
      (try clear hc_ hg_ HC)
      have HC := HCn
      clear HCn
      (try clear k_HKR f_HKR k_HKM f_HKM)
      obtain ⟨k_HKR, f_HKR⟩ := HKR.out.rules
      have l_HKR := HKR.out.lt
      obtain ⟨k_HKM, f_HKM⟩ := HKM.out.rules
      have l_HKM := HKM.out.lt
      have Hv := Lib.hid hv
      clear hv
      go_wp2_with fail
      obtain ⟨w4, hws⟩ : ∃ ws, ws = (w3.setCell ⟨w1.heap.size, 4, none⟩ (.int .i64 v)) := ⟨_, rfl⟩
      have hcs : Chg (· = w1.heap.size) w3 w4 := by rw [hws]; exact (Chg.refl (· = w1.heap.size) w3).setCell (p := ⟨w1.heap.size, 4, none⟩) (.inl rfl) _
      have HKMn : Hid (Blk w4 w1.heap.size 47 #[.int .i64 y.Op, .int .i64 y.A, .int .i64 y.B, .int .i64 y.C, .int .i64 v, .string y.Name]) := Lib.hid (by rw [hws]; exact (HKM.out.set_ 4 _).eq (by simp))
      have HCn := Lib.hid (HC.out.chg hcs (by rintro _ rfl; omega) (by omega))
      clear HC
      have HC := HCn
      clear HCn
      replace HKR := Lib.hid (HKR.out.chg hcs (by omega))
      replace HG := Lib.hid (HG.out.then_ hcs (by rintro i hi rfl; omega))
      rw [← hws]
      clear hws hcs HKM
      have HKM := HKMn
      clear HKMn
      go_meet
      case rel => exact ⟨⟨y.Op, y.A, y.B, y.C, v, y.Name⟩, HKM.out, HKR.out, HNY.out, HC.out, HG.out⟩
    by_cases r4 : r = 4
    · skip
      subst r4
      go_wp2_with fail
      refine (spec_l1Str_calls W0 g [⟨#[]⟩, ⟨#[97, 98, 99, 100, 101, 102]⟩, ⟨#[97, 98, 99, 100, 101, 102, 103]⟩, ⟨#[65]⟩, ⟨#[97, 49]⟩] _ _ (HC.out.below ((Below.refl _ _).alloc (Nat.le_refl _) _)) (by simp) (rdW_lit vals_eStr w2 _ 9 (by simp)) (fun A n c h => HGN.out w2 A n c _ _ HC.out.lt h)).mono ?_
      rintro e w3 ⟨v, hv, rfl, hc_, hg_⟩
      have hs_3 := hg_.size
      (try simp only [size_alloc] at hs_3)
      have HCn := Lib.hid hc_
      replace HKR := Lib.hid ((HKR.out.alloc _).chg hg_ (by omega))
      replace HKM := Lib.hid ((HKM.out.alloc _).chg hg_ (by omega))
      replace HG := Lib.hid ((HG.out.alloc _).trans hg_)
      (try clear hc_ hg_ HC)
      have HC := HCn
      clear HCn
      (try clear k_HKR f_HKR k_HKM f_HKM)
      obtain ⟨k_HKR, f_HKR⟩ := HKR.out.rules
      have l_HKR := HKR.out.lt
      obtain ⟨k_HKM, f_HKM⟩ := HKM.out.rules
      have l_HKM := HKM.out.lt
      have Hv := Lib.hid hv
      clear hv
      have hv := Hv.out
      simp only [List.mem_cons, List.not_mem_nil, or_false] at hv
      have HNV : Hid (v.size ≤ 7) := by unfold Hid; rcases hv with rfl | rfl | rfl | rfl | rfl <;> decide
      clear hv
      go_wp2_with fail
      obtain ⟨w4, hws⟩ : ∃ ws, ws = (w3.setCell ⟨w1.heap.size, 5, none⟩ (.string v)) := ⟨_, rfl⟩
      have hcs : Chg (· = w1.heap.size) w3 w4 := by rw [hws]; exact (Chg.refl (· = w1.heap.size) w3).setCell (p := ⟨w1.heap.size, 5, none⟩) (.inl rfl) _
      have HKMn : Hid (Blk w4 w1.heap.size 47 #[.int .i64 y.Op, .int .i64 y.A, .int .i64 y.B, .int .i64 y.C, .int .i64 y.D, .string v]) := Lib.hid (by rw [hws]; exact (HKM.out.set_ 5 _).eq (by simp))
      have HCn := Lib.hid (HC.out.chg hcs (by rintro _ rfl; omega) (by omega))
      clear HC
      have HC := HCn
      clear HCn
      replace HKR := Lib.hid (HKR.out.chg hcs (by omega))
      replace HG := Lib.hid (HG.out.then_ hcs (by rintro i hi rfl; omega))
      rw [← hws]
      clear hws hcs HKM
      have HKM := HKMn
      clear HKMn
      go_meet
      case rel => exact ⟨⟨y.Op, y.A, y.B, y.C, y.D, v⟩, HKM.out, HKR.out, HNV.out, HC.out, HG.out⟩
    by_cases r5 : r = 5
    · skip
      subst r5
      go_wp2_with fail
      refine (spec_l1Int_calls W0 g [0, 11, 6, 7] _ _ (HC.out.below ((Below.refl _ _).alloc (Nat.le_refl _) _)) (by simp) (rdW_lit vals_eInt w2 _ 3 (by simp)) (fun A n c h => HGN.out w2 A n c _ _ HC.out.lt h)).mono ?_
      rintro e w3 ⟨v, hv, rfl, hc_, hg_⟩
      have hs_3 := hg_.size
      (try simp only [size_alloc] at hs_3)
      have HCn := Lib.hid hc_
      replace HKR := Lib.hid ((HKR.out.alloc _).chg hg_ (by omega))
      replace HKM := Lib.hid ((HKM.out.alloc _).chg hg_ (by omega))
      replace HG := Lib.hid ((HG.out.alloc _).trans hg_)
      (try clear hc_ hg_ HC)
      have HC := HCn
      clear HCn
      (try clear k_HKR f_HKR k_HKM f_HKM)
      obtain ⟨k_HKR, f_HKR⟩ := HKR.out.rules
      have l_HKR := HKR.out.lt
      obtain ⟨k_HKM, f_HKM⟩ := HKM.out.rules
      have l_HKM := HKM.out.lt
      have Hv := Lib.hid hv
      clear hv
      go_wp2_with fail
      obtain ⟨w4, hws⟩ : ∃ ws, ws = (w3.setCell ⟨w1.heap.size, 0, none⟩ (.int .i64 v)) := ⟨_, rfl⟩
      have hcs : Chg (· = w1.heap.size) w3 w4 := by rw [hws]; exact (Chg.refl (· = w1.heap.size) w3).setCell (p := ⟨w1.heap.size, 0, none⟩) (.inl rfl) _
      have HKMn : Hid (Blk w4 w1.heap.size 47 #[.int .i64 v, .int .i64 y.A, .int .i64 y.B, .int .i64 y.C, .int .i64 y.D, .string y.Name]) := Lib.hid (by rw [hws]; exact (HKM.out.set_ 0 _).eq (by simp))
      have HCn := Lib.hid (HC.out.chg hcs (by rintro _ rfl; omega) (by omega))
      clear HC
      have HC := HCn
      clear HCn
      replace HKR := Lib.hid (HKR.out.chg hcs (by omega))
      replace HG := Lib.hid (HG.out.then_ hcs (by rintro i hi rfl; omega))
      rw [← hws]
      clear hws hcs HKM
      have HKM := HKMn
      clear HKMn
      go_meet
      case rel => exact ⟨⟨v, y.A, y.B, y.C, y.D, y.Name⟩, HKM.out, HKR.out, HNY.out, HC.out, HG.out⟩
    go_wp2_with fail
    go_meet
    case rel => exact ⟨y, HKM.out, HKR.out, HNY.out, HC.out, HG.out⟩
  case rest =>
    clear HC HKR HKM HG HNY k_HKR f_HKR l_HKR k_HKM f_HKM l_HKM
    obtain ⟨y, hkm, hkr, hn, hcu, hch⟩ := hcut
    have HKM := Lib.hid hkm
    have HKR := Lib.hid hkr
    have HN := Lib.hid hn
    have HC := Lib.hid hcu
    have HG := Lib.hid hch
    have hs_0 := hch.size
    clear hkm hkr hn hcu hch
    (try clear k_HKR f_HKR k_HKM f_HKM)
    obtain ⟨k_HKR, f_HKR⟩ := HKR.out.rules
    have l_HKR := HKR.out.lt
    obtain ⟨k_HKM, f_HKM⟩ := HKM.out.rules
    have l_HKM := HKM.out.lt
    have EX : Hid (∀ (wl : World) (y : GInstr), Cur W0 g wl → Chg (· = g) w wl → y.Name.size ≤ 7 → ∀ W, Chg (fun k => k = w.heap.size) wl W → ∃ x : GInstr, Ending.returned (.agg #[.int .i64 y.Op, .int .i64 y.A, .int .i64 y.B, .int .i64 y.C, .int .i64 y.D, .string y.Name]) = .returned (.agg #[.int .i64 x.Op, .int .i64 x.A, .int .i64 x.B, .int .i64 x.C, .int .i64 x.D, .string x.Name]) ∧ x.Name.size ≤ 7 ∧ Cur W0 g W ∧ Chg (· = g) w W) := by
      intro wl y h1 h2 hn W h3
      exact ⟨y, rfl, hn, h1.chg h3 (by rintro _ rfl; exact hW0) (by omega), h2.then_ h3 (by rintro i hi rfl; omega)⟩
    go_wp2
    refine post_cell (w0 := wc) (fun k => k = w.heap.size) Try.results42 w.heap.size #[.int .i64 y.Op, .int .i64 y.A, .int .i64 y.B, .int .i64 y.C, .int .i64 y.D, .string y.Name] _ rfl (Blk.eq ((((((HKR.out.set_ 0 _).set_ 1 _).set_ 2 _).set_ 3 _).set_ 4 _).set_ 5 _) (by simp)) Try.underlying47 rfl (by kernel_rfl) rfl (((((((Chg.refl (· = w.heap.size) _).setCell (p := ⟨w.heap.size, 0, none⟩) (.inl rfl) _).setCell (p := ⟨w.heap.size, 1, none⟩) (.inl rfl) _).setCell (p := ⟨w.heap.size, 2, none⟩) (.inl rfl) _).setCell (p := ⟨w.heap.size, 3, none⟩) (.inl rfl) _).setCell (p := ⟨w.heap.size, 4, none⟩) (.inl rfl) _).setCell (p := ⟨w.heap.size, 5, none⟩) (.inl rfl) _) (EX.out wc y HC.out HG.out HN.out)

end Go.Proofs.Ytiohoeafdaihpaa
