import Derived.Test.YtiohoeafdaihpaaProg
import Derived.Test.YtiohoeafdaihpaaTypes
import Derived.StillTailTactics
import Derived.Deep.CutBlock
import Derived.Deep.CutRange
import Derived.Laws.OwnMore
import Derived.Deep.AppendLies
import Derived.Deep.RegionWith
import Derived.Deep.RegionHeld3
import Derived.Laws.IdiomStrings
import Derived.Test.YtiohoeafdaihpaaAppend
import Derived.Laws.StructEq
import Derived.Lib.SliceRun
import Derived.Shelf.RegionOpenPlain
import Derived.Test.YtiohoeafdaihpaaTxt3
namespace Go.Proofs.Ytiohoeafdaihpaa
open Go.RowKit
set_option linter.unusedVariables false
set_option linter.unusedSimpArgs false

/-- a line is the text of an instruction, and its words are the fields -/
structure LineI (s : ByteArray) (y : GInstr) : Prop where
  good : GoodI y
  text : fmtI y = s
  op : (splitB s 32)[0]? = some (opNm y.Op)
  a : numAt (splitB s 32) 1 = y.A
  n1 : okNum (splitB s 32) 1
  n2 : okNum (splitB s 32) 2 ∨ y.Op = 7
  n3 : okNum (splitB s 32) 3 ∨ y.Op = 6
  n4 : okNum (splitB s 32) 4
  n5 : okNum (splitB s 32) 5
  f4 : y.Op = 4 ∨ y.Op = 10 → y.B = 0 ∧ y.C = 0 ∧ y.D = 0 ∧ y.Name = ⟨#[]⟩
  f5 : y.Op = 5 → y.B = numAt (splitB s 32) 2 ∧ y.C = numAt (splitB s 32) 3 ∧ y.D = 0 ∧ y.Name = ⟨#[]⟩
  f6 : y.Op = 6 → y.B = numAt (splitB s 32) 2 ∧ y.C = numAt (splitB s 32) 4 ∧ y.D = numAt (splitB s 32) 5 ∧ (splitB s 32)[3]? = some y.Name
  f7 : y.Op = 7 → y.B = 0 ∧ y.C = numAt (splitB s 32) 3 ∧ y.D = numAt (splitB s 32) 4 ∧ (splitB s 32)[2]? = some y.Name
  f0 : ¬ (y.Op = 4 ∨ y.Op = 10) → y.Op ≠ 5 → y.Op ≠ 6 → y.Op ≠ 7 → y.B = numAt (splitB s 32) 2 ∧ y.C = 0 ∧ y.D = 0 ∧ y.Name = ⟨#[]⟩
theorem spec_l7Op_calls' (op : Int) (h0 : 1 ≤ op) (h1 : op ≤ 10) (w : World) :
    Calls Try.prog 114 #[.string (opNm op)] w fun e w' => e = .returned (.int .i64 op) ∧ Below w.heap.size w w' := by
  obtain ⟨n, rfl⟩ : ∃ n : Nat, op = n := ⟨op.toNat, by omega⟩
  exact spec_l7Op_calls n (by omega) (by omega) w
set_option maxHeartbeats 25600000 in
set_option maxRecDepth 100000 in
theorem spec_ParseInstr_calls (s : ByteArray) (y : GInstr) (hL : LineI s y) (hs : s.size ≤ 1048576) (w : World) :
    Calls Try.prog 112 #[.string s] w fun e w' => e = .returned (.tuple #[.agg #[.int .i64 y.Op, .int .i64 y.A, .int .i64 y.B, .int .i64 y.C, .int .i64 y.D, .string y.Name], .bool true]) ∧ Below w.heap.size w w' := by
  obtain ⟨op, a, b, c, d, nm⟩ := y
  obtain ⟨hgood, htext, hop, ha, hn1, hn2, hn3, hn4, hn5, h4, h5, h6, h7, h0⟩ := hL
  dsimp only at *
  have ho0 := hgood.op.1
  have ho1 := hgood.op.2
  have hnm : nm.size ≤ 140737488355328 := by have h := hgood.nm; dsimp only at h; omega
  dsimp only at ho0 ho1
  have HG := Lib.hid hgood
  have HT := Lib.hid htext
  have HOP := Lib.hid hop
  have H4 := Lib.hid h4
  have H5 := Lib.hid h5
  have H6 := Lib.hid h6
  have H7 := Lib.hid h7
  have H0 := Lib.hid h0
  have N1 := Lib.hid hn1
  have N2 := Lib.hid hn2
  have N3 := Lib.hid hn3
  have N4 := Lib.hid hn4
  have N5 := Lib.hid hn5
  have HA := Lib.hid ha
  clear hgood htext hop ha h4 h5 h6 h7 h0 hn1 hn2 hn3 hn4 hn5
  have HKR := Lib.hid (Blk.new w 47 #[.int .i64 0, .int .i64 0, .int .i64 0, .int .i64 0, .int .i64 0, .string ⟨#[]⟩])
  have HB0 := Lib.hid ((Below.refl w.heap.size w).alloc (Nat.le_refl _) (.cells #[.int .i64 0, .int .i64 0, .int .i64 0, .int .i64 0, .int .i64 0, .string ⟨#[]⟩] 47))
  go_enter Try.func112, Try.ntmps112
  go_wp2_with fail
  refine (spec_l7Split_calls s 32 _ hs).mono ?_
  rintro e w1 ⟨A, c1, rfl, hr, hb_⟩
  replace HKR := Lib.hid (HKR.out.below hb_)
  replace HB0 := Lib.hid (HB0.out.trans (hb_.mono HB0.out.size))
  clear hb_
  generalize splitB s 32 = ws at *
  have HR := Lib.hid hr
  have HBW : Hid (Below w1.heap.size w1 w1) := Below.refl _ _
  have hlr := HKR.out.lt
  have hlen : 0 < ws.length := (List.getElem?_eq_some_iff.1 HOP.out).1
  obtain ⟨_, _, _, hok⟩ := hr.slice
  have hlm := hok.lim
  obtain ⟨ad, rfl, hab, q0⟩ := row_eStr hr HOP.out
  have hz0 : ad.add 0 = ad := Addr.add_zero' ad
  rw [hz0] at q0
  clear hr hok
  go_wp2_with fail
  refine (spec_l7Op_calls' op ho0 ho1 _).mono ?_
  rintro e w2 ⟨rfl, hb_⟩
  replace HKR := Lib.hid (HKR.out.below hb_)
  have hs_2 := hb_.size
  replace HBW := Lib.hid (HBW.out.trans (hb_.mono HBW.out.size))
  clear hb_
  go_wp2_with fail
  refine (spec_l7Number_calls _ ws 1 _ (HR.out.below HBW.out) N1.out (by omega)).mono ?_
  rintro e w3 ⟨rfl, hb_⟩
  rw [HA.out]
  replace HKR := Lib.hid (HKR.out.below hb_)
  have hs_3 := hb_.size
  replace HBW := Lib.hid (HBW.out.trans (hb_.mono HBW.out.size))
  clear hb_
  obtain ⟨w4, hw4⟩ : ∃ q, q = w3.alloc (.cells #[.int .i64 op, .int .i64 a, .int .i64 0, .int .i64 0, .int .i64 0, .string ⟨#[]⟩] 47) := ⟨_, rfl⟩
  have HKM : Hid (Blk w4 w3.heap.size 47 #[.int .i64 op, .int .i64 a, .int .i64 0, .int .i64 0, .int .i64 0, .string ⟨#[]⟩]) := by rw [hw4]; exact Blk.new w3 _ _
  replace HKR : Hid (Blk w4 w.heap.size 47 #[.int .i64 0, .int .i64 0, .int .i64 0, .int .i64 0, .int .i64 0, .string ⟨#[]⟩]) := by rw [hw4]; exact HKR.out.alloc _
  replace HBW : Hid (Below w1.heap.size w1 w4) := by rw [hw4]; exact HBW.out.alloc HBW.out.size _
  have hs_4 : w4.heap.size = w3.heap.size + 1 := by rw [hw4]; simp
  have hrm : w.heap.size < w3.heap.size := by omega
  go_upto_region 3 with fail
  rw [← hw4]
  clear hw4
  (try clear kk ff ll)
  obtain ⟨kk, ff⟩ := HKM.out.rules
  have ll := HKM.out.lt
  by_cases e4 : op = 4
  · subst e4
    obtain ⟨rfl, rfl, rfl, rfl⟩ := H4.out (by omega)
    go_wp2_with fail
    refine (spec_IsInstr_calls (⟨4, a, 0, 0, 0, ⟨#[]⟩⟩ : GInstr) _ hnm).mono ?_
    rintro e w20 ⟨rfl, hb_⟩
    rw [HG.out.ok]
    replace HKR := Lib.hid (HKR.out.below hb_)
    replace HKM := Lib.hid (HKM.out.below hb_)
    have hs_20 := hb_.size
    replace HBW := Lib.hid (HBW.out.trans (hb_.mono HBW.out.size))
    clear hb_
    (try clear kk ff ll)
    obtain ⟨kk, ff⟩ := HKM.out.rules
    have ll := HKM.out.lt
    go_wp2_with fail
    refine (spec_FormatInstr_calls (⟨4, a, 0, 0, 0, ⟨#[]⟩⟩ : GInstr) HG.out _).mono ?_
    rintro e w21 ⟨rfl, hb_⟩
    rw [HT.out]
    replace HKR := Lib.hid (HKR.out.below hb_)
    replace HKM := Lib.hid (HKM.out.below hb_)
    have hs_21 := hb_.size
    replace HBW := Lib.hid (HBW.out.trans (hb_.mono HBW.out.size))
    clear hb_
    (try clear kk ff ll)
    obtain ⟨kk, ff⟩ := HKM.out.rules
    have ll := HKM.out.lt
    obtain ⟨kr, jr⟩ := HKR.out.rules
    have lr := HKR.out.lt
    go_wp2
    refine post_cell2 (w0 := w21) (fun k => k = w.heap.size) Try.results112 w.heap.size #[.int .i64 4, .int .i64 a, .int .i64 0, .int .i64 0, .int .i64 0, .string ⟨#[]⟩] (.bool true) _ rfl (Blk.eq ((((((HKR.out.set_ 0 (.int .i64 4)).set_ 1 (.int .i64 a)).set_ 2 (.int .i64 0)).set_ 3 (.int .i64 0)).set_ 4 (.int .i64 0)).set_ 5 (.string ⟨#[]⟩)) (by simp)) Try.underlying47 rfl (by kernel_rfl) rfl rfl (((((((Chg.refl (· = w.heap.size) _).setCell (p := ⟨w.heap.size, 0, none⟩) (.inl rfl) (.int .i64 4)).setCell (p := ⟨w.heap.size, 1, none⟩) (.inl rfl) (.int .i64 a)).setCell (p := ⟨w.heap.size, 2, none⟩) (.inl rfl) (.int .i64 0)).setCell (p := ⟨w.heap.size, 3, none⟩) (.inl rfl) (.int .i64 0)).setCell (p := ⟨w.heap.size, 4, none⟩) (.inl rfl) (.int .i64 0)).setCell (p := ⟨w.heap.size, 5, none⟩) (.inl rfl) (.string ⟨#[]⟩)) ?_
    intro W hW
    exact ⟨rfl, below_chg (HB0.out.trans (HBW.out.mono HB0.out.size)) hW (by omega) (by rintro _ rfl; exact Nat.le_refl _)⟩
  by_cases e10 : op = 10
  · subst e10
    obtain ⟨rfl, rfl, rfl, rfl⟩ := H4.out (by omega)
    go_wp2_with fail
    refine (spec_IsInstr_calls (⟨10, a, 0, 0, 0, ⟨#[]⟩⟩ : GInstr) _ hnm).mono ?_
    rintro e w20 ⟨rfl, hb_⟩
    rw [HG.out.ok]
    replace HKR := Lib.hid (HKR.out.below hb_)
    replace HKM := Lib.hid (HKM.out.below hb_)
    have hs_20 := hb_.size
    replace HBW := Lib.hid (HBW.out.trans (hb_.mono HBW.out.size))
    clear hb_
    (try clear kk ff ll)
    obtain ⟨kk, ff⟩ := HKM.out.rules
    have ll := HKM.out.lt
    go_wp2_with fail
    refine (spec_FormatInstr_calls (⟨10, a, 0, 0, 0, ⟨#[]⟩⟩ : GInstr) HG.out _).mono ?_
    rintro e w21 ⟨rfl, hb_⟩
    rw [HT.out]
    replace HKR := Lib.hid (HKR.out.below hb_)
    replace HKM := Lib.hid (HKM.out.below hb_)
    have hs_21 := hb_.size
    replace HBW := Lib.hid (HBW.out.trans (hb_.mono HBW.out.size))
    clear hb_
    (try clear kk ff ll)
    obtain ⟨kk, ff⟩ := HKM.out.rules
    have ll := HKM.out.lt
    obtain ⟨kr, jr⟩ := HKR.out.rules
    have lr := HKR.out.lt
    go_wp2
    refine post_cell2 (w0 := w21) (fun k => k = w.heap.size) Try.results112 w.heap.size #[.int .i64 10, .int .i64 a, .int .i64 0, .int .i64 0, .int .i64 0, .string ⟨#[]⟩] (.bool true) _ rfl (Blk.eq ((((((HKR.out.set_ 0 (.int .i64 10)).set_ 1 (.int .i64 a)).set_ 2 (.int .i64 0)).set_ 3 (.int .i64 0)).set_ 4 (.int .i64 0)).set_ 5 (.string ⟨#[]⟩)) (by simp)) Try.underlying47 rfl (by kernel_rfl) rfl rfl (((((((Chg.refl (· = w.heap.size) _).setCell (p := ⟨w.heap.size, 0, none⟩) (.inl rfl) (.int .i64 10)).setCell (p := ⟨w.heap.size, 1, none⟩) (.inl rfl) (.int .i64 a)).setCell (p := ⟨w.heap.size, 2, none⟩) (.inl rfl) (.int .i64 0)).setCell (p := ⟨w.heap.size, 3, none⟩) (.inl rfl) (.int .i64 0)).setCell (p := ⟨w.heap.size, 4, none⟩) (.inl rfl) (.int .i64 0)).setCell (p := ⟨w.heap.size, 5, none⟩) (.inl rfl) (.string ⟨#[]⟩)) ?_
    intro W hW
    exact ⟨rfl, below_chg (HB0.out.trans (HBW.out.mono HB0.out.size)) hW (by omega) (by rintro _ rfl; exact Nat.le_refl _)⟩
  have e410 : ¬ (op = 4 ∨ op = 10) := by omega
  by_cases e5 : op = 5
  · subst e5
    obtain ⟨rfl, rfl, rfl, rfl⟩ := H5.out rfl
    go_wp2_with fail
    refine (spec_l7Number_calls _ ws 2 _ (HR.out.below HBW.out) (N2.out.resolve_right (by omega)) (by omega)).mono ?_
    rintro e w5 ⟨rfl, hb_⟩
    replace HKR := Lib.hid (HKR.out.below hb_)
    replace HKM := Lib.hid (HKM.out.below hb_)
    have hs_5 := hb_.size
    replace HBW := Lib.hid (HBW.out.trans (hb_.mono HBW.out.size))
    clear hb_
    (try clear kk ff ll)
    obtain ⟨kk, ff⟩ := HKM.out.rules
    have ll := HKM.out.lt
    go_wp2_with fail
    obtain ⟨w6, hw_⟩ : ∃ q, q = w5.setCell ⟨w3.heap.size, 2, none⟩ (.int .i64 (numAt ws 2)) := ⟨_, rfl⟩
    have hc_ : Chg (· = w3.heap.size) w5 w6 := by rw [hw_]; exact (Chg.refl (· = w3.heap.size) w5).setCell (p := ⟨w3.heap.size, 2, none⟩) (.inl rfl) _
    have HKMn : Hid (Blk w6 w3.heap.size 47 #[.int .i64 5, .int .i64 a, .int .i64 (numAt ws 2), .int .i64 0, .int .i64 0, .string ⟨#[]⟩]) := by rw [hw_]; exact (HKM.out.set_ 2 _).eq (by simp)
    replace HKR := Lib.hid (HKR.out.chg hc_ (by omega))
    have hs_6 : w6.heap.size = w5.heap.size := by rw [hw_]; simp [World.setCell]
    replace HBW := Lib.hid (below_chg HBW.out hc_ HBW.out.size (by rintro _ rfl; omega))
    rw [← hw_]
    clear hw_ hc_ HKM
    have HKM := HKMn
    clear HKMn
    (try clear kk ff ll)
    obtain ⟨kk, ff⟩ := HKM.out.rules
    have ll := HKM.out.lt
    go_wp2_with fail
    refine (spec_l7Number_calls _ ws 3 _ (HR.out.below HBW.out) (N3.out.resolve_right (by omega)) (by omega)).mono ?_
    rintro e w7 ⟨rfl, hb_⟩
    replace HKR := Lib.hid (HKR.out.below hb_)
    replace HKM := Lib.hid (HKM.out.below hb_)
    have hs_7 := hb_.size
    replace HBW := Lib.hid (HBW.out.trans (hb_.mono HBW.out.size))
    clear hb_
    (try clear kk ff ll)
    obtain ⟨kk, ff⟩ := HKM.out.rules
    have ll := HKM.out.lt
    go_upto_region 21 with fail
    obtain ⟨w8, hw_⟩ : ∃ q, q = w7.setCell ⟨w3.heap.size, 3, none⟩ (.int .i64 (numAt ws 3)) := ⟨_, rfl⟩
    have hc_ : Chg (· = w3.heap.size) w7 w8 := by rw [hw_]; exact (Chg.refl (· = w3.heap.size) w7).setCell (p := ⟨w3.heap.size, 3, none⟩) (.inl rfl) _
    have HKMn : Hid (Blk w8 w3.heap.size 47 #[.int .i64 5, .int .i64 a, .int .i64 (numAt ws 2), .int .i64 (numAt ws 3), .int .i64 0, .string ⟨#[]⟩]) := by rw [hw_]; exact (HKM.out.set_ 3 _).eq (by simp)
    replace HKR := Lib.hid (HKR.out.chg hc_ (by omega))
    have hs_8 : w8.heap.size = w7.heap.size := by rw [hw_]; simp [World.setCell]
    replace HBW := Lib.hid (below_chg HBW.out hc_ HBW.out.size (by rintro _ rfl; omega))
    rw [← hw_]
    clear hw_ hc_ HKM
    have HKM := HKMn
    clear HKMn
    (try clear kk ff ll)
    obtain ⟨kk, ff⟩ := HKM.out.rules
    have ll := HKM.out.lt
    go_wp2_with fail
    refine (spec_IsInstr_calls (⟨5, a, (numAt ws 2), (numAt ws 3), 0, ⟨#[]⟩⟩ : GInstr) _ hnm).mono ?_
    rintro e w20 ⟨rfl, hb_⟩
    rw [HG.out.ok]
    replace HKR := Lib.hid (HKR.out.below hb_)
    replace HKM := Lib.hid (HKM.out.below hb_)
    have hs_20 := hb_.size
    replace HBW := Lib.hid (HBW.out.trans (hb_.mono HBW.out.size))
    clear hb_
    (try clear kk ff ll)
    obtain ⟨kk, ff⟩ := HKM.out.rules
    have ll := HKM.out.lt
    go_wp2_with fail
    refine (spec_FormatInstr_calls (⟨5, a, (numAt ws 2), (numAt ws 3), 0, ⟨#[]⟩⟩ : GInstr) HG.out _).mono ?_
    rintro e w21 ⟨rfl, hb_⟩
    rw [HT.out]
    replace HKR := Lib.hid (HKR.out.below hb_)
    replace HKM := Lib.hid (HKM.out.below hb_)
    have hs_21 := hb_.size
    replace HBW := Lib.hid (HBW.out.trans (hb_.mono HBW.out.size))
    clear hb_
    (try clear kk ff ll)
    obtain ⟨kk, ff⟩ := HKM.out.rules
    have ll := HKM.out.lt
    obtain ⟨kr, jr⟩ := HKR.out.rules
    have lr := HKR.out.lt
    go_wp2
    refine post_cell2 (w0 := w21) (fun k => k = w.heap.size) Try.results112 w.heap.size #[.int .i64 5, .int .i64 a, .int .i64 (numAt ws 2), .int .i64 (numAt ws 3), .int .i64 0, .string ⟨#[]⟩] (.bool true) _ rfl (Blk.eq ((((((HKR.out.set_ 0 (.int .i64 5)).set_ 1 (.int .i64 a)).set_ 2 (.int .i64 (numAt ws 2))).set_ 3 (.int .i64 (numAt ws 3))).set_ 4 (.int .i64 0)).set_ 5 (.string ⟨#[]⟩)) (by simp)) Try.underlying47 rfl (by kernel_rfl) rfl rfl (((((((Chg.refl (· = w.heap.size) _).setCell (p := ⟨w.heap.size, 0, none⟩) (.inl rfl) (.int .i64 5)).setCell (p := ⟨w.heap.size, 1, none⟩) (.inl rfl) (.int .i64 a)).setCell (p := ⟨w.heap.size, 2, none⟩) (.inl rfl) (.int .i64 (numAt ws 2))).setCell (p := ⟨w.heap.size, 3, none⟩) (.inl rfl) (.int .i64 (numAt ws 3))).setCell (p := ⟨w.heap.size, 4, none⟩) (.inl rfl) (.int .i64 0)).setCell (p := ⟨w.heap.size, 5, none⟩) (.inl rfl) (.string ⟨#[]⟩)) ?_
    intro W hW
    exact ⟨rfl, below_chg (HB0.out.trans (HBW.out.mono HB0.out.size)) hW (by omega) (by rintro _ rfl; exact Nat.le_refl _)⟩
  by_cases e6 : op = 6
  · subst e6
    obtain ⟨rfl, rfl, rfl, hnq⟩ := H6.out rfl
    go_wp2_with fail
    refine (spec_l7Number_calls _ ws 2 _ (HR.out.below HBW.out) (N2.out.resolve_right (by omega)) (by omega)).mono ?_
    rintro e w5 ⟨rfl, hb_⟩
    replace HKR := Lib.hid (HKR.out.below hb_)
    replace HKM := Lib.hid (HKM.out.below hb_)
    have hs_5 := hb_.size
    replace HBW := Lib.hid (HBW.out.trans (hb_.mono HBW.out.size))
    clear hb_
    (try clear kk ff ll)
    obtain ⟨kk, ff⟩ := HKM.out.rules
    have ll := HKM.out.lt
    go_wp2_with fail
    obtain ⟨w6, hw_⟩ : ∃ q, q = w5.setCell ⟨w3.heap.size, 2, none⟩ (.int .i64 (numAt ws 2)) := ⟨_, rfl⟩
    have hc_ : Chg (· = w3.heap.size) w5 w6 := by rw [hw_]; exact (Chg.refl (· = w3.heap.size) w5).setCell (p := ⟨w3.heap.size, 2, none⟩) (.inl rfl) _
    have HKMn : Hid (Blk w6 w3.heap.size 47 #[.int .i64 6, .int .i64 a, .int .i64 (numAt ws 2), .int .i64 0, .int .i64 0, .string ⟨#[]⟩]) := by rw [hw_]; exact (HKM.out.set_ 2 _).eq (by simp)
    replace HKR := Lib.hid (HKR.out.chg hc_ (by omega))
    have hs_6 : w6.heap.size = w5.heap.size := by rw [hw_]; simp [World.setCell]
    replace HBW := Lib.hid (below_chg HBW.out hc_ HBW.out.size (by rintro _ rfl; omega))
    rw [← hw_]
    clear hw_ hc_ HKM
    have HKM := HKMn
    clear HKMn
    (try clear kk ff ll)
    obtain ⟨kk, ff⟩ := HKM.out.rules
    have ll := HKM.out.lt
    go_wp2_with fail
    refine (spec_l7Number_calls _ ws 4 _ (HR.out.below HBW.out) N4.out (by omega)).mono ?_
    rintro e w7 ⟨rfl, hb_⟩
    replace HKR := Lib.hid (HKR.out.below hb_)
    replace HKM := Lib.hid (HKM.out.below hb_)
    have hs_7 := hb_.size
    replace HBW := Lib.hid (HBW.out.trans (hb_.mono HBW.out.size))
    clear hb_
    (try clear kk ff ll)
    obtain ⟨kk, ff⟩ := HKM.out.rules
    have ll := HKM.out.lt
    go_wp2_with fail
    obtain ⟨w8, hw_⟩ : ∃ q, q = w7.setCell ⟨w3.heap.size, 3, none⟩ (.int .i64 (numAt ws 4)) := ⟨_, rfl⟩
    have hc_ : Chg (· = w3.heap.size) w7 w8 := by rw [hw_]; exact (Chg.refl (· = w3.heap.size) w7).setCell (p := ⟨w3.heap.size, 3, none⟩) (.inl rfl) _
    have HKMn : Hid (Blk w8 w3.heap.size 47 #[.int .i64 6, .int .i64 a, .int .i64 (numAt ws 2), .int .i64 (numAt ws 4), .int .i64 0, .string ⟨#[]⟩]) := by rw [hw_]; exact (HKM.out.set_ 3 _).eq (by simp)
    replace HKR := Lib.hid (HKR.out.chg hc_ (by omega))
    have hs_8 : w8.heap.size = w7.heap.size := by rw [hw_]; simp [World.setCell]
    replace HBW := Lib.hid (below_chg HBW.out hc_ HBW.out.size (by rintro _ rfl; omega))
    rw [← hw_]
    clear hw_ hc_ HKM
    have HKM := HKMn
    clear HKMn
    (try clear kk ff ll)
    obtain ⟨kk, ff⟩ := HKM.out.rules
    have ll := HKM.out.lt
    go_wp2_with fail
    refine (spec_l7Number_calls _ ws 5 _ (HR.out.below HBW.out) N5.out (by omega)).mono ?_
    rintro e w9 ⟨rfl, hb_⟩
    replace HKR := Lib.hid (HKR.out.below hb_)
    replace HKM := Lib.hid (HKM.out.below hb_)
    have hs_9 := hb_.size
    replace HBW := Lib.hid (HBW.out.trans (hb_.mono HBW.out.size))
    clear hb_
    (try clear kk ff ll)
    obtain ⟨kk, ff⟩ := HKM.out.rules
    have ll := HKM.out.lt
    go_upto_region 14 with fail
    obtain ⟨w10, hw_⟩ : ∃ q, q = w9.setCell ⟨w3.heap.size, 4, none⟩ (.int .i64 (numAt ws 5)) := ⟨_, rfl⟩
    have hc_ : Chg (· = w3.heap.size) w9 w10 := by rw [hw_]; exact (Chg.refl (· = w3.heap.size) w9).setCell (p := ⟨w3.heap.size, 4, none⟩) (.inl rfl) _
    have HKMn : Hid (Blk w10 w3.heap.size 47 #[.int .i64 6, .int .i64 a, .int .i64 (numAt ws 2), .int .i64 (numAt ws 4), .int .i64 (numAt ws 5), .string ⟨#[]⟩]) := by rw [hw_]; exact (HKM.out.set_ 4 _).eq (by simp)
    replace HKR := Lib.hid (HKR.out.chg hc_ (by omega))
    have hs_10 : w10.heap.size = w9.heap.size := by rw [hw_]; simp [World.setCell]
    replace HBW := Lib.hid (below_chg HBW.out hc_ HBW.out.size (by rintro _ rfl; omega))
    rw [← hw_]
    clear hw_ hc_ HKM
    have HKM := HKMn
    clear HKMn
    (try clear kk ff ll)
    obtain ⟨kk, ff⟩ := HKM.out.rules
    have ll := HKM.out.lt
    have hl3 : (3 : Int) < ws.length := by have := (List.getElem?_eq_some_iff.1 hnq).1; omega
    obtain ⟨ad3, hA3, hab3, q3⟩ := row_eStr (HR.out.below HBW.out) hnq
    injection hA3 with hA3
    subst hA3
    have q3b : w10.cell? ⟨ad.block, ad.off + 3, none⟩ = some (.string nm) := by rw [← q3]; congr 1
    clear q3
    clear hnq
    go_upto_region 21 with fail
    obtain ⟨w11, hw_⟩ : ∃ q, q = w10.setCell ⟨w3.heap.size, 5, none⟩ (.string nm) := ⟨_, rfl⟩
    have hc_ : Chg (· = w3.heap.size) w10 w11 := by rw [hw_]; exact (Chg.refl (· = w3.heap.size) w10).setCell (p := ⟨w3.heap.size, 5, none⟩) (.inl rfl) _
    have HKMn : Hid (Blk w11 w3.heap.size 47 #[.int .i64 6, .int .i64 a, .int .i64 (numAt ws 2), .int .i64 (numAt ws 4), .int .i64 (numAt ws 5), .string nm]) := by rw [hw_]; exact (HKM.out.set_ 5 _).eq (by simp)
    replace HKR := Lib.hid (HKR.out.chg hc_ (by omega))
    have hs_11 : w11.heap.size = w10.heap.size := by rw [hw_]; simp [World.setCell]
    replace HBW := Lib.hid (below_chg HBW.out hc_ HBW.out.size (by rintro _ rfl; omega))
    rw [← hw_]
    clear hw_ hc_ HKM
    have HKM := HKMn
    clear HKMn
    (try clear kk ff ll)
    obtain ⟨kk, ff⟩ := HKM.out.rules
    have ll := HKM.out.lt
    go_wp2_with fail
    refine (spec_IsInstr_calls (⟨6, a, (numAt ws 2), (numAt ws 4), (numAt ws 5), nm⟩ : GInstr) _ hnm).mono ?_
    rintro e w20 ⟨rfl, hb_⟩
    rw [HG.out.ok]
    replace HKR := Lib.hid (HKR.out.below hb_)
    replace HKM := Lib.hid (HKM.out.below hb_)
    have hs_20 := hb_.size
    replace HBW := Lib.hid (HBW.out.trans (hb_.mono HBW.out.size))
    clear hb_
    (try clear kk ff ll)
    obtain ⟨kk, ff⟩ := HKM.out.rules
    have ll := HKM.out.lt
    go_wp2_with fail
    refine (spec_FormatInstr_calls (⟨6, a, (numAt ws 2), (numAt ws 4), (numAt ws 5), nm⟩ : GInstr) HG.out _).mono ?_
    rintro e w21 ⟨rfl, hb_⟩
    rw [HT.out]
    replace HKR := Lib.hid (HKR.out.below hb_)
    replace HKM := Lib.hid (HKM.out.below hb_)
    have hs_21 := hb_.size
    replace HBW := Lib.hid (HBW.out.trans (hb_.mono HBW.out.size))
    clear hb_
    (try clear kk ff ll)
    obtain ⟨kk, ff⟩ := HKM.out.rules
    have ll := HKM.out.lt
    obtain ⟨kr, jr⟩ := HKR.out.rules
    have lr := HKR.out.lt
    go_wp2
    refine post_cell2 (w0 := w21) (fun k => k = w.heap.size) Try.results112 w.heap.size #[.int .i64 6, .int .i64 a, .int .i64 (numAt ws 2), .int .i64 (numAt ws 4), .int .i64 (numAt ws 5), .string nm] (.bool true) _ rfl (Blk.eq ((((((HKR.out.set_ 0 (.int .i64 6)).set_ 1 (.int .i64 a)).set_ 2 (.int .i64 (numAt ws 2))).set_ 3 (.int .i64 (numAt ws 4))).set_ 4 (.int .i64 (numAt ws 5))).set_ 5 (.string nm)) (by simp)) Try.underlying47 rfl (by kernel_rfl) rfl rfl (((((((Chg.refl (· = w.heap.size) _).setCell (p := ⟨w.heap.size, 0, none⟩) (.inl rfl) (.int .i64 6)).setCell (p := ⟨w.heap.size, 1, none⟩) (.inl rfl) (.int .i64 a)).setCell (p := ⟨w.heap.size, 2, none⟩) (.inl rfl) (.int .i64 (numAt ws 2))).setCell (p := ⟨w.heap.size, 3, none⟩) (.inl rfl) (.int .i64 (numAt ws 4))).setCell (p := ⟨w.heap.size, 4, none⟩) (.inl rfl) (.int .i64 (numAt ws 5))).setCell (p := ⟨w.heap.size, 5, none⟩) (.inl rfl) (.string nm)) ?_
    intro W hW
    exact ⟨rfl, below_chg (HB0.out.trans (HBW.out.mono HB0.out.size)) hW (by omega) (by rintro _ rfl; exact Nat.le_refl _)⟩
  by_cases e7 : op = 7
  · subst e7
    obtain ⟨rfl, rfl, rfl, hnq⟩ := H7.out rfl
    go_wp2_with fail
    refine (spec_l7Number_calls _ ws 3 _ (HR.out.below HBW.out) (N3.out.resolve_right (by omega)) (by omega)).mono ?_
    rintro e w7 ⟨rfl, hb_⟩
    replace HKR := Lib.hid (HKR.out.below hb_)
    replace HKM := Lib.hid (HKM.out.below hb_)
    have hs_7 := hb_.size
    replace HBW := Lib.hid (HBW.out.trans (hb_.mono HBW.out.size))
    clear hb_
    (try clear kk ff ll)
    obtain ⟨kk, ff⟩ := HKM.out.rules
    have ll := HKM.out.lt
    go_wp2_with fail
    obtain ⟨w8, hw_⟩ : ∃ q, q = w7.setCell ⟨w3.heap.size, 3, none⟩ (.int .i64 (numAt ws 3)) := ⟨_, rfl⟩
    have hc_ : Chg (· = w3.heap.size) w7 w8 := by rw [hw_]; exact (Chg.refl (· = w3.heap.size) w7).setCell (p := ⟨w3.heap.size, 3, none⟩) (.inl rfl) _
    have HKMn : Hid (Blk w8 w3.heap.size 47 #[.int .i64 7, .int .i64 a, .int .i64 0, .int .i64 (numAt ws 3), .int .i64 0, .string ⟨#[]⟩]) := by rw [hw_]; exact (HKM.out.set_ 3 _).eq (by simp)
    replace HKR := Lib.hid (HKR.out.chg hc_ (by omega))
    have hs_8 : w8.heap.size = w7.heap.size := by rw [hw_]; simp [World.setCell]
    replace HBW := Lib.hid (below_chg HBW.out hc_ HBW.out.size (by rintro _ rfl; omega))
    rw [← hw_]
    clear hw_ hc_ HKM
    have HKM := HKMn
    clear HKMn
    (try clear kk ff ll)
    obtain ⟨kk, ff⟩ := HKM.out.rules
    have ll := HKM.out.lt
    go_wp2_with fail
    refine (spec_l7Number_calls _ ws 4 _ (HR.out.below HBW.out) N4.out (by omega)).mono ?_
    rintro e w9 ⟨rfl, hb_⟩
    replace HKR := Lib.hid (HKR.out.below hb_)
    replace HKM := Lib.hid (HKM.out.below hb_)
    have hs_9 := hb_.size
    replace HBW := Lib.hid (HBW.out.trans (hb_.mono HBW.out.size))
    clear hb_
    (try clear kk ff ll)
    obtain ⟨kk, ff⟩ := HKM.out.rules
    have ll := HKM.out.lt
    go_upto_region 19 with fail
    obtain ⟨w10, hw_⟩ : ∃ q, q = w9.setCell ⟨w3.heap.size, 4, none⟩ (.int .i64 (numAt ws 4)) := ⟨_, rfl⟩
    have hc_ : Chg (· = w3.heap.size) w9 w10 := by rw [hw_]; exact (Chg.refl (· = w3.heap.size) w9).setCell (p := ⟨w3.heap.size, 4, none⟩) (.inl rfl) _
    have HKMn : Hid (Blk w10 w3.heap.size 47 #[.int .i64 7, .int .i64 a, .int .i64 0, .int .i64 (numAt ws 3), .int .i64 (numAt ws 4), .string ⟨#[]⟩]) := by rw [hw_]; exact (HKM.out.set_ 4 _).eq (by simp)
    replace HKR := Lib.hid (HKR.out.chg hc_ (by omega))
    have hs_10 : w10.heap.size = w9.heap.size := by rw [hw_]; simp [World.setCell]
    replace HBW := Lib.hid (below_chg HBW.out hc_ HBW.out.size (by rintro _ rfl; omega))
    rw [← hw_]
    clear hw_ hc_ HKM
    have HKM := HKMn
    clear HKMn
    (try clear kk ff ll)
    obtain ⟨kk, ff⟩ := HKM.out.rules
    have ll := HKM.out.lt
    have hl3 : (2 : Int) < ws.length := by have := (List.getElem?_eq_some_iff.1 hnq).1; omega
    obtain ⟨ad3, hA3, hab3, q3⟩ := row_eStr (HR.out.below HBW.out) hnq
    injection hA3 with hA3
    subst hA3
    have q3b : w10.cell? ⟨ad.block, ad.off + 2, none⟩ = some (.string nm) := by rw [← q3]; congr 1
    clear q3
    clear hnq
    go_upto_region 21 with fail
    obtain ⟨w11, hw_⟩ : ∃ q, q = w10.setCell ⟨w3.heap.size, 5, none⟩ (.string nm) := ⟨_, rfl⟩
    have hc_ : Chg (· = w3.heap.size) w10 w11 := by rw [hw_]; exact (Chg.refl (· = w3.heap.size) w10).setCell (p := ⟨w3.heap.size, 5, none⟩) (.inl rfl) _
    have HKMn : Hid (Blk w11 w3.heap.size 47 #[.int .i64 7, .int .i64 a, .int .i64 0, .int .i64 (numAt ws 3), .int .i64 (numAt ws 4), .string nm]) := by rw [hw_]; exact (HKM.out.set_ 5 _).eq (by simp)
    replace HKR := Lib.hid (HKR.out.chg hc_ (by omega))
    have hs_11 : w11.heap.size = w10.heap.size := by rw [hw_]; simp [World.setCell]
    replace HBW := Lib.hid (below_chg HBW.out hc_ HBW.out.size (by rintro _ rfl; omega))
    rw [← hw_]
    clear hw_ hc_ HKM
    have HKM := HKMn
    clear HKMn
    (try clear kk ff ll)
    obtain ⟨kk, ff⟩ := HKM.out.rules
    have ll := HKM.out.lt
    go_wp2_with fail
    refine (spec_IsInstr_calls (⟨7, a, 0, (numAt ws 3), (numAt ws 4), nm⟩ : GInstr) _ hnm).mono ?_
    rintro e w20 ⟨rfl, hb_⟩
    rw [HG.out.ok]
    replace HKR := Lib.hid (HKR.out.below hb_)
    replace HKM := Lib.hid (HKM.out.below hb_)
    have hs_20 := hb_.size
    replace HBW := Lib.hid (HBW.out.trans (hb_.mono HBW.out.size))
    clear hb_
    (try clear kk ff ll)
    obtain ⟨kk, ff⟩ := HKM.out.rules
    have ll := HKM.out.lt
    go_wp2_with fail
    refine (spec_FormatInstr_calls (⟨7, a, 0, (numAt ws 3), (numAt ws 4), nm⟩ : GInstr) HG.out _).mono ?_
    rintro e w21 ⟨rfl, hb_⟩
    rw [HT.out]
    replace HKR := Lib.hid (HKR.out.below hb_)
    replace HKM := Lib.hid (HKM.out.below hb_)
    have hs_21 := hb_.size
    replace HBW := Lib.hid (HBW.out.trans (hb_.mono HBW.out.size))
    clear hb_
    (try clear kk ff ll)
    obtain ⟨kk, ff⟩ := HKM.out.rules
    have ll := HKM.out.lt
    obtain ⟨kr, jr⟩ := HKR.out.rules
    have lr := HKR.out.lt
    go_wp2
    refine post_cell2 (w0 := w21) (fun k => k = w.heap.size) Try.results112 w.heap.size #[.int .i64 7, .int .i64 a, .int .i64 0, .int .i64 (numAt ws 3), .int .i64 (numAt ws 4), .string nm] (.bool true) _ rfl (Blk.eq ((((((HKR.out.set_ 0 (.int .i64 7)).set_ 1 (.int .i64 a)).set_ 2 (.int .i64 0)).set_ 3 (.int .i64 (numAt ws 3))).set_ 4 (.int .i64 (numAt ws 4))).set_ 5 (.string nm)) (by simp)) Try.underlying47 rfl (by kernel_rfl) rfl rfl (((((((Chg.refl (· = w.heap.size) _).setCell (p := ⟨w.heap.size, 0, none⟩) (.inl rfl) (.int .i64 7)).setCell (p := ⟨w.heap.size, 1, none⟩) (.inl rfl) (.int .i64 a)).setCell (p := ⟨w.heap.size, 2, none⟩) (.inl rfl) (.int .i64 0)).setCell (p := ⟨w.heap.size, 3, none⟩) (.inl rfl) (.int .i64 (numAt ws 3))).setCell (p := ⟨w.heap.size, 4, none⟩) (.inl rfl) (.int .i64 (numAt ws 4))).setCell (p := ⟨w.heap.size, 5, none⟩) (.inl rfl) (.string nm)) ?_
    intro W hW
    exact ⟨rfl, below_chg (HB0.out.trans (HBW.out.mono HB0.out.size)) hW (by omega) (by rintro _ rfl; exact Nat.le_refl _)⟩
  obtain ⟨rfl, rfl, rfl, rfl⟩ := H0.out e410 e5 e6 e7
  go_wp2_with fail
  refine (spec_l7Number_calls _ ws 2 _ (HR.out.below HBW.out) (N2.out.resolve_right e7) (by omega)).mono ?_
  rintro e w5 ⟨rfl, hb_⟩
  replace HKR := Lib.hid (HKR.out.below hb_)
  replace HKM := Lib.hid (HKM.out.below hb_)
  have hs_5 := hb_.size
  replace HBW := Lib.hid (HBW.out.trans (hb_.mono HBW.out.size))
  clear hb_
  (try clear kk ff ll)
  obtain ⟨kk, ff⟩ := HKM.out.rules
  have ll := HKM.out.lt
  go_upto_region 21 with fail
  obtain ⟨w6, hw_⟩ : ∃ q, q = w5.setCell ⟨w3.heap.size, 2, none⟩ (.int .i64 (numAt ws 2)) := ⟨_, rfl⟩
  have hc_ : Chg (· = w3.heap.size) w5 w6 := by rw [hw_]; exact (Chg.refl (· = w3.heap.size) w5).setCell (p := ⟨w3.heap.size, 2, none⟩) (.inl rfl) _
  have HKMn : Hid (Blk w6 w3.heap.size 47 #[.int .i64 op, .int .i64 a, .int .i64 (numAt ws 2), .int .i64 0, .int .i64 0, .string ⟨#[]⟩]) := by rw [hw_]; exact (HKM.out.set_ 2 _).eq (by simp)
  replace HKR := Lib.hid (HKR.out.chg hc_ (by omega))
  have hs_6 : w6.heap.size = w5.heap.size := by rw [hw_]; simp [World.setCell]
  replace HBW := Lib.hid (below_chg HBW.out hc_ HBW.out.size (by rintro _ rfl; omega))
  rw [← hw_]
  clear hw_ hc_ HKM
  have HKM := HKMn
  clear HKMn
  (try clear kk ff ll)
  obtain ⟨kk, ff⟩ := HKM.out.rules
  have ll := HKM.out.lt
  go_wp2_with fail
  refine (spec_IsInstr_calls (⟨op, a, (numAt ws 2), 0, 0, ⟨#[]⟩⟩ : GInstr) _ hnm).mono ?_
  rintro e w20 ⟨rfl, hb_⟩
  rw [HG.out.ok]
  replace HKR := Lib.hid (HKR.out.below hb_)
  replace HKM := Lib.hid (HKM.out.below hb_)
  have hs_20 := hb_.size
  replace HBW := Lib.hid (HBW.out.trans (hb_.mono HBW.out.size))
  clear hb_
  (try clear kk ff ll)
  obtain ⟨kk, ff⟩ := HKM.out.rules
  have ll := HKM.out.lt
  go_wp2_with fail
  refine (spec_FormatInstr_calls (⟨op, a, (numAt ws 2), 0, 0, ⟨#[]⟩⟩ : GInstr) HG.out _).mono ?_
  rintro e w21 ⟨rfl, hb_⟩
  rw [HT.out]
  replace HKR := Lib.hid (HKR.out.below hb_)
  replace HKM := Lib.hid (HKM.out.below hb_)
  have hs_21 := hb_.size
  replace HBW := Lib.hid (HBW.out.trans (hb_.mono HBW.out.size))
  clear hb_
  (try clear kk ff ll)
  obtain ⟨kk, ff⟩ := HKM.out.rules
  have ll := HKM.out.lt
  obtain ⟨kr, jr⟩ := HKR.out.rules
  have lr := HKR.out.lt
  go_wp2
  refine post_cell2 (w0 := w21) (fun k => k = w.heap.size) Try.results112 w.heap.size #[.int .i64 op, .int .i64 a, .int .i64 (numAt ws 2), .int .i64 0, .int .i64 0, .string ⟨#[]⟩] (.bool true) _ rfl (Blk.eq ((((((HKR.out.set_ 0 (.int .i64 op)).set_ 1 (.int .i64 a)).set_ 2 (.int .i64 (numAt ws 2))).set_ 3 (.int .i64 0)).set_ 4 (.int .i64 0)).set_ 5 (.string ⟨#[]⟩)) (by simp)) Try.underlying47 rfl (by kernel_rfl) rfl rfl (((((((Chg.refl (· = w.heap.size) _).setCell (p := ⟨w.heap.size, 0, none⟩) (.inl rfl) (.int .i64 op)).setCell (p := ⟨w.heap.size, 1, none⟩) (.inl rfl) (.int .i64 a)).setCell (p := ⟨w.heap.size, 2, none⟩) (.inl rfl) (.int .i64 (numAt ws 2))).setCell (p := ⟨w.heap.size, 3, none⟩) (.inl rfl) (.int .i64 0)).setCell (p := ⟨w.heap.size, 4, none⟩) (.inl rfl) (.int .i64 0)).setCell (p := ⟨w.heap.size, 5, none⟩) (.inl rfl) (.string ⟨#[]⟩)) ?_
  intro W hW
  exact ⟨rfl, below_chg (HB0.out.trans (HBW.out.mono HB0.out.size)) hW (by omega) (by rintro _ rfl; exact Nat.le_refl _)⟩

end Go.Proofs.Ytiohoeafdaihpaa
