import Derived.Test.YtmnpoajdibmocaaGreatProg
import Derived.Test.YtmnpoajdibmocaaGreatTypes
import Derived.StillTailTactics
import Derived.Deep.RegionHeld3
import Derived.Laws.IdiomStrings
import Derived.Test.YtmnpoajdibmocaaGreatAppend
import Derived.Laws.StructEq
import Derived.Lib.SliceRun
import Derived.Shelf.RegionOpenPlain
import Derived.Test.YtmnpoajdibmocaaGreatVat
namespace Go.Proofs.YtmnpoajdibmocaaGreat
open Go.RowKit
set_option linter.unusedVariables false
set_option linter.unusedSimpArgs false

set_option maxHeartbeats 400000 in
theorem spec_BrokenValue_calls (w : World) :
    Calls Tryz.prog 43 #[] w fun e w' => e = .returned (.agg #[.int .i64 2, .int .i64 0]) ∧ Below w.heap.size w w' := by
  go_enter Tryz.func43, Tryz.ntmps43
  go_wp2
  refine bodyPost_ret (v := .agg #[.int .i64 2, .int .i64 0]) (by simp [results, Tryz.results43, go_sem]) rfl ⟨rfl, ?_⟩
  exact (Below.refl _ _).alloc (Nat.le_refl _) _
set_option maxHeartbeats 400000 in
theorem spec_RefValue_calls (n : Int) (w : World) :
    Calls Tryz.prog 19 #[.int .i64 n] w fun e w' => e = .returned (.agg #[.int .i64 1, .int .i64 n]) ∧ Below w.heap.size w w' := by
  go_enter Tryz.func19, Tryz.ntmps19
  go_wp2
  refine bodyPost_ret (v := .agg #[.int .i64 1, .int .i64 n]) (by simp [results, Tryz.results19, go_sem]) rfl ⟨rfl, ?_⟩
  exact (Below.refl _ _).alloc (Nat.le_refl _) _
set_option maxHeartbeats 400000 in
theorem impl_BrokenValue_calls (w : World) :
    Calls Tryz.prog 51 #[] w fun e w' => e = .returned (.agg #[.int .i64 2, .int .i64 0]) ∧ Below w.heap.size w w' := by
  go_enter Tryz.func51, Tryz.ntmps51
  go_wp2
  refine bodyPost_ret (v := .agg #[.int .i64 2, .int .i64 0]) (by simp [results, Tryz.results51, go_sem]) rfl ⟨rfl, ?_⟩
  exact (Below.refl _ _).alloc (Nat.le_refl _) _
set_option maxHeartbeats 400000 in
theorem impl_RefValue_calls (n : Int) (w : World) :
    Calls Tryz.prog 27 #[.int .i64 n] w fun e w' => e = .returned (.agg #[.int .i64 1, .int .i64 n]) ∧ Below w.heap.size w w' := by
  go_enter Tryz.func27, Tryz.ntmps27
  go_wp2
  refine bodyPost_ret (v := .agg #[.int .i64 1, .int .i64 n]) (by simp [results, Tryz.results27, go_sem]) rfl ⟨rfl, ?_⟩
  exact (Below.refl _ _).alloc (Nat.le_refl _) _
set_option maxHeartbeats 3200000 in
set_option maxRecDepth 100000 in
theorem spec_Look_run (us : List Value) (x : GVat) (us' : List Value) (t : GValue) (w : World) (hr : RdLW w (eVat x) us) (hr' : RdLW w (eValue t) us') (hz : sizL (eVat x) ≤ 1048576) :
    Calls Tryz.prog 18 #[.agg us.toArray, .agg us'.toArray] w fun e w' => e = .returned (.agg #[.int .i64 (lookOf x t).Kind, .int .i64 (lookOf x t).N]) ∧ Below w.heap.size w w' := by
  have hzx := hz
  rw [siz_eVat] at hzx
  obtain ⟨v1, v2, v3, v4, rfl, h1, h2, h3, h4⟩ := rd_eVat hr
  obtain ⟨A, c, rfl, ⟨_, _, hl⟩⟩ := h1.slice
  have HR := Lib.hid h1
  clear hr h1 h2 h3 h4
  have HB0 := Lib.hid ((Below.refl w.heap.size w).alloc (Nat.le_refl _) (.cells #[.int .i64 x.Id, .slice A x.Entities.length c, v2, v3, v4] 36))
  obtain rfl := rd_eValue hr'
  clear hr'
  obtain ⟨z, hz0⟩ : ∃ z, z = lookOf x t := ⟨_, rfl⟩
  have HZ := Lib.hid hz0
  rw [← hz0]
  clear hz0
  have HB1 := Lib.hid ((HB0.out.alloc (by simp) (.cells #[.int .i64 t.Kind, .int .i64 t.N] 53)).alloc (by simp; omega) (.cells #[.int .i64 0, .int .i64 0] 53))
  go_enter Tryz.func18, Tryz.ntmps18
  go_wp2
  go_loopw [5] (fun b wr => ∃ (i : Nat) (y : GValue), i ≤ x.Entities.length + 1 ∧ b = .int .i64 i ∧ Hid (Below w.heap.size w wr) ∧ Hid (Blk wr w.heap.size 36 #[.int .i64 x.Id, .slice A x.Entities.length c, v2, v3, v4]) ∧ Hid (Blk wr (w.heap.size + 1) 53 #[.int .i64 y.Kind, .int .i64 y.N]) ∧ Hid (Blk wr (w.heap.size + 1 + 1) 53 #[.int .i64 0, .int .i64 0]) ∧ Hid (lookN x.Entities (x.Entities.length + 1 - i) y = lookOf x t)) (fun b wr => x.Entities.length + 1 - (intOf b).toNat)
  case atStart => exact ⟨0, t, by omega, rfl, HB1, ((Blk.new _ _ _).alloc _).alloc _, (Blk.made (by simp)).alloc _, Blk.made (by simp), rfl⟩
  case round =>
    obtain ⟨i, ⟨yk, yn⟩, hi, rfl, HB, HK0, HK1, HK2, HL⟩ := hrel
    dsimp only at HK1
    obtain ⟨kb0, kf0⟩ := HK0.out.rules
    obtain ⟨kb1, kf1⟩ := HK1.out.rules
    obtain ⟨kb2, kf2⟩ := HK2.out.rules
    have hbl0 := HK0.out.lt
    have hbl1 := HK1.out.lt
    have hbl2 := HK2.out.lt
    by_cases hlt : i < x.Entities.length + 1
    · obtain ⟨m, hm⟩ : ∃ m, x.Entities.length + 1 - i = m + 1 := ⟨x.Entities.length - i, by omega⟩
      have HM := Lib.hid hm
      clear hm
      by_cases e1 : ¬ yk = 1
      · have HE : Hid (z = ⟨yk, yn⟩) := by unfold Hid; rw [HZ.out, ← HL.out, HM.out, lookN_no e1]
        go_wp2
        refine post_cell (w0 := wr) (fun k => k = w.heap.size + 1 + 1) Tryz.results18 (w.heap.size + 1 + 1) #[.int .i64 yk, .int .i64 yn] _ rfl (Blk.eq (((HK2.out.set_ 0 _).set_ 1 _)) (by simp)) Tryz.underlying53 rfl (by kernel_rfl) rfl ((((Chg.refl (· = w.heap.size + 1 + 1) _).setCell (p := ⟨w.heap.size + 1 + 1, 0, none⟩) (.inl rfl) _).setCell (p := ⟨w.heap.size + 1 + 1, 1, none⟩) (.inl rfl) _)) ?_
        intro W hW
        exact ⟨by rw [HE.out], below_chg HB.out hW HB.out.size (fun k h => by omega)⟩
      replace e1 := Classical.not_not.1 e1
      subst e1
      cases hen : entAt x.Entities yn with
      | none =>
        have HE : Hid (z = ⟨1, yn⟩) := by unfold Hid; rw [HZ.out, ← HL.out, HM.out]; exact lookN_out hen
        have hout := entAt_out hen
        have HI : Hid (inR yn 0 ((x.Entities.length : Int) - 1) = false) := by unfold Hid inR; simpa using hout
        clear hen
        go_wp2_with fail
        refine (spec_l1In_calls _ _ _ _).mono ?_
        rintro e w1 ⟨rfl, rfl⟩
        rw [HI.out]
        go_wp2
        refine post_cell (w0 := w1) (fun k => k = w.heap.size + 1 + 1) Tryz.results18 (w.heap.size + 1 + 1) #[.int .i64 1, .int .i64 yn] _ rfl (Blk.eq (((HK2.out.set_ 0 _).set_ 1 _)) (by simp)) Tryz.underlying53 rfl (by kernel_rfl) rfl ((((Chg.refl (· = w.heap.size + 1 + 1) _).setCell (p := ⟨w.heap.size + 1 + 1, 0, none⟩) (.inl rfl) _).setCell (p := ⟨w.heap.size + 1 + 1, 1, none⟩) (.inl rfl) _)) ?_
        intro W hW
        exact ⟨by rw [HE.out], below_chg HB.out hW HB.out.size (fun k h => by omega)⟩
      | some y =>
        obtain ⟨j, rfl, hjl, hy⟩ := entAt_some hen
        obtain ⟨ad, u2, u6, u7, rfl, hab, k0, k1, k2, k3, k4, k5, k6, k7, k8, k9, k10, k11, q2, q6, q7⟩ := row_eEntity (HR.out.below HB.out) hy
        have hab' : (ad.add (j * 12)).block < wr.heap.size := by rw [block_of_add]; exact hab
        obtain ⟨A2, c2, rfl, -⟩ := q2.slice
        obtain ⟨A6, c6, rfl, -⟩ := q6.slice
        obtain ⟨A7, c7, rfl, -⟩ := q7.slice
        obtain ⟨f0, f1, f2, f3, f4, f5, f6, f7, f8, f9, f10⟩ := y
        dsimp only at k0 k1 k2 k3 k4 k5 k6 k7 k8 k9 k10 k11
        have HX := Lib.hid hen
        clear hy q2 q6 q7 hen
        have HI : Hid (inR (j : Int) 0 ((x.Entities.length : Int) - 1) = true) := by unfold Hid inR; simp; omega
        go_wp2_with fail
        refine (spec_l1In_calls _ _ _ _).mono ?_
        rintro e w1 ⟨rfl, rfl⟩
        rw [HI.out]
        by_cases c1 : ¬ f0 = 2
        · have HE : Hid (z = ⟨1, (j : Int)⟩) := by unfold Hid; rw [HZ.out, ← HL.out, HM.out]; exact lookN_end HX.out (by simp [c1])
          go_wp2
          refine post_cell (w0 := w1) (fun k => k = w.heap.size + 1 + 1) Tryz.results18 (w.heap.size + 1 + 1) #[.int .i64 1, .int .i64 j] _ rfl (Blk.eq (((HK2.out.set_ 0 _).set_ 1 _).alloc _) (by simp)) Tryz.underlying53 rfl (by kernel_rfl) rfl ((((Chg.refl (· = w.heap.size + 1 + 1) _).setCell (p := ⟨w.heap.size + 1 + 1, 0, none⟩) (.inl rfl) _).setCell (p := ⟨w.heap.size + 1 + 1, 1, none⟩) (.inl rfl) _).alloc _) ?_
          intro W hW
          exact ⟨by rw [HE.out], below_chg HB.out hW HB.out.size (fun k h => by omega)⟩
        replace c1 := Classical.not_not.1 c1
        subst c1
        by_cases c2 : ¬ f3 = 2
        · have HE : Hid (z = ⟨1, (j : Int)⟩) := by unfold Hid; rw [HZ.out, ← HL.out, HM.out]; exact lookN_end HX.out (by simp [c2])
          go_wp2
          refine post_cell (w0 := w1) (fun k => k = w.heap.size + 1 + 1) Tryz.results18 (w.heap.size + 1 + 1) #[.int .i64 1, .int .i64 j] _ rfl (Blk.eq (((HK2.out.set_ 0 _).set_ 1 _).alloc _) (by simp)) Tryz.underlying53 rfl (by kernel_rfl) rfl ((((Chg.refl (· = w.heap.size + 1 + 1) _).setCell (p := ⟨w.heap.size + 1 + 1, 0, none⟩) (.inl rfl) _).setCell (p := ⟨w.heap.size + 1 + 1, 1, none⟩) (.inl rfl) _).alloc _) ?_
          intro W hW
          exact ⟨by rw [HE.out], below_chg HB.out hW HB.out.size (fun k h => by omega)⟩
        replace c2 := Classical.not_not.1 c2
        subst c2
        have HLN : Hid (lookN x.Entities (x.Entities.length + 1 - (i + 1)) f4 = lookOf x t) := by
          unfold Hid
          rw [← HL.out, HM.out]
          have h := HM.out
          rw [show x.Entities.length + 1 - (i + 1) = m from by omega]
          exact (lookN_on (x := ⟨1, (j : Int)⟩) rfl HX.out (by rfl) (by rfl)).symm
        go_wp2
        go_roundw
        case rel => exact ⟨i + 1, f4, by omega, by go_num, ((HB.out.setCell (p := ⟨w.heap.size + 1, 0, none⟩) (by simp) _).setCell (p := ⟨w.heap.size + 1, 1, none⟩) (by simp) _).alloc (by have := HB.out.size; simp only [size_set]; omega) _, ((HK0.out.far (by first | (simp; done) | (simp; omega)) _).far (by first | (simp; done) | (simp; omega)) _).alloc _, Blk.eq (((HK1.out.set_ 0 _).set_ 1 _).alloc _) (by simp), ((HK2.out.far (by first | (simp; done) | (simp; omega)) _).far (by first | (simp; done) | (simp; omega)) _).alloc _, HLN⟩
        case measure => simp [intOf]; omega
    · have : i = x.Entities.length + 1 := by omega
      subst this
      have HE : Hid (z = ⟨2, 0⟩) := by unfold Hid; rw [HZ.out, ← HL.out, Nat.sub_self]; rfl
      go_wp2_with fail
      refine (spec_BrokenValue_calls _).mono ?_
      rintro e w1 ⟨rfl, hb1⟩
      have HK3 := Lib.hid (HK2.out.below hb1)
      have HB3 := Lib.hid (HB.out.trans (hb1.mono HB.out.size))
      obtain ⟨kb3, kf3⟩ := HK3.out.rules
      have hbl3 := HK3.out.lt
      clear hb1
      go_wp2
      refine post_cell (w0 := w1) (fun k => k = w.heap.size + 1 + 1) Tryz.results18 (w.heap.size + 1 + 1) #[.int .i64 2, .int .i64 0] _ rfl (Blk.eq (((HK3.out.set_ 0 _).set_ 1 _)) (by simp)) Tryz.underlying53 rfl (by kernel_rfl) rfl ((((Chg.refl (· = w.heap.size + 1 + 1) _).setCell (p := ⟨w.heap.size + 1 + 1, 0, none⟩) (.inl rfl) _).setCell (p := ⟨w.heap.size + 1 + 1, 1, none⟩) (.inl rfl) _)) ?_
      intro W hW
      exact ⟨by rw [HE.out], below_chg HB3.out hW HB3.out.size (fun k h => by omega)⟩
set_option maxHeartbeats 3200000 in
set_option maxRecDepth 100000 in
theorem impl_Vat_look_calls (g : Nat) (us : List Value) (x : GVat) (t : GValue) (w : World) (hb : Blk w g 36 us.toArray) (hr : RdLW w (eVat x) us) (hz : sizL (eVat x) ≤ 1048576) :
    Calls Tryz.prog 26 #[.pointer (some ⟨g, 0, none⟩), .agg #[.int .i64 t.Kind, .int .i64 t.N]] w fun e w' => e = .returned (.agg #[.int .i64 (lookOf x t).Kind, .int .i64 (lookOf x t).N]) ∧ Below w.heap.size w w' := by
  have hzx := hz
  rw [siz_eVat] at hzx
  obtain ⟨v1, v2, v3, v4, rfl, h1, h2, h3, h4⟩ := rd_eVat hr
  obtain ⟨A, c, rfl, ⟨_, _, hl⟩⟩ := h1.slice
  have HR := Lib.hid h1
  clear hr h1 h2 h3 h4
  obtain ⟨kg0, kg1⟩ := hb.rules
  have hgl := hb.lt
  have HBG := Lib.hid hb
  clear hb
  obtain ⟨z, hz0⟩ : ∃ z, z = lookOf x t := ⟨_, rfl⟩
  have HZ := Lib.hid hz0
  rw [← hz0]
  clear hz0
  have HB1 := Lib.hid (((Below.refl w.heap.size w).alloc (Nat.le_refl _) (.cells #[.int .i64 t.Kind, .int .i64 t.N] 53)).alloc (by simp) (.cells #[.int .i64 0, .int .i64 0] 53))
  go_enter Tryz.func26, Tryz.ntmps26
  go_wp2
  go_loopw [12] (fun b wr => ∃ (i : Nat) (y : GValue), i ≤ x.Entities.length + 1 ∧ b = .int .i64 i ∧ Hid (Below w.heap.size w wr) ∧ Hid (Blk wr g 36 #[.int .i64 x.Id, .slice A x.Entities.length c, v2, v3, v4]) ∧ Hid (Blk wr (w.heap.size) 53 #[.int .i64 y.Kind, .int .i64 y.N]) ∧ Hid (Blk wr (w.heap.size + 1) 53 #[.int .i64 0, .int .i64 0]) ∧ Hid (lookN x.Entities (x.Entities.length + 1 - i) y = lookOf x t)) (fun b wr => x.Entities.length + 1 - (intOf b).toNat)
  case atStart => exact ⟨0, t, by omega, rfl, HB1, (HBG.out.alloc _).alloc _, (Blk.new _ _ _).alloc _, Blk.made (by simp), rfl⟩
  case round =>
    obtain ⟨i, ⟨yk, yn⟩, hi, rfl, HB, HK0, HK1, HK2, HL⟩ := hrel
    dsimp only at HK1
    obtain ⟨kb0, kf0⟩ := HK0.out.rules
    obtain ⟨kb1, kf1⟩ := HK1.out.rules
    obtain ⟨kb2, kf2⟩ := HK2.out.rules
    have hbl0 := HK0.out.lt
    have hbl1 := HK1.out.lt
    have hbl2 := HK2.out.lt
    by_cases hlt : i < x.Entities.length + 1
    · obtain ⟨m, hm⟩ : ∃ m, x.Entities.length + 1 - i = m + 1 := ⟨x.Entities.length - i, by omega⟩
      have HM := Lib.hid hm
      clear hm
      by_cases e1 : ¬ yk = 1
      · have HE : Hid (z = ⟨yk, yn⟩) := by unfold Hid; rw [HZ.out, ← HL.out, HM.out, lookN_no e1]
        go_wp2
        refine post_cell (w0 := wr) (fun k => k = w.heap.size + 1) Tryz.results26 (w.heap.size + 1) #[.int .i64 yk, .int .i64 yn] _ rfl (Blk.eq (((HK2.out.set_ 0 _).set_ 1 _)) (by simp)) Tryz.underlying53 rfl (by kernel_rfl) rfl ((((Chg.refl (· = w.heap.size + 1) _).setCell (p := ⟨w.heap.size + 1, 0, none⟩) (.inl rfl) _).setCell (p := ⟨w.heap.size + 1, 1, none⟩) (.inl rfl) _)) ?_
        intro W hW
        exact ⟨by rw [HE.out], below_chg HB.out hW HB.out.size (fun k h => by omega)⟩
      replace e1 := Classical.not_not.1 e1
      subst e1
      cases hen : entAt x.Entities yn with
      | none =>
        have HE : Hid (z = ⟨1, yn⟩) := by unfold Hid; rw [HZ.out, ← HL.out, HM.out]; exact lookN_out hen
        have hout := entAt_out hen
        clear hen
        go_wp2_with fail
        refine (impl_Vat_entity_none g A x.Entities.length c x.Id v2 v3 v4 yn _ HK0.out (by omega) hout).mono ?_
        rintro e w1 ⟨rfl, rfl⟩
        go_wp2
        refine post_cell (w0 := w1) (fun k => k = w.heap.size + 1) Tryz.results26 (w.heap.size + 1) #[.int .i64 1, .int .i64 yn] _ rfl (Blk.eq (((HK2.out.set_ 0 _).set_ 1 _)) (by simp)) Tryz.underlying53 rfl (by kernel_rfl) rfl ((((Chg.refl (· = w.heap.size + 1) _).setCell (p := ⟨w.heap.size + 1, 0, none⟩) (.inl rfl) _).setCell (p := ⟨w.heap.size + 1, 1, none⟩) (.inl rfl) _)) ?_
        intro W hW
        exact ⟨by rw [HE.out], below_chg HB.out hW HB.out.size (fun k h => by omega)⟩
      | some y =>
        obtain ⟨j, rfl, hjl, hy⟩ := entAt_some hen
        obtain ⟨ad, u2, u6, u7, rfl, hab, k0, k1, k2, k3, k4, k5, k6, k7, k8, k9, k10, k11, q2, q6, q7⟩ := row_eEntity (HR.out.below HB.out) hy
        have hab' : (ad.add (j * 12)).block < wr.heap.size := by rw [block_of_add]; exact hab
        obtain ⟨A2, c2, rfl, -⟩ := q2.slice
        obtain ⟨A6, c6, rfl, -⟩ := q6.slice
        obtain ⟨A7, c7, rfl, -⟩ := q7.slice
        obtain ⟨f0, f1, f2, f3, f4, f5, f6, f7, f8, f9, f10⟩ := y
        dsimp only at k0 k1 k2 k3 k4 k5 k6 k7 k8 k9 k10 k11
        have HX := Lib.hid hen
        clear hy q2 q6 q7 hen
        go_wp2_with fail
        refine (impl_Vat_entity_some g ad x.Entities.length c x.Id v2 v3 v4 j _ HK0.out (by omega) hjl).mono ?_
        rintro e w1 ⟨rfl, rfl⟩
        by_cases c1 : ¬ f0 = 2
        · have HE : Hid (z = ⟨1, (j : Int)⟩) := by unfold Hid; rw [HZ.out, ← HL.out, HM.out]; exact lookN_end HX.out (by simp [c1])
          go_wp2
          refine post_cell (w0 := w1) (fun k => k = w.heap.size + 1) Tryz.results26 (w.heap.size + 1) #[.int .i64 1, .int .i64 j] _ rfl (Blk.eq (((HK2.out.set_ 0 _).set_ 1 _)) (by simp)) Tryz.underlying53 rfl (by kernel_rfl) rfl ((((Chg.refl (· = w.heap.size + 1) _).setCell (p := ⟨w.heap.size + 1, 0, none⟩) (.inl rfl) _).setCell (p := ⟨w.heap.size + 1, 1, none⟩) (.inl rfl) _)) ?_
          intro W hW
          exact ⟨by rw [HE.out], below_chg HB.out hW HB.out.size (fun k h => by omega)⟩
        replace c1 := Classical.not_not.1 c1
        subst c1
        by_cases c2 : ¬ f3 = 2
        · have HE : Hid (z = ⟨1, (j : Int)⟩) := by unfold Hid; rw [HZ.out, ← HL.out, HM.out]; exact lookN_end HX.out (by simp [c2])
          go_wp2
          refine post_cell (w0 := w1) (fun k => k = w.heap.size + 1) Tryz.results26 (w.heap.size + 1) #[.int .i64 1, .int .i64 j] _ rfl (Blk.eq (((HK2.out.set_ 0 _).set_ 1 _)) (by simp)) Tryz.underlying53 rfl (by kernel_rfl) rfl ((((Chg.refl (· = w.heap.size + 1) _).setCell (p := ⟨w.heap.size + 1, 0, none⟩) (.inl rfl) _).setCell (p := ⟨w.heap.size + 1, 1, none⟩) (.inl rfl) _)) ?_
          intro W hW
          exact ⟨by rw [HE.out], below_chg HB.out hW HB.out.size (fun k h => by omega)⟩
        replace c2 := Classical.not_not.1 c2
        subst c2
        have HLN : Hid (lookN x.Entities (x.Entities.length + 1 - (i + 1)) f4 = lookOf x t) := by
          unfold Hid
          rw [← HL.out, HM.out]
          have h := HM.out
          rw [show x.Entities.length + 1 - (i + 1) = m from by omega]
          exact (lookN_on (x := ⟨1, (j : Int)⟩) rfl HX.out (by rfl) (by rfl)).symm
        go_wp2
        go_roundw
        case rel => exact ⟨i + 1, f4, by omega, by go_num, ((HB.out.setCell (p := ⟨w.heap.size, 0, none⟩) (by simp) _).setCell (p := ⟨w.heap.size, 1, none⟩) (by simp) _), ((HK0.out.far (by first | (simp; done) | (simp; omega)) _).far (by first | (simp; done) | (simp; omega)) _), Blk.eq (((HK1.out.set_ 0 _).set_ 1 _)) (by simp), ((HK2.out.far (by first | (simp; done) | (simp; omega)) _).far (by first | (simp; done) | (simp; omega)) _), HLN⟩
        case measure => simp [intOf]; omega
    · have : i = x.Entities.length + 1 := by omega
      subst this
      have HE : Hid (z = ⟨2, 0⟩) := by unfold Hid; rw [HZ.out, ← HL.out, Nat.sub_self]; rfl
      go_wp2_with fail
      refine (impl_BrokenValue_calls _).mono ?_
      rintro e w1 ⟨rfl, hb1⟩
      have HK3 := Lib.hid (HK2.out.below hb1)
      have HB3 := Lib.hid (HB.out.trans (hb1.mono HB.out.size))
      obtain ⟨kb3, kf3⟩ := HK3.out.rules
      have hbl3 := HK3.out.lt
      clear hb1
      go_wp2
      refine post_cell (w0 := w1) (fun k => k = w.heap.size + 1) Tryz.results26 (w.heap.size + 1) #[.int .i64 2, .int .i64 0] _ rfl (Blk.eq (((HK3.out.set_ 0 _).set_ 1 _)) (by simp)) Tryz.underlying53 rfl (by kernel_rfl) rfl ((((Chg.refl (· = w.heap.size + 1) _).setCell (p := ⟨w.heap.size + 1, 0, none⟩) (.inl rfl) _).setCell (p := ⟨w.heap.size + 1, 1, none⟩) (.inl rfl) _)) ?_
      intro W hW
      exact ⟨by rw [HE.out], below_chg HB3.out hW HB3.out.size (fun k h => by omega)⟩
theorem spec_Look_calls (us : List Value) (x : GVat) (us' : List Value) (t : GValue) (w : World) (hr : RdLW w (eVat x) us) (hr' : RdLW w (eValue t) us') (hz : sizL (eVat x) ≤ 1048576) :
    Calls Tryz.prog 18 #[.agg us.toArray, .agg us'.toArray] w fun e w' => ∃ us', e = .returned (.agg us'.toArray) ∧ RdLW w' (eValue (lookOf x t)) us' ∧ Below w.heap.size w w' :=
  (spec_Look_run us x us' t w hr hr' hz).mono fun e w' ⟨he, hb⟩ => ⟨_, he, mkrd_eValue, hb⟩
end Go.Proofs.YtmnpoajdibmocaaGreat
