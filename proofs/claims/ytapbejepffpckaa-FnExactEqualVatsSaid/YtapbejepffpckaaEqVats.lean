import Derived.Test.YtapbejepffpckaaProg
import Derived.Test.YtapbejepffpckaaTypes
import Derived.StillTailTactics
import Derived.Deep.RegionHeld3
import Derived.Laws.IdiomStrings
import Derived.Test.YtapbejepffpckaaAppend
import Derived.Laws.StructEq
import Derived.Lib.SliceRun
import Derived.Shelf.RegionOpenPlain
import Derived.Test.YtapbejepffpckaaEqEnt
import Derived.Test.YtapbejepffpckaaEqMsg
namespace Go.Proofs.Ytapbejepffpckaa
open Go.RowKit
set_option linter.unusedVariables false
set_option linter.unusedSimpArgs false

set_option maxHeartbeats 12800000 in
set_option maxRecDepth 100000 in
theorem spec_EqualVats_calls (us : List Value) (x : GVat) (us' : List Value) (y : GVat) (w : World) (hr : RdLW w (eVat x) us) (hr' : RdLW w (eVat y) us') (hz : sizL (eVat x) ≤ 1048576) (hz' : sizL (eVat y) ≤ 1048576) :
    Calls Try.prog 36 #[.agg us.toArray, .agg us'.toArray] w fun e w' => e = .returned (.bool (sameVat x y)) ∧ Below w.heap.size w w' := by
  obtain ⟨f0, f1, f2, f3, f4⟩ := x
  obtain ⟨f0', f1', f2', f3', f4'⟩ := y
  rw [siz_eVat] at hz hz'
  obtain ⟨v1, v2, v3, v4, rfl, h1, h2, h3, h4⟩ := rd_eVat hr
  obtain ⟨v1', v2', v3', v4', rfl, h1', h2', h3', h4'⟩ := rd_eVat hr'
  obtain ⟨A1, c1, rfl, ⟨_, _, hl1⟩⟩ := h1.slice
  obtain ⟨A2, c2, rfl, ⟨_, _, hl2⟩⟩ := h2.slice
  obtain ⟨A3, c3, rfl, ⟨_, _, hl3⟩⟩ := h3.slice
  obtain ⟨A4, c4, rfl, ⟨_, _, hl4⟩⟩ := h4.slice
  obtain ⟨A1', c1', rfl, ⟨_, _, hl1'⟩⟩ := h1'.slice
  obtain ⟨A2', c2', rfl, ⟨_, _, hl2'⟩⟩ := h2'.slice
  obtain ⟨A3', c3', rfl, ⟨_, _, hl3'⟩⟩ := h3'.slice
  obtain ⟨A4', c4', rfl, ⟨_, _, hl4'⟩⟩ := h4'.slice
  dsimp only at h1 h2 h3 h4 h1' h2' h3' h4' hl1 hl2 hl3 hl4 hl1' hl2' hl3' hl4' hz hz' ⊢
  have HR1 := Lib.hid h1
  have HS1 := Lib.hid h1'
  have HR2 := Lib.hid h2
  have HS2 := Lib.hid h2'
  have HR3 := Lib.hid h3
  have HS3 := Lib.hid h3'
  have HR4 := Lib.hid h4
  have HS4 := Lib.hid h4'
  clear hr hr' h1 h2 h3 h4 h1' h2' h3' h4'
  have HB0 := Lib.hid (((Below.refl w.heap.size w).alloc (Nat.le_refl _) (.cells #[.int .i64 f0, .slice A1 f1.length c1, .slice A2 f2.length c2, .slice A3 f3.length c3, .slice A4 f4.length c4] 35)).alloc (by simp) (.cells #[.int .i64 f0', .slice A1' f1'.length c1', .slice A2' f2'.length c2', .slice A3' f3'.length c3', .slice A4' f4'.length c4'] 35))
  by_cases q0 : ¬ f0 = f0'
  · have HE : Hid (sameVat ⟨f0, f1, f2, f3, f4⟩ ⟨f0', f1', f2', f3', f4'⟩ = false) := by unfold Hid; simp [sameVat, q0]
    go_enter Try.func36, Try.ntmps36
    go_wp2
    go_ret
    exact ⟨by rw [HE.out]; rfl, HB0.out⟩
  replace q0 := Classical.not_not.1 q0
  subst q0
  by_cases q1 : ¬ f1.length = f1'.length
  · have HE : Hid (sameVat ⟨f0, f1, f2, f3, f4⟩ ⟨f0, f1', f2', f3', f4'⟩ = false) := by unfold Hid; simp [sameVat, sameL_len q1]
    have hlb : ((f1.length : Int) != (f1'.length : Int)) = true := by simp; omega
    go_enter Try.func36, Try.ntmps36
    go_wp2
    go_ret
    exact ⟨by rw [HE.out]; rfl, HB0.out⟩
  have L1 := Lib.hid (Classical.not_not.1 q1)
  have lb1 : ((f1.length : Int) != (f1'.length : Int)) = false := by have := L1.out; simp; omega
  clear q1
  have HK10 := Lib.hid ((Blk.new w 35 #[.int .i64 f0, .slice A1 f1.length c1, .slice A2 f2.length c2, .slice A3 f3.length c3, .slice A4 f4.length c4]).alloc (.cells #[.int .i64 f0, .slice A1' f1'.length c1', .slice A2' f2'.length c2', .slice A3' f3'.length c3', .slice A4' f4'.length c4'] 35))
  have HK20 : Hid (Blk ((w.alloc (.cells #[.int .i64 f0, .slice A1 f1.length c1, .slice A2 f2.length c2, .slice A3 f3.length c3, .slice A4 f4.length c4] 35)).alloc (.cells #[.int .i64 f0, .slice A1' f1'.length c1', .slice A2' f2'.length c2', .slice A3' f3'.length c3', .slice A4' f4'.length c4'] 35)) (w.heap.size + 1) 35 #[.int .i64 f0, .slice A1' f1'.length c1', .slice A2' f2'.length c2', .slice A3' f3'.length c3', .slice A4' f4'.length c4']) := Blk.made (by simp)
  go_enter Try.func36, Try.ntmps36
  go_wp2_with fail
  refine (spec_EqualSents_calls _ f2 _ f2' _ (HR2.out.below HB0.out) (HS2.out.below HB0.out) (by omega) (by omega)).mono ?_
  rintro e w1 ⟨rfl, hb1⟩
  have HW1 := Lib.hid (HB0.out.trans (hb1.mono (by simp only [size_alloc]; omega)))
  have K11 := Lib.hid (HK10.out.below hb1)
  have K21 := Lib.hid (HK20.out.below hb1)
  obtain ⟨k1, g1⟩ := K11.out.rules
  obtain ⟨k2, g2⟩ := K21.out.rules
  clear hb1 lb1
  rcases Bool.eq_false_or_eq_true (sameSents f2 f2') with s2 | s2
  rotate_left
  · have HE : Hid (sameVat ⟨f0, f1, f2, f3, f4⟩ ⟨f0, f1', f2', f3', f4'⟩ = false) := by unfold Hid; simp [sameVat, s2]
    rw [s2]
    go_wp2
    go_ret
    exact ⟨by rw [HE.out]; rfl, HW1.out⟩
  rw [s2]
  have S2 := Lib.hid s2
  clear s2
  by_cases q3 : ¬ f3.length = f3'.length
  · have HE : Hid (sameVat ⟨f0, f1, f2, f3, f4⟩ ⟨f0, f1', f2', f3', f4'⟩ = false) := by unfold Hid; simp [sameVat, sameL_len q3]
    have hlb : ((f3.length : Int) != (f3'.length : Int)) = true := by simp; omega
    go_wp2
    go_ret
    exact ⟨by rw [HE.out]; rfl, HW1.out⟩
  have L3 := Lib.hid (Classical.not_not.1 q3)
  have lb3 : ((f3.length : Int) != (f3'.length : Int)) = false := by have := L3.out; simp; omega
  clear q3
  by_cases q4 : ¬ f4.length = f4'.length
  · have HE : Hid (sameVat ⟨f0, f1, f2, f3, f4⟩ ⟨f0, f1', f2', f3', f4'⟩ = false) := by unfold Hid; simp [sameVat, sameL_len q4]
    have hlb : ((f4.length : Int) != (f4'.length : Int)) = true := by simp; omega
    go_wp2
    go_ret
    exact ⟨by rw [HE.out]; rfl, HW1.out⟩
  have L4 := Lib.hid (Classical.not_not.1 q4)
  have lb4 : ((f4.length : Int) != (f4'.length : Int)) = false := by have := L4.out; simp; omega
  clear q4
  go_wp2
  clear k1 g1 k2 g2 lb3 lb4
  go_loopw [5] (fun b wr => ∃ i : Nat, i ≤ f1.length ∧ b = .int .i64 i ∧ Hid (Below w.heap.size w wr) ∧ Hid (Blk wr w.heap.size 35 #[.int .i64 f0, .slice A1 f1.length c1, .slice A2 f2.length c2, .slice A3 f3.length c3, .slice A4 f4.length c4]) ∧ Hid (Blk wr (w.heap.size + 1) 35 #[.int .i64 f0, .slice A1' f1'.length c1', .slice A2' f2'.length c2', .slice A3' f3'.length c3', .slice A4' f4'.length c4']) ∧ Hid (∀ (j : Nat) a b, j < i → f1[j]? = some a → f1'[j]? = some b → sameEntity a b = true)) (fun b wr => f1.length - (intOf b).toNat)
  case atStart => exact ⟨0, by omega, rfl, HW1, K11, K21, fun j a b h => absurd h (Nat.not_lt_zero _)⟩
  case round =>
    obtain ⟨i, hi, rfl, HW2, K12, K22, hno⟩ := hrel
    obtain ⟨k1, g1⟩ := K12.out.rules
    obtain ⟨k2, g2⟩ := K22.out.rules
    have hlk1 := K12.out.lt
    have hlk2 := K22.out.lt
    by_cases hlt : i < f1.length
    · have hlt' : i < f1'.length := by have := L1.out; omega
      obtain ⟨p, hp⟩ : ∃ p, f1[i]? = some p := ⟨f1[i], List.getElem?_eq_getElem hlt⟩
      obtain ⟨q, hq⟩ : ∃ q, f1'[i]? = some q := ⟨f1'[i], List.getElem?_eq_getElem hlt'⟩
      have hsp := sizL_flat_le eEntity f1 p (List.mem_of_getElem? hp)
      have hsq := sizL_flat_le eEntity f1' q (List.mem_of_getElem? hq)
      obtain ⟨ad, w2_p, w6_p, w7_p, rfl, hadb, m0, m1, m2, m3, m4, m5, m6, m7, m8, m9, m10, m11, n2, n6, n7⟩ := row_eEntity (HR1.out.below HW2.out) hp
      obtain ⟨B2, d2, rfl, -⟩ := n2.slice
      have N2 := Lib.hid n2
      clear n2
      obtain ⟨B6, d6, rfl, -⟩ := n6.slice
      have N6 := Lib.hid n6
      clear n6
      obtain ⟨B7, d7, rfl, -⟩ := n7.slice
      have N7 := Lib.hid n7
      clear n7
      have hbl : (ad.add (i * 12)).block < wr.heap.size := by rw [block_of_add]; exact hadb
      obtain ⟨ad', w2_q, w6_q, w7_q, rfl, hadb', m0', m1', m2', m3', m4', m5', m6', m7', m8', m9', m10', m11', n2', n6', n7'⟩ := row_eEntity (HS1.out.below HW2.out) hq
      obtain ⟨B2', d2', rfl, -⟩ := n2'.slice
      have N2' := Lib.hid n2'
      clear n2'
      obtain ⟨B6', d6', rfl, -⟩ := n6'.slice
      have N6' := Lib.hid n6'
      clear n6'
      obtain ⟨B7', d7', rfl, -⟩ := n7'.slice
      have N7' := Lib.hid n7'
      clear n7'
      have hbl' : (ad'.add (i * 12)).block < wr.heap.size := by rw [block_of_add]; exact hadb'
      have HX := Lib.hid hp
      have HY := Lib.hid hq
      clear hp hq
      cases he : sameEntity p q with
      | false =>
        have HF := Lib.hid (sameL_at (eq := sameEntity) HX.out HY.out he)
        have HE : Hid (sameVat ⟨f0, f1, f2, f3, f4⟩ ⟨f0, f1', f2', f3', f4'⟩ = false) := by unfold Hid; simp [sameVat, HF.out]
        go_wp2
        go_still_tail 10, (by kernel_rfl)
        change wpList _ _ _ _ _ wr.drew
        go_wp2_with fail
        refine (spec_EqualEntities_calls _ p _ q _ (mkrd_eEntity (N2.out.below ((Below.refl _ wr).drew)) (N6.out.below ((Below.refl _ wr).drew)) (N7.out.below ((Below.refl _ wr).drew))) (mkrd_eEntity (N2'.out.below ((Below.refl _ wr).drew)) (N6'.out.below ((Below.refl _ wr).drew)) (N7'.out.below ((Below.refl _ wr).drew))) (by omega) (by omega)).mono ?_
        rintro e w2 ⟨rfl, hb2⟩
        rw [he]
        have HB2 := Lib.hid (HW2.out.drew.trans (hb2.mono HW2.out.drew.size))
        have K1n := Lib.hid ((K12.out.drew).below hb2)
        have K2n := Lib.hid ((K22.out.drew).below hb2)
        clear hb2
        go_wp2
        go_ret
        exact ⟨by rw [HE.out]; rfl, HB2.out⟩
      | true =>
        have HN := Lib.hid (step_eq (eq := sameEntity) hno.out HX.out HY.out he)
        go_wp2
        go_still_tail 10, (by kernel_rfl)
        change wpList _ _ _ _ _ wr.drew
        go_wp2_with fail
        refine (spec_EqualEntities_calls _ p _ q _ (mkrd_eEntity (N2.out.below ((Below.refl _ wr).drew)) (N6.out.below ((Below.refl _ wr).drew)) (N7.out.below ((Below.refl _ wr).drew))) (mkrd_eEntity (N2'.out.below ((Below.refl _ wr).drew)) (N6'.out.below ((Below.refl _ wr).drew)) (N7'.out.below ((Below.refl _ wr).drew))) (by omega) (by omega)).mono ?_
        rintro e w2 ⟨rfl, hb2⟩
        rw [he]
        have HB2 := Lib.hid (HW2.out.drew.trans (hb2.mono HW2.out.drew.size))
        have K1n := Lib.hid ((K12.out.drew).below hb2)
        have K2n := Lib.hid ((K22.out.drew).below hb2)
        clear hb2
        go_wp2
        go_roundw
        case rel => exact ⟨i + 1, by omega, by go_num, HB2, K1n, K2n, HN⟩
        case measure => simp [intOf]; omega
    · have E1 := Lib.hid (sameL_all (eq := sameEntity) L1.out (fun i a b ha hb => hno.out i a b (by have := (List.getElem?_eq_some_iff.1 ha).1; omega) ha hb))
      clear hno
      have hii : i = f1.length := by omega
      subst hii
      go_wp2
      clear k1 g1 k2 g2
      go_loopw [6] (fun b wr => ∃ i : Nat, i ≤ f3.length ∧ b = .int .i64 i ∧ Hid (Below w.heap.size w wr) ∧ Hid (Blk wr w.heap.size 35 #[.int .i64 f0, .slice A1 f1.length c1, .slice A2 f2.length c2, .slice A3 f3.length c3, .slice A4 f4.length c4]) ∧ Hid (Blk wr (w.heap.size + 1) 35 #[.int .i64 f0, .slice A1' f1'.length c1', .slice A2' f2'.length c2', .slice A3' f3'.length c3', .slice A4' f4'.length c4']) ∧ Hid (∀ (j : Nat) a b, j < i → f3[j]? = some a → f3'[j]? = some b → sameLink a b = true)) (fun b wr => f3.length - (intOf b).toNat)
      case atStart => exact ⟨0, by omega, rfl, HW2, K12, K22, fun j a b h => absurd h (Nat.not_lt_zero _)⟩
      case round =>
        obtain ⟨i, hi, rfl, HW3, K13, K23, hno⟩ := hrel
        obtain ⟨k1, g1⟩ := K13.out.rules
        obtain ⟨k2, g2⟩ := K23.out.rules
        have hlk1 := K13.out.lt
        have hlk2 := K23.out.lt
        by_cases hlt : i < f3.length
        · have hlt' : i < f3'.length := by have := L3.out; omega
          obtain ⟨p, hp⟩ : ∃ p, f3[i]? = some p := ⟨f3[i], List.getElem?_eq_getElem hlt⟩
          obtain ⟨q, hq⟩ : ∃ q, f3'[i]? = some q := ⟨f3'[i], List.getElem?_eq_getElem hlt'⟩
          have hsp := sizL_flat_le eLink f3 p (List.mem_of_getElem? hp)
          have hsq := sizL_flat_le eLink f3' q (List.mem_of_getElem? hq)
          obtain ⟨ad, w2_p, w4_p, w6_p, rfl, hadb, m0, m1, m2, m3, m4, m5, m6, n2, n4, n6⟩ := row_eLink (HR3.out.below HW3.out) hp
          obtain ⟨B2, d2, rfl, -⟩ := n2.slice
          have N2 := Lib.hid n2
          clear n2
          obtain ⟨B4, d4, rfl, -⟩ := n4.slice
          have N4 := Lib.hid n4
          clear n4
          obtain ⟨B6, d6, rfl, -⟩ := n6.slice
          have N6 := Lib.hid n6
          clear n6
          have hbl : (ad.add (i * 7)).block < wr.heap.size := by rw [block_of_add]; exact hadb
          obtain ⟨ad', w2_q, w4_q, w6_q, rfl, hadb', m0', m1', m2', m3', m4', m5', m6', n2', n4', n6'⟩ := row_eLink (HS3.out.below HW3.out) hq
          obtain ⟨B2', d2', rfl, -⟩ := n2'.slice
          have N2' := Lib.hid n2'
          clear n2'
          obtain ⟨B4', d4', rfl, -⟩ := n4'.slice
          have N4' := Lib.hid n4'
          clear n4'
          obtain ⟨B6', d6', rfl, -⟩ := n6'.slice
          have N6' := Lib.hid n6'
          clear n6'
          have hbl' : (ad'.add (i * 7)).block < wr.heap.size := by rw [block_of_add]; exact hadb'
          have HX := Lib.hid hp
          have HY := Lib.hid hq
          clear hp hq
          cases he : sameLink p q with
          | false =>
            have HF := Lib.hid (sameL_at (eq := sameLink) HX.out HY.out he)
            have HE : Hid (sameVat ⟨f0, f1, f2, f3, f4⟩ ⟨f0, f1', f2', f3', f4'⟩ = false) := by unfold Hid; simp [sameVat, HF.out]
            go_wp2
            go_still_tail 10, (by kernel_rfl)
            change wpList _ _ _ _ _ wr.drew
            go_wp2_with fail
            refine (spec_EqualLinks_calls _ p _ q _ (mkrd_eLink (N2.out.below ((Below.refl _ wr).drew)) (N4.out.below ((Below.refl _ wr).drew)) (N6.out.below ((Below.refl _ wr).drew))) (mkrd_eLink (N2'.out.below ((Below.refl _ wr).drew)) (N4'.out.below ((Below.refl _ wr).drew)) (N6'.out.below ((Below.refl _ wr).drew))) (by omega) (by omega)).mono ?_
            rintro e w2 ⟨rfl, hb2⟩
            rw [he]
            have HB2 := Lib.hid (HW3.out.drew.trans (hb2.mono HW3.out.drew.size))
            have K1n := Lib.hid ((K13.out.drew).below hb2)
            have K2n := Lib.hid ((K23.out.drew).below hb2)
            clear hb2
            go_wp2
            go_ret
            exact ⟨by rw [HE.out]; rfl, HB2.out⟩
          | true =>
            have HN := Lib.hid (step_eq (eq := sameLink) hno.out HX.out HY.out he)
            go_wp2
            go_still_tail 10, (by kernel_rfl)
            change wpList _ _ _ _ _ wr.drew
            go_wp2_with fail
            refine (spec_EqualLinks_calls _ p _ q _ (mkrd_eLink (N2.out.below ((Below.refl _ wr).drew)) (N4.out.below ((Below.refl _ wr).drew)) (N6.out.below ((Below.refl _ wr).drew))) (mkrd_eLink (N2'.out.below ((Below.refl _ wr).drew)) (N4'.out.below ((Below.refl _ wr).drew)) (N6'.out.below ((Below.refl _ wr).drew))) (by omega) (by omega)).mono ?_
            rintro e w2 ⟨rfl, hb2⟩
            rw [he]
            have HB2 := Lib.hid (HW3.out.drew.trans (hb2.mono HW3.out.drew.size))
            have K1n := Lib.hid ((K13.out.drew).below hb2)
            have K2n := Lib.hid ((K23.out.drew).below hb2)
            clear hb2
            go_wp2
            go_roundw
            case rel => exact ⟨i + 1, by omega, by go_num, HB2, K1n, K2n, HN⟩
            case measure => simp [intOf]; omega
        · have E3 := Lib.hid (sameL_all (eq := sameLink) L3.out (fun i a b ha hb => hno.out i a b (by have := (List.getElem?_eq_some_iff.1 ha).1; omega) ha hb))
          clear hno
          have hii : i = f3.length := by omega
          subst hii
          go_wp2
          clear k1 g1 k2 g2
          go_loopw [7] (fun b wr => ∃ i : Nat, i ≤ f4.length ∧ b = .int .i64 i ∧ Hid (Below w.heap.size w wr) ∧ Hid (Blk wr w.heap.size 35 #[.int .i64 f0, .slice A1 f1.length c1, .slice A2 f2.length c2, .slice A3 f3.length c3, .slice A4 f4.length c4]) ∧ Hid (Blk wr (w.heap.size + 1) 35 #[.int .i64 f0, .slice A1' f1'.length c1', .slice A2' f2'.length c2', .slice A3' f3'.length c3', .slice A4' f4'.length c4']) ∧ Hid (∀ (j : Nat) a b, j < i → f4[j]? = some a → f4'[j]? = some b → sameOut a b = true)) (fun b wr => f4.length - (intOf b).toNat)
          case atStart => exact ⟨0, by omega, rfl, HW3, K13, K23, fun j a b h => absurd h (Nat.not_lt_zero _)⟩
          case round =>
            obtain ⟨i, hi, rfl, HW4, K14, K24, hno⟩ := hrel
            obtain ⟨k1, g1⟩ := K14.out.rules
            obtain ⟨k2, g2⟩ := K24.out.rules
            have hlk1 := K14.out.lt
            have hlk2 := K24.out.lt
            by_cases hlt : i < f4.length
            · have hlt' : i < f4'.length := by have := L4.out; omega
              obtain ⟨p, hp⟩ : ∃ p, f4[i]? = some p := ⟨f4[i], List.getElem?_eq_getElem hlt⟩
              obtain ⟨q, hq⟩ : ∃ q, f4'[i]? = some q := ⟨f4'[i], List.getElem?_eq_getElem hlt'⟩
              have hsp := sizL_flat_le eOutgoing f4 p (List.mem_of_getElem? hp)
              have hsq := sizL_flat_le eOutgoing f4' q (List.mem_of_getElem? hq)
              obtain ⟨ad, w6_p, rfl, hadb, m0, m1, m2, m3, m4, m5, m6, m7, m8, m9, m10, m11, m12, n6⟩ := row_eOutgoing (HR4.out.below HW4.out) hp
              obtain ⟨B6, d6, rfl, -⟩ := n6.slice
              have N6 := Lib.hid n6
              clear n6
              have hbl : (ad.add (i * 13)).block < wr.heap.size := by rw [block_of_add]; exact hadb
              obtain ⟨ad', w6_q, rfl, hadb', m0', m1', m2', m3', m4', m5', m6', m7', m8', m9', m10', m11', m12', n6'⟩ := row_eOutgoing (HS4.out.below HW4.out) hq
              obtain ⟨B6', d6', rfl, -⟩ := n6'.slice
              have N6' := Lib.hid n6'
              clear n6'
              have hbl' : (ad'.add (i * 13)).block < wr.heap.size := by rw [block_of_add]; exact hadb'
              obtain ⟨to, m⟩ := p
              obtain ⟨to', m'⟩ := q
              dsimp only at m0 m0' m1 m1' m2 m2' m3 m3' m4 m4' m5 m5' m6 m6' m7 m7' m8 m8' m9 m9' m10 m10' m11 m11' m12 m12' N6 N6'
              rw [show sizL (eOutgoing ⟨to, m⟩) = sizL (eMessage m) from by rw [siz_eOutgoing, siz_eMessage]] at hsp
              rw [show sizL (eOutgoing ⟨to', m'⟩) = sizL (eMessage m') from by rw [siz_eOutgoing, siz_eMessage]] at hsq
              have HX := Lib.hid hp
              have HY := Lib.hid hq
              clear hp hq
              by_cases q0 : ¬ to = to'
              · have HF : Hid (sameL sameOut f4 f4' = false) := Lib.hid (sameL_at (eq := sameOut) HX.out HY.out (by simp [sameOut, q0]))
                have qb0 : (to != to') = true := by simpa using q0
                have HE : Hid (sameVat ⟨f0, f1, f2, f3, f4⟩ ⟨f0, f1', f2', f3', f4'⟩ = false) := by unfold Hid; simp [sameVat, HF.out]
                go_wp2
                go_quiet (fail)
                go_wp2
                go_ret
                exact ⟨by rw [HE.out]; rfl, belowN HW4.out _⟩
              replace q0 := Classical.not_not.1 q0
              subst q0
              cases he : sameMessage m m' with
              | false =>
                have HF := Lib.hid (sameL_at (eq := sameOut) HX.out HY.out (show sameOut ⟨to, m⟩ ⟨to, m'⟩ = _ from by simp [sameOut, he]))
                have HE : Hid (sameVat ⟨f0, f1, f2, f3, f4⟩ ⟨f0, f1', f2', f3', f4'⟩ = false) := by unfold Hid; simp [sameVat, HF.out]
                go_wp2
                go_still_tail 26, (by kernel_rfl)
                change wpList _ _ _ _ _ wr.drew
                go_wp2_with fail
                refine (spec_EqualMessages_calls _ m _ m' _ (mkrd_eMessage (N6.out.below ((Below.refl _ wr).drew))) (mkrd_eMessage (N6'.out.below ((Below.refl _ wr).drew))) (by omega) (by omega)).mono ?_
                rintro e w2 ⟨rfl, hb2⟩
                rw [he]
                have HB2 := Lib.hid (HW4.out.drew.trans (hb2.mono HW4.out.drew.size))
                have K1n := Lib.hid ((K14.out.drew).below hb2)
                have K2n := Lib.hid ((K24.out.drew).below hb2)
                clear hb2
                go_wp2
                go_ret
                exact ⟨by rw [HE.out]; rfl, HB2.out⟩
              | true =>
                have HN := Lib.hid (step_eq (eq := sameOut) hno.out HX.out HY.out (show sameOut ⟨to, m⟩ ⟨to, m'⟩ = _ from by simp [sameOut, he]))
                go_wp2
                go_still_tail 26, (by kernel_rfl)
                change wpList _ _ _ _ _ wr.drew
                go_wp2_with fail
                refine (spec_EqualMessages_calls _ m _ m' _ (mkrd_eMessage (N6.out.below ((Below.refl _ wr).drew))) (mkrd_eMessage (N6'.out.below ((Below.refl _ wr).drew))) (by omega) (by omega)).mono ?_
                rintro e w2 ⟨rfl, hb2⟩
                rw [he]
                have HB2 := Lib.hid (HW4.out.drew.trans (hb2.mono HW4.out.drew.size))
                have K1n := Lib.hid ((K14.out.drew).below hb2)
                have K2n := Lib.hid ((K24.out.drew).below hb2)
                clear hb2
                go_wp2
                go_roundw
                case rel => exact ⟨i + 1, by omega, by go_num, HB2, K1n, K2n, HN⟩
                case measure => simp [intOf]; omega
            · have E4 := Lib.hid (sameL_all (eq := sameOut) L4.out (fun i a b ha hb => hno.out i a b (by have := (List.getElem?_eq_some_iff.1 ha).1; omega) ha hb))
              clear hno
              have hii : i = f4.length := by omega
              subst hii
              have HE : Hid (sameVat ⟨f0, f1, f2, f3, f4⟩ ⟨f0, f1', f2', f3', f4'⟩ = true) := by unfold Hid; simp [sameVat, S2.out, E1.out, E3.out, E4.out]
              go_wp2
              go_ret
              exact ⟨by rw [HE.out]; rfl, HW4.out⟩

end Go.Proofs.Ytapbejepffpckaa
