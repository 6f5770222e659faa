import Derived.Test.YtkgnkekbcblnlaaProg
import Derived.Test.YtkgnkekbcblnlaaTypes
import Derived.StillTailTactics
import Derived.Deep.RegionHeld3
import Derived.Laws.IdiomStrings
import Derived.Test.YtkgnkekbcblnlaaAppend
import Derived.Laws.StructEq
import Derived.Lib.SliceRun
import Derived.Shelf.RegionOpenPlain
import Derived.Test.YtkgnkekbcblnlaaEqMsg
namespace Go.Proofs.Ytkgnkekbcblnlaa
open Go.RowKit
set_option linter.unusedVariables false
set_option linter.unusedSimpArgs false

set_option maxHeartbeats 12800000 in
set_option maxRecDepth 100000 in
theorem spec_EqualChannels_calls (v : Value) (xs : List GChannel) (v' : Value) (ys : List GChannel) (w : World) (hr : RdW w (.s xs.length (xs.flatMap eChannel)) v) (hr' : RdW w (.s ys.length (ys.flatMap eChannel)) v') (hz : xs.length + sizL (xs.flatMap eChannel) ≤ 1048576) (hz' : ys.length + sizL (ys.flatMap eChannel) ≤ 1048576) :
    Calls Try.prog 26 #[v, v'] w fun e w' => e = .returned (.bool (sameChannels xs ys)) ∧ Below w.heap.size w w' := by
  obtain ⟨A, c, rfl, ⟨_, _, hl⟩⟩ := hr.slice
  obtain ⟨A', c', rfl, ⟨_, _, hl'⟩⟩ := hr'.slice
  have HR := Lib.hid hr
  have HR' := Lib.hid hr'
  clear hr hr'
  by_cases hln : xs.length = ys.length
  · have hlb : ((xs.length : Int) != (ys.length : Int)) = false := by rw [hln]; simp
    have HLN := Lib.hid hln
    clear hln
    go_enter Try.func26, Try.ntmps26
    go_wp2
    clear hlb
    go_loopw [5] (fun a wr => ∃ i : Nat, i ≤ xs.length ∧ a = .int .i64 i ∧ Hid (Below w.heap.size w wr) ∧ Hid (∀ (j : Nat) a b, j < i → xs[j]? = some a → ys[j]? = some b → eqChan a b = true)) (fun a wr => xs.length - (intOf a).toNat)
    case atStart => exact ⟨0, by omega, rfl, Below.refl _ _, fun j a b h => absurd h (Nat.not_lt_zero _)⟩
    case round =>
      obtain ⟨i, hi, rfl, HB, hno⟩ := hrel
      by_cases hlt : i < xs.length
      · have hlt' : i < ys.length := by have := HLN.out; omega
        obtain ⟨x, hx⟩ : ∃ x, xs[i]? = some x := ⟨xs[i], List.getElem?_eq_getElem hlt⟩
        obtain ⟨y, hy⟩ : ∃ y, ys[i]? = some y := ⟨ys[i], List.getElem?_eq_getElem hlt'⟩
        have hsx := sizL_flat_le eChannel xs x (List.mem_of_getElem? hx)
        have hsy := sizL_flat_le eChannel ys y (List.mem_of_getElem? hy)
        rw [siz_eChannel] at hsx hsy
        obtain ⟨ad, v2, rfl, hadb, h0, h1, h2, k2⟩ := row_eChannel HR.out hx
        obtain ⟨A2, c2, rfl, ⟨_, _, hl2⟩⟩ := k2.slice
        obtain ⟨ad', v2', rfl, hadb', h0', h1', h2', k2'⟩ := row_eChannel HR'.out hy
        obtain ⟨A2', c2', rfl, ⟨_, _, hl2'⟩⟩ := k2'.slice
        obtain ⟨f0, f1, f2⟩ := x
        obtain ⟨f0', f1', f2'⟩ := y
        dsimp only at h0 h1 h2 k2 h0' h1' h2' k2' hsx hsy hl2 hl2'
        have hbl : (ad.add (i * 3)).block < w.heap.size := by rw [block_of_add]; exact hadb
        have hbl' : (ad'.add (i * 3)).block < w.heap.size := by rw [block_of_add]; exact hadb'
        have H2 := Lib.hid h2
        have H2' := Lib.hid h2'
        have K2 := Lib.hid k2
        have K2' := Lib.hid k2'
        have r0 := (HB.out.cell hbl).trans h0
        have r1 := (HB.out.cell (p := ⟨(ad.add (i * 3)).block, (ad.add (i * 3)).off + 1, none⟩) hbl).trans h1
        have r2 := (HB.out.cell (p := ⟨(ad.add (i * 3)).block, (ad.add (i * 3)).off + 2, none⟩) hbl).trans h2
        have r0' := (HB.out.cell hbl').trans h0'
        have r1' := (HB.out.cell (p := ⟨(ad'.add (i * 3)).block, (ad'.add (i * 3)).off + 1, none⟩) hbl').trans h1'
        have r2' := (HB.out.cell (p := ⟨(ad'.add (i * 3)).block, (ad'.add (i * 3)).off + 2, none⟩) hbl').trans h2'
        have hbr : (ad.add (i * 3)).block < wr.heap.size := by have := HB.out.size; omega
        have hbr' : (ad'.add (i * 3)).block < wr.heap.size := by have := HB.out.size; omega
        have HX := Lib.hid hx
        have HY := Lib.hid hy
        clear hx hy h0 h1 h2 k2 h0' h1' h2' k2'
        by_cases q0 : ¬ f0 = f0'
        · have HE := Lib.hid (sameL_at (eq := eqChan) HX.out HY.out (by simp [eqChan, q0]))
          have qb : (f0 != f0') = true := by simpa using q0
          go_wp2
          go_quiet (fail)
          go_wp2
          go_ret
          exact ⟨by rw [show sameChannels xs ys = _ from HE.out]; rfl, belowN HB.out _⟩
        replace q0 := Classical.not_not.1 q0
        subst q0
        by_cases q1 : ¬ f1 = f1'
        · have HE := Lib.hid (sameL_at (eq := eqChan) HX.out HY.out (by simp [eqChan, q1]))
          have qb : (f1 != f1') = true := by simpa using q1
          go_wp2
          go_quiet (fail)
          go_wp2
          go_ret
          exact ⟨by rw [show sameChannels xs ys = _ from HE.out]; rfl, belowN HB.out _⟩
        replace q1 := Classical.not_not.1 q1
        subst q1
        by_cases q2 : ¬ f2.length = f2'.length
        · have HE := Lib.hid (sameL_at (eq := eqChan) HX.out HY.out (by simp [eqChan, sameL_len q2]))
          have qb : ((f2.length : Int) != (f2'.length : Int)) = true := by simp; omega
          go_wp2
          go_quiet (fail)
          go_wp2
          go_ret
          exact ⟨by rw [show sameChannels xs ys = _ from HE.out]; rfl, belowN HB.out _⟩
        have L2 := Lib.hid (Classical.not_not.1 q2)
        have lb2 : ((f2.length : Int) != (f2'.length : Int)) = false := by have := L2.out; simp; omega
        clear q2
        go_wp2
        go_quiet (fail)
        go_wp2
        obtain ⟨wq, hwq⟩ : ∃ q, q = wr.drewN nq := ⟨_, rfl⟩
        rw [← hwq]
        have HBQ : Hid (Below w.heap.size w wq) := by unfold Hid; rw [hwq]; exact belowN HB.out _
        clear hwq r0 r1 r2 r0' r1' r2' lb2
        go_loopw [6] (fun b wt => ∃ j : Nat, j ≤ f2.length ∧ b = .int .i64 j ∧ Hid (Below w.heap.size w wt) ∧ Hid (∀ (k : Nat) a b, k < j → f2[k]? = some a → f2'[k]? = some b → sameMessage a b = true)) (fun b wt => f2.length - (intOf b).toNat)
        case atStart => exact ⟨0, by omega, rfl, HBQ, fun j a b h => absurd h (Nat.not_lt_zero _)⟩
        case round =>
          obtain ⟨j, hj, rfl, HT, hnj⟩ := hrel
          have t2 := (HT.out.cell (p := ⟨(ad.add (i * 3)).block, (ad.add (i * 3)).off + 2, none⟩) hbl).trans H2.out
          have t2' := (HT.out.cell (p := ⟨(ad'.add (i * 3)).block, (ad'.add (i * 3)).off + 2, none⟩) hbl').trans H2'.out
          have hbt : (ad.add (i * 3)).block < wr.heap.size := by have := HT.out.size; omega
          have hbt' : (ad'.add (i * 3)).block < wr.heap.size := by have := HT.out.size; omega
          by_cases hjl : j < f2.length
          · have hjl' : j < f2'.length := by have := L2.out; omega
            obtain ⟨p, hp⟩ : ∃ p, f2[j]? = some p := ⟨f2[j], List.getElem?_eq_getElem hjl⟩
            obtain ⟨q, hq⟩ : ∃ q, f2'[j]? = some q := ⟨f2'[j], List.getElem?_eq_getElem hjl'⟩
            have hsp := sizL_flat_le eMessage f2 p (List.mem_of_getElem? hp)
            have hsq := sizL_flat_le eMessage f2' q (List.mem_of_getElem? hq)
            obtain ⟨bd, u5, rfl, hbd, m0, m1, m2, m3, m4, m5, m6, m7, m8, m9, m10, m11, n5⟩ := row_eMessage (K2.out.below HT.out) hp
            obtain ⟨bd', u5', rfl, hbd', m0', m1', m2', m3', m4', m5', m6', m7', m8', m9', m10', m11', n5'⟩ := row_eMessage (K2'.out.below HT.out) hq
            obtain ⟨B5, d5, rfl, -⟩ := n5.slice
            obtain ⟨B5', d5', rfl, -⟩ := n5'.slice
            have N5 := Lib.hid n5
            have N5' := Lib.hid n5'
            have hbm : (bd.add (j * 12)).block < wr.heap.size := by rw [block_of_add]; exact hbd
            have hbm' : (bd'.add (j * 12)).block < wr.heap.size := by rw [block_of_add]; exact hbd'
            have PX := Lib.hid hp
            have PY := Lib.hid hq
            clear hp hq n5 n5'
            cases he : sameMessage p q with
            | false =>
              have HL : Hid (sameL sameMessage f2 f2' = false) := Lib.hid (sameL_at (eq := sameMessage) PX.out PY.out he)
              have HE := Lib.hid (sameL_at (eq := eqChan) HX.out HY.out (by simp [eqChan, HL.out]))
              go_wp2
              go_still_tail 16, (by kernel_rfl)
              change wpList _ _ _ _ _ wr.drew
              go_wp2_with fail
              refine (spec_EqualMessages_calls _ p _ q _ (mkrd_eMessage (N5.out.below (Below.refl _ wr).drew)) (mkrd_eMessage (N5'.out.below (Below.refl _ wr).drew)) (by omega) (by omega)).mono ?_
              rintro e w2 ⟨rfl, hb2⟩
              rw [he]
              have HB2 := Lib.hid (HT.out.drew.trans (hb2.mono HT.out.drew.size))
              clear hb2
              go_wp2
              go_ret
              exact ⟨by rw [show sameChannels xs ys = _ from HE.out]; rfl, HB2.out⟩
            | true =>
              have HN := Lib.hid (step_eq (eq := sameMessage) hnj.out PX.out PY.out he)
              go_wp2
              go_still_tail 16, (by kernel_rfl)
              change wpList _ _ _ _ _ wr.drew
              go_wp2_with fail
              refine (spec_EqualMessages_calls _ p _ q _ (mkrd_eMessage (N5.out.below (Below.refl _ wr).drew)) (mkrd_eMessage (N5'.out.below (Below.refl _ wr).drew)) (by omega) (by omega)).mono ?_
              rintro e w2 ⟨rfl, hb2⟩
              rw [he]
              have HB2 := Lib.hid (HT.out.drew.trans (hb2.mono HT.out.drew.size))
              clear hb2
              go_wp2
              go_roundw
              case rel => exact ⟨j + 1, by omega, by go_num, HB2, HN⟩
              case measure => simp [intOf]; omega
          · have HL := Lib.hid (sameL_all (eq := sameMessage) L2.out (fun k a b ha hb => hnj.out k a b (by have := (List.getElem?_eq_some_iff.1 ha).1; omega) ha hb))
            have HN := Lib.hid (step_eq (eq := eqChan) hno.out HX.out HY.out (by simp [eqChan, HL.out]))
            go_wp2
            go_roundw
            case rel => exact ⟨i + 1, by omega, by go_num, HT, HN⟩
            case measure => simp [intOf]; omega
      · have HE := Lib.hid (sameL_all (eq := eqChan) HLN.out (fun i a b ha hb => hno.out i a b (by have := (List.getElem?_eq_some_iff.1 ha).1; omega) ha hb))
        go_wp2
        go_ret
        exact ⟨by rw [show sameChannels xs ys = _ from HE.out]; rfl, HB.out⟩
  · have HE := Lib.hid (sameL_len (eq := eqChan) hln)
    have hlb : ((xs.length : Int) != (ys.length : Int)) = true := by simp; omega
    go_enter Try.func26, Try.ntmps26
    go_wp2
    go_ret
    exact ⟨by rw [show sameChannels xs ys = _ from HE.out]; rfl, Below.refl _ _⟩
end Go.Proofs.Ytkgnkekbcblnlaa
