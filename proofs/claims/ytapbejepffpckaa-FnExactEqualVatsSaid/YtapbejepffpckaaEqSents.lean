import Derived.Test.YtapbejepffpckaaProg
import Derived.Test.YtapbejepffpckaaTypes
import Derived.StillTailTactics
import Derived.Deep.RegionHeld3
import Derived.Laws.IdiomStrings
import Derived.Test.YtapbejepffpckaaAppend
import Derived.Laws.StructEq
import Derived.Lib.SliceRun
import Derived.Shelf.RegionOpenPlain
import Derived.Test.YtapbejepffpckaaSlicesE
import Derived.Test.YtapbejepffpckaaSlicesF
import Derived.Test.YtapbejepffpckaaPureEq
namespace Go.Proofs.Ytapbejepffpckaa
open Go.RowKit
set_option linter.unusedVariables false
set_option linter.unusedSimpArgs false

set_option maxHeartbeats 3200000 in
set_option maxRecDepth 100000 in
theorem impl_equalSent_calls (us : List Value) (x : GSent) (us' : List Value) (y : GSent) (w : World) (hr : RdLW w (eSent x) us) (hr' : RdLW w (eSent y) us') :
    Calls Try.prog 110 #[.agg us.toArray, .agg us'.toArray] w fun e w' => e = .returned (.bool (eqbSent' x y)) ∧ Below w.heap.size w w' := by
  obtain ⟨f0, f1, f2, f3, f4⟩ := x
  obtain ⟨f0', f1', f2', f3', f4'⟩ := y
  obtain ⟨v2, rfl, h2⟩ := rd_eSent hr
  obtain ⟨A2, c2, rfl, ⟨_, _, hl2⟩⟩ := h2.slice
  obtain ⟨v2', rfl, h2'⟩ := rd_eSent hr'
  obtain ⟨A2', c2', rfl, ⟨_, _, hl2'⟩⟩ := h2'.slice
  dsimp only at h2 h2' hl2 hl2' ⊢
  have HR2 := Lib.hid h2
  have HS2 := Lib.hid h2'
  clear hr hr' h2 h2'
  have HB := Lib.hid (((Below.refl w.heap.size w).alloc (Nat.le_refl _) (.cells #[.int .i64 f0, .string f1, .slice A2 f2.length c2, .int .i64 f3, .int .i64 f4.Vat, .int .i64 f4.Entity, .int .i64 f4.Seq] 135)).alloc (by simp) (.cells #[.int .i64 f0', .string f1', .slice A2' f2'.length c2', .int .i64 f3', .int .i64 f4'.Vat, .int .i64 f4'.Entity, .int .i64 f4'.Seq] 135))
  have heq := run_eql_Tag
  by_cases q0 : ¬ f0 = f0'
  · have HE : Hid (eqbSent' ⟨f0, f1, f2, f3, f4⟩ ⟨f0', f1', f2', f3', f4'⟩ = false) := by unfold Hid; simp [eqbSent', q0]
    go_enter Try.func110, Try.ntmps110
    go_wp2
    go_ret
    exact ⟨by rw [HE.out]; first | rfl | exact congrArg (fun b => Ending.returned (Value.bool b)) (by simpa using q0 : (f0 == f0') = false), HB.out⟩
  replace q0 := Classical.not_not.1 q0
  subst q0
  by_cases q1 : ¬ f1.toList = f1'.toList
  · have HE : Hid (eqbSent' ⟨f0, f1, f2, f3, f4⟩ ⟨f0, f1', f2', f3', f4'⟩ = false) := by unfold Hid; simp [eqbSent', q1]
    go_enter Try.func110, Try.ntmps110
    go_wp2
    go_ret
    exact ⟨by rw [HE.out]; first | rfl | exact congrArg (fun b => Ending.returned (Value.bool b)) (by simpa using q1 : (f1.toList == f1'.toList) = false), HB.out⟩
  replace q1 := bytes_inj (Classical.not_not.1 q1)
  subst q1
  go_enter Try.func110, Try.ntmps110
  go_wp2_with fail
  refine (slices_Equal_Value_calls _ _ f2 f2' _ (HR2.out.below HB.out) (HS2.out.below HB.out)).mono ?_
  rintro e w1 ⟨rfl, hb1⟩
  have HW1 := Lib.hid (HB.out.trans (hb1.mono (by first | exact HB.out.size | (simp only [size_alloc]; omega))))
  have K1_1 : Hid (Blk w1 w.heap.size 135 #[.int .i64 f0, .string f1, .slice A2 f2.length c2, .int .i64 f3, .int .i64 f4.Vat, .int .i64 f4.Entity, .int .i64 f4.Seq]) := Lib.hid (((Blk.new w 135 _).alloc _).below hb1)
  have K2_1 : Hid (Blk w1 (w.heap.size + 1) 135 #[.int .i64 f0, .string f1, .slice A2' f2'.length c2', .int .i64 f3', .int .i64 f4'.Vat, .int .i64 f4'.Entity, .int .i64 f4'.Seq]) := Lib.hid ((Blk.made (by simp)).below hb1)
  obtain ⟨k1_1, g1_1⟩ := K1_1.out.rules
  obtain ⟨k2_1, g2_1⟩ := K2_1.out.rules
  clear hb1
  rcases Bool.eq_false_or_eq_true (sameL eqbValue f2 f2') with s1 | s1
  rotate_left
  · have HE : Hid (eqbSent' ⟨f0, f1, f2, f3, f4⟩ ⟨f0, f1, f2', f3', f4'⟩ = false) := by unfold Hid; simp [eqbSent', s1]
    rw [s1]
    go_wp2
    go_ret
    exact ⟨by rw [HE.out]; rfl, HW1.out⟩
  rw [s1]
  have S1 := Lib.hid s1
  clear s1
  by_cases q3 : ¬ f3 = f3'
  · have HE : Hid (eqbSent' ⟨f0, f1, f2, f3, f4⟩ ⟨f0, f1, f2', f3', f4'⟩ = false) := by unfold Hid; simp [eqbSent', q3, S1.out]
    go_wp2
    go_ret
    exact ⟨by rw [HE.out]; first | rfl | exact congrArg (fun b => Ending.returned (Value.bool b)) (by simpa using q3 : (f3 == f3') = false), HW1.out⟩
  replace q3 := Classical.not_not.1 q3
  subst q3
  rcases Bool.eq_false_or_eq_true (eqbTag f4 f4') with q4 | q4
  rotate_left
  · have HE : Hid (eqbSent' ⟨f0, f1, f2, f3, f4⟩ ⟨f0, f1, f2', f3, f4'⟩ = false) := by unfold Hid; simp [eqbSent', q4, S1.out]
    go_wp2
    go_ret
    exact ⟨by rw [HE.out]; rfl, HW1.out⟩
  replace q4 := (eqbTag_iff _ _).1 q4
  subst q4
  have r4 := eqbTag_refl f4
  have HE : Hid (eqbSent' ⟨f0, f1, f2, f3, f4⟩ ⟨f0, f1, f2', f3, f4⟩ = true) := by unfold Hid; simp [eqbSent', S1.out, eqbTag_refl]
  go_wp2
  go_ret
  exact ⟨by rw [HE.out]; rfl, HW1.out⟩

set_option maxHeartbeats 3200000 in
set_option maxRecDepth 100000 in
theorem spec_EqualSents_calls (v : Value) (xs : List GSent) (v' : Value) (ys : List GSent) (w : World) (hr : RdW w (.s xs.length (xs.flatMap eSent)) v) (hr' : RdW w (.s ys.length (ys.flatMap eSent)) v') (hz : xs.length + sizL (xs.flatMap eSent) ≤ 1048576) (hz' : ys.length + sizL (ys.flatMap eSent) ≤ 1048576) :
    Calls Try.prog 70 #[v, v'] w fun e w' => e = .returned (.bool (sameSents xs ys)) ∧ Below w.heap.size w w' := by
  obtain ⟨A, c, rfl, ⟨_, _, hl⟩⟩ := hr.slice
  obtain ⟨A', c', rfl, ⟨_, _, hl'⟩⟩ := hr'.slice
  have HR := Lib.hid hr
  have HR' := Lib.hid hr'
  have HZ := Lib.hid hz
  have HZ' := Lib.hid hz'
  clear hr hr' hz hz'
  have hnt := run_neq_Tag
  by_cases hln : xs.length = ys.length
  · have hlb : ((xs.length : Int) != (ys.length : Int)) = false := by rw [hln]; simp
    have HLN := Lib.hid hln
    clear hln
    go_enter Try.func70, Try.ntmps70
    go_wp2
    clear hlb
    go_loopw [5] (fun a wr => ∃ i : Nat, i ≤ xs.length ∧ a = .int .i64 i ∧ Hid (Below w.heap.size w wr) ∧ Hid (∀ (j : Nat) a b, j < i → xs[j]? = some a → ys[j]? = some b → eqbSent' a b = true)) (fun a wr => xs.length - (intOf a).toNat)
    case atStart => exact ⟨0, by omega, rfl, Below.refl _ _, fun j a b h => absurd h (Nat.not_lt_zero _)⟩
    case round =>
      obtain ⟨i, hi, rfl, HB, hno⟩ := hrel
      by_cases hlt : i < xs.length
      · have hlt' : i < ys.length := by have := HLN.out; omega
        obtain ⟨x, hx⟩ : ∃ x, xs[i]? = some x := ⟨xs[i], List.getElem?_eq_getElem hlt⟩
        obtain ⟨y, hy⟩ : ∃ y, ys[i]? = some y := ⟨ys[i], List.getElem?_eq_getElem hlt'⟩
        have hsx := sizL_flat_le eSent xs x (List.mem_of_getElem? hx)
        have hsy := sizL_flat_le eSent ys y (List.mem_of_getElem? hy)
        rw [siz_eSent] at hsx hsy
        obtain ⟨ad, v2, rfl, hadb, h0, h1, h2, h3, h4, h5, h6, k2⟩ := row_eSent (HR.out.below HB.out) hx
        obtain ⟨A2, c2, rfl, -⟩ := k2.slice
        have HK2 := Lib.hid k2
        have hbk : ∀ m q, (⟨(ad.add m).block, q, none⟩ : Addr).block < wr.heap.size := fun m q => by show (ad.add m).block < _; rw [block_of_add]; exact hadb
        have hbl : (ad.add (i * 7)).block < wr.heap.size := by rw [block_of_add]; exact hadb
        obtain ⟨f0, f1, f2, f3, f4⟩ := x
        obtain ⟨ad', v2', rfl, hadb', h0', h1', h2', h3', h4', h5', h6', k2'⟩ := row_eSent (HR'.out.below HB.out) hy
        obtain ⟨A2', c2', rfl, -⟩ := k2'.slice
        have HK2' := Lib.hid k2'
        have hbk' : ∀ m q, (⟨(ad'.add m).block, q, none⟩ : Addr).block < wr.heap.size := fun m q => by show (ad'.add m).block < _; rw [block_of_add]; exact hadb'
        have hbl' : (ad'.add (i * 7)).block < wr.heap.size := by rw [block_of_add]; exact hadb'
        obtain ⟨f0', f1', f2', f3', f4'⟩ := y
        have HX := Lib.hid hx
        have HY := Lib.hid hy
        have HSX := Lib.hid hsx
        have HSY := Lib.hid hsy
        clear hx hy hsx hsy k2 k2'
        dsimp only at h0 h1 h2 h3 h4 h5 h6 h0' h1' h2' h3' h4' h5' h6' ⊢
        by_cases q0 : ¬ f0 = f0'
        · have HF : Hid (eqbSent' ⟨f0, f1, f2, f3, f4⟩ ⟨f0', f1', f2', f3', f4'⟩ = false) := by unfold Hid; simp [eqbSent', q0]
          have qb0 : (f0 != f0') = true := by simpa using q0
          have HE := Lib.hid (sameL_at (eq := eqbSent') HX.out HY.out HF.out)
          go_wp2
          go_quiet (fail)
          go_wp2
          go_ret
          exact ⟨by rw [show sameSents xs ys = _ from HE.out]; rfl, belowN HB.out _⟩
        replace q0 := Classical.not_not.1 q0
        subst q0
        by_cases q1 : ¬ f1.toList = f1'.toList
        · have HF : Hid (eqbSent' ⟨f0, f1, f2, f3, f4⟩ ⟨f0, f1', f2', f3', f4'⟩ = false) := by unfold Hid; simp [eqbSent', q1]
          have qb1 : (f1.toList == f1'.toList) = false := by simpa using q1
          have HE := Lib.hid (sameL_at (eq := eqbSent') HX.out HY.out HF.out)
          go_wp2
          go_quiet (fail)
          go_wp2
          go_ret
          exact ⟨by rw [show sameSents xs ys = _ from HE.out]; rfl, belowN HB.out _⟩
        replace q1 := bytes_inj (Classical.not_not.1 q1)
        subst q1
        rcases Bool.eq_false_or_eq_true (sameL eqbValue f2 f2') with hcall | hcall
        rotate_left
        · have HF : Hid (eqbSent' ⟨f0, f1, f2, f3, f4⟩ ⟨f0, f1, f2', f3', f4'⟩ = false) := by unfold Hid; simp [eqbSent', hcall]
          have HCALL := Lib.hid hcall
          clear hcall
          have HE := Lib.hid (sameL_at (eq := eqbSent') HX.out HY.out HF.out)
          have HCq : ∀ n, Calls Try.prog 105 #[.slice A2 f2.length c2, .slice A2' f2'.length c2'] (wr.drewN n) fun e w'' => e = .returned (.bool false) ∧ ∃ m, w'' = wr.drewN m := fun n => by
            have h := Calls.quiet_of (spec_EqualValues_calls_q _ _ f2 f2' _ (HK2.out.below (belowN (Below.refl _ wr) n)) (HK2'.out.below (belowN (Below.refl _ wr) n)))
            rw [HCALL.out] at h
            exact h
          go_wp2
          go_quiet (exact HCq _)
          go_wp2
          go_ret
          exact ⟨by rw [show sameSents xs ys = _ from HE.out]; rfl, belowN HB.out _⟩
        have HCALL := Lib.hid hcall
        clear hcall
        by_cases q3 : ¬ f3 = f3'
        · have HF : Hid (eqbSent' ⟨f0, f1, f2, f3, f4⟩ ⟨f0, f1, f2', f3', f4'⟩ = false) := by unfold Hid; simp [eqbSent', q3, HCALL.out]
          have qb : (f3 != f3') = true := by simpa using q3
          have HE := Lib.hid (sameL_at (eq := eqbSent') HX.out HY.out HF.out)
          have HCq : ∀ n, Calls Try.prog 105 #[.slice A2 f2.length c2, .slice A2' f2'.length c2'] (wr.drewN n) fun e w'' => e = .returned (.bool true) ∧ ∃ m, w'' = wr.drewN m := fun n => by
            have h := Calls.quiet_of (spec_EqualValues_calls_q _ _ f2 f2' _ (HK2.out.below (belowN (Below.refl _ wr) n)) (HK2'.out.below (belowN (Below.refl _ wr) n)))
            rw [HCALL.out] at h
            exact h
          go_wp2
          go_quiet (exact HCq _)
          go_wp2
          go_ret
          exact ⟨by rw [show sameSents xs ys = _ from HE.out]; rfl, belowN HB.out _⟩
        replace q3 := Classical.not_not.1 q3
        subst q3
        rcases Bool.eq_false_or_eq_true (eqbTag f4 f4') with q4 | q4
        rotate_left
        · have HF : Hid (eqbSent' ⟨f0, f1, f2, f3, f4⟩ ⟨f0, f1, f2', f3, f4'⟩ = false) := by unfold Hid; simp [eqbSent', q4, HCALL.out]
          have HE := Lib.hid (sameL_at (eq := eqbSent') HX.out HY.out HF.out)
          have HCq : ∀ n, Calls Try.prog 105 #[.slice A2 f2.length c2, .slice A2' f2'.length c2'] (wr.drewN n) fun e w'' => e = .returned (.bool true) ∧ ∃ m, w'' = wr.drewN m := fun n => by
            have h := Calls.quiet_of (spec_EqualValues_calls_q _ _ f2 f2' _ (HK2.out.below (belowN (Below.refl _ wr) n)) (HK2'.out.below (belowN (Below.refl _ wr) n)))
            rw [HCALL.out] at h
            exact h
          go_wp2
          go_quiet (exact HCq _)
          go_wp2
          go_ret
          exact ⟨by rw [show sameSents xs ys = _ from HE.out]; rfl, belowN HB.out _⟩
        replace q4 := (eqbTag_iff _ _).1 q4
        subst q4
        have r4 := eqbTag_refl f4
        have HN := Lib.hid (step_eq (eq := eqbSent') hno.out HX.out HY.out (by simp [eqbSent', HCALL.out, eqbTag_refl]))
        have HCq : ∀ n, Calls Try.prog 105 #[.slice A2 f2.length c2, .slice A2' f2'.length c2'] (wr.drewN n) fun e w'' => e = .returned (.bool true) ∧ ∃ m, w'' = wr.drewN m := fun n => by
          have h := Calls.quiet_of (spec_EqualValues_calls_q _ _ f2 f2' _ (HK2.out.below (belowN (Below.refl _ wr) n)) (HK2'.out.below (belowN (Below.refl _ wr) n)))
          rw [HCALL.out] at h
          exact h
        go_wp2
        go_quiet (exact HCq _)
        go_wp2
        go_roundw
        case rel => exact ⟨i + 1, by omega, by go_num, belowN HB.out _, HN⟩
        case measure => simp [intOf]; omega
      · have HE := Lib.hid (sameL_all (eq := eqbSent') HLN.out (fun i a b ha hb => hno.out i a b (by have := (List.getElem?_eq_some_iff.1 ha).1; omega) ha hb))
        go_wp2
        go_ret
        exact ⟨by rw [show sameSents xs ys = _ from HE.out]; rfl, HB.out⟩
  · have HE := Lib.hid (sameL_len (eq := eqbSent') hln)
    have hlb : ((xs.length : Int) != (ys.length : Int)) = true := by simp; omega
    go_enter Try.func70, Try.ntmps70
    go_wp2
    go_ret
    exact ⟨by rw [show sameSents xs ys = _ from HE.out]; rfl, Below.refl _ _⟩

set_option maxHeartbeats 800000 in
theorem impl_EqualSents_calls (v : Value) (xs : List GSent) (v' : Value) (ys : List GSent) (w : World) (hr : RdW w (.s xs.length (xs.flatMap eSent)) v) (hr' : RdW w (.s ys.length (ys.flatMap eSent)) v') (hz : xs.length + sizL (xs.flatMap eSent) ≤ 1048576) (hz' : ys.length + sizL (ys.flatMap eSent) ≤ 1048576) :
    Calls Try.prog 76 #[v, v'] w fun e w' => e = .returned (.bool (sameSents xs ys)) ∧ Below w.heap.size w w' := by
  have HC := Lib.hid (slices_EqualFunc_Sent eqbSent' 110 #[] (enters_of Try.func110 (by kernel_rfl) rfl) v v' xs ys w hr hr' (fun W x y us us' _ _ _ hu hu' => impl_equalSent_calls us x us' y W hu hu'))
  obtain ⟨A, c, rfl, -⟩ := hr.slice
  obtain ⟨A', c', rfl, -⟩ := hr'.slice
  clear hr hr'
  go_enter Try.func76, Try.ntmps76
  go_wp2_with fail
  refine HC.out.mono ?_
  rintro e w1 ⟨rfl, hb1⟩
  go_wp2
  go_ret
  exact ⟨rfl, hb1⟩

end Go.Proofs.Ytapbejepffpckaa
