import Derived.Test.YtclpknilfhkalaaProg
import Derived.Test.YtclpknilfhkalaaTypes
import Derived.StillTailTactics
import Derived.Deep.RegionHeld3
import Derived.Laws.IdiomStrings
import Derived.Test.YtclpknilfhkalaaAppend
import Derived.Laws.StructEq
import Derived.Lib.SliceRun
import Derived.Shelf.RegionOpenPlain
import Derived.Test.YtclpknilfhkalaaEqSent
namespace Go.Proofs.Ytclpknilfhkalaa
open Go.RowKit
set_option linter.unusedVariables false
set_option linter.unusedSimpArgs false

set_option maxHeartbeats 3200000 in
set_option maxRecDepth 100000 in
theorem spec_EqualSents_calls (v : Value) (xs : List GSent) (v' : Value) (ys : List GSent) (w : World) (hr : RdW w (.s xs.length (xs.flatMap eSent)) v) (hr' : RdW w (.s ys.length (ys.flatMap eSent)) v') (hz : xs.length + sizL (xs.flatMap eSent) ≤ 1048576) (hz' : ys.length + sizL (ys.flatMap eSent) ≤ 1048576) :
    Calls Try.prog 12 #[v, v'] w fun e w' => e = .returned (.bool (sameSents xs ys)) ∧ Below w.heap.size w w' := by
  obtain ⟨A, c, rfl, ⟨_, _, hl⟩⟩ := hr.slice
  obtain ⟨A', c', rfl, ⟨_, _, hl'⟩⟩ := hr'.slice
  have HR := Lib.hid hr
  have HR' := Lib.hid hr'
  have HZ := Lib.hid hz
  have HZ' := Lib.hid hz'
  clear hr hr' hz hz'
  have hnt := run_neq_Tag
  by_cases hln : xs.length = ys.length
  · have hlb : ((xs.length : Int) != (ys.length : Int)) = false := by rw [hln]; simp
    have HLN := Lib.hid hln
    clear hln
    go_enter Try.func12, Try.ntmps12
    go_wp2
    clear hlb
    go_loopw [5] (fun a wr => ∃ i : Nat, i ≤ xs.length ∧ a = .int .i64 i ∧ Hid (Below w.heap.size w wr) ∧ Hid (∀ (j : Nat) a b, j < i → xs[j]? = some a → ys[j]? = some b → eqbSent' a b = true)) (fun a wr => xs.length - (intOf a).toNat)
    case atStart => exact ⟨0, by omega, rfl, Below.refl _ _, fun j a b h => absurd h (Nat.not_lt_zero _)⟩
    case round =>
      obtain ⟨i, hi, rfl, HB, hno⟩ := hrel
      by_cases hlt : i < xs.length
      · have hlt' : i < ys.length := by have := HLN.out; omega
        obtain ⟨x, hx⟩ : ∃ x, xs[i]? = some x := ⟨xs[i], List.getElem?_eq_getElem hlt⟩
        obtain ⟨y, hy⟩ : ∃ y, ys[i]? = some y := ⟨ys[i], List.getElem?_eq_getElem hlt'⟩
        have hsx := sizL_flat_le eSent xs x (List.mem_of_getElem? hx)
        have hsy := sizL_flat_le eSent ys y (List.mem_of_getElem? hy)
        rw [siz_eSent] at hsx hsy
        obtain ⟨ad, v2, rfl, hadb, h0, h1, h2, h3, h4, h5, h6, k2⟩ := row_eSent (HR.out.below HB.out) hx
        obtain ⟨A2, c2, rfl, -⟩ := k2.slice
        have HK2 := Lib.hid k2
        have hbk : ∀ m q, (⟨(ad.add m).block, q, none⟩ : Addr).block < wr.heap.size := fun m q => by show (ad.add m).block < _; rw [block_of_add]; exact hadb
        have hbl : (ad.add (i * 7)).block < wr.heap.size := by rw [block_of_add]; exact hadb
        obtain ⟨f0, f1, f2, f3, f4⟩ := x
        obtain ⟨ad', v2', rfl, hadb', h0', h1', h2', h3', h4', h5', h6', k2'⟩ := row_eSent (HR'.out.below HB.out) hy
        obtain ⟨A2', c2', rfl, -⟩ := k2'.slice
        have HK2' := Lib.hid k2'
        have hbk' : ∀ m q, (⟨(ad'.add m).block, q, none⟩ : Addr).block < wr.heap.size := fun m q => by show (ad'.add m).block < _; rw [block_of_add]; exact hadb'
        have hbl' : (ad'.add (i * 7)).block < wr.heap.size := by rw [block_of_add]; exact hadb'
        obtain ⟨f0', f1', f2', f3', f4'⟩ := y
        have HX := Lib.hid hx
        have HY := Lib.hid hy
        have HSX := Lib.hid hsx
        have HSY := Lib.hid hsy
        clear hx hy hsx hsy k2 k2'
        dsimp only at h0 h1 h2 h3 h4 h5 h6 h0' h1' h2' h3' h4' h5' h6' ⊢
        by_cases q0 : ¬ f0 = f0'
        · have HF : Hid (eqbSent' ⟨f0, f1, f2, f3, f4⟩ ⟨f0', f1', f2', f3', f4'⟩ = false) := by unfold Hid; simp [eqbSent', q0]
          have qb0 : (f0 != f0') = true := by simpa using q0
          have HE := Lib.hid (sameL_at (eq := eqbSent') HX.out HY.out HF.out)
          go_wp2
          go_quiet (fail)
          go_wp2
          go_ret
          exact ⟨by rw [show sameSents xs ys = _ from HE.out]; rfl, belowN HB.out _⟩
        replace q0 := Classical.not_not.1 q0
        subst q0
        by_cases q1 : ¬ f1.toList = f1'.toList
        · have HF : Hid (eqbSent' ⟨f0, f1, f2, f3, f4⟩ ⟨f0, f1', f2', f3', f4'⟩ = false) := by unfold Hid; simp [eqbSent', q1]
          have qb1 : (f1.toList == f1'.toList) = false := by simpa using q1
          have HE := Lib.hid (sameL_at (eq := eqbSent') HX.out HY.out HF.out)
          go_wp2
          go_quiet (fail)
          go_wp2
          go_ret
          exact ⟨by rw [show sameSents xs ys = _ from HE.out]; rfl, belowN HB.out _⟩
        replace q1 := bytes_inj (Classical.not_not.1 q1)
        subst q1
        rcases Bool.eq_false_or_eq_true (sameL eqbValue f2 f2') with hcall | hcall
        rotate_left
        · have HF : Hid (eqbSent' ⟨f0, f1, f2, f3, f4⟩ ⟨f0, f1, f2', f3', f4'⟩ = false) := by unfold Hid; simp [eqbSent', hcall]
          have HCALL := Lib.hid hcall
          clear hcall
          have HE := Lib.hid (sameL_at (eq := eqbSent') HX.out HY.out HF.out)
          have HCq : ∀ n, Calls Try.prog 44 #[.slice A2 f2.length c2, .slice A2' f2'.length c2'] (wr.drewN n) fun e w'' => e = .returned (.bool false) ∧ ∃ m, w'' = wr.drewN m := fun n => by
            have h := Calls.quiet_of (spec_EqualValues_calls_q _ _ f2 f2' _ (HK2.out.below (belowN (Below.refl _ wr) n)) (HK2'.out.below (belowN (Below.refl _ wr) n)))
            rw [HCALL.out] at h
            exact h
          go_wp2
          go_quiet (exact HCq _)
          go_wp2
          go_ret
          exact ⟨by rw [show sameSents xs ys = _ from HE.out]; rfl, belowN HB.out _⟩
        have HCALL := Lib.hid hcall
        clear hcall
        by_cases q3 : ¬ f3 = f3'
        · have HF : Hid (eqbSent' ⟨f0, f1, f2, f3, f4⟩ ⟨f0, f1, f2', f3', f4'⟩ = false) := by unfold Hid; simp [eqbSent', q3, HCALL.out]
          have qb : (f3 != f3') = true := by simpa using q3
          have HE := Lib.hid (sameL_at (eq := eqbSent') HX.out HY.out HF.out)
          have HCq : ∀ n, Calls Try.prog 44 #[.slice A2 f2.length c2, .slice A2' f2'.length c2'] (wr.drewN n) fun e w'' => e = .returned (.bool true) ∧ ∃ m, w'' = wr.drewN m := fun n => by
            have h := Calls.quiet_of (spec_EqualValues_calls_q _ _ f2 f2' _ (HK2.out.below (belowN (Below.refl _ wr) n)) (HK2'.out.below (belowN (Below.refl _ wr) n)))
            rw [HCALL.out] at h
            exact h
          go_wp2
          go_quiet (exact HCq _)
          go_wp2
          go_ret
          exact ⟨by rw [show sameSents xs ys = _ from HE.out]; rfl, belowN HB.out _⟩
        replace q3 := Classical.not_not.1 q3
        subst q3
        rcases Bool.eq_false_or_eq_true (eqbTag f4 f4') with q4 | q4
        rotate_left
        · have HF : Hid (eqbSent' ⟨f0, f1, f2, f3, f4⟩ ⟨f0, f1, f2', f3, f4'⟩ = false) := by unfold Hid; simp [eqbSent', q4, HCALL.out]
          have HE := Lib.hid (sameL_at (eq := eqbSent') HX.out HY.out HF.out)
          have HCq : ∀ n, Calls Try.prog 44 #[.slice A2 f2.length c2, .slice A2' f2'.length c2'] (wr.drewN n) fun e w'' => e = .returned (.bool true) ∧ ∃ m, w'' = wr.drewN m := fun n => by
            have h := Calls.quiet_of (spec_EqualValues_calls_q _ _ f2 f2' _ (HK2.out.below (belowN (Below.refl _ wr) n)) (HK2'.out.below (belowN (Below.refl _ wr) n)))
            rw [HCALL.out] at h
            exact h
          go_wp2
          go_quiet (exact HCq _)
          go_wp2
          go_ret
          exact ⟨by rw [show sameSents xs ys = _ from HE.out]; rfl, belowN HB.out _⟩
        replace q4 := (eqbTag_iff _ _).1 q4
        subst q4
        have r4 := eqbTag_refl f4
        have HN := Lib.hid (step_eq (eq := eqbSent') hno.out HX.out HY.out (by simp [eqbSent', HCALL.out, eqbTag_refl]))
        have HCq : ∀ n, Calls Try.prog 44 #[.slice A2 f2.length c2, .slice A2' f2'.length c2'] (wr.drewN n) fun e w'' => e = .returned (.bool true) ∧ ∃ m, w'' = wr.drewN m := fun n => by
          have h := Calls.quiet_of (spec_EqualValues_calls_q _ _ f2 f2' _ (HK2.out.below (belowN (Below.refl _ wr) n)) (HK2'.out.below (belowN (Below.refl _ wr) n)))
          rw [HCALL.out] at h
          exact h
        go_wp2
        go_quiet (exact HCq _)
        go_wp2
        go_roundw
        case rel => exact ⟨i + 1, by omega, by go_num, belowN HB.out _, HN⟩
        case measure => simp [intOf]; omega
      · have HE := Lib.hid (sameL_all (eq := eqbSent') HLN.out (fun i a b ha hb => hno.out i a b (by have := (List.getElem?_eq_some_iff.1 ha).1; omega) ha hb))
        go_wp2
        go_ret
        exact ⟨by rw [show sameSents xs ys = _ from HE.out]; rfl, HB.out⟩
  · have HE := Lib.hid (sameL_len (eq := eqbSent') hln)
    have hlb : ((xs.length : Int) != (ys.length : Int)) = true := by simp; omega
    go_enter Try.func12, Try.ntmps12
    go_wp2
    go_ret
    exact ⟨by rw [show sameSents xs ys = _ from HE.out]; rfl, Below.refl _ _⟩

set_option maxHeartbeats 800000 in
theorem impl_EqualSents_calls (v : Value) (xs : List GSent) (v' : Value) (ys : List GSent) (w : World) (hr : RdW w (.s xs.length (xs.flatMap eSent)) v) (hr' : RdW w (.s ys.length (ys.flatMap eSent)) v') (hz : xs.length + sizL (xs.flatMap eSent) ≤ 1048576) (hz' : ys.length + sizL (ys.flatMap eSent) ≤ 1048576) :
    Calls Try.prog 14 #[v, v'] w fun e w' => e = .returned (.bool (sameSents xs ys)) ∧ Below w.heap.size w w' := by
  have HC := Lib.hid (slices_EqualFunc_Sent eqbSent' 47 #[] (enters_of Try.func47 (by kernel_rfl) rfl) v v' xs ys w hr hr' (fun W x y us us' _ _ _ hu hu' => impl_equalSent_calls us x us' y W hu hu'))
  obtain ⟨A, c, rfl, -⟩ := hr.slice
  obtain ⟨A', c', rfl, -⟩ := hr'.slice
  clear hr hr'
  go_enter Try.func14, Try.ntmps14
  go_wp2_with fail
  refine HC.out.mono ?_
  rintro e w1 ⟨rfl, hb1⟩
  go_wp2
  go_ret
  exact ⟨rfl, hb1⟩

end Go.Proofs.Ytclpknilfhkalaa
