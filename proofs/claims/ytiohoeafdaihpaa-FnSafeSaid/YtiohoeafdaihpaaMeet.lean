import Derived.Test.YtiohoeafdaihpaaProg
import Derived.Test.YtiohoeafdaihpaaTypes
import Derived.StillTailTactics
import Derived.Deep.RegionHeld3
import Derived.Laws.IdiomStrings
import Derived.Test.YtiohoeafdaihpaaAppend
import Derived.Laws.StructEq
import Derived.Lib.SliceRun
import Derived.Shelf.RegionOpenPlain
import Derived.Test.YtiohoeafdaihpaaPureFirst
import Derived.Test.YtiohoeafdaihpaaInts
namespace Go.Proofs.Ytiohoeafdaihpaa
open Go.RowKit
set_option linter.unusedVariables false
set_option linter.unusedSimpArgs false

set_option maxHeartbeats 3200000 in
set_option maxRecDepth 100000 in
theorem spec_l8Meet_calls (va vb : Value) (xs ys : List Bool) (rb : Bool) (w : World) (hr : RdW w (.s xs.length (xs.flatMap eBool)) va) (hr2 : RdW w (.s ys.length (ys.flatMap eBool)) vb) (hl : rb = true → xs.length = ys.length) (hp : 0 < ys.length) (hz : ys.length ≤ 1048576) :
    Calls Try.prog 53 #[va, vb, .bool rb] w fun e w' => ∃ A' c', e = .returned (.slice A' (if rb then meetS xs ys else ys).length c') ∧ ∃ fp, Own w' (.s (if rb then meetS xs ys else ys).length ((if rb then meetS xs ys else ys).flatMap eBool)) (.slice A' (if rb then meetS xs ys else ys).length c') fp ∧ (∀ k, k ∈ fp → w.heap.size ≤ k) ∧ Below w.heap.size w w' := by
  obtain ⟨A, c, rfl, ⟨_, _, hl1⟩⟩ := hr.slice
  obtain ⟨A2, c2, rfl, ⟨_, _, hl2⟩⟩ := hr2.slice
  have HR := Lib.hid hr
  have HR2 := Lib.hid hr2
  have hlv : ∀ x : Bool, (vsBool x).length = 1 := fun _ => rfl
  clear hr hr2
  cases rb with
  | false =>
    go_enter Try.func53, Try.ntmps53
    go_wp2_with (at_builtin; refine wpList_copy_rd rfl _ _ 69 rfl (w.heap.size) 4 _ _ 1 1 Try.underlying69 rfl rfl rfl rfl rfl (by omega) _ rfl (World.ownsRow_made w #[] 0 (Nat.le_refl _) (Nat.zero_le _) (by simp)) vals_eBool ys (one_eBool ys) (lenv_eBool ys) _ _ rfl (HR2.out.alloc _) (by omega) (by omega) (by simp) ?_)
    intro A' c' w1 hown hgrow
    have HB1 := Lib.hid (((Below.refl _ w).alloc (Nat.le_refl _) _).trans (grown_below hgrow (by simp) (by intro k hk; simp [Value.ownBlock] at hk; omega)))
    obtain ⟨fp, how, _, hge⟩ := ownRow_own vals_eBool hown (by omega)
    have HO := Lib.hid how
    have HGE := Lib.hid hge
    clear hown hgrow how hge
    by_cases h0 : 0 < xs.length
    · go_wp2
      go_loopw [8] (fun a wr => a = .int .i64 0 ∧ Hid (wr = w1)) (fun a wr => 0)
      case atStart => exact ⟨rfl, rfl⟩
      case round =>
        obtain ⟨rfl, HW⟩ := hrel
        have hw : w1 = wr := HW.out.symm
        subst hw
        go_wp2
        go_ret
        exact ⟨_, _, rfl, fp, HO.out, HGE.out, HB1.out⟩
    · have h0' : xs.length = 0 := by omega
      have H0 := Lib.hid h0'
      go_wp2
      go_loopw [8] (fun a wr => a = .int .i64 0 ∧ Hid (wr = w1)) (fun a wr => 0)
      case atStart => exact ⟨rfl, rfl⟩
      case round =>
        obtain ⟨rfl, HW⟩ := hrel
        have hw : w1 = wr := HW.out.symm
        subst hw
        go_wp2
        go_ret
        exact ⟨_, _, rfl, fp, HO.out, HGE.out, HB1.out⟩
  | true =>
    have HL := Lib.hid (hl rfl)
    have hxl : xs.length ≤ ys.length := Nat.le_of_eq (hl rfl)
    clear hl
    go_enter Try.func53, Try.ntmps53
    go_wp2_with (at_builtin; refine wpList_copy_rd rfl _ _ 69 rfl (w.heap.size) 4 _ _ 1 1 Try.underlying69 rfl rfl rfl rfl rfl (by omega) _ rfl (World.ownsRow_made w #[] 0 (Nat.le_refl _) (Nat.zero_le _) (by simp)) vals_eBool ys (one_eBool ys) (lenv_eBool ys) _ _ rfl (HR2.out.alloc _) (by omega) (by omega) (by simp) ?_)
    intro A' c' w1 hown hgrow
    have HB1 := Lib.hid (((Below.refl _ w).alloc (Nat.le_refl _) (.cells #[] 4)).trans (grown_below hgrow (by simp) (by intro k hk; simp [Value.ownBlock] at hk; omega)))
    obtain ⟨fp, how, _, hge⟩ := ownRow_own vals_eBool hown (by omega)
    obtain ⟨g, cc, hv, hok, rfl, hg, hrow⟩ := own_rowis vals_eBool how hp
    injection hv with hv1 hv2 hv3
    subst hv1; subst hv3
    have hgw : w.heap.size ≤ g := hge g (by simp)
    have HOK := Lib.hid hok
    have HROW := Lib.hid hrow
    clear hown hgrow how hge hok hrow hv2
    go_wp2
    go_loopw [8] (fun a wr => ∃ i : Nat, i ≤ xs.length ∧ a = .int .i64 i ∧ g < wr.heap.size ∧ Hid (RowIs wr g ((meetTo xs ys i).flatMap vsBool)) ∧ Hid (Below w.heap.size w wr)) (fun a wr => xs.length - (intOf a).toNat)
    case atStart => exact ⟨0, by omega, rfl, hg, by unfold Hid; rw [meetTo_zero]; exact HROW.out, HB1⟩
    case round =>
      obtain ⟨i, hi, rfl, hgr, HRW, HB⟩ := hrel
      by_cases hlt : i < xs.length
      · obtain ⟨x, hx⟩ : ∃ x, xs[i]? = some x := ⟨xs[i], List.getElem?_eq_getElem hlt⟩
        obtain ⟨y, hy⟩ : ∃ y, ys[i]? = some y := ⟨ys[i], List.getElem?_eq_getElem (by omega)⟩
        obtain ⟨ad, rfl, hab, k0⟩ := row_eBool (HR.out.below HB.out) hx
        obtain ⟨ad2, rfl, hab2, k1⟩ := row_eBool (HR2.out.below HB.out) hy
        have hst := Lib.hid (meetTo_step hx hy)
        have hml : i < (meetTo xs ys i).length := by rw [meetTo_len HL.out i hi]; omega
        obtain ⟨q0, p0⟩ := HRW.out.row hlv (List.getElem?_eq_getElem hml) 0 _ rfl
        rw [Nat.add_zero, Nat.mul_one] at q0 p0
        have hset := HRW.out.setRow hlv hml (x && y)
        rw [← hst.out] at hset
        simp only [vsBool, putRow, Nat.add_assoc, Nat.reduceAdd, Nat.mul_one] at hset
        have HSET := Lib.hid hset
        clear hx hy hset
        cases x with
        | true =>
          simp only [Bool.true_and] at HSET
          go_wp2
          go_roundw
          case rel => exact ⟨i + 1, by omega, by go_num, by simpa [World.setCell] using hgr, HSET, HB.out.setCell (p := ⟨g, i, none⟩) hgw _⟩
          case measure => simp [intOf]; omega
        | false =>
          simp only [Bool.false_and] at HSET
          go_wp2
          go_roundw
          case rel => exact ⟨i + 1, by omega, by go_num, by simpa [World.setCell] using hgr, HSET, HB.out.setCell (p := ⟨g, i, none⟩) hgw _⟩
          case measure => simp [intOf]; omega
      · have : i = xs.length := by omega
        subst this
        have HE := Lib.hid (meetTo_all HL.out)
        go_wp2
        go_ret
        have hrw := HRW.out
        rw [HE.out] at hrw
        have hml : (meetS xs ys).length = ys.length := by rw [← HE.out, meetTo_len HL.out _ (Nat.le_refl _)]
        obtain ⟨fp', ho', _, hf'⟩ := own_rows vals_eBool (c := c') hrw hgr ⟨by rw [hml]; exact HOK.out.le, HOK.out.cap, by rw [hml]; exact HOK.out.lim⟩
        refine ⟨_, c', ?_, fp', ho', fun k hk => by rw [hf' k hk]; exact hgw, HB.out⟩
        rw [hml]; rfl

end Go.Proofs.Ytiohoeafdaihpaa
