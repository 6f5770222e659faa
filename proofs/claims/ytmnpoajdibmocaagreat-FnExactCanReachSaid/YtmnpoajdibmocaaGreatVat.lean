import Derived.Test.YtmnpoajdibmocaaGreatProg
import Derived.Test.YtmnpoajdibmocaaGreatTypes
import Derived.StillTailTactics
import Derived.Deep.RegionHeld3
import Derived.Laws.IdiomStrings
import Derived.Test.YtmnpoajdibmocaaGreatAppend
import Derived.Laws.StructEq
import Derived.Lib.SliceRun
import Derived.Shelf.RegionOpenPlain
import Derived.Test.YtmnpoajdibmocaaGreatCommon
import Derived.Test.YtmnpoajdibmocaaGreatPureVat
import Derived.Test.YtmnpoajdibmocaaGreatSlices
namespace Go.Proofs.YtmnpoajdibmocaaGreat
open Go.RowKit
set_option linter.unusedVariables false
set_option linter.unusedSimpArgs false

set_option maxHeartbeats 400000 in
theorem spec_LinkTo_calls (us : List Value) (x : GVat) (a : Int) (w : World) (hr : RdLW w (eVat x) us) (hz : sizL (eVat x) ≤ 1048576) (hi : I64 a) :
    Calls Tryz.prog 17 #[.agg us.toArray, .int .i64 a] w fun e w' => e = .returned (.int .i64 (linkTo x a)) ∧ Below w.heap.size w w' := by
  obtain ⟨v1, v2, v3, v4, rfl, h1, h2, h3, h4⟩ := rd_eVat hr
  obtain ⟨A, c, rfl, ⟨_, _, hl⟩⟩ := h3.slice
  have HR := Lib.hid h3
  clear hr h1 h2 h3 h4
  have HB := Lib.hid ((Below.refl w.heap.size w).alloc (Nat.le_refl _) (.cells #[.int .i64 x.Id, v1, v2, .slice A x.Links.length c, v4] 36))
  go_enter Tryz.func17, Tryz.ntmps17
  go_wp2
  go_loop [5] (fun b => ∃ i : Nat, i ≤ x.Links.length ∧ b = .int .i64 i ∧ Hid (∀ j y, j < i → x.Links[j]? = some y → (y.Peer == a) = false)) (fun b => x.Links.length - (intOf b).toNat)
  case atStart => exact ⟨0, by omega, rfl, no_start⟩
  case round =>
    obtain ⟨i, hi, rfl, hno⟩ := hrel
    by_cases hlt : i < x.Links.length
    · obtain ⟨y, hy⟩ : ∃ y, x.Links[i]? = some y := ⟨x.Links[i], List.getElem?_eq_getElem hlt⟩
      obtain ⟨ad, u2, u4, u6, rfl, _, k0, k1, k2, k3, k4, k5, k6, -⟩ := row_eLink (HR.out.below HB.out) hy
      have HX := Lib.hid hy
      clear hy k1 k2 k3 k4 k5 k6
      by_cases he : y.Peer = a
      · have HE := Lib.hid (idx_hit (p := fun l : GLink => l.Peer == a) HX.out (by simpa using he) hno.out)
        go_wp2
        go_ret
        exact ⟨by rw [linkTo, HE.out]; rfl, HB.out⟩
      · have HN := Lib.hid (step_no (p := fun y : GLink => (y.Peer == a) = false) hno.out HX.out (by simpa using he))
        go_wp2
        go_round
        case rel => exact ⟨i + 1, by omega, by go_num, HN⟩
        case measure => simp [intOf]; omega
    · have : i = x.Links.length := by omega
      subst this
      have HE := Lib.hid (idx_miss (all_of (p := fun y : GLink => (y.Peer == a) = false) hno.out))
      go_wp2
      go_ret
      exact ⟨by rw [linkTo, HE.out]; rfl, HB.out⟩
set_option maxHeartbeats 400000 in
theorem impl_LinkTo1_calls (B : Nat) (y : GLink) (us : List Value) (a : Int) (W : World) (hb : Blk W B 3 #[.int .i64 a]) (hr : RdLW W (eLink y) us) :
    Calls Tryz.prog 49 #[.agg us.toArray, .pointer (some ⟨B, 0, none⟩)] W fun e w' => e = .returned (.bool (y.Peer == a)) ∧ Below W.heap.size W w' := by
  obtain ⟨u2, u4, u6, rfl, -⟩ := rd_eLink hr
  obtain ⟨k0, k1⟩ := hb.rules
  have hlt := hb.lt
  clear hr
  go_enter Tryz.func49, Tryz.ntmps49
  go_wp2
  go_ret
  exact ⟨rfl, (Below.refl _ _).alloc (Nat.le_refl _) _⟩
set_option maxHeartbeats 400000 in
theorem impl_LinkTo_calls (us : List Value) (x : GVat) (a : Int) (w : World) (hr : RdLW w (eVat x) us) (hz : sizL (eVat x) ≤ 1048576) (hi : I64 a) :
    Calls Tryz.prog 25 #[.agg us.toArray, .int .i64 a] w fun e w' => e = .returned (.int .i64 (linkTo x a)) ∧ Below w.heap.size w w' := by
  obtain ⟨v1, v2, v3, v4, rfl, h1, h2, h3, h4⟩ := rd_eVat hr
  obtain ⟨A, c, rfl, ⟨_, _, hl⟩⟩ := h3.slice
  have HR := Lib.hid h3
  clear hr h1 h2 h3 h4
  have HC := Lib.hid (slices_IndexFunc_Link (fun y : GLink => y.Peer == a) 49 #[.pointer (some ⟨w.heap.size + 1, 0, none⟩)] (enters_of Tryz.func49 (by kernel_rfl) rfl) _ x.Links ((w.alloc (.cells #[.int .i64 x.Id, v1, v2, .slice A x.Links.length c, v4] 36)).alloc (.cells #[.int .i64 a] 3)) ((HR.out.alloc _).alloc _)
    (fun W y us hW hy hus => impl_LinkTo1_calls (w.heap.size + 1) y us a W ((Blk.made (by simp)).below hW) hus))
  go_enter Tryz.func25, Tryz.ntmps25
  go_wp2_with (go_at_call 48; refine HC.out.mono ?_; rintro e w' ⟨rfl, hb'⟩)
  go_ret
  exact ⟨rfl, (((Below.refl _ _).alloc (Nat.le_refl _) _).alloc (by simp) _).trans (hb'.mono (by simp only [size_alloc]; omega))⟩
set_option maxHeartbeats 400000 in
theorem impl_Vat_entity_none (g : Nat) (A : Option Addr) (ln c : Nat) (id : Int) (v2 v3 v4 : Value) (n : Int) (w : World) (hb : Blk w g 36 #[.int .i64 id, .slice A ln c, v2, v3, v4]) (hln : ln ≤ 1048576) (hn : ¬ (0 ≤ n ∧ n ≤ (ln : Int) - 1)) :
    Calls Tryz.prog 50 #[.pointer (some ⟨g, 0, none⟩), .int .i64 n] w fun e w' => e = .returned (.pointer none) ∧ w' = w := by
  have HI : Hid (inR n 0 ((ln : Int) - 1) = false) := by unfold Hid inR; simpa using hn
  obtain ⟨k0, k1⟩ := hb.rules
  have hlt := hb.lt
  clear hn hb
  go_enter Tryz.func50, Tryz.ntmps50
  go_wp2_with fail
  refine (impl_in_calls _ _ _ _).mono ?_
  rintro e w1 ⟨rfl, rfl⟩
  rw [HI.out]
  go_wp2
  go_ret
  exact ⟨rfl, rfl⟩
set_option maxHeartbeats 400000 in
theorem impl_Vat_entity_some (g : Nat) (ad : Addr) (ln c : Nat) (id : Int) (v2 v3 v4 : Value) (i : Nat) (w : World) (hb : Blk w g 36 #[.int .i64 id, .slice (some ad) ln c, v2, v3, v4]) (hln : ln ≤ 1048576) (hn : i < ln) :
    Calls Tryz.prog 50 #[.pointer (some ⟨g, 0, none⟩), .int .i64 (i : Int)] w fun e w' => e = .returned (.pointer (some (ad.add (i * 12)))) ∧ w' = w := by
  have HI : Hid (inR (i : Int) 0 ((ln : Int) - 1) = true) := by unfold Hid inR; simp; omega
  obtain ⟨k0, k1⟩ := hb.rules
  have hlt := hb.lt
  clear hb
  go_enter Tryz.func50, Tryz.ntmps50
  go_wp2_with fail
  refine (impl_in_calls _ _ _ _).mono ?_
  rintro e w1 ⟨rfl, rfl⟩
  rw [HI.out]
  go_wp2
  go_ret
  exact ⟨rfl, rfl⟩
end Go.Proofs.YtmnpoajdibmocaaGreat
