import Derived.Test.YtiohoeafdaihpaaProg
import Derived.Test.YtiohoeafdaihpaaTypes
import Derived.StillTailTactics
import Derived.Deep.RegionHeld3
import Derived.Laws.IdiomStrings
import Derived.Test.YtiohoeafdaihpaaAppend
import Derived.Laws.StructEq
import Derived.Lib.SliceRun
import Derived.Shelf.RegionOpenPlain
import Derived.Test.YtiohoeafdaihpaaLibB
import Derived.Test.YtiohoeafdaihpaaIsSafe
namespace Go.Proofs.Ytiohoeafdaihpaa
open Go.RowKit
set_option linter.unusedVariables false
set_option linter.unusedSimpArgs false

set_option maxHeartbeats 800000 in
theorem impl_areSafe11_calls (y : GMethod) (us : List Value) (W : World) (hr : RdLW W (eMethod y) us) (hz : sizL (eMethod y) ≤ 1048576) :
    Calls Try.prog 78 #[.agg us.toArray] W fun e w' => e = .returned (.bool (!safeB y)) ∧ Below W.heap.size W w' := by
  have HC := Lib.hid (impl_isSafe_calls us y (W.alloc (.cells us.toArray 29)) (hr.below ((Below.refl _ _).alloc (Nat.le_refl _) _)) hz)
  obtain ⟨u1, rfl, q1⟩ := rd_eMethod hr
  obtain ⟨A1, c1, rfl, -⟩ := q1.slice
  clear hr q1
  go_enter Try.func78, Try.ntmps78
  go_wp2_with fail
  refine HC.out.mono ?_
  rintro e w1 ⟨rfl, hb⟩
  go_wp2
  go_ret
  exact ⟨rfl, ((Below.refl _ _).alloc (Nat.le_refl _) _).trans (hb.mono (by simp))⟩
set_option maxHeartbeats 800000 in
theorem impl_areSafe1_calls (y : GScript) (us : List Value) (W : World) (hr : RdLW W (eScript y) us) (hz : sizL (eScript y) ≤ 1048576) :
    Calls Try.prog 76 #[.agg us.toArray] W fun e w' => e = .returned (.bool (y.Methods.any fun m => !safeB m)) ∧ Below W.heap.size W w' := by
  rw [siz_eScript] at hz
  obtain ⟨u1, rfl, q1⟩ := rd_eScript hr
  obtain ⟨A1, c1, rfl, -⟩ := q1.slice
  have HC := Lib.hid (slices_ContainsFunc_Method (fun m : GMethod => !safeB m) 78 #[] (enters_of Try.func78 (by kernel_rfl) rfl) _ y.Methods (W.alloc (.cells #[.string y.Name, .slice A1 y.Methods.length c1] 51)) (q1.alloc _)
    (fun W' m us hW hm hus => impl_areSafe11_calls m us W' hus (by have h2 := sizL_flat_le eMethod y.Methods m hm; omega)))
  clear hr q1 hz
  go_enter Try.func76, Try.ntmps76
  go_wp2_with fail
  refine HC.out.mono ?_
  rintro e w1 ⟨rfl, hb⟩
  go_wp2
  go_ret
  exact ⟨rfl, ((Below.refl _ _).alloc (Nat.le_refl _) _).trans (hb.mono (by simp))⟩
set_option maxHeartbeats 1600000 in
theorem impl_areSafe_calls (v : Value) (xs : List GScript) (w : World) (hr : RdW w (.s xs.length (xs.flatMap eScript)) v) (hz : sizL (xs.flatMap eScript) ≤ 1048576) :
    Calls Try.prog 36 #[v] w fun e w' => e = .returned (.bool (areSafeB xs)) ∧ Below w.heap.size w w' := by
  have HL := Lib.hid (impl_isLibrary_calls v xs w hr hz)
  have HRW := Lib.hid hr
  obtain ⟨A, c, rfl, -⟩ := hr.slice
  clear hr
  rcases Bool.eq_false_or_eq_true (libraryB xs) with g1 | g1
  rotate_left
  · have HE : Hid (areSafeB xs = false) := by unfold Hid areSafeB; rw [g1]; rfl
    go_enter Try.func36, Try.ntmps36
    go_wp2_with (go_at_call 75; refine HL.out.mono ?_; rintro e w1 ⟨rfl, hb1⟩; rw [g1])
    go_ret
    exact ⟨by rw [HE.out]; rfl, hb1⟩
  obtain ⟨an, han⟩ : ∃ an, an = (xs.any fun s => s.Methods.any fun m => !safeB m) := ⟨_, rfl⟩
  have HE : Hid (areSafeB xs = !an) := by unfold Hid areSafeB; rw [g1, han]; rfl
  have HAN := Lib.hid han
  clear han
  go_enter Try.func36, Try.ntmps36
  go_wp2_with fail
  refine HL.out.mono ?_
  rintro e w1 ⟨rfl, hb1⟩
  rw [g1]
  have HC := Lib.hid (slices_ContainsFunc_Script (fun y : GScript => y.Methods.any fun m => !safeB m) 76 #[] (enters_of Try.func76 (by kernel_rfl) rfl) _ xs w1 (HRW.out.below hb1)
    (fun W' y us hW hy hus => impl_areSafe1_calls y us W' hus (by have h2 := sizL_flat_le eScript xs y hy; omega)))
  rw [← HAN.out] at HC
  have HB1 := Lib.hid hb1
  clear hb1
  go_wp2_with fail
  refine HC.out.mono ?_
  rintro e w2 ⟨rfl, hb2⟩
  go_wp2
  go_ret
  exact ⟨by rw [HE.out]; rfl, HB1.out.trans (hb2.mono HB1.out.size)⟩
set_option maxHeartbeats 800000 in
theorem impl_AreSafe_calls (v : Value) (xs : List GScript) (w : World) (hr : RdW w (.s xs.length (xs.flatMap eScript)) v) (hz : sizL (xs.flatMap eScript) ≤ 1048576) :
    Calls Try.prog 14 #[v] w fun e w' => e = .returned (.bool (areSafeB xs)) ∧ Below w.heap.size w w' := by
  have HL := Lib.hid (impl_areSafe_calls v xs w hr hz)
  obtain ⟨A, c, rfl, -⟩ := hr.slice
  clear hr
  go_enter Try.func14, Try.ntmps14
  go_wp2_with fail
  refine HL.out.mono ?_
  rintro e w1 ⟨rfl, hb1⟩
  go_wp2
  go_ret
  exact ⟨rfl, hb1⟩
set_option maxHeartbeats 3200000 in
theorem spec_AreSafe_calls (v : Value) (xs : List GScript) (w : World) (hr : RdW w (.s xs.length (xs.flatMap eScript)) v) (hz : sizL (xs.flatMap eScript) ≤ 1048576) :
    Calls Try.prog 12 #[v] w fun e w' => e = .returned (.bool (areSafeB xs)) ∧ Below w.heap.size w w' := by
  obtain ⟨A, c, rfl, ⟨_, _, hl⟩⟩ := hr.slice
  have HR := Lib.hid hr
  have HZ := Lib.hid hz
  have HMZ := Lib.hid (fun (m : GScript) (hm : m ∈ xs) => by
    have h2 := sizL_flat_le eScript xs m hm
    exact (by omega : sizL (eScript m) ≤ 1048576))
  clear hz hr
  go_enter Try.func12, Try.ntmps12
  go_wp2
  go_loopw [3] (fun a wr => ∃ i : Nat, i ≤ xs.length ∧ a = .int .i64 i ∧ Hid (Below w.heap.size w wr) ∧ Hid (∀ j y, j < i → xs[j]? = some y → (y.Methods.any fun m => !safeB m) = false)) (fun a wr => xs.length - (intOf a).toNat)
  case atStart => exact ⟨0, by omega, rfl, Below.refl _ _, no_start⟩
  case round =>
    obtain ⟨i, hi, rfl, HB, hno⟩ := hrel
    rename World => wo
    have zr := HB.out.size
    by_cases hlt : i < xs.length
    · obtain ⟨y, hy⟩ : ∃ y, xs[i]? = some y := ⟨xs[i], List.getElem?_eq_getElem hlt⟩
      have hyz := HMZ.out y (List.mem_of_getElem? hy)
      rw [siz_eScript] at hyz
      have HX := Lib.hid hy
      clear hy
      go_wp2
      go_loopw [4] (fun a wk => ∃ k : Nat, k ≤ y.Methods.length ∧ a = .int .i64 k ∧ Hid (Below wo.heap.size wo wk) ∧ Hid (∀ j m, j < k → y.Methods[j]? = some m → (!safeB m) = false)) (fun a wk => y.Methods.length - (intOf a).toNat)
      case atStart => exact ⟨0, by omega, rfl, Below.refl _ _, no_start⟩
      case round =>
        obtain ⟨k, hk, rfl, HBk, hno2⟩ := hrel
        have HBw := Lib.hid (HB.out.trans (HBk.out.mono zr))
        have zk := HBw.out.size
        obtain ⟨ad, u1, rfl, hab, k0, k1, hq⟩ := row_eScript (HR.out.below HBw.out) HX.out
        obtain ⟨A2, c2, rfl, ⟨_, _, hl2⟩⟩ := hq.slice
        by_cases hkl : k < y.Methods.length
        · obtain ⟨m, hm⟩ : ∃ m, y.Methods[k]? = some m := ⟨y.Methods[k], List.getElem?_eq_getElem hkl⟩
          obtain ⟨ad2, u2, rfl, hab2, q0, q1, hq2⟩ := row_eMethod hq hm
          obtain ⟨A3, c3, rfl, -⟩ := hq2.slice
          have hml : RdLW wr (eMethod m) [.string m.Name, .slice A3 m.Code.length c3] := mkrd_eMethod hq2
          have HC := Lib.hid (spec_IsSafe_calls _ m wr hml (by have h2 := sizL_flat_le eMethod y.Methods m (List.mem_of_getElem? hm); omega))
          have HM := Lib.hid hm
          clear hm hq2 hml hq
          cases hs : safeB m with
          | true =>
            have HN := Lib.hid (step_no (p := fun m : GMethod => (!safeB m) = false) hno2.out HM.out (by rw [hs]; rfl))
            go_wp2_with fail
            refine HC.out.mono ?_
            rintro e w2 ⟨rfl, hb2⟩
            rw [hs]
            have HB2 := Lib.hid (HBk.out.trans (hb2.mono HBk.out.size))
            clear hb2
            go_wp2
            go_roundw
            case rel => exact ⟨k + 1, by omega, by go_num, HB2, HN⟩
            case measure => simp [intOf]; omega
          | false =>
            have HE : Hid (areSafeB xs = false) := by
              unfold Hid areSafeB
              rw [any_hit (p := fun s : GScript => s.Methods.any fun m => !safeB m) HX.out (any_hit (p := fun m : GMethod => !safeB m) HM.out (by rw [hs]; rfl))]; simp
            go_wp2_with fail
            refine HC.out.mono ?_
            rintro e w2 ⟨rfl, hb2⟩
            rw [hs]
            go_wp2
            go_ret
            exact ⟨by rw [HE.out]; rfl, HBw.out.trans (hb2.mono zk)⟩
        · have : k = y.Methods.length := by omega
          subst this
          have HN := Lib.hid (step_no (p := fun y : GScript => (y.Methods.any fun m => !safeB m) = false) hno.out HX.out (any_miss (all_of (p := fun m : GMethod => (!safeB m) = false) hno2.out)))
          clear hq
          go_wp2
          go_roundw
          case rel => exact ⟨i + 1, by omega, by go_num, HBw, HN⟩
          case measure => simp [intOf]; omega
    · have : i = xs.length := by omega
      subst this
      have HE : Hid (areSafeB xs = libraryB xs) := by
        unfold Hid areSafeB
        rw [any_miss (all_of (p := fun y : GScript => (y.Methods.any fun m => !safeB m) = false) hno.out)]; simp
      have HC := Lib.hid (spec_IsLibrary_calls _ xs _ (HR.out.below HB.out) HZ.out)
      go_wp2_with fail
      refine HC.out.mono ?_
      rintro e w2 ⟨rfl, hb2⟩
      go_wp2
      go_ret
      exact ⟨by rw [HE.out]; rfl, HB.out.trans (hb2.mono zr)⟩

end Go.Proofs.Ytiohoeafdaihpaa
