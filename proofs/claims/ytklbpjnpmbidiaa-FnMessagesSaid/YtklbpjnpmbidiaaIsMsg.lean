import Derived.Test.YtklbpjnpmbidiaaProg
import Derived.Test.YtklbpjnpmbidiaaTypes
import Derived.StillTailTactics
import Derived.Deep.RegionHeld3
import Derived.Laws.IdiomStrings
import Derived.Test.YtklbpjnpmbidiaaAppend
import Derived.Laws.StructEq
import Derived.Lib.SliceRun
import Derived.Shelf.RegionOpenPlain
import Derived.Test.YtklbpjnpmbidiaaPureIs
namespace Go.Proofs.Ytklbpjnpmbidiaa
open Go.RowKit
set_option linter.unusedVariables false
set_option linter.unusedSimpArgs false

set_option maxHeartbeats 800000 in
theorem spec_IsName_calls (s : ByteArray) (w : World) (hs : s.size ≤ 140737488355328) :
    Calls Try.prog 38 #[.string s] w fun e w' => e = .returned (.bool (nameB s)) ∧ w' = w := by
  go_enter Try.func38, Try.ntmps38
  go_wp2
  go_loop [3] (fun a => ∃ i : Nat, i ≤ s.size ∧ a = .int .i64 i ∧ Hid (∀ j b, j < i → s.data.toList[j]? = some b → lowB b = true)) (fun a => s.size - (intOf a).toNat)
  case atStart => exact ⟨0, by omega, rfl, fun j b h => absurd h (Nat.not_lt_zero _)⟩
  case round =>
    obtain ⟨i, hi, rfl, hno⟩ := hrel
    by_cases hlt : i < s.size
    · have HX := Lib.hid (byte_at s i hlt)
      by_cases g1 : 97 ≤ s[i].toNat
      · by_cases g2 : s[i].toNat ≤ 122
        · have HN := Lib.hid (step_no (p := fun b : UInt8 => lowB b = true) hno.out HX.out (by simp [lowB, g1, g2]))
          have i1 : (97 : Int) ≤ s[i].toNat := by exact_mod_cast g1
          have i2 : (s[i].toNat : Int) ≤ 122 := by exact_mod_cast g2
          go_wp2
          go_round
          case rel => exact ⟨i + 1, by omega, by go_num, HN⟩
          case measure => simp [intOf]; omega
        · have HE : Hid (nameB s = false) := name_bad HX.out (by simp [lowB, g2])
          have i1 : (97 : Int) ≤ s[i].toNat := by exact_mod_cast g1
          have i2 : (122 : Int) < s[i].toNat := by exact_mod_cast (Nat.lt_of_not_le g2)
          go_wp2
          go_ret
          exact ⟨by rw [HE.out]; rfl, rfl⟩
      · have HE : Hid (nameB s = false) := name_bad HX.out (by simp [lowB, g1])
        have i1 : (s[i].toNat : Int) < 97 := by exact_mod_cast (Nat.lt_of_not_le g1)
        go_wp2
        go_ret
        exact ⟨by rw [HE.out]; rfl, rfl⟩
    · have : i = s.size := by omega
      subst this
      have HE : Hid (nameB s = inR s.size 1 6) := name_good hno.out
      go_wp2_with fail
      refine (spec_l1In_calls _ _ _ _).mono ?_
      rintro e w1 ⟨rfl, rfl⟩
      go_wp2
      go_ret
      exact ⟨by rw [HE.out]; rfl, rfl⟩
set_option maxHeartbeats 800000 in
theorem impl_isName_calls (s : ByteArray) (w : World) (hs : s.size ≤ 140737488355328) :
    Calls Try.prog 50 #[.string s] w fun e w' => e = .returned (.bool (nameB s)) ∧ w' = w := by
  rcases Bool.eq_false_or_eq_true (inR s.size 1 6) with hI | hI
  rotate_left
  · have HE : Hid (nameB s = false) := by unfold Hid nameB; rw [hI, Bool.and_false]
    have HI := Lib.hid hI
    clear hI
    go_enter Try.func50, Try.ntmps50
    go_wp2_with fail
    refine (impl_in_calls _ _ _ _).mono ?_
    rintro e w1 ⟨rfl, rfl⟩
    rw [HI.out]
    go_wp2
    go_ret
    exact ⟨by rw [HE.out]; rfl, rfl⟩
  have HI := Lib.hid hI
  clear hI
  go_enter Try.func50, Try.ntmps50
  go_wp2_with fail
  refine (impl_in_calls _ _ _ _).mono ?_
  rintro e w1 ⟨rfl, rfl⟩
  rw [HI.out]
  go_wp2
  go_loop [10] (fun a => ∃ i : Nat, i ≤ s.size ∧ a = .int .i64 i ∧ Hid (∀ j b, j < i → s.data.toList[j]? = some b → lowB b = true)) (fun a => s.size - (intOf a).toNat)
  case atStart => exact ⟨0, by omega, rfl, fun j b h => absurd h (Nat.not_lt_zero _)⟩
  case round =>
    obtain ⟨i, hi, rfl, hno⟩ := hrel
    by_cases hlt : i < s.size
    · have HX := Lib.hid (byte_at s i hlt)
      by_cases g1 : 97 ≤ s[i].toNat
      · by_cases g2 : s[i].toNat ≤ 122
        · have HN := Lib.hid (step_no (p := fun b : UInt8 => lowB b = true) hno.out HX.out (by simp [lowB, g1, g2]))
          have i1 : (97 : Int) ≤ s[i].toNat := by exact_mod_cast g1
          have i2 : (s[i].toNat : Int) ≤ 122 := by exact_mod_cast g2
          go_wp2
          go_round
          case rel => exact ⟨i + 1, by omega, by go_num, HN⟩
          case measure => simp [intOf]; omega
        · have HE : Hid (nameB s = false) := name_bad HX.out (by simp [lowB, g2])
          have i1 : (97 : Int) ≤ s[i].toNat := by exact_mod_cast g1
          have i2 : (122 : Int) < s[i].toNat := by exact_mod_cast (Nat.lt_of_not_le g2)
          go_wp2
          go_ret
          exact ⟨by rw [HE.out]; rfl, rfl⟩
      · have HE : Hid (nameB s = false) := name_bad HX.out (by simp [lowB, g1])
        have i1 : (s[i].toNat : Int) < 97 := by exact_mod_cast (Nat.lt_of_not_le g1)
        go_wp2
        go_ret
        exact ⟨by rw [HE.out]; rfl, rfl⟩
    · have : i = s.size := by omega
      subst this
      have HE : Hid (nameB s = true) := by have h := name_good hno.out; unfold Hid; rw [h, HI.out]
      go_wp2
      go_ret
      exact ⟨by rw [HE.out]; rfl, rfl⟩

set_option maxHeartbeats 800000 in
set_option maxRecDepth 100000 in
theorem slices_IndexFunc_Wire (p : GWire → Bool) (g : Nat) (lb : Array Value) (eg : ∀ args w, (callFunc g args).run Try.prog w = .ok (.enter g args) w) (v : Value) (xs : List GWire) (w : World) (hr : RdW w (.s xs.length (xs.flatMap eWire)) v)
    (hp : ∀ (W : World) (x : GWire) (us : List Value), Below w.heap.size w W → x ∈ xs → RdLW W (eWire x) us → Calls Try.prog g (#[.agg us.toArray] ++ lb) W fun e w' => e = .returned (.bool (p x)) ∧ Below W.heap.size W w') :
    Calls Try.prog 67 #[v, .func (.func g) #[] lb] w fun e w' => e = .returned (.int .i64 (idx p xs)) ∧ Below w.heap.size w w' := by
  obtain ⟨A, c, rfl, ⟨_, _, hl⟩⟩ := hr.slice
  have HR := Lib.hid hr
  have HP := Lib.hid hp
  clear hr hp
  go_enter Try.func67, Try.ntmps67
  go_wp2
  go_loopw [8] (fun a wr => ∃ i : Nat, i ≤ xs.length ∧ a = .int .i64 i ∧ Hid (Below w.heap.size w wr) ∧ Hid (∀ j y, j < i → xs[j]? = some y → p y = false)) (fun a wr => xs.length - (intOf a).toNat)
  case atStart => exact ⟨0, by omega, rfl, Below.refl _ _, no_start⟩
  case round =>
    obtain ⟨i, hi, rfl, HB, hno⟩ := hrel
    by_cases hlt : i < xs.length
    · obtain ⟨x, hx⟩ : ∃ x, xs[i]? = some x := ⟨xs[i], List.getElem?_eq_getElem hlt⟩
      obtain ⟨ad, rfl, hadb, h0, h1⟩ := row_eWire (HR.out.below HB.out) hx
      have hcall := HP.out wr x _ HB.out (List.mem_of_getElem? hx) (mkrd_eWire (x := x))
      have HX := Lib.hid hx
      clear hx
      cases hq : p x with
      | true =>
        rw [hq] at hcall
        have HE := Lib.hid (idx_hit HX.out hq hno.out)
        go_wp2_with (go_at_fn g; refine hcall.mono ?_; rintro e w' ⟨rfl, hb'⟩)
        go_ret
        exact ⟨by rw [HE.out]; rfl, HB.out.trans (hb'.mono HB.out.size)⟩
      | false =>
        rw [hq] at hcall
        have HN := Lib.hid (step_no (p := fun y => p y = false) hno.out HX.out hq)
        go_wp2_with (go_at_fn g; refine hcall.mono ?_; rintro e w' ⟨rfl, hb'⟩)
        go_roundw
        case rel => exact ⟨i + 1, by omega, by go_num, HB.out.trans (hb'.mono HB.out.size), HN⟩
        case measure => simp [intOf]; omega
    · have : i = xs.length := by omega
      subst this
      have HE := Lib.hid (idx_miss (all_of (p := fun y => p y = false) hno.out))
      go_wp2
      go_ret
      exact ⟨by rw [HE.out]; rfl, HB.out⟩

set_option maxHeartbeats 800000 in
set_option maxRecDepth 100000 in
theorem slices_ContainsFunc_Wire (p : GWire → Bool) (g : Nat) (lb : Array Value) (eg : ∀ args w, (callFunc g args).run Try.prog w = .ok (.enter g args) w) (v : Value) (xs : List GWire) (w : World) (hr : RdW w (.s xs.length (xs.flatMap eWire)) v)
    (hp : ∀ (W : World) (x : GWire) (us : List Value), Below w.heap.size w W → x ∈ xs → RdLW W (eWire x) us → Calls Try.prog g (#[.agg us.toArray] ++ lb) W fun e w' => e = .returned (.bool (p x)) ∧ Below W.heap.size W w') :
    Calls Try.prog 51 #[v, .func (.func g) #[] lb] w fun e w' => e = .returned (.bool (xs.any p)) ∧ Below w.heap.size w w' := by
  have hcon := slices_IndexFunc_Wire p g lb eg v xs w hr hp
  obtain ⟨A, c, rfl, _⟩ := hr.slice
  have HE := Lib.hid (idx_any p xs)
  clear hr hp
  generalize idx p xs = r at hcon HE
  go_enter Try.func51, Try.ntmps51
  go_wp2_with (go_at_call 67; refine hcon.mono ?_; rintro e w' ⟨rfl, hb'⟩)
  go_ret
  exact ⟨by rw [← HE.out]; rfl, hb'⟩

end Go.Proofs.Ytklbpjnpmbidiaa
