import Derived.Test.YtkgnkekbcblnlaaProg
import Derived.Test.YtkgnkekbcblnlaaTypes
import Derived.StillTailTactics
import Derived.Deep.RegionHeld3
import Derived.Laws.IdiomStrings
import Derived.Test.YtkgnkekbcblnlaaAppend
import Derived.Laws.StructEq
import Derived.Lib.SliceRun
import Derived.Shelf.RegionOpenPlain
import Derived.Test.YtkgnkekbcblnlaaHelp
import Derived.Test.YtkgnkekbcblnlaaCommon
import Derived.Test.YtkgnkekbcblnlaaPureMessage
import Derived.Test.YtkgnkekbcblnlaaSlices
import Derived.Test.YtkgnkekbcblnlaaEqMsg
namespace Go.Proofs.Ytkgnkekbcblnlaa
open Go.RowKit
set_option linter.unusedVariables false
set_option linter.unusedSimpArgs false

set_option maxHeartbeats 400000 in
theorem impl_named_calls (a : Int) (w : World) : Calls Try.prog 74 #[.int .i64 a] w fun e w' => e = .returned (.bool (inR a 1 999999)) ∧ w' = w := by
  go_enter Try.func74, Try.ntmps74
  go_wp2_with (go_at_call 60; refine (impl_in_calls _ _ _ _).mono ?_; rintro e w1 ⟨rfl, rfl⟩)
  go_ret
  exact ⟨rfl, rfl⟩
set_option maxHeartbeats 400000 in
theorem spec_l11One_calls (a : Int) (w : World) : Calls Try.prog 54 #[.int .i64 a] w fun e w' => e = .returned (.bool (inR a 1 999999)) ∧ w' = w := by
  go_enter Try.func54, Try.ntmps54
  go_wp2_with (go_at_call 42; refine (spec_l1In_calls _ _ _ _).mono ?_; rintro e w1 ⟨rfl, rfl⟩)
  go_ret
  exact ⟨rfl, rfl⟩
set_option maxHeartbeats 800000 in
theorem spec_IsWire_calls (us : List Value) (x : GWire) (w : World) (hr : RdLW w (eWire x) us) :
    Calls Try.prog 11 #[.agg us.toArray] w fun e w' => e = .returned (.bool (isWireB x)) ∧ Below w.heap.size w w' := by
  obtain rfl := rd_eWire hr
  obtain ⟨k, n⟩ := x
  clear hr
  dsimp only
  have HB := Lib.hid ((Below.refl w.heap.size w).alloc (Nat.le_refl _) (.cells #[.int .i64 k, .int .i64 n] 25))
  by_cases h0 : k = 0
  · subst h0
    go_enter Try.func11, Try.ntmps11
    go_wp2_with (go_at_call 42; refine (spec_l1In_calls _ _ _ _).mono ?_; rintro e w1 ⟨rfl, rfl⟩)
    go_ret
    exact ⟨rfl, HB.out⟩
  by_cases h1 : k = 1
  · subst h1
    go_enter Try.func11, Try.ntmps11
    go_wp2_with (go_at_call 42; refine (spec_l1In_calls _ _ _ _).mono ?_; rintro e w1 ⟨rfl, rfl⟩)
    go_ret
    exact ⟨rfl, HB.out⟩
  by_cases h2 : k = 2
  · subst h2
    go_enter Try.func11, Try.ntmps11
    go_wp2_with (go_at_call 42; refine (spec_l1In_calls _ _ _ _).mono ?_; rintro e w1 ⟨rfl, rfl⟩)
    go_ret
    exact ⟨rfl, HB.out⟩
  by_cases h3 : k = 3
  · subst h3
    by_cases hn : n = 0
    · subst hn
      go_enter Try.func11, Try.ntmps11
      go_wp2
      go_ret
      exact ⟨rfl, HB.out⟩
    · have HE : Hid (isWireB ⟨3, n⟩ = false) := by unfold Hid isWireB; simp [hn]
      have hnb : (n == 0) = false := by simpa using hn
      go_enter Try.func11, Try.ntmps11
      go_wp2
      go_ret
      exact ⟨by rw [HE.out]; rfl, HB.out⟩
  · have HE : Hid (isWireB ⟨k, n⟩ = false) := by unfold Hid isWireB; simp [h0, h1, h2, h3]
    go_enter Try.func11, Try.ntmps11
    go_wp2
    go_ret
    exact ⟨by rw [HE.out]; rfl, HB.out⟩
set_option maxHeartbeats 800000 in
theorem impl_isWire_calls (us : List Value) (x : GWire) (w : World) (hr : RdLW w (eWire x) us) :
    Calls Try.prog 43 #[.agg us.toArray] w fun e w' => e = .returned (.bool (isWireB x)) ∧ Below w.heap.size w w' := by
  obtain rfl := rd_eWire hr
  obtain ⟨k, n⟩ := x
  clear hr
  dsimp only
  have HB := Lib.hid ((Below.refl w.heap.size w).alloc (Nat.le_refl _) (.cells #[.int .i64 k, .int .i64 n] 25))
  by_cases h0 : k = 0
  · subst h0
    go_enter Try.func43, Try.ntmps43
    go_wp2_with (go_at_call 60; refine (impl_in_calls _ _ _ _).mono ?_; rintro e w1 ⟨rfl, rfl⟩)
    go_ret
    exact ⟨rfl, HB.out⟩
  by_cases h1 : k = 1
  · subst h1
    go_enter Try.func43, Try.ntmps43
    go_wp2_with (go_at_call 74; refine (impl_named_calls _ _).mono ?_; rintro e w1 ⟨rfl, rfl⟩)
    go_ret
    exact ⟨rfl, HB.out⟩
  by_cases h2 : k = 2
  · subst h2
    go_enter Try.func43, Try.ntmps43
    go_wp2_with (go_at_call 74; refine (impl_named_calls _ _).mono ?_; rintro e w1 ⟨rfl, rfl⟩)
    go_ret
    exact ⟨rfl, HB.out⟩
  by_cases h3 : k = 3
  · subst h3
    by_cases hn : n = 0
    · subst hn
      go_enter Try.func43, Try.ntmps43
      go_wp2
      go_ret
      exact ⟨rfl, HB.out⟩
    · have HE : Hid (isWireB ⟨3, n⟩ = false) := by unfold Hid isWireB; simp [hn]
      have hnb : (n == 0) = false := by simpa using hn
      go_enter Try.func43, Try.ntmps43
      go_wp2
      go_ret
      exact ⟨by rw [HE.out]; rfl, HB.out⟩
  · have HE : Hid (isWireB ⟨k, n⟩ = false) := by unfold Hid isWireB; simp [h0, h1, h2, h3]
    go_enter Try.func43, Try.ntmps43
    go_wp2
    go_ret
    exact ⟨by rw [HE.out]; rfl, HB.out⟩
set_option maxHeartbeats 400000 in
theorem impl_IsWire_calls (us : List Value) (x : GWire) (w : World) (hr : RdLW w (eWire x) us) :
    Calls Try.prog 13 #[.agg us.toArray] w fun e w' => e = .returned (.bool (isWireB x)) ∧ Below w.heap.size w w' := by
  have hcon := Lib.hid (impl_isWire_calls us x (w.alloc (.cells us.toArray 25)) (hr.below ((Below.refl _ _).alloc (Nat.le_refl _) _)))
  obtain rfl := rd_eWire hr
  clear hr
  go_enter Try.func13, Try.ntmps13
  go_wp2_with (go_at_call 43; refine hcon.out.mono ?_; rintro e w1 ⟨rfl, hb1⟩)
  go_ret
  exact ⟨rfl, ((Below.refl _ _).alloc (Nat.le_refl _) _).trans (hb1.mono (by simp only [size_alloc]; omega))⟩
set_option maxHeartbeats 800000 in
theorem impl_EqualMessages_calls (us : List Value) (x : GMessage) (us' : List Value) (y : GMessage) (w : World) (hr : RdLW w (eMessage x) us) (hr' : RdLW w (eMessage y) us') (hz : sizL (eMessage x) ≤ 1048576) (hz' : sizL (eMessage y) ≤ 1048576) :
    Calls Try.prog 17 #[.agg us.toArray, .agg us'.toArray] w fun e w' => e = .returned (.bool (sameMessage x y)) ∧ Below w.heap.size w w' := by
  have hcon := Lib.hid (impl_equalMessage_calls us x us' y ((w.alloc (.cells us.toArray 38)).alloc (.cells us'.toArray 38)) (hr.below (((Below.refl _ _).alloc (Nat.le_refl _) _).alloc (by simp) _)) (hr'.below (((Below.refl _ _).alloc (Nat.le_refl _) _).alloc (by simp) _)))
  obtain ⟨v5, rfl, h5⟩ := rd_eMessage hr
  obtain ⟨u5, rfl, g5⟩ := rd_eMessage hr'
  obtain ⟨A5, c5, rfl, -⟩ := h5.slice
  obtain ⟨A5', c5', rfl, -⟩ := g5.slice
  clear hr hr' h5 g5
  go_enter Try.func17, Try.ntmps17
  go_wp2_with (go_at_call 47; refine hcon.out.mono ?_; rintro e w1 ⟨rfl, hb1⟩)
  go_ret
  exact ⟨rfl, (((Below.refl _ _).alloc (Nat.le_refl _) _).alloc (by simp) _).trans (hb1.mono (by simp only [size_alloc]; omega))⟩
set_option maxHeartbeats 400000 in
theorem spec_CountFlight_calls (v : Value) (xs : List GChannel) (w : World) (hr : RdW w (.s xs.length (xs.flatMap eChannel)) v) (hz : xs.length + sizL (xs.flatMap eChannel) ≤ 1048576) :
    Calls Try.prog 20 #[v] w fun e w' => e = .returned (.int .i64 (countFlight xs)) ∧ Below w.heap.size w w' := by
  obtain ⟨A, c, rfl, ⟨_, _, hl⟩⟩ := hr.slice
  have HR := Lib.hid hr
  clear hr
  go_enter Try.func20, Try.ntmps20
  go_wp2
  go_loop [3, 4] (fun a b => ∃ i n : Nat, i ≤ xs.length ∧ a = .int .i64 n ∧ b = .int .i64 i ∧ n ≤ 1048576 ∧ Hid (n = flightN xs i)) (fun a b => xs.length - (intOf b).toNat)
  case atStart => exact ⟨0, 0, by omega, rfl, rfl, by omega, (flightN_zero xs).symm⟩
  case round =>
    obtain ⟨i, n, hi, rfl, rfl, hn, hno⟩ := hrel
    by_cases hlt : i < xs.length
    · obtain ⟨x, hx⟩ : ∃ x, xs[i]? = some x := ⟨xs[i], List.getElem?_eq_getElem hlt⟩
      obtain ⟨ad, v2, rfl, _, h0, h1, h2, h3⟩ := row_eChannel HR.out hx
      obtain ⟨A2, c2, rfl, -⟩ := h3.slice
      have hst := flightN_step hx
      have hb := flightN_le xs (i + 1)
      have hxn : x.List.length + n ≤ 1048576 := by have := hno.out; omega
      have HN : Hid (n + x.List.length = flightN xs (i + 1)) := by unfold Hid; rw [hst, hno.out]
      clear hst hb hx h3
      go_wp2
      go_round
      case rel => exact ⟨i + 1, n + x.List.length, by omega, by go_num, by go_num, by omega, HN⟩
      case measure => simp [intOf]; omega
    · have : i = xs.length := by omega
      subst this
      go_wp2
      go_ret
      exact ⟨by rw [countFlight, ← hno.out]; rfl, Below.refl _ _⟩
set_option maxHeartbeats 400000 in
theorem impl_CountFlight_calls (v : Value) (xs : List GChannel) (w : World) (hr : RdW w (.s xs.length (xs.flatMap eChannel)) v) (hz : xs.length + sizL (xs.flatMap eChannel) ≤ 1048576) :
    Calls Try.prog 22 #[v] w fun e w' => e = .returned (.int .i64 (countFlight xs)) ∧ Below w.heap.size w w' := by
  obtain ⟨A, c, rfl, ⟨_, _, hl⟩⟩ := hr.slice
  have HR := Lib.hid hr
  clear hr
  go_enter Try.func22, Try.ntmps22
  go_wp2
  go_loopw [3, 8] (fun a b wr => ∃ i n : Nat, i ≤ xs.length ∧ a = .int .i64 n ∧ b = .int .i64 i ∧ n ≤ 1048576 ∧ Hid (Below w.heap.size w wr) ∧ Hid (n = flightN xs i)) (fun a b wr => xs.length - (intOf b).toNat)
  case atStart => exact ⟨0, 0, by omega, rfl, rfl, by omega, Below.refl _ _, (flightN_zero xs).symm⟩
  case round =>
    obtain ⟨i, n, hi, rfl, rfl, hn, HB, hno⟩ := hrel
    by_cases hlt : i < xs.length
    · obtain ⟨x, hx⟩ : ∃ x, xs[i]? = some x := ⟨xs[i], List.getElem?_eq_getElem hlt⟩
      obtain ⟨ad, v2, rfl, hab, h0, h1, h2, h3⟩ := row_eChannel (HR.out.below HB.out) hx
      obtain ⟨A2, c2, rfl, -⟩ := h3.slice
      have hst := flightN_step hx
      have hb := flightN_le xs (i + 1)
      have hxn : x.List.length + n ≤ 1048576 := by have := hno.out; omega
      have HN : Hid (n + x.List.length = flightN xs (i + 1)) := by unfold Hid; rw [hst, hno.out]
      clear hst hb hx h3
      go_wp2
      go_roundw
      case rel => exact ⟨i + 1, n + x.List.length, by omega, by go_num, by go_num, by omega, HB.out.alloc HB.out.size _, HN⟩
      case measure => simp [intOf]; omega
    · have : i = xs.length := by omega
      subst this
      go_wp2
      go_ret
      exact ⟨by rw [countFlight, ← hno.out]; rfl, HB.out⟩

end Go.Proofs.Ytkgnkekbcblnlaa
