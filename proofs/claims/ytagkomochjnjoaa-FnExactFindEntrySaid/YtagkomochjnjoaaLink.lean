import Derived.Test.YtagkomochjnjoaaProg
import Derived.Test.YtagkomochjnjoaaTypes
import Derived.StillTailTactics
import Derived.Test.YtagkomochjnjoaaHelp
import Derived.Test.YtagkomochjnjoaaPureLink
namespace Go.Proofs.Ytagkomochjnjoaa
open Go.RowKit
set_option linter.unusedVariables false
set_option linter.unusedSimpArgs false

set_option maxHeartbeats 400000 in
theorem spec_FindEntry_calls (v : Value) (xs : List GQuestion) (id : Int) (w : World) (hr : RdW w (.s xs.length (xs.flatMap eQuestion)) v) (hz : xs.length + sizL (xs.flatMap eQuestion) ≤ 1048576) (hi : I64 id) :
    Calls Try.prog 24 #[v, .int .i64 id] w fun e w' => e = .returned (.int .i64 (findEntry xs id)) ∧ Below w.heap.size w w' := by
  obtain ⟨A, c, rfl, ⟨_, _, hl⟩⟩ := hr.slice
  have HR := Lib.hid hr
  clear hr
  go_enter Try.func24, Try.ntmps24
  go_wp2
  go_loop [5] (fun a => ∃ i : Nat, i ≤ xs.length ∧ a = .int .i64 i ∧ Hid (∀ j y, j < i → xs[j]? = some y → y.Id ≠ id)) (fun a => xs.length - (intOf a).toNat)
  case atStart => exact ⟨0, by omega, rfl, fun j y h => absurd h (by omega)⟩
  case round =>
    obtain ⟨i, hi, rfl, hno⟩ := hrel
    by_cases hlt : i < xs.length
    · obtain ⟨x, hx⟩ : ∃ x, xs[i]? = some x := ⟨xs[i], List.getElem?_eq_getElem hlt⟩
      obtain ⟨ad, rfl, _, h0, h1⟩ := row_eQuestion HR.out hx
      have HX := Lib.hid hx
      clear hx
      by_cases he : x.Id = id
      · have HE := Lib.hid (findEntry_hit xs id i x HX.out he hno)
        go_wp2
        go_ret
        exact ⟨by rw [HE.out]; rfl, Below.refl _ _⟩
      · have HN : Hid (∀ j y, j < i + 1 → xs[j]? = some y → y.Id ≠ id) := step_no (p := fun y : GQuestion => y.Id ≠ id) hno HX.out he
        go_wp2
        go_round
        case rel => exact ⟨i + 1, by omega, by go_num, HN⟩
        case measure => simp [intOf]; omega
    · have HE := Lib.hid (findEntry_miss xs id (fun y hy => by obtain ⟨j, hj⟩ := List.getElem?_of_mem hy; exact hno j y (by have := (List.getElem?_eq_some_iff.1 hj).1; omega) hj))
      go_wp2
      go_ret
      exact ⟨by rw [HE.out]; rfl, Below.refl _ _⟩
set_option maxHeartbeats 400000 in
theorem impl_FindEntry_calls (v : Value) (xs : List GQuestion) (id : Int) (w : World) (hr : RdW w (.s xs.length (xs.flatMap eQuestion)) v) (hz : xs.length + sizL (xs.flatMap eQuestion) ≤ 1048576) (hi : I64 id) :
    Calls Try.prog 26 #[v, .int .i64 id] w fun e w' => e = .returned (.int .i64 (findEntry xs id)) ∧ Below w.heap.size w w' := by
  obtain ⟨A, c, rfl, ⟨_, _, hl⟩⟩ := hr.slice
  have HR := Lib.hid hr
  clear hr
  go_enter Try.func26, Try.ntmps26
  go_wp2
  go_loopw [9] (fun a wr => ∃ i : Nat, i ≤ xs.length ∧ a = .int .i64 i ∧ Hid (Below w.heap.size w wr) ∧ Hid (∀ j y, j < i → xs[j]? = some y → y.Id ≠ id)) (fun a wr => xs.length - (intOf a).toNat)
  case atStart => exact ⟨0, by omega, rfl, Below.refl _ _, fun j y h => absurd h (by omega)⟩
  case round =>
    obtain ⟨i, hi, rfl, HB, hno⟩ := hrel
    by_cases hlt : i < xs.length
    · obtain ⟨x, hx⟩ : ∃ x, xs[i]? = some x := ⟨xs[i], List.getElem?_eq_getElem hlt⟩
      obtain ⟨ad, rfl, hadb, h0, h1⟩ := row_eQuestion (HR.out.below HB.out) hx
      have HX := Lib.hid hx
      clear hx
      by_cases he : x.Id = id
      · have HE := Lib.hid (findEntry_hit xs id i x HX.out he hno)
        go_wp2
        go_ret
        exact ⟨by rw [HE.out]; rfl, HB.out.alloc HB.out.size _⟩
      · have HN : Hid (∀ j y, j < i + 1 → xs[j]? = some y → y.Id ≠ id) := step_no (p := fun y : GQuestion => y.Id ≠ id) hno HX.out he
        go_wp2
        go_roundw
        case rel => exact ⟨i + 1, by omega, by go_num, HB.out.alloc HB.out.size _, HN⟩
        case measure => simp [intOf]; omega
    · have HE := Lib.hid (findEntry_miss xs id (fun y hy => by obtain ⟨j, hj⟩ := List.getElem?_of_mem hy; exact hno j y (by have := (List.getElem?_eq_some_iff.1 hj).1; omega) hj))
      go_wp2
      go_ret
      exact ⟨by rw [HE.out]; rfl, HB.out⟩

end Go.Proofs.Ytagkomochjnjoaa
