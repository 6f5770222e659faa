import Derived.Test.YtmnpoajdibmocaaGreatProg
import Derived.Test.YtmnpoajdibmocaaGreatTypes
import Derived.StillTailTactics
import Derived.Deep.RegionHeld3
import Derived.Laws.IdiomStrings
import Derived.Test.YtmnpoajdibmocaaGreatAppend
import Derived.Laws.StructEq
import Derived.Lib.SliceRun
import Derived.Shelf.RegionOpenPlain
namespace Go.Proofs.YtmnpoajdibmocaaGreat
open Go.RowKit
set_option linter.unusedVariables false
set_option linter.unusedSimpArgs false

theorem run_eql_Value (x y : GValue) (w : World) : Sem.run Tryz.prog (binOp .eql 53 (.agg #[.int .i64 x.Kind, .int .i64 x.N]) (.agg #[.int .i64 y.Kind, .int .i64 y.N])) w = .ok (.bool (eqbValue x y)) w := by
  have hS53 : Tryz.prog.underlying 53 = some (.struct (Tryz.prog.fieldsOf 53)) := by kernel_rfl
  have hp53 : Tryz.prog.stoodInHeld 53 = false := by kernel_rfl
  have u3 := Tryz.underlying3
  rw [run_eql_struct, show (10000 : Nat) = 9999 + 1 from rfl, run_equalIn_struct w 9999 53 _ _ hS53 hp53]
  simp only [Program.fieldsOf, Tryz.underlying53]
  go_simp
  unfold eqbValue
  repeat' split
  all_goals simp_all
theorem run_neq_Value (x y : GValue) (w : World) : Sem.run Tryz.prog (binOp .neq 53 (.agg #[.int .i64 x.Kind, .int .i64 x.N]) (.agg #[.int .i64 y.Kind, .int .i64 y.N])) w = .ok (.bool (!eqbValue x y)) w := by
  have hS53 : Tryz.prog.underlying 53 = some (.struct (Tryz.prog.fieldsOf 53)) := by kernel_rfl
  have hp53 : Tryz.prog.stoodInHeld 53 = false := by kernel_rfl
  have u3 := Tryz.underlying3
  rw [run_neq_struct, show (10000 : Nat) = 9999 + 1 from rfl, run_equalIn_struct w 9999 53 _ _ hS53 hp53]
  simp only [Program.fieldsOf, Tryz.underlying53]
  go_simp
  unfold eqbValue
  repeat' split
  all_goals simp_all

set_option maxHeartbeats 800000 in
set_option maxRecDepth 100000 in
theorem slices_IndexFunc_Link (p : GLink → Bool) (g : Nat) (lb : Array Value) (eg : ∀ args w, (callFunc g args).run Tryz.prog w = .ok (.enter g args) w) (v : Value) (xs : List GLink) (w : World) (hr : RdW w (.s xs.length (xs.flatMap eLink)) v)
    (hp : ∀ (W : World) (x : GLink) (us : List Value), Below w.heap.size w W → x ∈ xs → RdLW W (eLink x) us → Calls Tryz.prog g (#[.agg us.toArray] ++ lb) W fun e w' => e = .returned (.bool (p x)) ∧ Below W.heap.size W w') :
    Calls Tryz.prog 48 #[v, .func (.func g) #[] lb] w fun e w' => e = .returned (.int .i64 (idx p xs)) ∧ Below w.heap.size w w' := by
  obtain ⟨A, c, rfl, ⟨_, _, hl⟩⟩ := hr.slice
  have HR := Lib.hid hr
  have HP := Lib.hid hp
  clear hr hp
  go_enter Tryz.func48, Tryz.ntmps48
  go_wp2
  go_loopw [8] (fun a wr => ∃ i : Nat, i ≤ xs.length ∧ a = .int .i64 i ∧ Hid (Below w.heap.size w wr) ∧ Hid (∀ j y, j < i → xs[j]? = some y → p y = false)) (fun a wr => xs.length - (intOf a).toNat)
  case atStart => exact ⟨0, by omega, rfl, Below.refl _ _, no_start⟩
  case round =>
    obtain ⟨i, hi, rfl, HB, hno⟩ := hrel
    by_cases hlt : i < xs.length
    · obtain ⟨x, hx⟩ : ∃ x, xs[i]? = some x := ⟨xs[i], List.getElem?_eq_getElem hlt⟩
      obtain ⟨ad, v2, v4, v6, rfl, hadb, h0, h1, h2, h3, h4, h5, h6, k2, k4, k6⟩ := row_eLink (HR.out.below HB.out) hx
      have hcall := HP.out wr x _ HB.out (List.mem_of_getElem? hx) (mkrd_eLink (x := x) k2 k4 k6)
      have HX := Lib.hid hx
      clear hx k2 k4 k6
      cases hq : p x with
      | true =>
        rw [hq] at hcall
        have HE := Lib.hid (idx_hit HX.out hq hno.out)
        go_wp2_with (go_at_fn g; refine hcall.mono ?_; rintro e w' ⟨rfl, hb'⟩)
        go_ret
        exact ⟨by rw [HE.out]; rfl, HB.out.trans (hb'.mono HB.out.size)⟩
      | false =>
        rw [hq] at hcall
        have HN := Lib.hid (step_no (p := fun y => p y = false) hno.out HX.out hq)
        go_wp2_with (go_at_fn g; refine hcall.mono ?_; rintro e w' ⟨rfl, hb'⟩)
        go_roundw
        case rel => exact ⟨i + 1, by omega, by go_num, HB.out.trans (hb'.mono HB.out.size), HN⟩
        case measure => simp [intOf]; omega
    · have : i = xs.length := by omega
      subst this
      have HE := Lib.hid (idx_miss (all_of (p := fun y => p y = false) hno.out))
      go_wp2
      go_ret
      exact ⟨by rw [HE.out]; rfl, HB.out⟩

end Go.Proofs.YtmnpoajdibmocaaGreat
