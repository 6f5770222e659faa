import Derived.Test.YtklbpjnpmbidiaaProg
import Derived.Test.YtklbpjnpmbidiaaTypes
import Derived.StillTailTactics
import Derived.Deep.RegionHeld3
import Derived.Laws.IdiomStrings
import Derived.Test.YtklbpjnpmbidiaaAppend
import Derived.Laws.StructEq
import Derived.Lib.SliceRun
import Derived.Shelf.RegionOpenPlain
namespace Go.Proofs.Ytklbpjnpmbidiaa
open Go.RowKit
set_option linter.unusedVariables false
set_option linter.unusedSimpArgs false

theorem run_eql_Wire (x y : GWire) (w : World) : Sem.run Try.prog (binOp .eql 25 (.agg #[.int .i64 x.Kind, .int .i64 x.N]) (.agg #[.int .i64 y.Kind, .int .i64 y.N])) w = .ok (.bool (eqbWire x y)) w := by
  have hS25 : Try.prog.underlying 25 = some (.struct (Try.prog.fieldsOf 25)) := by kernel_rfl
  have hp25 : Try.prog.stoodInHeld 25 = false := by kernel_rfl
  have u3 := Try.underlying3
  rw [run_eql_struct, show (10000 : Nat) = 9999 + 1 from rfl, run_equalIn_struct w 9999 25 _ _ hS25 hp25]
  simp only [Program.fieldsOf, Try.underlying25]
  go_simp
  unfold eqbWire
  repeat' split
  all_goals simp_all
theorem run_neq_Wire (x y : GWire) (w : World) : Sem.run Try.prog (binOp .neq 25 (.agg #[.int .i64 x.Kind, .int .i64 x.N]) (.agg #[.int .i64 y.Kind, .int .i64 y.N])) w = .ok (.bool (!eqbWire x y)) w := by
  have hS25 : Try.prog.underlying 25 = some (.struct (Try.prog.fieldsOf 25)) := by kernel_rfl
  have hp25 : Try.prog.stoodInHeld 25 = false := by kernel_rfl
  have u3 := Try.underlying3
  rw [run_neq_struct, show (10000 : Nat) = 9999 + 1 from rfl, run_equalIn_struct w 9999 25 _ _ hS25 hp25]
  simp only [Program.fieldsOf, Try.underlying25]
  go_simp
  unfold eqbWire
  repeat' split
  all_goals simp_all

theorem run_eql_Tag (x y : GTag) (w : World) : Sem.run Try.prog (binOp .eql 27 (.agg #[.int .i64 x.Vat, .int .i64 x.Entity, .int .i64 x.Seq]) (.agg #[.int .i64 y.Vat, .int .i64 y.Entity, .int .i64 y.Seq])) w = .ok (.bool (eqbTag x y)) w := by
  have hS27 : Try.prog.underlying 27 = some (.struct (Try.prog.fieldsOf 27)) := by kernel_rfl
  have hp27 : Try.prog.stoodInHeld 27 = false := by kernel_rfl
  have u3 := Try.underlying3
  rw [run_eql_struct, show (10000 : Nat) = 9999 + 1 from rfl, run_equalIn_struct w 9999 27 _ _ hS27 hp27]
  simp only [Program.fieldsOf, Try.underlying27]
  go_simp
  unfold eqbTag
  repeat' split
  all_goals simp_all
theorem run_neq_Tag (x y : GTag) (w : World) : Sem.run Try.prog (binOp .neq 27 (.agg #[.int .i64 x.Vat, .int .i64 x.Entity, .int .i64 x.Seq]) (.agg #[.int .i64 y.Vat, .int .i64 y.Entity, .int .i64 y.Seq])) w = .ok (.bool (!eqbTag x y)) w := by
  have hS27 : Try.prog.underlying 27 = some (.struct (Try.prog.fieldsOf 27)) := by kernel_rfl
  have hp27 : Try.prog.stoodInHeld 27 = false := by kernel_rfl
  have u3 := Try.underlying3
  rw [run_neq_struct, show (10000 : Nat) = 9999 + 1 from rfl, run_equalIn_struct w 9999 27 _ _ hS27 hp27]
  simp only [Program.fieldsOf, Try.underlying27]
  go_simp
  unfold eqbTag
  repeat' split
  all_goals simp_all

set_option maxHeartbeats 800000 in
set_option maxRecDepth 100000 in
theorem slices_Equal_Wire_calls (v v' : Value) (xs ys : List GWire) (w : World) (hr : RdW w (.s xs.length (xs.flatMap eWire)) v) (hr' : RdW w (.s ys.length (ys.flatMap eWire)) v') :
    Calls Try.prog 61 #[v, v'] w fun e w' => e = .returned (.bool (sameL eqbWire xs ys)) ∧ Below w.heap.size w w' := by
  obtain ⟨A, c, rfl, ⟨_, _, hl⟩⟩ := hr.slice
  obtain ⟨A', c', rfl, ⟨_, _, hl'⟩⟩ := hr'.slice
  have HR := Lib.hid hr
  have HR' := Lib.hid hr'
  clear hr hr'
  have hneq := run_neq_Wire
  by_cases hln : xs.length = ys.length
  · have hlb : ((xs.length : Int) != (ys.length : Int)) = false := by rw [hln]; simp
    go_enter Try.func61, Try.ntmps61
    go_wp2
    go_loopw [13] (fun a wr => ∃ i : Nat, i ≤ xs.length ∧ a = .int .i64 i ∧ Hid (Below w.heap.size w wr) ∧ Hid (∀ (j : Nat) a b, j < i → xs[j]? = some a → ys[j]? = some b → eqbWire a b = true)) (fun a wr => xs.length - (intOf a).toNat)
    case atStart => exact ⟨0, by omega, rfl, Below.refl _ _, fun j a b h => absurd h (Nat.not_lt_zero _)⟩
    case round =>
      obtain ⟨i, hi, rfl, HB, hno⟩ := hrel
      by_cases hlt : i < xs.length
      · obtain ⟨x, hx⟩ : ∃ x, xs[i]? = some x := ⟨xs[i], List.getElem?_eq_getElem hlt⟩
        obtain ⟨y, hy⟩ : ∃ y, ys[i]? = some y := ⟨ys[i], List.getElem?_eq_getElem (by omega)⟩
        obtain ⟨ad, rfl, _, h0, h1⟩ := row_eWire (HR.out.below HB.out) hx
        obtain ⟨ad', rfl, _, h0', h1'⟩ := row_eWire (HR'.out.below HB.out) hy
        have HX := Lib.hid hx
        have HY := Lib.hid hy
        clear hx hy
        cases he : eqbWire x y with
        | false =>
          have HE := Lib.hid (sameL_at (eq := eqbWire) HX.out HY.out he)
          go_wp2
          go_quiet (fail)
          go_wp2
          go_ret
          exact ⟨by rw [HE.out]; rfl, belowN HB.out _⟩
        | true =>
          have HN := Lib.hid (step_eq (eq := eqbWire) hno.out HX.out HY.out he)
          go_wp2
          go_quiet (fail)
          go_wp2
          go_roundw
          case rel => exact ⟨i + 1, by omega, by go_num, belowN HB.out _, HN⟩
          case measure => simp [intOf]; omega
      · have HE := Lib.hid (sameL_all (eq := eqbWire) hln (fun i a b ha hb => hno.out i a b (by have := (List.getElem?_eq_some_iff.1 ha).1; omega) ha hb))
        go_wp2
        go_ret
        exact ⟨by rw [HE.out]; rfl, HB.out⟩
  · have HE := Lib.hid (sameL_len (eq := eqbWire) hln)
    have hlb : ((xs.length : Int) != (ys.length : Int)) = true := by simp; omega
    have hlc : (xs.length == ys.length) = false := by simp; omega
    go_enter Try.func61, Try.ntmps61
    go_wp2
    go_ret
    exact ⟨by rw [HE.out]; rfl, Below.refl _ _⟩

end Go.Proofs.Ytklbpjnpmbidiaa
