import Derived.Test.YtapbejepffpckaaProg
import Derived.Test.YtapbejepffpckaaTypes
import Derived.StillTailTactics
import Derived.Deep.RegionHeld3
import Derived.Laws.IdiomStrings
import Derived.Test.YtapbejepffpckaaAppend
import Derived.Laws.StructEq
import Derived.Lib.SliceRun
import Derived.Shelf.RegionOpenPlain
import Derived.Test.YtapbejepffpckaaSlices
namespace Go.Proofs.Ytapbejepffpckaa
open Go.RowKit
set_option linter.unusedVariables false
set_option linter.unusedSimpArgs false

theorem run_eql_Asker (x y : GAsker) (w : World) : Sem.run Try.prog (binOp .eql 144 (.agg #[.int .i64 x.Peer, .int .i64 x.Question]) (.agg #[.int .i64 y.Peer, .int .i64 y.Question])) w = .ok (.bool (eqbAsker x y)) w := by
  have hS144 : Try.prog.underlying 144 = some (.struct (Try.prog.fieldsOf 144)) := by kernel_rfl
  have hp144 : Try.prog.stoodInHeld 144 = false := by kernel_rfl
  have u3 := Try.underlying3
  rw [run_eql_struct, show (10000 : Nat) = 9999 + 1 from rfl, run_equalIn_struct w 9999 144 _ _ hS144 hp144]
  simp only [Program.fieldsOf, Try.underlying144]
  go_simp
  unfold eqbAsker
  repeat' split
  all_goals simp_all
theorem run_neq_Asker (x y : GAsker) (w : World) : Sem.run Try.prog (binOp .neq 144 (.agg #[.int .i64 x.Peer, .int .i64 x.Question]) (.agg #[.int .i64 y.Peer, .int .i64 y.Question])) w = .ok (.bool (!eqbAsker x y)) w := by
  have hS144 : Try.prog.underlying 144 = some (.struct (Try.prog.fieldsOf 144)) := by kernel_rfl
  have hp144 : Try.prog.stoodInHeld 144 = false := by kernel_rfl
  have u3 := Try.underlying3
  rw [run_neq_struct, show (10000 : Nat) = 9999 + 1 from rfl, run_equalIn_struct w 9999 144 _ _ hS144 hp144]
  simp only [Program.fieldsOf, Try.underlying144]
  go_simp
  unfold eqbAsker
  repeat' split
  all_goals simp_all

theorem run_eql_Tag (x y : GTag) (w : World) : Sem.run Try.prog (binOp .eql 93 (.agg #[.int .i64 x.Vat, .int .i64 x.Entity, .int .i64 x.Seq]) (.agg #[.int .i64 y.Vat, .int .i64 y.Entity, .int .i64 y.Seq])) w = .ok (.bool (eqbTag x y)) w := by
  have hS93 : Try.prog.underlying 93 = some (.struct (Try.prog.fieldsOf 93)) := by kernel_rfl
  have hp93 : Try.prog.stoodInHeld 93 = false := by kernel_rfl
  have u3 := Try.underlying3
  rw [run_eql_struct, show (10000 : Nat) = 9999 + 1 from rfl, run_equalIn_struct w 9999 93 _ _ hS93 hp93]
  simp only [Program.fieldsOf, Try.underlying93]
  go_simp
  unfold eqbTag
  repeat' split
  all_goals simp_all
theorem run_neq_Tag (x y : GTag) (w : World) : Sem.run Try.prog (binOp .neq 93 (.agg #[.int .i64 x.Vat, .int .i64 x.Entity, .int .i64 x.Seq]) (.agg #[.int .i64 y.Vat, .int .i64 y.Entity, .int .i64 y.Seq])) w = .ok (.bool (!eqbTag x y)) w := by
  have hS93 : Try.prog.underlying 93 = some (.struct (Try.prog.fieldsOf 93)) := by kernel_rfl
  have hp93 : Try.prog.stoodInHeld 93 = false := by kernel_rfl
  have u3 := Try.underlying3
  rw [run_neq_struct, show (10000 : Nat) = 9999 + 1 from rfl, run_equalIn_struct w 9999 93 _ _ hS93 hp93]
  simp only [Program.fieldsOf, Try.underlying93]
  go_simp
  unfold eqbTag
  repeat' split
  all_goals simp_all

theorem run_eql_Export (x y : GExport) (w : World) : Sem.run Try.prog (binOp .eql 146 (.agg #[.int .i64 x.Pos, .int .i64 x.Entity, .int .i64 x.Count]) (.agg #[.int .i64 y.Pos, .int .i64 y.Entity, .int .i64 y.Count])) w = .ok (.bool (eqbExport x y)) w := by
  have hS146 : Try.prog.underlying 146 = some (.struct (Try.prog.fieldsOf 146)) := by kernel_rfl
  have hp146 : Try.prog.stoodInHeld 146 = false := by kernel_rfl
  have u3 := Try.underlying3
  rw [run_eql_struct, show (10000 : Nat) = 9999 + 1 from rfl, run_equalIn_struct w 9999 146 _ _ hS146 hp146]
  simp only [Program.fieldsOf, Try.underlying146]
  go_simp
  unfold eqbExport
  repeat' split
  all_goals simp_all
theorem run_neq_Export (x y : GExport) (w : World) : Sem.run Try.prog (binOp .neq 146 (.agg #[.int .i64 x.Pos, .int .i64 x.Entity, .int .i64 x.Count]) (.agg #[.int .i64 y.Pos, .int .i64 y.Entity, .int .i64 y.Count])) w = .ok (.bool (!eqbExport x y)) w := by
  have hS146 : Try.prog.underlying 146 = some (.struct (Try.prog.fieldsOf 146)) := by kernel_rfl
  have hp146 : Try.prog.stoodInHeld 146 = false := by kernel_rfl
  have u3 := Try.underlying3
  rw [run_neq_struct, show (10000 : Nat) = 9999 + 1 from rfl, run_equalIn_struct w 9999 146 _ _ hS146 hp146]
  simp only [Program.fieldsOf, Try.underlying146]
  go_simp
  unfold eqbExport
  repeat' split
  all_goals simp_all

theorem run_eql_Question (x y : GQuestion) (w : World) : Sem.run Try.prog (binOp .eql 111 (.agg #[.int .i64 x.Id, .int .i64 x.Promise]) (.agg #[.int .i64 y.Id, .int .i64 y.Promise])) w = .ok (.bool (eqbQuestion x y)) w := by
  have hS111 : Try.prog.underlying 111 = some (.struct (Try.prog.fieldsOf 111)) := by kernel_rfl
  have hp111 : Try.prog.stoodInHeld 111 = false := by kernel_rfl
  have u3 := Try.underlying3
  rw [run_eql_struct, show (10000 : Nat) = 9999 + 1 from rfl, run_equalIn_struct w 9999 111 _ _ hS111 hp111]
  simp only [Program.fieldsOf, Try.underlying111]
  go_simp
  unfold eqbQuestion
  repeat' split
  all_goals simp_all
theorem run_neq_Question (x y : GQuestion) (w : World) : Sem.run Try.prog (binOp .neq 111 (.agg #[.int .i64 x.Id, .int .i64 x.Promise]) (.agg #[.int .i64 y.Id, .int .i64 y.Promise])) w = .ok (.bool (!eqbQuestion x y)) w := by
  have hS111 : Try.prog.underlying 111 = some (.struct (Try.prog.fieldsOf 111)) := by kernel_rfl
  have hp111 : Try.prog.stoodInHeld 111 = false := by kernel_rfl
  have u3 := Try.underlying3
  rw [run_neq_struct, show (10000 : Nat) = 9999 + 1 from rfl, run_equalIn_struct w 9999 111 _ _ hS111 hp111]
  simp only [Program.fieldsOf, Try.underlying111]
  go_simp
  unfold eqbQuestion
  repeat' split
  all_goals simp_all

theorem run_eql_Wire (x y : GWire) (w : World) : Sem.run Try.prog (binOp .eql 91 (.agg #[.int .i64 x.Kind, .int .i64 x.N]) (.agg #[.int .i64 y.Kind, .int .i64 y.N])) w = .ok (.bool (eqbWire x y)) w := by
  have hS91 : Try.prog.underlying 91 = some (.struct (Try.prog.fieldsOf 91)) := by kernel_rfl
  have hp91 : Try.prog.stoodInHeld 91 = false := by kernel_rfl
  have u3 := Try.underlying3
  rw [run_eql_struct, show (10000 : Nat) = 9999 + 1 from rfl, run_equalIn_struct w 9999 91 _ _ hS91 hp91]
  simp only [Program.fieldsOf, Try.underlying91]
  go_simp
  unfold eqbWire
  repeat' split
  all_goals simp_all
theorem run_neq_Wire (x y : GWire) (w : World) : Sem.run Try.prog (binOp .neq 91 (.agg #[.int .i64 x.Kind, .int .i64 x.N]) (.agg #[.int .i64 y.Kind, .int .i64 y.N])) w = .ok (.bool (!eqbWire x y)) w := by
  have hS91 : Try.prog.underlying 91 = some (.struct (Try.prog.fieldsOf 91)) := by kernel_rfl
  have hp91 : Try.prog.stoodInHeld 91 = false := by kernel_rfl
  have u3 := Try.underlying3
  rw [run_neq_struct, show (10000 : Nat) = 9999 + 1 from rfl, run_equalIn_struct w 9999 91 _ _ hS91 hp91]
  simp only [Program.fieldsOf, Try.underlying91]
  go_simp
  unfold eqbWire
  repeat' split
  all_goals simp_all

set_option maxHeartbeats 800000 in
set_option maxRecDepth 100000 in
theorem slices_Equal_Value_calls (v v' : Value) (xs ys : List GValue) (w : World) (hr : RdW w (.s xs.length (xs.flatMap eValue)) v) (hr' : RdW w (.s ys.length (ys.flatMap eValue)) v') :
    Calls Try.prog 107 #[v, v'] w fun e w' => e = .returned (.bool (sameL eqbValue xs ys)) ∧ Below w.heap.size w w' := by
  obtain ⟨A, c, rfl, ⟨_, _, hl⟩⟩ := hr.slice
  obtain ⟨A', c', rfl, ⟨_, _, hl'⟩⟩ := hr'.slice
  have HR := Lib.hid hr
  have HR' := Lib.hid hr'
  clear hr hr'
  have hneq := run_neq_Value
  by_cases hln : xs.length = ys.length
  · have hlb : ((xs.length : Int) != (ys.length : Int)) = false := by rw [hln]; simp
    go_enter Try.func107, Try.ntmps107
    go_wp2
    go_loopw [13] (fun a wr => ∃ i : Nat, i ≤ xs.length ∧ a = .int .i64 i ∧ Hid (Below w.heap.size w wr) ∧ Hid (∀ (j : Nat) a b, j < i → xs[j]? = some a → ys[j]? = some b → eqbValue a b = true)) (fun a wr => xs.length - (intOf a).toNat)
    case atStart => exact ⟨0, by omega, rfl, Below.refl _ _, fun j a b h => absurd h (Nat.not_lt_zero _)⟩
    case round =>
      obtain ⟨i, hi, rfl, HB, hno⟩ := hrel
      by_cases hlt : i < xs.length
      · obtain ⟨x, hx⟩ : ∃ x, xs[i]? = some x := ⟨xs[i], List.getElem?_eq_getElem hlt⟩
        obtain ⟨y, hy⟩ : ∃ y, ys[i]? = some y := ⟨ys[i], List.getElem?_eq_getElem (by omega)⟩
        obtain ⟨ad, rfl, _, h0, h1⟩ := row_eValue (HR.out.below HB.out) hx
        obtain ⟨ad', rfl, _, h0', h1'⟩ := row_eValue (HR'.out.below HB.out) hy
        have HX := Lib.hid hx
        have HY := Lib.hid hy
        clear hx hy
        cases he : eqbValue x y with
        | false =>
          have HE := Lib.hid (sameL_at (eq := eqbValue) HX.out HY.out he)
          go_wp2
          go_quiet (fail)
          go_wp2
          go_ret
          exact ⟨by rw [HE.out]; rfl, belowN HB.out _⟩
        | true =>
          have HN := Lib.hid (step_eq (eq := eqbValue) hno.out HX.out HY.out he)
          go_wp2
          go_quiet (fail)
          go_wp2
          go_roundw
          case rel => exact ⟨i + 1, by omega, by go_num, belowN HB.out _, HN⟩
          case measure => simp [intOf]; omega
      · have HE := Lib.hid (sameL_all (eq := eqbValue) hln (fun i a b ha hb => hno.out i a b (by have := (List.getElem?_eq_some_iff.1 ha).1; omega) ha hb))
        go_wp2
        go_ret
        exact ⟨by rw [HE.out]; rfl, HB.out⟩
  · have HE := Lib.hid (sameL_len (eq := eqbValue) hln)
    have hlb : ((xs.length : Int) != (ys.length : Int)) = true := by simp; omega
    have hlc : (xs.length == ys.length) = false := by simp; omega
    go_enter Try.func107, Try.ntmps107
    go_wp2
    go_ret
    exact ⟨by rw [HE.out]; rfl, Below.refl _ _⟩

set_option maxHeartbeats 800000 in
set_option maxRecDepth 100000 in
theorem slices_Equal_Asker_calls (v v' : Value) (xs ys : List GAsker) (w : World) (hr : RdW w (.s xs.length (xs.flatMap eAsker)) v) (hr' : RdW w (.s ys.length (ys.flatMap eAsker)) v') :
    Calls Try.prog 108 #[v, v'] w fun e w' => e = .returned (.bool (sameL eqbAsker xs ys)) ∧ Below w.heap.size w w' := by
  obtain ⟨A, c, rfl, ⟨_, _, hl⟩⟩ := hr.slice
  obtain ⟨A', c', rfl, ⟨_, _, hl'⟩⟩ := hr'.slice
  have HR := Lib.hid hr
  have HR' := Lib.hid hr'
  clear hr hr'
  have hneq := run_neq_Asker
  by_cases hln : xs.length = ys.length
  · have hlb : ((xs.length : Int) != (ys.length : Int)) = false := by rw [hln]; simp
    go_enter Try.func108, Try.ntmps108
    go_wp2
    go_loopw [13] (fun a wr => ∃ i : Nat, i ≤ xs.length ∧ a = .int .i64 i ∧ Hid (Below w.heap.size w wr) ∧ Hid (∀ (j : Nat) a b, j < i → xs[j]? = some a → ys[j]? = some b → eqbAsker a b = true)) (fun a wr => xs.length - (intOf a).toNat)
    case atStart => exact ⟨0, by omega, rfl, Below.refl _ _, fun j a b h => absurd h (Nat.not_lt_zero _)⟩
    case round =>
      obtain ⟨i, hi, rfl, HB, hno⟩ := hrel
      by_cases hlt : i < xs.length
      · obtain ⟨x, hx⟩ : ∃ x, xs[i]? = some x := ⟨xs[i], List.getElem?_eq_getElem hlt⟩
        obtain ⟨y, hy⟩ : ∃ y, ys[i]? = some y := ⟨ys[i], List.getElem?_eq_getElem (by omega)⟩
        obtain ⟨ad, rfl, _, h0, h1⟩ := row_eAsker (HR.out.below HB.out) hx
        obtain ⟨ad', rfl, _, h0', h1'⟩ := row_eAsker (HR'.out.below HB.out) hy
        have HX := Lib.hid hx
        have HY := Lib.hid hy
        clear hx hy
        cases he : eqbAsker x y with
        | false =>
          have HE := Lib.hid (sameL_at (eq := eqbAsker) HX.out HY.out he)
          go_wp2
          go_quiet (fail)
          go_wp2
          go_ret
          exact ⟨by rw [HE.out]; rfl, belowN HB.out _⟩
        | true =>
          have HN := Lib.hid (step_eq (eq := eqbAsker) hno.out HX.out HY.out he)
          go_wp2
          go_quiet (fail)
          go_wp2
          go_roundw
          case rel => exact ⟨i + 1, by omega, by go_num, belowN HB.out _, HN⟩
          case measure => simp [intOf]; omega
      · have HE := Lib.hid (sameL_all (eq := eqbAsker) hln (fun i a b ha hb => hno.out i a b (by have := (List.getElem?_eq_some_iff.1 ha).1; omega) ha hb))
        go_wp2
        go_ret
        exact ⟨by rw [HE.out]; rfl, HB.out⟩
  · have HE := Lib.hid (sameL_len (eq := eqbAsker) hln)
    have hlb : ((xs.length : Int) != (ys.length : Int)) = true := by simp; omega
    have hlc : (xs.length == ys.length) = false := by simp; omega
    go_enter Try.func108, Try.ntmps108
    go_wp2
    go_ret
    exact ⟨by rw [HE.out]; rfl, Below.refl _ _⟩

set_option maxHeartbeats 800000 in
set_option maxRecDepth 100000 in
theorem slices_Equal_Export_calls (v v' : Value) (xs ys : List GExport) (w : World) (hr : RdW w (.s xs.length (xs.flatMap eExport)) v) (hr' : RdW w (.s ys.length (ys.flatMap eExport)) v') :
    Calls Try.prog 111 #[v, v'] w fun e w' => e = .returned (.bool (sameL eqbExport xs ys)) ∧ Below w.heap.size w w' := by
  obtain ⟨A, c, rfl, ⟨_, _, hl⟩⟩ := hr.slice
  obtain ⟨A', c', rfl, ⟨_, _, hl'⟩⟩ := hr'.slice
  have HR := Lib.hid hr
  have HR' := Lib.hid hr'
  clear hr hr'
  have hneq := run_neq_Export
  by_cases hln : xs.length = ys.length
  · have hlb : ((xs.length : Int) != (ys.length : Int)) = false := by rw [hln]; simp
    go_enter Try.func111, Try.ntmps111
    go_wp2
    go_loopw [13] (fun a wr => ∃ i : Nat, i ≤ xs.length ∧ a = .int .i64 i ∧ Hid (Below w.heap.size w wr) ∧ Hid (∀ (j : Nat) a b, j < i → xs[j]? = some a → ys[j]? = some b → eqbExport a b = true)) (fun a wr => xs.length - (intOf a).toNat)
    case atStart => exact ⟨0, by omega, rfl, Below.refl _ _, fun j a b h => absurd h (Nat.not_lt_zero _)⟩
    case round =>
      obtain ⟨i, hi, rfl, HB, hno⟩ := hrel
      by_cases hlt : i < xs.length
      · obtain ⟨x, hx⟩ : ∃ x, xs[i]? = some x := ⟨xs[i], List.getElem?_eq_getElem hlt⟩
        obtain ⟨y, hy⟩ : ∃ y, ys[i]? = some y := ⟨ys[i], List.getElem?_eq_getElem (by omega)⟩
        obtain ⟨ad, rfl, _, h0, h1, h2⟩ := row_eExport (HR.out.below HB.out) hx
        obtain ⟨ad', rfl, _, h0', h1', h2'⟩ := row_eExport (HR'.out.below HB.out) hy
        have HX := Lib.hid hx
        have HY := Lib.hid hy
        clear hx hy
        cases he : eqbExport x y with
        | false =>
          have HE := Lib.hid (sameL_at (eq := eqbExport) HX.out HY.out he)
          go_wp2
          go_quiet (fail)
          go_wp2
          go_ret
          exact ⟨by rw [HE.out]; rfl, belowN HB.out _⟩
        | true =>
          have HN := Lib.hid (step_eq (eq := eqbExport) hno.out HX.out HY.out he)
          go_wp2
          go_quiet (fail)
          go_wp2
          go_roundw
          case rel => exact ⟨i + 1, by omega, by go_num, belowN HB.out _, HN⟩
          case measure => simp [intOf]; omega
      · have HE := Lib.hid (sameL_all (eq := eqbExport) hln (fun i a b ha hb => hno.out i a b (by have := (List.getElem?_eq_some_iff.1 ha).1; omega) ha hb))
        go_wp2
        go_ret
        exact ⟨by rw [HE.out]; rfl, HB.out⟩
  · have HE := Lib.hid (sameL_len (eq := eqbExport) hln)
    have hlb : ((xs.length : Int) != (ys.length : Int)) = true := by simp; omega
    have hlc : (xs.length == ys.length) = false := by simp; omega
    go_enter Try.func111, Try.ntmps111
    go_wp2
    go_ret
    exact ⟨by rw [HE.out]; rfl, Below.refl _ _⟩

set_option maxHeartbeats 800000 in
set_option maxRecDepth 100000 in
theorem slices_Equal_Question_calls (v v' : Value) (xs ys : List GQuestion) (w : World) (hr : RdW w (.s xs.length (xs.flatMap eQuestion)) v) (hr' : RdW w (.s ys.length (ys.flatMap eQuestion)) v') :
    Calls Try.prog 112 #[v, v'] w fun e w' => e = .returned (.bool (sameL eqbQuestion xs ys)) ∧ Below w.heap.size w w' := by
  obtain ⟨A, c, rfl, ⟨_, _, hl⟩⟩ := hr.slice
  obtain ⟨A', c', rfl, ⟨_, _, hl'⟩⟩ := hr'.slice
  have HR := Lib.hid hr
  have HR' := Lib.hid hr'
  clear hr hr'
  have hneq := run_neq_Question
  by_cases hln : xs.length = ys.length
  · have hlb : ((xs.length : Int) != (ys.length : Int)) = false := by rw [hln]; simp
    go_enter Try.func112, Try.ntmps112
    go_wp2
    go_loopw [13] (fun a wr => ∃ i : Nat, i ≤ xs.length ∧ a = .int .i64 i ∧ Hid (Below w.heap.size w wr) ∧ Hid (∀ (j : Nat) a b, j < i → xs[j]? = some a → ys[j]? = some b → eqbQuestion a b = true)) (fun a wr => xs.length - (intOf a).toNat)
    case atStart => exact ⟨0, by omega, rfl, Below.refl _ _, fun j a b h => absurd h (Nat.not_lt_zero _)⟩
    case round =>
      obtain ⟨i, hi, rfl, HB, hno⟩ := hrel
      by_cases hlt : i < xs.length
      · obtain ⟨x, hx⟩ : ∃ x, xs[i]? = some x := ⟨xs[i], List.getElem?_eq_getElem hlt⟩
        obtain ⟨y, hy⟩ : ∃ y, ys[i]? = some y := ⟨ys[i], List.getElem?_eq_getElem (by omega)⟩
        obtain ⟨ad, rfl, _, h0, h1⟩ := row_eQuestion (HR.out.below HB.out) hx
        obtain ⟨ad', rfl, _, h0', h1'⟩ := row_eQuestion (HR'.out.below HB.out) hy
        have HX := Lib.hid hx
        have HY := Lib.hid hy
        clear hx hy
        cases he : eqbQuestion x y with
        | false =>
          have HE := Lib.hid (sameL_at (eq := eqbQuestion) HX.out HY.out he)
          go_wp2
          go_quiet (fail)
          go_wp2
          go_ret
          exact ⟨by rw [HE.out]; rfl, belowN HB.out _⟩
        | true =>
          have HN := Lib.hid (step_eq (eq := eqbQuestion) hno.out HX.out HY.out he)
          go_wp2
          go_quiet (fail)
          go_wp2
          go_roundw
          case rel => exact ⟨i + 1, by omega, by go_num, belowN HB.out _, HN⟩
          case measure => simp [intOf]; omega
      · have HE := Lib.hid (sameL_all (eq := eqbQuestion) hln (fun i a b ha hb => hno.out i a b (by have := (List.getElem?_eq_some_iff.1 ha).1; omega) ha hb))
        go_wp2
        go_ret
        exact ⟨by rw [HE.out]; rfl, HB.out⟩
  · have HE := Lib.hid (sameL_len (eq := eqbQuestion) hln)
    have hlb : ((xs.length : Int) != (ys.length : Int)) = true := by simp; omega
    have hlc : (xs.length == ys.length) = false := by simp; omega
    go_enter Try.func112, Try.ntmps112
    go_wp2
    go_ret
    exact ⟨by rw [HE.out]; rfl, Below.refl _ _⟩

set_option maxHeartbeats 800000 in
set_option maxRecDepth 100000 in
theorem slices_Equal_Wire_calls (v v' : Value) (xs ys : List GWire) (w : World) (hr : RdW w (.s xs.length (xs.flatMap eWire)) v) (hr' : RdW w (.s ys.length (ys.flatMap eWire)) v') :
    Calls Try.prog 113 #[v, v'] w fun e w' => e = .returned (.bool (sameL eqbWire xs ys)) ∧ Below w.heap.size w w' := by
  obtain ⟨A, c, rfl, ⟨_, _, hl⟩⟩ := hr.slice
  obtain ⟨A', c', rfl, ⟨_, _, hl'⟩⟩ := hr'.slice
  have HR := Lib.hid hr
  have HR' := Lib.hid hr'
  clear hr hr'
  have hneq := run_neq_Wire
  by_cases hln : xs.length = ys.length
  · have hlb : ((xs.length : Int) != (ys.length : Int)) = false := by rw [hln]; simp
    go_enter Try.func113, Try.ntmps113
    go_wp2
    go_loopw [13] (fun a wr => ∃ i : Nat, i ≤ xs.length ∧ a = .int .i64 i ∧ Hid (Below w.heap.size w wr) ∧ Hid (∀ (j : Nat) a b, j < i → xs[j]? = some a → ys[j]? = some b → eqbWire a b = true)) (fun a wr => xs.length - (intOf a).toNat)
    case atStart => exact ⟨0, by omega, rfl, Below.refl _ _, fun j a b h => absurd h (Nat.not_lt_zero _)⟩
    case round =>
      obtain ⟨i, hi, rfl, HB, hno⟩ := hrel
      by_cases hlt : i < xs.length
      · obtain ⟨x, hx⟩ : ∃ x, xs[i]? = some x := ⟨xs[i], List.getElem?_eq_getElem hlt⟩
        obtain ⟨y, hy⟩ : ∃ y, ys[i]? = some y := ⟨ys[i], List.getElem?_eq_getElem (by omega)⟩
        obtain ⟨ad, rfl, _, h0, h1⟩ := row_eWire (HR.out.below HB.out) hx
        obtain ⟨ad', rfl, _, h0', h1'⟩ := row_eWire (HR'.out.below HB.out) hy
        have HX := Lib.hid hx
        have HY := Lib.hid hy
        clear hx hy
        cases he : eqbWire x y with
        | false =>
          have HE := Lib.hid (sameL_at (eq := eqbWire) HX.out HY.out he)
          go_wp2
          go_quiet (fail)
          go_wp2
          go_ret
          exact ⟨by rw [HE.out]; rfl, belowN HB.out _⟩
        | true =>
          have HN := Lib.hid (step_eq (eq := eqbWire) hno.out HX.out HY.out he)
          go_wp2
          go_quiet (fail)
          go_wp2
          go_roundw
          case rel => exact ⟨i + 1, by omega, by go_num, belowN HB.out _, HN⟩
          case measure => simp [intOf]; omega
      · have HE := Lib.hid (sameL_all (eq := eqbWire) hln (fun i a b ha hb => hno.out i a b (by have := (List.getElem?_eq_some_iff.1 ha).1; omega) ha hb))
        go_wp2
        go_ret
        exact ⟨by rw [HE.out]; rfl, HB.out⟩
  · have HE := Lib.hid (sameL_len (eq := eqbWire) hln)
    have hlb : ((xs.length : Int) != (ys.length : Int)) = true := by simp; omega
    have hlc : (xs.length == ys.length) = false := by simp; omega
    go_enter Try.func113, Try.ntmps113
    go_wp2
    go_ret
    exact ⟨by rw [HE.out]; rfl, Below.refl _ _⟩

set_option maxHeartbeats 800000 in
set_option maxRecDepth 100000 in
theorem spec_EqualValues_calls_q (v v' : Value) (xs ys : List GValue) (w : World) (hr : RdW w (.s xs.length (xs.flatMap eValue)) v) (hr' : RdW w (.s ys.length (ys.flatMap eValue)) v') :
    Calls Try.prog 105 #[v, v'] w fun e w' => e = .returned (.bool (sameL eqbValue xs ys)) ∧ ∃ m, w' = w.drewN m := by
  obtain ⟨A, c, rfl, ⟨_, _, hl⟩⟩ := hr.slice
  obtain ⟨A', c', rfl, ⟨_, _, hl'⟩⟩ := hr'.slice
  have HR := Lib.hid hr
  have HR' := Lib.hid hr'
  clear hr hr'
  have hneq := run_neq_Value
  by_cases hln : xs.length = ys.length
  · have hlb : ((xs.length : Int) != (ys.length : Int)) = false := by rw [hln]; simp
    go_enter Try.func105, Try.ntmps105
    go_wp2
    go_loopw [5] (fun a wr => ∃ i : Nat, i ≤ xs.length ∧ a = .int .i64 i ∧ Hid (∃ m, wr = w.drewN m) ∧ Hid (∀ (j : Nat) a b, j < i → xs[j]? = some a → ys[j]? = some b → eqbValue a b = true)) (fun a wr => xs.length - (intOf a).toNat)
    case atStart => exact ⟨0, by omega, rfl, ⟨0, rfl⟩, fun j a b h => absurd h (Nat.not_lt_zero _)⟩
    case round =>
      obtain ⟨i, hi, rfl, HQ, hno⟩ := hrel
      obtain ⟨mq, hmq⟩ := HQ.out
      have HB : Hid (Below w.heap.size w wr) := by unfold Hid; rw [hmq]; exact belowN (Below.refl _ _) _
      have HMQ := Lib.hid hmq
      clear hmq HQ
      by_cases hlt : i < xs.length
      · obtain ⟨x, hx⟩ : ∃ x, xs[i]? = some x := ⟨xs[i], List.getElem?_eq_getElem hlt⟩
        obtain ⟨y, hy⟩ : ∃ y, ys[i]? = some y := ⟨ys[i], List.getElem?_eq_getElem (by omega)⟩
        obtain ⟨ad, rfl, _, h0, h1⟩ := row_eValue (HR.out.below HB.out) hx
        obtain ⟨ad', rfl, _, h0', h1'⟩ := row_eValue (HR'.out.below HB.out) hy
        have HX := Lib.hid hx
        have HY := Lib.hid hy
        clear hx hy
        cases he : eqbValue x y with
        | false =>
          have HE := Lib.hid (sameL_at (eq := eqbValue) HX.out HY.out he)
          go_wp2
          go_quiet (fail)
          go_wp2
          go_ret
          exact ⟨by rw [HE.out]; rfl, by rw [HMQ.out]; exact ⟨mq + nq, World.drewN_drewN _ _ _⟩⟩
        | true =>
          have HN := Lib.hid (step_eq (eq := eqbValue) hno.out HX.out HY.out he)
          go_wp2
          go_quiet (fail)
          go_wp2
          go_roundw
          case rel => exact ⟨i + 1, by omega, by go_num, (by unfold Hid; rw [HMQ.out]; exact ⟨mq + nq, World.drewN_drewN _ _ _⟩), HN⟩
          case measure => simp [intOf]; omega
      · have HE := Lib.hid (sameL_all (eq := eqbValue) hln (fun i a b ha hb => hno.out i a b (by have := (List.getElem?_eq_some_iff.1 ha).1; omega) ha hb))
        go_wp2
        go_ret
        exact ⟨by rw [HE.out]; rfl, mq, HMQ.out⟩
  · have HE := Lib.hid (sameL_len (eq := eqbValue) hln)
    have hlb : ((xs.length : Int) != (ys.length : Int)) = true := by simp; omega
    have hlc : (xs.length == ys.length) = false := by simp; omega
    go_enter Try.func105, Try.ntmps105
    go_wp2
    go_ret
    exact ⟨by rw [HE.out]; rfl, 0, rfl⟩
theorem spec_EqualValues_calls (v v' : Value) (xs ys : List GValue) (w : World) (hr : RdW w (.s xs.length (xs.flatMap eValue)) v) (hr' : RdW w (.s ys.length (ys.flatMap eValue)) v') :
    Calls Try.prog 105 #[v, v'] w fun e w' => e = .returned (.bool (sameL eqbValue xs ys)) ∧ Below w.heap.size w w' :=
  (spec_EqualValues_calls_q v v' xs ys w hr hr').mono fun e w' ⟨he, m, hm⟩ => ⟨he, by rw [hm]; exact belowN (Below.refl _ _) _⟩

set_option maxHeartbeats 800000 in
set_option maxRecDepth 100000 in
theorem spec_l10Same_calls (v v' : Value) (xs ys : List GQuestion) (w : World) (hr : RdW w (.s xs.length (xs.flatMap eQuestion)) v) (hr' : RdW w (.s ys.length (ys.flatMap eQuestion)) v') :
    Calls Try.prog 106 #[v, v'] w fun e w' => e = .returned (.bool (sameL eqbQuestion xs ys)) ∧ Below w.heap.size w w' := by
  obtain ⟨A, c, rfl, ⟨_, _, hl⟩⟩ := hr.slice
  obtain ⟨A', c', rfl, ⟨_, _, hl'⟩⟩ := hr'.slice
  have HR := Lib.hid hr
  have HR' := Lib.hid hr'
  clear hr hr'
  have hneq := run_neq_Question
  by_cases hln : xs.length = ys.length
  · have hlb : ((xs.length : Int) != (ys.length : Int)) = false := by rw [hln]; simp
    go_enter Try.func106, Try.ntmps106
    go_wp2
    go_loopw [5] (fun a wr => ∃ i : Nat, i ≤ xs.length ∧ a = .int .i64 i ∧ Hid (Below w.heap.size w wr) ∧ Hid (∀ (j : Nat) a b, j < i → xs[j]? = some a → ys[j]? = some b → eqbQuestion a b = true)) (fun a wr => xs.length - (intOf a).toNat)
    case atStart => exact ⟨0, by omega, rfl, Below.refl _ _, fun j a b h => absurd h (Nat.not_lt_zero _)⟩
    case round =>
      obtain ⟨i, hi, rfl, HB, hno⟩ := hrel
      by_cases hlt : i < xs.length
      · obtain ⟨x, hx⟩ : ∃ x, xs[i]? = some x := ⟨xs[i], List.getElem?_eq_getElem hlt⟩
        obtain ⟨y, hy⟩ : ∃ y, ys[i]? = some y := ⟨ys[i], List.getElem?_eq_getElem (by omega)⟩
        obtain ⟨ad, rfl, _, h0, h1⟩ := row_eQuestion (HR.out.below HB.out) hx
        obtain ⟨ad', rfl, _, h0', h1'⟩ := row_eQuestion (HR'.out.below HB.out) hy
        have HX := Lib.hid hx
        have HY := Lib.hid hy
        clear hx hy
        cases he : eqbQuestion x y with
        | false =>
          have HE := Lib.hid (sameL_at (eq := eqbQuestion) HX.out HY.out he)
          go_wp2
          go_quiet (fail)
          go_wp2
          go_ret
          exact ⟨by rw [HE.out]; rfl, belowN HB.out _⟩
        | true =>
          have HN := Lib.hid (step_eq (eq := eqbQuestion) hno.out HX.out HY.out he)
          go_wp2
          go_quiet (fail)
          go_wp2
          go_roundw
          case rel => exact ⟨i + 1, by omega, by go_num, belowN HB.out _, HN⟩
          case measure => simp [intOf]; omega
      · have HE := Lib.hid (sameL_all (eq := eqbQuestion) hln (fun i a b ha hb => hno.out i a b (by have := (List.getElem?_eq_some_iff.1 ha).1; omega) ha hb))
        go_wp2
        go_ret
        exact ⟨by rw [HE.out]; rfl, HB.out⟩
  · have HE := Lib.hid (sameL_len (eq := eqbQuestion) hln)
    have hlb : ((xs.length : Int) != (ys.length : Int)) = true := by simp; omega
    have hlc : (xs.length == ys.length) = false := by simp; omega
    go_enter Try.func106, Try.ntmps106
    go_wp2
    go_ret
    exact ⟨by rw [HE.out]; rfl, Below.refl _ _⟩

end Go.Proofs.Ytapbejepffpckaa
