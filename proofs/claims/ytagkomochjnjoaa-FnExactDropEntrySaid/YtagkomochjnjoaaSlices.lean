import Derived.Test.YtagkomochjnjoaaProg
import Derived.Test.YtagkomochjnjoaaTypes
import Derived.StillTailTactics
import Derived.Deep.RegionHeld3
import Derived.Laws.IdiomStrings
import Derived.Test.YtagkomochjnjoaaAppend
import Derived.Laws.StructEq
import Derived.Lib.SliceRun
import Derived.Shelf.RegionOpenPlain
namespace Go.Proofs.Ytagkomochjnjoaa
open Go.RowKit
set_option linter.unusedVariables false
set_option linter.unusedSimpArgs false

theorem run_eql_Question (x y : GQuestion) (w : World) : Sem.run Try.prog (binOp .eql 49 (.agg #[.int .i64 x.Id, .int .i64 x.Promise]) (.agg #[.int .i64 y.Id, .int .i64 y.Promise])) w = .ok (.bool (eqbQuestion x y)) w := by
  have hS49 : Try.prog.underlying 49 = some (.struct (Try.prog.fieldsOf 49)) := by kernel_rfl
  have hp49 : Try.prog.stoodInHeld 49 = false := by kernel_rfl
  have u3 := Try.underlying3
  rw [run_eql_struct, show (10000 : Nat) = 9999 + 1 from rfl, run_equalIn_struct w 9999 49 _ _ hS49 hp49]
  simp only [Program.fieldsOf, Try.underlying49]
  go_simp
  unfold eqbQuestion
  repeat' split
  all_goals simp_all
theorem run_neq_Question (x y : GQuestion) (w : World) : Sem.run Try.prog (binOp .neq 49 (.agg #[.int .i64 x.Id, .int .i64 x.Promise]) (.agg #[.int .i64 y.Id, .int .i64 y.Promise])) w = .ok (.bool (!eqbQuestion x y)) w := by
  have hS49 : Try.prog.underlying 49 = some (.struct (Try.prog.fieldsOf 49)) := by kernel_rfl
  have hp49 : Try.prog.stoodInHeld 49 = false := by kernel_rfl
  have u3 := Try.underlying3
  rw [run_neq_struct, show (10000 : Nat) = 9999 + 1 from rfl, run_equalIn_struct w 9999 49 _ _ hS49 hp49]
  simp only [Program.fieldsOf, Try.underlying49]
  go_simp
  unfold eqbQuestion
  repeat' split
  all_goals simp_all

theorem run_eql_Export (x y : GExport) (w : World) : Sem.run Try.prog (binOp .eql 56 (.agg #[.int .i64 x.Pos, .int .i64 x.Entity, .int .i64 x.Count]) (.agg #[.int .i64 y.Pos, .int .i64 y.Entity, .int .i64 y.Count])) w = .ok (.bool (eqbExport x y)) w := by
  have hS56 : Try.prog.underlying 56 = some (.struct (Try.prog.fieldsOf 56)) := by kernel_rfl
  have hp56 : Try.prog.stoodInHeld 56 = false := by kernel_rfl
  have u3 := Try.underlying3
  rw [run_eql_struct, show (10000 : Nat) = 9999 + 1 from rfl, run_equalIn_struct w 9999 56 _ _ hS56 hp56]
  simp only [Program.fieldsOf, Try.underlying56]
  go_simp
  unfold eqbExport
  repeat' split
  all_goals simp_all
theorem run_neq_Export (x y : GExport) (w : World) : Sem.run Try.prog (binOp .neq 56 (.agg #[.int .i64 x.Pos, .int .i64 x.Entity, .int .i64 x.Count]) (.agg #[.int .i64 y.Pos, .int .i64 y.Entity, .int .i64 y.Count])) w = .ok (.bool (!eqbExport x y)) w := by
  have hS56 : Try.prog.underlying 56 = some (.struct (Try.prog.fieldsOf 56)) := by kernel_rfl
  have hp56 : Try.prog.stoodInHeld 56 = false := by kernel_rfl
  have u3 := Try.underlying3
  rw [run_neq_struct, show (10000 : Nat) = 9999 + 1 from rfl, run_equalIn_struct w 9999 56 _ _ hS56 hp56]
  simp only [Program.fieldsOf, Try.underlying56]
  go_simp
  unfold eqbExport
  repeat' split
  all_goals simp_all

set_option maxHeartbeats 800000 in
set_option maxRecDepth 100000 in
theorem slices_Equal_Question_calls (v v' : Value) (xs ys : List GQuestion) (w : World) (hr : RdW w (.s xs.length (xs.flatMap eQuestion)) v) (hr' : RdW w (.s ys.length (ys.flatMap eQuestion)) v') :
    Calls Try.prog 45 #[v, v'] w fun e w' => e = .returned (.bool (sameL eqbQuestion xs ys)) ∧ Below w.heap.size w w' := by
  obtain ⟨A, c, rfl, ⟨_, _, hl⟩⟩ := hr.slice
  obtain ⟨A', c', rfl, ⟨_, _, hl'⟩⟩ := hr'.slice
  have HR := Lib.hid hr
  have HR' := Lib.hid hr'
  clear hr hr'
  have hneq := run_neq_Question
  by_cases hln : xs.length = ys.length
  · have hlb : ((xs.length : Int) != (ys.length : Int)) = false := by rw [hln]; simp
    go_enter Try.func45, Try.ntmps45
    go_wp2
    go_loopw [13] (fun a wr => ∃ i : Nat, i ≤ xs.length ∧ a = .int .i64 i ∧ Hid (Below w.heap.size w wr) ∧ Hid (∀ (j : Nat) a b, j < i → xs[j]? = some a → ys[j]? = some b → eqbQuestion a b = true)) (fun a wr => xs.length - (intOf a).toNat)
    case atStart => exact ⟨0, by omega, rfl, Below.refl _ _, fun j a b h => absurd h (Nat.not_lt_zero _)⟩
    case round =>
      obtain ⟨i, hi, rfl, HB, hno⟩ := hrel
      by_cases hlt : i < xs.length
      · obtain ⟨x, hx⟩ : ∃ x, xs[i]? = some x := ⟨xs[i], List.getElem?_eq_getElem hlt⟩
        obtain ⟨y, hy⟩ : ∃ y, ys[i]? = some y := ⟨ys[i], List.getElem?_eq_getElem (by omega)⟩
        obtain ⟨ad, rfl, _, h0, h1⟩ := row_eQuestion (HR.out.below HB.out) hx
        obtain ⟨ad', rfl, _, h0', h1'⟩ := row_eQuestion (HR'.out.below HB.out) hy
        have HX := Lib.hid hx
        have HY := Lib.hid hy
        clear hx hy
        cases he : eqbQuestion x y with
        | false =>
          have HE := Lib.hid (sameL_at (eq := eqbQuestion) HX.out HY.out he)
          go_wp2
          go_quiet (fail)
          go_wp2
          go_ret
          exact ⟨by rw [HE.out]; rfl, belowN HB.out _⟩
        | true =>
          have HN := Lib.hid (step_eq (eq := eqbQuestion) hno.out HX.out HY.out he)
          go_wp2
          go_quiet (fail)
          go_wp2
          go_roundw
          case rel => exact ⟨i + 1, by omega, by go_num, belowN HB.out _, HN⟩
          case measure => simp [intOf]; omega
      · have HE := Lib.hid (sameL_all (eq := eqbQuestion) hln (fun i a b ha hb => hno.out i a b (by have := (List.getElem?_eq_some_iff.1 ha).1; omega) ha hb))
        go_wp2
        go_ret
        exact ⟨by rw [HE.out]; rfl, HB.out⟩
  · have HE := Lib.hid (sameL_len (eq := eqbQuestion) hln)
    have hlb : ((xs.length : Int) != (ys.length : Int)) = true := by simp; omega
    have hlc : (xs.length == ys.length) = false := by simp; omega
    go_enter Try.func45, Try.ntmps45
    go_wp2
    go_ret
    exact ⟨by rw [HE.out]; rfl, Below.refl _ _⟩

set_option maxHeartbeats 800000 in
set_option maxRecDepth 100000 in
theorem slices_Equal_Export_calls (v v' : Value) (xs ys : List GExport) (w : World) (hr : RdW w (.s xs.length (xs.flatMap eExport)) v) (hr' : RdW w (.s ys.length (ys.flatMap eExport)) v') :
    Calls Try.prog 44 #[v, v'] w fun e w' => e = .returned (.bool (sameL eqbExport xs ys)) ∧ Below w.heap.size w w' := by
  obtain ⟨A, c, rfl, ⟨_, _, hl⟩⟩ := hr.slice
  obtain ⟨A', c', rfl, ⟨_, _, hl'⟩⟩ := hr'.slice
  have HR := Lib.hid hr
  have HR' := Lib.hid hr'
  clear hr hr'
  have hneq := run_neq_Export
  by_cases hln : xs.length = ys.length
  · have hlb : ((xs.length : Int) != (ys.length : Int)) = false := by rw [hln]; simp
    go_enter Try.func44, Try.ntmps44
    go_wp2
    go_loopw [13] (fun a wr => ∃ i : Nat, i ≤ xs.length ∧ a = .int .i64 i ∧ Hid (Below w.heap.size w wr) ∧ Hid (∀ (j : Nat) a b, j < i → xs[j]? = some a → ys[j]? = some b → eqbExport a b = true)) (fun a wr => xs.length - (intOf a).toNat)
    case atStart => exact ⟨0, by omega, rfl, Below.refl _ _, fun j a b h => absurd h (Nat.not_lt_zero _)⟩
    case round =>
      obtain ⟨i, hi, rfl, HB, hno⟩ := hrel
      by_cases hlt : i < xs.length
      · obtain ⟨x, hx⟩ : ∃ x, xs[i]? = some x := ⟨xs[i], List.getElem?_eq_getElem hlt⟩
        obtain ⟨y, hy⟩ : ∃ y, ys[i]? = some y := ⟨ys[i], List.getElem?_eq_getElem (by omega)⟩
        obtain ⟨ad, rfl, _, h0, h1, h2⟩ := row_eExport (HR.out.below HB.out) hx
        obtain ⟨ad', rfl, _, h0', h1', h2'⟩ := row_eExport (HR'.out.below HB.out) hy
        have HX := Lib.hid hx
        have HY := Lib.hid hy
        clear hx hy
        cases he : eqbExport x y with
        | false =>
          have HE := Lib.hid (sameL_at (eq := eqbExport) HX.out HY.out he)
          go_wp2
          go_quiet (fail)
          go_wp2
          go_ret
          exact ⟨by rw [HE.out]; rfl, belowN HB.out _⟩
        | true =>
          have HN := Lib.hid (step_eq (eq := eqbExport) hno.out HX.out HY.out he)
          go_wp2
          go_quiet (fail)
          go_wp2
          go_roundw
          case rel => exact ⟨i + 1, by omega, by go_num, belowN HB.out _, HN⟩
          case measure => simp [intOf]; omega
      · have HE := Lib.hid (sameL_all (eq := eqbExport) hln (fun i a b ha hb => hno.out i a b (by have := (List.getElem?_eq_some_iff.1 ha).1; omega) ha hb))
        go_wp2
        go_ret
        exact ⟨by rw [HE.out]; rfl, HB.out⟩
  · have HE := Lib.hid (sameL_len (eq := eqbExport) hln)
    have hlb : ((xs.length : Int) != (ys.length : Int)) = true := by simp; omega
    have hlc : (xs.length == ys.length) = false := by simp; omega
    go_enter Try.func44, Try.ntmps44
    go_wp2
    go_ret
    exact ⟨by rw [HE.out]; rfl, Below.refl _ _⟩

set_option maxHeartbeats 800000 in
set_option maxRecDepth 100000 in
theorem slices_IndexFunc_Export (p : GExport → Bool) (g : Nat) (lb : Array Value) (eg : ∀ args w, (callFunc g args).run Try.prog w = .ok (.enter g args) w) (v : Value) (xs : List GExport) (w : World) (hr : RdW w (.s xs.length (xs.flatMap eExport)) v)
    (hp : ∀ (W : World) (x : GExport) (us : List Value), Below w.heap.size w W → x ∈ xs → RdLW W (eExport x) us → Calls Try.prog g (#[.agg us.toArray] ++ lb) W fun e w' => e = .returned (.bool (p x)) ∧ Below W.heap.size W w') :
    Calls Try.prog 55 #[v, .func (.func g) #[] lb] w fun e w' => e = .returned (.int .i64 (idx p xs)) ∧ Below w.heap.size w w' := by
  obtain ⟨A, c, rfl, ⟨_, _, hl⟩⟩ := hr.slice
  have HR := Lib.hid hr
  have HP := Lib.hid hp
  clear hr hp
  go_enter Try.func55, Try.ntmps55
  go_wp2
  go_loopw [8] (fun a wr => ∃ i : Nat, i ≤ xs.length ∧ a = .int .i64 i ∧ Hid (Below w.heap.size w wr) ∧ Hid (∀ j y, j < i → xs[j]? = some y → p y = false)) (fun a wr => xs.length - (intOf a).toNat)
  case atStart => exact ⟨0, by omega, rfl, Below.refl _ _, no_start⟩
  case round =>
    obtain ⟨i, hi, rfl, HB, hno⟩ := hrel
    by_cases hlt : i < xs.length
    · obtain ⟨x, hx⟩ : ∃ x, xs[i]? = some x := ⟨xs[i], List.getElem?_eq_getElem hlt⟩
      obtain ⟨ad, rfl, hadb, h0, h1, h2⟩ := row_eExport (HR.out.below HB.out) hx
      have hcall := HP.out wr x _ HB.out (List.mem_of_getElem? hx) (mkrd_eExport (x := x))
      have HX := Lib.hid hx
      clear hx
      cases hq : p x with
      | true =>
        rw [hq] at hcall
        have HE := Lib.hid (idx_hit HX.out hq hno.out)
        go_wp2_with (go_at_fn g; refine hcall.mono ?_; rintro e w' ⟨rfl, hb'⟩)
        go_ret
        exact ⟨by rw [HE.out]; rfl, HB.out.trans (hb'.mono HB.out.size)⟩
      | false =>
        rw [hq] at hcall
        have HN := Lib.hid (step_no (p := fun y => p y = false) hno.out HX.out hq)
        go_wp2_with (go_at_fn g; refine hcall.mono ?_; rintro e w' ⟨rfl, hb'⟩)
        go_roundw
        case rel => exact ⟨i + 1, by omega, by go_num, HB.out.trans (hb'.mono HB.out.size), HN⟩
        case measure => simp [intOf]; omega
    · have : i = xs.length := by omega
      subst this
      have HE := Lib.hid (idx_miss (all_of (p := fun y => p y = false) hno.out))
      go_wp2
      go_ret
      exact ⟨by rw [HE.out]; rfl, HB.out⟩

set_option maxHeartbeats 800000 in
set_option maxRecDepth 100000 in
theorem slices_IndexFunc_Question (p : GQuestion → Bool) (g : Nat) (lb : Array Value) (eg : ∀ args w, (callFunc g args).run Try.prog w = .ok (.enter g args) w) (v : Value) (xs : List GQuestion) (w : World) (hr : RdW w (.s xs.length (xs.flatMap eQuestion)) v)
    (hp : ∀ (W : World) (x : GQuestion) (us : List Value), Below w.heap.size w W → x ∈ xs → RdLW W (eQuestion x) us → Calls Try.prog g (#[.agg us.toArray] ++ lb) W fun e w' => e = .returned (.bool (p x)) ∧ Below W.heap.size W w') :
    Calls Try.prog 57 #[v, .func (.func g) #[] lb] w fun e w' => e = .returned (.int .i64 (idx p xs)) ∧ Below w.heap.size w w' := by
  obtain ⟨A, c, rfl, ⟨_, _, hl⟩⟩ := hr.slice
  have HR := Lib.hid hr
  have HP := Lib.hid hp
  clear hr hp
  go_enter Try.func57, Try.ntmps57
  go_wp2
  go_loopw [8] (fun a wr => ∃ i : Nat, i ≤ xs.length ∧ a = .int .i64 i ∧ Hid (Below w.heap.size w wr) ∧ Hid (∀ j y, j < i → xs[j]? = some y → p y = false)) (fun a wr => xs.length - (intOf a).toNat)
  case atStart => exact ⟨0, by omega, rfl, Below.refl _ _, no_start⟩
  case round =>
    obtain ⟨i, hi, rfl, HB, hno⟩ := hrel
    by_cases hlt : i < xs.length
    · obtain ⟨x, hx⟩ : ∃ x, xs[i]? = some x := ⟨xs[i], List.getElem?_eq_getElem hlt⟩
      obtain ⟨ad, rfl, hadb, h0, h1⟩ := row_eQuestion (HR.out.below HB.out) hx
      have hcall := HP.out wr x _ HB.out (List.mem_of_getElem? hx) (mkrd_eQuestion (x := x))
      have HX := Lib.hid hx
      clear hx
      cases hq : p x with
      | true =>
        rw [hq] at hcall
        have HE := Lib.hid (idx_hit HX.out hq hno.out)
        go_wp2_with (go_at_fn g; refine hcall.mono ?_; rintro e w' ⟨rfl, hb'⟩)
        go_ret
        exact ⟨by rw [HE.out]; rfl, HB.out.trans (hb'.mono HB.out.size)⟩
      | false =>
        rw [hq] at hcall
        have HN := Lib.hid (step_no (p := fun y => p y = false) hno.out HX.out hq)
        go_wp2_with (go_at_fn g; refine hcall.mono ?_; rintro e w' ⟨rfl, hb'⟩)
        go_roundw
        case rel => exact ⟨i + 1, by omega, by go_num, HB.out.trans (hb'.mono HB.out.size), HN⟩
        case measure => simp [intOf]; omega
    · have : i = xs.length := by omega
      subst this
      have HE := Lib.hid (idx_miss (all_of (p := fun y => p y = false) hno.out))
      go_wp2
      go_ret
      exact ⟨by rw [HE.out]; rfl, HB.out⟩

set_option maxHeartbeats 800000 in
set_option maxRecDepth 100000 in
theorem slices_Clone_Question_row (v : Value) (xs : List GQuestion) (w : World) (hr : RdW w (.s xs.length (xs.flatMap eQuestion)) v) (hz : xs.length ≤ 1048576) :
    Calls Try.prog 50 #[v] w fun e w' => ∃ A' c', e = .returned (.slice A' xs.length c') ∧ w'.ownsRow w.heap.size 49 2 (.slice A' xs.length c') xs.length (xs.flatMap vsQuestion) ∧ Below w.heap.size w w' := by
  obtain ⟨A, c, rfl, ⟨hnc, hcc, hl⟩⟩ := hr.slice
  have hcells := hr.cells vals_eQuestion
  have q1 : ∀ (w : World) (a : Option Addr) (n c n' c' : Nat), (binOp .eql 28 (.slice a n c) (.slice none n' c')).run Try.prog w = .ok (.bool a.isNone) w := fun w a n c n' c' => Lib.run_eql_slice_nil w _ _ a n c n' c' Try.underlying28
  have HR := Lib.hid hr
  clear hr
  cases A with
  | none =>
    have h0 : xs.length = 0 := by
      rcases hcells with h | ⟨ad, h, _⟩
      · exact h
      · cases h
    have hxs : xs = [] := List.eq_nil_of_length_eq_zero h0
    subst hxs
    clear hcells
    go_enter Try.func50, Try.ntmps50
    go_wp2
    go_ret
    exact ⟨none, 0, rfl, World.ownsRow_nil _ _ _ _, Below.refl _ _⟩
  | some ad =>
    clear hcells
    go_enter Try.func50, Try.ntmps50
    go_wp2_with (at_builtin; refine wpList_copy_rd rfl _ _ 28 rfl (w.heap.size) 49 _ _ 2 16 Try.underlying28 rfl rfl rfl rfl rfl (by omega) _ rfl (World.ownsRow_made w #[] 0 (Nat.le_refl _) (Nat.zero_le _) (by simp)) vals_eQuestion xs (one_eQuestion xs) (lenv_eQuestion xs) _ _ rfl (HR.out.alloc _) (by omega) (by omega) (by simp) ?_)
    intro A' c' w1 hown hgrow
    have HG := Lib.hid hgrow
    have HW := Lib.hid hown
    clear hown hgrow
    go_wp2
    go_ret
    exact ⟨A', c', rfl, HW.out, ((Below.refl _ w).alloc (Nat.le_refl _) _).trans (grown_below HG.out (by simp) (by intro k hk; simp [Value.ownBlock] at hk; omega))⟩
set_option maxHeartbeats 800000 in
set_option maxRecDepth 100000 in
theorem slices_Clone_Question_calls (v : Value) (xs : List GQuestion) (w : World) (hr : RdW w (.s xs.length (xs.flatMap eQuestion)) v) (hz : xs.length ≤ 1048576) :
    Calls Try.prog 50 #[v] w fun e w' => ∃ v' fp, e = .returned v' ∧ Own w' (.s xs.length (xs.flatMap eQuestion)) v' fp ∧ Fresh w fp ∧ Below w.heap.size w w' := by
  refine (slices_Clone_Question_row v xs w hr hz).mono fun e w' ⟨A', c', he, ho, hb⟩ => ?_
  obtain ⟨fp, ho, hn, hge⟩ := ownRow_own vals_eQuestion ho (by omega)
  exact ⟨_, fp, he, ho, ⟨hn, hge⟩, hb⟩

set_option maxHeartbeats 800000 in
set_option maxRecDepth 100000 in
theorem slices_Clone_Export_row (v : Value) (xs : List GExport) (w : World) (hr : RdW w (.s xs.length (xs.flatMap eExport)) v) (hz : xs.length ≤ 1048576) :
    Calls Try.prog 53 #[v] w fun e w' => ∃ A' c', e = .returned (.slice A' xs.length c') ∧ w'.ownsRow w.heap.size 56 3 (.slice A' xs.length c') xs.length (xs.flatMap vsExport) ∧ Below w.heap.size w w' := by
  obtain ⟨A, c, rfl, ⟨hnc, hcc, hl⟩⟩ := hr.slice
  have hcells := hr.cells vals_eExport
  have q1 : ∀ (w : World) (a : Option Addr) (n c n' c' : Nat), (binOp .eql 27 (.slice a n c) (.slice none n' c')).run Try.prog w = .ok (.bool a.isNone) w := fun w a n c n' c' => Lib.run_eql_slice_nil w _ _ a n c n' c' Try.underlying27
  have HR := Lib.hid hr
  clear hr
  cases A with
  | none =>
    have h0 : xs.length = 0 := by
      rcases hcells with h | ⟨ad, h, _⟩
      · exact h
      · cases h
    have hxs : xs = [] := List.eq_nil_of_length_eq_zero h0
    subst hxs
    clear hcells
    go_enter Try.func53, Try.ntmps53
    go_wp2
    go_ret
    exact ⟨none, 0, rfl, World.ownsRow_nil _ _ _ _, Below.refl _ _⟩
  | some ad =>
    clear hcells
    go_enter Try.func53, Try.ntmps53
    go_wp2_with (at_builtin; refine wpList_copy_rd rfl _ _ 27 rfl (w.heap.size) 56 _ _ 3 24 Try.underlying27 rfl rfl rfl rfl rfl (by omega) _ rfl (World.ownsRow_made w #[] 0 (Nat.le_refl _) (Nat.zero_le _) (by simp)) vals_eExport xs (one_eExport xs) (lenv_eExport xs) _ _ rfl (HR.out.alloc _) (by omega) (by omega) (by simp) ?_)
    intro A' c' w1 hown hgrow
    have HG := Lib.hid hgrow
    have HW := Lib.hid hown
    clear hown hgrow
    go_wp2
    go_ret
    exact ⟨A', c', rfl, HW.out, ((Below.refl _ w).alloc (Nat.le_refl _) _).trans (grown_below HG.out (by simp) (by intro k hk; simp [Value.ownBlock] at hk; omega))⟩
set_option maxHeartbeats 800000 in
set_option maxRecDepth 100000 in
theorem slices_Clone_Export_calls (v : Value) (xs : List GExport) (w : World) (hr : RdW w (.s xs.length (xs.flatMap eExport)) v) (hz : xs.length ≤ 1048576) :
    Calls Try.prog 53 #[v] w fun e w' => ∃ v' fp, e = .returned v' ∧ Own w' (.s xs.length (xs.flatMap eExport)) v' fp ∧ Fresh w fp ∧ Below w.heap.size w w' := by
  refine (slices_Clone_Export_row v xs w hr hz).mono fun e w' ⟨A', c', he, ho, hb⟩ => ?_
  obtain ⟨fp, ho, hn, hge⟩ := ownRow_own vals_eExport ho (by omega)
  exact ⟨_, fp, he, ho, ⟨hn, hge⟩, hb⟩

set_option maxHeartbeats 800000 in
set_option maxRecDepth 100000 in
theorem slices_DeleteFunc_Question_calls (p : GQuestion → Bool) (g0 : Nat) (lb : Array Value) (eg : ∀ args w, (callFunc g0 args).run Try.prog w = .ok (.enter g0 args) w) (v : Value) (xs : List GQuestion) (w : World) (fp : List Nat) (ho : Own w (.s xs.length (xs.flatMap eQuestion)) v fp) (HND : fp.Nodup) (hz : xs.length ≤ 1048576)
    (hp : ∀ (W : World) (x : GQuestion) (us : List Value), Chg (· ∈ fp) w W → x ∈ xs → RdLW W (eQuestion x) us → Calls Try.prog g0 (#[.agg us.toArray] ++ lb) W fun e w' => e = .returned (.bool (p x)) ∧ Below W.heap.size W w') :
    Calls Try.prog 49 #[v, .func (.func g0) #[] lb] w fun e w' => ∃ v' fp', e = .returned v' ∧ Own w' (.s (xs.filter fun x => !p x).length ((xs.filter fun x => !p x).flatMap eQuestion)) v' fp' ∧ fp'.Nodup ∧ (∀ k, k ∈ fp' → k ∈ fp) ∧ Chg (· ∈ fp) w w' := by
  have hlv : ∀ x : GQuestion, (vsQuestion x).length = 2 := fun _ => rfl
  have hix := slices_IndexFunc_Question p g0 lb eg v xs w ho.rdw (fun W x us hW hx hr => hp W x us (Chg.of_below hW _) hx hr)
  have HIX := Lib.hid hix
  have HP := Lib.hid hp
  have HO := Lib.hid ho
  clear hix hp
  by_cases hge : 0 ≤ idx p xs
  · obtain ⟨i0, x0, hi0, hx0, hp0, hno⟩ := idx_some hge
    have hil : i0 < xs.length := (List.getElem?_eq_some_iff.1 hx0).1
    obtain ⟨g, c, rfl, hok, rfl, hg, hr⟩ := own_rowis vals_eQuestion ho (by omega)
    have hok1 := hok.le
    have hok2 := hok.cap
    have HOK := Lib.hid hok
    have HD := Lib.hid (Df.start hx0 hp0 hno)
    have HR := Lib.hid hr
    rw [hi0] at HIX
    have hn1 : ((i0 : Int) == -1) = false := by first | (simp; done) | (simp; omega)
    clear hx0 hp0 hno hr ho hi0 hge hok
    go_enter Try.func49, Try.ntmps49
    go_wp2_with fail
    refine HIX.out.mono ?_
    rintro e w0 ⟨rfl, hb0⟩
    have HB0 := Lib.hid hb0
    have hg0 : g < w0.heap.size := Nat.lt_of_lt_of_le hg hb0.size
    clear hb0
    go_wp2
    go_loopw [5, 6] (fun a b wr => ∃ (i j : Nat) (ys : List GQuestion), a = .int .i64 i ∧ b = .int .i64 j ∧ i < j ∧ j ≤ xs.length ∧ g < wr.heap.size ∧ Hid (Df p xs i j ys) ∧ Hid (RowIs wr g (ys.flatMap vsQuestion)) ∧ Hid (Chg (· ∈ [g]) w wr)) (fun a b wr => xs.length - (intOf b).toNat)
    case atStart => exact ⟨i0, i0 + 1, xs, rfl, by go_num, by omega, by omega, hg0, HD, HR.out.keep (HB0.out.block g hg), Chg.of_below HB0.out _⟩
    case round =>
      obtain ⟨i, j, ys, rfl, rfl, hij, hj, hgr, HDF, HRW, HCH⟩ := hrel
      by_cases hlt : j < xs.length
      · obtain ⟨x, hx⟩ : ∃ x, xs[j]? = some x := ⟨xs[j], List.getElem?_eq_getElem hlt⟩
        have HX := Lib.hid hx
        have hiy : i < ys.length := by have := HDF.out.len; omega
        have HAT := Lib.hid (HRW.out.row hlv (HDF.out.at_ hx))
        have hmem := List.mem_of_getElem? hx
        clear hx
        obtain ⟨h0, f0⟩ := HAT.out 0 _ rfl
        obtain ⟨h1, f1⟩ := HAT.out 1 _ rfl
        rw [Nat.add_zero] at h0 f0
        have hcall := HP.out (wr.alloc (.cells #[.int .i64 x.Id, .int .i64 x.Promise] 49)) x _ (HCH.out.alloc _) hmem (mkrd_eQuestion (x := x))
        cases hq : p x with
        | true =>
          rw [hq] at hcall
          have HC := Lib.hid hcall
          have HN := Lib.hid (HDF.out.skip HX.out hq)
          clear hcall
          go_wp2_with (go_at_fn g0; refine HC.out.mono ?_; rintro e w1 ⟨rfl, hb1⟩)
          have hbb := Lib.hid (((Below.refl wr.heap.size wr).alloc (Nat.le_refl _) _).trans (hb1.mono (by simp only [size_alloc]; omega)))
          clear hb1
          go_roundw
          case rel => exact ⟨i, j + 1, ys, rfl, by go_num, by omega, by omega, Nat.lt_of_lt_of_le hgr hbb.out.size, HN, HRW.out.keep (hbb.out.block g hgr), HCH.out.trans (Chg.of_below hbb.out _)⟩
          case measure => simp [intOf]; omega
        | false =>
          rw [hq] at hcall
          have HC := Lib.hid hcall
          have HN := Lib.hid (HDF.out.put HX.out hq)
          clear hcall
          go_wp2_with (go_at_fn g0; refine HC.out.mono ?_; rintro e w1 ⟨rfl, hb1⟩; have hbb := Lib.hid (((Below.refl wr.heap.size wr).alloc (Nat.le_refl _) _).trans (hb1.mono (by simp only [size_alloc]; omega))); obtain ⟨k0, k1⟩ := ((Blk.new wr 49 #[.int .i64 x.Id, .int .i64 x.Promise]).below hb1).rules; have hg1 := Nat.lt_of_lt_of_le hgr hbb.out.size; have HRW1 := Lib.hid (HRW.out.keep (hbb.out.block g hgr)); have hat := HRW1.out.row hlv (List.getElem?_eq_getElem hiy); obtain ⟨q0, p0⟩ := hat 0 _ rfl; obtain ⟨q1, p1⟩ := hat 1 _ rfl; rw [Nat.add_zero] at q0 p0; clear hat hb1 h0 f0 h1 f1)
          go_roundw
          case rel =>
            have hst := HRW1.out.setRow hlv hiy x
            simp only [vsQuestion, putRow, Nat.add_assoc, Nat.reduceAdd] at hst
            exact ⟨i + 1, j + 1, ys.set i x, by go_num, by go_num, by omega, by omega, by simpa [World.setCell] using hg1, HN, hst, (HCH.out.trans (Chg.of_below hbb.out _)).trans (((Chg.refl (· ∈ [g]) _).setCell (p := ⟨g, i * 2, none⟩) (.inl (by simp)) _).setCell (p := ⟨g, i * 2 + 1, none⟩) (.inl (by simp)) _)⟩
          case measure => simp [intOf]; omega
      · have : j = xs.length := by omega
        subst this
        have hlen := HDF.out.len
        have hfi := HDF.out.finish
        have HFI := Lib.hid hfi
        clear hfi
        obtain ⟨w', hrun, hcc, hkeep⟩ := run_clear_rows (P := Try.prog) wr 28 49 0 _ _ 2 Try.underlying28 rfl rfl rfl (by decide) g (i * 2) (xs.length - i) (c - i)
          (fun q hq => by
            obtain ⟨u, hu⟩ : ∃ u, (ys.flatMap vsQuestion)[i * 2 + q]? = some u := ⟨_, List.getElem?_eq_getElem (by rw [flat_lenV hlv, hlen]; have : (xs.length - i) * 2 = xs.length * 2 - i * 2 := Nat.sub_mul _ _ _; omega)⟩
            rw [(HRW.out _ u hu).1]; rfl)
          (fun q hq => by
            obtain ⟨u, hu⟩ : ∃ u, (ys.flatMap vsQuestion)[i * 2 + q]? = some u := ⟨_, List.getElem?_eq_getElem (by rw [flat_lenV hlv, hlen]; have : (xs.length - i) * 2 = xs.length * 2 - i * 2 := Nat.sub_mul _ _ _; omega)⟩
            exact (HRW.out _ u hu).2)
        have HCC := Lib.hid hcc
        have HKEEP := Lib.hid hkeep
        clear hcc hkeep
        go_wp2
        go_ret
        rw [HFI.out]
        have hti : (ys.take i).length = i := by rw [List.length_take]; omega
        have hrt : RowIs wr g ((ys.take i).flatMap vsQuestion) := by
          have h := HRW.out
          rw [← List.take_append_drop i ys, List.flatMap_append] at h
          exact h.pre
        obtain ⟨fp', ho', hn', hs'⟩ := own_rows vals_eQuestion (c := c) (HKEEP.out _ (by rw [flat_lenV hlv, hti]; exact Nat.le_refl _) hrt) (Nat.lt_of_lt_of_le hgr HCC.out.size) ⟨by omega, by omega, by omega⟩
        refine ⟨_, fp', by rw [hti]; rfl, ho', hn', fun k hk => by rw [hs' k hk]; simp, HCH.out.trans (HCC.out.mono (fun k _ h => by simp [h]))⟩
  · obtain ⟨hi0, hno⟩ := idx_none hge
    obtain ⟨A, c, rfl, _⟩ := ho.slice
    have HE : Hid ((xs.filter fun x => !p x) = xs) := by
      unfold Hid
      rw [List.filter_eq_self]
      intro y hy
      simp [hno y hy]
    rw [hi0] at HIX
    clear ho hno hi0 hge
    go_enter Try.func49, Try.ntmps49
    go_wp2_with fail
    refine HIX.out.mono ?_
    rintro e w0 ⟨rfl, hb0⟩
    go_wp2
    go_ret
    rw [HE.out]
    exact ⟨_, fp, rfl, HO.out.below hb0, HND, fun _ h => h, Chg.of_below hb0 _⟩

set_option maxHeartbeats 800000 in
set_option maxRecDepth 100000 in
theorem spec_l10Same_calls (v v' : Value) (xs ys : List GQuestion) (w : World) (hr : RdW w (.s xs.length (xs.flatMap eQuestion)) v) (hr' : RdW w (.s ys.length (ys.flatMap eQuestion)) v') :
    Calls Try.prog 43 #[v, v'] w fun e w' => e = .returned (.bool (sameL eqbQuestion xs ys)) ∧ Below w.heap.size w w' := by
  obtain ⟨A, c, rfl, ⟨_, _, hl⟩⟩ := hr.slice
  obtain ⟨A', c', rfl, ⟨_, _, hl'⟩⟩ := hr'.slice
  have HR := Lib.hid hr
  have HR' := Lib.hid hr'
  clear hr hr'
  have hneq := run_neq_Question
  by_cases hln : xs.length = ys.length
  · have hlb : ((xs.length : Int) != (ys.length : Int)) = false := by rw [hln]; simp
    go_enter Try.func43, Try.ntmps43
    go_wp2
    go_loopw [5] (fun a wr => ∃ i : Nat, i ≤ xs.length ∧ a = .int .i64 i ∧ Hid (Below w.heap.size w wr) ∧ Hid (∀ (j : Nat) a b, j < i → xs[j]? = some a → ys[j]? = some b → eqbQuestion a b = true)) (fun a wr => xs.length - (intOf a).toNat)
    case atStart => exact ⟨0, by omega, rfl, Below.refl _ _, fun j a b h => absurd h (Nat.not_lt_zero _)⟩
    case round =>
      obtain ⟨i, hi, rfl, HB, hno⟩ := hrel
      by_cases hlt : i < xs.length
      · obtain ⟨x, hx⟩ : ∃ x, xs[i]? = some x := ⟨xs[i], List.getElem?_eq_getElem hlt⟩
        obtain ⟨y, hy⟩ : ∃ y, ys[i]? = some y := ⟨ys[i], List.getElem?_eq_getElem (by omega)⟩
        obtain ⟨ad, rfl, _, h0, h1⟩ := row_eQuestion (HR.out.below HB.out) hx
        obtain ⟨ad', rfl, _, h0', h1'⟩ := row_eQuestion (HR'.out.below HB.out) hy
        have HX := Lib.hid hx
        have HY := Lib.hid hy
        clear hx hy
        cases he : eqbQuestion x y with
        | false =>
          have HE := Lib.hid (sameL_at (eq := eqbQuestion) HX.out HY.out he)
          go_wp2
          go_quiet (fail)
          go_wp2
          go_ret
          exact ⟨by rw [HE.out]; rfl, belowN HB.out _⟩
        | true =>
          have HN := Lib.hid (step_eq (eq := eqbQuestion) hno.out HX.out HY.out he)
          go_wp2
          go_quiet (fail)
          go_wp2
          go_roundw
          case rel => exact ⟨i + 1, by omega, by go_num, belowN HB.out _, HN⟩
          case measure => simp [intOf]; omega
      · have HE := Lib.hid (sameL_all (eq := eqbQuestion) hln (fun i a b ha hb => hno.out i a b (by have := (List.getElem?_eq_some_iff.1 ha).1; omega) ha hb))
        go_wp2
        go_ret
        exact ⟨by rw [HE.out]; rfl, HB.out⟩
  · have HE := Lib.hid (sameL_len (eq := eqbQuestion) hln)
    have hlb : ((xs.length : Int) != (ys.length : Int)) = true := by simp; omega
    have hlc : (xs.length == ys.length) = false := by simp; omega
    go_enter Try.func43, Try.ntmps43
    go_wp2
    go_ret
    exact ⟨by rw [HE.out]; rfl, Below.refl _ _⟩

end Go.Proofs.Ytagkomochjnjoaa
