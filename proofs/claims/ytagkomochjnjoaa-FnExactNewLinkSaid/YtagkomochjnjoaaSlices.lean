import Derived.Test.YtagkomochjnjoaaProg
import Derived.Test.YtagkomochjnjoaaTypes
import Derived.StillTailTactics
import Derived.Laws.StructEq
import Derived.Lib.SliceRun
import Derived.Maps.AppendAt
import Derived.Shelf.RegionOpenPlain
namespace Go.Proofs.Ytagkomochjnjoaa
open Go.RowKit
set_option linter.unusedVariables false
set_option linter.unusedSimpArgs false

theorem run_eql_Question (x y : GQuestion) (w : World) : Sem.run Try.prog (binOp .eql 49 (.agg #[.int .i64 x.Id, .int .i64 x.Promise]) (.agg #[.int .i64 y.Id, .int .i64 y.Promise])) w = .ok (.bool (eqbQuestion x y)) w := by
  have hS49 : Try.prog.underlying 49 = some (.struct (Try.prog.fieldsOf 49)) := by kernel_rfl
  have hp49 : Try.prog.stoodInHeld 49 = false := by kernel_rfl
  have u3 := Try.underlying3
  rw [run_eql_struct, show (10000 : Nat) = 9999 + 1 from rfl, run_equalIn_struct w 9999 49 _ _ hS49 hp49]
  simp only [Program.fieldsOf, Try.underlying49]
  go_simp
  unfold eqbQuestion
  repeat' split
  all_goals simp_all
theorem run_neq_Question (x y : GQuestion) (w : World) : Sem.run Try.prog (binOp .neq 49 (.agg #[.int .i64 x.Id, .int .i64 x.Promise]) (.agg #[.int .i64 y.Id, .int .i64 y.Promise])) w = .ok (.bool (!eqbQuestion x y)) w := by
  have hS49 : Try.prog.underlying 49 = some (.struct (Try.prog.fieldsOf 49)) := by kernel_rfl
  have hp49 : Try.prog.stoodInHeld 49 = false := by kernel_rfl
  have u3 := Try.underlying3
  rw [run_neq_struct, show (10000 : Nat) = 9999 + 1 from rfl, run_equalIn_struct w 9999 49 _ _ hS49 hp49]
  simp only [Program.fieldsOf, Try.underlying49]
  go_simp
  unfold eqbQuestion
  repeat' split
  all_goals simp_all

theorem run_eql_Export (x y : GExport) (w : World) : Sem.run Try.prog (binOp .eql 56 (.agg #[.int .i64 x.Pos, .int .i64 x.Entity, .int .i64 x.Count]) (.agg #[.int .i64 y.Pos, .int .i64 y.Entity, .int .i64 y.Count])) w = .ok (.bool (eqbExport x y)) w := by
  have hS56 : Try.prog.underlying 56 = some (.struct (Try.prog.fieldsOf 56)) := by kernel_rfl
  have hp56 : Try.prog.stoodInHeld 56 = false := by kernel_rfl
  have u3 := Try.underlying3
  rw [run_eql_struct, show (10000 : Nat) = 9999 + 1 from rfl, run_equalIn_struct w 9999 56 _ _ hS56 hp56]
  simp only [Program.fieldsOf, Try.underlying56]
  go_simp
  unfold eqbExport
  repeat' split
  all_goals simp_all
theorem run_neq_Export (x y : GExport) (w : World) : Sem.run Try.prog (binOp .neq 56 (.agg #[.int .i64 x.Pos, .int .i64 x.Entity, .int .i64 x.Count]) (.agg #[.int .i64 y.Pos, .int .i64 y.Entity, .int .i64 y.Count])) w = .ok (.bool (!eqbExport x y)) w := by
  have hS56 : Try.prog.underlying 56 = some (.struct (Try.prog.fieldsOf 56)) := by kernel_rfl
  have hp56 : Try.prog.stoodInHeld 56 = false := by kernel_rfl
  have u3 := Try.underlying3
  rw [run_neq_struct, show (10000 : Nat) = 9999 + 1 from rfl, run_equalIn_struct w 9999 56 _ _ hS56 hp56]
  simp only [Program.fieldsOf, Try.underlying56]
  go_simp
  unfold eqbExport
  repeat' split
  all_goals simp_all

set_option maxHeartbeats 800000 in
set_option maxRecDepth 100000 in
theorem slices_Equal_Question_calls (v v' : Value) (xs ys : List GQuestion) (w : World) (hr : RdW w (.s xs.length (xs.flatMap eQuestion)) v) (hr' : RdW w (.s ys.length (ys.flatMap eQuestion)) v') :
    Calls Try.prog 45 #[v, v'] w fun e w' => e = .returned (.bool (sameL eqbQuestion xs ys)) ∧ Below w.heap.size w w' := by
  obtain ⟨A, c, rfl, ⟨_, _, hl⟩⟩ := hr.slice
  obtain ⟨A', c', rfl, ⟨_, _, hl'⟩⟩ := hr'.slice
  have HR := Lib.hid hr
  have HR' := Lib.hid hr'
  clear hr hr'
  have hneq := run_neq_Question
  by_cases hln : xs.length = ys.length
  · have hlb : ((xs.length : Int) != (ys.length : Int)) = false := by rw [hln]; simp
    go_enter Try.func45, Try.ntmps45
    go_wp2
    go_loopw [13] (fun a wr => ∃ i : Nat, i ≤ xs.length ∧ a = .int .i64 i ∧ Hid (Below w.heap.size w wr) ∧ Hid (∀ (j : Nat) a b, j < i → xs[j]? = some a → ys[j]? = some b → eqbQuestion a b = true)) (fun a wr => xs.length - (intOf a).toNat)
    case atStart => exact ⟨0, by omega, rfl, Below.refl _ _, fun j a b h => absurd h (Nat.not_lt_zero _)⟩
    case round =>
      obtain ⟨i, hi, rfl, HB, hno⟩ := hrel
      by_cases hlt : i < xs.length
      · obtain ⟨x, hx⟩ : ∃ x, xs[i]? = some x := ⟨xs[i], List.getElem?_eq_getElem hlt⟩
        obtain ⟨y, hy⟩ : ∃ y, ys[i]? = some y := ⟨ys[i], List.getElem?_eq_getElem (by omega)⟩
        obtain ⟨ad, rfl, _, h0, h1⟩ := row_eQuestion (HR.out.below HB.out) hx
        obtain ⟨ad', rfl, _, h0', h1'⟩ := row_eQuestion (HR'.out.below HB.out) hy
        have HX := Lib.hid hx
        have HY := Lib.hid hy
        clear hx hy
        cases he : eqbQuestion x y with
        | false =>
          have HE := Lib.hid (sameL_at (eq := eqbQuestion) HX.out HY.out he)
          go_wp2
          go_quiet (fail)
          go_wp2
          go_ret
          exact ⟨by rw [HE.out]; rfl, belowN HB.out _⟩
        | true =>
          have HN := Lib.hid (step_eq (eq := eqbQuestion) hno.out HX.out HY.out he)
          go_wp2
          go_quiet (fail)
          go_wp2
          go_roundw
          case rel => exact ⟨i + 1, by omega, by go_num, belowN HB.out _, HN⟩
          case measure => simp [intOf]; omega
      · have HE := Lib.hid (sameL_all (eq := eqbQuestion) hln (fun i a b ha hb => hno.out i a b (by have := (List.getElem?_eq_some_iff.1 ha).1; omega) ha hb))
        go_wp2
        go_ret
        exact ⟨by rw [HE.out]; rfl, HB.out⟩
  · have HE := Lib.hid (sameL_len (eq := eqbQuestion) hln)
    have hlb : ((xs.length : Int) != (ys.length : Int)) = true := by simp; omega
    have hlc : (xs.length == ys.length) = false := by simp; omega
    go_enter Try.func45, Try.ntmps45
    go_wp2
    go_ret
    exact ⟨by rw [HE.out]; rfl, Below.refl _ _⟩

set_option maxHeartbeats 800000 in
set_option maxRecDepth 100000 in
theorem slices_Equal_Export_calls (v v' : Value) (xs ys : List GExport) (w : World) (hr : RdW w (.s xs.length (xs.flatMap eExport)) v) (hr' : RdW w (.s ys.length (ys.flatMap eExport)) v') :
    Calls Try.prog 44 #[v, v'] w fun e w' => e = .returned (.bool (sameL eqbExport xs ys)) ∧ Below w.heap.size w w' := by
  obtain ⟨A, c, rfl, ⟨_, _, hl⟩⟩ := hr.slice
  obtain ⟨A', c', rfl, ⟨_, _, hl'⟩⟩ := hr'.slice
  have HR := Lib.hid hr
  have HR' := Lib.hid hr'
  clear hr hr'
  have hneq := run_neq_Export
  by_cases hln : xs.length = ys.length
  · have hlb : ((xs.length : Int) != (ys.length : Int)) = false := by rw [hln]; simp
    go_enter Try.func44, Try.ntmps44
    go_wp2
    go_loopw [13] (fun a wr => ∃ i : Nat, i ≤ xs.length ∧ a = .int .i64 i ∧ Hid (Below w.heap.size w wr) ∧ Hid (∀ (j : Nat) a b, j < i → xs[j]? = some a → ys[j]? = some b → eqbExport a b = true)) (fun a wr => xs.length - (intOf a).toNat)
    case atStart => exact ⟨0, by omega, rfl, Below.refl _ _, fun j a b h => absurd h (Nat.not_lt_zero _)⟩
    case round =>
      obtain ⟨i, hi, rfl, HB, hno⟩ := hrel
      by_cases hlt : i < xs.length
      · obtain ⟨x, hx⟩ : ∃ x, xs[i]? = some x := ⟨xs[i], List.getElem?_eq_getElem hlt⟩
        obtain ⟨y, hy⟩ : ∃ y, ys[i]? = some y := ⟨ys[i], List.getElem?_eq_getElem (by omega)⟩
        obtain ⟨ad, rfl, _, h0, h1, h2⟩ := row_eExport (HR.out.below HB.out) hx
        obtain ⟨ad', rfl, _, h0', h1', h2'⟩ := row_eExport (HR'.out.below HB.out) hy
        have HX := Lib.hid hx
        have HY := Lib.hid hy
        clear hx hy
        cases he : eqbExport x y with
        | false =>
          have HE := Lib.hid (sameL_at (eq := eqbExport) HX.out HY.out he)
          go_wp2
          go_quiet (fail)
          go_wp2
          go_ret
          exact ⟨by rw [HE.out]; rfl, belowN HB.out _⟩
        | true =>
          have HN := Lib.hid (step_eq (eq := eqbExport) hno.out HX.out HY.out he)
          go_wp2
          go_quiet (fail)
          go_wp2
          go_roundw
          case rel => exact ⟨i + 1, by omega, by go_num, belowN HB.out _, HN⟩
          case measure => simp [intOf]; omega
      · have HE := Lib.hid (sameL_all (eq := eqbExport) hln (fun i a b ha hb => hno.out i a b (by have := (List.getElem?_eq_some_iff.1 ha).1; omega) ha hb))
        go_wp2
        go_ret
        exact ⟨by rw [HE.out]; rfl, HB.out⟩
  · have HE := Lib.hid (sameL_len (eq := eqbExport) hln)
    have hlb : ((xs.length : Int) != (ys.length : Int)) = true := by simp; omega
    have hlc : (xs.length == ys.length) = false := by simp; omega
    go_enter Try.func44, Try.ntmps44
    go_wp2
    go_ret
    exact ⟨by rw [HE.out]; rfl, Below.refl _ _⟩

set_option maxHeartbeats 800000 in
set_option maxRecDepth 100000 in
theorem slices_IndexFunc_Export (p : GExport → Bool) (g : Nat) (lb : Array Value) (eg : ∀ args w, (callFunc g args).run Try.prog w = .ok (.enter g args) w) (v : Value) (xs : List GExport) (w : World) (hr : RdW w (.s xs.length (xs.flatMap eExport)) v)
    (hp : ∀ (W : World) (x : GExport) (us : List Value), Below w.heap.size w W → x ∈ xs → RdLW W (eExport x) us → Calls Try.prog g (#[.agg us.toArray] ++ lb) W fun e w' => e = .returned (.bool (p x)) ∧ Below W.heap.size W w') :
    Calls Try.prog 55 #[v, .func (.func g) #[] lb] w fun e w' => e = .returned (.int .i64 (idx p xs)) ∧ Below w.heap.size w w' := by
  obtain ⟨A, c, rfl, ⟨_, _, hl⟩⟩ := hr.slice
  have HR := Lib.hid hr
  have HP := Lib.hid hp
  clear hr hp
  go_enter Try.func55, Try.ntmps55
  go_wp2
  go_loopw [8] (fun a wr => ∃ i : Nat, i ≤ xs.length ∧ a = .int .i64 i ∧ Hid (Below w.heap.size w wr) ∧ Hid (∀ j y, j < i → xs[j]? = some y → p y = false)) (fun a wr => xs.length - (intOf a).toNat)
  case atStart => exact ⟨0, by omega, rfl, Below.refl _ _, no_start⟩
  case round =>
    obtain ⟨i, hi, rfl, HB, hno⟩ := hrel
    by_cases hlt : i < xs.length
    · obtain ⟨x, hx⟩ : ∃ x, xs[i]? = some x := ⟨xs[i], List.getElem?_eq_getElem hlt⟩
      obtain ⟨ad, rfl, hadb, h0, h1, h2⟩ := row_eExport (HR.out.below HB.out) hx
      have hcall := HP.out wr x _ HB.out (List.mem_of_getElem? hx) (mkrd_eExport (x := x))
      have HX := Lib.hid hx
      clear hx
      cases hq : p x with
      | true =>
        rw [hq] at hcall
        have HE := Lib.hid (idx_hit HX.out hq hno.out)
        go_wp2_with (go_at_fn g; refine hcall.mono ?_; rintro e w' ⟨rfl, hb'⟩)
        go_ret
        exact ⟨by rw [HE.out]; rfl, HB.out.trans (hb'.mono HB.out.size)⟩
      | false =>
        rw [hq] at hcall
        have HN := Lib.hid (step_no (p := fun y => p y = false) hno.out HX.out hq)
        go_wp2_with (go_at_fn g; refine hcall.mono ?_; rintro e w' ⟨rfl, hb'⟩)
        go_roundw
        case rel => exact ⟨i + 1, by omega, by go_num, HB.out.trans (hb'.mono HB.out.size), HN⟩
        case measure => simp [intOf]; omega
    · have : i = xs.length := by omega
      subst this
      have HE := Lib.hid (idx_miss (all_of (p := fun y => p y = false) hno.out))
      go_wp2
      go_ret
      exact ⟨by rw [HE.out]; rfl, HB.out⟩

set_option maxHeartbeats 800000 in
set_option maxRecDepth 100000 in
theorem slices_IndexFunc_Question (p : GQuestion → Bool) (g : Nat) (lb : Array Value) (eg : ∀ args w, (callFunc g args).run Try.prog w = .ok (.enter g args) w) (v : Value) (xs : List GQuestion) (w : World) (hr : RdW w (.s xs.length (xs.flatMap eQuestion)) v)
    (hp : ∀ (W : World) (x : GQuestion) (us : List Value), Below w.heap.size w W → x ∈ xs → RdLW W (eQuestion x) us → Calls Try.prog g (#[.agg us.toArray] ++ lb) W fun e w' => e = .returned (.bool (p x)) ∧ Below W.heap.size W w') :
    Calls Try.prog 57 #[v, .func (.func g) #[] lb] w fun e w' => e = .returned (.int .i64 (idx p xs)) ∧ Below w.heap.size w w' := by
  obtain ⟨A, c, rfl, ⟨_, _, hl⟩⟩ := hr.slice
  have HR := Lib.hid hr
  have HP := Lib.hid hp
  clear hr hp
  go_enter Try.func57, Try.ntmps57
  go_wp2
  go_loopw [8] (fun a wr => ∃ i : Nat, i ≤ xs.length ∧ a = .int .i64 i ∧ Hid (Below w.heap.size w wr) ∧ Hid (∀ j y, j < i → xs[j]? = some y → p y = false)) (fun a wr => xs.length - (intOf a).toNat)
  case atStart => exact ⟨0, by omega, rfl, Below.refl _ _, no_start⟩
  case round =>
    obtain ⟨i, hi, rfl, HB, hno⟩ := hrel
    by_cases hlt : i < xs.length
    · obtain ⟨x, hx⟩ : ∃ x, xs[i]? = some x := ⟨xs[i], List.getElem?_eq_getElem hlt⟩
      obtain ⟨ad, rfl, hadb, h0, h1⟩ := row_eQuestion (HR.out.below HB.out) hx
      have hcall := HP.out wr x _ HB.out (List.mem_of_getElem? hx) (mkrd_eQuestion (x := x))
      have HX := Lib.hid hx
      clear hx
      cases hq : p x with
      | true =>
        rw [hq] at hcall
        have HE := Lib.hid (idx_hit HX.out hq hno.out)
        go_wp2_with (go_at_fn g; refine hcall.mono ?_; rintro e w' ⟨rfl, hb'⟩)
        go_ret
        exact ⟨by rw [HE.out]; rfl, HB.out.trans (hb'.mono HB.out.size)⟩
      | false =>
        rw [hq] at hcall
        have HN := Lib.hid (step_no (p := fun y => p y = false) hno.out HX.out hq)
        go_wp2_with (go_at_fn g; refine hcall.mono ?_; rintro e w' ⟨rfl, hb'⟩)
        go_roundw
        case rel => exact ⟨i + 1, by omega, by go_num, HB.out.trans (hb'.mono HB.out.size), HN⟩
        case measure => simp [intOf]; omega
    · have : i = xs.length := by omega
      subst this
      have HE := Lib.hid (idx_miss (all_of (p := fun y => p y = false) hno.out))
      go_wp2
      go_ret
      exact ⟨by rw [HE.out]; rfl, HB.out⟩

set_option maxHeartbeats 800000 in
set_option maxRecDepth 100000 in
theorem slices_Clone_Question (v : Value) (xs : List GQuestion) (w : World) (hr : RdW w (.s xs.length (xs.flatMap eQuestion)) v) (hz : xs.length ≤ 1048576) :
    Calls Try.prog 50 #[v] w fun e w' => ∃ v' fp, e = .returned v' ∧ Own w' (.s xs.length (xs.flatMap eQuestion)) v' fp ∧ Fresh w fp ∧ Below w.heap.size w w' := by
  obtain ⟨A, c, rfl, ⟨hnc, hcc, hl⟩⟩ := hr.slice
  have hcells := hr.cells vals_eQuestion
  have q1 : ∀ (w : World) (a : Option Addr) (n c n' c' : Nat), (binOp .eql 28 (.slice a n c) (.slice none n' c')).run Try.prog w = .ok (.bool a.isNone) w := fun w a n c n' c' => Lib.run_eql_slice_nil w _ _ a n c n' c' Try.underlying28
  have HR := Lib.hid hr
  clear hr
  cases A with
  | none =>
    have h0 : xs.length = 0 := by
      rcases hcells with h | ⟨ad, h, _⟩
      · exact h
      · cases h
    have hxs : xs = [] := List.eq_nil_of_length_eq_zero h0
    subst hxs
    clear hcells
    go_enter Try.func50, Try.ntmps50
    go_wp2
    go_ret
    refine ⟨_, [], rfl, ?_, Fresh.nil _, Below.refl _ _⟩
    rw [Own]
    exact .inl ⟨rfl, ⟨none, 0, rfl, ⟨Nat.le_refl _, by omega, by simp⟩⟩, rfl⟩
  | some ad =>
    have HC : Hid (∀ (j : Nat) u, (xs.flatMap vsQuestion)[j]? = some u → w.cell? (ad.add j) = some u) := by
      rcases hcells with h | ⟨ad', h, _, hc⟩
      · have hxs : xs = [] := List.eq_nil_of_length_eq_zero h
        subst hxs
        exact fun j u hu => by simp at hu
      · injection h with h; subst h; exact hc
    clear hcells
    have HL := Lib.hid (lenv_eQuestion xs)
    have HO := Lib.hid (one_eQuestion xs)
    have h63 : maxLen = 9223372036854775807 := by decide
    go_enter Try.func50, Try.ntmps50
    go_wp2_with (at_builtin; refine wpList_append_own_at _ rfl _ _ 28 rfl w.heap.size 49 _ _ 2 16 Try.underlying28 rfl rfl rfl rfl rfl (by omega) _ _ [] rfl (World.ownsRow_made w #[] 0 (Nat.le_refl _) (Nat.zero_le _) (by simp)) ad xs.length c (xs.flatMap vsQuestion) rfl HL.out ?qc2 HO.out ?qc4 ?qc5 ?qc6 ?_)
    case qc2 =>
      intro j u hj
      exact Lib.cell?_alloc_some _ (HC.out j u hj)
    case qc4 => rw [Nat.zero_add, h63]; omega
    case qc5 => rw [Nat.zero_add]; omega
    case qc6 => simp
    intro v' w1 hown hgrow hnil hblk
    have HG := Lib.hid hgrow
    have HB := Lib.hid hblk
    have HW := Lib.hid hown
    clear hown hgrow hnil hblk
    go_wp2
    go_ret
    obtain ⟨fp, ho, hn, hge⟩ := ownRow_own vals_eQuestion (HW.out) (by omega)
    exact ⟨v', fp, rfl, ho, ⟨hn, hge⟩, ((Below.refl _ w).alloc (Nat.le_refl _) _).grown HG.out (by simp) (by intro k hk; simp [Value.ownBlock] at hk; omega)⟩

set_option maxHeartbeats 800000 in
set_option maxRecDepth 100000 in
theorem slices_Clone_Export (v : Value) (xs : List GExport) (w : World) (hr : RdW w (.s xs.length (xs.flatMap eExport)) v) (hz : xs.length ≤ 1048576) :
    Calls Try.prog 53 #[v] w fun e w' => ∃ v' fp, e = .returned v' ∧ Own w' (.s xs.length (xs.flatMap eExport)) v' fp ∧ Fresh w fp ∧ Below w.heap.size w w' := by
  obtain ⟨A, c, rfl, ⟨hnc, hcc, hl⟩⟩ := hr.slice
  have hcells := hr.cells vals_eExport
  have q1 : ∀ (w : World) (a : Option Addr) (n c n' c' : Nat), (binOp .eql 27 (.slice a n c) (.slice none n' c')).run Try.prog w = .ok (.bool a.isNone) w := fun w a n c n' c' => Lib.run_eql_slice_nil w _ _ a n c n' c' Try.underlying27
  have HR := Lib.hid hr
  clear hr
  cases A with
  | none =>
    have h0 : xs.length = 0 := by
      rcases hcells with h | ⟨ad, h, _⟩
      · exact h
      · cases h
    have hxs : xs = [] := List.eq_nil_of_length_eq_zero h0
    subst hxs
    clear hcells
    go_enter Try.func53, Try.ntmps53
    go_wp2
    go_ret
    refine ⟨_, [], rfl, ?_, Fresh.nil _, Below.refl _ _⟩
    rw [Own]
    exact .inl ⟨rfl, ⟨none, 0, rfl, ⟨Nat.le_refl _, by omega, by simp⟩⟩, rfl⟩
  | some ad =>
    have HC : Hid (∀ (j : Nat) u, (xs.flatMap vsExport)[j]? = some u → w.cell? (ad.add j) = some u) := by
      rcases hcells with h | ⟨ad', h, _, hc⟩
      · have hxs : xs = [] := List.eq_nil_of_length_eq_zero h
        subst hxs
        exact fun j u hu => by simp at hu
      · injection h with h; subst h; exact hc
    clear hcells
    have HL := Lib.hid (lenv_eExport xs)
    have HO := Lib.hid (one_eExport xs)
    have h63 : maxLen = 9223372036854775807 := by decide
    go_enter Try.func53, Try.ntmps53
    go_wp2_with (at_builtin; refine wpList_append_own_at _ rfl _ _ 27 rfl w.heap.size 56 _ _ 3 24 Try.underlying27 rfl rfl rfl rfl rfl (by omega) _ _ [] rfl (World.ownsRow_made w #[] 0 (Nat.le_refl _) (Nat.zero_le _) (by simp)) ad xs.length c (xs.flatMap vsExport) rfl HL.out ?qc2 HO.out ?qc4 ?qc5 ?qc6 ?_)
    case qc2 =>
      intro j u hj
      exact Lib.cell?_alloc_some _ (HC.out j u hj)
    case qc4 => rw [Nat.zero_add, h63]; omega
    case qc5 => rw [Nat.zero_add]; omega
    case qc6 => simp
    intro v' w1 hown hgrow hnil hblk
    have HG := Lib.hid hgrow
    have HB := Lib.hid hblk
    have HW := Lib.hid hown
    clear hown hgrow hnil hblk
    go_wp2
    go_ret
    obtain ⟨fp, ho, hn, hge⟩ := ownRow_own vals_eExport (HW.out) (by omega)
    exact ⟨v', fp, rfl, ho, ⟨hn, hge⟩, ((Below.refl _ w).alloc (Nat.le_refl _) _).grown HG.out (by simp) (by intro k hk; simp [Value.ownBlock] at hk; omega)⟩

set_option maxHeartbeats 800000 in
set_option maxRecDepth 100000 in
theorem spec_l10Same_calls (v v' : Value) (xs ys : List GQuestion) (w : World) (hr : RdW w (.s xs.length (xs.flatMap eQuestion)) v) (hr' : RdW w (.s ys.length (ys.flatMap eQuestion)) v') :
    Calls Try.prog 43 #[v, v'] w fun e w' => e = .returned (.bool (sameL eqbQuestion xs ys)) ∧ Below w.heap.size w w' := by
  obtain ⟨A, c, rfl, ⟨_, _, hl⟩⟩ := hr.slice
  obtain ⟨A', c', rfl, ⟨_, _, hl'⟩⟩ := hr'.slice
  have HR := Lib.hid hr
  have HR' := Lib.hid hr'
  clear hr hr'
  have hneq := run_neq_Question
  by_cases hln : xs.length = ys.length
  · have hlb : ((xs.length : Int) != (ys.length : Int)) = false := by rw [hln]; simp
    go_enter Try.func43, Try.ntmps43
    go_wp2
    go_loopw [5] (fun a wr => ∃ i : Nat, i ≤ xs.length ∧ a = .int .i64 i ∧ Hid (Below w.heap.size w wr) ∧ Hid (∀ (j : Nat) a b, j < i → xs[j]? = some a → ys[j]? = some b → eqbQuestion a b = true)) (fun a wr => xs.length - (intOf a).toNat)
    case atStart => exact ⟨0, by omega, rfl, Below.refl _ _, fun j a b h => absurd h (Nat.not_lt_zero _)⟩
    case round =>
      obtain ⟨i, hi, rfl, HB, hno⟩ := hrel
      by_cases hlt : i < xs.length
      · obtain ⟨x, hx⟩ : ∃ x, xs[i]? = some x := ⟨xs[i], List.getElem?_eq_getElem hlt⟩
        obtain ⟨y, hy⟩ : ∃ y, ys[i]? = some y := ⟨ys[i], List.getElem?_eq_getElem (by omega)⟩
        obtain ⟨ad, rfl, _, h0, h1⟩ := row_eQuestion (HR.out.below HB.out) hx
        obtain ⟨ad', rfl, _, h0', h1'⟩ := row_eQuestion (HR'.out.below HB.out) hy
        have HX := Lib.hid hx
        have HY := Lib.hid hy
        clear hx hy
        cases he : eqbQuestion x y with
        | false =>
          have HE := Lib.hid (sameL_at (eq := eqbQuestion) HX.out HY.out he)
          go_wp2
          go_quiet (fail)
          go_wp2
          go_ret
          exact ⟨by rw [HE.out]; rfl, belowN HB.out _⟩
        | true =>
          have HN := Lib.hid (step_eq (eq := eqbQuestion) hno.out HX.out HY.out he)
          go_wp2
          go_quiet (fail)
          go_wp2
          go_roundw
          case rel => exact ⟨i + 1, by omega, by go_num, belowN HB.out _, HN⟩
          case measure => simp [intOf]; omega
      · have HE := Lib.hid (sameL_all (eq := eqbQuestion) hln (fun i a b ha hb => hno.out i a b (by have := (List.getElem?_eq_some_iff.1 ha).1; omega) ha hb))
        go_wp2
        go_ret
        exact ⟨by rw [HE.out]; rfl, HB.out⟩
  · have HE := Lib.hid (sameL_len (eq := eqbQuestion) hln)
    have hlb : ((xs.length : Int) != (ys.length : Int)) = true := by simp; omega
    have hlc : (xs.length == ys.length) = false := by simp; omega
    go_enter Try.func43, Try.ntmps43
    go_wp2
    go_ret
    exact ⟨by rw [HE.out]; rfl, Below.refl _ _⟩

end Go.Proofs.Ytagkomochjnjoaa
