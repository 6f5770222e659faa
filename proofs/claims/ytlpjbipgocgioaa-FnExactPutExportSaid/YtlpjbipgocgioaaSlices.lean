import Derived.Test.YtlpjbipgocgioaaProg
import Derived.Test.YtlpjbipgocgioaaTypes
import Derived.StillTailTactics
import Derived.Deep.RegionHeld3
import Derived.Laws.IdiomStrings
import Derived.Test.YtlpjbipgocgioaaAppend
import Derived.Laws.StructEq
import Derived.Lib.SliceRun
import Derived.Shelf.RegionOpenPlain
namespace Go.Proofs.Ytlpjbipgocgioaa
open Go.RowKit
set_option linter.unusedVariables false
set_option linter.unusedSimpArgs false

theorem run_eql_Question (x y : GQuestion) (w : World) : Sem.run Try.prog (binOp .eql 41 (.agg #[.int .i64 x.Id, .int .i64 x.Promise]) (.agg #[.int .i64 y.Id, .int .i64 y.Promise])) w = .ok (.bool (eqbQuestion x y)) w := by
  have hS41 : Try.prog.underlying 41 = some (.struct (Try.prog.fieldsOf 41)) := by kernel_rfl
  have hp41 : Try.prog.stoodInHeld 41 = false := by kernel_rfl
  have u3 := Try.underlying3
  rw [run_eql_struct, show (10000 : Nat) = 9999 + 1 from rfl, run_equalIn_struct w 9999 41 _ _ hS41 hp41]
  simp only [Program.fieldsOf, Try.underlying41]
  go_simp
  unfold eqbQuestion
  repeat' split
  all_goals simp_all
theorem run_neq_Question (x y : GQuestion) (w : World) : Sem.run Try.prog (binOp .neq 41 (.agg #[.int .i64 x.Id, .int .i64 x.Promise]) (.agg #[.int .i64 y.Id, .int .i64 y.Promise])) w = .ok (.bool (!eqbQuestion x y)) w := by
  have hS41 : Try.prog.underlying 41 = some (.struct (Try.prog.fieldsOf 41)) := by kernel_rfl
  have hp41 : Try.prog.stoodInHeld 41 = false := by kernel_rfl
  have u3 := Try.underlying3
  rw [run_neq_struct, show (10000 : Nat) = 9999 + 1 from rfl, run_equalIn_struct w 9999 41 _ _ hS41 hp41]
  simp only [Program.fieldsOf, Try.underlying41]
  go_simp
  unfold eqbQuestion
  repeat' split
  all_goals simp_all

theorem run_eql_Export (x y : GExport) (w : World) : Sem.run Try.prog (binOp .eql 51 (.agg #[.int .i64 x.Pos, .int .i64 x.Entity, .int .i64 x.Count]) (.agg #[.int .i64 y.Pos, .int .i64 y.Entity, .int .i64 y.Count])) w = .ok (.bool (eqbExport x y)) w := by
  have hS51 : Try.prog.underlying 51 = some (.struct (Try.prog.fieldsOf 51)) := by kernel_rfl
  have hp51 : Try.prog.stoodInHeld 51 = false := by kernel_rfl
  have u3 := Try.underlying3
  rw [run_eql_struct, show (10000 : Nat) = 9999 + 1 from rfl, run_equalIn_struct w 9999 51 _ _ hS51 hp51]
  simp only [Program.fieldsOf, Try.underlying51]
  go_simp
  unfold eqbExport
  repeat' split
  all_goals simp_all
theorem run_neq_Export (x y : GExport) (w : World) : Sem.run Try.prog (binOp .neq 51 (.agg #[.int .i64 x.Pos, .int .i64 x.Entity, .int .i64 x.Count]) (.agg #[.int .i64 y.Pos, .int .i64 y.Entity, .int .i64 y.Count])) w = .ok (.bool (!eqbExport x y)) w := by
  have hS51 : Try.prog.underlying 51 = some (.struct (Try.prog.fieldsOf 51)) := by kernel_rfl
  have hp51 : Try.prog.stoodInHeld 51 = false := by kernel_rfl
  have u3 := Try.underlying3
  rw [run_neq_struct, show (10000 : Nat) = 9999 + 1 from rfl, run_equalIn_struct w 9999 51 _ _ hS51 hp51]
  simp only [Program.fieldsOf, Try.underlying51]
  go_simp
  unfold eqbExport
  repeat' split
  all_goals simp_all

set_option maxHeartbeats 800000 in
set_option maxRecDepth 100000 in
theorem slices_IndexFunc_Export (p : GExport → Bool) (g : Nat) (lb : Array Value) (eg : ∀ args w, (callFunc g args).run Try.prog w = .ok (.enter g args) w) (v : Value) (xs : List GExport) (w : World) (hr : RdW w (.s xs.length (xs.flatMap eExport)) v)
    (hp : ∀ (W : World) (x : GExport) (us : List Value), Below w.heap.size w W → x ∈ xs → RdLW W (eExport x) us → Calls Try.prog g (#[.agg us.toArray] ++ lb) W fun e w' => e = .returned (.bool (p x)) ∧ Below W.heap.size W w') :
    Calls Try.prog 35 #[v, .func (.func g) #[] lb] w fun e w' => e = .returned (.int .i64 (idx p xs)) ∧ Below w.heap.size w w' := by
  obtain ⟨A, c, rfl, ⟨_, _, hl⟩⟩ := hr.slice
  have HR := Lib.hid hr
  have HP := Lib.hid hp
  clear hr hp
  go_enter Try.func35, Try.ntmps35
  go_wp2
  go_loopw [8] (fun a wr => ∃ i : Nat, i ≤ xs.length ∧ a = .int .i64 i ∧ Hid (Below w.heap.size w wr) ∧ Hid (∀ j y, j < i → xs[j]? = some y → p y = false)) (fun a wr => xs.length - (intOf a).toNat)
  case atStart => exact ⟨0, by omega, rfl, Below.refl _ _, no_start⟩
  case round =>
    obtain ⟨i, hi, rfl, HB, hno⟩ := hrel
    by_cases hlt : i < xs.length
    · obtain ⟨x, hx⟩ : ∃ x, xs[i]? = some x := ⟨xs[i], List.getElem?_eq_getElem hlt⟩
      obtain ⟨ad, rfl, hadb, h0, h1, h2⟩ := row_eExport (HR.out.below HB.out) hx
      have hcall := HP.out wr x _ HB.out (List.mem_of_getElem? hx) (mkrd_eExport (x := x))
      have HX := Lib.hid hx
      clear hx
      cases hq : p x with
      | true =>
        rw [hq] at hcall
        have HE := Lib.hid (idx_hit HX.out hq hno.out)
        go_wp2_with (go_at_fn g; refine hcall.mono ?_; rintro e w' ⟨rfl, hb'⟩)
        go_ret
        exact ⟨by rw [HE.out]; rfl, HB.out.trans (hb'.mono HB.out.size)⟩
      | false =>
        rw [hq] at hcall
        have HN := Lib.hid (step_no (p := fun y => p y = false) hno.out HX.out hq)
        go_wp2_with (go_at_fn g; refine hcall.mono ?_; rintro e w' ⟨rfl, hb'⟩)
        go_roundw
        case rel => exact ⟨i + 1, by omega, by go_num, HB.out.trans (hb'.mono HB.out.size), HN⟩
        case measure => simp [intOf]; omega
    · have : i = xs.length := by omega
      subst this
      have HE := Lib.hid (idx_miss (all_of (p := fun y => p y = false) hno.out))
      go_wp2
      go_ret
      exact ⟨by rw [HE.out]; rfl, HB.out⟩

set_option maxHeartbeats 800000 in
set_option maxRecDepth 100000 in
theorem slices_Clone_Question_row (v : Value) (xs : List GQuestion) (w : World) (hr : RdW w (.s xs.length (xs.flatMap eQuestion)) v) (hz : xs.length ≤ 1048576) :
    Calls Try.prog 31 #[v] w fun e w' => ∃ A' c', e = .returned (.slice A' xs.length c') ∧ w'.ownsRow w.heap.size 41 2 (.slice A' xs.length c') xs.length (xs.flatMap vsQuestion) ∧ Below w.heap.size w w' := by
  obtain ⟨A, c, rfl, ⟨hnc, hcc, hl⟩⟩ := hr.slice
  have hcells := hr.cells vals_eQuestion
  have q1 : ∀ (w : World) (a : Option Addr) (n c n' c' : Nat), (binOp .eql 28 (.slice a n c) (.slice none n' c')).run Try.prog w = .ok (.bool a.isNone) w := fun w a n c n' c' => Lib.run_eql_slice_nil w _ _ a n c n' c' Try.underlying28
  have HR := Lib.hid hr
  clear hr
  cases A with
  | none =>
    have h0 : xs.length = 0 := by
      rcases hcells with h | ⟨ad, h, _⟩
      · exact h
      · cases h
    have hxs : xs = [] := List.eq_nil_of_length_eq_zero h0
    subst hxs
    clear hcells
    go_enter Try.func31, Try.ntmps31
    go_wp2
    go_ret
    exact ⟨none, 0, rfl, World.ownsRow_nil _ _ _ _, Below.refl _ _⟩
  | some ad =>
    clear hcells
    go_enter Try.func31, Try.ntmps31
    go_wp2_with (at_builtin; refine wpList_copy_rd rfl _ _ 28 rfl (w.heap.size) 41 _ _ 2 16 Try.underlying28 rfl rfl rfl rfl rfl (by omega) _ rfl (World.ownsRow_made w #[] 0 (Nat.le_refl _) (Nat.zero_le _) (by simp)) vals_eQuestion xs (one_eQuestion xs) (lenv_eQuestion xs) _ _ rfl (HR.out.alloc _) (by omega) (by omega) (by simp) ?_)
    intro A' c' w1 hown hgrow
    have HG := Lib.hid hgrow
    have HW := Lib.hid hown
    clear hown hgrow
    go_wp2
    go_ret
    exact ⟨A', c', rfl, HW.out, ((Below.refl _ w).alloc (Nat.le_refl _) _).trans (grown_below HG.out (by simp) (by intro k hk; simp [Value.ownBlock] at hk; omega))⟩
set_option maxHeartbeats 800000 in
set_option maxRecDepth 100000 in
theorem slices_Clone_Question_calls (v : Value) (xs : List GQuestion) (w : World) (hr : RdW w (.s xs.length (xs.flatMap eQuestion)) v) (hz : xs.length ≤ 1048576) :
    Calls Try.prog 31 #[v] w fun e w' => ∃ v' fp, e = .returned v' ∧ Own w' (.s xs.length (xs.flatMap eQuestion)) v' fp ∧ Fresh w fp ∧ Below w.heap.size w w' := by
  refine (slices_Clone_Question_row v xs w hr hz).mono fun e w' ⟨A', c', he, ho, hb⟩ => ?_
  obtain ⟨fp, ho, hn, hge⟩ := ownRow_own vals_eQuestion ho (by omega)
  exact ⟨_, fp, he, ho, ⟨hn, hge⟩, hb⟩

set_option maxHeartbeats 800000 in
set_option maxRecDepth 100000 in
theorem slices_Clone_Export_row (v : Value) (xs : List GExport) (w : World) (hr : RdW w (.s xs.length (xs.flatMap eExport)) v) (hz : xs.length ≤ 1048576) :
    Calls Try.prog 30 #[v] w fun e w' => ∃ A' c', e = .returned (.slice A' xs.length c') ∧ w'.ownsRow w.heap.size 51 3 (.slice A' xs.length c') xs.length (xs.flatMap vsExport) ∧ Below w.heap.size w w' := by
  obtain ⟨A, c, rfl, ⟨hnc, hcc, hl⟩⟩ := hr.slice
  have hcells := hr.cells vals_eExport
  have q1 : ∀ (w : World) (a : Option Addr) (n c n' c' : Nat), (binOp .eql 27 (.slice a n c) (.slice none n' c')).run Try.prog w = .ok (.bool a.isNone) w := fun w a n c n' c' => Lib.run_eql_slice_nil w _ _ a n c n' c' Try.underlying27
  have HR := Lib.hid hr
  clear hr
  cases A with
  | none =>
    have h0 : xs.length = 0 := by
      rcases hcells with h | ⟨ad, h, _⟩
      · exact h
      · cases h
    have hxs : xs = [] := List.eq_nil_of_length_eq_zero h0
    subst hxs
    clear hcells
    go_enter Try.func30, Try.ntmps30
    go_wp2
    go_ret
    exact ⟨none, 0, rfl, World.ownsRow_nil _ _ _ _, Below.refl _ _⟩
  | some ad =>
    clear hcells
    go_enter Try.func30, Try.ntmps30
    go_wp2_with (at_builtin; refine wpList_copy_rd rfl _ _ 27 rfl (w.heap.size) 51 _ _ 3 24 Try.underlying27 rfl rfl rfl rfl rfl (by omega) _ rfl (World.ownsRow_made w #[] 0 (Nat.le_refl _) (Nat.zero_le _) (by simp)) vals_eExport xs (one_eExport xs) (lenv_eExport xs) _ _ rfl (HR.out.alloc _) (by omega) (by omega) (by simp) ?_)
    intro A' c' w1 hown hgrow
    have HG := Lib.hid hgrow
    have HW := Lib.hid hown
    clear hown hgrow
    go_wp2
    go_ret
    exact ⟨A', c', rfl, HW.out, ((Below.refl _ w).alloc (Nat.le_refl _) _).trans (grown_below HG.out (by simp) (by intro k hk; simp [Value.ownBlock] at hk; omega))⟩
set_option maxHeartbeats 800000 in
set_option maxRecDepth 100000 in
theorem slices_Clone_Export_calls (v : Value) (xs : List GExport) (w : World) (hr : RdW w (.s xs.length (xs.flatMap eExport)) v) (hz : xs.length ≤ 1048576) :
    Calls Try.prog 30 #[v] w fun e w' => ∃ v' fp, e = .returned v' ∧ Own w' (.s xs.length (xs.flatMap eExport)) v' fp ∧ Fresh w fp ∧ Below w.heap.size w w' := by
  refine (slices_Clone_Export_row v xs w hr hz).mono fun e w' ⟨A', c', he, ho, hb⟩ => ?_
  obtain ⟨fp, ho, hn, hge⟩ := ownRow_own vals_eExport ho (by omega)
  exact ⟨_, fp, he, ho, ⟨hn, hge⟩, hb⟩

end Go.Proofs.Ytlpjbipgocgioaa
