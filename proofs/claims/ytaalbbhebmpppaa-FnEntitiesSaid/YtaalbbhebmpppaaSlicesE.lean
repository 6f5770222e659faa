import Derived.Test.YtaalbbhebmpppaaProg
import Derived.Test.YtaalbbhebmpppaaTypes
import Derived.StillTailTactics
import Derived.Deep.RegionHeld3
import Derived.Laws.IdiomStrings
import Derived.Test.YtaalbbhebmpppaaAppend
import Derived.Laws.StructEq
import Derived.Lib.SliceRun
import Derived.Shelf.RegionOpenPlain
import Derived.Test.YtaalbbhebmpppaaSlices
namespace Go.Proofs.Ytaalbbhebmpppaa
open Go.RowKit
set_option linter.unusedVariables false
set_option linter.unusedSimpArgs false

set_option maxHeartbeats 800000 in
set_option maxRecDepth 100000 in
theorem slices_Equal_Value_calls (v v' : Value) (xs ys : List GValue) (w : World) (hr : RdW w (.s xs.length (xs.flatMap eValue)) v) (hr' : RdW w (.s ys.length (ys.flatMap eValue)) v') :
    Calls Try.prog 59 #[v, v'] w fun e w' => e = .returned (.bool (sameL eqbValue xs ys)) ∧ Below w.heap.size w w' := by
  obtain ⟨A, c, rfl, ⟨_, _, hl⟩⟩ := hr.slice
  obtain ⟨A', c', rfl, ⟨_, _, hl'⟩⟩ := hr'.slice
  have HR := Lib.hid hr
  have HR' := Lib.hid hr'
  clear hr hr'
  have hneq := run_neq_Value
  by_cases hln : xs.length = ys.length
  · have hlb : ((xs.length : Int) != (ys.length : Int)) = false := by rw [hln]; simp
    go_enter Try.func59, Try.ntmps59
    go_wp2
    go_loopw [13] (fun a wr => ∃ i : Nat, i ≤ xs.length ∧ a = .int .i64 i ∧ Hid (Below w.heap.size w wr) ∧ Hid (∀ (j : Nat) a b, j < i → xs[j]? = some a → ys[j]? = some b → eqbValue a b = true)) (fun a wr => xs.length - (intOf a).toNat)
    case atStart => exact ⟨0, by omega, rfl, Below.refl _ _, fun j a b h => absurd h (Nat.not_lt_zero _)⟩
    case round =>
      obtain ⟨i, hi, rfl, HB, hno⟩ := hrel
      by_cases hlt : i < xs.length
      · obtain ⟨x, hx⟩ : ∃ x, xs[i]? = some x := ⟨xs[i], List.getElem?_eq_getElem hlt⟩
        obtain ⟨y, hy⟩ : ∃ y, ys[i]? = some y := ⟨ys[i], List.getElem?_eq_getElem (by omega)⟩
        obtain ⟨ad, rfl, _, h0, h1⟩ := row_eValue (HR.out.below HB.out) hx
        obtain ⟨ad', rfl, _, h0', h1'⟩ := row_eValue (HR'.out.below HB.out) hy
        have HX := Lib.hid hx
        have HY := Lib.hid hy
        clear hx hy
        cases he : eqbValue x y with
        | false =>
          have HE := Lib.hid (sameL_at (eq := eqbValue) HX.out HY.out he)
          go_wp2
          go_quiet (fail)
          go_wp2
          go_ret
          exact ⟨by rw [HE.out]; rfl, belowN HB.out _⟩
        | true =>
          have HN := Lib.hid (step_eq (eq := eqbValue) hno.out HX.out HY.out he)
          go_wp2
          go_quiet (fail)
          go_wp2
          go_roundw
          case rel => exact ⟨i + 1, by omega, by go_num, belowN HB.out _, HN⟩
          case measure => simp [intOf]; omega
      · have HE := Lib.hid (sameL_all (eq := eqbValue) hln (fun i a b ha hb => hno.out i a b (by have := (List.getElem?_eq_some_iff.1 ha).1; omega) ha hb))
        go_wp2
        go_ret
        exact ⟨by rw [HE.out]; rfl, HB.out⟩
  · have HE := Lib.hid (sameL_len (eq := eqbValue) hln)
    have hlb : ((xs.length : Int) != (ys.length : Int)) = true := by simp; omega
    have hlc : (xs.length == ys.length) = false := by simp; omega
    go_enter Try.func59, Try.ntmps59
    go_wp2
    go_ret
    exact ⟨by rw [HE.out]; rfl, Below.refl _ _⟩

set_option maxHeartbeats 800000 in
set_option maxRecDepth 100000 in
theorem slices_Equal_Asker_calls (v v' : Value) (xs ys : List GAsker) (w : World) (hr : RdW w (.s xs.length (xs.flatMap eAsker)) v) (hr' : RdW w (.s ys.length (ys.flatMap eAsker)) v') :
    Calls Try.prog 61 #[v, v'] w fun e w' => e = .returned (.bool (sameL eqbAsker xs ys)) ∧ Below w.heap.size w w' := by
  obtain ⟨A, c, rfl, ⟨_, _, hl⟩⟩ := hr.slice
  obtain ⟨A', c', rfl, ⟨_, _, hl'⟩⟩ := hr'.slice
  have HR := Lib.hid hr
  have HR' := Lib.hid hr'
  clear hr hr'
  have hneq := run_neq_Asker
  by_cases hln : xs.length = ys.length
  · have hlb : ((xs.length : Int) != (ys.length : Int)) = false := by rw [hln]; simp
    go_enter Try.func61, Try.ntmps61
    go_wp2
    go_loopw [13] (fun a wr => ∃ i : Nat, i ≤ xs.length ∧ a = .int .i64 i ∧ Hid (Below w.heap.size w wr) ∧ Hid (∀ (j : Nat) a b, j < i → xs[j]? = some a → ys[j]? = some b → eqbAsker a b = true)) (fun a wr => xs.length - (intOf a).toNat)
    case atStart => exact ⟨0, by omega, rfl, Below.refl _ _, fun j a b h => absurd h (Nat.not_lt_zero _)⟩
    case round =>
      obtain ⟨i, hi, rfl, HB, hno⟩ := hrel
      by_cases hlt : i < xs.length
      · obtain ⟨x, hx⟩ : ∃ x, xs[i]? = some x := ⟨xs[i], List.getElem?_eq_getElem hlt⟩
        obtain ⟨y, hy⟩ : ∃ y, ys[i]? = some y := ⟨ys[i], List.getElem?_eq_getElem (by omega)⟩
        obtain ⟨ad, rfl, _, h0, h1⟩ := row_eAsker (HR.out.below HB.out) hx
        obtain ⟨ad', rfl, _, h0', h1'⟩ := row_eAsker (HR'.out.below HB.out) hy
        have HX := Lib.hid hx
        have HY := Lib.hid hy
        clear hx hy
        cases he : eqbAsker x y with
        | false =>
          have HE := Lib.hid (sameL_at (eq := eqbAsker) HX.out HY.out he)
          go_wp2
          go_quiet (fail)
          go_wp2
          go_ret
          exact ⟨by rw [HE.out]; rfl, belowN HB.out _⟩
        | true =>
          have HN := Lib.hid (step_eq (eq := eqbAsker) hno.out HX.out HY.out he)
          go_wp2
          go_quiet (fail)
          go_wp2
          go_roundw
          case rel => exact ⟨i + 1, by omega, by go_num, belowN HB.out _, HN⟩
          case measure => simp [intOf]; omega
      · have HE := Lib.hid (sameL_all (eq := eqbAsker) hln (fun i a b ha hb => hno.out i a b (by have := (List.getElem?_eq_some_iff.1 ha).1; omega) ha hb))
        go_wp2
        go_ret
        exact ⟨by rw [HE.out]; rfl, HB.out⟩
  · have HE := Lib.hid (sameL_len (eq := eqbAsker) hln)
    have hlb : ((xs.length : Int) != (ys.length : Int)) = true := by simp; omega
    have hlc : (xs.length == ys.length) = false := by simp; omega
    go_enter Try.func61, Try.ntmps61
    go_wp2
    go_ret
    exact ⟨by rw [HE.out]; rfl, Below.refl _ _⟩

set_option maxHeartbeats 800000 in
set_option maxRecDepth 100000 in
theorem slices_Clone_Value_row (v : Value) (xs : List GValue) (w : World) (hr : RdW w (.s xs.length (xs.flatMap eValue)) v) (hz : xs.length ≤ 1048576) :
    Calls Try.prog 51 #[v] w fun e w' => ∃ A' c', e = .returned (.slice A' xs.length c') ∧ w'.ownsRow w.heap.size 33 2 (.slice A' xs.length c') xs.length (xs.flatMap vsValue) ∧ Below w.heap.size w w' := by
  obtain ⟨A, c, rfl, ⟨hnc, hcc, hl⟩⟩ := hr.slice
  have hcells := hr.cells vals_eValue
  have q1 : ∀ (w : World) (a : Option Addr) (n c n' c' : Nat), (binOp .eql 32 (.slice a n c) (.slice none n' c')).run Try.prog w = .ok (.bool a.isNone) w := fun w a n c n' c' => Lib.run_eql_slice_nil w _ _ a n c n' c' Try.underlying32
  have HR := Lib.hid hr
  clear hr
  cases A with
  | none =>
    have h0 : xs.length = 0 := by
      rcases hcells with h | ⟨ad, h, _⟩
      · exact h
      · cases h
    have hxs : xs = [] := List.eq_nil_of_length_eq_zero h0
    subst hxs
    clear hcells
    go_enter Try.func51, Try.ntmps51
    go_wp2
    go_ret
    exact ⟨none, 0, rfl, World.ownsRow_nil _ _ _ _, Below.refl _ _⟩
  | some ad =>
    clear hcells
    go_enter Try.func51, Try.ntmps51
    go_wp2_with (at_builtin; refine wpList_copy_rd rfl _ _ 32 rfl (w.heap.size) 33 _ _ 2 16 Try.underlying32 rfl rfl rfl rfl rfl (by omega) _ rfl (World.ownsRow_made w #[] 0 (Nat.le_refl _) (Nat.zero_le _) (by simp)) vals_eValue xs (one_eValue xs) (lenv_eValue xs) _ _ rfl (HR.out.alloc _) (by omega) (by omega) (by simp) ?_)
    intro A' c' w1 hown hgrow
    have HG := Lib.hid hgrow
    have HW := Lib.hid hown
    clear hown hgrow
    go_wp2
    go_ret
    exact ⟨A', c', rfl, HW.out, ((Below.refl _ w).alloc (Nat.le_refl _) _).trans (grown_below HG.out (by simp) (by intro k hk; simp [Value.ownBlock] at hk; omega))⟩
set_option maxHeartbeats 800000 in
set_option maxRecDepth 100000 in
theorem slices_Clone_Value_calls (v : Value) (xs : List GValue) (w : World) (hr : RdW w (.s xs.length (xs.flatMap eValue)) v) (hz : xs.length ≤ 1048576) :
    Calls Try.prog 51 #[v] w fun e w' => ∃ v' fp, e = .returned v' ∧ Own w' (.s xs.length (xs.flatMap eValue)) v' fp ∧ Fresh w fp ∧ Below w.heap.size w w' := by
  refine (slices_Clone_Value_row v xs w hr hz).mono fun e w' ⟨A', c', he, ho, hb⟩ => ?_
  obtain ⟨fp, ho, hn, hge⟩ := ownRow_own vals_eValue ho (by omega)
  exact ⟨_, fp, he, ho, ⟨hn, hge⟩, hb⟩

set_option maxHeartbeats 800000 in
set_option maxRecDepth 100000 in
theorem slices_EqualFunc_Sent (eq : GSent → GSent → Bool) (g : Nat) (lb : Array Value) (eg : ∀ args w, (callFunc g args).run Try.prog w = .ok (.enter g args) w) (v v' : Value) (xs ys : List GSent) (w : World) (hr : RdW w (.s xs.length (xs.flatMap eSent)) v) (hr' : RdW w (.s ys.length (ys.flatMap eSent)) v')
    (hp : ∀ (W : World) (x y : GSent) (us us' : List Value), Below w.heap.size w W → x ∈ xs → y ∈ ys → RdLW W (eSent x) us → RdLW W (eSent y) us' → Calls Try.prog g (#[.agg us.toArray, .agg us'.toArray] ++ lb) W fun e w' => e = .returned (.bool (eq x y)) ∧ Below W.heap.size W w') :
    Calls Try.prog 82 #[v, v', .func (.func g) #[] lb] w fun e w' => e = .returned (.bool (sameL eq xs ys)) ∧ Below w.heap.size w w' := by
  obtain ⟨A, c, rfl, ⟨_, _, hl⟩⟩ := hr.slice
  obtain ⟨A', c', rfl, ⟨_, _, hl'⟩⟩ := hr'.slice
  have HR := Lib.hid hr
  have HR' := Lib.hid hr'
  have HP := Lib.hid hp
  clear hr hr' hp
  by_cases hln : xs.length = ys.length
  · have hlb : ((xs.length : Int) != (ys.length : Int)) = false := by rw [hln]; simp
    have HLN := Lib.hid hln
    clear hln
    go_enter Try.func82, Try.ntmps82
    go_wp2
    clear hlb
    go_loopw [17] (fun a wr => ∃ i : Nat, i ≤ xs.length ∧ a = .int .i64 i ∧ Hid (Below w.heap.size w wr) ∧ Hid (∀ (j : Nat) a b, j < i → xs[j]? = some a → ys[j]? = some b → eq a b = true)) (fun a wr => xs.length - (intOf a).toNat)
    case atStart => exact ⟨0, by omega, rfl, Below.refl _ _, fun j a b h => absurd h (Nat.not_lt_zero _)⟩
    case round =>
      obtain ⟨i, hi, rfl, HB, hno⟩ := hrel
      by_cases hlt : i < xs.length
      · have hlt' : i < ys.length := by have := HLN.out; omega
        obtain ⟨x, hx⟩ : ∃ x, xs[i]? = some x := ⟨xs[i], List.getElem?_eq_getElem hlt⟩
        obtain ⟨y, hy⟩ : ∃ y, ys[i]? = some y := ⟨ys[i], List.getElem?_eq_getElem hlt'⟩
        obtain ⟨ad, v2, rfl, hadb, h0, h1, h2, h3, h4, h5, h6, k2⟩ := row_eSent (HR.out.below HB.out) hx
        obtain ⟨A2, c2, rfl, -⟩ := k2.slice
        have hbk : (ad.add (i * 7)).block < wr.heap.size := by rw [block_of_add]; exact hadb
        obtain ⟨ad', v2', rfl, hadb', h0', h1', h2', h3', h4', h5', h6', k2'⟩ := row_eSent (HR'.out.below HB.out) hy
        obtain ⟨A2', c2', rfl, -⟩ := k2'.slice
        have hbk' : (ad'.add (i * 7)).block < wr.heap.size := by rw [block_of_add]; exact hadb'
        have hcall := HP.out ((wr.alloc (.cells #[.int .i64 x.Target, .string x.Name, .slice A2 (x.Args).length c2, .int .i64 x.Result, .int .i64 x.Tag.Vat, .int .i64 x.Tag.Entity, .int .i64 x.Tag.Seq] 71)).alloc (.cells #[.int .i64 y.Target, .string y.Name, .slice A2' (y.Args).length c2', .int .i64 y.Result, .int .i64 y.Tag.Vat, .int .i64 y.Tag.Entity, .int .i64 y.Tag.Seq] 71)) x y _ _ (HB.out.trans ((((Below.refl wr.heap.size wr).alloc (Nat.le_refl _) _).alloc (by simp) _).mono HB.out.size)) (List.mem_of_getElem? hx) (List.mem_of_getElem? hy) (mkrd_eSent (k2.below (((Below.refl wr.heap.size wr).alloc (Nat.le_refl _) _).alloc (by simp) _))) (mkrd_eSent (k2'.below (((Below.refl wr.heap.size wr).alloc (Nat.le_refl _) _).alloc (by simp) _)))
        have HX := Lib.hid hx
        have HY := Lib.hid hy
        clear hx hy
        cases he : eq x y with
        | false =>
          rw [he] at hcall
          have HC := Lib.hid hcall
          clear hcall
          have HE := Lib.hid (sameL_at (eq := eq) HX.out HY.out he)
          go_wp2_with (go_at_fn g; refine HC.out.mono ?_; rintro e w' ⟨rfl, hb'⟩)
          go_ret
          exact ⟨by rw [HE.out]; rfl, HB.out.trans ((((Below.refl wr.heap.size wr).alloc (Nat.le_refl _) _).alloc (by simp) _).trans (hb'.mono (by simp only [size_alloc]; omega)) |>.mono HB.out.size)⟩
        | true =>
          rw [he] at hcall
          have HC := Lib.hid hcall
          clear hcall
          have HN := Lib.hid (step_eq (eq := eq) hno.out HX.out HY.out he)
          go_wp2_with (go_at_fn g; refine HC.out.mono ?_; rintro e w' ⟨rfl, hb'⟩)
          go_roundw
          case rel => exact ⟨i + 1, by omega, by go_num, HB.out.trans ((((Below.refl wr.heap.size wr).alloc (Nat.le_refl _) _).alloc (by simp) _).trans (hb'.mono (by simp only [size_alloc]; omega)) |>.mono HB.out.size), HN⟩
          case measure => simp [intOf]; omega
      · have HE := Lib.hid (sameL_all (eq := eq) HLN.out (fun i a b ha hb => hno.out i a b (by have := (List.getElem?_eq_some_iff.1 ha).1; omega) ha hb))
        go_wp2
        go_ret
        exact ⟨by rw [HE.out]; rfl, HB.out⟩
  · have HE := Lib.hid (sameL_len (eq := eq) hln)
    have hlb : ((xs.length : Int) != (ys.length : Int)) = true := by simp; omega
    go_enter Try.func82, Try.ntmps82
    go_wp2
    go_ret
    exact ⟨by rw [HE.out]; rfl, Below.refl _ _⟩

end Go.Proofs.Ytaalbbhebmpppaa
