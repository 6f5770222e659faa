import Derived.Test.YtaalbbhebmpppaaProg
import Derived.Test.YtaalbbhebmpppaaTypes
import Derived.StillTailTactics
import Derived.Deep.RegionHeld3
import Derived.Laws.IdiomStrings
import Derived.Test.YtaalbbhebmpppaaAppend
import Derived.Laws.StructEq
import Derived.Lib.SliceRun
import Derived.Shelf.RegionOpenPlain
import Derived.Test.YtaalbbhebmpppaaCommon
import Derived.Test.YtaalbbhebmpppaaSlicesE
namespace Go.Proofs.Ytaalbbhebmpppaa
open Go.RowKit
set_option linter.unusedVariables false
set_option linter.unusedSimpArgs false

set_option maxHeartbeats 800000 in
set_option maxRecDepth 100000 in
theorem slices_IndexFunc_Value (p : GValue → Bool) (g : Nat) (lb : Array Value) (eg : ∀ args w, (callFunc g args).run Try.prog w = .ok (.enter g args) w) (v : Value) (xs : List GValue) (w : World) (hr : RdW w (.s xs.length (xs.flatMap eValue)) v)
    (hp : ∀ (W : World) (x : GValue) (us : List Value), Below w.heap.size w W → x ∈ xs → RdLW W (eValue x) us → Calls Try.prog g (#[.agg us.toArray] ++ lb) W fun e w' => e = .returned (.bool (p x)) ∧ Below W.heap.size W w') :
    Calls Try.prog 90 #[v, .func (.func g) #[] lb] w fun e w' => e = .returned (.int .i64 (idx p xs)) ∧ Below w.heap.size w w' := by
  obtain ⟨A, c, rfl, ⟨_, _, hl⟩⟩ := hr.slice
  have HR := Lib.hid hr
  have HP := Lib.hid hp
  clear hr hp
  go_enter Try.func90, Try.ntmps90
  go_wp2
  go_loopw [8] (fun a wr => ∃ i : Nat, i ≤ xs.length ∧ a = .int .i64 i ∧ Hid (Below w.heap.size w wr) ∧ Hid (∀ j y, j < i → xs[j]? = some y → p y = false)) (fun a wr => xs.length - (intOf a).toNat)
  case atStart => exact ⟨0, by omega, rfl, Below.refl _ _, no_start⟩
  case round =>
    obtain ⟨i, hi, rfl, HB, hno⟩ := hrel
    by_cases hlt : i < xs.length
    · obtain ⟨x, hx⟩ : ∃ x, xs[i]? = some x := ⟨xs[i], List.getElem?_eq_getElem hlt⟩
      obtain ⟨ad, rfl, hadb, h0, h1⟩ := row_eValue (HR.out.below HB.out) hx
      have hcall := HP.out wr x _ HB.out (List.mem_of_getElem? hx) (mkrd_eValue (x := x))
      have HX := Lib.hid hx
      clear hx
      cases hq : p x with
      | true =>
        rw [hq] at hcall
        have HE := Lib.hid (idx_hit HX.out hq hno.out)
        go_wp2_with (go_at_fn g; refine hcall.mono ?_; rintro e w' ⟨rfl, hb'⟩)
        go_ret
        exact ⟨by rw [HE.out]; rfl, HB.out.trans (hb'.mono HB.out.size)⟩
      | false =>
        rw [hq] at hcall
        have HN := Lib.hid (step_no (p := fun y => p y = false) hno.out HX.out hq)
        go_wp2_with (go_at_fn g; refine hcall.mono ?_; rintro e w' ⟨rfl, hb'⟩)
        go_roundw
        case rel => exact ⟨i + 1, by omega, by go_num, HB.out.trans (hb'.mono HB.out.size), HN⟩
        case measure => simp [intOf]; omega
    · have : i = xs.length := by omega
      subst this
      have HE := Lib.hid (idx_miss (all_of (p := fun y => p y = false) hno.out))
      go_wp2
      go_ret
      exact ⟨by rw [HE.out]; rfl, HB.out⟩

set_option maxHeartbeats 800000 in
set_option maxRecDepth 100000 in
theorem slices_ContainsFunc_Value (p : GValue → Bool) (g : Nat) (lb : Array Value) (eg : ∀ args w, (callFunc g args).run Try.prog w = .ok (.enter g args) w) (v : Value) (xs : List GValue) (w : World) (hr : RdW w (.s xs.length (xs.flatMap eValue)) v)
    (hp : ∀ (W : World) (x : GValue) (us : List Value), Below w.heap.size w W → x ∈ xs → RdLW W (eValue x) us → Calls Try.prog g (#[.agg us.toArray] ++ lb) W fun e w' => e = .returned (.bool (p x)) ∧ Below W.heap.size W w') :
    Calls Try.prog 78 #[v, .func (.func g) #[] lb] w fun e w' => e = .returned (.bool (xs.any p)) ∧ Below w.heap.size w w' := by
  have hcon := slices_IndexFunc_Value p g lb eg v xs w hr hp
  obtain ⟨A, c, rfl, _⟩ := hr.slice
  have HE := Lib.hid (idx_any p xs)
  clear hr hp
  generalize idx p xs = r at hcon HE
  go_enter Try.func78, Try.ntmps78
  go_wp2_with (go_at_call 90; refine hcon.mono ?_; rintro e w' ⟨rfl, hb'⟩)
  go_ret
  exact ⟨by rw [← HE.out]; rfl, hb'⟩

def valueB (v : GValue) (n : Int) : Bool := if v.Kind = 0 then inR v.N 0 999999 else if v.Kind = 1 then inR v.N 0 (n - 1) else (v.Kind == 2 && v.N == 0)
theorem any_hitE {α : Type} {p : α → Bool} {xs : List α} {i : Nat} {x : α} (hx : xs[i]? = some x) (hp : p x = true) : xs.any p = true := List.any_eq_true.2 ⟨x, List.mem_of_getElem? hx, hp⟩
theorem any_missE {α : Type} {p : α → Bool} {xs : List α} (h : ∀ y, y ∈ xs → p y = false) : xs.any p = false := by
  rw [List.any_eq_false]; intro y hy; simp [h y hy]
def pendB (x : GEntity) : Bool := x.Kind == 2 && (x.State == 1 || (x.State == 3 || x.State == 4))
set_option maxHeartbeats 1600000 in
theorem impl_IsValue_calls (y : GValue) (n : Int) (w : World) (h0 : 0 ≤ n) (h1 : n < 7) :
    Calls Try.prog 80 #[.agg #[.int .i64 y.Kind, .int .i64 y.N], .int .i64 n] w fun e w' => e = .returned (.bool (valueB y n)) ∧ Below w.heap.size w w' := by
  obtain ⟨k, m⟩ := y
  dsimp only
  have HB := Lib.hid ((Below.refl w.heap.size w).alloc (Nat.le_refl _) (.cells #[.int .i64 k, .int .i64 m] 33))
  by_cases k0 : k = 0
  · subst k0
    have HE : Hid (valueB ⟨0, m⟩ n = inR m 0 999999) := rfl
    go_enter Try.func80, Try.ntmps80
    go_wp2_with fail
    refine (impl_in_calls _ _ _ _).mono ?_
    rintro e w1 ⟨rfl, hw⟩
    subst hw
    go_wp2
    go_ret
    exact ⟨by rw [HE.out]; rfl, HB.out⟩
  by_cases k1 : k = 1
  · subst k1
    have HE : Hid (valueB ⟨1, m⟩ n = inR m 0 (n - 1)) := rfl
    go_enter Try.func80, Try.ntmps80
    go_wp2_with fail
    refine (impl_in_calls _ _ _ _).mono ?_
    rintro e w1 ⟨rfl, hw⟩
    subst hw
    go_wp2
    go_ret
    exact ⟨by rw [HE.out]; rfl, HB.out⟩
  by_cases k2 : k = 2
  · subst k2
    have HE : Hid (valueB ⟨2, m⟩ n = (m == 0)) := rfl
    go_enter Try.func80, Try.ntmps80
    go_wp2
    go_ret
    exact ⟨by rw [HE.out]; rfl, HB.out⟩
  have HE : Hid (valueB ⟨k, m⟩ n = false) := by unfold Hid valueB; simp [k0, k1, k2]
  go_enter Try.func80, Try.ntmps80
  go_wp2
  go_ret
  exact ⟨by rw [HE.out]; rfl, HB.out⟩
set_option maxHeartbeats 1600000 in
theorem spec_IsValue_calls (y : GValue) (n : Int) (w : World) (h0 : 0 ≤ n) (h1 : n < 7) :
    Calls Try.prog 81 #[.agg #[.int .i64 y.Kind, .int .i64 y.N], .int .i64 n] w fun e w' => e = .returned (.bool (valueB y n)) ∧ Below w.heap.size w w' := by
  obtain ⟨k, m⟩ := y
  dsimp only
  have HB := Lib.hid ((Below.refl w.heap.size w).alloc (Nat.le_refl _) (.cells #[.int .i64 k, .int .i64 m] 33))
  by_cases k0 : k = 0
  · subst k0
    have HE : Hid (valueB ⟨0, m⟩ n = inR m 0 999999) := rfl
    go_enter Try.func81, Try.ntmps81
    go_wp2_with fail
    refine (spec_l1In_calls _ _ _ _).mono ?_
    rintro e w1 ⟨rfl, hw⟩
    subst hw
    go_wp2
    go_ret
    exact ⟨by rw [HE.out]; rfl, HB.out⟩
  by_cases k1 : k = 1
  · subst k1
    by_cases m0 : 0 ≤ m
    · by_cases m1 : m < n
      · have HE : Hid (valueB ⟨1, m⟩ n = true) := by unfold Hid; show inR m 0 (n - 1) = true; unfold inR; exact decide_eq_true (by omega)
        go_enter Try.func81, Try.ntmps81
        go_wp2
        go_ret
        exact ⟨by rw [HE.out]; rfl, HB.out⟩
      · have HE : Hid (valueB ⟨1, m⟩ n = false) := by unfold Hid; show inR m 0 (n - 1) = false; unfold inR; exact decide_eq_false (by omega)
        go_enter Try.func81, Try.ntmps81
        go_wp2
        go_ret
        exact ⟨by rw [HE.out]; rfl, HB.out⟩
    · have HE : Hid (valueB ⟨1, m⟩ n = false) := by unfold Hid; show inR m 0 (n - 1) = false; unfold inR; exact decide_eq_false (by omega)
      go_enter Try.func81, Try.ntmps81
      go_wp2
      go_ret
      exact ⟨by rw [HE.out]; rfl, HB.out⟩
  by_cases k2 : k = 2
  · subst k2
    have HE : Hid (valueB ⟨2, m⟩ n = (m == 0)) := rfl
    go_enter Try.func81, Try.ntmps81
    go_wp2
    go_ret
    exact ⟨by rw [HE.out]; rfl, HB.out⟩
  have HE : Hid (valueB ⟨k, m⟩ n = false) := by unfold Hid valueB; simp [k0, k1, k2]
  have k2b : (k == 2) = false := by simpa using k2
  go_enter Try.func81, Try.ntmps81
  go_wp2
  go_ret
  exact ⟨by rw [HE.out]; rfl, HB.out⟩
set_option maxHeartbeats 800000 in
theorem impl_AreValues1_calls (B : Nat) (y : GValue) (us : List Value) (n : Int) (W : World) (hb : Blk W B 3 #[.int .i64 n]) (hr : RdLW W (eValue y) us) (h0 : 0 ≤ n) (h1 : n < 7) :
    Calls Try.prog 79 #[.agg us.toArray, .pointer (some ⟨B, 0, none⟩)] W fun e w' => e = .returned (.bool (!valueB y n)) ∧ Below W.heap.size W w' := by
  obtain rfl := rd_eValue hr
  have HC := Lib.hid (impl_IsValue_calls y n (W.alloc (.cells #[.int .i64 y.Kind, .int .i64 y.N] 33)) h0 h1)
  obtain ⟨k0, f0⟩ := hb.rules
  have l0 := hb.lt
  clear hr hb
  go_enter Try.func79, Try.ntmps79
  go_wp2_with fail
  refine HC.out.mono ?_
  rintro e w1 ⟨rfl, hb⟩
  go_wp2
  go_ret
  exact ⟨rfl, ((Below.refl _ _).alloc (Nat.le_refl _) _).trans (hb.mono (by simp))⟩
set_option maxHeartbeats 800000 in
theorem impl_AreValues_calls (v : Value) (xs : List GValue) (n : Int) (w : World) (hr : RdW w (.s xs.length (xs.flatMap eValue)) v) (h0 : 0 ≤ n) (h1 : n < 7) :
    Calls Try.prog 53 #[v, .int .i64 n] w fun e w' => e = .returned (.bool (!(xs.any fun y => !valueB y n))) ∧ Below w.heap.size w w' := by
  have HC := Lib.hid (slices_ContainsFunc_Value (fun y : GValue => !valueB y n) 79 #[.pointer (some ⟨w.heap.size, 0, none⟩)] (enters_of Try.func79 (by kernel_rfl) rfl) v xs (w.alloc (.cells #[.int .i64 n] 3)) (hr.alloc _)
    (fun W y us hW hy hus => impl_AreValues1_calls w.heap.size y us n W ((Blk.new w _ _).below hW) hus h0 h1))
  obtain ⟨A, c, rfl, -⟩ := hr.slice
  clear hr
  go_enter Try.func53, Try.ntmps53
  go_wp2_with fail
  refine HC.out.mono ?_
  rintro e w1 ⟨rfl, hb⟩
  go_wp2
  go_ret
  exact ⟨rfl, ((Below.refl _ _).alloc (Nat.le_refl _) _).trans (hb.mono (by simp))⟩
set_option maxHeartbeats 1600000 in
theorem spec_AreValues_calls (v : Value) (xs : List GValue) (n : Int) (w : World) (hr : RdW w (.s xs.length (xs.flatMap eValue)) v) (h0 : 0 ≤ n) (h1 : n < 7) :
    Calls Try.prog 57 #[v, .int .i64 n] w fun e w' => e = .returned (.bool (!(xs.any fun y => !valueB y n))) ∧ Below w.heap.size w w' := by
  obtain ⟨A, c, rfl, ⟨_, _, hl⟩⟩ := hr.slice
  have HR := Lib.hid hr
  clear hr
  go_enter Try.func57, Try.ntmps57
  go_wp2
  go_loopw [5] (fun a wr => ∃ i : Nat, i ≤ xs.length ∧ a = .int .i64 i ∧ Hid (Below w.heap.size w wr) ∧ Hid (∀ j y, j < i → xs[j]? = some y → (!valueB y n) = false)) (fun a wr => xs.length - (intOf a).toNat)
  case atStart => exact ⟨0, by omega, rfl, Below.refl _ _, no_start⟩
  case round =>
    obtain ⟨i, hi, rfl, HB, hno⟩ := hrel
    by_cases hlt : i < xs.length
    · obtain ⟨y, hy⟩ : ∃ y, xs[i]? = some y := ⟨xs[i], List.getElem?_eq_getElem hlt⟩
      obtain ⟨ad, rfl, hab, q0, q1⟩ := row_eValue (HR.out.below HB.out) hy
      have HX := Lib.hid hy
      clear hy
      cases hv : valueB y n with
      | true =>
        have HN := Lib.hid (step_no (p := fun y : GValue => (!valueB y n) = false) hno.out HX.out (by rw [hv]; rfl))
        go_wp2_with fail
        refine (spec_IsValue_calls y n _ h0 h1).mono ?_
        rintro e w1 ⟨rfl, hb⟩
        rw [hv]
        go_wp2
        go_roundw
        case rel => exact ⟨i + 1, by omega, by go_num, HB.out.trans (hb.mono HB.out.size), HN⟩
        case measure => simp [intOf]; omega
      | false =>
        have HE : Hid ((xs.any fun y => !valueB y n) = true) := any_hitE HX.out (by rw [hv]; rfl)
        go_wp2_with fail
        refine (spec_IsValue_calls y n _ h0 h1).mono ?_
        rintro e w1 ⟨rfl, hb⟩
        rw [hv]
        go_wp2
        go_ret
        exact ⟨by rw [HE.out]; rfl, HB.out.trans (hb.mono HB.out.size)⟩
    · have : i = xs.length := by omega
      subst this
      have HE : Hid ((xs.any fun y => !valueB y n) = false) := any_missE (all_of (p := fun y : GValue => (!valueB y n) = false) hno.out)
      go_wp2
      go_ret
      exact ⟨by rw [HE.out]; rfl, HB.out⟩
set_option maxHeartbeats 1600000 in
theorem impl_IsPending_calls (us : List Value) (x : GEntity) (w : World) (hr : RdLW w (eEntity x) us) :
    Calls Try.prog 25 #[.agg us.toArray] w fun e w' => e = .returned (.bool (pendB x)) ∧ Below w.heap.size w w' := by
  obtain ⟨v2, v6, v7, rfl, h2, h6, h7⟩ := rd_eEntity hr
  obtain ⟨A2, c2, rfl, -⟩ := h2.slice
  obtain ⟨A6, c6, rfl, -⟩ := h6.slice
  obtain ⟨A7, c7, rfl, -⟩ := h7.slice
  clear hr h2 h6 h7
  obtain ⟨k, sc, sl, st, va, qu, ak, pe, po, co, se⟩ := x
  dsimp only
  have HB := Lib.hid ((Below.refl w.heap.size w).alloc (Nat.le_refl _) (.cells #[.int .i64 k, .int .i64 sc, .slice A2 sl.length c2, .int .i64 st, .int .i64 va.Kind, .int .i64 va.N, .slice A6 qu.length c6, .slice A7 ak.length c7, .int .i64 pe, .int .i64 po, .int .i64 co, .int .i64 se] 37))
  by_cases k2 : k = 2
  · subst k2
    by_cases s1 : st = 1
    · subst s1
      go_enter Try.func25, Try.ntmps25
      go_wp2
      go_ret
      exact ⟨rfl, HB.out⟩
    have s1b : (st == 1) = false := by simpa using s1
    by_cases s3 : st = 3
    · subst s3
      go_enter Try.func25, Try.ntmps25
      go_wp2
      go_ret
      exact ⟨rfl, HB.out⟩
    have s3b : (st == 3) = false := by simpa using s3
    have HE : Hid (pendB ⟨2, sc, sl, st, va, qu, ak, pe, po, co, se⟩ = (st == 4)) := by unfold Hid pendB; simp [s1b, s3b]
    go_enter Try.func25, Try.ntmps25
    go_wp2
    go_ret
    exact ⟨by rw [HE.out]; rfl, HB.out⟩
  have k2b : (k == 2) = false := by simpa using k2
  have HE : Hid (pendB ⟨k, sc, sl, st, va, qu, ak, pe, po, co, se⟩ = false) := by unfold Hid pendB; simp [k2b]
  go_enter Try.func25, Try.ntmps25
  go_wp2
  go_ret
  exact ⟨by rw [HE.out]; rfl, HB.out⟩
set_option maxHeartbeats 1600000 in
theorem spec_IsPending_calls (us : List Value) (x : GEntity) (w : World) (hr : RdLW w (eEntity x) us) :
    Calls Try.prog 26 #[.agg us.toArray] w fun e w' => e = .returned (.bool (pendB x)) ∧ Below w.heap.size w w' := by
  obtain ⟨v2, v6, v7, rfl, h2, h6, h7⟩ := rd_eEntity hr
  obtain ⟨A2, c2, rfl, -⟩ := h2.slice
  obtain ⟨A6, c6, rfl, -⟩ := h6.slice
  obtain ⟨A7, c7, rfl, -⟩ := h7.slice
  clear hr h2 h6 h7
  obtain ⟨k, sc, sl, st, va, qu, ak, pe, po, co, se⟩ := x
  dsimp only
  have HB := Lib.hid ((Below.refl w.heap.size w).alloc (Nat.le_refl _) (.cells #[.int .i64 k, .int .i64 sc, .slice A2 sl.length c2, .int .i64 st, .int .i64 va.Kind, .int .i64 va.N, .slice A6 qu.length c6, .slice A7 ak.length c7, .int .i64 pe, .int .i64 po, .int .i64 co, .int .i64 se] 37))
  by_cases k2 : k = 2
  · subst k2
    rcases Bool.eq_false_or_eq_true (inR st 1 4) with hi | hi
    · have HE : Hid (pendB ⟨2, sc, sl, st, va, qu, ak, pe, po, co, se⟩ = (st != 2)) := by
        unfold Hid pendB
        unfold inR at hi
        have h := of_decide_eq_true hi
        have : st = 1 ∨ st = 2 ∨ st = 3 ∨ st = 4 := by omega
        rcases this with rfl | rfl | rfl | rfl <;> rfl
      go_enter Try.func26, Try.ntmps26
      go_wp2_with (go_at_call 56; refine (spec_l1In_calls _ _ _ _).mono ?_; rintro e w1 ⟨rfl, rfl⟩; rw [hi])
      go_ret
      exact ⟨by rw [HE.out]; rfl, HB.out⟩
    · have HE : Hid (pendB ⟨2, sc, sl, st, va, qu, ak, pe, po, co, se⟩ = false) := by
        unfold Hid pendB
        unfold inR at hi
        have h := of_decide_eq_false hi
        have h1 : (st == 1) = false := by simp; omega
        have h3 : (st == 3) = false := by simp; omega
        have h4 : (st == 4) = false := by simp; omega
        simp [h1, h3, h4]
      go_enter Try.func26, Try.ntmps26
      go_wp2_with (go_at_call 56; refine (spec_l1In_calls _ _ _ _).mono ?_; rintro e w1 ⟨rfl, rfl⟩; rw [hi])
      go_ret
      exact ⟨by rw [HE.out]; rfl, HB.out⟩
  have k2b : (k == 2) = false := by simpa using k2
  have HE : Hid (pendB ⟨k, sc, sl, st, va, qu, ak, pe, po, co, se⟩ = false) := by unfold Hid pendB; simp [k2b]
  go_enter Try.func26, Try.ntmps26
  go_wp2
  go_ret
  exact ⟨by rw [HE.out]; rfl, HB.out⟩

end Go.Proofs.Ytaalbbhebmpppaa
