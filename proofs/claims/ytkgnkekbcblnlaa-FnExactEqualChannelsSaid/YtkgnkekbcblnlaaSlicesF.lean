import Derived.Test.YtkgnkekbcblnlaaProg
import Derived.Test.YtkgnkekbcblnlaaTypes
import Derived.StillTailTactics
import Derived.Deep.RegionHeld3
import Derived.Laws.IdiomStrings
import Derived.Test.YtkgnkekbcblnlaaAppend
import Derived.Laws.StructEq
import Derived.Lib.SliceRun
import Derived.Shelf.RegionOpenPlain
import Derived.Test.YtkgnkekbcblnlaaSlices
namespace Go.Proofs.Ytkgnkekbcblnlaa
open Go.RowKit
set_option linter.unusedVariables false
set_option linter.unusedSimpArgs false

set_option maxHeartbeats 800000 in
set_option maxRecDepth 100000 in
theorem slices_EqualFunc_Message (eq : GMessage → GMessage → Bool) (g : Nat) (lb : Array Value) (eg : ∀ args w, (callFunc g args).run Try.prog w = .ok (.enter g args) w) (v v' : Value) (xs ys : List GMessage) (w : World) (hr : RdW w (.s xs.length (xs.flatMap eMessage)) v) (hr' : RdW w (.s ys.length (ys.flatMap eMessage)) v')
    (hp : ∀ (W : World) (x y : GMessage) (us us' : List Value), Below w.heap.size w W → x ∈ xs → y ∈ ys → RdLW W (eMessage x) us → RdLW W (eMessage y) us' → Calls Try.prog g (#[.agg us.toArray, .agg us'.toArray] ++ lb) W fun e w' => e = .returned (.bool (eq x y)) ∧ Below W.heap.size W w') :
    Calls Try.prog 59 #[v, v', .func (.func g) #[] lb] w fun e w' => e = .returned (.bool (sameL eq xs ys)) ∧ Below w.heap.size w w' := by
  obtain ⟨A, c, rfl, ⟨_, _, hl⟩⟩ := hr.slice
  obtain ⟨A', c', rfl, ⟨_, _, hl'⟩⟩ := hr'.slice
  have HR := Lib.hid hr
  have HR' := Lib.hid hr'
  have HP := Lib.hid hp
  clear hr hr' hp
  by_cases hln : xs.length = ys.length
  · have hlb : ((xs.length : Int) != (ys.length : Int)) = false := by rw [hln]; simp
    have HLN := Lib.hid hln
    clear hln
    go_enter Try.func59, Try.ntmps59
    go_wp2
    clear hlb
    go_loopw [17] (fun a wr => ∃ i : Nat, i ≤ xs.length ∧ a = .int .i64 i ∧ Hid (Below w.heap.size w wr) ∧ Hid (∀ (j : Nat) a b, j < i → xs[j]? = some a → ys[j]? = some b → eq a b = true)) (fun a wr => xs.length - (intOf a).toNat)
    case atStart => exact ⟨0, by omega, rfl, Below.refl _ _, fun j a b h => absurd h (Nat.not_lt_zero _)⟩
    case round =>
      obtain ⟨i, hi, rfl, HB, hno⟩ := hrel
      by_cases hlt : i < xs.length
      · have hlt' : i < ys.length := by have := HLN.out; omega
        obtain ⟨x, hx⟩ : ∃ x, xs[i]? = some x := ⟨xs[i], List.getElem?_eq_getElem hlt⟩
        obtain ⟨y, hy⟩ : ∃ y, ys[i]? = some y := ⟨ys[i], List.getElem?_eq_getElem hlt'⟩
        obtain ⟨ad, v5, rfl, hadb, h0, h1, h2, h3, h4, h5, h6, h7, h8, h9, h10, h11, k5⟩ := row_eMessage (HR.out.below HB.out) hx
        obtain ⟨A5, c5, rfl, -⟩ := k5.slice
        have hbk : (ad.add (i * 12)).block < wr.heap.size := by rw [block_of_add]; exact hadb
        obtain ⟨ad', v5', rfl, hadb', h0', h1', h2', h3', h4', h5', h6', h7', h8', h9', h10', h11', k5'⟩ := row_eMessage (HR'.out.below HB.out) hy
        obtain ⟨A5', c5', rfl, -⟩ := k5'.slice
        have hbk' : (ad'.add (i * 12)).block < wr.heap.size := by rw [block_of_add]; exact hadb'
        have hcall := HP.out ((wr.alloc (.cells #[.int .i64 x.Kind, .int .i64 x.Pos, .int .i64 x.Answer, .int .i64 x.Question, .string x.Name, .slice A5 (x.Args).length c5, .int .i64 x.Value.Kind, .int .i64 x.Value.N, .int .i64 x.Count, .int .i64 x.Tag.Vat, .int .i64 x.Tag.Entity, .int .i64 x.Tag.Seq] 38)).alloc (.cells #[.int .i64 y.Kind, .int .i64 y.Pos, .int .i64 y.Answer, .int .i64 y.Question, .string y.Name, .slice A5' (y.Args).length c5', .int .i64 y.Value.Kind, .int .i64 y.Value.N, .int .i64 y.Count, .int .i64 y.Tag.Vat, .int .i64 y.Tag.Entity, .int .i64 y.Tag.Seq] 38)) x y _ _ (HB.out.trans ((((Below.refl wr.heap.size wr).alloc (Nat.le_refl _) _).alloc (by simp) _).mono HB.out.size)) (List.mem_of_getElem? hx) (List.mem_of_getElem? hy) (mkrd_eMessage (k5.below (((Below.refl wr.heap.size wr).alloc (Nat.le_refl _) _).alloc (by simp) _))) (mkrd_eMessage (k5'.below (((Below.refl wr.heap.size wr).alloc (Nat.le_refl _) _).alloc (by simp) _)))
        have HX := Lib.hid hx
        have HY := Lib.hid hy
        clear hx hy
        cases he : eq x y with
        | false =>
          rw [he] at hcall
          have HC := Lib.hid hcall
          clear hcall
          have HE := Lib.hid (sameL_at (eq := eq) HX.out HY.out he)
          go_wp2_with (go_at_fn g; refine HC.out.mono ?_; rintro e w' ⟨rfl, hb'⟩)
          go_ret
          exact ⟨by rw [HE.out]; rfl, HB.out.trans ((((Below.refl wr.heap.size wr).alloc (Nat.le_refl _) _).alloc (by simp) _).trans (hb'.mono (by simp only [size_alloc]; omega)) |>.mono HB.out.size)⟩
        | true =>
          rw [he] at hcall
          have HC := Lib.hid hcall
          clear hcall
          have HN := Lib.hid (step_eq (eq := eq) hno.out HX.out HY.out he)
          go_wp2_with (go_at_fn g; refine HC.out.mono ?_; rintro e w' ⟨rfl, hb'⟩)
          go_roundw
          case rel => exact ⟨i + 1, by omega, by go_num, HB.out.trans ((((Below.refl wr.heap.size wr).alloc (Nat.le_refl _) _).alloc (by simp) _).trans (hb'.mono (by simp only [size_alloc]; omega)) |>.mono HB.out.size), HN⟩
          case measure => simp [intOf]; omega
      · have HE := Lib.hid (sameL_all (eq := eq) HLN.out (fun i a b ha hb => hno.out i a b (by have := (List.getElem?_eq_some_iff.1 ha).1; omega) ha hb))
        go_wp2
        go_ret
        exact ⟨by rw [HE.out]; rfl, HB.out⟩
  · have HE := Lib.hid (sameL_len (eq := eq) hln)
    have hlb : ((xs.length : Int) != (ys.length : Int)) = true := by simp; omega
    go_enter Try.func59, Try.ntmps59
    go_wp2
    go_ret
    exact ⟨by rw [HE.out]; rfl, Below.refl _ _⟩

set_option maxHeartbeats 800000 in
set_option maxRecDepth 100000 in
theorem slices_EqualFunc_Channel (eq : GChannel → GChannel → Bool) (g : Nat) (lb : Array Value) (eg : ∀ args w, (callFunc g args).run Try.prog w = .ok (.enter g args) w) (v v' : Value) (xs ys : List GChannel) (w : World) (hr : RdW w (.s xs.length (xs.flatMap eChannel)) v) (hr' : RdW w (.s ys.length (ys.flatMap eChannel)) v')
    (hp : ∀ (W : World) (x y : GChannel) (us us' : List Value), Below w.heap.size w W → x ∈ xs → y ∈ ys → RdLW W (eChannel x) us → RdLW W (eChannel y) us' → Calls Try.prog g (#[.agg us.toArray, .agg us'.toArray] ++ lb) W fun e w' => e = .returned (.bool (eq x y)) ∧ Below W.heap.size W w') :
    Calls Try.prog 57 #[v, v', .func (.func g) #[] lb] w fun e w' => e = .returned (.bool (sameL eq xs ys)) ∧ Below w.heap.size w w' := by
  obtain ⟨A, c, rfl, ⟨_, _, hl⟩⟩ := hr.slice
  obtain ⟨A', c', rfl, ⟨_, _, hl'⟩⟩ := hr'.slice
  have HR := Lib.hid hr
  have HR' := Lib.hid hr'
  have HP := Lib.hid hp
  clear hr hr' hp
  by_cases hln : xs.length = ys.length
  · have hlb : ((xs.length : Int) != (ys.length : Int)) = false := by rw [hln]; simp
    have HLN := Lib.hid hln
    clear hln
    go_enter Try.func57, Try.ntmps57
    go_wp2
    clear hlb
    go_loopw [17] (fun a wr => ∃ i : Nat, i ≤ xs.length ∧ a = .int .i64 i ∧ Hid (Below w.heap.size w wr) ∧ Hid (∀ (j : Nat) a b, j < i → xs[j]? = some a → ys[j]? = some b → eq a b = true)) (fun a wr => xs.length - (intOf a).toNat)
    case atStart => exact ⟨0, by omega, rfl, Below.refl _ _, fun j a b h => absurd h (Nat.not_lt_zero _)⟩
    case round =>
      obtain ⟨i, hi, rfl, HB, hno⟩ := hrel
      by_cases hlt : i < xs.length
      · have hlt' : i < ys.length := by have := HLN.out; omega
        obtain ⟨x, hx⟩ : ∃ x, xs[i]? = some x := ⟨xs[i], List.getElem?_eq_getElem hlt⟩
        obtain ⟨y, hy⟩ : ∃ y, ys[i]? = some y := ⟨ys[i], List.getElem?_eq_getElem hlt'⟩
        obtain ⟨ad, v2, rfl, hadb, h0, h1, h2, k2⟩ := row_eChannel (HR.out.below HB.out) hx
        obtain ⟨A2, c2, rfl, -⟩ := k2.slice
        have hbk : (ad.add (i * 3)).block < wr.heap.size := by rw [block_of_add]; exact hadb
        obtain ⟨ad', v2', rfl, hadb', h0', h1', h2', k2'⟩ := row_eChannel (HR'.out.below HB.out) hy
        obtain ⟨A2', c2', rfl, -⟩ := k2'.slice
        have hbk' : (ad'.add (i * 3)).block < wr.heap.size := by rw [block_of_add]; exact hadb'
        have hcall := HP.out ((wr.alloc (.cells #[.int .i64 x.From, .int .i64 x.To, .slice A2 (x.List).length c2] 76)).alloc (.cells #[.int .i64 y.From, .int .i64 y.To, .slice A2' (y.List).length c2'] 76)) x y _ _ (HB.out.trans ((((Below.refl wr.heap.size wr).alloc (Nat.le_refl _) _).alloc (by simp) _).mono HB.out.size)) (List.mem_of_getElem? hx) (List.mem_of_getElem? hy) (mkrd_eChannel (k2.below (((Below.refl wr.heap.size wr).alloc (Nat.le_refl _) _).alloc (by simp) _))) (mkrd_eChannel (k2'.below (((Below.refl wr.heap.size wr).alloc (Nat.le_refl _) _).alloc (by simp) _)))
        have HX := Lib.hid hx
        have HY := Lib.hid hy
        clear hx hy
        cases he : eq x y with
        | false =>
          rw [he] at hcall
          have HC := Lib.hid hcall
          clear hcall
          have HE := Lib.hid (sameL_at (eq := eq) HX.out HY.out he)
          go_wp2_with (go_at_fn g; refine HC.out.mono ?_; rintro e w' ⟨rfl, hb'⟩)
          go_ret
          exact ⟨by rw [HE.out]; rfl, HB.out.trans ((((Below.refl wr.heap.size wr).alloc (Nat.le_refl _) _).alloc (by simp) _).trans (hb'.mono (by simp only [size_alloc]; omega)) |>.mono HB.out.size)⟩
        | true =>
          rw [he] at hcall
          have HC := Lib.hid hcall
          clear hcall
          have HN := Lib.hid (step_eq (eq := eq) hno.out HX.out HY.out he)
          go_wp2_with (go_at_fn g; refine HC.out.mono ?_; rintro e w' ⟨rfl, hb'⟩)
          go_roundw
          case rel => exact ⟨i + 1, by omega, by go_num, HB.out.trans ((((Below.refl wr.heap.size wr).alloc (Nat.le_refl _) _).alloc (by simp) _).trans (hb'.mono (by simp only [size_alloc]; omega)) |>.mono HB.out.size), HN⟩
          case measure => simp [intOf]; omega
      · have HE := Lib.hid (sameL_all (eq := eq) HLN.out (fun i a b ha hb => hno.out i a b (by have := (List.getElem?_eq_some_iff.1 ha).1; omega) ha hb))
        go_wp2
        go_ret
        exact ⟨by rw [HE.out]; rfl, HB.out⟩
  · have HE := Lib.hid (sameL_len (eq := eq) hln)
    have hlb : ((xs.length : Int) != (ys.length : Int)) = true := by simp; omega
    go_enter Try.func57, Try.ntmps57
    go_wp2
    go_ret
    exact ⟨by rw [HE.out]; rfl, Below.refl _ _⟩

end Go.Proofs.Ytkgnkekbcblnlaa
