import Derived.Test.YtapbejepffpckaaProg
import Derived.Test.YtapbejepffpckaaTypes
import Derived.StillTailTactics
import Derived.Deep.RegionHeld3
import Derived.Laws.IdiomStrings
import Derived.Test.YtapbejepffpckaaAppend
import Derived.Laws.StructEq
import Derived.Lib.SliceRun
import Derived.Shelf.RegionOpenPlain
import Derived.Test.YtapbejepffpckaaSlices
namespace Go.Proofs.Ytapbejepffpckaa
open Go.RowKit
set_option linter.unusedVariables false
set_option linter.unusedSimpArgs false

set_option maxHeartbeats 800000 in
set_option maxRecDepth 100000 in
theorem slices_EqualFunc_Sent (eq : GSent → GSent → Bool) (g : Nat) (lb : Array Value) (eg : ∀ args w, (callFunc g args).run Try.prog w = .ok (.enter g args) w) (v v' : Value) (xs ys : List GSent) (w : World) (hr : RdW w (.s xs.length (xs.flatMap eSent)) v) (hr' : RdW w (.s ys.length (ys.flatMap eSent)) v')
    (hp : ∀ (W : World) (x y : GSent) (us us' : List Value), Below w.heap.size w W → x ∈ xs → y ∈ ys → RdLW W (eSent x) us → RdLW W (eSent y) us' → Calls Try.prog g (#[.agg us.toArray, .agg us'.toArray] ++ lb) W fun e w' => e = .returned (.bool (eq x y)) ∧ Below W.heap.size W w') :
    Calls Try.prog 109 #[v, v', .func (.func g) #[] lb] w fun e w' => e = .returned (.bool (sameL eq xs ys)) ∧ Below w.heap.size w w' := by
  obtain ⟨A, c, rfl, ⟨_, _, hl⟩⟩ := hr.slice
  obtain ⟨A', c', rfl, ⟨_, _, hl'⟩⟩ := hr'.slice
  have HR := Lib.hid hr
  have HR' := Lib.hid hr'
  have HP := Lib.hid hp
  clear hr hr' hp
  by_cases hln : xs.length = ys.length
  · have hlb : ((xs.length : Int) != (ys.length : Int)) = false := by rw [hln]; simp
    have HLN := Lib.hid hln
    clear hln
    go_enter Try.func109, Try.ntmps109
    go_wp2
    clear hlb
    go_loopw [17] (fun a wr => ∃ i : Nat, i ≤ xs.length ∧ a = .int .i64 i ∧ Hid (Below w.heap.size w wr) ∧ Hid (∀ (j : Nat) a b, j < i → xs[j]? = some a → ys[j]? = some b → eq a b = true)) (fun a wr => xs.length - (intOf a).toNat)
    case atStart => exact ⟨0, by omega, rfl, Below.refl _ _, fun j a b h => absurd h (Nat.not_lt_zero _)⟩
    case round =>
      obtain ⟨i, hi, rfl, HB, hno⟩ := hrel
      by_cases hlt : i < xs.length
      · have hlt' : i < ys.length := by have := HLN.out; omega
        obtain ⟨x, hx⟩ : ∃ x, xs[i]? = some x := ⟨xs[i], List.getElem?_eq_getElem hlt⟩
        obtain ⟨y, hy⟩ : ∃ y, ys[i]? = some y := ⟨ys[i], List.getElem?_eq_getElem hlt'⟩
        obtain ⟨ad, v2, rfl, hadb, h0, h1, h2, h3, h4, h5, h6, k2⟩ := row_eSent (HR.out.below HB.out) hx
        obtain ⟨A2, c2, rfl, -⟩ := k2.slice
        have hbk : (ad.add (i * 7)).block < wr.heap.size := by rw [block_of_add]; exact hadb
        obtain ⟨ad', v2', rfl, hadb', h0', h1', h2', h3', h4', h5', h6', k2'⟩ := row_eSent (HR'.out.below HB.out) hy
        obtain ⟨A2', c2', rfl, -⟩ := k2'.slice
        have hbk' : (ad'.add (i * 7)).block < wr.heap.size := by rw [block_of_add]; exact hadb'
        have hcall := HP.out ((wr.alloc (.cells #[.int .i64 x.Target, .string x.Name, .slice A2 (x.Args).length c2, .int .i64 x.Result, .int .i64 x.Tag.Vat, .int .i64 x.Tag.Entity, .int .i64 x.Tag.Seq] 135)).alloc (.cells #[.int .i64 y.Target, .string y.Name, .slice A2' (y.Args).length c2', .int .i64 y.Result, .int .i64 y.Tag.Vat, .int .i64 y.Tag.Entity, .int .i64 y.Tag.Seq] 135)) x y _ _ (HB.out.trans ((((Below.refl wr.heap.size wr).alloc (Nat.le_refl _) _).alloc (by simp) _).mono HB.out.size)) (List.mem_of_getElem? hx) (List.mem_of_getElem? hy) (mkrd_eSent (k2.below (((Below.refl wr.heap.size wr).alloc (Nat.le_refl _) _).alloc (by simp) _))) (mkrd_eSent (k2'.below (((Below.refl wr.heap.size wr).alloc (Nat.le_refl _) _).alloc (by simp) _)))
        have HX := Lib.hid hx
        have HY := Lib.hid hy
        clear hx hy
        cases he : eq x y with
        | false =>
          rw [he] at hcall
          have HC := Lib.hid hcall
          clear hcall
          have HE := Lib.hid (sameL_at (eq := eq) HX.out HY.out he)
          go_wp2_with (go_at_fn g; refine HC.out.mono ?_; rintro e w' ⟨rfl, hb'⟩)
          go_ret
          exact ⟨by rw [HE.out]; rfl, HB.out.trans ((((Below.refl wr.heap.size wr).alloc (Nat.le_refl _) _).alloc (by simp) _).trans (hb'.mono (by simp only [size_alloc]; omega)) |>.mono HB.out.size)⟩
        | true =>
          rw [he] at hcall
          have HC := Lib.hid hcall
          clear hcall
          have HN := Lib.hid (step_eq (eq := eq) hno.out HX.out HY.out he)
          go_wp2_with (go_at_fn g; refine HC.out.mono ?_; rintro e w' ⟨rfl, hb'⟩)
          go_roundw
          case rel => exact ⟨i + 1, by omega, by go_num, HB.out.trans ((((Below.refl wr.heap.size wr).alloc (Nat.le_refl _) _).alloc (by simp) _).trans (hb'.mono (by simp only [size_alloc]; omega)) |>.mono HB.out.size), HN⟩
          case measure => simp [intOf]; omega
      · have HE := Lib.hid (sameL_all (eq := eq) HLN.out (fun i a b ha hb => hno.out i a b (by have := (List.getElem?_eq_some_iff.1 ha).1; omega) ha hb))
        go_wp2
        go_ret
        exact ⟨by rw [HE.out]; rfl, HB.out⟩
  · have HE := Lib.hid (sameL_len (eq := eq) hln)
    have hlb : ((xs.length : Int) != (ys.length : Int)) = true := by simp; omega
    go_enter Try.func109, Try.ntmps109
    go_wp2
    go_ret
    exact ⟨by rw [HE.out]; rfl, Below.refl _ _⟩

set_option maxHeartbeats 800000 in
set_option maxRecDepth 100000 in
theorem slices_EqualFunc_Entity (eq : GEntity → GEntity → Bool) (g : Nat) (lb : Array Value) (eg : ∀ args w, (callFunc g args).run Try.prog w = .ok (.enter g args) w) (v v' : Value) (xs ys : List GEntity) (w : World) (hr : RdW w (.s xs.length (xs.flatMap eEntity)) v) (hr' : RdW w (.s ys.length (ys.flatMap eEntity)) v')
    (hp : ∀ (W : World) (x y : GEntity) (us us' : List Value), Below w.heap.size w W → x ∈ xs → y ∈ ys → RdLW W (eEntity x) us → RdLW W (eEntity y) us' → Calls Try.prog g (#[.agg us.toArray, .agg us'.toArray] ++ lb) W fun e w' => e = .returned (.bool (eq x y)) ∧ Below W.heap.size W w') :
    Calls Try.prog 74 #[v, v', .func (.func g) #[] lb] w fun e w' => e = .returned (.bool (sameL eq xs ys)) ∧ Below w.heap.size w w' := by
  obtain ⟨A, c, rfl, ⟨_, _, hl⟩⟩ := hr.slice
  obtain ⟨A', c', rfl, ⟨_, _, hl'⟩⟩ := hr'.slice
  have HR := Lib.hid hr
  have HR' := Lib.hid hr'
  have HP := Lib.hid hp
  clear hr hr' hp
  by_cases hln : xs.length = ys.length
  · have hlb : ((xs.length : Int) != (ys.length : Int)) = false := by rw [hln]; simp
    have HLN := Lib.hid hln
    clear hln
    go_enter Try.func74, Try.ntmps74
    go_wp2
    clear hlb
    go_loopw [17] (fun a wr => ∃ i : Nat, i ≤ xs.length ∧ a = .int .i64 i ∧ Hid (Below w.heap.size w wr) ∧ Hid (∀ (j : Nat) a b, j < i → xs[j]? = some a → ys[j]? = some b → eq a b = true)) (fun a wr => xs.length - (intOf a).toNat)
    case atStart => exact ⟨0, by omega, rfl, Below.refl _ _, fun j a b h => absurd h (Nat.not_lt_zero _)⟩
    case round =>
      obtain ⟨i, hi, rfl, HB, hno⟩ := hrel
      by_cases hlt : i < xs.length
      · have hlt' : i < ys.length := by have := HLN.out; omega
        obtain ⟨x, hx⟩ : ∃ x, xs[i]? = some x := ⟨xs[i], List.getElem?_eq_getElem hlt⟩
        obtain ⟨y, hy⟩ : ∃ y, ys[i]? = some y := ⟨ys[i], List.getElem?_eq_getElem hlt'⟩
        obtain ⟨ad, v2, v6, v7, rfl, hadb, h0, h1, h2, h3, h4, h5, h6, h7, h8, h9, h10, h11, k2, k6, k7⟩ := row_eEntity (HR.out.below HB.out) hx
        obtain ⟨A2, c2, rfl, -⟩ := k2.slice
        obtain ⟨A6, c6, rfl, -⟩ := k6.slice
        obtain ⟨A7, c7, rfl, -⟩ := k7.slice
        have hbk : (ad.add (i * 12)).block < wr.heap.size := by rw [block_of_add]; exact hadb
        obtain ⟨ad', v2', v6', v7', rfl, hadb', h0', h1', h2', h3', h4', h5', h6', h7', h8', h9', h10', h11', k2', k6', k7'⟩ := row_eEntity (HR'.out.below HB.out) hy
        obtain ⟨A2', c2', rfl, -⟩ := k2'.slice
        obtain ⟨A6', c6', rfl, -⟩ := k6'.slice
        obtain ⟨A7', c7', rfl, -⟩ := k7'.slice
        have hbk' : (ad'.add (i * 12)).block < wr.heap.size := by rw [block_of_add]; exact hadb'
        have hcall := HP.out ((wr.alloc (.cells #[.int .i64 x.Kind, .int .i64 x.Script, .slice A2 (x.Slots).length c2, .int .i64 x.State, .int .i64 x.Value.Kind, .int .i64 x.Value.N, .slice A6 (x.Queue).length c6, .slice A7 (x.Askers).length c7, .int .i64 x.Peer, .int .i64 x.Pos, .int .i64 x.Count, .int .i64 x.Sent] 65)).alloc (.cells #[.int .i64 y.Kind, .int .i64 y.Script, .slice A2' (y.Slots).length c2', .int .i64 y.State, .int .i64 y.Value.Kind, .int .i64 y.Value.N, .slice A6' (y.Queue).length c6', .slice A7' (y.Askers).length c7', .int .i64 y.Peer, .int .i64 y.Pos, .int .i64 y.Count, .int .i64 y.Sent] 65)) x y _ _ (HB.out.trans ((((Below.refl wr.heap.size wr).alloc (Nat.le_refl _) _).alloc (by simp) _).mono HB.out.size)) (List.mem_of_getElem? hx) (List.mem_of_getElem? hy) (mkrd_eEntity (k2.below (((Below.refl wr.heap.size wr).alloc (Nat.le_refl _) _).alloc (by simp) _)) (k6.below (((Below.refl wr.heap.size wr).alloc (Nat.le_refl _) _).alloc (by simp) _)) (k7.below (((Below.refl wr.heap.size wr).alloc (Nat.le_refl _) _).alloc (by simp) _))) (mkrd_eEntity (k2'.below (((Below.refl wr.heap.size wr).alloc (Nat.le_refl _) _).alloc (by simp) _)) (k6'.below (((Below.refl wr.heap.size wr).alloc (Nat.le_refl _) _).alloc (by simp) _)) (k7'.below (((Below.refl wr.heap.size wr).alloc (Nat.le_refl _) _).alloc (by simp) _)))
        have HX := Lib.hid hx
        have HY := Lib.hid hy
        clear hx hy
        cases he : eq x y with
        | false =>
          rw [he] at hcall
          have HC := Lib.hid hcall
          clear hcall
          have HE := Lib.hid (sameL_at (eq := eq) HX.out HY.out he)
          go_wp2_with (go_at_fn g; refine HC.out.mono ?_; rintro e w' ⟨rfl, hb'⟩)
          go_ret
          exact ⟨by rw [HE.out]; rfl, HB.out.trans ((((Below.refl wr.heap.size wr).alloc (Nat.le_refl _) _).alloc (by simp) _).trans (hb'.mono (by simp only [size_alloc]; omega)) |>.mono HB.out.size)⟩
        | true =>
          rw [he] at hcall
          have HC := Lib.hid hcall
          clear hcall
          have HN := Lib.hid (step_eq (eq := eq) hno.out HX.out HY.out he)
          go_wp2_with (go_at_fn g; refine HC.out.mono ?_; rintro e w' ⟨rfl, hb'⟩)
          go_roundw
          case rel => exact ⟨i + 1, by omega, by go_num, HB.out.trans ((((Below.refl wr.heap.size wr).alloc (Nat.le_refl _) _).alloc (by simp) _).trans (hb'.mono (by simp only [size_alloc]; omega)) |>.mono HB.out.size), HN⟩
          case measure => simp [intOf]; omega
      · have HE := Lib.hid (sameL_all (eq := eq) HLN.out (fun i a b ha hb => hno.out i a b (by have := (List.getElem?_eq_some_iff.1 ha).1; omega) ha hb))
        go_wp2
        go_ret
        exact ⟨by rw [HE.out]; rfl, HB.out⟩
  · have HE := Lib.hid (sameL_len (eq := eq) hln)
    have hlb : ((xs.length : Int) != (ys.length : Int)) = true := by simp; omega
    go_enter Try.func74, Try.ntmps74
    go_wp2
    go_ret
    exact ⟨by rw [HE.out]; rfl, Below.refl _ _⟩

set_option maxHeartbeats 800000 in
set_option maxRecDepth 100000 in
theorem slices_EqualFunc_Link (eq : GLink → GLink → Bool) (g : Nat) (lb : Array Value) (eg : ∀ args w, (callFunc g args).run Try.prog w = .ok (.enter g args) w) (v v' : Value) (xs ys : List GLink) (w : World) (hr : RdW w (.s xs.length (xs.flatMap eLink)) v) (hr' : RdW w (.s ys.length (ys.flatMap eLink)) v')
    (hp : ∀ (W : World) (x y : GLink) (us us' : List Value), Below w.heap.size w W → x ∈ xs → y ∈ ys → RdLW W (eLink x) us → RdLW W (eLink y) us' → Calls Try.prog g (#[.agg us.toArray, .agg us'.toArray] ++ lb) W fun e w' => e = .returned (.bool (eq x y)) ∧ Below W.heap.size W w') :
    Calls Try.prog 77 #[v, v', .func (.func g) #[] lb] w fun e w' => e = .returned (.bool (sameL eq xs ys)) ∧ Below w.heap.size w w' := by
  obtain ⟨A, c, rfl, ⟨_, _, hl⟩⟩ := hr.slice
  obtain ⟨A', c', rfl, ⟨_, _, hl'⟩⟩ := hr'.slice
  have HR := Lib.hid hr
  have HR' := Lib.hid hr'
  have HP := Lib.hid hp
  clear hr hr' hp
  by_cases hln : xs.length = ys.length
  · have hlb : ((xs.length : Int) != (ys.length : Int)) = false := by rw [hln]; simp
    have HLN := Lib.hid hln
    clear hln
    go_enter Try.func77, Try.ntmps77
    go_wp2
    clear hlb
    go_loopw [17] (fun a wr => ∃ i : Nat, i ≤ xs.length ∧ a = .int .i64 i ∧ Hid (Below w.heap.size w wr) ∧ Hid (∀ (j : Nat) a b, j < i → xs[j]? = some a → ys[j]? = some b → eq a b = true)) (fun a wr => xs.length - (intOf a).toNat)
    case atStart => exact ⟨0, by omega, rfl, Below.refl _ _, fun j a b h => absurd h (Nat.not_lt_zero _)⟩
    case round =>
      obtain ⟨i, hi, rfl, HB, hno⟩ := hrel
      by_cases hlt : i < xs.length
      · have hlt' : i < ys.length := by have := HLN.out; omega
        obtain ⟨x, hx⟩ : ∃ x, xs[i]? = some x := ⟨xs[i], List.getElem?_eq_getElem hlt⟩
        obtain ⟨y, hy⟩ : ∃ y, ys[i]? = some y := ⟨ys[i], List.getElem?_eq_getElem hlt'⟩
        obtain ⟨ad, v2, v4, v6, rfl, hadb, h0, h1, h2, h3, h4, h5, h6, k2, k4, k6⟩ := row_eLink (HR.out.below HB.out) hx
        obtain ⟨A2, c2, rfl, -⟩ := k2.slice
        obtain ⟨A4, c4, rfl, -⟩ := k4.slice
        obtain ⟨A6, c6, rfl, -⟩ := k6.slice
        have hbk : (ad.add (i * 7)).block < wr.heap.size := by rw [block_of_add]; exact hadb
        obtain ⟨ad', v2', v4', v6', rfl, hadb', h0', h1', h2', h3', h4', h5', h6', k2', k4', k6'⟩ := row_eLink (HR'.out.below HB.out) hy
        obtain ⟨A2', c2', rfl, -⟩ := k2'.slice
        obtain ⟨A4', c4', rfl, -⟩ := k4'.slice
        obtain ⟨A6', c6', rfl, -⟩ := k6'.slice
        have hbk' : (ad'.add (i * 7)).block < wr.heap.size := by rw [block_of_add]; exact hadb'
        have hcall := HP.out ((wr.alloc (.cells #[.int .i64 x.Peer, .bool x.Up, .slice A2 (x.Exports).length c2, .int .i64 x.Next, .slice A4 (x.Questions).length c4, .int .i64 x.Asked, .slice A6 (x.Answers).length c6] 80)).alloc (.cells #[.int .i64 y.Peer, .bool y.Up, .slice A2' (y.Exports).length c2', .int .i64 y.Next, .slice A4' (y.Questions).length c4', .int .i64 y.Asked, .slice A6' (y.Answers).length c6'] 80)) x y _ _ (HB.out.trans ((((Below.refl wr.heap.size wr).alloc (Nat.le_refl _) _).alloc (by simp) _).mono HB.out.size)) (List.mem_of_getElem? hx) (List.mem_of_getElem? hy) (mkrd_eLink (k2.below (((Below.refl wr.heap.size wr).alloc (Nat.le_refl _) _).alloc (by simp) _)) (k4.below (((Below.refl wr.heap.size wr).alloc (Nat.le_refl _) _).alloc (by simp) _)) (k6.below (((Below.refl wr.heap.size wr).alloc (Nat.le_refl _) _).alloc (by simp) _))) (mkrd_eLink (k2'.below (((Below.refl wr.heap.size wr).alloc (Nat.le_refl _) _).alloc (by simp) _)) (k4'.below (((Below.refl wr.heap.size wr).alloc (Nat.le_refl _) _).alloc (by simp) _)) (k6'.below (((Below.refl wr.heap.size wr).alloc (Nat.le_refl _) _).alloc (by simp) _)))
        have HX := Lib.hid hx
        have HY := Lib.hid hy
        clear hx hy
        cases he : eq x y with
        | false =>
          rw [he] at hcall
          have HC := Lib.hid hcall
          clear hcall
          have HE := Lib.hid (sameL_at (eq := eq) HX.out HY.out he)
          go_wp2_with (go_at_fn g; refine HC.out.mono ?_; rintro e w' ⟨rfl, hb'⟩)
          go_ret
          exact ⟨by rw [HE.out]; rfl, HB.out.trans ((((Below.refl wr.heap.size wr).alloc (Nat.le_refl _) _).alloc (by simp) _).trans (hb'.mono (by simp only [size_alloc]; omega)) |>.mono HB.out.size)⟩
        | true =>
          rw [he] at hcall
          have HC := Lib.hid hcall
          clear hcall
          have HN := Lib.hid (step_eq (eq := eq) hno.out HX.out HY.out he)
          go_wp2_with (go_at_fn g; refine HC.out.mono ?_; rintro e w' ⟨rfl, hb'⟩)
          go_roundw
          case rel => exact ⟨i + 1, by omega, by go_num, HB.out.trans ((((Below.refl wr.heap.size wr).alloc (Nat.le_refl _) _).alloc (by simp) _).trans (hb'.mono (by simp only [size_alloc]; omega)) |>.mono HB.out.size), HN⟩
          case measure => simp [intOf]; omega
      · have HE := Lib.hid (sameL_all (eq := eq) HLN.out (fun i a b ha hb => hno.out i a b (by have := (List.getElem?_eq_some_iff.1 ha).1; omega) ha hb))
        go_wp2
        go_ret
        exact ⟨by rw [HE.out]; rfl, HB.out⟩
  · have HE := Lib.hid (sameL_len (eq := eq) hln)
    have hlb : ((xs.length : Int) != (ys.length : Int)) = true := by simp; omega
    go_enter Try.func77, Try.ntmps77
    go_wp2
    go_ret
    exact ⟨by rw [HE.out]; rfl, Below.refl _ _⟩

set_option maxHeartbeats 800000 in
set_option maxRecDepth 100000 in
theorem slices_EqualFunc_Outgoing (eq : GOutgoing → GOutgoing → Bool) (g : Nat) (lb : Array Value) (eg : ∀ args w, (callFunc g args).run Try.prog w = .ok (.enter g args) w) (v v' : Value) (xs ys : List GOutgoing) (w : World) (hr : RdW w (.s xs.length (xs.flatMap eOutgoing)) v) (hr' : RdW w (.s ys.length (ys.flatMap eOutgoing)) v')
    (hp : ∀ (W : World) (x y : GOutgoing) (us us' : List Value), Below w.heap.size w W → x ∈ xs → y ∈ ys → RdLW W (eOutgoing x) us → RdLW W (eOutgoing y) us' → Calls Try.prog g (#[.agg us.toArray, .agg us'.toArray] ++ lb) W fun e w' => e = .returned (.bool (eq x y)) ∧ Below W.heap.size W w') :
    Calls Try.prog 79 #[v, v', .func (.func g) #[] lb] w fun e w' => e = .returned (.bool (sameL eq xs ys)) ∧ Below w.heap.size w w' := by
  obtain ⟨A, c, rfl, ⟨_, _, hl⟩⟩ := hr.slice
  obtain ⟨A', c', rfl, ⟨_, _, hl'⟩⟩ := hr'.slice
  have HR := Lib.hid hr
  have HR' := Lib.hid hr'
  have HP := Lib.hid hp
  clear hr hr' hp
  by_cases hln : xs.length = ys.length
  · have hlb : ((xs.length : Int) != (ys.length : Int)) = false := by rw [hln]; simp
    have HLN := Lib.hid hln
    clear hln
    go_enter Try.func79, Try.ntmps79
    go_wp2
    clear hlb
    go_loopw [17] (fun a wr => ∃ i : Nat, i ≤ xs.length ∧ a = .int .i64 i ∧ Hid (Below w.heap.size w wr) ∧ Hid (∀ (j : Nat) a b, j < i → xs[j]? = some a → ys[j]? = some b → eq a b = true)) (fun a wr => xs.length - (intOf a).toNat)
    case atStart => exact ⟨0, by omega, rfl, Below.refl _ _, fun j a b h => absurd h (Nat.not_lt_zero _)⟩
    case round =>
      obtain ⟨i, hi, rfl, HB, hno⟩ := hrel
      by_cases hlt : i < xs.length
      · have hlt' : i < ys.length := by have := HLN.out; omega
        obtain ⟨x, hx⟩ : ∃ x, xs[i]? = some x := ⟨xs[i], List.getElem?_eq_getElem hlt⟩
        obtain ⟨y, hy⟩ : ∃ y, ys[i]? = some y := ⟨ys[i], List.getElem?_eq_getElem hlt'⟩
        obtain ⟨ad, v6, rfl, hadb, h0, h1, h2, h3, h4, h5, h6, h7, h8, h9, h10, h11, h12, k6⟩ := row_eOutgoing (HR.out.below HB.out) hx
        obtain ⟨A6, c6, rfl, -⟩ := k6.slice
        have hbk : (ad.add (i * 13)).block < wr.heap.size := by rw [block_of_add]; exact hadb
        obtain ⟨ad', v6', rfl, hadb', h0', h1', h2', h3', h4', h5', h6', h7', h8', h9', h10', h11', h12', k6'⟩ := row_eOutgoing (HR'.out.below HB.out) hy
        obtain ⟨A6', c6', rfl, -⟩ := k6'.slice
        have hbk' : (ad'.add (i * 13)).block < wr.heap.size := by rw [block_of_add]; exact hadb'
        have hcall := HP.out ((wr.alloc (.cells #[.int .i64 x.To, .int .i64 x.Message.Kind, .int .i64 x.Message.Pos, .int .i64 x.Message.Answer, .int .i64 x.Message.Question, .string x.Message.Name, .slice A6 (x.Message.Args).length c6, .int .i64 x.Message.Value.Kind, .int .i64 x.Message.Value.N, .int .i64 x.Message.Count, .int .i64 x.Message.Tag.Vat, .int .i64 x.Message.Tag.Entity, .int .i64 x.Message.Tag.Seq] 97)).alloc (.cells #[.int .i64 y.To, .int .i64 y.Message.Kind, .int .i64 y.Message.Pos, .int .i64 y.Message.Answer, .int .i64 y.Message.Question, .string y.Message.Name, .slice A6' (y.Message.Args).length c6', .int .i64 y.Message.Value.Kind, .int .i64 y.Message.Value.N, .int .i64 y.Message.Count, .int .i64 y.Message.Tag.Vat, .int .i64 y.Message.Tag.Entity, .int .i64 y.Message.Tag.Seq] 97)) x y _ _ (HB.out.trans ((((Below.refl wr.heap.size wr).alloc (Nat.le_refl _) _).alloc (by simp) _).mono HB.out.size)) (List.mem_of_getElem? hx) (List.mem_of_getElem? hy) (mkrd_eOutgoing (k6.below (((Below.refl wr.heap.size wr).alloc (Nat.le_refl _) _).alloc (by simp) _))) (mkrd_eOutgoing (k6'.below (((Below.refl wr.heap.size wr).alloc (Nat.le_refl _) _).alloc (by simp) _)))
        have HX := Lib.hid hx
        have HY := Lib.hid hy
        clear hx hy
        cases he : eq x y with
        | false =>
          rw [he] at hcall
          have HC := Lib.hid hcall
          clear hcall
          have HE := Lib.hid (sameL_at (eq := eq) HX.out HY.out he)
          go_wp2_with (go_at_fn g; refine HC.out.mono ?_; rintro e w' ⟨rfl, hb'⟩)
          go_ret
          exact ⟨by rw [HE.out]; rfl, HB.out.trans ((((Below.refl wr.heap.size wr).alloc (Nat.le_refl _) _).alloc (by simp) _).trans (hb'.mono (by simp only [size_alloc]; omega)) |>.mono HB.out.size)⟩
        | true =>
          rw [he] at hcall
          have HC := Lib.hid hcall
          clear hcall
          have HN := Lib.hid (step_eq (eq := eq) hno.out HX.out HY.out he)
          go_wp2_with (go_at_fn g; refine HC.out.mono ?_; rintro e w' ⟨rfl, hb'⟩)
          go_roundw
          case rel => exact ⟨i + 1, by omega, by go_num, HB.out.trans ((((Below.refl wr.heap.size wr).alloc (Nat.le_refl _) _).alloc (by simp) _).trans (hb'.mono (by simp only [size_alloc]; omega)) |>.mono HB.out.size), HN⟩
          case measure => simp [intOf]; omega
      · have HE := Lib.hid (sameL_all (eq := eq) HLN.out (fun i a b ha hb => hno.out i a b (by have := (List.getElem?_eq_some_iff.1 ha).1; omega) ha hb))
        go_wp2
        go_ret
        exact ⟨by rw [HE.out]; rfl, HB.out⟩
  · have HE := Lib.hid (sameL_len (eq := eq) hln)
    have hlb : ((xs.length : Int) != (ys.length : Int)) = true := by simp; omega
    go_enter Try.func79, Try.ntmps79
    go_wp2
    go_ret
    exact ⟨by rw [HE.out]; rfl, Below.refl _ _⟩

end Go.Proofs.Ytapbejepffpckaa
