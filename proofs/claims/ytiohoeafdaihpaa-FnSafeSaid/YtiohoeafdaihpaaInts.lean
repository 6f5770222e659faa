import Derived.Test.YtiohoeafdaihpaaProg
import Derived.Test.YtiohoeafdaihpaaTypes
import Derived.StillTailTactics
import Derived.Deep.RegionHeld3
import Derived.Laws.IdiomStrings
import Derived.Test.YtiohoeafdaihpaaAppend
import Derived.Laws.StructEq
import Derived.Lib.SliceRun
import Derived.Shelf.RegionOpenPlain
import Derived.Test.YtiohoeafdaihpaaPureSafe
namespace Go.Proofs.Ytiohoeafdaihpaa
open Go.RowKit
set_option linter.unusedVariables false
set_option linter.unusedSimpArgs false

set_option maxHeartbeats 800000 in
theorem slices_Index_Int_calls (v : Value) (xs : List Int) (n : Int) (w : World) (hr : RdW w (.s xs.length (xs.flatMap eInt)) v) :
    Calls Try.prog 87 #[v, .int .i64 n] w fun e w' => e = .returned (.int .i64 (idx (fun o : Int => o == n) xs)) ∧ w' = w := by
  obtain ⟨A, c, rfl, ⟨_, _, hl⟩⟩ := hr.slice
  have HR := Lib.hid hr
  clear hr
  go_enter Try.func87, Try.ntmps87
  go_wp2
  go_loopw [8] (fun a wr => ∃ i : Nat, i ≤ xs.length ∧ a = .int .i64 i ∧ Hid (wr = w) ∧ Hid (∀ j y, j < i → xs[j]? = some y → (y == n) = false)) (fun a wr => xs.length - (intOf a).toNat)
  case atStart => exact ⟨0, by omega, rfl, rfl, no_start⟩
  case round =>
    obtain ⟨i, hi, rfl, HW, hno⟩ := hrel
    have hw : w = wr := HW.out.symm
    subst hw
    by_cases hlt : i < xs.length
    · obtain ⟨x, hx⟩ : ∃ x, xs[i]? = some x := ⟨xs[i], List.getElem?_eq_getElem hlt⟩
      obtain ⟨ad, rfl, hadb, h0⟩ := row_eInt HR.out hx
      have HX := Lib.hid hx
      clear hx
      cases hq : (x == n) with
      | true =>
        have hq2 : (n == x) = true := by rw [BEq.comm]; exact hq
        have HE := Lib.hid (idx_hit (p := fun o : Int => o == n) HX.out hq hno.out)
        go_wp2
        go_ret
        exact ⟨by rw [HE.out]; rfl, rfl⟩
      | false =>
        have hq2 : (n == x) = false := by rw [BEq.comm]; exact hq
        have HN := Lib.hid (step_no (p := fun y : Int => (y == n) = false) hno.out HX.out hq)
        go_wp2
        go_roundw
        case rel => exact ⟨i + 1, by omega, by go_num, trivial, HN⟩
        case measure => simp [intOf]; omega
    · have : i = xs.length := by omega
      subst this
      have HE := Lib.hid (idx_miss (all_of (p := fun y : Int => (y == n) = false) hno.out))
      go_wp2
      go_ret
      exact ⟨by rw [HE.out]; rfl, rfl⟩
set_option maxHeartbeats 800000 in
theorem slices_Contains_Int_calls (v : Value) (xs : List Int) (n : Int) (w : World) (hr : RdW w (.s xs.length (xs.flatMap eInt)) v) :
    Calls Try.prog 47 #[v, .int .i64 n] w fun e w' => e = .returned (.bool (hasI xs n)) ∧ w' = w := by
  have hcon := slices_Index_Int_calls v xs n w hr
  obtain ⟨A, c, rfl, _⟩ := hr.slice
  have HE := Lib.hid (idx_any (fun o : Int => o == n) xs)
  clear hr
  generalize idx (fun o : Int => o == n) xs = r at hcon HE
  go_enter Try.func47, Try.ntmps47
  go_wp2_with fail
  refine hcon.mono ?_
  rintro e w' ⟨rfl, rfl⟩
  go_wp2
  go_ret
  exact ⟨by rw [show hasI xs n = _ from HE.out.symm]; rfl, rfl⟩
set_option maxHeartbeats 800000 in
theorem impl_shared1_calls (B : Nat) (xs : List Int) (n : Int) (v : Value) (W : World) (hb : Blk W B 44 #[v]) (hr : RdW W (.s xs.length (xs.flatMap eInt)) v) :
    Calls Try.prog 85 #[.int .i64 n, .pointer (some ⟨B, 0, none⟩)] W fun e w' => e = .returned (.bool (!hasI xs n)) ∧ w' = W := by
  have hcon := slices_Contains_Int_calls v xs n W hr
  obtain ⟨A, c, rfl, _⟩ := hr.slice
  obtain ⟨kb, fb⟩ := hb.rules
  have hlb := hb.lt
  clear hr hb
  go_enter Try.func85, Try.ntmps85
  go_wp2_with fail
  refine hcon.mono ?_
  rintro e w' ⟨rfl, rfl⟩
  go_wp2
  go_ret
  exact ⟨rfl, rfl⟩
set_option maxHeartbeats 800000 in
theorem impl_FirstUnset2_calls (B : Nat) (xs : List Int) (n : Int) (v : Value) (W : World) (hb : Blk W B 44 #[v]) (hr : RdW W (.s xs.length (xs.flatMap eInt)) v) :
    Calls Try.prog 46 #[.int .i64 n, .pointer (some ⟨B, 0, none⟩)] W fun e w' => e = .returned (.bool (!hasI xs n)) ∧ w' = W := by
  have hcon := slices_Contains_Int_calls v xs n W hr
  obtain ⟨A, c, rfl, _⟩ := hr.slice
  obtain ⟨kb, fb⟩ := hb.rules
  have hlb := hb.lt
  clear hr hb
  go_enter Try.func46, Try.ntmps46
  go_wp2_with fail
  refine hcon.mono ?_
  rintro e w' ⟨rfl, rfl⟩
  go_wp2
  go_ret
  exact ⟨rfl, rfl⟩
set_option maxHeartbeats 800000 in
theorem impl_some1_calls (n : Int) (W : World) :
    Calls Try.prog 89 #[.int .i64 n] W fun e w' => e = .returned (.bool (n == -1)) ∧ Below W.heap.size W w' := by
  go_enter Try.func89, Try.ntmps89
  go_wp2
  go_ret
  exact ⟨rfl, Below.refl _ _⟩

set_option maxHeartbeats 800000 in
set_option maxRecDepth 100000 in
theorem slices_IndexFunc_Int (p : Int → Bool) (g : Nat) (lb : Array Value) (eg : ∀ args w, (callFunc g args).run Try.prog w = .ok (.enter g args) w) (v : Value) (xs : List Int) (w : World) (hr : RdW w (.s xs.length (xs.flatMap eInt)) v)
    (hp : ∀ (W : World) (x : Int) (us : List Value), Below w.heap.size w W → x ∈ xs → RdLW W (eInt x) us → Calls Try.prog g (#[us.headD undef] ++ lb) W fun e w' => e = .returned (.bool (p x)) ∧ Below W.heap.size W w') :
    Calls Try.prog 86 #[v, .func (.func g) #[] lb] w fun e w' => e = .returned (.int .i64 (idx p xs)) ∧ Below w.heap.size w w' := by
  obtain ⟨A, c, rfl, ⟨_, _, hl⟩⟩ := hr.slice
  have HR := Lib.hid hr
  have HP := Lib.hid hp
  clear hr hp
  go_enter Try.func86, Try.ntmps86
  go_wp2
  go_loopw [8] (fun a wr => ∃ i : Nat, i ≤ xs.length ∧ a = .int .i64 i ∧ Hid (Below w.heap.size w wr) ∧ Hid (∀ j y, j < i → xs[j]? = some y → p y = false)) (fun a wr => xs.length - (intOf a).toNat)
  case atStart => exact ⟨0, by omega, rfl, Below.refl _ _, no_start⟩
  case round =>
    obtain ⟨i, hi, rfl, HB, hno⟩ := hrel
    by_cases hlt : i < xs.length
    · obtain ⟨x, hx⟩ : ∃ x, xs[i]? = some x := ⟨xs[i], List.getElem?_eq_getElem hlt⟩
      obtain ⟨ad, rfl, hadb, h0⟩ := row_eInt (HR.out.below HB.out) hx
      have hcall := HP.out wr x _ HB.out (List.mem_of_getElem? hx) (mkrd_eInt (x := x))
      have HX := Lib.hid hx
      clear hx
      cases hq : p x with
      | true =>
        rw [hq] at hcall
        have HE := Lib.hid (idx_hit HX.out hq hno.out)
        go_wp2_with (go_at_fn g; refine hcall.mono ?_; rintro e w' ⟨rfl, hb'⟩)
        go_ret
        exact ⟨by rw [HE.out]; rfl, HB.out.trans (hb'.mono HB.out.size)⟩
      | false =>
        rw [hq] at hcall
        have HN := Lib.hid (step_no (p := fun y => p y = false) hno.out HX.out hq)
        go_wp2_with (go_at_fn g; refine hcall.mono ?_; rintro e w' ⟨rfl, hb'⟩)
        go_roundw
        case rel => exact ⟨i + 1, by omega, by go_num, HB.out.trans (hb'.mono HB.out.size), HN⟩
        case measure => simp [intOf]; omega
    · have : i = xs.length := by omega
      subst this
      have HE := Lib.hid (idx_miss (all_of (p := fun y => p y = false) hno.out))
      go_wp2
      go_ret
      exact ⟨by rw [HE.out]; rfl, HB.out⟩

set_option maxHeartbeats 800000 in
set_option maxRecDepth 100000 in
theorem slices_ContainsFunc_Int (p : Int → Bool) (g : Nat) (lb : Array Value) (eg : ∀ args w, (callFunc g args).run Try.prog w = .ok (.enter g args) w) (v : Value) (xs : List Int) (w : World) (hr : RdW w (.s xs.length (xs.flatMap eInt)) v)
    (hp : ∀ (W : World) (x : Int) (us : List Value), Below w.heap.size w W → x ∈ xs → RdLW W (eInt x) us → Calls Try.prog g (#[us.headD undef] ++ lb) W fun e w' => e = .returned (.bool (p x)) ∧ Below W.heap.size W w') :
    Calls Try.prog 45 #[v, .func (.func g) #[] lb] w fun e w' => e = .returned (.bool (xs.any p)) ∧ Below w.heap.size w w' := by
  have hcon := slices_IndexFunc_Int p g lb eg v xs w hr hp
  obtain ⟨A, c, rfl, _⟩ := hr.slice
  have HE := Lib.hid (idx_any p xs)
  clear hr hp
  generalize idx p xs = r at hcon HE
  go_enter Try.func45, Try.ntmps45
  go_wp2_with (go_at_call 86; refine hcon.mono ?_; rintro e w' ⟨rfl, hb'⟩)
  go_ret
  exact ⟨by rw [← HE.out]; rfl, hb'⟩

set_option maxHeartbeats 800000 in
set_option maxRecDepth 100000 in
theorem slices_Clone_Int_row (v : Value) (xs : List Int) (w : World) (hr : RdW w (.s xs.length (xs.flatMap eInt)) v) (hz : xs.length ≤ 1048576) :
    Calls Try.prog 49 #[v] w fun e w' => ∃ A' c', e = .returned (.slice A' xs.length c') ∧ w'.ownsRow w.heap.size 3 1 (.slice A' xs.length c') xs.length (xs.flatMap vsInt) ∧ Below w.heap.size w w' := by
  obtain ⟨A, c, rfl, ⟨hnc, hcc, hl⟩⟩ := hr.slice
  have hcells := hr.cells vals_eInt
  have q1 : ∀ (w : World) (a : Option Addr) (n c n' c' : Nat), (binOp .eql 44 (.slice a n c) (.slice none n' c')).run Try.prog w = .ok (.bool a.isNone) w := fun w a n c n' c' => Lib.run_eql_slice_nil w _ _ a n c n' c' Try.underlying44
  have HR := Lib.hid hr
  clear hr
  cases A with
  | none =>
    have h0 : xs.length = 0 := by
      rcases hcells with h | ⟨ad, h, _⟩
      · exact h
      · cases h
    have hxs : xs = [] := List.eq_nil_of_length_eq_zero h0
    subst hxs
    clear hcells
    go_enter Try.func49, Try.ntmps49
    go_wp2
    go_ret
    exact ⟨none, 0, rfl, World.ownsRow_nil _ _ _ _, Below.refl _ _⟩
  | some ad =>
    clear hcells
    go_enter Try.func49, Try.ntmps49
    go_wp2_with (at_builtin; refine wpList_copy_rd rfl _ _ 44 rfl (w.heap.size) 3 _ _ 1 8 Try.underlying44 rfl rfl rfl rfl rfl (by omega) _ rfl (World.ownsRow_made w #[] 0 (Nat.le_refl _) (Nat.zero_le _) (by simp)) vals_eInt xs (one_eInt xs) (lenv_eInt xs) _ _ rfl (HR.out.alloc _) (by omega) (by omega) (by simp) ?_)
    intro A' c' w1 hown hgrow
    have HG := Lib.hid hgrow
    have HW := Lib.hid hown
    clear hown hgrow
    go_wp2
    go_ret
    exact ⟨A', c', rfl, HW.out, ((Below.refl _ w).alloc (Nat.le_refl _) _).trans (grown_below HG.out (by simp) (by intro k hk; simp [Value.ownBlock] at hk; omega))⟩
set_option maxHeartbeats 800000 in
set_option maxRecDepth 100000 in
theorem slices_Clone_Int_calls (v : Value) (xs : List Int) (w : World) (hr : RdW w (.s xs.length (xs.flatMap eInt)) v) (hz : xs.length ≤ 1048576) :
    Calls Try.prog 49 #[v] w fun e w' => ∃ v' fp, e = .returned v' ∧ Own w' (.s xs.length (xs.flatMap eInt)) v' fp ∧ Fresh w fp ∧ Below w.heap.size w w' := by
  refine (slices_Clone_Int_row v xs w hr hz).mono fun e w' ⟨A', c', he, ho, hb⟩ => ?_
  obtain ⟨fp, ho, hn, hge⟩ := ownRow_own vals_eInt ho (by omega)
  exact ⟨_, fp, he, ho, ⟨hn, hge⟩, hb⟩

set_option maxHeartbeats 800000 in
set_option maxRecDepth 100000 in
theorem slices_DeleteFunc_Int_calls (p : Int → Bool) (g0 : Nat) (lb : Array Value) (eg : ∀ args w, (callFunc g0 args).run Try.prog w = .ok (.enter g0 args) w) (v : Value) (xs : List Int) (w : World) (fp : List Nat) (ho : Own w (.s xs.length (xs.flatMap eInt)) v fp) (HND : fp.Nodup) (hz : xs.length ≤ 1048576)
    (hp : ∀ (W : World) (x : Int) (us : List Value), Chg (· ∈ fp) w W → x ∈ xs → RdLW W (eInt x) us → Calls Try.prog g0 (#[us.headD undef] ++ lb) W fun e w' => e = .returned (.bool (p x)) ∧ Below W.heap.size W w') :
    Calls Try.prog 84 #[v, .func (.func g0) #[] lb] w fun e w' => ∃ v' fp', e = .returned v' ∧ Own w' (.s (xs.filter fun x => !p x).length ((xs.filter fun x => !p x).flatMap eInt)) v' fp' ∧ fp'.Nodup ∧ (∀ k, k ∈ fp' → k ∈ fp) ∧ Chg (· ∈ fp) w w' := by
  have hlv : ∀ x : Int, (vsInt x).length = 1 := fun _ => rfl
  have hix := slices_IndexFunc_Int p g0 lb eg v xs w ho.rdw (fun W x us hW hx hr => hp W x us (Chg.of_below hW _) hx hr)
  have HIX := Lib.hid hix
  have HP := Lib.hid hp
  have HO := Lib.hid ho
  clear hix hp
  by_cases hge : 0 ≤ idx p xs
  · obtain ⟨i0, x0, hi0, hx0, hp0, hno⟩ := idx_some hge
    have hil : i0 < xs.length := (List.getElem?_eq_some_iff.1 hx0).1
    obtain ⟨g, c, rfl, hok, rfl, hg, hr⟩ := own_rowis vals_eInt ho (by omega)
    have hok1 := hok.le
    have hok2 := hok.cap
    have HOK := Lib.hid hok
    have HD := Lib.hid (Df.start hx0 hp0 hno)
    have HR := Lib.hid hr
    rw [hi0] at HIX
    have hn1 : ((i0 : Int) == -1) = false := by first | (simp; done) | (simp; omega)
    clear hx0 hp0 hno hr ho hi0 hge hok
    go_enter Try.func84, Try.ntmps84
    go_wp2_with fail
    refine HIX.out.mono ?_
    rintro e w0 ⟨rfl, hb0⟩
    have HB0 := Lib.hid hb0
    have hg0 : g < w0.heap.size := Nat.lt_of_lt_of_le hg hb0.size
    clear hb0
    go_wp2
    go_loopw [5, 6] (fun a b wr => ∃ (i j : Nat) (ys : List Int), a = .int .i64 i ∧ b = .int .i64 j ∧ i < j ∧ j ≤ xs.length ∧ g < wr.heap.size ∧ Hid (Df p xs i j ys) ∧ Hid (RowIs wr g (ys.flatMap vsInt)) ∧ Hid (Chg (· ∈ [g]) w wr)) (fun a b wr => xs.length - (intOf b).toNat)
    case atStart => exact ⟨i0, i0 + 1, xs, rfl, by go_num, by omega, by omega, hg0, HD, HR.out.keep (HB0.out.block g hg), Chg.of_below HB0.out _⟩
    case round =>
      obtain ⟨i, j, ys, rfl, rfl, hij, hj, hgr, HDF, HRW, HCH⟩ := hrel
      by_cases hlt : j < xs.length
      · obtain ⟨x, hx⟩ : ∃ x, xs[j]? = some x := ⟨xs[j], List.getElem?_eq_getElem hlt⟩
        have HX := Lib.hid hx
        have hiy : i < ys.length := by have := HDF.out.len; omega
        have HAT := Lib.hid (HRW.out.row hlv (HDF.out.at_ hx))
        have hmem := List.mem_of_getElem? hx
        clear hx
        obtain ⟨h0, f0⟩ := HAT.out 0 _ rfl
        rw [Nat.add_zero, Nat.mul_one] at h0 f0
        have hcall := HP.out wr x _ HCH.out hmem (mkrd_eInt (x := x))
        cases hq : p x with
        | true =>
          rw [hq] at hcall
          have HC := Lib.hid hcall
          have HN := Lib.hid (HDF.out.skip HX.out hq)
          clear hcall
          go_wp2_with (go_at_fn g0; refine HC.out.mono ?_; rintro e w1 ⟨rfl, hb1⟩)
          have hbb := Lib.hid hb1
          clear hb1
          go_roundw
          case rel => exact ⟨i, j + 1, ys, rfl, by go_num, by omega, by omega, Nat.lt_of_lt_of_le hgr hbb.out.size, HN, HRW.out.keep (hbb.out.block g hgr), HCH.out.trans (Chg.of_below hbb.out _)⟩
          case measure => simp [intOf]; omega
        | false =>
          rw [hq] at hcall
          have HC := Lib.hid hcall
          have HN := Lib.hid (HDF.out.put HX.out hq)
          clear hcall
          go_wp2_with (go_at_fn g0; refine HC.out.mono ?_; rintro e w1 ⟨rfl, hb1⟩; have hbb := Lib.hid hb1; have hg1 := Nat.lt_of_lt_of_le hgr hbb.out.size; have HRW1 := Lib.hid (HRW.out.keep (hbb.out.block g hgr)); have hat := HRW1.out.row hlv (List.getElem?_eq_getElem hiy); obtain ⟨q0, p0⟩ := hat 0 _ rfl; rw [Nat.add_zero, Nat.mul_one] at q0 p0; clear hat hb1 h0 f0)
          go_roundw
          case rel =>
            have hst := HRW1.out.setRow hlv hiy x
            simp only [vsInt, putRow, Nat.add_assoc, Nat.reduceAdd, Nat.mul_one] at hst
            exact ⟨i + 1, j + 1, ys.set i x, by go_num, by go_num, by omega, by omega, by simpa [World.setCell] using hg1, HN, hst, (HCH.out.trans (Chg.of_below hbb.out _)).trans ((Chg.refl (· ∈ [g]) _).setCell (p := ⟨g, i, none⟩) (.inl (by simp)) _)⟩
          case measure => simp [intOf]; omega
      · have : j = xs.length := by omega
        subst this
        have hlen := HDF.out.len
        have hfi := HDF.out.finish
        have HFI := Lib.hid hfi
        clear hfi
        obtain ⟨w', hrun, hcc, hkeep⟩ := run_clear_rows (P := Try.prog) wr 44 3 0 _ _ 1 Try.underlying44 rfl rfl rfl (by decide) g (i * 1) (xs.length - i) (c - i)
          (fun q hq => by
            obtain ⟨u, hu⟩ : ∃ u, (ys.flatMap vsInt)[i * 1 + q]? = some u := ⟨_, List.getElem?_eq_getElem (by rw [flat_lenV hlv, hlen]; have : (xs.length - i) * 1 = xs.length * 1 - i * 1 := Nat.sub_mul _ _ _; omega)⟩
            rw [(HRW.out _ u hu).1]; rfl)
          (fun q hq => by
            obtain ⟨u, hu⟩ : ∃ u, (ys.flatMap vsInt)[i * 1 + q]? = some u := ⟨_, List.getElem?_eq_getElem (by rw [flat_lenV hlv, hlen]; have : (xs.length - i) * 1 = xs.length * 1 - i * 1 := Nat.sub_mul _ _ _; omega)⟩
            exact (HRW.out _ u hu).2)
        rw [Nat.mul_one] at hrun
        have HCC := Lib.hid hcc
        have HKEEP := Lib.hid hkeep
        clear hcc hkeep
        go_wp2
        go_ret
        rw [HFI.out]
        have hti : (ys.take i).length = i := by rw [List.length_take]; omega
        have hrt : RowIs wr g ((ys.take i).flatMap vsInt) := by
          have h := HRW.out
          rw [← List.take_append_drop i ys, List.flatMap_append] at h
          exact h.pre
        obtain ⟨fp', ho', hn', hs'⟩ := own_rows vals_eInt (c := c) (HKEEP.out _ (by rw [flat_lenV hlv, hti]; exact Nat.le_refl _) hrt) (Nat.lt_of_lt_of_le hgr HCC.out.size) ⟨by omega, by omega, by omega⟩
        refine ⟨_, fp', by rw [hti]; rfl, ho', hn', fun k hk => by rw [hs' k hk]; simp, HCH.out.trans (HCC.out.mono (fun k _ h => by simp [h]))⟩
  · obtain ⟨hi0, hno⟩ := idx_none hge
    obtain ⟨A, c, rfl, _⟩ := ho.slice
    have HE : Hid ((xs.filter fun x => !p x) = xs) := by
      unfold Hid
      rw [List.filter_eq_self]
      intro y hy
      simp [hno y hy]
    rw [hi0] at HIX
    clear ho hno hi0 hge
    go_enter Try.func84, Try.ntmps84
    go_wp2_with fail
    refine HIX.out.mono ?_
    rintro e w0 ⟨rfl, hb0⟩
    go_wp2
    go_ret
    rw [HE.out]
    exact ⟨_, fp, rfl, HO.out.below hb0, HND, fun _ h => h, Chg.of_below hb0 _⟩

end Go.Proofs.Ytiohoeafdaihpaa
