import Derived.Test.YtagkomochjnjoaaProg
import Derived.Test.YtagkomochjnjoaaTypes
import Derived.StillTailTactics
import Derived.Deep.RegionHeld3
import Derived.Laws.IdiomStrings
import Derived.Test.YtagkomochjnjoaaAppend
import Derived.Laws.StructEq
import Derived.Lib.SliceRun
import Derived.Shelf.RegionOpenPlain
import Derived.Test.YtagkomochjnjoaaHelp
import Derived.Test.YtagkomochjnjoaaPureLink
import Derived.Test.YtagkomochjnjoaaSlices
namespace Go.Proofs.Ytagkomochjnjoaa
open Go.RowKit
set_option linter.unusedVariables false
set_option linter.unusedSimpArgs false

set_option maxHeartbeats 400000 in
theorem spec_FindEntry_calls (v : Value) (xs : List GQuestion) (id : Int) (w : World) (hr : RdW w (.s xs.length (xs.flatMap eQuestion)) v) (hz : xs.length + sizL (xs.flatMap eQuestion) ≤ 1048576) (hi : I64 id) :
    Calls Try.prog 24 #[v, .int .i64 id] w fun e w' => e = .returned (.int .i64 (findEntry xs id)) ∧ Below w.heap.size w w' := by
  obtain ⟨A, c, rfl, ⟨_, _, hl⟩⟩ := hr.slice
  have HR := Lib.hid hr
  clear hr
  go_enter Try.func24, Try.ntmps24
  go_wp2
  go_loop [5] (fun a => ∃ i : Nat, i ≤ xs.length ∧ a = .int .i64 i ∧ Hid (∀ j y, j < i → xs[j]? = some y → y.Id ≠ id)) (fun a => xs.length - (intOf a).toNat)
  case atStart => exact ⟨0, by omega, rfl, fun j y h => absurd h (by omega)⟩
  case round =>
    obtain ⟨i, hi, rfl, hno⟩ := hrel
    by_cases hlt : i < xs.length
    · obtain ⟨x, hx⟩ : ∃ x, xs[i]? = some x := ⟨xs[i], List.getElem?_eq_getElem hlt⟩
      obtain ⟨ad, rfl, _, h0, h1⟩ := row_eQuestion HR.out hx
      have HX := Lib.hid hx
      clear hx
      by_cases he : x.Id = id
      · have HE := Lib.hid (findEntry_hit xs id i x HX.out he hno)
        go_wp2
        go_ret
        exact ⟨by rw [HE.out]; rfl, Below.refl _ _⟩
      · have HN : Hid (∀ j y, j < i + 1 → xs[j]? = some y → y.Id ≠ id) := step_no (p := fun y : GQuestion => y.Id ≠ id) hno HX.out he
        go_wp2
        go_round
        case rel => exact ⟨i + 1, by omega, by go_num, HN⟩
        case measure => simp [intOf]; omega
    · have HE := Lib.hid (findEntry_miss xs id (fun y hy => by obtain ⟨j, hj⟩ := List.getElem?_of_mem hy; exact hno j y (by have := (List.getElem?_eq_some_iff.1 hj).1; omega) hj))
      go_wp2
      go_ret
      exact ⟨by rw [HE.out]; rfl, Below.refl _ _⟩
set_option maxHeartbeats 400000 in
theorem impl_FindEntry_calls (v : Value) (xs : List GQuestion) (id : Int) (w : World) (hr : RdW w (.s xs.length (xs.flatMap eQuestion)) v) (hz : xs.length + sizL (xs.flatMap eQuestion) ≤ 1048576) (hi : I64 id) :
    Calls Try.prog 26 #[v, .int .i64 id] w fun e w' => e = .returned (.int .i64 (findEntry xs id)) ∧ Below w.heap.size w w' := by
  obtain ⟨A, c, rfl, ⟨_, _, hl⟩⟩ := hr.slice
  have HR := Lib.hid hr
  clear hr
  go_enter Try.func26, Try.ntmps26
  go_wp2
  go_loopw [9] (fun a wr => ∃ i : Nat, i ≤ xs.length ∧ a = .int .i64 i ∧ Hid (Below w.heap.size w wr) ∧ Hid (∀ j y, j < i → xs[j]? = some y → y.Id ≠ id)) (fun a wr => xs.length - (intOf a).toNat)
  case atStart => exact ⟨0, by omega, rfl, Below.refl _ _, fun j y h => absurd h (by omega)⟩
  case round =>
    obtain ⟨i, hi, rfl, HB, hno⟩ := hrel
    by_cases hlt : i < xs.length
    · obtain ⟨x, hx⟩ : ∃ x, xs[i]? = some x := ⟨xs[i], List.getElem?_eq_getElem hlt⟩
      obtain ⟨ad, rfl, hadb, h0, h1⟩ := row_eQuestion (HR.out.below HB.out) hx
      have HX := Lib.hid hx
      clear hx
      by_cases he : x.Id = id
      · have HE := Lib.hid (findEntry_hit xs id i x HX.out he hno)
        go_wp2
        go_ret
        exact ⟨by rw [HE.out]; rfl, HB.out.alloc HB.out.size _⟩
      · have HN : Hid (∀ j y, j < i + 1 → xs[j]? = some y → y.Id ≠ id) := step_no (p := fun y : GQuestion => y.Id ≠ id) hno HX.out he
        go_wp2
        go_roundw
        case rel => exact ⟨i + 1, by omega, by go_num, HB.out.alloc HB.out.size _, HN⟩
        case measure => simp [intOf]; omega
    · have HE := Lib.hid (findEntry_miss xs id (fun y hy => by obtain ⟨j, hj⟩ := List.getElem?_of_mem hy; exact hno j y (by have := (List.getElem?_eq_some_iff.1 hj).1; omega) hj))
      go_wp2
      go_ret
      exact ⟨by rw [HE.out]; rfl, HB.out⟩
set_option maxHeartbeats 400000 in
theorem spec_PosOf_calls (us : List Value) (x : GLink) (a : Int) (w : World) (hr : RdLW w (eLink x) us) (hz : sizL (eLink x) ≤ 1048576) (hi : I64 a) :
    Calls Try.prog 17 #[.agg us.toArray, .int .i64 a] w fun e w' => e = .returned (.int .i64 (posOf x a)) ∧ Below w.heap.size w w' := by
  obtain ⟨v2, v4, v6, rfl, h2, h4, h6⟩ := rd_eLink hr
  obtain ⟨A, c, rfl, ⟨_, _, hl⟩⟩ := h2.slice
  have HR := Lib.hid h2
  clear hr h2 h4 h6
  have HB := Lib.hid ((Below.refl w.heap.size w).alloc (Nat.le_refl _) (.cells #[.int .i64 x.Peer, .bool x.Up, .slice A x.Exports.length c, .int .i64 x.Next, v4, .int .i64 x.Asked, v6] 30))
  go_enter Try.func17, Try.ntmps17
  go_wp2
  go_loop [5] (fun b => ∃ i : Nat, i ≤ x.Exports.length ∧ b = .int .i64 i ∧ Hid (∀ j y, j < i → x.Exports[j]? = some y → y.Entity ≠ a)) (fun b => x.Exports.length - (intOf b).toNat)
  case atStart => exact ⟨0, by omega, rfl, no_start⟩
  case round =>
    obtain ⟨i, hi, rfl, hno⟩ := hrel
    by_cases hlt : i < x.Exports.length
    · obtain ⟨y, hy⟩ : ∃ y, x.Exports[i]? = some y := ⟨x.Exports[i], List.getElem?_eq_getElem hlt⟩
      obtain ⟨ad, rfl, _, h0, h1, h2⟩ := row_eExport (HR.out.below HB.out) hy
      have HX := Lib.hid hy
      clear hy
      by_cases he : y.Entity = a
      · have HE := Lib.hid (posOf_hit x a i y HX.out he hno.out)
        go_wp2
        go_ret
        exact ⟨by rw [HE.out]; rfl, HB.out⟩
      · have HN := Lib.hid (step_no (p := fun y : GExport => y.Entity ≠ a) hno.out HX.out he)
        go_wp2
        go_round
        case rel => exact ⟨i + 1, by omega, by go_num, HN⟩
        case measure => simp [intOf]; omega
    · have : i = x.Exports.length := by omega
      subst this
      have HE := Lib.hid (posOf_miss x a (all_of (p := fun y : GExport => y.Entity ≠ a) hno.out))
      go_wp2
      go_ret
      exact ⟨by rw [HE.out]; rfl, HB.out⟩
set_option maxHeartbeats 400000 in
theorem impl_Link_of1_calls (B : Nat) (y : GExport) (us : List Value) (a : Int) (W : World) (hb : Blk W B 3 #[.int .i64 a]) (hr : RdLW W (eExport y) us) :
    Calls Try.prog 56 #[.agg us.toArray, .pointer (some ⟨B, 0, none⟩)] W fun e w' => e = .returned (.bool (y.Entity == a)) ∧ Below W.heap.size W w' := by
  obtain rfl := rd_eExport hr
  obtain ⟨k0, k1⟩ := hb.rules
  have hlt := hb.lt
  clear hr
  go_enter Try.func56, Try.ntmps56
  go_wp2
  go_ret
  exact ⟨rfl, (Below.refl _ _).alloc (Nat.le_refl _) _⟩
set_option maxHeartbeats 400000 in
theorem impl_Link_of_calls (g : Nat) (us : List Value) (x : GLink) (a : Int) (w : World) (hb : Blk w g 30 us.toArray) (hr : RdLW w (eLink x) us) :
    Calls Try.prog 42 #[.pointer (some ⟨g, 0, none⟩), .int .i64 a] w fun e w' => e = .returned (.int .i64 (idx (fun y : GExport => y.Entity == a) x.Exports)) ∧ Below w.heap.size w w' := by
  obtain ⟨v2, v4, v6, rfl, h2, h4, h6⟩ := rd_eLink hr
  obtain ⟨A, c, rfl, ⟨_, _, hl⟩⟩ := h2.slice
  have HR := Lib.hid h2
  clear hr h2 h4 h6
  obtain ⟨k0, k1⟩ := hb.rules
  have hlt := hb.lt
  have hcon := slices_IndexFunc_Export (fun y : GExport => y.Entity == a) 56 #[.pointer (some ⟨w.heap.size, 0, none⟩)] (enters_of Try.func56 (by kernel_rfl) rfl) _ x.Exports (w.alloc (.cells #[.int .i64 a] 3)) (HR.out.alloc _)
    (fun W y us hW hy hus => impl_Link_of1_calls w.heap.size y us a W ((Blk.new w _ _).below hW) hus)
  have HC := Lib.hid hcon
  clear hcon
  go_enter Try.func42, Try.ntmps42
  go_wp2_with (go_at_call 55; refine HC.out.mono ?_; rintro e w' ⟨rfl, hb'⟩)
  go_ret
  exact ⟨rfl, ((Below.refl _ _).alloc (Nat.le_refl _) _).trans (hb'.mono (by simp only [size_alloc]; omega))⟩
set_option maxHeartbeats 400000 in
theorem impl_PosOf_calls (us : List Value) (x : GLink) (a : Int) (w : World) (hr : RdLW w (eLink x) us) (hz : sizL (eLink x) ≤ 1048576) (hi : I64 a) :
    Calls Try.prog 18 #[.agg us.toArray, .int .i64 a] w fun e w' => e = .returned (.int .i64 (posOf x a)) ∧ Below w.heap.size w w' := by
  have hcon := impl_Link_of_calls w.heap.size us x a (w.alloc (.cells us.toArray 30)) (Blk.new w _ _) (hr.below ((Below.refl _ _).alloc (Nat.le_refl _) _))
  obtain ⟨v2, v4, v6, rfl, h2, h4, h6⟩ := rd_eLink hr
  obtain ⟨A, c, rfl, ⟨_, _, hl⟩⟩ := h2.slice
  have HR := Lib.hid h2
  have HC := Lib.hid hcon
  clear hr h2 h4 h6 hcon
  go_enter Try.func18, Try.ntmps18
  go_wp2_with fail
  refine HC.out.mono ?_
  rintro e w1 ⟨rfl, hb1⟩
  have hbb := Lib.hid (((Below.refl w.heap.size w).alloc (Nat.le_refl _) _).trans (hb1.mono (by simp only [size_alloc]; omega)))
  obtain ⟨k0, k1⟩ := ((Blk.new w _ _).below hb1).rules
  have hlt : w.heap.size < w1.heap.size := by have := hb1.size; simp only [size_alloc] at this; omega
  clear hb1
  by_cases hge : 0 ≤ idx (fun y : GExport => y.Entity == a) x.Exports
  · obtain ⟨i, y, hi', hy, hp, hno⟩ := idx_some hge
    have hil : i < x.Exports.length := (List.getElem?_eq_some_iff.1 hy).1
    obtain ⟨ad, rfl, _, h0, h1, h2⟩ := row_eExport (HR.out.below hbb.out) hy
    have HE := Lib.hid (posOf_hit x a i y hy (by simpa using hp) (fun j z hj hz => by simpa using hno j z hj hz))
    rw [hi']
    clear hy hno hi' hge
    go_wp2
    go_ret
    exact ⟨by rw [HE.out]; rfl, hbb.out⟩
  · obtain ⟨hi', hno⟩ := idx_none hge
    have HE := Lib.hid (posOf_miss x a (fun z hz => by simpa using hno z hz))
    rw [hi']
    clear hno hi' hge
    go_wp2
    go_ret
    exact ⟨by rw [HE.out]; rfl, hbb.out⟩
set_option maxHeartbeats 400000 in
theorem spec_NewLink_calls (a : Int) (w : World) (hi : I64 a) :
    Calls Try.prog 32 #[.int .i64 a] w fun e w' => ∃ us', e = .returned (.agg us'.toArray) ∧ RdLW w' (eLink (newLink a)) us' ∧ Below w.heap.size w w' := by
  go_enter Try.func32, Try.ntmps32
  go_wp2
  refine bodyPost_ret (v := .agg #[.int .i64 a, .bool true, .slice none 0 0, .int .i64 0, .slice none 0 0, .int .i64 0, .slice none 0 0]) (by simp [results, Try.results32, go_sem]) rfl ⟨_, rfl, mkrd_eLink (x := newLink a) (rd_none _) (rd_none _) (rd_none _), ?_⟩
  exact (Below.refl _ _).alloc (Nat.le_refl _) _
set_option maxHeartbeats 400000 in
theorem impl_NewLink_calls (a : Int) (w : World) (hi : I64 a) :
    Calls Try.prog 33 #[.int .i64 a] w fun e w' => ∃ us' fp, e = .returned (.agg us'.toArray) ∧ OwnL w' (eLink (newLink a)) us' fp ∧ Fresh w fp ∧ Below w.heap.size w w' := by
  go_enter Try.func33, Try.ntmps33
  go_wp2
  refine bodyPost_ret (v := .agg #[.int .i64 a, .bool true, .slice none 0 0, .int .i64 0, .slice none 0 0, .int .i64 0, .slice none 0 0]) (by simp [results, Try.results33, go_sem]) rfl ⟨_, [], rfl, mkown_eLink (x := newLink a) (f2 := []) (f4 := []) (f6 := []) (own_none _) (own_none _) (own_none _), Fresh.nil _, ?_⟩
  exact (Below.refl _ _).alloc (Nat.le_refl _) _
set_option maxHeartbeats 1600000 in
theorem spec_EqualLinks_calls (us : List Value) (x : GLink) (us' : List Value) (y : GLink) (w : World) (hr : RdLW w (eLink x) us) (hr' : RdLW w (eLink y) us') (hz : sizL (eLink x) ≤ 1048576) (hz' : sizL (eLink y) ≤ 1048576) :
    Calls Try.prog 19 #[.agg us.toArray, .agg us'.toArray] w fun e w' => e = .returned (.bool (sameLink x y)) ∧ Below w.heap.size w w' := by
  obtain ⟨p, up, ex, nx, qs, ak, an⟩ := x
  obtain ⟨p', up', ex', nx', qs', ak', an'⟩ := y
  obtain ⟨v2, v4, v6, rfl, h2, h4, h6⟩ := rd_eLink hr
  obtain ⟨A, c, rfl, ⟨_, _, hl⟩⟩ := h2.slice
  obtain ⟨A4, c4, rfl, -⟩ := h4.slice
  obtain ⟨A6, c6, rfl, -⟩ := h6.slice
  obtain ⟨u2, u4, u6, rfl, g2, g4, g6⟩ := rd_eLink hr'
  obtain ⟨A', c', rfl, ⟨_, _, hl'⟩⟩ := g2.slice
  obtain ⟨A4', c4', rfl, -⟩ := g4.slice
  obtain ⟨A6', c6', rfl, -⟩ := g6.slice
  dsimp only at h2 h4 h6 g2 g4 g6 hl hl' ⊢
  have HR2 := Lib.hid h2
  have HR4 := Lib.hid h4
  have HR6 := Lib.hid h6
  have HS2 := Lib.hid g2
  have HS4 := Lib.hid g4
  have HS6 := Lib.hid g6
  clear hr hr' h2 h4 h6 g2 g4 g6
  have HB := Lib.hid (((Below.refl w.heap.size w).alloc (Nat.le_refl _) (.cells #[.int .i64 p, .bool up, .slice A ex.length c, .int .i64 nx, .slice A4 qs.length c4, .int .i64 ak, .slice A6 an.length c6] 30)).alloc (by simp) (.cells #[.int .i64 p', .bool up', .slice A' ex'.length c', .int .i64 nx', .slice A4' qs'.length c4', .int .i64 ak', .slice A6' an'.length c6'] 30))
  have hneq := run_neq_Export
  by_cases c1 : ¬ p = p'
  · have HE : Hid (sameLink ⟨p, up, ex, nx, qs, ak, an⟩ ⟨p', up', ex', nx', qs', ak', an'⟩ = false) := by unfold Hid; simp [sameLink, c1]
    go_enter Try.func19, Try.ntmps19
    go_wp2
    go_ret
    exact ⟨by rw [HE.out]; rfl, HB.out⟩
  replace c1 := Classical.not_not.1 c1
  subst c1
  by_cases c2 : ¬ up = up'
  · cases up <;> cases up' <;> first
      | exact absurd rfl c2
      | (go_enter Try.func19, Try.ntmps19
         go_wp2
         go_ret
         refine ⟨?_, HB.out⟩
         show Ending.returned (.bool false) = _
         simp [sameLink])
  replace c2 := Classical.not_not.1 c2
  subst c2
  by_cases c3 : ¬ nx = nx'
  · have HE : Hid (sameLink ⟨p, up, ex, nx, qs, ak, an⟩ ⟨p, up, ex', nx', qs', ak', an'⟩ = false) := by unfold Hid; simp [sameLink, c3]
    go_enter Try.func19, Try.ntmps19
    go_wp2
    go_ret
    exact ⟨by rw [HE.out]; rfl, HB.out⟩
  replace c3 := Classical.not_not.1 c3
  subst c3
  by_cases c4 : ¬ ak = ak'
  · have HE : Hid (sameLink ⟨p, up, ex, nx, qs, ak, an⟩ ⟨p, up, ex', nx, qs', ak', an'⟩ = false) := by unfold Hid; simp [sameLink, c4]
    go_enter Try.func19, Try.ntmps19
    go_wp2
    go_ret
    exact ⟨by rw [HE.out]; rfl, HB.out⟩
  replace c4 := Classical.not_not.1 c4
  subst c4
  by_cases c5 : ¬ ex.length = ex'.length
  · have HE : Hid (sameLink ⟨p, up, ex, nx, qs, ak, an⟩ ⟨p, up, ex', nx, qs', ak, an'⟩ = false) := by unfold Hid; simp [sameLink, sameL_len c5]
    have hlb : ((ex.length : Int) != (ex'.length : Int)) = true := by simp; omega
    go_enter Try.func19, Try.ntmps19
    go_wp2
    go_ret
    exact ⟨by rw [HE.out]; rfl, HB.out⟩
  have hln := Lib.hid (Classical.not_not.1 c5)
  have hlb : ((ex.length : Int) != (ex'.length : Int)) = false := by have := hln.out; simp; omega
  clear c5
  have HS : Hid (sameLink ⟨p, up, ex, nx, qs, ak, an⟩ ⟨p, up, ex', nx, qs', ak, an'⟩ = (sameL eqbExport ex ex' && (sameL eqbQuestion qs qs' && sameL eqbQuestion an an'))) := by
    unfold Hid; simp [sameLink]
  go_enter Try.func19, Try.ntmps19
  go_wp2
  go_loopw [5] (fun b wr => ∃ i : Nat, i ≤ ex.length ∧ b = .int .i64 i ∧ Hid (Below w.heap.size w wr) ∧ Hid (Blk wr w.heap.size 30 #[.int .i64 p, .bool up, .slice A ex.length c, .int .i64 nx, .slice A4 qs.length c4, .int .i64 ak, .slice A6 an.length c6]) ∧ Hid (Blk wr (w.heap.size + 1) 30 #[.int .i64 p, .bool up, .slice A' ex'.length c', .int .i64 nx, .slice A4' qs'.length c4', .int .i64 ak, .slice A6' an'.length c6']) ∧ Hid (∀ (j : Nat) a b, j < i → ex[j]? = some a → ex'[j]? = some b → eqbExport a b = true)) (fun b wr => ex.length - (intOf b).toNat)
  case atStart => exact ⟨0, by omega, rfl, HB, (Blk.new _ _ _).alloc _, Blk.made (by simp), fun j a b h => absurd h (Nat.not_lt_zero _)⟩
  case round =>
    obtain ⟨i, hi, rfl, HW, K1, K2, hno⟩ := hrel
    obtain ⟨k1, f1⟩ := K1.out.rules
    obtain ⟨k2, f2⟩ := K2.out.rules
    by_cases hlt : i < ex.length
    · obtain ⟨p1, hp⟩ : ∃ p, ex[i]? = some p := ⟨ex[i], List.getElem?_eq_getElem hlt⟩
      obtain ⟨q1, hq⟩ : ∃ q, ex'[i]? = some q := ⟨ex'[i]'(by have := hln.out; omega), List.getElem?_eq_getElem _⟩
      obtain ⟨ad, rfl, _, h0, h1, h2⟩ := row_eExport (HR2.out.below HW.out) hp
      obtain ⟨ad', rfl, _, h0', h1', h2'⟩ := row_eExport (HS2.out.below HW.out) hq
      have HX := Lib.hid hp
      have HY := Lib.hid hq
      clear hp hq
      have hli : i < ex'.length := by have := hln.out; omega
      cases he : eqbExport p1 q1 with
      | false =>
        have HE := Lib.hid (sameL_at (eq := eqbExport) HX.out HY.out he)
        go_wp2
        go_quiet (fail)
        go_wp2
        go_ret
        exact ⟨by rw [HS.out, HE.out]; rfl, belowN HW.out _⟩
      | true =>
        have HN := Lib.hid (step_eq (eq := eqbExport) hno.out HX.out HY.out he)
        go_wp2
        go_quiet (fail)
        go_wp2
        go_roundw
        case rel => exact ⟨i + 1, by omega, by go_num, belowN HW.out _, K1, K2, HN⟩
        case measure => simp [intOf]; omega
    · have HE := Lib.hid (sameL_all (eq := eqbExport) hln.out (fun i a b ha hb => hno.out i a b (by have := (List.getElem?_eq_some_iff.1 ha).1; omega) ha hb))
      go_wp2_with fail
      refine (spec_l10Same_calls _ _ qs qs' _ (HR4.out.below HW.out) (HS4.out.below HW.out)).mono ?_
      rintro e w1 ⟨rfl, hb1⟩
      have HW1 := Lib.hid (HW.out.trans (hb1.mono HW.out.size))
      obtain ⟨k1', f1'⟩ := (K1.out.below hb1).rules
      obtain ⟨k2', f2'⟩ := (K2.out.below hb1).rules
      clear hb1 k1 f1 k2 f2
      cases hs : sameL eqbQuestion qs qs' with
      | false =>
        go_wp2
        go_ret
        exact ⟨by rw [HS.out, HE.out, hs]; rfl, HW1.out⟩
      | true =>
        go_wp2_with fail
        refine (spec_l10Same_calls _ _ an an' _ (HR6.out.below HW1.out) (HS6.out.below HW1.out)).mono ?_
        rintro e w2 ⟨rfl, hb2⟩
        have HW2 := Lib.hid (HW1.out.trans (hb2.mono HW1.out.size))
        clear hb2 k1' f1' k2' f2'
        go_wp2
        go_ret
        exact ⟨by rw [HS.out, HE.out, hs]; rfl, HW2.out⟩
set_option maxHeartbeats 1600000 in
theorem impl_EqualLinks_calls (us : List Value) (x : GLink) (us' : List Value) (y : GLink) (w : World) (hr : RdLW w (eLink x) us) (hr' : RdLW w (eLink y) us') (hz : sizL (eLink x) ≤ 1048576) (hz' : sizL (eLink y) ≤ 1048576) :
    Calls Try.prog 20 #[.agg us.toArray, .agg us'.toArray] w fun e w' => e = .returned (.bool (sameLink x y)) ∧ Below w.heap.size w w' := by
  obtain ⟨p, up, ex, nx, qs, ak, an⟩ := x
  obtain ⟨p', up', ex', nx', qs', ak', an'⟩ := y
  obtain ⟨v2, v4, v6, rfl, h2, h4, h6⟩ := rd_eLink hr
  obtain ⟨A, c, rfl, ⟨_, _, hl⟩⟩ := h2.slice
  obtain ⟨A4, c4, rfl, -⟩ := h4.slice
  obtain ⟨A6, c6, rfl, -⟩ := h6.slice
  obtain ⟨u2, u4, u6, rfl, g2, g4, g6⟩ := rd_eLink hr'
  obtain ⟨A', c', rfl, ⟨_, _, hl'⟩⟩ := g2.slice
  obtain ⟨A4', c4', rfl, -⟩ := g4.slice
  obtain ⟨A6', c6', rfl, -⟩ := g6.slice
  dsimp only at h2 h4 h6 g2 g4 g6 hl hl' ⊢
  have HR2 := Lib.hid h2
  have HR4 := Lib.hid h4
  have HR6 := Lib.hid h6
  have HS2 := Lib.hid g2
  have HS4 := Lib.hid g4
  have HS6 := Lib.hid g6
  clear hr hr' h2 h4 h6 g2 g4 g6
  have HB := Lib.hid (((Below.refl w.heap.size w).alloc (Nat.le_refl _) (.cells #[.int .i64 p, .bool up, .slice A ex.length c, .int .i64 nx, .slice A4 qs.length c4, .int .i64 ak, .slice A6 an.length c6] 30)).alloc (by simp) (.cells #[.int .i64 p', .bool up', .slice A' ex'.length c', .int .i64 nx', .slice A4' qs'.length c4', .int .i64 ak', .slice A6' an'.length c6'] 30))
  by_cases c1 : ¬ p = p'
  · have HE : Hid (sameLink ⟨p, up, ex, nx, qs, ak, an⟩ ⟨p', up', ex', nx', qs', ak', an'⟩ = false) := by unfold Hid; simp [sameLink, c1]
    go_enter Try.func20, Try.ntmps20
    go_wp2
    go_ret
    exact ⟨by rw [HE.out]; rfl, HB.out⟩
  replace c1 := Classical.not_not.1 c1
  subst c1
  by_cases c2 : ¬ up = up'
  · cases up <;> cases up' <;> first
      | exact absurd rfl c2
      | (go_enter Try.func20, Try.ntmps20
         go_wp2
         go_ret
         refine ⟨?_, HB.out⟩
         show Ending.returned (.bool false) = _
         simp [sameLink])
  replace c2 := Classical.not_not.1 c2
  subst c2
  go_enter Try.func20, Try.ntmps20
  go_wp2_with fail
  refine (slices_Equal_Export_calls _ _ ex ex' _ (HR2.out.below HB.out) (HS2.out.below HB.out)).mono ?_
  rintro e w1 ⟨rfl, hb1⟩
  have HW1 := Lib.hid (HB.out.trans (hb1.mono (by first | exact HB.out.size | (simp only [size_alloc]; omega))))
  have K1_1 := Lib.hid (((Blk.new w 30 _).alloc _).below hb1)
  have K2_1 := Lib.hid ((Blk.made (w := w.alloc _) (t := 30) (g := w.heap.size + 1) (by simp)).below hb1)
  obtain ⟨k1_1, f1_1⟩ := K1_1.out.rules
  obtain ⟨k2_1, f2_1⟩ := K2_1.out.rules
  clear hb1
  rcases Bool.eq_false_or_eq_true (sameL eqbExport ex ex') with s1 | s1
  rotate_left
  · have HE : Hid (sameLink ⟨p, up, ex, nx, qs, ak, an⟩ ⟨p, up, ex', nx', qs', ak', an'⟩ = false) := by unfold Hid; simp [sameLink, s1]
    rw [s1]
    go_wp2
    go_ret
    exact ⟨by rw [HE.out]; rfl, HW1.out⟩
  rw [s1]
  have S1 := Lib.hid s1
  clear s1
  by_cases c3 : ¬ nx = nx'
  · have HE : Hid (sameLink ⟨p, up, ex, nx, qs, ak, an⟩ ⟨p, up, ex', nx', qs', ak', an'⟩ = false) := by unfold Hid; simp [sameLink, c3]
    go_wp2
    go_ret
    exact ⟨by rw [HE.out]; rfl, HW1.out⟩
  replace c3 := Classical.not_not.1 c3
  subst c3
  go_wp2_with fail
  refine (slices_Equal_Question_calls _ _ qs qs' _ (HR4.out.below HW1.out) (HS4.out.below HW1.out)).mono ?_
  rintro e w2 ⟨rfl, hb2⟩
  have HW2 := Lib.hid (HW1.out.trans (hb2.mono (by first | exact HW1.out.size | (simp only [size_alloc]; omega))))
  have K1_2 := Lib.hid (K1_1.out.below hb2)
  have K2_2 := Lib.hid (K2_1.out.below hb2)
  obtain ⟨k1_2, f1_2⟩ := K1_2.out.rules
  obtain ⟨k2_2, f2_2⟩ := K2_2.out.rules
  clear hb2 k1_1 f1_1 k2_1 f2_1
  rcases Bool.eq_false_or_eq_true (sameL eqbQuestion qs qs') with s2 | s2
  rotate_left
  · have HE : Hid (sameLink ⟨p, up, ex, nx, qs, ak, an⟩ ⟨p, up, ex', nx, qs', ak', an'⟩ = false) := by unfold Hid; simp [sameLink, S1.out, s2]
    rw [s2]
    go_wp2
    go_ret
    exact ⟨by rw [HE.out]; rfl, HW2.out⟩
  rw [s2]
  have S2 := Lib.hid s2
  clear s2
  by_cases c4 : ¬ ak = ak'
  · have HE : Hid (sameLink ⟨p, up, ex, nx, qs, ak, an⟩ ⟨p, up, ex', nx, qs', ak', an'⟩ = false) := by unfold Hid; simp [sameLink, c4]
    go_wp2
    go_ret
    exact ⟨by rw [HE.out]; rfl, HW2.out⟩
  replace c4 := Classical.not_not.1 c4
  subst c4
  go_wp2_with fail
  refine (slices_Equal_Question_calls _ _ an an' _ (HR6.out.below HW2.out) (HS6.out.below HW2.out)).mono ?_
  rintro e w3 ⟨rfl, hb3⟩
  have HW3 := Lib.hid (HW2.out.trans (hb3.mono HW2.out.size))
  clear hb3 k1_2 f1_2 k2_2 f2_2
  have HE : Hid (sameLink ⟨p, up, ex, nx, qs, ak, an⟩ ⟨p, up, ex', nx, qs', ak, an'⟩ = sameL eqbQuestion an an') := by unfold Hid; simp [sameLink, S1.out, S2.out]
  go_wp2
  go_ret
  exact ⟨by rw [HE.out]; rfl, HW3.out⟩
set_option maxHeartbeats 800000 in
theorem spec_DropEntry_calls (v : Value) (xs : List GQuestion) (id : Int) (w : World) (hr : RdW w (.s xs.length (xs.flatMap eQuestion)) v) (hz : xs.length + sizL (xs.flatMap eQuestion) ≤ 1048576) (hi : I64 id) :
    Calls Try.prog 28 #[v, .int .i64 id] w fun e w' => ∃ v', e = .returned v' ∧ RdW w' (.s (dropEntry xs id).length ((dropEntry xs id).flatMap eQuestion)) v' ∧ Below w.heap.size w w' := by
  obtain ⟨A, c, rfl, ⟨_, _, hl⟩⟩ := hr.slice
  have HR := Lib.hid hr
  clear hr
  have hz1 : xs.length ≤ 1048576 := by omega
  go_enter Try.func28, Try.ntmps28
  go_wp2
  go_loopw [5, 6] (fun a b wr => ∃ (i : Nat) (A' : Option Addr) (n c' : Nat), i ≤ xs.length ∧ b = .int .i64 i ∧ a = .slice A' n c' ∧ n ≤ i ∧ Hid (n = ((xs.take i).filter fun q => !(q.Id == id)).length) ∧ Hid (wr.ownsRow w.heap.size 49 2 (.slice A' n c') n (((xs.take i).filter fun q => !(q.Id == id)).flatMap vsQuestion)) ∧ Hid (Below w.heap.size w wr)) (fun a b wr => xs.length - (intOf b).toNat)
  case atStart => exact ⟨0, _, _, _, by omega, rfl, rfl, by omega, rfl, World.ownsRow_made w #[] 0 (Nat.le_refl _) (Nat.zero_le _) (by simp), (Below.refl _ _).alloc (Nat.le_refl _) _⟩
  case round =>
    obtain ⟨i, A', n, c', hi', rfl, rfl, hn, HN, HO, HB⟩ := hrel
    by_cases hlt : i < xs.length
    · obtain ⟨x, hx⟩ : ∃ x, xs[i]? = some x := ⟨xs[i], List.getElem?_eq_getElem hlt⟩
      obtain ⟨ad, rfl, _, h0, h1⟩ := row_eQuestion (HR.out.below HB.out) hx
      by_cases he : x.Id = id
      · have hf : (xs.take (i + 1)).filter (fun q => !(q.Id == id)) = (xs.take i).filter (fun q => !(q.Id == id)) := by
          rw [filter_take hx]; simp [he]
        have HF := Lib.hid hf
        clear hf hx
        go_wp2
        go_roundw
        case rel => exact ⟨i + 1, A', n, c', by omega, by go_num, rfl, by omega, by unfold Hid; rw [HF.out]; exact HN.out, by unfold Hid; rw [HF.out]; exact HO.out, HB⟩
        case measure => simp [intOf]; omega
      · have hf : (xs.take (i + 1)).filter (fun q => !(q.Id == id)) = (xs.take i).filter (fun q => !(q.Id == id)) ++ [x] := by
          rw [filter_take hx]; simp [he]
        have HF := Lib.hid hf
        clear hf hx
        go_wp2_with (at_builtin; refine wpList_append_rd rfl _ _ 28 rfl w.heap.size 49 _ _ 2 16 Try.underlying28 rfl rfl rfl rfl rfl (by omega) _ n _ rfl (HO.out.alloc _) vals_eQuestion [x] (one_eQuestion _) (lenv_eQuestion _) _ _ rfl (rdW_one vals_eQuestion wr x 49) (by simp; omega) (by omega) (by have := HB.out.size; simp; omega) ?_)
        intro A'' c'' w1 hown hgrow
        have hlo := HO.out.lt
        have HB1 := Lib.hid ((HB.out.alloc HB.out.size _).trans (grown_below hgrow (by have := HB.out.size; simp; omega) (fun k hk => (hlo k hk).1)))
        have HO1 : Hid (w1.ownsRow w.heap.size 49 2 (.slice A'' (n + 1) c'') (n + 1) (((xs.take (i + 1)).filter fun q => !(q.Id == id)).flatMap vsQuestion)) := by
          unfold Hid; rw [HF.out, List.flatMap_append]; exact hown
        clear hown hgrow hlo
        go_wp2
        go_roundw
        case rel => exact ⟨i + 1, A'', n + 1, c'', by omega, by go_num, rfl, by omega, by unfold Hid; rw [HF.out, List.length_append, ← HN.out]; rfl, HO1, HB1⟩
        case measure => simp [intOf]; omega
    · have : i = xs.length := by omega
      subst this
      go_wp2
      go_ret
      have ho := HO.out
      have hnn := HN.out
      rw [List.take_length] at ho hnn
      refine ⟨_, rfl, ?_, HB.out⟩
      show RdW wr (.s (xs.filter fun q => !(q.Id == id)).length ((xs.filter fun q => !(q.Id == id)).flatMap eQuestion)) _
      subst hnn
      exact ownsRow_rdw vals_eQuestion ho (by omega)
set_option maxHeartbeats 400000 in
theorem impl_DropEntry1_calls (B : Nat) (y : GQuestion) (us : List Value) (a : Int) (W : World) (hb : Blk W B 3 #[.int .i64 a]) (hr : RdLW W (eQuestion y) us) :
    Calls Try.prog 51 #[.agg us.toArray, .pointer (some ⟨B, 0, none⟩)] W fun e w' => e = .returned (.bool (y.Id == a)) ∧ Below W.heap.size W w' := by
  obtain rfl := rd_eQuestion hr
  obtain ⟨k0, k1⟩ := hb.rules
  have hlt := hb.lt
  clear hr
  go_enter Try.func51, Try.ntmps51
  go_wp2
  go_ret
  exact ⟨rfl, (Below.refl _ _).alloc (Nat.le_refl _) _⟩
set_option maxHeartbeats 800000 in
theorem impl_DropEntry_calls (v : Value) (xs : List GQuestion) (id : Int) (w : World) (hr : RdW w (.s xs.length (xs.flatMap eQuestion)) v) (hz : xs.length + sizL (xs.flatMap eQuestion) ≤ 1048576) (hi : I64 id) :
    Calls Try.prog 29 #[v, .int .i64 id] w fun e w' => ∃ v' fp, e = .returned v' ∧ Own w' (.s (dropEntry xs id).length ((dropEntry xs id).flatMap eQuestion)) v' fp ∧ Fresh w fp ∧ Below w.heap.size w w' := by
  obtain ⟨A, c, rfl, ⟨_, _, hl⟩⟩ := hr.slice
  have HR := Lib.hid hr
  clear hr
  go_enter Try.func29, Try.ntmps29
  go_wp2_with fail
  refine (slices_Clone_Question_calls _ xs _ (HR.out.alloc _) (by omega)).mono ?_
  rintro e w1 ⟨v1, fp, rfl, ho, hf, hb1⟩
  have hbb := Lib.hid (((Below.refl w.heap.size w).alloc (Nat.le_refl _) _).trans (hb1.mono (by simp only [size_alloc]; omega)))
  have HK := Lib.hid ((Blk.new w 3 #[.int .i64 id]).below hb1)
  have HF := Lib.hid hf.2
  have hcon := slices_DeleteFunc_Question_calls (fun y : GQuestion => y.Id == id) 51 #[.pointer (some ⟨w.heap.size, 0, none⟩)] (enters_of Try.func51 (by kernel_rfl) rfl) v1 xs w1 fp ho hf.1 (by omega)
    (fun W y us hW hy hus => impl_DropEntry1_calls w.heap.size y us id W (HK.out.chg hW (fun h => by have := HF.out _ h; simp only [size_alloc] at this; omega)) hus)
  have HC := Lib.hid hcon
  obtain ⟨A1, c1, rfl, -⟩ := ho.slice
  clear hcon ho hf hb1
  go_wp2_with fail
  refine HC.out.mono ?_
  rintro e w2 ⟨v2, fp2, rfl, ho2, hn2, hs2, hc2⟩
  have HO2 := Lib.hid ho2
  have HC2 := Lib.hid hc2
  have HS2 := Lib.hid hs2
  have HN2 := Lib.hid hn2
  obtain ⟨A2, c2, rfl, -⟩ := ho2.slice
  clear ho2 hc2 hs2 hn2
  go_wp2
  go_ret
  refine ⟨_, fp2, rfl, HO2.out, ⟨HN2.out, fun k hk => ?_⟩, below_chg hbb.out HC2.out hbb.out.size (fun k hk => ?_)⟩
  · have := HF.out k (HS2.out k hk); simp only [size_alloc] at this; omega
  · have := HF.out k hk; simp only [size_alloc] at this; omega

end Go.Proofs.Ytagkomochjnjoaa
