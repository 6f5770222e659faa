import Derived.Test.YtagkomochjnjoaaProg
import Derived.Test.YtagkomochjnjoaaTypes
import Derived.StillTailTactics
import Derived.Test.YtagkomochjnjoaaHelp
import Derived.Test.YtagkomochjnjoaaPureLink
import Derived.Test.YtagkomochjnjoaaSlices
namespace Go.Proofs.Ytagkomochjnjoaa
open Go.RowKit
set_option linter.unusedVariables false
set_option linter.unusedSimpArgs false

set_option maxHeartbeats 400000 in
theorem spec_FindEntry_calls (v : Value) (xs : List GQuestion) (id : Int) (w : World) (hr : RdW w (.s xs.length (xs.flatMap eQuestion)) v) (hz : xs.length + sizL (xs.flatMap eQuestion) ≤ 1048576) (hi : I64 id) :
    Calls Try.prog 24 #[v, .int .i64 id] w fun e w' => e = .returned (.int .i64 (findEntry xs id)) ∧ Below w.heap.size w w' := by
  obtain ⟨A, c, rfl, ⟨_, _, hl⟩⟩ := hr.slice
  have HR := Lib.hid hr
  clear hr
  go_enter Try.func24, Try.ntmps24
  go_wp2
  go_loop [5] (fun a => ∃ i : Nat, i ≤ xs.length ∧ a = .int .i64 i ∧ Hid (∀ j y, j < i → xs[j]? = some y → y.Id ≠ id)) (fun a => xs.length - (intOf a).toNat)
  case atStart => exact ⟨0, by omega, rfl, fun j y h => absurd h (by omega)⟩
  case round =>
    obtain ⟨i, hi, rfl, hno⟩ := hrel
    by_cases hlt : i < xs.length
    · obtain ⟨x, hx⟩ : ∃ x, xs[i]? = some x := ⟨xs[i], List.getElem?_eq_getElem hlt⟩
      obtain ⟨ad, rfl, _, h0, h1⟩ := row_eQuestion HR.out hx
      have HX := Lib.hid hx
      clear hx
      by_cases he : x.Id = id
      · have HE := Lib.hid (findEntry_hit xs id i x HX.out he hno)
        go_wp2
        go_ret
        exact ⟨by rw [HE.out]; rfl, Below.refl _ _⟩
      · have HN : Hid (∀ j y, j < i + 1 → xs[j]? = some y → y.Id ≠ id) := step_no (p := fun y : GQuestion => y.Id ≠ id) hno HX.out he
        go_wp2
        go_round
        case rel => exact ⟨i + 1, by omega, by go_num, HN⟩
        case measure => simp [intOf]; omega
    · have HE := Lib.hid (findEntry_miss xs id (fun y hy => by obtain ⟨j, hj⟩ := List.getElem?_of_mem hy; exact hno j y (by have := (List.getElem?_eq_some_iff.1 hj).1; omega) hj))
      go_wp2
      go_ret
      exact ⟨by rw [HE.out]; rfl, Below.refl _ _⟩
set_option maxHeartbeats 400000 in
theorem impl_FindEntry_calls (v : Value) (xs : List GQuestion) (id : Int) (w : World) (hr : RdW w (.s xs.length (xs.flatMap eQuestion)) v) (hz : xs.length + sizL (xs.flatMap eQuestion) ≤ 1048576) (hi : I64 id) :
    Calls Try.prog 26 #[v, .int .i64 id] w fun e w' => e = .returned (.int .i64 (findEntry xs id)) ∧ Below w.heap.size w w' := by
  obtain ⟨A, c, rfl, ⟨_, _, hl⟩⟩ := hr.slice
  have HR := Lib.hid hr
  clear hr
  go_enter Try.func26, Try.ntmps26
  go_wp2
  go_loopw [9] (fun a wr => ∃ i : Nat, i ≤ xs.length ∧ a = .int .i64 i ∧ Hid (Below w.heap.size w wr) ∧ Hid (∀ j y, j < i → xs[j]? = some y → y.Id ≠ id)) (fun a wr => xs.length - (intOf a).toNat)
  case atStart => exact ⟨0, by omega, rfl, Below.refl _ _, fun j y h => absurd h (by omega)⟩
  case round =>
    obtain ⟨i, hi, rfl, HB, hno⟩ := hrel
    by_cases hlt : i < xs.length
    · obtain ⟨x, hx⟩ : ∃ x, xs[i]? = some x := ⟨xs[i], List.getElem?_eq_getElem hlt⟩
      obtain ⟨ad, rfl, hadb, h0, h1⟩ := row_eQuestion (HR.out.below HB.out) hx
      have HX := Lib.hid hx
      clear hx
      by_cases he : x.Id = id
      · have HE := Lib.hid (findEntry_hit xs id i x HX.out he hno)
        go_wp2
        go_ret
        exact ⟨by rw [HE.out]; rfl, HB.out.alloc HB.out.size _⟩
      · have HN : Hid (∀ j y, j < i + 1 → xs[j]? = some y → y.Id ≠ id) := step_no (p := fun y : GQuestion => y.Id ≠ id) hno HX.out he
        go_wp2
        go_roundw
        case rel => exact ⟨i + 1, by omega, by go_num, HB.out.alloc HB.out.size _, HN⟩
        case measure => simp [intOf]; omega
    · have HE := Lib.hid (findEntry_miss xs id (fun y hy => by obtain ⟨j, hj⟩ := List.getElem?_of_mem hy; exact hno j y (by have := (List.getElem?_eq_some_iff.1 hj).1; omega) hj))
      go_wp2
      go_ret
      exact ⟨by rw [HE.out]; rfl, HB.out⟩
set_option maxHeartbeats 400000 in
theorem spec_PosOf_calls (us : List Value) (x : GLink) (a : Int) (w : World) (hr : RdLW w (eLink x) us) (hz : sizL (eLink x) ≤ 1048576) (hi : I64 a) :
    Calls Try.prog 17 #[.agg us.toArray, .int .i64 a] w fun e w' => e = .returned (.int .i64 (posOf x a)) ∧ Below w.heap.size w w' := by
  obtain ⟨v2, v4, v6, rfl, h2, h4, h6⟩ := rd_eLink hr
  obtain ⟨A, c, rfl, ⟨_, _, hl⟩⟩ := h2.slice
  have HR := Lib.hid h2
  clear hr h2 h4 h6
  have HB := Lib.hid ((Below.refl w.heap.size w).alloc (Nat.le_refl _) (.cells #[.int .i64 x.Peer, .bool x.Up, .slice A x.Exports.length c, .int .i64 x.Next, v4, .int .i64 x.Asked, v6] 30))
  go_enter Try.func17, Try.ntmps17
  go_wp2
  go_loop [5] (fun b => ∃ i : Nat, i ≤ x.Exports.length ∧ b = .int .i64 i ∧ Hid (∀ j y, j < i → x.Exports[j]? = some y → y.Entity ≠ a)) (fun b => x.Exports.length - (intOf b).toNat)
  case atStart => exact ⟨0, by omega, rfl, no_start⟩
  case round =>
    obtain ⟨i, hi, rfl, hno⟩ := hrel
    by_cases hlt : i < x.Exports.length
    · obtain ⟨y, hy⟩ : ∃ y, x.Exports[i]? = some y := ⟨x.Exports[i], List.getElem?_eq_getElem hlt⟩
      obtain ⟨ad, rfl, _, h0, h1, h2⟩ := row_eExport (HR.out.below HB.out) hy
      have HX := Lib.hid hy
      clear hy
      by_cases he : y.Entity = a
      · have HE := Lib.hid (posOf_hit x a i y HX.out he hno.out)
        go_wp2
        go_ret
        exact ⟨by rw [HE.out]; rfl, HB.out⟩
      · have HN := Lib.hid (step_no (p := fun y : GExport => y.Entity ≠ a) hno.out HX.out he)
        go_wp2
        go_round
        case rel => exact ⟨i + 1, by omega, by go_num, HN⟩
        case measure => simp [intOf]; omega
    · have : i = x.Exports.length := by omega
      subst this
      have HE := Lib.hid (posOf_miss x a (all_of (p := fun y : GExport => y.Entity ≠ a) hno.out))
      go_wp2
      go_ret
      exact ⟨by rw [HE.out]; rfl, HB.out⟩
set_option maxHeartbeats 400000 in
theorem impl_Link_of1_calls (B : Nat) (y : GExport) (us : List Value) (a : Int) (W : World) (hb : Blk W B 3 #[.int .i64 a]) (hr : RdLW W (eExport y) us) :
    Calls Try.prog 56 #[.agg us.toArray, .pointer (some ⟨B, 0, none⟩)] W fun e w' => e = .returned (.bool (y.Entity == a)) ∧ Below W.heap.size W w' := by
  obtain rfl := rd_eExport hr
  obtain ⟨k0, k1⟩ := hb.rules
  have hlt := hb.lt
  clear hr
  go_enter Try.func56, Try.ntmps56
  go_wp2
  go_ret
  exact ⟨rfl, (Below.refl _ _).alloc (Nat.le_refl _) _⟩
set_option maxHeartbeats 400000 in
theorem impl_Link_of_calls (g : Nat) (us : List Value) (x : GLink) (a : Int) (w : World) (hb : Blk w g 30 us.toArray) (hr : RdLW w (eLink x) us) :
    Calls Try.prog 42 #[.pointer (some ⟨g, 0, none⟩), .int .i64 a] w fun e w' => e = .returned (.int .i64 (idx (fun y : GExport => y.Entity == a) x.Exports)) ∧ Below w.heap.size w w' := by
  obtain ⟨v2, v4, v6, rfl, h2, h4, h6⟩ := rd_eLink hr
  obtain ⟨A, c, rfl, ⟨_, _, hl⟩⟩ := h2.slice
  have HR := Lib.hid h2
  clear hr h2 h4 h6
  obtain ⟨k0, k1⟩ := hb.rules
  have hlt := hb.lt
  have hcon := slices_IndexFunc_Export (fun y : GExport => y.Entity == a) 56 #[.pointer (some ⟨w.heap.size, 0, none⟩)] (enters_of Try.func56 (by kernel_rfl) rfl) _ x.Exports (w.alloc (.cells #[.int .i64 a] 3)) (HR.out.alloc _)
    (fun W y us hW hy hus => impl_Link_of1_calls w.heap.size y us a W ((Blk.new w _ _).below hW) hus)
  have HC := Lib.hid hcon
  clear hcon
  go_enter Try.func42, Try.ntmps42
  go_wp2_with (go_at_call 55; refine HC.out.mono ?_; rintro e w' ⟨rfl, hb'⟩)
  go_ret
  exact ⟨rfl, ((Below.refl _ _).alloc (Nat.le_refl _) _).trans (hb'.mono (by simp only [size_alloc]; omega))⟩
set_option maxHeartbeats 400000 in
theorem impl_PosOf_calls (us : List Value) (x : GLink) (a : Int) (w : World) (hr : RdLW w (eLink x) us) (hz : sizL (eLink x) ≤ 1048576) (hi : I64 a) :
    Calls Try.prog 18 #[.agg us.toArray, .int .i64 a] w fun e w' => e = .returned (.int .i64 (posOf x a)) ∧ Below w.heap.size w w' := by
  have hcon := impl_Link_of_calls w.heap.size us x a (w.alloc (.cells us.toArray 30)) (Blk.new w _ _) (hr.below ((Below.refl _ _).alloc (Nat.le_refl _) _))
  obtain ⟨v2, v4, v6, rfl, h2, h4, h6⟩ := rd_eLink hr
  obtain ⟨A, c, rfl, ⟨_, _, hl⟩⟩ := h2.slice
  have HR := Lib.hid h2
  have HC := Lib.hid hcon
  clear hr h2 h4 h6 hcon
  go_enter Try.func18, Try.ntmps18
  go_wp2_with fail
  refine HC.out.mono ?_
  rintro e w1 ⟨rfl, hb1⟩
  have hbb := Lib.hid (((Below.refl w.heap.size w).alloc (Nat.le_refl _) _).trans (hb1.mono (by simp only [size_alloc]; omega)))
  obtain ⟨k0, k1⟩ := ((Blk.new w _ _).below hb1).rules
  have hlt : w.heap.size < w1.heap.size := by have := hb1.size; simp only [size_alloc] at this; omega
  clear hb1
  by_cases hge : 0 ≤ idx (fun y : GExport => y.Entity == a) x.Exports
  · obtain ⟨i, y, hi', hy, hp, hno⟩ := idx_some hge
    have hil : i < x.Exports.length := (List.getElem?_eq_some_iff.1 hy).1
    obtain ⟨ad, rfl, _, h0, h1, h2⟩ := row_eExport (HR.out.below hbb.out) hy
    have HE := Lib.hid (posOf_hit x a i y hy (by simpa using hp) (fun j z hj hz => by simpa using hno j z hj hz))
    rw [hi']
    clear hy hno hi' hge
    go_wp2
    go_ret
    exact ⟨by rw [HE.out]; rfl, hbb.out⟩
  · obtain ⟨hi', hno⟩ := idx_none hge
    have HE := Lib.hid (posOf_miss x a (fun z hz => by simpa using hno z hz))
    rw [hi']
    clear hno hi' hge
    go_wp2
    go_ret
    exact ⟨by rw [HE.out]; rfl, hbb.out⟩

end Go.Proofs.Ytagkomochjnjoaa
