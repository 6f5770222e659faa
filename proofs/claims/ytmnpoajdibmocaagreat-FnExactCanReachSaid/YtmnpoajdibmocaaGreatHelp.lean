import Derived.Test.YtmnpoajdibmocaaGreatProg
import Derived.Test.YtmnpoajdibmocaaGreatTypes
import Derived.StillTailTactics
import Derived.Deep.RegionHeld3
import Derived.Laws.IdiomStrings
import Derived.Test.YtmnpoajdibmocaaGreatAppend
import Derived.Laws.StructEq
import Derived.Lib.SliceRun
import Derived.Shelf.RegionOpenPlain
namespace Go.Proofs.YtmnpoajdibmocaaGreat
open Go.RowKit
set_option linter.unusedVariables false
set_option linter.unusedSimpArgs false

set_option maxHeartbeats 800000 in
set_option maxRecDepth 100000 in
theorem eqIntS_calls (xs : List Int) (v v' : Value) (w : World) (hr : RdW w (.s xs.length (xs.flatMap eInt)) v) (hr' : RdW w (.s xs.length (xs.flatMap eInt)) v') :
    Calls Tryz.prog 8 #[v, v'] w fun e w' => e = .returned (.bool true) ∧ Below w.heap.size w w' := by
  obtain ⟨A, c, rfl, ⟨_, _, hl⟩⟩ := hr.slice
  obtain ⟨A', c', rfl, _⟩ := hr'.slice
  have HR := Lib.hid hr
  have HR' := Lib.hid hr'
  clear hr hr'
  go_enter Tryz.func8, Tryz.ntmps8
  go_wp2
  go_loopw [5] (fun a wr => ∃ i : Nat, i ≤ xs.length ∧ a = .int .i64 i ∧ Hid (Below w.heap.size w wr)) (fun a wr => xs.length - (intOf a).toNat)
  case atStart => exact ⟨0, by omega, rfl, Below.refl _ w⟩
  case round =>
    obtain ⟨i, hi, rfl, HB⟩ := hrel
    by_cases hlt : i < xs.length
    · obtain ⟨x, hx⟩ : ∃ x, xs[i]? = some x := ⟨xs[i], List.getElem?_eq_getElem hlt⟩
      obtain ⟨ad, rfl, hadb, h0⟩ := row_eInt (HR.out.below HB.out) hx
      obtain ⟨ad', rfl, hadb', h0'⟩ := row_eInt (HR'.out.below HB.out) hx
      have HX := Lib.hid hx
      clear hx
      go_wp2
      go_quiet (fail)
      go_wp2
      go_roundw
      case rel => exact ⟨i + 1, by omega, by go_num, belowN HB.out _⟩
      case measure => simp [intOf]; omega
    · have : i = xs.length := by omega
      subst this
      go_wp2
      go_ret
      exact ⟨rfl, HB.out⟩

set_option maxHeartbeats 800000 in
set_option maxRecDepth 100000 in
theorem toValue_calls (us : List Value) (x : GValue) (w : World) (hr : RdLW w (eValue x) us) :
    Calls Tryz.prog 70 #[.agg us.toArray] w fun e w' => ∃ us' fp, e = .returned (.agg us'.toArray) ∧ OwnL w' (eValue x) us' fp ∧ Fresh w fp ∧ Below w.heap.size w w' := by
  obtain rfl := rd_eValue hr
  go_enter Tryz.func70, Tryz.ntmps70
  go_wp2
  refine bodyPost_ret (v := .agg #[.int .i64 x.Kind, .int .i64 x.N]) (by simp [results, Tryz.results70, go_sem]) rfl ⟨_, _, rfl, mkown_eValue, Fresh.nil _, ?_⟩
  exact (((Below.refl _ _).alloc (Nat.le_refl _) _).alloc (by simp) _).alloc (by simp; omega) _

set_option maxHeartbeats 800000 in
set_option maxRecDepth 100000 in
theorem toValueS_calls (xs : List GValue) (v : Value) (w : World) (hr : RdW w (.s xs.length (xs.flatMap eValue)) v) (hn : xs.length ≤ 1048576) :
    Calls Tryz.prog 69 #[v] w fun e w' => ∃ v' fp, e = .returned v' ∧ Own w' (.s xs.length (xs.flatMap eValue)) v' fp ∧ Fresh w fp ∧ Below w.heap.size w w' := by
  obtain ⟨A, c, rfl, ⟨_, _, hl⟩⟩ := hr.slice
  have HR := Lib.hid hr
  clear hr
  have hn1 : xs.length ≤ 1048576 := by omega
  obtain ⟨cs0, hcs, hmk⟩ := run_make_any (P := Tryz.prog) 101 53 16 2 Tryz.underlying101 ⟨_, _, rfl, rfl, rfl, rfl⟩ xs.length (by omega) (by omega)
  have HCS := Lib.hid hcs
  clear hcs
  go_enter Tryz.func69, Tryz.ntmps69
  go_wp2
  go_loopw [4] (fun a wr => ∃ i : Nat, i ≤ xs.length ∧ a = .int .i64 i ∧ w.heap.size < wr.heap.size ∧ Hid (ToI eValue 2 xs w wr i)) (fun a wr => xs.length - (intOf a).toNat)
  case atStart => exact ⟨0, by omega, rfl, by simp, ToI.start HCS.out⟩
  case round =>
    obtain ⟨i, hi, rfl, hgz, HI⟩ := hrel
    by_cases hlt : i < xs.length
    · obtain ⟨x, hx⟩ : ∃ x, xs[i]? = some x := ⟨xs[i], List.getElem?_eq_getElem hlt⟩
      obtain ⟨ad, rfl, hadb, h0, h1⟩ := row_eValue (HR.out.below HI.out.below) hx
      have HX := Lib.hid hx
      clear hx
      go_wp2_with fail
      refine (toValue_calls _ x _ (mkrd_eValue)).mono ?_
      rintro e w1 ⟨us', fp', rfl, ho, hf, hb1⟩
      have HB1 := Lib.hid hb1
      have HO := Lib.hid ho
      have HF := Lib.hid hf
      obtain ⟨rfl, rfl⟩ := own_eValue ho
      clear ho hf hb1
      obtain ⟨y0, c0, q0⟩ := HI.out.get HB1.out 0 hlt (by omega)
      obtain ⟨y1, c1, q1⟩ := HI.out.get HB1.out 1 hlt (by omega)
      rw [Nat.add_zero] at c0 q0
      have hgz1 : w.heap.size < w1.heap.size := Nat.lt_of_lt_of_le hgz HB1.out.size
      go_wp2
      go_roundw
      case rel =>
        have hst := HI.out.step HX.out HB1.out len_eValue HO.out HF.out
        simp only [putRow, Nat.add_assoc, Nat.reduceAdd] at hst
        exact ⟨i + 1, by omega, by go_num, by simpa [World.setCell] using hgz1, hst⟩
      case measure => simp [intOf]; omega
    · have : i = xs.length := by omega
      subst this
      go_wp2
      go_ret
      obtain ⟨fp, ho, hf, hb⟩ := HI.out.finish hn1
      exact ⟨_, fp, rfl, ho, hf, hb⟩

set_option maxHeartbeats 800000 in
set_option maxRecDepth 100000 in
theorem eqValue_calls (us us' : List Value) (x : GValue) (w : World) (hr : RdLW w (eValue x) us) (hr' : RdLW w (eValue x) us') :
    Calls Tryz.prog 89 #[.agg us.toArray, .agg us'.toArray] w fun e w' => e = .returned (.bool true) ∧ Below w.heap.size w w' := by
  obtain rfl := rd_eValue hr
  obtain rfl := rd_eValue hr'
  clear hr hr'
  go_enter Tryz.func89, Tryz.ntmps89
  go_wp2
  go_ret
  exact ⟨rfl, ((Below.refl _ _).alloc (Nat.le_refl _) _).alloc (by simp) _⟩

set_option maxHeartbeats 800000 in
set_option maxRecDepth 100000 in
theorem eqValueS_calls (xs : List GValue) (v v' : Value) (w : World) (hr : RdW w (.s xs.length (xs.flatMap eValue)) v) (hr' : RdW w (.s xs.length (xs.flatMap eValue)) v') :
    Calls Tryz.prog 88 #[v, v'] w fun e w' => e = .returned (.bool true) ∧ Below w.heap.size w w' := by
  obtain ⟨A, c, rfl, ⟨_, _, hl⟩⟩ := hr.slice
  obtain ⟨A', c', rfl, _⟩ := hr'.slice
  have HR := Lib.hid hr
  have HR' := Lib.hid hr'
  clear hr hr'
  go_enter Tryz.func88, Tryz.ntmps88
  go_wp2
  go_loopw [5] (fun a wr => ∃ i : Nat, i ≤ xs.length ∧ a = .int .i64 i ∧ Hid (Below w.heap.size w wr)) (fun a wr => xs.length - (intOf a).toNat)
  case atStart => exact ⟨0, by omega, rfl, Below.refl _ w⟩
  case round =>
    obtain ⟨i, hi, rfl, HB⟩ := hrel
    by_cases hlt : i < xs.length
    · obtain ⟨x, hx⟩ : ∃ x, xs[i]? = some x := ⟨xs[i], List.getElem?_eq_getElem hlt⟩
      obtain ⟨ad, rfl, hadb, h0, h1⟩ := row_eValue (HR.out.below HB.out) hx
      obtain ⟨ad', rfl, hadb', h0', h1'⟩ := row_eValue (HR'.out.below HB.out) hx
      have HX := Lib.hid hx
      clear hx
      go_wp2
      go_still_tail 8, (by kernel_rfl)
      change wpList _ _ _ _ _ wr.drew
      go_wp2_with fail
      refine (eqValue_calls _ _ x _ (mkrd_eValue) (mkrd_eValue)).mono ?_
      rintro e w1 ⟨rfl, hb1⟩
      have HB1 := Lib.hid hb1
      clear hb1
      go_wp2
      go_roundw
      case rel => exact ⟨i + 1, by omega, by go_num, HB.out.drew.trans (HB1.out.mono HB.out.drew.size)⟩
      case measure => simp [intOf]; omega
    · have : i = xs.length := by omega
      subst this
      go_wp2
      go_ret
      exact ⟨rfl, HB.out⟩

set_option maxHeartbeats 800000 in
set_option maxRecDepth 100000 in
theorem szValueS_calls (xs : List GValue) (v : Value) (left : Int) (w : World) (hr : RdW w (.s xs.length (xs.flatMap eValue)) v) (h0 : 0 ≤ left) (h1 : left ≤ 1048576) :
    Calls Tryz.prog 64 #[v, .int .i64 left] w fun e w' => ∃ r : Int, e = .returned (.int .i64 r) ∧ SzR r left (xs.length + sizL (xs.flatMap eValue)) ∧ Below w.heap.size w w' := by
  have hz : sizL (xs.flatMap eValue) = 0 := by
    have h2 : ∀ ys : List GValue, sizL (ys.flatMap eValue) = 0 := fun ys => by
      induction ys with
      | nil => exact sizL_nil
      | cons y ys ih => rw [List.flatMap_cons, sizL_append, ih, siz_eValue]
    exact h2 xs
  rw [hz, Nat.add_zero]
  clear hz
  obtain ⟨A, c, rfl, ⟨_, _, hl⟩⟩ := hr.slice
  clear hr
  by_cases hlt : left - xs.length < 0
  · go_enter Tryz.func64, Tryz.ntmps64
    go_wp2
    go_ret
    exact ⟨_, rfl, .inl rfl, Below.refl _ w⟩
  · go_enter Tryz.func64, Tryz.ntmps64
    go_wp2
    go_ret
    exact ⟨_, rfl, .inr ⟨rfl, by omega⟩, Below.refl _ w⟩

set_option maxHeartbeats 800000 in
set_option maxRecDepth 100000 in
theorem toWire_calls (us : List Value) (x : GWire) (w : World) (hr : RdLW w (eWire x) us) :
    Calls Tryz.prog 100 #[.agg us.toArray] w fun e w' => ∃ us' fp, e = .returned (.agg us'.toArray) ∧ OwnL w' (eWire x) us' fp ∧ Fresh w fp ∧ Below w.heap.size w w' := by
  obtain rfl := rd_eWire hr
  go_enter Tryz.func100, Tryz.ntmps100
  go_wp2
  refine bodyPost_ret (v := .agg #[.int .i64 x.Kind, .int .i64 x.N]) (by simp [results, Tryz.results100, go_sem]) rfl ⟨_, _, rfl, mkown_eWire, Fresh.nil _, ?_⟩
  exact (((Below.refl _ _).alloc (Nat.le_refl _) _).alloc (by simp) _).alloc (by simp; omega) _

set_option maxHeartbeats 800000 in
set_option maxRecDepth 100000 in
theorem toWireS_calls (xs : List GWire) (v : Value) (w : World) (hr : RdW w (.s xs.length (xs.flatMap eWire)) v) (hn : xs.length ≤ 1048576) :
    Calls Tryz.prog 99 #[v] w fun e w' => ∃ v' fp, e = .returned v' ∧ Own w' (.s xs.length (xs.flatMap eWire)) v' fp ∧ Fresh w fp ∧ Below w.heap.size w w' := by
  obtain ⟨A, c, rfl, ⟨_, _, hl⟩⟩ := hr.slice
  have HR := Lib.hid hr
  clear hr
  have hn1 : xs.length ≤ 1048576 := by omega
  obtain ⟨cs0, hcs, hmk⟩ := run_make_any (P := Tryz.prog) 112 113 16 2 Tryz.underlying112 ⟨_, _, rfl, rfl, rfl, rfl⟩ xs.length (by omega) (by omega)
  have HCS := Lib.hid hcs
  clear hcs
  go_enter Tryz.func99, Tryz.ntmps99
  go_wp2
  go_loopw [4] (fun a wr => ∃ i : Nat, i ≤ xs.length ∧ a = .int .i64 i ∧ w.heap.size < wr.heap.size ∧ Hid (ToI eWire 2 xs w wr i)) (fun a wr => xs.length - (intOf a).toNat)
  case atStart => exact ⟨0, by omega, rfl, by simp, ToI.start HCS.out⟩
  case round =>
    obtain ⟨i, hi, rfl, hgz, HI⟩ := hrel
    by_cases hlt : i < xs.length
    · obtain ⟨x, hx⟩ : ∃ x, xs[i]? = some x := ⟨xs[i], List.getElem?_eq_getElem hlt⟩
      obtain ⟨ad, rfl, hadb, h0, h1⟩ := row_eWire (HR.out.below HI.out.below) hx
      have HX := Lib.hid hx
      clear hx
      go_wp2_with fail
      refine (toWire_calls _ x _ (mkrd_eWire)).mono ?_
      rintro e w1 ⟨us', fp', rfl, ho, hf, hb1⟩
      have HB1 := Lib.hid hb1
      have HO := Lib.hid ho
      have HF := Lib.hid hf
      obtain ⟨rfl, rfl⟩ := own_eWire ho
      clear ho hf hb1
      obtain ⟨y0, c0, q0⟩ := HI.out.get HB1.out 0 hlt (by omega)
      obtain ⟨y1, c1, q1⟩ := HI.out.get HB1.out 1 hlt (by omega)
      rw [Nat.add_zero] at c0 q0
      have hgz1 : w.heap.size < w1.heap.size := Nat.lt_of_lt_of_le hgz HB1.out.size
      go_wp2
      go_roundw
      case rel =>
        have hst := HI.out.step HX.out HB1.out len_eWire HO.out HF.out
        simp only [putRow, Nat.add_assoc, Nat.reduceAdd] at hst
        exact ⟨i + 1, by omega, by go_num, by simpa [World.setCell] using hgz1, hst⟩
      case measure => simp [intOf]; omega
    · have : i = xs.length := by omega
      subst this
      go_wp2
      go_ret
      obtain ⟨fp, ho, hf, hb⟩ := HI.out.finish hn1
      exact ⟨_, fp, rfl, ho, hf, hb⟩

set_option maxHeartbeats 800000 in
set_option maxRecDepth 100000 in
theorem eqWire_calls (us us' : List Value) (x : GWire) (w : World) (hr : RdLW w (eWire x) us) (hr' : RdLW w (eWire x) us') :
    Calls Tryz.prog 111 #[.agg us.toArray, .agg us'.toArray] w fun e w' => e = .returned (.bool true) ∧ Below w.heap.size w w' := by
  obtain rfl := rd_eWire hr
  obtain rfl := rd_eWire hr'
  clear hr hr'
  go_enter Tryz.func111, Tryz.ntmps111
  go_wp2
  go_ret
  exact ⟨rfl, ((Below.refl _ _).alloc (Nat.le_refl _) _).alloc (by simp) _⟩

set_option maxHeartbeats 800000 in
set_option maxRecDepth 100000 in
theorem eqWireS_calls (xs : List GWire) (v v' : Value) (w : World) (hr : RdW w (.s xs.length (xs.flatMap eWire)) v) (hr' : RdW w (.s xs.length (xs.flatMap eWire)) v') :
    Calls Tryz.prog 110 #[v, v'] w fun e w' => e = .returned (.bool true) ∧ Below w.heap.size w w' := by
  obtain ⟨A, c, rfl, ⟨_, _, hl⟩⟩ := hr.slice
  obtain ⟨A', c', rfl, _⟩ := hr'.slice
  have HR := Lib.hid hr
  have HR' := Lib.hid hr'
  clear hr hr'
  go_enter Tryz.func110, Tryz.ntmps110
  go_wp2
  go_loopw [5] (fun a wr => ∃ i : Nat, i ≤ xs.length ∧ a = .int .i64 i ∧ Hid (Below w.heap.size w wr)) (fun a wr => xs.length - (intOf a).toNat)
  case atStart => exact ⟨0, by omega, rfl, Below.refl _ w⟩
  case round =>
    obtain ⟨i, hi, rfl, HB⟩ := hrel
    by_cases hlt : i < xs.length
    · obtain ⟨x, hx⟩ : ∃ x, xs[i]? = some x := ⟨xs[i], List.getElem?_eq_getElem hlt⟩
      obtain ⟨ad, rfl, hadb, h0, h1⟩ := row_eWire (HR.out.below HB.out) hx
      obtain ⟨ad', rfl, hadb', h0', h1'⟩ := row_eWire (HR'.out.below HB.out) hx
      have HX := Lib.hid hx
      clear hx
      go_wp2
      go_still_tail 8, (by kernel_rfl)
      change wpList _ _ _ _ _ wr.drew
      go_wp2_with fail
      refine (eqWire_calls _ _ x _ (mkrd_eWire) (mkrd_eWire)).mono ?_
      rintro e w1 ⟨rfl, hb1⟩
      have HB1 := Lib.hid hb1
      clear hb1
      go_wp2
      go_roundw
      case rel => exact ⟨i + 1, by omega, by go_num, HB.out.drew.trans (HB1.out.mono HB.out.drew.size)⟩
      case measure => simp [intOf]; omega
    · have : i = xs.length := by omega
      subst this
      go_wp2
      go_ret
      exact ⟨rfl, HB.out⟩

set_option maxHeartbeats 800000 in
set_option maxRecDepth 100000 in
theorem szWireS_calls (xs : List GWire) (v : Value) (left : Int) (w : World) (hr : RdW w (.s xs.length (xs.flatMap eWire)) v) (h0 : 0 ≤ left) (h1 : left ≤ 1048576) :
    Calls Tryz.prog 95 #[v, .int .i64 left] w fun e w' => ∃ r : Int, e = .returned (.int .i64 r) ∧ SzR r left (xs.length + sizL (xs.flatMap eWire)) ∧ Below w.heap.size w w' := by
  have hz : sizL (xs.flatMap eWire) = 0 := by
    have h2 : ∀ ys : List GWire, sizL (ys.flatMap eWire) = 0 := fun ys => by
      induction ys with
      | nil => exact sizL_nil
      | cons y ys ih => rw [List.flatMap_cons, sizL_append, ih, siz_eWire]
    exact h2 xs
  rw [hz, Nat.add_zero]
  clear hz
  obtain ⟨A, c, rfl, ⟨_, _, hl⟩⟩ := hr.slice
  clear hr
  by_cases hlt : left - xs.length < 0
  · go_enter Tryz.func95, Tryz.ntmps95
    go_wp2
    go_ret
    exact ⟨_, rfl, .inl rfl, Below.refl _ w⟩
  · go_enter Tryz.func95, Tryz.ntmps95
    go_wp2
    go_ret
    exact ⟨_, rfl, .inr ⟨rfl, by omega⟩, Below.refl _ w⟩

set_option maxHeartbeats 800000 in
set_option maxRecDepth 100000 in
theorem toTag_calls (us : List Value) (x : GTag) (w : World) (hr : RdLW w (eTag x) us) :
    Calls Tryz.prog 72 #[.agg us.toArray] w fun e w' => ∃ us' fp, e = .returned (.agg us'.toArray) ∧ OwnL w' (eTag x) us' fp ∧ Fresh w fp ∧ Below w.heap.size w w' := by
  obtain rfl := rd_eTag hr
  go_enter Tryz.func72, Tryz.ntmps72
  go_wp2
  refine bodyPost_ret (v := .agg #[.int .i64 x.Vat, .int .i64 x.Entity, .int .i64 x.Seq]) (by simp [results, Tryz.results72, go_sem]) rfl ⟨_, _, rfl, mkown_eTag, Fresh.nil _, ?_⟩
  exact (((Below.refl _ _).alloc (Nat.le_refl _) _).alloc (by simp) _).alloc (by simp; omega) _

set_option maxHeartbeats 800000 in
set_option maxRecDepth 100000 in
theorem eqTag_calls (us us' : List Value) (x : GTag) (w : World) (hr : RdLW w (eTag x) us) (hr' : RdLW w (eTag x) us') :
    Calls Tryz.prog 91 #[.agg us.toArray, .agg us'.toArray] w fun e w' => e = .returned (.bool true) ∧ Below w.heap.size w w' := by
  obtain rfl := rd_eTag hr
  obtain rfl := rd_eTag hr'
  clear hr hr'
  go_enter Tryz.func91, Tryz.ntmps91
  go_wp2
  go_ret
  exact ⟨rfl, ((Below.refl _ _).alloc (Nat.le_refl _) _).alloc (by simp) _⟩

set_option maxHeartbeats 800000 in
set_option maxRecDepth 100000 in
theorem toAsker_calls (us : List Value) (x : GAsker) (w : World) (hr : RdLW w (eAsker x) us) :
    Calls Tryz.prog 96 #[.agg us.toArray] w fun e w' => ∃ us' fp, e = .returned (.agg us'.toArray) ∧ OwnL w' (eAsker x) us' fp ∧ Fresh w fp ∧ Below w.heap.size w w' := by
  obtain rfl := rd_eAsker hr
  go_enter Tryz.func96, Tryz.ntmps96
  go_wp2
  refine bodyPost_ret (v := .agg #[.int .i64 x.Peer, .int .i64 x.Question]) (by simp [results, Tryz.results96, go_sem]) rfl ⟨_, _, rfl, mkown_eAsker, Fresh.nil _, ?_⟩
  exact (((Below.refl _ _).alloc (Nat.le_refl _) _).alloc (by simp) _).alloc (by simp; omega) _

set_option maxHeartbeats 800000 in
set_option maxRecDepth 100000 in
theorem toAskerS_calls (xs : List GAsker) (v : Value) (w : World) (hr : RdW w (.s xs.length (xs.flatMap eAsker)) v) (hn : xs.length ≤ 1048576) :
    Calls Tryz.prog 71 #[v] w fun e w' => ∃ v' fp, e = .returned v' ∧ Own w' (.s xs.length (xs.flatMap eAsker)) v' fp ∧ Fresh w fp ∧ Below w.heap.size w w' := by
  obtain ⟨A, c, rfl, ⟨_, _, hl⟩⟩ := hr.slice
  have HR := Lib.hid hr
  clear hr
  have hn1 : xs.length ≤ 1048576 := by omega
  obtain ⟨cs0, hcs, hmk⟩ := run_make_any (P := Tryz.prog) 102 169 16 2 Tryz.underlying102 ⟨_, _, rfl, rfl, rfl, rfl⟩ xs.length (by omega) (by omega)
  have HCS := Lib.hid hcs
  clear hcs
  go_enter Tryz.func71, Tryz.ntmps71
  go_wp2
  go_loopw [4] (fun a wr => ∃ i : Nat, i ≤ xs.length ∧ a = .int .i64 i ∧ w.heap.size < wr.heap.size ∧ Hid (ToI eAsker 2 xs w wr i)) (fun a wr => xs.length - (intOf a).toNat)
  case atStart => exact ⟨0, by omega, rfl, by simp, ToI.start HCS.out⟩
  case round =>
    obtain ⟨i, hi, rfl, hgz, HI⟩ := hrel
    by_cases hlt : i < xs.length
    · obtain ⟨x, hx⟩ : ∃ x, xs[i]? = some x := ⟨xs[i], List.getElem?_eq_getElem hlt⟩
      obtain ⟨ad, rfl, hadb, h0, h1⟩ := row_eAsker (HR.out.below HI.out.below) hx
      have HX := Lib.hid hx
      clear hx
      go_wp2_with fail
      refine (toAsker_calls _ x _ (mkrd_eAsker)).mono ?_
      rintro e w1 ⟨us', fp', rfl, ho, hf, hb1⟩
      have HB1 := Lib.hid hb1
      have HO := Lib.hid ho
      have HF := Lib.hid hf
      obtain ⟨rfl, rfl⟩ := own_eAsker ho
      clear ho hf hb1
      obtain ⟨y0, c0, q0⟩ := HI.out.get HB1.out 0 hlt (by omega)
      obtain ⟨y1, c1, q1⟩ := HI.out.get HB1.out 1 hlt (by omega)
      rw [Nat.add_zero] at c0 q0
      have hgz1 : w.heap.size < w1.heap.size := Nat.lt_of_lt_of_le hgz HB1.out.size
      go_wp2
      go_roundw
      case rel =>
        have hst := HI.out.step HX.out HB1.out len_eAsker HO.out HF.out
        simp only [putRow, Nat.add_assoc, Nat.reduceAdd] at hst
        exact ⟨i + 1, by omega, by go_num, by simpa [World.setCell] using hgz1, hst⟩
      case measure => simp [intOf]; omega
    · have : i = xs.length := by omega
      subst this
      go_wp2
      go_ret
      obtain ⟨fp, ho, hf, hb⟩ := HI.out.finish hn1
      exact ⟨_, fp, rfl, ho, hf, hb⟩

set_option maxHeartbeats 800000 in
set_option maxRecDepth 100000 in
theorem eqAsker_calls (us us' : List Value) (x : GAsker) (w : World) (hr : RdLW w (eAsker x) us) (hr' : RdLW w (eAsker x) us') :
    Calls Tryz.prog 107 #[.agg us.toArray, .agg us'.toArray] w fun e w' => e = .returned (.bool true) ∧ Below w.heap.size w w' := by
  obtain rfl := rd_eAsker hr
  obtain rfl := rd_eAsker hr'
  clear hr hr'
  go_enter Tryz.func107, Tryz.ntmps107
  go_wp2
  go_ret
  exact ⟨rfl, ((Below.refl _ _).alloc (Nat.le_refl _) _).alloc (by simp) _⟩

set_option maxHeartbeats 800000 in
set_option maxRecDepth 100000 in
theorem eqAskerS_calls (xs : List GAsker) (v v' : Value) (w : World) (hr : RdW w (.s xs.length (xs.flatMap eAsker)) v) (hr' : RdW w (.s xs.length (xs.flatMap eAsker)) v') :
    Calls Tryz.prog 90 #[v, v'] w fun e w' => e = .returned (.bool true) ∧ Below w.heap.size w w' := by
  obtain ⟨A, c, rfl, ⟨_, _, hl⟩⟩ := hr.slice
  obtain ⟨A', c', rfl, _⟩ := hr'.slice
  have HR := Lib.hid hr
  have HR' := Lib.hid hr'
  clear hr hr'
  go_enter Tryz.func90, Tryz.ntmps90
  go_wp2
  go_loopw [5] (fun a wr => ∃ i : Nat, i ≤ xs.length ∧ a = .int .i64 i ∧ Hid (Below w.heap.size w wr)) (fun a wr => xs.length - (intOf a).toNat)
  case atStart => exact ⟨0, by omega, rfl, Below.refl _ w⟩
  case round =>
    obtain ⟨i, hi, rfl, HB⟩ := hrel
    by_cases hlt : i < xs.length
    · obtain ⟨x, hx⟩ : ∃ x, xs[i]? = some x := ⟨xs[i], List.getElem?_eq_getElem hlt⟩
      obtain ⟨ad, rfl, hadb, h0, h1⟩ := row_eAsker (HR.out.below HB.out) hx
      obtain ⟨ad', rfl, hadb', h0', h1'⟩ := row_eAsker (HR'.out.below HB.out) hx
      have HX := Lib.hid hx
      clear hx
      go_wp2
      go_still_tail 8, (by kernel_rfl)
      change wpList _ _ _ _ _ wr.drew
      go_wp2_with fail
      refine (eqAsker_calls _ _ x _ (mkrd_eAsker) (mkrd_eAsker)).mono ?_
      rintro e w1 ⟨rfl, hb1⟩
      have HB1 := Lib.hid hb1
      clear hb1
      go_wp2
      go_roundw
      case rel => exact ⟨i + 1, by omega, by go_num, HB.out.drew.trans (HB1.out.mono HB.out.drew.size)⟩
      case measure => simp [intOf]; omega
    · have : i = xs.length := by omega
      subst this
      go_wp2
      go_ret
      exact ⟨rfl, HB.out⟩

set_option maxHeartbeats 800000 in
set_option maxRecDepth 100000 in
theorem szAskerS_calls (xs : List GAsker) (v : Value) (left : Int) (w : World) (hr : RdW w (.s xs.length (xs.flatMap eAsker)) v) (h0 : 0 ≤ left) (h1 : left ≤ 1048576) :
    Calls Tryz.prog 65 #[v, .int .i64 left] w fun e w' => ∃ r : Int, e = .returned (.int .i64 r) ∧ SzR r left (xs.length + sizL (xs.flatMap eAsker)) ∧ Below w.heap.size w w' := by
  have hz : sizL (xs.flatMap eAsker) = 0 := by
    have h2 : ∀ ys : List GAsker, sizL (ys.flatMap eAsker) = 0 := fun ys => by
      induction ys with
      | nil => exact sizL_nil
      | cons y ys ih => rw [List.flatMap_cons, sizL_append, ih, siz_eAsker]
    exact h2 xs
  rw [hz, Nat.add_zero]
  clear hz
  obtain ⟨A, c, rfl, ⟨_, _, hl⟩⟩ := hr.slice
  clear hr
  by_cases hlt : left - xs.length < 0
  · go_enter Tryz.func65, Tryz.ntmps65
    go_wp2
    go_ret
    exact ⟨_, rfl, .inl rfl, Below.refl _ w⟩
  · go_enter Tryz.func65, Tryz.ntmps65
    go_wp2
    go_ret
    exact ⟨_, rfl, .inr ⟨rfl, by omega⟩, Below.refl _ w⟩

set_option maxHeartbeats 800000 in
set_option maxRecDepth 100000 in
theorem toExport_calls (us : List Value) (x : GExport) (w : World) (hr : RdLW w (eExport x) us) :
    Calls Tryz.prog 97 #[.agg us.toArray] w fun e w' => ∃ us' fp, e = .returned (.agg us'.toArray) ∧ OwnL w' (eExport x) us' fp ∧ Fresh w fp ∧ Below w.heap.size w w' := by
  obtain rfl := rd_eExport hr
  go_enter Tryz.func97, Tryz.ntmps97
  go_wp2
  refine bodyPost_ret (v := .agg #[.int .i64 x.Pos, .int .i64 x.Entity, .int .i64 x.Count]) (by simp [results, Tryz.results97, go_sem]) rfl ⟨_, _, rfl, mkown_eExport, Fresh.nil _, ?_⟩
  exact (((Below.refl _ _).alloc (Nat.le_refl _) _).alloc (by simp) _).alloc (by simp; omega) _

set_option maxHeartbeats 800000 in
set_option maxRecDepth 100000 in
theorem toExportS_calls (xs : List GExport) (v : Value) (w : World) (hr : RdW w (.s xs.length (xs.flatMap eExport)) v) (hn : xs.length ≤ 1048576) :
    Calls Tryz.prog 73 #[v] w fun e w' => ∃ v' fp, e = .returned v' ∧ Own w' (.s xs.length (xs.flatMap eExport)) v' fp ∧ Fresh w fp ∧ Below w.heap.size w w' := by
  obtain ⟨A, c, rfl, ⟨_, _, hl⟩⟩ := hr.slice
  have HR := Lib.hid hr
  clear hr
  have hn1 : xs.length ≤ 1048576 := by omega
  obtain ⟨cs0, hcs, hmk⟩ := run_make_any (P := Tryz.prog) 48 57 24 3 Tryz.underlying48 ⟨_, _, rfl, rfl, rfl, rfl⟩ xs.length (by omega) (by omega)
  have HCS := Lib.hid hcs
  clear hcs
  go_enter Tryz.func73, Tryz.ntmps73
  go_wp2
  go_loopw [4] (fun a wr => ∃ i : Nat, i ≤ xs.length ∧ a = .int .i64 i ∧ w.heap.size < wr.heap.size ∧ Hid (ToI eExport 3 xs w wr i)) (fun a wr => xs.length - (intOf a).toNat)
  case atStart => exact ⟨0, by omega, rfl, by simp, ToI.start HCS.out⟩
  case round =>
    obtain ⟨i, hi, rfl, hgz, HI⟩ := hrel
    by_cases hlt : i < xs.length
    · obtain ⟨x, hx⟩ : ∃ x, xs[i]? = some x := ⟨xs[i], List.getElem?_eq_getElem hlt⟩
      obtain ⟨ad, rfl, hadb, h0, h1, h2⟩ := row_eExport (HR.out.below HI.out.below) hx
      have HX := Lib.hid hx
      clear hx
      go_wp2_with fail
      refine (toExport_calls _ x _ (mkrd_eExport)).mono ?_
      rintro e w1 ⟨us', fp', rfl, ho, hf, hb1⟩
      have HB1 := Lib.hid hb1
      have HO := Lib.hid ho
      have HF := Lib.hid hf
      obtain ⟨rfl, rfl⟩ := own_eExport ho
      clear ho hf hb1
      obtain ⟨y0, c0, q0⟩ := HI.out.get HB1.out 0 hlt (by omega)
      obtain ⟨y1, c1, q1⟩ := HI.out.get HB1.out 1 hlt (by omega)
      obtain ⟨y2, c2, q2⟩ := HI.out.get HB1.out 2 hlt (by omega)
      rw [Nat.add_zero] at c0 q0
      have hgz1 : w.heap.size < w1.heap.size := Nat.lt_of_lt_of_le hgz HB1.out.size
      go_wp2
      go_roundw
      case rel =>
        have hst := HI.out.step HX.out HB1.out len_eExport HO.out HF.out
        simp only [putRow, Nat.add_assoc, Nat.reduceAdd] at hst
        exact ⟨i + 1, by omega, by go_num, by simpa [World.setCell] using hgz1, hst⟩
      case measure => simp [intOf]; omega
    · have : i = xs.length := by omega
      subst this
      go_wp2
      go_ret
      obtain ⟨fp, ho, hf, hb⟩ := HI.out.finish hn1
      exact ⟨_, fp, rfl, ho, hf, hb⟩

set_option maxHeartbeats 800000 in
set_option maxRecDepth 100000 in
theorem eqExport_calls (us us' : List Value) (x : GExport) (w : World) (hr : RdLW w (eExport x) us) (hr' : RdLW w (eExport x) us') :
    Calls Tryz.prog 108 #[.agg us.toArray, .agg us'.toArray] w fun e w' => e = .returned (.bool true) ∧ Below w.heap.size w w' := by
  obtain rfl := rd_eExport hr
  obtain rfl := rd_eExport hr'
  clear hr hr'
  go_enter Tryz.func108, Tryz.ntmps108
  go_wp2
  go_ret
  exact ⟨rfl, ((Below.refl _ _).alloc (Nat.le_refl _) _).alloc (by simp) _⟩

set_option maxHeartbeats 800000 in
set_option maxRecDepth 100000 in
theorem eqExportS_calls (xs : List GExport) (v v' : Value) (w : World) (hr : RdW w (.s xs.length (xs.flatMap eExport)) v) (hr' : RdW w (.s xs.length (xs.flatMap eExport)) v') :
    Calls Tryz.prog 92 #[v, v'] w fun e w' => e = .returned (.bool true) ∧ Below w.heap.size w w' := by
  obtain ⟨A, c, rfl, ⟨_, _, hl⟩⟩ := hr.slice
  obtain ⟨A', c', rfl, _⟩ := hr'.slice
  have HR := Lib.hid hr
  have HR' := Lib.hid hr'
  clear hr hr'
  go_enter Tryz.func92, Tryz.ntmps92
  go_wp2
  go_loopw [5] (fun a wr => ∃ i : Nat, i ≤ xs.length ∧ a = .int .i64 i ∧ Hid (Below w.heap.size w wr)) (fun a wr => xs.length - (intOf a).toNat)
  case atStart => exact ⟨0, by omega, rfl, Below.refl _ w⟩
  case round =>
    obtain ⟨i, hi, rfl, HB⟩ := hrel
    by_cases hlt : i < xs.length
    · obtain ⟨x, hx⟩ : ∃ x, xs[i]? = some x := ⟨xs[i], List.getElem?_eq_getElem hlt⟩
      obtain ⟨ad, rfl, hadb, h0, h1, h2⟩ := row_eExport (HR.out.below HB.out) hx
      obtain ⟨ad', rfl, hadb', h0', h1', h2'⟩ := row_eExport (HR'.out.below HB.out) hx
      have HX := Lib.hid hx
      clear hx
      go_wp2
      go_still_tail 8, (by kernel_rfl)
      change wpList _ _ _ _ _ wr.drew
      go_wp2_with fail
      refine (eqExport_calls _ _ x _ (mkrd_eExport) (mkrd_eExport)).mono ?_
      rintro e w1 ⟨rfl, hb1⟩
      have HB1 := Lib.hid hb1
      clear hb1
      go_wp2
      go_roundw
      case rel => exact ⟨i + 1, by omega, by go_num, HB.out.drew.trans (HB1.out.mono HB.out.drew.size)⟩
      case measure => simp [intOf]; omega
    · have : i = xs.length := by omega
      subst this
      go_wp2
      go_ret
      exact ⟨rfl, HB.out⟩

set_option maxHeartbeats 800000 in
set_option maxRecDepth 100000 in
theorem szExportS_calls (xs : List GExport) (v : Value) (left : Int) (w : World) (hr : RdW w (.s xs.length (xs.flatMap eExport)) v) (h0 : 0 ≤ left) (h1 : left ≤ 1048576) :
    Calls Tryz.prog 66 #[v, .int .i64 left] w fun e w' => ∃ r : Int, e = .returned (.int .i64 r) ∧ SzR r left (xs.length + sizL (xs.flatMap eExport)) ∧ Below w.heap.size w w' := by
  have hz : sizL (xs.flatMap eExport) = 0 := by
    have h2 : ∀ ys : List GExport, sizL (ys.flatMap eExport) = 0 := fun ys => by
      induction ys with
      | nil => exact sizL_nil
      | cons y ys ih => rw [List.flatMap_cons, sizL_append, ih, siz_eExport]
    exact h2 xs
  rw [hz, Nat.add_zero]
  clear hz
  obtain ⟨A, c, rfl, ⟨_, _, hl⟩⟩ := hr.slice
  clear hr
  by_cases hlt : left - xs.length < 0
  · go_enter Tryz.func66, Tryz.ntmps66
    go_wp2
    go_ret
    exact ⟨_, rfl, .inl rfl, Below.refl _ w⟩
  · go_enter Tryz.func66, Tryz.ntmps66
    go_wp2
    go_ret
    exact ⟨_, rfl, .inr ⟨rfl, by omega⟩, Below.refl _ w⟩

set_option maxHeartbeats 800000 in
set_option maxRecDepth 100000 in
theorem toQuestion_calls (us : List Value) (x : GQuestion) (w : World) (hr : RdLW w (eQuestion x) us) :
    Calls Tryz.prog 98 #[.agg us.toArray] w fun e w' => ∃ us' fp, e = .returned (.agg us'.toArray) ∧ OwnL w' (eQuestion x) us' fp ∧ Fresh w fp ∧ Below w.heap.size w w' := by
  obtain rfl := rd_eQuestion hr
  go_enter Tryz.func98, Tryz.ntmps98
  go_wp2
  refine bodyPost_ret (v := .agg #[.int .i64 x.Id, .int .i64 x.Promise]) (by simp [results, Tryz.results98, go_sem]) rfl ⟨_, _, rfl, mkown_eQuestion, Fresh.nil _, ?_⟩
  exact (((Below.refl _ _).alloc (Nat.le_refl _) _).alloc (by simp) _).alloc (by simp; omega) _

set_option maxHeartbeats 800000 in
set_option maxRecDepth 100000 in
theorem toQuestionS_calls (xs : List GQuestion) (v : Value) (w : World) (hr : RdW w (.s xs.length (xs.flatMap eQuestion)) v) (hn : xs.length ≤ 1048576) :
    Calls Tryz.prog 74 #[v] w fun e w' => ∃ v' fp, e = .returned v' ∧ Own w' (.s xs.length (xs.flatMap eQuestion)) v' fp ∧ Fresh w fp ∧ Below w.heap.size w w' := by
  obtain ⟨A, c, rfl, ⟨_, _, hl⟩⟩ := hr.slice
  have HR := Lib.hid hr
  clear hr
  have hn1 : xs.length ≤ 1048576 := by omega
  obtain ⟨cs0, hcs, hmk⟩ := run_make_any (P := Tryz.prog) 49 60 16 2 Tryz.underlying49 ⟨_, _, rfl, rfl, rfl, rfl⟩ xs.length (by omega) (by omega)
  have HCS := Lib.hid hcs
  clear hcs
  go_enter Tryz.func74, Tryz.ntmps74
  go_wp2
  go_loopw [4] (fun a wr => ∃ i : Nat, i ≤ xs.length ∧ a = .int .i64 i ∧ w.heap.size < wr.heap.size ∧ Hid (ToI eQuestion 2 xs w wr i)) (fun a wr => xs.length - (intOf a).toNat)
  case atStart => exact ⟨0, by omega, rfl, by simp, ToI.start HCS.out⟩
  case round =>
    obtain ⟨i, hi, rfl, hgz, HI⟩ := hrel
    by_cases hlt : i < xs.length
    · obtain ⟨x, hx⟩ : ∃ x, xs[i]? = some x := ⟨xs[i], List.getElem?_eq_getElem hlt⟩
      obtain ⟨ad, rfl, hadb, h0, h1⟩ := row_eQuestion (HR.out.below HI.out.below) hx
      have HX := Lib.hid hx
      clear hx
      go_wp2_with fail
      refine (toQuestion_calls _ x _ (mkrd_eQuestion)).mono ?_
      rintro e w1 ⟨us', fp', rfl, ho, hf, hb1⟩
      have HB1 := Lib.hid hb1
      have HO := Lib.hid ho
      have HF := Lib.hid hf
      obtain ⟨rfl, rfl⟩ := own_eQuestion ho
      clear ho hf hb1
      obtain ⟨y0, c0, q0⟩ := HI.out.get HB1.out 0 hlt (by omega)
      obtain ⟨y1, c1, q1⟩ := HI.out.get HB1.out 1 hlt (by omega)
      rw [Nat.add_zero] at c0 q0
      have hgz1 : w.heap.size < w1.heap.size := Nat.lt_of_lt_of_le hgz HB1.out.size
      go_wp2
      go_roundw
      case rel =>
        have hst := HI.out.step HX.out HB1.out len_eQuestion HO.out HF.out
        simp only [putRow, Nat.add_assoc, Nat.reduceAdd] at hst
        exact ⟨i + 1, by omega, by go_num, by simpa [World.setCell] using hgz1, hst⟩
      case measure => simp [intOf]; omega
    · have : i = xs.length := by omega
      subst this
      go_wp2
      go_ret
      obtain ⟨fp, ho, hf, hb⟩ := HI.out.finish hn1
      exact ⟨_, fp, rfl, ho, hf, hb⟩

set_option maxHeartbeats 800000 in
set_option maxRecDepth 100000 in
theorem eqQuestion_calls (us us' : List Value) (x : GQuestion) (w : World) (hr : RdLW w (eQuestion x) us) (hr' : RdLW w (eQuestion x) us') :
    Calls Tryz.prog 109 #[.agg us.toArray, .agg us'.toArray] w fun e w' => e = .returned (.bool true) ∧ Below w.heap.size w w' := by
  obtain rfl := rd_eQuestion hr
  obtain rfl := rd_eQuestion hr'
  clear hr hr'
  go_enter Tryz.func109, Tryz.ntmps109
  go_wp2
  go_ret
  exact ⟨rfl, ((Below.refl _ _).alloc (Nat.le_refl _) _).alloc (by simp) _⟩

set_option maxHeartbeats 800000 in
set_option maxRecDepth 100000 in
theorem eqQuestionS_calls (xs : List GQuestion) (v v' : Value) (w : World) (hr : RdW w (.s xs.length (xs.flatMap eQuestion)) v) (hr' : RdW w (.s xs.length (xs.flatMap eQuestion)) v') :
    Calls Tryz.prog 93 #[v, v'] w fun e w' => e = .returned (.bool true) ∧ Below w.heap.size w w' := by
  obtain ⟨A, c, rfl, ⟨_, _, hl⟩⟩ := hr.slice
  obtain ⟨A', c', rfl, _⟩ := hr'.slice
  have HR := Lib.hid hr
  have HR' := Lib.hid hr'
  clear hr hr'
  go_enter Tryz.func93, Tryz.ntmps93
  go_wp2
  go_loopw [5] (fun a wr => ∃ i : Nat, i ≤ xs.length ∧ a = .int .i64 i ∧ Hid (Below w.heap.size w wr)) (fun a wr => xs.length - (intOf a).toNat)
  case atStart => exact ⟨0, by omega, rfl, Below.refl _ w⟩
  case round =>
    obtain ⟨i, hi, rfl, HB⟩ := hrel
    by_cases hlt : i < xs.length
    · obtain ⟨x, hx⟩ : ∃ x, xs[i]? = some x := ⟨xs[i], List.getElem?_eq_getElem hlt⟩
      obtain ⟨ad, rfl, hadb, h0, h1⟩ := row_eQuestion (HR.out.below HB.out) hx
      obtain ⟨ad', rfl, hadb', h0', h1'⟩ := row_eQuestion (HR'.out.below HB.out) hx
      have HX := Lib.hid hx
      clear hx
      go_wp2
      go_still_tail 8, (by kernel_rfl)
      change wpList _ _ _ _ _ wr.drew
      go_wp2_with fail
      refine (eqQuestion_calls _ _ x _ (mkrd_eQuestion) (mkrd_eQuestion)).mono ?_
      rintro e w1 ⟨rfl, hb1⟩
      have HB1 := Lib.hid hb1
      clear hb1
      go_wp2
      go_roundw
      case rel => exact ⟨i + 1, by omega, by go_num, HB.out.drew.trans (HB1.out.mono HB.out.drew.size)⟩
      case measure => simp [intOf]; omega
    · have : i = xs.length := by omega
      subst this
      go_wp2
      go_ret
      exact ⟨rfl, HB.out⟩

set_option maxHeartbeats 800000 in
set_option maxRecDepth 100000 in
theorem szQuestionS_calls (xs : List GQuestion) (v : Value) (left : Int) (w : World) (hr : RdW w (.s xs.length (xs.flatMap eQuestion)) v) (h0 : 0 ≤ left) (h1 : left ≤ 1048576) :
    Calls Tryz.prog 67 #[v, .int .i64 left] w fun e w' => ∃ r : Int, e = .returned (.int .i64 r) ∧ SzR r left (xs.length + sizL (xs.flatMap eQuestion)) ∧ Below w.heap.size w w' := by
  have hz : sizL (xs.flatMap eQuestion) = 0 := by
    have h2 : ∀ ys : List GQuestion, sizL (ys.flatMap eQuestion) = 0 := fun ys => by
      induction ys with
      | nil => exact sizL_nil
      | cons y ys ih => rw [List.flatMap_cons, sizL_append, ih, siz_eQuestion]
    exact h2 xs
  rw [hz, Nat.add_zero]
  clear hz
  obtain ⟨A, c, rfl, ⟨_, _, hl⟩⟩ := hr.slice
  clear hr
  by_cases hlt : left - xs.length < 0
  · go_enter Tryz.func67, Tryz.ntmps67
    go_wp2
    go_ret
    exact ⟨_, rfl, .inl rfl, Below.refl _ w⟩
  · go_enter Tryz.func67, Tryz.ntmps67
    go_wp2
    go_ret
    exact ⟨_, rfl, .inr ⟨rfl, by omega⟩, Below.refl _ w⟩

set_option maxHeartbeats 800000 in
set_option maxRecDepth 100000 in
theorem toSent_calls (us : List Value) (x : GSent) (w : World) (hr : RdLW w (eSent x) us) (hz : sizL (eSent x) ≤ 1048576) :
    Calls Tryz.prog 45 #[.agg us.toArray] w fun e w' => ∃ us' fp, e = .returned (.agg us'.toArray) ∧ OwnL w' (eSent x) us' fp ∧ Fresh w fp ∧ Below w.heap.size w w' := by
  rw [siz_eSent] at hz
  obtain ⟨v2, rfl, h2⟩ := rd_eSent hr
  clear hr
  have H2 := Lib.hid h2
  clear h2
  go_enter Tryz.func45, Tryz.ntmps45
  go_wp2_with fail
  refine (toValueS_calls _ _ _ (H2.out.below ?hbel1) (by omega)).mono ?_
  case hbel1 => exact ((((Below.refl _ _).alloc (Nat.le_refl _) _).alloc (by simp) _).alloc (by simp; omega) _)
  rintro e w1 ⟨u2, f2, rfl, o2, n2, hb1⟩
  obtain ⟨A2, c2, rfl, _⟩ := o2.slice
  have Z1 := Lib.hid hb1
  have S1 : w.heap.size + 3 ≤ w1.heap.size := by have h := hb1.size; simp only [size_set, size_alloc] at h; omega
  have hz1_0 : w.heap.size < w1.heap.size := by omega
  have hz1_1 : w.heap.size + 1 < w1.heap.size := by omega
  have hz1_2 : w.heap.size + 1 + 1 < w1.heap.size := by omega
  have B1 : Hid (Below w.heap.size w w1) := by
    refine Below.trans ?_ (hb1.mono (by simp only [size_set, size_alloc]; omega))
    exact ((((Below.refl _ _).alloc (Nat.le_refl _) _).alloc (by simp) _).alloc (by simp; omega) _)
  have KA1 : Hid (Blk w1 (w.heap.size) 88 #[.int .i64 x.Target, .string x.Name, v2, .int .i64 x.Result, .int .i64 x.Tag.Vat, .int .i64 x.Tag.Entity, .int .i64 x.Tag.Seq]) := by
    refine Blk.below ?_ hb1
    exact ((Blk.made rfl).alloc _).alloc _
  have KO1 : Hid (Blk w1 (w.heap.size + 1 + 1) 109 #[.int .i64 x.Target, .string x.Name, .slice none 0 0, .int .i64 0, .int .i64 0, .int .i64 0, .int .i64 0]) := by
    refine Blk.below ?_ hb1
    exact Blk.made (by simp)
  have KR1 : Hid (Blk w1 (w.heap.size + 1) 109 #[.int .i64 0, .string ⟨#[]⟩, .slice none 0 0, .int .i64 0, .int .i64 0, .int .i64 0, .int .i64 0]) := by
    refine Blk.below ?_ hb1
    exact (Blk.made (by simp)).alloc _
  obtain ⟨ca1, fa1⟩ := KA1.out.rules
  obtain ⟨co1, fo1⟩ := KO1.out.rules
  obtain ⟨cr1, fr1⟩ := KR1.out.rules
  clear hb1
  go_wp2_with fail
  refine (toTag_calls _ x.Tag _ (mkrd_eTag)).mono ?_
  rintro e w2 ⟨us4, f4, rfl, o4, n4, hb2⟩
  obtain ⟨rfl, rfl⟩ := own_eTag o4
  have Z2 := Lib.hid hb2
  have S2 : w1.heap.size ≤ w2.heap.size := by have h := hb2.size; simp only [size_set, size_alloc] at h; omega
  have hz2_0 : w.heap.size < w2.heap.size := by omega
  have hz2_1 : w.heap.size + 1 < w2.heap.size := by omega
  have hz2_2 : w.heap.size + 1 + 1 < w2.heap.size := by omega
  have B2 : Hid (Below w.heap.size w w2) := by
    refine Below.trans ?_ (hb2.mono (by simp only [size_set, size_alloc]; omega))
    exact ((B1.out.setCell (by dsimp only; omega) _).setCell (by dsimp only; omega) _)
  have KA2 : Hid (Blk w2 (w.heap.size) 88 #[.int .i64 x.Target, .string x.Name, v2, .int .i64 x.Result, .int .i64 x.Tag.Vat, .int .i64 x.Tag.Entity, .int .i64 x.Tag.Seq]) := by
    refine Blk.below ?_ hb2
    exact ((KA1.out.far (by dsimp only; omega) _).far (by dsimp only; omega) _)
  have KO2 : Hid (Blk w2 (w.heap.size + 1 + 1) 109 #[.int .i64 x.Target, .string x.Name, .slice A2 x.Args.length c2, .int .i64 x.Result, .int .i64 0, .int .i64 0, .int .i64 0]) := by
    refine Blk.below ?_ hb2
    exact Blk.eq ((KO1.out.set_ 2 _).set_ 3 _) (by simp)
  have KR2 : Hid (Blk w2 (w.heap.size + 1) 109 #[.int .i64 0, .string ⟨#[]⟩, .slice none 0 0, .int .i64 0, .int .i64 0, .int .i64 0, .int .i64 0]) := by
    refine Blk.below ?_ hb2
    exact ((KR1.out.far (by dsimp only; omega) _).far (by dsimp only; omega) _)
  obtain ⟨ca2, fa2⟩ := KA2.out.rules
  obtain ⟨co2, fo2⟩ := KO2.out.rules
  obtain ⟨cr2, fr2⟩ := KR2.out.rules
  clear hb2
  have O2 := Lib.hid o2
  clear o2
  have N2 := Lib.hid n2
  clear n2
  go_wp2
  refine post_cell (w0 := w2) (fun g => w.heap.size ≤ g ∧ g < w.heap.size + 3) Tryz.results45 (w.heap.size + 1) #[.int .i64 x.Target, .string x.Name, .slice A2 x.Args.length c2, .int .i64 x.Result, .int .i64 x.Tag.Vat, .int .i64 x.Tag.Entity, .int .i64 x.Tag.Seq] _ rfl (Blk.eq ((((((((((KR2.out.far (by dsimp only; omega) _).far (by dsimp only; omega) _).far (by dsimp only; omega) _).set_ 0 _).set_ 1 _).set_ 2 _).set_ 3 _).set_ 4 _).set_ 5 _).set_ 6 _) (by simp)) Tryz.underlying109 rfl (by kernel_rfl) rfl (((((((((((Chg.refl _ _).setCell (.inl (by dsimp only; omega)) _).setCell (.inl (by dsimp only; omega)) _).setCell (.inl (by dsimp only; omega)) _).setCell (.inl (by dsimp only; omega)) _).setCell (.inl (by dsimp only; omega)) _).setCell (.inl (by dsimp only; omega)) _).setCell (.inl (by dsimp only; omega)) _).setCell (.inl (by dsimp only; omega)) _).setCell (.inl (by dsimp only; omega)) _).setCell (.inl (by dsimp only; omega)) _) ?_
  intro W hW
  have F2 : ∀ g, g ∈ f2 → w.heap.size + 2 < g := fun g hg => by have h1 := N2.out.2 g hg; simp only [size_set, size_alloc] at h1; omega
  have P2 := (Own.below (Own.chg O2.out (T := fun g => w.heap.size ≤ g ∧ g < w.heap.size + 3) (((Chg.refl _ _).setCell (.inl (by dsimp only; omega)) _).setCell (.inl (by dsimp only; omega)) _) (fun g hg => by have := F2 g hg; show ¬ (_ ∧ _); omega)) Z2.out)
  refine ⟨_, _, rfl, mkown_eSent (P2.chg hW (fun g hg => by have := F2 g hg; show ¬ (_ ∧ _); omega)), ?_, ?_⟩
  · skip
    have V2 : Fresh w f2 := N2.out.mono (by simp only [size_set, size_alloc]; omega)
    have L2 : ∀ g, g ∈ f2 → g < w1.heap.size := Own.lt _ _ _ O2.out
    exact V2
  · exact below_chg B2.out hW B2.out.size (fun i hi => hi.1)

set_option maxHeartbeats 800000 in
set_option maxRecDepth 100000 in
theorem toSentS_calls (xs : List GSent) (v : Value) (w : World) (hr : RdW w (.s xs.length (xs.flatMap eSent)) v) (hn : xs.length + sizL (xs.flatMap eSent) ≤ 1048576) :
    Calls Tryz.prog 22 #[v] w fun e w' => ∃ v' fp, e = .returned v' ∧ Own w' (.s xs.length (xs.flatMap eSent)) v' fp ∧ Fresh w fp ∧ Below w.heap.size w w' := by
  obtain ⟨A, c, rfl, ⟨_, _, hl⟩⟩ := hr.slice
  have HR := Lib.hid hr
  clear hr
  have hn1 : xs.length ≤ 1048576 := by omega
  obtain ⟨cs0, hcs, hmk⟩ := run_make_any (P := Tryz.prog) 32 109 80 7 Tryz.underlying32 ⟨_, _, rfl, rfl, rfl, rfl⟩ xs.length (by omega) (by omega)
  have HCS := Lib.hid hcs
  clear hcs
  go_enter Tryz.func22, Tryz.ntmps22
  go_wp2
  go_loopw [4] (fun a wr => ∃ i : Nat, i ≤ xs.length ∧ a = .int .i64 i ∧ w.heap.size < wr.heap.size ∧ Hid (ToI eSent 7 xs w wr i)) (fun a wr => xs.length - (intOf a).toNat)
  case atStart => exact ⟨0, by omega, rfl, by simp, ToI.start HCS.out⟩
  case round =>
    obtain ⟨i, hi, rfl, hgz, HI⟩ := hrel
    by_cases hlt : i < xs.length
    · obtain ⟨x, hx⟩ : ∃ x, xs[i]? = some x := ⟨xs[i], List.getElem?_eq_getElem hlt⟩
      obtain ⟨ad, v2, rfl, hadb, h0, h1, h2, h3, h4, h5, h6, k2⟩ := row_eSent (HR.out.below HI.out.below) hx
      have hzx : sizL (eSent x) ≤ 1048576 := by have := sizL_flat_le eSent xs x (List.mem_of_getElem? hx); omega
      have HX := Lib.hid hx
      clear hx
      go_wp2_with fail
      refine (toSent_calls _ x _ (mkrd_eSent k2) hzx).mono ?_
      rintro e w1 ⟨us', fp', rfl, ho, hf, hb1⟩
      have HB1 := Lib.hid hb1
      have HO := Lib.hid ho
      have HF := Lib.hid hf
      obtain ⟨b2, f2, rfl, rfl, o2⟩ := own_eSent ho
      obtain ⟨A2_, c2_, rfl, -⟩ := o2.slice
      clear ho hf hb1 o2
      obtain ⟨y0, c0, q0⟩ := HI.out.get HB1.out 0 hlt (by omega)
      obtain ⟨y1, c1, q1⟩ := HI.out.get HB1.out 1 hlt (by omega)
      obtain ⟨y2, c2, q2⟩ := HI.out.get HB1.out 2 hlt (by omega)
      obtain ⟨y3, c3, q3⟩ := HI.out.get HB1.out 3 hlt (by omega)
      obtain ⟨y4, c4, q4⟩ := HI.out.get HB1.out 4 hlt (by omega)
      obtain ⟨y5, c5, q5⟩ := HI.out.get HB1.out 5 hlt (by omega)
      obtain ⟨y6, c6, q6⟩ := HI.out.get HB1.out 6 hlt (by omega)
      rw [Nat.add_zero] at c0 q0
      have hgz1 : w.heap.size < w1.heap.size := Nat.lt_of_lt_of_le hgz HB1.out.size
      go_wp2
      go_roundw
      case rel =>
        have hst := HI.out.step HX.out HB1.out len_eSent HO.out HF.out
        simp only [putRow, Nat.add_assoc, Nat.reduceAdd] at hst
        exact ⟨i + 1, by omega, by go_num, by simpa [World.setCell] using hgz1, hst⟩
      case measure => simp [intOf]; omega
    · have : i = xs.length := by omega
      subst this
      go_wp2
      go_ret
      obtain ⟨fp, ho, hf, hb⟩ := HI.out.finish hn1
      exact ⟨_, fp, rfl, ho, hf, hb⟩

set_option maxHeartbeats 800000 in
set_option maxRecDepth 100000 in
theorem eqSent_calls (us us' : List Value) (x : GSent) (w : World) (hr : RdLW w (eSent x) us) (hr' : RdLW w (eSent x) us') :
    Calls Tryz.prog 55 #[.agg us.toArray, .agg us'.toArray] w fun e w' => e = .returned (.bool true) ∧ Below w.heap.size w w' := by
  obtain ⟨v2, rfl, h2⟩ := rd_eSent hr
  obtain ⟨v2', rfl, h2'⟩ := rd_eSent hr'
  clear hr hr'
  have H2 := Lib.hid h2
  have H2' := Lib.hid h2'
  clear h2 h2'
  go_enter Tryz.func55, Tryz.ntmps55
  go_wp2_with fail
  refine (eqValueS_calls _ _ _ _ (H2.out.below (((Below.refl _ _).alloc (Nat.le_refl _) _).alloc (by simp) _)) (H2'.out.below (((Below.refl _ _).alloc (Nat.le_refl _) _).alloc (by simp) _))).mono ?_
  rintro e w1 ⟨rfl, hb1⟩
  have hz1_0 : w.heap.size < w1.heap.size := by have := hb1.size; simp at this; omega
  have hz1_1 : w.heap.size + 1 < w1.heap.size := by have := hb1.size; simp at this; omega
  have B1 : Hid (Below w.heap.size w w1) := (((Below.refl _ _).alloc (Nat.le_refl _) _).alloc (by simp) _).trans (hb1.mono (by first | (simp; done) | (simp; omega)))
  obtain ⟨hc1, hf1⟩ := bcell hb1
  clear hb1
  go_wp2_with fail
  refine (eqTag_calls _ _ x.Tag _ (mkrd_eTag) (mkrd_eTag)).mono ?_
  rintro e w2 ⟨rfl, hb2⟩
  have hz2_0 : w.heap.size < w2.heap.size := by have := hb2.size; have := hz1_0; omega
  have hz2_1 : w.heap.size + 1 < w2.heap.size := by have := hb2.size; have := hz1_1; omega
  have B2 : Hid (Below w.heap.size w w2) := B1.out.trans (hb2.mono (by omega))
  obtain ⟨hc2, hf2⟩ := bcell hb2
  clear hb2
  go_wp2
  go_ret
  exact ⟨rfl, B2.out⟩

set_option maxHeartbeats 800000 in
set_option maxRecDepth 100000 in
theorem eqSentS_calls (xs : List GSent) (v v' : Value) (w : World) (hr : RdW w (.s xs.length (xs.flatMap eSent)) v) (hr' : RdW w (.s xs.length (xs.flatMap eSent)) v') :
    Calls Tryz.prog 32 #[v, v'] w fun e w' => e = .returned (.bool true) ∧ Below w.heap.size w w' := by
  obtain ⟨A, c, rfl, ⟨_, _, hl⟩⟩ := hr.slice
  obtain ⟨A', c', rfl, _⟩ := hr'.slice
  have HR := Lib.hid hr
  have HR' := Lib.hid hr'
  clear hr hr'
  go_enter Tryz.func32, Tryz.ntmps32
  go_wp2
  go_loopw [5] (fun a wr => ∃ i : Nat, i ≤ xs.length ∧ a = .int .i64 i ∧ Hid (Below w.heap.size w wr)) (fun a wr => xs.length - (intOf a).toNat)
  case atStart => exact ⟨0, by omega, rfl, Below.refl _ w⟩
  case round =>
    obtain ⟨i, hi, rfl, HB⟩ := hrel
    by_cases hlt : i < xs.length
    · obtain ⟨x, hx⟩ : ∃ x, xs[i]? = some x := ⟨xs[i], List.getElem?_eq_getElem hlt⟩
      obtain ⟨ad, v2, rfl, hadb, h0, h1, h2, h3, h4, h5, h6, k2⟩ := row_eSent (HR.out.below HB.out) hx
      obtain ⟨ad', v2', rfl, hadb', h0', h1', h2', h3', h4', h5', h6', k2'⟩ := row_eSent (HR'.out.below HB.out) hx
      have HX := Lib.hid hx
      clear hx
      go_wp2
      go_still_tail 8, (by kernel_rfl)
      change wpList _ _ _ _ _ wr.drew
      go_wp2_with fail
      refine (eqSent_calls _ _ x _ (mkrd_eSent k2.drew) (mkrd_eSent k2'.drew)).mono ?_
      rintro e w1 ⟨rfl, hb1⟩
      have HB1 := Lib.hid hb1
      clear hb1
      go_wp2
      go_roundw
      case rel => exact ⟨i + 1, by omega, by go_num, HB.out.drew.trans (HB1.out.mono HB.out.drew.size)⟩
      case measure => simp [intOf]; omega
    · have : i = xs.length := by omega
      subst this
      go_wp2
      go_ret
      exact ⟨rfl, HB.out⟩

set_option maxHeartbeats 800000 in
set_option maxRecDepth 100000 in
theorem szSent_calls (us : List Value) (x : GSent) (left : Int) (w : World) (hr : RdLW w (eSent x) us) (hstr : StrOkL (eSent x)) (h0 : 0 ≤ left) (h1 : left ≤ 1048576) :
    Calls Tryz.prog 40 #[.agg us.toArray, .int .i64 left] w fun e w' => ∃ r : Int, e = .returned (.int .i64 r) ∧ SzR r left (sizL (eSent x)) ∧ Below w.heap.size w w' := by
  rw [siz_eSent]
  obtain ⟨v2, rfl, h2⟩ := rd_eSent hr
  clear hr
  have H2 := Lib.hid h2
  clear h2
  have t1 := str_eSent hstr
  clear hstr
  go_enter Tryz.func40, Tryz.ntmps40
  by_cases hl1 : left - x.Name.size < 0
  · go_wp2
    go_ret
    exact ⟨_, rfl, .inl rfl, ((Below.refl _ _).alloc (Nat.le_refl _) _)⟩
  have hm1 : 0 ≤ left - x.Name.size := by omega
  have hM1 : left - x.Name.size ≤ 1048576 := by omega
  go_wp2_with fail
  refine (szValueS_calls _ _ _ _ (H2.out.below ((Below.refl _ _).alloc (Nat.le_refl _) _)) (by omega) (by omega)).mono ?_
  rintro e w1 ⟨r2, rfl, hr2, hb1⟩
  have B1 : Blk w1 w.heap.size 88 #[.int .i64 x.Target, .string x.Name, v2, .int .i64 x.Result, .int .i64 x.Tag.Vat, .int .i64 x.Tag.Entity, .int .i64 x.Tag.Seq] := (Blk.new _ _ _).below hb1
  have D1 : Below w.heap.size w w1 := ((Below.refl _ _).alloc (Nat.le_refl _) _).trans (hb1.mono (by simp only [size_alloc]; omega))
  have HB1 := Lib.hid B1
  have HD1 := Lib.hid D1
  obtain ⟨cb1, fb1⟩ := B1.rules
  clear hb1 B1 D1
  rcases hr2 with rfl | ⟨hr2, hr2_0⟩
  · go_wp2
    go_ret
    exact ⟨_, rfl, .inl rfl, HD1.out⟩
  have hr2_9 : r2 ≤ 1048576 := by omega
  have HR2 := Lib.hid hr2
  clear hr2
  go_wp2
  go_ret
  exact ⟨_, rfl, .inr ⟨by have e2 := HR2.out; omega, by omega⟩, HD1.out⟩

set_option maxHeartbeats 800000 in
set_option maxRecDepth 100000 in
theorem szSentS_calls (xs : List GSent) (v : Value) (left : Int) (w : World) (hr : RdW w (.s xs.length (xs.flatMap eSent)) v) (hstr : StrOkL (xs.flatMap eSent)) (h0 : 0 ≤ left) (h1 : left ≤ 1048576) :
    Calls Tryz.prog 14 #[v, .int .i64 left] w fun e w' => ∃ r : Int, e = .returned (.int .i64 r) ∧ SzR r left (xs.length + sizL (xs.flatMap eSent)) ∧ Below w.heap.size w w' := by
  obtain ⟨A, c, rfl, ⟨_, _, hl⟩⟩ := hr.slice
  have HR := Lib.hid hr
  clear hr
  by_cases hlt : left - xs.length < 0
  · go_enter Tryz.func14, Tryz.ntmps14
    go_wp2
    go_ret
    exact ⟨_, rfl, .inl rfl, Below.refl _ w⟩
  · go_enter Tryz.func14, Tryz.ntmps14
    go_wp2
    go_loopw [1, 5] (fun a b wr => ∃ (i : Nat) (q : Int), i ≤ xs.length ∧ b = .int .i64 i ∧ a = .int .i64 q ∧ 0 ≤ q ∧ q ≤ 1048576 ∧ Hid (q = left - xs.length - sizL ((xs.take i).flatMap eSent)) ∧ Hid (Below w.heap.size w wr)) (fun a b wr => xs.length - (intOf b).toNat)
    case atStart => exact ⟨0, _, by omega, rfl, rfl, by omega, by omega, by simp [sizL_nil, Hid], Below.refl _ w⟩
    case round =>
      obtain ⟨i, q, hi, rfl, rfl, hq0, hq9, HQ, HB⟩ := hrel
      by_cases hlt : i < xs.length
      · obtain ⟨x, hx⟩ : ∃ x, xs[i]? = some x := ⟨xs[i], List.getElem?_eq_getElem hlt⟩
        obtain ⟨ad, v2, rfl, hadb, h0, h1, h2, h3, h4, h5, h6, k2⟩ := row_eSent (HR.out.below HB.out) hx
        have HX := Lib.hid hx
        clear hx
        go_wp2_with fail
        refine (szSent_calls _ x _ _ (mkrd_eSent k2) (StrOkL_mem hstr (List.mem_of_getElem? HX.out)) hq0 hq9).mono ?_
        rintro e w1 ⟨r, rfl, hr, hb1⟩
        have HB1 := Lib.hid hb1
        clear hb1
        have hq := HQ.out
        have hs1 := siz_step eSent xs i x HX.out
        have hs2 := siz_take_le eSent xs (i + 1)
        rcases hr with rfl | ⟨hr, hr0⟩
        · go_wp2
          go_ret
          exact ⟨_, rfl, .inl rfl, HB.out.trans (HB1.out.mono HB.out.size)⟩
        · have hr9 : r ≤ 1048576 := by omega
          have HQ2 : Hid (r = left - xs.length - sizL ((xs.take (i + 1)).flatMap eSent)) := by unfold Hid; omega
          clear hr hs1 hs2 hq
          go_wp2
          go_roundw
          case rel => exact ⟨i + 1, r, by omega, by go_num, rfl, hr0, hr9, HQ2, HB.out.trans (HB1.out.mono HB.out.size)⟩
          case measure => simp [intOf]; omega
      · have : i = xs.length := by omega
        subst this
        have hq := HQ.out
        rw [List.take_length] at hq
        have HQ2 := Lib.hid hq
        clear hq
        go_wp2
        go_ret
        exact ⟨_, rfl, .inr ⟨by have := HQ2.out; omega, hq0⟩, HB.out⟩

set_option maxHeartbeats 800000 in
set_option maxRecDepth 100000 in
theorem toEntity_calls (us : List Value) (x : GEntity) (w : World) (hr : RdLW w (eEntity x) us) (hz : sizL (eEntity x) ≤ 1048576) :
    Calls Tryz.prog 44 #[.agg us.toArray] w fun e w' => ∃ us' fp, e = .returned (.agg us'.toArray) ∧ OwnL w' (eEntity x) us' fp ∧ Fresh w fp ∧ Below w.heap.size w w' := by
  rw [siz_eEntity] at hz
  obtain ⟨v2, v6, v7, rfl, h2, h6, h7⟩ := rd_eEntity hr
  clear hr
  have H2 := Lib.hid h2
  clear h2
  have H6 := Lib.hid h6
  clear h6
  have H7 := Lib.hid h7
  clear h7
  go_enter Tryz.func44, Tryz.ntmps44
  go_wp2_with fail
  refine (toValueS_calls _ _ _ (H2.out.below ?hbel1) (by omega)).mono ?_
  case hbel1 => exact ((((Below.refl _ _).alloc (Nat.le_refl _) _).alloc (by simp) _).alloc (by simp; omega) _)
  rintro e w1 ⟨u2, f2, rfl, o2, n2, hb1⟩
  obtain ⟨A2, c2, rfl, _⟩ := o2.slice
  have Z1 := Lib.hid hb1
  have S1 : w.heap.size + 3 ≤ w1.heap.size := by have h := hb1.size; simp only [size_set, size_alloc] at h; omega
  have hz1_0 : w.heap.size < w1.heap.size := by omega
  have hz1_1 : w.heap.size + 1 < w1.heap.size := by omega
  have hz1_2 : w.heap.size + 1 + 1 < w1.heap.size := by omega
  have B1 : Hid (Below w.heap.size w w1) := by
    refine Below.trans ?_ (hb1.mono (by simp only [size_set, size_alloc]; omega))
    exact ((((Below.refl _ _).alloc (Nat.le_refl _) _).alloc (by simp) _).alloc (by simp; omega) _)
  have KA1 : Hid (Blk w1 (w.heap.size) 83 #[.int .i64 x.Kind, .int .i64 x.Script, v2, .int .i64 x.State, .int .i64 x.Value.Kind, .int .i64 x.Value.N, v6, v7, .int .i64 x.Peer, .int .i64 x.Pos, .int .i64 x.Count, .int .i64 x.Sent]) := by
    refine Blk.below ?_ hb1
    exact ((Blk.made rfl).alloc _).alloc _
  have KO1 : Hid (Blk w1 (w.heap.size + 1 + 1) 104 #[.int .i64 x.Kind, .int .i64 x.Script, .slice none 0 0, .int .i64 0, .int .i64 0, .int .i64 0, .slice none 0 0, .slice none 0 0, .int .i64 0, .int .i64 0, .int .i64 0, .int .i64 0]) := by
    refine Blk.below ?_ hb1
    exact Blk.made (by simp)
  have KR1 : Hid (Blk w1 (w.heap.size + 1) 104 #[.int .i64 0, .int .i64 0, .slice none 0 0, .int .i64 0, .int .i64 0, .int .i64 0, .slice none 0 0, .slice none 0 0, .int .i64 0, .int .i64 0, .int .i64 0, .int .i64 0]) := by
    refine Blk.below ?_ hb1
    exact (Blk.made (by simp)).alloc _
  obtain ⟨ca1, fa1⟩ := KA1.out.rules
  obtain ⟨co1, fo1⟩ := KO1.out.rules
  obtain ⟨cr1, fr1⟩ := KR1.out.rules
  clear hb1
  go_wp2_with fail
  refine (toValue_calls _ x.Value _ (mkrd_eValue)).mono ?_
  rintro e w2 ⟨us4, f4, rfl, o4, n4, hb2⟩
  obtain ⟨rfl, rfl⟩ := own_eValue o4
  have Z2 := Lib.hid hb2
  have S2 : w1.heap.size ≤ w2.heap.size := by have h := hb2.size; simp only [size_set, size_alloc] at h; omega
  have hz2_0 : w.heap.size < w2.heap.size := by omega
  have hz2_1 : w.heap.size + 1 < w2.heap.size := by omega
  have hz2_2 : w.heap.size + 1 + 1 < w2.heap.size := by omega
  have B2 : Hid (Below w.heap.size w w2) := by
    refine Below.trans ?_ (hb2.mono (by simp only [size_set, size_alloc]; omega))
    exact ((B1.out.setCell (by dsimp only; omega) _).setCell (by dsimp only; omega) _)
  have KA2 : Hid (Blk w2 (w.heap.size) 83 #[.int .i64 x.Kind, .int .i64 x.Script, v2, .int .i64 x.State, .int .i64 x.Value.Kind, .int .i64 x.Value.N, v6, v7, .int .i64 x.Peer, .int .i64 x.Pos, .int .i64 x.Count, .int .i64 x.Sent]) := by
    refine Blk.below ?_ hb2
    exact ((KA1.out.far (by dsimp only; omega) _).far (by dsimp only; omega) _)
  have KO2 : Hid (Blk w2 (w.heap.size + 1 + 1) 104 #[.int .i64 x.Kind, .int .i64 x.Script, .slice A2 x.Slots.length c2, .int .i64 x.State, .int .i64 0, .int .i64 0, .slice none 0 0, .slice none 0 0, .int .i64 0, .int .i64 0, .int .i64 0, .int .i64 0]) := by
    refine Blk.below ?_ hb2
    exact Blk.eq ((KO1.out.set_ 2 _).set_ 3 _) (by simp)
  have KR2 : Hid (Blk w2 (w.heap.size + 1) 104 #[.int .i64 0, .int .i64 0, .slice none 0 0, .int .i64 0, .int .i64 0, .int .i64 0, .slice none 0 0, .slice none 0 0, .int .i64 0, .int .i64 0, .int .i64 0, .int .i64 0]) := by
    refine Blk.below ?_ hb2
    exact ((KR1.out.far (by dsimp only; omega) _).far (by dsimp only; omega) _)
  obtain ⟨ca2, fa2⟩ := KA2.out.rules
  obtain ⟨co2, fo2⟩ := KO2.out.rules
  obtain ⟨cr2, fr2⟩ := KR2.out.rules
  clear hb2
  go_wp2_with fail
  refine (toSentS_calls _ _ _ (H6.out.below ?hbel3) (by omega)).mono ?_
  case hbel3 => exact ((B2.out.setCell (by dsimp only; omega) _).setCell (by dsimp only; omega) _)
  rintro e w3 ⟨u6, f6, rfl, o6, n6, hb3⟩
  obtain ⟨A6, c6, rfl, _⟩ := o6.slice
  have Z3 := Lib.hid hb3
  have S3 : w2.heap.size ≤ w3.heap.size := by have h := hb3.size; simp only [size_set, size_alloc] at h; omega
  have hz3_0 : w.heap.size < w3.heap.size := by omega
  have hz3_1 : w.heap.size + 1 < w3.heap.size := by omega
  have hz3_2 : w.heap.size + 1 + 1 < w3.heap.size := by omega
  have B3 : Hid (Below w.heap.size w w3) := by
    refine Below.trans ?_ (hb3.mono (by simp only [size_set, size_alloc]; omega))
    exact ((B2.out.setCell (by dsimp only; omega) _).setCell (by dsimp only; omega) _)
  have KA3 : Hid (Blk w3 (w.heap.size) 83 #[.int .i64 x.Kind, .int .i64 x.Script, v2, .int .i64 x.State, .int .i64 x.Value.Kind, .int .i64 x.Value.N, v6, v7, .int .i64 x.Peer, .int .i64 x.Pos, .int .i64 x.Count, .int .i64 x.Sent]) := by
    refine Blk.below ?_ hb3
    exact ((KA2.out.far (by dsimp only; omega) _).far (by dsimp only; omega) _)
  have KO3 : Hid (Blk w3 (w.heap.size + 1 + 1) 104 #[.int .i64 x.Kind, .int .i64 x.Script, .slice A2 x.Slots.length c2, .int .i64 x.State, .int .i64 x.Value.Kind, .int .i64 x.Value.N, .slice none 0 0, .slice none 0 0, .int .i64 0, .int .i64 0, .int .i64 0, .int .i64 0]) := by
    refine Blk.below ?_ hb3
    exact Blk.eq ((KO2.out.set_ 4 _).set_ 5 _) (by simp)
  have KR3 : Hid (Blk w3 (w.heap.size + 1) 104 #[.int .i64 0, .int .i64 0, .slice none 0 0, .int .i64 0, .int .i64 0, .int .i64 0, .slice none 0 0, .slice none 0 0, .int .i64 0, .int .i64 0, .int .i64 0, .int .i64 0]) := by
    refine Blk.below ?_ hb3
    exact ((KR2.out.far (by dsimp only; omega) _).far (by dsimp only; omega) _)
  obtain ⟨ca3, fa3⟩ := KA3.out.rules
  obtain ⟨co3, fo3⟩ := KO3.out.rules
  obtain ⟨cr3, fr3⟩ := KR3.out.rules
  clear hb3
  go_wp2_with fail
  refine (toAskerS_calls _ _ _ (H7.out.below ?hbel4) (by omega)).mono ?_
  case hbel4 => exact (B3.out.setCell (by dsimp only; omega) _)
  rintro e w4 ⟨u7, f7, rfl, o7, n7, hb4⟩
  obtain ⟨A7, c7, rfl, _⟩ := o7.slice
  have Z4 := Lib.hid hb4
  have S4 : w3.heap.size ≤ w4.heap.size := by have h := hb4.size; simp only [size_set, size_alloc] at h; omega
  have hz4_0 : w.heap.size < w4.heap.size := by omega
  have hz4_1 : w.heap.size + 1 < w4.heap.size := by omega
  have hz4_2 : w.heap.size + 1 + 1 < w4.heap.size := by omega
  have B4 : Hid (Below w.heap.size w w4) := by
    refine Below.trans ?_ (hb4.mono (by simp only [size_set, size_alloc]; omega))
    exact (B3.out.setCell (by dsimp only; omega) _)
  have KA4 : Hid (Blk w4 (w.heap.size) 83 #[.int .i64 x.Kind, .int .i64 x.Script, v2, .int .i64 x.State, .int .i64 x.Value.Kind, .int .i64 x.Value.N, v6, v7, .int .i64 x.Peer, .int .i64 x.Pos, .int .i64 x.Count, .int .i64 x.Sent]) := by
    refine Blk.below ?_ hb4
    exact (KA3.out.far (by dsimp only; omega) _)
  have KO4 : Hid (Blk w4 (w.heap.size + 1 + 1) 104 #[.int .i64 x.Kind, .int .i64 x.Script, .slice A2 x.Slots.length c2, .int .i64 x.State, .int .i64 x.Value.Kind, .int .i64 x.Value.N, .slice A6 x.Queue.length c6, .slice none 0 0, .int .i64 0, .int .i64 0, .int .i64 0, .int .i64 0]) := by
    refine Blk.below ?_ hb4
    exact Blk.eq (KO3.out.set_ 6 _) (by simp)
  have KR4 : Hid (Blk w4 (w.heap.size + 1) 104 #[.int .i64 0, .int .i64 0, .slice none 0 0, .int .i64 0, .int .i64 0, .int .i64 0, .slice none 0 0, .slice none 0 0, .int .i64 0, .int .i64 0, .int .i64 0, .int .i64 0]) := by
    refine Blk.below ?_ hb4
    exact (KR3.out.far (by dsimp only; omega) _)
  obtain ⟨ca4, fa4⟩ := KA4.out.rules
  obtain ⟨co4, fo4⟩ := KO4.out.rules
  obtain ⟨cr4, fr4⟩ := KR4.out.rules
  clear hb4
  have O2 := Lib.hid o2
  clear o2
  have O6 := Lib.hid o6
  clear o6
  have O7 := Lib.hid o7
  clear o7
  have N2 := Lib.hid n2
  clear n2
  have N6 := Lib.hid n6
  clear n6
  have N7 := Lib.hid n7
  clear n7
  go_wp2
  refine post_cell (w0 := w4) (fun g => w.heap.size ≤ g ∧ g < w.heap.size + 3) Tryz.results44 (w.heap.size + 1) #[.int .i64 x.Kind, .int .i64 x.Script, .slice A2 x.Slots.length c2, .int .i64 x.State, .int .i64 x.Value.Kind, .int .i64 x.Value.N, .slice A6 x.Queue.length c6, .slice A7 x.Askers.length c7, .int .i64 x.Peer, .int .i64 x.Pos, .int .i64 x.Count, .int .i64 x.Sent] _ rfl (Blk.eq (((((((((((((((((KR4.out.far (by dsimp only; omega) _).far (by dsimp only; omega) _).far (by dsimp only; omega) _).far (by dsimp only; omega) _).far (by dsimp only; omega) _).set_ 0 _).set_ 1 _).set_ 2 _).set_ 3 _).set_ 4 _).set_ 5 _).set_ 6 _).set_ 7 _).set_ 8 _).set_ 9 _).set_ 10 _).set_ 11 _) (by simp)) Tryz.underlying104 rfl (by kernel_rfl) rfl ((((((((((((((((((Chg.refl _ _).setCell (.inl (by dsimp only; omega)) _).setCell (.inl (by dsimp only; omega)) _).setCell (.inl (by dsimp only; omega)) _).setCell (.inl (by dsimp only; omega)) _).setCell (.inl (by dsimp only; omega)) _).setCell (.inl (by dsimp only; omega)) _).setCell (.inl (by dsimp only; omega)) _).setCell (.inl (by dsimp only; omega)) _).setCell (.inl (by dsimp only; omega)) _).setCell (.inl (by dsimp only; omega)) _).setCell (.inl (by dsimp only; omega)) _).setCell (.inl (by dsimp only; omega)) _).setCell (.inl (by dsimp only; omega)) _).setCell (.inl (by dsimp only; omega)) _).setCell (.inl (by dsimp only; omega)) _).setCell (.inl (by dsimp only; omega)) _).setCell (.inl (by dsimp only; omega)) _) ?_
  intro W hW
  have F2 : ∀ g, g ∈ f2 → w.heap.size + 2 < g := fun g hg => by have h1 := N2.out.2 g hg; simp only [size_set, size_alloc] at h1; omega
  have P2 := (Own.below (Own.chg (Own.below (Own.chg (Own.below (Own.chg O2.out (T := fun g => w.heap.size ≤ g ∧ g < w.heap.size + 3) (((Chg.refl _ _).setCell (.inl (by dsimp only; omega)) _).setCell (.inl (by dsimp only; omega)) _) (fun g hg => by have := F2 g hg; show ¬ (_ ∧ _); omega)) Z2.out) (T := fun g => w.heap.size ≤ g ∧ g < w.heap.size + 3) (((Chg.refl _ _).setCell (.inl (by dsimp only; omega)) _).setCell (.inl (by dsimp only; omega)) _) (fun g hg => by have := F2 g hg; show ¬ (_ ∧ _); omega)) Z3.out) (T := fun g => w.heap.size ≤ g ∧ g < w.heap.size + 3) ((Chg.refl _ _).setCell (.inl (by dsimp only; omega)) _) (fun g hg => by have := F2 g hg; show ¬ (_ ∧ _); omega)) Z4.out)
  have F6 : ∀ g, g ∈ f6 → w.heap.size + 2 < g := fun g hg => by have h1 := N6.out.2 g hg; simp only [size_set, size_alloc] at h1; omega
  have P6 := (Own.below (Own.chg O6.out (T := fun g => w.heap.size ≤ g ∧ g < w.heap.size + 3) ((Chg.refl _ _).setCell (.inl (by dsimp only; omega)) _) (fun g hg => by have := F6 g hg; show ¬ (_ ∧ _); omega)) Z4.out)
  have F7 : ∀ g, g ∈ f7 → w.heap.size + 2 < g := fun g hg => by have h1 := N7.out.2 g hg; simp only [size_set, size_alloc] at h1; omega
  have P7 := O7.out
  refine ⟨_, _, rfl, mkown_eEntity (P2.chg hW (fun g hg => by have := F2 g hg; show ¬ (_ ∧ _); omega)) (P6.chg hW (fun g hg => by have := F6 g hg; show ¬ (_ ∧ _); omega)) (P7.chg hW (fun g hg => by have := F7 g hg; show ¬ (_ ∧ _); omega)), ?_, ?_⟩
  · skip
    have V2 : Fresh w f2 := N2.out.mono (by simp only [size_set, size_alloc]; omega)
    have L2 : ∀ g, g ∈ f2 → g < w1.heap.size := Own.lt _ _ _ O2.out
    have V6 : Fresh w1 f6 := N6.out.mono (by simp only [size_set, size_alloc]; omega)
    have L6 : ∀ g, g ∈ f6 → g < w3.heap.size := Own.lt _ _ _ O6.out
    have V7 : Fresh w3 f7 := N7.out.mono (by simp only [size_set, size_alloc]; omega)
    have L7 : ∀ g, g ∈ f7 → g < w4.heap.size := Own.lt _ _ _ O7.out
    exact (V2.put L2 (V6.put L6 V7 (by omega)) (by omega))
  · exact below_chg B4.out hW B4.out.size (fun i hi => hi.1)

set_option maxHeartbeats 800000 in
set_option maxRecDepth 100000 in
theorem toEntityS_calls (xs : List GEntity) (v : Value) (w : World) (hr : RdW w (.s xs.length (xs.flatMap eEntity)) v) (hn : xs.length + sizL (xs.flatMap eEntity) ≤ 1048576) :
    Calls Tryz.prog 21 #[v] w fun e w' => ∃ v' fp, e = .returned v' ∧ Own w' (.s xs.length (xs.flatMap eEntity)) v' fp ∧ Fresh w fp ∧ Below w.heap.size w w' := by
  obtain ⟨A, c, rfl, ⟨_, _, hl⟩⟩ := hr.slice
  have HR := Lib.hid hr
  clear hr
  have hn1 : xs.length ≤ 1048576 := by omega
  obtain ⟨cs0, hcs, hmk⟩ := run_make_any (P := Tryz.prog) 31 104 144 12 Tryz.underlying31 ⟨_, _, rfl, rfl, rfl, rfl⟩ xs.length (by omega) (by omega)
  have HCS := Lib.hid hcs
  clear hcs
  go_enter Tryz.func21, Tryz.ntmps21
  go_wp2
  go_loopw [4] (fun a wr => ∃ i : Nat, i ≤ xs.length ∧ a = .int .i64 i ∧ w.heap.size < wr.heap.size ∧ Hid (ToI eEntity 12 xs w wr i)) (fun a wr => xs.length - (intOf a).toNat)
  case atStart => exact ⟨0, by omega, rfl, by simp, ToI.start HCS.out⟩
  case round =>
    obtain ⟨i, hi, rfl, hgz, HI⟩ := hrel
    by_cases hlt : i < xs.length
    · obtain ⟨x, hx⟩ : ∃ x, xs[i]? = some x := ⟨xs[i], List.getElem?_eq_getElem hlt⟩
      obtain ⟨ad, v2, v6, v7, rfl, hadb, h0, h1, h2, h3, h4, h5, h6, h7, h8, h9, h10, h11, k2, k6, k7⟩ := row_eEntity (HR.out.below HI.out.below) hx
      have hzx : sizL (eEntity x) ≤ 1048576 := by have := sizL_flat_le eEntity xs x (List.mem_of_getElem? hx); omega
      have HX := Lib.hid hx
      clear hx
      go_wp2_with fail
      refine (toEntity_calls _ x _ (mkrd_eEntity k2 k6 k7) hzx).mono ?_
      rintro e w1 ⟨us', fp', rfl, ho, hf, hb1⟩
      have HB1 := Lib.hid hb1
      have HO := Lib.hid ho
      have HF := Lib.hid hf
      obtain ⟨b2, f2, b6, f6, b7, f7, rfl, rfl, o2, o6, o7⟩ := own_eEntity ho
      obtain ⟨A2_, c2_, rfl, -⟩ := o2.slice
      obtain ⟨A6_, c6_, rfl, -⟩ := o6.slice
      obtain ⟨A7_, c7_, rfl, -⟩ := o7.slice
      clear ho hf hb1 o2 o6 o7
      obtain ⟨y0, c0, q0⟩ := HI.out.get HB1.out 0 hlt (by omega)
      obtain ⟨y1, c1, q1⟩ := HI.out.get HB1.out 1 hlt (by omega)
      obtain ⟨y2, c2, q2⟩ := HI.out.get HB1.out 2 hlt (by omega)
      obtain ⟨y3, c3, q3⟩ := HI.out.get HB1.out 3 hlt (by omega)
      obtain ⟨y4, c4, q4⟩ := HI.out.get HB1.out 4 hlt (by omega)
      obtain ⟨y5, c5, q5⟩ := HI.out.get HB1.out 5 hlt (by omega)
      obtain ⟨y6, c6, q6⟩ := HI.out.get HB1.out 6 hlt (by omega)
      obtain ⟨y7, c7, q7⟩ := HI.out.get HB1.out 7 hlt (by omega)
      obtain ⟨y8, c8, q8⟩ := HI.out.get HB1.out 8 hlt (by omega)
      obtain ⟨y9, c9, q9⟩ := HI.out.get HB1.out 9 hlt (by omega)
      obtain ⟨y10, c10, q10⟩ := HI.out.get HB1.out 10 hlt (by omega)
      obtain ⟨y11, c11, q11⟩ := HI.out.get HB1.out 11 hlt (by omega)
      rw [Nat.add_zero] at c0 q0
      have hgz1 : w.heap.size < w1.heap.size := Nat.lt_of_lt_of_le hgz HB1.out.size
      go_wp2
      go_roundw
      case rel =>
        have hst := HI.out.step HX.out HB1.out len_eEntity HO.out HF.out
        simp only [putRow, Nat.add_assoc, Nat.reduceAdd] at hst
        exact ⟨i + 1, by omega, by go_num, by simpa [World.setCell] using hgz1, hst⟩
      case measure => simp [intOf]; omega
    · have : i = xs.length := by omega
      subst this
      go_wp2
      go_ret
      obtain ⟨fp, ho, hf, hb⟩ := HI.out.finish hn1
      exact ⟨_, fp, rfl, ho, hf, hb⟩

set_option maxHeartbeats 800000 in
set_option maxRecDepth 100000 in
theorem eqEntity_calls (us us' : List Value) (x : GEntity) (w : World) (hr : RdLW w (eEntity x) us) (hr' : RdLW w (eEntity x) us') :
    Calls Tryz.prog 54 #[.agg us.toArray, .agg us'.toArray] w fun e w' => e = .returned (.bool true) ∧ Below w.heap.size w w' := by
  obtain ⟨v2, v6, v7, rfl, h2, h6, h7⟩ := rd_eEntity hr
  obtain ⟨v2', v6', v7', rfl, h2', h6', h7'⟩ := rd_eEntity hr'
  clear hr hr'
  have H2 := Lib.hid h2
  have H2' := Lib.hid h2'
  clear h2 h2'
  have H6 := Lib.hid h6
  have H6' := Lib.hid h6'
  clear h6 h6'
  have H7 := Lib.hid h7
  have H7' := Lib.hid h7'
  clear h7 h7'
  go_enter Tryz.func54, Tryz.ntmps54
  go_wp2_with fail
  refine (eqValueS_calls _ _ _ _ (H2.out.below (((Below.refl _ _).alloc (Nat.le_refl _) _).alloc (by simp) _)) (H2'.out.below (((Below.refl _ _).alloc (Nat.le_refl _) _).alloc (by simp) _))).mono ?_
  rintro e w1 ⟨rfl, hb1⟩
  have hz1_0 : w.heap.size < w1.heap.size := by have := hb1.size; simp at this; omega
  have hz1_1 : w.heap.size + 1 < w1.heap.size := by have := hb1.size; simp at this; omega
  have B1 : Hid (Below w.heap.size w w1) := (((Below.refl _ _).alloc (Nat.le_refl _) _).alloc (by simp) _).trans (hb1.mono (by first | (simp; done) | (simp; omega)))
  obtain ⟨hc1, hf1⟩ := bcell hb1
  clear hb1
  go_wp2_with fail
  refine (eqValue_calls _ _ x.Value _ (mkrd_eValue) (mkrd_eValue)).mono ?_
  rintro e w2 ⟨rfl, hb2⟩
  have hz2_0 : w.heap.size < w2.heap.size := by have := hb2.size; have := hz1_0; omega
  have hz2_1 : w.heap.size + 1 < w2.heap.size := by have := hb2.size; have := hz1_1; omega
  have B2 : Hid (Below w.heap.size w w2) := B1.out.trans (hb2.mono (by omega))
  obtain ⟨hc2, hf2⟩ := bcell hb2
  clear hb2
  go_wp2_with fail
  refine (eqSentS_calls _ _ _ _ (H6.out.below B2.out) (H6'.out.below B2.out)).mono ?_
  rintro e w3 ⟨rfl, hb3⟩
  have hz3_0 : w.heap.size < w3.heap.size := by have := hb3.size; have := hz2_0; omega
  have hz3_1 : w.heap.size + 1 < w3.heap.size := by have := hb3.size; have := hz2_1; omega
  have B3 : Hid (Below w.heap.size w w3) := B2.out.trans (hb3.mono (by omega))
  obtain ⟨hc3, hf3⟩ := bcell hb3
  clear hb3
  go_wp2_with fail
  refine (eqAskerS_calls _ _ _ _ (H7.out.below B3.out) (H7'.out.below B3.out)).mono ?_
  rintro e w4 ⟨rfl, hb4⟩
  have hz4_0 : w.heap.size < w4.heap.size := by have := hb4.size; have := hz3_0; omega
  have hz4_1 : w.heap.size + 1 < w4.heap.size := by have := hb4.size; have := hz3_1; omega
  have B4 : Hid (Below w.heap.size w w4) := B3.out.trans (hb4.mono (by omega))
  obtain ⟨hc4, hf4⟩ := bcell hb4
  clear hb4
  go_wp2
  go_ret
  exact ⟨rfl, B4.out⟩

set_option maxHeartbeats 800000 in
set_option maxRecDepth 100000 in
theorem eqEntityS_calls (xs : List GEntity) (v v' : Value) (w : World) (hr : RdW w (.s xs.length (xs.flatMap eEntity)) v) (hr' : RdW w (.s xs.length (xs.flatMap eEntity)) v') :
    Calls Tryz.prog 31 #[v, v'] w fun e w' => e = .returned (.bool true) ∧ Below w.heap.size w w' := by
  obtain ⟨A, c, rfl, ⟨_, _, hl⟩⟩ := hr.slice
  obtain ⟨A', c', rfl, _⟩ := hr'.slice
  have HR := Lib.hid hr
  have HR' := Lib.hid hr'
  clear hr hr'
  go_enter Tryz.func31, Tryz.ntmps31
  go_wp2
  go_loopw [5] (fun a wr => ∃ i : Nat, i ≤ xs.length ∧ a = .int .i64 i ∧ Hid (Below w.heap.size w wr)) (fun a wr => xs.length - (intOf a).toNat)
  case atStart => exact ⟨0, by omega, rfl, Below.refl _ w⟩
  case round =>
    obtain ⟨i, hi, rfl, HB⟩ := hrel
    by_cases hlt : i < xs.length
    · obtain ⟨x, hx⟩ : ∃ x, xs[i]? = some x := ⟨xs[i], List.getElem?_eq_getElem hlt⟩
      obtain ⟨ad, v2, v6, v7, rfl, hadb, h0, h1, h2, h3, h4, h5, h6, h7, h8, h9, h10, h11, k2, k6, k7⟩ := row_eEntity (HR.out.below HB.out) hx
      obtain ⟨ad', v2', v6', v7', rfl, hadb', h0', h1', h2', h3', h4', h5', h6', h7', h8', h9', h10', h11', k2', k6', k7'⟩ := row_eEntity (HR'.out.below HB.out) hx
      have HX := Lib.hid hx
      clear hx
      go_wp2
      go_still_tail 8, (by kernel_rfl)
      change wpList _ _ _ _ _ wr.drew
      go_wp2_with fail
      refine (eqEntity_calls _ _ x _ (mkrd_eEntity k2.drew k6.drew k7.drew) (mkrd_eEntity k2'.drew k6'.drew k7'.drew)).mono ?_
      rintro e w1 ⟨rfl, hb1⟩
      have HB1 := Lib.hid hb1
      clear hb1
      go_wp2
      go_roundw
      case rel => exact ⟨i + 1, by omega, by go_num, HB.out.drew.trans (HB1.out.mono HB.out.drew.size)⟩
      case measure => simp [intOf]; omega
    · have : i = xs.length := by omega
      subst this
      go_wp2
      go_ret
      exact ⟨rfl, HB.out⟩

set_option maxHeartbeats 800000 in
set_option maxRecDepth 100000 in
theorem szEntity_calls (us : List Value) (x : GEntity) (left : Int) (w : World) (hr : RdLW w (eEntity x) us) (hstr : StrOkL (eEntity x)) (h0 : 0 ≤ left) (h1 : left ≤ 1048576) :
    Calls Tryz.prog 39 #[.agg us.toArray, .int .i64 left] w fun e w' => ∃ r : Int, e = .returned (.int .i64 r) ∧ SzR r left (sizL (eEntity x)) ∧ Below w.heap.size w w' := by
  rw [siz_eEntity]
  obtain ⟨v2, v6, v7, rfl, h2, h6, h7⟩ := rd_eEntity hr
  clear hr
  have H2 := Lib.hid h2
  clear h2
  have H6 := Lib.hid h6
  clear h6
  have H7 := Lib.hid h7
  clear h7
  have t6 := str_eEntity hstr
  have HT6 := Lib.hid t6
  clear t6
  clear hstr
  go_enter Tryz.func39, Tryz.ntmps39
  go_wp2_with fail
  refine (szValueS_calls _ _ _ _ (H2.out.below ((Below.refl _ _).alloc (Nat.le_refl _) _)) (by omega) (by omega)).mono ?_
  rintro e w1 ⟨r2, rfl, hr2, hb1⟩
  have B1 : Blk w1 w.heap.size 83 #[.int .i64 x.Kind, .int .i64 x.Script, v2, .int .i64 x.State, .int .i64 x.Value.Kind, .int .i64 x.Value.N, v6, v7, .int .i64 x.Peer, .int .i64 x.Pos, .int .i64 x.Count, .int .i64 x.Sent] := (Blk.new _ _ _).below hb1
  have D1 : Below w.heap.size w w1 := ((Below.refl _ _).alloc (Nat.le_refl _) _).trans (hb1.mono (by simp only [size_alloc]; omega))
  have HB1 := Lib.hid B1
  have HD1 := Lib.hid D1
  obtain ⟨cb1, fb1⟩ := B1.rules
  clear hb1 B1 D1
  rcases hr2 with rfl | ⟨hr2, hr2_0⟩
  · go_wp2
    go_ret
    exact ⟨_, rfl, .inl rfl, HD1.out⟩
  have hr2_9 : r2 ≤ 1048576 := by omega
  have HR2 := Lib.hid hr2
  clear hr2
  go_wp2_with fail
  refine (szSentS_calls _ _ _ _ (H6.out.below HD1.out) HT6.out (by omega) (by omega)).mono ?_
  rintro e w2 ⟨r6, rfl, hr6, hb2⟩
  have B2 : Blk w2 w.heap.size 83 #[.int .i64 x.Kind, .int .i64 x.Script, v2, .int .i64 x.State, .int .i64 x.Value.Kind, .int .i64 x.Value.N, v6, v7, .int .i64 x.Peer, .int .i64 x.Pos, .int .i64 x.Count, .int .i64 x.Sent] := HB1.out.below hb2
  have D2 : Below w.heap.size w w2 := HD1.out.trans (hb2.mono HD1.out.size)
  have HB2 := Lib.hid B2
  have HD2 := Lib.hid D2
  obtain ⟨cb2, fb2⟩ := B2.rules
  clear hb2 B2 D2
  rcases hr6 with rfl | ⟨hr6, hr6_0⟩
  · go_wp2
    go_ret
    exact ⟨_, rfl, .inl rfl, HD2.out⟩
  have hr6_9 : r6 ≤ 1048576 := by omega
  have HR6 := Lib.hid hr6
  clear hr6
  go_wp2_with fail
  refine (szAskerS_calls _ _ _ _ (H7.out.below HD2.out) (by omega) (by omega)).mono ?_
  rintro e w3 ⟨r7, rfl, hr7, hb3⟩
  have B3 : Blk w3 w.heap.size 83 #[.int .i64 x.Kind, .int .i64 x.Script, v2, .int .i64 x.State, .int .i64 x.Value.Kind, .int .i64 x.Value.N, v6, v7, .int .i64 x.Peer, .int .i64 x.Pos, .int .i64 x.Count, .int .i64 x.Sent] := HB2.out.below hb3
  have D3 : Below w.heap.size w w3 := HD2.out.trans (hb3.mono HD2.out.size)
  have HB3 := Lib.hid B3
  have HD3 := Lib.hid D3
  obtain ⟨cb3, fb3⟩ := B3.rules
  clear hb3 B3 D3
  rcases hr7 with rfl | ⟨hr7, hr7_0⟩
  · go_wp2
    go_ret
    exact ⟨_, rfl, .inl rfl, HD3.out⟩
  have hr7_9 : r7 ≤ 1048576 := by omega
  have HR7 := Lib.hid hr7
  clear hr7
  go_wp2
  go_ret
  exact ⟨_, rfl, .inr ⟨by have e2 := HR2.out; have e6 := HR6.out; have e7 := HR7.out; omega, by omega⟩, HD3.out⟩

set_option maxHeartbeats 800000 in
set_option maxRecDepth 100000 in
theorem szEntityS_calls (xs : List GEntity) (v : Value) (left : Int) (w : World) (hr : RdW w (.s xs.length (xs.flatMap eEntity)) v) (hstr : StrOkL (xs.flatMap eEntity)) (h0 : 0 ≤ left) (h1 : left ≤ 1048576) :
    Calls Tryz.prog 13 #[v, .int .i64 left] w fun e w' => ∃ r : Int, e = .returned (.int .i64 r) ∧ SzR r left (xs.length + sizL (xs.flatMap eEntity)) ∧ Below w.heap.size w w' := by
  obtain ⟨A, c, rfl, ⟨_, _, hl⟩⟩ := hr.slice
  have HR := Lib.hid hr
  clear hr
  by_cases hlt : left - xs.length < 0
  · go_enter Tryz.func13, Tryz.ntmps13
    go_wp2
    go_ret
    exact ⟨_, rfl, .inl rfl, Below.refl _ w⟩
  · go_enter Tryz.func13, Tryz.ntmps13
    go_wp2
    go_loopw [1, 5] (fun a b wr => ∃ (i : Nat) (q : Int), i ≤ xs.length ∧ b = .int .i64 i ∧ a = .int .i64 q ∧ 0 ≤ q ∧ q ≤ 1048576 ∧ Hid (q = left - xs.length - sizL ((xs.take i).flatMap eEntity)) ∧ Hid (Below w.heap.size w wr)) (fun a b wr => xs.length - (intOf b).toNat)
    case atStart => exact ⟨0, _, by omega, rfl, rfl, by omega, by omega, by simp [sizL_nil, Hid], Below.refl _ w⟩
    case round =>
      obtain ⟨i, q, hi, rfl, rfl, hq0, hq9, HQ, HB⟩ := hrel
      by_cases hlt : i < xs.length
      · obtain ⟨x, hx⟩ : ∃ x, xs[i]? = some x := ⟨xs[i], List.getElem?_eq_getElem hlt⟩
        obtain ⟨ad, v2, v6, v7, rfl, hadb, h0, h1, h2, h3, h4, h5, h6, h7, h8, h9, h10, h11, k2, k6, k7⟩ := row_eEntity (HR.out.below HB.out) hx
        have HX := Lib.hid hx
        clear hx
        go_wp2_with fail
        refine (szEntity_calls _ x _ _ (mkrd_eEntity k2 k6 k7) (StrOkL_mem hstr (List.mem_of_getElem? HX.out)) hq0 hq9).mono ?_
        rintro e w1 ⟨r, rfl, hr, hb1⟩
        have HB1 := Lib.hid hb1
        clear hb1
        have hq := HQ.out
        have hs1 := siz_step eEntity xs i x HX.out
        have hs2 := siz_take_le eEntity xs (i + 1)
        rcases hr with rfl | ⟨hr, hr0⟩
        · go_wp2
          go_ret
          exact ⟨_, rfl, .inl rfl, HB.out.trans (HB1.out.mono HB.out.size)⟩
        · have hr9 : r ≤ 1048576 := by omega
          have HQ2 : Hid (r = left - xs.length - sizL ((xs.take (i + 1)).flatMap eEntity)) := by unfold Hid; omega
          clear hr hs1 hs2 hq
          go_wp2
          go_roundw
          case rel => exact ⟨i + 1, r, by omega, by go_num, rfl, hr0, hr9, HQ2, HB.out.trans (HB1.out.mono HB.out.size)⟩
          case measure => simp [intOf]; omega
      · have : i = xs.length := by omega
        subst this
        have hq := HQ.out
        rw [List.take_length] at hq
        have HQ2 := Lib.hid hq
        clear hq
        go_wp2
        go_ret
        exact ⟨_, rfl, .inr ⟨by have := HQ2.out; omega, hq0⟩, HB.out⟩

set_option maxHeartbeats 800000 in
set_option maxRecDepth 100000 in
theorem toLink_calls (us : List Value) (x : GLink) (w : World) (hr : RdLW w (eLink x) us) (hz : sizL (eLink x) ≤ 1048576) :
    Calls Tryz.prog 46 #[.agg us.toArray] w fun e w' => ∃ us' fp, e = .returned (.agg us'.toArray) ∧ OwnL w' (eLink x) us' fp ∧ Fresh w fp ∧ Below w.heap.size w w' := by
  rw [siz_eLink] at hz
  obtain ⟨v2, v4, v6, rfl, h2, h4, h6⟩ := rd_eLink hr
  clear hr
  have H2 := Lib.hid h2
  clear h2
  have H4 := Lib.hid h4
  clear h4
  have H6 := Lib.hid h6
  clear h6
  go_enter Tryz.func46, Tryz.ntmps46
  go_wp2_with fail
  refine (toExportS_calls _ _ _ (H2.out.below ?hbel1) (by omega)).mono ?_
  case hbel1 => exact ((((Below.refl _ _).alloc (Nat.le_refl _) _).alloc (by simp) _).alloc (by simp; omega) _)
  rintro e w1 ⟨u2, f2, rfl, o2, n2, hb1⟩
  obtain ⟨A2, c2, rfl, _⟩ := o2.slice
  have Z1 := Lib.hid hb1
  have S1 : w.heap.size + 3 ≤ w1.heap.size := by have h := hb1.size; simp only [size_set, size_alloc] at h; omega
  have hz1_0 : w.heap.size < w1.heap.size := by omega
  have hz1_1 : w.heap.size + 1 < w1.heap.size := by omega
  have hz1_2 : w.heap.size + 1 + 1 < w1.heap.size := by omega
  have B1 : Hid (Below w.heap.size w w1) := by
    refine Below.trans ?_ (hb1.mono (by simp only [size_set, size_alloc]; omega))
    exact ((((Below.refl _ _).alloc (Nat.le_refl _) _).alloc (by simp) _).alloc (by simp; omega) _)
  have KA1 : Hid (Blk w1 (w.heap.size) 93 #[.int .i64 x.Peer, .bool x.Up, v2, .int .i64 x.Next, v4, .int .i64 x.Asked, v6]) := by
    refine Blk.below ?_ hb1
    exact ((Blk.made rfl).alloc _).alloc _
  have KO1 : Hid (Blk w1 (w.heap.size + 1 + 1) 51 #[.int .i64 x.Peer, .bool x.Up, .slice none 0 0, .int .i64 0, .slice none 0 0, .int .i64 0, .slice none 0 0]) := by
    refine Blk.below ?_ hb1
    exact Blk.made (by simp)
  have KR1 : Hid (Blk w1 (w.heap.size + 1) 51 #[.int .i64 0, .bool false, .slice none 0 0, .int .i64 0, .slice none 0 0, .int .i64 0, .slice none 0 0]) := by
    refine Blk.below ?_ hb1
    exact (Blk.made (by simp)).alloc _
  obtain ⟨ca1, fa1⟩ := KA1.out.rules
  obtain ⟨co1, fo1⟩ := KO1.out.rules
  obtain ⟨cr1, fr1⟩ := KR1.out.rules
  clear hb1
  go_wp2_with fail
  refine (toQuestionS_calls _ _ _ (H4.out.below ?hbel2) (by omega)).mono ?_
  case hbel2 => exact ((B1.out.setCell (by dsimp only; omega) _).setCell (by dsimp only; omega) _)
  rintro e w2 ⟨u4, f4, rfl, o4, n4, hb2⟩
  obtain ⟨A4, c4, rfl, _⟩ := o4.slice
  have Z2 := Lib.hid hb2
  have S2 : w1.heap.size ≤ w2.heap.size := by have h := hb2.size; simp only [size_set, size_alloc] at h; omega
  have hz2_0 : w.heap.size < w2.heap.size := by omega
  have hz2_1 : w.heap.size + 1 < w2.heap.size := by omega
  have hz2_2 : w.heap.size + 1 + 1 < w2.heap.size := by omega
  have B2 : Hid (Below w.heap.size w w2) := by
    refine Below.trans ?_ (hb2.mono (by simp only [size_set, size_alloc]; omega))
    exact ((B1.out.setCell (by dsimp only; omega) _).setCell (by dsimp only; omega) _)
  have KA2 : Hid (Blk w2 (w.heap.size) 93 #[.int .i64 x.Peer, .bool x.Up, v2, .int .i64 x.Next, v4, .int .i64 x.Asked, v6]) := by
    refine Blk.below ?_ hb2
    exact ((KA1.out.far (by dsimp only; omega) _).far (by dsimp only; omega) _)
  have KO2 : Hid (Blk w2 (w.heap.size + 1 + 1) 51 #[.int .i64 x.Peer, .bool x.Up, .slice A2 x.Exports.length c2, .int .i64 x.Next, .slice none 0 0, .int .i64 0, .slice none 0 0]) := by
    refine Blk.below ?_ hb2
    exact Blk.eq ((KO1.out.set_ 2 _).set_ 3 _) (by simp)
  have KR2 : Hid (Blk w2 (w.heap.size + 1) 51 #[.int .i64 0, .bool false, .slice none 0 0, .int .i64 0, .slice none 0 0, .int .i64 0, .slice none 0 0]) := by
    refine Blk.below ?_ hb2
    exact ((KR1.out.far (by dsimp only; omega) _).far (by dsimp only; omega) _)
  obtain ⟨ca2, fa2⟩ := KA2.out.rules
  obtain ⟨co2, fo2⟩ := KO2.out.rules
  obtain ⟨cr2, fr2⟩ := KR2.out.rules
  clear hb2
  go_wp2_with fail
  refine (toQuestionS_calls _ _ _ (H6.out.below ?hbel3) (by omega)).mono ?_
  case hbel3 => exact ((B2.out.setCell (by dsimp only; omega) _).setCell (by dsimp only; omega) _)
  rintro e w3 ⟨u6, f6, rfl, o6, n6, hb3⟩
  obtain ⟨A6, c6, rfl, _⟩ := o6.slice
  have Z3 := Lib.hid hb3
  have S3 : w2.heap.size ≤ w3.heap.size := by have h := hb3.size; simp only [size_set, size_alloc] at h; omega
  have hz3_0 : w.heap.size < w3.heap.size := by omega
  have hz3_1 : w.heap.size + 1 < w3.heap.size := by omega
  have hz3_2 : w.heap.size + 1 + 1 < w3.heap.size := by omega
  have B3 : Hid (Below w.heap.size w w3) := by
    refine Below.trans ?_ (hb3.mono (by simp only [size_set, size_alloc]; omega))
    exact ((B2.out.setCell (by dsimp only; omega) _).setCell (by dsimp only; omega) _)
  have KA3 : Hid (Blk w3 (w.heap.size) 93 #[.int .i64 x.Peer, .bool x.Up, v2, .int .i64 x.Next, v4, .int .i64 x.Asked, v6]) := by
    refine Blk.below ?_ hb3
    exact ((KA2.out.far (by dsimp only; omega) _).far (by dsimp only; omega) _)
  have KO3 : Hid (Blk w3 (w.heap.size + 1 + 1) 51 #[.int .i64 x.Peer, .bool x.Up, .slice A2 x.Exports.length c2, .int .i64 x.Next, .slice A4 x.Questions.length c4, .int .i64 x.Asked, .slice none 0 0]) := by
    refine Blk.below ?_ hb3
    exact Blk.eq ((KO2.out.set_ 4 _).set_ 5 _) (by simp)
  have KR3 : Hid (Blk w3 (w.heap.size + 1) 51 #[.int .i64 0, .bool false, .slice none 0 0, .int .i64 0, .slice none 0 0, .int .i64 0, .slice none 0 0]) := by
    refine Blk.below ?_ hb3
    exact ((KR2.out.far (by dsimp only; omega) _).far (by dsimp only; omega) _)
  obtain ⟨ca3, fa3⟩ := KA3.out.rules
  obtain ⟨co3, fo3⟩ := KO3.out.rules
  obtain ⟨cr3, fr3⟩ := KR3.out.rules
  clear hb3
  have O2 := Lib.hid o2
  clear o2
  have O4 := Lib.hid o4
  clear o4
  have O6 := Lib.hid o6
  clear o6
  have N2 := Lib.hid n2
  clear n2
  have N4 := Lib.hid n4
  clear n4
  have N6 := Lib.hid n6
  clear n6
  go_wp2
  refine post_cell (w0 := w3) (fun g => w.heap.size ≤ g ∧ g < w.heap.size + 3) Tryz.results46 (w.heap.size + 1) #[.int .i64 x.Peer, .bool x.Up, .slice A2 x.Exports.length c2, .int .i64 x.Next, .slice A4 x.Questions.length c4, .int .i64 x.Asked, .slice A6 x.Answers.length c6] _ rfl (Blk.eq ((((((((KR3.out.far (by dsimp only; omega) _).set_ 0 _).set_ 1 _).set_ 2 _).set_ 3 _).set_ 4 _).set_ 5 _).set_ 6 _) (by simp)) Tryz.underlying51 rfl (by kernel_rfl) rfl (((((((((Chg.refl _ _).setCell (.inl (by dsimp only; omega)) _).setCell (.inl (by dsimp only; omega)) _).setCell (.inl (by dsimp only; omega)) _).setCell (.inl (by dsimp only; omega)) _).setCell (.inl (by dsimp only; omega)) _).setCell (.inl (by dsimp only; omega)) _).setCell (.inl (by dsimp only; omega)) _).setCell (.inl (by dsimp only; omega)) _) ?_
  intro W hW
  have F2 : ∀ g, g ∈ f2 → w.heap.size + 2 < g := fun g hg => by have h1 := N2.out.2 g hg; simp only [size_set, size_alloc] at h1; omega
  have P2 := (Own.below (Own.chg (Own.below (Own.chg O2.out (T := fun g => w.heap.size ≤ g ∧ g < w.heap.size + 3) (((Chg.refl _ _).setCell (.inl (by dsimp only; omega)) _).setCell (.inl (by dsimp only; omega)) _) (fun g hg => by have := F2 g hg; show ¬ (_ ∧ _); omega)) Z2.out) (T := fun g => w.heap.size ≤ g ∧ g < w.heap.size + 3) (((Chg.refl _ _).setCell (.inl (by dsimp only; omega)) _).setCell (.inl (by dsimp only; omega)) _) (fun g hg => by have := F2 g hg; show ¬ (_ ∧ _); omega)) Z3.out)
  have F4 : ∀ g, g ∈ f4 → w.heap.size + 2 < g := fun g hg => by have h1 := N4.out.2 g hg; simp only [size_set, size_alloc] at h1; omega
  have P4 := (Own.below (Own.chg O4.out (T := fun g => w.heap.size ≤ g ∧ g < w.heap.size + 3) (((Chg.refl _ _).setCell (.inl (by dsimp only; omega)) _).setCell (.inl (by dsimp only; omega)) _) (fun g hg => by have := F4 g hg; show ¬ (_ ∧ _); omega)) Z3.out)
  have F6 : ∀ g, g ∈ f6 → w.heap.size + 2 < g := fun g hg => by have h1 := N6.out.2 g hg; simp only [size_set, size_alloc] at h1; omega
  have P6 := O6.out
  refine ⟨_, _, rfl, mkown_eLink (P2.chg hW (fun g hg => by have := F2 g hg; show ¬ (_ ∧ _); omega)) (P4.chg hW (fun g hg => by have := F4 g hg; show ¬ (_ ∧ _); omega)) (P6.chg hW (fun g hg => by have := F6 g hg; show ¬ (_ ∧ _); omega)), ?_, ?_⟩
  · skip
    have V2 : Fresh w f2 := N2.out.mono (by simp only [size_set, size_alloc]; omega)
    have L2 : ∀ g, g ∈ f2 → g < w1.heap.size := Own.lt _ _ _ O2.out
    have V4 : Fresh w1 f4 := N4.out.mono (by simp only [size_set, size_alloc]; omega)
    have L4 : ∀ g, g ∈ f4 → g < w2.heap.size := Own.lt _ _ _ O4.out
    have V6 : Fresh w2 f6 := N6.out.mono (by simp only [size_set, size_alloc]; omega)
    have L6 : ∀ g, g ∈ f6 → g < w3.heap.size := Own.lt _ _ _ O6.out
    exact (V2.put L2 (V4.put L4 V6 (by omega)) (by omega))
  · exact below_chg B3.out hW B3.out.size (fun i hi => hi.1)

set_option maxHeartbeats 800000 in
set_option maxRecDepth 100000 in
theorem toLinkS_calls (xs : List GLink) (v : Value) (w : World) (hr : RdW w (.s xs.length (xs.flatMap eLink)) v) (hn : xs.length + sizL (xs.flatMap eLink) ≤ 1048576) :
    Calls Tryz.prog 23 #[v] w fun e w' => ∃ v' fp, e = .returned v' ∧ Own w' (.s xs.length (xs.flatMap eLink)) v' fp ∧ Fresh w fp ∧ Below w.heap.size w w' := by
  obtain ⟨A, c, rfl, ⟨_, _, hl⟩⟩ := hr.slice
  have HR := Lib.hid hr
  clear hr
  have hn1 : xs.length ≤ 1048576 := by omega
  obtain ⟨cs0, hcs, hmk⟩ := run_make_any (P := Tryz.prog) 33 51 104 7 Tryz.underlying33 ⟨_, _, rfl, rfl, rfl, rfl⟩ xs.length (by omega) (by omega)
  have HCS := Lib.hid hcs
  clear hcs
  go_enter Tryz.func23, Tryz.ntmps23
  go_wp2
  go_loopw [4] (fun a wr => ∃ i : Nat, i ≤ xs.length ∧ a = .int .i64 i ∧ w.heap.size < wr.heap.size ∧ Hid (ToI eLink 7 xs w wr i)) (fun a wr => xs.length - (intOf a).toNat)
  case atStart => exact ⟨0, by omega, rfl, by simp, ToI.start HCS.out⟩
  case round =>
    obtain ⟨i, hi, rfl, hgz, HI⟩ := hrel
    by_cases hlt : i < xs.length
    · obtain ⟨x, hx⟩ : ∃ x, xs[i]? = some x := ⟨xs[i], List.getElem?_eq_getElem hlt⟩
      obtain ⟨ad, v2, v4, v6, rfl, hadb, h0, h1, h2, h3, h4, h5, h6, k2, k4, k6⟩ := row_eLink (HR.out.below HI.out.below) hx
      have hzx : sizL (eLink x) ≤ 1048576 := by have := sizL_flat_le eLink xs x (List.mem_of_getElem? hx); omega
      have HX := Lib.hid hx
      clear hx
      go_wp2_with fail
      refine (toLink_calls _ x _ (mkrd_eLink k2 k4 k6) hzx).mono ?_
      rintro e w1 ⟨us', fp', rfl, ho, hf, hb1⟩
      have HB1 := Lib.hid hb1
      have HO := Lib.hid ho
      have HF := Lib.hid hf
      obtain ⟨b2, f2, b4, f4, b6, f6, rfl, rfl, o2, o4, o6⟩ := own_eLink ho
      obtain ⟨A2_, c2_, rfl, -⟩ := o2.slice
      obtain ⟨A4_, c4_, rfl, -⟩ := o4.slice
      obtain ⟨A6_, c6_, rfl, -⟩ := o6.slice
      clear ho hf hb1 o2 o4 o6
      obtain ⟨y0, c0, q0⟩ := HI.out.get HB1.out 0 hlt (by omega)
      obtain ⟨y1, c1, q1⟩ := HI.out.get HB1.out 1 hlt (by omega)
      obtain ⟨y2, c2, q2⟩ := HI.out.get HB1.out 2 hlt (by omega)
      obtain ⟨y3, c3, q3⟩ := HI.out.get HB1.out 3 hlt (by omega)
      obtain ⟨y4, c4, q4⟩ := HI.out.get HB1.out 4 hlt (by omega)
      obtain ⟨y5, c5, q5⟩ := HI.out.get HB1.out 5 hlt (by omega)
      obtain ⟨y6, c6, q6⟩ := HI.out.get HB1.out 6 hlt (by omega)
      rw [Nat.add_zero] at c0 q0
      have hgz1 : w.heap.size < w1.heap.size := Nat.lt_of_lt_of_le hgz HB1.out.size
      go_wp2
      go_roundw
      case rel =>
        have hst := HI.out.step HX.out HB1.out len_eLink HO.out HF.out
        simp only [putRow, Nat.add_assoc, Nat.reduceAdd] at hst
        exact ⟨i + 1, by omega, by go_num, by simpa [World.setCell] using hgz1, hst⟩
      case measure => simp [intOf]; omega
    · have : i = xs.length := by omega
      subst this
      go_wp2
      go_ret
      obtain ⟨fp, ho, hf, hb⟩ := HI.out.finish hn1
      exact ⟨_, fp, rfl, ho, hf, hb⟩

set_option maxHeartbeats 800000 in
set_option maxRecDepth 100000 in
theorem eqLink_calls (us us' : List Value) (x : GLink) (w : World) (hr : RdLW w (eLink x) us) (hr' : RdLW w (eLink x) us') :
    Calls Tryz.prog 56 #[.agg us.toArray, .agg us'.toArray] w fun e w' => e = .returned (.bool true) ∧ Below w.heap.size w w' := by
  obtain ⟨v2, v4, v6, rfl, h2, h4, h6⟩ := rd_eLink hr
  obtain ⟨v2', v4', v6', rfl, h2', h4', h6'⟩ := rd_eLink hr'
  clear hr hr'
  have H2 := Lib.hid h2
  have H2' := Lib.hid h2'
  clear h2 h2'
  have H4 := Lib.hid h4
  have H4' := Lib.hid h4'
  clear h4 h4'
  have H6 := Lib.hid h6
  have H6' := Lib.hid h6'
  clear h6 h6'
  go_enter Tryz.func56, Tryz.ntmps56
  go_wp2_with fail
  refine (eqExportS_calls _ _ _ _ (H2.out.below (((Below.refl _ _).alloc (Nat.le_refl _) _).alloc (by simp) _)) (H2'.out.below (((Below.refl _ _).alloc (Nat.le_refl _) _).alloc (by simp) _))).mono ?_
  rintro e w1 ⟨rfl, hb1⟩
  have hz1_0 : w.heap.size < w1.heap.size := by have := hb1.size; simp at this; omega
  have hz1_1 : w.heap.size + 1 < w1.heap.size := by have := hb1.size; simp at this; omega
  have B1 : Hid (Below w.heap.size w w1) := (((Below.refl _ _).alloc (Nat.le_refl _) _).alloc (by simp) _).trans (hb1.mono (by first | (simp; done) | (simp; omega)))
  obtain ⟨hc1, hf1⟩ := bcell hb1
  clear hb1
  go_wp2_with fail
  refine (eqQuestionS_calls _ _ _ _ (H4.out.below B1.out) (H4'.out.below B1.out)).mono ?_
  rintro e w2 ⟨rfl, hb2⟩
  have hz2_0 : w.heap.size < w2.heap.size := by have := hb2.size; have := hz1_0; omega
  have hz2_1 : w.heap.size + 1 < w2.heap.size := by have := hb2.size; have := hz1_1; omega
  have B2 : Hid (Below w.heap.size w w2) := B1.out.trans (hb2.mono (by omega))
  obtain ⟨hc2, hf2⟩ := bcell hb2
  clear hb2
  go_wp2_with fail
  refine (eqQuestionS_calls _ _ _ _ (H6.out.below B2.out) (H6'.out.below B2.out)).mono ?_
  rintro e w3 ⟨rfl, hb3⟩
  have hz3_0 : w.heap.size < w3.heap.size := by have := hb3.size; have := hz2_0; omega
  have hz3_1 : w.heap.size + 1 < w3.heap.size := by have := hb3.size; have := hz2_1; omega
  have B3 : Hid (Below w.heap.size w w3) := B2.out.trans (hb3.mono (by omega))
  obtain ⟨hc3, hf3⟩ := bcell hb3
  clear hb3
  go_wp2
  go_ret
  exact ⟨rfl, B3.out⟩

set_option maxHeartbeats 800000 in
set_option maxRecDepth 100000 in
theorem eqLinkS_calls (xs : List GLink) (v v' : Value) (w : World) (hr : RdW w (.s xs.length (xs.flatMap eLink)) v) (hr' : RdW w (.s xs.length (xs.flatMap eLink)) v') :
    Calls Tryz.prog 33 #[v, v'] w fun e w' => e = .returned (.bool true) ∧ Below w.heap.size w w' := by
  obtain ⟨A, c, rfl, ⟨_, _, hl⟩⟩ := hr.slice
  obtain ⟨A', c', rfl, _⟩ := hr'.slice
  have HR := Lib.hid hr
  have HR' := Lib.hid hr'
  clear hr hr'
  go_enter Tryz.func33, Tryz.ntmps33
  go_wp2
  go_loopw [5] (fun a wr => ∃ i : Nat, i ≤ xs.length ∧ a = .int .i64 i ∧ Hid (Below w.heap.size w wr)) (fun a wr => xs.length - (intOf a).toNat)
  case atStart => exact ⟨0, by omega, rfl, Below.refl _ w⟩
  case round =>
    obtain ⟨i, hi, rfl, HB⟩ := hrel
    by_cases hlt : i < xs.length
    · obtain ⟨x, hx⟩ : ∃ x, xs[i]? = some x := ⟨xs[i], List.getElem?_eq_getElem hlt⟩
      obtain ⟨ad, v2, v4, v6, rfl, hadb, h0, h1, h2, h3, h4, h5, h6, k2, k4, k6⟩ := row_eLink (HR.out.below HB.out) hx
      obtain ⟨ad', v2', v4', v6', rfl, hadb', h0', h1', h2', h3', h4', h5', h6', k2', k4', k6'⟩ := row_eLink (HR'.out.below HB.out) hx
      have HX := Lib.hid hx
      clear hx
      go_wp2
      go_still_tail 8, (by kernel_rfl)
      change wpList _ _ _ _ _ wr.drew
      go_wp2_with fail
      refine (eqLink_calls _ _ x _ (mkrd_eLink k2.drew k4.drew k6.drew) (mkrd_eLink k2'.drew k4'.drew k6'.drew)).mono ?_
      rintro e w1 ⟨rfl, hb1⟩
      have HB1 := Lib.hid hb1
      clear hb1
      go_wp2
      go_roundw
      case rel => exact ⟨i + 1, by omega, by go_num, HB.out.drew.trans (HB1.out.mono HB.out.drew.size)⟩
      case measure => simp [intOf]; omega
    · have : i = xs.length := by omega
      subst this
      go_wp2
      go_ret
      exact ⟨rfl, HB.out⟩

set_option maxHeartbeats 800000 in
set_option maxRecDepth 100000 in
theorem szLink_calls (us : List Value) (x : GLink) (left : Int) (w : World) (hr : RdLW w (eLink x) us) (h0 : 0 ≤ left) (h1 : left ≤ 1048576) :
    Calls Tryz.prog 41 #[.agg us.toArray, .int .i64 left] w fun e w' => ∃ r : Int, e = .returned (.int .i64 r) ∧ SzR r left (sizL (eLink x)) ∧ Below w.heap.size w w' := by
  rw [siz_eLink]
  obtain ⟨v2, v4, v6, rfl, h2, h4, h6⟩ := rd_eLink hr
  clear hr
  have H2 := Lib.hid h2
  clear h2
  have H4 := Lib.hid h4
  clear h4
  have H6 := Lib.hid h6
  clear h6
  go_enter Tryz.func41, Tryz.ntmps41
  go_wp2_with fail
  refine (szExportS_calls _ _ _ _ (H2.out.below ((Below.refl _ _).alloc (Nat.le_refl _) _)) (by omega) (by omega)).mono ?_
  rintro e w1 ⟨r2, rfl, hr2, hb1⟩
  have B1 : Blk w1 w.heap.size 93 #[.int .i64 x.Peer, .bool x.Up, v2, .int .i64 x.Next, v4, .int .i64 x.Asked, v6] := (Blk.new _ _ _).below hb1
  have D1 : Below w.heap.size w w1 := ((Below.refl _ _).alloc (Nat.le_refl _) _).trans (hb1.mono (by simp only [size_alloc]; omega))
  have HB1 := Lib.hid B1
  have HD1 := Lib.hid D1
  obtain ⟨cb1, fb1⟩ := B1.rules
  clear hb1 B1 D1
  rcases hr2 with rfl | ⟨hr2, hr2_0⟩
  · go_wp2
    go_ret
    exact ⟨_, rfl, .inl rfl, HD1.out⟩
  have hr2_9 : r2 ≤ 1048576 := by omega
  have HR2 := Lib.hid hr2
  clear hr2
  go_wp2_with fail
  refine (szQuestionS_calls _ _ _ _ (H4.out.below HD1.out) (by omega) (by omega)).mono ?_
  rintro e w2 ⟨r4, rfl, hr4, hb2⟩
  have B2 : Blk w2 w.heap.size 93 #[.int .i64 x.Peer, .bool x.Up, v2, .int .i64 x.Next, v4, .int .i64 x.Asked, v6] := HB1.out.below hb2
  have D2 : Below w.heap.size w w2 := HD1.out.trans (hb2.mono HD1.out.size)
  have HB2 := Lib.hid B2
  have HD2 := Lib.hid D2
  obtain ⟨cb2, fb2⟩ := B2.rules
  clear hb2 B2 D2
  rcases hr4 with rfl | ⟨hr4, hr4_0⟩
  · go_wp2
    go_ret
    exact ⟨_, rfl, .inl rfl, HD2.out⟩
  have hr4_9 : r4 ≤ 1048576 := by omega
  have HR4 := Lib.hid hr4
  clear hr4
  go_wp2_with fail
  refine (szQuestionS_calls _ _ _ _ (H6.out.below HD2.out) (by omega) (by omega)).mono ?_
  rintro e w3 ⟨r6, rfl, hr6, hb3⟩
  have B3 : Blk w3 w.heap.size 93 #[.int .i64 x.Peer, .bool x.Up, v2, .int .i64 x.Next, v4, .int .i64 x.Asked, v6] := HB2.out.below hb3
  have D3 : Below w.heap.size w w3 := HD2.out.trans (hb3.mono HD2.out.size)
  have HB3 := Lib.hid B3
  have HD3 := Lib.hid D3
  obtain ⟨cb3, fb3⟩ := B3.rules
  clear hb3 B3 D3
  rcases hr6 with rfl | ⟨hr6, hr6_0⟩
  · go_wp2
    go_ret
    exact ⟨_, rfl, .inl rfl, HD3.out⟩
  have hr6_9 : r6 ≤ 1048576 := by omega
  have HR6 := Lib.hid hr6
  clear hr6
  go_wp2
  go_ret
  exact ⟨_, rfl, .inr ⟨by have e2 := HR2.out; have e4 := HR4.out; have e6 := HR6.out; omega, by omega⟩, HD3.out⟩

set_option maxHeartbeats 800000 in
set_option maxRecDepth 100000 in
theorem szLinkS_calls (xs : List GLink) (v : Value) (left : Int) (w : World) (hr : RdW w (.s xs.length (xs.flatMap eLink)) v) (h0 : 0 ≤ left) (h1 : left ≤ 1048576) :
    Calls Tryz.prog 15 #[v, .int .i64 left] w fun e w' => ∃ r : Int, e = .returned (.int .i64 r) ∧ SzR r left (xs.length + sizL (xs.flatMap eLink)) ∧ Below w.heap.size w w' := by
  obtain ⟨A, c, rfl, ⟨_, _, hl⟩⟩ := hr.slice
  have HR := Lib.hid hr
  clear hr
  by_cases hlt : left - xs.length < 0
  · go_enter Tryz.func15, Tryz.ntmps15
    go_wp2
    go_ret
    exact ⟨_, rfl, .inl rfl, Below.refl _ w⟩
  · go_enter Tryz.func15, Tryz.ntmps15
    go_wp2
    go_loopw [1, 5] (fun a b wr => ∃ (i : Nat) (q : Int), i ≤ xs.length ∧ b = .int .i64 i ∧ a = .int .i64 q ∧ 0 ≤ q ∧ q ≤ 1048576 ∧ Hid (q = left - xs.length - sizL ((xs.take i).flatMap eLink)) ∧ Hid (Below w.heap.size w wr)) (fun a b wr => xs.length - (intOf b).toNat)
    case atStart => exact ⟨0, _, by omega, rfl, rfl, by omega, by omega, by simp [sizL_nil, Hid], Below.refl _ w⟩
    case round =>
      obtain ⟨i, q, hi, rfl, rfl, hq0, hq9, HQ, HB⟩ := hrel
      by_cases hlt : i < xs.length
      · obtain ⟨x, hx⟩ : ∃ x, xs[i]? = some x := ⟨xs[i], List.getElem?_eq_getElem hlt⟩
        obtain ⟨ad, v2, v4, v6, rfl, hadb, h0, h1, h2, h3, h4, h5, h6, k2, k4, k6⟩ := row_eLink (HR.out.below HB.out) hx
        have HX := Lib.hid hx
        clear hx
        go_wp2_with fail
        refine (szLink_calls _ x _ _ (mkrd_eLink k2 k4 k6) hq0 hq9).mono ?_
        rintro e w1 ⟨r, rfl, hr, hb1⟩
        have HB1 := Lib.hid hb1
        clear hb1
        have hq := HQ.out
        have hs1 := siz_step eLink xs i x HX.out
        have hs2 := siz_take_le eLink xs (i + 1)
        rcases hr with rfl | ⟨hr, hr0⟩
        · go_wp2
          go_ret
          exact ⟨_, rfl, .inl rfl, HB.out.trans (HB1.out.mono HB.out.size)⟩
        · have hr9 : r ≤ 1048576 := by omega
          have HQ2 : Hid (r = left - xs.length - sizL ((xs.take (i + 1)).flatMap eLink)) := by unfold Hid; omega
          clear hr hs1 hs2 hq
          go_wp2
          go_roundw
          case rel => exact ⟨i + 1, r, by omega, by go_num, rfl, hr0, hr9, HQ2, HB.out.trans (HB1.out.mono HB.out.size)⟩
          case measure => simp [intOf]; omega
      · have : i = xs.length := by omega
        subst this
        have hq := HQ.out
        rw [List.take_length] at hq
        have HQ2 := Lib.hid hq
        clear hq
        go_wp2
        go_ret
        exact ⟨_, rfl, .inr ⟨by have := HQ2.out; omega, hq0⟩, HB.out⟩

set_option maxHeartbeats 800000 in
set_option maxRecDepth 100000 in
theorem toMessage_calls (us : List Value) (x : GMessage) (w : World) (hr : RdLW w (eMessage x) us) (hz : sizL (eMessage x) ≤ 1048576) :
    Calls Tryz.prog 75 #[.agg us.toArray] w fun e w' => ∃ us' fp, e = .returned (.agg us'.toArray) ∧ OwnL w' (eMessage x) us' fp ∧ Fresh w fp ∧ Below w.heap.size w w' := by
  rw [siz_eMessage] at hz
  obtain ⟨v5, rfl, h5⟩ := rd_eMessage hr
  clear hr
  have H5 := Lib.hid h5
  clear h5
  go_enter Tryz.func75, Tryz.ntmps75
  go_wp2_with fail
  refine (toWireS_calls _ _ _ (H5.out.below ?hbel1) (by omega)).mono ?_
  case hbel1 => exact ((((Below.refl _ _).alloc (Nat.le_refl _) _).alloc (by simp) _).alloc (by simp; omega) _)
  rintro e w1 ⟨u5, f5, rfl, o5, n5, hb1⟩
  obtain ⟨A5, c5, rfl, _⟩ := o5.slice
  have Z1 := Lib.hid hb1
  have S1 : w.heap.size + 3 ≤ w1.heap.size := by have h := hb1.size; simp only [size_set, size_alloc] at h; omega
  have hz1_0 : w.heap.size < w1.heap.size := by omega
  have hz1_1 : w.heap.size + 1 < w1.heap.size := by omega
  have hz1_2 : w.heap.size + 1 + 1 < w1.heap.size := by omega
  have B1 : Hid (Below w.heap.size w w1) := by
    refine Below.trans ?_ (hb1.mono (by simp only [size_set, size_alloc]; omega))
    exact ((((Below.refl _ _).alloc (Nat.le_refl _) _).alloc (by simp) _).alloc (by simp; omega) _)
  have KA1 : Hid (Blk w1 (w.heap.size) 98 #[.int .i64 x.Kind, .int .i64 x.Pos, .int .i64 x.Answer, .int .i64 x.Question, .string x.Name, v5, .int .i64 x.Value.Kind, .int .i64 x.Value.N, .int .i64 x.Count, .int .i64 x.Tag.Vat, .int .i64 x.Tag.Entity, .int .i64 x.Tag.Seq]) := by
    refine Blk.below ?_ hb1
    exact ((Blk.made rfl).alloc _).alloc _
  have KO1 : Hid (Blk w1 (w.heap.size + 1 + 1) 115 #[.int .i64 x.Kind, .int .i64 x.Pos, .int .i64 x.Answer, .int .i64 x.Question, .string x.Name, .slice none 0 0, .int .i64 0, .int .i64 0, .int .i64 0, .int .i64 0, .int .i64 0, .int .i64 0]) := by
    refine Blk.below ?_ hb1
    exact Blk.made (by simp)
  have KR1 : Hid (Blk w1 (w.heap.size + 1) 115 #[.int .i64 0, .int .i64 0, .int .i64 0, .int .i64 0, .string ⟨#[]⟩, .slice none 0 0, .int .i64 0, .int .i64 0, .int .i64 0, .int .i64 0, .int .i64 0, .int .i64 0]) := by
    refine Blk.below ?_ hb1
    exact (Blk.made (by simp)).alloc _
  obtain ⟨ca1, fa1⟩ := KA1.out.rules
  obtain ⟨co1, fo1⟩ := KO1.out.rules
  obtain ⟨cr1, fr1⟩ := KR1.out.rules
  clear hb1
  go_wp2_with fail
  refine (toWire_calls _ x.Value _ (mkrd_eWire)).mono ?_
  rintro e w2 ⟨us6, f6, rfl, o6, n6, hb2⟩
  obtain ⟨rfl, rfl⟩ := own_eWire o6
  have Z2 := Lib.hid hb2
  have S2 : w1.heap.size ≤ w2.heap.size := by have h := hb2.size; simp only [size_set, size_alloc] at h; omega
  have hz2_0 : w.heap.size < w2.heap.size := by omega
  have hz2_1 : w.heap.size + 1 < w2.heap.size := by omega
  have hz2_2 : w.heap.size + 1 + 1 < w2.heap.size := by omega
  have B2 : Hid (Below w.heap.size w w2) := by
    refine Below.trans ?_ (hb2.mono (by simp only [size_set, size_alloc]; omega))
    exact (B1.out.setCell (by dsimp only; omega) _)
  have KA2 : Hid (Blk w2 (w.heap.size) 98 #[.int .i64 x.Kind, .int .i64 x.Pos, .int .i64 x.Answer, .int .i64 x.Question, .string x.Name, v5, .int .i64 x.Value.Kind, .int .i64 x.Value.N, .int .i64 x.Count, .int .i64 x.Tag.Vat, .int .i64 x.Tag.Entity, .int .i64 x.Tag.Seq]) := by
    refine Blk.below ?_ hb2
    exact (KA1.out.far (by dsimp only; omega) _)
  have KO2 : Hid (Blk w2 (w.heap.size + 1 + 1) 115 #[.int .i64 x.Kind, .int .i64 x.Pos, .int .i64 x.Answer, .int .i64 x.Question, .string x.Name, .slice A5 x.Args.length c5, .int .i64 0, .int .i64 0, .int .i64 0, .int .i64 0, .int .i64 0, .int .i64 0]) := by
    refine Blk.below ?_ hb2
    exact Blk.eq (KO1.out.set_ 5 _) (by simp)
  have KR2 : Hid (Blk w2 (w.heap.size + 1) 115 #[.int .i64 0, .int .i64 0, .int .i64 0, .int .i64 0, .string ⟨#[]⟩, .slice none 0 0, .int .i64 0, .int .i64 0, .int .i64 0, .int .i64 0, .int .i64 0, .int .i64 0]) := by
    refine Blk.below ?_ hb2
    exact (KR1.out.far (by dsimp only; omega) _)
  obtain ⟨ca2, fa2⟩ := KA2.out.rules
  obtain ⟨co2, fo2⟩ := KO2.out.rules
  obtain ⟨cr2, fr2⟩ := KR2.out.rules
  clear hb2
  go_wp2_with fail
  refine (toTag_calls _ x.Tag _ (mkrd_eTag)).mono ?_
  rintro e w3 ⟨us9, f9, rfl, o9, n9, hb3⟩
  obtain ⟨rfl, rfl⟩ := own_eTag o9
  have Z3 := Lib.hid hb3
  have S3 : w2.heap.size ≤ w3.heap.size := by have h := hb3.size; simp only [size_set, size_alloc] at h; omega
  have hz3_0 : w.heap.size < w3.heap.size := by omega
  have hz3_1 : w.heap.size + 1 < w3.heap.size := by omega
  have hz3_2 : w.heap.size + 1 + 1 < w3.heap.size := by omega
  have B3 : Hid (Below w.heap.size w w3) := by
    refine Below.trans ?_ (hb3.mono (by simp only [size_set, size_alloc]; omega))
    exact (((B2.out.setCell (by dsimp only; omega) _).setCell (by dsimp only; omega) _).setCell (by dsimp only; omega) _)
  have KA3 : Hid (Blk w3 (w.heap.size) 98 #[.int .i64 x.Kind, .int .i64 x.Pos, .int .i64 x.Answer, .int .i64 x.Question, .string x.Name, v5, .int .i64 x.Value.Kind, .int .i64 x.Value.N, .int .i64 x.Count, .int .i64 x.Tag.Vat, .int .i64 x.Tag.Entity, .int .i64 x.Tag.Seq]) := by
    refine Blk.below ?_ hb3
    exact (((KA2.out.far (by dsimp only; omega) _).far (by dsimp only; omega) _).far (by dsimp only; omega) _)
  have KO3 : Hid (Blk w3 (w.heap.size + 1 + 1) 115 #[.int .i64 x.Kind, .int .i64 x.Pos, .int .i64 x.Answer, .int .i64 x.Question, .string x.Name, .slice A5 x.Args.length c5, .int .i64 x.Value.Kind, .int .i64 x.Value.N, .int .i64 x.Count, .int .i64 0, .int .i64 0, .int .i64 0]) := by
    refine Blk.below ?_ hb3
    exact Blk.eq (((KO2.out.set_ 6 _).set_ 7 _).set_ 8 _) (by simp)
  have KR3 : Hid (Blk w3 (w.heap.size + 1) 115 #[.int .i64 0, .int .i64 0, .int .i64 0, .int .i64 0, .string ⟨#[]⟩, .slice none 0 0, .int .i64 0, .int .i64 0, .int .i64 0, .int .i64 0, .int .i64 0, .int .i64 0]) := by
    refine Blk.below ?_ hb3
    exact (((KR2.out.far (by dsimp only; omega) _).far (by dsimp only; omega) _).far (by dsimp only; omega) _)
  obtain ⟨ca3, fa3⟩ := KA3.out.rules
  obtain ⟨co3, fo3⟩ := KO3.out.rules
  obtain ⟨cr3, fr3⟩ := KR3.out.rules
  clear hb3
  have O5 := Lib.hid o5
  clear o5
  have N5 := Lib.hid n5
  clear n5
  go_wp2
  refine post_cell (w0 := w3) (fun g => w.heap.size ≤ g ∧ g < w.heap.size + 3) Tryz.results75 (w.heap.size + 1) #[.int .i64 x.Kind, .int .i64 x.Pos, .int .i64 x.Answer, .int .i64 x.Question, .string x.Name, .slice A5 x.Args.length c5, .int .i64 x.Value.Kind, .int .i64 x.Value.N, .int .i64 x.Count, .int .i64 x.Tag.Vat, .int .i64 x.Tag.Entity, .int .i64 x.Tag.Seq] _ rfl (Blk.eq (((((((((((((((KR3.out.far (by dsimp only; omega) _).far (by dsimp only; omega) _).far (by dsimp only; omega) _).set_ 0 _).set_ 1 _).set_ 2 _).set_ 3 _).set_ 4 _).set_ 5 _).set_ 6 _).set_ 7 _).set_ 8 _).set_ 9 _).set_ 10 _).set_ 11 _) (by simp)) Tryz.underlying115 rfl (by kernel_rfl) rfl ((((((((((((((((Chg.refl _ _).setCell (.inl (by dsimp only; omega)) _).setCell (.inl (by dsimp only; omega)) _).setCell (.inl (by dsimp only; omega)) _).setCell (.inl (by dsimp only; omega)) _).setCell (.inl (by dsimp only; omega)) _).setCell (.inl (by dsimp only; omega)) _).setCell (.inl (by dsimp only; omega)) _).setCell (.inl (by dsimp only; omega)) _).setCell (.inl (by dsimp only; omega)) _).setCell (.inl (by dsimp only; omega)) _).setCell (.inl (by dsimp only; omega)) _).setCell (.inl (by dsimp only; omega)) _).setCell (.inl (by dsimp only; omega)) _).setCell (.inl (by dsimp only; omega)) _).setCell (.inl (by dsimp only; omega)) _) ?_
  intro W hW
  have F5 : ∀ g, g ∈ f5 → w.heap.size + 2 < g := fun g hg => by have h1 := N5.out.2 g hg; simp only [size_set, size_alloc] at h1; omega
  have P5 := (Own.below (Own.chg (Own.below (Own.chg O5.out (T := fun g => w.heap.size ≤ g ∧ g < w.heap.size + 3) ((Chg.refl _ _).setCell (.inl (by dsimp only; omega)) _) (fun g hg => by have := F5 g hg; show ¬ (_ ∧ _); omega)) Z2.out) (T := fun g => w.heap.size ≤ g ∧ g < w.heap.size + 3) ((((Chg.refl _ _).setCell (.inl (by dsimp only; omega)) _).setCell (.inl (by dsimp only; omega)) _).setCell (.inl (by dsimp only; omega)) _) (fun g hg => by have := F5 g hg; show ¬ (_ ∧ _); omega)) Z3.out)
  refine ⟨_, _, rfl, mkown_eMessage (P5.chg hW (fun g hg => by have := F5 g hg; show ¬ (_ ∧ _); omega)), ?_, ?_⟩
  · skip
    have V5 : Fresh w f5 := N5.out.mono (by simp only [size_set, size_alloc]; omega)
    have L5 : ∀ g, g ∈ f5 → g < w1.heap.size := Own.lt _ _ _ O5.out
    exact V5
  · exact below_chg B3.out hW B3.out.size (fun i hi => hi.1)

set_option maxHeartbeats 800000 in
set_option maxRecDepth 100000 in
theorem eqMessage_calls (us us' : List Value) (x : GMessage) (w : World) (hr : RdLW w (eMessage x) us) (hr' : RdLW w (eMessage x) us') :
    Calls Tryz.prog 94 #[.agg us.toArray, .agg us'.toArray] w fun e w' => e = .returned (.bool true) ∧ Below w.heap.size w w' := by
  obtain ⟨v5, rfl, h5⟩ := rd_eMessage hr
  obtain ⟨v5', rfl, h5'⟩ := rd_eMessage hr'
  clear hr hr'
  have H5 := Lib.hid h5
  have H5' := Lib.hid h5'
  clear h5 h5'
  go_enter Tryz.func94, Tryz.ntmps94
  go_wp2_with fail
  refine (eqWireS_calls _ _ _ _ (H5.out.below (((Below.refl _ _).alloc (Nat.le_refl _) _).alloc (by simp) _)) (H5'.out.below (((Below.refl _ _).alloc (Nat.le_refl _) _).alloc (by simp) _))).mono ?_
  rintro e w1 ⟨rfl, hb1⟩
  have hz1_0 : w.heap.size < w1.heap.size := by have := hb1.size; simp at this; omega
  have hz1_1 : w.heap.size + 1 < w1.heap.size := by have := hb1.size; simp at this; omega
  have B1 : Hid (Below w.heap.size w w1) := (((Below.refl _ _).alloc (Nat.le_refl _) _).alloc (by simp) _).trans (hb1.mono (by first | (simp; done) | (simp; omega)))
  obtain ⟨hc1, hf1⟩ := bcell hb1
  clear hb1
  go_wp2_with fail
  refine (eqWire_calls _ _ x.Value _ (mkrd_eWire) (mkrd_eWire)).mono ?_
  rintro e w2 ⟨rfl, hb2⟩
  have hz2_0 : w.heap.size < w2.heap.size := by have := hb2.size; have := hz1_0; omega
  have hz2_1 : w.heap.size + 1 < w2.heap.size := by have := hb2.size; have := hz1_1; omega
  have B2 : Hid (Below w.heap.size w w2) := B1.out.trans (hb2.mono (by omega))
  obtain ⟨hc2, hf2⟩ := bcell hb2
  clear hb2
  go_wp2_with fail
  refine (eqTag_calls _ _ x.Tag _ (mkrd_eTag) (mkrd_eTag)).mono ?_
  rintro e w3 ⟨rfl, hb3⟩
  have hz3_0 : w.heap.size < w3.heap.size := by have := hb3.size; have := hz2_0; omega
  have hz3_1 : w.heap.size + 1 < w3.heap.size := by have := hb3.size; have := hz2_1; omega
  have B3 : Hid (Below w.heap.size w w3) := B2.out.trans (hb3.mono (by omega))
  obtain ⟨hc3, hf3⟩ := bcell hb3
  clear hb3
  go_wp2
  go_ret
  exact ⟨rfl, B3.out⟩

set_option maxHeartbeats 800000 in
set_option maxRecDepth 100000 in
theorem szMessage_calls (us : List Value) (x : GMessage) (left : Int) (w : World) (hr : RdLW w (eMessage x) us) (hstr : StrOkL (eMessage x)) (h0 : 0 ≤ left) (h1 : left ≤ 1048576) :
    Calls Tryz.prog 68 #[.agg us.toArray, .int .i64 left] w fun e w' => ∃ r : Int, e = .returned (.int .i64 r) ∧ SzR r left (sizL (eMessage x)) ∧ Below w.heap.size w w' := by
  rw [siz_eMessage]
  obtain ⟨v5, rfl, h5⟩ := rd_eMessage hr
  clear hr
  have H5 := Lib.hid h5
  clear h5
  have t4 := str_eMessage hstr
  clear hstr
  go_enter Tryz.func68, Tryz.ntmps68
  by_cases hl4 : left - x.Name.size < 0
  · go_wp2
    go_ret
    exact ⟨_, rfl, .inl rfl, ((Below.refl _ _).alloc (Nat.le_refl _) _)⟩
  have hm4 : 0 ≤ left - x.Name.size := by omega
  have hM4 : left - x.Name.size ≤ 1048576 := by omega
  go_wp2_with fail
  refine (szWireS_calls _ _ _ _ (H5.out.below ((Below.refl _ _).alloc (Nat.le_refl _) _)) (by omega) (by omega)).mono ?_
  rintro e w1 ⟨r5, rfl, hr5, hb1⟩
  have B1 : Blk w1 w.heap.size 98 #[.int .i64 x.Kind, .int .i64 x.Pos, .int .i64 x.Answer, .int .i64 x.Question, .string x.Name, v5, .int .i64 x.Value.Kind, .int .i64 x.Value.N, .int .i64 x.Count, .int .i64 x.Tag.Vat, .int .i64 x.Tag.Entity, .int .i64 x.Tag.Seq] := (Blk.new _ _ _).below hb1
  have D1 : Below w.heap.size w w1 := ((Below.refl _ _).alloc (Nat.le_refl _) _).trans (hb1.mono (by simp only [size_alloc]; omega))
  have HB1 := Lib.hid B1
  have HD1 := Lib.hid D1
  obtain ⟨cb1, fb1⟩ := B1.rules
  clear hb1 B1 D1
  rcases hr5 with rfl | ⟨hr5, hr5_0⟩
  · go_wp2
    go_ret
    exact ⟨_, rfl, .inl rfl, HD1.out⟩
  have hr5_9 : r5 ≤ 1048576 := by omega
  have HR5 := Lib.hid hr5
  clear hr5
  go_wp2
  go_ret
  exact ⟨_, rfl, .inr ⟨by have e5 := HR5.out; omega, by omega⟩, HD1.out⟩

set_option maxHeartbeats 800000 in
set_option maxRecDepth 100000 in
theorem toOutgoing_calls (us : List Value) (x : GOutgoing) (w : World) (hr : RdLW w (eOutgoing x) us) (hz : sizL (eOutgoing x) ≤ 1048576) :
    Calls Tryz.prog 47 #[.agg us.toArray] w fun e w' => ∃ us' fp, e = .returned (.agg us'.toArray) ∧ OwnL w' (eOutgoing x) us' fp ∧ Fresh w fp ∧ Below w.heap.size w w' := by
  rw [siz_eOutgoing] at hz
  obtain ⟨v6, rfl, h6⟩ := rd_eOutgoing hr
  clear hr
  have H6 := Lib.hid h6
  clear h6
  go_enter Tryz.func47, Tryz.ntmps47
  go_wp2_with fail
  refine (toMessage_calls _ x.Message _ (mkrd_eMessage (H6.out.below ?hbel1)) (by rw [siz_eMessage]; omega)).mono ?_
  case hbel1 => exact ((((Below.refl _ _).alloc (Nat.le_refl _) _).alloc (by simp) _).alloc (by simp; omega) _)
  rintro e w1 ⟨us1, f1, rfl, o1, n1, hb1⟩
  obtain ⟨u6, f6, rfl, hfq, o6⟩ := own_eMessage o1
  obtain rfl := hfq.symm
  obtain ⟨A6, c6, rfl, _⟩ := o6.slice
  have Z1 := Lib.hid hb1
  have S1 : w.heap.size + 3 ≤ w1.heap.size := by have h := hb1.size; simp only [size_set, size_alloc] at h; omega
  have hz1_0 : w.heap.size < w1.heap.size := by omega
  have hz1_1 : w.heap.size + 1 < w1.heap.size := by omega
  have hz1_2 : w.heap.size + 1 + 1 < w1.heap.size := by omega
  have B1 : Hid (Below w.heap.size w w1) := by
    refine Below.trans ?_ (hb1.mono (by simp only [size_set, size_alloc]; omega))
    exact ((((Below.refl _ _).alloc (Nat.le_refl _) _).alloc (by simp) _).alloc (by simp; omega) _)
  have KA1 : Hid (Blk w1 (w.heap.size) 100 #[.int .i64 x.To, .int .i64 x.Message.Kind, .int .i64 x.Message.Pos, .int .i64 x.Message.Answer, .int .i64 x.Message.Question, .string x.Message.Name, v6, .int .i64 x.Message.Value.Kind, .int .i64 x.Message.Value.N, .int .i64 x.Message.Count, .int .i64 x.Message.Tag.Vat, .int .i64 x.Message.Tag.Entity, .int .i64 x.Message.Tag.Seq]) := by
    refine Blk.below ?_ hb1
    exact ((Blk.made rfl).alloc _).alloc _
  have KO1 : Hid (Blk w1 (w.heap.size + 1 + 1) 117 #[.int .i64 x.To, .int .i64 0, .int .i64 0, .int .i64 0, .int .i64 0, .string ⟨#[]⟩, .slice none 0 0, .int .i64 0, .int .i64 0, .int .i64 0, .int .i64 0, .int .i64 0, .int .i64 0]) := by
    refine Blk.below ?_ hb1
    exact Blk.made (by simp)
  have KR1 : Hid (Blk w1 (w.heap.size + 1) 117 #[.int .i64 0, .int .i64 0, .int .i64 0, .int .i64 0, .int .i64 0, .string ⟨#[]⟩, .slice none 0 0, .int .i64 0, .int .i64 0, .int .i64 0, .int .i64 0, .int .i64 0, .int .i64 0]) := by
    refine Blk.below ?_ hb1
    exact (Blk.made (by simp)).alloc _
  obtain ⟨ca1, fa1⟩ := KA1.out.rules
  obtain ⟨co1, fo1⟩ := KO1.out.rules
  obtain ⟨cr1, fr1⟩ := KR1.out.rules
  clear hb1
  have O6 := Lib.hid o6
  clear o6
  have N1 := Lib.hid n1
  clear n1
  go_wp2
  refine post_cell (w0 := w1) (fun g => w.heap.size ≤ g ∧ g < w.heap.size + 3) Tryz.results47 (w.heap.size + 1) #[.int .i64 x.To, .int .i64 x.Message.Kind, .int .i64 x.Message.Pos, .int .i64 x.Message.Answer, .int .i64 x.Message.Question, .string x.Message.Name, .slice A6 x.Message.Args.length c6, .int .i64 x.Message.Value.Kind, .int .i64 x.Message.Value.N, .int .i64 x.Message.Count, .int .i64 x.Message.Tag.Vat, .int .i64 x.Message.Tag.Entity, .int .i64 x.Message.Tag.Seq] _ rfl (Blk.eq (((((((((((((((((((((((((KR1.out.far (by dsimp only; omega) _).far (by dsimp only; omega) _).far (by dsimp only; omega) _).far (by dsimp only; omega) _).far (by dsimp only; omega) _).far (by dsimp only; omega) _).far (by dsimp only; omega) _).far (by dsimp only; omega) _).far (by dsimp only; omega) _).far (by dsimp only; omega) _).far (by dsimp only; omega) _).far (by dsimp only; omega) _).set_ 0 _).set_ 1 _).set_ 2 _).set_ 3 _).set_ 4 _).set_ 5 _).set_ 6 _).set_ 7 _).set_ 8 _).set_ 9 _).set_ 10 _).set_ 11 _).set_ 12 _) (by simp)) Tryz.underlying117 rfl (by kernel_rfl) rfl ((((((((((((((((((((((((((Chg.refl _ _).setCell (.inl (by dsimp only; omega)) _).setCell (.inl (by dsimp only; omega)) _).setCell (.inl (by dsimp only; omega)) _).setCell (.inl (by dsimp only; omega)) _).setCell (.inl (by dsimp only; omega)) _).setCell (.inl (by dsimp only; omega)) _).setCell (.inl (by dsimp only; omega)) _).setCell (.inl (by dsimp only; omega)) _).setCell (.inl (by dsimp only; omega)) _).setCell (.inl (by dsimp only; omega)) _).setCell (.inl (by dsimp only; omega)) _).setCell (.inl (by dsimp only; omega)) _).setCell (.inl (by dsimp only; omega)) _).setCell (.inl (by dsimp only; omega)) _).setCell (.inl (by dsimp only; omega)) _).setCell (.inl (by dsimp only; omega)) _).setCell (.inl (by dsimp only; omega)) _).setCell (.inl (by dsimp only; omega)) _).setCell (.inl (by dsimp only; omega)) _).setCell (.inl (by dsimp only; omega)) _).setCell (.inl (by dsimp only; omega)) _).setCell (.inl (by dsimp only; omega)) _).setCell (.inl (by dsimp only; omega)) _).setCell (.inl (by dsimp only; omega)) _).setCell (.inl (by dsimp only; omega)) _) ?_
  intro W hW
  have F6 : ∀ g, g ∈ f6 → w.heap.size + 2 < g := fun g hg => by have h1 := N1.out.2 g hg; simp only [size_set, size_alloc] at h1; omega
  have P6 := O6.out
  refine ⟨_, _, rfl, mkown_eOutgoing (P6.chg hW (fun g hg => by have := F6 g hg; show ¬ (_ ∧ _); omega)), ?_, ?_⟩
  · skip
    have V6 : Fresh w f6 := N1.out.mono (by simp only [size_set, size_alloc]; omega)
    have L6 : ∀ g, g ∈ f6 → g < w1.heap.size := Own.lt _ _ _ O6.out
    exact V6
  · exact below_chg B1.out hW B1.out.size (fun i hi => hi.1)

set_option maxHeartbeats 800000 in
set_option maxRecDepth 100000 in
theorem toOutgoingS_calls (xs : List GOutgoing) (v : Value) (w : World) (hr : RdW w (.s xs.length (xs.flatMap eOutgoing)) v) (hn : xs.length + sizL (xs.flatMap eOutgoing) ≤ 1048576) :
    Calls Tryz.prog 24 #[v] w fun e w' => ∃ v' fp, e = .returned v' ∧ Own w' (.s xs.length (xs.flatMap eOutgoing)) v' fp ∧ Fresh w fp ∧ Below w.heap.size w w' := by
  obtain ⟨A, c, rfl, ⟨_, _, hl⟩⟩ := hr.slice
  have HR := Lib.hid hr
  clear hr
  have hn1 : xs.length ≤ 1048576 := by omega
  obtain ⟨cs0, hcs, hmk⟩ := run_make_any (P := Tryz.prog) 34 117 128 13 Tryz.underlying34 ⟨_, _, rfl, rfl, rfl, rfl⟩ xs.length (by omega) (by omega)
  have HCS := Lib.hid hcs
  clear hcs
  go_enter Tryz.func24, Tryz.ntmps24
  go_wp2
  go_loopw [4] (fun a wr => ∃ i : Nat, i ≤ xs.length ∧ a = .int .i64 i ∧ w.heap.size < wr.heap.size ∧ Hid (ToI eOutgoing 13 xs w wr i)) (fun a wr => xs.length - (intOf a).toNat)
  case atStart => exact ⟨0, by omega, rfl, by simp, ToI.start HCS.out⟩
  case round =>
    obtain ⟨i, hi, rfl, hgz, HI⟩ := hrel
    by_cases hlt : i < xs.length
    · obtain ⟨x, hx⟩ : ∃ x, xs[i]? = some x := ⟨xs[i], List.getElem?_eq_getElem hlt⟩
      obtain ⟨ad, v6, rfl, hadb, h0, h1, h2, h3, h4, h5, h6, h7, h8, h9, h10, h11, h12, k6⟩ := row_eOutgoing (HR.out.below HI.out.below) hx
      have hzx : sizL (eOutgoing x) ≤ 1048576 := by have := sizL_flat_le eOutgoing xs x (List.mem_of_getElem? hx); omega
      have HX := Lib.hid hx
      clear hx
      go_wp2_with fail
      refine (toOutgoing_calls _ x _ (mkrd_eOutgoing k6) hzx).mono ?_
      rintro e w1 ⟨us', fp', rfl, ho, hf, hb1⟩
      have HB1 := Lib.hid hb1
      have HO := Lib.hid ho
      have HF := Lib.hid hf
      obtain ⟨b6, f6, rfl, rfl, o6⟩ := own_eOutgoing ho
      obtain ⟨A6_, c6_, rfl, -⟩ := o6.slice
      clear ho hf hb1 o6
      obtain ⟨y0, c0, q0⟩ := HI.out.get HB1.out 0 hlt (by omega)
      obtain ⟨y1, c1, q1⟩ := HI.out.get HB1.out 1 hlt (by omega)
      obtain ⟨y2, c2, q2⟩ := HI.out.get HB1.out 2 hlt (by omega)
      obtain ⟨y3, c3, q3⟩ := HI.out.get HB1.out 3 hlt (by omega)
      obtain ⟨y4, c4, q4⟩ := HI.out.get HB1.out 4 hlt (by omega)
      obtain ⟨y5, c5, q5⟩ := HI.out.get HB1.out 5 hlt (by omega)
      obtain ⟨y6, c6, q6⟩ := HI.out.get HB1.out 6 hlt (by omega)
      obtain ⟨y7, c7, q7⟩ := HI.out.get HB1.out 7 hlt (by omega)
      obtain ⟨y8, c8, q8⟩ := HI.out.get HB1.out 8 hlt (by omega)
      obtain ⟨y9, c9, q9⟩ := HI.out.get HB1.out 9 hlt (by omega)
      obtain ⟨y10, c10, q10⟩ := HI.out.get HB1.out 10 hlt (by omega)
      obtain ⟨y11, c11, q11⟩ := HI.out.get HB1.out 11 hlt (by omega)
      obtain ⟨y12, c12, q12⟩ := HI.out.get HB1.out 12 hlt (by omega)
      rw [Nat.add_zero] at c0 q0
      have hgz1 : w.heap.size < w1.heap.size := Nat.lt_of_lt_of_le hgz HB1.out.size
      go_wp2
      go_roundw
      case rel =>
        have hst := HI.out.step HX.out HB1.out len_eOutgoing HO.out HF.out
        simp only [putRow, Nat.add_assoc, Nat.reduceAdd] at hst
        exact ⟨i + 1, by omega, by go_num, by simpa [World.setCell] using hgz1, hst⟩
      case measure => simp [intOf]; omega
    · have : i = xs.length := by omega
      subst this
      go_wp2
      go_ret
      obtain ⟨fp, ho, hf, hb⟩ := HI.out.finish hn1
      exact ⟨_, fp, rfl, ho, hf, hb⟩

set_option maxHeartbeats 800000 in
set_option maxRecDepth 100000 in
theorem eqOutgoing_calls (us us' : List Value) (x : GOutgoing) (w : World) (hr : RdLW w (eOutgoing x) us) (hr' : RdLW w (eOutgoing x) us') :
    Calls Tryz.prog 57 #[.agg us.toArray, .agg us'.toArray] w fun e w' => e = .returned (.bool true) ∧ Below w.heap.size w w' := by
  obtain ⟨v6, rfl, h6⟩ := rd_eOutgoing hr
  obtain ⟨v6', rfl, h6'⟩ := rd_eOutgoing hr'
  clear hr hr'
  have H6 := Lib.hid h6
  have H6' := Lib.hid h6'
  clear h6 h6'
  go_enter Tryz.func57, Tryz.ntmps57
  go_wp2_with fail
  refine (eqMessage_calls _ _ x.Message _ (mkrd_eMessage (H6.out.below (((Below.refl _ _).alloc (Nat.le_refl _) _).alloc (by simp) _))) (mkrd_eMessage (H6'.out.below (((Below.refl _ _).alloc (Nat.le_refl _) _).alloc (by simp) _)))).mono ?_
  rintro e w1 ⟨rfl, hb1⟩
  have hz1_0 : w.heap.size < w1.heap.size := by have := hb1.size; simp at this; omega
  have hz1_1 : w.heap.size + 1 < w1.heap.size := by have := hb1.size; simp at this; omega
  have B1 : Hid (Below w.heap.size w w1) := (((Below.refl _ _).alloc (Nat.le_refl _) _).alloc (by simp) _).trans (hb1.mono (by first | (simp; done) | (simp; omega)))
  obtain ⟨hc1, hf1⟩ := bcell hb1
  clear hb1
  go_wp2
  go_ret
  exact ⟨rfl, B1.out⟩

set_option maxHeartbeats 800000 in
set_option maxRecDepth 100000 in
theorem eqOutgoingS_calls (xs : List GOutgoing) (v v' : Value) (w : World) (hr : RdW w (.s xs.length (xs.flatMap eOutgoing)) v) (hr' : RdW w (.s xs.length (xs.flatMap eOutgoing)) v') :
    Calls Tryz.prog 34 #[v, v'] w fun e w' => e = .returned (.bool true) ∧ Below w.heap.size w w' := by
  obtain ⟨A, c, rfl, ⟨_, _, hl⟩⟩ := hr.slice
  obtain ⟨A', c', rfl, _⟩ := hr'.slice
  have HR := Lib.hid hr
  have HR' := Lib.hid hr'
  clear hr hr'
  go_enter Tryz.func34, Tryz.ntmps34
  go_wp2
  go_loopw [5] (fun a wr => ∃ i : Nat, i ≤ xs.length ∧ a = .int .i64 i ∧ Hid (Below w.heap.size w wr)) (fun a wr => xs.length - (intOf a).toNat)
  case atStart => exact ⟨0, by omega, rfl, Below.refl _ w⟩
  case round =>
    obtain ⟨i, hi, rfl, HB⟩ := hrel
    by_cases hlt : i < xs.length
    · obtain ⟨x, hx⟩ : ∃ x, xs[i]? = some x := ⟨xs[i], List.getElem?_eq_getElem hlt⟩
      obtain ⟨ad, v6, rfl, hadb, h0, h1, h2, h3, h4, h5, h6, h7, h8, h9, h10, h11, h12, k6⟩ := row_eOutgoing (HR.out.below HB.out) hx
      obtain ⟨ad', v6', rfl, hadb', h0', h1', h2', h3', h4', h5', h6', h7', h8', h9', h10', h11', h12', k6'⟩ := row_eOutgoing (HR'.out.below HB.out) hx
      have HX := Lib.hid hx
      clear hx
      go_wp2
      go_still_tail 8, (by kernel_rfl)
      change wpList _ _ _ _ _ wr.drew
      go_wp2_with fail
      refine (eqOutgoing_calls _ _ x _ (mkrd_eOutgoing k6.drew) (mkrd_eOutgoing k6'.drew)).mono ?_
      rintro e w1 ⟨rfl, hb1⟩
      have HB1 := Lib.hid hb1
      clear hb1
      go_wp2
      go_roundw
      case rel => exact ⟨i + 1, by omega, by go_num, HB.out.drew.trans (HB1.out.mono HB.out.drew.size)⟩
      case measure => simp [intOf]; omega
    · have : i = xs.length := by omega
      subst this
      go_wp2
      go_ret
      exact ⟨rfl, HB.out⟩

set_option maxHeartbeats 800000 in
set_option maxRecDepth 100000 in
theorem szOutgoing_calls (us : List Value) (x : GOutgoing) (left : Int) (w : World) (hr : RdLW w (eOutgoing x) us) (hstr : StrOkL (eOutgoing x)) (h0 : 0 ≤ left) (h1 : left ≤ 1048576) :
    Calls Tryz.prog 42 #[.agg us.toArray, .int .i64 left] w fun e w' => ∃ r : Int, e = .returned (.int .i64 r) ∧ SzR r left (sizL (eOutgoing x)) ∧ Below w.heap.size w w' := by
  rw [siz_eOutgoing]
  obtain ⟨v6, rfl, h6⟩ := rd_eOutgoing hr
  clear hr
  have H6 := Lib.hid h6
  clear h6
  have t5 := str_eOutgoing hstr
  have HSTR := Lib.hid hstr
  clear hstr
  go_enter Tryz.func42, Tryz.ntmps42
  go_wp2_with fail
  refine (szMessage_calls _ x.Message _ _ (mkrd_eMessage (H6.out.below ((Below.refl _ _).alloc (Nat.le_refl _) _))) (by have h := HSTR.out; simpa only [eOutgoing, eMessage, StrOkL_cons, StrOkL_nil, StrOk_str, StrOk_int, StrOk_bool, StrOk_s, true_and, and_true] using h) (by omega) (by omega)).mono ?_
  rintro e w1 ⟨r1, rfl, hr1, hb1⟩
  have B1 : Blk w1 w.heap.size 100 #[.int .i64 x.To, .int .i64 x.Message.Kind, .int .i64 x.Message.Pos, .int .i64 x.Message.Answer, .int .i64 x.Message.Question, .string x.Message.Name, v6, .int .i64 x.Message.Value.Kind, .int .i64 x.Message.Value.N, .int .i64 x.Message.Count, .int .i64 x.Message.Tag.Vat, .int .i64 x.Message.Tag.Entity, .int .i64 x.Message.Tag.Seq] := (Blk.new _ _ _).below hb1
  have D1 : Below w.heap.size w w1 := ((Below.refl _ _).alloc (Nat.le_refl _) _).trans (hb1.mono (by simp only [size_alloc]; omega))
  have HB1 := Lib.hid B1
  have HD1 := Lib.hid D1
  obtain ⟨cb1, fb1⟩ := B1.rules
  clear hb1 B1 D1
  rcases hr1 with rfl | ⟨hr1, hr1_0⟩
  · go_wp2
    go_ret
    exact ⟨_, rfl, .inl rfl, HD1.out⟩
  have hr1_9 : r1 ≤ 1048576 := by omega
  have HR1 := Lib.hid hr1
  clear hr1
  go_wp2
  go_ret
  exact ⟨_, rfl, .inr ⟨by have e1 := HR1.out; have z1 := siz_eMessage x.Message; omega, by omega⟩, HD1.out⟩

set_option maxHeartbeats 800000 in
set_option maxRecDepth 100000 in
theorem szOutgoingS_calls (xs : List GOutgoing) (v : Value) (left : Int) (w : World) (hr : RdW w (.s xs.length (xs.flatMap eOutgoing)) v) (hstr : StrOkL (xs.flatMap eOutgoing)) (h0 : 0 ≤ left) (h1 : left ≤ 1048576) :
    Calls Tryz.prog 16 #[v, .int .i64 left] w fun e w' => ∃ r : Int, e = .returned (.int .i64 r) ∧ SzR r left (xs.length + sizL (xs.flatMap eOutgoing)) ∧ Below w.heap.size w w' := by
  obtain ⟨A, c, rfl, ⟨_, _, hl⟩⟩ := hr.slice
  have HR := Lib.hid hr
  clear hr
  by_cases hlt : left - xs.length < 0
  · go_enter Tryz.func16, Tryz.ntmps16
    go_wp2
    go_ret
    exact ⟨_, rfl, .inl rfl, Below.refl _ w⟩
  · go_enter Tryz.func16, Tryz.ntmps16
    go_wp2
    go_loopw [1, 5] (fun a b wr => ∃ (i : Nat) (q : Int), i ≤ xs.length ∧ b = .int .i64 i ∧ a = .int .i64 q ∧ 0 ≤ q ∧ q ≤ 1048576 ∧ Hid (q = left - xs.length - sizL ((xs.take i).flatMap eOutgoing)) ∧ Hid (Below w.heap.size w wr)) (fun a b wr => xs.length - (intOf b).toNat)
    case atStart => exact ⟨0, _, by omega, rfl, rfl, by omega, by omega, by simp [sizL_nil, Hid], Below.refl _ w⟩
    case round =>
      obtain ⟨i, q, hi, rfl, rfl, hq0, hq9, HQ, HB⟩ := hrel
      by_cases hlt : i < xs.length
      · obtain ⟨x, hx⟩ : ∃ x, xs[i]? = some x := ⟨xs[i], List.getElem?_eq_getElem hlt⟩
        obtain ⟨ad, v6, rfl, hadb, h0, h1, h2, h3, h4, h5, h6, h7, h8, h9, h10, h11, h12, k6⟩ := row_eOutgoing (HR.out.below HB.out) hx
        have HX := Lib.hid hx
        clear hx
        go_wp2_with fail
        refine (szOutgoing_calls _ x _ _ (mkrd_eOutgoing k6) (StrOkL_mem hstr (List.mem_of_getElem? HX.out)) hq0 hq9).mono ?_
        rintro e w1 ⟨r, rfl, hr, hb1⟩
        have HB1 := Lib.hid hb1
        clear hb1
        have hq := HQ.out
        have hs1 := siz_step eOutgoing xs i x HX.out
        have hs2 := siz_take_le eOutgoing xs (i + 1)
        rcases hr with rfl | ⟨hr, hr0⟩
        · go_wp2
          go_ret
          exact ⟨_, rfl, .inl rfl, HB.out.trans (HB1.out.mono HB.out.size)⟩
        · have hr9 : r ≤ 1048576 := by omega
          have HQ2 : Hid (r = left - xs.length - sizL ((xs.take (i + 1)).flatMap eOutgoing)) := by unfold Hid; omega
          clear hr hs1 hs2 hq
          go_wp2
          go_roundw
          case rel => exact ⟨i + 1, r, by omega, by go_num, rfl, hr0, hr9, HQ2, HB.out.trans (HB1.out.mono HB.out.size)⟩
          case measure => simp [intOf]; omega
      · have : i = xs.length := by omega
        subst this
        have hq := HQ.out
        rw [List.take_length] at hq
        have HQ2 := Lib.hid hq
        clear hq
        go_wp2
        go_ret
        exact ⟨_, rfl, .inr ⟨by have := HQ2.out; omega, hq0⟩, HB.out⟩

set_option maxHeartbeats 800000 in
set_option maxRecDepth 100000 in
theorem toVat_calls (us : List Value) (x : GVat) (w : World) (hr : RdLW w (eVat x) us) (hz : sizL (eVat x) ≤ 1048576) :
    Calls Tryz.prog 6 #[.agg us.toArray] w fun e w' => ∃ us' fp, e = .returned (.agg us'.toArray) ∧ OwnL w' (eVat x) us' fp ∧ Fresh w fp ∧ Below w.heap.size w w' := by
  rw [siz_eVat] at hz
  obtain ⟨v1, v2, v3, v4, rfl, h1, h2, h3, h4⟩ := rd_eVat hr
  clear hr
  have H1 := Lib.hid h1
  clear h1
  have H2 := Lib.hid h2
  clear h2
  have H3 := Lib.hid h3
  clear h3
  have H4 := Lib.hid h4
  clear h4
  go_enter Tryz.func6, Tryz.ntmps6
  go_wp2_with fail
  refine (toEntityS_calls _ _ _ (H1.out.below ?hbel1) (by omega)).mono ?_
  case hbel1 => exact ((((Below.refl _ _).alloc (Nat.le_refl _) _).alloc (by simp) _).alloc (by simp; omega) _)
  rintro e w1 ⟨u1, f1, rfl, o1, n1, hb1⟩
  obtain ⟨A1, c1, rfl, _⟩ := o1.slice
  have Z1 := Lib.hid hb1
  have S1 : w.heap.size + 3 ≤ w1.heap.size := by have h := hb1.size; simp only [size_set, size_alloc] at h; omega
  have hz1_0 : w.heap.size < w1.heap.size := by omega
  have hz1_1 : w.heap.size + 1 < w1.heap.size := by omega
  have hz1_2 : w.heap.size + 1 + 1 < w1.heap.size := by omega
  have B1 : Hid (Below w.heap.size w w1) := by
    refine Below.trans ?_ (hb1.mono (by simp only [size_set, size_alloc]; omega))
    exact ((((Below.refl _ _).alloc (Nat.le_refl _) _).alloc (by simp) _).alloc (by simp; omega) _)
  have KA1 : Hid (Blk w1 (w.heap.size) 27 #[.int .i64 x.Id, v1, v2, v3, v4]) := by
    refine Blk.below ?_ hb1
    exact ((Blk.made rfl).alloc _).alloc _
  have KO1 : Hid (Blk w1 (w.heap.size + 1 + 1) 36 #[.int .i64 x.Id, .slice none 0 0, .slice none 0 0, .slice none 0 0, .slice none 0 0]) := by
    refine Blk.below ?_ hb1
    exact Blk.made (by simp)
  have KR1 : Hid (Blk w1 (w.heap.size + 1) 36 #[.int .i64 0, .slice none 0 0, .slice none 0 0, .slice none 0 0, .slice none 0 0]) := by
    refine Blk.below ?_ hb1
    exact (Blk.made (by simp)).alloc _
  obtain ⟨ca1, fa1⟩ := KA1.out.rules
  obtain ⟨co1, fo1⟩ := KO1.out.rules
  obtain ⟨cr1, fr1⟩ := KR1.out.rules
  clear hb1
  go_wp2_with fail
  refine (toSentS_calls _ _ _ (H2.out.below ?hbel2) (by omega)).mono ?_
  case hbel2 => exact (B1.out.setCell (by dsimp only; omega) _)
  rintro e w2 ⟨u2, f2, rfl, o2, n2, hb2⟩
  obtain ⟨A2, c2, rfl, _⟩ := o2.slice
  have Z2 := Lib.hid hb2
  have S2 : w1.heap.size ≤ w2.heap.size := by have h := hb2.size; simp only [size_set, size_alloc] at h; omega
  have hz2_0 : w.heap.size < w2.heap.size := by omega
  have hz2_1 : w.heap.size + 1 < w2.heap.size := by omega
  have hz2_2 : w.heap.size + 1 + 1 < w2.heap.size := by omega
  have B2 : Hid (Below w.heap.size w w2) := by
    refine Below.trans ?_ (hb2.mono (by simp only [size_set, size_alloc]; omega))
    exact (B1.out.setCell (by dsimp only; omega) _)
  have KA2 : Hid (Blk w2 (w.heap.size) 27 #[.int .i64 x.Id, v1, v2, v3, v4]) := by
    refine Blk.below ?_ hb2
    exact (KA1.out.far (by dsimp only; omega) _)
  have KO2 : Hid (Blk w2 (w.heap.size + 1 + 1) 36 #[.int .i64 x.Id, .slice A1 x.Entities.length c1, .slice none 0 0, .slice none 0 0, .slice none 0 0]) := by
    refine Blk.below ?_ hb2
    exact Blk.eq (KO1.out.set_ 1 _) (by simp)
  have KR2 : Hid (Blk w2 (w.heap.size + 1) 36 #[.int .i64 0, .slice none 0 0, .slice none 0 0, .slice none 0 0, .slice none 0 0]) := by
    refine Blk.below ?_ hb2
    exact (KR1.out.far (by dsimp only; omega) _)
  obtain ⟨ca2, fa2⟩ := KA2.out.rules
  obtain ⟨co2, fo2⟩ := KO2.out.rules
  obtain ⟨cr2, fr2⟩ := KR2.out.rules
  clear hb2
  go_wp2_with fail
  refine (toLinkS_calls _ _ _ (H3.out.below ?hbel3) (by omega)).mono ?_
  case hbel3 => exact (B2.out.setCell (by dsimp only; omega) _)
  rintro e w3 ⟨u3, f3, rfl, o3, n3, hb3⟩
  obtain ⟨A3, c3, rfl, _⟩ := o3.slice
  have Z3 := Lib.hid hb3
  have S3 : w2.heap.size ≤ w3.heap.size := by have h := hb3.size; simp only [size_set, size_alloc] at h; omega
  have hz3_0 : w.heap.size < w3.heap.size := by omega
  have hz3_1 : w.heap.size + 1 < w3.heap.size := by omega
  have hz3_2 : w.heap.size + 1 + 1 < w3.heap.size := by omega
  have B3 : Hid (Below w.heap.size w w3) := by
    refine Below.trans ?_ (hb3.mono (by simp only [size_set, size_alloc]; omega))
    exact (B2.out.setCell (by dsimp only; omega) _)
  have KA3 : Hid (Blk w3 (w.heap.size) 27 #[.int .i64 x.Id, v1, v2, v3, v4]) := by
    refine Blk.below ?_ hb3
    exact (KA2.out.far (by dsimp only; omega) _)
  have KO3 : Hid (Blk w3 (w.heap.size + 1 + 1) 36 #[.int .i64 x.Id, .slice A1 x.Entities.length c1, .slice A2 x.Loop.length c2, .slice none 0 0, .slice none 0 0]) := by
    refine Blk.below ?_ hb3
    exact Blk.eq (KO2.out.set_ 2 _) (by simp)
  have KR3 : Hid (Blk w3 (w.heap.size + 1) 36 #[.int .i64 0, .slice none 0 0, .slice none 0 0, .slice none 0 0, .slice none 0 0]) := by
    refine Blk.below ?_ hb3
    exact (KR2.out.far (by dsimp only; omega) _)
  obtain ⟨ca3, fa3⟩ := KA3.out.rules
  obtain ⟨co3, fo3⟩ := KO3.out.rules
  obtain ⟨cr3, fr3⟩ := KR3.out.rules
  clear hb3
  go_wp2_with fail
  refine (toOutgoingS_calls _ _ _ (H4.out.below ?hbel4) (by omega)).mono ?_
  case hbel4 => exact (B3.out.setCell (by dsimp only; omega) _)
  rintro e w4 ⟨u4, f4, rfl, o4, n4, hb4⟩
  obtain ⟨A4, c4, rfl, _⟩ := o4.slice
  have Z4 := Lib.hid hb4
  have S4 : w3.heap.size ≤ w4.heap.size := by have h := hb4.size; simp only [size_set, size_alloc] at h; omega
  have hz4_0 : w.heap.size < w4.heap.size := by omega
  have hz4_1 : w.heap.size + 1 < w4.heap.size := by omega
  have hz4_2 : w.heap.size + 1 + 1 < w4.heap.size := by omega
  have B4 : Hid (Below w.heap.size w w4) := by
    refine Below.trans ?_ (hb4.mono (by simp only [size_set, size_alloc]; omega))
    exact (B3.out.setCell (by dsimp only; omega) _)
  have KA4 : Hid (Blk w4 (w.heap.size) 27 #[.int .i64 x.Id, v1, v2, v3, v4]) := by
    refine Blk.below ?_ hb4
    exact (KA3.out.far (by dsimp only; omega) _)
  have KO4 : Hid (Blk w4 (w.heap.size + 1 + 1) 36 #[.int .i64 x.Id, .slice A1 x.Entities.length c1, .slice A2 x.Loop.length c2, .slice A3 x.Links.length c3, .slice none 0 0]) := by
    refine Blk.below ?_ hb4
    exact Blk.eq (KO3.out.set_ 3 _) (by simp)
  have KR4 : Hid (Blk w4 (w.heap.size + 1) 36 #[.int .i64 0, .slice none 0 0, .slice none 0 0, .slice none 0 0, .slice none 0 0]) := by
    refine Blk.below ?_ hb4
    exact (KR3.out.far (by dsimp only; omega) _)
  obtain ⟨ca4, fa4⟩ := KA4.out.rules
  obtain ⟨co4, fo4⟩ := KO4.out.rules
  obtain ⟨cr4, fr4⟩ := KR4.out.rules
  clear hb4
  have O1 := Lib.hid o1
  clear o1
  have O2 := Lib.hid o2
  clear o2
  have O3 := Lib.hid o3
  clear o3
  have O4 := Lib.hid o4
  clear o4
  have N1 := Lib.hid n1
  clear n1
  have N2 := Lib.hid n2
  clear n2
  have N3 := Lib.hid n3
  clear n3
  have N4 := Lib.hid n4
  clear n4
  go_wp2
  refine post_cell (w0 := w4) (fun g => w.heap.size ≤ g ∧ g < w.heap.size + 3) Tryz.results6 (w.heap.size + 1) #[.int .i64 x.Id, .slice A1 x.Entities.length c1, .slice A2 x.Loop.length c2, .slice A3 x.Links.length c3, .slice A4 x.Out.length c4] _ rfl (Blk.eq ((((((KR4.out.far (by dsimp only; omega) _).set_ 0 _).set_ 1 _).set_ 2 _).set_ 3 _).set_ 4 _) (by simp)) Tryz.underlying36 rfl (by kernel_rfl) rfl (((((((Chg.refl _ _).setCell (.inl (by dsimp only; omega)) _).setCell (.inl (by dsimp only; omega)) _).setCell (.inl (by dsimp only; omega)) _).setCell (.inl (by dsimp only; omega)) _).setCell (.inl (by dsimp only; omega)) _).setCell (.inl (by dsimp only; omega)) _) ?_
  intro W hW
  have F1 : ∀ g, g ∈ f1 → w.heap.size + 2 < g := fun g hg => by have h1 := N1.out.2 g hg; simp only [size_set, size_alloc] at h1; omega
  have P1 := (Own.below (Own.chg (Own.below (Own.chg (Own.below (Own.chg O1.out (T := fun g => w.heap.size ≤ g ∧ g < w.heap.size + 3) ((Chg.refl _ _).setCell (.inl (by dsimp only; omega)) _) (fun g hg => by have := F1 g hg; show ¬ (_ ∧ _); omega)) Z2.out) (T := fun g => w.heap.size ≤ g ∧ g < w.heap.size + 3) ((Chg.refl _ _).setCell (.inl (by dsimp only; omega)) _) (fun g hg => by have := F1 g hg; show ¬ (_ ∧ _); omega)) Z3.out) (T := fun g => w.heap.size ≤ g ∧ g < w.heap.size + 3) ((Chg.refl _ _).setCell (.inl (by dsimp only; omega)) _) (fun g hg => by have := F1 g hg; show ¬ (_ ∧ _); omega)) Z4.out)
  have F2 : ∀ g, g ∈ f2 → w.heap.size + 2 < g := fun g hg => by have h1 := N2.out.2 g hg; simp only [size_set, size_alloc] at h1; omega
  have P2 := (Own.below (Own.chg (Own.below (Own.chg O2.out (T := fun g => w.heap.size ≤ g ∧ g < w.heap.size + 3) ((Chg.refl _ _).setCell (.inl (by dsimp only; omega)) _) (fun g hg => by have := F2 g hg; show ¬ (_ ∧ _); omega)) Z3.out) (T := fun g => w.heap.size ≤ g ∧ g < w.heap.size + 3) ((Chg.refl _ _).setCell (.inl (by dsimp only; omega)) _) (fun g hg => by have := F2 g hg; show ¬ (_ ∧ _); omega)) Z4.out)
  have F3 : ∀ g, g ∈ f3 → w.heap.size + 2 < g := fun g hg => by have h1 := N3.out.2 g hg; simp only [size_set, size_alloc] at h1; omega
  have P3 := (Own.below (Own.chg O3.out (T := fun g => w.heap.size ≤ g ∧ g < w.heap.size + 3) ((Chg.refl _ _).setCell (.inl (by dsimp only; omega)) _) (fun g hg => by have := F3 g hg; show ¬ (_ ∧ _); omega)) Z4.out)
  have F4 : ∀ g, g ∈ f4 → w.heap.size + 2 < g := fun g hg => by have h1 := N4.out.2 g hg; simp only [size_set, size_alloc] at h1; omega
  have P4 := O4.out
  refine ⟨_, _, rfl, mkown_eVat (P1.chg hW (fun g hg => by have := F1 g hg; show ¬ (_ ∧ _); omega)) (P2.chg hW (fun g hg => by have := F2 g hg; show ¬ (_ ∧ _); omega)) (P3.chg hW (fun g hg => by have := F3 g hg; show ¬ (_ ∧ _); omega)) (P4.chg hW (fun g hg => by have := F4 g hg; show ¬ (_ ∧ _); omega)), ?_, ?_⟩
  · skip
    have V1 : Fresh w f1 := N1.out.mono (by simp only [size_set, size_alloc]; omega)
    have L1 : ∀ g, g ∈ f1 → g < w1.heap.size := Own.lt _ _ _ O1.out
    have V2 : Fresh w1 f2 := N2.out.mono (by simp only [size_set, size_alloc]; omega)
    have L2 : ∀ g, g ∈ f2 → g < w2.heap.size := Own.lt _ _ _ O2.out
    have V3 : Fresh w2 f3 := N3.out.mono (by simp only [size_set, size_alloc]; omega)
    have L3 : ∀ g, g ∈ f3 → g < w3.heap.size := Own.lt _ _ _ O3.out
    have V4 : Fresh w3 f4 := N4.out.mono (by simp only [size_set, size_alloc]; omega)
    have L4 : ∀ g, g ∈ f4 → g < w4.heap.size := Own.lt _ _ _ O4.out
    exact (V1.put L1 (V2.put L2 (V3.put L3 V4 (by omega)) (by omega)) (by omega))
  · exact below_chg B4.out hW B4.out.size (fun i hi => hi.1)

set_option maxHeartbeats 800000 in
set_option maxRecDepth 100000 in
theorem eqVat_calls (us us' : List Value) (x : GVat) (w : World) (hr : RdLW w (eVat x) us) (hr' : RdLW w (eVat x) us') :
    Calls Tryz.prog 9 #[.agg us.toArray, .agg us'.toArray] w fun e w' => e = .returned (.bool true) ∧ Below w.heap.size w w' := by
  obtain ⟨v1, v2, v3, v4, rfl, h1, h2, h3, h4⟩ := rd_eVat hr
  obtain ⟨v1', v2', v3', v4', rfl, h1', h2', h3', h4'⟩ := rd_eVat hr'
  clear hr hr'
  have H1 := Lib.hid h1
  have H1' := Lib.hid h1'
  clear h1 h1'
  have H2 := Lib.hid h2
  have H2' := Lib.hid h2'
  clear h2 h2'
  have H3 := Lib.hid h3
  have H3' := Lib.hid h3'
  clear h3 h3'
  have H4 := Lib.hid h4
  have H4' := Lib.hid h4'
  clear h4 h4'
  go_enter Tryz.func9, Tryz.ntmps9
  go_wp2_with fail
  refine (eqEntityS_calls _ _ _ _ (H1.out.below (((Below.refl _ _).alloc (Nat.le_refl _) _).alloc (by simp) _)) (H1'.out.below (((Below.refl _ _).alloc (Nat.le_refl _) _).alloc (by simp) _))).mono ?_
  rintro e w1 ⟨rfl, hb1⟩
  have hz1_0 : w.heap.size < w1.heap.size := by have := hb1.size; simp at this; omega
  have hz1_1 : w.heap.size + 1 < w1.heap.size := by have := hb1.size; simp at this; omega
  have B1 : Hid (Below w.heap.size w w1) := (((Below.refl _ _).alloc (Nat.le_refl _) _).alloc (by simp) _).trans (hb1.mono (by first | (simp; done) | (simp; omega)))
  obtain ⟨hc1, hf1⟩ := bcell hb1
  clear hb1
  go_wp2_with fail
  refine (eqSentS_calls _ _ _ _ (H2.out.below B1.out) (H2'.out.below B1.out)).mono ?_
  rintro e w2 ⟨rfl, hb2⟩
  have hz2_0 : w.heap.size < w2.heap.size := by have := hb2.size; have := hz1_0; omega
  have hz2_1 : w.heap.size + 1 < w2.heap.size := by have := hb2.size; have := hz1_1; omega
  have B2 : Hid (Below w.heap.size w w2) := B1.out.trans (hb2.mono (by omega))
  obtain ⟨hc2, hf2⟩ := bcell hb2
  clear hb2
  go_wp2_with fail
  refine (eqLinkS_calls _ _ _ _ (H3.out.below B2.out) (H3'.out.below B2.out)).mono ?_
  rintro e w3 ⟨rfl, hb3⟩
  have hz3_0 : w.heap.size < w3.heap.size := by have := hb3.size; have := hz2_0; omega
  have hz3_1 : w.heap.size + 1 < w3.heap.size := by have := hb3.size; have := hz2_1; omega
  have B3 : Hid (Below w.heap.size w w3) := B2.out.trans (hb3.mono (by omega))
  obtain ⟨hc3, hf3⟩ := bcell hb3
  clear hb3
  go_wp2_with fail
  refine (eqOutgoingS_calls _ _ _ _ (H4.out.below B3.out) (H4'.out.below B3.out)).mono ?_
  rintro e w4 ⟨rfl, hb4⟩
  have hz4_0 : w.heap.size < w4.heap.size := by have := hb4.size; have := hz3_0; omega
  have hz4_1 : w.heap.size + 1 < w4.heap.size := by have := hb4.size; have := hz3_1; omega
  have B4 : Hid (Below w.heap.size w w4) := B3.out.trans (hb4.mono (by omega))
  obtain ⟨hc4, hf4⟩ := bcell hb4
  clear hb4
  go_wp2
  go_ret
  exact ⟨rfl, B4.out⟩

set_option maxHeartbeats 800000 in
set_option maxRecDepth 100000 in
theorem szVat_calls (us : List Value) (x : GVat) (left : Int) (w : World) (hr : RdLW w (eVat x) us) (hstr : StrOkL (eVat x)) (h0 : 0 ≤ left) (h1 : left ≤ 1048576) :
    Calls Tryz.prog 4 #[.agg us.toArray, .int .i64 left] w fun e w' => ∃ r : Int, e = .returned (.int .i64 r) ∧ SzR r left (sizL (eVat x)) ∧ Below w.heap.size w w' := by
  rw [siz_eVat]
  obtain ⟨v1, v2, v3, v4, rfl, h1, h2, h3, h4⟩ := rd_eVat hr
  clear hr
  have H1 := Lib.hid h1
  clear h1
  have H2 := Lib.hid h2
  clear h2
  have H3 := Lib.hid h3
  clear h3
  have H4 := Lib.hid h4
  clear h4
  obtain ⟨t1, t2, t4⟩ := str_eVat hstr
  have HT1 := Lib.hid t1
  clear t1
  have HT2 := Lib.hid t2
  clear t2
  have HT4 := Lib.hid t4
  clear t4
  clear hstr
  go_enter Tryz.func4, Tryz.ntmps4
  go_wp2_with fail
  refine (szEntityS_calls _ _ _ _ (H1.out.below ((Below.refl _ _).alloc (Nat.le_refl _) _)) HT1.out (by omega) (by omega)).mono ?_
  rintro e w1 ⟨r1, rfl, hr1, hb1⟩
  have B1 : Blk w1 w.heap.size 27 #[.int .i64 x.Id, v1, v2, v3, v4] := (Blk.new _ _ _).below hb1
  have D1 : Below w.heap.size w w1 := ((Below.refl _ _).alloc (Nat.le_refl _) _).trans (hb1.mono (by simp only [size_alloc]; omega))
  have HB1 := Lib.hid B1
  have HD1 := Lib.hid D1
  obtain ⟨cb1, fb1⟩ := B1.rules
  clear hb1 B1 D1
  rcases hr1 with rfl | ⟨hr1, hr1_0⟩
  · go_wp2
    go_ret
    exact ⟨_, rfl, .inl rfl, HD1.out⟩
  have hr1_9 : r1 ≤ 1048576 := by omega
  have HR1 := Lib.hid hr1
  clear hr1
  go_wp2_with fail
  refine (szSentS_calls _ _ _ _ (H2.out.below HD1.out) HT2.out (by omega) (by omega)).mono ?_
  rintro e w2 ⟨r2, rfl, hr2, hb2⟩
  have B2 : Blk w2 w.heap.size 27 #[.int .i64 x.Id, v1, v2, v3, v4] := HB1.out.below hb2
  have D2 : Below w.heap.size w w2 := HD1.out.trans (hb2.mono HD1.out.size)
  have HB2 := Lib.hid B2
  have HD2 := Lib.hid D2
  obtain ⟨cb2, fb2⟩ := B2.rules
  clear hb2 B2 D2
  rcases hr2 with rfl | ⟨hr2, hr2_0⟩
  · go_wp2
    go_ret
    exact ⟨_, rfl, .inl rfl, HD2.out⟩
  have hr2_9 : r2 ≤ 1048576 := by omega
  have HR2 := Lib.hid hr2
  clear hr2
  go_wp2_with fail
  refine (szLinkS_calls _ _ _ _ (H3.out.below HD2.out) (by omega) (by omega)).mono ?_
  rintro e w3 ⟨r3, rfl, hr3, hb3⟩
  have B3 : Blk w3 w.heap.size 27 #[.int .i64 x.Id, v1, v2, v3, v4] := HB2.out.below hb3
  have D3 : Below w.heap.size w w3 := HD2.out.trans (hb3.mono HD2.out.size)
  have HB3 := Lib.hid B3
  have HD3 := Lib.hid D3
  obtain ⟨cb3, fb3⟩ := B3.rules
  clear hb3 B3 D3
  rcases hr3 with rfl | ⟨hr3, hr3_0⟩
  · go_wp2
    go_ret
    exact ⟨_, rfl, .inl rfl, HD3.out⟩
  have hr3_9 : r3 ≤ 1048576 := by omega
  have HR3 := Lib.hid hr3
  clear hr3
  go_wp2_with fail
  refine (szOutgoingS_calls _ _ _ _ (H4.out.below HD3.out) HT4.out (by omega) (by omega)).mono ?_
  rintro e w4 ⟨r4, rfl, hr4, hb4⟩
  have B4 : Blk w4 w.heap.size 27 #[.int .i64 x.Id, v1, v2, v3, v4] := HB3.out.below hb4
  have D4 : Below w.heap.size w w4 := HD3.out.trans (hb4.mono HD3.out.size)
  have HB4 := Lib.hid B4
  have HD4 := Lib.hid D4
  obtain ⟨cb4, fb4⟩ := B4.rules
  clear hb4 B4 D4
  rcases hr4 with rfl | ⟨hr4, hr4_0⟩
  · go_wp2
    go_ret
    exact ⟨_, rfl, .inl rfl, HD4.out⟩
  have hr4_9 : r4 ≤ 1048576 := by omega
  have HR4 := Lib.hid hr4
  clear hr4
  go_wp2
  go_ret
  exact ⟨_, rfl, .inr ⟨by have e1 := HR1.out; have e2 := HR2.out; have e3 := HR3.out; have e4 := HR4.out; omega, by omega⟩, HD4.out⟩

end Go.Proofs.YtmnpoajdibmocaaGreat
