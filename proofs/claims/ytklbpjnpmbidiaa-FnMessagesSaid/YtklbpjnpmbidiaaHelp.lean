import Derived.Test.YtklbpjnpmbidiaaProg
import Derived.Test.YtklbpjnpmbidiaaTypes
import Derived.StillTailTactics
import Derived.Deep.RegionHeld3
import Derived.Laws.IdiomStrings
import Derived.Test.YtklbpjnpmbidiaaAppend
import Derived.Laws.StructEq
import Derived.Lib.SliceRun
import Derived.Shelf.RegionOpenPlain
namespace Go.Proofs.Ytklbpjnpmbidiaa
open Go.RowKit
set_option linter.unusedVariables false
set_option linter.unusedSimpArgs false

set_option maxHeartbeats 800000 in
set_option maxRecDepth 100000 in
theorem toByteS_calls (xs : List UInt8) (v : Value) (w : World) (hr : RdW w (.s xs.length (xs.flatMap eByte)) v) (hn : xs.length ≤ 1048576) :
    Calls Try.prog 6 #[v] w fun e w' => ∃ v' fp, e = .returned v' ∧ Own w' (.s xs.length (xs.flatMap eByte)) v' fp ∧ Fresh w fp ∧ Below w.heap.size w w' := by
  obtain ⟨A, c, rfl, ⟨_, _, hl⟩⟩ := hr.slice
  have HR := Lib.hid hr
  clear hr
  have hn1 : xs.length ≤ 1048576 := by omega
  obtain ⟨cs0, hcs, hmk⟩ := run_make_any (P := Try.prog) 22 5 1 1 Try.underlying22 ⟨_, _, rfl, rfl, rfl, rfl⟩ xs.length (by omega) (by omega)
  have HCS := Lib.hid hcs
  clear hcs
  go_enter Try.func6, Try.ntmps6
  go_wp2
  go_loopw [4] (fun a wr => ∃ i : Nat, i ≤ xs.length ∧ a = .int .i64 i ∧ w.heap.size < wr.heap.size ∧ Hid (ToI eByte 1 xs w wr i)) (fun a wr => xs.length - (intOf a).toNat)
  case atStart => exact ⟨0, by omega, rfl, by simp, ToI.start HCS.out⟩
  case round =>
    obtain ⟨i, hi, rfl, hgz, HI⟩ := hrel
    by_cases hlt : i < xs.length
    · obtain ⟨x, hx⟩ : ∃ x, xs[i]? = some x := ⟨xs[i], List.getElem?_eq_getElem hlt⟩
      obtain ⟨ad, rfl, hadb, h0⟩ := row_eByte (HR.out.below HI.out.below) hx
      obtain ⟨y0, c0, f0⟩ := HI.out.get (Below.refl _ _) 0 hlt (by omega)
      rw [Nat.mul_one, Nat.add_zero] at c0 f0
      have HX := Lib.hid hx
      clear hx
      go_wp2
      go_roundw
      case rel =>
        have hst := HI.out.step HX.out (Below.refl _ _) len_eByte (mkown_eByte (x := x)) (Fresh.nil _)
        rw [Nat.mul_one] at hst
        exact ⟨i + 1, by omega, by go_num, by simpa [World.setCell] using hgz, hst⟩
      case measure => simp [intOf]; omega
    · have : i = xs.length := by omega
      subst this
      go_wp2
      go_ret
      obtain ⟨fp, ho, hf, hb⟩ := HI.out.finish hn1
      exact ⟨_, fp, rfl, ho, hf, hb⟩

set_option maxHeartbeats 800000 in
set_option maxRecDepth 100000 in
theorem eqByteS_calls (xs : List UInt8) (v v' : Value) (w : World) (hr : RdW w (.s xs.length (xs.flatMap eByte)) v) (hr' : RdW w (.s xs.length (xs.flatMap eByte)) v') :
    Calls Try.prog 9 #[v, v'] w fun e w' => e = .returned (.bool true) ∧ Below w.heap.size w w' := by
  obtain ⟨A, c, rfl, ⟨_, _, hl⟩⟩ := hr.slice
  obtain ⟨A', c', rfl, _⟩ := hr'.slice
  have HR := Lib.hid hr
  have HR' := Lib.hid hr'
  clear hr hr'
  go_enter Try.func9, Try.ntmps9
  go_wp2
  go_loopw [5] (fun a wr => ∃ i : Nat, i ≤ xs.length ∧ a = .int .i64 i ∧ Hid (Below w.heap.size w wr)) (fun a wr => xs.length - (intOf a).toNat)
  case atStart => exact ⟨0, by omega, rfl, Below.refl _ w⟩
  case round =>
    obtain ⟨i, hi, rfl, HB⟩ := hrel
    by_cases hlt : i < xs.length
    · obtain ⟨x, hx⟩ : ∃ x, xs[i]? = some x := ⟨xs[i], List.getElem?_eq_getElem hlt⟩
      obtain ⟨ad, rfl, hadb, h0⟩ := row_eByte (HR.out.below HB.out) hx
      obtain ⟨ad', rfl, hadb', h0'⟩ := row_eByte (HR'.out.below HB.out) hx
      have HX := Lib.hid hx
      clear hx
      go_wp2
      go_quiet (fail)
      go_wp2
      go_roundw
      case rel => exact ⟨i + 1, by omega, by go_num, belowN HB.out _⟩
      case measure => simp [intOf]; omega
    · have : i = xs.length := by omega
      subst this
      go_wp2
      go_ret
      exact ⟨rfl, HB.out⟩

set_option maxHeartbeats 800000 in
set_option maxRecDepth 100000 in
theorem markByteS_calls (xs : List UInt8) (v : Value) (k : Int) (fp : List Nat) (w : World) (ho : Own w (.s xs.length (xs.flatMap eByte)) v fp) (hnd : fp.Nodup) (hk0 : 0 ≤ k) (hk1 : k + cntL (xs.flatMap eByte) ≤ 4611686018427387904) :
    Calls Try.prog 10 #[v, .int .i64 k] w fun e w' => ∃ r : Int, e = .returned (.int .i64 r) ∧ r = k + cntL (xs.flatMap eByte) ∧ Own w' (.s xs.length (mkL (xs.flatMap eByte) k)) v fp ∧ Chg (· ∈ fp) w w' := by
  obtain ⟨A, c, rfl, ⟨_, _, hl⟩⟩ := ho.slice
  have HS := Lib.hid (MkI.start (k0 := k) ho)
  have HND := Lib.hid hnd
  clear ho hnd
  go_enter Try.func10, Try.ntmps10
  go_wp2
  go_loopw [1, 5] (fun a b wr => ∃ (i : Nat) (q : Int), i ≤ xs.length ∧ b = .int .i64 i ∧ a = .int .i64 q ∧ Hid (q = k + cntL ((xs.take i).flatMap eByte)) ∧ Hid (MkI eByte xs k w wr (.slice A xs.length c) fp i)) (fun a b wr => xs.length - (intOf b).toNat)
  case atStart => exact ⟨0, k, by omega, rfl, rfl, by simp [cntL_nil, Hid], HS⟩
  case round =>
    obtain ⟨i, q, hi, rfl, rfl, HQ, HI⟩ := hrel
    by_cases hlt : i < xs.length
    · obtain ⟨x, hx⟩ : ∃ x, xs[i]? = some x := ⟨xs[i], List.getElem?_eq_getElem hlt⟩
      obtain ⟨g, c', up, ur, uo, fa, fr, fo, hv, O⟩ := HI.out.open_ len_eByte HND.out hx
      injection hv with hv1 hv2 hv3
      subst hv1; subst hv3
      have hq := HQ.out
      have hq1 := cnt_step eByte xs i x hx
      have hq2 := cnt_take_le eByte xs (i+1)
      have hq3 := cnt_eByte x
      have hq0 : 0 ≤ q := by omega
      have hqx : q + cntL (eByte x) ≤ 4611686018427387904 := by omega
      have hq9 : q + 1 ≤ 4611686018427387904 := by omega
      obtain ⟨rfl, hfr⟩ := own_eByte O.mid
      obtain ⟨h0, g0⟩ := O.cell 0 _ rfl
      rw [Nat.mul_one, Nat.add_zero] at h0 g0
      have HX := Lib.hid hx
      have HO := Lib.hid O
      have HF := Lib.hid hfr
      have HC := Lib.hid hqx
      have HQ2 : Hid (q + 1 = k + cntL ((xs.take (i+1)).flatMap eByte)) := by unfold Hid; omega
      clear hx O hq hq1 hq2 hq3 hv2 hfr HI HS hqx
      go_wp2
      go_roundw
      case rel =>
        have hst := HO.out.closeRow (by rw [← HQ.out]; exact mkownm_eByte q hq0 HC.out) HF.out rfl
        rw [Nat.mul_one] at hst
        exact ⟨i + 1, _, by omega, by go_num, rfl, HQ2, hst⟩
      case measure => simp [intOf]; omega
    · have : i = xs.length := by omega
      subst this
      have hq := HQ.out
      rw [List.take_length] at hq
      have HQ2 := Lib.hid hq
      clear hq
      go_wp2
      go_ret
      exact ⟨_, rfl, HQ2.out, HI.out.finish⟩

set_option maxHeartbeats 800000 in
set_option maxRecDepth 100000 in
theorem eqWire_calls (us us' : List Value) (x : GWire) (w : World) (hr : RdLW w (eWire x) us) (hr' : RdLW w (eWire x) us') :
    Calls Try.prog 30 #[.agg us.toArray, .agg us'.toArray] w fun e w' => e = .returned (.bool true) ∧ Below w.heap.size w w' := by
  obtain rfl := rd_eWire hr
  obtain rfl := rd_eWire hr'
  clear hr hr'
  go_enter Try.func30, Try.ntmps30
  go_wp2
  go_ret
  exact ⟨rfl, ((Below.refl _ _).alloc (Nat.le_refl _) _).alloc (by simp) _⟩

set_option maxHeartbeats 800000 in
set_option maxRecDepth 100000 in
theorem eqWireS_calls (xs : List GWire) (v v' : Value) (w : World) (hr : RdW w (.s xs.length (xs.flatMap eWire)) v) (hr' : RdW w (.s xs.length (xs.flatMap eWire)) v') :
    Calls Try.prog 29 #[v, v'] w fun e w' => e = .returned (.bool true) ∧ Below w.heap.size w w' := by
  obtain ⟨A, c, rfl, ⟨_, _, hl⟩⟩ := hr.slice
  obtain ⟨A', c', rfl, _⟩ := hr'.slice
  have HR := Lib.hid hr
  have HR' := Lib.hid hr'
  clear hr hr'
  go_enter Try.func29, Try.ntmps29
  go_wp2
  go_loopw [5] (fun a wr => ∃ i : Nat, i ≤ xs.length ∧ a = .int .i64 i ∧ Hid (Below w.heap.size w wr)) (fun a wr => xs.length - (intOf a).toNat)
  case atStart => exact ⟨0, by omega, rfl, Below.refl _ w⟩
  case round =>
    obtain ⟨i, hi, rfl, HB⟩ := hrel
    by_cases hlt : i < xs.length
    · obtain ⟨x, hx⟩ : ∃ x, xs[i]? = some x := ⟨xs[i], List.getElem?_eq_getElem hlt⟩
      obtain ⟨ad, rfl, hadb, h0, h1⟩ := row_eWire (HR.out.below HB.out) hx
      obtain ⟨ad', rfl, hadb', h0', h1'⟩ := row_eWire (HR'.out.below HB.out) hx
      have HX := Lib.hid hx
      clear hx
      go_wp2
      go_still_tail 8, (by kernel_rfl)
      change wpList _ _ _ _ _ wr.drew
      go_wp2_with fail
      refine (eqWire_calls _ _ x _ (mkrd_eWire) (mkrd_eWire)).mono ?_
      rintro e w1 ⟨rfl, hb1⟩
      have HB1 := Lib.hid hb1
      clear hb1
      go_wp2
      go_roundw
      case rel => exact ⟨i + 1, by omega, by go_num, HB.out.drew.trans (HB1.out.mono HB.out.drew.size)⟩
      case measure => simp [intOf]; omega
    · have : i = xs.length := by omega
      subst this
      go_wp2
      go_ret
      exact ⟨rfl, HB.out⟩

set_option maxHeartbeats 800000 in
set_option maxRecDepth 100000 in
theorem markWireS_calls (xs : List GWire) (v : Value) (k : Int) (fp : List Nat) (w : World) (ho : Own w (.s xs.length (xs.flatMap eWire)) v fp) (hnd : fp.Nodup) (hk0 : 0 ≤ k) (hk1 : k + cntL (xs.flatMap eWire) ≤ 4611686018427387904) :
    Calls Try.prog 32 #[v, .int .i64 k] w fun e w' => ∃ r : Int, e = .returned (.int .i64 r) ∧ r = k + cntL (xs.flatMap eWire) ∧ Own w' (.s xs.length (mkL (xs.flatMap eWire) k)) v fp ∧ Chg (· ∈ fp) w w' := by
  obtain ⟨A, c, rfl, ⟨_, _, hl⟩⟩ := ho.slice
  have HS := Lib.hid (MkI.start (k0 := k) ho)
  have HND := Lib.hid hnd
  clear ho hnd
  go_enter Try.func32, Try.ntmps32
  go_wp2
  go_loopw [1, 5] (fun a b wr => ∃ (i : Nat) (q : Int), i ≤ xs.length ∧ b = .int .i64 i ∧ a = .int .i64 q ∧ Hid (q = k + cntL ((xs.take i).flatMap eWire)) ∧ Hid (MkI eWire xs k w wr (.slice A xs.length c) fp i)) (fun a b wr => xs.length - (intOf b).toNat)
  case atStart => exact ⟨0, k, by omega, rfl, rfl, by simp [cntL_nil, Hid], HS⟩
  case round =>
    obtain ⟨i, q, hi, rfl, rfl, HQ, HI⟩ := hrel
    by_cases hlt : i < xs.length
    · obtain ⟨x, hx⟩ : ∃ x, xs[i]? = some x := ⟨xs[i], List.getElem?_eq_getElem hlt⟩
      obtain ⟨g, c', up, ur, uo, fa, fr, fo, hv, O⟩ := HI.out.open_ len_eWire HND.out hx
      injection hv with hv1 hv2 hv3
      subst hv1; subst hv3
      have hq := HQ.out
      have hq1 := cnt_step eWire xs i x hx
      have hq2 := cnt_take_le eWire xs (i+1)
      have hq3 := cnt_eWire x
      have hq0 : 0 ≤ q := by omega
      have hqx : q + cntL (eWire x) ≤ 4611686018427387904 := by omega
      have hq9 : q + 2 ≤ 4611686018427387904 := by omega
      obtain ⟨rfl, hfr⟩ := own_eWire O.mid
      obtain ⟨h0, g0⟩ := O.cell 0 _ rfl
      obtain ⟨h1, g1⟩ := O.cell 1 _ rfl
      rw [Nat.add_zero] at h0 g0
      have HX := Lib.hid hx
      have HO := Lib.hid O
      have HF := Lib.hid hfr
      have HC := Lib.hid hqx
      have HQ2 : Hid (q + 1 + 1 = k + cntL ((xs.take (i+1)).flatMap eWire)) := by unfold Hid; omega
      clear hx O hq hq1 hq2 hq3 hv2 hfr HI HS hqx
      go_wp2
      go_roundw
      case rel =>
        have hst := HO.out.closeRow (by rw [← HQ.out]; exact mkownm_eWire q hq0 HC.out) HF.out rfl
        exact ⟨i + 1, _, by omega, by go_num, rfl, HQ2, hst⟩
      case measure => simp [intOf]; omega
    · have : i = xs.length := by omega
      subst this
      have hq := HQ.out
      rw [List.take_length] at hq
      have HQ2 := Lib.hid hq
      clear hq
      go_wp2
      go_ret
      exact ⟨_, rfl, HQ2.out, HI.out.finish⟩

set_option maxHeartbeats 800000 in
set_option maxRecDepth 100000 in
theorem heldWireS_calls (xs : List GWire) (v : Value) (k : Int) (w : World) (hr : RdW w (.s xs.length (mkL (xs.flatMap eWire) k)) v) (hk0 : 0 ≤ k) (hk1 : k + cntL (xs.flatMap eWire) ≤ 4611686018427387904) :
    Calls Try.prog 33 #[v, .int .i64 k] w fun e w' => ∃ r : Int, e = .returned (.int .i64 r) ∧ r = k + cntL (xs.flatMap eWire) ∧ Below w.heap.size w w' := by
  obtain ⟨A, c, rfl, ⟨_, _, hl⟩⟩ := hr.slice
  have HR := Lib.hid hr
  clear hr
  go_enter Try.func33, Try.ntmps33
  go_wp2
  go_loopw [1, 5] (fun a b wr => ∃ (i : Nat) (q : Int), i ≤ xs.length ∧ b = .int .i64 i ∧ a = .int .i64 q ∧ Hid (q = k + cntL ((xs.take i).flatMap eWire)) ∧ Hid (Below w.heap.size w wr)) (fun a b wr => xs.length - (intOf b).toNat)
  case atStart => exact ⟨0, k, by omega, rfl, rfl, by simp [cntL_nil, Hid], Below.refl _ w⟩
  case round =>
    obtain ⟨i, q, hi, rfl, rfl, HQ, HB⟩ := hrel
    by_cases hlt : i < xs.length
    · obtain ⟨x, hx⟩ : ∃ x, xs[i]? = some x := ⟨xs[i], List.getElem?_eq_getElem hlt⟩
      obtain ⟨ad, ys, rfl, hadb, hr, hc⟩ := RdW.atMk len_eWire (HR.out.below HB.out) hx
      have hq := HQ.out
      have hq1 := cnt_step eWire xs i x hx
      have hq2 := cnt_take_le eWire xs (i+1)
      have hq3 := cnt_eWire x
      have hq0 : 0 ≤ q := by omega
      have hqx : q + cntL (eWire x) ≤ 4611686018427387904 := by omega
      rw [← hq] at hr
      obtain rfl := rdm_eWire q hq0 hqx hr
      have h0 := hc 0 _ rfl
      have h1 := hc 1 _ rfl
      rw [Nat.add_zero] at h0
      rw [add_field _ _ 1 (by omega)] at h1
      have hq9 : q + 2 ≤ 4611686018427387904 := by omega
      have HX := Lib.hid hx
      have HQ2 : Hid (q + 1 + 1 = k + cntL ((xs.take (i+1)).flatMap eWire)) := by unfold Hid; omega
      clear hx hq hq1 hq2 hq3 hqx hr hc
      go_wp2
      go_roundw
      case rel => exact ⟨i + 1, _, by omega, by go_num, rfl, HQ2, HB⟩
      case measure => simp [intOf]; omega
    · have : i = xs.length := by omega
      subst this
      have hq := HQ.out
      rw [List.take_length] at hq
      have HQ2 := Lib.hid hq
      clear hq
      go_wp2
      go_ret
      exact ⟨_, rfl, HQ2.out, HB.out⟩

set_option maxHeartbeats 800000 in
set_option maxRecDepth 100000 in
theorem eqTag_calls (us us' : List Value) (x : GTag) (w : World) (hr : RdLW w (eTag x) us) (hr' : RdLW w (eTag x) us') :
    Calls Try.prog 31 #[.agg us.toArray, .agg us'.toArray] w fun e w' => e = .returned (.bool true) ∧ Below w.heap.size w w' := by
  obtain rfl := rd_eTag hr
  obtain rfl := rd_eTag hr'
  clear hr hr'
  go_enter Try.func31, Try.ntmps31
  go_wp2
  go_ret
  exact ⟨rfl, ((Below.refl _ _).alloc (Nat.le_refl _) _).alloc (by simp) _⟩

set_option maxHeartbeats 800000 in
set_option maxRecDepth 100000 in
theorem eqMessage_calls (us us' : List Value) (x : GMessage) (w : World) (hr : RdLW w (eMessage x) us) (hr' : RdLW w (eMessage x) us') :
    Calls Try.prog 8 #[.agg us.toArray, .agg us'.toArray] w fun e w' => e = .returned (.bool true) ∧ Below w.heap.size w w' := by
  obtain ⟨v5, rfl, h5⟩ := rd_eMessage hr
  obtain ⟨v5', rfl, h5'⟩ := rd_eMessage hr'
  clear hr hr'
  have H5 := Lib.hid h5
  have H5' := Lib.hid h5'
  clear h5 h5'
  go_enter Try.func8, Try.ntmps8
  go_wp2_with fail
  refine (eqWireS_calls _ _ _ _ (H5.out.below (((Below.refl _ _).alloc (Nat.le_refl _) _).alloc (by simp) _)) (H5'.out.below (((Below.refl _ _).alloc (Nat.le_refl _) _).alloc (by simp) _))).mono ?_
  rintro e w1 ⟨rfl, hb1⟩
  have hz1_0 : w.heap.size < w1.heap.size := by have := hb1.size; simp at this; omega
  have hz1_1 : w.heap.size + 1 < w1.heap.size := by have := hb1.size; simp at this; omega
  have B1 : Hid (Below w.heap.size w w1) := (((Below.refl _ _).alloc (Nat.le_refl _) _).alloc (by simp) _).trans (hb1.mono (by first | (simp; done) | (simp; omega)))
  obtain ⟨hc1, hf1⟩ := bcell hb1
  clear hb1
  go_wp2_with fail
  refine (eqWire_calls _ _ x.Value _ (mkrd_eWire) (mkrd_eWire)).mono ?_
  rintro e w2 ⟨rfl, hb2⟩
  have hz2_0 : w.heap.size < w2.heap.size := by have := hb2.size; have := hz1_0; omega
  have hz2_1 : w.heap.size + 1 < w2.heap.size := by have := hb2.size; have := hz1_1; omega
  have B2 : Hid (Below w.heap.size w w2) := B1.out.trans (hb2.mono (by omega))
  obtain ⟨hc2, hf2⟩ := bcell hb2
  clear hb2
  go_wp2_with fail
  refine (eqTag_calls _ _ x.Tag _ (mkrd_eTag) (mkrd_eTag)).mono ?_
  rintro e w3 ⟨rfl, hb3⟩
  have hz3_0 : w.heap.size < w3.heap.size := by have := hb3.size; have := hz2_0; omega
  have hz3_1 : w.heap.size + 1 < w3.heap.size := by have := hb3.size; have := hz2_1; omega
  have B3 : Hid (Below w.heap.size w w3) := B2.out.trans (hb3.mono (by omega))
  obtain ⟨hc3, hf3⟩ := bcell hb3
  clear hb3
  go_wp2
  go_ret
  exact ⟨rfl, B3.out⟩

set_option maxHeartbeats 800000 in
set_option maxRecDepth 100000 in
theorem markMessage_calls (us : List Value) (x : GMessage) (k : Int) (fp : List Nat) (w : World) (ho : OwnL w (eMessage x) us fp) (hnd : fp.Nodup) (hk0 : 0 ≤ k) (hk1 : k + tcnt (eMessage x) ≤ 4611686018427387904) :
    Calls Try.prog 11 #[.agg us.toArray, .int .i64 k] w fun e w' => ∃ r : Int, e = .returned (.int .i64 r) ∧ r = k + tcnt (eMessage x) ∧ OwnL w' (topL (eMessage x) k) us fp ∧ Chg (· ∈ fp) w w' := by
  rw [tcnt_eMessage] at hk1 ⊢
  obtain ⟨v5, f5, rfl, hfq, o5_0⟩ := own_eMessage ho
  clear ho
  obtain rfl : f5 = fp := hfq.symm
  have n5 := hnd
  have H_o5_0 := Lib.hid o5_0
  have HC := Lib.hid hk1
  clear hk1 o5_0
  go_enter Try.func11, Try.ntmps11
  go_wp2_with fail
  refine (markWireS_calls _ _ k f5 _ (Own.below H_o5_0.out ((Below.refl _ _).alloc (Nat.le_refl _) _)) n5 (by omega) (by have := HC.out; omega)).mono ?_
  rintro e w1 ⟨r5, rfl, hr5, o5_1, hb1⟩
  have hbg1 : w.heap.size ∉ f5 := fun h => by have := Own.lt _ _ _ H_o5_0.out _ h; omega
  have B1 : Blk w1 w.heap.size 29 #[.int .i64 x.Kind, .int .i64 x.Pos, .int .i64 x.Answer, .int .i64 x.Question, .string x.Name, v5, .int .i64 x.Value.Kind, .int .i64 x.Value.N, .int .i64 x.Count, .int .i64 x.Tag.Vat, .int .i64 x.Tag.Entity, .int .i64 x.Tag.Seq] := (Blk.new _ _ _).chg hb1 hbg1
  have C1 : Chg (· ∈ f5) w w1 := ((Chg.refl _ w).alloc _).trans (hb1.mono (fun b _ hb => by simp [hb]))
  have HB1 := Lib.hid B1
  have HC1 := Lib.hid C1
  have H_hr5 := Lib.hid hr5
  have H_o5_1 := Lib.hid o5_1
  have hr5_0 : 0 ≤ r5 := by omega
  obtain ⟨cb1, fb1⟩ := B1.rules
  clear hb1 B1 C1 hr5 o5_1
  go_wp2
  go_ret
  refine ⟨_, rfl, by have := HC.out; have e5 := H_hr5.out; omega, ?_, HC1.out⟩
  exact mktop_eMessage k r5 H_hr5.out H_o5_1.out

set_option maxHeartbeats 800000 in
set_option maxRecDepth 100000 in
theorem heldMessage_calls (us : List Value) (x : GMessage) (k : Int) (w : World) (hr : RdLW w (topL (eMessage x) k) us) (hk0 : 0 ≤ k) (hk1 : k + tcnt (eMessage x) ≤ 4611686018427387904) :
    Calls Try.prog 12 #[.agg us.toArray, .int .i64 k] w fun e w' => ∃ r : Int, e = .returned (.int .i64 r) ∧ r = k + tcnt (eMessage x) ∧ Below w.heap.size w w' := by
  rw [tcnt_eMessage] at hk1 ⊢
  obtain ⟨r5, hr5⟩ : ∃ r5 : Int, r5 = k + (cntL (x.Args.flatMap eWire) : Nat) := ⟨_, rfl⟩
  obtain ⟨v5, rfl, k5⟩ := rdtop_eMessage k r5 hr5 hr
  clear hr
  have K5 := Lib.hid k5
  have HR5 := Lib.hid hr5
  have hr5_0 : 0 ≤ r5 := by omega
  have HC := Lib.hid hk1
  clear hk1 k5 hr5
  go_enter Try.func12, Try.ntmps12
  go_wp2_with fail
  refine (heldWireS_calls _ _ _ _ (K5.out.below ((Below.refl _ _).alloc (Nat.le_refl _) _)) (by omega) (by have := HC.out; have := HR5.out; omega)).mono ?_
  rintro e w1 ⟨rr, rfl, hrr, hb1⟩
  obtain rfl : rr = r5 := hrr.trans HR5.out.symm
  clear hrr
  have B1 : Blk w1 w.heap.size 29 #[.int .i64 x.Kind, .int .i64 x.Pos, .int .i64 x.Answer, .int .i64 x.Question, .string x.Name, v5, .int .i64 x.Value.Kind, .int .i64 x.Value.N, .int .i64 x.Count, .int .i64 x.Tag.Vat, .int .i64 x.Tag.Entity, .int .i64 x.Tag.Seq] := (Blk.new _ _ _).below hb1
  have D1 : Below w.heap.size w w1 := ((Below.refl _ _).alloc (Nat.le_refl _) _).trans (hb1.mono (by simp only [size_alloc]; omega))
  have HB1 := Lib.hid B1
  have HD1 := Lib.hid D1
  obtain ⟨cb1, fb1⟩ := B1.rules
  clear hb1 B1 D1
  go_wp2
  go_ret
  exact ⟨_, rfl, by have := HC.out; have e5 := HR5.out; omega, HD1.out⟩

end Go.Proofs.Ytklbpjnpmbidiaa
