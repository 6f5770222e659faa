import Derived.Test.YtkgnkekbcblnlaaProg
import Derived.Test.YtkgnkekbcblnlaaTypes
import Derived.StillTailTactics
import Derived.Deep.RegionHeld3
import Derived.Laws.IdiomStrings
import Derived.Test.YtkgnkekbcblnlaaAppend
import Derived.Laws.StructEq
import Derived.Lib.SliceRun
import Derived.Shelf.RegionOpenPlain
namespace Go.Proofs.Ytkgnkekbcblnlaa
open Go.RowKit
set_option linter.unusedVariables false
set_option linter.unusedSimpArgs false

theorem cell_alloc_zero (w : World) (v : Value) (t : TypeId) : (w.alloc (.cells #[v] t)).cell? ((⟨w.heap.size, 0, none⟩ : Addr).add 0) = some v := by
  rw [show (⟨w.heap.size, 0, none⟩ : Addr).add 0 = ⟨w.heap.size, 0, none⟩ from rfl]
  exact (Blk.new w t #[v]).cell 0
theorem decDigits_step {f n : Nat} (acc : List UInt8) (h : 0 < n) : decDigits (f + 1) n acc = decDigits f (n / 10) (UInt8.ofNat (48 + n % 10) :: acc) := by
  rw [decDigits, if_neg (by omega)]
theorem decDigits_zero (f : Nat) (acc : List UInt8) : decDigits f 0 acc = acc := by
  cases f <;> simp [decDigits]
set_option maxHeartbeats 800000 in
set_option maxRecDepth 100000 in
theorem markText_calls (k : Int) (w : World) (h0 : 0 ≤ k) (h1 : k ≤ 4611686018427387904) :
    Calls Try.prog 83 #[.int .i64 k] w fun e w' => e = .returned (.string (mkText k)) ∧ Below w.heap.size w w' := by
  obtain ⟨n, rfl⟩ : ∃ n : Nat, k = n := ⟨k.toNat, by omega⟩
  by_cases hk : n = 0
  · subst hk
    go_enter Try.func83, Try.ntmps83
    go_wp2
    go_ret
    exact ⟨rfl, Below.refl _ _⟩
  · have hk' : ¬ ((n : Int) ≤ 0) := by omega
    have HM : Hid (mkText n = ⟨(109 :: decDigits (n + 1) n []).toArray⟩) := by unfold Hid mkText; rw [if_neg hk']; rfl
    go_enter Try.func83, Try.ntmps83
    go_wp2
    go_loopw [0, 3] (fun a b wr => ∃ (m : Nat) (s : ByteArray), a = .int .i64 m ∧ b = .string s ∧ s.size + m ≤ n ∧ Hid (∃ f, m < f ∧ decDigits f m s.data.toList = decDigits (n + 1) n []) ∧ Hid (Below w.heap.size w wr)) (fun a b wr => (intOf a).toNat)
    case atStart => exact ⟨n, _, rfl, rfl, Nat.le_of_eq (Nat.zero_add _), ⟨n + 1, by omega, rfl⟩, Below.refl _ _⟩
    case round =>
      obtain ⟨m, s, rfl, rfl, hm, HD, HB⟩ := hrel
      have hs9 : s.size ≤ 4611686018427387904 := by omega
      by_cases hlt : m = 0
      · subst hlt
        go_wp2
        go_ret
        refine ⟨?_, HB.out⟩
        obtain ⟨f, hf, hd⟩ := HD.out
        rw [HM.out, ← hd, decDigits_zero]
        rfl
      · have hlt' : (0 : Int) < m := by omega
        obtain ⟨d, hd0⟩ : ∃ d : UInt8, d = UInt8.ofNat (48 + m % 10) := ⟨_, rfl⟩
        have hd9 : (d.toNat : Int) = 48 + (m : Int) % 10 := by
          have : d.toNat = 48 + m % 10 := by rw [hd0]; simp; omega
          rw [this]; omega
        have hcv : (convert 54 9 (.slice (some ⟨wr.heap.size, 0, none⟩) 1 1)).run Try.prog (wr.alloc (.cells #[.int .u8 (48 + (m : Int) % 10)] 5)) = .ok (.string ⟨#[d]⟩) (wr.alloc (.cells #[.int .u8 (48 + (m : Int) % 10)] 5)) :=
          run_convert_bytes_back _ _ _ 5 ⟨wr.heap.size, 0, none⟩ 1 [d] Try.underlying54 Try.underlying5 Try.underlying9 (fun j hj => by
            have : j = 0 := by simpa using hj
            subst this
            rw [cell_alloc_zero]
            show some _ = some (Value.int .u8 (d.toNat : Int))
            rw [hd9])
        clear hd9
        have HD2 : Hid (∃ f, m / 10 < f ∧ decDigits f (m / 10) ((⟨#[d]⟩ : ByteArray) ++ s).data.toList = decDigits (n + 1) n []) := by
          obtain ⟨f, hf, hd⟩ := HD.out
          obtain ⟨f, rfl⟩ : ∃ f', f = f' + 1 := ⟨f - 1, by omega⟩
          refine ⟨f, by omega, ?_⟩
          rw [decDigits_step _ (by omega)] at hd
          rw [← hd, ← hd0]; congr 1
          all_goals simp
        clear hd0
        have HS2 : ((⟨#[d]⟩ : ByteArray) ++ s).size = s.size + 1 := by
          rw [ByteArray.size_append]
          show 1 + _ = _
          all_goals omega
        have HS3 := Lib.hid HS2
        clear HS2
        go_wp2
        go_roundw
        case rel => exact ⟨m / 10, _, by go_num, rfl, by rw [HS3.out]; omega, HD2, HB.out.alloc HB.out.size _⟩
        case measure => simp [intOf]; omega

set_option maxHeartbeats 800000 in
set_option maxRecDepth 100000 in
theorem toByteS_calls (xs : List UInt8) (v : Value) (w : World) (hr : RdW w (.s xs.length (xs.flatMap eByte)) v) (hn : xs.length ≤ 1048576) :
    Calls Try.prog 39 #[v] w fun e w' => ∃ v' fp, e = .returned v' ∧ Own w' (.s xs.length (xs.flatMap eByte)) v' fp ∧ Fresh w fp ∧ Below w.heap.size w w' := by
  obtain ⟨A, c, rfl, ⟨_, _, hl⟩⟩ := hr.slice
  have HR := Lib.hid hr
  clear hr
  have hn1 : xs.length ≤ 1048576 := by omega
  obtain ⟨cs0, hcs, hmk⟩ := run_make_any (P := Try.prog) 54 5 1 1 Try.underlying54 ⟨_, _, rfl, rfl, rfl, rfl⟩ xs.length (by omega) (by omega)
  have HCS := Lib.hid hcs
  clear hcs
  go_enter Try.func39, Try.ntmps39
  go_wp2
  go_loopw [4] (fun a wr => ∃ i : Nat, i ≤ xs.length ∧ a = .int .i64 i ∧ w.heap.size < wr.heap.size ∧ Hid (ToI eByte 1 xs w wr i)) (fun a wr => xs.length - (intOf a).toNat)
  case atStart => exact ⟨0, by omega, rfl, by simp, ToI.start HCS.out⟩
  case round =>
    obtain ⟨i, hi, rfl, hgz, HI⟩ := hrel
    by_cases hlt : i < xs.length
    · obtain ⟨x, hx⟩ : ∃ x, xs[i]? = some x := ⟨xs[i], List.getElem?_eq_getElem hlt⟩
      obtain ⟨ad, rfl, hadb, h0⟩ := row_eByte (HR.out.below HI.out.below) hx
      obtain ⟨y0, c0, f0⟩ := HI.out.get (Below.refl _ _) 0 hlt (by omega)
      rw [Nat.mul_one, Nat.add_zero] at c0 f0
      have HX := Lib.hid hx
      clear hx
      go_wp2
      go_roundw
      case rel =>
        have hst := HI.out.step HX.out (Below.refl _ _) len_eByte (mkown_eByte (x := x)) (Fresh.nil _)
        rw [Nat.mul_one] at hst
        exact ⟨i + 1, by omega, by go_num, by simpa [World.setCell] using hgz, hst⟩
      case measure => simp [intOf]; omega
    · have : i = xs.length := by omega
      subst this
      go_wp2
      go_ret
      obtain ⟨fp, ho, hf, hb⟩ := HI.out.finish hn1
      exact ⟨_, fp, rfl, ho, hf, hb⟩

set_option maxHeartbeats 800000 in
set_option maxRecDepth 100000 in
theorem eqByteS_calls (xs : List UInt8) (v v' : Value) (w : World) (hr : RdW w (.s xs.length (xs.flatMap eByte)) v) (hr' : RdW w (.s xs.length (xs.flatMap eByte)) v') :
    Calls Try.prog 34 #[v, v'] w fun e w' => e = .returned (.bool true) ∧ Below w.heap.size w w' := by
  obtain ⟨A, c, rfl, ⟨_, _, hl⟩⟩ := hr.slice
  obtain ⟨A', c', rfl, _⟩ := hr'.slice
  have HR := Lib.hid hr
  have HR' := Lib.hid hr'
  clear hr hr'
  go_enter Try.func34, Try.ntmps34
  go_wp2
  go_loopw [5] (fun a wr => ∃ i : Nat, i ≤ xs.length ∧ a = .int .i64 i ∧ Hid (Below w.heap.size w wr)) (fun a wr => xs.length - (intOf a).toNat)
  case atStart => exact ⟨0, by omega, rfl, Below.refl _ w⟩
  case round =>
    obtain ⟨i, hi, rfl, HB⟩ := hrel
    by_cases hlt : i < xs.length
    · obtain ⟨x, hx⟩ : ∃ x, xs[i]? = some x := ⟨xs[i], List.getElem?_eq_getElem hlt⟩
      obtain ⟨ad, rfl, hadb, h0⟩ := row_eByte (HR.out.below HB.out) hx
      obtain ⟨ad', rfl, hadb', h0'⟩ := row_eByte (HR'.out.below HB.out) hx
      have HX := Lib.hid hx
      clear hx
      go_wp2
      go_quiet (fail)
      go_wp2
      go_roundw
      case rel => exact ⟨i + 1, by omega, by go_num, belowN HB.out _⟩
      case measure => simp [intOf]; omega
    · have : i = xs.length := by omega
      subst this
      go_wp2
      go_ret
      exact ⟨rfl, HB.out⟩

set_option maxHeartbeats 800000 in
set_option maxRecDepth 100000 in
theorem markByteS_calls (xs : List UInt8) (v : Value) (k : Int) (fp : List Nat) (w : World) (ho : Own w (.s xs.length (xs.flatMap eByte)) v fp) (hnd : fp.Nodup) (hk0 : 0 ≤ k) (hk1 : k + cntL (xs.flatMap eByte) ≤ 4611686018427387904) :
    Calls Try.prog 36 #[v, .int .i64 k] w fun e w' => ∃ r : Int, e = .returned (.int .i64 r) ∧ r = k + cntL (xs.flatMap eByte) ∧ Own w' (.s xs.length (mkL (xs.flatMap eByte) k)) v fp ∧ Chg (· ∈ fp) w w' := by
  obtain ⟨A, c, rfl, ⟨_, _, hl⟩⟩ := ho.slice
  have HS := Lib.hid (MkI.start (k0 := k) ho)
  have HND := Lib.hid hnd
  clear ho hnd
  go_enter Try.func36, Try.ntmps36
  go_wp2
  go_loopw [1, 5] (fun a b wr => ∃ (i : Nat) (q : Int), i ≤ xs.length ∧ b = .int .i64 i ∧ a = .int .i64 q ∧ Hid (q = k + cntL ((xs.take i).flatMap eByte)) ∧ Hid (MkI eByte xs k w wr (.slice A xs.length c) fp i)) (fun a b wr => xs.length - (intOf b).toNat)
  case atStart => exact ⟨0, k, by omega, rfl, rfl, by simp [cntL_nil, Hid], HS⟩
  case round =>
    obtain ⟨i, q, hi, rfl, rfl, HQ, HI⟩ := hrel
    by_cases hlt : i < xs.length
    · obtain ⟨x, hx⟩ : ∃ x, xs[i]? = some x := ⟨xs[i], List.getElem?_eq_getElem hlt⟩
      obtain ⟨g, c', up, ur, uo, fa, fr, fo, hv, O⟩ := HI.out.open_ len_eByte HND.out hx
      injection hv with hv1 hv2 hv3
      subst hv1; subst hv3
      have hq := HQ.out
      have hq1 := cnt_step eByte xs i x hx
      have hq2 := cnt_take_le eByte xs (i+1)
      have hq3 := cnt_eByte x
      have hq0 : 0 ≤ q := by omega
      have hqx : q + cntL (eByte x) ≤ 4611686018427387904 := by omega
      have hq9 : q + 1 ≤ 4611686018427387904 := by omega
      obtain ⟨rfl, hfr⟩ := own_eByte O.mid
      obtain ⟨h0, g0⟩ := O.cell 0 _ rfl
      rw [Nat.mul_one, Nat.add_zero] at h0 g0
      have HX := Lib.hid hx
      have HO := Lib.hid O
      have HF := Lib.hid hfr
      have HC := Lib.hid hqx
      have HQ2 : Hid (q + 1 = k + cntL ((xs.take (i+1)).flatMap eByte)) := by unfold Hid; omega
      clear hx O hq hq1 hq2 hq3 hv2 hfr HI HS hqx
      go_wp2
      go_roundw
      case rel =>
        have hst := HO.out.closeRow (by rw [← HQ.out]; exact mkownm_eByte q hq0 HC.out) HF.out rfl
        rw [Nat.mul_one] at hst
        exact ⟨i + 1, _, by omega, by go_num, rfl, HQ2, hst⟩
      case measure => simp [intOf]; omega
    · have : i = xs.length := by omega
      subst this
      have hq := HQ.out
      rw [List.take_length] at hq
      have HQ2 := Lib.hid hq
      clear hq
      go_wp2
      go_ret
      exact ⟨_, rfl, HQ2.out, HI.out.finish⟩

set_option maxHeartbeats 800000 in
set_option maxRecDepth 100000 in
theorem heldByteS_calls (xs : List UInt8) (v : Value) (k : Int) (w : World) (hr : RdW w (.s xs.length (mkL (xs.flatMap eByte) k)) v) (hk0 : 0 ≤ k) (hk1 : k + cntL (xs.flatMap eByte) ≤ 4611686018427387904) :
    Calls Try.prog 37 #[v, .int .i64 k] w fun e w' => ∃ r : Int, e = .returned (.int .i64 r) ∧ r = k + cntL (xs.flatMap eByte) ∧ Below w.heap.size w w' := by
  obtain ⟨A, c, rfl, ⟨_, _, hl⟩⟩ := hr.slice
  have HR := Lib.hid hr
  clear hr
  go_enter Try.func37, Try.ntmps37
  go_wp2
  go_loopw [1, 5] (fun a b wr => ∃ (i : Nat) (q : Int), i ≤ xs.length ∧ b = .int .i64 i ∧ a = .int .i64 q ∧ Hid (q = k + cntL ((xs.take i).flatMap eByte)) ∧ Hid (Below w.heap.size w wr)) (fun a b wr => xs.length - (intOf b).toNat)
  case atStart => exact ⟨0, k, by omega, rfl, rfl, by simp [cntL_nil, Hid], Below.refl _ w⟩
  case round =>
    obtain ⟨i, q, hi, rfl, rfl, HQ, HB⟩ := hrel
    by_cases hlt : i < xs.length
    · obtain ⟨x, hx⟩ : ∃ x, xs[i]? = some x := ⟨xs[i], List.getElem?_eq_getElem hlt⟩
      obtain ⟨ad, ys, rfl, hadb, hr, hc⟩ := RdW.atMk len_eByte (HR.out.below HB.out) hx
      have hq := HQ.out
      have hq1 := cnt_step eByte xs i x hx
      have hq2 := cnt_take_le eByte xs (i+1)
      have hq3 := cnt_eByte x
      have hq0 : 0 ≤ q := by omega
      have hqx : q + cntL (eByte x) ≤ 4611686018427387904 := by omega
      rw [← hq] at hr
      obtain rfl := rdm_eByte q hq0 hqx hr
      have h0 := hc 0 _ rfl
      rw [Nat.mul_one, Nat.add_zero] at h0
      have hq9 : q + 1 ≤ 4611686018427387904 := by omega
      have HX := Lib.hid hx
      have HQ2 : Hid (q + 1 = k + cntL ((xs.take (i+1)).flatMap eByte)) := by unfold Hid; omega
      clear hx hq hq1 hq2 hq3 hqx hr hc
      go_wp2
      go_roundw
      case rel => exact ⟨i + 1, _, by omega, by go_num, rfl, HQ2, HB⟩
      case measure => simp [intOf]; omega
    · have : i = xs.length := by omega
      subst this
      have hq := HQ.out
      rw [List.take_length] at hq
      have HQ2 := Lib.hid hq
      clear hq
      go_wp2
      go_ret
      exact ⟨_, rfl, HQ2.out, HB.out⟩

set_option maxHeartbeats 800000 in
set_option maxRecDepth 100000 in
theorem toWire_calls (us : List Value) (x : GWire) (w : World) (hr : RdLW w (eWire x) us) :
    Calls Try.prog 12 #[.agg us.toArray] w fun e w' => ∃ us' fp, e = .returned (.agg us'.toArray) ∧ OwnL w' (eWire x) us' fp ∧ Fresh w fp ∧ Below w.heap.size w w' := by
  obtain rfl := rd_eWire hr
  go_enter Try.func12, Try.ntmps12
  go_wp2
  refine bodyPost_ret (v := .agg #[.int .i64 x.Kind, .int .i64 x.N]) (by simp [results, Try.results12, go_sem]) rfl ⟨_, _, rfl, mkown_eWire, Fresh.nil _, ?_⟩
  exact (((Below.refl _ _).alloc (Nat.le_refl _) _).alloc (by simp) _).alloc (by simp; omega) _

set_option maxHeartbeats 800000 in
set_option maxRecDepth 100000 in
theorem toWireS_calls (xs : List GWire) (v : Value) (w : World) (hr : RdW w (.s xs.length (xs.flatMap eWire)) v) (hn : xs.length ≤ 1048576) :
    Calls Try.prog 45 #[v] w fun e w' => ∃ v' fp, e = .returned v' ∧ Own w' (.s xs.length (xs.flatMap eWire)) v' fp ∧ Fresh w fp ∧ Below w.heap.size w w' := by
  obtain ⟨A, c, rfl, ⟨_, _, hl⟩⟩ := hr.slice
  have HR := Lib.hid hr
  clear hr
  have hn1 : xs.length ≤ 1048576 := by omega
  obtain ⟨cs0, hcs, hmk⟩ := run_make_any (P := Try.prog) 35 25 16 2 Try.underlying35 ⟨_, _, rfl, rfl, rfl, rfl⟩ xs.length (by omega) (by omega)
  have HCS := Lib.hid hcs
  clear hcs
  go_enter Try.func45, Try.ntmps45
  go_wp2
  go_loopw [4] (fun a wr => ∃ i : Nat, i ≤ xs.length ∧ a = .int .i64 i ∧ w.heap.size < wr.heap.size ∧ Hid (ToI eWire 2 xs w wr i)) (fun a wr => xs.length - (intOf a).toNat)
  case atStart => exact ⟨0, by omega, rfl, by simp, ToI.start HCS.out⟩
  case round =>
    obtain ⟨i, hi, rfl, hgz, HI⟩ := hrel
    by_cases hlt : i < xs.length
    · obtain ⟨x, hx⟩ : ∃ x, xs[i]? = some x := ⟨xs[i], List.getElem?_eq_getElem hlt⟩
      obtain ⟨ad, rfl, hadb, h0, h1⟩ := row_eWire (HR.out.below HI.out.below) hx
      have HX := Lib.hid hx
      clear hx
      go_wp2_with fail
      refine (toWire_calls _ x _ (mkrd_eWire)).mono ?_
      rintro e w1 ⟨us', fp', rfl, ho, hf, hb1⟩
      have HB1 := Lib.hid hb1
      have HO := Lib.hid ho
      have HF := Lib.hid hf
      obtain ⟨rfl, rfl⟩ := own_eWire ho
      clear ho hf hb1
      obtain ⟨y0, c0, q0⟩ := HI.out.get HB1.out 0 hlt (by omega)
      obtain ⟨y1, c1, q1⟩ := HI.out.get HB1.out 1 hlt (by omega)
      rw [Nat.add_zero] at c0 q0
      have hgz1 : w.heap.size < w1.heap.size := Nat.lt_of_lt_of_le hgz HB1.out.size
      go_wp2
      go_roundw
      case rel =>
        have hst := HI.out.step HX.out HB1.out len_eWire HO.out HF.out
        simp only [putRow, Nat.add_assoc, Nat.reduceAdd] at hst
        exact ⟨i + 1, by omega, by go_num, by simpa [World.setCell] using hgz1, hst⟩
      case measure => simp [intOf]; omega
    · have : i = xs.length := by omega
      subst this
      go_wp2
      go_ret
      obtain ⟨fp, ho, hf, hb⟩ := HI.out.finish hn1
      exact ⟨_, fp, rfl, ho, hf, hb⟩

set_option maxHeartbeats 800000 in
set_option maxRecDepth 100000 in
theorem eqWire_calls (us us' : List Value) (x : GWire) (w : World) (hr : RdLW w (eWire x) us) (hr' : RdLW w (eWire x) us') :
    Calls Try.prog 49 #[.agg us.toArray, .agg us'.toArray] w fun e w' => e = .returned (.bool true) ∧ Below w.heap.size w w' := by
  obtain rfl := rd_eWire hr
  obtain rfl := rd_eWire hr'
  clear hr hr'
  go_enter Try.func49, Try.ntmps49
  go_wp2
  go_ret
  exact ⟨rfl, ((Below.refl _ _).alloc (Nat.le_refl _) _).alloc (by simp) _⟩

set_option maxHeartbeats 800000 in
set_option maxRecDepth 100000 in
theorem eqWireS_calls (xs : List GWire) (v v' : Value) (w : World) (hr : RdW w (.s xs.length (xs.flatMap eWire)) v) (hr' : RdW w (.s xs.length (xs.flatMap eWire)) v') :
    Calls Try.prog 48 #[v, v'] w fun e w' => e = .returned (.bool true) ∧ Below w.heap.size w w' := by
  obtain ⟨A, c, rfl, ⟨_, _, hl⟩⟩ := hr.slice
  obtain ⟨A', c', rfl, _⟩ := hr'.slice
  have HR := Lib.hid hr
  have HR' := Lib.hid hr'
  clear hr hr'
  go_enter Try.func48, Try.ntmps48
  go_wp2
  go_loopw [5] (fun a wr => ∃ i : Nat, i ≤ xs.length ∧ a = .int .i64 i ∧ Hid (Below w.heap.size w wr)) (fun a wr => xs.length - (intOf a).toNat)
  case atStart => exact ⟨0, by omega, rfl, Below.refl _ w⟩
  case round =>
    obtain ⟨i, hi, rfl, HB⟩ := hrel
    by_cases hlt : i < xs.length
    · obtain ⟨x, hx⟩ : ∃ x, xs[i]? = some x := ⟨xs[i], List.getElem?_eq_getElem hlt⟩
      obtain ⟨ad, rfl, hadb, h0, h1⟩ := row_eWire (HR.out.below HB.out) hx
      obtain ⟨ad', rfl, hadb', h0', h1'⟩ := row_eWire (HR'.out.below HB.out) hx
      have HX := Lib.hid hx
      clear hx
      go_wp2
      go_still_tail 8, (by kernel_rfl)
      change wpList _ _ _ _ _ wr.drew
      go_wp2_with fail
      refine (eqWire_calls _ _ x _ (mkrd_eWire) (mkrd_eWire)).mono ?_
      rintro e w1 ⟨rfl, hb1⟩
      have HB1 := Lib.hid hb1
      clear hb1
      go_wp2
      go_roundw
      case rel => exact ⟨i + 1, by omega, by go_num, HB.out.drew.trans (HB1.out.mono HB.out.drew.size)⟩
      case measure => simp [intOf]; omega
    · have : i = xs.length := by omega
      subst this
      go_wp2
      go_ret
      exact ⟨rfl, HB.out⟩

set_option maxHeartbeats 800000 in
set_option maxRecDepth 100000 in
theorem szWireS_calls (xs : List GWire) (v : Value) (left : Int) (w : World) (hr : RdW w (.s xs.length (xs.flatMap eWire)) v) (h0 : 0 ≤ left) (h1 : left ≤ 1048576) :
    Calls Try.prog 44 #[v, .int .i64 left] w fun e w' => ∃ r : Int, e = .returned (.int .i64 r) ∧ SzR r left (xs.length + sizL (xs.flatMap eWire)) ∧ Below w.heap.size w w' := by
  have hz : sizL (xs.flatMap eWire) = 0 := by
    have h2 : ∀ ys : List GWire, sizL (ys.flatMap eWire) = 0 := fun ys => by
      induction ys with
      | nil => exact sizL_nil
      | cons y ys ih => rw [List.flatMap_cons, sizL_append, ih, siz_eWire]
    exact h2 xs
  rw [hz, Nat.add_zero]
  clear hz
  obtain ⟨A, c, rfl, ⟨_, _, hl⟩⟩ := hr.slice
  clear hr
  by_cases hlt : left - xs.length < 0
  · go_enter Try.func44, Try.ntmps44
    go_wp2
    go_ret
    exact ⟨_, rfl, .inl rfl, Below.refl _ w⟩
  · go_enter Try.func44, Try.ntmps44
    go_wp2
    go_ret
    exact ⟨_, rfl, .inr ⟨rfl, by omega⟩, Below.refl _ w⟩

set_option maxHeartbeats 800000 in
set_option maxRecDepth 100000 in
theorem markWireS_calls (xs : List GWire) (v : Value) (k : Int) (fp : List Nat) (w : World) (ho : Own w (.s xs.length (xs.flatMap eWire)) v fp) (hnd : fp.Nodup) (hk0 : 0 ≤ k) (hk1 : k + cntL (xs.flatMap eWire) ≤ 4611686018427387904) :
    Calls Try.prog 66 #[v, .int .i64 k] w fun e w' => ∃ r : Int, e = .returned (.int .i64 r) ∧ r = k + cntL (xs.flatMap eWire) ∧ Own w' (.s xs.length (mkL (xs.flatMap eWire) k)) v fp ∧ Chg (· ∈ fp) w w' := by
  obtain ⟨A, c, rfl, ⟨_, _, hl⟩⟩ := ho.slice
  have HS := Lib.hid (MkI.start (k0 := k) ho)
  have HND := Lib.hid hnd
  clear ho hnd
  go_enter Try.func66, Try.ntmps66
  go_wp2
  go_loopw [1, 5] (fun a b wr => ∃ (i : Nat) (q : Int), i ≤ xs.length ∧ b = .int .i64 i ∧ a = .int .i64 q ∧ Hid (q = k + cntL ((xs.take i).flatMap eWire)) ∧ Hid (MkI eWire xs k w wr (.slice A xs.length c) fp i)) (fun a b wr => xs.length - (intOf b).toNat)
  case atStart => exact ⟨0, k, by omega, rfl, rfl, by simp [cntL_nil, Hid], HS⟩
  case round =>
    obtain ⟨i, q, hi, rfl, rfl, HQ, HI⟩ := hrel
    by_cases hlt : i < xs.length
    · obtain ⟨x, hx⟩ : ∃ x, xs[i]? = some x := ⟨xs[i], List.getElem?_eq_getElem hlt⟩
      obtain ⟨g, c', up, ur, uo, fa, fr, fo, hv, O⟩ := HI.out.open_ len_eWire HND.out hx
      injection hv with hv1 hv2 hv3
      subst hv1; subst hv3
      have hq := HQ.out
      have hq1 := cnt_step eWire xs i x hx
      have hq2 := cnt_take_le eWire xs (i+1)
      have hq3 := cnt_eWire x
      have hq0 : 0 ≤ q := by omega
      have hqx : q + cntL (eWire x) ≤ 4611686018427387904 := by omega
      have hq9 : q + 2 ≤ 4611686018427387904 := by omega
      obtain ⟨rfl, hfr⟩ := own_eWire O.mid
      obtain ⟨h0, g0⟩ := O.cell 0 _ rfl
      obtain ⟨h1, g1⟩ := O.cell 1 _ rfl
      rw [Nat.add_zero] at h0 g0
      have HX := Lib.hid hx
      have HO := Lib.hid O
      have HF := Lib.hid hfr
      have HC := Lib.hid hqx
      have HQ2 : Hid (q + 1 + 1 = k + cntL ((xs.take (i+1)).flatMap eWire)) := by unfold Hid; omega
      clear hx O hq hq1 hq2 hq3 hv2 hfr HI HS hqx
      go_wp2
      go_roundw
      case rel =>
        have hst := HO.out.closeRow (by rw [← HQ.out]; exact mkownm_eWire q hq0 HC.out) HF.out rfl
        exact ⟨i + 1, _, by omega, by go_num, rfl, HQ2, hst⟩
      case measure => simp [intOf]; omega
    · have : i = xs.length := by omega
      subst this
      have hq := HQ.out
      rw [List.take_length] at hq
      have HQ2 := Lib.hid hq
      clear hq
      go_wp2
      go_ret
      exact ⟨_, rfl, HQ2.out, HI.out.finish⟩

set_option maxHeartbeats 800000 in
set_option maxRecDepth 100000 in
theorem heldWireS_calls (xs : List GWire) (v : Value) (k : Int) (w : World) (hr : RdW w (.s xs.length (mkL (xs.flatMap eWire) k)) v) (hk0 : 0 ≤ k) (hk1 : k + cntL (xs.flatMap eWire) ≤ 4611686018427387904) :
    Calls Try.prog 73 #[v, .int .i64 k] w fun e w' => ∃ r : Int, e = .returned (.int .i64 r) ∧ r = k + cntL (xs.flatMap eWire) ∧ Below w.heap.size w w' := by
  obtain ⟨A, c, rfl, ⟨_, _, hl⟩⟩ := hr.slice
  have HR := Lib.hid hr
  clear hr
  go_enter Try.func73, Try.ntmps73
  go_wp2
  go_loopw [1, 5] (fun a b wr => ∃ (i : Nat) (q : Int), i ≤ xs.length ∧ b = .int .i64 i ∧ a = .int .i64 q ∧ Hid (q = k + cntL ((xs.take i).flatMap eWire)) ∧ Hid (Below w.heap.size w wr)) (fun a b wr => xs.length - (intOf b).toNat)
  case atStart => exact ⟨0, k, by omega, rfl, rfl, by simp [cntL_nil, Hid], Below.refl _ w⟩
  case round =>
    obtain ⟨i, q, hi, rfl, rfl, HQ, HB⟩ := hrel
    by_cases hlt : i < xs.length
    · obtain ⟨x, hx⟩ : ∃ x, xs[i]? = some x := ⟨xs[i], List.getElem?_eq_getElem hlt⟩
      obtain ⟨ad, ys, rfl, hadb, hr, hc⟩ := RdW.atMk len_eWire (HR.out.below HB.out) hx
      have hq := HQ.out
      have hq1 := cnt_step eWire xs i x hx
      have hq2 := cnt_take_le eWire xs (i+1)
      have hq3 := cnt_eWire x
      have hq0 : 0 ≤ q := by omega
      have hqx : q + cntL (eWire x) ≤ 4611686018427387904 := by omega
      rw [← hq] at hr
      obtain rfl := rdm_eWire q hq0 hqx hr
      have h0 := hc 0 _ rfl
      have h1 := hc 1 _ rfl
      rw [Nat.add_zero] at h0
      rw [add_field _ _ 1 (by omega)] at h1
      have hq9 : q + 2 ≤ 4611686018427387904 := by omega
      have HX := Lib.hid hx
      have HQ2 : Hid (q + 1 + 1 = k + cntL ((xs.take (i+1)).flatMap eWire)) := by unfold Hid; omega
      clear hx hq hq1 hq2 hq3 hqx hr hc
      go_wp2
      go_roundw
      case rel => exact ⟨i + 1, _, by omega, by go_num, rfl, HQ2, HB⟩
      case measure => simp [intOf]; omega
    · have : i = xs.length := by omega
      subst this
      have hq := HQ.out
      rw [List.take_length] at hq
      have HQ2 := Lib.hid hq
      clear hq
      go_wp2
      go_ret
      exact ⟨_, rfl, HQ2.out, HB.out⟩

set_option maxHeartbeats 800000 in
set_option maxRecDepth 100000 in
theorem toTag_calls (us : List Value) (x : GTag) (w : World) (hr : RdLW w (eTag x) us) :
    Calls Try.prog 46 #[.agg us.toArray] w fun e w' => ∃ us' fp, e = .returned (.agg us'.toArray) ∧ OwnL w' (eTag x) us' fp ∧ Fresh w fp ∧ Below w.heap.size w w' := by
  obtain rfl := rd_eTag hr
  go_enter Try.func46, Try.ntmps46
  go_wp2
  refine bodyPost_ret (v := .agg #[.int .i64 x.Vat, .int .i64 x.Entity, .int .i64 x.Seq]) (by simp [results, Try.results46, go_sem]) rfl ⟨_, _, rfl, mkown_eTag, Fresh.nil _, ?_⟩
  exact (((Below.refl _ _).alloc (Nat.le_refl _) _).alloc (by simp) _).alloc (by simp; omega) _

set_option maxHeartbeats 800000 in
set_option maxRecDepth 100000 in
theorem eqTag_calls (us us' : List Value) (x : GTag) (w : World) (hr : RdLW w (eTag x) us) (hr' : RdLW w (eTag x) us') :
    Calls Try.prog 50 #[.agg us.toArray, .agg us'.toArray] w fun e w' => e = .returned (.bool true) ∧ Below w.heap.size w w' := by
  obtain rfl := rd_eTag hr
  obtain rfl := rd_eTag hr'
  clear hr hr'
  go_enter Try.func50, Try.ntmps50
  go_wp2
  go_ret
  exact ⟨rfl, ((Below.refl _ _).alloc (Nat.le_refl _) _).alloc (by simp) _⟩

set_option maxHeartbeats 800000 in
set_option maxRecDepth 100000 in
theorem toMessage_calls (us : List Value) (x : GMessage) (w : World) (hr : RdLW w (eMessage x) us) (hz : sizL (eMessage x) ≤ 1048576) :
    Calls Try.prog 16 #[.agg us.toArray] w fun e w' => ∃ us' fp, e = .returned (.agg us'.toArray) ∧ OwnL w' (eMessage x) us' fp ∧ Fresh w fp ∧ Below w.heap.size w w' := by
  rw [siz_eMessage] at hz
  obtain ⟨v5, rfl, h5⟩ := rd_eMessage hr
  clear hr
  have H5 := Lib.hid h5
  clear h5
  go_enter Try.func16, Try.ntmps16
  go_wp2_with fail
  refine (toWireS_calls _ _ _ (H5.out.below ?hbel1) (by omega)).mono ?_
  case hbel1 => exact ((((Below.refl _ _).alloc (Nat.le_refl _) _).alloc (by simp) _).alloc (by simp; omega) _)
  rintro e w1 ⟨u5, f5, rfl, o5, n5, hb1⟩
  obtain ⟨A5, c5, rfl, _⟩ := o5.slice
  have Z1 := Lib.hid hb1
  have S1 : w.heap.size + 3 ≤ w1.heap.size := by have h := hb1.size; simp only [size_set, size_alloc] at h; omega
  have hz1_0 : w.heap.size < w1.heap.size := by omega
  have hz1_1 : w.heap.size + 1 < w1.heap.size := by omega
  have hz1_2 : w.heap.size + 1 + 1 < w1.heap.size := by omega
  have B1 : Hid (Below w.heap.size w w1) := by
    refine Below.trans ?_ (hb1.mono (by simp only [size_set, size_alloc]; omega))
    exact ((((Below.refl _ _).alloc (Nat.le_refl _) _).alloc (by simp) _).alloc (by simp; omega) _)
  have KA1 : Hid (Blk w1 (w.heap.size) 32 #[.int .i64 x.Kind, .int .i64 x.Pos, .int .i64 x.Answer, .int .i64 x.Question, .string x.Name, v5, .int .i64 x.Value.Kind, .int .i64 x.Value.N, .int .i64 x.Count, .int .i64 x.Tag.Vat, .int .i64 x.Tag.Entity, .int .i64 x.Tag.Seq]) := by
    refine Blk.below ?_ hb1
    exact ((Blk.made rfl).alloc _).alloc _
  have KO1 : Hid (Blk w1 (w.heap.size + 1 + 1) 38 #[.int .i64 x.Kind, .int .i64 x.Pos, .int .i64 x.Answer, .int .i64 x.Question, .string x.Name, .slice none 0 0, .int .i64 0, .int .i64 0, .int .i64 0, .int .i64 0, .int .i64 0, .int .i64 0]) := by
    refine Blk.below ?_ hb1
    exact Blk.made (by simp)
  have KR1 : Hid (Blk w1 (w.heap.size + 1) 38 #[.int .i64 0, .int .i64 0, .int .i64 0, .int .i64 0, .string ⟨#[]⟩, .slice none 0 0, .int .i64 0, .int .i64 0, .int .i64 0, .int .i64 0, .int .i64 0, .int .i64 0]) := by
    refine Blk.below ?_ hb1
    exact (Blk.made (by simp)).alloc _
  obtain ⟨ca1, fa1⟩ := KA1.out.rules
  obtain ⟨co1, fo1⟩ := KO1.out.rules
  obtain ⟨cr1, fr1⟩ := KR1.out.rules
  clear hb1
  go_wp2_with fail
  refine (toWire_calls _ x.Value _ (mkrd_eWire)).mono ?_
  rintro e w2 ⟨us6, f6, rfl, o6, n6, hb2⟩
  obtain ⟨rfl, rfl⟩ := own_eWire o6
  have Z2 := Lib.hid hb2
  have S2 : w1.heap.size ≤ w2.heap.size := by have h := hb2.size; simp only [size_set, size_alloc] at h; omega
  have hz2_0 : w.heap.size < w2.heap.size := by omega
  have hz2_1 : w.heap.size + 1 < w2.heap.size := by omega
  have hz2_2 : w.heap.size + 1 + 1 < w2.heap.size := by omega
  have B2 : Hid (Below w.heap.size w w2) := by
    refine Below.trans ?_ (hb2.mono (by simp only [size_set, size_alloc]; omega))
    exact (B1.out.setCell (by dsimp only; omega) _)
  have KA2 : Hid (Blk w2 (w.heap.size) 32 #[.int .i64 x.Kind, .int .i64 x.Pos, .int .i64 x.Answer, .int .i64 x.Question, .string x.Name, v5, .int .i64 x.Value.Kind, .int .i64 x.Value.N, .int .i64 x.Count, .int .i64 x.Tag.Vat, .int .i64 x.Tag.Entity, .int .i64 x.Tag.Seq]) := by
    refine Blk.below ?_ hb2
    exact (KA1.out.far (by dsimp only; omega) _)
  have KO2 : Hid (Blk w2 (w.heap.size + 1 + 1) 38 #[.int .i64 x.Kind, .int .i64 x.Pos, .int .i64 x.Answer, .int .i64 x.Question, .string x.Name, .slice A5 x.Args.length c5, .int .i64 0, .int .i64 0, .int .i64 0, .int .i64 0, .int .i64 0, .int .i64 0]) := by
    refine Blk.below ?_ hb2
    exact Blk.eq (KO1.out.set_ 5 _) (by simp)
  have KR2 : Hid (Blk w2 (w.heap.size + 1) 38 #[.int .i64 0, .int .i64 0, .int .i64 0, .int .i64 0, .string ⟨#[]⟩, .slice none 0 0, .int .i64 0, .int .i64 0, .int .i64 0, .int .i64 0, .int .i64 0, .int .i64 0]) := by
    refine Blk.below ?_ hb2
    exact (KR1.out.far (by dsimp only; omega) _)
  obtain ⟨ca2, fa2⟩ := KA2.out.rules
  obtain ⟨co2, fo2⟩ := KO2.out.rules
  obtain ⟨cr2, fr2⟩ := KR2.out.rules
  clear hb2
  go_wp2_with fail
  refine (toTag_calls _ x.Tag _ (mkrd_eTag)).mono ?_
  rintro e w3 ⟨us9, f9, rfl, o9, n9, hb3⟩
  obtain ⟨rfl, rfl⟩ := own_eTag o9
  have Z3 := Lib.hid hb3
  have S3 : w2.heap.size ≤ w3.heap.size := by have h := hb3.size; simp only [size_set, size_alloc] at h; omega
  have hz3_0 : w.heap.size < w3.heap.size := by omega
  have hz3_1 : w.heap.size + 1 < w3.heap.size := by omega
  have hz3_2 : w.heap.size + 1 + 1 < w3.heap.size := by omega
  have B3 : Hid (Below w.heap.size w w3) := by
    refine Below.trans ?_ (hb3.mono (by simp only [size_set, size_alloc]; omega))
    exact (((B2.out.setCell (by dsimp only; omega) _).setCell (by dsimp only; omega) _).setCell (by dsimp only; omega) _)
  have KA3 : Hid (Blk w3 (w.heap.size) 32 #[.int .i64 x.Kind, .int .i64 x.Pos, .int .i64 x.Answer, .int .i64 x.Question, .string x.Name, v5, .int .i64 x.Value.Kind, .int .i64 x.Value.N, .int .i64 x.Count, .int .i64 x.Tag.Vat, .int .i64 x.Tag.Entity, .int .i64 x.Tag.Seq]) := by
    refine Blk.below ?_ hb3
    exact (((KA2.out.far (by dsimp only; omega) _).far (by dsimp only; omega) _).far (by dsimp only; omega) _)
  have KO3 : Hid (Blk w3 (w.heap.size + 1 + 1) 38 #[.int .i64 x.Kind, .int .i64 x.Pos, .int .i64 x.Answer, .int .i64 x.Question, .string x.Name, .slice A5 x.Args.length c5, .int .i64 x.Value.Kind, .int .i64 x.Value.N, .int .i64 x.Count, .int .i64 0, .int .i64 0, .int .i64 0]) := by
    refine Blk.below ?_ hb3
    exact Blk.eq (((KO2.out.set_ 6 _).set_ 7 _).set_ 8 _) (by simp)
  have KR3 : Hid (Blk w3 (w.heap.size + 1) 38 #[.int .i64 0, .int .i64 0, .int .i64 0, .int .i64 0, .string ⟨#[]⟩, .slice none 0 0, .int .i64 0, .int .i64 0, .int .i64 0, .int .i64 0, .int .i64 0, .int .i64 0]) := by
    refine Blk.below ?_ hb3
    exact (((KR2.out.far (by dsimp only; omega) _).far (by dsimp only; omega) _).far (by dsimp only; omega) _)
  obtain ⟨ca3, fa3⟩ := KA3.out.rules
  obtain ⟨co3, fo3⟩ := KO3.out.rules
  obtain ⟨cr3, fr3⟩ := KR3.out.rules
  clear hb3
  have O5 := Lib.hid o5
  clear o5
  have N5 := Lib.hid n5
  clear n5
  go_wp2
  refine post_cell (w0 := w3) (fun g => w.heap.size ≤ g ∧ g < w.heap.size + 3) Try.results16 (w.heap.size + 1) #[.int .i64 x.Kind, .int .i64 x.Pos, .int .i64 x.Answer, .int .i64 x.Question, .string x.Name, .slice A5 x.Args.length c5, .int .i64 x.Value.Kind, .int .i64 x.Value.N, .int .i64 x.Count, .int .i64 x.Tag.Vat, .int .i64 x.Tag.Entity, .int .i64 x.Tag.Seq] _ rfl (Blk.eq (((((((((((((((KR3.out.far (by dsimp only; omega) _).far (by dsimp only; omega) _).far (by dsimp only; omega) _).set_ 0 _).set_ 1 _).set_ 2 _).set_ 3 _).set_ 4 _).set_ 5 _).set_ 6 _).set_ 7 _).set_ 8 _).set_ 9 _).set_ 10 _).set_ 11 _) (by simp)) Try.underlying38 rfl (by kernel_rfl) rfl ((((((((((((((((Chg.refl _ _).setCell (.inl (by dsimp only; omega)) _).setCell (.inl (by dsimp only; omega)) _).setCell (.inl (by dsimp only; omega)) _).setCell (.inl (by dsimp only; omega)) _).setCell (.inl (by dsimp only; omega)) _).setCell (.inl (by dsimp only; omega)) _).setCell (.inl (by dsimp only; omega)) _).setCell (.inl (by dsimp only; omega)) _).setCell (.inl (by dsimp only; omega)) _).setCell (.inl (by dsimp only; omega)) _).setCell (.inl (by dsimp only; omega)) _).setCell (.inl (by dsimp only; omega)) _).setCell (.inl (by dsimp only; omega)) _).setCell (.inl (by dsimp only; omega)) _).setCell (.inl (by dsimp only; omega)) _) ?_
  intro W hW
  have F5 : ∀ g, g ∈ f5 → w.heap.size + 2 < g := fun g hg => by have h1 := N5.out.2 g hg; simp only [size_set, size_alloc] at h1; omega
  have P5 := (Own.below (Own.chg (Own.below (Own.chg O5.out (T := fun g => w.heap.size ≤ g ∧ g < w.heap.size + 3) ((Chg.refl _ _).setCell (.inl (by dsimp only; omega)) _) (fun g hg => by have := F5 g hg; show ¬ (_ ∧ _); omega)) Z2.out) (T := fun g => w.heap.size ≤ g ∧ g < w.heap.size + 3) ((((Chg.refl _ _).setCell (.inl (by dsimp only; omega)) _).setCell (.inl (by dsimp only; omega)) _).setCell (.inl (by dsimp only; omega)) _) (fun g hg => by have := F5 g hg; show ¬ (_ ∧ _); omega)) Z3.out)
  refine ⟨_, _, rfl, mkown_eMessage (P5.chg hW (fun g hg => by have := F5 g hg; show ¬ (_ ∧ _); omega)), ?_, ?_⟩
  · skip
    have V5 : Fresh w f5 := N5.out.mono (by simp only [size_set, size_alloc]; omega)
    have L5 : ∀ g, g ∈ f5 → g < w1.heap.size := Own.lt _ _ _ O5.out
    exact V5
  · exact below_chg B3.out hW B3.out.size (fun i hi => hi.1)

set_option maxHeartbeats 800000 in
set_option maxRecDepth 100000 in
theorem toMessageS_calls (xs : List GMessage) (v : Value) (w : World) (hr : RdW w (.s xs.length (xs.flatMap eMessage)) v) (hn : xs.length + sizL (xs.flatMap eMessage) ≤ 1048576) :
    Calls Try.prog 77 #[v] w fun e w' => ∃ v' fp, e = .returned v' ∧ Own w' (.s xs.length (xs.flatMap eMessage)) v' fp ∧ Fresh w fp ∧ Below w.heap.size w w' := by
  obtain ⟨A, c, rfl, ⟨_, _, hl⟩⟩ := hr.slice
  have HR := Lib.hid hr
  clear hr
  have hn1 : xs.length ≤ 1048576 := by omega
  obtain ⟨cs0, hcs, hmk⟩ := run_make_any (P := Try.prog) 74 38 120 12 Try.underlying74 ⟨_, _, rfl, rfl, rfl, rfl⟩ xs.length (by omega) (by omega)
  have HCS := Lib.hid hcs
  clear hcs
  go_enter Try.func77, Try.ntmps77
  go_wp2
  go_loopw [4] (fun a wr => ∃ i : Nat, i ≤ xs.length ∧ a = .int .i64 i ∧ w.heap.size < wr.heap.size ∧ Hid (ToI eMessage 12 xs w wr i)) (fun a wr => xs.length - (intOf a).toNat)
  case atStart => exact ⟨0, by omega, rfl, by simp, ToI.start HCS.out⟩
  case round =>
    obtain ⟨i, hi, rfl, hgz, HI⟩ := hrel
    by_cases hlt : i < xs.length
    · obtain ⟨x, hx⟩ : ∃ x, xs[i]? = some x := ⟨xs[i], List.getElem?_eq_getElem hlt⟩
      obtain ⟨ad, v5, rfl, hadb, h0, h1, h2, h3, h4, h5, h6, h7, h8, h9, h10, h11, k5⟩ := row_eMessage (HR.out.below HI.out.below) hx
      have hzx : sizL (eMessage x) ≤ 1048576 := by have := sizL_flat_le eMessage xs x (List.mem_of_getElem? hx); omega
      have HX := Lib.hid hx
      clear hx
      go_wp2_with fail
      refine (toMessage_calls _ x _ (mkrd_eMessage k5) hzx).mono ?_
      rintro e w1 ⟨us', fp', rfl, ho, hf, hb1⟩
      have HB1 := Lib.hid hb1
      have HO := Lib.hid ho
      have HF := Lib.hid hf
      obtain ⟨b5, f5, rfl, rfl, o5⟩ := own_eMessage ho
      obtain ⟨A5_, c5_, rfl, -⟩ := o5.slice
      clear ho hf hb1 o5
      obtain ⟨y0, c0, q0⟩ := HI.out.get HB1.out 0 hlt (by omega)
      obtain ⟨y1, c1, q1⟩ := HI.out.get HB1.out 1 hlt (by omega)
      obtain ⟨y2, c2, q2⟩ := HI.out.get HB1.out 2 hlt (by omega)
      obtain ⟨y3, c3, q3⟩ := HI.out.get HB1.out 3 hlt (by omega)
      obtain ⟨y4, c4, q4⟩ := HI.out.get HB1.out 4 hlt (by omega)
      obtain ⟨y5, c5, q5⟩ := HI.out.get HB1.out 5 hlt (by omega)
      obtain ⟨y6, c6, q6⟩ := HI.out.get HB1.out 6 hlt (by omega)
      obtain ⟨y7, c7, q7⟩ := HI.out.get HB1.out 7 hlt (by omega)
      obtain ⟨y8, c8, q8⟩ := HI.out.get HB1.out 8 hlt (by omega)
      obtain ⟨y9, c9, q9⟩ := HI.out.get HB1.out 9 hlt (by omega)
      obtain ⟨y10, c10, q10⟩ := HI.out.get HB1.out 10 hlt (by omega)
      obtain ⟨y11, c11, q11⟩ := HI.out.get HB1.out 11 hlt (by omega)
      rw [Nat.add_zero] at c0 q0
      have hgz1 : w.heap.size < w1.heap.size := Nat.lt_of_lt_of_le hgz HB1.out.size
      go_wp2
      go_roundw
      case rel =>
        have hst := HI.out.step HX.out HB1.out len_eMessage HO.out HF.out
        simp only [putRow, Nat.add_assoc, Nat.reduceAdd] at hst
        exact ⟨i + 1, by omega, by go_num, by simpa [World.setCell] using hgz1, hst⟩
      case measure => simp [intOf]; omega
    · have : i = xs.length := by omega
      subst this
      go_wp2
      go_ret
      obtain ⟨fp, ho, hf, hb⟩ := HI.out.finish hn1
      exact ⟨_, fp, rfl, ho, hf, hb⟩

set_option maxHeartbeats 800000 in
set_option maxRecDepth 100000 in
theorem eqMessage_calls (us us' : List Value) (x : GMessage) (w : World) (hr : RdLW w (eMessage x) us) (hr' : RdLW w (eMessage x) us') :
    Calls Try.prog 18 #[.agg us.toArray, .agg us'.toArray] w fun e w' => e = .returned (.bool true) ∧ Below w.heap.size w w' := by
  obtain ⟨v5, rfl, h5⟩ := rd_eMessage hr
  obtain ⟨v5', rfl, h5'⟩ := rd_eMessage hr'
  clear hr hr'
  have H5 := Lib.hid h5
  have H5' := Lib.hid h5'
  clear h5 h5'
  go_enter Try.func18, Try.ntmps18
  go_wp2_with fail
  refine (eqWireS_calls _ _ _ _ (H5.out.below (((Below.refl _ _).alloc (Nat.le_refl _) _).alloc (by simp) _)) (H5'.out.below (((Below.refl _ _).alloc (Nat.le_refl _) _).alloc (by simp) _))).mono ?_
  rintro e w1 ⟨rfl, hb1⟩
  have hz1_0 : w.heap.size < w1.heap.size := by have := hb1.size; simp at this; omega
  have hz1_1 : w.heap.size + 1 < w1.heap.size := by have := hb1.size; simp at this; omega
  have B1 : Hid (Below w.heap.size w w1) := (((Below.refl _ _).alloc (Nat.le_refl _) _).alloc (by simp) _).trans (hb1.mono (by first | (simp; done) | (simp; omega)))
  obtain ⟨hc1, hf1⟩ := bcell hb1
  clear hb1
  go_wp2_with fail
  refine (eqWire_calls _ _ x.Value _ (mkrd_eWire) (mkrd_eWire)).mono ?_
  rintro e w2 ⟨rfl, hb2⟩
  have hz2_0 : w.heap.size < w2.heap.size := by have := hb2.size; have := hz1_0; omega
  have hz2_1 : w.heap.size + 1 < w2.heap.size := by have := hb2.size; have := hz1_1; omega
  have B2 : Hid (Below w.heap.size w w2) := B1.out.trans (hb2.mono (by omega))
  obtain ⟨hc2, hf2⟩ := bcell hb2
  clear hb2
  go_wp2_with fail
  refine (eqTag_calls _ _ x.Tag _ (mkrd_eTag) (mkrd_eTag)).mono ?_
  rintro e w3 ⟨rfl, hb3⟩
  have hz3_0 : w.heap.size < w3.heap.size := by have := hb3.size; have := hz2_0; omega
  have hz3_1 : w.heap.size + 1 < w3.heap.size := by have := hb3.size; have := hz2_1; omega
  have B3 : Hid (Below w.heap.size w w3) := B2.out.trans (hb3.mono (by omega))
  obtain ⟨hc3, hf3⟩ := bcell hb3
  clear hb3
  go_wp2
  go_ret
  exact ⟨rfl, B3.out⟩

set_option maxHeartbeats 800000 in
set_option maxRecDepth 100000 in
theorem eqMessageS_calls (xs : List GMessage) (v v' : Value) (w : World) (hr : RdW w (.s xs.length (xs.flatMap eMessage)) v) (hr' : RdW w (.s xs.length (xs.flatMap eMessage)) v') :
    Calls Try.prog 78 #[v, v'] w fun e w' => e = .returned (.bool true) ∧ Below w.heap.size w w' := by
  obtain ⟨A, c, rfl, ⟨_, _, hl⟩⟩ := hr.slice
  obtain ⟨A', c', rfl, _⟩ := hr'.slice
  have HR := Lib.hid hr
  have HR' := Lib.hid hr'
  clear hr hr'
  go_enter Try.func78, Try.ntmps78
  go_wp2
  go_loopw [5] (fun a wr => ∃ i : Nat, i ≤ xs.length ∧ a = .int .i64 i ∧ Hid (Below w.heap.size w wr)) (fun a wr => xs.length - (intOf a).toNat)
  case atStart => exact ⟨0, by omega, rfl, Below.refl _ w⟩
  case round =>
    obtain ⟨i, hi, rfl, HB⟩ := hrel
    by_cases hlt : i < xs.length
    · obtain ⟨x, hx⟩ : ∃ x, xs[i]? = some x := ⟨xs[i], List.getElem?_eq_getElem hlt⟩
      obtain ⟨ad, v5, rfl, hadb, h0, h1, h2, h3, h4, h5, h6, h7, h8, h9, h10, h11, k5⟩ := row_eMessage (HR.out.below HB.out) hx
      obtain ⟨ad', v5', rfl, hadb', h0', h1', h2', h3', h4', h5', h6', h7', h8', h9', h10', h11', k5'⟩ := row_eMessage (HR'.out.below HB.out) hx
      have HX := Lib.hid hx
      clear hx
      go_wp2
      go_still_tail 8, (by kernel_rfl)
      change wpList _ _ _ _ _ wr.drew
      go_wp2_with fail
      refine (eqMessage_calls _ _ x _ (mkrd_eMessage k5.drew) (mkrd_eMessage k5'.drew)).mono ?_
      rintro e w1 ⟨rfl, hb1⟩
      have HB1 := Lib.hid hb1
      clear hb1
      go_wp2
      go_roundw
      case rel => exact ⟨i + 1, by omega, by go_num, HB.out.drew.trans (HB1.out.mono HB.out.drew.size)⟩
      case measure => simp [intOf]; omega
    · have : i = xs.length := by omega
      subst this
      go_wp2
      go_ret
      exact ⟨rfl, HB.out⟩

set_option maxHeartbeats 800000 in
set_option maxRecDepth 100000 in
theorem szMessage_calls (us : List Value) (x : GMessage) (left : Int) (w : World) (hr : RdLW w (eMessage x) us) (hstr : StrOkL (eMessage x)) (h0 : 0 ≤ left) (h1 : left ≤ 1048576) :
    Calls Try.prog 14 #[.agg us.toArray, .int .i64 left] w fun e w' => ∃ r : Int, e = .returned (.int .i64 r) ∧ SzR r left (sizL (eMessage x)) ∧ Below w.heap.size w w' := by
  rw [siz_eMessage]
  obtain ⟨v5, rfl, h5⟩ := rd_eMessage hr
  clear hr
  have H5 := Lib.hid h5
  clear h5
  have t4 := str_eMessage hstr
  clear hstr
  go_enter Try.func14, Try.ntmps14
  by_cases hl4 : left - x.Name.size < 0
  · go_wp2
    go_ret
    exact ⟨_, rfl, .inl rfl, ((Below.refl _ _).alloc (Nat.le_refl _) _)⟩
  have hm4 : 0 ≤ left - x.Name.size := by omega
  have hM4 : left - x.Name.size ≤ 1048576 := by omega
  go_wp2_with fail
  refine (szWireS_calls _ _ _ _ (H5.out.below ((Below.refl _ _).alloc (Nat.le_refl _) _)) (by omega) (by omega)).mono ?_
  rintro e w1 ⟨r5, rfl, hr5, hb1⟩
  have B1 : Blk w1 w.heap.size 32 #[.int .i64 x.Kind, .int .i64 x.Pos, .int .i64 x.Answer, .int .i64 x.Question, .string x.Name, v5, .int .i64 x.Value.Kind, .int .i64 x.Value.N, .int .i64 x.Count, .int .i64 x.Tag.Vat, .int .i64 x.Tag.Entity, .int .i64 x.Tag.Seq] := (Blk.new _ _ _).below hb1
  have D1 : Below w.heap.size w w1 := ((Below.refl _ _).alloc (Nat.le_refl _) _).trans (hb1.mono (by simp only [size_alloc]; omega))
  have HB1 := Lib.hid B1
  have HD1 := Lib.hid D1
  obtain ⟨cb1, fb1⟩ := B1.rules
  clear hb1 B1 D1
  rcases hr5 with rfl | ⟨hr5, hr5_0⟩
  · go_wp2
    go_ret
    exact ⟨_, rfl, .inl rfl, HD1.out⟩
  have hr5_9 : r5 ≤ 1048576 := by omega
  have HR5 := Lib.hid hr5
  clear hr5
  go_wp2
  go_ret
  exact ⟨_, rfl, .inr ⟨by have e5 := HR5.out; omega, by omega⟩, HD1.out⟩

set_option maxHeartbeats 800000 in
set_option maxRecDepth 100000 in
theorem szMessageS_calls (xs : List GMessage) (v : Value) (left : Int) (w : World) (hr : RdW w (.s xs.length (xs.flatMap eMessage)) v) (hstr : StrOkL (xs.flatMap eMessage)) (h0 : 0 ≤ left) (h1 : left ≤ 1048576) :
    Calls Try.prog 76 #[v, .int .i64 left] w fun e w' => ∃ r : Int, e = .returned (.int .i64 r) ∧ SzR r left (xs.length + sizL (xs.flatMap eMessage)) ∧ Below w.heap.size w w' := by
  obtain ⟨A, c, rfl, ⟨_, _, hl⟩⟩ := hr.slice
  have HR := Lib.hid hr
  clear hr
  by_cases hlt : left - xs.length < 0
  · go_enter Try.func76, Try.ntmps76
    go_wp2
    go_ret
    exact ⟨_, rfl, .inl rfl, Below.refl _ w⟩
  · go_enter Try.func76, Try.ntmps76
    go_wp2
    go_loopw [1, 5] (fun a b wr => ∃ (i : Nat) (q : Int), i ≤ xs.length ∧ b = .int .i64 i ∧ a = .int .i64 q ∧ 0 ≤ q ∧ q ≤ 1048576 ∧ Hid (q = left - xs.length - sizL ((xs.take i).flatMap eMessage)) ∧ Hid (Below w.heap.size w wr)) (fun a b wr => xs.length - (intOf b).toNat)
    case atStart => exact ⟨0, _, by omega, rfl, rfl, by omega, by omega, by simp [sizL_nil, Hid], Below.refl _ w⟩
    case round =>
      obtain ⟨i, q, hi, rfl, rfl, hq0, hq9, HQ, HB⟩ := hrel
      by_cases hlt : i < xs.length
      · obtain ⟨x, hx⟩ : ∃ x, xs[i]? = some x := ⟨xs[i], List.getElem?_eq_getElem hlt⟩
        obtain ⟨ad, v5, rfl, hadb, h0, h1, h2, h3, h4, h5, h6, h7, h8, h9, h10, h11, k5⟩ := row_eMessage (HR.out.below HB.out) hx
        have HX := Lib.hid hx
        clear hx
        go_wp2_with fail
        refine (szMessage_calls _ x _ _ (mkrd_eMessage k5) (StrOkL_mem hstr (List.mem_of_getElem? HX.out)) hq0 hq9).mono ?_
        rintro e w1 ⟨r, rfl, hr, hb1⟩
        have HB1 := Lib.hid hb1
        clear hb1
        have hq := HQ.out
        have hs1 := siz_step eMessage xs i x HX.out
        have hs2 := siz_take_le eMessage xs (i + 1)
        rcases hr with rfl | ⟨hr, hr0⟩
        · go_wp2
          go_ret
          exact ⟨_, rfl, .inl rfl, HB.out.trans (HB1.out.mono HB.out.size)⟩
        · have hr9 : r ≤ 1048576 := by omega
          have HQ2 : Hid (r = left - xs.length - sizL ((xs.take (i + 1)).flatMap eMessage)) := by unfold Hid; omega
          clear hr hs1 hs2 hq
          go_wp2
          go_roundw
          case rel => exact ⟨i + 1, r, by omega, by go_num, rfl, hr0, hr9, HQ2, HB.out.trans (HB1.out.mono HB.out.size)⟩
          case measure => simp [intOf]; omega
      · have : i = xs.length := by omega
        subst this
        have hq := HQ.out
        rw [List.take_length] at hq
        have HQ2 := Lib.hid hq
        clear hq
        go_wp2
        go_ret
        exact ⟨_, rfl, .inr ⟨by have := HQ2.out; omega, hq0⟩, HB.out⟩

set_option maxHeartbeats 800000 in
set_option maxRecDepth 100000 in
theorem markMessage_calls (us : List Value) (x : GMessage) (k : Int) (fp : List Nat) (w : World) (ho : OwnL w (eMessage x) us fp) (hnd : fp.Nodup) (hk0 : 0 ≤ k) (hk1 : k + tcnt (eMessage x) ≤ 4611686018427387904) :
    Calls Try.prog 35 #[.agg us.toArray, .int .i64 k] w fun e w' => ∃ r : Int, e = .returned (.int .i64 r) ∧ r = k + tcnt (eMessage x) ∧ OwnL w' (topL (eMessage x) k) us fp ∧ Chg (· ∈ fp) w w' := by
  rw [tcnt_eMessage] at hk1 ⊢
  obtain ⟨v5, f5, rfl, hfq, o5_0⟩ := own_eMessage ho
  clear ho
  obtain rfl : f5 = fp := hfq.symm
  have n5 := hnd
  have H_o5_0 := Lib.hid o5_0
  have HC := Lib.hid hk1
  clear hk1 o5_0
  go_enter Try.func35, Try.ntmps35
  go_wp2_with fail
  refine (markWireS_calls _ _ k f5 _ (Own.below H_o5_0.out ((Below.refl _ _).alloc (Nat.le_refl _) _)) n5 (by omega) (by have := HC.out; omega)).mono ?_
  rintro e w1 ⟨r5, rfl, hr5, o5_1, hb1⟩
  have hbg1 : w.heap.size ∉ f5 := fun h => by have := Own.lt _ _ _ H_o5_0.out _ h; omega
  have B1 : Blk w1 w.heap.size 38 #[.int .i64 x.Kind, .int .i64 x.Pos, .int .i64 x.Answer, .int .i64 x.Question, .string x.Name, v5, .int .i64 x.Value.Kind, .int .i64 x.Value.N, .int .i64 x.Count, .int .i64 x.Tag.Vat, .int .i64 x.Tag.Entity, .int .i64 x.Tag.Seq] := (Blk.new _ _ _).chg hb1 hbg1
  have C1 : Chg (· ∈ f5) w w1 := ((Chg.refl _ w).alloc _).trans (hb1.mono (fun b _ hb => by simp [hb]))
  have HB1 := Lib.hid B1
  have HC1 := Lib.hid C1
  have H_hr5 := Lib.hid hr5
  have H_o5_1 := Lib.hid o5_1
  have hr5_0 : 0 ≤ r5 := by omega
  obtain ⟨cb1, fb1⟩ := B1.rules
  clear hb1 B1 C1 hr5 o5_1
  go_wp2
  go_ret
  refine ⟨_, rfl, by have := HC.out; have e5 := H_hr5.out; omega, ?_, HC1.out⟩
  exact mktop_eMessage k r5 H_hr5.out H_o5_1.out

set_option maxHeartbeats 800000 in
set_option maxRecDepth 100000 in
theorem markMessageS_calls (xs : List GMessage) (v : Value) (k : Int) (fp : List Nat) (w : World) (ho : Own w (.s xs.length (xs.flatMap eMessage)) v fp) (hnd : fp.Nodup) (hk0 : 0 ≤ k) (hk1 : k + cntL (xs.flatMap eMessage) ≤ 4611686018427387904) :
    Calls Try.prog 61 #[v, .int .i64 k] w fun e w' => ∃ r : Int, e = .returned (.int .i64 r) ∧ r = k + cntL (xs.flatMap eMessage) ∧ Own w' (.s xs.length (mkL (xs.flatMap eMessage) k)) v fp ∧ Chg (· ∈ fp) w w' := by
  obtain ⟨A, c, rfl, ⟨_, _, hl⟩⟩ := ho.slice
  have HS := Lib.hid (MkI.start (k0 := k) ho)
  have HND := Lib.hid hnd
  clear ho hnd
  go_enter Try.func61, Try.ntmps61
  go_wp2
  go_loopw [1, 5] (fun a b wr => ∃ (i : Nat) (q : Int), i ≤ xs.length ∧ b = .int .i64 i ∧ a = .int .i64 q ∧ Hid (q = k + cntL ((xs.take i).flatMap eMessage)) ∧ Hid (MkI eMessage xs k w wr (.slice A xs.length c) fp i)) (fun a b wr => xs.length - (intOf b).toNat)
  case atStart => exact ⟨0, k, by omega, rfl, rfl, by simp [cntL_nil, Hid], HS⟩
  case round =>
    obtain ⟨i, q, hi, rfl, rfl, HQ, HI⟩ := hrel
    by_cases hlt : i < xs.length
    · obtain ⟨x, hx⟩ : ∃ x, xs[i]? = some x := ⟨xs[i], List.getElem?_eq_getElem hlt⟩
      obtain ⟨g, c', up, ur, uo, fa, fr, fo, hv, O⟩ := HI.out.open_ len_eMessage HND.out hx
      injection hv with hv1 hv2 hv3
      subst hv1; subst hv3
      have hq := HQ.out
      have hq1 := cnt_step eMessage xs i x hx
      have hq2 := cnt_take_le eMessage xs (i+1)
      have hq3 := cnt_eMessage x
      have hq0 : 0 ≤ q := by omega
      have hqx : q + cntL (eMessage x) ≤ 4611686018427387904 := by omega
      obtain ⟨v5, f5, rfl, hfq, o5_0⟩ := own_eMessage O.mid
      obtain rfl : f5 = fr := hfq.symm
      obtain ⟨A5, c5, rfl, _⟩ := o5_0.slice
      have hg5 : g ∉ f5 := fun h => O.fr_ne (by simp [h])
      have hn := O.fr_nodup
      have n5 := hn
      have RW0 : RowIs wr g (up ++ ([.int .i64 x.Kind, .int .i64 x.Pos, .int .i64 x.Answer, .int .i64 x.Question, .string x.Name, .slice A5 x.Args.length c5, .int .i64 x.Value.Kind, .int .i64 x.Value.N, .int .i64 x.Count, .int .i64 x.Tag.Vat, .int .i64 x.Tag.Entity, .int .i64 x.Tag.Seq] ++ uo)) := O.row
      have C0 : Chg (fun b => b = g ∨ b ∈ (f5 : List Nat)) wr wr := Chg.refl _ _
      obtain ⟨h0, g0⟩ := RW0.midk O.len 0 _ rfl
      obtain ⟨h1, g1⟩ := RW0.midk O.len 1 _ rfl
      obtain ⟨h2, g2⟩ := RW0.midk O.len 2 _ rfl
      obtain ⟨h3, g3⟩ := RW0.midk O.len 3 _ rfl
      obtain ⟨h4, g4⟩ := RW0.midk O.len 4 _ rfl
      obtain ⟨h5, g5⟩ := RW0.midk O.len 5 _ rfl
      obtain ⟨h6, g6⟩ := RW0.midk O.len 6 _ rfl
      obtain ⟨h7, g7⟩ := RW0.midk O.len 7 _ rfl
      obtain ⟨h8, g8⟩ := RW0.midk O.len 8 _ rfl
      obtain ⟨h9, g9⟩ := RW0.midk O.len 9 _ rfl
      obtain ⟨h10, g10⟩ := RW0.midk O.len 10 _ rfl
      obtain ⟨h11, g11⟩ := RW0.midk O.len 11 _ rfl
      rw [Nat.add_zero] at h0 g0
      have H_RW0 := Lib.hid RW0
      have H_C0 := Lib.hid C0
      have H_o5_0 := Lib.hid o5_0
      have HX := Lib.hid hx
      have HO := Lib.hid O
      have HC := Lib.hid hqx
      have hgl := O.glt
      have HQ3 := Lib.hid hq3
      have HQ1 := Lib.hid hq1
      have hq9 : q + 11 ≤ 4611686018427387904 := by omega
      clear hx O hq hq1 hq2 hq3 hv2 HI HS RW0 C0 hqx o5_0 hn
      go_wp2_with fail
      refine (markText_calls (q + 1 + 1 + 1 + 1) _ (by omega) (by omega)).mono ?_
      rintro e w1 ⟨rfl, hb1⟩
      have RW1 : RowIs w1 g (up ++ ([.int .i64 q, .int .i64 (q + 1), .int .i64 (q + 1 + 1), .int .i64 (q + 1 + 1 + 1), .string x.Name, .slice A5 x.Args.length c5, .int .i64 x.Value.Kind, .int .i64 x.Value.N, .int .i64 x.Count, .int .i64 x.Tag.Vat, .int .i64 x.Tag.Entity, .int .i64 x.Tag.Seq] ++ uo)) := RowIs.keep (RowIs.setMid (RowIs.setMid (RowIs.setMid (RowIs.setMid H_RW0.out HO.out.len 0 (by simp) _) HO.out.len 1 (by simp) _) HO.out.len 2 (by simp) _) HO.out.len 3 (by simp) _) (hb1.block _ (by first | exact hgl | (simp only [size_set]; exact hgl)))
      have C1 : Chg (fun b => b = g ∨ b ∈ (f5 : List Nat)) wr w1 := (Chg.setCell (Chg.setCell (Chg.setCell (Chg.setCell H_C0.out (.inl (.inl rfl)) _) (.inl (.inl rfl)) _) (.inl (.inl rfl)) _) (.inl (.inl rfl)) _).trans (Chg.of_below hb1 _)
      have o5_1 := Own.below (Own.chg H_o5_0.out (((((Chg.refl (· = g) _).setCell (.inl rfl) _).setCell (.inl rfl) _).setCell (.inl rfl) _).setCell (.inl rfl) _) (fun b hb e => hg5 (e ▸ hb))) hb1
      have hgl1 : g < w1.heap.size := Nat.lt_of_lt_of_le HO.out.glt C1.size
      clear h0 g0 h1 g1 h2 g2 h3 g3 h4 g4 h5 g5 h6 g6 h7 g7 h8 g8 h9 g9 h10 g10 h11 g11
      obtain ⟨h0, g0⟩ := RW1.midk HO.out.len 0 _ rfl
      obtain ⟨h1, g1⟩ := RW1.midk HO.out.len 1 _ rfl
      obtain ⟨h2, g2⟩ := RW1.midk HO.out.len 2 _ rfl
      obtain ⟨h3, g3⟩ := RW1.midk HO.out.len 3 _ rfl
      obtain ⟨h4, g4⟩ := RW1.midk HO.out.len 4 _ rfl
      obtain ⟨h5, g5⟩ := RW1.midk HO.out.len 5 _ rfl
      obtain ⟨h6, g6⟩ := RW1.midk HO.out.len 6 _ rfl
      obtain ⟨h7, g7⟩ := RW1.midk HO.out.len 7 _ rfl
      obtain ⟨h8, g8⟩ := RW1.midk HO.out.len 8 _ rfl
      obtain ⟨h9, g9⟩ := RW1.midk HO.out.len 9 _ rfl
      obtain ⟨h10, g10⟩ := RW1.midk HO.out.len 10 _ rfl
      obtain ⟨h11, g11⟩ := RW1.midk HO.out.len 11 _ rfl
      rw [Nat.add_zero] at h0 g0
      have H_RW1 := Lib.hid RW1
      have H_C1 := Lib.hid C1
      have H_o5_1 := Lib.hid o5_1
      clear hb1 RW1 C1 o5_1 hgl
      have hgl := hgl1
      clear hgl1
      go_wp2_with fail
      refine (markWireS_calls _ _ _ f5 _ (Own.chg H_o5_1.out ((Chg.refl (· = g) _).setCell (.inl rfl) _) (fun b hb e => hg5 (e ▸ hb))) n5 (by omega) (by have := HQ3.out; have := HC.out; omega)).mono ?_
      rintro e w2 ⟨r5, rfl, hr5, o5_2, hb2⟩
      have RW2 : RowIs w2 g (up ++ ([.int .i64 q, .int .i64 (q + 1), .int .i64 (q + 1 + 1), .int .i64 (q + 1 + 1 + 1), .string (mkText (q + 1 + 1 + 1 + 1)), .slice A5 x.Args.length c5, .int .i64 x.Value.Kind, .int .i64 x.Value.N, .int .i64 x.Count, .int .i64 x.Tag.Vat, .int .i64 x.Tag.Entity, .int .i64 x.Tag.Seq] ++ uo)) := RowIs.keep (RowIs.setMid H_RW1.out HO.out.len 4 (by simp) _) (hb2.block _ (by first | exact hgl | (simp only [size_set]; exact hgl)) hg5)
      have C2 : Chg (fun b => b = g ∨ b ∈ (f5 : List Nat)) wr w2 := (Chg.setCell H_C1.out (.inl (.inl rfl)) _).trans (hb2.mono (fun b _ hb => .inr (by simp [hb])))
      have hgl2 : g < w2.heap.size := Nat.lt_of_lt_of_le HO.out.glt C2.size
      clear h0 g0 h1 g1 h2 g2 h3 g3 h4 g4 h5 g5 h6 g6 h7 g7 h8 g8 h9 g9 h10 g10 h11 g11
      obtain ⟨h0, g0⟩ := RW2.midk HO.out.len 0 _ rfl
      obtain ⟨h1, g1⟩ := RW2.midk HO.out.len 1 _ rfl
      obtain ⟨h2, g2⟩ := RW2.midk HO.out.len 2 _ rfl
      obtain ⟨h3, g3⟩ := RW2.midk HO.out.len 3 _ rfl
      obtain ⟨h4, g4⟩ := RW2.midk HO.out.len 4 _ rfl
      obtain ⟨h5, g5⟩ := RW2.midk HO.out.len 5 _ rfl
      obtain ⟨h6, g6⟩ := RW2.midk HO.out.len 6 _ rfl
      obtain ⟨h7, g7⟩ := RW2.midk HO.out.len 7 _ rfl
      obtain ⟨h8, g8⟩ := RW2.midk HO.out.len 8 _ rfl
      obtain ⟨h9, g9⟩ := RW2.midk HO.out.len 9 _ rfl
      obtain ⟨h10, g10⟩ := RW2.midk HO.out.len 10 _ rfl
      obtain ⟨h11, g11⟩ := RW2.midk HO.out.len 11 _ rfl
      rw [Nat.add_zero] at h0 g0
      have H_RW2 := Lib.hid RW2
      have H_C2 := Lib.hid C2
      have H_o5_2 := Lib.hid o5_2
      have H_hr5 := Lib.hid hr5
      have hr5_0 : 0 ≤ r5 := by omega
      have hr5_9 : r5 + 6 ≤ 4611686018427387904 := by have := HQ3.out; have h := HC.out; omega
      clear hb2 RW2 C2 o5_2 hr5 hgl
      have hgl := hgl2
      clear hgl2
      have HQ2 : Hid (r5 + 1 + 1 + 1 + 1 + 1 + 1 = k + cntL ((xs.take (i+1)).flatMap eMessage)) := by unfold Hid; have h1 := HQ1.out; have h2 := HQ3.out; have h3 := HQ.out; have e5 := H_hr5.out; omega
      go_wp2
      go_roundw
      case rel =>
        have hst := HO.out.close (ur' := [.int .i64 q, .int .i64 (q + 1), .int .i64 (q + 1 + 1), .int .i64 (q + 1 + 1 + 1), .string (mkText (q + 1 + 1 + 1 + 1)), .slice A5 x.Args.length c5, .int .i64 r5, .int .i64 (r5 + 1), .int .i64 (r5 + 1 + 1), .int .i64 (r5 + 1 + 1 + 1), .int .i64 (r5 + 1 + 1 + 1 + 1), .int .i64 (r5 + 1 + 1 + 1 + 1 + 1)]) (RowIs.setMid (RowIs.setMid (RowIs.setMid (RowIs.setMid (RowIs.setMid (RowIs.setMid H_RW2.out HO.out.len 6 (by simp) _) HO.out.len 7 (by simp) _) HO.out.len 8 (by simp) _) HO.out.len 9 (by simp) _) HO.out.len 10 (by simp) _) HO.out.len 11 (by simp) _) (by rw [← HQ.out]; exact mkownm_eMessage q r5 H_hr5.out hq0 HC.out (Own.chg H_o5_2.out (((((((Chg.refl (· = g) _).setCell (.inl rfl) _).setCell (.inl rfl) _).setCell (.inl rfl) _).setCell (.inl rfl) _).setCell (.inl rfl) _).setCell (.inl rfl) _) (fun b hb e => hg5 (e ▸ hb)))) (Chg.setCell (Chg.setCell (Chg.setCell (Chg.setCell (Chg.setCell (Chg.setCell H_C2.out (.inl (.inl rfl)) _) (.inl (.inl rfl)) _) (.inl (.inl rfl)) _) (.inl (.inl rfl)) _) (.inl (.inl rfl)) _) (.inl (.inl rfl)) _)
        exact ⟨i + 1, _, by omega, by go_num, rfl, HQ2, hst⟩
      case measure => simp [intOf]; omega
    · have : i = xs.length := by omega
      subst this
      have hq := HQ.out
      rw [List.take_length] at hq
      have HQ2 := Lib.hid hq
      clear hq
      go_wp2
      go_ret
      exact ⟨_, rfl, HQ2.out, HI.out.finish⟩

set_option maxHeartbeats 800000 in
set_option maxRecDepth 100000 in
theorem heldMessage_calls (us : List Value) (x : GMessage) (k : Int) (w : World) (hr : RdLW w (topL (eMessage x) k) us) (hk0 : 0 ≤ k) (hk1 : k + tcnt (eMessage x) ≤ 4611686018427387904) :
    Calls Try.prog 41 #[.agg us.toArray, .int .i64 k] w fun e w' => ∃ r : Int, e = .returned (.int .i64 r) ∧ r = k + tcnt (eMessage x) ∧ Below w.heap.size w w' := by
  rw [tcnt_eMessage] at hk1 ⊢
  obtain ⟨r5, hr5⟩ : ∃ r5 : Int, r5 = k + (cntL (x.Args.flatMap eWire) : Nat) := ⟨_, rfl⟩
  obtain ⟨v5, rfl, k5⟩ := rdtop_eMessage k r5 hr5 hr
  clear hr
  have K5 := Lib.hid k5
  have HR5 := Lib.hid hr5
  have hr5_0 : 0 ≤ r5 := by omega
  have HC := Lib.hid hk1
  clear hk1 k5 hr5
  go_enter Try.func41, Try.ntmps41
  go_wp2_with fail
  refine (heldWireS_calls _ _ _ _ (K5.out.below ((Below.refl _ _).alloc (Nat.le_refl _) _)) (by omega) (by have := HC.out; have := HR5.out; omega)).mono ?_
  rintro e w1 ⟨rr, rfl, hrr, hb1⟩
  obtain rfl : rr = r5 := hrr.trans HR5.out.symm
  clear hrr
  have B1 : Blk w1 w.heap.size 38 #[.int .i64 x.Kind, .int .i64 x.Pos, .int .i64 x.Answer, .int .i64 x.Question, .string x.Name, v5, .int .i64 x.Value.Kind, .int .i64 x.Value.N, .int .i64 x.Count, .int .i64 x.Tag.Vat, .int .i64 x.Tag.Entity, .int .i64 x.Tag.Seq] := (Blk.new _ _ _).below hb1
  have D1 : Below w.heap.size w w1 := ((Below.refl _ _).alloc (Nat.le_refl _) _).trans (hb1.mono (by simp only [size_alloc]; omega))
  have HB1 := Lib.hid B1
  have HD1 := Lib.hid D1
  obtain ⟨cb1, fb1⟩ := B1.rules
  clear hb1 B1 D1
  go_wp2
  go_ret
  exact ⟨_, rfl, by have := HC.out; have e5 := HR5.out; omega, HD1.out⟩

set_option maxHeartbeats 800000 in
set_option maxRecDepth 100000 in
theorem heldMessageS_calls (xs : List GMessage) (v : Value) (k : Int) (w : World) (hr : RdW w (.s xs.length (mkL (xs.flatMap eMessage) k)) v) (hk0 : 0 ≤ k) (hk1 : k + cntL (xs.flatMap eMessage) ≤ 4611686018427387904) :
    Calls Try.prog 62 #[v, .int .i64 k] w fun e w' => ∃ r : Int, e = .returned (.int .i64 r) ∧ r = k + cntL (xs.flatMap eMessage) ∧ Below w.heap.size w w' := by
  obtain ⟨A, c, rfl, ⟨_, _, hl⟩⟩ := hr.slice
  have HR := Lib.hid hr
  clear hr
  go_enter Try.func62, Try.ntmps62
  go_wp2
  go_loopw [1, 5] (fun a b wr => ∃ (i : Nat) (q : Int), i ≤ xs.length ∧ b = .int .i64 i ∧ a = .int .i64 q ∧ Hid (q = k + cntL ((xs.take i).flatMap eMessage)) ∧ Hid (Below w.heap.size w wr)) (fun a b wr => xs.length - (intOf b).toNat)
  case atStart => exact ⟨0, k, by omega, rfl, rfl, by simp [cntL_nil, Hid], Below.refl _ w⟩
  case round =>
    obtain ⟨i, q, hi, rfl, rfl, HQ, HB⟩ := hrel
    by_cases hlt : i < xs.length
    · obtain ⟨x, hx⟩ : ∃ x, xs[i]? = some x := ⟨xs[i], List.getElem?_eq_getElem hlt⟩
      obtain ⟨ad, ys, rfl, hadb, hr, hc⟩ := RdW.atMk len_eMessage (HR.out.below HB.out) hx
      have hq := HQ.out
      have hq1 := cnt_step eMessage xs i x hx
      have hq2 := cnt_take_le eMessage xs (i+1)
      have hq3 := cnt_eMessage x
      have hq0 : 0 ≤ q := by omega
      have hqx : q + cntL (eMessage x) ≤ 4611686018427387904 := by omega
      rw [← hq] at hr
      obtain ⟨r5, hr5⟩ : ∃ r5 : Int, r5 = q + 1 + 1 + 1 + 1 + 1 + (cntL (x.Args.flatMap eWire) : Nat) := ⟨_, rfl⟩
      obtain ⟨v5, rfl, k5⟩ := rdm_eMessage q r5 hr5 hq0 hqx hr
      obtain ⟨A5, c5, rfl, _⟩ := k5.slice
      have h0 := hc 0 _ rfl
      have h1 := hc 1 _ rfl
      have h2 := hc 2 _ rfl
      have h3 := hc 3 _ rfl
      have h4 := hc 4 _ rfl
      have h5 := hc 5 _ rfl
      have h6 := hc 6 _ rfl
      have h7 := hc 7 _ rfl
      have h8 := hc 8 _ rfl
      have h9 := hc 9 _ rfl
      have h10 := hc 10 _ rfl
      have h11 := hc 11 _ rfl
      rw [Nat.add_zero] at h0
      rw [add_field _ _ 1 (by omega)] at h1
      rw [add_field _ _ 2 (by omega)] at h2
      rw [add_field _ _ 3 (by omega)] at h3
      rw [add_field _ _ 4 (by omega)] at h4
      rw [add_field _ _ 5 (by omega)] at h5
      rw [add_field _ _ 6 (by omega)] at h6
      rw [add_field _ _ 7 (by omega)] at h7
      rw [add_field _ _ 8 (by omega)] at h8
      rw [add_field _ _ 9 (by omega)] at h9
      rw [add_field _ _ 10 (by omega)] at h10
      rw [add_field _ _ 11 (by omega)] at h11
      have K5 := Lib.hid k5
      have HR5 := Lib.hid hr5
      have hr5_0 : 0 ≤ r5 := by omega
      have hr5_9 : r5 ≤ 4611686018427387904 - 6 := by omega
      have HX := Lib.hid hx
      have HQ3 := Lib.hid hq3
      have HC := Lib.hid hqx
      have hq9 : q + 11 ≤ 4611686018427387904 := by omega
      have hbw := Below.refl wr.heap.size wr
      have HB0 := Lib.hid hbw
      have HQ2 : Hid (r5 + 1 + 1 + 1 + 1 + 1 + 1 = k + cntL ((xs.take (i+1)).flatMap eMessage)) := by unfold Hid; omega
      clear hx hq hq1 hq2 hq3 hqx hr hc hbw k5 hr5
      go_wp2
      go_region_held3 (fun wq => wq.cell? ⟨(ad.add (i * 12)).block, (ad.add (i * 12)).off + 4, none⟩ = some (.string (mkText (q + 1 + 1 + 1 + 1))))
        (first | exact h4_q | exact h4)
        (first
          | (go_at_call 83; refine (markText_calls (q + 1 + 1 + 1 + 1) _ (by omega) (by omega)).mono ?_; rintro e w1 ⟨rfl, hbq1⟩; have h4_q := (hbq1.cell (by first | exact hadb | (dsimp only; rw [block_of_add]; exact hadb))).trans h4))
      have hb1 := (Below.refl _ _).drew.trans hbq1
      clear hbq1 h4_q
      have h0 := (hb1.cell (by first | exact hadb | (rw [block_of_add]; exact hadb))).trans h0
      have h1 := (hb1.cell (by first | exact hadb | (dsimp only; rw [block_of_add]; exact hadb))).trans h1
      have h2 := (hb1.cell (by first | exact hadb | (dsimp only; rw [block_of_add]; exact hadb))).trans h2
      have h3 := (hb1.cell (by first | exact hadb | (dsimp only; rw [block_of_add]; exact hadb))).trans h3
      have h4 := (hb1.cell (by first | exact hadb | (dsimp only; rw [block_of_add]; exact hadb))).trans h4
      have h5 := (hb1.cell (by first | exact hadb | (dsimp only; rw [block_of_add]; exact hadb))).trans h5
      have h6 := (hb1.cell (by first | exact hadb | (dsimp only; rw [block_of_add]; exact hadb))).trans h6
      have h7 := (hb1.cell (by first | exact hadb | (dsimp only; rw [block_of_add]; exact hadb))).trans h7
      have h8 := (hb1.cell (by first | exact hadb | (dsimp only; rw [block_of_add]; exact hadb))).trans h8
      have h9 := (hb1.cell (by first | exact hadb | (dsimp only; rw [block_of_add]; exact hadb))).trans h9
      have h10 := (hb1.cell (by first | exact hadb | (dsimp only; rw [block_of_add]; exact hadb))).trans h10
      have h11 := (hb1.cell (by first | exact hadb | (dsimp only; rw [block_of_add]; exact hadb))).trans h11
      have hadb := Nat.lt_of_lt_of_le hadb hb1.size
      have HB1 := Lib.hid (HB0.out.trans (hb1.mono HB0.out.size))
      clear hb1
      go_wp2_with fail
      refine (heldWireS_calls _ _ _ _ (K5.out.below HB1.out) (by omega) (by have := HR5.out; omega)).mono ?_
      rintro e w2 ⟨rr, rfl, hrr, hb2⟩
      obtain rfl : rr = r5 := hrr.trans HR5.out.symm
      clear hrr
      have h0 := (hb2.cell (by first | exact hadb | (rw [block_of_add]; exact hadb))).trans h0
      have h1 := (hb2.cell (by first | exact hadb | (dsimp only; rw [block_of_add]; exact hadb))).trans h1
      have h2 := (hb2.cell (by first | exact hadb | (dsimp only; rw [block_of_add]; exact hadb))).trans h2
      have h3 := (hb2.cell (by first | exact hadb | (dsimp only; rw [block_of_add]; exact hadb))).trans h3
      have h4 := (hb2.cell (by first | exact hadb | (dsimp only; rw [block_of_add]; exact hadb))).trans h4
      have h5 := (hb2.cell (by first | exact hadb | (dsimp only; rw [block_of_add]; exact hadb))).trans h5
      have h6 := (hb2.cell (by first | exact hadb | (dsimp only; rw [block_of_add]; exact hadb))).trans h6
      have h7 := (hb2.cell (by first | exact hadb | (dsimp only; rw [block_of_add]; exact hadb))).trans h7
      have h8 := (hb2.cell (by first | exact hadb | (dsimp only; rw [block_of_add]; exact hadb))).trans h8
      have h9 := (hb2.cell (by first | exact hadb | (dsimp only; rw [block_of_add]; exact hadb))).trans h9
      have h10 := (hb2.cell (by first | exact hadb | (dsimp only; rw [block_of_add]; exact hadb))).trans h10
      have h11 := (hb2.cell (by first | exact hadb | (dsimp only; rw [block_of_add]; exact hadb))).trans h11
      have hadb := Nat.lt_of_lt_of_le hadb hb2.size
      have HB2 := Lib.hid (HB1.out.trans (hb2.mono HB1.out.size))
      clear hb2
      go_wp2
      go_roundw
      case rel => exact ⟨i + 1, _, by omega, by go_num, rfl, HQ2, HB.out.trans (HB2.out.mono HB.out.size)⟩
      case measure => simp [intOf]; omega
    · have : i = xs.length := by omega
      subst this
      have hq := HQ.out
      rw [List.take_length] at hq
      have HQ2 := Lib.hid hq
      clear hq
      go_wp2
      go_ret
      exact ⟨_, rfl, HQ2.out, HB.out⟩

set_option maxHeartbeats 800000 in
set_option maxRecDepth 100000 in
theorem toChannel_calls (us : List Value) (x : GChannel) (w : World) (hr : RdLW w (eChannel x) us) (hz : sizL (eChannel x) ≤ 1048576) :
    Calls Try.prog 52 #[.agg us.toArray] w fun e w' => ∃ us' fp, e = .returned (.agg us'.toArray) ∧ OwnL w' (eChannel x) us' fp ∧ Fresh w fp ∧ Below w.heap.size w w' := by
  rw [siz_eChannel] at hz
  obtain ⟨v2, rfl, h2⟩ := rd_eChannel hr
  clear hr
  have H2 := Lib.hid h2
  clear h2
  go_enter Try.func52, Try.ntmps52
  go_wp2_with fail
  refine (toMessageS_calls _ _ _ (H2.out.below ?hbel1) (by omega)).mono ?_
  case hbel1 => exact ((((Below.refl _ _).alloc (Nat.le_refl _) _).alloc (by simp) _).alloc (by simp; omega) _)
  rintro e w1 ⟨u2, f2, rfl, o2, n2, hb1⟩
  obtain ⟨A2, c2, rfl, _⟩ := o2.slice
  have Z1 := Lib.hid hb1
  have S1 : w.heap.size + 3 ≤ w1.heap.size := by have h := hb1.size; simp only [size_set, size_alloc] at h; omega
  have hz1_0 : w.heap.size < w1.heap.size := by omega
  have hz1_1 : w.heap.size + 1 < w1.heap.size := by omega
  have hz1_2 : w.heap.size + 1 + 1 < w1.heap.size := by omega
  have B1 : Hid (Below w.heap.size w w1) := by
    refine Below.trans ?_ (hb1.mono (by simp only [size_set, size_alloc]; omega))
    exact ((((Below.refl _ _).alloc (Nat.le_refl _) _).alloc (by simp) _).alloc (by simp; omega) _)
  have KA1 : Hid (Blk w1 (w.heap.size) 73 #[.int .i64 x.From, .int .i64 x.To, v2]) := by
    refine Blk.below ?_ hb1
    exact ((Blk.made rfl).alloc _).alloc _
  have KO1 : Hid (Blk w1 (w.heap.size + 1 + 1) 76 #[.int .i64 x.From, .int .i64 x.To, .slice none 0 0]) := by
    refine Blk.below ?_ hb1
    exact Blk.made (by simp)
  have KR1 : Hid (Blk w1 (w.heap.size + 1) 76 #[.int .i64 0, .int .i64 0, .slice none 0 0]) := by
    refine Blk.below ?_ hb1
    exact (Blk.made (by simp)).alloc _
  obtain ⟨ca1, fa1⟩ := KA1.out.rules
  obtain ⟨co1, fo1⟩ := KO1.out.rules
  obtain ⟨cr1, fr1⟩ := KR1.out.rules
  clear hb1
  have O2 := Lib.hid o2
  clear o2
  have N2 := Lib.hid n2
  clear n2
  go_wp2
  refine post_cell (w0 := w1) (fun g => w.heap.size ≤ g ∧ g < w.heap.size + 3) Try.results52 (w.heap.size + 1) #[.int .i64 x.From, .int .i64 x.To, .slice A2 x.List.length c2] _ rfl (Blk.eq ((((KR1.out.far (by dsimp only; omega) _).set_ 0 _).set_ 1 _).set_ 2 _) (by simp)) Try.underlying76 rfl (by kernel_rfl) rfl (((((Chg.refl _ _).setCell (.inl (by dsimp only; omega)) _).setCell (.inl (by dsimp only; omega)) _).setCell (.inl (by dsimp only; omega)) _).setCell (.inl (by dsimp only; omega)) _) ?_
  intro W hW
  have F2 : ∀ g, g ∈ f2 → w.heap.size + 2 < g := fun g hg => by have h1 := N2.out.2 g hg; simp only [size_set, size_alloc] at h1; omega
  have P2 := O2.out
  refine ⟨_, _, rfl, mkown_eChannel (P2.chg hW (fun g hg => by have := F2 g hg; show ¬ (_ ∧ _); omega)), ?_, ?_⟩
  · skip
    have V2 : Fresh w f2 := N2.out.mono (by simp only [size_set, size_alloc]; omega)
    have L2 : ∀ g, g ∈ f2 → g < w1.heap.size := Own.lt _ _ _ O2.out
    exact V2
  · exact below_chg B1.out hW B1.out.size (fun i hi => hi.1)

set_option maxHeartbeats 800000 in
set_option maxRecDepth 100000 in
theorem toChannelS_calls (xs : List GChannel) (v : Value) (w : World) (hr : RdW w (.s xs.length (xs.flatMap eChannel)) v) (hn : xs.length + sizL (xs.flatMap eChannel) ≤ 1048576) :
    Calls Try.prog 21 #[v] w fun e w' => ∃ v' fp, e = .returned v' ∧ Own w' (.s xs.length (xs.flatMap eChannel)) v' fp ∧ Fresh w fp ∧ Below w.heap.size w w' := by
  obtain ⟨A, c, rfl, ⟨_, _, hl⟩⟩ := hr.slice
  have HR := Lib.hid hr
  clear hr
  have hn1 : xs.length ≤ 1048576 := by omega
  obtain ⟨cs0, hcs, hmk⟩ := run_make_any (P := Try.prog) 44 76 40 3 Try.underlying44 ⟨_, _, rfl, rfl, rfl, rfl⟩ xs.length (by omega) (by omega)
  have HCS := Lib.hid hcs
  clear hcs
  go_enter Try.func21, Try.ntmps21
  go_wp2
  go_loopw [4] (fun a wr => ∃ i : Nat, i ≤ xs.length ∧ a = .int .i64 i ∧ w.heap.size < wr.heap.size ∧ Hid (ToI eChannel 3 xs w wr i)) (fun a wr => xs.length - (intOf a).toNat)
  case atStart => exact ⟨0, by omega, rfl, by simp, ToI.start HCS.out⟩
  case round =>
    obtain ⟨i, hi, rfl, hgz, HI⟩ := hrel
    by_cases hlt : i < xs.length
    · obtain ⟨x, hx⟩ : ∃ x, xs[i]? = some x := ⟨xs[i], List.getElem?_eq_getElem hlt⟩
      obtain ⟨ad, v2, rfl, hadb, h0, h1, h2, k2⟩ := row_eChannel (HR.out.below HI.out.below) hx
      have hzx : sizL (eChannel x) ≤ 1048576 := by have := sizL_flat_le eChannel xs x (List.mem_of_getElem? hx); omega
      have HX := Lib.hid hx
      clear hx
      go_wp2_with fail
      refine (toChannel_calls _ x _ (mkrd_eChannel k2) hzx).mono ?_
      rintro e w1 ⟨us', fp', rfl, ho, hf, hb1⟩
      have HB1 := Lib.hid hb1
      have HO := Lib.hid ho
      have HF := Lib.hid hf
      obtain ⟨b2, f2, rfl, rfl, o2⟩ := own_eChannel ho
      obtain ⟨A2_, c2_, rfl, -⟩ := o2.slice
      clear ho hf hb1 o2
      obtain ⟨y0, c0, q0⟩ := HI.out.get HB1.out 0 hlt (by omega)
      obtain ⟨y1, c1, q1⟩ := HI.out.get HB1.out 1 hlt (by omega)
      obtain ⟨y2, c2, q2⟩ := HI.out.get HB1.out 2 hlt (by omega)
      rw [Nat.add_zero] at c0 q0
      have hgz1 : w.heap.size < w1.heap.size := Nat.lt_of_lt_of_le hgz HB1.out.size
      go_wp2
      go_roundw
      case rel =>
        have hst := HI.out.step HX.out HB1.out len_eChannel HO.out HF.out
        simp only [putRow, Nat.add_assoc, Nat.reduceAdd] at hst
        exact ⟨i + 1, by omega, by go_num, by simpa [World.setCell] using hgz1, hst⟩
      case measure => simp [intOf]; omega
    · have : i = xs.length := by omega
      subst this
      go_wp2
      go_ret
      obtain ⟨fp, ho, hf, hb⟩ := HI.out.finish hn1
      exact ⟨_, fp, rfl, ho, hf, hb⟩

set_option maxHeartbeats 800000 in
set_option maxRecDepth 100000 in
theorem eqChannel_calls (us us' : List Value) (x : GChannel) (w : World) (hr : RdLW w (eChannel x) us) (hr' : RdLW w (eChannel x) us') :
    Calls Try.prog 53 #[.agg us.toArray, .agg us'.toArray] w fun e w' => e = .returned (.bool true) ∧ Below w.heap.size w w' := by
  obtain ⟨v2, rfl, h2⟩ := rd_eChannel hr
  obtain ⟨v2', rfl, h2'⟩ := rd_eChannel hr'
  clear hr hr'
  have H2 := Lib.hid h2
  have H2' := Lib.hid h2'
  clear h2 h2'
  go_enter Try.func53, Try.ntmps53
  go_wp2_with fail
  refine (eqMessageS_calls _ _ _ _ (H2.out.below (((Below.refl _ _).alloc (Nat.le_refl _) _).alloc (by simp) _)) (H2'.out.below (((Below.refl _ _).alloc (Nat.le_refl _) _).alloc (by simp) _))).mono ?_
  rintro e w1 ⟨rfl, hb1⟩
  have hz1_0 : w.heap.size < w1.heap.size := by have := hb1.size; simp at this; omega
  have hz1_1 : w.heap.size + 1 < w1.heap.size := by have := hb1.size; simp at this; omega
  have B1 : Hid (Below w.heap.size w w1) := (((Below.refl _ _).alloc (Nat.le_refl _) _).alloc (by simp) _).trans (hb1.mono (by first | (simp; done) | (simp; omega)))
  obtain ⟨hc1, hf1⟩ := bcell hb1
  clear hb1
  go_wp2
  go_ret
  exact ⟨rfl, B1.out⟩

set_option maxHeartbeats 800000 in
set_option maxRecDepth 100000 in
theorem eqChannelS_calls (xs : List GChannel) (v v' : Value) (w : World) (hr : RdW w (.s xs.length (xs.flatMap eChannel)) v) (hr' : RdW w (.s xs.length (xs.flatMap eChannel)) v') :
    Calls Try.prog 23 #[v, v'] w fun e w' => e = .returned (.bool true) ∧ Below w.heap.size w w' := by
  obtain ⟨A, c, rfl, ⟨_, _, hl⟩⟩ := hr.slice
  obtain ⟨A', c', rfl, _⟩ := hr'.slice
  have HR := Lib.hid hr
  have HR' := Lib.hid hr'
  clear hr hr'
  go_enter Try.func23, Try.ntmps23
  go_wp2
  go_loopw [5] (fun a wr => ∃ i : Nat, i ≤ xs.length ∧ a = .int .i64 i ∧ Hid (Below w.heap.size w wr)) (fun a wr => xs.length - (intOf a).toNat)
  case atStart => exact ⟨0, by omega, rfl, Below.refl _ w⟩
  case round =>
    obtain ⟨i, hi, rfl, HB⟩ := hrel
    by_cases hlt : i < xs.length
    · obtain ⟨x, hx⟩ : ∃ x, xs[i]? = some x := ⟨xs[i], List.getElem?_eq_getElem hlt⟩
      obtain ⟨ad, v2, rfl, hadb, h0, h1, h2, k2⟩ := row_eChannel (HR.out.below HB.out) hx
      obtain ⟨ad', v2', rfl, hadb', h0', h1', h2', k2'⟩ := row_eChannel (HR'.out.below HB.out) hx
      have HX := Lib.hid hx
      clear hx
      go_wp2
      go_still_tail 8, (by kernel_rfl)
      change wpList _ _ _ _ _ wr.drew
      go_wp2_with fail
      refine (eqChannel_calls _ _ x _ (mkrd_eChannel k2.drew) (mkrd_eChannel k2'.drew)).mono ?_
      rintro e w1 ⟨rfl, hb1⟩
      have HB1 := Lib.hid hb1
      clear hb1
      go_wp2
      go_roundw
      case rel => exact ⟨i + 1, by omega, by go_num, HB.out.drew.trans (HB1.out.mono HB.out.drew.size)⟩
      case measure => simp [intOf]; omega
    · have : i = xs.length := by omega
      subst this
      go_wp2
      go_ret
      exact ⟨rfl, HB.out⟩

set_option maxHeartbeats 800000 in
set_option maxRecDepth 100000 in
theorem szChannel_calls (us : List Value) (x : GChannel) (left : Int) (w : World) (hr : RdLW w (eChannel x) us) (hstr : StrOkL (eChannel x)) (h0 : 0 ≤ left) (h1 : left ≤ 1048576) :
    Calls Try.prog 51 #[.agg us.toArray, .int .i64 left] w fun e w' => ∃ r : Int, e = .returned (.int .i64 r) ∧ SzR r left (sizL (eChannel x)) ∧ Below w.heap.size w w' := by
  rw [siz_eChannel]
  obtain ⟨v2, rfl, h2⟩ := rd_eChannel hr
  clear hr
  have H2 := Lib.hid h2
  clear h2
  have t2 := str_eChannel hstr
  have HT2 := Lib.hid t2
  clear t2
  clear hstr
  go_enter Try.func51, Try.ntmps51
  go_wp2_with fail
  refine (szMessageS_calls _ _ _ _ (H2.out.below ((Below.refl _ _).alloc (Nat.le_refl _) _)) HT2.out (by omega) (by omega)).mono ?_
  rintro e w1 ⟨r2, rfl, hr2, hb1⟩
  have B1 : Blk w1 w.heap.size 73 #[.int .i64 x.From, .int .i64 x.To, v2] := (Blk.new _ _ _).below hb1
  have D1 : Below w.heap.size w w1 := ((Below.refl _ _).alloc (Nat.le_refl _) _).trans (hb1.mono (by simp only [size_alloc]; omega))
  have HB1 := Lib.hid B1
  have HD1 := Lib.hid D1
  obtain ⟨cb1, fb1⟩ := B1.rules
  clear hb1 B1 D1
  rcases hr2 with rfl | ⟨hr2, hr2_0⟩
  · go_wp2
    go_ret
    exact ⟨_, rfl, .inl rfl, HD1.out⟩
  have hr2_9 : r2 ≤ 1048576 := by omega
  have HR2 := Lib.hid hr2
  clear hr2
  go_wp2
  go_ret
  exact ⟨_, rfl, .inr ⟨by have e2 := HR2.out; omega, by omega⟩, HD1.out⟩

set_option maxHeartbeats 800000 in
set_option maxRecDepth 100000 in
theorem szChannelS_calls (xs : List GChannel) (v : Value) (left : Int) (w : World) (hr : RdW w (.s xs.length (xs.flatMap eChannel)) v) (hstr : StrOkL (xs.flatMap eChannel)) (h0 : 0 ≤ left) (h1 : left ≤ 1048576) :
    Calls Try.prog 19 #[v, .int .i64 left] w fun e w' => ∃ r : Int, e = .returned (.int .i64 r) ∧ SzR r left (xs.length + sizL (xs.flatMap eChannel)) ∧ Below w.heap.size w w' := by
  obtain ⟨A, c, rfl, ⟨_, _, hl⟩⟩ := hr.slice
  have HR := Lib.hid hr
  clear hr
  by_cases hlt : left - xs.length < 0
  · go_enter Try.func19, Try.ntmps19
    go_wp2
    go_ret
    exact ⟨_, rfl, .inl rfl, Below.refl _ w⟩
  · go_enter Try.func19, Try.ntmps19
    go_wp2
    go_loopw [1, 5] (fun a b wr => ∃ (i : Nat) (q : Int), i ≤ xs.length ∧ b = .int .i64 i ∧ a = .int .i64 q ∧ 0 ≤ q ∧ q ≤ 1048576 ∧ Hid (q = left - xs.length - sizL ((xs.take i).flatMap eChannel)) ∧ Hid (Below w.heap.size w wr)) (fun a b wr => xs.length - (intOf b).toNat)
    case atStart => exact ⟨0, _, by omega, rfl, rfl, by omega, by omega, by simp [sizL_nil, Hid], Below.refl _ w⟩
    case round =>
      obtain ⟨i, q, hi, rfl, rfl, hq0, hq9, HQ, HB⟩ := hrel
      by_cases hlt : i < xs.length
      · obtain ⟨x, hx⟩ : ∃ x, xs[i]? = some x := ⟨xs[i], List.getElem?_eq_getElem hlt⟩
        obtain ⟨ad, v2, rfl, hadb, h0, h1, h2, k2⟩ := row_eChannel (HR.out.below HB.out) hx
        have HX := Lib.hid hx
        clear hx
        go_wp2_with fail
        refine (szChannel_calls _ x _ _ (mkrd_eChannel k2) (StrOkL_mem hstr (List.mem_of_getElem? HX.out)) hq0 hq9).mono ?_
        rintro e w1 ⟨r, rfl, hr, hb1⟩
        have HB1 := Lib.hid hb1
        clear hb1
        have hq := HQ.out
        have hs1 := siz_step eChannel xs i x HX.out
        have hs2 := siz_take_le eChannel xs (i + 1)
        rcases hr with rfl | ⟨hr, hr0⟩
        · go_wp2
          go_ret
          exact ⟨_, rfl, .inl rfl, HB.out.trans (HB1.out.mono HB.out.size)⟩
        · have hr9 : r ≤ 1048576 := by omega
          have HQ2 : Hid (r = left - xs.length - sizL ((xs.take (i + 1)).flatMap eChannel)) := by unfold Hid; omega
          clear hr hs1 hs2 hq
          go_wp2
          go_roundw
          case rel => exact ⟨i + 1, r, by omega, by go_num, rfl, hr0, hr9, HQ2, HB.out.trans (HB1.out.mono HB.out.size)⟩
          case measure => simp [intOf]; omega
      · have : i = xs.length := by omega
        subst this
        have hq := HQ.out
        rw [List.take_length] at hq
        have HQ2 := Lib.hid hq
        clear hq
        go_wp2
        go_ret
        exact ⟨_, rfl, .inr ⟨by have := HQ2.out; omega, hq0⟩, HB.out⟩

set_option maxHeartbeats 800000 in
set_option maxRecDepth 100000 in
theorem markChannelS_calls (xs : List GChannel) (v : Value) (k : Int) (fp : List Nat) (w : World) (ho : Own w (.s xs.length (xs.flatMap eChannel)) v fp) (hnd : fp.Nodup) (hk0 : 0 ≤ k) (hk1 : k + cntL (xs.flatMap eChannel) ≤ 4611686018427387904) :
    Calls Try.prog 30 #[v, .int .i64 k] w fun e w' => ∃ r : Int, e = .returned (.int .i64 r) ∧ r = k + cntL (xs.flatMap eChannel) ∧ Own w' (.s xs.length (mkL (xs.flatMap eChannel) k)) v fp ∧ Chg (· ∈ fp) w w' := by
  obtain ⟨A, c, rfl, ⟨_, _, hl⟩⟩ := ho.slice
  have HS := Lib.hid (MkI.start (k0 := k) ho)
  have HND := Lib.hid hnd
  clear ho hnd
  go_enter Try.func30, Try.ntmps30
  go_wp2
  go_loopw [1, 5] (fun a b wr => ∃ (i : Nat) (q : Int), i ≤ xs.length ∧ b = .int .i64 i ∧ a = .int .i64 q ∧ Hid (q = k + cntL ((xs.take i).flatMap eChannel)) ∧ Hid (MkI eChannel xs k w wr (.slice A xs.length c) fp i)) (fun a b wr => xs.length - (intOf b).toNat)
  case atStart => exact ⟨0, k, by omega, rfl, rfl, by simp [cntL_nil, Hid], HS⟩
  case round =>
    obtain ⟨i, q, hi, rfl, rfl, HQ, HI⟩ := hrel
    by_cases hlt : i < xs.length
    · obtain ⟨x, hx⟩ : ∃ x, xs[i]? = some x := ⟨xs[i], List.getElem?_eq_getElem hlt⟩
      obtain ⟨g, c', up, ur, uo, fa, fr, fo, hv, O⟩ := HI.out.open_ len_eChannel HND.out hx
      injection hv with hv1 hv2 hv3
      subst hv1; subst hv3
      have hq := HQ.out
      have hq1 := cnt_step eChannel xs i x hx
      have hq2 := cnt_take_le eChannel xs (i+1)
      have hq3 := cnt_eChannel x
      have hq0 : 0 ≤ q := by omega
      have hqx : q + cntL (eChannel x) ≤ 4611686018427387904 := by omega
      obtain ⟨v2, f2, rfl, hfq, o2_0⟩ := own_eChannel O.mid
      obtain rfl : f2 = fr := hfq.symm
      obtain ⟨A2, c2, rfl, _⟩ := o2_0.slice
      have hg2 : g ∉ f2 := fun h => O.fr_ne (by simp [h])
      have hn := O.fr_nodup
      have n2 := hn
      have RW0 : RowIs wr g (up ++ ([.int .i64 x.From, .int .i64 x.To, .slice A2 x.List.length c2] ++ uo)) := O.row
      have C0 : Chg (fun b => b = g ∨ b ∈ (f2 : List Nat)) wr wr := Chg.refl _ _
      obtain ⟨h0, g0⟩ := RW0.midk O.len 0 _ rfl
      obtain ⟨h1, g1⟩ := RW0.midk O.len 1 _ rfl
      obtain ⟨h2, g2⟩ := RW0.midk O.len 2 _ rfl
      rw [Nat.add_zero] at h0 g0
      have H_RW0 := Lib.hid RW0
      have H_C0 := Lib.hid C0
      have H_o2_0 := Lib.hid o2_0
      have HX := Lib.hid hx
      have HO := Lib.hid O
      have HC := Lib.hid hqx
      have hgl := O.glt
      have HQ3 := Lib.hid hq3
      have HQ1 := Lib.hid hq1
      have hq9 : q + 2 ≤ 4611686018427387904 := by omega
      clear hx O hq hq1 hq2 hq3 hv2 HI HS RW0 C0 hqx o2_0 hn
      go_wp2_with fail
      refine (markMessageS_calls _ _ _ f2 _ (Own.chg H_o2_0.out (((Chg.refl (· = g) _).setCell (.inl rfl) _).setCell (.inl rfl) _) (fun b hb e => hg2 (e ▸ hb))) n2 (by omega) (by have := HQ3.out; have := HC.out; omega)).mono ?_
      rintro e w1 ⟨r2, rfl, hr2, o2_1, hb1⟩
      have RW1 : RowIs w1 g (up ++ ([.int .i64 q, .int .i64 (q + 1), .slice A2 x.List.length c2] ++ uo)) := RowIs.keep (RowIs.setMid (RowIs.setMid H_RW0.out HO.out.len 0 (by simp) _) HO.out.len 1 (by simp) _) (hb1.block _ (by first | exact hgl | (simp only [size_set]; exact hgl)) hg2)
      have C1 : Chg (fun b => b = g ∨ b ∈ (f2 : List Nat)) wr w1 := (Chg.setCell (Chg.setCell H_C0.out (.inl (.inl rfl)) _) (.inl (.inl rfl)) _).trans (hb1.mono (fun b _ hb => .inr (by simp [hb])))
      have hgl1 : g < w1.heap.size := Nat.lt_of_lt_of_le HO.out.glt C1.size
      clear h0 g0 h1 g1 h2 g2
      obtain ⟨h0, g0⟩ := RW1.midk HO.out.len 0 _ rfl
      obtain ⟨h1, g1⟩ := RW1.midk HO.out.len 1 _ rfl
      obtain ⟨h2, g2⟩ := RW1.midk HO.out.len 2 _ rfl
      rw [Nat.add_zero] at h0 g0
      have H_RW1 := Lib.hid RW1
      have H_C1 := Lib.hid C1
      have H_o2_1 := Lib.hid o2_1
      have H_hr2 := Lib.hid hr2
      have hr2_0 : 0 ≤ r2 := by omega
      have hr2_9 : r2 + 0 ≤ 4611686018427387904 := by have := HQ3.out; have h := HC.out; omega
      clear hb1 RW1 C1 o2_1 hr2 hgl
      have hgl := hgl1
      clear hgl1
      have HQ2 : Hid (r2 = k + cntL ((xs.take (i+1)).flatMap eChannel)) := by unfold Hid; have h1 := HQ1.out; have h2 := HQ3.out; have h3 := HQ.out; have e2 := H_hr2.out; omega
      go_wp2
      go_roundw
      case rel =>
        have hst := HO.out.close (ur' := [.int .i64 q, .int .i64 (q + 1), .slice A2 x.List.length c2]) H_RW1.out (by rw [← HQ.out]; exact mkownm_eChannel q r2 H_hr2.out hq0 HC.out H_o2_1.out) H_C1.out
        exact ⟨i + 1, _, by omega, by go_num, rfl, HQ2, hst⟩
      case measure => simp [intOf]; omega
    · have : i = xs.length := by omega
      subst this
      have hq := HQ.out
      rw [List.take_length] at hq
      have HQ2 := Lib.hid hq
      clear hq
      go_wp2
      go_ret
      exact ⟨_, rfl, HQ2.out, HI.out.finish⟩

set_option maxHeartbeats 800000 in
set_option maxRecDepth 100000 in
theorem heldChannelS_calls (xs : List GChannel) (v : Value) (k : Int) (w : World) (hr : RdW w (.s xs.length (mkL (xs.flatMap eChannel) k)) v) (hk0 : 0 ≤ k) (hk1 : k + cntL (xs.flatMap eChannel) ≤ 4611686018427387904) :
    Calls Try.prog 31 #[v, .int .i64 k] w fun e w' => ∃ r : Int, e = .returned (.int .i64 r) ∧ r = k + cntL (xs.flatMap eChannel) ∧ Below w.heap.size w w' := by
  obtain ⟨A, c, rfl, ⟨_, _, hl⟩⟩ := hr.slice
  have HR := Lib.hid hr
  clear hr
  go_enter Try.func31, Try.ntmps31
  go_wp2
  go_loopw [1, 5] (fun a b wr => ∃ (i : Nat) (q : Int), i ≤ xs.length ∧ b = .int .i64 i ∧ a = .int .i64 q ∧ Hid (q = k + cntL ((xs.take i).flatMap eChannel)) ∧ Hid (Below w.heap.size w wr)) (fun a b wr => xs.length - (intOf b).toNat)
  case atStart => exact ⟨0, k, by omega, rfl, rfl, by simp [cntL_nil, Hid], Below.refl _ w⟩
  case round =>
    obtain ⟨i, q, hi, rfl, rfl, HQ, HB⟩ := hrel
    by_cases hlt : i < xs.length
    · obtain ⟨x, hx⟩ : ∃ x, xs[i]? = some x := ⟨xs[i], List.getElem?_eq_getElem hlt⟩
      obtain ⟨ad, ys, rfl, hadb, hr, hc⟩ := RdW.atMk len_eChannel (HR.out.below HB.out) hx
      have hq := HQ.out
      have hq1 := cnt_step eChannel xs i x hx
      have hq2 := cnt_take_le eChannel xs (i+1)
      have hq3 := cnt_eChannel x
      have hq0 : 0 ≤ q := by omega
      have hqx : q + cntL (eChannel x) ≤ 4611686018427387904 := by omega
      rw [← hq] at hr
      obtain ⟨r2, hr2⟩ : ∃ r2 : Int, r2 = q + 1 + 1 + (cntL (x.List.flatMap eMessage) : Nat) := ⟨_, rfl⟩
      obtain ⟨v2, rfl, k2⟩ := rdm_eChannel q r2 hr2 hq0 hqx hr
      obtain ⟨A2, c2, rfl, _⟩ := k2.slice
      have h0 := hc 0 _ rfl
      have h1 := hc 1 _ rfl
      have h2 := hc 2 _ rfl
      rw [Nat.add_zero] at h0
      rw [add_field _ _ 1 (by omega)] at h1
      rw [add_field _ _ 2 (by omega)] at h2
      have K2 := Lib.hid k2
      have HR2 := Lib.hid hr2
      have hr2_0 : 0 ≤ r2 := by omega
      have hr2_9 : r2 ≤ 4611686018427387904 - 0 := by omega
      have HX := Lib.hid hx
      have HQ3 := Lib.hid hq3
      have HC := Lib.hid hqx
      have hq9 : q + 2 ≤ 4611686018427387904 := by omega
      have hbw := Below.refl wr.heap.size wr
      have HB0 := Lib.hid hbw
      have HQ2 : Hid (r2 = k + cntL ((xs.take (i+1)).flatMap eChannel)) := by unfold Hid; omega
      clear hx hq hq1 hq2 hq3 hqx hr hc hbw k2 hr2
      go_wp2_with fail
      refine (heldMessageS_calls _ _ _ _ (K2.out.below HB0.out) (by omega) (by have := HR2.out; omega)).mono ?_
      rintro e w1 ⟨rr, rfl, hrr, hb1⟩
      obtain rfl : rr = r2 := hrr.trans HR2.out.symm
      clear hrr
      have h0 := (hb1.cell (by first | exact hadb | (rw [block_of_add]; exact hadb))).trans h0
      have h1 := (hb1.cell (by first | exact hadb | (dsimp only; rw [block_of_add]; exact hadb))).trans h1
      have h2 := (hb1.cell (by first | exact hadb | (dsimp only; rw [block_of_add]; exact hadb))).trans h2
      have hadb := Nat.lt_of_lt_of_le hadb hb1.size
      have HB1 := Lib.hid (HB0.out.trans (hb1.mono HB0.out.size))
      clear hb1
      go_wp2
      go_roundw
      case rel => exact ⟨i + 1, _, by omega, by go_num, rfl, HQ2, HB.out.trans (HB1.out.mono HB.out.size)⟩
      case measure => simp [intOf]; omega
    · have : i = xs.length := by omega
      subst this
      have hq := HQ.out
      rw [List.take_length] at hq
      have HQ2 := Lib.hid hq
      clear hq
      go_wp2
      go_ret
      exact ⟨_, rfl, HQ2.out, HB.out⟩

end Go.Proofs.Ytkgnkekbcblnlaa
