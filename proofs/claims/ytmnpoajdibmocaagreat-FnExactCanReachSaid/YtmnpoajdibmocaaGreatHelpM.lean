import Derived.Test.YtmnpoajdibmocaaGreatProg
import Derived.Test.YtmnpoajdibmocaaGreatTypes
import Derived.StillTailTactics
import Derived.Deep.RegionHeld3
import Derived.Laws.IdiomStrings
import Derived.Test.YtmnpoajdibmocaaGreatAppend
import Derived.Laws.StructEq
import Derived.Lib.SliceRun
import Derived.Shelf.RegionOpenPlain
import Derived.Test.YtmnpoajdibmocaaGreatHelp
namespace Go.Proofs.YtmnpoajdibmocaaGreat
open Go.RowKit
set_option linter.unusedVariables false
set_option linter.unusedSimpArgs false

theorem cell_alloc_zero (w : World) (v : Value) (t : TypeId) : (w.alloc (.cells #[v] t)).cell? ((⟨w.heap.size, 0, none⟩ : Addr).add 0) = some v := by
  rw [show (⟨w.heap.size, 0, none⟩ : Addr).add 0 = ⟨w.heap.size, 0, none⟩ from rfl]
  exact (Blk.new w t #[v]).cell 0
theorem decDigits_step {f n : Nat} (acc : List UInt8) (h : 0 < n) : decDigits (f + 1) n acc = decDigits f (n / 10) (UInt8.ofNat (48 + n % 10) :: acc) := by
  rw [decDigits, if_neg (by omega)]
theorem decDigits_zero (f : Nat) (acc : List UInt8) : decDigits f 0 acc = acc := by
  cases f <;> simp [decDigits]
set_option maxHeartbeats 800000 in
set_option maxRecDepth 100000 in
theorem markText_calls (k : Int) (w : World) (h0 : 0 ≤ k) (h1 : k ≤ 4611686018427387904) :
    Calls Tryz.prog 60 #[.int .i64 k] w fun e w' => e = .returned (.string (mkText k)) ∧ Below w.heap.size w w' := by
  obtain ⟨n, rfl⟩ : ∃ n : Nat, k = n := ⟨k.toNat, by omega⟩
  by_cases hk : n = 0
  · subst hk
    go_enter Tryz.func60, Tryz.ntmps60
    go_wp2
    go_ret
    exact ⟨rfl, Below.refl _ _⟩
  · have hk' : ¬ ((n : Int) ≤ 0) := by omega
    have HM : Hid (mkText n = ⟨(109 :: decDigits (n + 1) n []).toArray⟩) := by unfold Hid mkText; rw [if_neg hk']; rfl
    go_enter Tryz.func60, Tryz.ntmps60
    go_wp2
    go_loopw [0, 3] (fun a b wr => ∃ (m : Nat) (s : ByteArray), a = .int .i64 m ∧ b = .string s ∧ s.size + m ≤ n ∧ Hid (∃ f, m < f ∧ decDigits f m s.data.toList = decDigits (n + 1) n []) ∧ Hid (Below w.heap.size w wr)) (fun a b wr => (intOf a).toNat)
    case atStart => exact ⟨n, _, rfl, rfl, Nat.le_of_eq (Nat.zero_add _), ⟨n + 1, by omega, rfl⟩, Below.refl _ _⟩
    case round =>
      obtain ⟨m, s, rfl, rfl, hm, HD, HB⟩ := hrel
      have hs9 : s.size ≤ 4611686018427387904 := by omega
      by_cases hlt : m = 0
      · subst hlt
        go_wp2
        go_ret
        refine ⟨?_, HB.out⟩
        obtain ⟨f, hf, hd⟩ := HD.out
        rw [HM.out, ← hd, decDigits_zero]
        rfl
      · have hlt' : (0 : Int) < m := by omega
        obtain ⟨d, hd0⟩ : ∃ d : UInt8, d = UInt8.ofNat (48 + m % 10) := ⟨_, rfl⟩
        have hd9 : (d.toNat : Int) = 48 + (m : Int) % 10 := by
          have : d.toNat = 48 + m % 10 := by rw [hd0]; simp; omega
          rw [this]; omega
        have hcv : (convert 170 9 (.slice (some ⟨wr.heap.size, 0, none⟩) 1 1)).run Tryz.prog (wr.alloc (.cells #[.int .u8 (48 + (m : Int) % 10)] 5)) = .ok (.string ⟨#[d]⟩) (wr.alloc (.cells #[.int .u8 (48 + (m : Int) % 10)] 5)) :=
          run_convert_bytes_back _ _ _ 5 ⟨wr.heap.size, 0, none⟩ 1 [d] Tryz.underlying170 Tryz.underlying5 Tryz.underlying9 (fun j hj => by
            have : j = 0 := by simpa using hj
            subst this
            rw [cell_alloc_zero]
            show some _ = some (Value.int .u8 (d.toNat : Int))
            rw [hd9])
        clear hd9
        have HD2 : Hid (∃ f, m / 10 < f ∧ decDigits f (m / 10) ((⟨#[d]⟩ : ByteArray) ++ s).data.toList = decDigits (n + 1) n []) := by
          obtain ⟨f, hf, hd⟩ := HD.out
          obtain ⟨f, rfl⟩ : ∃ f', f = f' + 1 := ⟨f - 1, by omega⟩
          refine ⟨f, by omega, ?_⟩
          rw [decDigits_step _ (by omega)] at hd
          rw [← hd, ← hd0]; congr 1
          all_goals simp
        clear hd0
        have HS2 : ((⟨#[d]⟩ : ByteArray) ++ s).size = s.size + 1 := by
          rw [ByteArray.size_append]
          show 1 + _ = _
          all_goals omega
        have HS3 := Lib.hid HS2
        clear HS2
        go_wp2
        go_roundw
        case rel => exact ⟨m / 10, _, by go_num, rfl, by rw [HS3.out]; omega, HD2, HB.out.alloc HB.out.size _⟩
        case measure => simp [intOf]; omega

set_option maxHeartbeats 800000 in
set_option maxRecDepth 100000 in
theorem markIntS_calls (xs : List Int) (v : Value) (k : Int) (fp : List Nat) (w : World) (ho : Own w (.s xs.length (xs.flatMap eInt)) v fp) (hnd : fp.Nodup) (hk0 : 0 ≤ k) (hk1 : k + cntL (xs.flatMap eInt) ≤ 4611686018427387904) :
    Calls Tryz.prog 11 #[v, .int .i64 k] w fun e w' => ∃ r : Int, e = .returned (.int .i64 r) ∧ r = k + cntL (xs.flatMap eInt) ∧ Own w' (.s xs.length (mkL (xs.flatMap eInt) k)) v fp ∧ Chg (· ∈ fp) w w' := by
  obtain ⟨A, c, rfl, ⟨_, _, hl⟩⟩ := ho.slice
  have HS := Lib.hid (MkI.start (k0 := k) ho)
  have HND := Lib.hid hnd
  clear ho hnd
  go_enter Tryz.func11, Tryz.ntmps11
  go_wp2
  go_loopw [1, 5] (fun a b wr => ∃ (i : Nat) (q : Int), i ≤ xs.length ∧ b = .int .i64 i ∧ a = .int .i64 q ∧ Hid (q = k + cntL ((xs.take i).flatMap eInt)) ∧ Hid (MkI eInt xs k w wr (.slice A xs.length c) fp i)) (fun a b wr => xs.length - (intOf b).toNat)
  case atStart => exact ⟨0, k, by omega, rfl, rfl, by simp [cntL_nil, Hid], HS⟩
  case round =>
    obtain ⟨i, q, hi, rfl, rfl, HQ, HI⟩ := hrel
    by_cases hlt : i < xs.length
    · obtain ⟨x, hx⟩ : ∃ x, xs[i]? = some x := ⟨xs[i], List.getElem?_eq_getElem hlt⟩
      obtain ⟨g, c', up, ur, uo, fa, fr, fo, hv, O⟩ := HI.out.open_ len_eInt HND.out hx
      injection hv with hv1 hv2 hv3
      subst hv1; subst hv3
      have hq := HQ.out
      have hq1 := cnt_step eInt xs i x hx
      have hq2 := cnt_take_le eInt xs (i+1)
      have hq3 := cnt_eInt x
      have hq0 : 0 ≤ q := by omega
      have hqx : q + cntL (eInt x) ≤ 4611686018427387904 := by omega
      have hq9 : q + 1 ≤ 4611686018427387904 := by omega
      obtain ⟨rfl, hfr⟩ := own_eInt O.mid
      obtain ⟨h0, g0⟩ := O.cell 0 _ rfl
      rw [Nat.mul_one, Nat.add_zero] at h0 g0
      have HX := Lib.hid hx
      have HO := Lib.hid O
      have HF := Lib.hid hfr
      have HC := Lib.hid hqx
      have HQ2 : Hid (q + 1 = k + cntL ((xs.take (i+1)).flatMap eInt)) := by unfold Hid; omega
      clear hx O hq hq1 hq2 hq3 hv2 hfr HI HS hqx
      go_wp2
      go_roundw
      case rel =>
        have hst := HO.out.closeRow (by rw [← HQ.out]; exact mkownm_eInt q hq0 HC.out) HF.out rfl
        rw [Nat.mul_one] at hst
        exact ⟨i + 1, _, by omega, by go_num, rfl, HQ2, hst⟩
      case measure => simp [intOf]; omega
    · have : i = xs.length := by omega
      subst this
      have hq := HQ.out
      rw [List.take_length] at hq
      have HQ2 := Lib.hid hq
      clear hq
      go_wp2
      go_ret
      exact ⟨_, rfl, HQ2.out, HI.out.finish⟩

set_option maxHeartbeats 800000 in
set_option maxRecDepth 100000 in
theorem heldIntS_calls (xs : List Int) (v : Value) (k : Int) (w : World) (hr : RdW w (.s xs.length (mkL (xs.flatMap eInt) k)) v) (hk0 : 0 ≤ k) (hk1 : k + cntL (xs.flatMap eInt) ≤ 4611686018427387904) :
    Calls Tryz.prog 12 #[v, .int .i64 k] w fun e w' => ∃ r : Int, e = .returned (.int .i64 r) ∧ r = k + cntL (xs.flatMap eInt) ∧ Below w.heap.size w w' := by
  obtain ⟨A, c, rfl, ⟨_, _, hl⟩⟩ := hr.slice
  have HR := Lib.hid hr
  clear hr
  go_enter Tryz.func12, Tryz.ntmps12
  go_wp2
  go_loopw [1, 5] (fun a b wr => ∃ (i : Nat) (q : Int), i ≤ xs.length ∧ b = .int .i64 i ∧ a = .int .i64 q ∧ Hid (q = k + cntL ((xs.take i).flatMap eInt)) ∧ Hid (Below w.heap.size w wr)) (fun a b wr => xs.length - (intOf b).toNat)
  case atStart => exact ⟨0, k, by omega, rfl, rfl, by simp [cntL_nil, Hid], Below.refl _ w⟩
  case round =>
    obtain ⟨i, q, hi, rfl, rfl, HQ, HB⟩ := hrel
    by_cases hlt : i < xs.length
    · obtain ⟨x, hx⟩ : ∃ x, xs[i]? = some x := ⟨xs[i], List.getElem?_eq_getElem hlt⟩
      obtain ⟨ad, ys, rfl, hadb, hr, hc⟩ := RdW.atMk len_eInt (HR.out.below HB.out) hx
      have hq := HQ.out
      have hq1 := cnt_step eInt xs i x hx
      have hq2 := cnt_take_le eInt xs (i+1)
      have hq3 := cnt_eInt x
      have hq0 : 0 ≤ q := by omega
      have hqx : q + cntL (eInt x) ≤ 4611686018427387904 := by omega
      rw [← hq] at hr
      obtain rfl := rdm_eInt q hq0 hqx hr
      have h0 := hc 0 _ rfl
      rw [Nat.mul_one, Nat.add_zero] at h0
      have hq9 : q + 1 ≤ 4611686018427387904 := by omega
      have HX := Lib.hid hx
      have HQ2 : Hid (q + 1 = k + cntL ((xs.take (i+1)).flatMap eInt)) := by unfold Hid; omega
      clear hx hq hq1 hq2 hq3 hqx hr hc
      go_wp2
      go_roundw
      case rel => exact ⟨i + 1, _, by omega, by go_num, rfl, HQ2, HB⟩
      case measure => simp [intOf]; omega
    · have : i = xs.length := by omega
      subst this
      have hq := HQ.out
      rw [List.take_length] at hq
      have HQ2 := Lib.hid hq
      clear hq
      go_wp2
      go_ret
      exact ⟨_, rfl, HQ2.out, HB.out⟩

set_option maxHeartbeats 800000 in
set_option maxRecDepth 100000 in
theorem markValueS_calls (xs : List GValue) (v : Value) (k : Int) (fp : List Nat) (w : World) (ho : Own w (.s xs.length (xs.flatMap eValue)) v fp) (hnd : fp.Nodup) (hk0 : 0 ≤ k) (hk1 : k + cntL (xs.flatMap eValue) ≤ 4611686018427387904) :
    Calls Tryz.prog 58 #[v, .int .i64 k] w fun e w' => ∃ r : Int, e = .returned (.int .i64 r) ∧ r = k + cntL (xs.flatMap eValue) ∧ Own w' (.s xs.length (mkL (xs.flatMap eValue) k)) v fp ∧ Chg (· ∈ fp) w w' := by
  obtain ⟨A, c, rfl, ⟨_, _, hl⟩⟩ := ho.slice
  have HS := Lib.hid (MkI.start (k0 := k) ho)
  have HND := Lib.hid hnd
  clear ho hnd
  go_enter Tryz.func58, Tryz.ntmps58
  go_wp2
  go_loopw [1, 5] (fun a b wr => ∃ (i : Nat) (q : Int), i ≤ xs.length ∧ b = .int .i64 i ∧ a = .int .i64 q ∧ Hid (q = k + cntL ((xs.take i).flatMap eValue)) ∧ Hid (MkI eValue xs k w wr (.slice A xs.length c) fp i)) (fun a b wr => xs.length - (intOf b).toNat)
  case atStart => exact ⟨0, k, by omega, rfl, rfl, by simp [cntL_nil, Hid], HS⟩
  case round =>
    obtain ⟨i, q, hi, rfl, rfl, HQ, HI⟩ := hrel
    by_cases hlt : i < xs.length
    · obtain ⟨x, hx⟩ : ∃ x, xs[i]? = some x := ⟨xs[i], List.getElem?_eq_getElem hlt⟩
      obtain ⟨g, c', up, ur, uo, fa, fr, fo, hv, O⟩ := HI.out.open_ len_eValue HND.out hx
      injection hv with hv1 hv2 hv3
      subst hv1; subst hv3
      have hq := HQ.out
      have hq1 := cnt_step eValue xs i x hx
      have hq2 := cnt_take_le eValue xs (i+1)
      have hq3 := cnt_eValue x
      have hq0 : 0 ≤ q := by omega
      have hqx : q + cntL (eValue x) ≤ 4611686018427387904 := by omega
      have hq9 : q + 2 ≤ 4611686018427387904 := by omega
      obtain ⟨rfl, hfr⟩ := own_eValue O.mid
      obtain ⟨h0, g0⟩ := O.cell 0 _ rfl
      obtain ⟨h1, g1⟩ := O.cell 1 _ rfl
      rw [Nat.add_zero] at h0 g0
      have HX := Lib.hid hx
      have HO := Lib.hid O
      have HF := Lib.hid hfr
      have HC := Lib.hid hqx
      have HQ2 : Hid (q + 1 + 1 = k + cntL ((xs.take (i+1)).flatMap eValue)) := by unfold Hid; omega
      clear hx O hq hq1 hq2 hq3 hv2 hfr HI HS hqx
      go_wp2
      go_roundw
      case rel =>
        have hst := HO.out.closeRow (by rw [← HQ.out]; exact mkownm_eValue q hq0 HC.out) HF.out rfl
        exact ⟨i + 1, _, by omega, by go_num, rfl, HQ2, hst⟩
      case measure => simp [intOf]; omega
    · have : i = xs.length := by omega
      subst this
      have hq := HQ.out
      rw [List.take_length] at hq
      have HQ2 := Lib.hid hq
      clear hq
      go_wp2
      go_ret
      exact ⟨_, rfl, HQ2.out, HI.out.finish⟩

set_option maxHeartbeats 800000 in
set_option maxRecDepth 100000 in
theorem markWireS_calls (xs : List GWire) (v : Value) (k : Int) (fp : List Nat) (w : World) (ho : Own w (.s xs.length (xs.flatMap eWire)) v fp) (hnd : fp.Nodup) (hk0 : 0 ≤ k) (hk1 : k + cntL (xs.flatMap eWire) ≤ 4611686018427387904) :
    Calls Tryz.prog 63 #[v, .int .i64 k] w fun e w' => ∃ r : Int, e = .returned (.int .i64 r) ∧ r = k + cntL (xs.flatMap eWire) ∧ Own w' (.s xs.length (mkL (xs.flatMap eWire) k)) v fp ∧ Chg (· ∈ fp) w w' := by
  obtain ⟨A, c, rfl, ⟨_, _, hl⟩⟩ := ho.slice
  have HS := Lib.hid (MkI.start (k0 := k) ho)
  have HND := Lib.hid hnd
  clear ho hnd
  go_enter Tryz.func63, Tryz.ntmps63
  go_wp2
  go_loopw [1, 5] (fun a b wr => ∃ (i : Nat) (q : Int), i ≤ xs.length ∧ b = .int .i64 i ∧ a = .int .i64 q ∧ Hid (q = k + cntL ((xs.take i).flatMap eWire)) ∧ Hid (MkI eWire xs k w wr (.slice A xs.length c) fp i)) (fun a b wr => xs.length - (intOf b).toNat)
  case atStart => exact ⟨0, k, by omega, rfl, rfl, by simp [cntL_nil, Hid], HS⟩
  case round =>
    obtain ⟨i, q, hi, rfl, rfl, HQ, HI⟩ := hrel
    by_cases hlt : i < xs.length
    · obtain ⟨x, hx⟩ : ∃ x, xs[i]? = some x := ⟨xs[i], List.getElem?_eq_getElem hlt⟩
      obtain ⟨g, c', up, ur, uo, fa, fr, fo, hv, O⟩ := HI.out.open_ len_eWire HND.out hx
      injection hv with hv1 hv2 hv3
      subst hv1; subst hv3
      have hq := HQ.out
      have hq1 := cnt_step eWire xs i x hx
      have hq2 := cnt_take_le eWire xs (i+1)
      have hq3 := cnt_eWire x
      have hq0 : 0 ≤ q := by omega
      have hqx : q + cntL (eWire x) ≤ 4611686018427387904 := by omega
      have hq9 : q + 2 ≤ 4611686018427387904 := by omega
      obtain ⟨rfl, hfr⟩ := own_eWire O.mid
      obtain ⟨h0, g0⟩ := O.cell 0 _ rfl
      obtain ⟨h1, g1⟩ := O.cell 1 _ rfl
      rw [Nat.add_zero] at h0 g0
      have HX := Lib.hid hx
      have HO := Lib.hid O
      have HF := Lib.hid hfr
      have HC := Lib.hid hqx
      have HQ2 : Hid (q + 1 + 1 = k + cntL ((xs.take (i+1)).flatMap eWire)) := by unfold Hid; omega
      clear hx O hq hq1 hq2 hq3 hv2 hfr HI HS hqx
      go_wp2
      go_roundw
      case rel =>
        have hst := HO.out.closeRow (by rw [← HQ.out]; exact mkownm_eWire q hq0 HC.out) HF.out rfl
        exact ⟨i + 1, _, by omega, by go_num, rfl, HQ2, hst⟩
      case measure => simp [intOf]; omega
    · have : i = xs.length := by omega
      subst this
      have hq := HQ.out
      rw [List.take_length] at hq
      have HQ2 := Lib.hid hq
      clear hq
      go_wp2
      go_ret
      exact ⟨_, rfl, HQ2.out, HI.out.finish⟩

set_option maxHeartbeats 800000 in
set_option maxRecDepth 100000 in
theorem markAskerS_calls (xs : List GAsker) (v : Value) (k : Int) (fp : List Nat) (w : World) (ho : Own w (.s xs.length (xs.flatMap eAsker)) v fp) (hnd : fp.Nodup) (hk0 : 0 ≤ k) (hk1 : k + cntL (xs.flatMap eAsker) ≤ 4611686018427387904) :
    Calls Tryz.prog 59 #[v, .int .i64 k] w fun e w' => ∃ r : Int, e = .returned (.int .i64 r) ∧ r = k + cntL (xs.flatMap eAsker) ∧ Own w' (.s xs.length (mkL (xs.flatMap eAsker) k)) v fp ∧ Chg (· ∈ fp) w w' := by
  obtain ⟨A, c, rfl, ⟨_, _, hl⟩⟩ := ho.slice
  have HS := Lib.hid (MkI.start (k0 := k) ho)
  have HND := Lib.hid hnd
  clear ho hnd
  go_enter Tryz.func59, Tryz.ntmps59
  go_wp2
  go_loopw [1, 5] (fun a b wr => ∃ (i : Nat) (q : Int), i ≤ xs.length ∧ b = .int .i64 i ∧ a = .int .i64 q ∧ Hid (q = k + cntL ((xs.take i).flatMap eAsker)) ∧ Hid (MkI eAsker xs k w wr (.slice A xs.length c) fp i)) (fun a b wr => xs.length - (intOf b).toNat)
  case atStart => exact ⟨0, k, by omega, rfl, rfl, by simp [cntL_nil, Hid], HS⟩
  case round =>
    obtain ⟨i, q, hi, rfl, rfl, HQ, HI⟩ := hrel
    by_cases hlt : i < xs.length
    · obtain ⟨x, hx⟩ : ∃ x, xs[i]? = some x := ⟨xs[i], List.getElem?_eq_getElem hlt⟩
      obtain ⟨g, c', up, ur, uo, fa, fr, fo, hv, O⟩ := HI.out.open_ len_eAsker HND.out hx
      injection hv with hv1 hv2 hv3
      subst hv1; subst hv3
      have hq := HQ.out
      have hq1 := cnt_step eAsker xs i x hx
      have hq2 := cnt_take_le eAsker xs (i+1)
      have hq3 := cnt_eAsker x
      have hq0 : 0 ≤ q := by omega
      have hqx : q + cntL (eAsker x) ≤ 4611686018427387904 := by omega
      have hq9 : q + 2 ≤ 4611686018427387904 := by omega
      obtain ⟨rfl, hfr⟩ := own_eAsker O.mid
      obtain ⟨h0, g0⟩ := O.cell 0 _ rfl
      obtain ⟨h1, g1⟩ := O.cell 1 _ rfl
      rw [Nat.add_zero] at h0 g0
      have HX := Lib.hid hx
      have HO := Lib.hid O
      have HF := Lib.hid hfr
      have HC := Lib.hid hqx
      have HQ2 : Hid (q + 1 + 1 = k + cntL ((xs.take (i+1)).flatMap eAsker)) := by unfold Hid; omega
      clear hx O hq hq1 hq2 hq3 hv2 hfr HI HS hqx
      go_wp2
      go_roundw
      case rel =>
        have hst := HO.out.closeRow (by rw [← HQ.out]; exact mkownm_eAsker q hq0 HC.out) HF.out rfl
        exact ⟨i + 1, _, by omega, by go_num, rfl, HQ2, hst⟩
      case measure => simp [intOf]; omega
    · have : i = xs.length := by omega
      subst this
      have hq := HQ.out
      rw [List.take_length] at hq
      have HQ2 := Lib.hid hq
      clear hq
      go_wp2
      go_ret
      exact ⟨_, rfl, HQ2.out, HI.out.finish⟩

set_option maxHeartbeats 800000 in
set_option maxRecDepth 100000 in
theorem markExportS_calls (xs : List GExport) (v : Value) (k : Int) (fp : List Nat) (w : World) (ho : Own w (.s xs.length (xs.flatMap eExport)) v fp) (hnd : fp.Nodup) (hk0 : 0 ≤ k) (hk1 : k + cntL (xs.flatMap eExport) ≤ 4611686018427387904) :
    Calls Tryz.prog 61 #[v, .int .i64 k] w fun e w' => ∃ r : Int, e = .returned (.int .i64 r) ∧ r = k + cntL (xs.flatMap eExport) ∧ Own w' (.s xs.length (mkL (xs.flatMap eExport) k)) v fp ∧ Chg (· ∈ fp) w w' := by
  obtain ⟨A, c, rfl, ⟨_, _, hl⟩⟩ := ho.slice
  have HS := Lib.hid (MkI.start (k0 := k) ho)
  have HND := Lib.hid hnd
  clear ho hnd
  go_enter Tryz.func61, Tryz.ntmps61
  go_wp2
  go_loopw [1, 5] (fun a b wr => ∃ (i : Nat) (q : Int), i ≤ xs.length ∧ b = .int .i64 i ∧ a = .int .i64 q ∧ Hid (q = k + cntL ((xs.take i).flatMap eExport)) ∧ Hid (MkI eExport xs k w wr (.slice A xs.length c) fp i)) (fun a b wr => xs.length - (intOf b).toNat)
  case atStart => exact ⟨0, k, by omega, rfl, rfl, by simp [cntL_nil, Hid], HS⟩
  case round =>
    obtain ⟨i, q, hi, rfl, rfl, HQ, HI⟩ := hrel
    by_cases hlt : i < xs.length
    · obtain ⟨x, hx⟩ : ∃ x, xs[i]? = some x := ⟨xs[i], List.getElem?_eq_getElem hlt⟩
      obtain ⟨g, c', up, ur, uo, fa, fr, fo, hv, O⟩ := HI.out.open_ len_eExport HND.out hx
      injection hv with hv1 hv2 hv3
      subst hv1; subst hv3
      have hq := HQ.out
      have hq1 := cnt_step eExport xs i x hx
      have hq2 := cnt_take_le eExport xs (i+1)
      have hq3 := cnt_eExport x
      have hq0 : 0 ≤ q := by omega
      have hqx : q + cntL (eExport x) ≤ 4611686018427387904 := by omega
      have hq9 : q + 3 ≤ 4611686018427387904 := by omega
      obtain ⟨rfl, hfr⟩ := own_eExport O.mid
      obtain ⟨h0, g0⟩ := O.cell 0 _ rfl
      obtain ⟨h1, g1⟩ := O.cell 1 _ rfl
      obtain ⟨h2, g2⟩ := O.cell 2 _ rfl
      rw [Nat.add_zero] at h0 g0
      have HX := Lib.hid hx
      have HO := Lib.hid O
      have HF := Lib.hid hfr
      have HC := Lib.hid hqx
      have HQ2 : Hid (q + 1 + 1 + 1 = k + cntL ((xs.take (i+1)).flatMap eExport)) := by unfold Hid; omega
      clear hx O hq hq1 hq2 hq3 hv2 hfr HI HS hqx
      go_wp2
      go_roundw
      case rel =>
        have hst := HO.out.closeRow (by rw [← HQ.out]; exact mkownm_eExport q hq0 HC.out) HF.out rfl
        exact ⟨i + 1, _, by omega, by go_num, rfl, HQ2, hst⟩
      case measure => simp [intOf]; omega
    · have : i = xs.length := by omega
      subst this
      have hq := HQ.out
      rw [List.take_length] at hq
      have HQ2 := Lib.hid hq
      clear hq
      go_wp2
      go_ret
      exact ⟨_, rfl, HQ2.out, HI.out.finish⟩

set_option maxHeartbeats 800000 in
set_option maxRecDepth 100000 in
theorem markQuestionS_calls (xs : List GQuestion) (v : Value) (k : Int) (fp : List Nat) (w : World) (ho : Own w (.s xs.length (xs.flatMap eQuestion)) v fp) (hnd : fp.Nodup) (hk0 : 0 ≤ k) (hk1 : k + cntL (xs.flatMap eQuestion) ≤ 4611686018427387904) :
    Calls Tryz.prog 62 #[v, .int .i64 k] w fun e w' => ∃ r : Int, e = .returned (.int .i64 r) ∧ r = k + cntL (xs.flatMap eQuestion) ∧ Own w' (.s xs.length (mkL (xs.flatMap eQuestion) k)) v fp ∧ Chg (· ∈ fp) w w' := by
  obtain ⟨A, c, rfl, ⟨_, _, hl⟩⟩ := ho.slice
  have HS := Lib.hid (MkI.start (k0 := k) ho)
  have HND := Lib.hid hnd
  clear ho hnd
  go_enter Tryz.func62, Tryz.ntmps62
  go_wp2
  go_loopw [1, 5] (fun a b wr => ∃ (i : Nat) (q : Int), i ≤ xs.length ∧ b = .int .i64 i ∧ a = .int .i64 q ∧ Hid (q = k + cntL ((xs.take i).flatMap eQuestion)) ∧ Hid (MkI eQuestion xs k w wr (.slice A xs.length c) fp i)) (fun a b wr => xs.length - (intOf b).toNat)
  case atStart => exact ⟨0, k, by omega, rfl, rfl, by simp [cntL_nil, Hid], HS⟩
  case round =>
    obtain ⟨i, q, hi, rfl, rfl, HQ, HI⟩ := hrel
    by_cases hlt : i < xs.length
    · obtain ⟨x, hx⟩ : ∃ x, xs[i]? = some x := ⟨xs[i], List.getElem?_eq_getElem hlt⟩
      obtain ⟨g, c', up, ur, uo, fa, fr, fo, hv, O⟩ := HI.out.open_ len_eQuestion HND.out hx
      injection hv with hv1 hv2 hv3
      subst hv1; subst hv3
      have hq := HQ.out
      have hq1 := cnt_step eQuestion xs i x hx
      have hq2 := cnt_take_le eQuestion xs (i+1)
      have hq3 := cnt_eQuestion x
      have hq0 : 0 ≤ q := by omega
      have hqx : q + cntL (eQuestion x) ≤ 4611686018427387904 := by omega
      have hq9 : q + 2 ≤ 4611686018427387904 := by omega
      obtain ⟨rfl, hfr⟩ := own_eQuestion O.mid
      obtain ⟨h0, g0⟩ := O.cell 0 _ rfl
      obtain ⟨h1, g1⟩ := O.cell 1 _ rfl
      rw [Nat.add_zero] at h0 g0
      have HX := Lib.hid hx
      have HO := Lib.hid O
      have HF := Lib.hid hfr
      have HC := Lib.hid hqx
      have HQ2 : Hid (q + 1 + 1 = k + cntL ((xs.take (i+1)).flatMap eQuestion)) := by unfold Hid; omega
      clear hx O hq hq1 hq2 hq3 hv2 hfr HI HS hqx
      go_wp2
      go_roundw
      case rel =>
        have hst := HO.out.closeRow (by rw [← HQ.out]; exact mkownm_eQuestion q hq0 HC.out) HF.out rfl
        exact ⟨i + 1, _, by omega, by go_num, rfl, HQ2, hst⟩
      case measure => simp [intOf]; omega
    · have : i = xs.length := by omega
      subst this
      have hq := HQ.out
      rw [List.take_length] at hq
      have HQ2 := Lib.hid hq
      clear hq
      go_wp2
      go_ret
      exact ⟨_, rfl, HQ2.out, HI.out.finish⟩

set_option maxHeartbeats 800000 in
set_option maxRecDepth 100000 in
theorem markSentS_calls (xs : List GSent) (v : Value) (k : Int) (fp : List Nat) (w : World) (ho : Own w (.s xs.length (xs.flatMap eSent)) v fp) (hnd : fp.Nodup) (hk0 : 0 ≤ k) (hk1 : k + cntL (xs.flatMap eSent) ≤ 4611686018427387904) :
    Calls Tryz.prog 36 #[v, .int .i64 k] w fun e w' => ∃ r : Int, e = .returned (.int .i64 r) ∧ r = k + cntL (xs.flatMap eSent) ∧ Own w' (.s xs.length (mkL (xs.flatMap eSent) k)) v fp ∧ Chg (· ∈ fp) w w' := by
  obtain ⟨A, c, rfl, ⟨_, _, hl⟩⟩ := ho.slice
  have HS := Lib.hid (MkI.start (k0 := k) ho)
  have HND := Lib.hid hnd
  clear ho hnd
  go_enter Tryz.func36, Tryz.ntmps36
  go_wp2
  go_loopw [1, 5] (fun a b wr => ∃ (i : Nat) (q : Int), i ≤ xs.length ∧ b = .int .i64 i ∧ a = .int .i64 q ∧ Hid (q = k + cntL ((xs.take i).flatMap eSent)) ∧ Hid (MkI eSent xs k w wr (.slice A xs.length c) fp i)) (fun a b wr => xs.length - (intOf b).toNat)
  case atStart => exact ⟨0, k, by omega, rfl, rfl, by simp [cntL_nil, Hid], HS⟩
  case round =>
    obtain ⟨i, q, hi, rfl, rfl, HQ, HI⟩ := hrel
    by_cases hlt : i < xs.length
    · obtain ⟨x, hx⟩ : ∃ x, xs[i]? = some x := ⟨xs[i], List.getElem?_eq_getElem hlt⟩
      obtain ⟨g, c', up, ur, uo, fa, fr, fo, hv, O⟩ := HI.out.open_ len_eSent HND.out hx
      injection hv with hv1 hv2 hv3
      subst hv1; subst hv3
      have hq := HQ.out
      have hq1 := cnt_step eSent xs i x hx
      have hq2 := cnt_take_le eSent xs (i+1)
      have hq3 := cnt_eSent x
      have hq0 : 0 ≤ q := by omega
      have hqx : q + cntL (eSent x) ≤ 4611686018427387904 := by omega
      obtain ⟨v2, f2, rfl, hfq, o2_0⟩ := own_eSent O.mid
      obtain rfl : f2 = fr := hfq.symm
      obtain ⟨A2, c2, rfl, _⟩ := o2_0.slice
      have hg2 : g ∉ f2 := fun h => O.fr_ne (by simp [h])
      have hn := O.fr_nodup
      have n2 := hn
      have RW0 : RowIs wr g (up ++ ([.int .i64 x.Target, .string x.Name, .slice A2 x.Args.length c2, .int .i64 x.Result, .int .i64 x.Tag.Vat, .int .i64 x.Tag.Entity, .int .i64 x.Tag.Seq] ++ uo)) := O.row
      have C0 : Chg (fun b => b = g ∨ b ∈ (f2 : List Nat)) wr wr := Chg.refl _ _
      obtain ⟨h0, g0⟩ := RW0.midk O.len 0 _ rfl
      obtain ⟨h1, g1⟩ := RW0.midk O.len 1 _ rfl
      obtain ⟨h2, g2⟩ := RW0.midk O.len 2 _ rfl
      obtain ⟨h3, g3⟩ := RW0.midk O.len 3 _ rfl
      obtain ⟨h4, g4⟩ := RW0.midk O.len 4 _ rfl
      obtain ⟨h5, g5⟩ := RW0.midk O.len 5 _ rfl
      obtain ⟨h6, g6⟩ := RW0.midk O.len 6 _ rfl
      rw [Nat.add_zero] at h0 g0
      have H_RW0 := Lib.hid RW0
      have H_C0 := Lib.hid C0
      have H_o2_0 := Lib.hid o2_0
      have HX := Lib.hid hx
      have HO := Lib.hid O
      have HC := Lib.hid hqx
      have hgl := O.glt
      have HQ3 := Lib.hid hq3
      have HQ1 := Lib.hid hq1
      have hq9 : q + 6 ≤ 4611686018427387904 := by omega
      clear hx O hq hq1 hq2 hq3 hv2 HI HS RW0 C0 hqx o2_0 hn
      go_wp2_with fail
      refine (markText_calls (q + 1) _ (by omega) (by omega)).mono ?_
      rintro e w1 ⟨rfl, hb1⟩
      have RW1 : RowIs w1 g (up ++ ([.int .i64 q, .string x.Name, .slice A2 x.Args.length c2, .int .i64 x.Result, .int .i64 x.Tag.Vat, .int .i64 x.Tag.Entity, .int .i64 x.Tag.Seq] ++ uo)) := RowIs.keep (RowIs.setMid H_RW0.out HO.out.len 0 (by simp) _) (hb1.block _ (by first | exact hgl | (simp only [size_set]; exact hgl)))
      have C1 : Chg (fun b => b = g ∨ b ∈ (f2 : List Nat)) wr w1 := (Chg.setCell H_C0.out (.inl (.inl rfl)) _).trans (Chg.of_below hb1 _)
      have o2_1 := Own.below (Own.chg H_o2_0.out ((Chg.refl (· = g) _).setCell (.inl rfl) _) (fun b hb e => hg2 (e ▸ hb))) hb1
      have hgl1 : g < w1.heap.size := Nat.lt_of_lt_of_le HO.out.glt C1.size
      clear h0 g0 h1 g1 h2 g2 h3 g3 h4 g4 h5 g5 h6 g6
      obtain ⟨h0, g0⟩ := RW1.midk HO.out.len 0 _ rfl
      obtain ⟨h1, g1⟩ := RW1.midk HO.out.len 1 _ rfl
      obtain ⟨h2, g2⟩ := RW1.midk HO.out.len 2 _ rfl
      obtain ⟨h3, g3⟩ := RW1.midk HO.out.len 3 _ rfl
      obtain ⟨h4, g4⟩ := RW1.midk HO.out.len 4 _ rfl
      obtain ⟨h5, g5⟩ := RW1.midk HO.out.len 5 _ rfl
      obtain ⟨h6, g6⟩ := RW1.midk HO.out.len 6 _ rfl
      rw [Nat.add_zero] at h0 g0
      have H_RW1 := Lib.hid RW1
      have H_C1 := Lib.hid C1
      have H_o2_1 := Lib.hid o2_1
      clear hb1 RW1 C1 o2_1 hgl
      have hgl := hgl1
      clear hgl1
      go_wp2_with fail
      refine (markValueS_calls _ _ _ f2 _ (Own.chg H_o2_1.out ((Chg.refl (· = g) _).setCell (.inl rfl) _) (fun b hb e => hg2 (e ▸ hb))) n2 (by omega) (by have := HQ3.out; have := HC.out; omega)).mono ?_
      rintro e w2 ⟨r2, rfl, hr2, o2_2, hb2⟩
      have RW2 : RowIs w2 g (up ++ ([.int .i64 q, .string (mkText (q + 1)), .slice A2 x.Args.length c2, .int .i64 x.Result, .int .i64 x.Tag.Vat, .int .i64 x.Tag.Entity, .int .i64 x.Tag.Seq] ++ uo)) := RowIs.keep (RowIs.setMid H_RW1.out HO.out.len 1 (by simp) _) (hb2.block _ (by first | exact hgl | (simp only [size_set]; exact hgl)) hg2)
      have C2 : Chg (fun b => b = g ∨ b ∈ (f2 : List Nat)) wr w2 := (Chg.setCell H_C1.out (.inl (.inl rfl)) _).trans (hb2.mono (fun b _ hb => .inr (by simp [hb])))
      have hgl2 : g < w2.heap.size := Nat.lt_of_lt_of_le HO.out.glt C2.size
      clear h0 g0 h1 g1 h2 g2 h3 g3 h4 g4 h5 g5 h6 g6
      obtain ⟨h0, g0⟩ := RW2.midk HO.out.len 0 _ rfl
      obtain ⟨h1, g1⟩ := RW2.midk HO.out.len 1 _ rfl
      obtain ⟨h2, g2⟩ := RW2.midk HO.out.len 2 _ rfl
      obtain ⟨h3, g3⟩ := RW2.midk HO.out.len 3 _ rfl
      obtain ⟨h4, g4⟩ := RW2.midk HO.out.len 4 _ rfl
      obtain ⟨h5, g5⟩ := RW2.midk HO.out.len 5 _ rfl
      obtain ⟨h6, g6⟩ := RW2.midk HO.out.len 6 _ rfl
      rw [Nat.add_zero] at h0 g0
      have H_RW2 := Lib.hid RW2
      have H_C2 := Lib.hid C2
      have H_o2_2 := Lib.hid o2_2
      have H_hr2 := Lib.hid hr2
      have hr2_0 : 0 ≤ r2 := by omega
      have hr2_9 : r2 + 4 ≤ 4611686018427387904 := by have := HQ3.out; have h := HC.out; omega
      clear hb2 RW2 C2 o2_2 hr2 hgl
      have hgl := hgl2
      clear hgl2
      have HQ2 : Hid (r2 + 1 + 1 + 1 + 1 = k + cntL ((xs.take (i+1)).flatMap eSent)) := by unfold Hid; have h1 := HQ1.out; have h2 := HQ3.out; have h3 := HQ.out; have e2 := H_hr2.out; omega
      go_wp2
      go_roundw
      case rel =>
        have hst := HO.out.close (ur' := [.int .i64 q, .string (mkText (q + 1)), .slice A2 x.Args.length c2, .int .i64 r2, .int .i64 (r2 + 1), .int .i64 (r2 + 1 + 1), .int .i64 (r2 + 1 + 1 + 1)]) (RowIs.setMid (RowIs.setMid (RowIs.setMid (RowIs.setMid H_RW2.out HO.out.len 3 (by simp) _) HO.out.len 4 (by simp) _) HO.out.len 5 (by simp) _) HO.out.len 6 (by simp) _) (by rw [← HQ.out]; exact mkownm_eSent q r2 H_hr2.out hq0 HC.out (Own.chg H_o2_2.out (((((Chg.refl (· = g) _).setCell (.inl rfl) _).setCell (.inl rfl) _).setCell (.inl rfl) _).setCell (.inl rfl) _) (fun b hb e => hg2 (e ▸ hb)))) (Chg.setCell (Chg.setCell (Chg.setCell (Chg.setCell H_C2.out (.inl (.inl rfl)) _) (.inl (.inl rfl)) _) (.inl (.inl rfl)) _) (.inl (.inl rfl)) _)
        exact ⟨i + 1, _, by omega, by go_num, rfl, HQ2, hst⟩
      case measure => simp [intOf]; omega
    · have : i = xs.length := by omega
      subst this
      have hq := HQ.out
      rw [List.take_length] at hq
      have HQ2 := Lib.hid hq
      clear hq
      go_wp2
      go_ret
      exact ⟨_, rfl, HQ2.out, HI.out.finish⟩

set_option maxHeartbeats 800000 in
set_option maxRecDepth 100000 in
theorem markEntityS_calls (xs : List GEntity) (v : Value) (k : Int) (fp : List Nat) (w : World) (ho : Own w (.s xs.length (xs.flatMap eEntity)) v fp) (hnd : fp.Nodup) (hk0 : 0 ≤ k) (hk1 : k + cntL (xs.flatMap eEntity) ≤ 4611686018427387904) :
    Calls Tryz.prog 35 #[v, .int .i64 k] w fun e w' => ∃ r : Int, e = .returned (.int .i64 r) ∧ r = k + cntL (xs.flatMap eEntity) ∧ Own w' (.s xs.length (mkL (xs.flatMap eEntity) k)) v fp ∧ Chg (· ∈ fp) w w' := by
  obtain ⟨A, c, rfl, ⟨_, _, hl⟩⟩ := ho.slice
  have HS := Lib.hid (MkI.start (k0 := k) ho)
  have HND := Lib.hid hnd
  clear ho hnd
  go_enter Tryz.func35, Tryz.ntmps35
  go_wp2
  go_loopw [1, 5] (fun a b wr => ∃ (i : Nat) (q : Int), i ≤ xs.length ∧ b = .int .i64 i ∧ a = .int .i64 q ∧ Hid (q = k + cntL ((xs.take i).flatMap eEntity)) ∧ Hid (MkI eEntity xs k w wr (.slice A xs.length c) fp i)) (fun a b wr => xs.length - (intOf b).toNat)
  case atStart => exact ⟨0, k, by omega, rfl, rfl, by simp [cntL_nil, Hid], HS⟩
  case round =>
    obtain ⟨i, q, hi, rfl, rfl, HQ, HI⟩ := hrel
    by_cases hlt : i < xs.length
    · obtain ⟨x, hx⟩ : ∃ x, xs[i]? = some x := ⟨xs[i], List.getElem?_eq_getElem hlt⟩
      obtain ⟨g, c', up, ur, uo, fa, fr, fo, hv, O⟩ := HI.out.open_ len_eEntity HND.out hx
      injection hv with hv1 hv2 hv3
      subst hv1; subst hv3
      have hq := HQ.out
      have hq1 := cnt_step eEntity xs i x hx
      have hq2 := cnt_take_le eEntity xs (i+1)
      have hq3 := cnt_eEntity x
      have hq0 : 0 ≤ q := by omega
      have hqx : q + cntL (eEntity x) ≤ 4611686018427387904 := by omega
      obtain ⟨v2, f2, v6, f6, v7, f7, rfl, rfl, o2_0, o6_0, o7_0⟩ := own_eEntity O.mid
      obtain ⟨A2, c2, rfl, _⟩ := o2_0.slice
      obtain ⟨A6, c6, rfl, _⟩ := o6_0.slice
      obtain ⟨A7, c7, rfl, _⟩ := o7_0.slice
      have hg2 : g ∉ f2 := fun h => O.fr_ne (by simp [h])
      have hg6 : g ∉ f6 := fun h => O.fr_ne (by simp [h])
      have hg7 : g ∉ f7 := fun h => O.fr_ne (by simp [h])
      have hn := O.fr_nodup
      obtain ⟨n2, hn0, d2⟩ := List.nodup_append.1 hn
      obtain ⟨n6, n7, d6⟩ := List.nodup_append.1 hn0
      have RW0 : RowIs wr g (up ++ ([.int .i64 x.Kind, .int .i64 x.Script, .slice A2 x.Slots.length c2, .int .i64 x.State, .int .i64 x.Value.Kind, .int .i64 x.Value.N, .slice A6 x.Queue.length c6, .slice A7 x.Askers.length c7, .int .i64 x.Peer, .int .i64 x.Pos, .int .i64 x.Count, .int .i64 x.Sent] ++ uo)) := O.row
      have C0 : Chg (fun b => b = g ∨ b ∈ (f2 ++ (f6 ++ (f7)) : List Nat)) wr wr := Chg.refl _ _
      obtain ⟨h0, g0⟩ := RW0.midk O.len 0 _ rfl
      obtain ⟨h1, g1⟩ := RW0.midk O.len 1 _ rfl
      obtain ⟨h2, g2⟩ := RW0.midk O.len 2 _ rfl
      obtain ⟨h3, g3⟩ := RW0.midk O.len 3 _ rfl
      obtain ⟨h4, g4⟩ := RW0.midk O.len 4 _ rfl
      obtain ⟨h5, g5⟩ := RW0.midk O.len 5 _ rfl
      obtain ⟨h6, g6⟩ := RW0.midk O.len 6 _ rfl
      obtain ⟨h7, g7⟩ := RW0.midk O.len 7 _ rfl
      obtain ⟨h8, g8⟩ := RW0.midk O.len 8 _ rfl
      obtain ⟨h9, g9⟩ := RW0.midk O.len 9 _ rfl
      obtain ⟨h10, g10⟩ := RW0.midk O.len 10 _ rfl
      obtain ⟨h11, g11⟩ := RW0.midk O.len 11 _ rfl
      rw [Nat.add_zero] at h0 g0
      have H_RW0 := Lib.hid RW0
      have H_C0 := Lib.hid C0
      have H_o2_0 := Lib.hid o2_0
      have H_o6_0 := Lib.hid o6_0
      have H_o7_0 := Lib.hid o7_0
      have HX := Lib.hid hx
      have HO := Lib.hid O
      have HC := Lib.hid hqx
      have hgl := O.glt
      have HQ3 := Lib.hid hq3
      have HQ1 := Lib.hid hq1
      have hq9 : q + 9 ≤ 4611686018427387904 := by omega
      clear hx O hq hq1 hq2 hq3 hv2 HI HS RW0 C0 hqx o2_0 o6_0 o7_0 hn
      go_wp2_with fail
      refine (markValueS_calls _ _ _ f2 _ (Own.chg H_o2_0.out (((Chg.refl (· = g) _).setCell (.inl rfl) _).setCell (.inl rfl) _) (fun b hb e => hg2 (e ▸ hb))) n2 (by omega) (by have := HQ3.out; have := HC.out; omega)).mono ?_
      rintro e w1 ⟨r2, rfl, hr2, o2_1, hb1⟩
      have RW1 : RowIs w1 g (up ++ ([.int .i64 q, .int .i64 (q + 1), .slice A2 x.Slots.length c2, .int .i64 x.State, .int .i64 x.Value.Kind, .int .i64 x.Value.N, .slice A6 x.Queue.length c6, .slice A7 x.Askers.length c7, .int .i64 x.Peer, .int .i64 x.Pos, .int .i64 x.Count, .int .i64 x.Sent] ++ uo)) := RowIs.keep (RowIs.setMid (RowIs.setMid H_RW0.out HO.out.len 0 (by simp) _) HO.out.len 1 (by simp) _) (hb1.block _ (by first | exact hgl | (simp only [size_set]; exact hgl)) hg2)
      have C1 : Chg (fun b => b = g ∨ b ∈ (f2 ++ (f6 ++ (f7)) : List Nat)) wr w1 := (Chg.setCell (Chg.setCell H_C0.out (.inl (.inl rfl)) _) (.inl (.inl rfl)) _).trans (hb1.mono (fun b _ hb => .inr (by simp [hb])))
      have o6_1 := Own.chg (Own.chg H_o6_0.out (((Chg.refl (· = g) _).setCell (.inl rfl) _).setCell (.inl rfl) _) (fun b hb e => hg6 (e ▸ hb))) hb1 (fun b hb hb2 => d2 b hb2 b (by simp [hb]) rfl)
      have o7_1 := Own.chg (Own.chg H_o7_0.out (((Chg.refl (· = g) _).setCell (.inl rfl) _).setCell (.inl rfl) _) (fun b hb e => hg7 (e ▸ hb))) hb1 (fun b hb hb2 => d2 b hb2 b (by simp [hb]) rfl)
      have hgl1 : g < w1.heap.size := Nat.lt_of_lt_of_le HO.out.glt C1.size
      clear h0 g0 h1 g1 h2 g2 h3 g3 h4 g4 h5 g5 h6 g6 h7 g7 h8 g8 h9 g9 h10 g10 h11 g11
      obtain ⟨h0, g0⟩ := RW1.midk HO.out.len 0 _ rfl
      obtain ⟨h1, g1⟩ := RW1.midk HO.out.len 1 _ rfl
      obtain ⟨h2, g2⟩ := RW1.midk HO.out.len 2 _ rfl
      obtain ⟨h3, g3⟩ := RW1.midk HO.out.len 3 _ rfl
      obtain ⟨h4, g4⟩ := RW1.midk HO.out.len 4 _ rfl
      obtain ⟨h5, g5⟩ := RW1.midk HO.out.len 5 _ rfl
      obtain ⟨h6, g6⟩ := RW1.midk HO.out.len 6 _ rfl
      obtain ⟨h7, g7⟩ := RW1.midk HO.out.len 7 _ rfl
      obtain ⟨h8, g8⟩ := RW1.midk HO.out.len 8 _ rfl
      obtain ⟨h9, g9⟩ := RW1.midk HO.out.len 9 _ rfl
      obtain ⟨h10, g10⟩ := RW1.midk HO.out.len 10 _ rfl
      obtain ⟨h11, g11⟩ := RW1.midk HO.out.len 11 _ rfl
      rw [Nat.add_zero] at h0 g0
      have H_RW1 := Lib.hid RW1
      have H_C1 := Lib.hid C1
      have H_o2_1 := Lib.hid o2_1
      have H_o6_1 := Lib.hid o6_1
      have H_o7_1 := Lib.hid o7_1
      have H_hr2 := Lib.hid hr2
      have hr2_0 : 0 ≤ r2 := by omega
      have hr2_9 : r2 + 7 ≤ 4611686018427387904 := by have := HQ3.out; have h := HC.out; omega
      clear hb1 RW1 C1 o2_1 o6_1 o7_1 hr2 hgl
      have hgl := hgl1
      clear hgl1
      go_wp2_with fail
      refine (markSentS_calls _ _ _ f6 _ (Own.chg H_o6_1.out ((((Chg.refl (· = g) _).setCell (.inl rfl) _).setCell (.inl rfl) _).setCell (.inl rfl) _) (fun b hb e => hg6 (e ▸ hb))) n6 (by omega) (by have := HQ3.out; have := HC.out; have e2 := H_hr2.out; omega)).mono ?_
      rintro e w2 ⟨r6, rfl, hr6, o6_2, hb2⟩
      have RW2 : RowIs w2 g (up ++ ([.int .i64 q, .int .i64 (q + 1), .slice A2 x.Slots.length c2, .int .i64 r2, .int .i64 (r2 + 1), .int .i64 (r2 + 1 + 1), .slice A6 x.Queue.length c6, .slice A7 x.Askers.length c7, .int .i64 x.Peer, .int .i64 x.Pos, .int .i64 x.Count, .int .i64 x.Sent] ++ uo)) := RowIs.keep (RowIs.setMid (RowIs.setMid (RowIs.setMid H_RW1.out HO.out.len 3 (by simp) _) HO.out.len 4 (by simp) _) HO.out.len 5 (by simp) _) (hb2.block _ (by first | exact hgl | (simp only [size_set]; exact hgl)) hg6)
      have C2 : Chg (fun b => b = g ∨ b ∈ (f2 ++ (f6 ++ (f7)) : List Nat)) wr w2 := (Chg.setCell (Chg.setCell (Chg.setCell H_C1.out (.inl (.inl rfl)) _) (.inl (.inl rfl)) _) (.inl (.inl rfl)) _).trans (hb2.mono (fun b _ hb => .inr (by simp [hb])))
      have o2_2 := Own.chg (Own.chg H_o2_1.out ((((Chg.refl (· = g) _).setCell (.inl rfl) _).setCell (.inl rfl) _).setCell (.inl rfl) _) (fun b hb e => hg2 (e ▸ hb))) hb2 (fun b hb hb2 => d2 b hb b (by simp [hb2]) rfl)
      have o7_2 := Own.chg (Own.chg H_o7_1.out ((((Chg.refl (· = g) _).setCell (.inl rfl) _).setCell (.inl rfl) _).setCell (.inl rfl) _) (fun b hb e => hg7 (e ▸ hb))) hb2 (fun b hb hb2 => d6 b hb2 b (by simp [hb]) rfl)
      have hgl2 : g < w2.heap.size := Nat.lt_of_lt_of_le HO.out.glt C2.size
      clear h0 g0 h1 g1 h2 g2 h3 g3 h4 g4 h5 g5 h6 g6 h7 g7 h8 g8 h9 g9 h10 g10 h11 g11
      obtain ⟨h0, g0⟩ := RW2.midk HO.out.len 0 _ rfl
      obtain ⟨h1, g1⟩ := RW2.midk HO.out.len 1 _ rfl
      obtain ⟨h2, g2⟩ := RW2.midk HO.out.len 2 _ rfl
      obtain ⟨h3, g3⟩ := RW2.midk HO.out.len 3 _ rfl
      obtain ⟨h4, g4⟩ := RW2.midk HO.out.len 4 _ rfl
      obtain ⟨h5, g5⟩ := RW2.midk HO.out.len 5 _ rfl
      obtain ⟨h6, g6⟩ := RW2.midk HO.out.len 6 _ rfl
      obtain ⟨h7, g7⟩ := RW2.midk HO.out.len 7 _ rfl
      obtain ⟨h8, g8⟩ := RW2.midk HO.out.len 8 _ rfl
      obtain ⟨h9, g9⟩ := RW2.midk HO.out.len 9 _ rfl
      obtain ⟨h10, g10⟩ := RW2.midk HO.out.len 10 _ rfl
      obtain ⟨h11, g11⟩ := RW2.midk HO.out.len 11 _ rfl
      rw [Nat.add_zero] at h0 g0
      have H_RW2 := Lib.hid RW2
      have H_C2 := Lib.hid C2
      have H_o2_2 := Lib.hid o2_2
      have H_o6_2 := Lib.hid o6_2
      have H_o7_2 := Lib.hid o7_2
      have H_hr6 := Lib.hid hr6
      have hr6_0 : 0 ≤ r6 := by omega
      have hr6_9 : r6 + 4 ≤ 4611686018427387904 := by have := HQ3.out; have h := HC.out; have e2 := H_hr2.out; omega
      clear hb2 RW2 C2 o2_2 o6_2 o7_2 hr6 hgl
      have hgl := hgl2
      clear hgl2
      go_wp2_with fail
      refine (markAskerS_calls _ _ _ f7 _ H_o7_2.out n7 (by omega) (by have := HQ3.out; have := HC.out; have e2 := H_hr2.out; have e6 := H_hr6.out; omega)).mono ?_
      rintro e w3 ⟨r7, rfl, hr7, o7_3, hb3⟩
      have RW3 : RowIs w3 g (up ++ ([.int .i64 q, .int .i64 (q + 1), .slice A2 x.Slots.length c2, .int .i64 r2, .int .i64 (r2 + 1), .int .i64 (r2 + 1 + 1), .slice A6 x.Queue.length c6, .slice A7 x.Askers.length c7, .int .i64 x.Peer, .int .i64 x.Pos, .int .i64 x.Count, .int .i64 x.Sent] ++ uo)) := RowIs.keep H_RW2.out (hb3.block _ (by first | exact hgl | (simp only [size_set]; exact hgl)) hg7)
      have C3 : Chg (fun b => b = g ∨ b ∈ (f2 ++ (f6 ++ (f7)) : List Nat)) wr w3 := H_C2.out.trans (hb3.mono (fun b _ hb => .inr (by simp [hb])))
      have o2_3 := Own.chg H_o2_2.out hb3 (fun b hb hb2 => d2 b hb b (by simp [hb2]) rfl)
      have o6_3 := Own.chg H_o6_2.out hb3 (fun b hb hb2 => d6 b hb b (by simp [hb2]) rfl)
      have hgl3 : g < w3.heap.size := Nat.lt_of_lt_of_le HO.out.glt C3.size
      clear h0 g0 h1 g1 h2 g2 h3 g3 h4 g4 h5 g5 h6 g6 h7 g7 h8 g8 h9 g9 h10 g10 h11 g11
      obtain ⟨h0, g0⟩ := RW3.midk HO.out.len 0 _ rfl
      obtain ⟨h1, g1⟩ := RW3.midk HO.out.len 1 _ rfl
      obtain ⟨h2, g2⟩ := RW3.midk HO.out.len 2 _ rfl
      obtain ⟨h3, g3⟩ := RW3.midk HO.out.len 3 _ rfl
      obtain ⟨h4, g4⟩ := RW3.midk HO.out.len 4 _ rfl
      obtain ⟨h5, g5⟩ := RW3.midk HO.out.len 5 _ rfl
      obtain ⟨h6, g6⟩ := RW3.midk HO.out.len 6 _ rfl
      obtain ⟨h7, g7⟩ := RW3.midk HO.out.len 7 _ rfl
      obtain ⟨h8, g8⟩ := RW3.midk HO.out.len 8 _ rfl
      obtain ⟨h9, g9⟩ := RW3.midk HO.out.len 9 _ rfl
      obtain ⟨h10, g10⟩ := RW3.midk HO.out.len 10 _ rfl
      obtain ⟨h11, g11⟩ := RW3.midk HO.out.len 11 _ rfl
      rw [Nat.add_zero] at h0 g0
      have H_RW3 := Lib.hid RW3
      have H_C3 := Lib.hid C3
      have H_o2_3 := Lib.hid o2_3
      have H_o6_3 := Lib.hid o6_3
      have H_o7_3 := Lib.hid o7_3
      have H_hr7 := Lib.hid hr7
      have hr7_0 : 0 ≤ r7 := by omega
      have hr7_9 : r7 + 4 ≤ 4611686018427387904 := by have := HQ3.out; have h := HC.out; have e2 := H_hr2.out; have e6 := H_hr6.out; omega
      clear hb3 RW3 C3 o2_3 o6_3 o7_3 hr7 hgl
      have hgl := hgl3
      clear hgl3
      have HQ2 : Hid (r7 + 1 + 1 + 1 + 1 = k + cntL ((xs.take (i+1)).flatMap eEntity)) := by unfold Hid; have h1 := HQ1.out; have h2 := HQ3.out; have h3 := HQ.out; have e2 := H_hr2.out; have e6 := H_hr6.out; have e7 := H_hr7.out; omega
      go_wp2
      go_roundw
      case rel =>
        have hst := HO.out.close (ur' := [.int .i64 q, .int .i64 (q + 1), .slice A2 x.Slots.length c2, .int .i64 r2, .int .i64 (r2 + 1), .int .i64 (r2 + 1 + 1), .slice A6 x.Queue.length c6, .slice A7 x.Askers.length c7, .int .i64 r7, .int .i64 (r7 + 1), .int .i64 (r7 + 1 + 1), .int .i64 (r7 + 1 + 1 + 1)]) (RowIs.setMid (RowIs.setMid (RowIs.setMid (RowIs.setMid H_RW3.out HO.out.len 8 (by simp) _) HO.out.len 9 (by simp) _) HO.out.len 10 (by simp) _) HO.out.len 11 (by simp) _) (by rw [← HQ.out]; exact mkownm_eEntity q r2 r6 r7 H_hr2.out H_hr6.out H_hr7.out hq0 HC.out (Own.chg H_o2_3.out (((((Chg.refl (· = g) _).setCell (.inl rfl) _).setCell (.inl rfl) _).setCell (.inl rfl) _).setCell (.inl rfl) _) (fun b hb e => hg2 (e ▸ hb))) (Own.chg H_o6_3.out (((((Chg.refl (· = g) _).setCell (.inl rfl) _).setCell (.inl rfl) _).setCell (.inl rfl) _).setCell (.inl rfl) _) (fun b hb e => hg6 (e ▸ hb))) (Own.chg H_o7_3.out (((((Chg.refl (· = g) _).setCell (.inl rfl) _).setCell (.inl rfl) _).setCell (.inl rfl) _).setCell (.inl rfl) _) (fun b hb e => hg7 (e ▸ hb)))) (Chg.setCell (Chg.setCell (Chg.setCell (Chg.setCell H_C3.out (.inl (.inl rfl)) _) (.inl (.inl rfl)) _) (.inl (.inl rfl)) _) (.inl (.inl rfl)) _)
        exact ⟨i + 1, _, by omega, by go_num, rfl, HQ2, hst⟩
      case measure => simp [intOf]; omega
    · have : i = xs.length := by omega
      subst this
      have hq := HQ.out
      rw [List.take_length] at hq
      have HQ2 := Lib.hid hq
      clear hq
      go_wp2
      go_ret
      exact ⟨_, rfl, HQ2.out, HI.out.finish⟩

set_option maxHeartbeats 800000 in
set_option maxRecDepth 100000 in
theorem markLinkS_calls (xs : List GLink) (v : Value) (k : Int) (fp : List Nat) (w : World) (ho : Own w (.s xs.length (xs.flatMap eLink)) v fp) (hnd : fp.Nodup) (hk0 : 0 ≤ k) (hk1 : k + cntL (xs.flatMap eLink) ≤ 4611686018427387904) :
    Calls Tryz.prog 37 #[v, .int .i64 k] w fun e w' => ∃ r : Int, e = .returned (.int .i64 r) ∧ r = k + cntL (xs.flatMap eLink) ∧ Own w' (.s xs.length (mkL (xs.flatMap eLink) k)) v fp ∧ Chg (· ∈ fp) w w' := by
  obtain ⟨A, c, rfl, ⟨_, _, hl⟩⟩ := ho.slice
  have HS := Lib.hid (MkI.start (k0 := k) ho)
  have HND := Lib.hid hnd
  clear ho hnd
  go_enter Tryz.func37, Tryz.ntmps37
  go_wp2
  go_loopw [1, 5] (fun a b wr => ∃ (i : Nat) (q : Int), i ≤ xs.length ∧ b = .int .i64 i ∧ a = .int .i64 q ∧ Hid (q = k + cntL ((xs.take i).flatMap eLink)) ∧ Hid (MkI eLink xs k w wr (.slice A xs.length c) fp i)) (fun a b wr => xs.length - (intOf b).toNat)
  case atStart => exact ⟨0, k, by omega, rfl, rfl, by simp [cntL_nil, Hid], HS⟩
  case round =>
    obtain ⟨i, q, hi, rfl, rfl, HQ, HI⟩ := hrel
    by_cases hlt : i < xs.length
    · obtain ⟨x, hx⟩ : ∃ x, xs[i]? = some x := ⟨xs[i], List.getElem?_eq_getElem hlt⟩
      obtain ⟨g, c', up, ur, uo, fa, fr, fo, hv, O⟩ := HI.out.open_ len_eLink HND.out hx
      injection hv with hv1 hv2 hv3
      subst hv1; subst hv3
      have hq := HQ.out
      have hq1 := cnt_step eLink xs i x hx
      have hq2 := cnt_take_le eLink xs (i+1)
      have hq3 := cnt_eLink x
      have hq0 : 0 ≤ q := by omega
      have hqx : q + cntL (eLink x) ≤ 4611686018427387904 := by omega
      obtain ⟨v2, f2, v4, f4, v6, f6, rfl, rfl, o2_0, o4_0, o6_0⟩ := own_eLink O.mid
      obtain ⟨A2, c2, rfl, _⟩ := o2_0.slice
      obtain ⟨A4, c4, rfl, _⟩ := o4_0.slice
      obtain ⟨A6, c6, rfl, _⟩ := o6_0.slice
      have hg2 : g ∉ f2 := fun h => O.fr_ne (by simp [h])
      have hg4 : g ∉ f4 := fun h => O.fr_ne (by simp [h])
      have hg6 : g ∉ f6 := fun h => O.fr_ne (by simp [h])
      have hn := O.fr_nodup
      obtain ⟨n2, hn0, d2⟩ := List.nodup_append.1 hn
      obtain ⟨n4, n6, d4⟩ := List.nodup_append.1 hn0
      have RW0 : RowIs wr g (up ++ ([.int .i64 x.Peer, .bool x.Up, .slice A2 x.Exports.length c2, .int .i64 x.Next, .slice A4 x.Questions.length c4, .int .i64 x.Asked, .slice A6 x.Answers.length c6] ++ uo)) := O.row
      have C0 : Chg (fun b => b = g ∨ b ∈ (f2 ++ (f4 ++ (f6)) : List Nat)) wr wr := Chg.refl _ _
      obtain ⟨h0, g0⟩ := RW0.midk O.len 0 _ rfl
      obtain ⟨h1, g1⟩ := RW0.midk O.len 1 _ rfl
      obtain ⟨h2, g2⟩ := RW0.midk O.len 2 _ rfl
      obtain ⟨h3, g3⟩ := RW0.midk O.len 3 _ rfl
      obtain ⟨h4, g4⟩ := RW0.midk O.len 4 _ rfl
      obtain ⟨h5, g5⟩ := RW0.midk O.len 5 _ rfl
      obtain ⟨h6, g6⟩ := RW0.midk O.len 6 _ rfl
      rw [Nat.add_zero] at h0 g0
      have H_RW0 := Lib.hid RW0
      have H_C0 := Lib.hid C0
      have H_o2_0 := Lib.hid o2_0
      have H_o4_0 := Lib.hid o4_0
      have H_o6_0 := Lib.hid o6_0
      have HX := Lib.hid hx
      have HO := Lib.hid O
      have HC := Lib.hid hqx
      have hgl := O.glt
      have HQ3 := Lib.hid hq3
      have HQ1 := Lib.hid hq1
      have hq9 : q + 4 ≤ 4611686018427387904 := by omega
      clear hx O hq hq1 hq2 hq3 hv2 HI HS RW0 C0 hqx o2_0 o4_0 o6_0 hn
      go_wp2_with fail
      rw [show (((q + 1) % 3 == 0) : Bool) = decide (Int.tmod (q + 1) 3 = 0) from by rw [Int.tmod_eq_emod_of_nonneg (by omega)]; rfl]
      refine (markExportS_calls _ _ _ f2 _ (Own.chg H_o2_0.out (((Chg.refl (· = g) _).setCell (.inl rfl) _).setCell (.inl rfl) _) (fun b hb e => hg2 (e ▸ hb))) n2 (by omega) (by have := HQ3.out; have := HC.out; omega)).mono ?_
      rintro e w1 ⟨r2, rfl, hr2, o2_1, hb1⟩
      have RW1 : RowIs w1 g (up ++ ([.int .i64 q, .bool (decide (Int.tmod (q + 1) 3 = 0)), .slice A2 x.Exports.length c2, .int .i64 x.Next, .slice A4 x.Questions.length c4, .int .i64 x.Asked, .slice A6 x.Answers.length c6] ++ uo)) := RowIs.keep (RowIs.setMid (RowIs.setMid H_RW0.out HO.out.len 0 (by simp) _) HO.out.len 1 (by simp) _) (hb1.block _ (by first | exact hgl | (simp only [size_set]; exact hgl)) hg2)
      have C1 : Chg (fun b => b = g ∨ b ∈ (f2 ++ (f4 ++ (f6)) : List Nat)) wr w1 := (Chg.setCell (Chg.setCell H_C0.out (.inl (.inl rfl)) _) (.inl (.inl rfl)) _).trans (hb1.mono (fun b _ hb => .inr (by simp [hb])))
      have o4_1 := Own.chg (Own.chg H_o4_0.out (((Chg.refl (· = g) _).setCell (.inl rfl) _).setCell (.inl rfl) _) (fun b hb e => hg4 (e ▸ hb))) hb1 (fun b hb hb2 => d2 b hb2 b (by simp [hb]) rfl)
      have o6_1 := Own.chg (Own.chg H_o6_0.out (((Chg.refl (· = g) _).setCell (.inl rfl) _).setCell (.inl rfl) _) (fun b hb e => hg6 (e ▸ hb))) hb1 (fun b hb hb2 => d2 b hb2 b (by simp [hb]) rfl)
      have hgl1 : g < w1.heap.size := Nat.lt_of_lt_of_le HO.out.glt C1.size
      clear h0 g0 h1 g1 h2 g2 h3 g3 h4 g4 h5 g5 h6 g6
      obtain ⟨h0, g0⟩ := RW1.midk HO.out.len 0 _ rfl
      obtain ⟨h1, g1⟩ := RW1.midk HO.out.len 1 _ rfl
      obtain ⟨h2, g2⟩ := RW1.midk HO.out.len 2 _ rfl
      obtain ⟨h3, g3⟩ := RW1.midk HO.out.len 3 _ rfl
      obtain ⟨h4, g4⟩ := RW1.midk HO.out.len 4 _ rfl
      obtain ⟨h5, g5⟩ := RW1.midk HO.out.len 5 _ rfl
      obtain ⟨h6, g6⟩ := RW1.midk HO.out.len 6 _ rfl
      rw [Nat.add_zero] at h0 g0
      have H_RW1 := Lib.hid RW1
      have H_C1 := Lib.hid C1
      have H_o2_1 := Lib.hid o2_1
      have H_o4_1 := Lib.hid o4_1
      have H_o6_1 := Lib.hid o6_1
      have H_hr2 := Lib.hid hr2
      have hr2_0 : 0 ≤ r2 := by omega
      have hr2_9 : r2 + 2 ≤ 4611686018427387904 := by have := HQ3.out; have h := HC.out; omega
      clear hb1 RW1 C1 o2_1 o4_1 o6_1 hr2 hgl
      have hgl := hgl1
      clear hgl1
      go_wp2_with fail
      refine (markQuestionS_calls _ _ _ f4 _ (Own.chg H_o4_1.out ((Chg.refl (· = g) _).setCell (.inl rfl) _) (fun b hb e => hg4 (e ▸ hb))) n4 (by omega) (by have := HQ3.out; have := HC.out; have e2 := H_hr2.out; omega)).mono ?_
      rintro e w2 ⟨r4, rfl, hr4, o4_2, hb2⟩
      have RW2 : RowIs w2 g (up ++ ([.int .i64 q, .bool (decide (Int.tmod (q + 1) 3 = 0)), .slice A2 x.Exports.length c2, .int .i64 r2, .slice A4 x.Questions.length c4, .int .i64 x.Asked, .slice A6 x.Answers.length c6] ++ uo)) := RowIs.keep (RowIs.setMid H_RW1.out HO.out.len 3 (by simp) _) (hb2.block _ (by first | exact hgl | (simp only [size_set]; exact hgl)) hg4)
      have C2 : Chg (fun b => b = g ∨ b ∈ (f2 ++ (f4 ++ (f6)) : List Nat)) wr w2 := (Chg.setCell H_C1.out (.inl (.inl rfl)) _).trans (hb2.mono (fun b _ hb => .inr (by simp [hb])))
      have o2_2 := Own.chg (Own.chg H_o2_1.out ((Chg.refl (· = g) _).setCell (.inl rfl) _) (fun b hb e => hg2 (e ▸ hb))) hb2 (fun b hb hb2 => d2 b hb b (by simp [hb2]) rfl)
      have o6_2 := Own.chg (Own.chg H_o6_1.out ((Chg.refl (· = g) _).setCell (.inl rfl) _) (fun b hb e => hg6 (e ▸ hb))) hb2 (fun b hb hb2 => d4 b hb2 b (by simp [hb]) rfl)
      have hgl2 : g < w2.heap.size := Nat.lt_of_lt_of_le HO.out.glt C2.size
      clear h0 g0 h1 g1 h2 g2 h3 g3 h4 g4 h5 g5 h6 g6
      obtain ⟨h0, g0⟩ := RW2.midk HO.out.len 0 _ rfl
      obtain ⟨h1, g1⟩ := RW2.midk HO.out.len 1 _ rfl
      obtain ⟨h2, g2⟩ := RW2.midk HO.out.len 2 _ rfl
      obtain ⟨h3, g3⟩ := RW2.midk HO.out.len 3 _ rfl
      obtain ⟨h4, g4⟩ := RW2.midk HO.out.len 4 _ rfl
      obtain ⟨h5, g5⟩ := RW2.midk HO.out.len 5 _ rfl
      obtain ⟨h6, g6⟩ := RW2.midk HO.out.len 6 _ rfl
      rw [Nat.add_zero] at h0 g0
      have H_RW2 := Lib.hid RW2
      have H_C2 := Lib.hid C2
      have H_o2_2 := Lib.hid o2_2
      have H_o4_2 := Lib.hid o4_2
      have H_o6_2 := Lib.hid o6_2
      have H_hr4 := Lib.hid hr4
      have hr4_0 : 0 ≤ r4 := by omega
      have hr4_9 : r4 + 1 ≤ 4611686018427387904 := by have := HQ3.out; have h := HC.out; have e2 := H_hr2.out; omega
      clear hb2 RW2 C2 o2_2 o4_2 o6_2 hr4 hgl
      have hgl := hgl2
      clear hgl2
      go_wp2_with fail
      refine (markQuestionS_calls _ _ _ f6 _ (Own.chg H_o6_2.out ((Chg.refl (· = g) _).setCell (.inl rfl) _) (fun b hb e => hg6 (e ▸ hb))) n6 (by omega) (by have := HQ3.out; have := HC.out; have e2 := H_hr2.out; have e4 := H_hr4.out; omega)).mono ?_
      rintro e w3 ⟨r6, rfl, hr6, o6_3, hb3⟩
      have RW3 : RowIs w3 g (up ++ ([.int .i64 q, .bool (decide (Int.tmod (q + 1) 3 = 0)), .slice A2 x.Exports.length c2, .int .i64 r2, .slice A4 x.Questions.length c4, .int .i64 r4, .slice A6 x.Answers.length c6] ++ uo)) := RowIs.keep (RowIs.setMid H_RW2.out HO.out.len 5 (by simp) _) (hb3.block _ (by first | exact hgl | (simp only [size_set]; exact hgl)) hg6)
      have C3 : Chg (fun b => b = g ∨ b ∈ (f2 ++ (f4 ++ (f6)) : List Nat)) wr w3 := (Chg.setCell H_C2.out (.inl (.inl rfl)) _).trans (hb3.mono (fun b _ hb => .inr (by simp [hb])))
      have o2_3 := Own.chg (Own.chg H_o2_2.out ((Chg.refl (· = g) _).setCell (.inl rfl) _) (fun b hb e => hg2 (e ▸ hb))) hb3 (fun b hb hb2 => d2 b hb b (by simp [hb2]) rfl)
      have o4_3 := Own.chg (Own.chg H_o4_2.out ((Chg.refl (· = g) _).setCell (.inl rfl) _) (fun b hb e => hg4 (e ▸ hb))) hb3 (fun b hb hb2 => d4 b hb b (by simp [hb2]) rfl)
      have hgl3 : g < w3.heap.size := Nat.lt_of_lt_of_le HO.out.glt C3.size
      clear h0 g0 h1 g1 h2 g2 h3 g3 h4 g4 h5 g5 h6 g6
      obtain ⟨h0, g0⟩ := RW3.midk HO.out.len 0 _ rfl
      obtain ⟨h1, g1⟩ := RW3.midk HO.out.len 1 _ rfl
      obtain ⟨h2, g2⟩ := RW3.midk HO.out.len 2 _ rfl
      obtain ⟨h3, g3⟩ := RW3.midk HO.out.len 3 _ rfl
      obtain ⟨h4, g4⟩ := RW3.midk HO.out.len 4 _ rfl
      obtain ⟨h5, g5⟩ := RW3.midk HO.out.len 5 _ rfl
      obtain ⟨h6, g6⟩ := RW3.midk HO.out.len 6 _ rfl
      rw [Nat.add_zero] at h0 g0
      have H_RW3 := Lib.hid RW3
      have H_C3 := Lib.hid C3
      have H_o2_3 := Lib.hid o2_3
      have H_o4_3 := Lib.hid o4_3
      have H_o6_3 := Lib.hid o6_3
      have H_hr6 := Lib.hid hr6
      have hr6_0 : 0 ≤ r6 := by omega
      have hr6_9 : r6 + 0 ≤ 4611686018427387904 := by have := HQ3.out; have h := HC.out; have e2 := H_hr2.out; have e4 := H_hr4.out; omega
      clear hb3 RW3 C3 o2_3 o4_3 o6_3 hr6 hgl
      have hgl := hgl3
      clear hgl3
      have HQ2 : Hid (r6 = k + cntL ((xs.take (i+1)).flatMap eLink)) := by unfold Hid; have h1 := HQ1.out; have h2 := HQ3.out; have h3 := HQ.out; have e2 := H_hr2.out; have e4 := H_hr4.out; have e6 := H_hr6.out; omega
      go_wp2
      go_roundw
      case rel =>
        have hst := HO.out.close (ur' := [.int .i64 q, .bool (decide (Int.tmod (q + 1) 3 = 0)), .slice A2 x.Exports.length c2, .int .i64 r2, .slice A4 x.Questions.length c4, .int .i64 r4, .slice A6 x.Answers.length c6]) H_RW3.out (by rw [← HQ.out]; exact mkownm_eLink q r2 r4 r6 H_hr2.out H_hr4.out H_hr6.out hq0 HC.out H_o2_3.out H_o4_3.out H_o6_3.out) H_C3.out
        exact ⟨i + 1, _, by omega, by go_num, rfl, HQ2, hst⟩
      case measure => simp [intOf]; omega
    · have : i = xs.length := by omega
      subst this
      have hq := HQ.out
      rw [List.take_length] at hq
      have HQ2 := Lib.hid hq
      clear hq
      go_wp2
      go_ret
      exact ⟨_, rfl, HQ2.out, HI.out.finish⟩

set_option maxHeartbeats 800000 in
set_option maxRecDepth 100000 in
theorem markOutgoingS_calls (xs : List GOutgoing) (v : Value) (k : Int) (fp : List Nat) (w : World) (ho : Own w (.s xs.length (xs.flatMap eOutgoing)) v fp) (hnd : fp.Nodup) (hk0 : 0 ≤ k) (hk1 : k + cntL (xs.flatMap eOutgoing) ≤ 4611686018427387904) :
    Calls Tryz.prog 38 #[v, .int .i64 k] w fun e w' => ∃ r : Int, e = .returned (.int .i64 r) ∧ r = k + cntL (xs.flatMap eOutgoing) ∧ Own w' (.s xs.length (mkL (xs.flatMap eOutgoing) k)) v fp ∧ Chg (· ∈ fp) w w' := by
  obtain ⟨A, c, rfl, ⟨_, _, hl⟩⟩ := ho.slice
  have HS := Lib.hid (MkI.start (k0 := k) ho)
  have HND := Lib.hid hnd
  clear ho hnd
  go_enter Tryz.func38, Tryz.ntmps38
  go_wp2
  go_loopw [1, 5] (fun a b wr => ∃ (i : Nat) (q : Int), i ≤ xs.length ∧ b = .int .i64 i ∧ a = .int .i64 q ∧ Hid (q = k + cntL ((xs.take i).flatMap eOutgoing)) ∧ Hid (MkI eOutgoing xs k w wr (.slice A xs.length c) fp i)) (fun a b wr => xs.length - (intOf b).toNat)
  case atStart => exact ⟨0, k, by omega, rfl, rfl, by simp [cntL_nil, Hid], HS⟩
  case round =>
    obtain ⟨i, q, hi, rfl, rfl, HQ, HI⟩ := hrel
    by_cases hlt : i < xs.length
    · obtain ⟨x, hx⟩ : ∃ x, xs[i]? = some x := ⟨xs[i], List.getElem?_eq_getElem hlt⟩
      obtain ⟨g, c', up, ur, uo, fa, fr, fo, hv, O⟩ := HI.out.open_ len_eOutgoing HND.out hx
      injection hv with hv1 hv2 hv3
      subst hv1; subst hv3
      have hq := HQ.out
      have hq1 := cnt_step eOutgoing xs i x hx
      have hq2 := cnt_take_le eOutgoing xs (i+1)
      have hq3 := cnt_eOutgoing x
      have hq0 : 0 ≤ q := by omega
      have hqx : q + cntL (eOutgoing x) ≤ 4611686018427387904 := by omega
      obtain ⟨v6, f6, rfl, hfq, o6_0⟩ := own_eOutgoing O.mid
      obtain rfl : f6 = fr := hfq.symm
      obtain ⟨A6, c6, rfl, _⟩ := o6_0.slice
      have hg6 : g ∉ f6 := fun h => O.fr_ne (by simp [h])
      have hn := O.fr_nodup
      have n6 := hn
      have RW0 : RowIs wr g (up ++ ([.int .i64 x.To, .int .i64 x.Message.Kind, .int .i64 x.Message.Pos, .int .i64 x.Message.Answer, .int .i64 x.Message.Question, .string x.Message.Name, .slice A6 x.Message.Args.length c6, .int .i64 x.Message.Value.Kind, .int .i64 x.Message.Value.N, .int .i64 x.Message.Count, .int .i64 x.Message.Tag.Vat, .int .i64 x.Message.Tag.Entity, .int .i64 x.Message.Tag.Seq] ++ uo)) := O.row
      have C0 : Chg (fun b => b = g ∨ b ∈ (f6 : List Nat)) wr wr := Chg.refl _ _
      obtain ⟨h0, g0⟩ := RW0.midk O.len 0 _ rfl
      obtain ⟨h1, g1⟩ := RW0.midk O.len 1 _ rfl
      obtain ⟨h2, g2⟩ := RW0.midk O.len 2 _ rfl
      obtain ⟨h3, g3⟩ := RW0.midk O.len 3 _ rfl
      obtain ⟨h4, g4⟩ := RW0.midk O.len 4 _ rfl
      obtain ⟨h5, g5⟩ := RW0.midk O.len 5 _ rfl
      obtain ⟨h6, g6⟩ := RW0.midk O.len 6 _ rfl
      obtain ⟨h7, g7⟩ := RW0.midk O.len 7 _ rfl
      obtain ⟨h8, g8⟩ := RW0.midk O.len 8 _ rfl
      obtain ⟨h9, g9⟩ := RW0.midk O.len 9 _ rfl
      obtain ⟨h10, g10⟩ := RW0.midk O.len 10 _ rfl
      obtain ⟨h11, g11⟩ := RW0.midk O.len 11 _ rfl
      obtain ⟨h12, g12⟩ := RW0.midk O.len 12 _ rfl
      rw [Nat.add_zero] at h0 g0
      have H_RW0 := Lib.hid RW0
      have H_C0 := Lib.hid C0
      have H_o6_0 := Lib.hid o6_0
      have HX := Lib.hid hx
      have HO := Lib.hid O
      have HC := Lib.hid hqx
      have hgl := O.glt
      have HQ3 := Lib.hid hq3
      have HQ1 := Lib.hid hq1
      have hq9 : q + 12 ≤ 4611686018427387904 := by omega
      clear hx O hq hq1 hq2 hq3 hv2 HI HS RW0 C0 hqx o6_0 hn
      go_wp2_with fail
      refine (markText_calls (q + 1 + 1 + 1 + 1 + 1) _ (by omega) (by omega)).mono ?_
      rintro e w1 ⟨rfl, hb1⟩
      have RW1 : RowIs w1 g (up ++ ([.int .i64 q, .int .i64 (q + 1), .int .i64 (q + 1 + 1), .int .i64 (q + 1 + 1 + 1), .int .i64 (q + 1 + 1 + 1 + 1), .string x.Message.Name, .slice A6 x.Message.Args.length c6, .int .i64 x.Message.Value.Kind, .int .i64 x.Message.Value.N, .int .i64 x.Message.Count, .int .i64 x.Message.Tag.Vat, .int .i64 x.Message.Tag.Entity, .int .i64 x.Message.Tag.Seq] ++ uo)) := RowIs.keep (RowIs.setMid (RowIs.setMid (RowIs.setMid (RowIs.setMid (RowIs.setMid H_RW0.out HO.out.len 0 (by simp) _) HO.out.len 1 (by simp) _) HO.out.len 2 (by simp) _) HO.out.len 3 (by simp) _) HO.out.len 4 (by simp) _) (hb1.block _ (by first | exact hgl | (simp only [size_set]; exact hgl)))
      have C1 : Chg (fun b => b = g ∨ b ∈ (f6 : List Nat)) wr w1 := (Chg.setCell (Chg.setCell (Chg.setCell (Chg.setCell (Chg.setCell H_C0.out (.inl (.inl rfl)) _) (.inl (.inl rfl)) _) (.inl (.inl rfl)) _) (.inl (.inl rfl)) _) (.inl (.inl rfl)) _).trans (Chg.of_below hb1 _)
      have o6_1 := Own.below (Own.chg H_o6_0.out ((((((Chg.refl (· = g) _).setCell (.inl rfl) _).setCell (.inl rfl) _).setCell (.inl rfl) _).setCell (.inl rfl) _).setCell (.inl rfl) _) (fun b hb e => hg6 (e ▸ hb))) hb1
      have hgl1 : g < w1.heap.size := Nat.lt_of_lt_of_le HO.out.glt C1.size
      clear h0 g0 h1 g1 h2 g2 h3 g3 h4 g4 h5 g5 h6 g6 h7 g7 h8 g8 h9 g9 h10 g10 h11 g11 h12 g12
      obtain ⟨h0, g0⟩ := RW1.midk HO.out.len 0 _ rfl
      obtain ⟨h1, g1⟩ := RW1.midk HO.out.len 1 _ rfl
      obtain ⟨h2, g2⟩ := RW1.midk HO.out.len 2 _ rfl
      obtain ⟨h3, g3⟩ := RW1.midk HO.out.len 3 _ rfl
      obtain ⟨h4, g4⟩ := RW1.midk HO.out.len 4 _ rfl
      obtain ⟨h5, g5⟩ := RW1.midk HO.out.len 5 _ rfl
      obtain ⟨h6, g6⟩ := RW1.midk HO.out.len 6 _ rfl
      obtain ⟨h7, g7⟩ := RW1.midk HO.out.len 7 _ rfl
      obtain ⟨h8, g8⟩ := RW1.midk HO.out.len 8 _ rfl
      obtain ⟨h9, g9⟩ := RW1.midk HO.out.len 9 _ rfl
      obtain ⟨h10, g10⟩ := RW1.midk HO.out.len 10 _ rfl
      obtain ⟨h11, g11⟩ := RW1.midk HO.out.len 11 _ rfl
      obtain ⟨h12, g12⟩ := RW1.midk HO.out.len 12 _ rfl
      rw [Nat.add_zero] at h0 g0
      have H_RW1 := Lib.hid RW1
      have H_C1 := Lib.hid C1
      have H_o6_1 := Lib.hid o6_1
      clear hb1 RW1 C1 o6_1 hgl
      have hgl := hgl1
      clear hgl1
      go_wp2_with fail
      refine (markWireS_calls _ _ _ f6 _ (Own.chg H_o6_1.out ((Chg.refl (· = g) _).setCell (.inl rfl) _) (fun b hb e => hg6 (e ▸ hb))) n6 (by omega) (by have := HQ3.out; have := HC.out; omega)).mono ?_
      rintro e w2 ⟨r6, rfl, hr6, o6_2, hb2⟩
      have RW2 : RowIs w2 g (up ++ ([.int .i64 q, .int .i64 (q + 1), .int .i64 (q + 1 + 1), .int .i64 (q + 1 + 1 + 1), .int .i64 (q + 1 + 1 + 1 + 1), .string (mkText (q + 1 + 1 + 1 + 1 + 1)), .slice A6 x.Message.Args.length c6, .int .i64 x.Message.Value.Kind, .int .i64 x.Message.Value.N, .int .i64 x.Message.Count, .int .i64 x.Message.Tag.Vat, .int .i64 x.Message.Tag.Entity, .int .i64 x.Message.Tag.Seq] ++ uo)) := RowIs.keep (RowIs.setMid H_RW1.out HO.out.len 5 (by simp) _) (hb2.block _ (by first | exact hgl | (simp only [size_set]; exact hgl)) hg6)
      have C2 : Chg (fun b => b = g ∨ b ∈ (f6 : List Nat)) wr w2 := (Chg.setCell H_C1.out (.inl (.inl rfl)) _).trans (hb2.mono (fun b _ hb => .inr (by simp [hb])))
      have hgl2 : g < w2.heap.size := Nat.lt_of_lt_of_le HO.out.glt C2.size
      clear h0 g0 h1 g1 h2 g2 h3 g3 h4 g4 h5 g5 h6 g6 h7 g7 h8 g8 h9 g9 h10 g10 h11 g11 h12 g12
      obtain ⟨h0, g0⟩ := RW2.midk HO.out.len 0 _ rfl
      obtain ⟨h1, g1⟩ := RW2.midk HO.out.len 1 _ rfl
      obtain ⟨h2, g2⟩ := RW2.midk HO.out.len 2 _ rfl
      obtain ⟨h3, g3⟩ := RW2.midk HO.out.len 3 _ rfl
      obtain ⟨h4, g4⟩ := RW2.midk HO.out.len 4 _ rfl
      obtain ⟨h5, g5⟩ := RW2.midk HO.out.len 5 _ rfl
      obtain ⟨h6, g6⟩ := RW2.midk HO.out.len 6 _ rfl
      obtain ⟨h7, g7⟩ := RW2.midk HO.out.len 7 _ rfl
      obtain ⟨h8, g8⟩ := RW2.midk HO.out.len 8 _ rfl
      obtain ⟨h9, g9⟩ := RW2.midk HO.out.len 9 _ rfl
      obtain ⟨h10, g10⟩ := RW2.midk HO.out.len 10 _ rfl
      obtain ⟨h11, g11⟩ := RW2.midk HO.out.len 11 _ rfl
      obtain ⟨h12, g12⟩ := RW2.midk HO.out.len 12 _ rfl
      rw [Nat.add_zero] at h0 g0
      have H_RW2 := Lib.hid RW2
      have H_C2 := Lib.hid C2
      have H_o6_2 := Lib.hid o6_2
      have H_hr6 := Lib.hid hr6
      have hr6_0 : 0 ≤ r6 := by omega
      have hr6_9 : r6 + 6 ≤ 4611686018427387904 := by have := HQ3.out; have h := HC.out; omega
      clear hb2 RW2 C2 o6_2 hr6 hgl
      have hgl := hgl2
      clear hgl2
      have HQ2 : Hid (r6 + 1 + 1 + 1 + 1 + 1 + 1 = k + cntL ((xs.take (i+1)).flatMap eOutgoing)) := by unfold Hid; have h1 := HQ1.out; have h2 := HQ3.out; have h3 := HQ.out; have e6 := H_hr6.out; omega
      go_wp2
      go_roundw
      case rel =>
        have hst := HO.out.close (ur' := [.int .i64 q, .int .i64 (q + 1), .int .i64 (q + 1 + 1), .int .i64 (q + 1 + 1 + 1), .int .i64 (q + 1 + 1 + 1 + 1), .string (mkText (q + 1 + 1 + 1 + 1 + 1)), .slice A6 x.Message.Args.length c6, .int .i64 r6, .int .i64 (r6 + 1), .int .i64 (r6 + 1 + 1), .int .i64 (r6 + 1 + 1 + 1), .int .i64 (r6 + 1 + 1 + 1 + 1), .int .i64 (r6 + 1 + 1 + 1 + 1 + 1)]) (RowIs.setMid (RowIs.setMid (RowIs.setMid (RowIs.setMid (RowIs.setMid (RowIs.setMid H_RW2.out HO.out.len 7 (by simp) _) HO.out.len 8 (by simp) _) HO.out.len 9 (by simp) _) HO.out.len 10 (by simp) _) HO.out.len 11 (by simp) _) HO.out.len 12 (by simp) _) (by rw [← HQ.out]; exact mkownm_eOutgoing q r6 H_hr6.out hq0 HC.out (Own.chg H_o6_2.out (((((((Chg.refl (· = g) _).setCell (.inl rfl) _).setCell (.inl rfl) _).setCell (.inl rfl) _).setCell (.inl rfl) _).setCell (.inl rfl) _).setCell (.inl rfl) _) (fun b hb e => hg6 (e ▸ hb)))) (Chg.setCell (Chg.setCell (Chg.setCell (Chg.setCell (Chg.setCell (Chg.setCell H_C2.out (.inl (.inl rfl)) _) (.inl (.inl rfl)) _) (.inl (.inl rfl)) _) (.inl (.inl rfl)) _) (.inl (.inl rfl)) _) (.inl (.inl rfl)) _)
        exact ⟨i + 1, _, by omega, by go_num, rfl, HQ2, hst⟩
      case measure => simp [intOf]; omega
    · have : i = xs.length := by omega
      subst this
      have hq := HQ.out
      rw [List.take_length] at hq
      have HQ2 := Lib.hid hq
      clear hq
      go_wp2
      go_ret
      exact ⟨_, rfl, HQ2.out, HI.out.finish⟩

set_option maxHeartbeats 800000 in
set_option maxRecDepth 100000 in
theorem markVat_calls (us : List Value) (x : GVat) (k : Int) (fp : List Nat) (w : World) (ho : OwnL w (eVat x) us fp) (hnd : fp.Nodup) (hk0 : 0 ≤ k) (hk1 : k + tcnt (eVat x) ≤ 4611686018427387904) :
    Calls Tryz.prog 10 #[.agg us.toArray, .int .i64 k] w fun e w' => ∃ r : Int, e = .returned (.int .i64 r) ∧ r = k + tcnt (eVat x) ∧ OwnL w' (topL (eVat x) k) us fp ∧ Chg (· ∈ fp) w w' := by
  rw [tcnt_eVat] at hk1 ⊢
  obtain ⟨v1, f1, v2, f2, v3, f3, v4, f4, rfl, rfl, o1_0, o2_0, o3_0, o4_0⟩ := own_eVat ho
  clear ho
  obtain ⟨n1, hn0, d1⟩ := List.nodup_append.1 hnd
  obtain ⟨n2, hn1, d2⟩ := List.nodup_append.1 hn0
  obtain ⟨n3, n4, d3⟩ := List.nodup_append.1 hn1
  have H_o1_0 := Lib.hid o1_0
  have H_o2_0 := Lib.hid o2_0
  have H_o3_0 := Lib.hid o3_0
  have H_o4_0 := Lib.hid o4_0
  have HC := Lib.hid hk1
  clear hk1 o1_0 o2_0 o3_0 o4_0
  go_enter Tryz.func10, Tryz.ntmps10
  go_wp2_with fail
  refine (markEntityS_calls _ _ k f1 _ (Own.below H_o1_0.out ((Below.refl _ _).alloc (Nat.le_refl _) _)) n1 (by omega) (by have := HC.out; omega)).mono ?_
  rintro e w1 ⟨r1, rfl, hr1, o1_1, hb1⟩
  have o2_1 := Own.chg (Own.below H_o2_0.out ((Below.refl _ _).alloc (Nat.le_refl _) _)) hb1 (fun b hb hb2 => d1 b hb2 b (by simp [hb]) rfl)
  have o3_1 := Own.chg (Own.below H_o3_0.out ((Below.refl _ _).alloc (Nat.le_refl _) _)) hb1 (fun b hb hb2 => d1 b hb2 b (by simp [hb]) rfl)
  have o4_1 := Own.chg (Own.below H_o4_0.out ((Below.refl _ _).alloc (Nat.le_refl _) _)) hb1 (fun b hb hb2 => d1 b hb2 b (by simp [hb]) rfl)
  have hbg1 : w.heap.size ∉ f1 := fun h => by have := Own.lt _ _ _ H_o1_0.out _ h; omega
  have B1 : Blk w1 w.heap.size 36 #[.int .i64 x.Id, v1, v2, v3, v4] := (Blk.new _ _ _).chg hb1 hbg1
  have C1 : Chg (· ∈ (f1 ++ (f2 ++ (f3 ++ (f4))))) w w1 := ((Chg.refl _ w).alloc _).trans (hb1.mono (fun b _ hb => by simp [hb]))
  have HB1 := Lib.hid B1
  have HC1 := Lib.hid C1
  have H_hr1 := Lib.hid hr1
  have H_o1_1 := Lib.hid o1_1
  have H_o2_1 := Lib.hid o2_1
  have H_o3_1 := Lib.hid o3_1
  have H_o4_1 := Lib.hid o4_1
  have hr1_0 : 0 ≤ r1 := by omega
  obtain ⟨cb1, fb1⟩ := B1.rules
  clear hb1 B1 C1 hr1 o1_1 o2_1 o3_1 o4_1
  go_wp2_with fail
  refine (markSentS_calls _ _ r1 f2 _ H_o2_1.out n2 (by omega) (by have := HC.out; have e1 := H_hr1.out; omega)).mono ?_
  rintro e w2 ⟨r2, rfl, hr2, o2_2, hb2⟩
  have o1_2 := Own.chg H_o1_1.out hb2 (fun b hb hb2 => d1 b hb b (by simp [hb2]) rfl)
  have o3_2 := Own.chg H_o3_1.out hb2 (fun b hb hb2 => d2 b hb2 b (by simp [hb]) rfl)
  have o4_2 := Own.chg H_o4_1.out hb2 (fun b hb hb2 => d2 b hb2 b (by simp [hb]) rfl)
  have hbg2 : w.heap.size ∉ f2 := fun h => by have := Own.lt _ _ _ H_o2_0.out _ h; omega
  have B2 : Blk w2 w.heap.size 36 #[.int .i64 x.Id, v1, v2, v3, v4] := HB1.out.chg hb2 hbg2
  have C2 : Chg (· ∈ (f1 ++ (f2 ++ (f3 ++ (f4))))) w w2 := HC1.out.trans (hb2.mono (fun b _ hb => by simp [hb]))
  have HB2 := Lib.hid B2
  have HC2 := Lib.hid C2
  have H_hr2 := Lib.hid hr2
  have H_o1_2 := Lib.hid o1_2
  have H_o2_2 := Lib.hid o2_2
  have H_o3_2 := Lib.hid o3_2
  have H_o4_2 := Lib.hid o4_2
  have hr2_0 : 0 ≤ r2 := by omega
  obtain ⟨cb2, fb2⟩ := B2.rules
  clear hb2 B2 C2 hr2 o1_2 o2_2 o3_2 o4_2
  go_wp2_with fail
  refine (markLinkS_calls _ _ r2 f3 _ H_o3_2.out n3 (by omega) (by have := HC.out; have e1 := H_hr1.out; have e2 := H_hr2.out; omega)).mono ?_
  rintro e w3 ⟨r3, rfl, hr3, o3_3, hb3⟩
  have o1_3 := Own.chg H_o1_2.out hb3 (fun b hb hb2 => d1 b hb b (by simp [hb2]) rfl)
  have o2_3 := Own.chg H_o2_2.out hb3 (fun b hb hb2 => d2 b hb b (by simp [hb2]) rfl)
  have o4_3 := Own.chg H_o4_2.out hb3 (fun b hb hb2 => d3 b hb2 b (by simp [hb]) rfl)
  have hbg3 : w.heap.size ∉ f3 := fun h => by have := Own.lt _ _ _ H_o3_0.out _ h; omega
  have B3 : Blk w3 w.heap.size 36 #[.int .i64 x.Id, v1, v2, v3, v4] := HB2.out.chg hb3 hbg3
  have C3 : Chg (· ∈ (f1 ++ (f2 ++ (f3 ++ (f4))))) w w3 := HC2.out.trans (hb3.mono (fun b _ hb => by simp [hb]))
  have HB3 := Lib.hid B3
  have HC3 := Lib.hid C3
  have H_hr3 := Lib.hid hr3
  have H_o1_3 := Lib.hid o1_3
  have H_o2_3 := Lib.hid o2_3
  have H_o3_3 := Lib.hid o3_3
  have H_o4_3 := Lib.hid o4_3
  have hr3_0 : 0 ≤ r3 := by omega
  obtain ⟨cb3, fb3⟩ := B3.rules
  clear hb3 B3 C3 hr3 o1_3 o2_3 o3_3 o4_3
  go_wp2_with fail
  refine (markOutgoingS_calls _ _ r3 f4 _ H_o4_3.out n4 (by omega) (by have := HC.out; have e1 := H_hr1.out; have e2 := H_hr2.out; have e3 := H_hr3.out; omega)).mono ?_
  rintro e w4 ⟨r4, rfl, hr4, o4_4, hb4⟩
  have o1_4 := Own.chg H_o1_3.out hb4 (fun b hb hb2 => d1 b hb b (by simp [hb2]) rfl)
  have o2_4 := Own.chg H_o2_3.out hb4 (fun b hb hb2 => d2 b hb b (by simp [hb2]) rfl)
  have o3_4 := Own.chg H_o3_3.out hb4 (fun b hb hb2 => d3 b hb b (by simp [hb2]) rfl)
  have hbg4 : w.heap.size ∉ f4 := fun h => by have := Own.lt _ _ _ H_o4_0.out _ h; omega
  have B4 : Blk w4 w.heap.size 36 #[.int .i64 x.Id, v1, v2, v3, v4] := HB3.out.chg hb4 hbg4
  have C4 : Chg (· ∈ (f1 ++ (f2 ++ (f3 ++ (f4))))) w w4 := HC3.out.trans (hb4.mono (fun b _ hb => by simp [hb]))
  have HB4 := Lib.hid B4
  have HC4 := Lib.hid C4
  have H_hr4 := Lib.hid hr4
  have H_o1_4 := Lib.hid o1_4
  have H_o2_4 := Lib.hid o2_4
  have H_o3_4 := Lib.hid o3_4
  have H_o4_4 := Lib.hid o4_4
  have hr4_0 : 0 ≤ r4 := by omega
  obtain ⟨cb4, fb4⟩ := B4.rules
  clear hb4 B4 C4 hr4 o1_4 o2_4 o3_4 o4_4
  go_wp2
  go_ret
  refine ⟨_, rfl, by have := HC.out; have e1 := H_hr1.out; have e2 := H_hr2.out; have e3 := H_hr3.out; have e4 := H_hr4.out; omega, ?_, HC4.out⟩
  exact mktop_eVat k r1 r2 r3 r4 H_hr1.out H_hr2.out H_hr3.out H_hr4.out H_o1_4.out H_o2_4.out H_o3_4.out H_o4_4.out

end Go.Proofs.YtmnpoajdibmocaaGreat
