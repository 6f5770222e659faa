import Derived.Test.YtaalbbhebmpppaaProg
import Derived.Test.YtaalbbhebmpppaaTypes
import Derived.StillTailTactics
import Derived.Deep.RegionHeld3
import Derived.Laws.IdiomStrings
import Derived.Test.YtaalbbhebmpppaaAppend
import Derived.Laws.StructEq
import Derived.Lib.SliceRun
import Derived.Shelf.RegionOpenPlain
namespace Go.Proofs.Ytaalbbhebmpppaa
open Go.RowKit
set_option linter.unusedVariables false
set_option linter.unusedSimpArgs false

theorem cell_alloc_zero (w : World) (v : Value) (t : TypeId) : (w.alloc (.cells #[v] t)).cell? ((⟨w.heap.size, 0, none⟩ : Addr).add 0) = some v := by
  rw [show (⟨w.heap.size, 0, none⟩ : Addr).add 0 = ⟨w.heap.size, 0, none⟩ from rfl]
  exact (Blk.new w t #[v]).cell 0
theorem decDigits_step {f n : Nat} (acc : List UInt8) (h : 0 < n) : decDigits (f + 1) n acc = decDigits f (n / 10) (UInt8.ofNat (48 + n % 10) :: acc) := by
  rw [decDigits, if_neg (by omega)]
theorem decDigits_zero (f : Nat) (acc : List UInt8) : decDigits f 0 acc = acc := by
  cases f <;> simp [decDigits]
set_option maxHeartbeats 800000 in
set_option maxRecDepth 100000 in
theorem markText_calls (k : Int) (w : World) (h0 : 0 ≤ k) (h1 : k ≤ 4611686018427387904) :
    Calls Try.prog 68 #[.int .i64 k] w fun e w' => e = .returned (.string (mkText k)) ∧ Below w.heap.size w w' := by
  obtain ⟨n, rfl⟩ : ∃ n : Nat, k = n := ⟨k.toNat, by omega⟩
  by_cases hk : n = 0
  · subst hk
    go_enter Try.func68, Try.ntmps68
    go_wp2
    go_ret
    exact ⟨rfl, Below.refl _ _⟩
  · have hk' : ¬ ((n : Int) ≤ 0) := by omega
    have HM : Hid (mkText n = ⟨(109 :: decDigits (n + 1) n []).toArray⟩) := by unfold Hid mkText; rw [if_neg hk']; rfl
    go_enter Try.func68, Try.ntmps68
    go_wp2
    go_loopw [0, 3] (fun a b wr => ∃ (m : Nat) (s : ByteArray), a = .int .i64 m ∧ b = .string s ∧ s.size + m ≤ n ∧ Hid (∃ f, m < f ∧ decDigits f m s.data.toList = decDigits (n + 1) n []) ∧ Hid (Below w.heap.size w wr)) (fun a b wr => (intOf a).toNat)
    case atStart => exact ⟨n, _, rfl, rfl, Nat.le_of_eq (Nat.zero_add _), ⟨n + 1, by omega, rfl⟩, Below.refl _ _⟩
    case round =>
      obtain ⟨m, s, rfl, rfl, hm, HD, HB⟩ := hrel
      have hs9 : s.size ≤ 4611686018427387904 := by omega
      by_cases hlt : m = 0
      · subst hlt
        go_wp2
        go_ret
        refine ⟨?_, HB.out⟩
        obtain ⟨f, hf, hd⟩ := HD.out
        rw [HM.out, ← hd, decDigits_zero]
        rfl
      · have hlt' : (0 : Int) < m := by omega
        obtain ⟨d, hd0⟩ : ∃ d : UInt8, d = UInt8.ofNat (48 + m % 10) := ⟨_, rfl⟩
        have hd9 : (d.toNat : Int) = 48 + (m : Int) % 10 := by
          have : d.toNat = 48 + m % 10 := by rw [hd0]; simp; omega
          rw [this]; omega
        have hcv : (convert 44 9 (.slice (some ⟨wr.heap.size, 0, none⟩) 1 1)).run Try.prog (wr.alloc (.cells #[.int .u8 (48 + (m : Int) % 10)] 5)) = .ok (.string ⟨#[d]⟩) (wr.alloc (.cells #[.int .u8 (48 + (m : Int) % 10)] 5)) :=
          run_convert_bytes_back _ _ _ 5 ⟨wr.heap.size, 0, none⟩ 1 [d] Try.underlying44 Try.underlying5 Try.underlying9 (fun j hj => by
            have : j = 0 := by simpa using hj
            subst this
            rw [cell_alloc_zero]
            show some _ = some (Value.int .u8 (d.toNat : Int))
            rw [hd9])
        clear hd9
        have HD2 : Hid (∃ f, m / 10 < f ∧ decDigits f (m / 10) ((⟨#[d]⟩ : ByteArray) ++ s).data.toList = decDigits (n + 1) n []) := by
          obtain ⟨f, hf, hd⟩ := HD.out
          obtain ⟨f, rfl⟩ : ∃ f', f = f' + 1 := ⟨f - 1, by omega⟩
          refine ⟨f, by omega, ?_⟩
          rw [decDigits_step _ (by omega)] at hd
          rw [← hd, ← hd0]; congr 1
          all_goals simp
        clear hd0
        have HS2 : ((⟨#[d]⟩ : ByteArray) ++ s).size = s.size + 1 := by
          rw [ByteArray.size_append]
          show 1 + _ = _
          all_goals omega
        have HS3 := Lib.hid HS2
        clear HS2
        go_wp2
        go_roundw
        case rel => exact ⟨m / 10, _, by go_num, rfl, by rw [HS3.out]; omega, HD2, HB.out.alloc HB.out.size _⟩
        case measure => simp [intOf]; omega

set_option maxHeartbeats 800000 in
set_option maxRecDepth 100000 in
theorem eqIntS_calls (xs : List Int) (v v' : Value) (w : World) (hr : RdW w (.s xs.length (xs.flatMap eInt)) v) (hr' : RdW w (.s xs.length (xs.flatMap eInt)) v') :
    Calls Try.prog 9 #[v, v'] w fun e w' => e = .returned (.bool true) ∧ Below w.heap.size w w' := by
  obtain ⟨A, c, rfl, ⟨_, _, hl⟩⟩ := hr.slice
  obtain ⟨A', c', rfl, _⟩ := hr'.slice
  have HR := Lib.hid hr
  have HR' := Lib.hid hr'
  clear hr hr'
  go_enter Try.func9, Try.ntmps9
  go_wp2
  go_loopw [5] (fun a wr => ∃ i : Nat, i ≤ xs.length ∧ a = .int .i64 i ∧ Hid (Below w.heap.size w wr)) (fun a wr => xs.length - (intOf a).toNat)
  case atStart => exact ⟨0, by omega, rfl, Below.refl _ w⟩
  case round =>
    obtain ⟨i, hi, rfl, HB⟩ := hrel
    by_cases hlt : i < xs.length
    · obtain ⟨x, hx⟩ : ∃ x, xs[i]? = some x := ⟨xs[i], List.getElem?_eq_getElem hlt⟩
      obtain ⟨ad, rfl, hadb, h0⟩ := row_eInt (HR.out.below HB.out) hx
      obtain ⟨ad', rfl, hadb', h0'⟩ := row_eInt (HR'.out.below HB.out) hx
      have HX := Lib.hid hx
      clear hx
      go_wp2
      go_quiet (fail)
      go_wp2
      go_roundw
      case rel => exact ⟨i + 1, by omega, by go_num, belowN HB.out _⟩
      case measure => simp [intOf]; omega
    · have : i = xs.length := by omega
      subst this
      go_wp2
      go_ret
      exact ⟨rfl, HB.out⟩

set_option maxHeartbeats 800000 in
set_option maxRecDepth 100000 in
theorem markIntS_calls (xs : List Int) (v : Value) (k : Int) (fp : List Nat) (w : World) (ho : Own w (.s xs.length (xs.flatMap eInt)) v fp) (hnd : fp.Nodup) (hk0 : 0 ≤ k) (hk1 : k + cntL (xs.flatMap eInt) ≤ 4611686018427387904) :
    Calls Try.prog 12 #[v, .int .i64 k] w fun e w' => ∃ r : Int, e = .returned (.int .i64 r) ∧ r = k + cntL (xs.flatMap eInt) ∧ Own w' (.s xs.length (mkL (xs.flatMap eInt) k)) v fp ∧ Chg (· ∈ fp) w w' := by
  obtain ⟨A, c, rfl, ⟨_, _, hl⟩⟩ := ho.slice
  have HS := Lib.hid (MkI.start (k0 := k) ho)
  have HND := Lib.hid hnd
  clear ho hnd
  go_enter Try.func12, Try.ntmps12
  go_wp2
  go_loopw [1, 5] (fun a b wr => ∃ (i : Nat) (q : Int), i ≤ xs.length ∧ b = .int .i64 i ∧ a = .int .i64 q ∧ Hid (q = k + cntL ((xs.take i).flatMap eInt)) ∧ Hid (MkI eInt xs k w wr (.slice A xs.length c) fp i)) (fun a b wr => xs.length - (intOf b).toNat)
  case atStart => exact ⟨0, k, by omega, rfl, rfl, by simp [cntL_nil, Hid], HS⟩
  case round =>
    obtain ⟨i, q, hi, rfl, rfl, HQ, HI⟩ := hrel
    by_cases hlt : i < xs.length
    · obtain ⟨x, hx⟩ : ∃ x, xs[i]? = some x := ⟨xs[i], List.getElem?_eq_getElem hlt⟩
      obtain ⟨g, c', up, ur, uo, fa, fr, fo, hv, O⟩ := HI.out.open_ len_eInt HND.out hx
      injection hv with hv1 hv2 hv3
      subst hv1; subst hv3
      have hq := HQ.out
      have hq1 := cnt_step eInt xs i x hx
      have hq2 := cnt_take_le eInt xs (i+1)
      have hq3 := cnt_eInt x
      have hq0 : 0 ≤ q := by omega
      have hqx : q + cntL (eInt x) ≤ 4611686018427387904 := by omega
      have hq9 : q + 1 ≤ 4611686018427387904 := by omega
      obtain ⟨rfl, hfr⟩ := own_eInt O.mid
      obtain ⟨h0, g0⟩ := O.cell 0 _ rfl
      rw [Nat.mul_one, Nat.add_zero] at h0 g0
      have HX := Lib.hid hx
      have HO := Lib.hid O
      have HF := Lib.hid hfr
      have HC := Lib.hid hqx
      have HQ2 : Hid (q + 1 = k + cntL ((xs.take (i+1)).flatMap eInt)) := by unfold Hid; omega
      clear hx O hq hq1 hq2 hq3 hv2 hfr HI HS hqx
      go_wp2
      go_roundw
      case rel =>
        have hst := HO.out.closeRow (by rw [← HQ.out]; exact mkownm_eInt q hq0 HC.out) HF.out rfl
        rw [Nat.mul_one] at hst
        exact ⟨i + 1, _, by omega, by go_num, rfl, HQ2, hst⟩
      case measure => simp [intOf]; omega
    · have : i = xs.length := by omega
      subst this
      have hq := HQ.out
      rw [List.take_length] at hq
      have HQ2 := Lib.hid hq
      clear hq
      go_wp2
      go_ret
      exact ⟨_, rfl, HQ2.out, HI.out.finish⟩

set_option maxHeartbeats 800000 in
set_option maxRecDepth 100000 in
theorem heldIntS_calls (xs : List Int) (v : Value) (k : Int) (w : World) (hr : RdW w (.s xs.length (mkL (xs.flatMap eInt) k)) v) (hk0 : 0 ≤ k) (hk1 : k + cntL (xs.flatMap eInt) ≤ 4611686018427387904) :
    Calls Try.prog 13 #[v, .int .i64 k] w fun e w' => ∃ r : Int, e = .returned (.int .i64 r) ∧ r = k + cntL (xs.flatMap eInt) ∧ Below w.heap.size w w' := by
  obtain ⟨A, c, rfl, ⟨_, _, hl⟩⟩ := hr.slice
  have HR := Lib.hid hr
  clear hr
  go_enter Try.func13, Try.ntmps13
  go_wp2
  go_loopw [1, 5] (fun a b wr => ∃ (i : Nat) (q : Int), i ≤ xs.length ∧ b = .int .i64 i ∧ a = .int .i64 q ∧ Hid (q = k + cntL ((xs.take i).flatMap eInt)) ∧ Hid (Below w.heap.size w wr)) (fun a b wr => xs.length - (intOf b).toNat)
  case atStart => exact ⟨0, k, by omega, rfl, rfl, by simp [cntL_nil, Hid], Below.refl _ w⟩
  case round =>
    obtain ⟨i, q, hi, rfl, rfl, HQ, HB⟩ := hrel
    by_cases hlt : i < xs.length
    · obtain ⟨x, hx⟩ : ∃ x, xs[i]? = some x := ⟨xs[i], List.getElem?_eq_getElem hlt⟩
      obtain ⟨ad, ys, rfl, hadb, hr, hc⟩ := RdW.atMk len_eInt (HR.out.below HB.out) hx
      have hq := HQ.out
      have hq1 := cnt_step eInt xs i x hx
      have hq2 := cnt_take_le eInt xs (i+1)
      have hq3 := cnt_eInt x
      have hq0 : 0 ≤ q := by omega
      have hqx : q + cntL (eInt x) ≤ 4611686018427387904 := by omega
      rw [← hq] at hr
      obtain rfl := rdm_eInt q hq0 hqx hr
      have h0 := hc 0 _ rfl
      rw [Nat.mul_one, Nat.add_zero] at h0
      have hq9 : q + 1 ≤ 4611686018427387904 := by omega
      have HX := Lib.hid hx
      have HQ2 : Hid (q + 1 = k + cntL ((xs.take (i+1)).flatMap eInt)) := by unfold Hid; omega
      clear hx hq hq1 hq2 hq3 hqx hr hc
      go_wp2
      go_roundw
      case rel => exact ⟨i + 1, _, by omega, by go_num, rfl, HQ2, HB⟩
      case measure => simp [intOf]; omega
    · have : i = xs.length := by omega
      subst this
      have hq := HQ.out
      rw [List.take_length] at hq
      have HQ2 := Lib.hid hq
      clear hq
      go_wp2
      go_ret
      exact ⟨_, rfl, HQ2.out, HB.out⟩

set_option maxHeartbeats 800000 in
set_option maxRecDepth 100000 in
theorem toValue_calls (us : List Value) (x : GValue) (w : World) (hr : RdLW w (eValue x) us) :
    Calls Try.prog 33 #[.agg us.toArray] w fun e w' => ∃ us' fp, e = .returned (.agg us'.toArray) ∧ OwnL w' (eValue x) us' fp ∧ Fresh w fp ∧ Below w.heap.size w w' := by
  obtain rfl := rd_eValue hr
  go_enter Try.func33, Try.ntmps33
  go_wp2
  refine bodyPost_ret (v := .agg #[.int .i64 x.Kind, .int .i64 x.N]) (by simp [results, Try.results33, go_sem]) rfl ⟨_, _, rfl, mkown_eValue, Fresh.nil _, ?_⟩
  exact (((Below.refl _ _).alloc (Nat.le_refl _) _).alloc (by simp) _).alloc (by simp; omega) _

set_option maxHeartbeats 800000 in
set_option maxRecDepth 100000 in
theorem toValueS_calls (xs : List GValue) (v : Value) (w : World) (hr : RdW w (.s xs.length (xs.flatMap eValue)) v) (hn : xs.length ≤ 1048576) :
    Calls Try.prog 32 #[v] w fun e w' => ∃ v' fp, e = .returned v' ∧ Own w' (.s xs.length (xs.flatMap eValue)) v' fp ∧ Fresh w fp ∧ Below w.heap.size w w' := by
  obtain ⟨A, c, rfl, ⟨_, _, hl⟩⟩ := hr.slice
  have HR := Lib.hid hr
  clear hr
  have hn1 : xs.length ≤ 1048576 := by omega
  obtain ⟨cs0, hcs, hmk⟩ := run_make_any (P := Try.prog) 32 33 16 2 Try.underlying32 ⟨_, _, rfl, rfl, rfl, rfl⟩ xs.length (by omega) (by omega)
  have HCS := Lib.hid hcs
  clear hcs
  go_enter Try.func32, Try.ntmps32
  go_wp2
  go_loopw [4] (fun a wr => ∃ i : Nat, i ≤ xs.length ∧ a = .int .i64 i ∧ w.heap.size < wr.heap.size ∧ Hid (ToI eValue 2 xs w wr i)) (fun a wr => xs.length - (intOf a).toNat)
  case atStart => exact ⟨0, by omega, rfl, by simp, ToI.start HCS.out⟩
  case round =>
    obtain ⟨i, hi, rfl, hgz, HI⟩ := hrel
    by_cases hlt : i < xs.length
    · obtain ⟨x, hx⟩ : ∃ x, xs[i]? = some x := ⟨xs[i], List.getElem?_eq_getElem hlt⟩
      obtain ⟨ad, rfl, hadb, h0, h1⟩ := row_eValue (HR.out.below HI.out.below) hx
      have HX := Lib.hid hx
      clear hx
      go_wp2_with fail
      refine (toValue_calls _ x _ (mkrd_eValue)).mono ?_
      rintro e w1 ⟨us', fp', rfl, ho, hf, hb1⟩
      have HB1 := Lib.hid hb1
      have HO := Lib.hid ho
      have HF := Lib.hid hf
      obtain ⟨rfl, rfl⟩ := own_eValue ho
      clear ho hf hb1
      obtain ⟨y0, c0, q0⟩ := HI.out.get HB1.out 0 hlt (by omega)
      obtain ⟨y1, c1, q1⟩ := HI.out.get HB1.out 1 hlt (by omega)
      rw [Nat.add_zero] at c0 q0
      have hgz1 : w.heap.size < w1.heap.size := Nat.lt_of_lt_of_le hgz HB1.out.size
      go_wp2
      go_roundw
      case rel =>
        have hst := HI.out.step HX.out HB1.out len_eValue HO.out HF.out
        simp only [putRow, Nat.add_assoc, Nat.reduceAdd] at hst
        exact ⟨i + 1, by omega, by go_num, by simpa [World.setCell] using hgz1, hst⟩
      case measure => simp [intOf]; omega
    · have : i = xs.length := by omega
      subst this
      go_wp2
      go_ret
      obtain ⟨fp, ho, hf, hb⟩ := HI.out.finish hn1
      exact ⟨_, fp, rfl, ho, hf, hb⟩

set_option maxHeartbeats 800000 in
set_option maxRecDepth 100000 in
theorem eqValue_calls (us us' : List Value) (x : GValue) (w : World) (hr : RdLW w (eValue x) us) (hr' : RdLW w (eValue x) us') :
    Calls Try.prog 39 #[.agg us.toArray, .agg us'.toArray] w fun e w' => e = .returned (.bool true) ∧ Below w.heap.size w w' := by
  obtain rfl := rd_eValue hr
  obtain rfl := rd_eValue hr'
  clear hr hr'
  go_enter Try.func39, Try.ntmps39
  go_wp2
  go_ret
  exact ⟨rfl, ((Below.refl _ _).alloc (Nat.le_refl _) _).alloc (by simp) _⟩

set_option maxHeartbeats 800000 in
set_option maxRecDepth 100000 in
theorem eqValueS_calls (xs : List GValue) (v v' : Value) (w : World) (hr : RdW w (.s xs.length (xs.flatMap eValue)) v) (hr' : RdW w (.s xs.length (xs.flatMap eValue)) v') :
    Calls Try.prog 38 #[v, v'] w fun e w' => e = .returned (.bool true) ∧ Below w.heap.size w w' := by
  obtain ⟨A, c, rfl, ⟨_, _, hl⟩⟩ := hr.slice
  obtain ⟨A', c', rfl, _⟩ := hr'.slice
  have HR := Lib.hid hr
  have HR' := Lib.hid hr'
  clear hr hr'
  go_enter Try.func38, Try.ntmps38
  go_wp2
  go_loopw [5] (fun a wr => ∃ i : Nat, i ≤ xs.length ∧ a = .int .i64 i ∧ Hid (Below w.heap.size w wr)) (fun a wr => xs.length - (intOf a).toNat)
  case atStart => exact ⟨0, by omega, rfl, Below.refl _ w⟩
  case round =>
    obtain ⟨i, hi, rfl, HB⟩ := hrel
    by_cases hlt : i < xs.length
    · obtain ⟨x, hx⟩ : ∃ x, xs[i]? = some x := ⟨xs[i], List.getElem?_eq_getElem hlt⟩
      obtain ⟨ad, rfl, hadb, h0, h1⟩ := row_eValue (HR.out.below HB.out) hx
      obtain ⟨ad', rfl, hadb', h0', h1'⟩ := row_eValue (HR'.out.below HB.out) hx
      have HX := Lib.hid hx
      clear hx
      go_wp2
      go_still_tail 8, (by kernel_rfl)
      change wpList _ _ _ _ _ wr.drew
      go_wp2_with fail
      refine (eqValue_calls _ _ x _ (mkrd_eValue) (mkrd_eValue)).mono ?_
      rintro e w1 ⟨rfl, hb1⟩
      have HB1 := Lib.hid hb1
      clear hb1
      go_wp2
      go_roundw
      case rel => exact ⟨i + 1, by omega, by go_num, HB.out.drew.trans (HB1.out.mono HB.out.drew.size)⟩
      case measure => simp [intOf]; omega
    · have : i = xs.length := by omega
      subst this
      go_wp2
      go_ret
      exact ⟨rfl, HB.out⟩

set_option maxHeartbeats 800000 in
set_option maxRecDepth 100000 in
theorem szValueS_calls (xs : List GValue) (v : Value) (left : Int) (w : World) (hr : RdW w (.s xs.length (xs.flatMap eValue)) v) (h0 : 0 ≤ left) (h1 : left ≤ 1048576) :
    Calls Try.prog 27 #[v, .int .i64 left] w fun e w' => ∃ r : Int, e = .returned (.int .i64 r) ∧ SzR r left (xs.length + sizL (xs.flatMap eValue)) ∧ Below w.heap.size w w' := by
  have hz : sizL (xs.flatMap eValue) = 0 := by
    have h2 : ∀ ys : List GValue, sizL (ys.flatMap eValue) = 0 := fun ys => by
      induction ys with
      | nil => exact sizL_nil
      | cons y ys ih => rw [List.flatMap_cons, sizL_append, ih, siz_eValue]
    exact h2 xs
  rw [hz, Nat.add_zero]
  clear hz
  obtain ⟨A, c, rfl, ⟨_, _, hl⟩⟩ := hr.slice
  clear hr
  by_cases hlt : left - xs.length < 0
  · go_enter Try.func27, Try.ntmps27
    go_wp2
    go_ret
    exact ⟨_, rfl, .inl rfl, Below.refl _ w⟩
  · go_enter Try.func27, Try.ntmps27
    go_wp2
    go_ret
    exact ⟨_, rfl, .inr ⟨rfl, by omega⟩, Below.refl _ w⟩

set_option maxHeartbeats 800000 in
set_option maxRecDepth 100000 in
theorem markValueS_calls (xs : List GValue) (v : Value) (k : Int) (fp : List Nat) (w : World) (ho : Own w (.s xs.length (xs.flatMap eValue)) v fp) (hnd : fp.Nodup) (hk0 : 0 ≤ k) (hk1 : k + cntL (xs.flatMap eValue) ≤ 4611686018427387904) :
    Calls Try.prog 42 #[v, .int .i64 k] w fun e w' => ∃ r : Int, e = .returned (.int .i64 r) ∧ r = k + cntL (xs.flatMap eValue) ∧ Own w' (.s xs.length (mkL (xs.flatMap eValue) k)) v fp ∧ Chg (· ∈ fp) w w' := by
  obtain ⟨A, c, rfl, ⟨_, _, hl⟩⟩ := ho.slice
  have HS := Lib.hid (MkI.start (k0 := k) ho)
  have HND := Lib.hid hnd
  clear ho hnd
  go_enter Try.func42, Try.ntmps42
  go_wp2
  go_loopw [1, 5] (fun a b wr => ∃ (i : Nat) (q : Int), i ≤ xs.length ∧ b = .int .i64 i ∧ a = .int .i64 q ∧ Hid (q = k + cntL ((xs.take i).flatMap eValue)) ∧ Hid (MkI eValue xs k w wr (.slice A xs.length c) fp i)) (fun a b wr => xs.length - (intOf b).toNat)
  case atStart => exact ⟨0, k, by omega, rfl, rfl, by simp [cntL_nil, Hid], HS⟩
  case round =>
    obtain ⟨i, q, hi, rfl, rfl, HQ, HI⟩ := hrel
    by_cases hlt : i < xs.length
    · obtain ⟨x, hx⟩ : ∃ x, xs[i]? = some x := ⟨xs[i], List.getElem?_eq_getElem hlt⟩
      obtain ⟨g, c', up, ur, uo, fa, fr, fo, hv, O⟩ := HI.out.open_ len_eValue HND.out hx
      injection hv with hv1 hv2 hv3
      subst hv1; subst hv3
      have hq := HQ.out
      have hq1 := cnt_step eValue xs i x hx
      have hq2 := cnt_take_le eValue xs (i+1)
      have hq3 := cnt_eValue x
      have hq0 : 0 ≤ q := by omega
      have hqx : q + cntL (eValue x) ≤ 4611686018427387904 := by omega
      have hq9 : q + 2 ≤ 4611686018427387904 := by omega
      obtain ⟨rfl, hfr⟩ := own_eValue O.mid
      obtain ⟨h0, g0⟩ := O.cell 0 _ rfl
      obtain ⟨h1, g1⟩ := O.cell 1 _ rfl
      rw [Nat.add_zero] at h0 g0
      have HX := Lib.hid hx
      have HO := Lib.hid O
      have HF := Lib.hid hfr
      have HC := Lib.hid hqx
      have HQ2 : Hid (q + 1 + 1 = k + cntL ((xs.take (i+1)).flatMap eValue)) := by unfold Hid; omega
      clear hx O hq hq1 hq2 hq3 hv2 hfr HI HS hqx
      go_wp2
      go_roundw
      case rel =>
        have hst := HO.out.closeRow (by rw [← HQ.out]; exact mkownm_eValue q hq0 HC.out) HF.out rfl
        exact ⟨i + 1, _, by omega, by go_num, rfl, HQ2, hst⟩
      case measure => simp [intOf]; omega
    · have : i = xs.length := by omega
      subst this
      have hq := HQ.out
      rw [List.take_length] at hq
      have HQ2 := Lib.hid hq
      clear hq
      go_wp2
      go_ret
      exact ⟨_, rfl, HQ2.out, HI.out.finish⟩

set_option maxHeartbeats 800000 in
set_option maxRecDepth 100000 in
theorem toTag_calls (us : List Value) (x : GTag) (w : World) (hr : RdLW w (eTag x) us) :
    Calls Try.prog 84 #[.agg us.toArray] w fun e w' => ∃ us' fp, e = .returned (.agg us'.toArray) ∧ OwnL w' (eTag x) us' fp ∧ Fresh w fp ∧ Below w.heap.size w w' := by
  obtain rfl := rd_eTag hr
  go_enter Try.func84, Try.ntmps84
  go_wp2
  refine bodyPost_ret (v := .agg #[.int .i64 x.Vat, .int .i64 x.Entity, .int .i64 x.Seq]) (by simp [results, Try.results84, go_sem]) rfl ⟨_, _, rfl, mkown_eTag, Fresh.nil _, ?_⟩
  exact (((Below.refl _ _).alloc (Nat.le_refl _) _).alloc (by simp) _).alloc (by simp; omega) _

set_option maxHeartbeats 800000 in
set_option maxRecDepth 100000 in
theorem eqTag_calls (us us' : List Value) (x : GTag) (w : World) (hr : RdLW w (eTag x) us) (hr' : RdLW w (eTag x) us') :
    Calls Try.prog 85 #[.agg us.toArray, .agg us'.toArray] w fun e w' => e = .returned (.bool true) ∧ Below w.heap.size w w' := by
  obtain rfl := rd_eTag hr
  obtain rfl := rd_eTag hr'
  clear hr hr'
  go_enter Try.func85, Try.ntmps85
  go_wp2
  go_ret
  exact ⟨rfl, ((Below.refl _ _).alloc (Nat.le_refl _) _).alloc (by simp) _⟩

set_option maxHeartbeats 800000 in
set_option maxRecDepth 100000 in
theorem toAsker_calls (us : List Value) (x : GAsker) (w : World) (hr : RdLW w (eAsker x) us) :
    Calls Try.prog 65 #[.agg us.toArray] w fun e w' => ∃ us' fp, e = .returned (.agg us'.toArray) ∧ OwnL w' (eAsker x) us' fp ∧ Fresh w fp ∧ Below w.heap.size w w' := by
  obtain rfl := rd_eAsker hr
  go_enter Try.func65, Try.ntmps65
  go_wp2
  refine bodyPost_ret (v := .agg #[.int .i64 x.Peer, .int .i64 x.Question]) (by simp [results, Try.results65, go_sem]) rfl ⟨_, _, rfl, mkown_eAsker, Fresh.nil _, ?_⟩
  exact (((Below.refl _ _).alloc (Nat.le_refl _) _).alloc (by simp) _).alloc (by simp; omega) _

set_option maxHeartbeats 800000 in
set_option maxRecDepth 100000 in
theorem toAskerS_calls (xs : List GAsker) (v : Value) (w : World) (hr : RdW w (.s xs.length (xs.flatMap eAsker)) v) (hn : xs.length ≤ 1048576) :
    Calls Try.prog 35 #[v] w fun e w' => ∃ v' fp, e = .returned v' ∧ Own w' (.s xs.length (xs.flatMap eAsker)) v' fp ∧ Fresh w fp ∧ Below w.heap.size w w' := by
  obtain ⟨A, c, rfl, ⟨_, _, hl⟩⟩ := hr.slice
  have HR := Lib.hid hr
  clear hr
  have hn1 : xs.length ≤ 1048576 := by omega
  obtain ⟨cs0, hcs, hmk⟩ := run_make_any (P := Try.prog) 35 93 16 2 Try.underlying35 ⟨_, _, rfl, rfl, rfl, rfl⟩ xs.length (by omega) (by omega)
  have HCS := Lib.hid hcs
  clear hcs
  go_enter Try.func35, Try.ntmps35
  go_wp2
  go_loopw [4] (fun a wr => ∃ i : Nat, i ≤ xs.length ∧ a = .int .i64 i ∧ w.heap.size < wr.heap.size ∧ Hid (ToI eAsker 2 xs w wr i)) (fun a wr => xs.length - (intOf a).toNat)
  case atStart => exact ⟨0, by omega, rfl, by simp, ToI.start HCS.out⟩
  case round =>
    obtain ⟨i, hi, rfl, hgz, HI⟩ := hrel
    by_cases hlt : i < xs.length
    · obtain ⟨x, hx⟩ : ∃ x, xs[i]? = some x := ⟨xs[i], List.getElem?_eq_getElem hlt⟩
      obtain ⟨ad, rfl, hadb, h0, h1⟩ := row_eAsker (HR.out.below HI.out.below) hx
      have HX := Lib.hid hx
      clear hx
      go_wp2_with fail
      refine (toAsker_calls _ x _ (mkrd_eAsker)).mono ?_
      rintro e w1 ⟨us', fp', rfl, ho, hf, hb1⟩
      have HB1 := Lib.hid hb1
      have HO := Lib.hid ho
      have HF := Lib.hid hf
      obtain ⟨rfl, rfl⟩ := own_eAsker ho
      clear ho hf hb1
      obtain ⟨y0, c0, q0⟩ := HI.out.get HB1.out 0 hlt (by omega)
      obtain ⟨y1, c1, q1⟩ := HI.out.get HB1.out 1 hlt (by omega)
      rw [Nat.add_zero] at c0 q0
      have hgz1 : w.heap.size < w1.heap.size := Nat.lt_of_lt_of_le hgz HB1.out.size
      go_wp2
      go_roundw
      case rel =>
        have hst := HI.out.step HX.out HB1.out len_eAsker HO.out HF.out
        simp only [putRow, Nat.add_assoc, Nat.reduceAdd] at hst
        exact ⟨i + 1, by omega, by go_num, by simpa [World.setCell] using hgz1, hst⟩
      case measure => simp [intOf]; omega
    · have : i = xs.length := by omega
      subst this
      go_wp2
      go_ret
      obtain ⟨fp, ho, hf, hb⟩ := HI.out.finish hn1
      exact ⟨_, fp, rfl, ho, hf, hb⟩

set_option maxHeartbeats 800000 in
set_option maxRecDepth 100000 in
theorem eqAsker_calls (us us' : List Value) (x : GAsker) (w : World) (hr : RdLW w (eAsker x) us) (hr' : RdLW w (eAsker x) us') :
    Calls Try.prog 67 #[.agg us.toArray, .agg us'.toArray] w fun e w' => e = .returned (.bool true) ∧ Below w.heap.size w w' := by
  obtain rfl := rd_eAsker hr
  obtain rfl := rd_eAsker hr'
  clear hr hr'
  go_enter Try.func67, Try.ntmps67
  go_wp2
  go_ret
  exact ⟨rfl, ((Below.refl _ _).alloc (Nat.le_refl _) _).alloc (by simp) _⟩

set_option maxHeartbeats 800000 in
set_option maxRecDepth 100000 in
theorem eqAskerS_calls (xs : List GAsker) (v v' : Value) (w : World) (hr : RdW w (.s xs.length (xs.flatMap eAsker)) v) (hr' : RdW w (.s xs.length (xs.flatMap eAsker)) v') :
    Calls Try.prog 41 #[v, v'] w fun e w' => e = .returned (.bool true) ∧ Below w.heap.size w w' := by
  obtain ⟨A, c, rfl, ⟨_, _, hl⟩⟩ := hr.slice
  obtain ⟨A', c', rfl, _⟩ := hr'.slice
  have HR := Lib.hid hr
  have HR' := Lib.hid hr'
  clear hr hr'
  go_enter Try.func41, Try.ntmps41
  go_wp2
  go_loopw [5] (fun a wr => ∃ i : Nat, i ≤ xs.length ∧ a = .int .i64 i ∧ Hid (Below w.heap.size w wr)) (fun a wr => xs.length - (intOf a).toNat)
  case atStart => exact ⟨0, by omega, rfl, Below.refl _ w⟩
  case round =>
    obtain ⟨i, hi, rfl, HB⟩ := hrel
    by_cases hlt : i < xs.length
    · obtain ⟨x, hx⟩ : ∃ x, xs[i]? = some x := ⟨xs[i], List.getElem?_eq_getElem hlt⟩
      obtain ⟨ad, rfl, hadb, h0, h1⟩ := row_eAsker (HR.out.below HB.out) hx
      obtain ⟨ad', rfl, hadb', h0', h1'⟩ := row_eAsker (HR'.out.below HB.out) hx
      have HX := Lib.hid hx
      clear hx
      go_wp2
      go_still_tail 8, (by kernel_rfl)
      change wpList _ _ _ _ _ wr.drew
      go_wp2_with fail
      refine (eqAsker_calls _ _ x _ (mkrd_eAsker) (mkrd_eAsker)).mono ?_
      rintro e w1 ⟨rfl, hb1⟩
      have HB1 := Lib.hid hb1
      clear hb1
      go_wp2
      go_roundw
      case rel => exact ⟨i + 1, by omega, by go_num, HB.out.drew.trans (HB1.out.mono HB.out.drew.size)⟩
      case measure => simp [intOf]; omega
    · have : i = xs.length := by omega
      subst this
      go_wp2
      go_ret
      exact ⟨rfl, HB.out⟩

set_option maxHeartbeats 800000 in
set_option maxRecDepth 100000 in
theorem szAskerS_calls (xs : List GAsker) (v : Value) (left : Int) (w : World) (hr : RdW w (.s xs.length (xs.flatMap eAsker)) v) (h0 : 0 ≤ left) (h1 : left ≤ 1048576) :
    Calls Try.prog 29 #[v, .int .i64 left] w fun e w' => ∃ r : Int, e = .returned (.int .i64 r) ∧ SzR r left (xs.length + sizL (xs.flatMap eAsker)) ∧ Below w.heap.size w w' := by
  have hz : sizL (xs.flatMap eAsker) = 0 := by
    have h2 : ∀ ys : List GAsker, sizL (ys.flatMap eAsker) = 0 := fun ys => by
      induction ys with
      | nil => exact sizL_nil
      | cons y ys ih => rw [List.flatMap_cons, sizL_append, ih, siz_eAsker]
    exact h2 xs
  rw [hz, Nat.add_zero]
  clear hz
  obtain ⟨A, c, rfl, ⟨_, _, hl⟩⟩ := hr.slice
  clear hr
  by_cases hlt : left - xs.length < 0
  · go_enter Try.func29, Try.ntmps29
    go_wp2
    go_ret
    exact ⟨_, rfl, .inl rfl, Below.refl _ w⟩
  · go_enter Try.func29, Try.ntmps29
    go_wp2
    go_ret
    exact ⟨_, rfl, .inr ⟨rfl, by omega⟩, Below.refl _ w⟩

set_option maxHeartbeats 800000 in
set_option maxRecDepth 100000 in
theorem markAskerS_calls (xs : List GAsker) (v : Value) (k : Int) (fp : List Nat) (w : World) (ho : Own w (.s xs.length (xs.flatMap eAsker)) v fp) (hnd : fp.Nodup) (hk0 : 0 ≤ k) (hk1 : k + cntL (xs.flatMap eAsker) ≤ 4611686018427387904) :
    Calls Try.prog 44 #[v, .int .i64 k] w fun e w' => ∃ r : Int, e = .returned (.int .i64 r) ∧ r = k + cntL (xs.flatMap eAsker) ∧ Own w' (.s xs.length (mkL (xs.flatMap eAsker) k)) v fp ∧ Chg (· ∈ fp) w w' := by
  obtain ⟨A, c, rfl, ⟨_, _, hl⟩⟩ := ho.slice
  have HS := Lib.hid (MkI.start (k0 := k) ho)
  have HND := Lib.hid hnd
  clear ho hnd
  go_enter Try.func44, Try.ntmps44
  go_wp2
  go_loopw [1, 5] (fun a b wr => ∃ (i : Nat) (q : Int), i ≤ xs.length ∧ b = .int .i64 i ∧ a = .int .i64 q ∧ Hid (q = k + cntL ((xs.take i).flatMap eAsker)) ∧ Hid (MkI eAsker xs k w wr (.slice A xs.length c) fp i)) (fun a b wr => xs.length - (intOf b).toNat)
  case atStart => exact ⟨0, k, by omega, rfl, rfl, by simp [cntL_nil, Hid], HS⟩
  case round =>
    obtain ⟨i, q, hi, rfl, rfl, HQ, HI⟩ := hrel
    by_cases hlt : i < xs.length
    · obtain ⟨x, hx⟩ : ∃ x, xs[i]? = some x := ⟨xs[i], List.getElem?_eq_getElem hlt⟩
      obtain ⟨g, c', up, ur, uo, fa, fr, fo, hv, O⟩ := HI.out.open_ len_eAsker HND.out hx
      injection hv with hv1 hv2 hv3
      subst hv1; subst hv3
      have hq := HQ.out
      have hq1 := cnt_step eAsker xs i x hx
      have hq2 := cnt_take_le eAsker xs (i+1)
      have hq3 := cnt_eAsker x
      have hq0 : 0 ≤ q := by omega
      have hqx : q + cntL (eAsker x) ≤ 4611686018427387904 := by omega
      have hq9 : q + 2 ≤ 4611686018427387904 := by omega
      obtain ⟨rfl, hfr⟩ := own_eAsker O.mid
      obtain ⟨h0, g0⟩ := O.cell 0 _ rfl
      obtain ⟨h1, g1⟩ := O.cell 1 _ rfl
      rw [Nat.add_zero] at h0 g0
      have HX := Lib.hid hx
      have HO := Lib.hid O
      have HF := Lib.hid hfr
      have HC := Lib.hid hqx
      have HQ2 : Hid (q + 1 + 1 = k + cntL ((xs.take (i+1)).flatMap eAsker)) := by unfold Hid; omega
      clear hx O hq hq1 hq2 hq3 hv2 hfr HI HS hqx
      go_wp2
      go_roundw
      case rel =>
        have hst := HO.out.closeRow (by rw [← HQ.out]; exact mkownm_eAsker q hq0 HC.out) HF.out rfl
        exact ⟨i + 1, _, by omega, by go_num, rfl, HQ2, hst⟩
      case measure => simp [intOf]; omega
    · have : i = xs.length := by omega
      subst this
      have hq := HQ.out
      rw [List.take_length] at hq
      have HQ2 := Lib.hid hq
      clear hq
      go_wp2
      go_ret
      exact ⟨_, rfl, HQ2.out, HI.out.finish⟩

set_option maxHeartbeats 800000 in
set_option maxRecDepth 100000 in
theorem toSent_calls (us : List Value) (x : GSent) (w : World) (hr : RdLW w (eSent x) us) (hz : sizL (eSent x) ≤ 1048576) :
    Calls Try.prog 64 #[.agg us.toArray] w fun e w' => ∃ us' fp, e = .returned (.agg us'.toArray) ∧ OwnL w' (eSent x) us' fp ∧ Fresh w fp ∧ Below w.heap.size w w' := by
  rw [siz_eSent] at hz
  obtain ⟨v2, rfl, h2⟩ := rd_eSent hr
  clear hr
  have H2 := Lib.hid h2
  clear h2
  go_enter Try.func64, Try.ntmps64
  go_wp2_with fail
  refine (toValueS_calls _ _ _ (H2.out.below ?hbel1) (by omega)).mono ?_
  case hbel1 => exact ((((Below.refl _ _).alloc (Nat.le_refl _) _).alloc (by simp) _).alloc (by simp; omega) _)
  rintro e w1 ⟨u2, f2, rfl, o2, n2, hb1⟩
  obtain ⟨A2, c2, rfl, _⟩ := o2.slice
  have Z1 := Lib.hid hb1
  have S1 : w.heap.size + 3 ≤ w1.heap.size := by have h := hb1.size; simp only [size_set, size_alloc] at h; omega
  have hz1_0 : w.heap.size < w1.heap.size := by omega
  have hz1_1 : w.heap.size + 1 < w1.heap.size := by omega
  have hz1_2 : w.heap.size + 1 + 1 < w1.heap.size := by omega
  have B1 : Hid (Below w.heap.size w w1) := by
    refine Below.trans ?_ (hb1.mono (by simp only [size_set, size_alloc]; omega))
    exact ((((Below.refl _ _).alloc (Nat.le_refl _) _).alloc (by simp) _).alloc (by simp; omega) _)
  have KA1 : Hid (Blk w1 (w.heap.size) 98 #[.int .i64 x.Target, .string x.Name, v2, .int .i64 x.Result, .int .i64 x.Tag.Vat, .int .i64 x.Tag.Entity, .int .i64 x.Tag.Seq]) := by
    refine Blk.below ?_ hb1
    exact ((Blk.made rfl).alloc _).alloc _
  have KO1 : Hid (Blk w1 (w.heap.size + 1 + 1) 71 #[.int .i64 x.Target, .string x.Name, .slice none 0 0, .int .i64 0, .int .i64 0, .int .i64 0, .int .i64 0]) := by
    refine Blk.below ?_ hb1
    exact Blk.made (by simp)
  have KR1 : Hid (Blk w1 (w.heap.size + 1) 71 #[.int .i64 0, .string ⟨#[]⟩, .slice none 0 0, .int .i64 0, .int .i64 0, .int .i64 0, .int .i64 0]) := by
    refine Blk.below ?_ hb1
    exact (Blk.made (by simp)).alloc _
  obtain ⟨ca1, fa1⟩ := KA1.out.rules
  obtain ⟨co1, fo1⟩ := KO1.out.rules
  obtain ⟨cr1, fr1⟩ := KR1.out.rules
  clear hb1
  go_wp2_with fail
  refine (toTag_calls _ x.Tag _ (mkrd_eTag)).mono ?_
  rintro e w2 ⟨us4, f4, rfl, o4, n4, hb2⟩
  obtain ⟨rfl, rfl⟩ := own_eTag o4
  have Z2 := Lib.hid hb2
  have S2 : w1.heap.size ≤ w2.heap.size := by have h := hb2.size; simp only [size_set, size_alloc] at h; omega
  have hz2_0 : w.heap.size < w2.heap.size := by omega
  have hz2_1 : w.heap.size + 1 < w2.heap.size := by omega
  have hz2_2 : w.heap.size + 1 + 1 < w2.heap.size := by omega
  have B2 : Hid (Below w.heap.size w w2) := by
    refine Below.trans ?_ (hb2.mono (by simp only [size_set, size_alloc]; omega))
    exact ((B1.out.setCell (by dsimp only; omega) _).setCell (by dsimp only; omega) _)
  have KA2 : Hid (Blk w2 (w.heap.size) 98 #[.int .i64 x.Target, .string x.Name, v2, .int .i64 x.Result, .int .i64 x.Tag.Vat, .int .i64 x.Tag.Entity, .int .i64 x.Tag.Seq]) := by
    refine Blk.below ?_ hb2
    exact ((KA1.out.far (by dsimp only; omega) _).far (by dsimp only; omega) _)
  have KO2 : Hid (Blk w2 (w.heap.size + 1 + 1) 71 #[.int .i64 x.Target, .string x.Name, .slice A2 x.Args.length c2, .int .i64 x.Result, .int .i64 0, .int .i64 0, .int .i64 0]) := by
    refine Blk.below ?_ hb2
    exact Blk.eq ((KO1.out.set_ 2 _).set_ 3 _) (by simp)
  have KR2 : Hid (Blk w2 (w.heap.size + 1) 71 #[.int .i64 0, .string ⟨#[]⟩, .slice none 0 0, .int .i64 0, .int .i64 0, .int .i64 0, .int .i64 0]) := by
    refine Blk.below ?_ hb2
    exact ((KR1.out.far (by dsimp only; omega) _).far (by dsimp only; omega) _)
  obtain ⟨ca2, fa2⟩ := KA2.out.rules
  obtain ⟨co2, fo2⟩ := KO2.out.rules
  obtain ⟨cr2, fr2⟩ := KR2.out.rules
  clear hb2
  have O2 := Lib.hid o2
  clear o2
  have N2 := Lib.hid n2
  clear n2
  go_wp2
  refine post_cell (w0 := w2) (fun g => w.heap.size ≤ g ∧ g < w.heap.size + 3) Try.results64 (w.heap.size + 1) #[.int .i64 x.Target, .string x.Name, .slice A2 x.Args.length c2, .int .i64 x.Result, .int .i64 x.Tag.Vat, .int .i64 x.Tag.Entity, .int .i64 x.Tag.Seq] _ rfl (Blk.eq ((((((((((KR2.out.far (by dsimp only; omega) _).far (by dsimp only; omega) _).far (by dsimp only; omega) _).set_ 0 _).set_ 1 _).set_ 2 _).set_ 3 _).set_ 4 _).set_ 5 _).set_ 6 _) (by simp)) Try.underlying71 rfl (by kernel_rfl) rfl (((((((((((Chg.refl _ _).setCell (.inl (by dsimp only; omega)) _).setCell (.inl (by dsimp only; omega)) _).setCell (.inl (by dsimp only; omega)) _).setCell (.inl (by dsimp only; omega)) _).setCell (.inl (by dsimp only; omega)) _).setCell (.inl (by dsimp only; omega)) _).setCell (.inl (by dsimp only; omega)) _).setCell (.inl (by dsimp only; omega)) _).setCell (.inl (by dsimp only; omega)) _).setCell (.inl (by dsimp only; omega)) _) ?_
  intro W hW
  have F2 : ∀ g, g ∈ f2 → w.heap.size + 2 < g := fun g hg => by have h1 := N2.out.2 g hg; simp only [size_set, size_alloc] at h1; omega
  have P2 := (Own.below (Own.chg O2.out (T := fun g => w.heap.size ≤ g ∧ g < w.heap.size + 3) (((Chg.refl _ _).setCell (.inl (by dsimp only; omega)) _).setCell (.inl (by dsimp only; omega)) _) (fun g hg => by have := F2 g hg; show ¬ (_ ∧ _); omega)) Z2.out)
  refine ⟨_, _, rfl, mkown_eSent (P2.chg hW (fun g hg => by have := F2 g hg; show ¬ (_ ∧ _); omega)), ?_, ?_⟩
  · skip
    have V2 : Fresh w f2 := N2.out.mono (by simp only [size_set, size_alloc]; omega)
    have L2 : ∀ g, g ∈ f2 → g < w1.heap.size := Own.lt _ _ _ O2.out
    exact V2
  · exact below_chg B2.out hW B2.out.size (fun i hi => hi.1)

set_option maxHeartbeats 800000 in
set_option maxRecDepth 100000 in
theorem toSentS_calls (xs : List GSent) (v : Value) (w : World) (hr : RdW w (.s xs.length (xs.flatMap eSent)) v) (hn : xs.length + sizL (xs.flatMap eSent) ≤ 1048576) :
    Calls Try.prog 34 #[v] w fun e w' => ∃ v' fp, e = .returned v' ∧ Own w' (.s xs.length (xs.flatMap eSent)) v' fp ∧ Fresh w fp ∧ Below w.heap.size w w' := by
  obtain ⟨A, c, rfl, ⟨_, _, hl⟩⟩ := hr.slice
  have HR := Lib.hid hr
  clear hr
  have hn1 : xs.length ≤ 1048576 := by omega
  obtain ⟨cs0, hcs, hmk⟩ := run_make_any (P := Try.prog) 34 71 80 7 Try.underlying34 ⟨_, _, rfl, rfl, rfl, rfl⟩ xs.length (by omega) (by omega)
  have HCS := Lib.hid hcs
  clear hcs
  go_enter Try.func34, Try.ntmps34
  go_wp2
  go_loopw [4] (fun a wr => ∃ i : Nat, i ≤ xs.length ∧ a = .int .i64 i ∧ w.heap.size < wr.heap.size ∧ Hid (ToI eSent 7 xs w wr i)) (fun a wr => xs.length - (intOf a).toNat)
  case atStart => exact ⟨0, by omega, rfl, by simp, ToI.start HCS.out⟩
  case round =>
    obtain ⟨i, hi, rfl, hgz, HI⟩ := hrel
    by_cases hlt : i < xs.length
    · obtain ⟨x, hx⟩ : ∃ x, xs[i]? = some x := ⟨xs[i], List.getElem?_eq_getElem hlt⟩
      obtain ⟨ad, v2, rfl, hadb, h0, h1, h2, h3, h4, h5, h6, k2⟩ := row_eSent (HR.out.below HI.out.below) hx
      have hzx : sizL (eSent x) ≤ 1048576 := by have := sizL_flat_le eSent xs x (List.mem_of_getElem? hx); omega
      have HX := Lib.hid hx
      clear hx
      go_wp2_with fail
      refine (toSent_calls _ x _ (mkrd_eSent k2) hzx).mono ?_
      rintro e w1 ⟨us', fp', rfl, ho, hf, hb1⟩
      have HB1 := Lib.hid hb1
      have HO := Lib.hid ho
      have HF := Lib.hid hf
      obtain ⟨b2, f2, rfl, rfl, o2⟩ := own_eSent ho
      obtain ⟨A2_, c2_, rfl, -⟩ := o2.slice
      clear ho hf hb1 o2
      obtain ⟨y0, c0, q0⟩ := HI.out.get HB1.out 0 hlt (by omega)
      obtain ⟨y1, c1, q1⟩ := HI.out.get HB1.out 1 hlt (by omega)
      obtain ⟨y2, c2, q2⟩ := HI.out.get HB1.out 2 hlt (by omega)
      obtain ⟨y3, c3, q3⟩ := HI.out.get HB1.out 3 hlt (by omega)
      obtain ⟨y4, c4, q4⟩ := HI.out.get HB1.out 4 hlt (by omega)
      obtain ⟨y5, c5, q5⟩ := HI.out.get HB1.out 5 hlt (by omega)
      obtain ⟨y6, c6, q6⟩ := HI.out.get HB1.out 6 hlt (by omega)
      rw [Nat.add_zero] at c0 q0
      have hgz1 : w.heap.size < w1.heap.size := Nat.lt_of_lt_of_le hgz HB1.out.size
      go_wp2
      go_roundw
      case rel =>
        have hst := HI.out.step HX.out HB1.out len_eSent HO.out HF.out
        simp only [putRow, Nat.add_assoc, Nat.reduceAdd] at hst
        exact ⟨i + 1, by omega, by go_num, by simpa [World.setCell] using hgz1, hst⟩
      case measure => simp [intOf]; omega
    · have : i = xs.length := by omega
      subst this
      go_wp2
      go_ret
      obtain ⟨fp, ho, hf, hb⟩ := HI.out.finish hn1
      exact ⟨_, fp, rfl, ho, hf, hb⟩

set_option maxHeartbeats 800000 in
set_option maxRecDepth 100000 in
theorem eqSent_calls (us us' : List Value) (x : GSent) (w : World) (hr : RdLW w (eSent x) us) (hr' : RdLW w (eSent x) us') :
    Calls Try.prog 66 #[.agg us.toArray, .agg us'.toArray] w fun e w' => e = .returned (.bool true) ∧ Below w.heap.size w w' := by
  obtain ⟨v2, rfl, h2⟩ := rd_eSent hr
  obtain ⟨v2', rfl, h2'⟩ := rd_eSent hr'
  clear hr hr'
  have H2 := Lib.hid h2
  have H2' := Lib.hid h2'
  clear h2 h2'
  go_enter Try.func66, Try.ntmps66
  go_wp2_with fail
  refine (eqValueS_calls _ _ _ _ (H2.out.below (((Below.refl _ _).alloc (Nat.le_refl _) _).alloc (by simp) _)) (H2'.out.below (((Below.refl _ _).alloc (Nat.le_refl _) _).alloc (by simp) _))).mono ?_
  rintro e w1 ⟨rfl, hb1⟩
  have hz1_0 : w.heap.size < w1.heap.size := by have := hb1.size; simp at this; omega
  have hz1_1 : w.heap.size + 1 < w1.heap.size := by have := hb1.size; simp at this; omega
  have B1 : Hid (Below w.heap.size w w1) := (((Below.refl _ _).alloc (Nat.le_refl _) _).alloc (by simp) _).trans (hb1.mono (by first | (simp; done) | (simp; omega)))
  obtain ⟨hc1, hf1⟩ := bcell hb1
  clear hb1
  go_wp2_with fail
  refine (eqTag_calls _ _ x.Tag _ (mkrd_eTag) (mkrd_eTag)).mono ?_
  rintro e w2 ⟨rfl, hb2⟩
  have hz2_0 : w.heap.size < w2.heap.size := by have := hb2.size; have := hz1_0; omega
  have hz2_1 : w.heap.size + 1 < w2.heap.size := by have := hb2.size; have := hz1_1; omega
  have B2 : Hid (Below w.heap.size w w2) := B1.out.trans (hb2.mono (by omega))
  obtain ⟨hc2, hf2⟩ := bcell hb2
  clear hb2
  go_wp2
  go_ret
  exact ⟨rfl, B2.out⟩

set_option maxHeartbeats 800000 in
set_option maxRecDepth 100000 in
theorem eqSentS_calls (xs : List GSent) (v v' : Value) (w : World) (hr : RdW w (.s xs.length (xs.flatMap eSent)) v) (hr' : RdW w (.s xs.length (xs.flatMap eSent)) v') :
    Calls Try.prog 40 #[v, v'] w fun e w' => e = .returned (.bool true) ∧ Below w.heap.size w w' := by
  obtain ⟨A, c, rfl, ⟨_, _, hl⟩⟩ := hr.slice
  obtain ⟨A', c', rfl, _⟩ := hr'.slice
  have HR := Lib.hid hr
  have HR' := Lib.hid hr'
  clear hr hr'
  go_enter Try.func40, Try.ntmps40
  go_wp2
  go_loopw [5] (fun a wr => ∃ i : Nat, i ≤ xs.length ∧ a = .int .i64 i ∧ Hid (Below w.heap.size w wr)) (fun a wr => xs.length - (intOf a).toNat)
  case atStart => exact ⟨0, by omega, rfl, Below.refl _ w⟩
  case round =>
    obtain ⟨i, hi, rfl, HB⟩ := hrel
    by_cases hlt : i < xs.length
    · obtain ⟨x, hx⟩ : ∃ x, xs[i]? = some x := ⟨xs[i], List.getElem?_eq_getElem hlt⟩
      obtain ⟨ad, v2, rfl, hadb, h0, h1, h2, h3, h4, h5, h6, k2⟩ := row_eSent (HR.out.below HB.out) hx
      obtain ⟨ad', v2', rfl, hadb', h0', h1', h2', h3', h4', h5', h6', k2'⟩ := row_eSent (HR'.out.below HB.out) hx
      have HX := Lib.hid hx
      clear hx
      go_wp2
      go_still_tail 8, (by kernel_rfl)
      change wpList _ _ _ _ _ wr.drew
      go_wp2_with fail
      refine (eqSent_calls _ _ x _ (mkrd_eSent k2.drew) (mkrd_eSent k2'.drew)).mono ?_
      rintro e w1 ⟨rfl, hb1⟩
      have HB1 := Lib.hid hb1
      clear hb1
      go_wp2
      go_roundw
      case rel => exact ⟨i + 1, by omega, by go_num, HB.out.drew.trans (HB1.out.mono HB.out.drew.size)⟩
      case measure => simp [intOf]; omega
    · have : i = xs.length := by omega
      subst this
      go_wp2
      go_ret
      exact ⟨rfl, HB.out⟩

set_option maxHeartbeats 800000 in
set_option maxRecDepth 100000 in
theorem szSent_calls (us : List Value) (x : GSent) (left : Int) (w : World) (hr : RdLW w (eSent x) us) (hstr : StrOkL (eSent x)) (h0 : 0 ≤ left) (h1 : left ≤ 1048576) :
    Calls Try.prog 63 #[.agg us.toArray, .int .i64 left] w fun e w' => ∃ r : Int, e = .returned (.int .i64 r) ∧ SzR r left (sizL (eSent x)) ∧ Below w.heap.size w w' := by
  rw [siz_eSent]
  obtain ⟨v2, rfl, h2⟩ := rd_eSent hr
  clear hr
  have H2 := Lib.hid h2
  clear h2
  have t1 := str_eSent hstr
  clear hstr
  go_enter Try.func63, Try.ntmps63
  by_cases hl1 : left - x.Name.size < 0
  · go_wp2
    go_ret
    exact ⟨_, rfl, .inl rfl, ((Below.refl _ _).alloc (Nat.le_refl _) _)⟩
  have hm1 : 0 ≤ left - x.Name.size := by omega
  have hM1 : left - x.Name.size ≤ 1048576 := by omega
  go_wp2_with fail
  refine (szValueS_calls _ _ _ _ (H2.out.below ((Below.refl _ _).alloc (Nat.le_refl _) _)) (by omega) (by omega)).mono ?_
  rintro e w1 ⟨r2, rfl, hr2, hb1⟩
  have B1 : Blk w1 w.heap.size 98 #[.int .i64 x.Target, .string x.Name, v2, .int .i64 x.Result, .int .i64 x.Tag.Vat, .int .i64 x.Tag.Entity, .int .i64 x.Tag.Seq] := (Blk.new _ _ _).below hb1
  have D1 : Below w.heap.size w w1 := ((Below.refl _ _).alloc (Nat.le_refl _) _).trans (hb1.mono (by simp only [size_alloc]; omega))
  have HB1 := Lib.hid B1
  have HD1 := Lib.hid D1
  obtain ⟨cb1, fb1⟩ := B1.rules
  clear hb1 B1 D1
  rcases hr2 with rfl | ⟨hr2, hr2_0⟩
  · go_wp2
    go_ret
    exact ⟨_, rfl, .inl rfl, HD1.out⟩
  have hr2_9 : r2 ≤ 1048576 := by omega
  have HR2 := Lib.hid hr2
  clear hr2
  go_wp2
  go_ret
  exact ⟨_, rfl, .inr ⟨by have e2 := HR2.out; omega, by omega⟩, HD1.out⟩

set_option maxHeartbeats 800000 in
set_option maxRecDepth 100000 in
theorem szSentS_calls (xs : List GSent) (v : Value) (left : Int) (w : World) (hr : RdW w (.s xs.length (xs.flatMap eSent)) v) (hstr : StrOkL (xs.flatMap eSent)) (h0 : 0 ≤ left) (h1 : left ≤ 1048576) :
    Calls Try.prog 28 #[v, .int .i64 left] w fun e w' => ∃ r : Int, e = .returned (.int .i64 r) ∧ SzR r left (xs.length + sizL (xs.flatMap eSent)) ∧ Below w.heap.size w w' := by
  obtain ⟨A, c, rfl, ⟨_, _, hl⟩⟩ := hr.slice
  have HR := Lib.hid hr
  clear hr
  by_cases hlt : left - xs.length < 0
  · go_enter Try.func28, Try.ntmps28
    go_wp2
    go_ret
    exact ⟨_, rfl, .inl rfl, Below.refl _ w⟩
  · go_enter Try.func28, Try.ntmps28
    go_wp2
    go_loopw [1, 5] (fun a b wr => ∃ (i : Nat) (q : Int), i ≤ xs.length ∧ b = .int .i64 i ∧ a = .int .i64 q ∧ 0 ≤ q ∧ q ≤ 1048576 ∧ Hid (q = left - xs.length - sizL ((xs.take i).flatMap eSent)) ∧ Hid (Below w.heap.size w wr)) (fun a b wr => xs.length - (intOf b).toNat)
    case atStart => exact ⟨0, _, by omega, rfl, rfl, by omega, by omega, by simp [sizL_nil, Hid], Below.refl _ w⟩
    case round =>
      obtain ⟨i, q, hi, rfl, rfl, hq0, hq9, HQ, HB⟩ := hrel
      by_cases hlt : i < xs.length
      · obtain ⟨x, hx⟩ : ∃ x, xs[i]? = some x := ⟨xs[i], List.getElem?_eq_getElem hlt⟩
        obtain ⟨ad, v2, rfl, hadb, h0, h1, h2, h3, h4, h5, h6, k2⟩ := row_eSent (HR.out.below HB.out) hx
        have HX := Lib.hid hx
        clear hx
        go_wp2_with fail
        refine (szSent_calls _ x _ _ (mkrd_eSent k2) (StrOkL_mem hstr (List.mem_of_getElem? HX.out)) hq0 hq9).mono ?_
        rintro e w1 ⟨r, rfl, hr, hb1⟩
        have HB1 := Lib.hid hb1
        clear hb1
        have hq := HQ.out
        have hs1 := siz_step eSent xs i x HX.out
        have hs2 := siz_take_le eSent xs (i + 1)
        rcases hr with rfl | ⟨hr, hr0⟩
        · go_wp2
          go_ret
          exact ⟨_, rfl, .inl rfl, HB.out.trans (HB1.out.mono HB.out.size)⟩
        · have hr9 : r ≤ 1048576 := by omega
          have HQ2 : Hid (r = left - xs.length - sizL ((xs.take (i + 1)).flatMap eSent)) := by unfold Hid; omega
          clear hr hs1 hs2 hq
          go_wp2
          go_roundw
          case rel => exact ⟨i + 1, r, by omega, by go_num, rfl, hr0, hr9, HQ2, HB.out.trans (HB1.out.mono HB.out.size)⟩
          case measure => simp [intOf]; omega
      · have : i = xs.length := by omega
        subst this
        have hq := HQ.out
        rw [List.take_length] at hq
        have HQ2 := Lib.hid hq
        clear hq
        go_wp2
        go_ret
        exact ⟨_, rfl, .inr ⟨by have := HQ2.out; omega, hq0⟩, HB.out⟩

set_option maxHeartbeats 800000 in
set_option maxRecDepth 100000 in
theorem markSentS_calls (xs : List GSent) (v : Value) (k : Int) (fp : List Nat) (w : World) (ho : Own w (.s xs.length (xs.flatMap eSent)) v fp) (hnd : fp.Nodup) (hk0 : 0 ≤ k) (hk1 : k + cntL (xs.flatMap eSent) ≤ 4611686018427387904) :
    Calls Try.prog 43 #[v, .int .i64 k] w fun e w' => ∃ r : Int, e = .returned (.int .i64 r) ∧ r = k + cntL (xs.flatMap eSent) ∧ Own w' (.s xs.length (mkL (xs.flatMap eSent) k)) v fp ∧ Chg (· ∈ fp) w w' := by
  obtain ⟨A, c, rfl, ⟨_, _, hl⟩⟩ := ho.slice
  have HS := Lib.hid (MkI.start (k0 := k) ho)
  have HND := Lib.hid hnd
  clear ho hnd
  go_enter Try.func43, Try.ntmps43
  go_wp2
  go_loopw [1, 5] (fun a b wr => ∃ (i : Nat) (q : Int), i ≤ xs.length ∧ b = .int .i64 i ∧ a = .int .i64 q ∧ Hid (q = k + cntL ((xs.take i).flatMap eSent)) ∧ Hid (MkI eSent xs k w wr (.slice A xs.length c) fp i)) (fun a b wr => xs.length - (intOf b).toNat)
  case atStart => exact ⟨0, k, by omega, rfl, rfl, by simp [cntL_nil, Hid], HS⟩
  case round =>
    obtain ⟨i, q, hi, rfl, rfl, HQ, HI⟩ := hrel
    by_cases hlt : i < xs.length
    · obtain ⟨x, hx⟩ : ∃ x, xs[i]? = some x := ⟨xs[i], List.getElem?_eq_getElem hlt⟩
      obtain ⟨g, c', up, ur, uo, fa, fr, fo, hv, O⟩ := HI.out.open_ len_eSent HND.out hx
      injection hv with hv1 hv2 hv3
      subst hv1; subst hv3
      have hq := HQ.out
      have hq1 := cnt_step eSent xs i x hx
      have hq2 := cnt_take_le eSent xs (i+1)
      have hq3 := cnt_eSent x
      have hq0 : 0 ≤ q := by omega
      have hqx : q + cntL (eSent x) ≤ 4611686018427387904 := by omega
      obtain ⟨v2, f2, rfl, hfq, o2_0⟩ := own_eSent O.mid
      obtain rfl : f2 = fr := hfq.symm
      obtain ⟨A2, c2, rfl, _⟩ := o2_0.slice
      have hg2 : g ∉ f2 := fun h => O.fr_ne (by simp [h])
      have hn := O.fr_nodup
      have n2 := hn
      have RW0 : RowIs wr g (up ++ ([.int .i64 x.Target, .string x.Name, .slice A2 x.Args.length c2, .int .i64 x.Result, .int .i64 x.Tag.Vat, .int .i64 x.Tag.Entity, .int .i64 x.Tag.Seq] ++ uo)) := O.row
      have C0 : Chg (fun b => b = g ∨ b ∈ (f2 : List Nat)) wr wr := Chg.refl _ _
      obtain ⟨h0, g0⟩ := RW0.midk O.len 0 _ rfl
      obtain ⟨h1, g1⟩ := RW0.midk O.len 1 _ rfl
      obtain ⟨h2, g2⟩ := RW0.midk O.len 2 _ rfl
      obtain ⟨h3, g3⟩ := RW0.midk O.len 3 _ rfl
      obtain ⟨h4, g4⟩ := RW0.midk O.len 4 _ rfl
      obtain ⟨h5, g5⟩ := RW0.midk O.len 5 _ rfl
      obtain ⟨h6, g6⟩ := RW0.midk O.len 6 _ rfl
      rw [Nat.add_zero] at h0 g0
      have H_RW0 := Lib.hid RW0
      have H_C0 := Lib.hid C0
      have H_o2_0 := Lib.hid o2_0
      have HX := Lib.hid hx
      have HO := Lib.hid O
      have HC := Lib.hid hqx
      have hgl := O.glt
      have HQ3 := Lib.hid hq3
      have HQ1 := Lib.hid hq1
      have hq9 : q + 6 ≤ 4611686018427387904 := by omega
      clear hx O hq hq1 hq2 hq3 hv2 HI HS RW0 C0 hqx o2_0 hn
      go_wp2_with fail
      refine (markText_calls (q + 1) _ (by omega) (by omega)).mono ?_
      rintro e w1 ⟨rfl, hb1⟩
      have RW1 : RowIs w1 g (up ++ ([.int .i64 q, .string x.Name, .slice A2 x.Args.length c2, .int .i64 x.Result, .int .i64 x.Tag.Vat, .int .i64 x.Tag.Entity, .int .i64 x.Tag.Seq] ++ uo)) := RowIs.keep (RowIs.setMid H_RW0.out HO.out.len 0 (by simp) _) (hb1.block _ (by first | exact hgl | (simp only [size_set]; exact hgl)))
      have C1 : Chg (fun b => b = g ∨ b ∈ (f2 : List Nat)) wr w1 := (Chg.setCell H_C0.out (.inl (.inl rfl)) _).trans (Chg.of_below hb1 _)
      have o2_1 := Own.below (Own.chg H_o2_0.out ((Chg.refl (· = g) _).setCell (.inl rfl) _) (fun b hb e => hg2 (e ▸ hb))) hb1
      have hgl1 : g < w1.heap.size := Nat.lt_of_lt_of_le HO.out.glt C1.size
      clear h0 g0 h1 g1 h2 g2 h3 g3 h4 g4 h5 g5 h6 g6
      obtain ⟨h0, g0⟩ := RW1.midk HO.out.len 0 _ rfl
      obtain ⟨h1, g1⟩ := RW1.midk HO.out.len 1 _ rfl
      obtain ⟨h2, g2⟩ := RW1.midk HO.out.len 2 _ rfl
      obtain ⟨h3, g3⟩ := RW1.midk HO.out.len 3 _ rfl
      obtain ⟨h4, g4⟩ := RW1.midk HO.out.len 4 _ rfl
      obtain ⟨h5, g5⟩ := RW1.midk HO.out.len 5 _ rfl
      obtain ⟨h6, g6⟩ := RW1.midk HO.out.len 6 _ rfl
      rw [Nat.add_zero] at h0 g0
      have H_RW1 := Lib.hid RW1
      have H_C1 := Lib.hid C1
      have H_o2_1 := Lib.hid o2_1
      clear hb1 RW1 C1 o2_1 hgl
      have hgl := hgl1
      clear hgl1
      go_wp2_with fail
      refine (markValueS_calls _ _ _ f2 _ (Own.chg H_o2_1.out ((Chg.refl (· = g) _).setCell (.inl rfl) _) (fun b hb e => hg2 (e ▸ hb))) n2 (by omega) (by have := HQ3.out; have := HC.out; omega)).mono ?_
      rintro e w2 ⟨r2, rfl, hr2, o2_2, hb2⟩
      have RW2 : RowIs w2 g (up ++ ([.int .i64 q, .string (mkText (q + 1)), .slice A2 x.Args.length c2, .int .i64 x.Result, .int .i64 x.Tag.Vat, .int .i64 x.Tag.Entity, .int .i64 x.Tag.Seq] ++ uo)) := RowIs.keep (RowIs.setMid H_RW1.out HO.out.len 1 (by simp) _) (hb2.block _ (by first | exact hgl | (simp only [size_set]; exact hgl)) hg2)
      have C2 : Chg (fun b => b = g ∨ b ∈ (f2 : List Nat)) wr w2 := (Chg.setCell H_C1.out (.inl (.inl rfl)) _).trans (hb2.mono (fun b _ hb => .inr (by simp [hb])))
      have hgl2 : g < w2.heap.size := Nat.lt_of_lt_of_le HO.out.glt C2.size
      clear h0 g0 h1 g1 h2 g2 h3 g3 h4 g4 h5 g5 h6 g6
      obtain ⟨h0, g0⟩ := RW2.midk HO.out.len 0 _ rfl
      obtain ⟨h1, g1⟩ := RW2.midk HO.out.len 1 _ rfl
      obtain ⟨h2, g2⟩ := RW2.midk HO.out.len 2 _ rfl
      obtain ⟨h3, g3⟩ := RW2.midk HO.out.len 3 _ rfl
      obtain ⟨h4, g4⟩ := RW2.midk HO.out.len 4 _ rfl
      obtain ⟨h5, g5⟩ := RW2.midk HO.out.len 5 _ rfl
      obtain ⟨h6, g6⟩ := RW2.midk HO.out.len 6 _ rfl
      rw [Nat.add_zero] at h0 g0
      have H_RW2 := Lib.hid RW2
      have H_C2 := Lib.hid C2
      have H_o2_2 := Lib.hid o2_2
      have H_hr2 := Lib.hid hr2
      have hr2_0 : 0 ≤ r2 := by omega
      have hr2_9 : r2 + 4 ≤ 4611686018427387904 := by have := HQ3.out; have h := HC.out; omega
      clear hb2 RW2 C2 o2_2 hr2 hgl
      have hgl := hgl2
      clear hgl2
      have HQ2 : Hid (r2 + 1 + 1 + 1 + 1 = k + cntL ((xs.take (i+1)).flatMap eSent)) := by unfold Hid; have h1 := HQ1.out; have h2 := HQ3.out; have h3 := HQ.out; have e2 := H_hr2.out; omega
      go_wp2
      go_roundw
      case rel =>
        have hst := HO.out.close (ur' := [.int .i64 q, .string (mkText (q + 1)), .slice A2 x.Args.length c2, .int .i64 r2, .int .i64 (r2 + 1), .int .i64 (r2 + 1 + 1), .int .i64 (r2 + 1 + 1 + 1)]) (RowIs.setMid (RowIs.setMid (RowIs.setMid (RowIs.setMid H_RW2.out HO.out.len 3 (by simp) _) HO.out.len 4 (by simp) _) HO.out.len 5 (by simp) _) HO.out.len 6 (by simp) _) (by rw [← HQ.out]; exact mkownm_eSent q r2 H_hr2.out hq0 HC.out (Own.chg H_o2_2.out (((((Chg.refl (· = g) _).setCell (.inl rfl) _).setCell (.inl rfl) _).setCell (.inl rfl) _).setCell (.inl rfl) _) (fun b hb e => hg2 (e ▸ hb)))) (Chg.setCell (Chg.setCell (Chg.setCell (Chg.setCell H_C2.out (.inl (.inl rfl)) _) (.inl (.inl rfl)) _) (.inl (.inl rfl)) _) (.inl (.inl rfl)) _)
        exact ⟨i + 1, _, by omega, by go_num, rfl, HQ2, hst⟩
      case measure => simp [intOf]; omega
    · have : i = xs.length := by omega
      subst this
      have hq := HQ.out
      rw [List.take_length] at hq
      have HQ2 := Lib.hid hq
      clear hq
      go_wp2
      go_ret
      exact ⟨_, rfl, HQ2.out, HI.out.finish⟩

set_option maxHeartbeats 800000 in
set_option maxRecDepth 100000 in
theorem toEntity_calls (us : List Value) (x : GEntity) (w : World) (hr : RdLW w (eEntity x) us) (hz : sizL (eEntity x) ≤ 1048576) :
    Calls Try.prog 7 #[.agg us.toArray] w fun e w' => ∃ us' fp, e = .returned (.agg us'.toArray) ∧ OwnL w' (eEntity x) us' fp ∧ Fresh w fp ∧ Below w.heap.size w w' := by
  rw [siz_eEntity] at hz
  obtain ⟨v2, v6, v7, rfl, h2, h6, h7⟩ := rd_eEntity hr
  clear hr
  have H2 := Lib.hid h2
  clear h2
  have H6 := Lib.hid h6
  clear h6
  have H7 := Lib.hid h7
  clear h7
  go_enter Try.func7, Try.ntmps7
  go_wp2_with fail
  refine (toValueS_calls _ _ _ (H2.out.below ?hbel1) (by omega)).mono ?_
  case hbel1 => exact ((((Below.refl _ _).alloc (Nat.le_refl _) _).alloc (by simp) _).alloc (by simp; omega) _)
  rintro e w1 ⟨u2, f2, rfl, o2, n2, hb1⟩
  obtain ⟨A2, c2, rfl, _⟩ := o2.slice
  have Z1 := Lib.hid hb1
  have S1 : w.heap.size + 3 ≤ w1.heap.size := by have h := hb1.size; simp only [size_set, size_alloc] at h; omega
  have hz1_0 : w.heap.size < w1.heap.size := by omega
  have hz1_1 : w.heap.size + 1 < w1.heap.size := by omega
  have hz1_2 : w.heap.size + 1 + 1 < w1.heap.size := by omega
  have B1 : Hid (Below w.heap.size w w1) := by
    refine Below.trans ?_ (hb1.mono (by simp only [size_set, size_alloc]; omega))
    exact ((((Below.refl _ _).alloc (Nat.le_refl _) _).alloc (by simp) _).alloc (by simp; omega) _)
  have KA1 : Hid (Blk w1 (w.heap.size) 28 #[.int .i64 x.Kind, .int .i64 x.Script, v2, .int .i64 x.State, .int .i64 x.Value.Kind, .int .i64 x.Value.N, v6, v7, .int .i64 x.Peer, .int .i64 x.Pos, .int .i64 x.Count, .int .i64 x.Sent]) := by
    refine Blk.below ?_ hb1
    exact ((Blk.made rfl).alloc _).alloc _
  have KO1 : Hid (Blk w1 (w.heap.size + 1 + 1) 37 #[.int .i64 x.Kind, .int .i64 x.Script, .slice none 0 0, .int .i64 0, .int .i64 0, .int .i64 0, .slice none 0 0, .slice none 0 0, .int .i64 0, .int .i64 0, .int .i64 0, .int .i64 0]) := by
    refine Blk.below ?_ hb1
    exact Blk.made (by simp)
  have KR1 : Hid (Blk w1 (w.heap.size + 1) 37 #[.int .i64 0, .int .i64 0, .slice none 0 0, .int .i64 0, .int .i64 0, .int .i64 0, .slice none 0 0, .slice none 0 0, .int .i64 0, .int .i64 0, .int .i64 0, .int .i64 0]) := by
    refine Blk.below ?_ hb1
    exact (Blk.made (by simp)).alloc _
  obtain ⟨ca1, fa1⟩ := KA1.out.rules
  obtain ⟨co1, fo1⟩ := KO1.out.rules
  obtain ⟨cr1, fr1⟩ := KR1.out.rules
  clear hb1
  go_wp2_with fail
  refine (toValue_calls _ x.Value _ (mkrd_eValue)).mono ?_
  rintro e w2 ⟨us4, f4, rfl, o4, n4, hb2⟩
  obtain ⟨rfl, rfl⟩ := own_eValue o4
  have Z2 := Lib.hid hb2
  have S2 : w1.heap.size ≤ w2.heap.size := by have h := hb2.size; simp only [size_set, size_alloc] at h; omega
  have hz2_0 : w.heap.size < w2.heap.size := by omega
  have hz2_1 : w.heap.size + 1 < w2.heap.size := by omega
  have hz2_2 : w.heap.size + 1 + 1 < w2.heap.size := by omega
  have B2 : Hid (Below w.heap.size w w2) := by
    refine Below.trans ?_ (hb2.mono (by simp only [size_set, size_alloc]; omega))
    exact ((B1.out.setCell (by dsimp only; omega) _).setCell (by dsimp only; omega) _)
  have KA2 : Hid (Blk w2 (w.heap.size) 28 #[.int .i64 x.Kind, .int .i64 x.Script, v2, .int .i64 x.State, .int .i64 x.Value.Kind, .int .i64 x.Value.N, v6, v7, .int .i64 x.Peer, .int .i64 x.Pos, .int .i64 x.Count, .int .i64 x.Sent]) := by
    refine Blk.below ?_ hb2
    exact ((KA1.out.far (by dsimp only; omega) _).far (by dsimp only; omega) _)
  have KO2 : Hid (Blk w2 (w.heap.size + 1 + 1) 37 #[.int .i64 x.Kind, .int .i64 x.Script, .slice A2 x.Slots.length c2, .int .i64 x.State, .int .i64 0, .int .i64 0, .slice none 0 0, .slice none 0 0, .int .i64 0, .int .i64 0, .int .i64 0, .int .i64 0]) := by
    refine Blk.below ?_ hb2
    exact Blk.eq ((KO1.out.set_ 2 _).set_ 3 _) (by simp)
  have KR2 : Hid (Blk w2 (w.heap.size + 1) 37 #[.int .i64 0, .int .i64 0, .slice none 0 0, .int .i64 0, .int .i64 0, .int .i64 0, .slice none 0 0, .slice none 0 0, .int .i64 0, .int .i64 0, .int .i64 0, .int .i64 0]) := by
    refine Blk.below ?_ hb2
    exact ((KR1.out.far (by dsimp only; omega) _).far (by dsimp only; omega) _)
  obtain ⟨ca2, fa2⟩ := KA2.out.rules
  obtain ⟨co2, fo2⟩ := KO2.out.rules
  obtain ⟨cr2, fr2⟩ := KR2.out.rules
  clear hb2
  go_wp2_with fail
  refine (toSentS_calls _ _ _ (H6.out.below ?hbel3) (by omega)).mono ?_
  case hbel3 => exact ((B2.out.setCell (by dsimp only; omega) _).setCell (by dsimp only; omega) _)
  rintro e w3 ⟨u6, f6, rfl, o6, n6, hb3⟩
  obtain ⟨A6, c6, rfl, _⟩ := o6.slice
  have Z3 := Lib.hid hb3
  have S3 : w2.heap.size ≤ w3.heap.size := by have h := hb3.size; simp only [size_set, size_alloc] at h; omega
  have hz3_0 : w.heap.size < w3.heap.size := by omega
  have hz3_1 : w.heap.size + 1 < w3.heap.size := by omega
  have hz3_2 : w.heap.size + 1 + 1 < w3.heap.size := by omega
  have B3 : Hid (Below w.heap.size w w3) := by
    refine Below.trans ?_ (hb3.mono (by simp only [size_set, size_alloc]; omega))
    exact ((B2.out.setCell (by dsimp only; omega) _).setCell (by dsimp only; omega) _)
  have KA3 : Hid (Blk w3 (w.heap.size) 28 #[.int .i64 x.Kind, .int .i64 x.Script, v2, .int .i64 x.State, .int .i64 x.Value.Kind, .int .i64 x.Value.N, v6, v7, .int .i64 x.Peer, .int .i64 x.Pos, .int .i64 x.Count, .int .i64 x.Sent]) := by
    refine Blk.below ?_ hb3
    exact ((KA2.out.far (by dsimp only; omega) _).far (by dsimp only; omega) _)
  have KO3 : Hid (Blk w3 (w.heap.size + 1 + 1) 37 #[.int .i64 x.Kind, .int .i64 x.Script, .slice A2 x.Slots.length c2, .int .i64 x.State, .int .i64 x.Value.Kind, .int .i64 x.Value.N, .slice none 0 0, .slice none 0 0, .int .i64 0, .int .i64 0, .int .i64 0, .int .i64 0]) := by
    refine Blk.below ?_ hb3
    exact Blk.eq ((KO2.out.set_ 4 _).set_ 5 _) (by simp)
  have KR3 : Hid (Blk w3 (w.heap.size + 1) 37 #[.int .i64 0, .int .i64 0, .slice none 0 0, .int .i64 0, .int .i64 0, .int .i64 0, .slice none 0 0, .slice none 0 0, .int .i64 0, .int .i64 0, .int .i64 0, .int .i64 0]) := by
    refine Blk.below ?_ hb3
    exact ((KR2.out.far (by dsimp only; omega) _).far (by dsimp only; omega) _)
  obtain ⟨ca3, fa3⟩ := KA3.out.rules
  obtain ⟨co3, fo3⟩ := KO3.out.rules
  obtain ⟨cr3, fr3⟩ := KR3.out.rules
  clear hb3
  go_wp2_with fail
  refine (toAskerS_calls _ _ _ (H7.out.below ?hbel4) (by omega)).mono ?_
  case hbel4 => exact (B3.out.setCell (by dsimp only; omega) _)
  rintro e w4 ⟨u7, f7, rfl, o7, n7, hb4⟩
  obtain ⟨A7, c7, rfl, _⟩ := o7.slice
  have Z4 := Lib.hid hb4
  have S4 : w3.heap.size ≤ w4.heap.size := by have h := hb4.size; simp only [size_set, size_alloc] at h; omega
  have hz4_0 : w.heap.size < w4.heap.size := by omega
  have hz4_1 : w.heap.size + 1 < w4.heap.size := by omega
  have hz4_2 : w.heap.size + 1 + 1 < w4.heap.size := by omega
  have B4 : Hid (Below w.heap.size w w4) := by
    refine Below.trans ?_ (hb4.mono (by simp only [size_set, size_alloc]; omega))
    exact (B3.out.setCell (by dsimp only; omega) _)
  have KA4 : Hid (Blk w4 (w.heap.size) 28 #[.int .i64 x.Kind, .int .i64 x.Script, v2, .int .i64 x.State, .int .i64 x.Value.Kind, .int .i64 x.Value.N, v6, v7, .int .i64 x.Peer, .int .i64 x.Pos, .int .i64 x.Count, .int .i64 x.Sent]) := by
    refine Blk.below ?_ hb4
    exact (KA3.out.far (by dsimp only; omega) _)
  have KO4 : Hid (Blk w4 (w.heap.size + 1 + 1) 37 #[.int .i64 x.Kind, .int .i64 x.Script, .slice A2 x.Slots.length c2, .int .i64 x.State, .int .i64 x.Value.Kind, .int .i64 x.Value.N, .slice A6 x.Queue.length c6, .slice none 0 0, .int .i64 0, .int .i64 0, .int .i64 0, .int .i64 0]) := by
    refine Blk.below ?_ hb4
    exact Blk.eq (KO3.out.set_ 6 _) (by simp)
  have KR4 : Hid (Blk w4 (w.heap.size + 1) 37 #[.int .i64 0, .int .i64 0, .slice none 0 0, .int .i64 0, .int .i64 0, .int .i64 0, .slice none 0 0, .slice none 0 0, .int .i64 0, .int .i64 0, .int .i64 0, .int .i64 0]) := by
    refine Blk.below ?_ hb4
    exact (KR3.out.far (by dsimp only; omega) _)
  obtain ⟨ca4, fa4⟩ := KA4.out.rules
  obtain ⟨co4, fo4⟩ := KO4.out.rules
  obtain ⟨cr4, fr4⟩ := KR4.out.rules
  clear hb4
  have O2 := Lib.hid o2
  clear o2
  have O6 := Lib.hid o6
  clear o6
  have O7 := Lib.hid o7
  clear o7
  have N2 := Lib.hid n2
  clear n2
  have N6 := Lib.hid n6
  clear n6
  have N7 := Lib.hid n7
  clear n7
  go_wp2
  refine post_cell (w0 := w4) (fun g => w.heap.size ≤ g ∧ g < w.heap.size + 3) Try.results7 (w.heap.size + 1) #[.int .i64 x.Kind, .int .i64 x.Script, .slice A2 x.Slots.length c2, .int .i64 x.State, .int .i64 x.Value.Kind, .int .i64 x.Value.N, .slice A6 x.Queue.length c6, .slice A7 x.Askers.length c7, .int .i64 x.Peer, .int .i64 x.Pos, .int .i64 x.Count, .int .i64 x.Sent] _ rfl (Blk.eq (((((((((((((((((KR4.out.far (by dsimp only; omega) _).far (by dsimp only; omega) _).far (by dsimp only; omega) _).far (by dsimp only; omega) _).far (by dsimp only; omega) _).set_ 0 _).set_ 1 _).set_ 2 _).set_ 3 _).set_ 4 _).set_ 5 _).set_ 6 _).set_ 7 _).set_ 8 _).set_ 9 _).set_ 10 _).set_ 11 _) (by simp)) Try.underlying37 rfl (by kernel_rfl) rfl ((((((((((((((((((Chg.refl _ _).setCell (.inl (by dsimp only; omega)) _).setCell (.inl (by dsimp only; omega)) _).setCell (.inl (by dsimp only; omega)) _).setCell (.inl (by dsimp only; omega)) _).setCell (.inl (by dsimp only; omega)) _).setCell (.inl (by dsimp only; omega)) _).setCell (.inl (by dsimp only; omega)) _).setCell (.inl (by dsimp only; omega)) _).setCell (.inl (by dsimp only; omega)) _).setCell (.inl (by dsimp only; omega)) _).setCell (.inl (by dsimp only; omega)) _).setCell (.inl (by dsimp only; omega)) _).setCell (.inl (by dsimp only; omega)) _).setCell (.inl (by dsimp only; omega)) _).setCell (.inl (by dsimp only; omega)) _).setCell (.inl (by dsimp only; omega)) _).setCell (.inl (by dsimp only; omega)) _) ?_
  intro W hW
  have F2 : ∀ g, g ∈ f2 → w.heap.size + 2 < g := fun g hg => by have h1 := N2.out.2 g hg; simp only [size_set, size_alloc] at h1; omega
  have P2 := (Own.below (Own.chg (Own.below (Own.chg (Own.below (Own.chg O2.out (T := fun g => w.heap.size ≤ g ∧ g < w.heap.size + 3) (((Chg.refl _ _).setCell (.inl (by dsimp only; omega)) _).setCell (.inl (by dsimp only; omega)) _) (fun g hg => by have := F2 g hg; show ¬ (_ ∧ _); omega)) Z2.out) (T := fun g => w.heap.size ≤ g ∧ g < w.heap.size + 3) (((Chg.refl _ _).setCell (.inl (by dsimp only; omega)) _).setCell (.inl (by dsimp only; omega)) _) (fun g hg => by have := F2 g hg; show ¬ (_ ∧ _); omega)) Z3.out) (T := fun g => w.heap.size ≤ g ∧ g < w.heap.size + 3) ((Chg.refl _ _).setCell (.inl (by dsimp only; omega)) _) (fun g hg => by have := F2 g hg; show ¬ (_ ∧ _); omega)) Z4.out)
  have F6 : ∀ g, g ∈ f6 → w.heap.size + 2 < g := fun g hg => by have h1 := N6.out.2 g hg; simp only [size_set, size_alloc] at h1; omega
  have P6 := (Own.below (Own.chg O6.out (T := fun g => w.heap.size ≤ g ∧ g < w.heap.size + 3) ((Chg.refl _ _).setCell (.inl (by dsimp only; omega)) _) (fun g hg => by have := F6 g hg; show ¬ (_ ∧ _); omega)) Z4.out)
  have F7 : ∀ g, g ∈ f7 → w.heap.size + 2 < g := fun g hg => by have h1 := N7.out.2 g hg; simp only [size_set, size_alloc] at h1; omega
  have P7 := O7.out
  refine ⟨_, _, rfl, mkown_eEntity (P2.chg hW (fun g hg => by have := F2 g hg; show ¬ (_ ∧ _); omega)) (P6.chg hW (fun g hg => by have := F6 g hg; show ¬ (_ ∧ _); omega)) (P7.chg hW (fun g hg => by have := F7 g hg; show ¬ (_ ∧ _); omega)), ?_, ?_⟩
  · skip
    have V2 : Fresh w f2 := N2.out.mono (by simp only [size_set, size_alloc]; omega)
    have L2 : ∀ g, g ∈ f2 → g < w1.heap.size := Own.lt _ _ _ O2.out
    have V6 : Fresh w1 f6 := N6.out.mono (by simp only [size_set, size_alloc]; omega)
    have L6 : ∀ g, g ∈ f6 → g < w3.heap.size := Own.lt _ _ _ O6.out
    have V7 : Fresh w3 f7 := N7.out.mono (by simp only [size_set, size_alloc]; omega)
    have L7 : ∀ g, g ∈ f7 → g < w4.heap.size := Own.lt _ _ _ O7.out
    exact (V2.put L2 (V6.put L6 V7 (by omega)) (by omega))
  · exact below_chg B4.out hW B4.out.size (fun i hi => hi.1)

set_option maxHeartbeats 800000 in
set_option maxRecDepth 100000 in
theorem eqEntity_calls (us us' : List Value) (x : GEntity) (w : World) (hr : RdLW w (eEntity x) us) (hr' : RdLW w (eEntity x) us') :
    Calls Try.prog 10 #[.agg us.toArray, .agg us'.toArray] w fun e w' => e = .returned (.bool true) ∧ Below w.heap.size w w' := by
  obtain ⟨v2, v6, v7, rfl, h2, h6, h7⟩ := rd_eEntity hr
  obtain ⟨v2', v6', v7', rfl, h2', h6', h7'⟩ := rd_eEntity hr'
  clear hr hr'
  have H2 := Lib.hid h2
  have H2' := Lib.hid h2'
  clear h2 h2'
  have H6 := Lib.hid h6
  have H6' := Lib.hid h6'
  clear h6 h6'
  have H7 := Lib.hid h7
  have H7' := Lib.hid h7'
  clear h7 h7'
  go_enter Try.func10, Try.ntmps10
  go_wp2_with fail
  refine (eqValueS_calls _ _ _ _ (H2.out.below (((Below.refl _ _).alloc (Nat.le_refl _) _).alloc (by simp) _)) (H2'.out.below (((Below.refl _ _).alloc (Nat.le_refl _) _).alloc (by simp) _))).mono ?_
  rintro e w1 ⟨rfl, hb1⟩
  have hz1_0 : w.heap.size < w1.heap.size := by have := hb1.size; simp at this; omega
  have hz1_1 : w.heap.size + 1 < w1.heap.size := by have := hb1.size; simp at this; omega
  have B1 : Hid (Below w.heap.size w w1) := (((Below.refl _ _).alloc (Nat.le_refl _) _).alloc (by simp) _).trans (hb1.mono (by first | (simp; done) | (simp; omega)))
  obtain ⟨hc1, hf1⟩ := bcell hb1
  clear hb1
  go_wp2_with fail
  refine (eqValue_calls _ _ x.Value _ (mkrd_eValue) (mkrd_eValue)).mono ?_
  rintro e w2 ⟨rfl, hb2⟩
  have hz2_0 : w.heap.size < w2.heap.size := by have := hb2.size; have := hz1_0; omega
  have hz2_1 : w.heap.size + 1 < w2.heap.size := by have := hb2.size; have := hz1_1; omega
  have B2 : Hid (Below w.heap.size w w2) := B1.out.trans (hb2.mono (by omega))
  obtain ⟨hc2, hf2⟩ := bcell hb2
  clear hb2
  go_wp2_with fail
  refine (eqSentS_calls _ _ _ _ (H6.out.below B2.out) (H6'.out.below B2.out)).mono ?_
  rintro e w3 ⟨rfl, hb3⟩
  have hz3_0 : w.heap.size < w3.heap.size := by have := hb3.size; have := hz2_0; omega
  have hz3_1 : w.heap.size + 1 < w3.heap.size := by have := hb3.size; have := hz2_1; omega
  have B3 : Hid (Below w.heap.size w w3) := B2.out.trans (hb3.mono (by omega))
  obtain ⟨hc3, hf3⟩ := bcell hb3
  clear hb3
  go_wp2_with fail
  refine (eqAskerS_calls _ _ _ _ (H7.out.below B3.out) (H7'.out.below B3.out)).mono ?_
  rintro e w4 ⟨rfl, hb4⟩
  have hz4_0 : w.heap.size < w4.heap.size := by have := hb4.size; have := hz3_0; omega
  have hz4_1 : w.heap.size + 1 < w4.heap.size := by have := hb4.size; have := hz3_1; omega
  have B4 : Hid (Below w.heap.size w w4) := B3.out.trans (hb4.mono (by omega))
  obtain ⟨hc4, hf4⟩ := bcell hb4
  clear hb4
  go_wp2
  go_ret
  exact ⟨rfl, B4.out⟩

set_option maxHeartbeats 800000 in
set_option maxRecDepth 100000 in
theorem szEntity_calls (us : List Value) (x : GEntity) (left : Int) (w : World) (hr : RdLW w (eEntity x) us) (hstr : StrOkL (eEntity x)) (h0 : 0 ≤ left) (h1 : left ≤ 1048576) :
    Calls Try.prog 5 #[.agg us.toArray, .int .i64 left] w fun e w' => ∃ r : Int, e = .returned (.int .i64 r) ∧ SzR r left (sizL (eEntity x)) ∧ Below w.heap.size w w' := by
  rw [siz_eEntity]
  obtain ⟨v2, v6, v7, rfl, h2, h6, h7⟩ := rd_eEntity hr
  clear hr
  have H2 := Lib.hid h2
  clear h2
  have H6 := Lib.hid h6
  clear h6
  have H7 := Lib.hid h7
  clear h7
  have t6 := str_eEntity hstr
  have HT6 := Lib.hid t6
  clear t6
  clear hstr
  go_enter Try.func5, Try.ntmps5
  go_wp2_with fail
  refine (szValueS_calls _ _ _ _ (H2.out.below ((Below.refl _ _).alloc (Nat.le_refl _) _)) (by omega) (by omega)).mono ?_
  rintro e w1 ⟨r2, rfl, hr2, hb1⟩
  have B1 : Blk w1 w.heap.size 28 #[.int .i64 x.Kind, .int .i64 x.Script, v2, .int .i64 x.State, .int .i64 x.Value.Kind, .int .i64 x.Value.N, v6, v7, .int .i64 x.Peer, .int .i64 x.Pos, .int .i64 x.Count, .int .i64 x.Sent] := (Blk.new _ _ _).below hb1
  have D1 : Below w.heap.size w w1 := ((Below.refl _ _).alloc (Nat.le_refl _) _).trans (hb1.mono (by simp only [size_alloc]; omega))
  have HB1 := Lib.hid B1
  have HD1 := Lib.hid D1
  obtain ⟨cb1, fb1⟩ := B1.rules
  clear hb1 B1 D1
  rcases hr2 with rfl | ⟨hr2, hr2_0⟩
  · go_wp2
    go_ret
    exact ⟨_, rfl, .inl rfl, HD1.out⟩
  have hr2_9 : r2 ≤ 1048576 := by omega
  have HR2 := Lib.hid hr2
  clear hr2
  go_wp2_with fail
  refine (szSentS_calls _ _ _ _ (H6.out.below HD1.out) HT6.out (by omega) (by omega)).mono ?_
  rintro e w2 ⟨r6, rfl, hr6, hb2⟩
  have B2 : Blk w2 w.heap.size 28 #[.int .i64 x.Kind, .int .i64 x.Script, v2, .int .i64 x.State, .int .i64 x.Value.Kind, .int .i64 x.Value.N, v6, v7, .int .i64 x.Peer, .int .i64 x.Pos, .int .i64 x.Count, .int .i64 x.Sent] := HB1.out.below hb2
  have D2 : Below w.heap.size w w2 := HD1.out.trans (hb2.mono HD1.out.size)
  have HB2 := Lib.hid B2
  have HD2 := Lib.hid D2
  obtain ⟨cb2, fb2⟩ := B2.rules
  clear hb2 B2 D2
  rcases hr6 with rfl | ⟨hr6, hr6_0⟩
  · go_wp2
    go_ret
    exact ⟨_, rfl, .inl rfl, HD2.out⟩
  have hr6_9 : r6 ≤ 1048576 := by omega
  have HR6 := Lib.hid hr6
  clear hr6
  go_wp2_with fail
  refine (szAskerS_calls _ _ _ _ (H7.out.below HD2.out) (by omega) (by omega)).mono ?_
  rintro e w3 ⟨r7, rfl, hr7, hb3⟩
  have B3 : Blk w3 w.heap.size 28 #[.int .i64 x.Kind, .int .i64 x.Script, v2, .int .i64 x.State, .int .i64 x.Value.Kind, .int .i64 x.Value.N, v6, v7, .int .i64 x.Peer, .int .i64 x.Pos, .int .i64 x.Count, .int .i64 x.Sent] := HB2.out.below hb3
  have D3 : Below w.heap.size w w3 := HD2.out.trans (hb3.mono HD2.out.size)
  have HB3 := Lib.hid B3
  have HD3 := Lib.hid D3
  obtain ⟨cb3, fb3⟩ := B3.rules
  clear hb3 B3 D3
  rcases hr7 with rfl | ⟨hr7, hr7_0⟩
  · go_wp2
    go_ret
    exact ⟨_, rfl, .inl rfl, HD3.out⟩
  have hr7_9 : r7 ≤ 1048576 := by omega
  have HR7 := Lib.hid hr7
  clear hr7
  go_wp2
  go_ret
  exact ⟨_, rfl, .inr ⟨by have e2 := HR2.out; have e6 := HR6.out; have e7 := HR7.out; omega, by omega⟩, HD3.out⟩

set_option maxHeartbeats 800000 in
set_option maxRecDepth 100000 in
theorem markEntity_calls (us : List Value) (x : GEntity) (k : Int) (fp : List Nat) (w : World) (ho : OwnL w (eEntity x) us fp) (hnd : fp.Nodup) (hk0 : 0 ≤ k) (hk1 : k + tcnt (eEntity x) ≤ 4611686018427387904) :
    Calls Try.prog 11 #[.agg us.toArray, .int .i64 k] w fun e w' => ∃ r : Int, e = .returned (.int .i64 r) ∧ r = k + tcnt (eEntity x) ∧ OwnL w' (topL (eEntity x) k) us fp ∧ Chg (· ∈ fp) w w' := by
  rw [tcnt_eEntity] at hk1 ⊢
  obtain ⟨v2, f2, v6, f6, v7, f7, rfl, rfl, o2_0, o6_0, o7_0⟩ := own_eEntity ho
  clear ho
  obtain ⟨n2, hn0, d2⟩ := List.nodup_append.1 hnd
  obtain ⟨n6, n7, d6⟩ := List.nodup_append.1 hn0
  have H_o2_0 := Lib.hid o2_0
  have H_o6_0 := Lib.hid o6_0
  have H_o7_0 := Lib.hid o7_0
  have HC := Lib.hid hk1
  clear hk1 o2_0 o6_0 o7_0
  go_enter Try.func11, Try.ntmps11
  go_wp2_with fail
  refine (markValueS_calls _ _ k f2 _ (Own.below H_o2_0.out ((Below.refl _ _).alloc (Nat.le_refl _) _)) n2 (by omega) (by have := HC.out; omega)).mono ?_
  rintro e w1 ⟨r2, rfl, hr2, o2_1, hb1⟩
  have o6_1 := Own.chg (Own.below H_o6_0.out ((Below.refl _ _).alloc (Nat.le_refl _) _)) hb1 (fun b hb hb2 => d2 b hb2 b (by simp [hb]) rfl)
  have o7_1 := Own.chg (Own.below H_o7_0.out ((Below.refl _ _).alloc (Nat.le_refl _) _)) hb1 (fun b hb hb2 => d2 b hb2 b (by simp [hb]) rfl)
  have hbg1 : w.heap.size ∉ f2 := fun h => by have := Own.lt _ _ _ H_o2_0.out _ h; omega
  have B1 : Blk w1 w.heap.size 37 #[.int .i64 x.Kind, .int .i64 x.Script, v2, .int .i64 x.State, .int .i64 x.Value.Kind, .int .i64 x.Value.N, v6, v7, .int .i64 x.Peer, .int .i64 x.Pos, .int .i64 x.Count, .int .i64 x.Sent] := (Blk.new _ _ _).chg hb1 hbg1
  have C1 : Chg (· ∈ (f2 ++ (f6 ++ (f7)))) w w1 := ((Chg.refl _ w).alloc _).trans (hb1.mono (fun b _ hb => by simp [hb]))
  have HB1 := Lib.hid B1
  have HC1 := Lib.hid C1
  have H_hr2 := Lib.hid hr2
  have H_o2_1 := Lib.hid o2_1
  have H_o6_1 := Lib.hid o6_1
  have H_o7_1 := Lib.hid o7_1
  have hr2_0 : 0 ≤ r2 := by omega
  obtain ⟨cb1, fb1⟩ := B1.rules
  clear hb1 B1 C1 hr2 o2_1 o6_1 o7_1
  go_wp2_with fail
  refine (markSentS_calls _ _ r2 f6 _ H_o6_1.out n6 (by omega) (by have := HC.out; have e2 := H_hr2.out; omega)).mono ?_
  rintro e w2 ⟨r6, rfl, hr6, o6_2, hb2⟩
  have o2_2 := Own.chg H_o2_1.out hb2 (fun b hb hb2 => d2 b hb b (by simp [hb2]) rfl)
  have o7_2 := Own.chg H_o7_1.out hb2 (fun b hb hb2 => d6 b hb2 b (by simp [hb]) rfl)
  have hbg2 : w.heap.size ∉ f6 := fun h => by have := Own.lt _ _ _ H_o6_0.out _ h; omega
  have B2 : Blk w2 w.heap.size 37 #[.int .i64 x.Kind, .int .i64 x.Script, v2, .int .i64 x.State, .int .i64 x.Value.Kind, .int .i64 x.Value.N, v6, v7, .int .i64 x.Peer, .int .i64 x.Pos, .int .i64 x.Count, .int .i64 x.Sent] := HB1.out.chg hb2 hbg2
  have C2 : Chg (· ∈ (f2 ++ (f6 ++ (f7)))) w w2 := HC1.out.trans (hb2.mono (fun b _ hb => by simp [hb]))
  have HB2 := Lib.hid B2
  have HC2 := Lib.hid C2
  have H_hr6 := Lib.hid hr6
  have H_o2_2 := Lib.hid o2_2
  have H_o6_2 := Lib.hid o6_2
  have H_o7_2 := Lib.hid o7_2
  have hr6_0 : 0 ≤ r6 := by omega
  obtain ⟨cb2, fb2⟩ := B2.rules
  clear hb2 B2 C2 hr6 o2_2 o6_2 o7_2
  go_wp2_with fail
  refine (markAskerS_calls _ _ r6 f7 _ H_o7_2.out n7 (by omega) (by have := HC.out; have e2 := H_hr2.out; have e6 := H_hr6.out; omega)).mono ?_
  rintro e w3 ⟨r7, rfl, hr7, o7_3, hb3⟩
  have o2_3 := Own.chg H_o2_2.out hb3 (fun b hb hb2 => d2 b hb b (by simp [hb2]) rfl)
  have o6_3 := Own.chg H_o6_2.out hb3 (fun b hb hb2 => d6 b hb b (by simp [hb2]) rfl)
  have hbg3 : w.heap.size ∉ f7 := fun h => by have := Own.lt _ _ _ H_o7_0.out _ h; omega
  have B3 : Blk w3 w.heap.size 37 #[.int .i64 x.Kind, .int .i64 x.Script, v2, .int .i64 x.State, .int .i64 x.Value.Kind, .int .i64 x.Value.N, v6, v7, .int .i64 x.Peer, .int .i64 x.Pos, .int .i64 x.Count, .int .i64 x.Sent] := HB2.out.chg hb3 hbg3
  have C3 : Chg (· ∈ (f2 ++ (f6 ++ (f7)))) w w3 := HC2.out.trans (hb3.mono (fun b _ hb => by simp [hb]))
  have HB3 := Lib.hid B3
  have HC3 := Lib.hid C3
  have H_hr7 := Lib.hid hr7
  have H_o2_3 := Lib.hid o2_3
  have H_o6_3 := Lib.hid o6_3
  have H_o7_3 := Lib.hid o7_3
  have hr7_0 : 0 ≤ r7 := by omega
  obtain ⟨cb3, fb3⟩ := B3.rules
  clear hb3 B3 C3 hr7 o2_3 o6_3 o7_3
  go_wp2
  go_ret
  refine ⟨_, rfl, by have := HC.out; have e2 := H_hr2.out; have e6 := H_hr6.out; have e7 := H_hr7.out; omega, ?_, HC3.out⟩
  exact mktop_eEntity k r2 r6 r7 H_hr2.out H_hr6.out H_hr7.out H_o2_3.out H_o6_3.out H_o7_3.out

end Go.Proofs.Ytaalbbhebmpppaa
