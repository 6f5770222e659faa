import Derived.Test.YtpjopbicnkfeoaaProg
import Derived.Test.YtpjopbicnkfeoaaTypes
import Derived.StillTailTactics
import Derived.Deep.RegionHeld3
import Derived.Laws.IdiomStrings
import Derived.Test.YtpjopbicnkfeoaaAppend
import Derived.Laws.StructEq
import Derived.Lib.SliceRun
import Derived.Shelf.RegionOpenPlain
import Derived.Test.YtpjopbicnkfeoaaHelp
namespace Go.Proofs.Ytpjopbicnkfeoaa
open Go.RowKit
set_option linter.unusedVariables false
set_option linter.unusedSimpArgs false

theorem cell_alloc_zero (w : World) (v : Value) (t : TypeId) : (w.alloc (.cells #[v] t)).cell? ((⟨w.heap.size, 0, none⟩ : Addr).add 0) = some v := by
  rw [show (⟨w.heap.size, 0, none⟩ : Addr).add 0 = ⟨w.heap.size, 0, none⟩ from rfl]
  exact (Blk.new w t #[v]).cell 0
theorem decDigits_step {f n : Nat} (acc : List UInt8) (h : 0 < n) : decDigits (f + 1) n acc = decDigits f (n / 10) (UInt8.ofNat (48 + n % 10) :: acc) := by
  rw [decDigits, if_neg (by omega)]
theorem decDigits_zero (f : Nat) (acc : List UInt8) : decDigits f 0 acc = acc := by
  cases f <;> simp [decDigits]
set_option maxHeartbeats 800000 in
set_option maxRecDepth 100000 in
theorem markText_calls (k : Int) (w : World) (h0 : 0 ≤ k) (h1 : k ≤ 4611686018427387904) :
    Calls Try.prog 43 #[.int .i64 k] w fun e w' => e = .returned (.string (mkText k)) ∧ Below w.heap.size w w' := by
  obtain ⟨n, rfl⟩ : ∃ n : Nat, k = n := ⟨k.toNat, by omega⟩
  by_cases hk : n = 0
  · subst hk
    go_enter Try.func43, Try.ntmps43
    go_wp2
    go_ret
    exact ⟨rfl, Below.refl _ _⟩
  · have hk' : ¬ ((n : Int) ≤ 0) := by omega
    have HM : Hid (mkText n = ⟨(109 :: decDigits (n + 1) n []).toArray⟩) := by unfold Hid mkText; rw [if_neg hk']; rfl
    go_enter Try.func43, Try.ntmps43
    go_wp2
    go_loopw [0, 3] (fun a b wr => ∃ (m : Nat) (s : ByteArray), a = .int .i64 m ∧ b = .string s ∧ s.size + m ≤ n ∧ Hid (∃ f, m < f ∧ decDigits f m s.data.toList = decDigits (n + 1) n []) ∧ Hid (Below w.heap.size w wr)) (fun a b wr => (intOf a).toNat)
    case atStart => exact ⟨n, _, rfl, rfl, Nat.le_of_eq (Nat.zero_add _), ⟨n + 1, by omega, rfl⟩, Below.refl _ _⟩
    case round =>
      obtain ⟨m, s, rfl, rfl, hm, HD, HB⟩ := hrel
      have hs9 : s.size ≤ 4611686018427387904 := by omega
      by_cases hlt : m = 0
      · subst hlt
        go_wp2
        go_ret
        refine ⟨?_, HB.out⟩
        obtain ⟨f, hf, hd⟩ := HD.out
        rw [HM.out, ← hd, decDigits_zero]
        rfl
      · have hlt' : (0 : Int) < m := by omega
        obtain ⟨d, hd0⟩ : ∃ d : UInt8, d = UInt8.ofNat (48 + m % 10) := ⟨_, rfl⟩
        have hd9 : (d.toNat : Int) = 48 + (m : Int) % 10 := by
          have : d.toNat = 48 + m % 10 := by rw [hd0]; simp; omega
          rw [this]; omega
        have hcv : (convert 85 9 (.slice (some ⟨wr.heap.size, 0, none⟩) 1 1)).run Try.prog (wr.alloc (.cells #[.int .u8 (48 + (m : Int) % 10)] 5)) = .ok (.string ⟨#[d]⟩) (wr.alloc (.cells #[.int .u8 (48 + (m : Int) % 10)] 5)) :=
          run_convert_bytes_back _ _ _ 5 ⟨wr.heap.size, 0, none⟩ 1 [d] Try.underlying85 Try.underlying5 Try.underlying9 (fun j hj => by
            have : j = 0 := by simpa using hj
            subst this
            rw [cell_alloc_zero]
            show some _ = some (Value.int .u8 (d.toNat : Int))
            rw [hd9])
        clear hd9
        have HD2 : Hid (∃ f, m / 10 < f ∧ decDigits f (m / 10) ((⟨#[d]⟩ : ByteArray) ++ s).data.toList = decDigits (n + 1) n []) := by
          obtain ⟨f, hf, hd⟩ := HD.out
          obtain ⟨f, rfl⟩ : ∃ f', f = f' + 1 := ⟨f - 1, by omega⟩
          refine ⟨f, by omega, ?_⟩
          rw [decDigits_step _ (by omega)] at hd
          rw [← hd, ← hd0]; congr 1
          all_goals simp
        clear hd0
        have HS2 : ((⟨#[d]⟩ : ByteArray) ++ s).size = s.size + 1 := by
          rw [ByteArray.size_append]
          show 1 + _ = _
          all_goals omega
        have HS3 := Lib.hid HS2
        clear HS2
        go_wp2
        go_roundw
        case rel => exact ⟨m / 10, _, by go_num, rfl, by rw [HS3.out]; omega, HD2, HB.out.alloc HB.out.size _⟩
        case measure => simp [intOf]; omega

set_option maxHeartbeats 800000 in
set_option maxRecDepth 100000 in
theorem markStringS_calls (xs : List ByteArray) (v : Value) (k : Int) (fp : List Nat) (w : World) (ho : Own w (.s xs.length (xs.flatMap eStr)) v fp) (hnd : fp.Nodup) (hk0 : 0 ≤ k) (hk1 : k + cntL (xs.flatMap eStr) ≤ 4611686018427387904) :
    Calls Try.prog 20 #[v, .int .i64 k] w fun e w' => ∃ r : Int, e = .returned (.int .i64 r) ∧ r = k + cntL (xs.flatMap eStr) ∧ Own w' (.s xs.length (mkL (xs.flatMap eStr) k)) v fp ∧ Chg (· ∈ fp) w w' := by
  obtain ⟨A, c, rfl, ⟨_, _, hl⟩⟩ := ho.slice
  have HS := Lib.hid (MkI.start (k0 := k) ho)
  have HND := Lib.hid hnd
  clear ho hnd
  go_enter Try.func20, Try.ntmps20
  go_wp2
  go_loopw [1, 5] (fun a b wr => ∃ (i : Nat) (q : Int), i ≤ xs.length ∧ b = .int .i64 i ∧ a = .int .i64 q ∧ Hid (q = k + cntL ((xs.take i).flatMap eStr)) ∧ Hid (MkI eStr xs k w wr (.slice A xs.length c) fp i)) (fun a b wr => xs.length - (intOf b).toNat)
  case atStart => exact ⟨0, k, by omega, rfl, rfl, by simp [cntL_nil, Hid], HS⟩
  case round =>
    obtain ⟨i, q, hi, rfl, rfl, HQ, HI⟩ := hrel
    by_cases hlt : i < xs.length
    · obtain ⟨x, hx⟩ : ∃ x, xs[i]? = some x := ⟨xs[i], List.getElem?_eq_getElem hlt⟩
      obtain ⟨g, c', up, ur, uo, fa, fr, fo, hv, O⟩ := HI.out.open_ len_eStr HND.out hx
      injection hv with hv1 hv2 hv3
      subst hv1; subst hv3
      have hq := HQ.out
      have hq1 := cnt_step eStr xs i x hx
      have hq2 := cnt_take_le eStr xs (i+1)
      have hq3 := cnt_eStr x
      have hq0 : 0 ≤ q := by omega
      have hqx : q + cntL (eStr x) ≤ 4611686018427387904 := by omega
      obtain ⟨rfl, rfl⟩ := own_eStr O.mid
      have RW0 : RowIs wr g (up ++ ([.string x] ++ uo)) := O.row
      have C0 : Chg (fun b => b = g ∨ b ∈ ([] : List Nat)) wr wr := Chg.refl _ _
      obtain ⟨h0, g0⟩ := RW0.midk O.len 0 _ rfl
      rw [Nat.add_zero] at h0 g0
      rw [Nat.mul_one] at h0 g0
      have H_RW0 := Lib.hid RW0
      have H_C0 := Lib.hid C0
      have HX := Lib.hid hx
      have HO := Lib.hid O
      have HC := Lib.hid hqx
      have hgl := O.glt
      have HQ3 := Lib.hid hq3
      have HQ1 := Lib.hid hq1
      have hq9 : q + 1 ≤ 4611686018427387904 := by omega
      clear hx O hq hq1 hq2 hq3 hv2 HI HS RW0 C0 hqx
      go_wp2_with fail
      refine (markText_calls q _ (by omega) (by omega)).mono ?_
      rintro e w1 ⟨rfl, hb1⟩
      have RW1 : RowIs w1 g (up ++ ([.string x] ++ uo)) := RowIs.keep H_RW0.out (hb1.block _ (by first | exact hgl | (simp only [size_set]; exact hgl)))
      have C1 : Chg (fun b => b = g ∨ b ∈ ([] : List Nat)) wr w1 := H_C0.out.trans (Chg.of_below hb1 _)
      have hgl1 : g < w1.heap.size := Nat.lt_of_lt_of_le HO.out.glt C1.size
      clear h0 g0
      obtain ⟨h0, g0⟩ := RW1.midk HO.out.len 0 _ rfl
      rw [Nat.add_zero] at h0 g0
      rw [Nat.mul_one] at h0 g0
      have H_RW1 := Lib.hid RW1
      have H_C1 := Lib.hid C1
      clear hb1 RW1 C1 hgl
      have hgl := hgl1
      clear hgl1
      have HQ2 : Hid (q + 1 = k + cntL ((xs.take (i+1)).flatMap eStr)) := by unfold Hid; have h1 := HQ1.out; have h2 := HQ3.out; have h3 := HQ.out; omega
      go_wp2
      go_roundw
      case rel =>
        have hst := HO.out.close (ur' := [.string (mkText q)]) (RowIs.setMid H_RW1.out HO.out.len 0 (by simp) _) (by rw [← HQ.out]; exact mkownm_eStr q hq0 HC.out) (Chg.setCell H_C1.out (.inl (.inl rfl)) _)
        simp only [Nat.mul_one] at hst
        exact ⟨i + 1, _, by omega, by go_num, rfl, HQ2, hst⟩
      case measure => simp [intOf]; omega
    · have : i = xs.length := by omega
      subst this
      have hq := HQ.out
      rw [List.take_length] at hq
      have HQ2 := Lib.hid hq
      clear hq
      go_wp2
      go_ret
      exact ⟨_, rfl, HQ2.out, HI.out.finish⟩

set_option maxHeartbeats 800000 in
set_option maxRecDepth 100000 in
theorem heldStringS_calls (xs : List ByteArray) (v : Value) (k : Int) (w : World) (hr : RdW w (.s xs.length (mkL (xs.flatMap eStr) k)) v) (hk0 : 0 ≤ k) (hk1 : k + cntL (xs.flatMap eStr) ≤ 4611686018427387904) :
    Calls Try.prog 21 #[v, .int .i64 k] w fun e w' => ∃ r : Int, e = .returned (.int .i64 r) ∧ r = k + cntL (xs.flatMap eStr) ∧ Below w.heap.size w w' := by
  obtain ⟨A, c, rfl, ⟨_, _, hl⟩⟩ := hr.slice
  have HR := Lib.hid hr
  clear hr
  go_enter Try.func21, Try.ntmps21
  go_wp2
  go_loopw [1, 5] (fun a b wr => ∃ (i : Nat) (q : Int), i ≤ xs.length ∧ b = .int .i64 i ∧ a = .int .i64 q ∧ Hid (q = k + cntL ((xs.take i).flatMap eStr)) ∧ Hid (Below w.heap.size w wr)) (fun a b wr => xs.length - (intOf b).toNat)
  case atStart => exact ⟨0, k, by omega, rfl, rfl, by simp [cntL_nil, Hid], Below.refl _ w⟩
  case round =>
    obtain ⟨i, q, hi, rfl, rfl, HQ, HB⟩ := hrel
    by_cases hlt : i < xs.length
    · obtain ⟨x, hx⟩ : ∃ x, xs[i]? = some x := ⟨xs[i], List.getElem?_eq_getElem hlt⟩
      obtain ⟨ad, ys, rfl, hadb, hr, hc⟩ := RdW.atMk len_eStr (HR.out.below HB.out) hx
      have hq := HQ.out
      have hq1 := cnt_step eStr xs i x hx
      have hq2 := cnt_take_le eStr xs (i+1)
      have hq3 := cnt_eStr x
      have hq0 : 0 ≤ q := by omega
      have hqx : q + cntL (eStr x) ≤ 4611686018427387904 := by omega
      rw [← hq] at hr
      obtain rfl := rdm_eStr q hq0 hqx hr
      have h0 := hc 0 _ rfl
      rw [Nat.mul_one, Nat.add_zero] at h0
      have HX := Lib.hid hx
      have HQ3 := Lib.hid hq3
      have HC := Lib.hid hqx
      have hq9 : q + 1 ≤ 4611686018427387904 := by omega
      have hbw := Below.refl wr.heap.size wr
      have HB0 := Lib.hid hbw
      have HQ2 : Hid (q + 1 = k + cntL ((xs.take (i+1)).flatMap eStr)) := by unfold Hid; omega
      clear hx hq hq1 hq2 hq3 hqx hr hc hbw
      go_wp2
      go_region_held3 (fun wq => wq.cell? (ad.add i) = some (.string (mkText q)))
        (first | exact h0_q | exact h0)
        (first
          | (go_at_call 43; refine (markText_calls q _ (by omega) (by omega)).mono ?_; rintro e w1 ⟨rfl, hbq1⟩; have h0_q := (hbq1.cell (by first | exact hadb | (rw [block_of_add]; exact hadb))).trans h0))
      have hb1 := (Below.refl _ _).drew.trans hbq1
      clear hbq1 h0_q
      have h0 := (hb1.cell (by first | exact hadb | (rw [block_of_add]; exact hadb))).trans h0
      have hadb := Nat.lt_of_lt_of_le hadb hb1.size
      have HB1 := Lib.hid (HB0.out.trans (hb1.mono HB0.out.size))
      clear hb1
      go_wp2
      go_roundw
      case rel => exact ⟨i + 1, _, by omega, by go_num, rfl, HQ2, HB.out.trans (HB1.out.mono HB.out.size)⟩
      case measure => simp [intOf]; omega
    · have : i = xs.length := by omega
      subst this
      have hq := HQ.out
      rw [List.take_length] at hq
      have HQ2 := Lib.hid hq
      clear hq
      go_wp2
      go_ret
      exact ⟨_, rfl, HQ2.out, HB.out⟩

set_option maxHeartbeats 800000 in
set_option maxRecDepth 100000 in
theorem markInstrS_calls (xs : List GInstr) (v : Value) (k : Int) (fp : List Nat) (w : World) (ho : Own w (.s xs.length (xs.flatMap eInstr)) v fp) (hnd : fp.Nodup) (hk0 : 0 ≤ k) (hk1 : k + cntL (xs.flatMap eInstr) ≤ 4611686018427387904) :
    Calls Try.prog 62 #[v, .int .i64 k] w fun e w' => ∃ r : Int, e = .returned (.int .i64 r) ∧ r = k + cntL (xs.flatMap eInstr) ∧ Own w' (.s xs.length (mkL (xs.flatMap eInstr) k)) v fp ∧ Chg (· ∈ fp) w w' := by
  obtain ⟨A, c, rfl, ⟨_, _, hl⟩⟩ := ho.slice
  have HS := Lib.hid (MkI.start (k0 := k) ho)
  have HND := Lib.hid hnd
  clear ho hnd
  go_enter Try.func62, Try.ntmps62
  go_wp2
  go_loopw [1, 5] (fun a b wr => ∃ (i : Nat) (q : Int), i ≤ xs.length ∧ b = .int .i64 i ∧ a = .int .i64 q ∧ Hid (q = k + cntL ((xs.take i).flatMap eInstr)) ∧ Hid (MkI eInstr xs k w wr (.slice A xs.length c) fp i)) (fun a b wr => xs.length - (intOf b).toNat)
  case atStart => exact ⟨0, k, by omega, rfl, rfl, by simp [cntL_nil, Hid], HS⟩
  case round =>
    obtain ⟨i, q, hi, rfl, rfl, HQ, HI⟩ := hrel
    by_cases hlt : i < xs.length
    · obtain ⟨x, hx⟩ : ∃ x, xs[i]? = some x := ⟨xs[i], List.getElem?_eq_getElem hlt⟩
      obtain ⟨g, c', up, ur, uo, fa, fr, fo, hv, O⟩ := HI.out.open_ len_eInstr HND.out hx
      injection hv with hv1 hv2 hv3
      subst hv1; subst hv3
      have hq := HQ.out
      have hq1 := cnt_step eInstr xs i x hx
      have hq2 := cnt_take_le eInstr xs (i+1)
      have hq3 := cnt_eInstr x
      have hq0 : 0 ≤ q := by omega
      have hqx : q + cntL (eInstr x) ≤ 4611686018427387904 := by omega
      obtain ⟨rfl, rfl⟩ := own_eInstr O.mid
      have RW0 : RowIs wr g (up ++ ([.int .i64 x.Op, .int .i64 x.A, .int .i64 x.B, .int .i64 x.C, .int .i64 x.D, .string x.Name] ++ uo)) := O.row
      have C0 : Chg (fun b => b = g ∨ b ∈ ([] : List Nat)) wr wr := Chg.refl _ _
      obtain ⟨h0, g0⟩ := RW0.midk O.len 0 _ rfl
      obtain ⟨h1, g1⟩ := RW0.midk O.len 1 _ rfl
      obtain ⟨h2, g2⟩ := RW0.midk O.len 2 _ rfl
      obtain ⟨h3, g3⟩ := RW0.midk O.len 3 _ rfl
      obtain ⟨h4, g4⟩ := RW0.midk O.len 4 _ rfl
      obtain ⟨h5, g5⟩ := RW0.midk O.len 5 _ rfl
      rw [Nat.add_zero] at h0 g0
      have H_RW0 := Lib.hid RW0
      have H_C0 := Lib.hid C0
      have HX := Lib.hid hx
      have HO := Lib.hid O
      have HC := Lib.hid hqx
      have hgl := O.glt
      have HQ3 := Lib.hid hq3
      have HQ1 := Lib.hid hq1
      have hq9 : q + 6 ≤ 4611686018427387904 := by omega
      clear hx O hq hq1 hq2 hq3 hv2 HI HS RW0 C0 hqx
      go_wp2_with fail
      refine (markText_calls (q + 1 + 1 + 1 + 1 + 1) _ (by omega) (by omega)).mono ?_
      rintro e w1 ⟨rfl, hb1⟩
      have RW1 : RowIs w1 g (up ++ ([.int .i64 q, .int .i64 (q + 1), .int .i64 (q + 1 + 1), .int .i64 (q + 1 + 1 + 1), .int .i64 (q + 1 + 1 + 1 + 1), .string x.Name] ++ uo)) := RowIs.keep (RowIs.setMid (RowIs.setMid (RowIs.setMid (RowIs.setMid (RowIs.setMid H_RW0.out HO.out.len 0 (by simp) _) HO.out.len 1 (by simp) _) HO.out.len 2 (by simp) _) HO.out.len 3 (by simp) _) HO.out.len 4 (by simp) _) (hb1.block _ (by first | exact hgl | (simp only [size_set]; exact hgl)))
      have C1 : Chg (fun b => b = g ∨ b ∈ ([] : List Nat)) wr w1 := (Chg.setCell (Chg.setCell (Chg.setCell (Chg.setCell (Chg.setCell H_C0.out (.inl (.inl rfl)) _) (.inl (.inl rfl)) _) (.inl (.inl rfl)) _) (.inl (.inl rfl)) _) (.inl (.inl rfl)) _).trans (Chg.of_below hb1 _)
      have hgl1 : g < w1.heap.size := Nat.lt_of_lt_of_le HO.out.glt C1.size
      clear h0 g0 h1 g1 h2 g2 h3 g3 h4 g4 h5 g5
      obtain ⟨h0, g0⟩ := RW1.midk HO.out.len 0 _ rfl
      obtain ⟨h1, g1⟩ := RW1.midk HO.out.len 1 _ rfl
      obtain ⟨h2, g2⟩ := RW1.midk HO.out.len 2 _ rfl
      obtain ⟨h3, g3⟩ := RW1.midk HO.out.len 3 _ rfl
      obtain ⟨h4, g4⟩ := RW1.midk HO.out.len 4 _ rfl
      obtain ⟨h5, g5⟩ := RW1.midk HO.out.len 5 _ rfl
      rw [Nat.add_zero] at h0 g0
      have H_RW1 := Lib.hid RW1
      have H_C1 := Lib.hid C1
      clear hb1 RW1 C1 hgl
      have hgl := hgl1
      clear hgl1
      have HQ2 : Hid (q + 1 + 1 + 1 + 1 + 1 + 1 = k + cntL ((xs.take (i+1)).flatMap eInstr)) := by unfold Hid; have h1 := HQ1.out; have h2 := HQ3.out; have h3 := HQ.out; omega
      go_wp2
      go_roundw
      case rel =>
        have hst := HO.out.close (ur' := [.int .i64 q, .int .i64 (q + 1), .int .i64 (q + 1 + 1), .int .i64 (q + 1 + 1 + 1), .int .i64 (q + 1 + 1 + 1 + 1), .string (mkText (q + 1 + 1 + 1 + 1 + 1))]) (RowIs.setMid H_RW1.out HO.out.len 5 (by simp) _) (by rw [← HQ.out]; exact mkownm_eInstr q hq0 HC.out) (Chg.setCell H_C1.out (.inl (.inl rfl)) _)
        exact ⟨i + 1, _, by omega, by go_num, rfl, HQ2, hst⟩
      case measure => simp [intOf]; omega
    · have : i = xs.length := by omega
      subst this
      have hq := HQ.out
      rw [List.take_length] at hq
      have HQ2 := Lib.hid hq
      clear hq
      go_wp2
      go_ret
      exact ⟨_, rfl, HQ2.out, HI.out.finish⟩

set_option maxHeartbeats 800000 in
set_option maxRecDepth 100000 in
theorem markMethodS_calls (xs : List GMethod) (v : Value) (k : Int) (fp : List Nat) (w : World) (ho : Own w (.s xs.length (xs.flatMap eMethod)) v fp) (hnd : fp.Nodup) (hk0 : 0 ≤ k) (hk1 : k + cntL (xs.flatMap eMethod) ≤ 4611686018427387904) :
    Calls Try.prog 42 #[v, .int .i64 k] w fun e w' => ∃ r : Int, e = .returned (.int .i64 r) ∧ r = k + cntL (xs.flatMap eMethod) ∧ Own w' (.s xs.length (mkL (xs.flatMap eMethod) k)) v fp ∧ Chg (· ∈ fp) w w' := by
  obtain ⟨A, c, rfl, ⟨_, _, hl⟩⟩ := ho.slice
  have HS := Lib.hid (MkI.start (k0 := k) ho)
  have HND := Lib.hid hnd
  clear ho hnd
  go_enter Try.func42, Try.ntmps42
  go_wp2
  go_loopw [1, 5] (fun a b wr => ∃ (i : Nat) (q : Int), i ≤ xs.length ∧ b = .int .i64 i ∧ a = .int .i64 q ∧ Hid (q = k + cntL ((xs.take i).flatMap eMethod)) ∧ Hid (MkI eMethod xs k w wr (.slice A xs.length c) fp i)) (fun a b wr => xs.length - (intOf b).toNat)
  case atStart => exact ⟨0, k, by omega, rfl, rfl, by simp [cntL_nil, Hid], HS⟩
  case round =>
    obtain ⟨i, q, hi, rfl, rfl, HQ, HI⟩ := hrel
    by_cases hlt : i < xs.length
    · obtain ⟨x, hx⟩ : ∃ x, xs[i]? = some x := ⟨xs[i], List.getElem?_eq_getElem hlt⟩
      obtain ⟨g, c', up, ur, uo, fa, fr, fo, hv, O⟩ := HI.out.open_ len_eMethod HND.out hx
      injection hv with hv1 hv2 hv3
      subst hv1; subst hv3
      have hq := HQ.out
      have hq1 := cnt_step eMethod xs i x hx
      have hq2 := cnt_take_le eMethod xs (i+1)
      have hq3 := cnt_eMethod x
      have hq0 : 0 ≤ q := by omega
      have hqx : q + cntL (eMethod x) ≤ 4611686018427387904 := by omega
      obtain ⟨v1, f1, rfl, hfq, o1_0⟩ := own_eMethod O.mid
      obtain rfl : f1 = fr := hfq.symm
      obtain ⟨A1, c1, rfl, _⟩ := o1_0.slice
      have hg1 : g ∉ f1 := fun h => O.fr_ne (by simp [h])
      have hn := O.fr_nodup
      have n1 := hn
      have RW0 : RowIs wr g (up ++ ([.string x.Name, .slice A1 x.Code.length c1] ++ uo)) := O.row
      have C0 : Chg (fun b => b = g ∨ b ∈ (f1 : List Nat)) wr wr := Chg.refl _ _
      obtain ⟨h0, g0⟩ := RW0.midk O.len 0 _ rfl
      obtain ⟨h1, g1⟩ := RW0.midk O.len 1 _ rfl
      rw [Nat.add_zero] at h0 g0
      have H_RW0 := Lib.hid RW0
      have H_C0 := Lib.hid C0
      have H_o1_0 := Lib.hid o1_0
      have HX := Lib.hid hx
      have HO := Lib.hid O
      have HC := Lib.hid hqx
      have hgl := O.glt
      have HQ3 := Lib.hid hq3
      have HQ1 := Lib.hid hq1
      have hq9 : q + 1 ≤ 4611686018427387904 := by omega
      clear hx O hq hq1 hq2 hq3 hv2 HI HS RW0 C0 hqx o1_0 hn
      go_wp2_with fail
      refine (markText_calls q _ (by omega) (by omega)).mono ?_
      rintro e w1 ⟨rfl, hb1⟩
      have RW1 : RowIs w1 g (up ++ ([.string x.Name, .slice A1 x.Code.length c1] ++ uo)) := RowIs.keep H_RW0.out (hb1.block _ (by first | exact hgl | (simp only [size_set]; exact hgl)))
      have C1 : Chg (fun b => b = g ∨ b ∈ (f1 : List Nat)) wr w1 := H_C0.out.trans (Chg.of_below hb1 _)
      have o1_1 := Own.below H_o1_0.out hb1
      have hgl1 : g < w1.heap.size := Nat.lt_of_lt_of_le HO.out.glt C1.size
      clear h0 g0 h1 g1
      obtain ⟨h0, g0⟩ := RW1.midk HO.out.len 0 _ rfl
      obtain ⟨h1, g1⟩ := RW1.midk HO.out.len 1 _ rfl
      rw [Nat.add_zero] at h0 g0
      have H_RW1 := Lib.hid RW1
      have H_C1 := Lib.hid C1
      have H_o1_1 := Lib.hid o1_1
      clear hb1 RW1 C1 o1_1 hgl
      have hgl := hgl1
      clear hgl1
      go_wp2_with fail
      refine (markInstrS_calls _ _ _ f1 _ (Own.chg H_o1_1.out ((Chg.refl (· = g) _).setCell (.inl rfl) _) (fun b hb e => hg1 (e ▸ hb))) n1 (by omega) (by have := HQ3.out; have := HC.out; omega)).mono ?_
      rintro e w2 ⟨r1, rfl, hr1, o1_2, hb2⟩
      have RW2 : RowIs w2 g (up ++ ([.string (mkText q), .slice A1 x.Code.length c1] ++ uo)) := RowIs.keep (RowIs.setMid H_RW1.out HO.out.len 0 (by simp) _) (hb2.block _ (by first | exact hgl | (simp only [size_set]; exact hgl)) hg1)
      have C2 : Chg (fun b => b = g ∨ b ∈ (f1 : List Nat)) wr w2 := (Chg.setCell H_C1.out (.inl (.inl rfl)) _).trans (hb2.mono (fun b _ hb => .inr (by simp [hb])))
      have hgl2 : g < w2.heap.size := Nat.lt_of_lt_of_le HO.out.glt C2.size
      clear h0 g0 h1 g1
      obtain ⟨h0, g0⟩ := RW2.midk HO.out.len 0 _ rfl
      obtain ⟨h1, g1⟩ := RW2.midk HO.out.len 1 _ rfl
      rw [Nat.add_zero] at h0 g0
      have H_RW2 := Lib.hid RW2
      have H_C2 := Lib.hid C2
      have H_o1_2 := Lib.hid o1_2
      have H_hr1 := Lib.hid hr1
      have hr1_0 : 0 ≤ r1 := by omega
      have hr1_9 : r1 + 0 ≤ 4611686018427387904 := by have := HQ3.out; have h := HC.out; omega
      clear hb2 RW2 C2 o1_2 hr1 hgl
      have hgl := hgl2
      clear hgl2
      have HQ2 : Hid (r1 = k + cntL ((xs.take (i+1)).flatMap eMethod)) := by unfold Hid; have h1 := HQ1.out; have h2 := HQ3.out; have h3 := HQ.out; have e1 := H_hr1.out; omega
      go_wp2
      go_roundw
      case rel =>
        have hst := HO.out.close (ur' := [.string (mkText q), .slice A1 x.Code.length c1]) H_RW2.out (by rw [← HQ.out]; exact mkownm_eMethod q r1 H_hr1.out hq0 HC.out H_o1_2.out) H_C2.out
        exact ⟨i + 1, _, by omega, by go_num, rfl, HQ2, hst⟩
      case measure => simp [intOf]; omega
    · have : i = xs.length := by omega
      subst this
      have hq := HQ.out
      rw [List.take_length] at hq
      have HQ2 := Lib.hid hq
      clear hq
      go_wp2
      go_ret
      exact ⟨_, rfl, HQ2.out, HI.out.finish⟩

set_option maxHeartbeats 800000 in
set_option maxRecDepth 100000 in
theorem markScript_calls (us : List Value) (x : GScript) (k : Int) (fp : List Nat) (w : World) (ho : OwnL w (eScript x) us fp) (hnd : fp.Nodup) (hk0 : 0 ≤ k) (hk1 : k + tcnt (eScript x) ≤ 4611686018427387904) :
    Calls Try.prog 19 #[.agg us.toArray, .int .i64 k] w fun e w' => ∃ r : Int, e = .returned (.int .i64 r) ∧ r = k + tcnt (eScript x) ∧ OwnL w' (topL (eScript x) k) us fp ∧ Chg (· ∈ fp) w w' := by
  rw [tcnt_eScript] at hk1 ⊢
  obtain ⟨v1, f1, rfl, hfq, o1_0⟩ := own_eScript ho
  clear ho
  obtain rfl : f1 = fp := hfq.symm
  have n1 := hnd
  have H_o1_0 := Lib.hid o1_0
  have HC := Lib.hid hk1
  clear hk1 o1_0
  go_enter Try.func19, Try.ntmps19
  go_wp2_with fail
  refine (markMethodS_calls _ _ k f1 _ (Own.below H_o1_0.out ((Below.refl _ _).alloc (Nat.le_refl _) _)) n1 (by omega) (by have := HC.out; omega)).mono ?_
  rintro e w1 ⟨r1, rfl, hr1, o1_1, hb1⟩
  have hbg1 : w.heap.size ∉ f1 := fun h => by have := Own.lt _ _ _ H_o1_0.out _ h; omega
  have B1 : Blk w1 w.heap.size 41 #[.string x.Name, v1] := (Blk.new _ _ _).chg hb1 hbg1
  have C1 : Chg (· ∈ f1) w w1 := ((Chg.refl _ w).alloc _).trans (hb1.mono (fun b _ hb => by simp [hb]))
  have HB1 := Lib.hid B1
  have HC1 := Lib.hid C1
  have H_hr1 := Lib.hid hr1
  have H_o1_1 := Lib.hid o1_1
  have hr1_0 : 0 ≤ r1 := by omega
  obtain ⟨cb1, fb1⟩ := B1.rules
  clear hb1 B1 C1 hr1 o1_1
  go_wp2
  go_ret
  refine ⟨_, rfl, by have := HC.out; have e1 := H_hr1.out; omega, ?_, HC1.out⟩
  exact mktop_eScript k r1 H_hr1.out H_o1_1.out

end Go.Proofs.Ytpjopbicnkfeoaa
