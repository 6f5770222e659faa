import Derived.Test.YtklbpjnpmbidiaaProg
import Derived.Test.YtklbpjnpmbidiaaTypes
import Derived.StillTailTactics
import Derived.Laws.BitsLemmas
import Derived.Deep.RegionHeld3
import Derived.Laws.IdiomStrings
import Derived.Test.YtklbpjnpmbidiaaAppend
import Derived.Laws.StructEq
import Derived.Lib.SliceRun
import Derived.Shelf.RegionOpenPlain
import Derived.Test.YtklbpjnpmbidiaaPureDec
namespace Go.Proofs.Ytklbpjnpmbidiaa
open Go.RowKit
set_option linter.unusedVariables false
set_option linter.unusedSimpArgs false

/-- the answer of a reading of a varint -/
def uvR (r : Option (Nat × Nat)) (at_ : Nat) : Value := match r with
  | none => .tuple #[.int .i64 0, .int .i64 0, .bool false]
  | some (x, m) => .tuple #[.int .i64 x, .int .i64 ((at_ + m : Nat) : Int), .bool true]
theorem addr_add_add (a : Addr) (m n : Nat) : (a.add m).add n = a.add (m + n) := by
  unfold Addr.add
  by_cases hm : m = 0 <;> by_cases hn : n = 0 <;> simp [hm, hn, Nat.add_assoc]
theorem pow128 (k : Nat) : 128 ^ k = 2 ^ (7 * k) := by rw [Nat.pow_mul]
theorem pow_bound (k : Nat) (hk : k ≤ 6) : 128 ^ k ≤ 4398046511104 := Nat.le_trans (Nat.pow_le_pow_right (by decide) hk) (by decide)
theorem uv_next (acc d k : Nat) (ha : acc < 128 ^ k) : acc + d % 128 * 128 ^ k < 128 ^ (k + 1) := by
  rw [Nat.pow_succ]
  have h1 : d % 128 + 1 ≤ 128 := by omega
  have h2 := Nat.mul_le_mul_right (128 ^ k) h1
  rw [Nat.add_mul] at h2
  omega
theorem uv_or (acc d k : Nat) (ha : acc < 128 ^ k) : acc ||| (d % 128 * 128 ^ k) = acc + d % 128 * 128 ^ k := by
  rw [pow128] at ha ⊢
  rw [Nat.or_comm, Nat.mul_comm, ← Nat.two_pow_add_eq_or_of_lt ha, Nat.add_comm]
theorem uv_bits (acc d k : Nat) (T : Int) (hT : T = ((d % 128 : Nat) : Int)) (hk : k < 6) (ha : acc < 128 ^ k) :
    bits .or .i64 (acc : Int) (wrap64 (T * 2 ^ (7 * k))) = ((acc + d % 128 * 128 ^ k : Nat) : Int) := by
  have h0 := uv_next acc d k ha
  have h2 := pow_bound (k + 1) (by omega)
  have e1 : ((d % 128 : Nat) : Int) * 2 ^ (7 * k) = ((d % 128 * 128 ^ k : Nat) : Int) := by
    rw [pow128]; push_cast; rfl
  rw [hT, e1, IntWalk.wrap64_in _ ⟨by omega, by omega⟩]
  rw [(bits_nat .i64 63 (by decide) wraps_i64_63 acc (d % 128 * 128 ^ k) (by omega) (by omega)).2, uv_or acc d k ha]
theorem and127_i64 (d : Nat) (hd : d < 256) : bits .and .i64 (d : Int) 127 = ((d % 128 : Nat) : Int) := by
  have h1 := (bits_nat .i64 63 (by decide) wraps_i64_63 d 127 (by omega) (by decide)).1
  have h2 : d &&& 127 = d % 128 := Nat.and_two_pow_sub_one_eq_mod d 7
  rw [h2] at h1; exact h1
theorem and127_u8 (d : Nat) (hd : d < 256) : wrap64 (bits .and .u8 (d : Int) 127) = ((d % 128 : Nat) : Int) := by
  have h1 := (bits_nat .u8 8 (by decide) wraps_u8 d 127 (by omega) (by decide)).1
  have h2 : d &&& 127 = d % 128 := Nat.and_two_pow_sub_one_eq_mod d 7
  rw [h2] at h1
  have h1' : bits .and .u8 (d : Int) 127 = ((d % 128 : Nat) : Int) := h1
  rw [h1', IntWalk.wrap64_in _ ⟨by omega, by omega⟩]
set_option maxHeartbeats 3200000 in
set_option maxRecDepth 100000 in
theorem spec_ReadUvarint_calls (v : Value) (b : List UInt8) (at_ : Nat) (w : World) (hr : RdW w (.s b.length (b.flatMap eByte)) v) (hz : b.length ≤ 1048576) (hat : at_ ≤ b.length) :
    Calls Try.prog 44 #[v, .int .i64 at_] w fun e w' => e = .returned (uvR (rdUv 0 0 (b.drop at_)) at_) ∧ w' = w := by
  obtain ⟨A, c, rfl, ⟨hcl, hcm, hl⟩⟩ := hr.slice
  have HR := Lib.hid hr
  clear hr
  go_enter Try.func44, Try.ntmps44
  go_wp2
  go_loopw [7, 8] (fun a b_ wr => ∃ (k acc : Nat), k ≤ 6 ∧ a = .int .i64 acc ∧ b_ = .int .i64 k ∧ acc < 4398046511104 ∧ Hid (acc < 128 ^ k) ∧ Hid (wr = w) ∧ at_ + k ≤ b.length ∧ Hid (rdUv k acc (b.drop (at_ + k)) = rdUv 0 0 (b.drop at_))) (fun a b_ wr => 7 - (intOf b_).toNat)
  case atStart => exact ⟨0, 0, by omega, rfl, rfl, by omega, (by show (0 : Nat) < 1; omega), rfl, by omega, rfl⟩
  case round =>
    obtain ⟨k, acc, hk, rfl, rfl, hac, HAC, HW, hkl, HE⟩ := hrel
    have hlk : ((b.length - at_ : Nat) : Int) = (b.length : Int) - at_ := by omega
    by_cases hlt : k < 6
    · by_cases hin : at_ + k < b.length
      · obtain ⟨x, hx⟩ : ∃ x, b[at_ + k]? = some x := ⟨b[at_ + k], List.getElem?_eq_getElem hin⟩
        have HR1 : Hid (RdW wr (.s b.length (b.flatMap eByte)) (.slice A b.length c)) := by unfold Hid; rw [HW.out]; exact HR.out
        obtain ⟨ad, rfl, hab, h0⟩ := row_eByte HR1.out hx
        have hab' : (ad.add (at_ + k)).block < wr.heap.size := by rw [block_of_add]; exact hab
        have hd0 : b.drop (at_ + k) = x :: b.drop (at_ + k + 1) := by
          obtain ⟨hlx, hex⟩ := List.getElem?_eq_some_iff.1 hx
          rw [List.drop_eq_getElem_cons hlx, hex]
        rw [hd0] at HE
        obtain ⟨d, hd⟩ : ∃ d, d = x.toNat := ⟨_, rfl⟩
        have hdl : d < 256 := by rw [hd]; exact x.toNat_lt
        rw [← hd] at h0
        have HD := Lib.hid hd
        obtain ⟨n1, hn1⟩ : ∃ n1 : Nat, n1 = acc + d % 128 * 128 ^ k := ⟨_, rfl⟩
        have hb := uv_bits acc d k _ (and127_i64 d hdl) hlt HAC.out
        rw [← hn1] at hb
        have HN := Lib.hid hn1
        have hnx : n1 < 4398046511104 := by
          have h1 := uv_next acc d k HAC.out
          have h2 := pow_bound (k + 1) (by omega)
          omega
        have HNX : Hid (n1 < 128 ^ (k + 1)) := by unfold Hid; rw [hn1]; exact uv_next acc d k HAC.out
        clear hn1 hd hd0 hx
        by_cases hs : d < 128
        · by_cases hdz : d = 0
          · by_cases hkz : k = 0
            · have hkp : ¬ (0 : Int) < k := by omega
              have hn0 : n1 ≤ 1000000000000 := by rw [HN.out, hdz, hkz]; have := HAC.out; rw [hkz] at this; omega
              have HF : Hid (rdUv 0 0 (b.drop at_) = some (n1, k + 1)) := by
                unfold Hid
                rw [← HE.out, rdUv_last (by omega) (by rw [← HD.out]; omega) (by rw [← HD.out, ← HN.out]; omega), ← HD.out, ← HN.out]
              subst hdz
              rw [Int.natCast_zero] at hb
              have HKZ := Lib.hid hkz
              clear hkz hlk
              go_wp2
              refine bodyPost_ret (v := .tuple #[.int .i64 n1, .int .i64 ((at_ : Int) + 1), .bool true]) (by simp [results, Try.results44, go_sem]) rfl ⟨by rw [HF.out]; unfold uvR; rw [HKZ.out]; push_cast; rfl, HW.out⟩
            · have HF : Hid (rdUv 0 0 (b.drop at_) = none) := by
                unfold Hid
                rw [← HE.out, rdUv_bad (by rw [← HD.out]; omega) (.inl ⟨by rw [← HD.out]; exact hdz, by omega⟩)]
              subst hdz
              have hkp : (0 : Int) < k := by omega
              go_wp2
              refine bodyPost_ret (v := .tuple #[.int .i64 0, .int .i64 0, .bool false]) (by simp [results, Try.results44, go_sem]) rfl ⟨by rw [HF.out]; rfl, HW.out⟩
          · by_cases hM : 1000000000000 < n1
            · have HF : Hid (rdUv 0 0 (b.drop at_) = none) := by
                unfold Hid
                rw [← HE.out, rdUv_bad (by rw [← HD.out]; omega) (.inr (by rw [← HD.out, ← HN.out]; exact hM))]
              go_wp2
              refine bodyPost_ret (v := .tuple #[.int .i64 0, .int .i64 0, .bool false]) (by simp [results, Try.results44, go_sem]) rfl ⟨by rw [HF.out]; rfl, HW.out⟩
            · have HF : Hid (rdUv 0 0 (b.drop at_) = some (n1, k + 1)) := by
                unfold Hid
                rw [← HE.out, rdUv_last (by omega) (by rw [← HD.out]; omega) (by rw [← HD.out, ← HN.out]; omega), ← HD.out, ← HN.out]
              go_wp2
              refine bodyPost_ret (v := .tuple #[.int .i64 n1, .int .i64 ((at_ : Int) + k + 1), .bool true]) (by simp [results, Try.results44, go_sem]) rfl ⟨by rw [HF.out]; unfold uvR; push_cast; rw [Int.add_assoc], HW.out⟩
        · have HF : Hid (rdUv (k + 1) n1 (b.drop (at_ + (k + 1))) = rdUv 0 0 (b.drop at_)) := by
            unfold Hid
            rw [← HE.out, rdUv_more hlt (by rw [← HD.out]; omega), ← HD.out, ← HN.out]; rfl
          go_wp2
          go_roundw
          case rel => exact ⟨k + 1, n1, by omega, rfl, by go_num, hnx, HNX, HW, by omega, HF⟩
          case measure => simp [intOf]; omega
      · have HF : Hid (rdUv 0 0 (b.drop at_) = none) := by
          unfold Hid
          rw [← HE.out, List.drop_eq_nil_of_le (by omega), rdUv_nil]
        go_wp2
        refine bodyPost_ret (v := .tuple #[.int .i64 0, .int .i64 0, .bool false]) (by simp [results, Try.results44, go_sem]) rfl ⟨by rw [HF.out]; rfl, HW.out⟩
    · have : k = 6 := by omega
      subst this
      have HF : Hid (rdUv 0 0 (b.drop at_) = none) := by
        unfold Hid
        rw [← HE.out, rdUv_six]
      go_wp2
      refine bodyPost_ret (v := .tuple #[.int .i64 0, .int .i64 0, .bool false]) (by simp [results, Try.results44, go_sem]) rfl ⟨by rw [HF.out]; rfl, HW.out⟩
set_option maxHeartbeats 3200000 in
set_option maxRecDepth 100000 in
theorem impl_ReadUvarint_calls (v : Value) (b : List UInt8) (at_ : Nat) (w : World) (hr : RdW w (.s b.length (b.flatMap eByte)) v) (hz : b.length ≤ 1048576) (hat : at_ ≤ b.length) :
    Calls Try.prog 46 #[v, .int .i64 at_] w fun e w' => e = .returned (uvR (rdUv 0 0 (b.drop at_)) at_) ∧ w' = w := by
  obtain ⟨A, c, rfl, ⟨hcl, hcm, hl⟩⟩ := hr.slice
  have HR := Lib.hid hr
  clear hr
  by_cases hnn : at_ = b.length
  · subst hnn
    have HF : Hid (rdUv 0 0 (b.drop b.length) = none) := by unfold Hid; rw [List.drop_length, rdUv_nil]
    have HI : Hid (inR (b.length : Int) 0 ((b.length : Int) - 1) = false) := by unfold Hid inR; simp; omega
    go_enter Try.func46, Try.ntmps46
    go_wp2_with fail
    refine (impl_in_calls _ _ _ _).mono ?_
    rintro e w1 ⟨rfl, hw1⟩
    have hw1 := hw1.symm
    subst hw1
    rw [HI.out]
    go_wp2
    refine bodyPost_ret (v := .tuple #[.int .i64 0, .int .i64 0, .bool false]) (by simp [results, Try.results46, go_sem]) rfl ⟨by rw [HF.out]; rfl, rfl⟩
  have HI : Hid (inR (at_ : Int) 0 ((b.length : Int) - 1) = true) := by unfold Hid inR; simp; omega
  obtain ⟨x0, hx0⟩ : ∃ x, b[0]? = some x := ⟨b[0], List.getElem?_eq_getElem (by omega)⟩
  obtain ⟨ad0, rfl, -, -⟩ := row_eByte HR.out hx0
  clear hx0
  go_enter Try.func46, Try.ntmps46
  go_wp2_with fail
  refine (impl_in_calls _ _ _ _).mono ?_
  rintro e w1 ⟨rfl, hw1⟩
  have hw1 := hw1.symm
  subst hw1
  rw [HI.out]
  go_wp2
  go_loopw [7, 20] (fun a b_ wr => ∃ (k acc : Nat), k ≤ 6 ∧ a = .int .i64 acc ∧ b_ = .int .i64 k ∧ acc < 4398046511104 ∧ Hid (acc < 128 ^ k) ∧ Hid (wr = w) ∧ at_ + k ≤ b.length ∧ Hid (rdUv k acc (b.drop (at_ + k)) = rdUv 0 0 (b.drop at_))) (fun a b_ wr => 7 - (intOf b_).toNat)
  case atStart => exact ⟨0, 0, by omega, rfl, rfl, by omega, (by show (0 : Nat) < 1; omega), rfl, by omega, rfl⟩
  case round =>
    obtain ⟨k, acc, hk, rfl, rfl, hac, HAC, HW, hkl, HE⟩ := hrel
    have hlk : ((b.length - at_ : Nat) : Int) = (b.length : Int) - at_ := by omega
    by_cases hin : at_ + k < b.length
    · by_cases hlt : k < 6
      · obtain ⟨x, hx⟩ : ∃ x, b[at_ + k]? = some x := ⟨b[at_ + k], List.getElem?_eq_getElem hin⟩
        have HR1 : Hid (RdW wr (.s b.length (b.flatMap eByte)) (.slice (some ad0) b.length c)) := by unfold Hid; rw [HW.out]; exact HR.out
        obtain ⟨ad, hade, hab, h0⟩ := row_eByte HR1.out hx
        injection hade with hade
        subst hade
        rw [show ad0.add (at_ + k) = (ad0.add at_).add k from (addr_add_add _ _ _).symm] at h0
        have hab' : ((ad0.add at_).add k).block < wr.heap.size := by rw [block_of_add, block_of_add]; exact hab
        have hd0 : b.drop (at_ + k) = x :: b.drop (at_ + k + 1) := by
          obtain ⟨hlx, hex⟩ := List.getElem?_eq_some_iff.1 hx
          rw [List.drop_eq_getElem_cons hlx, hex]
        rw [hd0] at HE
        obtain ⟨d, hd⟩ : ∃ d, d = x.toNat := ⟨_, rfl⟩
        have hdl : d < 256 := by rw [hd]; exact x.toNat_lt
        rw [← hd] at h0
        have HD := Lib.hid hd
        obtain ⟨n1, hn1⟩ : ∃ n1 : Nat, n1 = acc + d % 128 * 128 ^ k := ⟨_, rfl⟩
        have hb := uv_bits acc d k _ (and127_u8 d hdl) hlt HAC.out
        rw [← hn1] at hb
        have HN := Lib.hid hn1
        have hnx : n1 < 4398046511104 := by
          have h1 := uv_next acc d k HAC.out
          have h2 := pow_bound (k + 1) (by omega)
          omega
        have HNX : Hid (n1 < 128 ^ (k + 1)) := by unfold Hid; rw [hn1]; exact uv_next acc d k HAC.out
        clear hn1 hd hd0 hx
        by_cases hs : d < 128
        · by_cases hdz : d = 0
          · by_cases hkz : k = 0
            · have hkp : ¬ (0 : Int) < k := by omega
              have hn0 : n1 ≤ 1000000000000 := by rw [HN.out, hdz, hkz]; have := HAC.out; rw [hkz] at this; omega
              have HF : Hid (rdUv 0 0 (b.drop at_) = some (n1, k + 1)) := by
                unfold Hid
                rw [← HE.out, rdUv_last (by omega) (by rw [← HD.out]; omega) (by rw [← HD.out, ← HN.out]; omega), ← HD.out, ← HN.out]
              subst hdz
              rw [Int.natCast_zero] at hb
              have HKZ := Lib.hid hkz
              clear hkz hlk
              go_wp2
              refine bodyPost_ret (v := .tuple #[.int .i64 n1, .int .i64 ((at_ : Int) + 1), .bool true]) (by simp [results, Try.results46, go_sem]) rfl ⟨by rw [HF.out]; unfold uvR; rw [HKZ.out]; push_cast; rfl, HW.out⟩
            · have HF : Hid (rdUv 0 0 (b.drop at_) = none) := by
                unfold Hid
                rw [← HE.out, rdUv_bad (by rw [← HD.out]; omega) (.inl ⟨by rw [← HD.out]; exact hdz, by omega⟩)]
              subst hdz
              have hkp : (0 : Int) < k := by omega
              go_wp2
              refine bodyPost_ret (v := .tuple #[.int .i64 0, .int .i64 0, .bool false]) (by simp [results, Try.results46, go_sem]) rfl ⟨by rw [HF.out]; rfl, HW.out⟩
          · by_cases hM : 1000000000000 < n1
            · have HF : Hid (rdUv 0 0 (b.drop at_) = none) := by
                unfold Hid
                rw [← HE.out, rdUv_bad (by rw [← HD.out]; omega) (.inr (by rw [← HD.out, ← HN.out]; exact hM))]
              go_wp2
              refine bodyPost_ret (v := .tuple #[.int .i64 0, .int .i64 0, .bool false]) (by simp [results, Try.results46, go_sem]) rfl ⟨by rw [HF.out]; rfl, HW.out⟩
            · have HF : Hid (rdUv 0 0 (b.drop at_) = some (n1, k + 1)) := by
                unfold Hid
                rw [← HE.out, rdUv_last (by omega) (by rw [← HD.out]; omega) (by rw [← HD.out, ← HN.out]; omega), ← HD.out, ← HN.out]
              go_wp2
              refine bodyPost_ret (v := .tuple #[.int .i64 n1, .int .i64 ((at_ : Int) + k + 1), .bool true]) (by simp [results, Try.results46, go_sem]) rfl ⟨by rw [HF.out]; unfold uvR; push_cast; rw [Int.add_assoc], HW.out⟩
        · have HF : Hid (rdUv (k + 1) n1 (b.drop (at_ + (k + 1))) = rdUv 0 0 (b.drop at_)) := by
            unfold Hid
            rw [← HE.out, rdUv_more hlt (by rw [← HD.out]; omega), ← HD.out, ← HN.out]; rfl
          go_wp2
          go_roundw
          case rel => exact ⟨k + 1, n1, by omega, rfl, by go_num, hnx, HNX, HW, by omega, HF⟩
          case measure => simp [intOf]; omega
      · have : k = 6 := by omega
        subst this
        have HF : Hid (rdUv 0 0 (b.drop at_) = none) := by
          unfold Hid
          rw [← HE.out, rdUv_six]
        obtain ⟨x, hx⟩ : ∃ x, b[at_ + 6]? = some x := ⟨b[at_ + 6], List.getElem?_eq_getElem hin⟩
        have HR1 : Hid (RdW wr (.s b.length (b.flatMap eByte)) (.slice (some ad0) b.length c)) := by unfold Hid; rw [HW.out]; exact HR.out
        obtain ⟨ad, hade, hab, h0⟩ := row_eByte HR1.out hx
        injection hade with hade
        subst hade
        rw [show ad0.add (at_ + 6) = (⟨(ad0.add at_).block, (ad0.add at_).off + 6, none⟩ : Addr) from (addr_add_add _ _ _).symm] at h0
        have hab' : (ad0.add at_).block < wr.heap.size := by rw [block_of_add]; exact hab
        clear hx
        go_wp2
        refine bodyPost_ret (v := .tuple #[.int .i64 0, .int .i64 0, .bool false]) (by simp [results, Try.results46, go_sem]) rfl ⟨by rw [HF.out]; rfl, HW.out⟩
    · have HF : Hid (rdUv 0 0 (b.drop at_) = none) := by
        unfold Hid
        rw [← HE.out, List.drop_eq_nil_of_le (by omega), rdUv_nil]
      have hkb : (k : Int) = (b.length : Int) - at_ := by omega
      go_wp2
      refine bodyPost_ret (v := .tuple #[.int .i64 0, .int .i64 0, .bool false]) (by simp [results, Try.results46, go_sem]) rfl ⟨by rw [HF.out]; rfl, HW.out⟩

end Go.Proofs.Ytklbpjnpmbidiaa
