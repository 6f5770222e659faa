import Derived.Test.YtklbpjnpmbidiaaProg
import Derived.Test.YtklbpjnpmbidiaaTypes
import Derived.StillTailTactics
import Derived.Laws.BitsLemmas
import Derived.Deep.RegionHeld3
import Derived.Laws.IdiomStrings
import Derived.Test.YtklbpjnpmbidiaaAppend
import Derived.Laws.StructEq
import Derived.Lib.SliceRun
import Derived.Shelf.RegionOpenPlain
import Derived.Test.YtklbpjnpmbidiaaCommon
namespace Go.Proofs.Ytklbpjnpmbidiaa
open Go.RowKit
set_option linter.unusedVariables false
set_option linter.unusedSimpArgs false

set_option maxHeartbeats 800000 in
set_option maxRecDepth 100000 in
theorem slices_Clone_Byte_row (v : Value) (xs : List UInt8) (w : World) (hr : RdW w (.s xs.length (xs.flatMap eByte)) v) (hz : xs.length ≤ 1048576) :
    Calls Try.prog 48 #[v] w fun e w' => ∃ A' c', e = .returned (.slice A' xs.length c') ∧ w'.ownsRow w.heap.size 5 1 (.slice A' xs.length c') xs.length (xs.flatMap vsByte) ∧ Below w.heap.size w w' := by
  obtain ⟨A, c, rfl, ⟨hnc, hcc, hl⟩⟩ := hr.slice
  have hcells := hr.cells vals_eByte
  have q1 : ∀ (w : World) (a : Option Addr) (n c n' c' : Nat), (binOp .eql 22 (.slice a n c) (.slice none n' c')).run Try.prog w = .ok (.bool a.isNone) w := fun w a n c n' c' => Lib.run_eql_slice_nil w _ _ a n c n' c' Try.underlying22
  have HR := Lib.hid hr
  clear hr
  cases A with
  | none =>
    have h0 : xs.length = 0 := by
      rcases hcells with h | ⟨ad, h, _⟩
      · exact h
      · cases h
    have hxs : xs = [] := List.eq_nil_of_length_eq_zero h0
    subst hxs
    clear hcells
    go_enter Try.func48, Try.ntmps48
    go_wp2
    go_ret
    exact ⟨none, 0, rfl, World.ownsRow_nil _ _ _ _, Below.refl _ _⟩
  | some ad =>
    clear hcells
    go_enter Try.func48, Try.ntmps48
    go_wp2_with (at_builtin; refine wpList_copy_rd rfl _ _ 22 rfl (w.heap.size) 5 _ _ 1 1 Try.underlying22 rfl rfl rfl rfl rfl (by omega) _ rfl (World.ownsRow_made w #[] 0 (Nat.le_refl _) (Nat.zero_le _) (by simp)) vals_eByte xs (one_eByte xs) (lenv_eByte xs) _ _ rfl (HR.out.alloc _) (by omega) (by omega) (by simp) ?_)
    intro A' c' w1 hown hgrow
    have HG := Lib.hid hgrow
    have HW := Lib.hid hown
    clear hown hgrow
    go_wp2
    go_ret
    exact ⟨A', c', rfl, HW.out, ((Below.refl _ w).alloc (Nat.le_refl _) _).trans (grown_below HG.out (by simp) (by intro k hk; simp [Value.ownBlock] at hk; omega))⟩
set_option maxHeartbeats 800000 in
set_option maxRecDepth 100000 in
theorem slices_Clone_Byte_calls (v : Value) (xs : List UInt8) (w : World) (hr : RdW w (.s xs.length (xs.flatMap eByte)) v) (hz : xs.length ≤ 1048576) :
    Calls Try.prog 48 #[v] w fun e w' => ∃ v' fp, e = .returned v' ∧ Own w' (.s xs.length (xs.flatMap eByte)) v' fp ∧ Fresh w fp ∧ Below w.heap.size w w' := by
  refine (slices_Clone_Byte_row v xs w hr hz).mono fun e w' ⟨A', c', he, ho, hb⟩ => ?_
  obtain ⟨fp, ho, hn, hge⟩ := ownRow_own vals_eByte ho (by omega)
  exact ⟨_, fp, he, ho, ⟨hn, hge⟩, hb⟩

/-- a number as a varint -/
def uv (n : Nat) : List UInt8 := if h : n < 128 then [UInt8.ofNat n] else UInt8.ofNat (n % 128 + 128) :: uv (n / 128)
termination_by n
decreasing_by omega
theorem uv_small {n : Nat} (h : n < 128) : uv n = [UInt8.ofNat n] := by rw [uv, dif_pos h]
theorem uv_big {n : Nat} (h : ¬ n < 128) : uv n = UInt8.ofNat (n % 128 + 128) :: uv (n / 128) := by rw [uv, dif_neg h]
theorem uv_len (k : Nat) : ∀ n : Nat, n < 128 ^ (k + 1) → (uv n).length ≤ k + 1 := by
  induction k with
  | zero => intro n h; rw [uv_small (by simpa using h)]; simp
  | succ k ih =>
    intro n h
    by_cases h1 : n < 128
    · rw [uv_small h1]; simp
    · rw [uv_big h1, List.length_cons]
      have := ih (n / 128) (by rw [Nat.pow_succ] at h; exact Nat.div_lt_of_lt_mul (by omega))
      omega
def uvI (n : Int) : List UInt8 := if inR n 0 1000000000000 = true then uv n.toNat else []
theorem wraps_i64_63 (n : Int) (h₀ : 0 ≤ n) (h₁ : n < 2 ^ 63) : IntKind.i64.wrap n = n := by rw [IntKind.wrap_i64]; omega
theorem or128 : ∀ a : Fin 256, a.val ||| 128 = a.val % 128 + 128 := by decide +kernel
theorem byteI (n : Nat) (h : n < 256) : ((UInt8.ofNat n).toNat : Int) = n := by
  rw [UInt8.toNat_ofNat']; simp; omega
theorem uv_byte_spec (k : Nat) (hk : k ≤ 1000000000000) : bits .or .i64 (bits .and .i64 (k : Int) 127) 128 % 256 = ((UInt8.ofNat (k % 128 + 128)).toNat : Int) := by
  have h1 := (bits_nat .i64 63 (by decide) wraps_i64_63 k 127 (by omega) (by decide)).1
  have h2 : k &&& 127 = k % 128 := Nat.and_two_pow_sub_one_eq_mod k 7
  have h3 := (bits_nat .i64 63 (by decide) wraps_i64_63 (k % 128) 128 (by omega) (by decide)).2
  have h4 := or128 ⟨k % 128, by omega⟩
  rw [h2] at h1
  rw [show (127 : Int) = ((127 : Nat) : Int) from rfl, h1, show (128 : Int) = ((128 : Nat) : Int) from rfl, h3, byteI _ (by omega)]
  simp only at h4
  rw [h4]; omega
theorem uv_byte_impl (k : Nat) : bits .or .u8 ((k : Int) % 256) 128 = ((UInt8.ofNat (k % 128 + 128)).toNat : Int) := by
  have h3 := (bits_nat .u8 8 (by decide) wraps_u8 (k % 256) 128 (by omega) (by decide)).2
  have h4 := or128 ⟨k % 256, by omega⟩
  simp only at h4
  rw [show ((k : Int) % 256) = ((k % 256 : Nat) : Int) from rfl, show (128 : Int) = ((128 : Nat) : Int) from rfl, h3, byteI _ (by omega), h4]
  omega
theorem uv_byte_last (k : Nat) (hk : k < 128) : (k : Int) % 256 = ((UInt8.ofNat k).toNat : Int) := by rw [byteI _ (by omega)]; omega
theorem uv_len6 (m : Nat) (hm : m ≤ 1000000000000) : (uv m).length ≤ 6 := uv_len 5 m (by omega)
theorem uvI_len (n : Int) : (uvI n).length ≤ 6 := by
  unfold uvI
  by_cases h : inR n 0 1000000000000 = true
  · rw [if_pos h]; unfold inR at h; have h' := of_decide_eq_true h; exact uv_len6 _ (by omega)
  · rw [if_neg h]; simp
theorem flat_uv_len (l : List Int) : (l.flatMap uvI).length ≤ 6 * l.length := by
  induction l with
  | nil => simp
  | cons n l ih => rw [List.flatMap_cons, List.length_append, List.length_cons]; have := uvI_len n; omega
theorem flat_uv_step {l : List Int} {i : Nat} {n : Int} (h : l[i]? = some n) : (l.take (i + 1)).flatMap uvI = (l.take i).flatMap uvI ++ uvI n := by
  rw [List.take_add_one, h, List.flatMap_append]; simp

set_option maxHeartbeats 3200000 in
set_option maxRecDepth 100000 in
theorem spec_AppendUvarint_row (v : Value) (bs : List UInt8) (n : Int) (w : World) (hr : RdW w (.s bs.length (bs.flatMap eByte)) v) (hz : bs.length ≤ 1048576) :
    Calls Try.prog 70 #[v, .int .i64 n] w fun e w' => ∃ A' c', e = .returned (.slice A' (bs ++ uvI n).length c') ∧ w'.ownsRow w.heap.size 5 1 (.slice A' (bs ++ uvI n).length c') (bs ++ uvI n).length ((bs ++ uvI n).flatMap vsByte) ∧ Below w.heap.size w w' := by
  obtain ⟨A, c, rfl, ⟨_, _, hl⟩⟩ := hr.slice
  have HR := Lib.hid hr
  clear hr
  rcases Bool.eq_false_or_eq_true (inR n 0 1000000000000) with hI | hI
  rotate_left
  · have HU : Hid (uvI n = []) := by unfold Hid uvI; rw [hI]; rfl
    have HI := Lib.hid hI
    clear hI
    go_enter Try.func70, Try.ntmps70
    go_wp2_with (at_builtin; refine wpList_copy_rd rfl _ _ 22 rfl (w.heap.size) 5 _ _ 1 1 Try.underlying22 rfl rfl rfl rfl rfl (by omega) _ rfl (ownsRow_made' (by simp) (by simp)) vals_eByte bs (one_eByte bs) (lenv_eByte bs) _ _ rfl (HR.out.alloc _) (by omega) (by omega) (by simp) ?_)
    intro A1 c1 w1 ho1 hg1
    have HO1 := Lib.hid ho1
    have HB1 := Lib.hid (((Below.refl w.heap.size w).alloc (Nat.le_refl _) _).trans (grown_below hg1 (by simp) (by intro k hk; simp [Value.ownBlock] at hk; omega)))
    clear ho1 hg1
    go_wp2_with fail
    refine (spec_l1In_calls _ _ _ _).mono ?_
    rintro e w2 ⟨rfl, rfl⟩
    rw [HI.out]
    go_wp2
    go_ret
    rw [HU.out, List.append_nil]
    exact ⟨A1, c1, rfl, HO1.out, HB1.out⟩
  obtain ⟨m, rfl⟩ : ∃ m : Nat, n = m := by
    unfold inR at hI; have h' := of_decide_eq_true hI; exact ⟨n.toNat, by omega⟩
  have hm : m ≤ 1000000000000 := by unfold inR at hI; have h' := of_decide_eq_true hI; omega
  have HU : Hid (uvI (m : Int) = uv m) := by unfold Hid uvI; rw [hI]; simp
  have HI := Lib.hid hI
  have HL6 := Lib.hid (uv_len6 m hm)
  clear hI
  go_enter Try.func70, Try.ntmps70
  go_wp2_with (at_builtin; refine wpList_copy_rd rfl _ _ 22 rfl (w.heap.size) 5 _ _ 1 1 Try.underlying22 rfl rfl rfl rfl rfl (by omega) _ rfl (ownsRow_made' (by simp) (by simp)) vals_eByte bs (one_eByte bs) (lenv_eByte bs) _ _ rfl (HR.out.alloc _) (by omega) (by omega) (by simp) ?_)
  intro A1 c1 w1 ho1 hg1
  have HO1 := Lib.hid ho1
  have HB1 := Lib.hid (((Below.refl w.heap.size w).alloc (Nat.le_refl _) _).trans (grown_below hg1 (by simp) (by intro k hk; simp [Value.ownBlock] at hk; omega)))
  clear ho1 hg1
  go_wp2_with fail
  refine (spec_l1In_calls _ _ _ _).mono ?_
  rintro e w2 ⟨rfl, rfl⟩
  rw [HI.out]
  go_wp2
  go_loopw [1, 5] (fun a b wr => ∃ (k : Nat) (ys : List UInt8) (A' : Option Addr) (c' : Nat), a = .int .i64 k ∧ k ≤ 1000000000000 ∧ b = .slice A' ys.length c' ∧ ys.length ≤ 5000000 ∧ Hid (ys ++ uv k = bs ++ uv m) ∧ Hid (wr.ownsRow w.heap.size 5 1 (.slice A' ys.length c') ys.length (ys.flatMap vsByte)) ∧ Hid (Below w.heap.size w wr)) (fun a b wr => (intOf a).toNat)
  case atStart => exact ⟨m, bs, A1, c1, rfl, hm, rfl, by omega, rfl, HO1, HB1⟩
  case round =>
    obtain ⟨k, ys, A', c', rfl, hk, rfl, hy, HE, HO, HB⟩ := hrel
    have hyl : ys.length + 1 ≤ 4194304 := by
      have h1 := congrArg List.length HE.out
      have h2 := HL6.out
      rw [List.length_append, List.length_append] at h1
      have h3 : 1 ≤ (uv k).length := by
        by_cases hk1 : k < 128
        · rw [uv_small hk1]; simp
        · rw [uv_big hk1]; simp
      omega
    have hlo := HO.out.lt
    by_cases hbig : (127 : Int) < k
    · have HBY0 := uv_byte_spec k hk
      have HUB0 := uv_big (n := k) (by omega)
      generalize UInt8.ofNat (k % 128 + 128) = bt at HBY0 HUB0
      have HBY := Lib.hid HBY0
      have HUB := Lib.hid HUB0
      clear HBY0 HUB0
      go_wp2_with (at_builtin; rw [HBY.out]; refine wpList_append_rd rfl _ _ 22 rfl (w.heap.size) 5 _ _ 1 1 Try.underlying22 rfl rfl rfl rfl rfl (by omega) _ ys.length _ rfl (HO.out.alloc _) vals_eByte [bt] (one_eByte _) (lenv_eByte _) _ _ rfl (rdW_one vals_eByte wr bt 5) (by simp; omega) (by omega) (by have := HB.out.size; simp; omega) ?_)
      intro A2 c2 w2 hown hgrow
      have HB2 := Lib.hid ((HB.out.alloc HB.out.size _).trans (grown_below hgrow (by have := HB.out.size; simp; omega) (fun k hk => (hlo k hk).1)))
      have HO2 : Hid (w2.ownsRow w.heap.size 5 1 (.slice A2 (ys ++ [bt]).length c2) (ys ++ [bt]).length ((ys ++ [bt]).flatMap vsByte)) := by
        unfold Hid; rw [List.flatMap_append, List.length_append]; exact hown
      clear hown hgrow
      go_wp2
      go_roundw
      case rel => exact ⟨k / 128, ys ++ [bt], A2, c2, by first | rfl | simp, by omega, by rw [List.length_append]; rfl, by rw [List.length_append]; simp; omega, by unfold Hid; rw [← HE.out, HUB.out]; simp, HO2, HB2⟩
      case measure => simp [intOf]; omega
    · have HBY0 : (k : Int) = ((UInt8.ofNat k).toNat : Int) := by rw [byteI _ (by omega)]
      have HUS0 : bs ++ uvI (m : Int) = ys ++ (UInt8.ofNat k :: []) := by rw [HU.out, ← HE.out, uv_small (by omega)]
      generalize UInt8.ofNat k = bt at HBY0 HUS0
      have HUS := Lib.hid HUS0
      have HRD : Hid (RdW (wr.alloc (.cells #[.int .u8 (k : Int)] 5)) (.s [bt].length ([bt].flatMap eByte)) (.slice (some ⟨wr.heap.size, 0, none⟩) [bt].length [bt].length)) := by
        unfold Hid; rw [HBY0]; exact rdW_one vals_eByte wr bt 5
      clear HBY0 HUS0
      go_wp2_with (at_builtin; refine wpList_append_rd rfl _ _ 22 rfl (w.heap.size) 5 _ _ 1 1 Try.underlying22 rfl rfl rfl rfl rfl (by omega) _ ys.length _ rfl (HO.out.alloc _) vals_eByte [bt] (one_eByte _) (lenv_eByte _) _ _ rfl HRD.out (by simp; omega) (by omega) (by have := HB.out.size; simp; omega) ?_)
      intro A2 c2 w2 hown hgrow
      have HB2 := Lib.hid ((HB.out.alloc HB.out.size _).trans (grown_below hgrow (by have := HB.out.size; simp; omega) (fun k hk => (hlo k hk).1)))
      have HO2 := Lib.hid hown
      clear hown hgrow
      go_wp2
      go_ret
      rw [HUS.out, List.length_append, List.flatMap_append]
      exact ⟨A2, c2, rfl, HO2.out, HB2.out⟩
set_option maxHeartbeats 3200000 in
set_option maxRecDepth 100000 in
theorem impl_AppendUvarint_row (v : Value) (bs : List UInt8) (n : Int) (w : World) (hr : RdW w (.s bs.length (bs.flatMap eByte)) v) (hz : bs.length ≤ 1048576) :
    Calls Try.prog 68 #[v, .int .i64 n] w fun e w' => ∃ A' c', e = .returned (.slice A' (bs ++ uvI n).length c') ∧ w'.ownsRow w.heap.size 5 1 (.slice A' (bs ++ uvI n).length c') (bs ++ uvI n).length ((bs ++ uvI n).flatMap vsByte) ∧ Below w.heap.size w w' := by
  obtain ⟨A, c, rfl, ⟨_, _, hl⟩⟩ := hr.slice
  have HR := Lib.hid hr
  clear hr
  rcases Bool.eq_false_or_eq_true (inR n 0 1000000000000) with hI | hI
  rotate_left
  · have HU : Hid (uvI n = []) := by unfold Hid uvI; rw [hI]; rfl
    have HI := Lib.hid hI
    clear hI
    have HCL := Lib.hid (slices_Clone_Byte_row (.slice A bs.length c) bs w HR.out hz)
    go_enter Try.func68, Try.ntmps68
    go_wp2_with fail
    refine HCL.out.mono ?_
    rintro e w1 ⟨A1, c1, rfl, ho1, hb1⟩
    have HO1 := Lib.hid ho1
    have HB1 := Lib.hid hb1
    clear ho1 hb1
    go_wp2_with fail
    refine (impl_in_calls _ _ _ _).mono ?_
    rintro e w2 ⟨rfl, rfl⟩
    rw [HI.out]
    go_wp2
    go_ret
    rw [HU.out, List.append_nil]
    exact ⟨A1, c1, rfl, HO1.out, HB1.out⟩
  obtain ⟨m, rfl⟩ : ∃ m : Nat, n = m := by
    unfold inR at hI; have h' := of_decide_eq_true hI; exact ⟨n.toNat, by omega⟩
  have hm : m ≤ 1000000000000 := by unfold inR at hI; have h' := of_decide_eq_true hI; omega
  have HU : Hid (uvI (m : Int) = uv m) := by unfold Hid uvI; rw [hI]; simp
  have HI := Lib.hid hI
  have HL6 := Lib.hid (uv_len6 m hm)
  clear hI
  have HCL := Lib.hid (slices_Clone_Byte_row (.slice A bs.length c) bs w HR.out hz)
  go_enter Try.func68, Try.ntmps68
  go_wp2_with fail
  refine HCL.out.mono ?_
  rintro e w1 ⟨A1, c1, rfl, ho1, hb1⟩
  have HO1 := Lib.hid ho1
  have HB1 := Lib.hid hb1
  clear ho1 hb1
  go_wp2_with fail
  refine (impl_in_calls _ _ _ _).mono ?_
  rintro e w2 ⟨rfl, rfl⟩
  rw [HI.out]
  go_wp2
  go_loopw [1, 5] (fun a b wr => ∃ (k : Nat) (ys : List UInt8) (A' : Option Addr) (c' : Nat), a = .int .i64 k ∧ k ≤ 1000000000000 ∧ b = .slice A' ys.length c' ∧ ys.length ≤ 5000000 ∧ Hid (ys ++ uv k = bs ++ uv m) ∧ Hid (wr.ownsRow w.heap.size 5 1 (.slice A' ys.length c') ys.length (ys.flatMap vsByte)) ∧ Hid (Below w.heap.size w wr)) (fun a b wr => (intOf a).toNat)
  case atStart => exact ⟨m, bs, A1, c1, rfl, hm, rfl, by omega, rfl, HO1, HB1⟩
  case round =>
    obtain ⟨k, ys, A', c', rfl, hk, rfl, hy, HE, HO, HB⟩ := hrel
    have hyl : ys.length + 1 ≤ 4194304 := by
      have h1 := congrArg List.length HE.out
      have h2 := HL6.out
      rw [List.length_append, List.length_append] at h1
      have h3 : 1 ≤ (uv k).length := by
        by_cases hk1 : k < 128
        · rw [uv_small hk1]; simp
        · rw [uv_big hk1]; simp
      omega
    have hlo := HO.out.lt
    by_cases hbig : (128 : Int) ≤ k
    · have HBY0 := uv_byte_impl k
      have HUB0 := uv_big (n := k) (by omega)
      generalize UInt8.ofNat (k % 128 + 128) = bt at HBY0 HUB0
      have HBY := Lib.hid HBY0
      have HUB := Lib.hid HUB0
      clear HBY0 HUB0
      go_wp2_with (at_builtin; rw [HBY.out]; refine wpList_append_rd rfl _ _ 22 rfl (w.heap.size) 5 _ _ 1 1 Try.underlying22 rfl rfl rfl rfl rfl (by omega) _ ys.length _ rfl (HO.out.alloc _) vals_eByte [bt] (one_eByte _) (lenv_eByte _) _ _ rfl (rdW_one vals_eByte wr bt 5) (by simp; omega) (by omega) (by have := HB.out.size; simp; omega) ?_)
      intro A2 c2 w2 hown hgrow
      have HB2 := Lib.hid ((HB.out.alloc HB.out.size _).trans (grown_below hgrow (by have := HB.out.size; simp; omega) (fun k hk => (hlo k hk).1)))
      have HO2 : Hid (w2.ownsRow w.heap.size 5 1 (.slice A2 (ys ++ [bt]).length c2) (ys ++ [bt]).length ((ys ++ [bt]).flatMap vsByte)) := by
        unfold Hid; rw [List.flatMap_append, List.length_append]; exact hown
      clear hown hgrow
      go_wp2
      go_roundw
      case rel => exact ⟨k / 128, ys ++ [bt], A2, c2, by first | rfl | simp, by omega, by rw [List.length_append]; rfl, by rw [List.length_append]; simp; omega, by unfold Hid; rw [← HE.out, HUB.out]; simp, HO2, HB2⟩
      case measure => simp [intOf]; omega
    · have HBY0 : (k : Int) = ((UInt8.ofNat k).toNat : Int) := by rw [byteI _ (by omega)]
      have HUS0 : bs ++ uvI (m : Int) = ys ++ (UInt8.ofNat k :: []) := by rw [HU.out, ← HE.out, uv_small (by omega)]
      generalize UInt8.ofNat k = bt at HBY0 HUS0
      have HUS := Lib.hid HUS0
      have HRD : Hid (RdW (wr.alloc (.cells #[.int .u8 (k : Int)] 5)) (.s [bt].length ([bt].flatMap eByte)) (.slice (some ⟨wr.heap.size, 0, none⟩) [bt].length [bt].length)) := by
        unfold Hid; rw [HBY0]; exact rdW_one vals_eByte wr bt 5
      clear HBY0 HUS0
      go_wp2_with (at_builtin; refine wpList_append_rd rfl _ _ 22 rfl (w.heap.size) 5 _ _ 1 1 Try.underlying22 rfl rfl rfl rfl rfl (by omega) _ ys.length _ rfl (HO.out.alloc _) vals_eByte [bt] (one_eByte _) (lenv_eByte _) _ _ rfl HRD.out (by simp; omega) (by omega) (by have := HB.out.size; simp; omega) ?_)
      intro A2 c2 w2 hown hgrow
      have HB2 := Lib.hid ((HB.out.alloc HB.out.size _).trans (grown_below hgrow (by have := HB.out.size; simp; omega) (fun k hk => (hlo k hk).1)))
      have HO2 := Lib.hid hown
      clear hown hgrow
      go_wp2
      go_ret
      rw [HUS.out, List.length_append, List.flatMap_append]
      exact ⟨A2, c2, rfl, HO2.out, HB2.out⟩

end Go.Proofs.Ytklbpjnpmbidiaa
