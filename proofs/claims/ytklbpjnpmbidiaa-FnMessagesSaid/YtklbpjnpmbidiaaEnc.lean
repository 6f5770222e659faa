import Derived.Test.YtklbpjnpmbidiaaProg
import Derived.Test.YtklbpjnpmbidiaaTypes
import Derived.StillTailTactics
import Derived.Deep.RegionHeld3
import Derived.Laws.IdiomStrings
import Derived.Test.YtklbpjnpmbidiaaAppend
import Derived.Laws.StructEq
import Derived.Lib.SliceRun
import Derived.Shelf.RegionOpenPlain
import Derived.Test.YtklbpjnpmbidiaaUv
namespace Go.Proofs.Ytklbpjnpmbidiaa
open Go.RowKit
set_option linter.unusedVariables false
set_option linter.unusedSimpArgs false

set_option maxHeartbeats 3200000 in
set_option maxRecDepth 100000 in
theorem spec_EncodeInts_row (v : Value) (l : List Int) (w : World) (hr : RdW w (.s l.length (l.flatMap eInt)) v) (hz : l.length ≤ 100000) :
    Calls Try.prog 63 #[v] w fun e w' => ∃ A' c', e = .returned (.slice A' (l.flatMap uvI).length c') ∧ w'.ownsRow w.heap.size 5 1 (.slice A' (l.flatMap uvI).length c') (l.flatMap uvI).length ((l.flatMap uvI).flatMap vsByte) ∧ Below w.heap.size w w' := by
  obtain ⟨A, c, rfl, ⟨_, _, hl⟩⟩ := hr.slice
  have HR := Lib.hid hr
  clear hr
  go_enter Try.func63, Try.ntmps63
  go_wp2
  go_loopw [3, 4] (fun a b wr => ∃ (i : Nat) (A' : Option Addr) (n c' : Nat), i ≤ l.length ∧ b = .int .i64 i ∧ a = .slice A' n c' ∧ n ≤ 1048576 ∧ Hid (n = ((l.take i).flatMap uvI).length) ∧ Hid (wr.ownsRow w.heap.size 5 1 (.slice A' n c') n (((l.take i).flatMap uvI).flatMap vsByte)) ∧ Hid (Below w.heap.size w wr)) (fun a b wr => l.length - (intOf b).toNat)
  case atStart => exact ⟨0, _, _, _, by omega, rfl, rfl, by omega, rfl, ownsRow_made' rfl (Nat.le_refl _), (Below.refl _ _).alloc (Nat.le_refl _) _⟩
  case round =>
    obtain ⟨i, A', n, c', hi, rfl, rfl, hn, HN, HO, HB⟩ := hrel
    by_cases hlt : i < l.length
    · obtain ⟨x, hx⟩ : ∃ x, l[i]? = some x := ⟨l[i], List.getElem?_eq_getElem hlt⟩
      obtain ⟨ad, rfl, hab, h0⟩ := row_eInt (HR.out.below HB.out) hx
      have hab' : (ad.add i).block < wr.heap.size := by rw [block_of_add]; exact hab
      have HS := Lib.hid (flat_uv_step hx)
      have hrd : RdW wr (.s ((l.take i).flatMap uvI).length (((l.take i).flatMap uvI).flatMap eByte)) (.slice A' n c') := by
        have h1 := HN.out
        have h2 := HO.out
        subst h1
        exact ownsRow_rdw vals_eByte h2 (by omega)
      have HC := Lib.hid (spec_AppendUvarint_row (.slice A' n c') ((l.take i).flatMap uvI) x wr hrd (by have := HN.out; omega))
      have hln : ((l.take (i + 1)).flatMap uvI).length ≤ 1048576 := by have h1 := flat_uv_len (l.take (i + 1)); rw [List.length_take] at h1; have : min (i + 1) l.length ≤ l.length := Nat.min_le_right _ _; omega
      clear hx hrd
      go_wp2_with fail
      refine HC.out.mono ?_
      rintro e w1 ⟨A1, c1, rfl, ho1, hb1⟩
      have HB1 := Lib.hid (HB.out.trans (hb1.mono HB.out.size))
      have HO1 : Hid (w1.ownsRow w.heap.size 5 1 (.slice A1 ((l.take (i + 1)).flatMap uvI).length c1) ((l.take (i + 1)).flatMap uvI).length (((l.take (i + 1)).flatMap uvI).flatMap vsByte)) := by
        unfold Hid; rw [HS.out]; exact ho1.mono HB.out.size
      rw [show ((l.take i).flatMap uvI ++ uvI x) = (l.take (i + 1)).flatMap uvI from HS.out.symm]
      clear ho1 hb1
      obtain ⟨n1, hn1⟩ : ∃ n1, n1 = ((l.take (i + 1)).flatMap uvI).length := ⟨_, rfl⟩
      rw [← hn1] at HO1 hln
      rw [← hn1]
      have HN1 := Lib.hid hn1
      clear hn1
      go_wp2
      go_roundw
      case rel => exact ⟨i + 1, A1, n1, c1, by omega, by go_num, rfl, hln, HN1, HO1, HB1⟩
      case measure => simp [intOf]; omega
    · have : i = l.length := by omega
      subst this
      go_wp2
      go_ret
      have hO := HO.out
      have hkk := HN.out
      rw [List.take_length] at hO hkk
      subst hkk
      exact ⟨A', c', rfl, hO, HB.out⟩
set_option maxHeartbeats 3200000 in
set_option maxRecDepth 100000 in
theorem impl_EncodeInts_row (v : Value) (l : List Int) (w : World) (hr : RdW w (.s l.length (l.flatMap eInt)) v) (hz : l.length ≤ 100000) :
    Calls Try.prog 56 #[v] w fun e w' => ∃ A' c', e = .returned (.slice A' (l.flatMap uvI).length c') ∧ w'.ownsRow w.heap.size 5 1 (.slice A' (l.flatMap uvI).length c') (l.flatMap uvI).length ((l.flatMap uvI).flatMap vsByte) ∧ Below w.heap.size w w' := by
  obtain ⟨A, c, rfl, ⟨_, _, hl⟩⟩ := hr.slice
  have HR := Lib.hid hr
  clear hr
  go_enter Try.func56, Try.ntmps56
  go_wp2
  go_loopw [3, 9] (fun a b wr => ∃ (i : Nat) (A' : Option Addr) (n c' : Nat), i ≤ l.length ∧ b = .int .i64 i ∧ a = .slice A' n c' ∧ n ≤ 1048576 ∧ Hid (n = ((l.take i).flatMap uvI).length) ∧ Hid (wr.ownsRow w.heap.size 5 1 (.slice A' n c') n (((l.take i).flatMap uvI).flatMap vsByte)) ∧ Hid (Below w.heap.size w wr)) (fun a b wr => l.length - (intOf b).toNat)
  case atStart => exact ⟨0, _, _, _, by omega, rfl, rfl, by omega, rfl, ownsRow_made' rfl (Nat.le_refl _), (Below.refl _ _).alloc (Nat.le_refl _) _⟩
  case round =>
    obtain ⟨i, A', n, c', hi, rfl, rfl, hn, HN, HO, HB⟩ := hrel
    by_cases hlt : i < l.length
    · obtain ⟨x, hx⟩ : ∃ x, l[i]? = some x := ⟨l[i], List.getElem?_eq_getElem hlt⟩
      obtain ⟨ad, rfl, hab, h0⟩ := row_eInt (HR.out.below HB.out) hx
      have hab' : (ad.add i).block < wr.heap.size := by rw [block_of_add]; exact hab
      have HS := Lib.hid (flat_uv_step hx)
      have hrd : RdW wr (.s ((l.take i).flatMap uvI).length (((l.take i).flatMap uvI).flatMap eByte)) (.slice A' n c') := by
        have h1 := HN.out
        have h2 := HO.out
        subst h1
        exact ownsRow_rdw vals_eByte h2 (by omega)
      have HC := Lib.hid (impl_AppendUvarint_row (.slice A' n c') ((l.take i).flatMap uvI) x wr hrd (by have := HN.out; omega))
      have hln : ((l.take (i + 1)).flatMap uvI).length ≤ 1048576 := by have h1 := flat_uv_len (l.take (i + 1)); rw [List.length_take] at h1; have : min (i + 1) l.length ≤ l.length := Nat.min_le_right _ _; omega
      clear hx hrd
      go_wp2_with fail
      refine HC.out.mono ?_
      rintro e w1 ⟨A1, c1, rfl, ho1, hb1⟩
      have HB1 := Lib.hid (HB.out.trans (hb1.mono HB.out.size))
      have HO1 : Hid (w1.ownsRow w.heap.size 5 1 (.slice A1 ((l.take (i + 1)).flatMap uvI).length c1) ((l.take (i + 1)).flatMap uvI).length (((l.take (i + 1)).flatMap uvI).flatMap vsByte)) := by
        unfold Hid; rw [HS.out]; exact ho1.mono HB.out.size
      rw [show ((l.take i).flatMap uvI ++ uvI x) = (l.take (i + 1)).flatMap uvI from HS.out.symm]
      clear ho1 hb1
      obtain ⟨n1, hn1⟩ : ∃ n1, n1 = ((l.take (i + 1)).flatMap uvI).length := ⟨_, rfl⟩
      rw [← hn1] at HO1 hln
      rw [← hn1]
      have HN1 := Lib.hid hn1
      clear hn1
      go_wp2
      go_roundw
      case rel => exact ⟨i + 1, A1, n1, c1, by omega, by go_num, rfl, hln, HN1, HO1, HB1⟩
      case measure => simp [intOf]; omega
    · have : i = l.length := by omega
      subst this
      go_wp2
      go_ret
      have hO := HO.out
      have hkk := HN.out
      rw [List.take_length] at hO hkk
      subst hkk
      exact ⟨A', c', rfl, hO, HB.out⟩
set_option maxHeartbeats 3200000 in
set_option maxRecDepth 100000 in
theorem spec_AppendBytes_row (v : Value) (bs : List UInt8) (v' : Value) (ds : List UInt8) (w : World) (hr : RdW w (.s bs.length (bs.flatMap eByte)) v) (hr' : RdW w (.s ds.length (ds.flatMap eByte)) v') (hz : bs.length ≤ 1048576) (hz' : ds.length ≤ 1048576) :
    Calls Try.prog 62 #[v, v'] w fun e w' => ∃ A' c', e = .returned (.slice A' (bs ++ uvI ds.length ++ ds).length c') ∧ w'.ownsRow w.heap.size 5 1 (.slice A' (bs ++ uvI ds.length ++ ds).length c') (bs ++ uvI ds.length ++ ds).length ((bs ++ uvI ds.length ++ ds).flatMap vsByte) ∧ Below w.heap.size w w' := by
  have HC := Lib.hid (spec_AppendUvarint_row v bs ds.length w hr hz)
  obtain ⟨A, c, rfl, ⟨_, _, hl⟩⟩ := hr.slice
  obtain ⟨A', c', rfl, ⟨_, _, hl'⟩⟩ := hr'.slice
  have HR' := Lib.hid hr'
  have hul := uvI_len ds.length
  have HUL := Lib.hid hul
  clear hr hr' hul
  go_enter Try.func62, Try.ntmps62
  go_wp2_with fail
  refine HC.out.mono ?_
  rintro e w1 ⟨A1, c1, rfl, ho1, hb1⟩
  have HO1 := Lib.hid ho1
  have HB1 := Lib.hid hb1
  have hnl : (bs ++ uvI (ds.length : Int)).length ≤ 1048582 := by rw [List.length_append]; have := HUL.out; omega
  clear ho1 hb1
  obtain ⟨ys, hys⟩ : ∃ ys, ys = bs ++ uvI (ds.length : Int) := ⟨_, rfl⟩
  rw [← hys] at HO1 hnl
  rw [← hys]
  have HYS := Lib.hid hys
  clear hys
  go_wp2_with (at_builtin; refine wpList_append_rd rfl _ _ 22 rfl (w.heap.size) 5 _ _ 1 1 Try.underlying22 rfl rfl rfl rfl rfl (by omega) _ ys.length _ rfl HO1.out vals_eByte ds (one_eByte _) (lenv_eByte _) _ _ rfl (HR'.out.below HB1.out) (by omega) (by omega) HB1.out.size ?_)
  intro A2 c2 w2 hown hgrow
  have hlo := HO1.out.lt
  have HB2 := Lib.hid (HB1.out.trans (grown_below hgrow HB1.out.size (fun k hk => (hlo k hk).1)))
  have HO2 := Lib.hid hown
  clear hown hgrow hlo
  go_wp2
  go_ret
  rw [show bs ++ uvI (ds.length : Int) = ys from HYS.out.symm, List.length_append, List.flatMap_append]
  exact ⟨A2, c2, rfl, HO2.out, HB2.out⟩
set_option maxHeartbeats 3200000 in
set_option maxRecDepth 100000 in
theorem impl_AppendBytes_row (v : Value) (bs : List UInt8) (v' : Value) (ds : List UInt8) (w : World) (hr : RdW w (.s bs.length (bs.flatMap eByte)) v) (hr' : RdW w (.s ds.length (ds.flatMap eByte)) v') (hz : bs.length ≤ 1048576) (hz' : ds.length ≤ 1048576) :
    Calls Try.prog 55 #[v, v'] w fun e w' => ∃ A' c', e = .returned (.slice A' (bs ++ uvI ds.length ++ ds).length c') ∧ w'.ownsRow w.heap.size 5 1 (.slice A' (bs ++ uvI ds.length ++ ds).length c') (bs ++ uvI ds.length ++ ds).length ((bs ++ uvI ds.length ++ ds).flatMap vsByte) ∧ Below w.heap.size w w' := by
  have HC := Lib.hid (impl_AppendUvarint_row v bs ds.length w hr hz)
  obtain ⟨A, c, rfl, ⟨_, _, hl⟩⟩ := hr.slice
  obtain ⟨A', c', rfl, ⟨_, _, hl'⟩⟩ := hr'.slice
  have HR' := Lib.hid hr'
  have hul := uvI_len ds.length
  have HUL := Lib.hid hul
  clear hr hr' hul
  go_enter Try.func55, Try.ntmps55
  go_wp2_with fail
  refine HC.out.mono ?_
  rintro e w1 ⟨A1, c1, rfl, ho1, hb1⟩
  have HO1 := Lib.hid ho1
  have HB1 := Lib.hid hb1
  have hnl : (bs ++ uvI (ds.length : Int)).length ≤ 1048582 := by rw [List.length_append]; have := HUL.out; omega
  clear ho1 hb1
  obtain ⟨ys, hys⟩ : ∃ ys, ys = bs ++ uvI (ds.length : Int) := ⟨_, rfl⟩
  rw [← hys] at HO1 hnl
  rw [← hys]
  have HYS := Lib.hid hys
  clear hys
  go_wp2_with (at_builtin; refine wpList_append_rd rfl _ _ 22 rfl (w.heap.size) 5 _ _ 1 1 Try.underlying22 rfl rfl rfl rfl rfl (by omega) _ ys.length _ rfl HO1.out vals_eByte ds (one_eByte _) (lenv_eByte _) _ _ rfl (HR'.out.below HB1.out) (by omega) (by omega) HB1.out.size ?_)
  intro A2 c2 w2 hown hgrow
  have hlo := HO1.out.lt
  have HB2 := Lib.hid (HB1.out.trans (grown_below hgrow HB1.out.size (fun k hk => (hlo k hk).1)))
  have HO2 := Lib.hid hown
  clear hown hgrow hlo
  go_wp2
  go_ret
  rw [show bs ++ uvI (ds.length : Int) = ys from HYS.out.symm, List.length_append, List.flatMap_append]
  exact ⟨A2, c2, rfl, HO2.out, HB2.out⟩

end Go.Proofs.Ytklbpjnpmbidiaa
