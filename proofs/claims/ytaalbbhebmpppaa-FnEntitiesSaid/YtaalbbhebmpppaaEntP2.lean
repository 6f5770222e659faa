import Derived.Test.YtaalbbhebmpppaaProg
import Derived.Test.YtaalbbhebmpppaaTypes
import Derived.StillTailTactics
import Derived.Deep.RegionHeld3
import Derived.Laws.IdiomStrings
import Derived.Test.YtaalbbhebmpppaaAppend
import Derived.Laws.StructEq
import Derived.Lib.SliceRun
import Derived.Shelf.RegionOpenPlain
import Derived.Test.YtaalbbhebmpppaaEntP0
namespace Go.Proofs.Ytaalbbhebmpppaa
open Go.RowKit
set_option linter.unusedVariables false
set_option linter.unusedSimpArgs false

set_option maxHeartbeats 25600000 in
set_option maxRecDepth 100000 in
theorem spec_l9Promise_2 (us : List Value) (x : GEntity) (n : Int) (w : World) (hr : RdLW w (eEntity x) us) (hs : x.Slots.length ≤ 3) (hq : x.Queue.length ≤ 1) (he : x.State = 2) (hn0 : 0 ≤ n) (hn1 : n < 7) :
    Calls Try.prog 58 #[.agg us.toArray, .int .i64 n] w fun e w' => e = .returned (.bool (promS x n)) ∧ Below w.heap.size w w' := by
  obtain ⟨v2, v6, v7, rfl, h2, h6, h7⟩ := rd_eEntity hr
  obtain ⟨A2, c2, rfl, -⟩ := h2.slice
  obtain ⟨A6, c6, rfl, -⟩ := h6.slice
  obtain ⟨A7, c7, rfl, -⟩ := h7.slice
  obtain ⟨k, sc, sl, st, va, qu, ak, pe, po, co, se⟩ := x
  dsimp only at h2 hs hq he ⊢
  subst he
  have HR2 := Lib.hid (h2.alloc (.cells #[.int .i64 k, .int .i64 sc, .slice A2 sl.length c2, .int .i64 2, .int .i64 va.Kind, .int .i64 va.N, .slice A6 qu.length c6, .slice A7 ak.length c7, .int .i64 pe, .int .i64 po, .int .i64 co, .int .i64 se] 37))
  have HK := Lib.hid (Blk.new w 37 #[.int .i64 k, .int .i64 sc, .slice A2 sl.length c2, .int .i64 2, .int .i64 va.Kind, .int .i64 va.N, .slice A6 qu.length c6, .slice A7 ak.length c7, .int .i64 pe, .int .i64 po, .int .i64 co, .int .i64 se])
  have HB := Lib.hid ((Below.refl w.heap.size w).alloc (Nat.le_refl _) (.cells #[.int .i64 k, .int .i64 sc, .slice A2 sl.length c2, .int .i64 2, .int .i64 va.Kind, .int .i64 va.N, .slice A6 qu.length c6, .slice A7 ak.length c7, .int .i64 pe, .int .i64 po, .int .i64 co, .int .i64 se] 37))
  clear hr h2 h6 h7
  have h_st : inR 2 1 4 = true := rfl
  rcases Bool.eq_false_or_eq_true (valueB va n) with h_val | h_val
  rotate_left
  · skip
    have HE : Hid (promS ⟨k, sc, sl, 2, va, qu, ak, pe, po, co, se⟩ n = false) := by
      unfold Hid
      show (inR 2 1 4 && ((valueB va n && ((pe == 0) && ((po == 0) && ((co == 0) && ((qu.length == 0) && (ak.length == 0)))))) && ((sc == 0) && (sl.length == 0)))) = _
      rw [h_st]
      rw [h_val]
      simp
    go_enter Try.func58, Try.ntmps58
    (try simp only [List.append_eq, List.cons_append, List.nil_append])
    go_wp2_with fail
    refine (spec_l1In_calls 2 1 4 _).mono ?_
    rintro e w9 ⟨rfl, hw9⟩
    subst hw9
    rw [h_st]
    go_wp2_with fail
    refine (spec_IsValue_calls va n _ hn0 hn1).mono ?_
    rintro e w8 ⟨rfl, hb8⟩
    rw [h_val]
    have HK8 := Lib.hid (HK.out.below hb8)
    have HB8 := Lib.hid (HB.out.trans (hb8.mono (by simp)))
    clear hb8
    obtain ⟨k8, f8⟩ := HK8.out.rules
    have l8 := HK8.out.lt
    go_wp2
    go_ret
    exact ⟨by rw [HE.out]; rfl, HB8.out⟩
  rcases Bool.eq_false_or_eq_true (pe == 0) with h_pe0 | h_pe0
  rotate_left
  · skip
    have g_pe0 : (pe != 0) = true := by simpa using h_pe0
    have HE : Hid (promS ⟨k, sc, sl, 2, va, qu, ak, pe, po, co, se⟩ n = false) := by
      unfold Hid
      show (inR 2 1 4 && ((valueB va n && ((pe == 0) && ((po == 0) && ((co == 0) && ((qu.length == 0) && (ak.length == 0)))))) && ((sc == 0) && (sl.length == 0)))) = _
      rw [h_st]
      rw [h_val]
      rw [h_pe0]
      simp
    go_enter Try.func58, Try.ntmps58
    (try simp only [List.append_eq, List.cons_append, List.nil_append])
    go_wp2_with fail
    refine (spec_l1In_calls 2 1 4 _).mono ?_
    rintro e w9 ⟨rfl, hw9⟩
    subst hw9
    rw [h_st]
    go_wp2_with fail
    refine (spec_IsValue_calls va n _ hn0 hn1).mono ?_
    rintro e w8 ⟨rfl, hb8⟩
    rw [h_val]
    have HK8 := Lib.hid (HK.out.below hb8)
    have HB8 := Lib.hid (HB.out.trans (hb8.mono (by simp)))
    clear hb8
    obtain ⟨k8, f8⟩ := HK8.out.rules
    have l8 := HK8.out.lt
    go_wp2
    go_ret
    exact ⟨by rw [HE.out]; rfl, HB8.out⟩
  have g_pe0 : (pe != 0) = false := by simpa using h_pe0
  rcases Bool.eq_false_or_eq_true (po == 0) with h_po0 | h_po0
  rotate_left
  · skip
    have g_po0 : (po != 0) = true := by simpa using h_po0
    have HE : Hid (promS ⟨k, sc, sl, 2, va, qu, ak, pe, po, co, se⟩ n = false) := by
      unfold Hid
      show (inR 2 1 4 && ((valueB va n && ((pe == 0) && ((po == 0) && ((co == 0) && ((qu.length == 0) && (ak.length == 0)))))) && ((sc == 0) && (sl.length == 0)))) = _
      rw [h_st]
      rw [h_val]
      rw [h_pe0]
      rw [h_po0]
      simp
    go_enter Try.func58, Try.ntmps58
    (try simp only [List.append_eq, List.cons_append, List.nil_append])
    go_wp2_with fail
    refine (spec_l1In_calls 2 1 4 _).mono ?_
    rintro e w9 ⟨rfl, hw9⟩
    subst hw9
    rw [h_st]
    go_wp2_with fail
    refine (spec_IsValue_calls va n _ hn0 hn1).mono ?_
    rintro e w8 ⟨rfl, hb8⟩
    rw [h_val]
    have HK8 := Lib.hid (HK.out.below hb8)
    have HB8 := Lib.hid (HB.out.trans (hb8.mono (by simp)))
    clear hb8
    obtain ⟨k8, f8⟩ := HK8.out.rules
    have l8 := HK8.out.lt
    go_wp2
    go_ret
    exact ⟨by rw [HE.out]; rfl, HB8.out⟩
  have g_po0 : (po != 0) = false := by simpa using h_po0
  rcases Bool.eq_false_or_eq_true (co == 0) with h_co0 | h_co0
  rotate_left
  · skip
    have g_co0 : (co != 0) = true := by simpa using h_co0
    have HE : Hid (promS ⟨k, sc, sl, 2, va, qu, ak, pe, po, co, se⟩ n = false) := by
      unfold Hid
      show (inR 2 1 4 && ((valueB va n && ((pe == 0) && ((po == 0) && ((co == 0) && ((qu.length == 0) && (ak.length == 0)))))) && ((sc == 0) && (sl.length == 0)))) = _
      rw [h_st]
      rw [h_val]
      rw [h_pe0]
      rw [h_po0]
      rw [h_co0]
      simp
    go_enter Try.func58, Try.ntmps58
    (try simp only [List.append_eq, List.cons_append, List.nil_append])
    go_wp2_with fail
    refine (spec_l1In_calls 2 1 4 _).mono ?_
    rintro e w9 ⟨rfl, hw9⟩
    subst hw9
    rw [h_st]
    go_wp2_with fail
    refine (spec_IsValue_calls va n _ hn0 hn1).mono ?_
    rintro e w8 ⟨rfl, hb8⟩
    rw [h_val]
    have HK8 := Lib.hid (HK.out.below hb8)
    have HB8 := Lib.hid (HB.out.trans (hb8.mono (by simp)))
    clear hb8
    obtain ⟨k8, f8⟩ := HK8.out.rules
    have l8 := HK8.out.lt
    go_wp2
    go_ret
    exact ⟨by rw [HE.out]; rfl, HB8.out⟩
  have g_co0 : (co != 0) = false := by simpa using h_co0
  rcases Bool.eq_false_or_eq_true (qu.length == 0) with h_q0 | h_q0
  rotate_left
  · skip
    have g_q0 : 0 < qu.length := by have h := h_q0; simp at h; exact List.length_pos_iff.2 h
    have g2_q0 : ((qu.length : Int) == 0) = false := by
      have h : ¬ (qu.length : Int) = 0 := by omega
      simpa using h
    have HE : Hid (promS ⟨k, sc, sl, 2, va, qu, ak, pe, po, co, se⟩ n = false) := by
      unfold Hid
      show (inR 2 1 4 && ((valueB va n && ((pe == 0) && ((po == 0) && ((co == 0) && ((qu.length == 0) && (ak.length == 0)))))) && ((sc == 0) && (sl.length == 0)))) = _
      rw [h_st]
      rw [h_val]
      rw [h_pe0]
      rw [h_po0]
      rw [h_co0]
      rw [h_q0]
      simp
    go_enter Try.func58, Try.ntmps58
    (try simp only [List.append_eq, List.cons_append, List.nil_append])
    go_wp2_with fail
    refine (spec_l1In_calls 2 1 4 _).mono ?_
    rintro e w9 ⟨rfl, hw9⟩
    subst hw9
    rw [h_st]
    go_wp2_with fail
    refine (spec_IsValue_calls va n _ hn0 hn1).mono ?_
    rintro e w8 ⟨rfl, hb8⟩
    rw [h_val]
    have HK8 := Lib.hid (HK.out.below hb8)
    have HB8 := Lib.hid (HB.out.trans (hb8.mono (by simp)))
    clear hb8
    obtain ⟨k8, f8⟩ := HK8.out.rules
    have l8 := HK8.out.lt
    go_wp2
    go_ret
    exact ⟨by rw [HE.out]; rfl, HB8.out⟩
  have g_q0 : qu.length ≤ 0 := by have h := h_q0; simp at h; simp [h]
  have g2_q0 : ((qu.length : Int) == 0) = true := by
    have h : (qu.length : Int) = 0 := by omega
    rw [h]; rfl
  rcases Bool.eq_false_or_eq_true (sc == 0) with h_sc0 | h_sc0
  rotate_left
  · skip
    have g_sc0 : (sc != 0) = true := by simpa using h_sc0
    have HE : Hid (promS ⟨k, sc, sl, 2, va, qu, ak, pe, po, co, se⟩ n = false) := by
      unfold Hid
      show (inR 2 1 4 && ((valueB va n && ((pe == 0) && ((po == 0) && ((co == 0) && ((qu.length == 0) && (ak.length == 0)))))) && ((sc == 0) && (sl.length == 0)))) = _
      rw [h_st]
      rw [h_val]
      rw [h_pe0]
      rw [h_po0]
      rw [h_co0]
      rw [h_q0]
      rw [h_sc0]
      simp
    go_enter Try.func58, Try.ntmps58
    (try simp only [List.append_eq, List.cons_append, List.nil_append])
    go_wp2_with fail
    refine (spec_l1In_calls 2 1 4 _).mono ?_
    rintro e w9 ⟨rfl, hw9⟩
    subst hw9
    rw [h_st]
    go_wp2_with fail
    refine (spec_IsValue_calls va n _ hn0 hn1).mono ?_
    rintro e w8 ⟨rfl, hb8⟩
    rw [h_val]
    have HK8 := Lib.hid (HK.out.below hb8)
    have HB8 := Lib.hid (HB.out.trans (hb8.mono (by simp)))
    clear hb8
    obtain ⟨k8, f8⟩ := HK8.out.rules
    have l8 := HK8.out.lt
    go_wp2
    go_ret
    exact ⟨by rw [HE.out]; rfl, HB8.out⟩
  have g_sc0 : (sc != 0) = false := by simpa using h_sc0
  rcases Bool.eq_false_or_eq_true (sl.length == 0) with h_sl0 | h_sl0
  rotate_left
  · skip
    have g_sl0 : 0 < sl.length := by have h := h_sl0; simp at h; exact List.length_pos_iff.2 h
    have g2_sl0 : ((sl.length : Int) == 0) = false := by
      have h : ¬ (sl.length : Int) = 0 := by omega
      simpa using h
    have HE : Hid (promS ⟨k, sc, sl, 2, va, qu, ak, pe, po, co, se⟩ n = false) := by
      unfold Hid
      show (inR 2 1 4 && ((valueB va n && ((pe == 0) && ((po == 0) && ((co == 0) && ((qu.length == 0) && (ak.length == 0)))))) && ((sc == 0) && (sl.length == 0)))) = _
      rw [h_st]
      rw [h_val]
      rw [h_pe0]
      rw [h_po0]
      rw [h_co0]
      rw [h_q0]
      rw [h_sc0]
      rw [h_sl0]
      simp
    go_enter Try.func58, Try.ntmps58
    (try simp only [List.append_eq, List.cons_append, List.nil_append])
    go_wp2_with fail
    refine (spec_l1In_calls 2 1 4 _).mono ?_
    rintro e w9 ⟨rfl, hw9⟩
    subst hw9
    rw [h_st]
    go_wp2_with fail
    refine (spec_IsValue_calls va n _ hn0 hn1).mono ?_
    rintro e w8 ⟨rfl, hb8⟩
    rw [h_val]
    have HK8 := Lib.hid (HK.out.below hb8)
    have HB8 := Lib.hid (HB.out.trans (hb8.mono (by simp)))
    clear hb8
    obtain ⟨k8, f8⟩ := HK8.out.rules
    have l8 := HK8.out.lt
    go_wp2
    go_ret
    exact ⟨by rw [HE.out]; rfl, HB8.out⟩
  have g_sl0 : sl.length ≤ 0 := by have h := h_sl0; simp at h; simp [h]
  have g2_sl0 : ((sl.length : Int) == 0) = true := by
    have h : (sl.length : Int) = 0 := by omega
    rw [h]; rfl
  rcases Bool.eq_false_or_eq_true (ak.length == 0) with h_k0 | h_k0
  rotate_left
  · skip
    have g_k0 : 0 < ak.length := by have h := h_k0; simp at h; exact List.length_pos_iff.2 h
    have g2_k0 : ((ak.length : Int) == 0) = false := by
      have h : ¬ (ak.length : Int) = 0 := by omega
      simpa using h
    have HE : Hid (promS ⟨k, sc, sl, 2, va, qu, ak, pe, po, co, se⟩ n = false) := by
      unfold Hid
      show (inR 2 1 4 && ((valueB va n && ((pe == 0) && ((po == 0) && ((co == 0) && ((qu.length == 0) && (ak.length == 0)))))) && ((sc == 0) && (sl.length == 0)))) = _
      rw [h_st]
      rw [h_val]
      rw [h_pe0]
      rw [h_po0]
      rw [h_co0]
      rw [h_q0]
      rw [h_sc0]
      rw [h_sl0]
      rw [h_k0]
      simp
    go_enter Try.func58, Try.ntmps58
    (try simp only [List.append_eq, List.cons_append, List.nil_append])
    go_wp2_with fail
    refine (spec_l1In_calls 2 1 4 _).mono ?_
    rintro e w9 ⟨rfl, hw9⟩
    subst hw9
    rw [h_st]
    go_wp2_with fail
    refine (spec_IsValue_calls va n _ hn0 hn1).mono ?_
    rintro e w8 ⟨rfl, hb8⟩
    rw [h_val]
    have HK8 := Lib.hid (HK.out.below hb8)
    have HB8 := Lib.hid (HB.out.trans (hb8.mono (by simp)))
    clear hb8
    obtain ⟨k8, f8⟩ := HK8.out.rules
    have l8 := HK8.out.lt
    go_wp2
    go_ret
    exact ⟨by rw [HE.out]; rfl, HB8.out⟩
  have g_k0 : ak.length ≤ 0 := by have h := h_k0; simp at h; simp [h]
  have g2_k0 : ((ak.length : Int) == 0) = true := by
    have h : (ak.length : Int) = 0 := by omega
    rw [h]; rfl
  have HE : Hid (promS ⟨k, sc, sl, 2, va, qu, ak, pe, po, co, se⟩ n = true) := by
    unfold Hid
    show (inR 2 1 4 && ((valueB va n && ((pe == 0) && ((po == 0) && ((co == 0) && ((qu.length == 0) && (ak.length == 0)))))) && ((sc == 0) && (sl.length == 0)))) = _
    rw [h_st]
    rw [h_val]
    rw [h_pe0]
    rw [h_po0]
    rw [h_co0]
    rw [h_q0]
    rw [h_sc0]
    rw [h_sl0]
    rw [h_k0]
    simp
  go_enter Try.func58, Try.ntmps58
  (try simp only [List.append_eq, List.cons_append, List.nil_append])
  go_wp2_with fail
  refine (spec_l1In_calls 2 1 4 _).mono ?_
  rintro e w9 ⟨rfl, hw9⟩
  subst hw9
  rw [h_st]
  go_wp2_with fail
  refine (spec_IsValue_calls va n _ hn0 hn1).mono ?_
  rintro e w8 ⟨rfl, hb8⟩
  rw [h_val]
  have HK8 := Lib.hid (HK.out.below hb8)
  have HB8 := Lib.hid (HB.out.trans (hb8.mono (by simp)))
  clear hb8
  obtain ⟨k8, f8⟩ := HK8.out.rules
  have l8 := HK8.out.lt
  go_wp2
  go_ret
  exact ⟨by rw [HE.out]; rfl, HB8.out⟩

end Go.Proofs.Ytaalbbhebmpppaa
