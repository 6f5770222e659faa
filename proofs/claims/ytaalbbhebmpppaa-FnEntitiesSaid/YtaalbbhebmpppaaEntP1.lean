import Derived.Test.YtaalbbhebmpppaaProg
import Derived.Test.YtaalbbhebmpppaaTypes
import Derived.StillTailTactics
import Derived.Deep.RegionHeld3
import Derived.Laws.IdiomStrings
import Derived.Test.YtaalbbhebmpppaaAppend
import Derived.Laws.StructEq
import Derived.Lib.SliceRun
import Derived.Shelf.RegionOpenPlain
import Derived.Test.YtaalbbhebmpppaaEntP0
namespace Go.Proofs.Ytaalbbhebmpppaa
open Go.RowKit
set_option linter.unusedVariables false
set_option linter.unusedSimpArgs false

set_option maxHeartbeats 25600000 in
set_option maxRecDepth 100000 in
theorem spec_l9Promise_1 (us : List Value) (x : GEntity) (n : Int) (w : World) (hr : RdLW w (eEntity x) us) (hs : x.Slots.length ≤ 3) (hq : x.Queue.length ≤ 1) (he : x.State = 1) (hn0 : 0 ≤ n) (hn1 : n < 7) :
    Calls Try.prog 58 #[.agg us.toArray, .int .i64 n] w fun e w' => e = .returned (.bool (promS x n)) ∧ Below w.heap.size w w' := by
  obtain ⟨v2, v6, v7, rfl, h2, h6, h7⟩ := rd_eEntity hr
  obtain ⟨A2, c2, rfl, -⟩ := h2.slice
  obtain ⟨A6, c6, rfl, -⟩ := h6.slice
  obtain ⟨A7, c7, rfl, -⟩ := h7.slice
  obtain ⟨k, sc, sl, st, va, qu, ak, pe, po, co, se⟩ := x
  dsimp only at h2 hs hq he ⊢
  subst he
  have HR2 := Lib.hid (h2.alloc (.cells #[.int .i64 k, .int .i64 sc, .slice A2 sl.length c2, .int .i64 1, .int .i64 va.Kind, .int .i64 va.N, .slice A6 qu.length c6, .slice A7 ak.length c7, .int .i64 pe, .int .i64 po, .int .i64 co, .int .i64 se] 37))
  have HK := Lib.hid (Blk.new w 37 #[.int .i64 k, .int .i64 sc, .slice A2 sl.length c2, .int .i64 1, .int .i64 va.Kind, .int .i64 va.N, .slice A6 qu.length c6, .slice A7 ak.length c7, .int .i64 pe, .int .i64 po, .int .i64 co, .int .i64 se])
  have HB := Lib.hid ((Below.refl w.heap.size w).alloc (Nat.le_refl _) (.cells #[.int .i64 k, .int .i64 sc, .slice A2 sl.length c2, .int .i64 1, .int .i64 va.Kind, .int .i64 va.N, .slice A6 qu.length c6, .slice A7 ak.length c7, .int .i64 pe, .int .i64 po, .int .i64 co, .int .i64 se] 37))
  clear hr h2 h6 h7
  have h_st : inR 1 1 4 = true := rfl
  rcases Bool.eq_false_or_eq_true (eqbValue va ⟨0, 0⟩) with h_valz | h_valz
  rotate_left
  · skip
    have g_valz := fun w => run_eql_Value va ⟨0, 0⟩ w
    have g2_valz := fun w => run_neq_Value va ⟨0, 0⟩ w
    rw [h_valz] at g_valz g2_valz
    simp only [Bool.not_true, Bool.not_false] at g2_valz
    have HE : Hid (promS ⟨k, sc, sl, 1, va, qu, ak, pe, po, co, se⟩ n = false) := by
      unfold Hid
      show (inR 1 1 4 && ((eqbValue va ⟨0, 0⟩ && ((pe == 0) && ((po == 0) && (co == 0)))) && ((sc == 0) && (sl.length == 0)))) = _
      rw [h_st]
      rw [h_valz]
      simp
    go_enter Try.func58, Try.ntmps58
    (try simp only [List.append_eq, List.cons_append, List.nil_append])
    go_wp2_with fail
    refine (spec_l1In_calls 1 1 4 _).mono ?_
    rintro e w9 ⟨rfl, hw9⟩
    subst hw9
    rw [h_st]
    go_wp2
    go_ret
    exact ⟨by rw [HE.out]; rfl, HB.out⟩
  have g_valz := fun w => run_eql_Value va ⟨0, 0⟩ w
  have g2_valz := fun w => run_neq_Value va ⟨0, 0⟩ w
  rw [h_valz] at g_valz g2_valz
  simp only [Bool.not_true, Bool.not_false] at g2_valz
  rcases Bool.eq_false_or_eq_true (pe == 0) with h_pe0 | h_pe0
  rotate_left
  · skip
    have g_pe0 : (pe != 0) = true := by simpa using h_pe0
    have HE : Hid (promS ⟨k, sc, sl, 1, va, qu, ak, pe, po, co, se⟩ n = false) := by
      unfold Hid
      show (inR 1 1 4 && ((eqbValue va ⟨0, 0⟩ && ((pe == 0) && ((po == 0) && (co == 0)))) && ((sc == 0) && (sl.length == 0)))) = _
      rw [h_st]
      rw [h_valz]
      rw [h_pe0]
      simp
    go_enter Try.func58, Try.ntmps58
    (try simp only [List.append_eq, List.cons_append, List.nil_append])
    go_wp2_with fail
    refine (spec_l1In_calls 1 1 4 _).mono ?_
    rintro e w9 ⟨rfl, hw9⟩
    subst hw9
    rw [h_st]
    go_wp2
    go_ret
    exact ⟨by rw [HE.out]; rfl, HB.out⟩
  have g_pe0 : (pe != 0) = false := by simpa using h_pe0
  rcases Bool.eq_false_or_eq_true (po == 0) with h_po0 | h_po0
  rotate_left
  · skip
    have g_po0 : (po != 0) = true := by simpa using h_po0
    have HE : Hid (promS ⟨k, sc, sl, 1, va, qu, ak, pe, po, co, se⟩ n = false) := by
      unfold Hid
      show (inR 1 1 4 && ((eqbValue va ⟨0, 0⟩ && ((pe == 0) && ((po == 0) && (co == 0)))) && ((sc == 0) && (sl.length == 0)))) = _
      rw [h_st]
      rw [h_valz]
      rw [h_pe0]
      rw [h_po0]
      simp
    go_enter Try.func58, Try.ntmps58
    (try simp only [List.append_eq, List.cons_append, List.nil_append])
    go_wp2_with fail
    refine (spec_l1In_calls 1 1 4 _).mono ?_
    rintro e w9 ⟨rfl, hw9⟩
    subst hw9
    rw [h_st]
    go_wp2
    go_ret
    exact ⟨by rw [HE.out]; rfl, HB.out⟩
  have g_po0 : (po != 0) = false := by simpa using h_po0
  rcases Bool.eq_false_or_eq_true (co == 0) with h_co0 | h_co0
  rotate_left
  · skip
    have g_co0 : (co != 0) = true := by simpa using h_co0
    have HE : Hid (promS ⟨k, sc, sl, 1, va, qu, ak, pe, po, co, se⟩ n = false) := by
      unfold Hid
      show (inR 1 1 4 && ((eqbValue va ⟨0, 0⟩ && ((pe == 0) && ((po == 0) && (co == 0)))) && ((sc == 0) && (sl.length == 0)))) = _
      rw [h_st]
      rw [h_valz]
      rw [h_pe0]
      rw [h_po0]
      rw [h_co0]
      simp
    go_enter Try.func58, Try.ntmps58
    (try simp only [List.append_eq, List.cons_append, List.nil_append])
    go_wp2_with fail
    refine (spec_l1In_calls 1 1 4 _).mono ?_
    rintro e w9 ⟨rfl, hw9⟩
    subst hw9
    rw [h_st]
    go_wp2
    go_ret
    exact ⟨by rw [HE.out]; rfl, HB.out⟩
  have g_co0 : (co != 0) = false := by simpa using h_co0
  rcases Bool.eq_false_or_eq_true (qu.length == 0) with h_q0 | h_q0
  rotate_left
  · skip
    have g_q0 : 0 < qu.length := by have h := h_q0; simp at h; exact List.length_pos_iff.2 h
    have g2_q0 : ((qu.length : Int) == 0) = false := by
      have h : ¬ (qu.length : Int) = 0 := by omega
      simpa using h
    rcases Bool.eq_false_or_eq_true (sc == 0) with h_sc0 | h_sc0
    rotate_left
    · skip
      have g_sc0 : (sc != 0) = true := by simpa using h_sc0
      have HE : Hid (promS ⟨k, sc, sl, 1, va, qu, ak, pe, po, co, se⟩ n = false) := by
        unfold Hid
        show (inR 1 1 4 && ((eqbValue va ⟨0, 0⟩ && ((pe == 0) && ((po == 0) && (co == 0)))) && ((sc == 0) && (sl.length == 0)))) = _
        rw [h_st]
        rw [h_valz]
        rw [h_pe0]
        rw [h_po0]
        rw [h_co0]
        rw [h_sc0]
        simp
      go_enter Try.func58, Try.ntmps58
      (try simp only [List.append_eq, List.cons_append, List.nil_append])
      go_wp2_with fail
      refine (spec_l1In_calls 1 1 4 _).mono ?_
      rintro e w9 ⟨rfl, hw9⟩
      subst hw9
      rw [h_st]
      go_wp2
      go_ret
      exact ⟨by rw [HE.out]; rfl, HB.out⟩
    have g_sc0 : (sc != 0) = false := by simpa using h_sc0
    rcases Bool.eq_false_or_eq_true (sl.length == 0) with h_sl0 | h_sl0
    rotate_left
    · skip
      have g_sl0 : 0 < sl.length := by have h := h_sl0; simp at h; exact List.length_pos_iff.2 h
      have g2_sl0 : ((sl.length : Int) == 0) = false := by
        have h : ¬ (sl.length : Int) = 0 := by omega
        simpa using h
      have HE : Hid (promS ⟨k, sc, sl, 1, va, qu, ak, pe, po, co, se⟩ n = false) := by
        unfold Hid
        show (inR 1 1 4 && ((eqbValue va ⟨0, 0⟩ && ((pe == 0) && ((po == 0) && (co == 0)))) && ((sc == 0) && (sl.length == 0)))) = _
        rw [h_st]
        rw [h_valz]
        rw [h_pe0]
        rw [h_po0]
        rw [h_co0]
        rw [h_sc0]
        rw [h_sl0]
        simp
      go_enter Try.func58, Try.ntmps58
      (try simp only [List.append_eq, List.cons_append, List.nil_append])
      go_wp2_with fail
      refine (spec_l1In_calls 1 1 4 _).mono ?_
      rintro e w9 ⟨rfl, hw9⟩
      subst hw9
      rw [h_st]
      go_wp2
      go_ret
      exact ⟨by rw [HE.out]; rfl, HB.out⟩
    have g_sl0 : sl.length ≤ 0 := by have h := h_sl0; simp at h; simp [h]
    have g2_sl0 : ((sl.length : Int) == 0) = true := by
      have h : (sl.length : Int) = 0 := by omega
      rw [h]; rfl
    have HE : Hid (promS ⟨k, sc, sl, 1, va, qu, ak, pe, po, co, se⟩ n = true) := by
      unfold Hid
      show (inR 1 1 4 && ((eqbValue va ⟨0, 0⟩ && ((pe == 0) && ((po == 0) && (co == 0)))) && ((sc == 0) && (sl.length == 0)))) = _
      rw [h_st]
      rw [h_valz]
      rw [h_pe0]
      rw [h_po0]
      rw [h_co0]
      rw [h_sc0]
      rw [h_sl0]
      simp
    go_enter Try.func58, Try.ntmps58
    (try simp only [List.append_eq, List.cons_append, List.nil_append])
    go_wp2_with fail
    refine (spec_l1In_calls 1 1 4 _).mono ?_
    rintro e w9 ⟨rfl, hw9⟩
    subst hw9
    rw [h_st]
    go_wp2
    go_ret
    exact ⟨by rw [HE.out]; rfl, HB.out⟩
  have g_q0 : qu.length ≤ 0 := by have h := h_q0; simp at h; simp [h]
  have g2_q0 : ((qu.length : Int) == 0) = true := by
    have h : (qu.length : Int) = 0 := by omega
    rw [h]; rfl
  rcases Bool.eq_false_or_eq_true (sc == 0) with h_sc0 | h_sc0
  rotate_left
  · skip
    have g_sc0 : (sc != 0) = true := by simpa using h_sc0
    have HE : Hid (promS ⟨k, sc, sl, 1, va, qu, ak, pe, po, co, se⟩ n = false) := by
      unfold Hid
      show (inR 1 1 4 && ((eqbValue va ⟨0, 0⟩ && ((pe == 0) && ((po == 0) && (co == 0)))) && ((sc == 0) && (sl.length == 0)))) = _
      rw [h_st]
      rw [h_valz]
      rw [h_pe0]
      rw [h_po0]
      rw [h_co0]
      rw [h_sc0]
      simp
    go_enter Try.func58, Try.ntmps58
    (try simp only [List.append_eq, List.cons_append, List.nil_append])
    go_wp2_with fail
    refine (spec_l1In_calls 1 1 4 _).mono ?_
    rintro e w9 ⟨rfl, hw9⟩
    subst hw9
    rw [h_st]
    go_wp2
    go_ret
    exact ⟨by rw [HE.out]; rfl, HB.out⟩
  have g_sc0 : (sc != 0) = false := by simpa using h_sc0
  rcases Bool.eq_false_or_eq_true (sl.length == 0) with h_sl0 | h_sl0
  rotate_left
  · skip
    have g_sl0 : 0 < sl.length := by have h := h_sl0; simp at h; exact List.length_pos_iff.2 h
    have g2_sl0 : ((sl.length : Int) == 0) = false := by
      have h : ¬ (sl.length : Int) = 0 := by omega
      simpa using h
    have HE : Hid (promS ⟨k, sc, sl, 1, va, qu, ak, pe, po, co, se⟩ n = false) := by
      unfold Hid
      show (inR 1 1 4 && ((eqbValue va ⟨0, 0⟩ && ((pe == 0) && ((po == 0) && (co == 0)))) && ((sc == 0) && (sl.length == 0)))) = _
      rw [h_st]
      rw [h_valz]
      rw [h_pe0]
      rw [h_po0]
      rw [h_co0]
      rw [h_sc0]
      rw [h_sl0]
      simp
    go_enter Try.func58, Try.ntmps58
    (try simp only [List.append_eq, List.cons_append, List.nil_append])
    go_wp2_with fail
    refine (spec_l1In_calls 1 1 4 _).mono ?_
    rintro e w9 ⟨rfl, hw9⟩
    subst hw9
    rw [h_st]
    go_wp2
    go_ret
    exact ⟨by rw [HE.out]; rfl, HB.out⟩
  have g_sl0 : sl.length ≤ 0 := by have h := h_sl0; simp at h; simp [h]
  have g2_sl0 : ((sl.length : Int) == 0) = true := by
    have h : (sl.length : Int) = 0 := by omega
    rw [h]; rfl
  have HE : Hid (promS ⟨k, sc, sl, 1, va, qu, ak, pe, po, co, se⟩ n = true) := by
    unfold Hid
    show (inR 1 1 4 && ((eqbValue va ⟨0, 0⟩ && ((pe == 0) && ((po == 0) && (co == 0)))) && ((sc == 0) && (sl.length == 0)))) = _
    rw [h_st]
    rw [h_valz]
    rw [h_pe0]
    rw [h_po0]
    rw [h_co0]
    rw [h_sc0]
    rw [h_sl0]
    simp
  go_enter Try.func58, Try.ntmps58
  (try simp only [List.append_eq, List.cons_append, List.nil_append])
  go_wp2_with fail
  refine (spec_l1In_calls 1 1 4 _).mono ?_
  rintro e w9 ⟨rfl, hw9⟩
  subst hw9
  rw [h_st]
  go_wp2
  go_ret
  exact ⟨by rw [HE.out]; rfl, HB.out⟩

end Go.Proofs.Ytaalbbhebmpppaa
