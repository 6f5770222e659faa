import Derived.Test.YtaalbbhebmpppaaProg
import Derived.Test.YtaalbbhebmpppaaTypes
import Derived.StillTailTactics
import Derived.Deep.RegionHeld3
import Derived.Laws.IdiomStrings
import Derived.Test.YtaalbbhebmpppaaAppend
import Derived.Laws.StructEq
import Derived.Lib.SliceRun
import Derived.Shelf.RegionOpenPlain
import Derived.Test.YtaalbbhebmpppaaEntI
import Derived.Test.YtaalbbhebmpppaaEntP
namespace Go.Proofs.Ytaalbbhebmpppaa
open Go.RowKit
set_option linter.unusedVariables false
set_option linter.unusedSimpArgs false

set_option maxHeartbeats 25600000 in
set_option maxRecDepth 100000 in
theorem spec_IsEntity_f (us : List Value) (x : GEntity) (n : Int) (w : World) (hr : RdLW w (eEntity x) us) (hs : x.Slots.length ≤ 3) (hq : x.Queue.length ≤ 1) (hpl : ((x.State == 0) && (eqbValue x.Value ⟨0, 0⟩ && ((x.Queue.length == 0) && (x.Askers.length == 0)))) = false) (hn0 : 0 ≤ n) (hn1 : n < 7) :
    Calls Try.prog 21 #[.agg us.toArray, .int .i64 n] w fun e w' => e = .returned (.bool (entityB x n)) ∧ Below w.heap.size w w' := by
  obtain ⟨v2, v6, v7, rfl, h2, h6, h7⟩ := rd_eEntity hr
  obtain ⟨A2, c2, rfl, -⟩ := h2.slice
  obtain ⟨A6, c6, rfl, -⟩ := h6.slice
  obtain ⟨A7, c7, rfl, -⟩ := h7.slice
  obtain ⟨k, sc, sl, st, va, qu, ak, pe, po, co, se⟩ := x
  dsimp only at h2 hs hq hpl ⊢
  have HHR := Lib.hid hr
  have HR2 := Lib.hid (h2.alloc (.cells #[.int .i64 k, .int .i64 sc, .slice A2 sl.length c2, .int .i64 st, .int .i64 va.Kind, .int .i64 va.N, .slice A6 qu.length c6, .slice A7 ak.length c7, .int .i64 pe, .int .i64 po, .int .i64 co, .int .i64 se] 37))
  have HK := Lib.hid (Blk.new w 37 #[.int .i64 k, .int .i64 sc, .slice A2 sl.length c2, .int .i64 st, .int .i64 va.Kind, .int .i64 va.N, .slice A6 qu.length c6, .slice A7 ak.length c7, .int .i64 pe, .int .i64 po, .int .i64 co, .int .i64 se])
  have HB := Lib.hid ((Below.refl w.heap.size w).alloc (Nat.le_refl _) (.cells #[.int .i64 k, .int .i64 sc, .slice A2 sl.length c2, .int .i64 st, .int .i64 va.Kind, .int .i64 va.N, .slice A6 qu.length c6, .slice A7 ak.length c7, .int .i64 pe, .int .i64 po, .int .i64 co, .int .i64 se] 37))
  clear hr h2 h6 h7
  rcases Bool.eq_false_or_eq_true (st == 0) with h_st0 | h_st0
  rotate_left
  · skip
    have g_st0 : (st != 0) = true := by simpa using h_st0
    rcases Bool.eq_false_or_eq_true (inR se 0 999999) with h_se | h_se
    rotate_left
    · skip
      have HE : Hid (entityB ⟨k, sc, sl, st, va, qu, ak, pe, po, co, se⟩ n = false) := by unfold Hid entityB; simp [h_se]
      go_enter Try.func21, Try.ntmps21
      (try simp only [List.append_eq, List.cons_append, List.nil_append])
      go_wp2_with fail
      refine (spec_l1In_calls se 0 999999 _).mono ?_
      rintro e w9 ⟨rfl, hw9⟩
      subst hw9
      rw [h_se]
      go_wp2
      go_ret
      exact ⟨by rw [HE.out]; rfl, HB.out⟩
    by_cases e1 : k = 1
    · subst e1
      have HE : Hid (entityB ⟨1, sc, sl, st, va, qu, ak, pe, po, co, se⟩ n = false) := by
        unfold Hid
        show (inR se 0 999999 && (inR sc 0 5 && (!(sl.any fun y => !valueB y n) && ((st == 0) && (eqbValue va ⟨0, 0⟩ && ((qu.length == 0) && ((ak.length == 0) && ((pe == 0) && ((po == 0) && (co == 0)))))))))) = _
        rw [h_se]
        rw [h_st0]
        simp
      go_enter Try.func21, Try.ntmps21
      (try simp only [List.append_eq, List.cons_append, List.nil_append])
      go_wp2_with fail
      refine (spec_l1In_calls se 0 999999 _).mono ?_
      rintro e w9 ⟨rfl, hw9⟩
      subst hw9
      rw [h_se]
      go_wp2
      go_ret
      exact ⟨by rw [HE.out]; rfl, HB.out⟩
    by_cases e3 : k = 3
    · subst e3
      have HE : Hid (entityB ⟨3, sc, sl, st, va, qu, ak, pe, po, co, se⟩ n = false) := by
        unfold Hid
        show (inR se 0 999999 && (inR pe 1 4 && (inR po 1 999999 && (inR co 1 999999 && ((sc == 0) && ((sl.length == 0) && ((st == 0) && (eqbValue va ⟨0, 0⟩ && ((qu.length == 0) && (ak.length == 0)))))))))) = _
        rw [h_se]
        rw [h_st0]
        simp
      go_enter Try.func21, Try.ntmps21
      (try simp only [List.append_eq, List.cons_append, List.nil_append])
      go_wp2_with fail
      refine (spec_l1In_calls se 0 999999 _).mono ?_
      rintro e w9 ⟨rfl, hw9⟩
      subst hw9
      rw [h_se]
      go_wp2
      go_ret
      exact ⟨by rw [HE.out]; rfl, HB.out⟩
    by_cases e2 : k = 2
    · subst e2
      have HE : Hid (entityB ⟨2, sc, sl, st, va, qu, ak, pe, po, co, se⟩ n = promS ⟨2, sc, sl, st, va, qu, ak, pe, po, co, se⟩ n) := by
        unfold Hid
        show (inR se 0 999999 && promS ⟨2, sc, sl, st, va, qu, ak, pe, po, co, se⟩ n) = _
        rw [h_se]; simp
      go_enter Try.func21, Try.ntmps21
      (try simp only [List.append_eq, List.cons_append, List.nil_append])
      go_wp2_with fail
      refine (spec_l1In_calls se 0 999999 _).mono ?_
      rintro e w9 ⟨rfl, hw9⟩
      subst hw9
      rw [h_se]
      go_wp2_with fail
      refine (spec_l9Promise_calls _ ⟨2, sc, sl, st, va, qu, ak, pe, po, co, se⟩ n _ (HHR.out.below HB.out) hs hq hn0 hn1).mono ?_
      rintro e w8 ⟨rfl, hb8⟩
      have HB8 := Lib.hid (HB.out.trans (hb8.mono (by simp)))
      clear hb8
      go_wp2
      go_ret
      exact ⟨by rw [HE.out]; rfl, HB8.out⟩
    have ek := And.intro e1 (And.intro e3 e2)
    have HE : Hid (entityB ⟨k, sc, sl, st, va, qu, ak, pe, po, co, se⟩ n = false) := by unfold Hid entityB; simp [ek]
    go_enter Try.func21, Try.ntmps21
    (try simp only [List.append_eq, List.cons_append, List.nil_append])
    go_wp2_with fail
    refine (spec_l1In_calls se 0 999999 _).mono ?_
    rintro e w9 ⟨rfl, hw9⟩
    subst hw9
    rw [h_se]
    go_wp2
    go_ret
    exact ⟨by rw [HE.out]; rfl, HB.out⟩
  have g_st0 : (st != 0) = false := by simpa using h_st0
  rcases Bool.eq_false_or_eq_true (eqbValue va ⟨0, 0⟩) with h_valz | h_valz
  rotate_left
  · skip
    have g_valz := fun w => run_eql_Value va ⟨0, 0⟩ w
    have g2_valz := fun w => run_neq_Value va ⟨0, 0⟩ w
    rw [h_valz] at g_valz g2_valz
    simp only [Bool.not_true, Bool.not_false] at g2_valz
    rcases Bool.eq_false_or_eq_true (inR se 0 999999) with h_se | h_se
    rotate_left
    · skip
      have HE : Hid (entityB ⟨k, sc, sl, st, va, qu, ak, pe, po, co, se⟩ n = false) := by unfold Hid entityB; simp [h_se]
      go_enter Try.func21, Try.ntmps21
      (try simp only [List.append_eq, List.cons_append, List.nil_append])
      go_wp2_with fail
      refine (spec_l1In_calls se 0 999999 _).mono ?_
      rintro e w9 ⟨rfl, hw9⟩
      subst hw9
      rw [h_se]
      go_wp2
      go_ret
      exact ⟨by rw [HE.out]; rfl, HB.out⟩
    by_cases e1 : k = 1
    · subst e1
      have HE : Hid (entityB ⟨1, sc, sl, st, va, qu, ak, pe, po, co, se⟩ n = false) := by
        unfold Hid
        show (inR se 0 999999 && (inR sc 0 5 && (!(sl.any fun y => !valueB y n) && ((st == 0) && (eqbValue va ⟨0, 0⟩ && ((qu.length == 0) && ((ak.length == 0) && ((pe == 0) && ((po == 0) && (co == 0)))))))))) = _
        rw [h_se]
        rw [h_st0]
        rw [h_valz]
        simp
      go_enter Try.func21, Try.ntmps21
      (try simp only [List.append_eq, List.cons_append, List.nil_append])
      go_wp2_with fail
      refine (spec_l1In_calls se 0 999999 _).mono ?_
      rintro e w9 ⟨rfl, hw9⟩
      subst hw9
      rw [h_se]
      go_wp2
      go_ret
      exact ⟨by rw [HE.out]; rfl, HB.out⟩
    by_cases e3 : k = 3
    · subst e3
      have HE : Hid (entityB ⟨3, sc, sl, st, va, qu, ak, pe, po, co, se⟩ n = false) := by
        unfold Hid
        show (inR se 0 999999 && (inR pe 1 4 && (inR po 1 999999 && (inR co 1 999999 && ((sc == 0) && ((sl.length == 0) && ((st == 0) && (eqbValue va ⟨0, 0⟩ && ((qu.length == 0) && (ak.length == 0)))))))))) = _
        rw [h_se]
        rw [h_st0]
        rw [h_valz]
        simp
      go_enter Try.func21, Try.ntmps21
      (try simp only [List.append_eq, List.cons_append, List.nil_append])
      go_wp2_with fail
      refine (spec_l1In_calls se 0 999999 _).mono ?_
      rintro e w9 ⟨rfl, hw9⟩
      subst hw9
      rw [h_se]
      go_wp2
      go_ret
      exact ⟨by rw [HE.out]; rfl, HB.out⟩
    by_cases e2 : k = 2
    · subst e2
      have HE : Hid (entityB ⟨2, sc, sl, st, va, qu, ak, pe, po, co, se⟩ n = promS ⟨2, sc, sl, st, va, qu, ak, pe, po, co, se⟩ n) := by
        unfold Hid
        show (inR se 0 999999 && promS ⟨2, sc, sl, st, va, qu, ak, pe, po, co, se⟩ n) = _
        rw [h_se]; simp
      go_enter Try.func21, Try.ntmps21
      (try simp only [List.append_eq, List.cons_append, List.nil_append])
      go_wp2_with fail
      refine (spec_l1In_calls se 0 999999 _).mono ?_
      rintro e w9 ⟨rfl, hw9⟩
      subst hw9
      rw [h_se]
      go_wp2_with fail
      refine (spec_l9Promise_calls _ ⟨2, sc, sl, st, va, qu, ak, pe, po, co, se⟩ n _ (HHR.out.below HB.out) hs hq hn0 hn1).mono ?_
      rintro e w8 ⟨rfl, hb8⟩
      have HB8 := Lib.hid (HB.out.trans (hb8.mono (by simp)))
      clear hb8
      go_wp2
      go_ret
      exact ⟨by rw [HE.out]; rfl, HB8.out⟩
    have ek := And.intro e1 (And.intro e3 e2)
    have HE : Hid (entityB ⟨k, sc, sl, st, va, qu, ak, pe, po, co, se⟩ n = false) := by unfold Hid entityB; simp [ek]
    go_enter Try.func21, Try.ntmps21
    (try simp only [List.append_eq, List.cons_append, List.nil_append])
    go_wp2_with fail
    refine (spec_l1In_calls se 0 999999 _).mono ?_
    rintro e w9 ⟨rfl, hw9⟩
    subst hw9
    rw [h_se]
    go_wp2
    go_ret
    exact ⟨by rw [HE.out]; rfl, HB.out⟩
  have g_valz := fun w => run_eql_Value va ⟨0, 0⟩ w
  have g2_valz := fun w => run_neq_Value va ⟨0, 0⟩ w
  rw [h_valz] at g_valz g2_valz
  simp only [Bool.not_true, Bool.not_false] at g2_valz
  rcases Bool.eq_false_or_eq_true (qu.length == 0) with h_q0 | h_q0
  rotate_left
  · skip
    have g_q0 : 0 < qu.length := by have h := h_q0; simp at h; exact List.length_pos_iff.2 h
    have g2_q0 : ((qu.length : Int) == 0) = false := by
      have h : ¬ (qu.length : Int) = 0 := by omega
      simpa using h
    rcases Bool.eq_false_or_eq_true (inR se 0 999999) with h_se | h_se
    rotate_left
    · skip
      have HE : Hid (entityB ⟨k, sc, sl, st, va, qu, ak, pe, po, co, se⟩ n = false) := by unfold Hid entityB; simp [h_se]
      go_enter Try.func21, Try.ntmps21
      (try simp only [List.append_eq, List.cons_append, List.nil_append])
      go_wp2_with fail
      refine (spec_l1In_calls se 0 999999 _).mono ?_
      rintro e w9 ⟨rfl, hw9⟩
      subst hw9
      rw [h_se]
      go_wp2
      go_ret
      exact ⟨by rw [HE.out]; rfl, HB.out⟩
    by_cases e1 : k = 1
    · subst e1
      have HE : Hid (entityB ⟨1, sc, sl, st, va, qu, ak, pe, po, co, se⟩ n = false) := by
        unfold Hid
        show (inR se 0 999999 && (inR sc 0 5 && (!(sl.any fun y => !valueB y n) && ((st == 0) && (eqbValue va ⟨0, 0⟩ && ((qu.length == 0) && ((ak.length == 0) && ((pe == 0) && ((po == 0) && (co == 0)))))))))) = _
        rw [h_se]
        rw [h_st0]
        rw [h_valz]
        rw [h_q0]
        simp
      go_enter Try.func21, Try.ntmps21
      (try simp only [List.append_eq, List.cons_append, List.nil_append])
      go_wp2_with fail
      refine (spec_l1In_calls se 0 999999 _).mono ?_
      rintro e w9 ⟨rfl, hw9⟩
      subst hw9
      rw [h_se]
      go_wp2
      go_ret
      exact ⟨by rw [HE.out]; rfl, HB.out⟩
    by_cases e3 : k = 3
    · subst e3
      have HE : Hid (entityB ⟨3, sc, sl, st, va, qu, ak, pe, po, co, se⟩ n = false) := by
        unfold Hid
        show (inR se 0 999999 && (inR pe 1 4 && (inR po 1 999999 && (inR co 1 999999 && ((sc == 0) && ((sl.length == 0) && ((st == 0) && (eqbValue va ⟨0, 0⟩ && ((qu.length == 0) && (ak.length == 0)))))))))) = _
        rw [h_se]
        rw [h_st0]
        rw [h_valz]
        rw [h_q0]
        simp
      go_enter Try.func21, Try.ntmps21
      (try simp only [List.append_eq, List.cons_append, List.nil_append])
      go_wp2_with fail
      refine (spec_l1In_calls se 0 999999 _).mono ?_
      rintro e w9 ⟨rfl, hw9⟩
      subst hw9
      rw [h_se]
      go_wp2
      go_ret
      exact ⟨by rw [HE.out]; rfl, HB.out⟩
    by_cases e2 : k = 2
    · subst e2
      have HE : Hid (entityB ⟨2, sc, sl, st, va, qu, ak, pe, po, co, se⟩ n = promS ⟨2, sc, sl, st, va, qu, ak, pe, po, co, se⟩ n) := by
        unfold Hid
        show (inR se 0 999999 && promS ⟨2, sc, sl, st, va, qu, ak, pe, po, co, se⟩ n) = _
        rw [h_se]; simp
      go_enter Try.func21, Try.ntmps21
      (try simp only [List.append_eq, List.cons_append, List.nil_append])
      go_wp2_with fail
      refine (spec_l1In_calls se 0 999999 _).mono ?_
      rintro e w9 ⟨rfl, hw9⟩
      subst hw9
      rw [h_se]
      go_wp2_with fail
      refine (spec_l9Promise_calls _ ⟨2, sc, sl, st, va, qu, ak, pe, po, co, se⟩ n _ (HHR.out.below HB.out) hs hq hn0 hn1).mono ?_
      rintro e w8 ⟨rfl, hb8⟩
      have HB8 := Lib.hid (HB.out.trans (hb8.mono (by simp)))
      clear hb8
      go_wp2
      go_ret
      exact ⟨by rw [HE.out]; rfl, HB8.out⟩
    have ek := And.intro e1 (And.intro e3 e2)
    have HE : Hid (entityB ⟨k, sc, sl, st, va, qu, ak, pe, po, co, se⟩ n = false) := by unfold Hid entityB; simp [ek]
    go_enter Try.func21, Try.ntmps21
    (try simp only [List.append_eq, List.cons_append, List.nil_append])
    go_wp2_with fail
    refine (spec_l1In_calls se 0 999999 _).mono ?_
    rintro e w9 ⟨rfl, hw9⟩
    subst hw9
    rw [h_se]
    go_wp2
    go_ret
    exact ⟨by rw [HE.out]; rfl, HB.out⟩
  have g_q0 : qu.length ≤ 0 := by have h := h_q0; simp at h; simp [h]
  have g2_q0 : ((qu.length : Int) == 0) = true := by
    have h : (qu.length : Int) = 0 := by omega
    rw [h]; rfl
  rcases Bool.eq_false_or_eq_true (ak.length == 0) with h_k0 | h_k0
  rotate_left
  · skip
    have g_k0 : 0 < ak.length := by have h := h_k0; simp at h; exact List.length_pos_iff.2 h
    have g2_k0 : ((ak.length : Int) == 0) = false := by
      have h : ¬ (ak.length : Int) = 0 := by omega
      simpa using h
    rcases Bool.eq_false_or_eq_true (inR se 0 999999) with h_se | h_se
    rotate_left
    · skip
      have HE : Hid (entityB ⟨k, sc, sl, st, va, qu, ak, pe, po, co, se⟩ n = false) := by unfold Hid entityB; simp [h_se]
      go_enter Try.func21, Try.ntmps21
      (try simp only [List.append_eq, List.cons_append, List.nil_append])
      go_wp2_with fail
      refine (spec_l1In_calls se 0 999999 _).mono ?_
      rintro e w9 ⟨rfl, hw9⟩
      subst hw9
      rw [h_se]
      go_wp2
      go_ret
      exact ⟨by rw [HE.out]; rfl, HB.out⟩
    by_cases e1 : k = 1
    · subst e1
      have HE : Hid (entityB ⟨1, sc, sl, st, va, qu, ak, pe, po, co, se⟩ n = false) := by
        unfold Hid
        show (inR se 0 999999 && (inR sc 0 5 && (!(sl.any fun y => !valueB y n) && ((st == 0) && (eqbValue va ⟨0, 0⟩ && ((qu.length == 0) && ((ak.length == 0) && ((pe == 0) && ((po == 0) && (co == 0)))))))))) = _
        rw [h_se]
        rw [h_st0]
        rw [h_valz]
        rw [h_q0]
        rw [h_k0]
        simp
      go_enter Try.func21, Try.ntmps21
      (try simp only [List.append_eq, List.cons_append, List.nil_append])
      go_wp2_with fail
      refine (spec_l1In_calls se 0 999999 _).mono ?_
      rintro e w9 ⟨rfl, hw9⟩
      subst hw9
      rw [h_se]
      go_wp2
      go_ret
      exact ⟨by rw [HE.out]; rfl, HB.out⟩
    by_cases e3 : k = 3
    · subst e3
      have HE : Hid (entityB ⟨3, sc, sl, st, va, qu, ak, pe, po, co, se⟩ n = false) := by
        unfold Hid
        show (inR se 0 999999 && (inR pe 1 4 && (inR po 1 999999 && (inR co 1 999999 && ((sc == 0) && ((sl.length == 0) && ((st == 0) && (eqbValue va ⟨0, 0⟩ && ((qu.length == 0) && (ak.length == 0)))))))))) = _
        rw [h_se]
        rw [h_st0]
        rw [h_valz]
        rw [h_q0]
        rw [h_k0]
        simp
      go_enter Try.func21, Try.ntmps21
      (try simp only [List.append_eq, List.cons_append, List.nil_append])
      go_wp2_with fail
      refine (spec_l1In_calls se 0 999999 _).mono ?_
      rintro e w9 ⟨rfl, hw9⟩
      subst hw9
      rw [h_se]
      go_wp2
      go_ret
      exact ⟨by rw [HE.out]; rfl, HB.out⟩
    by_cases e2 : k = 2
    · subst e2
      have HE : Hid (entityB ⟨2, sc, sl, st, va, qu, ak, pe, po, co, se⟩ n = promS ⟨2, sc, sl, st, va, qu, ak, pe, po, co, se⟩ n) := by
        unfold Hid
        show (inR se 0 999999 && promS ⟨2, sc, sl, st, va, qu, ak, pe, po, co, se⟩ n) = _
        rw [h_se]; simp
      go_enter Try.func21, Try.ntmps21
      (try simp only [List.append_eq, List.cons_append, List.nil_append])
      go_wp2_with fail
      refine (spec_l1In_calls se 0 999999 _).mono ?_
      rintro e w9 ⟨rfl, hw9⟩
      subst hw9
      rw [h_se]
      go_wp2_with fail
      refine (spec_l9Promise_calls _ ⟨2, sc, sl, st, va, qu, ak, pe, po, co, se⟩ n _ (HHR.out.below HB.out) hs hq hn0 hn1).mono ?_
      rintro e w8 ⟨rfl, hb8⟩
      have HB8 := Lib.hid (HB.out.trans (hb8.mono (by simp)))
      clear hb8
      go_wp2
      go_ret
      exact ⟨by rw [HE.out]; rfl, HB8.out⟩
    have ek := And.intro e1 (And.intro e3 e2)
    have HE : Hid (entityB ⟨k, sc, sl, st, va, qu, ak, pe, po, co, se⟩ n = false) := by unfold Hid entityB; simp [ek]
    go_enter Try.func21, Try.ntmps21
    (try simp only [List.append_eq, List.cons_append, List.nil_append])
    go_wp2_with fail
    refine (spec_l1In_calls se 0 999999 _).mono ?_
    rintro e w9 ⟨rfl, hw9⟩
    subst hw9
    rw [h_se]
    go_wp2
    go_ret
    exact ⟨by rw [HE.out]; rfl, HB.out⟩
  have g_k0 : ak.length ≤ 0 := by have h := h_k0; simp at h; simp [h]
  have g2_k0 : ((ak.length : Int) == 0) = true := by
    have h : (ak.length : Int) = 0 := by omega
    rw [h]; rfl
  have hpl2 : ((st == 0) && (eqbValue va ⟨0, 0⟩ && ((qu.length == 0) && (ak.length == 0)))) = false := hpl
  rw [h_st0, h_valz, h_q0, h_k0] at hpl2
  cases hpl2

end Go.Proofs.Ytaalbbhebmpppaa
