import Derived.Test.YtaalbbhebmpppaaProg
import Derived.Test.YtaalbbhebmpppaaTypes
import Derived.StillTailTactics
import Derived.Deep.RegionHeld3
import Derived.Laws.IdiomStrings
import Derived.Test.YtaalbbhebmpppaaAppend
import Derived.Laws.StructEq
import Derived.Lib.SliceRun
import Derived.Shelf.RegionOpenPlain
import Derived.Test.YtaalbbhebmpppaaEntB
namespace Go.Proofs.Ytaalbbhebmpppaa
open Go.RowKit
set_option linter.unusedVariables false
set_option linter.unusedSimpArgs false

set_option maxHeartbeats 25600000 in
set_option maxRecDepth 100000 in
theorem impl_promiseOk_calls (B : Nat) (x : GEntity) (n : Int) (A2 A6 A7 : Option Addr) (c2 c6 c7 : Nat) (w : World) (hb : Blk w B 37 #[.int .i64 x.Kind, .int .i64 x.Script, .slice A2 x.Slots.length c2, .int .i64 x.State, .int .i64 x.Value.Kind, .int .i64 x.Value.N, .slice A6 x.Queue.length c6, .slice A7 x.Askers.length c7, .int .i64 x.Peer, .int .i64 x.Pos, .int .i64 x.Count, .int .i64 x.Sent]) (hn0 : 0 ≤ n) (hn1 : n < 7) (hst : 1 ≤ x.State ∧ x.State ≤ 4) (hq : x.Queue.length ≤ 1) :
    Calls Try.prog 55 #[.pointer (some ⟨B, 0, none⟩), .int .i64 n] w fun e w' => e = .returned (.bool (promB x n)) ∧ Below w.heap.size w w' := by
  obtain ⟨k, sc, sl, st, va, qu, ak, pe, po, co, se⟩ := x
  dsimp only at hb hst hq ⊢
  have HK := Lib.hid hb
  have l0 := hb.lt
  obtain ⟨k0, f0⟩ := hb.rules
  clear hb
  have hcs : st = 1 ∨ st = 2 ∨ st = 3 ∨ st = 4 := by omega
  clear hst
  rcases hcs with rfl | rfl | rfl | rfl
  · skip
    rcases Bool.eq_false_or_eq_true (eqbValue va ⟨0, 0⟩) with h_valz | h_valz
    rotate_left
    · skip
      have g_valz := fun w => run_eql_Value va ⟨0, 0⟩ w
      have g2_valz := fun w => run_neq_Value va ⟨0, 0⟩ w
      rw [h_valz] at g_valz g2_valz
      simp only [Bool.not_true, Bool.not_false] at g2_valz
      have HE : Hid (promB (⟨k, sc, sl, 1, va, qu, ak, pe, po, co, se⟩) n = false) := by
        unfold Hid
        show (eqbValue va ⟨0, 0⟩ && ((pe == 0) && ((po == 0) && (co == 0)))) = _
        rw [h_valz]
        simp
      go_enter Try.func55, Try.ntmps55
      (try simp only [List.append_eq, List.cons_append, List.nil_append])
      go_wp2
      go_ret
      exact ⟨by rw [HE.out]; rfl, Below.refl _ _⟩
    have g_valz := fun w => run_eql_Value va ⟨0, 0⟩ w
    have g2_valz := fun w => run_neq_Value va ⟨0, 0⟩ w
    rw [h_valz] at g_valz g2_valz
    simp only [Bool.not_true, Bool.not_false] at g2_valz
    rcases Bool.eq_false_or_eq_true (pe == 0) with h_pe0 | h_pe0
    rotate_left
    · skip
      have g_pe0 : (pe != 0) = true := by simpa using h_pe0
      have HE : Hid (promB (⟨k, sc, sl, 1, va, qu, ak, pe, po, co, se⟩) n = false) := by
        unfold Hid
        show (eqbValue va ⟨0, 0⟩ && ((pe == 0) && ((po == 0) && (co == 0)))) = _
        rw [h_valz]
        rw [h_pe0]
        simp
      go_enter Try.func55, Try.ntmps55
      (try simp only [List.append_eq, List.cons_append, List.nil_append])
      go_wp2
      go_ret
      exact ⟨by rw [HE.out]; rfl, Below.refl _ _⟩
    have g_pe0 : (pe != 0) = false := by simpa using h_pe0
    rcases Bool.eq_false_or_eq_true (po == 0) with h_po0 | h_po0
    rotate_left
    · skip
      have g_po0 : (po != 0) = true := by simpa using h_po0
      have HE : Hid (promB (⟨k, sc, sl, 1, va, qu, ak, pe, po, co, se⟩) n = false) := by
        unfold Hid
        show (eqbValue va ⟨0, 0⟩ && ((pe == 0) && ((po == 0) && (co == 0)))) = _
        rw [h_valz]
        rw [h_pe0]
        rw [h_po0]
        simp
      go_enter Try.func55, Try.ntmps55
      (try simp only [List.append_eq, List.cons_append, List.nil_append])
      go_wp2
      go_ret
      exact ⟨by rw [HE.out]; rfl, Below.refl _ _⟩
    have g_po0 : (po != 0) = false := by simpa using h_po0
    rcases Bool.eq_false_or_eq_true (co == 0) with h_co0 | h_co0
    rotate_left
    · skip
      have g_co0 : (co != 0) = true := by simpa using h_co0
      have HE : Hid (promB (⟨k, sc, sl, 1, va, qu, ak, pe, po, co, se⟩) n = false) := by
        unfold Hid
        show (eqbValue va ⟨0, 0⟩ && ((pe == 0) && ((po == 0) && (co == 0)))) = _
        rw [h_valz]
        rw [h_pe0]
        rw [h_po0]
        rw [h_co0]
        simp
      go_enter Try.func55, Try.ntmps55
      (try simp only [List.append_eq, List.cons_append, List.nil_append])
      go_wp2
      go_ret
      exact ⟨by rw [HE.out]; rfl, Below.refl _ _⟩
    have g_co0 : (co != 0) = false := by simpa using h_co0
    have HE : Hid (promB (⟨k, sc, sl, 1, va, qu, ak, pe, po, co, se⟩) n = true) := by
      unfold Hid
      show (eqbValue va ⟨0, 0⟩ && ((pe == 0) && ((po == 0) && (co == 0)))) = _
      rw [h_valz]
      rw [h_pe0]
      rw [h_po0]
      rw [h_co0]
      simp
    go_enter Try.func55, Try.ntmps55
    (try simp only [List.append_eq, List.cons_append, List.nil_append])
    go_wp2
    go_ret
    exact ⟨by rw [HE.out]; rfl, Below.refl _ _⟩
  · skip
    rcases Bool.eq_false_or_eq_true (valueB va n) with h_val | h_val
    rotate_left
    · skip
      have HE : Hid (promB (⟨k, sc, sl, 2, va, qu, ak, pe, po, co, se⟩) n = false) := by
        unfold Hid
        show (valueB va n && ((pe == 0) && ((po == 0) && ((co == 0) && ((qu.length == 0) && (ak.length == 0)))))) = _
        rw [h_val]
        simp
      go_enter Try.func55, Try.ntmps55
      (try simp only [List.append_eq, List.cons_append, List.nil_append])
      go_wp2_with fail
      refine (impl_IsValue_calls va n _ hn0 hn1).mono ?_
      rintro e w8 ⟨rfl, hb8⟩
      rw [h_val]
      obtain ⟨k8, f8⟩ := (HK.out.below hb8).rules
      have l8 := (HK.out.below hb8).lt
      go_wp2
      go_ret
      exact ⟨by rw [HE.out]; rfl, hb8⟩
    rcases Bool.eq_false_or_eq_true (pe == 0) with h_pe0 | h_pe0
    rotate_left
    · skip
      have g_pe0 : (pe != 0) = true := by simpa using h_pe0
      have HE : Hid (promB (⟨k, sc, sl, 2, va, qu, ak, pe, po, co, se⟩) n = false) := by
        unfold Hid
        show (valueB va n && ((pe == 0) && ((po == 0) && ((co == 0) && ((qu.length == 0) && (ak.length == 0)))))) = _
        rw [h_val]
        rw [h_pe0]
        simp
      go_enter Try.func55, Try.ntmps55
      (try simp only [List.append_eq, List.cons_append, List.nil_append])
      go_wp2_with fail
      refine (impl_IsValue_calls va n _ hn0 hn1).mono ?_
      rintro e w8 ⟨rfl, hb8⟩
      rw [h_val]
      obtain ⟨k8, f8⟩ := (HK.out.below hb8).rules
      have l8 := (HK.out.below hb8).lt
      go_wp2
      go_ret
      exact ⟨by rw [HE.out]; rfl, hb8⟩
    have g_pe0 : (pe != 0) = false := by simpa using h_pe0
    rcases Bool.eq_false_or_eq_true (po == 0) with h_po0 | h_po0
    rotate_left
    · skip
      have g_po0 : (po != 0) = true := by simpa using h_po0
      have HE : Hid (promB (⟨k, sc, sl, 2, va, qu, ak, pe, po, co, se⟩) n = false) := by
        unfold Hid
        show (valueB va n && ((pe == 0) && ((po == 0) && ((co == 0) && ((qu.length == 0) && (ak.length == 0)))))) = _
        rw [h_val]
        rw [h_pe0]
        rw [h_po0]
        simp
      go_enter Try.func55, Try.ntmps55
      (try simp only [List.append_eq, List.cons_append, List.nil_append])
      go_wp2_with fail
      refine (impl_IsValue_calls va n _ hn0 hn1).mono ?_
      rintro e w8 ⟨rfl, hb8⟩
      rw [h_val]
      obtain ⟨k8, f8⟩ := (HK.out.below hb8).rules
      have l8 := (HK.out.below hb8).lt
      go_wp2
      go_ret
      exact ⟨by rw [HE.out]; rfl, hb8⟩
    have g_po0 : (po != 0) = false := by simpa using h_po0
    rcases Bool.eq_false_or_eq_true (co == 0) with h_co0 | h_co0
    rotate_left
    · skip
      have g_co0 : (co != 0) = true := by simpa using h_co0
      have HE : Hid (promB (⟨k, sc, sl, 2, va, qu, ak, pe, po, co, se⟩) n = false) := by
        unfold Hid
        show (valueB va n && ((pe == 0) && ((po == 0) && ((co == 0) && ((qu.length == 0) && (ak.length == 0)))))) = _
        rw [h_val]
        rw [h_pe0]
        rw [h_po0]
        rw [h_co0]
        simp
      go_enter Try.func55, Try.ntmps55
      (try simp only [List.append_eq, List.cons_append, List.nil_append])
      go_wp2_with fail
      refine (impl_IsValue_calls va n _ hn0 hn1).mono ?_
      rintro e w8 ⟨rfl, hb8⟩
      rw [h_val]
      obtain ⟨k8, f8⟩ := (HK.out.below hb8).rules
      have l8 := (HK.out.below hb8).lt
      go_wp2
      go_ret
      exact ⟨by rw [HE.out]; rfl, hb8⟩
    have g_co0 : (co != 0) = false := by simpa using h_co0
    rcases Bool.eq_false_or_eq_true (qu.length == 0) with h_q0 | h_q0
    rotate_left
    · skip
      have g_q0 : 0 < qu.length := by have h := h_q0; simp at h; exact List.length_pos_iff.2 h
      have g2_q0 : ((qu.length : Int) == 0) = false := by
        have h : ¬ (qu.length : Int) = 0 := by omega
        simpa using h
      have HE : Hid (promB (⟨k, sc, sl, 2, va, qu, ak, pe, po, co, se⟩) n = false) := by
        unfold Hid
        show (valueB va n && ((pe == 0) && ((po == 0) && ((co == 0) && ((qu.length == 0) && (ak.length == 0)))))) = _
        rw [h_val]
        rw [h_pe0]
        rw [h_po0]
        rw [h_co0]
        rw [h_q0]
        simp
      go_enter Try.func55, Try.ntmps55
      (try simp only [List.append_eq, List.cons_append, List.nil_append])
      go_wp2_with fail
      refine (impl_IsValue_calls va n _ hn0 hn1).mono ?_
      rintro e w8 ⟨rfl, hb8⟩
      rw [h_val]
      obtain ⟨k8, f8⟩ := (HK.out.below hb8).rules
      have l8 := (HK.out.below hb8).lt
      go_wp2
      go_ret
      exact ⟨by rw [HE.out]; rfl, hb8⟩
    have g_q0 : qu.length ≤ 0 := by have h := h_q0; simp at h; simp [h]
    have g2_q0 : ((qu.length : Int) == 0) = true := by
      have h : (qu.length : Int) = 0 := by omega
      rw [h]; rfl
    rcases Bool.eq_false_or_eq_true (ak.length == 0) with h_k0 | h_k0
    rotate_left
    · skip
      have g_k0 : 0 < ak.length := by have h := h_k0; simp at h; exact List.length_pos_iff.2 h
      have g2_k0 : ((ak.length : Int) == 0) = false := by
        have h : ¬ (ak.length : Int) = 0 := by omega
        simpa using h
      have HE : Hid (promB (⟨k, sc, sl, 2, va, qu, ak, pe, po, co, se⟩) n = false) := by
        unfold Hid
        show (valueB va n && ((pe == 0) && ((po == 0) && ((co == 0) && ((qu.length == 0) && (ak.length == 0)))))) = _
        rw [h_val]
        rw [h_pe0]
        rw [h_po0]
        rw [h_co0]
        rw [h_q0]
        rw [h_k0]
        simp
      go_enter Try.func55, Try.ntmps55
      (try simp only [List.append_eq, List.cons_append, List.nil_append])
      go_wp2_with fail
      refine (impl_IsValue_calls va n _ hn0 hn1).mono ?_
      rintro e w8 ⟨rfl, hb8⟩
      rw [h_val]
      obtain ⟨k8, f8⟩ := (HK.out.below hb8).rules
      have l8 := (HK.out.below hb8).lt
      go_wp2
      go_ret
      exact ⟨by rw [HE.out]; rfl, hb8⟩
    have g_k0 : ak.length ≤ 0 := by have h := h_k0; simp at h; simp [h]
    have g2_k0 : ((ak.length : Int) == 0) = true := by
      have h : (ak.length : Int) = 0 := by omega
      rw [h]; rfl
    have HE : Hid (promB (⟨k, sc, sl, 2, va, qu, ak, pe, po, co, se⟩) n = true) := by
      unfold Hid
      show (valueB va n && ((pe == 0) && ((po == 0) && ((co == 0) && ((qu.length == 0) && (ak.length == 0)))))) = _
      rw [h_val]
      rw [h_pe0]
      rw [h_po0]
      rw [h_co0]
      rw [h_q0]
      rw [h_k0]
      simp
    go_enter Try.func55, Try.ntmps55
    (try simp only [List.append_eq, List.cons_append, List.nil_append])
    go_wp2_with fail
    refine (impl_IsValue_calls va n _ hn0 hn1).mono ?_
    rintro e w8 ⟨rfl, hb8⟩
    rw [h_val]
    obtain ⟨k8, f8⟩ := (HK.out.below hb8).rules
    have l8 := (HK.out.below hb8).lt
    go_wp2
    go_ret
    exact ⟨by rw [HE.out]; rfl, hb8⟩
  · skip
    rcases Bool.eq_false_or_eq_true (eqbValue va ⟨0, 0⟩) with h_valz | h_valz
    rotate_left
    · skip
      have g_valz := fun w => run_eql_Value va ⟨0, 0⟩ w
      have g2_valz := fun w => run_neq_Value va ⟨0, 0⟩ w
      rw [h_valz] at g_valz g2_valz
      simp only [Bool.not_true, Bool.not_false] at g2_valz
      have HE : Hid (promB (⟨k, sc, sl, 3, va, qu, ak, pe, po, co, se⟩) n = false) := by
        unfold Hid
        show (eqbValue va ⟨0, 0⟩ && (inR pe 1 4 && (inR po 1 999999 && (inR co 0 999999 && (qu.length == 0))))) = _
        rw [h_valz]
        simp
      go_enter Try.func55, Try.ntmps55
      (try simp only [List.append_eq, List.cons_append, List.nil_append])
      go_wp2
      go_ret
      exact ⟨by rw [HE.out]; rfl, Below.refl _ _⟩
    have g_valz := fun w => run_eql_Value va ⟨0, 0⟩ w
    have g2_valz := fun w => run_neq_Value va ⟨0, 0⟩ w
    rw [h_valz] at g_valz g2_valz
    simp only [Bool.not_true, Bool.not_false] at g2_valz
    rcases Bool.eq_false_or_eq_true (inR pe 1 4) with h_inpe | h_inpe
    rotate_left
    · skip
      have HE : Hid (promB (⟨k, sc, sl, 3, va, qu, ak, pe, po, co, se⟩) n = false) := by
        unfold Hid
        show (eqbValue va ⟨0, 0⟩ && (inR pe 1 4 && (inR po 1 999999 && (inR co 0 999999 && (qu.length == 0))))) = _
        rw [h_valz]
        rw [h_inpe]
        simp
      go_enter Try.func55, Try.ntmps55
      (try simp only [List.append_eq, List.cons_append, List.nil_append])
      go_wp2_with fail
      refine (impl_in_calls pe 1 4 _).mono ?_
      rintro e w9 ⟨rfl, rfl⟩
      rw [h_inpe]
      go_wp2
      go_ret
      exact ⟨by rw [HE.out]; rfl, Below.refl _ _⟩
    rcases Bool.eq_false_or_eq_true (inR po 1 999999) with h_inpo | h_inpo
    rotate_left
    · skip
      have HE : Hid (promB (⟨k, sc, sl, 3, va, qu, ak, pe, po, co, se⟩) n = false) := by
        unfold Hid
        show (eqbValue va ⟨0, 0⟩ && (inR pe 1 4 && (inR po 1 999999 && (inR co 0 999999 && (qu.length == 0))))) = _
        rw [h_valz]
        rw [h_inpe]
        rw [h_inpo]
        simp
      go_enter Try.func55, Try.ntmps55
      (try simp only [List.append_eq, List.cons_append, List.nil_append])
      go_wp2_with fail
      refine (impl_in_calls pe 1 4 _).mono ?_
      rintro e w9 ⟨rfl, rfl⟩
      rw [h_inpe]
      go_wp2_with fail
      refine (impl_in_calls po 1 999999 _).mono ?_
      rintro e w9 ⟨rfl, rfl⟩
      rw [h_inpo]
      go_wp2
      go_ret
      exact ⟨by rw [HE.out]; rfl, Below.refl _ _⟩
    rcases Bool.eq_false_or_eq_true (inR co 0 999999) with h_inco | h_inco
    rotate_left
    · skip
      have HE : Hid (promB (⟨k, sc, sl, 3, va, qu, ak, pe, po, co, se⟩) n = false) := by
        unfold Hid
        show (eqbValue va ⟨0, 0⟩ && (inR pe 1 4 && (inR po 1 999999 && (inR co 0 999999 && (qu.length == 0))))) = _
        rw [h_valz]
        rw [h_inpe]
        rw [h_inpo]
        rw [h_inco]
        simp
      go_enter Try.func55, Try.ntmps55
      (try simp only [List.append_eq, List.cons_append, List.nil_append])
      go_wp2_with fail
      refine (impl_in_calls pe 1 4 _).mono ?_
      rintro e w9 ⟨rfl, rfl⟩
      rw [h_inpe]
      go_wp2_with fail
      refine (impl_in_calls po 1 999999 _).mono ?_
      rintro e w9 ⟨rfl, rfl⟩
      rw [h_inpo]
      go_wp2_with fail
      refine (impl_in_calls co 0 999999 _).mono ?_
      rintro e w9 ⟨rfl, rfl⟩
      rw [h_inco]
      go_wp2
      go_ret
      exact ⟨by rw [HE.out]; rfl, Below.refl _ _⟩
    rcases Bool.eq_false_or_eq_true (qu.length == 0) with h_q0 | h_q0
    rotate_left
    · skip
      have g_q0 : 0 < qu.length := by have h := h_q0; simp at h; exact List.length_pos_iff.2 h
      have g2_q0 : ((qu.length : Int) == 0) = false := by
        have h : ¬ (qu.length : Int) = 0 := by omega
        simpa using h
      have HE : Hid (promB (⟨k, sc, sl, 3, va, qu, ak, pe, po, co, se⟩) n = false) := by
        unfold Hid
        show (eqbValue va ⟨0, 0⟩ && (inR pe 1 4 && (inR po 1 999999 && (inR co 0 999999 && (qu.length == 0))))) = _
        rw [h_valz]
        rw [h_inpe]
        rw [h_inpo]
        rw [h_inco]
        rw [h_q0]
        simp
      go_enter Try.func55, Try.ntmps55
      (try simp only [List.append_eq, List.cons_append, List.nil_append])
      go_wp2_with fail
      refine (impl_in_calls pe 1 4 _).mono ?_
      rintro e w9 ⟨rfl, rfl⟩
      rw [h_inpe]
      go_wp2_with fail
      refine (impl_in_calls po 1 999999 _).mono ?_
      rintro e w9 ⟨rfl, rfl⟩
      rw [h_inpo]
      go_wp2_with fail
      refine (impl_in_calls co 0 999999 _).mono ?_
      rintro e w9 ⟨rfl, rfl⟩
      rw [h_inco]
      go_wp2
      go_ret
      exact ⟨by rw [HE.out]; rfl, Below.refl _ _⟩
    have g_q0 : qu.length ≤ 0 := by have h := h_q0; simp at h; simp [h]
    have g2_q0 : ((qu.length : Int) == 0) = true := by
      have h : (qu.length : Int) = 0 := by omega
      rw [h]; rfl
    have HE : Hid (promB (⟨k, sc, sl, 3, va, qu, ak, pe, po, co, se⟩) n = true) := by
      unfold Hid
      show (eqbValue va ⟨0, 0⟩ && (inR pe 1 4 && (inR po 1 999999 && (inR co 0 999999 && (qu.length == 0))))) = _
      rw [h_valz]
      rw [h_inpe]
      rw [h_inpo]
      rw [h_inco]
      rw [h_q0]
      simp
    go_enter Try.func55, Try.ntmps55
    (try simp only [List.append_eq, List.cons_append, List.nil_append])
    go_wp2_with fail
    refine (impl_in_calls pe 1 4 _).mono ?_
    rintro e w9 ⟨rfl, rfl⟩
    rw [h_inpe]
    go_wp2_with fail
    refine (impl_in_calls po 1 999999 _).mono ?_
    rintro e w9 ⟨rfl, rfl⟩
    rw [h_inpo]
    go_wp2_with fail
    refine (impl_in_calls co 0 999999 _).mono ?_
    rintro e w9 ⟨rfl, rfl⟩
    rw [h_inco]
    go_wp2
    go_ret
    exact ⟨by rw [HE.out]; rfl, Below.refl _ _⟩
  · skip
    rcases Bool.eq_false_or_eq_true (valueB va n) with h_val | h_val
    rotate_left
    · skip
      have HE : Hid (promB (⟨k, sc, sl, 4, va, qu, ak, pe, po, co, se⟩) n = false) := by
        unfold Hid
        show (valueB va n && (inR pe 1 4 && (inR po 1 999999 && inR co 0 999999))) = _
        rw [h_val]
        simp
      go_enter Try.func55, Try.ntmps55
      (try simp only [List.append_eq, List.cons_append, List.nil_append])
      go_wp2_with fail
      refine (impl_IsValue_calls va n _ hn0 hn1).mono ?_
      rintro e w8 ⟨rfl, hb8⟩
      rw [h_val]
      obtain ⟨k8, f8⟩ := (HK.out.below hb8).rules
      have l8 := (HK.out.below hb8).lt
      go_wp2
      go_ret
      exact ⟨by rw [HE.out]; rfl, hb8⟩
    rcases Bool.eq_false_or_eq_true (inR pe 1 4) with h_inpe | h_inpe
    rotate_left
    · skip
      have HE : Hid (promB (⟨k, sc, sl, 4, va, qu, ak, pe, po, co, se⟩) n = false) := by
        unfold Hid
        show (valueB va n && (inR pe 1 4 && (inR po 1 999999 && inR co 0 999999))) = _
        rw [h_val]
        rw [h_inpe]
        simp
      go_enter Try.func55, Try.ntmps55
      (try simp only [List.append_eq, List.cons_append, List.nil_append])
      go_wp2_with fail
      refine (impl_IsValue_calls va n _ hn0 hn1).mono ?_
      rintro e w8 ⟨rfl, hb8⟩
      rw [h_val]
      obtain ⟨k8, f8⟩ := (HK.out.below hb8).rules
      have l8 := (HK.out.below hb8).lt
      go_wp2_with fail
      refine (impl_in_calls pe 1 4 _).mono ?_
      rintro e w9 ⟨rfl, rfl⟩
      rw [h_inpe]
      go_wp2
      go_ret
      exact ⟨by rw [HE.out]; rfl, hb8⟩
    rcases Bool.eq_false_or_eq_true (inR po 1 999999) with h_inpo | h_inpo
    rotate_left
    · skip
      have HE : Hid (promB (⟨k, sc, sl, 4, va, qu, ak, pe, po, co, se⟩) n = false) := by
        unfold Hid
        show (valueB va n && (inR pe 1 4 && (inR po 1 999999 && inR co 0 999999))) = _
        rw [h_val]
        rw [h_inpe]
        rw [h_inpo]
        simp
      go_enter Try.func55, Try.ntmps55
      (try simp only [List.append_eq, List.cons_append, List.nil_append])
      go_wp2_with fail
      refine (impl_IsValue_calls va n _ hn0 hn1).mono ?_
      rintro e w8 ⟨rfl, hb8⟩
      rw [h_val]
      obtain ⟨k8, f8⟩ := (HK.out.below hb8).rules
      have l8 := (HK.out.below hb8).lt
      go_wp2_with fail
      refine (impl_in_calls pe 1 4 _).mono ?_
      rintro e w9 ⟨rfl, rfl⟩
      rw [h_inpe]
      go_wp2_with fail
      refine (impl_in_calls po 1 999999 _).mono ?_
      rintro e w9 ⟨rfl, rfl⟩
      rw [h_inpo]
      go_wp2
      go_ret
      exact ⟨by rw [HE.out]; rfl, hb8⟩
    rcases Bool.eq_false_or_eq_true (inR co 0 999999) with h_inco | h_inco
    rotate_left
    · skip
      have HE : Hid (promB (⟨k, sc, sl, 4, va, qu, ak, pe, po, co, se⟩) n = false) := by
        unfold Hid
        show (valueB va n && (inR pe 1 4 && (inR po 1 999999 && inR co 0 999999))) = _
        rw [h_val]
        rw [h_inpe]
        rw [h_inpo]
        rw [h_inco]
        simp
      go_enter Try.func55, Try.ntmps55
      (try simp only [List.append_eq, List.cons_append, List.nil_append])
      go_wp2_with fail
      refine (impl_IsValue_calls va n _ hn0 hn1).mono ?_
      rintro e w8 ⟨rfl, hb8⟩
      rw [h_val]
      obtain ⟨k8, f8⟩ := (HK.out.below hb8).rules
      have l8 := (HK.out.below hb8).lt
      go_wp2_with fail
      refine (impl_in_calls pe 1 4 _).mono ?_
      rintro e w9 ⟨rfl, rfl⟩
      rw [h_inpe]
      go_wp2_with fail
      refine (impl_in_calls po 1 999999 _).mono ?_
      rintro e w9 ⟨rfl, rfl⟩
      rw [h_inpo]
      go_wp2_with fail
      refine (impl_in_calls co 0 999999 _).mono ?_
      rintro e w9 ⟨rfl, rfl⟩
      rw [h_inco]
      go_wp2
      go_ret
      exact ⟨by rw [HE.out]; rfl, hb8⟩
    have HE : Hid (promB (⟨k, sc, sl, 4, va, qu, ak, pe, po, co, se⟩) n = true) := by
      unfold Hid
      show (valueB va n && (inR pe 1 4 && (inR po 1 999999 && inR co 0 999999))) = _
      rw [h_val]
      rw [h_inpe]
      rw [h_inpo]
      rw [h_inco]
      simp
    go_enter Try.func55, Try.ntmps55
    (try simp only [List.append_eq, List.cons_append, List.nil_append])
    go_wp2_with fail
    refine (impl_IsValue_calls va n _ hn0 hn1).mono ?_
    rintro e w8 ⟨rfl, hb8⟩
    rw [h_val]
    obtain ⟨k8, f8⟩ := (HK.out.below hb8).rules
    have l8 := (HK.out.below hb8).lt
    go_wp2_with fail
    refine (impl_in_calls pe 1 4 _).mono ?_
    rintro e w9 ⟨rfl, rfl⟩
    rw [h_inpe]
    go_wp2_with fail
    refine (impl_in_calls po 1 999999 _).mono ?_
    rintro e w9 ⟨rfl, rfl⟩
    rw [h_inpo]
    go_wp2_with fail
    refine (impl_in_calls co 0 999999 _).mono ?_
    rintro e w9 ⟨rfl, rfl⟩
    rw [h_inco]
    go_wp2
    go_ret
    exact ⟨by rw [HE.out]; rfl, hb8⟩

end Go.Proofs.Ytaalbbhebmpppaa
