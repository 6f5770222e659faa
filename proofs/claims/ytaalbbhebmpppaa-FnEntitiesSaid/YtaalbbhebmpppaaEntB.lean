import Derived.Test.YtaalbbhebmpppaaProg
import Derived.Test.YtaalbbhebmpppaaTypes
import Derived.StillTailTactics
import Derived.Deep.RegionHeld3
import Derived.Laws.IdiomStrings
import Derived.Test.YtaalbbhebmpppaaAppend
import Derived.Laws.StructEq
import Derived.Lib.SliceRun
import Derived.Shelf.RegionOpenPlain
import Derived.Test.YtaalbbhebmpppaaIVal
import Derived.Test.YtaalbbhebmpppaaSlices
namespace Go.Proofs.Ytaalbbhebmpppaa
open Go.RowKit
set_option linter.unusedVariables false
set_option linter.unusedSimpArgs false

def restA (x : GEntity) : Bool := match x with | ⟨k, sc, sl, st, va, qu, ak, pe, po, co, se⟩ => ((st == 0) && (eqbValue va ⟨0, 0⟩ && ((qu.length == 0) && ((ak.length == 0) && ((pe == 0) && ((po == 0) && (co == 0)))))))
def restB (x : GEntity) : Bool := match x with | ⟨k, sc, sl, st, va, qu, ak, pe, po, co, se⟩ => ((sc == 0) && ((sl.length == 0) && ((st == 0) && (eqbValue va ⟨0, 0⟩ && ((qu.length == 0) && (ak.length == 0))))))
def restC (x : GEntity) : Bool := match x with | ⟨k, sc, sl, st, va, qu, ak, pe, po, co, se⟩ => ((sc == 0) && (sl.length == 0))
/-- the fields of a promise -/
def promB (x : GEntity) (n : Int) : Bool := match x with | ⟨k, sc, sl, st, va, qu, ak, pe, po, co, se⟩ => if st = 1 then (eqbValue va ⟨0, 0⟩ && ((pe == 0) && ((po == 0) && (co == 0)))) else if st = 2 then (valueB va n && ((pe == 0) && ((po == 0) && ((co == 0) && ((qu.length == 0) && (ak.length == 0)))))) else if st = 3 then (eqbValue va ⟨0, 0⟩ && (inR pe 1 4 && (inR po 1 999999 && (inR co 0 999999 && (qu.length == 0))))) else if st = 4 then (valueB va n && (inR pe 1 4 && (inR po 1 999999 && inR co 0 999999))) else false
set_option maxHeartbeats 12800000 in
set_option maxRecDepth 100000 in
theorem impl_restA_calls (B : Nat) (x : GEntity) (A2 A6 A7 : Option Addr) (c2 c6 c7 : Nat) (w : World) (hb : Blk w B 37 #[.int .i64 x.Kind, .int .i64 x.Script, .slice A2 x.Slots.length c2, .int .i64 x.State, .int .i64 x.Value.Kind, .int .i64 x.Value.N, .slice A6 x.Queue.length c6, .slice A7 x.Askers.length c7, .int .i64 x.Peer, .int .i64 x.Pos, .int .i64 x.Count, .int .i64 x.Sent]) :
    Calls Try.prog 54 #[.pointer (some ⟨B, 0, none⟩), .bool true, .bool true, .bool false, .bool false] w fun e w' => e = .returned (.bool (restA x)) ∧ w' = w := by
  obtain ⟨k, sc, sl, st, va, qu, ak, pe, po, co, se⟩ := x
  dsimp only at hb ⊢
  have HK := Lib.hid hb
  have l0 := hb.lt
  obtain ⟨k0, f0⟩ := hb.rules
  clear hb
  rcases Bool.eq_false_or_eq_true (st == 0) with h_st0 | h_st0
  rotate_left
  · skip
    have g_st0 : (st != 0) = true := by simpa using h_st0
    have HE : Hid (restA (⟨k, sc, sl, st, va, qu, ak, pe, po, co, se⟩) = false) := by
      unfold Hid
      show ((st == 0) && (eqbValue va ⟨0, 0⟩ && ((qu.length == 0) && ((ak.length == 0) && ((pe == 0) && ((po == 0) && (co == 0))))))) = _
      rw [h_st0]
      simp
    go_enter Try.func54, Try.ntmps54
    (try simp only [List.append_eq, List.cons_append, List.nil_append])
    go_wp2
    go_ret
    exact ⟨by rw [HE.out]; rfl, rfl⟩
  have g_st0 : (st != 0) = false := by simpa using h_st0
  rcases Bool.eq_false_or_eq_true (eqbValue va ⟨0, 0⟩) with h_valz | h_valz
  rotate_left
  · skip
    have g_valz := fun w => run_eql_Value va ⟨0, 0⟩ w
    have g2_valz := fun w => run_neq_Value va ⟨0, 0⟩ w
    rw [h_valz] at g_valz g2_valz
    simp only [Bool.not_true, Bool.not_false] at g2_valz
    have HE : Hid (restA (⟨k, sc, sl, st, va, qu, ak, pe, po, co, se⟩) = false) := by
      unfold Hid
      show ((st == 0) && (eqbValue va ⟨0, 0⟩ && ((qu.length == 0) && ((ak.length == 0) && ((pe == 0) && ((po == 0) && (co == 0))))))) = _
      rw [h_st0]
      rw [h_valz]
      simp
    go_enter Try.func54, Try.ntmps54
    (try simp only [List.append_eq, List.cons_append, List.nil_append])
    go_wp2
    go_ret
    exact ⟨by rw [HE.out]; rfl, rfl⟩
  have g_valz := fun w => run_eql_Value va ⟨0, 0⟩ w
  have g2_valz := fun w => run_neq_Value va ⟨0, 0⟩ w
  rw [h_valz] at g_valz g2_valz
  simp only [Bool.not_true, Bool.not_false] at g2_valz
  rcases Bool.eq_false_or_eq_true (qu.length == 0) with h_q0 | h_q0
  rotate_left
  · skip
    have g_q0 : 0 < qu.length := by have h := h_q0; simp at h; exact List.length_pos_iff.2 h
    have g2_q0 : ((qu.length : Int) == 0) = false := by
      have h : ¬ (qu.length : Int) = 0 := by omega
      simpa using h
    have HE : Hid (restA (⟨k, sc, sl, st, va, qu, ak, pe, po, co, se⟩) = false) := by
      unfold Hid
      show ((st == 0) && (eqbValue va ⟨0, 0⟩ && ((qu.length == 0) && ((ak.length == 0) && ((pe == 0) && ((po == 0) && (co == 0))))))) = _
      rw [h_st0]
      rw [h_valz]
      rw [h_q0]
      simp
    go_enter Try.func54, Try.ntmps54
    (try simp only [List.append_eq, List.cons_append, List.nil_append])
    go_wp2
    go_ret
    exact ⟨by rw [HE.out]; rfl, rfl⟩
  have g_q0 : qu.length ≤ 0 := by have h := h_q0; simp at h; simp [h]
  have g2_q0 : ((qu.length : Int) == 0) = true := by
    have h : (qu.length : Int) = 0 := by omega
    rw [h]; rfl
  rcases Bool.eq_false_or_eq_true (ak.length == 0) with h_k0 | h_k0
  rotate_left
  · skip
    have g_k0 : 0 < ak.length := by have h := h_k0; simp at h; exact List.length_pos_iff.2 h
    have g2_k0 : ((ak.length : Int) == 0) = false := by
      have h : ¬ (ak.length : Int) = 0 := by omega
      simpa using h
    have HE : Hid (restA (⟨k, sc, sl, st, va, qu, ak, pe, po, co, se⟩) = false) := by
      unfold Hid
      show ((st == 0) && (eqbValue va ⟨0, 0⟩ && ((qu.length == 0) && ((ak.length == 0) && ((pe == 0) && ((po == 0) && (co == 0))))))) = _
      rw [h_st0]
      rw [h_valz]
      rw [h_q0]
      rw [h_k0]
      simp
    go_enter Try.func54, Try.ntmps54
    (try simp only [List.append_eq, List.cons_append, List.nil_append])
    go_wp2
    go_ret
    exact ⟨by rw [HE.out]; rfl, rfl⟩
  have g_k0 : ak.length ≤ 0 := by have h := h_k0; simp at h; simp [h]
  have g2_k0 : ((ak.length : Int) == 0) = true := by
    have h : (ak.length : Int) = 0 := by omega
    rw [h]; rfl
  rcases Bool.eq_false_or_eq_true (pe == 0) with h_pe0 | h_pe0
  rotate_left
  · skip
    have g_pe0 : (pe != 0) = true := by simpa using h_pe0
    have HE : Hid (restA (⟨k, sc, sl, st, va, qu, ak, pe, po, co, se⟩) = false) := by
      unfold Hid
      show ((st == 0) && (eqbValue va ⟨0, 0⟩ && ((qu.length == 0) && ((ak.length == 0) && ((pe == 0) && ((po == 0) && (co == 0))))))) = _
      rw [h_st0]
      rw [h_valz]
      rw [h_q0]
      rw [h_k0]
      rw [h_pe0]
      simp
    go_enter Try.func54, Try.ntmps54
    (try simp only [List.append_eq, List.cons_append, List.nil_append])
    go_wp2
    go_ret
    exact ⟨by rw [HE.out]; rfl, rfl⟩
  have g_pe0 : (pe != 0) = false := by simpa using h_pe0
  rcases Bool.eq_false_or_eq_true (po == 0) with h_po0 | h_po0
  rotate_left
  · skip
    have g_po0 : (po != 0) = true := by simpa using h_po0
    have HE : Hid (restA (⟨k, sc, sl, st, va, qu, ak, pe, po, co, se⟩) = false) := by
      unfold Hid
      show ((st == 0) && (eqbValue va ⟨0, 0⟩ && ((qu.length == 0) && ((ak.length == 0) && ((pe == 0) && ((po == 0) && (co == 0))))))) = _
      rw [h_st0]
      rw [h_valz]
      rw [h_q0]
      rw [h_k0]
      rw [h_pe0]
      rw [h_po0]
      simp
    go_enter Try.func54, Try.ntmps54
    (try simp only [List.append_eq, List.cons_append, List.nil_append])
    go_wp2
    go_ret
    exact ⟨by rw [HE.out]; rfl, rfl⟩
  have g_po0 : (po != 0) = false := by simpa using h_po0
  rcases Bool.eq_false_or_eq_true (co == 0) with h_co0 | h_co0
  rotate_left
  · skip
    have g_co0 : (co != 0) = true := by simpa using h_co0
    have HE : Hid (restA (⟨k, sc, sl, st, va, qu, ak, pe, po, co, se⟩) = false) := by
      unfold Hid
      show ((st == 0) && (eqbValue va ⟨0, 0⟩ && ((qu.length == 0) && ((ak.length == 0) && ((pe == 0) && ((po == 0) && (co == 0))))))) = _
      rw [h_st0]
      rw [h_valz]
      rw [h_q0]
      rw [h_k0]
      rw [h_pe0]
      rw [h_po0]
      rw [h_co0]
      simp
    go_enter Try.func54, Try.ntmps54
    (try simp only [List.append_eq, List.cons_append, List.nil_append])
    go_wp2
    go_ret
    exact ⟨by rw [HE.out]; rfl, rfl⟩
  have g_co0 : (co != 0) = false := by simpa using h_co0
  have HE : Hid (restA (⟨k, sc, sl, st, va, qu, ak, pe, po, co, se⟩) = true) := by
    unfold Hid
    show ((st == 0) && (eqbValue va ⟨0, 0⟩ && ((qu.length == 0) && ((ak.length == 0) && ((pe == 0) && ((po == 0) && (co == 0))))))) = _
    rw [h_st0]
    rw [h_valz]
    rw [h_q0]
    rw [h_k0]
    rw [h_pe0]
    rw [h_po0]
    rw [h_co0]
    simp
  go_enter Try.func54, Try.ntmps54
  (try simp only [List.append_eq, List.cons_append, List.nil_append])
  go_wp2
  go_ret
  exact ⟨by rw [HE.out]; rfl, rfl⟩
set_option maxHeartbeats 12800000 in
set_option maxRecDepth 100000 in
theorem impl_restB_calls (B : Nat) (x : GEntity) (A2 A6 A7 : Option Addr) (c2 c6 c7 : Nat) (w : World) (hb : Blk w B 37 #[.int .i64 x.Kind, .int .i64 x.Script, .slice A2 x.Slots.length c2, .int .i64 x.State, .int .i64 x.Value.Kind, .int .i64 x.Value.N, .slice A6 x.Queue.length c6, .slice A7 x.Askers.length c7, .int .i64 x.Peer, .int .i64 x.Pos, .int .i64 x.Count, .int .i64 x.Sent]) :
    Calls Try.prog 54 #[.pointer (some ⟨B, 0, none⟩), .bool false, .bool false, .bool false, .bool true] w fun e w' => e = .returned (.bool (restB x)) ∧ w' = w := by
  obtain ⟨k, sc, sl, st, va, qu, ak, pe, po, co, se⟩ := x
  dsimp only at hb ⊢
  have HK := Lib.hid hb
  have l0 := hb.lt
  obtain ⟨k0, f0⟩ := hb.rules
  clear hb
  rcases Bool.eq_false_or_eq_true (sc == 0) with h_sc0 | h_sc0
  rotate_left
  · skip
    have g_sc0 : (sc != 0) = true := by simpa using h_sc0
    have HE : Hid (restB (⟨k, sc, sl, st, va, qu, ak, pe, po, co, se⟩) = false) := by
      unfold Hid
      show ((sc == 0) && ((sl.length == 0) && ((st == 0) && (eqbValue va ⟨0, 0⟩ && ((qu.length == 0) && (ak.length == 0)))))) = _
      rw [h_sc0]
      simp
    go_enter Try.func54, Try.ntmps54
    (try simp only [List.append_eq, List.cons_append, List.nil_append])
    go_wp2
    go_ret
    exact ⟨by rw [HE.out]; rfl, rfl⟩
  have g_sc0 : (sc != 0) = false := by simpa using h_sc0
  rcases Bool.eq_false_or_eq_true (sl.length == 0) with h_sl0 | h_sl0
  rotate_left
  · skip
    have g_sl0 : 0 < sl.length := by have h := h_sl0; simp at h; exact List.length_pos_iff.2 h
    have g2_sl0 : ((sl.length : Int) == 0) = false := by
      have h : ¬ (sl.length : Int) = 0 := by omega
      simpa using h
    have HE : Hid (restB (⟨k, sc, sl, st, va, qu, ak, pe, po, co, se⟩) = false) := by
      unfold Hid
      show ((sc == 0) && ((sl.length == 0) && ((st == 0) && (eqbValue va ⟨0, 0⟩ && ((qu.length == 0) && (ak.length == 0)))))) = _
      rw [h_sc0]
      rw [h_sl0]
      simp
    go_enter Try.func54, Try.ntmps54
    (try simp only [List.append_eq, List.cons_append, List.nil_append])
    go_wp2
    go_ret
    exact ⟨by rw [HE.out]; rfl, rfl⟩
  have g_sl0 : sl.length ≤ 0 := by have h := h_sl0; simp at h; simp [h]
  have g2_sl0 : ((sl.length : Int) == 0) = true := by
    have h : (sl.length : Int) = 0 := by omega
    rw [h]; rfl
  rcases Bool.eq_false_or_eq_true (st == 0) with h_st0 | h_st0
  rotate_left
  · skip
    have g_st0 : (st != 0) = true := by simpa using h_st0
    have HE : Hid (restB (⟨k, sc, sl, st, va, qu, ak, pe, po, co, se⟩) = false) := by
      unfold Hid
      show ((sc == 0) && ((sl.length == 0) && ((st == 0) && (eqbValue va ⟨0, 0⟩ && ((qu.length == 0) && (ak.length == 0)))))) = _
      rw [h_sc0]
      rw [h_sl0]
      rw [h_st0]
      simp
    go_enter Try.func54, Try.ntmps54
    (try simp only [List.append_eq, List.cons_append, List.nil_append])
    go_wp2
    go_ret
    exact ⟨by rw [HE.out]; rfl, rfl⟩
  have g_st0 : (st != 0) = false := by simpa using h_st0
  rcases Bool.eq_false_or_eq_true (eqbValue va ⟨0, 0⟩) with h_valz | h_valz
  rotate_left
  · skip
    have g_valz := fun w => run_eql_Value va ⟨0, 0⟩ w
    have g2_valz := fun w => run_neq_Value va ⟨0, 0⟩ w
    rw [h_valz] at g_valz g2_valz
    simp only [Bool.not_true, Bool.not_false] at g2_valz
    have HE : Hid (restB (⟨k, sc, sl, st, va, qu, ak, pe, po, co, se⟩) = false) := by
      unfold Hid
      show ((sc == 0) && ((sl.length == 0) && ((st == 0) && (eqbValue va ⟨0, 0⟩ && ((qu.length == 0) && (ak.length == 0)))))) = _
      rw [h_sc0]
      rw [h_sl0]
      rw [h_st0]
      rw [h_valz]
      simp
    go_enter Try.func54, Try.ntmps54
    (try simp only [List.append_eq, List.cons_append, List.nil_append])
    go_wp2
    go_ret
    exact ⟨by rw [HE.out]; rfl, rfl⟩
  have g_valz := fun w => run_eql_Value va ⟨0, 0⟩ w
  have g2_valz := fun w => run_neq_Value va ⟨0, 0⟩ w
  rw [h_valz] at g_valz g2_valz
  simp only [Bool.not_true, Bool.not_false] at g2_valz
  rcases Bool.eq_false_or_eq_true (qu.length == 0) with h_q0 | h_q0
  rotate_left
  · skip
    have g_q0 : 0 < qu.length := by have h := h_q0; simp at h; exact List.length_pos_iff.2 h
    have g2_q0 : ((qu.length : Int) == 0) = false := by
      have h : ¬ (qu.length : Int) = 0 := by omega
      simpa using h
    have HE : Hid (restB (⟨k, sc, sl, st, va, qu, ak, pe, po, co, se⟩) = false) := by
      unfold Hid
      show ((sc == 0) && ((sl.length == 0) && ((st == 0) && (eqbValue va ⟨0, 0⟩ && ((qu.length == 0) && (ak.length == 0)))))) = _
      rw [h_sc0]
      rw [h_sl0]
      rw [h_st0]
      rw [h_valz]
      rw [h_q0]
      simp
    go_enter Try.func54, Try.ntmps54
    (try simp only [List.append_eq, List.cons_append, List.nil_append])
    go_wp2
    go_ret
    exact ⟨by rw [HE.out]; rfl, rfl⟩
  have g_q0 : qu.length ≤ 0 := by have h := h_q0; simp at h; simp [h]
  have g2_q0 : ((qu.length : Int) == 0) = true := by
    have h : (qu.length : Int) = 0 := by omega
    rw [h]; rfl
  rcases Bool.eq_false_or_eq_true (ak.length == 0) with h_k0 | h_k0
  rotate_left
  · skip
    have g_k0 : 0 < ak.length := by have h := h_k0; simp at h; exact List.length_pos_iff.2 h
    have g2_k0 : ((ak.length : Int) == 0) = false := by
      have h : ¬ (ak.length : Int) = 0 := by omega
      simpa using h
    have HE : Hid (restB (⟨k, sc, sl, st, va, qu, ak, pe, po, co, se⟩) = false) := by
      unfold Hid
      show ((sc == 0) && ((sl.length == 0) && ((st == 0) && (eqbValue va ⟨0, 0⟩ && ((qu.length == 0) && (ak.length == 0)))))) = _
      rw [h_sc0]
      rw [h_sl0]
      rw [h_st0]
      rw [h_valz]
      rw [h_q0]
      rw [h_k0]
      simp
    go_enter Try.func54, Try.ntmps54
    (try simp only [List.append_eq, List.cons_append, List.nil_append])
    go_wp2
    go_ret
    exact ⟨by rw [HE.out]; rfl, rfl⟩
  have g_k0 : ak.length ≤ 0 := by have h := h_k0; simp at h; simp [h]
  have g2_k0 : ((ak.length : Int) == 0) = true := by
    have h : (ak.length : Int) = 0 := by omega
    rw [h]; rfl
  have HE : Hid (restB (⟨k, sc, sl, st, va, qu, ak, pe, po, co, se⟩) = true) := by
    unfold Hid
    show ((sc == 0) && ((sl.length == 0) && ((st == 0) && (eqbValue va ⟨0, 0⟩ && ((qu.length == 0) && (ak.length == 0)))))) = _
    rw [h_sc0]
    rw [h_sl0]
    rw [h_st0]
    rw [h_valz]
    rw [h_q0]
    rw [h_k0]
    simp
  go_enter Try.func54, Try.ntmps54
  (try simp only [List.append_eq, List.cons_append, List.nil_append])
  go_wp2
  go_ret
  exact ⟨by rw [HE.out]; rfl, rfl⟩
set_option maxHeartbeats 12800000 in
set_option maxRecDepth 100000 in
theorem impl_restC_calls (B : Nat) (x : GEntity) (A2 A6 A7 : Option Addr) (c2 c6 c7 : Nat) (w : World) (hb : Blk w B 37 #[.int .i64 x.Kind, .int .i64 x.Script, .slice A2 x.Slots.length c2, .int .i64 x.State, .int .i64 x.Value.Kind, .int .i64 x.Value.N, .slice A6 x.Queue.length c6, .slice A7 x.Askers.length c7, .int .i64 x.Peer, .int .i64 x.Pos, .int .i64 x.Count, .int .i64 x.Sent]) :
    Calls Try.prog 54 #[.pointer (some ⟨B, 0, none⟩), .bool false, .bool false, .bool true, .bool true] w fun e w' => e = .returned (.bool (restC x)) ∧ w' = w := by
  obtain ⟨k, sc, sl, st, va, qu, ak, pe, po, co, se⟩ := x
  dsimp only at hb ⊢
  have HK := Lib.hid hb
  have l0 := hb.lt
  obtain ⟨k0, f0⟩ := hb.rules
  clear hb
  rcases Bool.eq_false_or_eq_true (sc == 0) with h_sc0 | h_sc0
  rotate_left
  · skip
    have g_sc0 : (sc != 0) = true := by simpa using h_sc0
    have HE : Hid (restC (⟨k, sc, sl, st, va, qu, ak, pe, po, co, se⟩) = false) := by
      unfold Hid
      show ((sc == 0) && (sl.length == 0)) = _
      rw [h_sc0]
      simp
    go_enter Try.func54, Try.ntmps54
    (try simp only [List.append_eq, List.cons_append, List.nil_append])
    go_wp2
    go_ret
    exact ⟨by rw [HE.out]; rfl, rfl⟩
  have g_sc0 : (sc != 0) = false := by simpa using h_sc0
  rcases Bool.eq_false_or_eq_true (sl.length == 0) with h_sl0 | h_sl0
  rotate_left
  · skip
    have g_sl0 : 0 < sl.length := by have h := h_sl0; simp at h; exact List.length_pos_iff.2 h
    have g2_sl0 : ((sl.length : Int) == 0) = false := by
      have h : ¬ (sl.length : Int) = 0 := by omega
      simpa using h
    have HE : Hid (restC (⟨k, sc, sl, st, va, qu, ak, pe, po, co, se⟩) = false) := by
      unfold Hid
      show ((sc == 0) && (sl.length == 0)) = _
      rw [h_sc0]
      rw [h_sl0]
      simp
    go_enter Try.func54, Try.ntmps54
    (try simp only [List.append_eq, List.cons_append, List.nil_append])
    go_wp2
    go_ret
    exact ⟨by rw [HE.out]; rfl, rfl⟩
  have g_sl0 : sl.length ≤ 0 := by have h := h_sl0; simp at h; simp [h]
  have g2_sl0 : ((sl.length : Int) == 0) = true := by
    have h : (sl.length : Int) = 0 := by omega
    rw [h]; rfl
  have HE : Hid (restC (⟨k, sc, sl, st, va, qu, ak, pe, po, co, se⟩) = true) := by
    unfold Hid
    show ((sc == 0) && (sl.length == 0)) = _
    rw [h_sc0]
    rw [h_sl0]
    simp
  go_enter Try.func54, Try.ntmps54
  (try simp only [List.append_eq, List.cons_append, List.nil_append])
  go_wp2
  go_ret
  exact ⟨by rw [HE.out]; rfl, rfl⟩

end Go.Proofs.Ytaalbbhebmpppaa
