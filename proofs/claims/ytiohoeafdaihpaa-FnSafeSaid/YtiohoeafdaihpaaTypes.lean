/- The Go structs as typed Lean structures, and how each lies in memory; no program in sight. -/
import Derived.Test.YtiohoeafdaihpaaBase
set_option linter.unusedSimpArgs false
set_option linter.unusedVariables false
namespace Go.Proofs.Ytiohoeafdaihpaa
open Go.RowKit
def eInt (x : Int) : List Lf := [.v (.int .i64 x)]
def eStr (x : ByteArray) : List Lf := [.v (.string x)]
def eByte (x : UInt8) : List Lf := [.v (.int .u8 (x.toNat : Int))]
def eBool (x : Bool) : List Lf := [.v (.bool x)]
structure GInstr where
  Op : Int
  A : Int
  B : Int
  C : Int
  D : Int
  Name : ByteArray
def zInstr : GInstr := ⟨0, 0, 0, 0, 0, ⟨#[]⟩⟩
def eInstr (x : GInstr) : List Lf := [.v (.int .i64 x.Op), .v (.int .i64 x.A), .v (.int .i64 x.B), .v (.int .i64 x.C), .v (.int .i64 x.D), .v (.string x.Name)]
structure GMethod where
  Name : ByteArray
  Code : List GInstr
def zMethod : GMethod := ⟨⟨#[]⟩, []⟩
def eMethod (x : GMethod) : List Lf := [.v (.string x.Name), .s x.Code.length (x.Code.flatMap eInstr)]
structure GScript where
  Name : ByteArray
  Methods : List GMethod
def zScript : GScript := ⟨⟨#[]⟩, []⟩
def eScript (x : GScript) : List Lf := [.v (.string x.Name), .s x.Methods.length (x.Methods.flatMap eMethod)]
theorem len_eInt (x : Int) : (eInt x).length = 1 := rfl
def vsInt (x : Int) : List Value := [.int .i64 x]
theorem vals_eInt (x : Int) : eInt x = (vsInt x).map Lf.v := rfl
theorem one_eInt (xs : List Int) : ∀ u, u ∈ xs.flatMap vsInt → u.oneCell' = true := by
  intro u hu
  obtain ⟨x, _, hx⟩ := List.mem_flatMap.1 hu
  simp only [vsInt, List.mem_cons, List.not_mem_nil, or_false] at hx
  subst hx; rfl
theorem lenv_eInt (xs : List Int) : (xs.flatMap vsInt).length = xs.length * 1 := by
  induction xs with
  | nil => simp
  | cons x xs ih => simp [ih, vsInt]
theorem rd_eInt {w : World} {x : Int} {us : List Value} (h : RdLW w (eInt x) us) : us = [.int .i64 x] := by
  unfold eInt at h
  have q0 := h
  clear h
  obtain ⟨us0, rfl, q1⟩ := RdLW_w.1 q0
  obtain rfl := RdLW_nil.1 q1
  exact rfl
theorem mkrd_eInt {w : World} {x : Int} : RdLW w (eInt x) [.int .i64 x] := by
  unfold eInt
  exact RdLW_w.2 ⟨_, rfl, RdLW_nil.2 rfl⟩
theorem own_eInt {w : World} {x : Int} {us : List Value} {fp : List Nat} (h : OwnL w (eInt x) us fp) : us = [.int .i64 x] ∧ fp = [] := by
  unfold eInt at h
  have q0 := h
  clear h
  obtain ⟨us0, rfl, q1⟩ := OwnL_w.1 q0
  obtain ⟨rfl, rfl⟩ := OwnL_nil.1 q1
  exact ⟨rfl, rfl⟩
theorem mkown_eInt {w : World} {x : Int} : OwnL w (eInt x) [.int .i64 x] ([]) := by
  have h : OwnL w (eInt x) [.int .i64 x] ([]) := by
    unfold eInt
    exact OwnL_w.2 ⟨_, rfl, OwnL_nil.2 ⟨rfl, rfl⟩⟩
  exact h
theorem row_eInt {w : World} {xs : List Int} {A : Option Addr} {c : Nat} (h : RdW w (.s xs.length (xs.flatMap eInt)) (.slice A xs.length c)) {i : Nat} {x : Int} (hx : xs[i]? = some x) :
    ∃ ad, A = some ad ∧ ad.block < w.heap.size ∧ w.cell? (ad.add i) = some (.int .i64 x) := by
  obtain ⟨ad, ys, rfl, hb, hr, hc⟩ := RdW.at_ len_eInt h hx
  obtain rfl := rd_eInt hr
  exact ⟨ad, rfl, hb, (by have h0 := hc 0 _ rfl; rwa [Nat.mul_one, Nat.add_zero] at h0)⟩
theorem slim_eInt (x : Int) : SlimL (eInt x) := SlimL_cons (Slim_v _) (SlimL_nil)
theorem siz_eInt (x : Int) : sizL (eInt x) = 0 := by
  simp only [eInt, sizL_cons, sizL_nil, siz_s, siz_int, siz_str, siz_bool]
theorem cnt_eInt (x : Int) : cntL (eInt x) = 1 := by
  simp only [eInt, cntL_cons, cntL_nil, cnt_s, cnt_v]
theorem cntf_eInt (xs : List Int) : cntL (xs.flatMap eInt) = xs.length * 1 := by
  induction xs with
  | nil => simp [cntL_nil]
  | cons x xs ih => rw [List.flatMap_cons, cntL_append, ih, cnt_eInt, List.length_cons]; omega
theorem mk_eInt (x : Int) (q : Int) (b0 : 0 ≤ q) (b1 : q + cntL (eInt x) ≤ 4611686018427387904) : mkL (eInt x) q = [.v (.int .i64 q)] := by
  have hc := cnt_eInt x
  simp only [eInt, mkL_cons, mkL_nil, mk_int, mk_str, mk_bool, mk_s, cnt_v, cnt_s, Int.natCast_one]
  rw [wrap_id (q) (by omega) (by omega)]
theorem rdm_eInt {w : World} {x : Int} {us : List Value} (q : Int) (b0 : 0 ≤ q) (b1 : q + cntL (eInt x) ≤ 4611686018427387904) (h : RdLW w (mkL (eInt x) q) us) : us = [.int .i64 q] := by
  rw [mk_eInt x q b0 b1] at h
  have q0 := h
  clear h
  obtain ⟨us0, rfl, q1⟩ := RdLW_w.1 q0
  obtain rfl := RdLW_nil.1 q1
  exact rfl
theorem mkownm_eInt {w : World} {x : Int} (q : Int) (b0 : 0 ≤ q) (b1 : q + cntL (eInt x) ≤ 4611686018427387904) : OwnL w (mkL (eInt x) q) [.int .i64 q] ([]) := by
  have h : OwnL w (mkL (eInt x) q) [.int .i64 q] ([]) := by
    rw [mk_eInt x q b0 b1]
    exact OwnL_w.2 ⟨_, rfl, OwnL_nil.2 ⟨rfl, rfl⟩⟩
  exact h
theorem len_eStr (x : ByteArray) : (eStr x).length = 1 := rfl
def vsStr (x : ByteArray) : List Value := [.string x]
theorem vals_eStr (x : ByteArray) : eStr x = (vsStr x).map Lf.v := rfl
theorem one_eStr (xs : List ByteArray) : ∀ u, u ∈ xs.flatMap vsStr → u.oneCell' = true := by
  intro u hu
  obtain ⟨x, _, hx⟩ := List.mem_flatMap.1 hu
  simp only [vsStr, List.mem_cons, List.not_mem_nil, or_false] at hx
  subst hx; rfl
theorem lenv_eStr (xs : List ByteArray) : (xs.flatMap vsStr).length = xs.length * 1 := by
  induction xs with
  | nil => simp
  | cons x xs ih => simp [ih, vsStr]
theorem rd_eStr {w : World} {x : ByteArray} {us : List Value} (h : RdLW w (eStr x) us) : us = [.string x] := by
  unfold eStr at h
  have q0 := h
  clear h
  obtain ⟨us0, rfl, q1⟩ := RdLW_w.1 q0
  obtain rfl := RdLW_nil.1 q1
  exact rfl
theorem mkrd_eStr {w : World} {x : ByteArray} : RdLW w (eStr x) [.string x] := by
  unfold eStr
  exact RdLW_w.2 ⟨_, rfl, RdLW_nil.2 rfl⟩
theorem own_eStr {w : World} {x : ByteArray} {us : List Value} {fp : List Nat} (h : OwnL w (eStr x) us fp) : us = [.string x] ∧ fp = [] := by
  unfold eStr at h
  have q0 := h
  clear h
  obtain ⟨us0, rfl, q1⟩ := OwnL_w.1 q0
  obtain ⟨rfl, rfl⟩ := OwnL_nil.1 q1
  exact ⟨rfl, rfl⟩
theorem mkown_eStr {w : World} {x : ByteArray} : OwnL w (eStr x) [.string x] ([]) := by
  have h : OwnL w (eStr x) [.string x] ([]) := by
    unfold eStr
    exact OwnL_w.2 ⟨_, rfl, OwnL_nil.2 ⟨rfl, rfl⟩⟩
  exact h
theorem row_eStr {w : World} {xs : List ByteArray} {A : Option Addr} {c : Nat} (h : RdW w (.s xs.length (xs.flatMap eStr)) (.slice A xs.length c)) {i : Nat} {x : ByteArray} (hx : xs[i]? = some x) :
    ∃ ad, A = some ad ∧ ad.block < w.heap.size ∧ w.cell? (ad.add i) = some (.string x) := by
  obtain ⟨ad, ys, rfl, hb, hr, hc⟩ := RdW.at_ len_eStr h hx
  obtain rfl := rd_eStr hr
  exact ⟨ad, rfl, hb, (by have h0 := hc 0 _ rfl; rwa [Nat.mul_one, Nat.add_zero] at h0)⟩
theorem slim_eStr (x : ByteArray) : SlimL (eStr x) := SlimL_cons (Slim_v _) (SlimL_nil)
theorem siz_eStr (x : ByteArray) : sizL (eStr x) = x.size := by
  simp only [eStr, sizL_cons, sizL_nil, siz_s, siz_int, siz_str, siz_bool]
  first | done | omega | rfl
theorem cnt_eStr (x : ByteArray) : cntL (eStr x) = 1 := by
  simp only [eStr, cntL_cons, cntL_nil, cnt_s, cnt_v]
theorem cntf_eStr (xs : List ByteArray) : cntL (xs.flatMap eStr) = xs.length * 1 := by
  induction xs with
  | nil => simp [cntL_nil]
  | cons x xs ih => rw [List.flatMap_cons, cntL_append, ih, cnt_eStr, List.length_cons]; omega
theorem mk_eStr (x : ByteArray) (q : Int) (b0 : 0 ≤ q) (b1 : q + cntL (eStr x) ≤ 4611686018427387904) : mkL (eStr x) q = [.v (.string (mkText q))] := by
  have hc := cnt_eStr x
  simp only [eStr, mkL_cons, mkL_nil, mk_int, mk_str, mk_bool, mk_s, cnt_v, cnt_s, Int.natCast_one]
theorem rdm_eStr {w : World} {x : ByteArray} {us : List Value} (q : Int) (b0 : 0 ≤ q) (b1 : q + cntL (eStr x) ≤ 4611686018427387904) (h : RdLW w (mkL (eStr x) q) us) : us = [.string (mkText q)] := by
  rw [mk_eStr x q b0 b1] at h
  have q0 := h
  clear h
  obtain ⟨us0, rfl, q1⟩ := RdLW_w.1 q0
  obtain rfl := RdLW_nil.1 q1
  exact rfl
theorem mkownm_eStr {w : World} {x : ByteArray} (q : Int) (b0 : 0 ≤ q) (b1 : q + cntL (eStr x) ≤ 4611686018427387904) : OwnL w (mkL (eStr x) q) [.string (mkText q)] ([]) := by
  have h : OwnL w (mkL (eStr x) q) [.string (mkText q)] ([]) := by
    rw [mk_eStr x q b0 b1]
    exact OwnL_w.2 ⟨_, rfl, OwnL_nil.2 ⟨rfl, rfl⟩⟩
  exact h
theorem len_eByte (x : UInt8) : (eByte x).length = 1 := rfl
def vsByte (x : UInt8) : List Value := [.int .u8 (x.toNat : Int)]
theorem vals_eByte (x : UInt8) : eByte x = (vsByte x).map Lf.v := rfl
theorem one_eByte (xs : List UInt8) : ∀ u, u ∈ xs.flatMap vsByte → u.oneCell' = true := by
  intro u hu
  obtain ⟨x, _, hx⟩ := List.mem_flatMap.1 hu
  simp only [vsByte, List.mem_cons, List.not_mem_nil, or_false] at hx
  subst hx; rfl
theorem lenv_eByte (xs : List UInt8) : (xs.flatMap vsByte).length = xs.length * 1 := by
  induction xs with
  | nil => simp
  | cons x xs ih => simp [ih, vsByte]
theorem rd_eByte {w : World} {x : UInt8} {us : List Value} (h : RdLW w (eByte x) us) : us = [.int .u8 (x.toNat : Int)] := by
  unfold eByte at h
  have q0 := h
  clear h
  obtain ⟨us0, rfl, q1⟩ := RdLW_w.1 q0
  obtain rfl := RdLW_nil.1 q1
  exact rfl
theorem mkrd_eByte {w : World} {x : UInt8} : RdLW w (eByte x) [.int .u8 (x.toNat : Int)] := by
  unfold eByte
  exact RdLW_w.2 ⟨_, rfl, RdLW_nil.2 rfl⟩
theorem own_eByte {w : World} {x : UInt8} {us : List Value} {fp : List Nat} (h : OwnL w (eByte x) us fp) : us = [.int .u8 (x.toNat : Int)] ∧ fp = [] := by
  unfold eByte at h
  have q0 := h
  clear h
  obtain ⟨us0, rfl, q1⟩ := OwnL_w.1 q0
  obtain ⟨rfl, rfl⟩ := OwnL_nil.1 q1
  exact ⟨rfl, rfl⟩
theorem mkown_eByte {w : World} {x : UInt8} : OwnL w (eByte x) [.int .u8 (x.toNat : Int)] ([]) := by
  have h : OwnL w (eByte x) [.int .u8 (x.toNat : Int)] ([]) := by
    unfold eByte
    exact OwnL_w.2 ⟨_, rfl, OwnL_nil.2 ⟨rfl, rfl⟩⟩
  exact h
theorem row_eByte {w : World} {xs : List UInt8} {A : Option Addr} {c : Nat} (h : RdW w (.s xs.length (xs.flatMap eByte)) (.slice A xs.length c)) {i : Nat} {x : UInt8} (hx : xs[i]? = some x) :
    ∃ ad, A = some ad ∧ ad.block < w.heap.size ∧ w.cell? (ad.add i) = some (.int .u8 (x.toNat : Int)) := by
  obtain ⟨ad, ys, rfl, hb, hr, hc⟩ := RdW.at_ len_eByte h hx
  obtain rfl := rd_eByte hr
  exact ⟨ad, rfl, hb, (by have h0 := hc 0 _ rfl; rwa [Nat.mul_one, Nat.add_zero] at h0)⟩
theorem slim_eByte (x : UInt8) : SlimL (eByte x) := SlimL_cons (Slim_v _) (SlimL_nil)
theorem siz_eByte (x : UInt8) : sizL (eByte x) = 0 := by
  simp only [eByte, sizL_cons, sizL_nil, siz_s, siz_int, siz_str, siz_bool]
theorem cnt_eByte (x : UInt8) : cntL (eByte x) = 1 := by
  simp only [eByte, cntL_cons, cntL_nil, cnt_s, cnt_v]
theorem cntf_eByte (xs : List UInt8) : cntL (xs.flatMap eByte) = xs.length * 1 := by
  induction xs with
  | nil => simp [cntL_nil]
  | cons x xs ih => rw [List.flatMap_cons, cntL_append, ih, cnt_eByte, List.length_cons]; omega
theorem mk_eByte (x : UInt8) (q : Int) (b0 : 0 ≤ q) (b1 : q + cntL (eByte x) ≤ 4611686018427387904) : mkL (eByte x) q = [.v (.int .u8 (IntKind.u8.wrap q))] := by
  have hc := cnt_eByte x
  simp only [eByte, mkL_cons, mkL_nil, mk_int, mk_str, mk_bool, mk_s, cnt_v, cnt_s, Int.natCast_one]
theorem rdm_eByte {w : World} {x : UInt8} {us : List Value} (q : Int) (b0 : 0 ≤ q) (b1 : q + cntL (eByte x) ≤ 4611686018427387904) (h : RdLW w (mkL (eByte x) q) us) : us = [.int .u8 (IntKind.u8.wrap q)] := by
  rw [mk_eByte x q b0 b1] at h
  have q0 := h
  clear h
  obtain ⟨us0, rfl, q1⟩ := RdLW_w.1 q0
  obtain rfl := RdLW_nil.1 q1
  exact rfl
theorem mkownm_eByte {w : World} {x : UInt8} (q : Int) (b0 : 0 ≤ q) (b1 : q + cntL (eByte x) ≤ 4611686018427387904) : OwnL w (mkL (eByte x) q) [.int .u8 (IntKind.u8.wrap q)] ([]) := by
  have h : OwnL w (mkL (eByte x) q) [.int .u8 (IntKind.u8.wrap q)] ([]) := by
    rw [mk_eByte x q b0 b1]
    exact OwnL_w.2 ⟨_, rfl, OwnL_nil.2 ⟨rfl, rfl⟩⟩
  exact h
theorem len_eBool (x : Bool) : (eBool x).length = 1 := rfl
def vsBool (x : Bool) : List Value := [.bool x]
theorem vals_eBool (x : Bool) : eBool x = (vsBool x).map Lf.v := rfl
theorem one_eBool (xs : List Bool) : ∀ u, u ∈ xs.flatMap vsBool → u.oneCell' = true := by
  intro u hu
  obtain ⟨x, _, hx⟩ := List.mem_flatMap.1 hu
  simp only [vsBool, List.mem_cons, List.not_mem_nil, or_false] at hx
  subst hx; rfl
theorem lenv_eBool (xs : List Bool) : (xs.flatMap vsBool).length = xs.length * 1 := by
  induction xs with
  | nil => simp
  | cons x xs ih => simp [ih, vsBool]
theorem rd_eBool {w : World} {x : Bool} {us : List Value} (h : RdLW w (eBool x) us) : us = [.bool x] := by
  unfold eBool at h
  have q0 := h
  clear h
  obtain ⟨us0, rfl, q1⟩ := RdLW_w.1 q0
  obtain rfl := RdLW_nil.1 q1
  exact rfl
theorem mkrd_eBool {w : World} {x : Bool} : RdLW w (eBool x) [.bool x] := by
  unfold eBool
  exact RdLW_w.2 ⟨_, rfl, RdLW_nil.2 rfl⟩
theorem own_eBool {w : World} {x : Bool} {us : List Value} {fp : List Nat} (h : OwnL w (eBool x) us fp) : us = [.bool x] ∧ fp = [] := by
  unfold eBool at h
  have q0 := h
  clear h
  obtain ⟨us0, rfl, q1⟩ := OwnL_w.1 q0
  obtain ⟨rfl, rfl⟩ := OwnL_nil.1 q1
  exact ⟨rfl, rfl⟩
theorem mkown_eBool {w : World} {x : Bool} : OwnL w (eBool x) [.bool x] ([]) := by
  have h : OwnL w (eBool x) [.bool x] ([]) := by
    unfold eBool
    exact OwnL_w.2 ⟨_, rfl, OwnL_nil.2 ⟨rfl, rfl⟩⟩
  exact h
theorem row_eBool {w : World} {xs : List Bool} {A : Option Addr} {c : Nat} (h : RdW w (.s xs.length (xs.flatMap eBool)) (.slice A xs.length c)) {i : Nat} {x : Bool} (hx : xs[i]? = some x) :
    ∃ ad, A = some ad ∧ ad.block < w.heap.size ∧ w.cell? (ad.add i) = some (.bool x) := by
  obtain ⟨ad, ys, rfl, hb, hr, hc⟩ := RdW.at_ len_eBool h hx
  obtain rfl := rd_eBool hr
  exact ⟨ad, rfl, hb, (by have h0 := hc 0 _ rfl; rwa [Nat.mul_one, Nat.add_zero] at h0)⟩
theorem slim_eBool (x : Bool) : SlimL (eBool x) := SlimL_cons (Slim_v _) (SlimL_nil)
theorem siz_eBool (x : Bool) : sizL (eBool x) = 0 := by
  simp only [eBool, sizL_cons, sizL_nil, siz_s, siz_int, siz_str, siz_bool]
theorem cnt_eBool (x : Bool) : cntL (eBool x) = 1 := by
  simp only [eBool, cntL_cons, cntL_nil, cnt_s, cnt_v]
theorem cntf_eBool (xs : List Bool) : cntL (xs.flatMap eBool) = xs.length * 1 := by
  induction xs with
  | nil => simp [cntL_nil]
  | cons x xs ih => rw [List.flatMap_cons, cntL_append, ih, cnt_eBool, List.length_cons]; omega
theorem mk_eBool (x : Bool) (q : Int) (b0 : 0 ≤ q) (b1 : q + cntL (eBool x) ≤ 4611686018427387904) : mkL (eBool x) q = [.v (.bool (decide (Int.tmod q 3 = 0)))] := by
  have hc := cnt_eBool x
  simp only [eBool, mkL_cons, mkL_nil, mk_int, mk_str, mk_bool, mk_s, cnt_v, cnt_s, Int.natCast_one]
theorem rdm_eBool {w : World} {x : Bool} {us : List Value} (q : Int) (b0 : 0 ≤ q) (b1 : q + cntL (eBool x) ≤ 4611686018427387904) (h : RdLW w (mkL (eBool x) q) us) : us = [.bool (decide (Int.tmod q 3 = 0))] := by
  rw [mk_eBool x q b0 b1] at h
  have q0 := h
  clear h
  obtain ⟨us0, rfl, q1⟩ := RdLW_w.1 q0
  obtain rfl := RdLW_nil.1 q1
  exact rfl
theorem mkownm_eBool {w : World} {x : Bool} (q : Int) (b0 : 0 ≤ q) (b1 : q + cntL (eBool x) ≤ 4611686018427387904) : OwnL w (mkL (eBool x) q) [.bool (decide (Int.tmod q 3 = 0))] ([]) := by
  have h : OwnL w (mkL (eBool x) q) [.bool (decide (Int.tmod q 3 = 0))] ([]) := by
    rw [mk_eBool x q b0 b1]
    exact OwnL_w.2 ⟨_, rfl, OwnL_nil.2 ⟨rfl, rfl⟩⟩
  exact h
theorem len_eInstr (x : GInstr) : (eInstr x).length = 6 := rfl
def eqbInstr (x y : GInstr) : Bool := (x.Op == y.Op) && ((x.A == y.A) && ((x.B == y.B) && ((x.C == y.C) && ((x.D == y.D) && ((x.Name.toList == y.Name.toList))))))
theorem eqbInstr_refl (x : GInstr) : eqbInstr x x = true := by simp [eqbInstr]
theorem eqbInstr_iff (x y : GInstr) : eqbInstr x y = true ↔ x = y := by
  refine ⟨fun h => ?_, fun h => h ▸ eqbInstr_refl x⟩
  simp only [eqbInstr, Bool.and_eq_true, beq_iff_eq] at h
  obtain ⟨h0, h1, h2, h3, h4, h5⟩ := h
  have h5' : x.Name = y.Name := bytes_inj h5
  cases x; cases y; simp_all
def vsInstr (x : GInstr) : List Value := [.int .i64 x.Op, .int .i64 x.A, .int .i64 x.B, .int .i64 x.C, .int .i64 x.D, .string x.Name]
theorem vals_eInstr (x : GInstr) : eInstr x = (vsInstr x).map Lf.v := rfl
theorem one_eInstr (xs : List GInstr) : ∀ u, u ∈ xs.flatMap vsInstr → u.oneCell' = true := by
  intro u hu
  obtain ⟨x, _, hx⟩ := List.mem_flatMap.1 hu
  simp only [vsInstr, List.mem_cons, List.not_mem_nil, or_false] at hx
  rcases hx with rfl | rfl | rfl | rfl | rfl | rfl <;> rfl
theorem lenv_eInstr (xs : List GInstr) : (xs.flatMap vsInstr).length = xs.length * 6 := by
  induction xs with
  | nil => simp
  | cons x xs ih => simp [ih, vsInstr, Nat.succ_mul] <;> omega
theorem rd_eInstr {w : World} {x : GInstr} {us : List Value} (h : RdLW w (eInstr x) us) : us = [.int .i64 x.Op, .int .i64 x.A, .int .i64 x.B, .int .i64 x.C, .int .i64 x.D, .string x.Name] := by
  unfold eInstr at h
  have q0 := h
  clear h
  obtain ⟨us0, rfl, q1⟩ := RdLW_w.1 q0
  obtain ⟨us1, rfl, q2⟩ := RdLW_w.1 q1
  obtain ⟨us2, rfl, q3⟩ := RdLW_w.1 q2
  obtain ⟨us3, rfl, q4⟩ := RdLW_w.1 q3
  obtain ⟨us4, rfl, q5⟩ := RdLW_w.1 q4
  obtain ⟨us5, rfl, q6⟩ := RdLW_w.1 q5
  obtain rfl := RdLW_nil.1 q6
  exact rfl
theorem mkrd_eInstr {w : World} {x : GInstr} : RdLW w (eInstr x) [.int .i64 x.Op, .int .i64 x.A, .int .i64 x.B, .int .i64 x.C, .int .i64 x.D, .string x.Name] := by
  unfold eInstr
  exact RdLW_w.2 ⟨_, rfl, RdLW_w.2 ⟨_, rfl, RdLW_w.2 ⟨_, rfl, RdLW_w.2 ⟨_, rfl, RdLW_w.2 ⟨_, rfl, RdLW_w.2 ⟨_, rfl, RdLW_nil.2 rfl⟩⟩⟩⟩⟩⟩
theorem own_eInstr {w : World} {x : GInstr} {us : List Value} {fp : List Nat} (h : OwnL w (eInstr x) us fp) : us = [.int .i64 x.Op, .int .i64 x.A, .int .i64 x.B, .int .i64 x.C, .int .i64 x.D, .string x.Name] ∧ fp = [] := by
  unfold eInstr at h
  have q0 := h
  clear h
  obtain ⟨us0, rfl, q1⟩ := OwnL_w.1 q0
  obtain ⟨us1, rfl, q2⟩ := OwnL_w.1 q1
  obtain ⟨us2, rfl, q3⟩ := OwnL_w.1 q2
  obtain ⟨us3, rfl, q4⟩ := OwnL_w.1 q3
  obtain ⟨us4, rfl, q5⟩ := OwnL_w.1 q4
  obtain ⟨us5, rfl, q6⟩ := OwnL_w.1 q5
  obtain ⟨rfl, rfl⟩ := OwnL_nil.1 q6
  exact ⟨rfl, rfl⟩
theorem mkown_eInstr {w : World} {x : GInstr} : OwnL w (eInstr x) [.int .i64 x.Op, .int .i64 x.A, .int .i64 x.B, .int .i64 x.C, .int .i64 x.D, .string x.Name] ([]) := by
  have h : OwnL w (eInstr x) [.int .i64 x.Op, .int .i64 x.A, .int .i64 x.B, .int .i64 x.C, .int .i64 x.D, .string x.Name] ([]) := by
    unfold eInstr
    exact OwnL_w.2 ⟨_, rfl, OwnL_w.2 ⟨_, rfl, OwnL_w.2 ⟨_, rfl, OwnL_w.2 ⟨_, rfl, OwnL_w.2 ⟨_, rfl, OwnL_w.2 ⟨_, rfl, OwnL_nil.2 ⟨rfl, rfl⟩⟩⟩⟩⟩⟩⟩
  exact h
theorem row_eInstr {w : World} {xs : List GInstr} {A : Option Addr} {c : Nat} (h : RdW w (.s xs.length (xs.flatMap eInstr)) (.slice A xs.length c)) {i : Nat} {x : GInstr} (hx : xs[i]? = some x) :
    ∃ ad, A = some ad ∧ ad.block < w.heap.size ∧ w.cell? (ad.add (i * 6)) = some (.int .i64 x.Op) ∧ w.cell? ⟨(ad.add (i * 6)).block, (ad.add (i * 6)).off + 1, none⟩ = some (.int .i64 x.A) ∧ w.cell? ⟨(ad.add (i * 6)).block, (ad.add (i * 6)).off + 2, none⟩ = some (.int .i64 x.B) ∧ w.cell? ⟨(ad.add (i * 6)).block, (ad.add (i * 6)).off + 3, none⟩ = some (.int .i64 x.C) ∧ w.cell? ⟨(ad.add (i * 6)).block, (ad.add (i * 6)).off + 4, none⟩ = some (.int .i64 x.D) ∧ w.cell? ⟨(ad.add (i * 6)).block, (ad.add (i * 6)).off + 5, none⟩ = some (.string x.Name) := by
  obtain ⟨ad, ys, rfl, hb, hr, hc⟩ := RdW.at_ len_eInstr h hx
  obtain rfl := rd_eInstr hr
  exact ⟨ad, rfl, hb, hc 0 _ rfl, (by rw [← add_field _ _ 1 (by omega)]; exact hc 1 _ rfl), (by rw [← add_field _ _ 2 (by omega)]; exact hc 2 _ rfl), (by rw [← add_field _ _ 3 (by omega)]; exact hc 3 _ rfl), (by rw [← add_field _ _ 4 (by omega)]; exact hc 4 _ rfl), (by rw [← add_field _ _ 5 (by omega)]; exact hc 5 _ rfl)⟩
theorem slim_eInstr (x : GInstr) : SlimL (eInstr x) := SlimL_cons (Slim_v _) (SlimL_cons (Slim_v _) (SlimL_cons (Slim_v _) (SlimL_cons (Slim_v _) (SlimL_cons (Slim_v _) (SlimL_cons (Slim_v _) (SlimL_nil))))))
theorem siz_eInstr (x : GInstr) : sizL (eInstr x) = x.Name.size := by
  simp only [eInstr, sizL_cons, sizL_nil, siz_s, siz_int, siz_str, siz_bool]
  first | done | omega | rfl
theorem cnt_eInstr (x : GInstr) : cntL (eInstr x) = 1 + 1 + 1 + 1 + 1 + 1 := by
  simp only [eInstr, cntL_cons, cntL_nil, cnt_s, cnt_v]
  first | done | omega
theorem cntf_eInstr (xs : List GInstr) : cntL (xs.flatMap eInstr) = xs.length * 6 := by
  induction xs with
  | nil => simp [cntL_nil]
  | cons x xs ih => rw [List.flatMap_cons, cntL_append, ih, cnt_eInstr, List.length_cons]; omega
theorem mk_eInstr (x : GInstr) (q : Int) (b0 : 0 ≤ q) (b1 : q + cntL (eInstr x) ≤ 4611686018427387904) : mkL (eInstr x) q = [.v (.int .i64 q), .v (.int .i64 (q + 1)), .v (.int .i64 (q + 1 + 1)), .v (.int .i64 (q + 1 + 1 + 1)), .v (.int .i64 (q + 1 + 1 + 1 + 1)), .v (.string (mkText (q + 1 + 1 + 1 + 1 + 1)))] := by
  have hc := cnt_eInstr x
  simp only [eInstr, mkL_cons, mkL_nil, mk_int, mk_str, mk_bool, mk_s, cnt_v, cnt_s, Int.natCast_one]
  rw [wrap_id (q) (by omega) (by omega)]
  rw [wrap_id (q + 1) (by omega) (by omega)]
  rw [wrap_id (q + 1 + 1) (by omega) (by omega)]
  rw [wrap_id (q + 1 + 1 + 1) (by omega) (by omega)]
  rw [wrap_id (q + 1 + 1 + 1 + 1) (by omega) (by omega)]
theorem rdm_eInstr {w : World} {x : GInstr} {us : List Value} (q : Int) (b0 : 0 ≤ q) (b1 : q + cntL (eInstr x) ≤ 4611686018427387904) (h : RdLW w (mkL (eInstr x) q) us) : us = [.int .i64 q, .int .i64 (q + 1), .int .i64 (q + 1 + 1), .int .i64 (q + 1 + 1 + 1), .int .i64 (q + 1 + 1 + 1 + 1), .string (mkText (q + 1 + 1 + 1 + 1 + 1))] := by
  rw [mk_eInstr x q b0 b1] at h
  have q0 := h
  clear h
  obtain ⟨us0, rfl, q1⟩ := RdLW_w.1 q0
  obtain ⟨us1, rfl, q2⟩ := RdLW_w.1 q1
  obtain ⟨us2, rfl, q3⟩ := RdLW_w.1 q2
  obtain ⟨us3, rfl, q4⟩ := RdLW_w.1 q3
  obtain ⟨us4, rfl, q5⟩ := RdLW_w.1 q4
  obtain ⟨us5, rfl, q6⟩ := RdLW_w.1 q5
  obtain rfl := RdLW_nil.1 q6
  exact rfl
theorem mkownm_eInstr {w : World} {x : GInstr} (q : Int) (b0 : 0 ≤ q) (b1 : q + cntL (eInstr x) ≤ 4611686018427387904) : OwnL w (mkL (eInstr x) q) [.int .i64 q, .int .i64 (q + 1), .int .i64 (q + 1 + 1), .int .i64 (q + 1 + 1 + 1), .int .i64 (q + 1 + 1 + 1 + 1), .string (mkText (q + 1 + 1 + 1 + 1 + 1))] ([]) := by
  have h : OwnL w (mkL (eInstr x) q) [.int .i64 q, .int .i64 (q + 1), .int .i64 (q + 1 + 1), .int .i64 (q + 1 + 1 + 1), .int .i64 (q + 1 + 1 + 1 + 1), .string (mkText (q + 1 + 1 + 1 + 1 + 1))] ([]) := by
    rw [mk_eInstr x q b0 b1]
    exact OwnL_w.2 ⟨_, rfl, OwnL_w.2 ⟨_, rfl, OwnL_w.2 ⟨_, rfl, OwnL_w.2 ⟨_, rfl, OwnL_w.2 ⟨_, rfl, OwnL_w.2 ⟨_, rfl, OwnL_nil.2 ⟨rfl, rfl⟩⟩⟩⟩⟩⟩⟩
  exact h
theorem str_eInstr {x : GInstr} (h : StrOkL (eInstr x)) : x.Name.size ≤ 140737488355328 := by
  simp only [eInstr, StrOkL_cons, StrOkL_nil, StrOk_str, StrOk_int, StrOk_bool, StrOk_s, true_and, and_true] at h
  exact h
theorem len_eMethod (x : GMethod) : (eMethod x).length = 2 := rfl
theorem rd_eMethod {w : World} {x : GMethod} {us : List Value} (h : RdLW w (eMethod x) us) : ∃ v1, us = [.string x.Name, v1] ∧ RdW w (.s x.Code.length (x.Code.flatMap eInstr)) v1 := by
  unfold eMethod at h
  have q0 := h
  clear h
  obtain ⟨us0, rfl, q1⟩ := RdLW_w.1 q0
  obtain ⟨u1, us1, rfl, h1, q2⟩ := RdLW_cons.1 q1
  obtain rfl := RdLW_nil.1 q2
  exact ⟨u1, rfl, h1⟩
theorem mkrd_eMethod {w : World} {x : GMethod} {v1 : Value} (h1 : RdW w (.s x.Code.length (x.Code.flatMap eInstr)) v1) : RdLW w (eMethod x) [.string x.Name, v1] := by
  unfold eMethod
  exact RdLW_w.2 ⟨_, rfl, RdLW_cons.2 ⟨_, _, rfl, h1, RdLW_nil.2 rfl⟩⟩
theorem own_eMethod {w : World} {x : GMethod} {us : List Value} {fp : List Nat} (h : OwnL w (eMethod x) us fp) : ∃ v1 f1, us = [.string x.Name, v1] ∧ fp = f1 ∧ Own w (.s x.Code.length (x.Code.flatMap eInstr)) v1 f1 := by
  unfold eMethod at h
  have q0 := h
  clear h
  obtain ⟨us0, rfl, q1⟩ := OwnL_w.1 q0
  obtain ⟨u1, us1, g1, k1, rfl, rfl, h1, q2⟩ := OwnL_cons.1 q1
  obtain ⟨rfl, rfl⟩ := OwnL_nil.1 q2
  exact ⟨u1, g1, rfl, by simp only [List.append_nil, List.append_assoc], h1⟩
theorem mkown_eMethod {w : World} {x : GMethod} {v1 : Value} {f1 : List Nat} (h1 : Own w (.s x.Code.length (x.Code.flatMap eInstr)) v1 f1) : OwnL w (eMethod x) [.string x.Name, v1] (f1) := by
  have h : OwnL w (eMethod x) [.string x.Name, v1] (f1 ++ ([])) := by
    unfold eMethod
    exact OwnL_w.2 ⟨_, rfl, OwnL_cons.2 ⟨_, _, f1, _, rfl, rfl, h1, OwnL_nil.2 ⟨rfl, rfl⟩⟩⟩
  simpa only [List.append_nil, List.append_assoc] using h
theorem row_eMethod {w : World} {xs : List GMethod} {A : Option Addr} {c : Nat} (h : RdW w (.s xs.length (xs.flatMap eMethod)) (.slice A xs.length c)) {i : Nat} {x : GMethod} (hx : xs[i]? = some x) :
    ∃ ad v1, A = some ad ∧ ad.block < w.heap.size ∧ w.cell? (ad.add (i * 2)) = some (.string x.Name) ∧ w.cell? ⟨(ad.add (i * 2)).block, (ad.add (i * 2)).off + 1, none⟩ = some (v1) ∧ RdW w (.s x.Code.length (x.Code.flatMap eInstr)) v1 := by
  obtain ⟨ad, ys, rfl, hb, hr, hc⟩ := RdW.at_ len_eMethod h hx
  obtain ⟨v1, rfl, h1⟩ := rd_eMethod hr
  exact ⟨ad, v1, rfl, hb, hc 0 _ rfl, (by rw [← add_field _ _ 1 (by omega)]; exact hc 1 _ rfl), h1⟩
theorem slim_eMethod (x : GMethod) : SlimL (eMethod x) := SlimL_cons (Slim_v _) (SlimL_cons (Slim_flat _ 6 len_eInstr (by omega) slim_eInstr _) (SlimL_nil))
theorem siz_eMethod (x : GMethod) : sizL (eMethod x) = x.Name.size + (x.Code.length + sizL (x.Code.flatMap eInstr)) := by
  simp only [eMethod, sizL_cons, sizL_nil, siz_s, siz_int, siz_str, siz_bool]
  first | done | omega | rfl
theorem cnt_eMethod (x : GMethod) : cntL (eMethod x) = 1 + cntL (x.Code.flatMap eInstr) := by
  simp only [eMethod, cntL_cons, cntL_nil, cnt_s, cnt_v]
  first | done | omega
theorem mk_eMethod (x : GMethod) (q : Int) (r1 : Int) (hr1 : r1 = q + 1 + (cntL (x.Code.flatMap eInstr) : Nat)) (b0 : 0 ≤ q) (b1 : q + cntL (eMethod x) ≤ 4611686018427387904) : mkL (eMethod x) q = [.v (.string (mkText q)), .s x.Code.length (mkL (x.Code.flatMap eInstr) (q + 1))] := by
  have hc := cnt_eMethod x
  subst hr1
  simp only [eMethod, mkL_cons, mkL_nil, mk_int, mk_str, mk_bool, mk_s, cnt_v, cnt_s, Int.natCast_one]
theorem rdm_eMethod {w : World} {x : GMethod} {us : List Value} (q : Int) (r1 : Int) (hr1 : r1 = q + 1 + (cntL (x.Code.flatMap eInstr) : Nat)) (b0 : 0 ≤ q) (b1 : q + cntL (eMethod x) ≤ 4611686018427387904) (h : RdLW w (mkL (eMethod x) q) us) : ∃ v1, us = [.string (mkText q), v1] ∧ RdW w (.s x.Code.length (mkL (x.Code.flatMap eInstr) (q + 1))) v1 := by
  rw [mk_eMethod x q r1 hr1 b0 b1] at h
  have q0 := h
  clear h
  obtain ⟨us0, rfl, q1⟩ := RdLW_w.1 q0
  obtain ⟨u1, us1, rfl, h1, q2⟩ := RdLW_cons.1 q1
  obtain rfl := RdLW_nil.1 q2
  exact ⟨u1, rfl, h1⟩
theorem mkownm_eMethod {w : World} {x : GMethod} (q : Int) (r1 : Int) (hr1 : r1 = q + 1 + (cntL (x.Code.flatMap eInstr) : Nat)) (b0 : 0 ≤ q) (b1 : q + cntL (eMethod x) ≤ 4611686018427387904) {v1 : Value} {f1 : List Nat} (h1 : Own w (.s x.Code.length (mkL (x.Code.flatMap eInstr) (q + 1))) v1 f1) : OwnL w (mkL (eMethod x) q) [.string (mkText q), v1] (f1) := by
  have h : OwnL w (mkL (eMethod x) q) [.string (mkText q), v1] (f1 ++ ([])) := by
    rw [mk_eMethod x q r1 hr1 b0 b1]
    exact OwnL_w.2 ⟨_, rfl, OwnL_cons.2 ⟨_, _, f1, _, rfl, rfl, h1, OwnL_nil.2 ⟨rfl, rfl⟩⟩⟩
  simpa only [List.append_nil, List.append_assoc] using h
theorem str_eMethod {x : GMethod} (h : StrOkL (eMethod x)) : x.Name.size ≤ 140737488355328 ∧ StrOkL (x.Code.flatMap eInstr) := by
  simp only [eMethod, StrOkL_cons, StrOkL_nil, StrOk_str, StrOk_int, StrOk_bool, StrOk_s, true_and, and_true] at h
  exact h
theorem top_eMethod (x : GMethod) (q : Int) (r1 : Int) (hr1 : r1 = q + (cntL (x.Code.flatMap eInstr) : Nat)) : topL (eMethod x) q = [.v (.string x.Name), .s x.Code.length (mkL (x.Code.flatMap eInstr) q)] := by
  subst hr1
  simp only [eMethod, topL_v, topL_s, topL_nil]
theorem tcnt_eMethod (x : GMethod) : tcnt (eMethod x) = cntL (x.Code.flatMap eInstr) := by
  simp only [eMethod, tcnt_v, tcnt_s, tcnt_nil, Nat.add_zero, Nat.add_assoc]
theorem mktop_eMethod {w : World} {x : GMethod} (q : Int) (r1 : Int) (hr1 : r1 = q + (cntL (x.Code.flatMap eInstr) : Nat)) {v1 : Value} {f1 : List Nat} (h1 : Own w (.s x.Code.length (mkL (x.Code.flatMap eInstr) q)) v1 f1) : OwnL w (topL (eMethod x) q) [.string x.Name, v1] (f1) := by
  have h : OwnL w (topL (eMethod x) q) [.string x.Name, v1] (f1 ++ ([])) := by
    rw [top_eMethod x q r1 hr1]
    exact OwnL_w.2 ⟨_, rfl, OwnL_cons.2 ⟨_, _, f1, _, rfl, rfl, h1, OwnL_nil.2 ⟨rfl, rfl⟩⟩⟩
  simpa only [List.append_nil, List.append_assoc] using h
theorem rdtop_eMethod {w : World} {x : GMethod} {us : List Value} (q : Int) (r1 : Int) (hr1 : r1 = q + (cntL (x.Code.flatMap eInstr) : Nat)) (h : RdLW w (topL (eMethod x) q) us) : ∃ v1, us = [.string x.Name, v1] ∧ RdW w (.s x.Code.length (mkL (x.Code.flatMap eInstr) q)) v1 := by
  rw [top_eMethod x q r1 hr1] at h
  have q0 := h
  clear h
  obtain ⟨us0, rfl, q1⟩ := RdLW_w.1 q0
  obtain ⟨u1, us1, rfl, h1, q2⟩ := RdLW_cons.1 q1
  obtain rfl := RdLW_nil.1 q2
  exact ⟨u1, rfl, h1⟩
theorem len_eScript (x : GScript) : (eScript x).length = 2 := rfl
theorem rd_eScript {w : World} {x : GScript} {us : List Value} (h : RdLW w (eScript x) us) : ∃ v1, us = [.string x.Name, v1] ∧ RdW w (.s x.Methods.length (x.Methods.flatMap eMethod)) v1 := by
  unfold eScript at h
  have q0 := h
  clear h
  obtain ⟨us0, rfl, q1⟩ := RdLW_w.1 q0
  obtain ⟨u1, us1, rfl, h1, q2⟩ := RdLW_cons.1 q1
  obtain rfl := RdLW_nil.1 q2
  exact ⟨u1, rfl, h1⟩
theorem mkrd_eScript {w : World} {x : GScript} {v1 : Value} (h1 : RdW w (.s x.Methods.length (x.Methods.flatMap eMethod)) v1) : RdLW w (eScript x) [.string x.Name, v1] := by
  unfold eScript
  exact RdLW_w.2 ⟨_, rfl, RdLW_cons.2 ⟨_, _, rfl, h1, RdLW_nil.2 rfl⟩⟩
theorem own_eScript {w : World} {x : GScript} {us : List Value} {fp : List Nat} (h : OwnL w (eScript x) us fp) : ∃ v1 f1, us = [.string x.Name, v1] ∧ fp = f1 ∧ Own w (.s x.Methods.length (x.Methods.flatMap eMethod)) v1 f1 := by
  unfold eScript at h
  have q0 := h
  clear h
  obtain ⟨us0, rfl, q1⟩ := OwnL_w.1 q0
  obtain ⟨u1, us1, g1, k1, rfl, rfl, h1, q2⟩ := OwnL_cons.1 q1
  obtain ⟨rfl, rfl⟩ := OwnL_nil.1 q2
  exact ⟨u1, g1, rfl, by simp only [List.append_nil, List.append_assoc], h1⟩
theorem mkown_eScript {w : World} {x : GScript} {v1 : Value} {f1 : List Nat} (h1 : Own w (.s x.Methods.length (x.Methods.flatMap eMethod)) v1 f1) : OwnL w (eScript x) [.string x.Name, v1] (f1) := by
  have h : OwnL w (eScript x) [.string x.Name, v1] (f1 ++ ([])) := by
    unfold eScript
    exact OwnL_w.2 ⟨_, rfl, OwnL_cons.2 ⟨_, _, f1, _, rfl, rfl, h1, OwnL_nil.2 ⟨rfl, rfl⟩⟩⟩
  simpa only [List.append_nil, List.append_assoc] using h
theorem row_eScript {w : World} {xs : List GScript} {A : Option Addr} {c : Nat} (h : RdW w (.s xs.length (xs.flatMap eScript)) (.slice A xs.length c)) {i : Nat} {x : GScript} (hx : xs[i]? = some x) :
    ∃ ad v1, A = some ad ∧ ad.block < w.heap.size ∧ w.cell? (ad.add (i * 2)) = some (.string x.Name) ∧ w.cell? ⟨(ad.add (i * 2)).block, (ad.add (i * 2)).off + 1, none⟩ = some (v1) ∧ RdW w (.s x.Methods.length (x.Methods.flatMap eMethod)) v1 := by
  obtain ⟨ad, ys, rfl, hb, hr, hc⟩ := RdW.at_ len_eScript h hx
  obtain ⟨v1, rfl, h1⟩ := rd_eScript hr
  exact ⟨ad, v1, rfl, hb, hc 0 _ rfl, (by rw [← add_field _ _ 1 (by omega)]; exact hc 1 _ rfl), h1⟩
theorem slim_eScript (x : GScript) : SlimL (eScript x) := SlimL_cons (Slim_v _) (SlimL_cons (Slim_flat _ 2 len_eMethod (by omega) slim_eMethod _) (SlimL_nil))
theorem siz_eScript (x : GScript) : sizL (eScript x) = x.Name.size + (x.Methods.length + sizL (x.Methods.flatMap eMethod)) := by
  simp only [eScript, sizL_cons, sizL_nil, siz_s, siz_int, siz_str, siz_bool]
  first | done | omega | rfl
theorem cnt_eScript (x : GScript) : cntL (eScript x) = 1 + cntL (x.Methods.flatMap eMethod) := by
  simp only [eScript, cntL_cons, cntL_nil, cnt_s, cnt_v]
  first | done | omega
theorem mk_eScript (x : GScript) (q : Int) (r1 : Int) (hr1 : r1 = q + 1 + (cntL (x.Methods.flatMap eMethod) : Nat)) (b0 : 0 ≤ q) (b1 : q + cntL (eScript x) ≤ 4611686018427387904) : mkL (eScript x) q = [.v (.string (mkText q)), .s x.Methods.length (mkL (x.Methods.flatMap eMethod) (q + 1))] := by
  have hc := cnt_eScript x
  subst hr1
  simp only [eScript, mkL_cons, mkL_nil, mk_int, mk_str, mk_bool, mk_s, cnt_v, cnt_s, Int.natCast_one]
theorem rdm_eScript {w : World} {x : GScript} {us : List Value} (q : Int) (r1 : Int) (hr1 : r1 = q + 1 + (cntL (x.Methods.flatMap eMethod) : Nat)) (b0 : 0 ≤ q) (b1 : q + cntL (eScript x) ≤ 4611686018427387904) (h : RdLW w (mkL (eScript x) q) us) : ∃ v1, us = [.string (mkText q), v1] ∧ RdW w (.s x.Methods.length (mkL (x.Methods.flatMap eMethod) (q + 1))) v1 := by
  rw [mk_eScript x q r1 hr1 b0 b1] at h
  have q0 := h
  clear h
  obtain ⟨us0, rfl, q1⟩ := RdLW_w.1 q0
  obtain ⟨u1, us1, rfl, h1, q2⟩ := RdLW_cons.1 q1
  obtain rfl := RdLW_nil.1 q2
  exact ⟨u1, rfl, h1⟩
theorem mkownm_eScript {w : World} {x : GScript} (q : Int) (r1 : Int) (hr1 : r1 = q + 1 + (cntL (x.Methods.flatMap eMethod) : Nat)) (b0 : 0 ≤ q) (b1 : q + cntL (eScript x) ≤ 4611686018427387904) {v1 : Value} {f1 : List Nat} (h1 : Own w (.s x.Methods.length (mkL (x.Methods.flatMap eMethod) (q + 1))) v1 f1) : OwnL w (mkL (eScript x) q) [.string (mkText q), v1] (f1) := by
  have h : OwnL w (mkL (eScript x) q) [.string (mkText q), v1] (f1 ++ ([])) := by
    rw [mk_eScript x q r1 hr1 b0 b1]
    exact OwnL_w.2 ⟨_, rfl, OwnL_cons.2 ⟨_, _, f1, _, rfl, rfl, h1, OwnL_nil.2 ⟨rfl, rfl⟩⟩⟩
  simpa only [List.append_nil, List.append_assoc] using h
theorem str_eScript {x : GScript} (h : StrOkL (eScript x)) : x.Name.size ≤ 140737488355328 ∧ StrOkL (x.Methods.flatMap eMethod) := by
  simp only [eScript, StrOkL_cons, StrOkL_nil, StrOk_str, StrOk_int, StrOk_bool, StrOk_s, true_and, and_true] at h
  exact h
theorem top_eScript (x : GScript) (q : Int) (r1 : Int) (hr1 : r1 = q + (cntL (x.Methods.flatMap eMethod) : Nat)) : topL (eScript x) q = [.v (.string x.Name), .s x.Methods.length (mkL (x.Methods.flatMap eMethod) q)] := by
  subst hr1
  simp only [eScript, topL_v, topL_s, topL_nil]
theorem tcnt_eScript (x : GScript) : tcnt (eScript x) = cntL (x.Methods.flatMap eMethod) := by
  simp only [eScript, tcnt_v, tcnt_s, tcnt_nil, Nat.add_zero, Nat.add_assoc]
theorem mktop_eScript {w : World} {x : GScript} (q : Int) (r1 : Int) (hr1 : r1 = q + (cntL (x.Methods.flatMap eMethod) : Nat)) {v1 : Value} {f1 : List Nat} (h1 : Own w (.s x.Methods.length (mkL (x.Methods.flatMap eMethod) q)) v1 f1) : OwnL w (topL (eScript x) q) [.string x.Name, v1] (f1) := by
  have h : OwnL w (topL (eScript x) q) [.string x.Name, v1] (f1 ++ ([])) := by
    rw [top_eScript x q r1 hr1]
    exact OwnL_w.2 ⟨_, rfl, OwnL_cons.2 ⟨_, _, f1, _, rfl, rfl, h1, OwnL_nil.2 ⟨rfl, rfl⟩⟩⟩
  simpa only [List.append_nil, List.append_assoc] using h
theorem rdtop_eScript {w : World} {x : GScript} {us : List Value} (q : Int) (r1 : Int) (hr1 : r1 = q + (cntL (x.Methods.flatMap eMethod) : Nat)) (h : RdLW w (topL (eScript x) q) us) : ∃ v1, us = [.string x.Name, v1] ∧ RdW w (.s x.Methods.length (mkL (x.Methods.flatMap eMethod) q)) v1 := by
  rw [top_eScript x q r1 hr1] at h
  have q0 := h
  clear h
  obtain ⟨us0, rfl, q1⟩ := RdLW_w.1 q0
  obtain ⟨u1, us1, rfl, h1, q2⟩ := RdLW_cons.1 q1
  obtain rfl := RdLW_nil.1 q2
  exact ⟨u1, rfl, h1⟩
end Go.Proofs.Ytiohoeafdaihpaa
