/- The Go structs as typed Lean structures, and how each lies in memory; no program in sight. -/
import Derived.Test.YtlpjbipgocgioaaBase
set_option linter.unusedSimpArgs false
set_option linter.unusedVariables false
namespace Go.Proofs.Ytlpjbipgocgioaa
open Go.RowKit
def eInt (x : Int) : List Lf := [.v (.int .i64 x)]
def eStr (x : ByteArray) : List Lf := [.v (.string x)]
def eByte (x : UInt8) : List Lf := [.v (.int .u8 (x.toNat : Int))]
def eBool (x : Bool) : List Lf := [.v (.bool x)]
structure GExport where
  Pos : Int
  Entity : Int
  Count : Int
def zExport : GExport := ⟨0, 0, 0⟩
def eExport (x : GExport) : List Lf := [.v (.int .i64 x.Pos), .v (.int .i64 x.Entity), .v (.int .i64 x.Count)]
structure GQuestion where
  Id : Int
  Promise : Int
def zQuestion : GQuestion := ⟨0, 0⟩
def eQuestion (x : GQuestion) : List Lf := [.v (.int .i64 x.Id), .v (.int .i64 x.Promise)]
structure GLink where
  Peer : Int
  Up : Bool
  Exports : List GExport
  Next : Int
  Questions : List GQuestion
  Asked : Int
  Answers : List GQuestion
def zLink : GLink := ⟨0, false, [], 0, [], 0, []⟩
def eLink (x : GLink) : List Lf := [.v (.int .i64 x.Peer), .v (.bool x.Up), .s x.Exports.length (x.Exports.flatMap eExport), .v (.int .i64 x.Next), .s x.Questions.length (x.Questions.flatMap eQuestion), .v (.int .i64 x.Asked), .s x.Answers.length (x.Answers.flatMap eQuestion)]
theorem len_eInt (x : Int) : (eInt x).length = 1 := rfl
def vsInt (x : Int) : List Value := [.int .i64 x]
theorem vals_eInt (x : Int) : eInt x = (vsInt x).map Lf.v := rfl
theorem one_eInt (xs : List Int) : ∀ u, u ∈ xs.flatMap vsInt → u.oneCell' = true := by
  intro u hu
  obtain ⟨x, _, hx⟩ := List.mem_flatMap.1 hu
  simp only [vsInt, List.mem_cons, List.not_mem_nil, or_false] at hx
  subst hx; rfl
theorem lenv_eInt (xs : List Int) : (xs.flatMap vsInt).length = xs.length * 1 := by
  induction xs with
  | nil => simp
  | cons x xs ih => simp [ih, vsInt]
theorem rd_eInt {w : World} {x : Int} {us : List Value} (h : RdLW w (eInt x) us) : us = [.int .i64 x] := by
  unfold eInt at h
  have q0 := h
  clear h
  obtain ⟨us0, rfl, q1⟩ := RdLW_w.1 q0
  obtain rfl := RdLW_nil.1 q1
  exact rfl
theorem mkrd_eInt {w : World} {x : Int} : RdLW w (eInt x) [.int .i64 x] := by
  unfold eInt
  exact RdLW_w.2 ⟨_, rfl, RdLW_nil.2 rfl⟩
theorem own_eInt {w : World} {x : Int} {us : List Value} {fp : List Nat} (h : OwnL w (eInt x) us fp) : us = [.int .i64 x] ∧ fp = [] := by
  unfold eInt at h
  have q0 := h
  clear h
  obtain ⟨us0, rfl, q1⟩ := OwnL_w.1 q0
  obtain ⟨rfl, rfl⟩ := OwnL_nil.1 q1
  exact ⟨rfl, rfl⟩
theorem mkown_eInt {w : World} {x : Int} : OwnL w (eInt x) [.int .i64 x] ([]) := by
  have h : OwnL w (eInt x) [.int .i64 x] ([]) := by
    unfold eInt
    exact OwnL_w.2 ⟨_, rfl, OwnL_nil.2 ⟨rfl, rfl⟩⟩
  exact h
theorem row_eInt {w : World} {xs : List Int} {A : Option Addr} {c : Nat} (h : RdW w (.s xs.length (xs.flatMap eInt)) (.slice A xs.length c)) {i : Nat} {x : Int} (hx : xs[i]? = some x) :
    ∃ ad, A = some ad ∧ ad.block < w.heap.size ∧ w.cell? (ad.add i) = some (.int .i64 x) := by
  obtain ⟨ad, ys, rfl, hb, hr, hc⟩ := RdW.at_ len_eInt h hx
  obtain rfl := rd_eInt hr
  exact ⟨ad, rfl, hb, (by have h0 := hc 0 _ rfl; rwa [Nat.mul_one, Nat.add_zero] at h0)⟩
theorem slim_eInt (x : Int) : SlimL (eInt x) := SlimL_cons (Slim_v _) (SlimL_nil)
theorem siz_eInt (x : Int) : sizL (eInt x) = 0 := by
  simp only [eInt, sizL_cons, sizL_nil, siz_s, siz_int, siz_str, siz_bool]
theorem cnt_eInt (x : Int) : cntL (eInt x) = 1 := by
  simp only [eInt, cntL_cons, cntL_nil, cnt_s, cnt_v]
theorem cntf_eInt (xs : List Int) : cntL (xs.flatMap eInt) = xs.length * 1 := by
  induction xs with
  | nil => simp [cntL_nil]
  | cons x xs ih => rw [List.flatMap_cons, cntL_append, ih, cnt_eInt, List.length_cons]; omega
theorem mk_eInt (x : Int) (q : Int) (b0 : 0 ≤ q) (b1 : q + cntL (eInt x) ≤ 4611686018427387904) : mkL (eInt x) q = [.v (.int .i64 q)] := by
  have hc := cnt_eInt x
  simp only [eInt, mkL_cons, mkL_nil, mk_int, mk_str, mk_bool, mk_s, cnt_v, cnt_s, Int.natCast_one]
  rw [wrap_id (q) (by omega) (by omega)]
theorem rdm_eInt {w : World} {x : Int} {us : List Value} (q : Int) (b0 : 0 ≤ q) (b1 : q + cntL (eInt x) ≤ 4611686018427387904) (h : RdLW w (mkL (eInt x) q) us) : us = [.int .i64 q] := by
  rw [mk_eInt x q b0 b1] at h
  have q0 := h
  clear h
  obtain ⟨us0, rfl, q1⟩ := RdLW_w.1 q0
  obtain rfl := RdLW_nil.1 q1
  exact rfl
theorem mkownm_eInt {w : World} {x : Int} (q : Int) (b0 : 0 ≤ q) (b1 : q + cntL (eInt x) ≤ 4611686018427387904) : OwnL w (mkL (eInt x) q) [.int .i64 q] ([]) := by
  have h : OwnL w (mkL (eInt x) q) [.int .i64 q] ([]) := by
    rw [mk_eInt x q b0 b1]
    exact OwnL_w.2 ⟨_, rfl, OwnL_nil.2 ⟨rfl, rfl⟩⟩
  exact h
theorem len_eStr (x : ByteArray) : (eStr x).length = 1 := rfl
def vsStr (x : ByteArray) : List Value := [.string x]
theorem vals_eStr (x : ByteArray) : eStr x = (vsStr x).map Lf.v := rfl
theorem one_eStr (xs : List ByteArray) : ∀ u, u ∈ xs.flatMap vsStr → u.oneCell' = true := by
  intro u hu
  obtain ⟨x, _, hx⟩ := List.mem_flatMap.1 hu
  simp only [vsStr, List.mem_cons, List.not_mem_nil, or_false] at hx
  subst hx; rfl
theorem lenv_eStr (xs : List ByteArray) : (xs.flatMap vsStr).length = xs.length * 1 := by
  induction xs with
  | nil => simp
  | cons x xs ih => simp [ih, vsStr]
theorem rd_eStr {w : World} {x : ByteArray} {us : List Value} (h : RdLW w (eStr x) us) : us = [.string x] := by
  unfold eStr at h
  have q0 := h
  clear h
  obtain ⟨us0, rfl, q1⟩ := RdLW_w.1 q0
  obtain rfl := RdLW_nil.1 q1
  exact rfl
theorem mkrd_eStr {w : World} {x : ByteArray} : RdLW w (eStr x) [.string x] := by
  unfold eStr
  exact RdLW_w.2 ⟨_, rfl, RdLW_nil.2 rfl⟩
theorem own_eStr {w : World} {x : ByteArray} {us : List Value} {fp : List Nat} (h : OwnL w (eStr x) us fp) : us = [.string x] ∧ fp = [] := by
  unfold eStr at h
  have q0 := h
  clear h
  obtain ⟨us0, rfl, q1⟩ := OwnL_w.1 q0
  obtain ⟨rfl, rfl⟩ := OwnL_nil.1 q1
  exact ⟨rfl, rfl⟩
theorem mkown_eStr {w : World} {x : ByteArray} : OwnL w (eStr x) [.string x] ([]) := by
  have h : OwnL w (eStr x) [.string x] ([]) := by
    unfold eStr
    exact OwnL_w.2 ⟨_, rfl, OwnL_nil.2 ⟨rfl, rfl⟩⟩
  exact h
theorem row_eStr {w : World} {xs : List ByteArray} {A : Option Addr} {c : Nat} (h : RdW w (.s xs.length (xs.flatMap eStr)) (.slice A xs.length c)) {i : Nat} {x : ByteArray} (hx : xs[i]? = some x) :
    ∃ ad, A = some ad ∧ ad.block < w.heap.size ∧ w.cell? (ad.add i) = some (.string x) := by
  obtain ⟨ad, ys, rfl, hb, hr, hc⟩ := RdW.at_ len_eStr h hx
  obtain rfl := rd_eStr hr
  exact ⟨ad, rfl, hb, (by have h0 := hc 0 _ rfl; rwa [Nat.mul_one, Nat.add_zero] at h0)⟩
theorem slim_eStr (x : ByteArray) : SlimL (eStr x) := SlimL_cons (Slim_v _) (SlimL_nil)
theorem siz_eStr (x : ByteArray) : sizL (eStr x) = x.size := by
  simp only [eStr, sizL_cons, sizL_nil, siz_s, siz_int, siz_str, siz_bool]
  first | done | omega | rfl
theorem cnt_eStr (x : ByteArray) : cntL (eStr x) = 1 := by
  simp only [eStr, cntL_cons, cntL_nil, cnt_s, cnt_v]
theorem cntf_eStr (xs : List ByteArray) : cntL (xs.flatMap eStr) = xs.length * 1 := by
  induction xs with
  | nil => simp [cntL_nil]
  | cons x xs ih => rw [List.flatMap_cons, cntL_append, ih, cnt_eStr, List.length_cons]; omega
theorem mk_eStr (x : ByteArray) (q : Int) (b0 : 0 ≤ q) (b1 : q + cntL (eStr x) ≤ 4611686018427387904) : mkL (eStr x) q = [.v (.string (mkText q))] := by
  have hc := cnt_eStr x
  simp only [eStr, mkL_cons, mkL_nil, mk_int, mk_str, mk_bool, mk_s, cnt_v, cnt_s, Int.natCast_one]
theorem rdm_eStr {w : World} {x : ByteArray} {us : List Value} (q : Int) (b0 : 0 ≤ q) (b1 : q + cntL (eStr x) ≤ 4611686018427387904) (h : RdLW w (mkL (eStr x) q) us) : us = [.string (mkText q)] := by
  rw [mk_eStr x q b0 b1] at h
  have q0 := h
  clear h
  obtain ⟨us0, rfl, q1⟩ := RdLW_w.1 q0
  obtain rfl := RdLW_nil.1 q1
  exact rfl
theorem mkownm_eStr {w : World} {x : ByteArray} (q : Int) (b0 : 0 ≤ q) (b1 : q + cntL (eStr x) ≤ 4611686018427387904) : OwnL w (mkL (eStr x) q) [.string (mkText q)] ([]) := by
  have h : OwnL w (mkL (eStr x) q) [.string (mkText q)] ([]) := by
    rw [mk_eStr x q b0 b1]
    exact OwnL_w.2 ⟨_, rfl, OwnL_nil.2 ⟨rfl, rfl⟩⟩
  exact h
theorem len_eByte (x : UInt8) : (eByte x).length = 1 := rfl
def vsByte (x : UInt8) : List Value := [.int .u8 (x.toNat : Int)]
theorem vals_eByte (x : UInt8) : eByte x = (vsByte x).map Lf.v := rfl
theorem one_eByte (xs : List UInt8) : ∀ u, u ∈ xs.flatMap vsByte → u.oneCell' = true := by
  intro u hu
  obtain ⟨x, _, hx⟩ := List.mem_flatMap.1 hu
  simp only [vsByte, List.mem_cons, List.not_mem_nil, or_false] at hx
  subst hx; rfl
theorem lenv_eByte (xs : List UInt8) : (xs.flatMap vsByte).length = xs.length * 1 := by
  induction xs with
  | nil => simp
  | cons x xs ih => simp [ih, vsByte]
theorem rd_eByte {w : World} {x : UInt8} {us : List Value} (h : RdLW w (eByte x) us) : us = [.int .u8 (x.toNat : Int)] := by
  unfold eByte at h
  have q0 := h
  clear h
  obtain ⟨us0, rfl, q1⟩ := RdLW_w.1 q0
  obtain rfl := RdLW_nil.1 q1
  exact rfl
theorem mkrd_eByte {w : World} {x : UInt8} : RdLW w (eByte x) [.int .u8 (x.toNat : Int)] := by
  unfold eByte
  exact RdLW_w.2 ⟨_, rfl, RdLW_nil.2 rfl⟩
theorem own_eByte {w : World} {x : UInt8} {us : List Value} {fp : List Nat} (h : OwnL w (eByte x) us fp) : us = [.int .u8 (x.toNat : Int)] ∧ fp = [] := by
  unfold eByte at h
  have q0 := h
  clear h
  obtain ⟨us0, rfl, q1⟩ := OwnL_w.1 q0
  obtain ⟨rfl, rfl⟩ := OwnL_nil.1 q1
  exact ⟨rfl, rfl⟩
theorem mkown_eByte {w : World} {x : UInt8} : OwnL w (eByte x) [.int .u8 (x.toNat : Int)] ([]) := by
  have h : OwnL w (eByte x) [.int .u8 (x.toNat : Int)] ([]) := by
    unfold eByte
    exact OwnL_w.2 ⟨_, rfl, OwnL_nil.2 ⟨rfl, rfl⟩⟩
  exact h
theorem row_eByte {w : World} {xs : List UInt8} {A : Option Addr} {c : Nat} (h : RdW w (.s xs.length (xs.flatMap eByte)) (.slice A xs.length c)) {i : Nat} {x : UInt8} (hx : xs[i]? = some x) :
    ∃ ad, A = some ad ∧ ad.block < w.heap.size ∧ w.cell? (ad.add i) = some (.int .u8 (x.toNat : Int)) := by
  obtain ⟨ad, ys, rfl, hb, hr, hc⟩ := RdW.at_ len_eByte h hx
  obtain rfl := rd_eByte hr
  exact ⟨ad, rfl, hb, (by have h0 := hc 0 _ rfl; rwa [Nat.mul_one, Nat.add_zero] at h0)⟩
theorem slim_eByte (x : UInt8) : SlimL (eByte x) := SlimL_cons (Slim_v _) (SlimL_nil)
theorem siz_eByte (x : UInt8) : sizL (eByte x) = 0 := by
  simp only [eByte, sizL_cons, sizL_nil, siz_s, siz_int, siz_str, siz_bool]
theorem cnt_eByte (x : UInt8) : cntL (eByte x) = 1 := by
  simp only [eByte, cntL_cons, cntL_nil, cnt_s, cnt_v]
theorem cntf_eByte (xs : List UInt8) : cntL (xs.flatMap eByte) = xs.length * 1 := by
  induction xs with
  | nil => simp [cntL_nil]
  | cons x xs ih => rw [List.flatMap_cons, cntL_append, ih, cnt_eByte, List.length_cons]; omega
theorem mk_eByte (x : UInt8) (q : Int) (b0 : 0 ≤ q) (b1 : q + cntL (eByte x) ≤ 4611686018427387904) : mkL (eByte x) q = [.v (.int .u8 (IntKind.u8.wrap q))] := by
  have hc := cnt_eByte x
  simp only [eByte, mkL_cons, mkL_nil, mk_int, mk_str, mk_bool, mk_s, cnt_v, cnt_s, Int.natCast_one]
theorem rdm_eByte {w : World} {x : UInt8} {us : List Value} (q : Int) (b0 : 0 ≤ q) (b1 : q + cntL (eByte x) ≤ 4611686018427387904) (h : RdLW w (mkL (eByte x) q) us) : us = [.int .u8 (IntKind.u8.wrap q)] := by
  rw [mk_eByte x q b0 b1] at h
  have q0 := h
  clear h
  obtain ⟨us0, rfl, q1⟩ := RdLW_w.1 q0
  obtain rfl := RdLW_nil.1 q1
  exact rfl
theorem mkownm_eByte {w : World} {x : UInt8} (q : Int) (b0 : 0 ≤ q) (b1 : q + cntL (eByte x) ≤ 4611686018427387904) : OwnL w (mkL (eByte x) q) [.int .u8 (IntKind.u8.wrap q)] ([]) := by
  have h : OwnL w (mkL (eByte x) q) [.int .u8 (IntKind.u8.wrap q)] ([]) := by
    rw [mk_eByte x q b0 b1]
    exact OwnL_w.2 ⟨_, rfl, OwnL_nil.2 ⟨rfl, rfl⟩⟩
  exact h
theorem len_eBool (x : Bool) : (eBool x).length = 1 := rfl
def vsBool (x : Bool) : List Value := [.bool x]
theorem vals_eBool (x : Bool) : eBool x = (vsBool x).map Lf.v := rfl
theorem one_eBool (xs : List Bool) : ∀ u, u ∈ xs.flatMap vsBool → u.oneCell' = true := by
  intro u hu
  obtain ⟨x, _, hx⟩ := List.mem_flatMap.1 hu
  simp only [vsBool, List.mem_cons, List.not_mem_nil, or_false] at hx
  subst hx; rfl
theorem lenv_eBool (xs : List Bool) : (xs.flatMap vsBool).length = xs.length * 1 := by
  induction xs with
  | nil => simp
  | cons x xs ih => simp [ih, vsBool]
theorem rd_eBool {w : World} {x : Bool} {us : List Value} (h : RdLW w (eBool x) us) : us = [.bool x] := by
  unfold eBool at h
  have q0 := h
  clear h
  obtain ⟨us0, rfl, q1⟩ := RdLW_w.1 q0
  obtain rfl := RdLW_nil.1 q1
  exact rfl
theorem mkrd_eBool {w : World} {x : Bool} : RdLW w (eBool x) [.bool x] := by
  unfold eBool
  exact RdLW_w.2 ⟨_, rfl, RdLW_nil.2 rfl⟩
theorem own_eBool {w : World} {x : Bool} {us : List Value} {fp : List Nat} (h : OwnL w (eBool x) us fp) : us = [.bool x] ∧ fp = [] := by
  unfold eBool at h
  have q0 := h
  clear h
  obtain ⟨us0, rfl, q1⟩ := OwnL_w.1 q0
  obtain ⟨rfl, rfl⟩ := OwnL_nil.1 q1
  exact ⟨rfl, rfl⟩
theorem mkown_eBool {w : World} {x : Bool} : OwnL w (eBool x) [.bool x] ([]) := by
  have h : OwnL w (eBool x) [.bool x] ([]) := by
    unfold eBool
    exact OwnL_w.2 ⟨_, rfl, OwnL_nil.2 ⟨rfl, rfl⟩⟩
  exact h
theorem row_eBool {w : World} {xs : List Bool} {A : Option Addr} {c : Nat} (h : RdW w (.s xs.length (xs.flatMap eBool)) (.slice A xs.length c)) {i : Nat} {x : Bool} (hx : xs[i]? = some x) :
    ∃ ad, A = some ad ∧ ad.block < w.heap.size ∧ w.cell? (ad.add i) = some (.bool x) := by
  obtain ⟨ad, ys, rfl, hb, hr, hc⟩ := RdW.at_ len_eBool h hx
  obtain rfl := rd_eBool hr
  exact ⟨ad, rfl, hb, (by have h0 := hc 0 _ rfl; rwa [Nat.mul_one, Nat.add_zero] at h0)⟩
theorem slim_eBool (x : Bool) : SlimL (eBool x) := SlimL_cons (Slim_v _) (SlimL_nil)
theorem siz_eBool (x : Bool) : sizL (eBool x) = 0 := by
  simp only [eBool, sizL_cons, sizL_nil, siz_s, siz_int, siz_str, siz_bool]
theorem cnt_eBool (x : Bool) : cntL (eBool x) = 1 := by
  simp only [eBool, cntL_cons, cntL_nil, cnt_s, cnt_v]
theorem cntf_eBool (xs : List Bool) : cntL (xs.flatMap eBool) = xs.length * 1 := by
  induction xs with
  | nil => simp [cntL_nil]
  | cons x xs ih => rw [List.flatMap_cons, cntL_append, ih, cnt_eBool, List.length_cons]; omega
theorem mk_eBool (x : Bool) (q : Int) (b0 : 0 ≤ q) (b1 : q + cntL (eBool x) ≤ 4611686018427387904) : mkL (eBool x) q = [.v (.bool (decide (Int.tmod q 3 = 0)))] := by
  have hc := cnt_eBool x
  simp only [eBool, mkL_cons, mkL_nil, mk_int, mk_str, mk_bool, mk_s, cnt_v, cnt_s, Int.natCast_one]
theorem rdm_eBool {w : World} {x : Bool} {us : List Value} (q : Int) (b0 : 0 ≤ q) (b1 : q + cntL (eBool x) ≤ 4611686018427387904) (h : RdLW w (mkL (eBool x) q) us) : us = [.bool (decide (Int.tmod q 3 = 0))] := by
  rw [mk_eBool x q b0 b1] at h
  have q0 := h
  clear h
  obtain ⟨us0, rfl, q1⟩ := RdLW_w.1 q0
  obtain rfl := RdLW_nil.1 q1
  exact rfl
theorem mkownm_eBool {w : World} {x : Bool} (q : Int) (b0 : 0 ≤ q) (b1 : q + cntL (eBool x) ≤ 4611686018427387904) : OwnL w (mkL (eBool x) q) [.bool (decide (Int.tmod q 3 = 0))] ([]) := by
  have h : OwnL w (mkL (eBool x) q) [.bool (decide (Int.tmod q 3 = 0))] ([]) := by
    rw [mk_eBool x q b0 b1]
    exact OwnL_w.2 ⟨_, rfl, OwnL_nil.2 ⟨rfl, rfl⟩⟩
  exact h
theorem len_eExport (x : GExport) : (eExport x).length = 3 := rfl
def eqbExport (x y : GExport) : Bool := (x.Pos == y.Pos) && ((x.Entity == y.Entity) && ((x.Count == y.Count)))
theorem eqbExport_refl (x : GExport) : eqbExport x x = true := by simp [eqbExport]
theorem eqbExport_iff (x y : GExport) : eqbExport x y = true ↔ x = y := by
  refine ⟨fun h => ?_, fun h => h ▸ eqbExport_refl x⟩
  simp only [eqbExport, Bool.and_eq_true, beq_iff_eq] at h
  obtain ⟨h0, h1, h2⟩ := h
  cases x; cases y; simp_all
def vsExport (x : GExport) : List Value := [.int .i64 x.Pos, .int .i64 x.Entity, .int .i64 x.Count]
theorem vals_eExport (x : GExport) : eExport x = (vsExport x).map Lf.v := rfl
theorem one_eExport (xs : List GExport) : ∀ u, u ∈ xs.flatMap vsExport → u.oneCell' = true := by
  intro u hu
  obtain ⟨x, _, hx⟩ := List.mem_flatMap.1 hu
  simp only [vsExport, List.mem_cons, List.not_mem_nil, or_false] at hx
  rcases hx with rfl | rfl | rfl <;> rfl
theorem lenv_eExport (xs : List GExport) : (xs.flatMap vsExport).length = xs.length * 3 := by
  induction xs with
  | nil => simp
  | cons x xs ih => simp [ih, vsExport, Nat.succ_mul] <;> omega
theorem rd_eExport {w : World} {x : GExport} {us : List Value} (h : RdLW w (eExport x) us) : us = [.int .i64 x.Pos, .int .i64 x.Entity, .int .i64 x.Count] := by
  unfold eExport at h
  have q0 := h
  clear h
  obtain ⟨us0, rfl, q1⟩ := RdLW_w.1 q0
  obtain ⟨us1, rfl, q2⟩ := RdLW_w.1 q1
  obtain ⟨us2, rfl, q3⟩ := RdLW_w.1 q2
  obtain rfl := RdLW_nil.1 q3
  exact rfl
theorem mkrd_eExport {w : World} {x : GExport} : RdLW w (eExport x) [.int .i64 x.Pos, .int .i64 x.Entity, .int .i64 x.Count] := by
  unfold eExport
  exact RdLW_w.2 ⟨_, rfl, RdLW_w.2 ⟨_, rfl, RdLW_w.2 ⟨_, rfl, RdLW_nil.2 rfl⟩⟩⟩
theorem own_eExport {w : World} {x : GExport} {us : List Value} {fp : List Nat} (h : OwnL w (eExport x) us fp) : us = [.int .i64 x.Pos, .int .i64 x.Entity, .int .i64 x.Count] ∧ fp = [] := by
  unfold eExport at h
  have q0 := h
  clear h
  obtain ⟨us0, rfl, q1⟩ := OwnL_w.1 q0
  obtain ⟨us1, rfl, q2⟩ := OwnL_w.1 q1
  obtain ⟨us2, rfl, q3⟩ := OwnL_w.1 q2
  obtain ⟨rfl, rfl⟩ := OwnL_nil.1 q3
  exact ⟨rfl, rfl⟩
theorem mkown_eExport {w : World} {x : GExport} : OwnL w (eExport x) [.int .i64 x.Pos, .int .i64 x.Entity, .int .i64 x.Count] ([]) := by
  have h : OwnL w (eExport x) [.int .i64 x.Pos, .int .i64 x.Entity, .int .i64 x.Count] ([]) := by
    unfold eExport
    exact OwnL_w.2 ⟨_, rfl, OwnL_w.2 ⟨_, rfl, OwnL_w.2 ⟨_, rfl, OwnL_nil.2 ⟨rfl, rfl⟩⟩⟩⟩
  exact h
theorem row_eExport {w : World} {xs : List GExport} {A : Option Addr} {c : Nat} (h : RdW w (.s xs.length (xs.flatMap eExport)) (.slice A xs.length c)) {i : Nat} {x : GExport} (hx : xs[i]? = some x) :
    ∃ ad, A = some ad ∧ ad.block < w.heap.size ∧ w.cell? (ad.add (i * 3)) = some (.int .i64 x.Pos) ∧ w.cell? ⟨(ad.add (i * 3)).block, (ad.add (i * 3)).off + 1, none⟩ = some (.int .i64 x.Entity) ∧ w.cell? ⟨(ad.add (i * 3)).block, (ad.add (i * 3)).off + 2, none⟩ = some (.int .i64 x.Count) := by
  obtain ⟨ad, ys, rfl, hb, hr, hc⟩ := RdW.at_ len_eExport h hx
  obtain rfl := rd_eExport hr
  exact ⟨ad, rfl, hb, hc 0 _ rfl, (by rw [← add_field _ _ 1 (by omega)]; exact hc 1 _ rfl), (by rw [← add_field _ _ 2 (by omega)]; exact hc 2 _ rfl)⟩
theorem slim_eExport (x : GExport) : SlimL (eExport x) := SlimL_cons (Slim_v _) (SlimL_cons (Slim_v _) (SlimL_cons (Slim_v _) (SlimL_nil)))
theorem siz_eExport (x : GExport) : sizL (eExport x) = 0 := by
  simp only [eExport, sizL_cons, sizL_nil, siz_s, siz_int, siz_str, siz_bool]
  first | done | omega | rfl
theorem cnt_eExport (x : GExport) : cntL (eExport x) = 1 + 1 + 1 := by
  simp only [eExport, cntL_cons, cntL_nil, cnt_s, cnt_v]
  first | done | omega
theorem cntf_eExport (xs : List GExport) : cntL (xs.flatMap eExport) = xs.length * 3 := by
  induction xs with
  | nil => simp [cntL_nil]
  | cons x xs ih => rw [List.flatMap_cons, cntL_append, ih, cnt_eExport, List.length_cons]; omega
theorem mk_eExport (x : GExport) (q : Int) (b0 : 0 ≤ q) (b1 : q + cntL (eExport x) ≤ 4611686018427387904) : mkL (eExport x) q = [.v (.int .i64 q), .v (.int .i64 (q + 1)), .v (.int .i64 (q + 1 + 1))] := by
  have hc := cnt_eExport x
  simp only [eExport, mkL_cons, mkL_nil, mk_int, mk_str, mk_bool, mk_s, cnt_v, cnt_s, Int.natCast_one]
  rw [wrap_id (q) (by omega) (by omega)]
  rw [wrap_id (q + 1) (by omega) (by omega)]
  rw [wrap_id (q + 1 + 1) (by omega) (by omega)]
theorem rdm_eExport {w : World} {x : GExport} {us : List Value} (q : Int) (b0 : 0 ≤ q) (b1 : q + cntL (eExport x) ≤ 4611686018427387904) (h : RdLW w (mkL (eExport x) q) us) : us = [.int .i64 q, .int .i64 (q + 1), .int .i64 (q + 1 + 1)] := by
  rw [mk_eExport x q b0 b1] at h
  have q0 := h
  clear h
  obtain ⟨us0, rfl, q1⟩ := RdLW_w.1 q0
  obtain ⟨us1, rfl, q2⟩ := RdLW_w.1 q1
  obtain ⟨us2, rfl, q3⟩ := RdLW_w.1 q2
  obtain rfl := RdLW_nil.1 q3
  exact rfl
theorem mkownm_eExport {w : World} {x : GExport} (q : Int) (b0 : 0 ≤ q) (b1 : q + cntL (eExport x) ≤ 4611686018427387904) : OwnL w (mkL (eExport x) q) [.int .i64 q, .int .i64 (q + 1), .int .i64 (q + 1 + 1)] ([]) := by
  have h : OwnL w (mkL (eExport x) q) [.int .i64 q, .int .i64 (q + 1), .int .i64 (q + 1 + 1)] ([]) := by
    rw [mk_eExport x q b0 b1]
    exact OwnL_w.2 ⟨_, rfl, OwnL_w.2 ⟨_, rfl, OwnL_w.2 ⟨_, rfl, OwnL_nil.2 ⟨rfl, rfl⟩⟩⟩⟩
  exact h
theorem len_eQuestion (x : GQuestion) : (eQuestion x).length = 2 := rfl
def eqbQuestion (x y : GQuestion) : Bool := (x.Id == y.Id) && ((x.Promise == y.Promise))
theorem eqbQuestion_refl (x : GQuestion) : eqbQuestion x x = true := by simp [eqbQuestion]
theorem eqbQuestion_iff (x y : GQuestion) : eqbQuestion x y = true ↔ x = y := by
  refine ⟨fun h => ?_, fun h => h ▸ eqbQuestion_refl x⟩
  simp only [eqbQuestion, Bool.and_eq_true, beq_iff_eq] at h
  obtain ⟨h0, h1⟩ := h
  cases x; cases y; simp_all
def vsQuestion (x : GQuestion) : List Value := [.int .i64 x.Id, .int .i64 x.Promise]
theorem vals_eQuestion (x : GQuestion) : eQuestion x = (vsQuestion x).map Lf.v := rfl
theorem one_eQuestion (xs : List GQuestion) : ∀ u, u ∈ xs.flatMap vsQuestion → u.oneCell' = true := by
  intro u hu
  obtain ⟨x, _, hx⟩ := List.mem_flatMap.1 hu
  simp only [vsQuestion, List.mem_cons, List.not_mem_nil, or_false] at hx
  rcases hx with rfl | rfl <;> rfl
theorem lenv_eQuestion (xs : List GQuestion) : (xs.flatMap vsQuestion).length = xs.length * 2 := by
  induction xs with
  | nil => simp
  | cons x xs ih => simp [ih, vsQuestion, Nat.succ_mul] <;> omega
theorem rd_eQuestion {w : World} {x : GQuestion} {us : List Value} (h : RdLW w (eQuestion x) us) : us = [.int .i64 x.Id, .int .i64 x.Promise] := by
  unfold eQuestion at h
  have q0 := h
  clear h
  obtain ⟨us0, rfl, q1⟩ := RdLW_w.1 q0
  obtain ⟨us1, rfl, q2⟩ := RdLW_w.1 q1
  obtain rfl := RdLW_nil.1 q2
  exact rfl
theorem mkrd_eQuestion {w : World} {x : GQuestion} : RdLW w (eQuestion x) [.int .i64 x.Id, .int .i64 x.Promise] := by
  unfold eQuestion
  exact RdLW_w.2 ⟨_, rfl, RdLW_w.2 ⟨_, rfl, RdLW_nil.2 rfl⟩⟩
theorem own_eQuestion {w : World} {x : GQuestion} {us : List Value} {fp : List Nat} (h : OwnL w (eQuestion x) us fp) : us = [.int .i64 x.Id, .int .i64 x.Promise] ∧ fp = [] := by
  unfold eQuestion at h
  have q0 := h
  clear h
  obtain ⟨us0, rfl, q1⟩ := OwnL_w.1 q0
  obtain ⟨us1, rfl, q2⟩ := OwnL_w.1 q1
  obtain ⟨rfl, rfl⟩ := OwnL_nil.1 q2
  exact ⟨rfl, rfl⟩
theorem mkown_eQuestion {w : World} {x : GQuestion} : OwnL w (eQuestion x) [.int .i64 x.Id, .int .i64 x.Promise] ([]) := by
  have h : OwnL w (eQuestion x) [.int .i64 x.Id, .int .i64 x.Promise] ([]) := by
    unfold eQuestion
    exact OwnL_w.2 ⟨_, rfl, OwnL_w.2 ⟨_, rfl, OwnL_nil.2 ⟨rfl, rfl⟩⟩⟩
  exact h
theorem row_eQuestion {w : World} {xs : List GQuestion} {A : Option Addr} {c : Nat} (h : RdW w (.s xs.length (xs.flatMap eQuestion)) (.slice A xs.length c)) {i : Nat} {x : GQuestion} (hx : xs[i]? = some x) :
    ∃ ad, A = some ad ∧ ad.block < w.heap.size ∧ w.cell? (ad.add (i * 2)) = some (.int .i64 x.Id) ∧ w.cell? ⟨(ad.add (i * 2)).block, (ad.add (i * 2)).off + 1, none⟩ = some (.int .i64 x.Promise) := by
  obtain ⟨ad, ys, rfl, hb, hr, hc⟩ := RdW.at_ len_eQuestion h hx
  obtain rfl := rd_eQuestion hr
  exact ⟨ad, rfl, hb, hc 0 _ rfl, (by rw [← add_field _ _ 1 (by omega)]; exact hc 1 _ rfl)⟩
theorem slim_eQuestion (x : GQuestion) : SlimL (eQuestion x) := SlimL_cons (Slim_v _) (SlimL_cons (Slim_v _) (SlimL_nil))
theorem siz_eQuestion (x : GQuestion) : sizL (eQuestion x) = 0 := by
  simp only [eQuestion, sizL_cons, sizL_nil, siz_s, siz_int, siz_str, siz_bool]
  first | done | omega | rfl
theorem cnt_eQuestion (x : GQuestion) : cntL (eQuestion x) = 1 + 1 := by
  simp only [eQuestion, cntL_cons, cntL_nil, cnt_s, cnt_v]
  first | done | omega
theorem cntf_eQuestion (xs : List GQuestion) : cntL (xs.flatMap eQuestion) = xs.length * 2 := by
  induction xs with
  | nil => simp [cntL_nil]
  | cons x xs ih => rw [List.flatMap_cons, cntL_append, ih, cnt_eQuestion, List.length_cons]; omega
theorem mk_eQuestion (x : GQuestion) (q : Int) (b0 : 0 ≤ q) (b1 : q + cntL (eQuestion x) ≤ 4611686018427387904) : mkL (eQuestion x) q = [.v (.int .i64 q), .v (.int .i64 (q + 1))] := by
  have hc := cnt_eQuestion x
  simp only [eQuestion, mkL_cons, mkL_nil, mk_int, mk_str, mk_bool, mk_s, cnt_v, cnt_s, Int.natCast_one]
  rw [wrap_id (q) (by omega) (by omega)]
  rw [wrap_id (q + 1) (by omega) (by omega)]
theorem rdm_eQuestion {w : World} {x : GQuestion} {us : List Value} (q : Int) (b0 : 0 ≤ q) (b1 : q + cntL (eQuestion x) ≤ 4611686018427387904) (h : RdLW w (mkL (eQuestion x) q) us) : us = [.int .i64 q, .int .i64 (q + 1)] := by
  rw [mk_eQuestion x q b0 b1] at h
  have q0 := h
  clear h
  obtain ⟨us0, rfl, q1⟩ := RdLW_w.1 q0
  obtain ⟨us1, rfl, q2⟩ := RdLW_w.1 q1
  obtain rfl := RdLW_nil.1 q2
  exact rfl
theorem mkownm_eQuestion {w : World} {x : GQuestion} (q : Int) (b0 : 0 ≤ q) (b1 : q + cntL (eQuestion x) ≤ 4611686018427387904) : OwnL w (mkL (eQuestion x) q) [.int .i64 q, .int .i64 (q + 1)] ([]) := by
  have h : OwnL w (mkL (eQuestion x) q) [.int .i64 q, .int .i64 (q + 1)] ([]) := by
    rw [mk_eQuestion x q b0 b1]
    exact OwnL_w.2 ⟨_, rfl, OwnL_w.2 ⟨_, rfl, OwnL_nil.2 ⟨rfl, rfl⟩⟩⟩
  exact h
theorem len_eLink (x : GLink) : (eLink x).length = 7 := rfl
theorem rd_eLink {w : World} {x : GLink} {us : List Value} (h : RdLW w (eLink x) us) : ∃ v2 v4 v6, us = [.int .i64 x.Peer, .bool x.Up, v2, .int .i64 x.Next, v4, .int .i64 x.Asked, v6] ∧ RdW w (.s x.Exports.length (x.Exports.flatMap eExport)) v2 ∧ RdW w (.s x.Questions.length (x.Questions.flatMap eQuestion)) v4 ∧ RdW w (.s x.Answers.length (x.Answers.flatMap eQuestion)) v6 := by
  unfold eLink at h
  have q0 := h
  clear h
  obtain ⟨us0, rfl, q1⟩ := RdLW_w.1 q0
  obtain ⟨us1, rfl, q2⟩ := RdLW_w.1 q1
  obtain ⟨u2, us2, rfl, h2, q3⟩ := RdLW_cons.1 q2
  obtain ⟨us3, rfl, q4⟩ := RdLW_w.1 q3
  obtain ⟨u4, us4, rfl, h4, q5⟩ := RdLW_cons.1 q4
  obtain ⟨us5, rfl, q6⟩ := RdLW_w.1 q5
  obtain ⟨u6, us6, rfl, h6, q7⟩ := RdLW_cons.1 q6
  obtain rfl := RdLW_nil.1 q7
  exact ⟨u2, u4, u6, rfl, h2, h4, h6⟩
theorem mkrd_eLink {w : World} {x : GLink} {v2 : Value} {v4 : Value} {v6 : Value} (h2 : RdW w (.s x.Exports.length (x.Exports.flatMap eExport)) v2) (h4 : RdW w (.s x.Questions.length (x.Questions.flatMap eQuestion)) v4) (h6 : RdW w (.s x.Answers.length (x.Answers.flatMap eQuestion)) v6) : RdLW w (eLink x) [.int .i64 x.Peer, .bool x.Up, v2, .int .i64 x.Next, v4, .int .i64 x.Asked, v6] := by
  unfold eLink
  exact RdLW_w.2 ⟨_, rfl, RdLW_w.2 ⟨_, rfl, RdLW_cons.2 ⟨_, _, rfl, h2, RdLW_w.2 ⟨_, rfl, RdLW_cons.2 ⟨_, _, rfl, h4, RdLW_w.2 ⟨_, rfl, RdLW_cons.2 ⟨_, _, rfl, h6, RdLW_nil.2 rfl⟩⟩⟩⟩⟩⟩⟩
theorem own_eLink {w : World} {x : GLink} {us : List Value} {fp : List Nat} (h : OwnL w (eLink x) us fp) : ∃ v2 f2 v4 f4 v6 f6, us = [.int .i64 x.Peer, .bool x.Up, v2, .int .i64 x.Next, v4, .int .i64 x.Asked, v6] ∧ fp = f2 ++ (f4 ++ (f6)) ∧ Own w (.s x.Exports.length (x.Exports.flatMap eExport)) v2 f2 ∧ Own w (.s x.Questions.length (x.Questions.flatMap eQuestion)) v4 f4 ∧ Own w (.s x.Answers.length (x.Answers.flatMap eQuestion)) v6 f6 := by
  unfold eLink at h
  have q0 := h
  clear h
  obtain ⟨us0, rfl, q1⟩ := OwnL_w.1 q0
  obtain ⟨us1, rfl, q2⟩ := OwnL_w.1 q1
  obtain ⟨u2, us2, g2, k2, rfl, rfl, h2, q3⟩ := OwnL_cons.1 q2
  obtain ⟨us3, rfl, q4⟩ := OwnL_w.1 q3
  obtain ⟨u4, us4, g4, k4, rfl, rfl, h4, q5⟩ := OwnL_cons.1 q4
  obtain ⟨us5, rfl, q6⟩ := OwnL_w.1 q5
  obtain ⟨u6, us6, g6, k6, rfl, rfl, h6, q7⟩ := OwnL_cons.1 q6
  obtain ⟨rfl, rfl⟩ := OwnL_nil.1 q7
  exact ⟨u2, g2, u4, g4, u6, g6, rfl, by simp only [List.append_nil, List.append_assoc], h2, h4, h6⟩
theorem mkown_eLink {w : World} {x : GLink} {v2 : Value} {f2 : List Nat} {v4 : Value} {f4 : List Nat} {v6 : Value} {f6 : List Nat} (h2 : Own w (.s x.Exports.length (x.Exports.flatMap eExport)) v2 f2) (h4 : Own w (.s x.Questions.length (x.Questions.flatMap eQuestion)) v4 f4) (h6 : Own w (.s x.Answers.length (x.Answers.flatMap eQuestion)) v6 f6) : OwnL w (eLink x) [.int .i64 x.Peer, .bool x.Up, v2, .int .i64 x.Next, v4, .int .i64 x.Asked, v6] (f2 ++ (f4 ++ (f6))) := by
  have h : OwnL w (eLink x) [.int .i64 x.Peer, .bool x.Up, v2, .int .i64 x.Next, v4, .int .i64 x.Asked, v6] (f2 ++ (f4 ++ (f6 ++ ([])))) := by
    unfold eLink
    exact OwnL_w.2 ⟨_, rfl, OwnL_w.2 ⟨_, rfl, OwnL_cons.2 ⟨_, _, f2, _, rfl, rfl, h2, OwnL_w.2 ⟨_, rfl, OwnL_cons.2 ⟨_, _, f4, _, rfl, rfl, h4, OwnL_w.2 ⟨_, rfl, OwnL_cons.2 ⟨_, _, f6, _, rfl, rfl, h6, OwnL_nil.2 ⟨rfl, rfl⟩⟩⟩⟩⟩⟩⟩⟩
  simpa only [List.append_nil, List.append_assoc] using h
theorem row_eLink {w : World} {xs : List GLink} {A : Option Addr} {c : Nat} (h : RdW w (.s xs.length (xs.flatMap eLink)) (.slice A xs.length c)) {i : Nat} {x : GLink} (hx : xs[i]? = some x) :
    ∃ ad v2 v4 v6, A = some ad ∧ ad.block < w.heap.size ∧ w.cell? (ad.add (i * 7)) = some (.int .i64 x.Peer) ∧ w.cell? ⟨(ad.add (i * 7)).block, (ad.add (i * 7)).off + 1, none⟩ = some (.bool x.Up) ∧ w.cell? ⟨(ad.add (i * 7)).block, (ad.add (i * 7)).off + 2, none⟩ = some (v2) ∧ w.cell? ⟨(ad.add (i * 7)).block, (ad.add (i * 7)).off + 3, none⟩ = some (.int .i64 x.Next) ∧ w.cell? ⟨(ad.add (i * 7)).block, (ad.add (i * 7)).off + 4, none⟩ = some (v4) ∧ w.cell? ⟨(ad.add (i * 7)).block, (ad.add (i * 7)).off + 5, none⟩ = some (.int .i64 x.Asked) ∧ w.cell? ⟨(ad.add (i * 7)).block, (ad.add (i * 7)).off + 6, none⟩ = some (v6) ∧ RdW w (.s x.Exports.length (x.Exports.flatMap eExport)) v2 ∧ RdW w (.s x.Questions.length (x.Questions.flatMap eQuestion)) v4 ∧ RdW w (.s x.Answers.length (x.Answers.flatMap eQuestion)) v6 := by
  obtain ⟨ad, ys, rfl, hb, hr, hc⟩ := RdW.at_ len_eLink h hx
  obtain ⟨v2, v4, v6, rfl, h2, h4, h6⟩ := rd_eLink hr
  exact ⟨ad, v2, v4, v6, rfl, hb, hc 0 _ rfl, (by rw [← add_field _ _ 1 (by omega)]; exact hc 1 _ rfl), (by rw [← add_field _ _ 2 (by omega)]; exact hc 2 _ rfl), (by rw [← add_field _ _ 3 (by omega)]; exact hc 3 _ rfl), (by rw [← add_field _ _ 4 (by omega)]; exact hc 4 _ rfl), (by rw [← add_field _ _ 5 (by omega)]; exact hc 5 _ rfl), (by rw [← add_field _ _ 6 (by omega)]; exact hc 6 _ rfl), h2, h4, h6⟩
theorem slim_eLink (x : GLink) : SlimL (eLink x) := SlimL_cons (Slim_v _) (SlimL_cons (Slim_v _) (SlimL_cons (Slim_flat _ 3 len_eExport (by omega) slim_eExport _) (SlimL_cons (Slim_v _) (SlimL_cons (Slim_flat _ 2 len_eQuestion (by omega) slim_eQuestion _) (SlimL_cons (Slim_v _) (SlimL_cons (Slim_flat _ 2 len_eQuestion (by omega) slim_eQuestion _) (SlimL_nil)))))))
theorem siz_eLink (x : GLink) : sizL (eLink x) = (x.Exports.length + sizL (x.Exports.flatMap eExport)) + (x.Questions.length + sizL (x.Questions.flatMap eQuestion)) + (x.Answers.length + sizL (x.Answers.flatMap eQuestion)) := by
  simp only [eLink, sizL_cons, sizL_nil, siz_s, siz_int, siz_str, siz_bool]
  first | done | omega | rfl
theorem cnt_eLink (x : GLink) : cntL (eLink x) = 1 + 1 + cntL (x.Exports.flatMap eExport) + 1 + cntL (x.Questions.flatMap eQuestion) + 1 + cntL (x.Answers.flatMap eQuestion) := by
  simp only [eLink, cntL_cons, cntL_nil, cnt_s, cnt_v]
  first | done | omega
theorem mk_eLink (x : GLink) (q : Int) (r2 : Int) (r4 : Int) (r6 : Int) (hr2 : r2 = q + 1 + 1 + (cntL (x.Exports.flatMap eExport) : Nat)) (hr4 : r4 = r2 + 1 + (cntL (x.Questions.flatMap eQuestion) : Nat)) (hr6 : r6 = r4 + 1 + (cntL (x.Answers.flatMap eQuestion) : Nat)) (b0 : 0 ≤ q) (b1 : q + cntL (eLink x) ≤ 4611686018427387904) : mkL (eLink x) q = [.v (.int .i64 q), .v (.bool (decide (Int.tmod (q + 1) 3 = 0))), .s x.Exports.length (mkL (x.Exports.flatMap eExport) (q + 1 + 1)), .v (.int .i64 r2), .s x.Questions.length (mkL (x.Questions.flatMap eQuestion) (r2 + 1)), .v (.int .i64 r4), .s x.Answers.length (mkL (x.Answers.flatMap eQuestion) (r4 + 1))] := by
  have hc := cnt_eLink x
  subst hr2
  subst hr4
  subst hr6
  simp only [eLink, mkL_cons, mkL_nil, mk_int, mk_str, mk_bool, mk_s, cnt_v, cnt_s, Int.natCast_one]
  rw [wrap_id (q) (by omega) (by omega)]
  rw [wrap_id ((q + 1 + 1 + (cntL (x.Exports.flatMap eExport) : Nat))) (by omega) (by omega)]
  rw [wrap_id (((q + 1 + 1 + (cntL (x.Exports.flatMap eExport) : Nat)) + 1 + (cntL (x.Questions.flatMap eQuestion) : Nat))) (by omega) (by omega)]
theorem rdm_eLink {w : World} {x : GLink} {us : List Value} (q : Int) (r2 : Int) (r4 : Int) (r6 : Int) (hr2 : r2 = q + 1 + 1 + (cntL (x.Exports.flatMap eExport) : Nat)) (hr4 : r4 = r2 + 1 + (cntL (x.Questions.flatMap eQuestion) : Nat)) (hr6 : r6 = r4 + 1 + (cntL (x.Answers.flatMap eQuestion) : Nat)) (b0 : 0 ≤ q) (b1 : q + cntL (eLink x) ≤ 4611686018427387904) (h : RdLW w (mkL (eLink x) q) us) : ∃ v2 v4 v6, us = [.int .i64 q, .bool (decide (Int.tmod (q + 1) 3 = 0)), v2, .int .i64 r2, v4, .int .i64 r4, v6] ∧ RdW w (.s x.Exports.length (mkL (x.Exports.flatMap eExport) (q + 1 + 1))) v2 ∧ RdW w (.s x.Questions.length (mkL (x.Questions.flatMap eQuestion) (r2 + 1))) v4 ∧ RdW w (.s x.Answers.length (mkL (x.Answers.flatMap eQuestion) (r4 + 1))) v6 := by
  rw [mk_eLink x q r2 r4 r6 hr2 hr4 hr6 b0 b1] at h
  have q0 := h
  clear h
  obtain ⟨us0, rfl, q1⟩ := RdLW_w.1 q0
  obtain ⟨us1, rfl, q2⟩ := RdLW_w.1 q1
  obtain ⟨u2, us2, rfl, h2, q3⟩ := RdLW_cons.1 q2
  obtain ⟨us3, rfl, q4⟩ := RdLW_w.1 q3
  obtain ⟨u4, us4, rfl, h4, q5⟩ := RdLW_cons.1 q4
  obtain ⟨us5, rfl, q6⟩ := RdLW_w.1 q5
  obtain ⟨u6, us6, rfl, h6, q7⟩ := RdLW_cons.1 q6
  obtain rfl := RdLW_nil.1 q7
  exact ⟨u2, u4, u6, rfl, h2, h4, h6⟩
theorem mkownm_eLink {w : World} {x : GLink} (q : Int) (r2 : Int) (r4 : Int) (r6 : Int) (hr2 : r2 = q + 1 + 1 + (cntL (x.Exports.flatMap eExport) : Nat)) (hr4 : r4 = r2 + 1 + (cntL (x.Questions.flatMap eQuestion) : Nat)) (hr6 : r6 = r4 + 1 + (cntL (x.Answers.flatMap eQuestion) : Nat)) (b0 : 0 ≤ q) (b1 : q + cntL (eLink x) ≤ 4611686018427387904) {v2 : Value} {f2 : List Nat} {v4 : Value} {f4 : List Nat} {v6 : Value} {f6 : List Nat} (h2 : Own w (.s x.Exports.length (mkL (x.Exports.flatMap eExport) (q + 1 + 1))) v2 f2) (h4 : Own w (.s x.Questions.length (mkL (x.Questions.flatMap eQuestion) (r2 + 1))) v4 f4) (h6 : Own w (.s x.Answers.length (mkL (x.Answers.flatMap eQuestion) (r4 + 1))) v6 f6) : OwnL w (mkL (eLink x) q) [.int .i64 q, .bool (decide (Int.tmod (q + 1) 3 = 0)), v2, .int .i64 r2, v4, .int .i64 r4, v6] (f2 ++ (f4 ++ (f6))) := by
  have h : OwnL w (mkL (eLink x) q) [.int .i64 q, .bool (decide (Int.tmod (q + 1) 3 = 0)), v2, .int .i64 r2, v4, .int .i64 r4, v6] (f2 ++ (f4 ++ (f6 ++ ([])))) := by
    rw [mk_eLink x q r2 r4 r6 hr2 hr4 hr6 b0 b1]
    exact OwnL_w.2 ⟨_, rfl, OwnL_w.2 ⟨_, rfl, OwnL_cons.2 ⟨_, _, f2, _, rfl, rfl, h2, OwnL_w.2 ⟨_, rfl, OwnL_cons.2 ⟨_, _, f4, _, rfl, rfl, h4, OwnL_w.2 ⟨_, rfl, OwnL_cons.2 ⟨_, _, f6, _, rfl, rfl, h6, OwnL_nil.2 ⟨rfl, rfl⟩⟩⟩⟩⟩⟩⟩⟩
  simpa only [List.append_nil, List.append_assoc] using h
theorem top_eLink (x : GLink) (q : Int) (r2 : Int) (r4 : Int) (r6 : Int) (hr2 : r2 = q + (cntL (x.Exports.flatMap eExport) : Nat)) (hr4 : r4 = r2 + (cntL (x.Questions.flatMap eQuestion) : Nat)) (hr6 : r6 = r4 + (cntL (x.Answers.flatMap eQuestion) : Nat)) : topL (eLink x) q = [.v (.int .i64 x.Peer), .v (.bool x.Up), .s x.Exports.length (mkL (x.Exports.flatMap eExport) q), .v (.int .i64 x.Next), .s x.Questions.length (mkL (x.Questions.flatMap eQuestion) r2), .v (.int .i64 x.Asked), .s x.Answers.length (mkL (x.Answers.flatMap eQuestion) r4)] := by
  subst hr2
  subst hr4
  subst hr6
  simp only [eLink, topL_v, topL_s, topL_nil]
theorem tcnt_eLink (x : GLink) : tcnt (eLink x) = cntL (x.Exports.flatMap eExport) + (cntL (x.Questions.flatMap eQuestion) + (cntL (x.Answers.flatMap eQuestion))) := by
  simp only [eLink, tcnt_v, tcnt_s, tcnt_nil, Nat.add_zero, Nat.add_assoc]
theorem mktop_eLink {w : World} {x : GLink} (q : Int) (r2 : Int) (r4 : Int) (r6 : Int) (hr2 : r2 = q + (cntL (x.Exports.flatMap eExport) : Nat)) (hr4 : r4 = r2 + (cntL (x.Questions.flatMap eQuestion) : Nat)) (hr6 : r6 = r4 + (cntL (x.Answers.flatMap eQuestion) : Nat)) {v2 : Value} {f2 : List Nat} {v4 : Value} {f4 : List Nat} {v6 : Value} {f6 : List Nat} (h2 : Own w (.s x.Exports.length (mkL (x.Exports.flatMap eExport) q)) v2 f2) (h4 : Own w (.s x.Questions.length (mkL (x.Questions.flatMap eQuestion) r2)) v4 f4) (h6 : Own w (.s x.Answers.length (mkL (x.Answers.flatMap eQuestion) r4)) v6 f6) : OwnL w (topL (eLink x) q) [.int .i64 x.Peer, .bool x.Up, v2, .int .i64 x.Next, v4, .int .i64 x.Asked, v6] (f2 ++ (f4 ++ (f6))) := by
  have h : OwnL w (topL (eLink x) q) [.int .i64 x.Peer, .bool x.Up, v2, .int .i64 x.Next, v4, .int .i64 x.Asked, v6] (f2 ++ (f4 ++ (f6 ++ ([])))) := by
    rw [top_eLink x q r2 r4 r6 hr2 hr4 hr6]
    exact OwnL_w.2 ⟨_, rfl, OwnL_w.2 ⟨_, rfl, OwnL_cons.2 ⟨_, _, f2, _, rfl, rfl, h2, OwnL_w.2 ⟨_, rfl, OwnL_cons.2 ⟨_, _, f4, _, rfl, rfl, h4, OwnL_w.2 ⟨_, rfl, OwnL_cons.2 ⟨_, _, f6, _, rfl, rfl, h6, OwnL_nil.2 ⟨rfl, rfl⟩⟩⟩⟩⟩⟩⟩⟩
  simpa only [List.append_nil, List.append_assoc] using h
theorem rdtop_eLink {w : World} {x : GLink} {us : List Value} (q : Int) (r2 : Int) (r4 : Int) (r6 : Int) (hr2 : r2 = q + (cntL (x.Exports.flatMap eExport) : Nat)) (hr4 : r4 = r2 + (cntL (x.Questions.flatMap eQuestion) : Nat)) (hr6 : r6 = r4 + (cntL (x.Answers.flatMap eQuestion) : Nat)) (h : RdLW w (topL (eLink x) q) us) : ∃ v2 v4 v6, us = [.int .i64 x.Peer, .bool x.Up, v2, .int .i64 x.Next, v4, .int .i64 x.Asked, v6] ∧ RdW w (.s x.Exports.length (mkL (x.Exports.flatMap eExport) q)) v2 ∧ RdW w (.s x.Questions.length (mkL (x.Questions.flatMap eQuestion) r2)) v4 ∧ RdW w (.s x.Answers.length (mkL (x.Answers.flatMap eQuestion) r4)) v6 := by
  rw [top_eLink x q r2 r4 r6 hr2 hr4 hr6] at h
  have q0 := h
  clear h
  obtain ⟨us0, rfl, q1⟩ := RdLW_w.1 q0
  obtain ⟨us1, rfl, q2⟩ := RdLW_w.1 q1
  obtain ⟨u2, us2, rfl, h2, q3⟩ := RdLW_cons.1 q2
  obtain ⟨us3, rfl, q4⟩ := RdLW_w.1 q3
  obtain ⟨u4, us4, rfl, h4, q5⟩ := RdLW_cons.1 q4
  obtain ⟨us5, rfl, q6⟩ := RdLW_w.1 q5
  obtain ⟨u6, us6, rfl, h6, q7⟩ := RdLW_cons.1 q6
  obtain rfl := RdLW_nil.1 q7
  exact ⟨u2, u4, u6, rfl, h2, h4, h6⟩
end Go.Proofs.Ytlpjbipgocgioaa
