/- The Go structs as typed Lean structures, and how each lies in memory; no program in sight. -/
import Derived.Test.YtklbpjnpmbidiaaBase
set_option linter.unusedSimpArgs false
set_option linter.unusedVariables false
namespace Go.Proofs.Ytklbpjnpmbidiaa
open Go.RowKit
def eInt (x : Int) : List Lf := [.v (.int .i64 x)]
def eStr (x : ByteArray) : List Lf := [.v (.string x)]
def eByte (x : UInt8) : List Lf := [.v (.int .u8 (x.toNat : Int))]
def eBool (x : Bool) : List Lf := [.v (.bool x)]
structure GWire where
  Kind : Int
  N : Int
def zWire : GWire := ⟨0, 0⟩
def eWire (x : GWire) : List Lf := [.v (.int .i64 x.Kind), .v (.int .i64 x.N)]
structure GTag where
  Vat : Int
  Entity : Int
  Seq : Int
def zTag : GTag := ⟨0, 0, 0⟩
def eTag (x : GTag) : List Lf := [.v (.int .i64 x.Vat), .v (.int .i64 x.Entity), .v (.int .i64 x.Seq)]
structure GMessage where
  Kind : Int
  Pos : Int
  Answer : Int
  Question : Int
  Name : ByteArray
  Args : List GWire
  Value : GWire
  Count : Int
  Tag : GTag
def zMessage : GMessage := ⟨0, 0, 0, 0, ⟨#[]⟩, [], zWire, 0, zTag⟩
def eMessage (x : GMessage) : List Lf := [.v (.int .i64 x.Kind), .v (.int .i64 x.Pos), .v (.int .i64 x.Answer), .v (.int .i64 x.Question), .v (.string x.Name), .s x.Args.length (x.Args.flatMap eWire), .v (.int .i64 x.Value.Kind), .v (.int .i64 x.Value.N), .v (.int .i64 x.Count), .v (.int .i64 x.Tag.Vat), .v (.int .i64 x.Tag.Entity), .v (.int .i64 x.Tag.Seq)]
theorem len_eInt (x : Int) : (eInt x).length = 1 := rfl
def vsInt (x : Int) : List Value := [.int .i64 x]
theorem vals_eInt (x : Int) : eInt x = (vsInt x).map Lf.v := rfl
theorem one_eInt (xs : List Int) : ∀ u, u ∈ xs.flatMap vsInt → u.oneCell' = true := by
  intro u hu
  obtain ⟨x, _, hx⟩ := List.mem_flatMap.1 hu
  simp only [vsInt, List.mem_cons, List.not_mem_nil, or_false] at hx
  subst hx; rfl
theorem lenv_eInt (xs : List Int) : (xs.flatMap vsInt).length = xs.length * 1 := by
  induction xs with
  | nil => simp
  | cons x xs ih => simp [ih, vsInt]
theorem rd_eInt {w : World} {x : Int} {us : List Value} (h : RdLW w (eInt x) us) : us = [.int .i64 x] := by
  unfold eInt at h
  have q0 := h
  clear h
  obtain ⟨us0, rfl, q1⟩ := RdLW_w.1 q0
  obtain rfl := RdLW_nil.1 q1
  exact rfl
theorem mkrd_eInt {w : World} {x : Int} : RdLW w (eInt x) [.int .i64 x] := by
  unfold eInt
  exact RdLW_w.2 ⟨_, rfl, RdLW_nil.2 rfl⟩
theorem own_eInt {w : World} {x : Int} {us : List Value} {fp : List Nat} (h : OwnL w (eInt x) us fp) : us = [.int .i64 x] ∧ fp = [] := by
  unfold eInt at h
  have q0 := h
  clear h
  obtain ⟨us0, rfl, q1⟩ := OwnL_w.1 q0
  obtain ⟨rfl, rfl⟩ := OwnL_nil.1 q1
  exact ⟨rfl, rfl⟩
theorem mkown_eInt {w : World} {x : Int} : OwnL w (eInt x) [.int .i64 x] ([]) := by
  have h : OwnL w (eInt x) [.int .i64 x] ([]) := by
    unfold eInt
    exact OwnL_w.2 ⟨_, rfl, OwnL_nil.2 ⟨rfl, rfl⟩⟩
  exact h
theorem row_eInt {w : World} {xs : List Int} {A : Option Addr} {c : Nat} (h : RdW w (.s xs.length (xs.flatMap eInt)) (.slice A xs.length c)) {i : Nat} {x : Int} (hx : xs[i]? = some x) :
    ∃ ad, A = some ad ∧ ad.block < w.heap.size ∧ w.cell? (ad.add i) = some (.int .i64 x) := by
  obtain ⟨ad, ys, rfl, hb, hr, hc⟩ := RdW.at_ len_eInt h hx
  obtain rfl := rd_eInt hr
  exact ⟨ad, rfl, hb, (by have h0 := hc 0 _ rfl; rwa [Nat.mul_one, Nat.add_zero] at h0)⟩
theorem slim_eInt (x : Int) : SlimL (eInt x) := SlimL_cons (Slim_v _) (SlimL_nil)
theorem siz_eInt (x : Int) : sizL (eInt x) = 0 := by
  simp only [eInt, sizL_cons, sizL_nil, siz_s, siz_int, siz_str, siz_bool]
theorem cnt_eInt (x : Int) : cntL (eInt x) = 1 := by
  simp only [eInt, cntL_cons, cntL_nil, cnt_s, cnt_v]
theorem cntf_eInt (xs : List Int) : cntL (xs.flatMap eInt) = xs.length * 1 := by
  induction xs with
  | nil => simp [cntL_nil]
  | cons x xs ih => rw [List.flatMap_cons, cntL_append, ih, cnt_eInt, List.length_cons]; omega
theorem mk_eInt (x : Int) (q : Int) (b0 : 0 ≤ q) (b1 : q + cntL (eInt x) ≤ 4611686018427387904) : mkL (eInt x) q = [.v (.int .i64 q)] := by
  have hc := cnt_eInt x
  simp only [eInt, mkL_cons, mkL_nil, mk_int, mk_str, mk_bool, mk_s, cnt_v, cnt_s, Int.natCast_one]
  rw [wrap_id (q) (by omega) (by omega)]
theorem rdm_eInt {w : World} {x : Int} {us : List Value} (q : Int) (b0 : 0 ≤ q) (b1 : q + cntL (eInt x) ≤ 4611686018427387904) (h : RdLW w (mkL (eInt x) q) us) : us = [.int .i64 q] := by
  rw [mk_eInt x q b0 b1] at h
  have q0 := h
  clear h
  obtain ⟨us0, rfl, q1⟩ := RdLW_w.1 q0
  obtain rfl := RdLW_nil.1 q1
  exact rfl
theorem mkownm_eInt {w : World} {x : Int} (q : Int) (b0 : 0 ≤ q) (b1 : q + cntL (eInt x) ≤ 4611686018427387904) : OwnL w (mkL (eInt x) q) [.int .i64 q] ([]) := by
  have h : OwnL w (mkL (eInt x) q) [.int .i64 q] ([]) := by
    rw [mk_eInt x q b0 b1]
    exact OwnL_w.2 ⟨_, rfl, OwnL_nil.2 ⟨rfl, rfl⟩⟩
  exact h
theorem len_eStr (x : ByteArray) : (eStr x).length = 1 := rfl
def vsStr (x : ByteArray) : List Value := [.string x]
theorem vals_eStr (x : ByteArray) : eStr x = (vsStr x).map Lf.v := rfl
theorem one_eStr (xs : List ByteArray) : ∀ u, u ∈ xs.flatMap vsStr → u.oneCell' = true := by
  intro u hu
  obtain ⟨x, _, hx⟩ := List.mem_flatMap.1 hu
  simp only [vsStr, List.mem_cons, List.not_mem_nil, or_false] at hx
  subst hx; rfl
theorem lenv_eStr (xs : List ByteArray) : (xs.flatMap vsStr).length = xs.length * 1 := by
  induction xs with
  | nil => simp
  | cons x xs ih => simp [ih, vsStr]
theorem rd_eStr {w : World} {x : ByteArray} {us : List Value} (h : RdLW w (eStr x) us) : us = [.string x] := by
  unfold eStr at h
  have q0 := h
  clear h
  obtain ⟨us0, rfl, q1⟩ := RdLW_w.1 q0
  obtain rfl := RdLW_nil.1 q1
  exact rfl
theorem mkrd_eStr {w : World} {x : ByteArray} : RdLW w (eStr x) [.string x] := by
  unfold eStr
  exact RdLW_w.2 ⟨_, rfl, RdLW_nil.2 rfl⟩
theorem own_eStr {w : World} {x : ByteArray} {us : List Value} {fp : List Nat} (h : OwnL w (eStr x) us fp) : us = [.string x] ∧ fp = [] := by
  unfold eStr at h
  have q0 := h
  clear h
  obtain ⟨us0, rfl, q1⟩ := OwnL_w.1 q0
  obtain ⟨rfl, rfl⟩ := OwnL_nil.1 q1
  exact ⟨rfl, rfl⟩
theorem mkown_eStr {w : World} {x : ByteArray} : OwnL w (eStr x) [.string x] ([]) := by
  have h : OwnL w (eStr x) [.string x] ([]) := by
    unfold eStr
    exact OwnL_w.2 ⟨_, rfl, OwnL_nil.2 ⟨rfl, rfl⟩⟩
  exact h
theorem row_eStr {w : World} {xs : List ByteArray} {A : Option Addr} {c : Nat} (h : RdW w (.s xs.length (xs.flatMap eStr)) (.slice A xs.length c)) {i : Nat} {x : ByteArray} (hx : xs[i]? = some x) :
    ∃ ad, A = some ad ∧ ad.block < w.heap.size ∧ w.cell? (ad.add i) = some (.string x) := by
  obtain ⟨ad, ys, rfl, hb, hr, hc⟩ := RdW.at_ len_eStr h hx
  obtain rfl := rd_eStr hr
  exact ⟨ad, rfl, hb, (by have h0 := hc 0 _ rfl; rwa [Nat.mul_one, Nat.add_zero] at h0)⟩
theorem slim_eStr (x : ByteArray) : SlimL (eStr x) := SlimL_cons (Slim_v _) (SlimL_nil)
theorem siz_eStr (x : ByteArray) : sizL (eStr x) = x.size := by
  simp only [eStr, sizL_cons, sizL_nil, siz_s, siz_int, siz_str, siz_bool]
  first | done | omega | rfl
theorem cnt_eStr (x : ByteArray) : cntL (eStr x) = 1 := by
  simp only [eStr, cntL_cons, cntL_nil, cnt_s, cnt_v]
theorem cntf_eStr (xs : List ByteArray) : cntL (xs.flatMap eStr) = xs.length * 1 := by
  induction xs with
  | nil => simp [cntL_nil]
  | cons x xs ih => rw [List.flatMap_cons, cntL_append, ih, cnt_eStr, List.length_cons]; omega
theorem mk_eStr (x : ByteArray) (q : Int) (b0 : 0 ≤ q) (b1 : q + cntL (eStr x) ≤ 4611686018427387904) : mkL (eStr x) q = [.v (.string (mkText q))] := by
  have hc := cnt_eStr x
  simp only [eStr, mkL_cons, mkL_nil, mk_int, mk_str, mk_bool, mk_s, cnt_v, cnt_s, Int.natCast_one]
theorem rdm_eStr {w : World} {x : ByteArray} {us : List Value} (q : Int) (b0 : 0 ≤ q) (b1 : q + cntL (eStr x) ≤ 4611686018427387904) (h : RdLW w (mkL (eStr x) q) us) : us = [.string (mkText q)] := by
  rw [mk_eStr x q b0 b1] at h
  have q0 := h
  clear h
  obtain ⟨us0, rfl, q1⟩ := RdLW_w.1 q0
  obtain rfl := RdLW_nil.1 q1
  exact rfl
theorem mkownm_eStr {w : World} {x : ByteArray} (q : Int) (b0 : 0 ≤ q) (b1 : q + cntL (eStr x) ≤ 4611686018427387904) : OwnL w (mkL (eStr x) q) [.string (mkText q)] ([]) := by
  have h : OwnL w (mkL (eStr x) q) [.string (mkText q)] ([]) := by
    rw [mk_eStr x q b0 b1]
    exact OwnL_w.2 ⟨_, rfl, OwnL_nil.2 ⟨rfl, rfl⟩⟩
  exact h
theorem len_eByte (x : UInt8) : (eByte x).length = 1 := rfl
def vsByte (x : UInt8) : List Value := [.int .u8 (x.toNat : Int)]
theorem vals_eByte (x : UInt8) : eByte x = (vsByte x).map Lf.v := rfl
theorem one_eByte (xs : List UInt8) : ∀ u, u ∈ xs.flatMap vsByte → u.oneCell' = true := by
  intro u hu
  obtain ⟨x, _, hx⟩ := List.mem_flatMap.1 hu
  simp only [vsByte, List.mem_cons, List.not_mem_nil, or_false] at hx
  subst hx; rfl
theorem lenv_eByte (xs : List UInt8) : (xs.flatMap vsByte).length = xs.length * 1 := by
  induction xs with
  | nil => simp
  | cons x xs ih => simp [ih, vsByte]
theorem rd_eByte {w : World} {x : UInt8} {us : List Value} (h : RdLW w (eByte x) us) : us = [.int .u8 (x.toNat : Int)] := by
  unfold eByte at h
  have q0 := h
  clear h
  obtain ⟨us0, rfl, q1⟩ := RdLW_w.1 q0
  obtain rfl := RdLW_nil.1 q1
  exact rfl
theorem mkrd_eByte {w : World} {x : UInt8} : RdLW w (eByte x) [.int .u8 (x.toNat : Int)] := by
  unfold eByte
  exact RdLW_w.2 ⟨_, rfl, RdLW_nil.2 rfl⟩
theorem own_eByte {w : World} {x : UInt8} {us : List Value} {fp : List Nat} (h : OwnL w (eByte x) us fp) : us = [.int .u8 (x.toNat : Int)] ∧ fp = [] := by
  unfold eByte at h
  have q0 := h
  clear h
  obtain ⟨us0, rfl, q1⟩ := OwnL_w.1 q0
  obtain ⟨rfl, rfl⟩ := OwnL_nil.1 q1
  exact ⟨rfl, rfl⟩
theorem mkown_eByte {w : World} {x : UInt8} : OwnL w (eByte x) [.int .u8 (x.toNat : Int)] ([]) := by
  have h : OwnL w (eByte x) [.int .u8 (x.toNat : Int)] ([]) := by
    unfold eByte
    exact OwnL_w.2 ⟨_, rfl, OwnL_nil.2 ⟨rfl, rfl⟩⟩
  exact h
theorem row_eByte {w : World} {xs : List UInt8} {A : Option Addr} {c : Nat} (h : RdW w (.s xs.length (xs.flatMap eByte)) (.slice A xs.length c)) {i : Nat} {x : UInt8} (hx : xs[i]? = some x) :
    ∃ ad, A = some ad ∧ ad.block < w.heap.size ∧ w.cell? (ad.add i) = some (.int .u8 (x.toNat : Int)) := by
  obtain ⟨ad, ys, rfl, hb, hr, hc⟩ := RdW.at_ len_eByte h hx
  obtain rfl := rd_eByte hr
  exact ⟨ad, rfl, hb, (by have h0 := hc 0 _ rfl; rwa [Nat.mul_one, Nat.add_zero] at h0)⟩
theorem slim_eByte (x : UInt8) : SlimL (eByte x) := SlimL_cons (Slim_v _) (SlimL_nil)
theorem siz_eByte (x : UInt8) : sizL (eByte x) = 0 := by
  simp only [eByte, sizL_cons, sizL_nil, siz_s, siz_int, siz_str, siz_bool]
theorem cnt_eByte (x : UInt8) : cntL (eByte x) = 1 := by
  simp only [eByte, cntL_cons, cntL_nil, cnt_s, cnt_v]
theorem cntf_eByte (xs : List UInt8) : cntL (xs.flatMap eByte) = xs.length * 1 := by
  induction xs with
  | nil => simp [cntL_nil]
  | cons x xs ih => rw [List.flatMap_cons, cntL_append, ih, cnt_eByte, List.length_cons]; omega
theorem mk_eByte (x : UInt8) (q : Int) (b0 : 0 ≤ q) (b1 : q + cntL (eByte x) ≤ 4611686018427387904) : mkL (eByte x) q = [.v (.int .u8 (IntKind.u8.wrap q))] := by
  have hc := cnt_eByte x
  simp only [eByte, mkL_cons, mkL_nil, mk_int, mk_str, mk_bool, mk_s, cnt_v, cnt_s, Int.natCast_one]
theorem rdm_eByte {w : World} {x : UInt8} {us : List Value} (q : Int) (b0 : 0 ≤ q) (b1 : q + cntL (eByte x) ≤ 4611686018427387904) (h : RdLW w (mkL (eByte x) q) us) : us = [.int .u8 (IntKind.u8.wrap q)] := by
  rw [mk_eByte x q b0 b1] at h
  have q0 := h
  clear h
  obtain ⟨us0, rfl, q1⟩ := RdLW_w.1 q0
  obtain rfl := RdLW_nil.1 q1
  exact rfl
theorem mkownm_eByte {w : World} {x : UInt8} (q : Int) (b0 : 0 ≤ q) (b1 : q + cntL (eByte x) ≤ 4611686018427387904) : OwnL w (mkL (eByte x) q) [.int .u8 (IntKind.u8.wrap q)] ([]) := by
  have h : OwnL w (mkL (eByte x) q) [.int .u8 (IntKind.u8.wrap q)] ([]) := by
    rw [mk_eByte x q b0 b1]
    exact OwnL_w.2 ⟨_, rfl, OwnL_nil.2 ⟨rfl, rfl⟩⟩
  exact h
theorem len_eBool (x : Bool) : (eBool x).length = 1 := rfl
def vsBool (x : Bool) : List Value := [.bool x]
theorem vals_eBool (x : Bool) : eBool x = (vsBool x).map Lf.v := rfl
theorem one_eBool (xs : List Bool) : ∀ u, u ∈ xs.flatMap vsBool → u.oneCell' = true := by
  intro u hu
  obtain ⟨x, _, hx⟩ := List.mem_flatMap.1 hu
  simp only [vsBool, List.mem_cons, List.not_mem_nil, or_false] at hx
  subst hx; rfl
theorem lenv_eBool (xs : List Bool) : (xs.flatMap vsBool).length = xs.length * 1 := by
  induction xs with
  | nil => simp
  | cons x xs ih => simp [ih, vsBool]
theorem rd_eBool {w : World} {x : Bool} {us : List Value} (h : RdLW w (eBool x) us) : us = [.bool x] := by
  unfold eBool at h
  have q0 := h
  clear h
  obtain ⟨us0, rfl, q1⟩ := RdLW_w.1 q0
  obtain rfl := RdLW_nil.1 q1
  exact rfl
theorem mkrd_eBool {w : World} {x : Bool} : RdLW w (eBool x) [.bool x] := by
  unfold eBool
  exact RdLW_w.2 ⟨_, rfl, RdLW_nil.2 rfl⟩
theorem own_eBool {w : World} {x : Bool} {us : List Value} {fp : List Nat} (h : OwnL w (eBool x) us fp) : us = [.bool x] ∧ fp = [] := by
  unfold eBool at h
  have q0 := h
  clear h
  obtain ⟨us0, rfl, q1⟩ := OwnL_w.1 q0
  obtain ⟨rfl, rfl⟩ := OwnL_nil.1 q1
  exact ⟨rfl, rfl⟩
theorem mkown_eBool {w : World} {x : Bool} : OwnL w (eBool x) [.bool x] ([]) := by
  have h : OwnL w (eBool x) [.bool x] ([]) := by
    unfold eBool
    exact OwnL_w.2 ⟨_, rfl, OwnL_nil.2 ⟨rfl, rfl⟩⟩
  exact h
theorem row_eBool {w : World} {xs : List Bool} {A : Option Addr} {c : Nat} (h : RdW w (.s xs.length (xs.flatMap eBool)) (.slice A xs.length c)) {i : Nat} {x : Bool} (hx : xs[i]? = some x) :
    ∃ ad, A = some ad ∧ ad.block < w.heap.size ∧ w.cell? (ad.add i) = some (.bool x) := by
  obtain ⟨ad, ys, rfl, hb, hr, hc⟩ := RdW.at_ len_eBool h hx
  obtain rfl := rd_eBool hr
  exact ⟨ad, rfl, hb, (by have h0 := hc 0 _ rfl; rwa [Nat.mul_one, Nat.add_zero] at h0)⟩
theorem slim_eBool (x : Bool) : SlimL (eBool x) := SlimL_cons (Slim_v _) (SlimL_nil)
theorem siz_eBool (x : Bool) : sizL (eBool x) = 0 := by
  simp only [eBool, sizL_cons, sizL_nil, siz_s, siz_int, siz_str, siz_bool]
theorem cnt_eBool (x : Bool) : cntL (eBool x) = 1 := by
  simp only [eBool, cntL_cons, cntL_nil, cnt_s, cnt_v]
theorem cntf_eBool (xs : List Bool) : cntL (xs.flatMap eBool) = xs.length * 1 := by
  induction xs with
  | nil => simp [cntL_nil]
  | cons x xs ih => rw [List.flatMap_cons, cntL_append, ih, cnt_eBool, List.length_cons]; omega
theorem mk_eBool (x : Bool) (q : Int) (b0 : 0 ≤ q) (b1 : q + cntL (eBool x) ≤ 4611686018427387904) : mkL (eBool x) q = [.v (.bool (decide (Int.tmod q 3 = 0)))] := by
  have hc := cnt_eBool x
  simp only [eBool, mkL_cons, mkL_nil, mk_int, mk_str, mk_bool, mk_s, cnt_v, cnt_s, Int.natCast_one]
theorem rdm_eBool {w : World} {x : Bool} {us : List Value} (q : Int) (b0 : 0 ≤ q) (b1 : q + cntL (eBool x) ≤ 4611686018427387904) (h : RdLW w (mkL (eBool x) q) us) : us = [.bool (decide (Int.tmod q 3 = 0))] := by
  rw [mk_eBool x q b0 b1] at h
  have q0 := h
  clear h
  obtain ⟨us0, rfl, q1⟩ := RdLW_w.1 q0
  obtain rfl := RdLW_nil.1 q1
  exact rfl
theorem mkownm_eBool {w : World} {x : Bool} (q : Int) (b0 : 0 ≤ q) (b1 : q + cntL (eBool x) ≤ 4611686018427387904) : OwnL w (mkL (eBool x) q) [.bool (decide (Int.tmod q 3 = 0))] ([]) := by
  have h : OwnL w (mkL (eBool x) q) [.bool (decide (Int.tmod q 3 = 0))] ([]) := by
    rw [mk_eBool x q b0 b1]
    exact OwnL_w.2 ⟨_, rfl, OwnL_nil.2 ⟨rfl, rfl⟩⟩
  exact h
theorem len_eWire (x : GWire) : (eWire x).length = 2 := rfl
def eqbWire (x y : GWire) : Bool := (x.Kind == y.Kind) && ((x.N == y.N))
theorem eqbWire_refl (x : GWire) : eqbWire x x = true := by simp [eqbWire]
theorem eqbWire_iff (x y : GWire) : eqbWire x y = true ↔ x = y := by
  refine ⟨fun h => ?_, fun h => h ▸ eqbWire_refl x⟩
  simp only [eqbWire, Bool.and_eq_true, beq_iff_eq] at h
  obtain ⟨h0, h1⟩ := h
  cases x; cases y; simp_all
def vsWire (x : GWire) : List Value := [.int .i64 x.Kind, .int .i64 x.N]
theorem vals_eWire (x : GWire) : eWire x = (vsWire x).map Lf.v := rfl
theorem one_eWire (xs : List GWire) : ∀ u, u ∈ xs.flatMap vsWire → u.oneCell' = true := by
  intro u hu
  obtain ⟨x, _, hx⟩ := List.mem_flatMap.1 hu
  simp only [vsWire, List.mem_cons, List.not_mem_nil, or_false] at hx
  rcases hx with rfl | rfl <;> rfl
theorem lenv_eWire (xs : List GWire) : (xs.flatMap vsWire).length = xs.length * 2 := by
  induction xs with
  | nil => simp
  | cons x xs ih => simp [ih, vsWire, Nat.succ_mul] <;> omega
theorem rd_eWire {w : World} {x : GWire} {us : List Value} (h : RdLW w (eWire x) us) : us = [.int .i64 x.Kind, .int .i64 x.N] := by
  unfold eWire at h
  have q0 := h
  clear h
  obtain ⟨us0, rfl, q1⟩ := RdLW_w.1 q0
  obtain ⟨us1, rfl, q2⟩ := RdLW_w.1 q1
  obtain rfl := RdLW_nil.1 q2
  exact rfl
theorem mkrd_eWire {w : World} {x : GWire} : RdLW w (eWire x) [.int .i64 x.Kind, .int .i64 x.N] := by
  unfold eWire
  exact RdLW_w.2 ⟨_, rfl, RdLW_w.2 ⟨_, rfl, RdLW_nil.2 rfl⟩⟩
theorem own_eWire {w : World} {x : GWire} {us : List Value} {fp : List Nat} (h : OwnL w (eWire x) us fp) : us = [.int .i64 x.Kind, .int .i64 x.N] ∧ fp = [] := by
  unfold eWire at h
  have q0 := h
  clear h
  obtain ⟨us0, rfl, q1⟩ := OwnL_w.1 q0
  obtain ⟨us1, rfl, q2⟩ := OwnL_w.1 q1
  obtain ⟨rfl, rfl⟩ := OwnL_nil.1 q2
  exact ⟨rfl, rfl⟩
theorem mkown_eWire {w : World} {x : GWire} : OwnL w (eWire x) [.int .i64 x.Kind, .int .i64 x.N] ([]) := by
  have h : OwnL w (eWire x) [.int .i64 x.Kind, .int .i64 x.N] ([]) := by
    unfold eWire
    exact OwnL_w.2 ⟨_, rfl, OwnL_w.2 ⟨_, rfl, OwnL_nil.2 ⟨rfl, rfl⟩⟩⟩
  exact h
theorem row_eWire {w : World} {xs : List GWire} {A : Option Addr} {c : Nat} (h : RdW w (.s xs.length (xs.flatMap eWire)) (.slice A xs.length c)) {i : Nat} {x : GWire} (hx : xs[i]? = some x) :
    ∃ ad, A = some ad ∧ ad.block < w.heap.size ∧ w.cell? (ad.add (i * 2)) = some (.int .i64 x.Kind) ∧ w.cell? ⟨(ad.add (i * 2)).block, (ad.add (i * 2)).off + 1, none⟩ = some (.int .i64 x.N) := by
  obtain ⟨ad, ys, rfl, hb, hr, hc⟩ := RdW.at_ len_eWire h hx
  obtain rfl := rd_eWire hr
  exact ⟨ad, rfl, hb, hc 0 _ rfl, (by rw [← add_field _ _ 1 (by omega)]; exact hc 1 _ rfl)⟩
theorem slim_eWire (x : GWire) : SlimL (eWire x) := SlimL_cons (Slim_v _) (SlimL_cons (Slim_v _) (SlimL_nil))
theorem siz_eWire (x : GWire) : sizL (eWire x) = 0 := by
  simp only [eWire, sizL_cons, sizL_nil, siz_s, siz_int, siz_str, siz_bool]
  first | done | omega | rfl
theorem cnt_eWire (x : GWire) : cntL (eWire x) = 1 + 1 := by
  simp only [eWire, cntL_cons, cntL_nil, cnt_s, cnt_v]
  first | done | omega
theorem cntf_eWire (xs : List GWire) : cntL (xs.flatMap eWire) = xs.length * 2 := by
  induction xs with
  | nil => simp [cntL_nil]
  | cons x xs ih => rw [List.flatMap_cons, cntL_append, ih, cnt_eWire, List.length_cons]; omega
theorem mk_eWire (x : GWire) (q : Int) (b0 : 0 ≤ q) (b1 : q + cntL (eWire x) ≤ 4611686018427387904) : mkL (eWire x) q = [.v (.int .i64 q), .v (.int .i64 (q + 1))] := by
  have hc := cnt_eWire x
  simp only [eWire, mkL_cons, mkL_nil, mk_int, mk_str, mk_bool, mk_s, cnt_v, cnt_s, Int.natCast_one]
  rw [wrap_id (q) (by omega) (by omega)]
  rw [wrap_id (q + 1) (by omega) (by omega)]
theorem rdm_eWire {w : World} {x : GWire} {us : List Value} (q : Int) (b0 : 0 ≤ q) (b1 : q + cntL (eWire x) ≤ 4611686018427387904) (h : RdLW w (mkL (eWire x) q) us) : us = [.int .i64 q, .int .i64 (q + 1)] := by
  rw [mk_eWire x q b0 b1] at h
  have q0 := h
  clear h
  obtain ⟨us0, rfl, q1⟩ := RdLW_w.1 q0
  obtain ⟨us1, rfl, q2⟩ := RdLW_w.1 q1
  obtain rfl := RdLW_nil.1 q2
  exact rfl
theorem mkownm_eWire {w : World} {x : GWire} (q : Int) (b0 : 0 ≤ q) (b1 : q + cntL (eWire x) ≤ 4611686018427387904) : OwnL w (mkL (eWire x) q) [.int .i64 q, .int .i64 (q + 1)] ([]) := by
  have h : OwnL w (mkL (eWire x) q) [.int .i64 q, .int .i64 (q + 1)] ([]) := by
    rw [mk_eWire x q b0 b1]
    exact OwnL_w.2 ⟨_, rfl, OwnL_w.2 ⟨_, rfl, OwnL_nil.2 ⟨rfl, rfl⟩⟩⟩
  exact h
theorem len_eTag (x : GTag) : (eTag x).length = 3 := rfl
def eqbTag (x y : GTag) : Bool := (x.Vat == y.Vat) && ((x.Entity == y.Entity) && ((x.Seq == y.Seq)))
theorem eqbTag_refl (x : GTag) : eqbTag x x = true := by simp [eqbTag]
theorem eqbTag_iff (x y : GTag) : eqbTag x y = true ↔ x = y := by
  refine ⟨fun h => ?_, fun h => h ▸ eqbTag_refl x⟩
  simp only [eqbTag, Bool.and_eq_true, beq_iff_eq] at h
  obtain ⟨h0, h1, h2⟩ := h
  cases x; cases y; simp_all
def vsTag (x : GTag) : List Value := [.int .i64 x.Vat, .int .i64 x.Entity, .int .i64 x.Seq]
theorem vals_eTag (x : GTag) : eTag x = (vsTag x).map Lf.v := rfl
theorem one_eTag (xs : List GTag) : ∀ u, u ∈ xs.flatMap vsTag → u.oneCell' = true := by
  intro u hu
  obtain ⟨x, _, hx⟩ := List.mem_flatMap.1 hu
  simp only [vsTag, List.mem_cons, List.not_mem_nil, or_false] at hx
  rcases hx with rfl | rfl | rfl <;> rfl
theorem lenv_eTag (xs : List GTag) : (xs.flatMap vsTag).length = xs.length * 3 := by
  induction xs with
  | nil => simp
  | cons x xs ih => simp [ih, vsTag, Nat.succ_mul] <;> omega
theorem rd_eTag {w : World} {x : GTag} {us : List Value} (h : RdLW w (eTag x) us) : us = [.int .i64 x.Vat, .int .i64 x.Entity, .int .i64 x.Seq] := by
  unfold eTag at h
  have q0 := h
  clear h
  obtain ⟨us0, rfl, q1⟩ := RdLW_w.1 q0
  obtain ⟨us1, rfl, q2⟩ := RdLW_w.1 q1
  obtain ⟨us2, rfl, q3⟩ := RdLW_w.1 q2
  obtain rfl := RdLW_nil.1 q3
  exact rfl
theorem mkrd_eTag {w : World} {x : GTag} : RdLW w (eTag x) [.int .i64 x.Vat, .int .i64 x.Entity, .int .i64 x.Seq] := by
  unfold eTag
  exact RdLW_w.2 ⟨_, rfl, RdLW_w.2 ⟨_, rfl, RdLW_w.2 ⟨_, rfl, RdLW_nil.2 rfl⟩⟩⟩
theorem own_eTag {w : World} {x : GTag} {us : List Value} {fp : List Nat} (h : OwnL w (eTag x) us fp) : us = [.int .i64 x.Vat, .int .i64 x.Entity, .int .i64 x.Seq] ∧ fp = [] := by
  unfold eTag at h
  have q0 := h
  clear h
  obtain ⟨us0, rfl, q1⟩ := OwnL_w.1 q0
  obtain ⟨us1, rfl, q2⟩ := OwnL_w.1 q1
  obtain ⟨us2, rfl, q3⟩ := OwnL_w.1 q2
  obtain ⟨rfl, rfl⟩ := OwnL_nil.1 q3
  exact ⟨rfl, rfl⟩
theorem mkown_eTag {w : World} {x : GTag} : OwnL w (eTag x) [.int .i64 x.Vat, .int .i64 x.Entity, .int .i64 x.Seq] ([]) := by
  have h : OwnL w (eTag x) [.int .i64 x.Vat, .int .i64 x.Entity, .int .i64 x.Seq] ([]) := by
    unfold eTag
    exact OwnL_w.2 ⟨_, rfl, OwnL_w.2 ⟨_, rfl, OwnL_w.2 ⟨_, rfl, OwnL_nil.2 ⟨rfl, rfl⟩⟩⟩⟩
  exact h
theorem row_eTag {w : World} {xs : List GTag} {A : Option Addr} {c : Nat} (h : RdW w (.s xs.length (xs.flatMap eTag)) (.slice A xs.length c)) {i : Nat} {x : GTag} (hx : xs[i]? = some x) :
    ∃ ad, A = some ad ∧ ad.block < w.heap.size ∧ w.cell? (ad.add (i * 3)) = some (.int .i64 x.Vat) ∧ w.cell? ⟨(ad.add (i * 3)).block, (ad.add (i * 3)).off + 1, none⟩ = some (.int .i64 x.Entity) ∧ w.cell? ⟨(ad.add (i * 3)).block, (ad.add (i * 3)).off + 2, none⟩ = some (.int .i64 x.Seq) := by
  obtain ⟨ad, ys, rfl, hb, hr, hc⟩ := RdW.at_ len_eTag h hx
  obtain rfl := rd_eTag hr
  exact ⟨ad, rfl, hb, hc 0 _ rfl, (by rw [← add_field _ _ 1 (by omega)]; exact hc 1 _ rfl), (by rw [← add_field _ _ 2 (by omega)]; exact hc 2 _ rfl)⟩
theorem slim_eTag (x : GTag) : SlimL (eTag x) := SlimL_cons (Slim_v _) (SlimL_cons (Slim_v _) (SlimL_cons (Slim_v _) (SlimL_nil)))
theorem siz_eTag (x : GTag) : sizL (eTag x) = 0 := by
  simp only [eTag, sizL_cons, sizL_nil, siz_s, siz_int, siz_str, siz_bool]
  first | done | omega | rfl
theorem cnt_eTag (x : GTag) : cntL (eTag x) = 1 + 1 + 1 := by
  simp only [eTag, cntL_cons, cntL_nil, cnt_s, cnt_v]
  first | done | omega
theorem cntf_eTag (xs : List GTag) : cntL (xs.flatMap eTag) = xs.length * 3 := by
  induction xs with
  | nil => simp [cntL_nil]
  | cons x xs ih => rw [List.flatMap_cons, cntL_append, ih, cnt_eTag, List.length_cons]; omega
theorem mk_eTag (x : GTag) (q : Int) (b0 : 0 ≤ q) (b1 : q + cntL (eTag x) ≤ 4611686018427387904) : mkL (eTag x) q = [.v (.int .i64 q), .v (.int .i64 (q + 1)), .v (.int .i64 (q + 1 + 1))] := by
  have hc := cnt_eTag x
  simp only [eTag, mkL_cons, mkL_nil, mk_int, mk_str, mk_bool, mk_s, cnt_v, cnt_s, Int.natCast_one]
  rw [wrap_id (q) (by omega) (by omega)]
  rw [wrap_id (q + 1) (by omega) (by omega)]
  rw [wrap_id (q + 1 + 1) (by omega) (by omega)]
theorem rdm_eTag {w : World} {x : GTag} {us : List Value} (q : Int) (b0 : 0 ≤ q) (b1 : q + cntL (eTag x) ≤ 4611686018427387904) (h : RdLW w (mkL (eTag x) q) us) : us = [.int .i64 q, .int .i64 (q + 1), .int .i64 (q + 1 + 1)] := by
  rw [mk_eTag x q b0 b1] at h
  have q0 := h
  clear h
  obtain ⟨us0, rfl, q1⟩ := RdLW_w.1 q0
  obtain ⟨us1, rfl, q2⟩ := RdLW_w.1 q1
  obtain ⟨us2, rfl, q3⟩ := RdLW_w.1 q2
  obtain rfl := RdLW_nil.1 q3
  exact rfl
theorem mkownm_eTag {w : World} {x : GTag} (q : Int) (b0 : 0 ≤ q) (b1 : q + cntL (eTag x) ≤ 4611686018427387904) : OwnL w (mkL (eTag x) q) [.int .i64 q, .int .i64 (q + 1), .int .i64 (q + 1 + 1)] ([]) := by
  have h : OwnL w (mkL (eTag x) q) [.int .i64 q, .int .i64 (q + 1), .int .i64 (q + 1 + 1)] ([]) := by
    rw [mk_eTag x q b0 b1]
    exact OwnL_w.2 ⟨_, rfl, OwnL_w.2 ⟨_, rfl, OwnL_w.2 ⟨_, rfl, OwnL_nil.2 ⟨rfl, rfl⟩⟩⟩⟩
  exact h
theorem len_eMessage (x : GMessage) : (eMessage x).length = 12 := rfl
theorem rd_eMessage {w : World} {x : GMessage} {us : List Value} (h : RdLW w (eMessage x) us) : ∃ v5, us = [.int .i64 x.Kind, .int .i64 x.Pos, .int .i64 x.Answer, .int .i64 x.Question, .string x.Name, v5, .int .i64 x.Value.Kind, .int .i64 x.Value.N, .int .i64 x.Count, .int .i64 x.Tag.Vat, .int .i64 x.Tag.Entity, .int .i64 x.Tag.Seq] ∧ RdW w (.s x.Args.length (x.Args.flatMap eWire)) v5 := by
  unfold eMessage at h
  have q0 := h
  clear h
  obtain ⟨us0, rfl, q1⟩ := RdLW_w.1 q0
  obtain ⟨us1, rfl, q2⟩ := RdLW_w.1 q1
  obtain ⟨us2, rfl, q3⟩ := RdLW_w.1 q2
  obtain ⟨us3, rfl, q4⟩ := RdLW_w.1 q3
  obtain ⟨us4, rfl, q5⟩ := RdLW_w.1 q4
  obtain ⟨u5, us5, rfl, h5, q6⟩ := RdLW_cons.1 q5
  obtain ⟨us6, rfl, q7⟩ := RdLW_w.1 q6
  obtain ⟨us7, rfl, q8⟩ := RdLW_w.1 q7
  obtain ⟨us8, rfl, q9⟩ := RdLW_w.1 q8
  obtain ⟨us9, rfl, q10⟩ := RdLW_w.1 q9
  obtain ⟨us10, rfl, q11⟩ := RdLW_w.1 q10
  obtain ⟨us11, rfl, q12⟩ := RdLW_w.1 q11
  obtain rfl := RdLW_nil.1 q12
  exact ⟨u5, rfl, h5⟩
theorem mkrd_eMessage {w : World} {x : GMessage} {v5 : Value} (h5 : RdW w (.s x.Args.length (x.Args.flatMap eWire)) v5) : RdLW w (eMessage x) [.int .i64 x.Kind, .int .i64 x.Pos, .int .i64 x.Answer, .int .i64 x.Question, .string x.Name, v5, .int .i64 x.Value.Kind, .int .i64 x.Value.N, .int .i64 x.Count, .int .i64 x.Tag.Vat, .int .i64 x.Tag.Entity, .int .i64 x.Tag.Seq] := by
  unfold eMessage
  exact RdLW_w.2 ⟨_, rfl, RdLW_w.2 ⟨_, rfl, RdLW_w.2 ⟨_, rfl, RdLW_w.2 ⟨_, rfl, RdLW_w.2 ⟨_, rfl, RdLW_cons.2 ⟨_, _, rfl, h5, RdLW_w.2 ⟨_, rfl, RdLW_w.2 ⟨_, rfl, RdLW_w.2 ⟨_, rfl, RdLW_w.2 ⟨_, rfl, RdLW_w.2 ⟨_, rfl, RdLW_w.2 ⟨_, rfl, RdLW_nil.2 rfl⟩⟩⟩⟩⟩⟩⟩⟩⟩⟩⟩⟩
theorem own_eMessage {w : World} {x : GMessage} {us : List Value} {fp : List Nat} (h : OwnL w (eMessage x) us fp) : ∃ v5 f5, us = [.int .i64 x.Kind, .int .i64 x.Pos, .int .i64 x.Answer, .int .i64 x.Question, .string x.Name, v5, .int .i64 x.Value.Kind, .int .i64 x.Value.N, .int .i64 x.Count, .int .i64 x.Tag.Vat, .int .i64 x.Tag.Entity, .int .i64 x.Tag.Seq] ∧ fp = f5 ∧ Own w (.s x.Args.length (x.Args.flatMap eWire)) v5 f5 := by
  unfold eMessage at h
  have q0 := h
  clear h
  obtain ⟨us0, rfl, q1⟩ := OwnL_w.1 q0
  obtain ⟨us1, rfl, q2⟩ := OwnL_w.1 q1
  obtain ⟨us2, rfl, q3⟩ := OwnL_w.1 q2
  obtain ⟨us3, rfl, q4⟩ := OwnL_w.1 q3
  obtain ⟨us4, rfl, q5⟩ := OwnL_w.1 q4
  obtain ⟨u5, us5, g5, k5, rfl, rfl, h5, q6⟩ := OwnL_cons.1 q5
  obtain ⟨us6, rfl, q7⟩ := OwnL_w.1 q6
  obtain ⟨us7, rfl, q8⟩ := OwnL_w.1 q7
  obtain ⟨us8, rfl, q9⟩ := OwnL_w.1 q8
  obtain ⟨us9, rfl, q10⟩ := OwnL_w.1 q9
  obtain ⟨us10, rfl, q11⟩ := OwnL_w.1 q10
  obtain ⟨us11, rfl, q12⟩ := OwnL_w.1 q11
  obtain ⟨rfl, rfl⟩ := OwnL_nil.1 q12
  exact ⟨u5, g5, rfl, by simp only [List.append_nil, List.append_assoc], h5⟩
theorem mkown_eMessage {w : World} {x : GMessage} {v5 : Value} {f5 : List Nat} (h5 : Own w (.s x.Args.length (x.Args.flatMap eWire)) v5 f5) : OwnL w (eMessage x) [.int .i64 x.Kind, .int .i64 x.Pos, .int .i64 x.Answer, .int .i64 x.Question, .string x.Name, v5, .int .i64 x.Value.Kind, .int .i64 x.Value.N, .int .i64 x.Count, .int .i64 x.Tag.Vat, .int .i64 x.Tag.Entity, .int .i64 x.Tag.Seq] (f5) := by
  have h : OwnL w (eMessage x) [.int .i64 x.Kind, .int .i64 x.Pos, .int .i64 x.Answer, .int .i64 x.Question, .string x.Name, v5, .int .i64 x.Value.Kind, .int .i64 x.Value.N, .int .i64 x.Count, .int .i64 x.Tag.Vat, .int .i64 x.Tag.Entity, .int .i64 x.Tag.Seq] (f5 ++ ([])) := by
    unfold eMessage
    exact OwnL_w.2 ⟨_, rfl, OwnL_w.2 ⟨_, rfl, OwnL_w.2 ⟨_, rfl, OwnL_w.2 ⟨_, rfl, OwnL_w.2 ⟨_, rfl, OwnL_cons.2 ⟨_, _, f5, _, rfl, rfl, h5, OwnL_w.2 ⟨_, rfl, OwnL_w.2 ⟨_, rfl, OwnL_w.2 ⟨_, rfl, OwnL_w.2 ⟨_, rfl, OwnL_w.2 ⟨_, rfl, OwnL_w.2 ⟨_, rfl, OwnL_nil.2 ⟨rfl, rfl⟩⟩⟩⟩⟩⟩⟩⟩⟩⟩⟩⟩⟩
  simpa only [List.append_nil, List.append_assoc] using h
theorem row_eMessage {w : World} {xs : List GMessage} {A : Option Addr} {c : Nat} (h : RdW w (.s xs.length (xs.flatMap eMessage)) (.slice A xs.length c)) {i : Nat} {x : GMessage} (hx : xs[i]? = some x) :
    ∃ ad v5, A = some ad ∧ ad.block < w.heap.size ∧ w.cell? (ad.add (i * 12)) = some (.int .i64 x.Kind) ∧ w.cell? ⟨(ad.add (i * 12)).block, (ad.add (i * 12)).off + 1, none⟩ = some (.int .i64 x.Pos) ∧ w.cell? ⟨(ad.add (i * 12)).block, (ad.add (i * 12)).off + 2, none⟩ = some (.int .i64 x.Answer) ∧ w.cell? ⟨(ad.add (i * 12)).block, (ad.add (i * 12)).off + 3, none⟩ = some (.int .i64 x.Question) ∧ w.cell? ⟨(ad.add (i * 12)).block, (ad.add (i * 12)).off + 4, none⟩ = some (.string x.Name) ∧ w.cell? ⟨(ad.add (i * 12)).block, (ad.add (i * 12)).off + 5, none⟩ = some (v5) ∧ w.cell? ⟨(ad.add (i * 12)).block, (ad.add (i * 12)).off + 6, none⟩ = some (.int .i64 x.Value.Kind) ∧ w.cell? ⟨(ad.add (i * 12)).block, (ad.add (i * 12)).off + 7, none⟩ = some (.int .i64 x.Value.N) ∧ w.cell? ⟨(ad.add (i * 12)).block, (ad.add (i * 12)).off + 8, none⟩ = some (.int .i64 x.Count) ∧ w.cell? ⟨(ad.add (i * 12)).block, (ad.add (i * 12)).off + 9, none⟩ = some (.int .i64 x.Tag.Vat) ∧ w.cell? ⟨(ad.add (i * 12)).block, (ad.add (i * 12)).off + 10, none⟩ = some (.int .i64 x.Tag.Entity) ∧ w.cell? ⟨(ad.add (i * 12)).block, (ad.add (i * 12)).off + 11, none⟩ = some (.int .i64 x.Tag.Seq) ∧ RdW w (.s x.Args.length (x.Args.flatMap eWire)) v5 := by
  obtain ⟨ad, ys, rfl, hb, hr, hc⟩ := RdW.at_ len_eMessage h hx
  obtain ⟨v5, rfl, h5⟩ := rd_eMessage hr
  exact ⟨ad, v5, rfl, hb, hc 0 _ rfl, (by rw [← add_field _ _ 1 (by omega)]; exact hc 1 _ rfl), (by rw [← add_field _ _ 2 (by omega)]; exact hc 2 _ rfl), (by rw [← add_field _ _ 3 (by omega)]; exact hc 3 _ rfl), (by rw [← add_field _ _ 4 (by omega)]; exact hc 4 _ rfl), (by rw [← add_field _ _ 5 (by omega)]; exact hc 5 _ rfl), (by rw [← add_field _ _ 6 (by omega)]; exact hc 6 _ rfl), (by rw [← add_field _ _ 7 (by omega)]; exact hc 7 _ rfl), (by rw [← add_field _ _ 8 (by omega)]; exact hc 8 _ rfl), (by rw [← add_field _ _ 9 (by omega)]; exact hc 9 _ rfl), (by rw [← add_field _ _ 10 (by omega)]; exact hc 10 _ rfl), (by rw [← add_field _ _ 11 (by omega)]; exact hc 11 _ rfl), h5⟩
theorem slim_eMessage (x : GMessage) : SlimL (eMessage x) := SlimL_cons (Slim_v _) (SlimL_cons (Slim_v _) (SlimL_cons (Slim_v _) (SlimL_cons (Slim_v _) (SlimL_cons (Slim_v _) (SlimL_cons (Slim_flat _ 2 len_eWire (by omega) slim_eWire _) (SlimL_cons (Slim_v _) (SlimL_cons (Slim_v _) (SlimL_cons (Slim_v _) (SlimL_cons (Slim_v _) (SlimL_cons (Slim_v _) (SlimL_cons (Slim_v _) (SlimL_nil))))))))))))
theorem siz_eMessage (x : GMessage) : sizL (eMessage x) = x.Name.size + (x.Args.length + sizL (x.Args.flatMap eWire)) := by
  simp only [eMessage, sizL_cons, sizL_nil, siz_s, siz_int, siz_str, siz_bool]
  first | done | omega | rfl
theorem cnt_eMessage (x : GMessage) : cntL (eMessage x) = 1 + 1 + 1 + 1 + 1 + cntL (x.Args.flatMap eWire) + 1 + 1 + 1 + 1 + 1 + 1 := by
  simp only [eMessage, cntL_cons, cntL_nil, cnt_s, cnt_v]
  first | done | omega
theorem mk_eMessage (x : GMessage) (q : Int) (r5 : Int) (hr5 : r5 = q + 1 + 1 + 1 + 1 + 1 + (cntL (x.Args.flatMap eWire) : Nat)) (b0 : 0 ≤ q) (b1 : q + cntL (eMessage x) ≤ 4611686018427387904) : mkL (eMessage x) q = [.v (.int .i64 q), .v (.int .i64 (q + 1)), .v (.int .i64 (q + 1 + 1)), .v (.int .i64 (q + 1 + 1 + 1)), .v (.string (mkText (q + 1 + 1 + 1 + 1))), .s x.Args.length (mkL (x.Args.flatMap eWire) (q + 1 + 1 + 1 + 1 + 1)), .v (.int .i64 r5), .v (.int .i64 (r5 + 1)), .v (.int .i64 (r5 + 1 + 1)), .v (.int .i64 (r5 + 1 + 1 + 1)), .v (.int .i64 (r5 + 1 + 1 + 1 + 1)), .v (.int .i64 (r5 + 1 + 1 + 1 + 1 + 1))] := by
  have hc := cnt_eMessage x
  subst hr5
  simp only [eMessage, mkL_cons, mkL_nil, mk_int, mk_str, mk_bool, mk_s, cnt_v, cnt_s, Int.natCast_one]
  rw [wrap_id (q) (by omega) (by omega)]
  rw [wrap_id (q + 1) (by omega) (by omega)]
  rw [wrap_id (q + 1 + 1) (by omega) (by omega)]
  rw [wrap_id (q + 1 + 1 + 1) (by omega) (by omega)]
  rw [wrap_id ((q + 1 + 1 + 1 + 1 + 1 + (cntL (x.Args.flatMap eWire) : Nat))) (by omega) (by omega)]
  rw [wrap_id ((q + 1 + 1 + 1 + 1 + 1 + (cntL (x.Args.flatMap eWire) : Nat)) + 1) (by omega) (by omega)]
  rw [wrap_id ((q + 1 + 1 + 1 + 1 + 1 + (cntL (x.Args.flatMap eWire) : Nat)) + 1 + 1) (by omega) (by omega)]
  rw [wrap_id ((q + 1 + 1 + 1 + 1 + 1 + (cntL (x.Args.flatMap eWire) : Nat)) + 1 + 1 + 1) (by omega) (by omega)]
  rw [wrap_id ((q + 1 + 1 + 1 + 1 + 1 + (cntL (x.Args.flatMap eWire) : Nat)) + 1 + 1 + 1 + 1) (by omega) (by omega)]
  rw [wrap_id ((q + 1 + 1 + 1 + 1 + 1 + (cntL (x.Args.flatMap eWire) : Nat)) + 1 + 1 + 1 + 1 + 1) (by omega) (by omega)]
theorem rdm_eMessage {w : World} {x : GMessage} {us : List Value} (q : Int) (r5 : Int) (hr5 : r5 = q + 1 + 1 + 1 + 1 + 1 + (cntL (x.Args.flatMap eWire) : Nat)) (b0 : 0 ≤ q) (b1 : q + cntL (eMessage x) ≤ 4611686018427387904) (h : RdLW w (mkL (eMessage x) q) us) : ∃ v5, us = [.int .i64 q, .int .i64 (q + 1), .int .i64 (q + 1 + 1), .int .i64 (q + 1 + 1 + 1), .string (mkText (q + 1 + 1 + 1 + 1)), v5, .int .i64 r5, .int .i64 (r5 + 1), .int .i64 (r5 + 1 + 1), .int .i64 (r5 + 1 + 1 + 1), .int .i64 (r5 + 1 + 1 + 1 + 1), .int .i64 (r5 + 1 + 1 + 1 + 1 + 1)] ∧ RdW w (.s x.Args.length (mkL (x.Args.flatMap eWire) (q + 1 + 1 + 1 + 1 + 1))) v5 := by
  rw [mk_eMessage x q r5 hr5 b0 b1] at h
  have q0 := h
  clear h
  obtain ⟨us0, rfl, q1⟩ := RdLW_w.1 q0
  obtain ⟨us1, rfl, q2⟩ := RdLW_w.1 q1
  obtain ⟨us2, rfl, q3⟩ := RdLW_w.1 q2
  obtain ⟨us3, rfl, q4⟩ := RdLW_w.1 q3
  obtain ⟨us4, rfl, q5⟩ := RdLW_w.1 q4
  obtain ⟨u5, us5, rfl, h5, q6⟩ := RdLW_cons.1 q5
  obtain ⟨us6, rfl, q7⟩ := RdLW_w.1 q6
  obtain ⟨us7, rfl, q8⟩ := RdLW_w.1 q7
  obtain ⟨us8, rfl, q9⟩ := RdLW_w.1 q8
  obtain ⟨us9, rfl, q10⟩ := RdLW_w.1 q9
  obtain ⟨us10, rfl, q11⟩ := RdLW_w.1 q10
  obtain ⟨us11, rfl, q12⟩ := RdLW_w.1 q11
  obtain rfl := RdLW_nil.1 q12
  exact ⟨u5, rfl, h5⟩
theorem mkownm_eMessage {w : World} {x : GMessage} (q : Int) (r5 : Int) (hr5 : r5 = q + 1 + 1 + 1 + 1 + 1 + (cntL (x.Args.flatMap eWire) : Nat)) (b0 : 0 ≤ q) (b1 : q + cntL (eMessage x) ≤ 4611686018427387904) {v5 : Value} {f5 : List Nat} (h5 : Own w (.s x.Args.length (mkL (x.Args.flatMap eWire) (q + 1 + 1 + 1 + 1 + 1))) v5 f5) : OwnL w (mkL (eMessage x) q) [.int .i64 q, .int .i64 (q + 1), .int .i64 (q + 1 + 1), .int .i64 (q + 1 + 1 + 1), .string (mkText (q + 1 + 1 + 1 + 1)), v5, .int .i64 r5, .int .i64 (r5 + 1), .int .i64 (r5 + 1 + 1), .int .i64 (r5 + 1 + 1 + 1), .int .i64 (r5 + 1 + 1 + 1 + 1), .int .i64 (r5 + 1 + 1 + 1 + 1 + 1)] (f5) := by
  have h : OwnL w (mkL (eMessage x) q) [.int .i64 q, .int .i64 (q + 1), .int .i64 (q + 1 + 1), .int .i64 (q + 1 + 1 + 1), .string (mkText (q + 1 + 1 + 1 + 1)), v5, .int .i64 r5, .int .i64 (r5 + 1), .int .i64 (r5 + 1 + 1), .int .i64 (r5 + 1 + 1 + 1), .int .i64 (r5 + 1 + 1 + 1 + 1), .int .i64 (r5 + 1 + 1 + 1 + 1 + 1)] (f5 ++ ([])) := by
    rw [mk_eMessage x q r5 hr5 b0 b1]
    exact OwnL_w.2 ⟨_, rfl, OwnL_w.2 ⟨_, rfl, OwnL_w.2 ⟨_, rfl, OwnL_w.2 ⟨_, rfl, OwnL_w.2 ⟨_, rfl, OwnL_cons.2 ⟨_, _, f5, _, rfl, rfl, h5, OwnL_w.2 ⟨_, rfl, OwnL_w.2 ⟨_, rfl, OwnL_w.2 ⟨_, rfl, OwnL_w.2 ⟨_, rfl, OwnL_w.2 ⟨_, rfl, OwnL_w.2 ⟨_, rfl, OwnL_nil.2 ⟨rfl, rfl⟩⟩⟩⟩⟩⟩⟩⟩⟩⟩⟩⟩⟩
  simpa only [List.append_nil, List.append_assoc] using h
theorem str_eMessage {x : GMessage} (h : StrOkL (eMessage x)) : x.Name.size ≤ 140737488355328 := by
  simp only [eMessage, StrOkL_cons, StrOkL_nil, StrOk_str, StrOk_int, StrOk_bool, StrOk_s, true_and, and_true] at h
  simp_all
theorem top_eMessage (x : GMessage) (q : Int) (r5 : Int) (hr5 : r5 = q + (cntL (x.Args.flatMap eWire) : Nat)) : topL (eMessage x) q = [.v (.int .i64 x.Kind), .v (.int .i64 x.Pos), .v (.int .i64 x.Answer), .v (.int .i64 x.Question), .v (.string x.Name), .s x.Args.length (mkL (x.Args.flatMap eWire) q), .v (.int .i64 x.Value.Kind), .v (.int .i64 x.Value.N), .v (.int .i64 x.Count), .v (.int .i64 x.Tag.Vat), .v (.int .i64 x.Tag.Entity), .v (.int .i64 x.Tag.Seq)] := by
  subst hr5
  simp only [eMessage, topL_v, topL_s, topL_nil]
theorem tcnt_eMessage (x : GMessage) : tcnt (eMessage x) = cntL (x.Args.flatMap eWire) := by
  simp only [eMessage, tcnt_v, tcnt_s, tcnt_nil, Nat.add_zero, Nat.add_assoc]
theorem mktop_eMessage {w : World} {x : GMessage} (q : Int) (r5 : Int) (hr5 : r5 = q + (cntL (x.Args.flatMap eWire) : Nat)) {v5 : Value} {f5 : List Nat} (h5 : Own w (.s x.Args.length (mkL (x.Args.flatMap eWire) q)) v5 f5) : OwnL w (topL (eMessage x) q) [.int .i64 x.Kind, .int .i64 x.Pos, .int .i64 x.Answer, .int .i64 x.Question, .string x.Name, v5, .int .i64 x.Value.Kind, .int .i64 x.Value.N, .int .i64 x.Count, .int .i64 x.Tag.Vat, .int .i64 x.Tag.Entity, .int .i64 x.Tag.Seq] (f5) := by
  have h : OwnL w (topL (eMessage x) q) [.int .i64 x.Kind, .int .i64 x.Pos, .int .i64 x.Answer, .int .i64 x.Question, .string x.Name, v5, .int .i64 x.Value.Kind, .int .i64 x.Value.N, .int .i64 x.Count, .int .i64 x.Tag.Vat, .int .i64 x.Tag.Entity, .int .i64 x.Tag.Seq] (f5 ++ ([])) := by
    rw [top_eMessage x q r5 hr5]
    exact OwnL_w.2 ⟨_, rfl, OwnL_w.2 ⟨_, rfl, OwnL_w.2 ⟨_, rfl, OwnL_w.2 ⟨_, rfl, OwnL_w.2 ⟨_, rfl, OwnL_cons.2 ⟨_, _, f5, _, rfl, rfl, h5, OwnL_w.2 ⟨_, rfl, OwnL_w.2 ⟨_, rfl, OwnL_w.2 ⟨_, rfl, OwnL_w.2 ⟨_, rfl, OwnL_w.2 ⟨_, rfl, OwnL_w.2 ⟨_, rfl, OwnL_nil.2 ⟨rfl, rfl⟩⟩⟩⟩⟩⟩⟩⟩⟩⟩⟩⟩⟩
  simpa only [List.append_nil, List.append_assoc] using h
theorem rdtop_eMessage {w : World} {x : GMessage} {us : List Value} (q : Int) (r5 : Int) (hr5 : r5 = q + (cntL (x.Args.flatMap eWire) : Nat)) (h : RdLW w (topL (eMessage x) q) us) : ∃ v5, us = [.int .i64 x.Kind, .int .i64 x.Pos, .int .i64 x.Answer, .int .i64 x.Question, .string x.Name, v5, .int .i64 x.Value.Kind, .int .i64 x.Value.N, .int .i64 x.Count, .int .i64 x.Tag.Vat, .int .i64 x.Tag.Entity, .int .i64 x.Tag.Seq] ∧ RdW w (.s x.Args.length (mkL (x.Args.flatMap eWire) q)) v5 := by
  rw [top_eMessage x q r5 hr5] at h
  have q0 := h
  clear h
  obtain ⟨us0, rfl, q1⟩ := RdLW_w.1 q0
  obtain ⟨us1, rfl, q2⟩ := RdLW_w.1 q1
  obtain ⟨us2, rfl, q3⟩ := RdLW_w.1 q2
  obtain ⟨us3, rfl, q4⟩ := RdLW_w.1 q3
  obtain ⟨us4, rfl, q5⟩ := RdLW_w.1 q4
  obtain ⟨u5, us5, rfl, h5, q6⟩ := RdLW_cons.1 q5
  obtain ⟨us6, rfl, q7⟩ := RdLW_w.1 q6
  obtain ⟨us7, rfl, q8⟩ := RdLW_w.1 q7
  obtain ⟨us8, rfl, q9⟩ := RdLW_w.1 q8
  obtain ⟨us9, rfl, q10⟩ := RdLW_w.1 q9
  obtain ⟨us10, rfl, q11⟩ := RdLW_w.1 q10
  obtain ⟨us11, rfl, q12⟩ := RdLW_w.1 q11
  obtain rfl := RdLW_nil.1 q12
  exact ⟨u5, rfl, h5⟩
end Go.Proofs.Ytklbpjnpmbidiaa
