/- The Go structs as typed Lean structures, and how each lies in memory; no program in sight. -/
import Derived.Test.YtmnpoajdibmocaaGreatBase
set_option linter.unusedSimpArgs false
set_option linter.unusedVariables false
namespace Go.Proofs.YtmnpoajdibmocaaGreat
open Go.RowKit
def eInt (x : Int) : List Lf := [.v (.int .i64 x)]
def eStr (x : ByteArray) : List Lf := [.v (.string x)]
def eByte (x : UInt8) : List Lf := [.v (.int .u8 (x.toNat : Int))]
def eBool (x : Bool) : List Lf := [.v (.bool x)]
structure GValue where
  Kind : Int
  N : Int
def zValue : GValue := ⟨0, 0⟩
def eValue (x : GValue) : List Lf := [.v (.int .i64 x.Kind), .v (.int .i64 x.N)]
structure GWire where
  Kind : Int
  N : Int
def zWire : GWire := ⟨0, 0⟩
def eWire (x : GWire) : List Lf := [.v (.int .i64 x.Kind), .v (.int .i64 x.N)]
structure GTag where
  Vat : Int
  Entity : Int
  Seq : Int
def zTag : GTag := ⟨0, 0, 0⟩
def eTag (x : GTag) : List Lf := [.v (.int .i64 x.Vat), .v (.int .i64 x.Entity), .v (.int .i64 x.Seq)]
structure GAsker where
  Peer : Int
  Question : Int
def zAsker : GAsker := ⟨0, 0⟩
def eAsker (x : GAsker) : List Lf := [.v (.int .i64 x.Peer), .v (.int .i64 x.Question)]
structure GExport where
  Pos : Int
  Entity : Int
  Count : Int
def zExport : GExport := ⟨0, 0, 0⟩
def eExport (x : GExport) : List Lf := [.v (.int .i64 x.Pos), .v (.int .i64 x.Entity), .v (.int .i64 x.Count)]
structure GQuestion where
  Id : Int
  Promise : Int
def zQuestion : GQuestion := ⟨0, 0⟩
def eQuestion (x : GQuestion) : List Lf := [.v (.int .i64 x.Id), .v (.int .i64 x.Promise)]
structure GSent where
  Target : Int
  Name : ByteArray
  Args : List GValue
  Result : Int
  Tag : GTag
def zSent : GSent := ⟨0, ⟨#[]⟩, [], 0, zTag⟩
def eSent (x : GSent) : List Lf := [.v (.int .i64 x.Target), .v (.string x.Name), .s x.Args.length (x.Args.flatMap eValue), .v (.int .i64 x.Result), .v (.int .i64 x.Tag.Vat), .v (.int .i64 x.Tag.Entity), .v (.int .i64 x.Tag.Seq)]
structure GEntity where
  Kind : Int
  Script : Int
  Slots : List GValue
  State : Int
  Value : GValue
  Queue : List GSent
  Askers : List GAsker
  Peer : Int
  Pos : Int
  Count : Int
  Sent : Int
def zEntity : GEntity := ⟨0, 0, [], 0, zValue, [], [], 0, 0, 0, 0⟩
def eEntity (x : GEntity) : List Lf := [.v (.int .i64 x.Kind), .v (.int .i64 x.Script), .s x.Slots.length (x.Slots.flatMap eValue), .v (.int .i64 x.State), .v (.int .i64 x.Value.Kind), .v (.int .i64 x.Value.N), .s x.Queue.length (x.Queue.flatMap eSent), .s x.Askers.length (x.Askers.flatMap eAsker), .v (.int .i64 x.Peer), .v (.int .i64 x.Pos), .v (.int .i64 x.Count), .v (.int .i64 x.Sent)]
structure GLink where
  Peer : Int
  Up : Bool
  Exports : List GExport
  Next : Int
  Questions : List GQuestion
  Asked : Int
  Answers : List GQuestion
def zLink : GLink := ⟨0, false, [], 0, [], 0, []⟩
def eLink (x : GLink) : List Lf := [.v (.int .i64 x.Peer), .v (.bool x.Up), .s x.Exports.length (x.Exports.flatMap eExport), .v (.int .i64 x.Next), .s x.Questions.length (x.Questions.flatMap eQuestion), .v (.int .i64 x.Asked), .s x.Answers.length (x.Answers.flatMap eQuestion)]
structure GMessage where
  Kind : Int
  Pos : Int
  Answer : Int
  Question : Int
  Name : ByteArray
  Args : List GWire
  Value : GWire
  Count : Int
  Tag : GTag
def zMessage : GMessage := ⟨0, 0, 0, 0, ⟨#[]⟩, [], zWire, 0, zTag⟩
def eMessage (x : GMessage) : List Lf := [.v (.int .i64 x.Kind), .v (.int .i64 x.Pos), .v (.int .i64 x.Answer), .v (.int .i64 x.Question), .v (.string x.Name), .s x.Args.length (x.Args.flatMap eWire), .v (.int .i64 x.Value.Kind), .v (.int .i64 x.Value.N), .v (.int .i64 x.Count), .v (.int .i64 x.Tag.Vat), .v (.int .i64 x.Tag.Entity), .v (.int .i64 x.Tag.Seq)]
structure GOutgoing where
  To : Int
  Message : GMessage
def zOutgoing : GOutgoing := ⟨0, zMessage⟩
def eOutgoing (x : GOutgoing) : List Lf := [.v (.int .i64 x.To), .v (.int .i64 x.Message.Kind), .v (.int .i64 x.Message.Pos), .v (.int .i64 x.Message.Answer), .v (.int .i64 x.Message.Question), .v (.string x.Message.Name), .s x.Message.Args.length (x.Message.Args.flatMap eWire), .v (.int .i64 x.Message.Value.Kind), .v (.int .i64 x.Message.Value.N), .v (.int .i64 x.Message.Count), .v (.int .i64 x.Message.Tag.Vat), .v (.int .i64 x.Message.Tag.Entity), .v (.int .i64 x.Message.Tag.Seq)]
structure GVat where
  Id : Int
  Entities : List GEntity
  Loop : List GSent
  Links : List GLink
  Out : List GOutgoing
def zVat : GVat := ⟨0, [], [], [], []⟩
def eVat (x : GVat) : List Lf := [.v (.int .i64 x.Id), .s x.Entities.length (x.Entities.flatMap eEntity), .s x.Loop.length (x.Loop.flatMap eSent), .s x.Links.length (x.Links.flatMap eLink), .s x.Out.length (x.Out.flatMap eOutgoing)]
theorem len_eInt (x : Int) : (eInt x).length = 1 := rfl
def vsInt (x : Int) : List Value := [.int .i64 x]
theorem vals_eInt (x : Int) : eInt x = (vsInt x).map Lf.v := rfl
theorem one_eInt (xs : List Int) : ∀ u, u ∈ xs.flatMap vsInt → u.oneCell' = true := by
  intro u hu
  obtain ⟨x, _, hx⟩ := List.mem_flatMap.1 hu
  simp only [vsInt, List.mem_cons, List.not_mem_nil, or_false] at hx
  subst hx; rfl
theorem lenv_eInt (xs : List Int) : (xs.flatMap vsInt).length = xs.length * 1 := by
  induction xs with
  | nil => simp
  | cons x xs ih => simp [ih, vsInt]
theorem rd_eInt {w : World} {x : Int} {us : List Value} (h : RdLW w (eInt x) us) : us = [.int .i64 x] := by
  unfold eInt at h
  have q0 := h
  clear h
  obtain ⟨us0, rfl, q1⟩ := RdLW_w.1 q0
  obtain rfl := RdLW_nil.1 q1
  exact rfl
theorem mkrd_eInt {w : World} {x : Int} : RdLW w (eInt x) [.int .i64 x] := by
  unfold eInt
  exact RdLW_w.2 ⟨_, rfl, RdLW_nil.2 rfl⟩
theorem own_eInt {w : World} {x : Int} {us : List Value} {fp : List Nat} (h : OwnL w (eInt x) us fp) : us = [.int .i64 x] ∧ fp = [] := by
  unfold eInt at h
  have q0 := h
  clear h
  obtain ⟨us0, rfl, q1⟩ := OwnL_w.1 q0
  obtain ⟨rfl, rfl⟩ := OwnL_nil.1 q1
  exact ⟨rfl, rfl⟩
theorem mkown_eInt {w : World} {x : Int} : OwnL w (eInt x) [.int .i64 x] ([]) := by
  have h : OwnL w (eInt x) [.int .i64 x] ([]) := by
    unfold eInt
    exact OwnL_w.2 ⟨_, rfl, OwnL_nil.2 ⟨rfl, rfl⟩⟩
  exact h
theorem row_eInt {w : World} {xs : List Int} {A : Option Addr} {c : Nat} (h : RdW w (.s xs.length (xs.flatMap eInt)) (.slice A xs.length c)) {i : Nat} {x : Int} (hx : xs[i]? = some x) :
    ∃ ad, A = some ad ∧ ad.block < w.heap.size ∧ w.cell? (ad.add i) = some (.int .i64 x) := by
  obtain ⟨ad, ys, rfl, hb, hr, hc⟩ := RdW.at_ len_eInt h hx
  obtain rfl := rd_eInt hr
  exact ⟨ad, rfl, hb, (by have h0 := hc 0 _ rfl; rwa [Nat.mul_one, Nat.add_zero] at h0)⟩
theorem slim_eInt (x : Int) : SlimL (eInt x) := SlimL_cons (Slim_v _) (SlimL_nil)
theorem siz_eInt (x : Int) : sizL (eInt x) = 0 := by
  simp only [eInt, sizL_cons, sizL_nil, siz_s, siz_int, siz_str, siz_bool]
theorem cnt_eInt (x : Int) : cntL (eInt x) = 1 := by
  simp only [eInt, cntL_cons, cntL_nil, cnt_s, cnt_v]
theorem cntf_eInt (xs : List Int) : cntL (xs.flatMap eInt) = xs.length * 1 := by
  induction xs with
  | nil => simp [cntL_nil]
  | cons x xs ih => rw [List.flatMap_cons, cntL_append, ih, cnt_eInt, List.length_cons]; omega
theorem mk_eInt (x : Int) (q : Int) (b0 : 0 ≤ q) (b1 : q + cntL (eInt x) ≤ 4611686018427387904) : mkL (eInt x) q = [.v (.int .i64 q)] := by
  have hc := cnt_eInt x
  simp only [eInt, mkL_cons, mkL_nil, mk_int, mk_str, mk_bool, mk_s, cnt_v, cnt_s, Int.natCast_one]
  rw [wrap_id (q) (by omega) (by omega)]
theorem rdm_eInt {w : World} {x : Int} {us : List Value} (q : Int) (b0 : 0 ≤ q) (b1 : q + cntL (eInt x) ≤ 4611686018427387904) (h : RdLW w (mkL (eInt x) q) us) : us = [.int .i64 q] := by
  rw [mk_eInt x q b0 b1] at h
  have q0 := h
  clear h
  obtain ⟨us0, rfl, q1⟩ := RdLW_w.1 q0
  obtain rfl := RdLW_nil.1 q1
  exact rfl
theorem mkownm_eInt {w : World} {x : Int} (q : Int) (b0 : 0 ≤ q) (b1 : q + cntL (eInt x) ≤ 4611686018427387904) : OwnL w (mkL (eInt x) q) [.int .i64 q] ([]) := by
  have h : OwnL w (mkL (eInt x) q) [.int .i64 q] ([]) := by
    rw [mk_eInt x q b0 b1]
    exact OwnL_w.2 ⟨_, rfl, OwnL_nil.2 ⟨rfl, rfl⟩⟩
  exact h
theorem len_eStr (x : ByteArray) : (eStr x).length = 1 := rfl
def vsStr (x : ByteArray) : List Value := [.string x]
theorem vals_eStr (x : ByteArray) : eStr x = (vsStr x).map Lf.v := rfl
theorem one_eStr (xs : List ByteArray) : ∀ u, u ∈ xs.flatMap vsStr → u.oneCell' = true := by
  intro u hu
  obtain ⟨x, _, hx⟩ := List.mem_flatMap.1 hu
  simp only [vsStr, List.mem_cons, List.not_mem_nil, or_false] at hx
  subst hx; rfl
theorem lenv_eStr (xs : List ByteArray) : (xs.flatMap vsStr).length = xs.length * 1 := by
  induction xs with
  | nil => simp
  | cons x xs ih => simp [ih, vsStr]
theorem rd_eStr {w : World} {x : ByteArray} {us : List Value} (h : RdLW w (eStr x) us) : us = [.string x] := by
  unfold eStr at h
  have q0 := h
  clear h
  obtain ⟨us0, rfl, q1⟩ := RdLW_w.1 q0
  obtain rfl := RdLW_nil.1 q1
  exact rfl
theorem mkrd_eStr {w : World} {x : ByteArray} : RdLW w (eStr x) [.string x] := by
  unfold eStr
  exact RdLW_w.2 ⟨_, rfl, RdLW_nil.2 rfl⟩
theorem own_eStr {w : World} {x : ByteArray} {us : List Value} {fp : List Nat} (h : OwnL w (eStr x) us fp) : us = [.string x] ∧ fp = [] := by
  unfold eStr at h
  have q0 := h
  clear h
  obtain ⟨us0, rfl, q1⟩ := OwnL_w.1 q0
  obtain ⟨rfl, rfl⟩ := OwnL_nil.1 q1
  exact ⟨rfl, rfl⟩
theorem mkown_eStr {w : World} {x : ByteArray} : OwnL w (eStr x) [.string x] ([]) := by
  have h : OwnL w (eStr x) [.string x] ([]) := by
    unfold eStr
    exact OwnL_w.2 ⟨_, rfl, OwnL_nil.2 ⟨rfl, rfl⟩⟩
  exact h
theorem row_eStr {w : World} {xs : List ByteArray} {A : Option Addr} {c : Nat} (h : RdW w (.s xs.length (xs.flatMap eStr)) (.slice A xs.length c)) {i : Nat} {x : ByteArray} (hx : xs[i]? = some x) :
    ∃ ad, A = some ad ∧ ad.block < w.heap.size ∧ w.cell? (ad.add i) = some (.string x) := by
  obtain ⟨ad, ys, rfl, hb, hr, hc⟩ := RdW.at_ len_eStr h hx
  obtain rfl := rd_eStr hr
  exact ⟨ad, rfl, hb, (by have h0 := hc 0 _ rfl; rwa [Nat.mul_one, Nat.add_zero] at h0)⟩
theorem slim_eStr (x : ByteArray) : SlimL (eStr x) := SlimL_cons (Slim_v _) (SlimL_nil)
theorem siz_eStr (x : ByteArray) : sizL (eStr x) = x.size := by
  simp only [eStr, sizL_cons, sizL_nil, siz_s, siz_int, siz_str, siz_bool]
  first | done | omega | rfl
theorem cnt_eStr (x : ByteArray) : cntL (eStr x) = 1 := by
  simp only [eStr, cntL_cons, cntL_nil, cnt_s, cnt_v]
theorem cntf_eStr (xs : List ByteArray) : cntL (xs.flatMap eStr) = xs.length * 1 := by
  induction xs with
  | nil => simp [cntL_nil]
  | cons x xs ih => rw [List.flatMap_cons, cntL_append, ih, cnt_eStr, List.length_cons]; omega
theorem mk_eStr (x : ByteArray) (q : Int) (b0 : 0 ≤ q) (b1 : q + cntL (eStr x) ≤ 4611686018427387904) : mkL (eStr x) q = [.v (.string (mkText q))] := by
  have hc := cnt_eStr x
  simp only [eStr, mkL_cons, mkL_nil, mk_int, mk_str, mk_bool, mk_s, cnt_v, cnt_s, Int.natCast_one]
theorem rdm_eStr {w : World} {x : ByteArray} {us : List Value} (q : Int) (b0 : 0 ≤ q) (b1 : q + cntL (eStr x) ≤ 4611686018427387904) (h : RdLW w (mkL (eStr x) q) us) : us = [.string (mkText q)] := by
  rw [mk_eStr x q b0 b1] at h
  have q0 := h
  clear h
  obtain ⟨us0, rfl, q1⟩ := RdLW_w.1 q0
  obtain rfl := RdLW_nil.1 q1
  exact rfl
theorem mkownm_eStr {w : World} {x : ByteArray} (q : Int) (b0 : 0 ≤ q) (b1 : q + cntL (eStr x) ≤ 4611686018427387904) : OwnL w (mkL (eStr x) q) [.string (mkText q)] ([]) := by
  have h : OwnL w (mkL (eStr x) q) [.string (mkText q)] ([]) := by
    rw [mk_eStr x q b0 b1]
    exact OwnL_w.2 ⟨_, rfl, OwnL_nil.2 ⟨rfl, rfl⟩⟩
  exact h
theorem len_eByte (x : UInt8) : (eByte x).length = 1 := rfl
def vsByte (x : UInt8) : List Value := [.int .u8 (x.toNat : Int)]
theorem vals_eByte (x : UInt8) : eByte x = (vsByte x).map Lf.v := rfl
theorem one_eByte (xs : List UInt8) : ∀ u, u ∈ xs.flatMap vsByte → u.oneCell' = true := by
  intro u hu
  obtain ⟨x, _, hx⟩ := List.mem_flatMap.1 hu
  simp only [vsByte, List.mem_cons, List.not_mem_nil, or_false] at hx
  subst hx; rfl
theorem lenv_eByte (xs : List UInt8) : (xs.flatMap vsByte).length = xs.length * 1 := by
  induction xs with
  | nil => simp
  | cons x xs ih => simp [ih, vsByte]
theorem rd_eByte {w : World} {x : UInt8} {us : List Value} (h : RdLW w (eByte x) us) : us = [.int .u8 (x.toNat : Int)] := by
  unfold eByte at h
  have q0 := h
  clear h
  obtain ⟨us0, rfl, q1⟩ := RdLW_w.1 q0
  obtain rfl := RdLW_nil.1 q1
  exact rfl
theorem mkrd_eByte {w : World} {x : UInt8} : RdLW w (eByte x) [.int .u8 (x.toNat : Int)] := by
  unfold eByte
  exact RdLW_w.2 ⟨_, rfl, RdLW_nil.2 rfl⟩
theorem own_eByte {w : World} {x : UInt8} {us : List Value} {fp : List Nat} (h : OwnL w (eByte x) us fp) : us = [.int .u8 (x.toNat : Int)] ∧ fp = [] := by
  unfold eByte at h
  have q0 := h
  clear h
  obtain ⟨us0, rfl, q1⟩ := OwnL_w.1 q0
  obtain ⟨rfl, rfl⟩ := OwnL_nil.1 q1
  exact ⟨rfl, rfl⟩
theorem mkown_eByte {w : World} {x : UInt8} : OwnL w (eByte x) [.int .u8 (x.toNat : Int)] ([]) := by
  have h : OwnL w (eByte x) [.int .u8 (x.toNat : Int)] ([]) := by
    unfold eByte
    exact OwnL_w.2 ⟨_, rfl, OwnL_nil.2 ⟨rfl, rfl⟩⟩
  exact h
theorem row_eByte {w : World} {xs : List UInt8} {A : Option Addr} {c : Nat} (h : RdW w (.s xs.length (xs.flatMap eByte)) (.slice A xs.length c)) {i : Nat} {x : UInt8} (hx : xs[i]? = some x) :
    ∃ ad, A = some ad ∧ ad.block < w.heap.size ∧ w.cell? (ad.add i) = some (.int .u8 (x.toNat : Int)) := by
  obtain ⟨ad, ys, rfl, hb, hr, hc⟩ := RdW.at_ len_eByte h hx
  obtain rfl := rd_eByte hr
  exact ⟨ad, rfl, hb, (by have h0 := hc 0 _ rfl; rwa [Nat.mul_one, Nat.add_zero] at h0)⟩
theorem slim_eByte (x : UInt8) : SlimL (eByte x) := SlimL_cons (Slim_v _) (SlimL_nil)
theorem siz_eByte (x : UInt8) : sizL (eByte x) = 0 := by
  simp only [eByte, sizL_cons, sizL_nil, siz_s, siz_int, siz_str, siz_bool]
theorem cnt_eByte (x : UInt8) : cntL (eByte x) = 1 := by
  simp only [eByte, cntL_cons, cntL_nil, cnt_s, cnt_v]
theorem cntf_eByte (xs : List UInt8) : cntL (xs.flatMap eByte) = xs.length * 1 := by
  induction xs with
  | nil => simp [cntL_nil]
  | cons x xs ih => rw [List.flatMap_cons, cntL_append, ih, cnt_eByte, List.length_cons]; omega
theorem mk_eByte (x : UInt8) (q : Int) (b0 : 0 ≤ q) (b1 : q + cntL (eByte x) ≤ 4611686018427387904) : mkL (eByte x) q = [.v (.int .u8 (IntKind.u8.wrap q))] := by
  have hc := cnt_eByte x
  simp only [eByte, mkL_cons, mkL_nil, mk_int, mk_str, mk_bool, mk_s, cnt_v, cnt_s, Int.natCast_one]
theorem rdm_eByte {w : World} {x : UInt8} {us : List Value} (q : Int) (b0 : 0 ≤ q) (b1 : q + cntL (eByte x) ≤ 4611686018427387904) (h : RdLW w (mkL (eByte x) q) us) : us = [.int .u8 (IntKind.u8.wrap q)] := by
  rw [mk_eByte x q b0 b1] at h
  have q0 := h
  clear h
  obtain ⟨us0, rfl, q1⟩ := RdLW_w.1 q0
  obtain rfl := RdLW_nil.1 q1
  exact rfl
theorem mkownm_eByte {w : World} {x : UInt8} (q : Int) (b0 : 0 ≤ q) (b1 : q + cntL (eByte x) ≤ 4611686018427387904) : OwnL w (mkL (eByte x) q) [.int .u8 (IntKind.u8.wrap q)] ([]) := by
  have h : OwnL w (mkL (eByte x) q) [.int .u8 (IntKind.u8.wrap q)] ([]) := by
    rw [mk_eByte x q b0 b1]
    exact OwnL_w.2 ⟨_, rfl, OwnL_nil.2 ⟨rfl, rfl⟩⟩
  exact h
theorem len_eBool (x : Bool) : (eBool x).length = 1 := rfl
def vsBool (x : Bool) : List Value := [.bool x]
theorem vals_eBool (x : Bool) : eBool x = (vsBool x).map Lf.v := rfl
theorem one_eBool (xs : List Bool) : ∀ u, u ∈ xs.flatMap vsBool → u.oneCell' = true := by
  intro u hu
  obtain ⟨x, _, hx⟩ := List.mem_flatMap.1 hu
  simp only [vsBool, List.mem_cons, List.not_mem_nil, or_false] at hx
  subst hx; rfl
theorem lenv_eBool (xs : List Bool) : (xs.flatMap vsBool).length = xs.length * 1 := by
  induction xs with
  | nil => simp
  | cons x xs ih => simp [ih, vsBool]
theorem rd_eBool {w : World} {x : Bool} {us : List Value} (h : RdLW w (eBool x) us) : us = [.bool x] := by
  unfold eBool at h
  have q0 := h
  clear h
  obtain ⟨us0, rfl, q1⟩ := RdLW_w.1 q0
  obtain rfl := RdLW_nil.1 q1
  exact rfl
theorem mkrd_eBool {w : World} {x : Bool} : RdLW w (eBool x) [.bool x] := by
  unfold eBool
  exact RdLW_w.2 ⟨_, rfl, RdLW_nil.2 rfl⟩
theorem own_eBool {w : World} {x : Bool} {us : List Value} {fp : List Nat} (h : OwnL w (eBool x) us fp) : us = [.bool x] ∧ fp = [] := by
  unfold eBool at h
  have q0 := h
  clear h
  obtain ⟨us0, rfl, q1⟩ := OwnL_w.1 q0
  obtain ⟨rfl, rfl⟩ := OwnL_nil.1 q1
  exact ⟨rfl, rfl⟩
theorem mkown_eBool {w : World} {x : Bool} : OwnL w (eBool x) [.bool x] ([]) := by
  have h : OwnL w (eBool x) [.bool x] ([]) := by
    unfold eBool
    exact OwnL_w.2 ⟨_, rfl, OwnL_nil.2 ⟨rfl, rfl⟩⟩
  exact h
theorem row_eBool {w : World} {xs : List Bool} {A : Option Addr} {c : Nat} (h : RdW w (.s xs.length (xs.flatMap eBool)) (.slice A xs.length c)) {i : Nat} {x : Bool} (hx : xs[i]? = some x) :
    ∃ ad, A = some ad ∧ ad.block < w.heap.size ∧ w.cell? (ad.add i) = some (.bool x) := by
  obtain ⟨ad, ys, rfl, hb, hr, hc⟩ := RdW.at_ len_eBool h hx
  obtain rfl := rd_eBool hr
  exact ⟨ad, rfl, hb, (by have h0 := hc 0 _ rfl; rwa [Nat.mul_one, Nat.add_zero] at h0)⟩
theorem slim_eBool (x : Bool) : SlimL (eBool x) := SlimL_cons (Slim_v _) (SlimL_nil)
theorem siz_eBool (x : Bool) : sizL (eBool x) = 0 := by
  simp only [eBool, sizL_cons, sizL_nil, siz_s, siz_int, siz_str, siz_bool]
theorem cnt_eBool (x : Bool) : cntL (eBool x) = 1 := by
  simp only [eBool, cntL_cons, cntL_nil, cnt_s, cnt_v]
theorem cntf_eBool (xs : List Bool) : cntL (xs.flatMap eBool) = xs.length * 1 := by
  induction xs with
  | nil => simp [cntL_nil]
  | cons x xs ih => rw [List.flatMap_cons, cntL_append, ih, cnt_eBool, List.length_cons]; omega
theorem mk_eBool (x : Bool) (q : Int) (b0 : 0 ≤ q) (b1 : q + cntL (eBool x) ≤ 4611686018427387904) : mkL (eBool x) q = [.v (.bool (decide (Int.tmod q 3 = 0)))] := by
  have hc := cnt_eBool x
  simp only [eBool, mkL_cons, mkL_nil, mk_int, mk_str, mk_bool, mk_s, cnt_v, cnt_s, Int.natCast_one]
theorem rdm_eBool {w : World} {x : Bool} {us : List Value} (q : Int) (b0 : 0 ≤ q) (b1 : q + cntL (eBool x) ≤ 4611686018427387904) (h : RdLW w (mkL (eBool x) q) us) : us = [.bool (decide (Int.tmod q 3 = 0))] := by
  rw [mk_eBool x q b0 b1] at h
  have q0 := h
  clear h
  obtain ⟨us0, rfl, q1⟩ := RdLW_w.1 q0
  obtain rfl := RdLW_nil.1 q1
  exact rfl
theorem mkownm_eBool {w : World} {x : Bool} (q : Int) (b0 : 0 ≤ q) (b1 : q + cntL (eBool x) ≤ 4611686018427387904) : OwnL w (mkL (eBool x) q) [.bool (decide (Int.tmod q 3 = 0))] ([]) := by
  have h : OwnL w (mkL (eBool x) q) [.bool (decide (Int.tmod q 3 = 0))] ([]) := by
    rw [mk_eBool x q b0 b1]
    exact OwnL_w.2 ⟨_, rfl, OwnL_nil.2 ⟨rfl, rfl⟩⟩
  exact h
theorem len_eValue (x : GValue) : (eValue x).length = 2 := rfl
def eqbValue (x y : GValue) : Bool := (x.Kind == y.Kind) && ((x.N == y.N))
theorem eqbValue_refl (x : GValue) : eqbValue x x = true := by simp [eqbValue]
theorem eqbValue_iff (x y : GValue) : eqbValue x y = true ↔ x = y := by
  refine ⟨fun h => ?_, fun h => h ▸ eqbValue_refl x⟩
  simp only [eqbValue, Bool.and_eq_true, beq_iff_eq] at h
  obtain ⟨h0, h1⟩ := h
  cases x; cases y; simp_all
def vsValue (x : GValue) : List Value := [.int .i64 x.Kind, .int .i64 x.N]
theorem vals_eValue (x : GValue) : eValue x = (vsValue x).map Lf.v := rfl
theorem one_eValue (xs : List GValue) : ∀ u, u ∈ xs.flatMap vsValue → u.oneCell' = true := by
  intro u hu
  obtain ⟨x, _, hx⟩ := List.mem_flatMap.1 hu
  simp only [vsValue, List.mem_cons, List.not_mem_nil, or_false] at hx
  rcases hx with rfl | rfl <;> rfl
theorem lenv_eValue (xs : List GValue) : (xs.flatMap vsValue).length = xs.length * 2 := by
  induction xs with
  | nil => simp
  | cons x xs ih => simp [ih, vsValue, Nat.succ_mul] <;> omega
theorem rd_eValue {w : World} {x : GValue} {us : List Value} (h : RdLW w (eValue x) us) : us = [.int .i64 x.Kind, .int .i64 x.N] := by
  unfold eValue at h
  have q0 := h
  clear h
  obtain ⟨us0, rfl, q1⟩ := RdLW_w.1 q0
  obtain ⟨us1, rfl, q2⟩ := RdLW_w.1 q1
  obtain rfl := RdLW_nil.1 q2
  exact rfl
theorem mkrd_eValue {w : World} {x : GValue} : RdLW w (eValue x) [.int .i64 x.Kind, .int .i64 x.N] := by
  unfold eValue
  exact RdLW_w.2 ⟨_, rfl, RdLW_w.2 ⟨_, rfl, RdLW_nil.2 rfl⟩⟩
theorem own_eValue {w : World} {x : GValue} {us : List Value} {fp : List Nat} (h : OwnL w (eValue x) us fp) : us = [.int .i64 x.Kind, .int .i64 x.N] ∧ fp = [] := by
  unfold eValue at h
  have q0 := h
  clear h
  obtain ⟨us0, rfl, q1⟩ := OwnL_w.1 q0
  obtain ⟨us1, rfl, q2⟩ := OwnL_w.1 q1
  obtain ⟨rfl, rfl⟩ := OwnL_nil.1 q2
  exact ⟨rfl, rfl⟩
theorem mkown_eValue {w : World} {x : GValue} : OwnL w (eValue x) [.int .i64 x.Kind, .int .i64 x.N] ([]) := by
  have h : OwnL w (eValue x) [.int .i64 x.Kind, .int .i64 x.N] ([]) := by
    unfold eValue
    exact OwnL_w.2 ⟨_, rfl, OwnL_w.2 ⟨_, rfl, OwnL_nil.2 ⟨rfl, rfl⟩⟩⟩
  exact h
theorem row_eValue {w : World} {xs : List GValue} {A : Option Addr} {c : Nat} (h : RdW w (.s xs.length (xs.flatMap eValue)) (.slice A xs.length c)) {i : Nat} {x : GValue} (hx : xs[i]? = some x) :
    ∃ ad, A = some ad ∧ ad.block < w.heap.size ∧ w.cell? (ad.add (i * 2)) = some (.int .i64 x.Kind) ∧ w.cell? ⟨(ad.add (i * 2)).block, (ad.add (i * 2)).off + 1, none⟩ = some (.int .i64 x.N) := by
  obtain ⟨ad, ys, rfl, hb, hr, hc⟩ := RdW.at_ len_eValue h hx
  obtain rfl := rd_eValue hr
  exact ⟨ad, rfl, hb, hc 0 _ rfl, (by rw [← add_field _ _ 1 (by omega)]; exact hc 1 _ rfl)⟩
theorem slim_eValue (x : GValue) : SlimL (eValue x) := SlimL_cons (Slim_v _) (SlimL_cons (Slim_v _) (SlimL_nil))
theorem siz_eValue (x : GValue) : sizL (eValue x) = 0 := by
  simp only [eValue, sizL_cons, sizL_nil, siz_s, siz_int, siz_str, siz_bool]
  first | done | omega | rfl
theorem cnt_eValue (x : GValue) : cntL (eValue x) = 1 + 1 := by
  simp only [eValue, cntL_cons, cntL_nil, cnt_s, cnt_v]
  first | done | omega
theorem cntf_eValue (xs : List GValue) : cntL (xs.flatMap eValue) = xs.length * 2 := by
  induction xs with
  | nil => simp [cntL_nil]
  | cons x xs ih => rw [List.flatMap_cons, cntL_append, ih, cnt_eValue, List.length_cons]; omega
theorem mk_eValue (x : GValue) (q : Int) (b0 : 0 ≤ q) (b1 : q + cntL (eValue x) ≤ 4611686018427387904) : mkL (eValue x) q = [.v (.int .i64 q), .v (.int .i64 (q + 1))] := by
  have hc := cnt_eValue x
  simp only [eValue, mkL_cons, mkL_nil, mk_int, mk_str, mk_bool, mk_s, cnt_v, cnt_s, Int.natCast_one]
  rw [wrap_id (q) (by omega) (by omega)]
  rw [wrap_id (q + 1) (by omega) (by omega)]
theorem rdm_eValue {w : World} {x : GValue} {us : List Value} (q : Int) (b0 : 0 ≤ q) (b1 : q + cntL (eValue x) ≤ 4611686018427387904) (h : RdLW w (mkL (eValue x) q) us) : us = [.int .i64 q, .int .i64 (q + 1)] := by
  rw [mk_eValue x q b0 b1] at h
  have q0 := h
  clear h
  obtain ⟨us0, rfl, q1⟩ := RdLW_w.1 q0
  obtain ⟨us1, rfl, q2⟩ := RdLW_w.1 q1
  obtain rfl := RdLW_nil.1 q2
  exact rfl
theorem mkownm_eValue {w : World} {x : GValue} (q : Int) (b0 : 0 ≤ q) (b1 : q + cntL (eValue x) ≤ 4611686018427387904) : OwnL w (mkL (eValue x) q) [.int .i64 q, .int .i64 (q + 1)] ([]) := by
  have h : OwnL w (mkL (eValue x) q) [.int .i64 q, .int .i64 (q + 1)] ([]) := by
    rw [mk_eValue x q b0 b1]
    exact OwnL_w.2 ⟨_, rfl, OwnL_w.2 ⟨_, rfl, OwnL_nil.2 ⟨rfl, rfl⟩⟩⟩
  exact h
theorem len_eWire (x : GWire) : (eWire x).length = 2 := rfl
def eqbWire (x y : GWire) : Bool := (x.Kind == y.Kind) && ((x.N == y.N))
theorem eqbWire_refl (x : GWire) : eqbWire x x = true := by simp [eqbWire]
theorem eqbWire_iff (x y : GWire) : eqbWire x y = true ↔ x = y := by
  refine ⟨fun h => ?_, fun h => h ▸ eqbWire_refl x⟩
  simp only [eqbWire, Bool.and_eq_true, beq_iff_eq] at h
  obtain ⟨h0, h1⟩ := h
  cases x; cases y; simp_all
def vsWire (x : GWire) : List Value := [.int .i64 x.Kind, .int .i64 x.N]
theorem vals_eWire (x : GWire) : eWire x = (vsWire x).map Lf.v := rfl
theorem one_eWire (xs : List GWire) : ∀ u, u ∈ xs.flatMap vsWire → u.oneCell' = true := by
  intro u hu
  obtain ⟨x, _, hx⟩ := List.mem_flatMap.1 hu
  simp only [vsWire, List.mem_cons, List.not_mem_nil, or_false] at hx
  rcases hx with rfl | rfl <;> rfl
theorem lenv_eWire (xs : List GWire) : (xs.flatMap vsWire).length = xs.length * 2 := by
  induction xs with
  | nil => simp
  | cons x xs ih => simp [ih, vsWire, Nat.succ_mul] <;> omega
theorem rd_eWire {w : World} {x : GWire} {us : List Value} (h : RdLW w (eWire x) us) : us = [.int .i64 x.Kind, .int .i64 x.N] := by
  unfold eWire at h
  have q0 := h
  clear h
  obtain ⟨us0, rfl, q1⟩ := RdLW_w.1 q0
  obtain ⟨us1, rfl, q2⟩ := RdLW_w.1 q1
  obtain rfl := RdLW_nil.1 q2
  exact rfl
theorem mkrd_eWire {w : World} {x : GWire} : RdLW w (eWire x) [.int .i64 x.Kind, .int .i64 x.N] := by
  unfold eWire
  exact RdLW_w.2 ⟨_, rfl, RdLW_w.2 ⟨_, rfl, RdLW_nil.2 rfl⟩⟩
theorem own_eWire {w : World} {x : GWire} {us : List Value} {fp : List Nat} (h : OwnL w (eWire x) us fp) : us = [.int .i64 x.Kind, .int .i64 x.N] ∧ fp = [] := by
  unfold eWire at h
  have q0 := h
  clear h
  obtain ⟨us0, rfl, q1⟩ := OwnL_w.1 q0
  obtain ⟨us1, rfl, q2⟩ := OwnL_w.1 q1
  obtain ⟨rfl, rfl⟩ := OwnL_nil.1 q2
  exact ⟨rfl, rfl⟩
theorem mkown_eWire {w : World} {x : GWire} : OwnL w (eWire x) [.int .i64 x.Kind, .int .i64 x.N] ([]) := by
  have h : OwnL w (eWire x) [.int .i64 x.Kind, .int .i64 x.N] ([]) := by
    unfold eWire
    exact OwnL_w.2 ⟨_, rfl, OwnL_w.2 ⟨_, rfl, OwnL_nil.2 ⟨rfl, rfl⟩⟩⟩
  exact h
theorem row_eWire {w : World} {xs : List GWire} {A : Option Addr} {c : Nat} (h : RdW w (.s xs.length (xs.flatMap eWire)) (.slice A xs.length c)) {i : Nat} {x : GWire} (hx : xs[i]? = some x) :
    ∃ ad, A = some ad ∧ ad.block < w.heap.size ∧ w.cell? (ad.add (i * 2)) = some (.int .i64 x.Kind) ∧ w.cell? ⟨(ad.add (i * 2)).block, (ad.add (i * 2)).off + 1, none⟩ = some (.int .i64 x.N) := by
  obtain ⟨ad, ys, rfl, hb, hr, hc⟩ := RdW.at_ len_eWire h hx
  obtain rfl := rd_eWire hr
  exact ⟨ad, rfl, hb, hc 0 _ rfl, (by rw [← add_field _ _ 1 (by omega)]; exact hc 1 _ rfl)⟩
theorem slim_eWire (x : GWire) : SlimL (eWire x) := SlimL_cons (Slim_v _) (SlimL_cons (Slim_v _) (SlimL_nil))
theorem siz_eWire (x : GWire) : sizL (eWire x) = 0 := by
  simp only [eWire, sizL_cons, sizL_nil, siz_s, siz_int, siz_str, siz_bool]
  first | done | omega | rfl
theorem cnt_eWire (x : GWire) : cntL (eWire x) = 1 + 1 := by
  simp only [eWire, cntL_cons, cntL_nil, cnt_s, cnt_v]
  first | done | omega
theorem cntf_eWire (xs : List GWire) : cntL (xs.flatMap eWire) = xs.length * 2 := by
  induction xs with
  | nil => simp [cntL_nil]
  | cons x xs ih => rw [List.flatMap_cons, cntL_append, ih, cnt_eWire, List.length_cons]; omega
theorem mk_eWire (x : GWire) (q : Int) (b0 : 0 ≤ q) (b1 : q + cntL (eWire x) ≤ 4611686018427387904) : mkL (eWire x) q = [.v (.int .i64 q), .v (.int .i64 (q + 1))] := by
  have hc := cnt_eWire x
  simp only [eWire, mkL_cons, mkL_nil, mk_int, mk_str, mk_bool, mk_s, cnt_v, cnt_s, Int.natCast_one]
  rw [wrap_id (q) (by omega) (by omega)]
  rw [wrap_id (q + 1) (by omega) (by omega)]
theorem rdm_eWire {w : World} {x : GWire} {us : List Value} (q : Int) (b0 : 0 ≤ q) (b1 : q + cntL (eWire x) ≤ 4611686018427387904) (h : RdLW w (mkL (eWire x) q) us) : us = [.int .i64 q, .int .i64 (q + 1)] := by
  rw [mk_eWire x q b0 b1] at h
  have q0 := h
  clear h
  obtain ⟨us0, rfl, q1⟩ := RdLW_w.1 q0
  obtain ⟨us1, rfl, q2⟩ := RdLW_w.1 q1
  obtain rfl := RdLW_nil.1 q2
  exact rfl
theorem mkownm_eWire {w : World} {x : GWire} (q : Int) (b0 : 0 ≤ q) (b1 : q + cntL (eWire x) ≤ 4611686018427387904) : OwnL w (mkL (eWire x) q) [.int .i64 q, .int .i64 (q + 1)] ([]) := by
  have h : OwnL w (mkL (eWire x) q) [.int .i64 q, .int .i64 (q + 1)] ([]) := by
    rw [mk_eWire x q b0 b1]
    exact OwnL_w.2 ⟨_, rfl, OwnL_w.2 ⟨_, rfl, OwnL_nil.2 ⟨rfl, rfl⟩⟩⟩
  exact h
theorem len_eTag (x : GTag) : (eTag x).length = 3 := rfl
def eqbTag (x y : GTag) : Bool := (x.Vat == y.Vat) && ((x.Entity == y.Entity) && ((x.Seq == y.Seq)))
theorem eqbTag_refl (x : GTag) : eqbTag x x = true := by simp [eqbTag]
theorem eqbTag_iff (x y : GTag) : eqbTag x y = true ↔ x = y := by
  refine ⟨fun h => ?_, fun h => h ▸ eqbTag_refl x⟩
  simp only [eqbTag, Bool.and_eq_true, beq_iff_eq] at h
  obtain ⟨h0, h1, h2⟩ := h
  cases x; cases y; simp_all
def vsTag (x : GTag) : List Value := [.int .i64 x.Vat, .int .i64 x.Entity, .int .i64 x.Seq]
theorem vals_eTag (x : GTag) : eTag x = (vsTag x).map Lf.v := rfl
theorem one_eTag (xs : List GTag) : ∀ u, u ∈ xs.flatMap vsTag → u.oneCell' = true := by
  intro u hu
  obtain ⟨x, _, hx⟩ := List.mem_flatMap.1 hu
  simp only [vsTag, List.mem_cons, List.not_mem_nil, or_false] at hx
  rcases hx with rfl | rfl | rfl <;> rfl
theorem lenv_eTag (xs : List GTag) : (xs.flatMap vsTag).length = xs.length * 3 := by
  induction xs with
  | nil => simp
  | cons x xs ih => simp [ih, vsTag, Nat.succ_mul] <;> omega
theorem rd_eTag {w : World} {x : GTag} {us : List Value} (h : RdLW w (eTag x) us) : us = [.int .i64 x.Vat, .int .i64 x.Entity, .int .i64 x.Seq] := by
  unfold eTag at h
  have q0 := h
  clear h
  obtain ⟨us0, rfl, q1⟩ := RdLW_w.1 q0
  obtain ⟨us1, rfl, q2⟩ := RdLW_w.1 q1
  obtain ⟨us2, rfl, q3⟩ := RdLW_w.1 q2
  obtain rfl := RdLW_nil.1 q3
  exact rfl
theorem mkrd_eTag {w : World} {x : GTag} : RdLW w (eTag x) [.int .i64 x.Vat, .int .i64 x.Entity, .int .i64 x.Seq] := by
  unfold eTag
  exact RdLW_w.2 ⟨_, rfl, RdLW_w.2 ⟨_, rfl, RdLW_w.2 ⟨_, rfl, RdLW_nil.2 rfl⟩⟩⟩
theorem own_eTag {w : World} {x : GTag} {us : List Value} {fp : List Nat} (h : OwnL w (eTag x) us fp) : us = [.int .i64 x.Vat, .int .i64 x.Entity, .int .i64 x.Seq] ∧ fp = [] := by
  unfold eTag at h
  have q0 := h
  clear h
  obtain ⟨us0, rfl, q1⟩ := OwnL_w.1 q0
  obtain ⟨us1, rfl, q2⟩ := OwnL_w.1 q1
  obtain ⟨us2, rfl, q3⟩ := OwnL_w.1 q2
  obtain ⟨rfl, rfl⟩ := OwnL_nil.1 q3
  exact ⟨rfl, rfl⟩
theorem mkown_eTag {w : World} {x : GTag} : OwnL w (eTag x) [.int .i64 x.Vat, .int .i64 x.Entity, .int .i64 x.Seq] ([]) := by
  have h : OwnL w (eTag x) [.int .i64 x.Vat, .int .i64 x.Entity, .int .i64 x.Seq] ([]) := by
    unfold eTag
    exact OwnL_w.2 ⟨_, rfl, OwnL_w.2 ⟨_, rfl, OwnL_w.2 ⟨_, rfl, OwnL_nil.2 ⟨rfl, rfl⟩⟩⟩⟩
  exact h
theorem row_eTag {w : World} {xs : List GTag} {A : Option Addr} {c : Nat} (h : RdW w (.s xs.length (xs.flatMap eTag)) (.slice A xs.length c)) {i : Nat} {x : GTag} (hx : xs[i]? = some x) :
    ∃ ad, A = some ad ∧ ad.block < w.heap.size ∧ w.cell? (ad.add (i * 3)) = some (.int .i64 x.Vat) ∧ w.cell? ⟨(ad.add (i * 3)).block, (ad.add (i * 3)).off + 1, none⟩ = some (.int .i64 x.Entity) ∧ w.cell? ⟨(ad.add (i * 3)).block, (ad.add (i * 3)).off + 2, none⟩ = some (.int .i64 x.Seq) := by
  obtain ⟨ad, ys, rfl, hb, hr, hc⟩ := RdW.at_ len_eTag h hx
  obtain rfl := rd_eTag hr
  exact ⟨ad, rfl, hb, hc 0 _ rfl, (by rw [← add_field _ _ 1 (by omega)]; exact hc 1 _ rfl), (by rw [← add_field _ _ 2 (by omega)]; exact hc 2 _ rfl)⟩
theorem slim_eTag (x : GTag) : SlimL (eTag x) := SlimL_cons (Slim_v _) (SlimL_cons (Slim_v _) (SlimL_cons (Slim_v _) (SlimL_nil)))
theorem siz_eTag (x : GTag) : sizL (eTag x) = 0 := by
  simp only [eTag, sizL_cons, sizL_nil, siz_s, siz_int, siz_str, siz_bool]
  first | done | omega | rfl
theorem cnt_eTag (x : GTag) : cntL (eTag x) = 1 + 1 + 1 := by
  simp only [eTag, cntL_cons, cntL_nil, cnt_s, cnt_v]
  first | done | omega
theorem cntf_eTag (xs : List GTag) : cntL (xs.flatMap eTag) = xs.length * 3 := by
  induction xs with
  | nil => simp [cntL_nil]
  | cons x xs ih => rw [List.flatMap_cons, cntL_append, ih, cnt_eTag, List.length_cons]; omega
theorem mk_eTag (x : GTag) (q : Int) (b0 : 0 ≤ q) (b1 : q + cntL (eTag x) ≤ 4611686018427387904) : mkL (eTag x) q = [.v (.int .i64 q), .v (.int .i64 (q + 1)), .v (.int .i64 (q + 1 + 1))] := by
  have hc := cnt_eTag x
  simp only [eTag, mkL_cons, mkL_nil, mk_int, mk_str, mk_bool, mk_s, cnt_v, cnt_s, Int.natCast_one]
  rw [wrap_id (q) (by omega) (by omega)]
  rw [wrap_id (q + 1) (by omega) (by omega)]
  rw [wrap_id (q + 1 + 1) (by omega) (by omega)]
theorem rdm_eTag {w : World} {x : GTag} {us : List Value} (q : Int) (b0 : 0 ≤ q) (b1 : q + cntL (eTag x) ≤ 4611686018427387904) (h : RdLW w (mkL (eTag x) q) us) : us = [.int .i64 q, .int .i64 (q + 1), .int .i64 (q + 1 + 1)] := by
  rw [mk_eTag x q b0 b1] at h
  have q0 := h
  clear h
  obtain ⟨us0, rfl, q1⟩ := RdLW_w.1 q0
  obtain ⟨us1, rfl, q2⟩ := RdLW_w.1 q1
  obtain ⟨us2, rfl, q3⟩ := RdLW_w.1 q2
  obtain rfl := RdLW_nil.1 q3
  exact rfl
theorem mkownm_eTag {w : World} {x : GTag} (q : Int) (b0 : 0 ≤ q) (b1 : q + cntL (eTag x) ≤ 4611686018427387904) : OwnL w (mkL (eTag x) q) [.int .i64 q, .int .i64 (q + 1), .int .i64 (q + 1 + 1)] ([]) := by
  have h : OwnL w (mkL (eTag x) q) [.int .i64 q, .int .i64 (q + 1), .int .i64 (q + 1 + 1)] ([]) := by
    rw [mk_eTag x q b0 b1]
    exact OwnL_w.2 ⟨_, rfl, OwnL_w.2 ⟨_, rfl, OwnL_w.2 ⟨_, rfl, OwnL_nil.2 ⟨rfl, rfl⟩⟩⟩⟩
  exact h
theorem len_eAsker (x : GAsker) : (eAsker x).length = 2 := rfl
def eqbAsker (x y : GAsker) : Bool := (x.Peer == y.Peer) && ((x.Question == y.Question))
theorem eqbAsker_refl (x : GAsker) : eqbAsker x x = true := by simp [eqbAsker]
theorem eqbAsker_iff (x y : GAsker) : eqbAsker x y = true ↔ x = y := by
  refine ⟨fun h => ?_, fun h => h ▸ eqbAsker_refl x⟩
  simp only [eqbAsker, Bool.and_eq_true, beq_iff_eq] at h
  obtain ⟨h0, h1⟩ := h
  cases x; cases y; simp_all
def vsAsker (x : GAsker) : List Value := [.int .i64 x.Peer, .int .i64 x.Question]
theorem vals_eAsker (x : GAsker) : eAsker x = (vsAsker x).map Lf.v := rfl
theorem one_eAsker (xs : List GAsker) : ∀ u, u ∈ xs.flatMap vsAsker → u.oneCell' = true := by
  intro u hu
  obtain ⟨x, _, hx⟩ := List.mem_flatMap.1 hu
  simp only [vsAsker, List.mem_cons, List.not_mem_nil, or_false] at hx
  rcases hx with rfl | rfl <;> rfl
theorem lenv_eAsker (xs : List GAsker) : (xs.flatMap vsAsker).length = xs.length * 2 := by
  induction xs with
  | nil => simp
  | cons x xs ih => simp [ih, vsAsker, Nat.succ_mul] <;> omega
theorem rd_eAsker {w : World} {x : GAsker} {us : List Value} (h : RdLW w (eAsker x) us) : us = [.int .i64 x.Peer, .int .i64 x.Question] := by
  unfold eAsker at h
  have q0 := h
  clear h
  obtain ⟨us0, rfl, q1⟩ := RdLW_w.1 q0
  obtain ⟨us1, rfl, q2⟩ := RdLW_w.1 q1
  obtain rfl := RdLW_nil.1 q2
  exact rfl
theorem mkrd_eAsker {w : World} {x : GAsker} : RdLW w (eAsker x) [.int .i64 x.Peer, .int .i64 x.Question] := by
  unfold eAsker
  exact RdLW_w.2 ⟨_, rfl, RdLW_w.2 ⟨_, rfl, RdLW_nil.2 rfl⟩⟩
theorem own_eAsker {w : World} {x : GAsker} {us : List Value} {fp : List Nat} (h : OwnL w (eAsker x) us fp) : us = [.int .i64 x.Peer, .int .i64 x.Question] ∧ fp = [] := by
  unfold eAsker at h
  have q0 := h
  clear h
  obtain ⟨us0, rfl, q1⟩ := OwnL_w.1 q0
  obtain ⟨us1, rfl, q2⟩ := OwnL_w.1 q1
  obtain ⟨rfl, rfl⟩ := OwnL_nil.1 q2
  exact ⟨rfl, rfl⟩
theorem mkown_eAsker {w : World} {x : GAsker} : OwnL w (eAsker x) [.int .i64 x.Peer, .int .i64 x.Question] ([]) := by
  have h : OwnL w (eAsker x) [.int .i64 x.Peer, .int .i64 x.Question] ([]) := by
    unfold eAsker
    exact OwnL_w.2 ⟨_, rfl, OwnL_w.2 ⟨_, rfl, OwnL_nil.2 ⟨rfl, rfl⟩⟩⟩
  exact h
theorem row_eAsker {w : World} {xs : List GAsker} {A : Option Addr} {c : Nat} (h : RdW w (.s xs.length (xs.flatMap eAsker)) (.slice A xs.length c)) {i : Nat} {x : GAsker} (hx : xs[i]? = some x) :
    ∃ ad, A = some ad ∧ ad.block < w.heap.size ∧ w.cell? (ad.add (i * 2)) = some (.int .i64 x.Peer) ∧ w.cell? ⟨(ad.add (i * 2)).block, (ad.add (i * 2)).off + 1, none⟩ = some (.int .i64 x.Question) := by
  obtain ⟨ad, ys, rfl, hb, hr, hc⟩ := RdW.at_ len_eAsker h hx
  obtain rfl := rd_eAsker hr
  exact ⟨ad, rfl, hb, hc 0 _ rfl, (by rw [← add_field _ _ 1 (by omega)]; exact hc 1 _ rfl)⟩
theorem slim_eAsker (x : GAsker) : SlimL (eAsker x) := SlimL_cons (Slim_v _) (SlimL_cons (Slim_v _) (SlimL_nil))
theorem siz_eAsker (x : GAsker) : sizL (eAsker x) = 0 := by
  simp only [eAsker, sizL_cons, sizL_nil, siz_s, siz_int, siz_str, siz_bool]
  first | done | omega | rfl
theorem cnt_eAsker (x : GAsker) : cntL (eAsker x) = 1 + 1 := by
  simp only [eAsker, cntL_cons, cntL_nil, cnt_s, cnt_v]
  first | done | omega
theorem cntf_eAsker (xs : List GAsker) : cntL (xs.flatMap eAsker) = xs.length * 2 := by
  induction xs with
  | nil => simp [cntL_nil]
  | cons x xs ih => rw [List.flatMap_cons, cntL_append, ih, cnt_eAsker, List.length_cons]; omega
theorem mk_eAsker (x : GAsker) (q : Int) (b0 : 0 ≤ q) (b1 : q + cntL (eAsker x) ≤ 4611686018427387904) : mkL (eAsker x) q = [.v (.int .i64 q), .v (.int .i64 (q + 1))] := by
  have hc := cnt_eAsker x
  simp only [eAsker, mkL_cons, mkL_nil, mk_int, mk_str, mk_bool, mk_s, cnt_v, cnt_s, Int.natCast_one]
  rw [wrap_id (q) (by omega) (by omega)]
  rw [wrap_id (q + 1) (by omega) (by omega)]
theorem rdm_eAsker {w : World} {x : GAsker} {us : List Value} (q : Int) (b0 : 0 ≤ q) (b1 : q + cntL (eAsker x) ≤ 4611686018427387904) (h : RdLW w (mkL (eAsker x) q) us) : us = [.int .i64 q, .int .i64 (q + 1)] := by
  rw [mk_eAsker x q b0 b1] at h
  have q0 := h
  clear h
  obtain ⟨us0, rfl, q1⟩ := RdLW_w.1 q0
  obtain ⟨us1, rfl, q2⟩ := RdLW_w.1 q1
  obtain rfl := RdLW_nil.1 q2
  exact rfl
theorem mkownm_eAsker {w : World} {x : GAsker} (q : Int) (b0 : 0 ≤ q) (b1 : q + cntL (eAsker x) ≤ 4611686018427387904) : OwnL w (mkL (eAsker x) q) [.int .i64 q, .int .i64 (q + 1)] ([]) := by
  have h : OwnL w (mkL (eAsker x) q) [.int .i64 q, .int .i64 (q + 1)] ([]) := by
    rw [mk_eAsker x q b0 b1]
    exact OwnL_w.2 ⟨_, rfl, OwnL_w.2 ⟨_, rfl, OwnL_nil.2 ⟨rfl, rfl⟩⟩⟩
  exact h
theorem len_eExport (x : GExport) : (eExport x).length = 3 := rfl
def eqbExport (x y : GExport) : Bool := (x.Pos == y.Pos) && ((x.Entity == y.Entity) && ((x.Count == y.Count)))
theorem eqbExport_refl (x : GExport) : eqbExport x x = true := by simp [eqbExport]
theorem eqbExport_iff (x y : GExport) : eqbExport x y = true ↔ x = y := by
  refine ⟨fun h => ?_, fun h => h ▸ eqbExport_refl x⟩
  simp only [eqbExport, Bool.and_eq_true, beq_iff_eq] at h
  obtain ⟨h0, h1, h2⟩ := h
  cases x; cases y; simp_all
def vsExport (x : GExport) : List Value := [.int .i64 x.Pos, .int .i64 x.Entity, .int .i64 x.Count]
theorem vals_eExport (x : GExport) : eExport x = (vsExport x).map Lf.v := rfl
theorem one_eExport (xs : List GExport) : ∀ u, u ∈ xs.flatMap vsExport → u.oneCell' = true := by
  intro u hu
  obtain ⟨x, _, hx⟩ := List.mem_flatMap.1 hu
  simp only [vsExport, List.mem_cons, List.not_mem_nil, or_false] at hx
  rcases hx with rfl | rfl | rfl <;> rfl
theorem lenv_eExport (xs : List GExport) : (xs.flatMap vsExport).length = xs.length * 3 := by
  induction xs with
  | nil => simp
  | cons x xs ih => simp [ih, vsExport, Nat.succ_mul] <;> omega
theorem rd_eExport {w : World} {x : GExport} {us : List Value} (h : RdLW w (eExport x) us) : us = [.int .i64 x.Pos, .int .i64 x.Entity, .int .i64 x.Count] := by
  unfold eExport at h
  have q0 := h
  clear h
  obtain ⟨us0, rfl, q1⟩ := RdLW_w.1 q0
  obtain ⟨us1, rfl, q2⟩ := RdLW_w.1 q1
  obtain ⟨us2, rfl, q3⟩ := RdLW_w.1 q2
  obtain rfl := RdLW_nil.1 q3
  exact rfl
theorem mkrd_eExport {w : World} {x : GExport} : RdLW w (eExport x) [.int .i64 x.Pos, .int .i64 x.Entity, .int .i64 x.Count] := by
  unfold eExport
  exact RdLW_w.2 ⟨_, rfl, RdLW_w.2 ⟨_, rfl, RdLW_w.2 ⟨_, rfl, RdLW_nil.2 rfl⟩⟩⟩
theorem own_eExport {w : World} {x : GExport} {us : List Value} {fp : List Nat} (h : OwnL w (eExport x) us fp) : us = [.int .i64 x.Pos, .int .i64 x.Entity, .int .i64 x.Count] ∧ fp = [] := by
  unfold eExport at h
  have q0 := h
  clear h
  obtain ⟨us0, rfl, q1⟩ := OwnL_w.1 q0
  obtain ⟨us1, rfl, q2⟩ := OwnL_w.1 q1
  obtain ⟨us2, rfl, q3⟩ := OwnL_w.1 q2
  obtain ⟨rfl, rfl⟩ := OwnL_nil.1 q3
  exact ⟨rfl, rfl⟩
theorem mkown_eExport {w : World} {x : GExport} : OwnL w (eExport x) [.int .i64 x.Pos, .int .i64 x.Entity, .int .i64 x.Count] ([]) := by
  have h : OwnL w (eExport x) [.int .i64 x.Pos, .int .i64 x.Entity, .int .i64 x.Count] ([]) := by
    unfold eExport
    exact OwnL_w.2 ⟨_, rfl, OwnL_w.2 ⟨_, rfl, OwnL_w.2 ⟨_, rfl, OwnL_nil.2 ⟨rfl, rfl⟩⟩⟩⟩
  exact h
theorem row_eExport {w : World} {xs : List GExport} {A : Option Addr} {c : Nat} (h : RdW w (.s xs.length (xs.flatMap eExport)) (.slice A xs.length c)) {i : Nat} {x : GExport} (hx : xs[i]? = some x) :
    ∃ ad, A = some ad ∧ ad.block < w.heap.size ∧ w.cell? (ad.add (i * 3)) = some (.int .i64 x.Pos) ∧ w.cell? ⟨(ad.add (i * 3)).block, (ad.add (i * 3)).off + 1, none⟩ = some (.int .i64 x.Entity) ∧ w.cell? ⟨(ad.add (i * 3)).block, (ad.add (i * 3)).off + 2, none⟩ = some (.int .i64 x.Count) := by
  obtain ⟨ad, ys, rfl, hb, hr, hc⟩ := RdW.at_ len_eExport h hx
  obtain rfl := rd_eExport hr
  exact ⟨ad, rfl, hb, hc 0 _ rfl, (by rw [← add_field _ _ 1 (by omega)]; exact hc 1 _ rfl), (by rw [← add_field _ _ 2 (by omega)]; exact hc 2 _ rfl)⟩
theorem slim_eExport (x : GExport) : SlimL (eExport x) := SlimL_cons (Slim_v _) (SlimL_cons (Slim_v _) (SlimL_cons (Slim_v _) (SlimL_nil)))
theorem siz_eExport (x : GExport) : sizL (eExport x) = 0 := by
  simp only [eExport, sizL_cons, sizL_nil, siz_s, siz_int, siz_str, siz_bool]
  first | done | omega | rfl
theorem cnt_eExport (x : GExport) : cntL (eExport x) = 1 + 1 + 1 := by
  simp only [eExport, cntL_cons, cntL_nil, cnt_s, cnt_v]
  first | done | omega
theorem cntf_eExport (xs : List GExport) : cntL (xs.flatMap eExport) = xs.length * 3 := by
  induction xs with
  | nil => simp [cntL_nil]
  | cons x xs ih => rw [List.flatMap_cons, cntL_append, ih, cnt_eExport, List.length_cons]; omega
theorem mk_eExport (x : GExport) (q : Int) (b0 : 0 ≤ q) (b1 : q + cntL (eExport x) ≤ 4611686018427387904) : mkL (eExport x) q = [.v (.int .i64 q), .v (.int .i64 (q + 1)), .v (.int .i64 (q + 1 + 1))] := by
  have hc := cnt_eExport x
  simp only [eExport, mkL_cons, mkL_nil, mk_int, mk_str, mk_bool, mk_s, cnt_v, cnt_s, Int.natCast_one]
  rw [wrap_id (q) (by omega) (by omega)]
  rw [wrap_id (q + 1) (by omega) (by omega)]
  rw [wrap_id (q + 1 + 1) (by omega) (by omega)]
theorem rdm_eExport {w : World} {x : GExport} {us : List Value} (q : Int) (b0 : 0 ≤ q) (b1 : q + cntL (eExport x) ≤ 4611686018427387904) (h : RdLW w (mkL (eExport x) q) us) : us = [.int .i64 q, .int .i64 (q + 1), .int .i64 (q + 1 + 1)] := by
  rw [mk_eExport x q b0 b1] at h
  have q0 := h
  clear h
  obtain ⟨us0, rfl, q1⟩ := RdLW_w.1 q0
  obtain ⟨us1, rfl, q2⟩ := RdLW_w.1 q1
  obtain ⟨us2, rfl, q3⟩ := RdLW_w.1 q2
  obtain rfl := RdLW_nil.1 q3
  exact rfl
theorem mkownm_eExport {w : World} {x : GExport} (q : Int) (b0 : 0 ≤ q) (b1 : q + cntL (eExport x) ≤ 4611686018427387904) : OwnL w (mkL (eExport x) q) [.int .i64 q, .int .i64 (q + 1), .int .i64 (q + 1 + 1)] ([]) := by
  have h : OwnL w (mkL (eExport x) q) [.int .i64 q, .int .i64 (q + 1), .int .i64 (q + 1 + 1)] ([]) := by
    rw [mk_eExport x q b0 b1]
    exact OwnL_w.2 ⟨_, rfl, OwnL_w.2 ⟨_, rfl, OwnL_w.2 ⟨_, rfl, OwnL_nil.2 ⟨rfl, rfl⟩⟩⟩⟩
  exact h
theorem len_eQuestion (x : GQuestion) : (eQuestion x).length = 2 := rfl
def eqbQuestion (x y : GQuestion) : Bool := (x.Id == y.Id) && ((x.Promise == y.Promise))
theorem eqbQuestion_refl (x : GQuestion) : eqbQuestion x x = true := by simp [eqbQuestion]
theorem eqbQuestion_iff (x y : GQuestion) : eqbQuestion x y = true ↔ x = y := by
  refine ⟨fun h => ?_, fun h => h ▸ eqbQuestion_refl x⟩
  simp only [eqbQuestion, Bool.and_eq_true, beq_iff_eq] at h
  obtain ⟨h0, h1⟩ := h
  cases x; cases y; simp_all
def vsQuestion (x : GQuestion) : List Value := [.int .i64 x.Id, .int .i64 x.Promise]
theorem vals_eQuestion (x : GQuestion) : eQuestion x = (vsQuestion x).map Lf.v := rfl
theorem one_eQuestion (xs : List GQuestion) : ∀ u, u ∈ xs.flatMap vsQuestion → u.oneCell' = true := by
  intro u hu
  obtain ⟨x, _, hx⟩ := List.mem_flatMap.1 hu
  simp only [vsQuestion, List.mem_cons, List.not_mem_nil, or_false] at hx
  rcases hx with rfl | rfl <;> rfl
theorem lenv_eQuestion (xs : List GQuestion) : (xs.flatMap vsQuestion).length = xs.length * 2 := by
  induction xs with
  | nil => simp
  | cons x xs ih => simp [ih, vsQuestion, Nat.succ_mul] <;> omega
theorem rd_eQuestion {w : World} {x : GQuestion} {us : List Value} (h : RdLW w (eQuestion x) us) : us = [.int .i64 x.Id, .int .i64 x.Promise] := by
  unfold eQuestion at h
  have q0 := h
  clear h
  obtain ⟨us0, rfl, q1⟩ := RdLW_w.1 q0
  obtain ⟨us1, rfl, q2⟩ := RdLW_w.1 q1
  obtain rfl := RdLW_nil.1 q2
  exact rfl
theorem mkrd_eQuestion {w : World} {x : GQuestion} : RdLW w (eQuestion x) [.int .i64 x.Id, .int .i64 x.Promise] := by
  unfold eQuestion
  exact RdLW_w.2 ⟨_, rfl, RdLW_w.2 ⟨_, rfl, RdLW_nil.2 rfl⟩⟩
theorem own_eQuestion {w : World} {x : GQuestion} {us : List Value} {fp : List Nat} (h : OwnL w (eQuestion x) us fp) : us = [.int .i64 x.Id, .int .i64 x.Promise] ∧ fp = [] := by
  unfold eQuestion at h
  have q0 := h
  clear h
  obtain ⟨us0, rfl, q1⟩ := OwnL_w.1 q0
  obtain ⟨us1, rfl, q2⟩ := OwnL_w.1 q1
  obtain ⟨rfl, rfl⟩ := OwnL_nil.1 q2
  exact ⟨rfl, rfl⟩
theorem mkown_eQuestion {w : World} {x : GQuestion} : OwnL w (eQuestion x) [.int .i64 x.Id, .int .i64 x.Promise] ([]) := by
  have h : OwnL w (eQuestion x) [.int .i64 x.Id, .int .i64 x.Promise] ([]) := by
    unfold eQuestion
    exact OwnL_w.2 ⟨_, rfl, OwnL_w.2 ⟨_, rfl, OwnL_nil.2 ⟨rfl, rfl⟩⟩⟩
  exact h
theorem row_eQuestion {w : World} {xs : List GQuestion} {A : Option Addr} {c : Nat} (h : RdW w (.s xs.length (xs.flatMap eQuestion)) (.slice A xs.length c)) {i : Nat} {x : GQuestion} (hx : xs[i]? = some x) :
    ∃ ad, A = some ad ∧ ad.block < w.heap.size ∧ w.cell? (ad.add (i * 2)) = some (.int .i64 x.Id) ∧ w.cell? ⟨(ad.add (i * 2)).block, (ad.add (i * 2)).off + 1, none⟩ = some (.int .i64 x.Promise) := by
  obtain ⟨ad, ys, rfl, hb, hr, hc⟩ := RdW.at_ len_eQuestion h hx
  obtain rfl := rd_eQuestion hr
  exact ⟨ad, rfl, hb, hc 0 _ rfl, (by rw [← add_field _ _ 1 (by omega)]; exact hc 1 _ rfl)⟩
theorem slim_eQuestion (x : GQuestion) : SlimL (eQuestion x) := SlimL_cons (Slim_v _) (SlimL_cons (Slim_v _) (SlimL_nil))
theorem siz_eQuestion (x : GQuestion) : sizL (eQuestion x) = 0 := by
  simp only [eQuestion, sizL_cons, sizL_nil, siz_s, siz_int, siz_str, siz_bool]
  first | done | omega | rfl
theorem cnt_eQuestion (x : GQuestion) : cntL (eQuestion x) = 1 + 1 := by
  simp only [eQuestion, cntL_cons, cntL_nil, cnt_s, cnt_v]
  first | done | omega
theorem cntf_eQuestion (xs : List GQuestion) : cntL (xs.flatMap eQuestion) = xs.length * 2 := by
  induction xs with
  | nil => simp [cntL_nil]
  | cons x xs ih => rw [List.flatMap_cons, cntL_append, ih, cnt_eQuestion, List.length_cons]; omega
theorem mk_eQuestion (x : GQuestion) (q : Int) (b0 : 0 ≤ q) (b1 : q + cntL (eQuestion x) ≤ 4611686018427387904) : mkL (eQuestion x) q = [.v (.int .i64 q), .v (.int .i64 (q + 1))] := by
  have hc := cnt_eQuestion x
  simp only [eQuestion, mkL_cons, mkL_nil, mk_int, mk_str, mk_bool, mk_s, cnt_v, cnt_s, Int.natCast_one]
  rw [wrap_id (q) (by omega) (by omega)]
  rw [wrap_id (q + 1) (by omega) (by omega)]
theorem rdm_eQuestion {w : World} {x : GQuestion} {us : List Value} (q : Int) (b0 : 0 ≤ q) (b1 : q + cntL (eQuestion x) ≤ 4611686018427387904) (h : RdLW w (mkL (eQuestion x) q) us) : us = [.int .i64 q, .int .i64 (q + 1)] := by
  rw [mk_eQuestion x q b0 b1] at h
  have q0 := h
  clear h
  obtain ⟨us0, rfl, q1⟩ := RdLW_w.1 q0
  obtain ⟨us1, rfl, q2⟩ := RdLW_w.1 q1
  obtain rfl := RdLW_nil.1 q2
  exact rfl
theorem mkownm_eQuestion {w : World} {x : GQuestion} (q : Int) (b0 : 0 ≤ q) (b1 : q + cntL (eQuestion x) ≤ 4611686018427387904) : OwnL w (mkL (eQuestion x) q) [.int .i64 q, .int .i64 (q + 1)] ([]) := by
  have h : OwnL w (mkL (eQuestion x) q) [.int .i64 q, .int .i64 (q + 1)] ([]) := by
    rw [mk_eQuestion x q b0 b1]
    exact OwnL_w.2 ⟨_, rfl, OwnL_w.2 ⟨_, rfl, OwnL_nil.2 ⟨rfl, rfl⟩⟩⟩
  exact h
theorem len_eSent (x : GSent) : (eSent x).length = 7 := rfl
theorem rd_eSent {w : World} {x : GSent} {us : List Value} (h : RdLW w (eSent x) us) : ∃ v2, us = [.int .i64 x.Target, .string x.Name, v2, .int .i64 x.Result, .int .i64 x.Tag.Vat, .int .i64 x.Tag.Entity, .int .i64 x.Tag.Seq] ∧ RdW w (.s x.Args.length (x.Args.flatMap eValue)) v2 := by
  unfold eSent at h
  have q0 := h
  clear h
  obtain ⟨us0, rfl, q1⟩ := RdLW_w.1 q0
  obtain ⟨us1, rfl, q2⟩ := RdLW_w.1 q1
  obtain ⟨u2, us2, rfl, h2, q3⟩ := RdLW_cons.1 q2
  obtain ⟨us3, rfl, q4⟩ := RdLW_w.1 q3
  obtain ⟨us4, rfl, q5⟩ := RdLW_w.1 q4
  obtain ⟨us5, rfl, q6⟩ := RdLW_w.1 q5
  obtain ⟨us6, rfl, q7⟩ := RdLW_w.1 q6
  obtain rfl := RdLW_nil.1 q7
  exact ⟨u2, rfl, h2⟩
theorem mkrd_eSent {w : World} {x : GSent} {v2 : Value} (h2 : RdW w (.s x.Args.length (x.Args.flatMap eValue)) v2) : RdLW w (eSent x) [.int .i64 x.Target, .string x.Name, v2, .int .i64 x.Result, .int .i64 x.Tag.Vat, .int .i64 x.Tag.Entity, .int .i64 x.Tag.Seq] := by
  unfold eSent
  exact RdLW_w.2 ⟨_, rfl, RdLW_w.2 ⟨_, rfl, RdLW_cons.2 ⟨_, _, rfl, h2, RdLW_w.2 ⟨_, rfl, RdLW_w.2 ⟨_, rfl, RdLW_w.2 ⟨_, rfl, RdLW_w.2 ⟨_, rfl, RdLW_nil.2 rfl⟩⟩⟩⟩⟩⟩⟩
theorem own_eSent {w : World} {x : GSent} {us : List Value} {fp : List Nat} (h : OwnL w (eSent x) us fp) : ∃ v2 f2, us = [.int .i64 x.Target, .string x.Name, v2, .int .i64 x.Result, .int .i64 x.Tag.Vat, .int .i64 x.Tag.Entity, .int .i64 x.Tag.Seq] ∧ fp = f2 ∧ Own w (.s x.Args.length (x.Args.flatMap eValue)) v2 f2 := by
  unfold eSent at h
  have q0 := h
  clear h
  obtain ⟨us0, rfl, q1⟩ := OwnL_w.1 q0
  obtain ⟨us1, rfl, q2⟩ := OwnL_w.1 q1
  obtain ⟨u2, us2, g2, k2, rfl, rfl, h2, q3⟩ := OwnL_cons.1 q2
  obtain ⟨us3, rfl, q4⟩ := OwnL_w.1 q3
  obtain ⟨us4, rfl, q5⟩ := OwnL_w.1 q4
  obtain ⟨us5, rfl, q6⟩ := OwnL_w.1 q5
  obtain ⟨us6, rfl, q7⟩ := OwnL_w.1 q6
  obtain ⟨rfl, rfl⟩ := OwnL_nil.1 q7
  exact ⟨u2, g2, rfl, by simp only [List.append_nil, List.append_assoc], h2⟩
theorem mkown_eSent {w : World} {x : GSent} {v2 : Value} {f2 : List Nat} (h2 : Own w (.s x.Args.length (x.Args.flatMap eValue)) v2 f2) : OwnL w (eSent x) [.int .i64 x.Target, .string x.Name, v2, .int .i64 x.Result, .int .i64 x.Tag.Vat, .int .i64 x.Tag.Entity, .int .i64 x.Tag.Seq] (f2) := by
  have h : OwnL w (eSent x) [.int .i64 x.Target, .string x.Name, v2, .int .i64 x.Result, .int .i64 x.Tag.Vat, .int .i64 x.Tag.Entity, .int .i64 x.Tag.Seq] (f2 ++ ([])) := by
    unfold eSent
    exact OwnL_w.2 ⟨_, rfl, OwnL_w.2 ⟨_, rfl, OwnL_cons.2 ⟨_, _, f2, _, rfl, rfl, h2, OwnL_w.2 ⟨_, rfl, OwnL_w.2 ⟨_, rfl, OwnL_w.2 ⟨_, rfl, OwnL_w.2 ⟨_, rfl, OwnL_nil.2 ⟨rfl, rfl⟩⟩⟩⟩⟩⟩⟩⟩
  simpa only [List.append_nil, List.append_assoc] using h
theorem row_eSent {w : World} {xs : List GSent} {A : Option Addr} {c : Nat} (h : RdW w (.s xs.length (xs.flatMap eSent)) (.slice A xs.length c)) {i : Nat} {x : GSent} (hx : xs[i]? = some x) :
    ∃ ad v2, A = some ad ∧ ad.block < w.heap.size ∧ w.cell? (ad.add (i * 7)) = some (.int .i64 x.Target) ∧ w.cell? ⟨(ad.add (i * 7)).block, (ad.add (i * 7)).off + 1, none⟩ = some (.string x.Name) ∧ w.cell? ⟨(ad.add (i * 7)).block, (ad.add (i * 7)).off + 2, none⟩ = some (v2) ∧ w.cell? ⟨(ad.add (i * 7)).block, (ad.add (i * 7)).off + 3, none⟩ = some (.int .i64 x.Result) ∧ w.cell? ⟨(ad.add (i * 7)).block, (ad.add (i * 7)).off + 4, none⟩ = some (.int .i64 x.Tag.Vat) ∧ w.cell? ⟨(ad.add (i * 7)).block, (ad.add (i * 7)).off + 5, none⟩ = some (.int .i64 x.Tag.Entity) ∧ w.cell? ⟨(ad.add (i * 7)).block, (ad.add (i * 7)).off + 6, none⟩ = some (.int .i64 x.Tag.Seq) ∧ RdW w (.s x.Args.length (x.Args.flatMap eValue)) v2 := by
  obtain ⟨ad, ys, rfl, hb, hr, hc⟩ := RdW.at_ len_eSent h hx
  obtain ⟨v2, rfl, h2⟩ := rd_eSent hr
  exact ⟨ad, v2, rfl, hb, hc 0 _ rfl, (by rw [← add_field _ _ 1 (by omega)]; exact hc 1 _ rfl), (by rw [← add_field _ _ 2 (by omega)]; exact hc 2 _ rfl), (by rw [← add_field _ _ 3 (by omega)]; exact hc 3 _ rfl), (by rw [← add_field _ _ 4 (by omega)]; exact hc 4 _ rfl), (by rw [← add_field _ _ 5 (by omega)]; exact hc 5 _ rfl), (by rw [← add_field _ _ 6 (by omega)]; exact hc 6 _ rfl), h2⟩
theorem slim_eSent (x : GSent) : SlimL (eSent x) := SlimL_cons (Slim_v _) (SlimL_cons (Slim_v _) (SlimL_cons (Slim_flat _ 2 len_eValue (by omega) slim_eValue _) (SlimL_cons (Slim_v _) (SlimL_cons (Slim_v _) (SlimL_cons (Slim_v _) (SlimL_cons (Slim_v _) (SlimL_nil)))))))
theorem siz_eSent (x : GSent) : sizL (eSent x) = x.Name.size + (x.Args.length + sizL (x.Args.flatMap eValue)) := by
  simp only [eSent, sizL_cons, sizL_nil, siz_s, siz_int, siz_str, siz_bool]
  first | done | omega | rfl
theorem cnt_eSent (x : GSent) : cntL (eSent x) = 1 + 1 + cntL (x.Args.flatMap eValue) + 1 + 1 + 1 + 1 := by
  simp only [eSent, cntL_cons, cntL_nil, cnt_s, cnt_v]
  first | done | omega
theorem mk_eSent (x : GSent) (q : Int) (r2 : Int) (hr2 : r2 = q + 1 + 1 + (cntL (x.Args.flatMap eValue) : Nat)) (b0 : 0 ≤ q) (b1 : q + cntL (eSent x) ≤ 4611686018427387904) : mkL (eSent x) q = [.v (.int .i64 q), .v (.string (mkText (q + 1))), .s x.Args.length (mkL (x.Args.flatMap eValue) (q + 1 + 1)), .v (.int .i64 r2), .v (.int .i64 (r2 + 1)), .v (.int .i64 (r2 + 1 + 1)), .v (.int .i64 (r2 + 1 + 1 + 1))] := by
  have hc := cnt_eSent x
  subst hr2
  simp only [eSent, mkL_cons, mkL_nil, mk_int, mk_str, mk_bool, mk_s, cnt_v, cnt_s, Int.natCast_one]
  rw [wrap_id (q) (by omega) (by omega)]
  rw [wrap_id ((q + 1 + 1 + (cntL (x.Args.flatMap eValue) : Nat))) (by omega) (by omega)]
  rw [wrap_id ((q + 1 + 1 + (cntL (x.Args.flatMap eValue) : Nat)) + 1) (by omega) (by omega)]
  rw [wrap_id ((q + 1 + 1 + (cntL (x.Args.flatMap eValue) : Nat)) + 1 + 1) (by omega) (by omega)]
  rw [wrap_id ((q + 1 + 1 + (cntL (x.Args.flatMap eValue) : Nat)) + 1 + 1 + 1) (by omega) (by omega)]
theorem rdm_eSent {w : World} {x : GSent} {us : List Value} (q : Int) (r2 : Int) (hr2 : r2 = q + 1 + 1 + (cntL (x.Args.flatMap eValue) : Nat)) (b0 : 0 ≤ q) (b1 : q + cntL (eSent x) ≤ 4611686018427387904) (h : RdLW w (mkL (eSent x) q) us) : ∃ v2, us = [.int .i64 q, .string (mkText (q + 1)), v2, .int .i64 r2, .int .i64 (r2 + 1), .int .i64 (r2 + 1 + 1), .int .i64 (r2 + 1 + 1 + 1)] ∧ RdW w (.s x.Args.length (mkL (x.Args.flatMap eValue) (q + 1 + 1))) v2 := by
  rw [mk_eSent x q r2 hr2 b0 b1] at h
  have q0 := h
  clear h
  obtain ⟨us0, rfl, q1⟩ := RdLW_w.1 q0
  obtain ⟨us1, rfl, q2⟩ := RdLW_w.1 q1
  obtain ⟨u2, us2, rfl, h2, q3⟩ := RdLW_cons.1 q2
  obtain ⟨us3, rfl, q4⟩ := RdLW_w.1 q3
  obtain ⟨us4, rfl, q5⟩ := RdLW_w.1 q4
  obtain ⟨us5, rfl, q6⟩ := RdLW_w.1 q5
  obtain ⟨us6, rfl, q7⟩ := RdLW_w.1 q6
  obtain rfl := RdLW_nil.1 q7
  exact ⟨u2, rfl, h2⟩
theorem mkownm_eSent {w : World} {x : GSent} (q : Int) (r2 : Int) (hr2 : r2 = q + 1 + 1 + (cntL (x.Args.flatMap eValue) : Nat)) (b0 : 0 ≤ q) (b1 : q + cntL (eSent x) ≤ 4611686018427387904) {v2 : Value} {f2 : List Nat} (h2 : Own w (.s x.Args.length (mkL (x.Args.flatMap eValue) (q + 1 + 1))) v2 f2) : OwnL w (mkL (eSent x) q) [.int .i64 q, .string (mkText (q + 1)), v2, .int .i64 r2, .int .i64 (r2 + 1), .int .i64 (r2 + 1 + 1), .int .i64 (r2 + 1 + 1 + 1)] (f2) := by
  have h : OwnL w (mkL (eSent x) q) [.int .i64 q, .string (mkText (q + 1)), v2, .int .i64 r2, .int .i64 (r2 + 1), .int .i64 (r2 + 1 + 1), .int .i64 (r2 + 1 + 1 + 1)] (f2 ++ ([])) := by
    rw [mk_eSent x q r2 hr2 b0 b1]
    exact OwnL_w.2 ⟨_, rfl, OwnL_w.2 ⟨_, rfl, OwnL_cons.2 ⟨_, _, f2, _, rfl, rfl, h2, OwnL_w.2 ⟨_, rfl, OwnL_w.2 ⟨_, rfl, OwnL_w.2 ⟨_, rfl, OwnL_w.2 ⟨_, rfl, OwnL_nil.2 ⟨rfl, rfl⟩⟩⟩⟩⟩⟩⟩⟩
  simpa only [List.append_nil, List.append_assoc] using h
theorem str_eSent {x : GSent} (h : StrOkL (eSent x)) : x.Name.size ≤ 140737488355328 := by
  simp only [eSent, StrOkL_cons, StrOkL_nil, StrOk_str, StrOk_int, StrOk_bool, StrOk_s, true_and, and_true] at h
  simp_all
theorem top_eSent (x : GSent) (q : Int) (r2 : Int) (hr2 : r2 = q + (cntL (x.Args.flatMap eValue) : Nat)) : topL (eSent x) q = [.v (.int .i64 x.Target), .v (.string x.Name), .s x.Args.length (mkL (x.Args.flatMap eValue) q), .v (.int .i64 x.Result), .v (.int .i64 x.Tag.Vat), .v (.int .i64 x.Tag.Entity), .v (.int .i64 x.Tag.Seq)] := by
  subst hr2
  simp only [eSent, topL_v, topL_s, topL_nil]
theorem tcnt_eSent (x : GSent) : tcnt (eSent x) = cntL (x.Args.flatMap eValue) := by
  simp only [eSent, tcnt_v, tcnt_s, tcnt_nil, Nat.add_zero, Nat.add_assoc]
theorem mktop_eSent {w : World} {x : GSent} (q : Int) (r2 : Int) (hr2 : r2 = q + (cntL (x.Args.flatMap eValue) : Nat)) {v2 : Value} {f2 : List Nat} (h2 : Own w (.s x.Args.length (mkL (x.Args.flatMap eValue) q)) v2 f2) : OwnL w (topL (eSent x) q) [.int .i64 x.Target, .string x.Name, v2, .int .i64 x.Result, .int .i64 x.Tag.Vat, .int .i64 x.Tag.Entity, .int .i64 x.Tag.Seq] (f2) := by
  have h : OwnL w (topL (eSent x) q) [.int .i64 x.Target, .string x.Name, v2, .int .i64 x.Result, .int .i64 x.Tag.Vat, .int .i64 x.Tag.Entity, .int .i64 x.Tag.Seq] (f2 ++ ([])) := by
    rw [top_eSent x q r2 hr2]
    exact OwnL_w.2 ⟨_, rfl, OwnL_w.2 ⟨_, rfl, OwnL_cons.2 ⟨_, _, f2, _, rfl, rfl, h2, OwnL_w.2 ⟨_, rfl, OwnL_w.2 ⟨_, rfl, OwnL_w.2 ⟨_, rfl, OwnL_w.2 ⟨_, rfl, OwnL_nil.2 ⟨rfl, rfl⟩⟩⟩⟩⟩⟩⟩⟩
  simpa only [List.append_nil, List.append_assoc] using h
theorem rdtop_eSent {w : World} {x : GSent} {us : List Value} (q : Int) (r2 : Int) (hr2 : r2 = q + (cntL (x.Args.flatMap eValue) : Nat)) (h : RdLW w (topL (eSent x) q) us) : ∃ v2, us = [.int .i64 x.Target, .string x.Name, v2, .int .i64 x.Result, .int .i64 x.Tag.Vat, .int .i64 x.Tag.Entity, .int .i64 x.Tag.Seq] ∧ RdW w (.s x.Args.length (mkL (x.Args.flatMap eValue) q)) v2 := by
  rw [top_eSent x q r2 hr2] at h
  have q0 := h
  clear h
  obtain ⟨us0, rfl, q1⟩ := RdLW_w.1 q0
  obtain ⟨us1, rfl, q2⟩ := RdLW_w.1 q1
  obtain ⟨u2, us2, rfl, h2, q3⟩ := RdLW_cons.1 q2
  obtain ⟨us3, rfl, q4⟩ := RdLW_w.1 q3
  obtain ⟨us4, rfl, q5⟩ := RdLW_w.1 q4
  obtain ⟨us5, rfl, q6⟩ := RdLW_w.1 q5
  obtain ⟨us6, rfl, q7⟩ := RdLW_w.1 q6
  obtain rfl := RdLW_nil.1 q7
  exact ⟨u2, rfl, h2⟩
theorem len_eEntity (x : GEntity) : (eEntity x).length = 12 := rfl
theorem rd_eEntity {w : World} {x : GEntity} {us : List Value} (h : RdLW w (eEntity x) us) : ∃ v2 v6 v7, us = [.int .i64 x.Kind, .int .i64 x.Script, v2, .int .i64 x.State, .int .i64 x.Value.Kind, .int .i64 x.Value.N, v6, v7, .int .i64 x.Peer, .int .i64 x.Pos, .int .i64 x.Count, .int .i64 x.Sent] ∧ RdW w (.s x.Slots.length (x.Slots.flatMap eValue)) v2 ∧ RdW w (.s x.Queue.length (x.Queue.flatMap eSent)) v6 ∧ RdW w (.s x.Askers.length (x.Askers.flatMap eAsker)) v7 := by
  unfold eEntity at h
  have q0 := h
  clear h
  obtain ⟨us0, rfl, q1⟩ := RdLW_w.1 q0
  obtain ⟨us1, rfl, q2⟩ := RdLW_w.1 q1
  obtain ⟨u2, us2, rfl, h2, q3⟩ := RdLW_cons.1 q2
  obtain ⟨us3, rfl, q4⟩ := RdLW_w.1 q3
  obtain ⟨us4, rfl, q5⟩ := RdLW_w.1 q4
  obtain ⟨us5, rfl, q6⟩ := RdLW_w.1 q5
  obtain ⟨u6, us6, rfl, h6, q7⟩ := RdLW_cons.1 q6
  obtain ⟨u7, us7, rfl, h7, q8⟩ := RdLW_cons.1 q7
  obtain ⟨us8, rfl, q9⟩ := RdLW_w.1 q8
  obtain ⟨us9, rfl, q10⟩ := RdLW_w.1 q9
  obtain ⟨us10, rfl, q11⟩ := RdLW_w.1 q10
  obtain ⟨us11, rfl, q12⟩ := RdLW_w.1 q11
  obtain rfl := RdLW_nil.1 q12
  exact ⟨u2, u6, u7, rfl, h2, h6, h7⟩
theorem mkrd_eEntity {w : World} {x : GEntity} {v2 : Value} {v6 : Value} {v7 : Value} (h2 : RdW w (.s x.Slots.length (x.Slots.flatMap eValue)) v2) (h6 : RdW w (.s x.Queue.length (x.Queue.flatMap eSent)) v6) (h7 : RdW w (.s x.Askers.length (x.Askers.flatMap eAsker)) v7) : RdLW w (eEntity x) [.int .i64 x.Kind, .int .i64 x.Script, v2, .int .i64 x.State, .int .i64 x.Value.Kind, .int .i64 x.Value.N, v6, v7, .int .i64 x.Peer, .int .i64 x.Pos, .int .i64 x.Count, .int .i64 x.Sent] := by
  unfold eEntity
  exact RdLW_w.2 ⟨_, rfl, RdLW_w.2 ⟨_, rfl, RdLW_cons.2 ⟨_, _, rfl, h2, RdLW_w.2 ⟨_, rfl, RdLW_w.2 ⟨_, rfl, RdLW_w.2 ⟨_, rfl, RdLW_cons.2 ⟨_, _, rfl, h6, RdLW_cons.2 ⟨_, _, rfl, h7, RdLW_w.2 ⟨_, rfl, RdLW_w.2 ⟨_, rfl, RdLW_w.2 ⟨_, rfl, RdLW_w.2 ⟨_, rfl, RdLW_nil.2 rfl⟩⟩⟩⟩⟩⟩⟩⟩⟩⟩⟩⟩
theorem own_eEntity {w : World} {x : GEntity} {us : List Value} {fp : List Nat} (h : OwnL w (eEntity x) us fp) : ∃ v2 f2 v6 f6 v7 f7, us = [.int .i64 x.Kind, .int .i64 x.Script, v2, .int .i64 x.State, .int .i64 x.Value.Kind, .int .i64 x.Value.N, v6, v7, .int .i64 x.Peer, .int .i64 x.Pos, .int .i64 x.Count, .int .i64 x.Sent] ∧ fp = f2 ++ (f6 ++ (f7)) ∧ Own w (.s x.Slots.length (x.Slots.flatMap eValue)) v2 f2 ∧ Own w (.s x.Queue.length (x.Queue.flatMap eSent)) v6 f6 ∧ Own w (.s x.Askers.length (x.Askers.flatMap eAsker)) v7 f7 := by
  unfold eEntity at h
  have q0 := h
  clear h
  obtain ⟨us0, rfl, q1⟩ := OwnL_w.1 q0
  obtain ⟨us1, rfl, q2⟩ := OwnL_w.1 q1
  obtain ⟨u2, us2, g2, k2, rfl, rfl, h2, q3⟩ := OwnL_cons.1 q2
  obtain ⟨us3, rfl, q4⟩ := OwnL_w.1 q3
  obtain ⟨us4, rfl, q5⟩ := OwnL_w.1 q4
  obtain ⟨us5, rfl, q6⟩ := OwnL_w.1 q5
  obtain ⟨u6, us6, g6, k6, rfl, rfl, h6, q7⟩ := OwnL_cons.1 q6
  obtain ⟨u7, us7, g7, k7, rfl, rfl, h7, q8⟩ := OwnL_cons.1 q7
  obtain ⟨us8, rfl, q9⟩ := OwnL_w.1 q8
  obtain ⟨us9, rfl, q10⟩ := OwnL_w.1 q9
  obtain ⟨us10, rfl, q11⟩ := OwnL_w.1 q10
  obtain ⟨us11, rfl, q12⟩ := OwnL_w.1 q11
  obtain ⟨rfl, rfl⟩ := OwnL_nil.1 q12
  exact ⟨u2, g2, u6, g6, u7, g7, rfl, by simp only [List.append_nil, List.append_assoc], h2, h6, h7⟩
theorem mkown_eEntity {w : World} {x : GEntity} {v2 : Value} {f2 : List Nat} {v6 : Value} {f6 : List Nat} {v7 : Value} {f7 : List Nat} (h2 : Own w (.s x.Slots.length (x.Slots.flatMap eValue)) v2 f2) (h6 : Own w (.s x.Queue.length (x.Queue.flatMap eSent)) v6 f6) (h7 : Own w (.s x.Askers.length (x.Askers.flatMap eAsker)) v7 f7) : OwnL w (eEntity x) [.int .i64 x.Kind, .int .i64 x.Script, v2, .int .i64 x.State, .int .i64 x.Value.Kind, .int .i64 x.Value.N, v6, v7, .int .i64 x.Peer, .int .i64 x.Pos, .int .i64 x.Count, .int .i64 x.Sent] (f2 ++ (f6 ++ (f7))) := by
  have h : OwnL w (eEntity x) [.int .i64 x.Kind, .int .i64 x.Script, v2, .int .i64 x.State, .int .i64 x.Value.Kind, .int .i64 x.Value.N, v6, v7, .int .i64 x.Peer, .int .i64 x.Pos, .int .i64 x.Count, .int .i64 x.Sent] (f2 ++ (f6 ++ (f7 ++ ([])))) := by
    unfold eEntity
    exact OwnL_w.2 ⟨_, rfl, OwnL_w.2 ⟨_, rfl, OwnL_cons.2 ⟨_, _, f2, _, rfl, rfl, h2, OwnL_w.2 ⟨_, rfl, OwnL_w.2 ⟨_, rfl, OwnL_w.2 ⟨_, rfl, OwnL_cons.2 ⟨_, _, f6, _, rfl, rfl, h6, OwnL_cons.2 ⟨_, _, f7, _, rfl, rfl, h7, OwnL_w.2 ⟨_, rfl, OwnL_w.2 ⟨_, rfl, OwnL_w.2 ⟨_, rfl, OwnL_w.2 ⟨_, rfl, OwnL_nil.2 ⟨rfl, rfl⟩⟩⟩⟩⟩⟩⟩⟩⟩⟩⟩⟩⟩
  simpa only [List.append_nil, List.append_assoc] using h
theorem row_eEntity {w : World} {xs : List GEntity} {A : Option Addr} {c : Nat} (h : RdW w (.s xs.length (xs.flatMap eEntity)) (.slice A xs.length c)) {i : Nat} {x : GEntity} (hx : xs[i]? = some x) :
    ∃ ad v2 v6 v7, A = some ad ∧ ad.block < w.heap.size ∧ w.cell? (ad.add (i * 12)) = some (.int .i64 x.Kind) ∧ w.cell? ⟨(ad.add (i * 12)).block, (ad.add (i * 12)).off + 1, none⟩ = some (.int .i64 x.Script) ∧ w.cell? ⟨(ad.add (i * 12)).block, (ad.add (i * 12)).off + 2, none⟩ = some (v2) ∧ w.cell? ⟨(ad.add (i * 12)).block, (ad.add (i * 12)).off + 3, none⟩ = some (.int .i64 x.State) ∧ w.cell? ⟨(ad.add (i * 12)).block, (ad.add (i * 12)).off + 4, none⟩ = some (.int .i64 x.Value.Kind) ∧ w.cell? ⟨(ad.add (i * 12)).block, (ad.add (i * 12)).off + 5, none⟩ = some (.int .i64 x.Value.N) ∧ w.cell? ⟨(ad.add (i * 12)).block, (ad.add (i * 12)).off + 6, none⟩ = some (v6) ∧ w.cell? ⟨(ad.add (i * 12)).block, (ad.add (i * 12)).off + 7, none⟩ = some (v7) ∧ w.cell? ⟨(ad.add (i * 12)).block, (ad.add (i * 12)).off + 8, none⟩ = some (.int .i64 x.Peer) ∧ w.cell? ⟨(ad.add (i * 12)).block, (ad.add (i * 12)).off + 9, none⟩ = some (.int .i64 x.Pos) ∧ w.cell? ⟨(ad.add (i * 12)).block, (ad.add (i * 12)).off + 10, none⟩ = some (.int .i64 x.Count) ∧ w.cell? ⟨(ad.add (i * 12)).block, (ad.add (i * 12)).off + 11, none⟩ = some (.int .i64 x.Sent) ∧ RdW w (.s x.Slots.length (x.Slots.flatMap eValue)) v2 ∧ RdW w (.s x.Queue.length (x.Queue.flatMap eSent)) v6 ∧ RdW w (.s x.Askers.length (x.Askers.flatMap eAsker)) v7 := by
  obtain ⟨ad, ys, rfl, hb, hr, hc⟩ := RdW.at_ len_eEntity h hx
  obtain ⟨v2, v6, v7, rfl, h2, h6, h7⟩ := rd_eEntity hr
  exact ⟨ad, v2, v6, v7, rfl, hb, hc 0 _ rfl, (by rw [← add_field _ _ 1 (by omega)]; exact hc 1 _ rfl), (by rw [← add_field _ _ 2 (by omega)]; exact hc 2 _ rfl), (by rw [← add_field _ _ 3 (by omega)]; exact hc 3 _ rfl), (by rw [← add_field _ _ 4 (by omega)]; exact hc 4 _ rfl), (by rw [← add_field _ _ 5 (by omega)]; exact hc 5 _ rfl), (by rw [← add_field _ _ 6 (by omega)]; exact hc 6 _ rfl), (by rw [← add_field _ _ 7 (by omega)]; exact hc 7 _ rfl), (by rw [← add_field _ _ 8 (by omega)]; exact hc 8 _ rfl), (by rw [← add_field _ _ 9 (by omega)]; exact hc 9 _ rfl), (by rw [← add_field _ _ 10 (by omega)]; exact hc 10 _ rfl), (by rw [← add_field _ _ 11 (by omega)]; exact hc 11 _ rfl), h2, h6, h7⟩
theorem slim_eEntity (x : GEntity) : SlimL (eEntity x) := SlimL_cons (Slim_v _) (SlimL_cons (Slim_v _) (SlimL_cons (Slim_flat _ 2 len_eValue (by omega) slim_eValue _) (SlimL_cons (Slim_v _) (SlimL_cons (Slim_v _) (SlimL_cons (Slim_v _) (SlimL_cons (Slim_flat _ 7 len_eSent (by omega) slim_eSent _) (SlimL_cons (Slim_flat _ 2 len_eAsker (by omega) slim_eAsker _) (SlimL_cons (Slim_v _) (SlimL_cons (Slim_v _) (SlimL_cons (Slim_v _) (SlimL_cons (Slim_v _) (SlimL_nil))))))))))))
theorem siz_eEntity (x : GEntity) : sizL (eEntity x) = (x.Slots.length + sizL (x.Slots.flatMap eValue)) + (x.Queue.length + sizL (x.Queue.flatMap eSent)) + (x.Askers.length + sizL (x.Askers.flatMap eAsker)) := by
  simp only [eEntity, sizL_cons, sizL_nil, siz_s, siz_int, siz_str, siz_bool]
  first | done | omega | rfl
theorem cnt_eEntity (x : GEntity) : cntL (eEntity x) = 1 + 1 + cntL (x.Slots.flatMap eValue) + 1 + 1 + 1 + cntL (x.Queue.flatMap eSent) + cntL (x.Askers.flatMap eAsker) + 1 + 1 + 1 + 1 := by
  simp only [eEntity, cntL_cons, cntL_nil, cnt_s, cnt_v]
  first | done | omega
theorem mk_eEntity (x : GEntity) (q : Int) (r2 : Int) (r6 : Int) (r7 : Int) (hr2 : r2 = q + 1 + 1 + (cntL (x.Slots.flatMap eValue) : Nat)) (hr6 : r6 = r2 + 1 + 1 + 1 + (cntL (x.Queue.flatMap eSent) : Nat)) (hr7 : r7 = r6 + (cntL (x.Askers.flatMap eAsker) : Nat)) (b0 : 0 ≤ q) (b1 : q + cntL (eEntity x) ≤ 4611686018427387904) : mkL (eEntity x) q = [.v (.int .i64 q), .v (.int .i64 (q + 1)), .s x.Slots.length (mkL (x.Slots.flatMap eValue) (q + 1 + 1)), .v (.int .i64 r2), .v (.int .i64 (r2 + 1)), .v (.int .i64 (r2 + 1 + 1)), .s x.Queue.length (mkL (x.Queue.flatMap eSent) (r2 + 1 + 1 + 1)), .s x.Askers.length (mkL (x.Askers.flatMap eAsker) r6), .v (.int .i64 r7), .v (.int .i64 (r7 + 1)), .v (.int .i64 (r7 + 1 + 1)), .v (.int .i64 (r7 + 1 + 1 + 1))] := by
  have hc := cnt_eEntity x
  subst hr2
  subst hr6
  subst hr7
  simp only [eEntity, mkL_cons, mkL_nil, mk_int, mk_str, mk_bool, mk_s, cnt_v, cnt_s, Int.natCast_one]
  rw [wrap_id (q) (by omega) (by omega)]
  rw [wrap_id (q + 1) (by omega) (by omega)]
  rw [wrap_id ((q + 1 + 1 + (cntL (x.Slots.flatMap eValue) : Nat))) (by omega) (by omega)]
  rw [wrap_id ((q + 1 + 1 + (cntL (x.Slots.flatMap eValue) : Nat)) + 1) (by omega) (by omega)]
  rw [wrap_id ((q + 1 + 1 + (cntL (x.Slots.flatMap eValue) : Nat)) + 1 + 1) (by omega) (by omega)]
  rw [wrap_id ((((q + 1 + 1 + (cntL (x.Slots.flatMap eValue) : Nat)) + 1 + 1 + 1 + (cntL (x.Queue.flatMap eSent) : Nat)) + (cntL (x.Askers.flatMap eAsker) : Nat))) (by omega) (by omega)]
  rw [wrap_id ((((q + 1 + 1 + (cntL (x.Slots.flatMap eValue) : Nat)) + 1 + 1 + 1 + (cntL (x.Queue.flatMap eSent) : Nat)) + (cntL (x.Askers.flatMap eAsker) : Nat)) + 1) (by omega) (by omega)]
  rw [wrap_id ((((q + 1 + 1 + (cntL (x.Slots.flatMap eValue) : Nat)) + 1 + 1 + 1 + (cntL (x.Queue.flatMap eSent) : Nat)) + (cntL (x.Askers.flatMap eAsker) : Nat)) + 1 + 1) (by omega) (by omega)]
  rw [wrap_id ((((q + 1 + 1 + (cntL (x.Slots.flatMap eValue) : Nat)) + 1 + 1 + 1 + (cntL (x.Queue.flatMap eSent) : Nat)) + (cntL (x.Askers.flatMap eAsker) : Nat)) + 1 + 1 + 1) (by omega) (by omega)]
theorem rdm_eEntity {w : World} {x : GEntity} {us : List Value} (q : Int) (r2 : Int) (r6 : Int) (r7 : Int) (hr2 : r2 = q + 1 + 1 + (cntL (x.Slots.flatMap eValue) : Nat)) (hr6 : r6 = r2 + 1 + 1 + 1 + (cntL (x.Queue.flatMap eSent) : Nat)) (hr7 : r7 = r6 + (cntL (x.Askers.flatMap eAsker) : Nat)) (b0 : 0 ≤ q) (b1 : q + cntL (eEntity x) ≤ 4611686018427387904) (h : RdLW w (mkL (eEntity x) q) us) : ∃ v2 v6 v7, us = [.int .i64 q, .int .i64 (q + 1), v2, .int .i64 r2, .int .i64 (r2 + 1), .int .i64 (r2 + 1 + 1), v6, v7, .int .i64 r7, .int .i64 (r7 + 1), .int .i64 (r7 + 1 + 1), .int .i64 (r7 + 1 + 1 + 1)] ∧ RdW w (.s x.Slots.length (mkL (x.Slots.flatMap eValue) (q + 1 + 1))) v2 ∧ RdW w (.s x.Queue.length (mkL (x.Queue.flatMap eSent) (r2 + 1 + 1 + 1))) v6 ∧ RdW w (.s x.Askers.length (mkL (x.Askers.flatMap eAsker) r6)) v7 := by
  rw [mk_eEntity x q r2 r6 r7 hr2 hr6 hr7 b0 b1] at h
  have q0 := h
  clear h
  obtain ⟨us0, rfl, q1⟩ := RdLW_w.1 q0
  obtain ⟨us1, rfl, q2⟩ := RdLW_w.1 q1
  obtain ⟨u2, us2, rfl, h2, q3⟩ := RdLW_cons.1 q2
  obtain ⟨us3, rfl, q4⟩ := RdLW_w.1 q3
  obtain ⟨us4, rfl, q5⟩ := RdLW_w.1 q4
  obtain ⟨us5, rfl, q6⟩ := RdLW_w.1 q5
  obtain ⟨u6, us6, rfl, h6, q7⟩ := RdLW_cons.1 q6
  obtain ⟨u7, us7, rfl, h7, q8⟩ := RdLW_cons.1 q7
  obtain ⟨us8, rfl, q9⟩ := RdLW_w.1 q8
  obtain ⟨us9, rfl, q10⟩ := RdLW_w.1 q9
  obtain ⟨us10, rfl, q11⟩ := RdLW_w.1 q10
  obtain ⟨us11, rfl, q12⟩ := RdLW_w.1 q11
  obtain rfl := RdLW_nil.1 q12
  exact ⟨u2, u6, u7, rfl, h2, h6, h7⟩
theorem mkownm_eEntity {w : World} {x : GEntity} (q : Int) (r2 : Int) (r6 : Int) (r7 : Int) (hr2 : r2 = q + 1 + 1 + (cntL (x.Slots.flatMap eValue) : Nat)) (hr6 : r6 = r2 + 1 + 1 + 1 + (cntL (x.Queue.flatMap eSent) : Nat)) (hr7 : r7 = r6 + (cntL (x.Askers.flatMap eAsker) : Nat)) (b0 : 0 ≤ q) (b1 : q + cntL (eEntity x) ≤ 4611686018427387904) {v2 : Value} {f2 : List Nat} {v6 : Value} {f6 : List Nat} {v7 : Value} {f7 : List Nat} (h2 : Own w (.s x.Slots.length (mkL (x.Slots.flatMap eValue) (q + 1 + 1))) v2 f2) (h6 : Own w (.s x.Queue.length (mkL (x.Queue.flatMap eSent) (r2 + 1 + 1 + 1))) v6 f6) (h7 : Own w (.s x.Askers.length (mkL (x.Askers.flatMap eAsker) r6)) v7 f7) : OwnL w (mkL (eEntity x) q) [.int .i64 q, .int .i64 (q + 1), v2, .int .i64 r2, .int .i64 (r2 + 1), .int .i64 (r2 + 1 + 1), v6, v7, .int .i64 r7, .int .i64 (r7 + 1), .int .i64 (r7 + 1 + 1), .int .i64 (r7 + 1 + 1 + 1)] (f2 ++ (f6 ++ (f7))) := by
  have h : OwnL w (mkL (eEntity x) q) [.int .i64 q, .int .i64 (q + 1), v2, .int .i64 r2, .int .i64 (r2 + 1), .int .i64 (r2 + 1 + 1), v6, v7, .int .i64 r7, .int .i64 (r7 + 1), .int .i64 (r7 + 1 + 1), .int .i64 (r7 + 1 + 1 + 1)] (f2 ++ (f6 ++ (f7 ++ ([])))) := by
    rw [mk_eEntity x q r2 r6 r7 hr2 hr6 hr7 b0 b1]
    exact OwnL_w.2 ⟨_, rfl, OwnL_w.2 ⟨_, rfl, OwnL_cons.2 ⟨_, _, f2, _, rfl, rfl, h2, OwnL_w.2 ⟨_, rfl, OwnL_w.2 ⟨_, rfl, OwnL_w.2 ⟨_, rfl, OwnL_cons.2 ⟨_, _, f6, _, rfl, rfl, h6, OwnL_cons.2 ⟨_, _, f7, _, rfl, rfl, h7, OwnL_w.2 ⟨_, rfl, OwnL_w.2 ⟨_, rfl, OwnL_w.2 ⟨_, rfl, OwnL_w.2 ⟨_, rfl, OwnL_nil.2 ⟨rfl, rfl⟩⟩⟩⟩⟩⟩⟩⟩⟩⟩⟩⟩⟩
  simpa only [List.append_nil, List.append_assoc] using h
theorem str_eEntity {x : GEntity} (h : StrOkL (eEntity x)) : StrOkL (x.Queue.flatMap eSent) := by
  simp only [eEntity, StrOkL_cons, StrOkL_nil, StrOk_str, StrOk_int, StrOk_bool, StrOk_s, true_and, and_true] at h
  simp_all
theorem top_eEntity (x : GEntity) (q : Int) (r2 : Int) (r6 : Int) (r7 : Int) (hr2 : r2 = q + (cntL (x.Slots.flatMap eValue) : Nat)) (hr6 : r6 = r2 + (cntL (x.Queue.flatMap eSent) : Nat)) (hr7 : r7 = r6 + (cntL (x.Askers.flatMap eAsker) : Nat)) : topL (eEntity x) q = [.v (.int .i64 x.Kind), .v (.int .i64 x.Script), .s x.Slots.length (mkL (x.Slots.flatMap eValue) q), .v (.int .i64 x.State), .v (.int .i64 x.Value.Kind), .v (.int .i64 x.Value.N), .s x.Queue.length (mkL (x.Queue.flatMap eSent) r2), .s x.Askers.length (mkL (x.Askers.flatMap eAsker) r6), .v (.int .i64 x.Peer), .v (.int .i64 x.Pos), .v (.int .i64 x.Count), .v (.int .i64 x.Sent)] := by
  subst hr2
  subst hr6
  subst hr7
  simp only [eEntity, topL_v, topL_s, topL_nil]
theorem tcnt_eEntity (x : GEntity) : tcnt (eEntity x) = cntL (x.Slots.flatMap eValue) + (cntL (x.Queue.flatMap eSent) + (cntL (x.Askers.flatMap eAsker))) := by
  simp only [eEntity, tcnt_v, tcnt_s, tcnt_nil, Nat.add_zero, Nat.add_assoc]
theorem mktop_eEntity {w : World} {x : GEntity} (q : Int) (r2 : Int) (r6 : Int) (r7 : Int) (hr2 : r2 = q + (cntL (x.Slots.flatMap eValue) : Nat)) (hr6 : r6 = r2 + (cntL (x.Queue.flatMap eSent) : Nat)) (hr7 : r7 = r6 + (cntL (x.Askers.flatMap eAsker) : Nat)) {v2 : Value} {f2 : List Nat} {v6 : Value} {f6 : List Nat} {v7 : Value} {f7 : List Nat} (h2 : Own w (.s x.Slots.length (mkL (x.Slots.flatMap eValue) q)) v2 f2) (h6 : Own w (.s x.Queue.length (mkL (x.Queue.flatMap eSent) r2)) v6 f6) (h7 : Own w (.s x.Askers.length (mkL (x.Askers.flatMap eAsker) r6)) v7 f7) : OwnL w (topL (eEntity x) q) [.int .i64 x.Kind, .int .i64 x.Script, v2, .int .i64 x.State, .int .i64 x.Value.Kind, .int .i64 x.Value.N, v6, v7, .int .i64 x.Peer, .int .i64 x.Pos, .int .i64 x.Count, .int .i64 x.Sent] (f2 ++ (f6 ++ (f7))) := by
  have h : OwnL w (topL (eEntity x) q) [.int .i64 x.Kind, .int .i64 x.Script, v2, .int .i64 x.State, .int .i64 x.Value.Kind, .int .i64 x.Value.N, v6, v7, .int .i64 x.Peer, .int .i64 x.Pos, .int .i64 x.Count, .int .i64 x.Sent] (f2 ++ (f6 ++ (f7 ++ ([])))) := by
    rw [top_eEntity x q r2 r6 r7 hr2 hr6 hr7]
    exact OwnL_w.2 ⟨_, rfl, OwnL_w.2 ⟨_, rfl, OwnL_cons.2 ⟨_, _, f2, _, rfl, rfl, h2, OwnL_w.2 ⟨_, rfl, OwnL_w.2 ⟨_, rfl, OwnL_w.2 ⟨_, rfl, OwnL_cons.2 ⟨_, _, f6, _, rfl, rfl, h6, OwnL_cons.2 ⟨_, _, f7, _, rfl, rfl, h7, OwnL_w.2 ⟨_, rfl, OwnL_w.2 ⟨_, rfl, OwnL_w.2 ⟨_, rfl, OwnL_w.2 ⟨_, rfl, OwnL_nil.2 ⟨rfl, rfl⟩⟩⟩⟩⟩⟩⟩⟩⟩⟩⟩⟩⟩
  simpa only [List.append_nil, List.append_assoc] using h
theorem rdtop_eEntity {w : World} {x : GEntity} {us : List Value} (q : Int) (r2 : Int) (r6 : Int) (r7 : Int) (hr2 : r2 = q + (cntL (x.Slots.flatMap eValue) : Nat)) (hr6 : r6 = r2 + (cntL (x.Queue.flatMap eSent) : Nat)) (hr7 : r7 = r6 + (cntL (x.Askers.flatMap eAsker) : Nat)) (h : RdLW w (topL (eEntity x) q) us) : ∃ v2 v6 v7, us = [.int .i64 x.Kind, .int .i64 x.Script, v2, .int .i64 x.State, .int .i64 x.Value.Kind, .int .i64 x.Value.N, v6, v7, .int .i64 x.Peer, .int .i64 x.Pos, .int .i64 x.Count, .int .i64 x.Sent] ∧ RdW w (.s x.Slots.length (mkL (x.Slots.flatMap eValue) q)) v2 ∧ RdW w (.s x.Queue.length (mkL (x.Queue.flatMap eSent) r2)) v6 ∧ RdW w (.s x.Askers.length (mkL (x.Askers.flatMap eAsker) r6)) v7 := by
  rw [top_eEntity x q r2 r6 r7 hr2 hr6 hr7] at h
  have q0 := h
  clear h
  obtain ⟨us0, rfl, q1⟩ := RdLW_w.1 q0
  obtain ⟨us1, rfl, q2⟩ := RdLW_w.1 q1
  obtain ⟨u2, us2, rfl, h2, q3⟩ := RdLW_cons.1 q2
  obtain ⟨us3, rfl, q4⟩ := RdLW_w.1 q3
  obtain ⟨us4, rfl, q5⟩ := RdLW_w.1 q4
  obtain ⟨us5, rfl, q6⟩ := RdLW_w.1 q5
  obtain ⟨u6, us6, rfl, h6, q7⟩ := RdLW_cons.1 q6
  obtain ⟨u7, us7, rfl, h7, q8⟩ := RdLW_cons.1 q7
  obtain ⟨us8, rfl, q9⟩ := RdLW_w.1 q8
  obtain ⟨us9, rfl, q10⟩ := RdLW_w.1 q9
  obtain ⟨us10, rfl, q11⟩ := RdLW_w.1 q10
  obtain ⟨us11, rfl, q12⟩ := RdLW_w.1 q11
  obtain rfl := RdLW_nil.1 q12
  exact ⟨u2, u6, u7, rfl, h2, h6, h7⟩
theorem len_eLink (x : GLink) : (eLink x).length = 7 := rfl
theorem rd_eLink {w : World} {x : GLink} {us : List Value} (h : RdLW w (eLink x) us) : ∃ v2 v4 v6, us = [.int .i64 x.Peer, .bool x.Up, v2, .int .i64 x.Next, v4, .int .i64 x.Asked, v6] ∧ RdW w (.s x.Exports.length (x.Exports.flatMap eExport)) v2 ∧ RdW w (.s x.Questions.length (x.Questions.flatMap eQuestion)) v4 ∧ RdW w (.s x.Answers.length (x.Answers.flatMap eQuestion)) v6 := by
  unfold eLink at h
  have q0 := h
  clear h
  obtain ⟨us0, rfl, q1⟩ := RdLW_w.1 q0
  obtain ⟨us1, rfl, q2⟩ := RdLW_w.1 q1
  obtain ⟨u2, us2, rfl, h2, q3⟩ := RdLW_cons.1 q2
  obtain ⟨us3, rfl, q4⟩ := RdLW_w.1 q3
  obtain ⟨u4, us4, rfl, h4, q5⟩ := RdLW_cons.1 q4
  obtain ⟨us5, rfl, q6⟩ := RdLW_w.1 q5
  obtain ⟨u6, us6, rfl, h6, q7⟩ := RdLW_cons.1 q6
  obtain rfl := RdLW_nil.1 q7
  exact ⟨u2, u4, u6, rfl, h2, h4, h6⟩
theorem mkrd_eLink {w : World} {x : GLink} {v2 : Value} {v4 : Value} {v6 : Value} (h2 : RdW w (.s x.Exports.length (x.Exports.flatMap eExport)) v2) (h4 : RdW w (.s x.Questions.length (x.Questions.flatMap eQuestion)) v4) (h6 : RdW w (.s x.Answers.length (x.Answers.flatMap eQuestion)) v6) : RdLW w (eLink x) [.int .i64 x.Peer, .bool x.Up, v2, .int .i64 x.Next, v4, .int .i64 x.Asked, v6] := by
  unfold eLink
  exact RdLW_w.2 ⟨_, rfl, RdLW_w.2 ⟨_, rfl, RdLW_cons.2 ⟨_, _, rfl, h2, RdLW_w.2 ⟨_, rfl, RdLW_cons.2 ⟨_, _, rfl, h4, RdLW_w.2 ⟨_, rfl, RdLW_cons.2 ⟨_, _, rfl, h6, RdLW_nil.2 rfl⟩⟩⟩⟩⟩⟩⟩
theorem own_eLink {w : World} {x : GLink} {us : List Value} {fp : List Nat} (h : OwnL w (eLink x) us fp) : ∃ v2 f2 v4 f4 v6 f6, us = [.int .i64 x.Peer, .bool x.Up, v2, .int .i64 x.Next, v4, .int .i64 x.Asked, v6] ∧ fp = f2 ++ (f4 ++ (f6)) ∧ Own w (.s x.Exports.length (x.Exports.flatMap eExport)) v2 f2 ∧ Own w (.s x.Questions.length (x.Questions.flatMap eQuestion)) v4 f4 ∧ Own w (.s x.Answers.length (x.Answers.flatMap eQuestion)) v6 f6 := by
  unfold eLink at h
  have q0 := h
  clear h
  obtain ⟨us0, rfl, q1⟩ := OwnL_w.1 q0
  obtain ⟨us1, rfl, q2⟩ := OwnL_w.1 q1
  obtain ⟨u2, us2, g2, k2, rfl, rfl, h2, q3⟩ := OwnL_cons.1 q2
  obtain ⟨us3, rfl, q4⟩ := OwnL_w.1 q3
  obtain ⟨u4, us4, g4, k4, rfl, rfl, h4, q5⟩ := OwnL_cons.1 q4
  obtain ⟨us5, rfl, q6⟩ := OwnL_w.1 q5
  obtain ⟨u6, us6, g6, k6, rfl, rfl, h6, q7⟩ := OwnL_cons.1 q6
  obtain ⟨rfl, rfl⟩ := OwnL_nil.1 q7
  exact ⟨u2, g2, u4, g4, u6, g6, rfl, by simp only [List.append_nil, List.append_assoc], h2, h4, h6⟩
theorem mkown_eLink {w : World} {x : GLink} {v2 : Value} {f2 : List Nat} {v4 : Value} {f4 : List Nat} {v6 : Value} {f6 : List Nat} (h2 : Own w (.s x.Exports.length (x.Exports.flatMap eExport)) v2 f2) (h4 : Own w (.s x.Questions.length (x.Questions.flatMap eQuestion)) v4 f4) (h6 : Own w (.s x.Answers.length (x.Answers.flatMap eQuestion)) v6 f6) : OwnL w (eLink x) [.int .i64 x.Peer, .bool x.Up, v2, .int .i64 x.Next, v4, .int .i64 x.Asked, v6] (f2 ++ (f4 ++ (f6))) := by
  have h : OwnL w (eLink x) [.int .i64 x.Peer, .bool x.Up, v2, .int .i64 x.Next, v4, .int .i64 x.Asked, v6] (f2 ++ (f4 ++ (f6 ++ ([])))) := by
    unfold eLink
    exact OwnL_w.2 ⟨_, rfl, OwnL_w.2 ⟨_, rfl, OwnL_cons.2 ⟨_, _, f2, _, rfl, rfl, h2, OwnL_w.2 ⟨_, rfl, OwnL_cons.2 ⟨_, _, f4, _, rfl, rfl, h4, OwnL_w.2 ⟨_, rfl, OwnL_cons.2 ⟨_, _, f6, _, rfl, rfl, h6, OwnL_nil.2 ⟨rfl, rfl⟩⟩⟩⟩⟩⟩⟩⟩
  simpa only [List.append_nil, List.append_assoc] using h
theorem row_eLink {w : World} {xs : List GLink} {A : Option Addr} {c : Nat} (h : RdW w (.s xs.length (xs.flatMap eLink)) (.slice A xs.length c)) {i : Nat} {x : GLink} (hx : xs[i]? = some x) :
    ∃ ad v2 v4 v6, A = some ad ∧ ad.block < w.heap.size ∧ w.cell? (ad.add (i * 7)) = some (.int .i64 x.Peer) ∧ w.cell? ⟨(ad.add (i * 7)).block, (ad.add (i * 7)).off + 1, none⟩ = some (.bool x.Up) ∧ w.cell? ⟨(ad.add (i * 7)).block, (ad.add (i * 7)).off + 2, none⟩ = some (v2) ∧ w.cell? ⟨(ad.add (i * 7)).block, (ad.add (i * 7)).off + 3, none⟩ = some (.int .i64 x.Next) ∧ w.cell? ⟨(ad.add (i * 7)).block, (ad.add (i * 7)).off + 4, none⟩ = some (v4) ∧ w.cell? ⟨(ad.add (i * 7)).block, (ad.add (i * 7)).off + 5, none⟩ = some (.int .i64 x.Asked) ∧ w.cell? ⟨(ad.add (i * 7)).block, (ad.add (i * 7)).off + 6, none⟩ = some (v6) ∧ RdW w (.s x.Exports.length (x.Exports.flatMap eExport)) v2 ∧ RdW w (.s x.Questions.length (x.Questions.flatMap eQuestion)) v4 ∧ RdW w (.s x.Answers.length (x.Answers.flatMap eQuestion)) v6 := by
  obtain ⟨ad, ys, rfl, hb, hr, hc⟩ := RdW.at_ len_eLink h hx
  obtain ⟨v2, v4, v6, rfl, h2, h4, h6⟩ := rd_eLink hr
  exact ⟨ad, v2, v4, v6, rfl, hb, hc 0 _ rfl, (by rw [← add_field _ _ 1 (by omega)]; exact hc 1 _ rfl), (by rw [← add_field _ _ 2 (by omega)]; exact hc 2 _ rfl), (by rw [← add_field _ _ 3 (by omega)]; exact hc 3 _ rfl), (by rw [← add_field _ _ 4 (by omega)]; exact hc 4 _ rfl), (by rw [← add_field _ _ 5 (by omega)]; exact hc 5 _ rfl), (by rw [← add_field _ _ 6 (by omega)]; exact hc 6 _ rfl), h2, h4, h6⟩
theorem slim_eLink (x : GLink) : SlimL (eLink x) := SlimL_cons (Slim_v _) (SlimL_cons (Slim_v _) (SlimL_cons (Slim_flat _ 3 len_eExport (by omega) slim_eExport _) (SlimL_cons (Slim_v _) (SlimL_cons (Slim_flat _ 2 len_eQuestion (by omega) slim_eQuestion _) (SlimL_cons (Slim_v _) (SlimL_cons (Slim_flat _ 2 len_eQuestion (by omega) slim_eQuestion _) (SlimL_nil)))))))
theorem siz_eLink (x : GLink) : sizL (eLink x) = (x.Exports.length + sizL (x.Exports.flatMap eExport)) + (x.Questions.length + sizL (x.Questions.flatMap eQuestion)) + (x.Answers.length + sizL (x.Answers.flatMap eQuestion)) := by
  simp only [eLink, sizL_cons, sizL_nil, siz_s, siz_int, siz_str, siz_bool]
  first | done | omega | rfl
theorem cnt_eLink (x : GLink) : cntL (eLink x) = 1 + 1 + cntL (x.Exports.flatMap eExport) + 1 + cntL (x.Questions.flatMap eQuestion) + 1 + cntL (x.Answers.flatMap eQuestion) := by
  simp only [eLink, cntL_cons, cntL_nil, cnt_s, cnt_v]
  first | done | omega
theorem mk_eLink (x : GLink) (q : Int) (r2 : Int) (r4 : Int) (r6 : Int) (hr2 : r2 = q + 1 + 1 + (cntL (x.Exports.flatMap eExport) : Nat)) (hr4 : r4 = r2 + 1 + (cntL (x.Questions.flatMap eQuestion) : Nat)) (hr6 : r6 = r4 + 1 + (cntL (x.Answers.flatMap eQuestion) : Nat)) (b0 : 0 ≤ q) (b1 : q + cntL (eLink x) ≤ 4611686018427387904) : mkL (eLink x) q = [.v (.int .i64 q), .v (.bool (decide (Int.tmod (q + 1) 3 = 0))), .s x.Exports.length (mkL (x.Exports.flatMap eExport) (q + 1 + 1)), .v (.int .i64 r2), .s x.Questions.length (mkL (x.Questions.flatMap eQuestion) (r2 + 1)), .v (.int .i64 r4), .s x.Answers.length (mkL (x.Answers.flatMap eQuestion) (r4 + 1))] := by
  have hc := cnt_eLink x
  subst hr2
  subst hr4
  subst hr6
  simp only [eLink, mkL_cons, mkL_nil, mk_int, mk_str, mk_bool, mk_s, cnt_v, cnt_s, Int.natCast_one]
  rw [wrap_id (q) (by omega) (by omega)]
  rw [wrap_id ((q + 1 + 1 + (cntL (x.Exports.flatMap eExport) : Nat))) (by omega) (by omega)]
  rw [wrap_id (((q + 1 + 1 + (cntL (x.Exports.flatMap eExport) : Nat)) + 1 + (cntL (x.Questions.flatMap eQuestion) : Nat))) (by omega) (by omega)]
theorem rdm_eLink {w : World} {x : GLink} {us : List Value} (q : Int) (r2 : Int) (r4 : Int) (r6 : Int) (hr2 : r2 = q + 1 + 1 + (cntL (x.Exports.flatMap eExport) : Nat)) (hr4 : r4 = r2 + 1 + (cntL (x.Questions.flatMap eQuestion) : Nat)) (hr6 : r6 = r4 + 1 + (cntL (x.Answers.flatMap eQuestion) : Nat)) (b0 : 0 ≤ q) (b1 : q + cntL (eLink x) ≤ 4611686018427387904) (h : RdLW w (mkL (eLink x) q) us) : ∃ v2 v4 v6, us = [.int .i64 q, .bool (decide (Int.tmod (q + 1) 3 = 0)), v2, .int .i64 r2, v4, .int .i64 r4, v6] ∧ RdW w (.s x.Exports.length (mkL (x.Exports.flatMap eExport) (q + 1 + 1))) v2 ∧ RdW w (.s x.Questions.length (mkL (x.Questions.flatMap eQuestion) (r2 + 1))) v4 ∧ RdW w (.s x.Answers.length (mkL (x.Answers.flatMap eQuestion) (r4 + 1))) v6 := by
  rw [mk_eLink x q r2 r4 r6 hr2 hr4 hr6 b0 b1] at h
  have q0 := h
  clear h
  obtain ⟨us0, rfl, q1⟩ := RdLW_w.1 q0
  obtain ⟨us1, rfl, q2⟩ := RdLW_w.1 q1
  obtain ⟨u2, us2, rfl, h2, q3⟩ := RdLW_cons.1 q2
  obtain ⟨us3, rfl, q4⟩ := RdLW_w.1 q3
  obtain ⟨u4, us4, rfl, h4, q5⟩ := RdLW_cons.1 q4
  obtain ⟨us5, rfl, q6⟩ := RdLW_w.1 q5
  obtain ⟨u6, us6, rfl, h6, q7⟩ := RdLW_cons.1 q6
  obtain rfl := RdLW_nil.1 q7
  exact ⟨u2, u4, u6, rfl, h2, h4, h6⟩
theorem mkownm_eLink {w : World} {x : GLink} (q : Int) (r2 : Int) (r4 : Int) (r6 : Int) (hr2 : r2 = q + 1 + 1 + (cntL (x.Exports.flatMap eExport) : Nat)) (hr4 : r4 = r2 + 1 + (cntL (x.Questions.flatMap eQuestion) : Nat)) (hr6 : r6 = r4 + 1 + (cntL (x.Answers.flatMap eQuestion) : Nat)) (b0 : 0 ≤ q) (b1 : q + cntL (eLink x) ≤ 4611686018427387904) {v2 : Value} {f2 : List Nat} {v4 : Value} {f4 : List Nat} {v6 : Value} {f6 : List Nat} (h2 : Own w (.s x.Exports.length (mkL (x.Exports.flatMap eExport) (q + 1 + 1))) v2 f2) (h4 : Own w (.s x.Questions.length (mkL (x.Questions.flatMap eQuestion) (r2 + 1))) v4 f4) (h6 : Own w (.s x.Answers.length (mkL (x.Answers.flatMap eQuestion) (r4 + 1))) v6 f6) : OwnL w (mkL (eLink x) q) [.int .i64 q, .bool (decide (Int.tmod (q + 1) 3 = 0)), v2, .int .i64 r2, v4, .int .i64 r4, v6] (f2 ++ (f4 ++ (f6))) := by
  have h : OwnL w (mkL (eLink x) q) [.int .i64 q, .bool (decide (Int.tmod (q + 1) 3 = 0)), v2, .int .i64 r2, v4, .int .i64 r4, v6] (f2 ++ (f4 ++ (f6 ++ ([])))) := by
    rw [mk_eLink x q r2 r4 r6 hr2 hr4 hr6 b0 b1]
    exact OwnL_w.2 ⟨_, rfl, OwnL_w.2 ⟨_, rfl, OwnL_cons.2 ⟨_, _, f2, _, rfl, rfl, h2, OwnL_w.2 ⟨_, rfl, OwnL_cons.2 ⟨_, _, f4, _, rfl, rfl, h4, OwnL_w.2 ⟨_, rfl, OwnL_cons.2 ⟨_, _, f6, _, rfl, rfl, h6, OwnL_nil.2 ⟨rfl, rfl⟩⟩⟩⟩⟩⟩⟩⟩
  simpa only [List.append_nil, List.append_assoc] using h
theorem top_eLink (x : GLink) (q : Int) (r2 : Int) (r4 : Int) (r6 : Int) (hr2 : r2 = q + (cntL (x.Exports.flatMap eExport) : Nat)) (hr4 : r4 = r2 + (cntL (x.Questions.flatMap eQuestion) : Nat)) (hr6 : r6 = r4 + (cntL (x.Answers.flatMap eQuestion) : Nat)) : topL (eLink x) q = [.v (.int .i64 x.Peer), .v (.bool x.Up), .s x.Exports.length (mkL (x.Exports.flatMap eExport) q), .v (.int .i64 x.Next), .s x.Questions.length (mkL (x.Questions.flatMap eQuestion) r2), .v (.int .i64 x.Asked), .s x.Answers.length (mkL (x.Answers.flatMap eQuestion) r4)] := by
  subst hr2
  subst hr4
  subst hr6
  simp only [eLink, topL_v, topL_s, topL_nil]
theorem tcnt_eLink (x : GLink) : tcnt (eLink x) = cntL (x.Exports.flatMap eExport) + (cntL (x.Questions.flatMap eQuestion) + (cntL (x.Answers.flatMap eQuestion))) := by
  simp only [eLink, tcnt_v, tcnt_s, tcnt_nil, Nat.add_zero, Nat.add_assoc]
theorem mktop_eLink {w : World} {x : GLink} (q : Int) (r2 : Int) (r4 : Int) (r6 : Int) (hr2 : r2 = q + (cntL (x.Exports.flatMap eExport) : Nat)) (hr4 : r4 = r2 + (cntL (x.Questions.flatMap eQuestion) : Nat)) (hr6 : r6 = r4 + (cntL (x.Answers.flatMap eQuestion) : Nat)) {v2 : Value} {f2 : List Nat} {v4 : Value} {f4 : List Nat} {v6 : Value} {f6 : List Nat} (h2 : Own w (.s x.Exports.length (mkL (x.Exports.flatMap eExport) q)) v2 f2) (h4 : Own w (.s x.Questions.length (mkL (x.Questions.flatMap eQuestion) r2)) v4 f4) (h6 : Own w (.s x.Answers.length (mkL (x.Answers.flatMap eQuestion) r4)) v6 f6) : OwnL w (topL (eLink x) q) [.int .i64 x.Peer, .bool x.Up, v2, .int .i64 x.Next, v4, .int .i64 x.Asked, v6] (f2 ++ (f4 ++ (f6))) := by
  have h : OwnL w (topL (eLink x) q) [.int .i64 x.Peer, .bool x.Up, v2, .int .i64 x.Next, v4, .int .i64 x.Asked, v6] (f2 ++ (f4 ++ (f6 ++ ([])))) := by
    rw [top_eLink x q r2 r4 r6 hr2 hr4 hr6]
    exact OwnL_w.2 ⟨_, rfl, OwnL_w.2 ⟨_, rfl, OwnL_cons.2 ⟨_, _, f2, _, rfl, rfl, h2, OwnL_w.2 ⟨_, rfl, OwnL_cons.2 ⟨_, _, f4, _, rfl, rfl, h4, OwnL_w.2 ⟨_, rfl, OwnL_cons.2 ⟨_, _, f6, _, rfl, rfl, h6, OwnL_nil.2 ⟨rfl, rfl⟩⟩⟩⟩⟩⟩⟩⟩
  simpa only [List.append_nil, List.append_assoc] using h
theorem rdtop_eLink {w : World} {x : GLink} {us : List Value} (q : Int) (r2 : Int) (r4 : Int) (r6 : Int) (hr2 : r2 = q + (cntL (x.Exports.flatMap eExport) : Nat)) (hr4 : r4 = r2 + (cntL (x.Questions.flatMap eQuestion) : Nat)) (hr6 : r6 = r4 + (cntL (x.Answers.flatMap eQuestion) : Nat)) (h : RdLW w (topL (eLink x) q) us) : ∃ v2 v4 v6, us = [.int .i64 x.Peer, .bool x.Up, v2, .int .i64 x.Next, v4, .int .i64 x.Asked, v6] ∧ RdW w (.s x.Exports.length (mkL (x.Exports.flatMap eExport) q)) v2 ∧ RdW w (.s x.Questions.length (mkL (x.Questions.flatMap eQuestion) r2)) v4 ∧ RdW w (.s x.Answers.length (mkL (x.Answers.flatMap eQuestion) r4)) v6 := by
  rw [top_eLink x q r2 r4 r6 hr2 hr4 hr6] at h
  have q0 := h
  clear h
  obtain ⟨us0, rfl, q1⟩ := RdLW_w.1 q0
  obtain ⟨us1, rfl, q2⟩ := RdLW_w.1 q1
  obtain ⟨u2, us2, rfl, h2, q3⟩ := RdLW_cons.1 q2
  obtain ⟨us3, rfl, q4⟩ := RdLW_w.1 q3
  obtain ⟨u4, us4, rfl, h4, q5⟩ := RdLW_cons.1 q4
  obtain ⟨us5, rfl, q6⟩ := RdLW_w.1 q5
  obtain ⟨u6, us6, rfl, h6, q7⟩ := RdLW_cons.1 q6
  obtain rfl := RdLW_nil.1 q7
  exact ⟨u2, u4, u6, rfl, h2, h4, h6⟩
theorem len_eMessage (x : GMessage) : (eMessage x).length = 12 := rfl
theorem rd_eMessage {w : World} {x : GMessage} {us : List Value} (h : RdLW w (eMessage x) us) : ∃ v5, us = [.int .i64 x.Kind, .int .i64 x.Pos, .int .i64 x.Answer, .int .i64 x.Question, .string x.Name, v5, .int .i64 x.Value.Kind, .int .i64 x.Value.N, .int .i64 x.Count, .int .i64 x.Tag.Vat, .int .i64 x.Tag.Entity, .int .i64 x.Tag.Seq] ∧ RdW w (.s x.Args.length (x.Args.flatMap eWire)) v5 := by
  unfold eMessage at h
  have q0 := h
  clear h
  obtain ⟨us0, rfl, q1⟩ := RdLW_w.1 q0
  obtain ⟨us1, rfl, q2⟩ := RdLW_w.1 q1
  obtain ⟨us2, rfl, q3⟩ := RdLW_w.1 q2
  obtain ⟨us3, rfl, q4⟩ := RdLW_w.1 q3
  obtain ⟨us4, rfl, q5⟩ := RdLW_w.1 q4
  obtain ⟨u5, us5, rfl, h5, q6⟩ := RdLW_cons.1 q5
  obtain ⟨us6, rfl, q7⟩ := RdLW_w.1 q6
  obtain ⟨us7, rfl, q8⟩ := RdLW_w.1 q7
  obtain ⟨us8, rfl, q9⟩ := RdLW_w.1 q8
  obtain ⟨us9, rfl, q10⟩ := RdLW_w.1 q9
  obtain ⟨us10, rfl, q11⟩ := RdLW_w.1 q10
  obtain ⟨us11, rfl, q12⟩ := RdLW_w.1 q11
  obtain rfl := RdLW_nil.1 q12
  exact ⟨u5, rfl, h5⟩
theorem mkrd_eMessage {w : World} {x : GMessage} {v5 : Value} (h5 : RdW w (.s x.Args.length (x.Args.flatMap eWire)) v5) : RdLW w (eMessage x) [.int .i64 x.Kind, .int .i64 x.Pos, .int .i64 x.Answer, .int .i64 x.Question, .string x.Name, v5, .int .i64 x.Value.Kind, .int .i64 x.Value.N, .int .i64 x.Count, .int .i64 x.Tag.Vat, .int .i64 x.Tag.Entity, .int .i64 x.Tag.Seq] := by
  unfold eMessage
  exact RdLW_w.2 ⟨_, rfl, RdLW_w.2 ⟨_, rfl, RdLW_w.2 ⟨_, rfl, RdLW_w.2 ⟨_, rfl, RdLW_w.2 ⟨_, rfl, RdLW_cons.2 ⟨_, _, rfl, h5, RdLW_w.2 ⟨_, rfl, RdLW_w.2 ⟨_, rfl, RdLW_w.2 ⟨_, rfl, RdLW_w.2 ⟨_, rfl, RdLW_w.2 ⟨_, rfl, RdLW_w.2 ⟨_, rfl, RdLW_nil.2 rfl⟩⟩⟩⟩⟩⟩⟩⟩⟩⟩⟩⟩
theorem own_eMessage {w : World} {x : GMessage} {us : List Value} {fp : List Nat} (h : OwnL w (eMessage x) us fp) : ∃ v5 f5, us = [.int .i64 x.Kind, .int .i64 x.Pos, .int .i64 x.Answer, .int .i64 x.Question, .string x.Name, v5, .int .i64 x.Value.Kind, .int .i64 x.Value.N, .int .i64 x.Count, .int .i64 x.Tag.Vat, .int .i64 x.Tag.Entity, .int .i64 x.Tag.Seq] ∧ fp = f5 ∧ Own w (.s x.Args.length (x.Args.flatMap eWire)) v5 f5 := by
  unfold eMessage at h
  have q0 := h
  clear h
  obtain ⟨us0, rfl, q1⟩ := OwnL_w.1 q0
  obtain ⟨us1, rfl, q2⟩ := OwnL_w.1 q1
  obtain ⟨us2, rfl, q3⟩ := OwnL_w.1 q2
  obtain ⟨us3, rfl, q4⟩ := OwnL_w.1 q3
  obtain ⟨us4, rfl, q5⟩ := OwnL_w.1 q4
  obtain ⟨u5, us5, g5, k5, rfl, rfl, h5, q6⟩ := OwnL_cons.1 q5
  obtain ⟨us6, rfl, q7⟩ := OwnL_w.1 q6
  obtain ⟨us7, rfl, q8⟩ := OwnL_w.1 q7
  obtain ⟨us8, rfl, q9⟩ := OwnL_w.1 q8
  obtain ⟨us9, rfl, q10⟩ := OwnL_w.1 q9
  obtain ⟨us10, rfl, q11⟩ := OwnL_w.1 q10
  obtain ⟨us11, rfl, q12⟩ := OwnL_w.1 q11
  obtain ⟨rfl, rfl⟩ := OwnL_nil.1 q12
  exact ⟨u5, g5, rfl, by simp only [List.append_nil, List.append_assoc], h5⟩
theorem mkown_eMessage {w : World} {x : GMessage} {v5 : Value} {f5 : List Nat} (h5 : Own w (.s x.Args.length (x.Args.flatMap eWire)) v5 f5) : OwnL w (eMessage x) [.int .i64 x.Kind, .int .i64 x.Pos, .int .i64 x.Answer, .int .i64 x.Question, .string x.Name, v5, .int .i64 x.Value.Kind, .int .i64 x.Value.N, .int .i64 x.Count, .int .i64 x.Tag.Vat, .int .i64 x.Tag.Entity, .int .i64 x.Tag.Seq] (f5) := by
  have h : OwnL w (eMessage x) [.int .i64 x.Kind, .int .i64 x.Pos, .int .i64 x.Answer, .int .i64 x.Question, .string x.Name, v5, .int .i64 x.Value.Kind, .int .i64 x.Value.N, .int .i64 x.Count, .int .i64 x.Tag.Vat, .int .i64 x.Tag.Entity, .int .i64 x.Tag.Seq] (f5 ++ ([])) := by
    unfold eMessage
    exact OwnL_w.2 ⟨_, rfl, OwnL_w.2 ⟨_, rfl, OwnL_w.2 ⟨_, rfl, OwnL_w.2 ⟨_, rfl, OwnL_w.2 ⟨_, rfl, OwnL_cons.2 ⟨_, _, f5, _, rfl, rfl, h5, OwnL_w.2 ⟨_, rfl, OwnL_w.2 ⟨_, rfl, OwnL_w.2 ⟨_, rfl, OwnL_w.2 ⟨_, rfl, OwnL_w.2 ⟨_, rfl, OwnL_w.2 ⟨_, rfl, OwnL_nil.2 ⟨rfl, rfl⟩⟩⟩⟩⟩⟩⟩⟩⟩⟩⟩⟩⟩
  simpa only [List.append_nil, List.append_assoc] using h
theorem row_eMessage {w : World} {xs : List GMessage} {A : Option Addr} {c : Nat} (h : RdW w (.s xs.length (xs.flatMap eMessage)) (.slice A xs.length c)) {i : Nat} {x : GMessage} (hx : xs[i]? = some x) :
    ∃ ad v5, A = some ad ∧ ad.block < w.heap.size ∧ w.cell? (ad.add (i * 12)) = some (.int .i64 x.Kind) ∧ w.cell? ⟨(ad.add (i * 12)).block, (ad.add (i * 12)).off + 1, none⟩ = some (.int .i64 x.Pos) ∧ w.cell? ⟨(ad.add (i * 12)).block, (ad.add (i * 12)).off + 2, none⟩ = some (.int .i64 x.Answer) ∧ w.cell? ⟨(ad.add (i * 12)).block, (ad.add (i * 12)).off + 3, none⟩ = some (.int .i64 x.Question) ∧ w.cell? ⟨(ad.add (i * 12)).block, (ad.add (i * 12)).off + 4, none⟩ = some (.string x.Name) ∧ w.cell? ⟨(ad.add (i * 12)).block, (ad.add (i * 12)).off + 5, none⟩ = some (v5) ∧ w.cell? ⟨(ad.add (i * 12)).block, (ad.add (i * 12)).off + 6, none⟩ = some (.int .i64 x.Value.Kind) ∧ w.cell? ⟨(ad.add (i * 12)).block, (ad.add (i * 12)).off + 7, none⟩ = some (.int .i64 x.Value.N) ∧ w.cell? ⟨(ad.add (i * 12)).block, (ad.add (i * 12)).off + 8, none⟩ = some (.int .i64 x.Count) ∧ w.cell? ⟨(ad.add (i * 12)).block, (ad.add (i * 12)).off + 9, none⟩ = some (.int .i64 x.Tag.Vat) ∧ w.cell? ⟨(ad.add (i * 12)).block, (ad.add (i * 12)).off + 10, none⟩ = some (.int .i64 x.Tag.Entity) ∧ w.cell? ⟨(ad.add (i * 12)).block, (ad.add (i * 12)).off + 11, none⟩ = some (.int .i64 x.Tag.Seq) ∧ RdW w (.s x.Args.length (x.Args.flatMap eWire)) v5 := by
  obtain ⟨ad, ys, rfl, hb, hr, hc⟩ := RdW.at_ len_eMessage h hx
  obtain ⟨v5, rfl, h5⟩ := rd_eMessage hr
  exact ⟨ad, v5, rfl, hb, hc 0 _ rfl, (by rw [← add_field _ _ 1 (by omega)]; exact hc 1 _ rfl), (by rw [← add_field _ _ 2 (by omega)]; exact hc 2 _ rfl), (by rw [← add_field _ _ 3 (by omega)]; exact hc 3 _ rfl), (by rw [← add_field _ _ 4 (by omega)]; exact hc 4 _ rfl), (by rw [← add_field _ _ 5 (by omega)]; exact hc 5 _ rfl), (by rw [← add_field _ _ 6 (by omega)]; exact hc 6 _ rfl), (by rw [← add_field _ _ 7 (by omega)]; exact hc 7 _ rfl), (by rw [← add_field _ _ 8 (by omega)]; exact hc 8 _ rfl), (by rw [← add_field _ _ 9 (by omega)]; exact hc 9 _ rfl), (by rw [← add_field _ _ 10 (by omega)]; exact hc 10 _ rfl), (by rw [← add_field _ _ 11 (by omega)]; exact hc 11 _ rfl), h5⟩
theorem slim_eMessage (x : GMessage) : SlimL (eMessage x) := SlimL_cons (Slim_v _) (SlimL_cons (Slim_v _) (SlimL_cons (Slim_v _) (SlimL_cons (Slim_v _) (SlimL_cons (Slim_v _) (SlimL_cons (Slim_flat _ 2 len_eWire (by omega) slim_eWire _) (SlimL_cons (Slim_v _) (SlimL_cons (Slim_v _) (SlimL_cons (Slim_v _) (SlimL_cons (Slim_v _) (SlimL_cons (Slim_v _) (SlimL_cons (Slim_v _) (SlimL_nil))))))))))))
theorem siz_eMessage (x : GMessage) : sizL (eMessage x) = x.Name.size + (x.Args.length + sizL (x.Args.flatMap eWire)) := by
  simp only [eMessage, sizL_cons, sizL_nil, siz_s, siz_int, siz_str, siz_bool]
  first | done | omega | rfl
theorem cnt_eMessage (x : GMessage) : cntL (eMessage x) = 1 + 1 + 1 + 1 + 1 + cntL (x.Args.flatMap eWire) + 1 + 1 + 1 + 1 + 1 + 1 := by
  simp only [eMessage, cntL_cons, cntL_nil, cnt_s, cnt_v]
  first | done | omega
theorem mk_eMessage (x : GMessage) (q : Int) (r5 : Int) (hr5 : r5 = q + 1 + 1 + 1 + 1 + 1 + (cntL (x.Args.flatMap eWire) : Nat)) (b0 : 0 ≤ q) (b1 : q + cntL (eMessage x) ≤ 4611686018427387904) : mkL (eMessage x) q = [.v (.int .i64 q), .v (.int .i64 (q + 1)), .v (.int .i64 (q + 1 + 1)), .v (.int .i64 (q + 1 + 1 + 1)), .v (.string (mkText (q + 1 + 1 + 1 + 1))), .s x.Args.length (mkL (x.Args.flatMap eWire) (q + 1 + 1 + 1 + 1 + 1)), .v (.int .i64 r5), .v (.int .i64 (r5 + 1)), .v (.int .i64 (r5 + 1 + 1)), .v (.int .i64 (r5 + 1 + 1 + 1)), .v (.int .i64 (r5 + 1 + 1 + 1 + 1)), .v (.int .i64 (r5 + 1 + 1 + 1 + 1 + 1))] := by
  have hc := cnt_eMessage x
  subst hr5
  simp only [eMessage, mkL_cons, mkL_nil, mk_int, mk_str, mk_bool, mk_s, cnt_v, cnt_s, Int.natCast_one]
  rw [wrap_id (q) (by omega) (by omega)]
  rw [wrap_id (q + 1) (by omega) (by omega)]
  rw [wrap_id (q + 1 + 1) (by omega) (by omega)]
  rw [wrap_id (q + 1 + 1 + 1) (by omega) (by omega)]
  rw [wrap_id ((q + 1 + 1 + 1 + 1 + 1 + (cntL (x.Args.flatMap eWire) : Nat))) (by omega) (by omega)]
  rw [wrap_id ((q + 1 + 1 + 1 + 1 + 1 + (cntL (x.Args.flatMap eWire) : Nat)) + 1) (by omega) (by omega)]
  rw [wrap_id ((q + 1 + 1 + 1 + 1 + 1 + (cntL (x.Args.flatMap eWire) : Nat)) + 1 + 1) (by omega) (by omega)]
  rw [wrap_id ((q + 1 + 1 + 1 + 1 + 1 + (cntL (x.Args.flatMap eWire) : Nat)) + 1 + 1 + 1) (by omega) (by omega)]
  rw [wrap_id ((q + 1 + 1 + 1 + 1 + 1 + (cntL (x.Args.flatMap eWire) : Nat)) + 1 + 1 + 1 + 1) (by omega) (by omega)]
  rw [wrap_id ((q + 1 + 1 + 1 + 1 + 1 + (cntL (x.Args.flatMap eWire) : Nat)) + 1 + 1 + 1 + 1 + 1) (by omega) (by omega)]
theorem rdm_eMessage {w : World} {x : GMessage} {us : List Value} (q : Int) (r5 : Int) (hr5 : r5 = q + 1 + 1 + 1 + 1 + 1 + (cntL (x.Args.flatMap eWire) : Nat)) (b0 : 0 ≤ q) (b1 : q + cntL (eMessage x) ≤ 4611686018427387904) (h : RdLW w (mkL (eMessage x) q) us) : ∃ v5, us = [.int .i64 q, .int .i64 (q + 1), .int .i64 (q + 1 + 1), .int .i64 (q + 1 + 1 + 1), .string (mkText (q + 1 + 1 + 1 + 1)), v5, .int .i64 r5, .int .i64 (r5 + 1), .int .i64 (r5 + 1 + 1), .int .i64 (r5 + 1 + 1 + 1), .int .i64 (r5 + 1 + 1 + 1 + 1), .int .i64 (r5 + 1 + 1 + 1 + 1 + 1)] ∧ RdW w (.s x.Args.length (mkL (x.Args.flatMap eWire) (q + 1 + 1 + 1 + 1 + 1))) v5 := by
  rw [mk_eMessage x q r5 hr5 b0 b1] at h
  have q0 := h
  clear h
  obtain ⟨us0, rfl, q1⟩ := RdLW_w.1 q0
  obtain ⟨us1, rfl, q2⟩ := RdLW_w.1 q1
  obtain ⟨us2, rfl, q3⟩ := RdLW_w.1 q2
  obtain ⟨us3, rfl, q4⟩ := RdLW_w.1 q3
  obtain ⟨us4, rfl, q5⟩ := RdLW_w.1 q4
  obtain ⟨u5, us5, rfl, h5, q6⟩ := RdLW_cons.1 q5
  obtain ⟨us6, rfl, q7⟩ := RdLW_w.1 q6
  obtain ⟨us7, rfl, q8⟩ := RdLW_w.1 q7
  obtain ⟨us8, rfl, q9⟩ := RdLW_w.1 q8
  obtain ⟨us9, rfl, q10⟩ := RdLW_w.1 q9
  obtain ⟨us10, rfl, q11⟩ := RdLW_w.1 q10
  obtain ⟨us11, rfl, q12⟩ := RdLW_w.1 q11
  obtain rfl := RdLW_nil.1 q12
  exact ⟨u5, rfl, h5⟩
theorem mkownm_eMessage {w : World} {x : GMessage} (q : Int) (r5 : Int) (hr5 : r5 = q + 1 + 1 + 1 + 1 + 1 + (cntL (x.Args.flatMap eWire) : Nat)) (b0 : 0 ≤ q) (b1 : q + cntL (eMessage x) ≤ 4611686018427387904) {v5 : Value} {f5 : List Nat} (h5 : Own w (.s x.Args.length (mkL (x.Args.flatMap eWire) (q + 1 + 1 + 1 + 1 + 1))) v5 f5) : OwnL w (mkL (eMessage x) q) [.int .i64 q, .int .i64 (q + 1), .int .i64 (q + 1 + 1), .int .i64 (q + 1 + 1 + 1), .string (mkText (q + 1 + 1 + 1 + 1)), v5, .int .i64 r5, .int .i64 (r5 + 1), .int .i64 (r5 + 1 + 1), .int .i64 (r5 + 1 + 1 + 1), .int .i64 (r5 + 1 + 1 + 1 + 1), .int .i64 (r5 + 1 + 1 + 1 + 1 + 1)] (f5) := by
  have h : OwnL w (mkL (eMessage x) q) [.int .i64 q, .int .i64 (q + 1), .int .i64 (q + 1 + 1), .int .i64 (q + 1 + 1 + 1), .string (mkText (q + 1 + 1 + 1 + 1)), v5, .int .i64 r5, .int .i64 (r5 + 1), .int .i64 (r5 + 1 + 1), .int .i64 (r5 + 1 + 1 + 1), .int .i64 (r5 + 1 + 1 + 1 + 1), .int .i64 (r5 + 1 + 1 + 1 + 1 + 1)] (f5 ++ ([])) := by
    rw [mk_eMessage x q r5 hr5 b0 b1]
    exact OwnL_w.2 ⟨_, rfl, OwnL_w.2 ⟨_, rfl, OwnL_w.2 ⟨_, rfl, OwnL_w.2 ⟨_, rfl, OwnL_w.2 ⟨_, rfl, OwnL_cons.2 ⟨_, _, f5, _, rfl, rfl, h5, OwnL_w.2 ⟨_, rfl, OwnL_w.2 ⟨_, rfl, OwnL_w.2 ⟨_, rfl, OwnL_w.2 ⟨_, rfl, OwnL_w.2 ⟨_, rfl, OwnL_w.2 ⟨_, rfl, OwnL_nil.2 ⟨rfl, rfl⟩⟩⟩⟩⟩⟩⟩⟩⟩⟩⟩⟩⟩
  simpa only [List.append_nil, List.append_assoc] using h
theorem str_eMessage {x : GMessage} (h : StrOkL (eMessage x)) : x.Name.size ≤ 140737488355328 := by
  simp only [eMessage, StrOkL_cons, StrOkL_nil, StrOk_str, StrOk_int, StrOk_bool, StrOk_s, true_and, and_true] at h
  simp_all
theorem top_eMessage (x : GMessage) (q : Int) (r5 : Int) (hr5 : r5 = q + (cntL (x.Args.flatMap eWire) : Nat)) : topL (eMessage x) q = [.v (.int .i64 x.Kind), .v (.int .i64 x.Pos), .v (.int .i64 x.Answer), .v (.int .i64 x.Question), .v (.string x.Name), .s x.Args.length (mkL (x.Args.flatMap eWire) q), .v (.int .i64 x.Value.Kind), .v (.int .i64 x.Value.N), .v (.int .i64 x.Count), .v (.int .i64 x.Tag.Vat), .v (.int .i64 x.Tag.Entity), .v (.int .i64 x.Tag.Seq)] := by
  subst hr5
  simp only [eMessage, topL_v, topL_s, topL_nil]
theorem tcnt_eMessage (x : GMessage) : tcnt (eMessage x) = cntL (x.Args.flatMap eWire) := by
  simp only [eMessage, tcnt_v, tcnt_s, tcnt_nil, Nat.add_zero, Nat.add_assoc]
theorem mktop_eMessage {w : World} {x : GMessage} (q : Int) (r5 : Int) (hr5 : r5 = q + (cntL (x.Args.flatMap eWire) : Nat)) {v5 : Value} {f5 : List Nat} (h5 : Own w (.s x.Args.length (mkL (x.Args.flatMap eWire) q)) v5 f5) : OwnL w (topL (eMessage x) q) [.int .i64 x.Kind, .int .i64 x.Pos, .int .i64 x.Answer, .int .i64 x.Question, .string x.Name, v5, .int .i64 x.Value.Kind, .int .i64 x.Value.N, .int .i64 x.Count, .int .i64 x.Tag.Vat, .int .i64 x.Tag.Entity, .int .i64 x.Tag.Seq] (f5) := by
  have h : OwnL w (topL (eMessage x) q) [.int .i64 x.Kind, .int .i64 x.Pos, .int .i64 x.Answer, .int .i64 x.Question, .string x.Name, v5, .int .i64 x.Value.Kind, .int .i64 x.Value.N, .int .i64 x.Count, .int .i64 x.Tag.Vat, .int .i64 x.Tag.Entity, .int .i64 x.Tag.Seq] (f5 ++ ([])) := by
    rw [top_eMessage x q r5 hr5]
    exact OwnL_w.2 ⟨_, rfl, OwnL_w.2 ⟨_, rfl, OwnL_w.2 ⟨_, rfl, OwnL_w.2 ⟨_, rfl, OwnL_w.2 ⟨_, rfl, OwnL_cons.2 ⟨_, _, f5, _, rfl, rfl, h5, OwnL_w.2 ⟨_, rfl, OwnL_w.2 ⟨_, rfl, OwnL_w.2 ⟨_, rfl, OwnL_w.2 ⟨_, rfl, OwnL_w.2 ⟨_, rfl, OwnL_w.2 ⟨_, rfl, OwnL_nil.2 ⟨rfl, rfl⟩⟩⟩⟩⟩⟩⟩⟩⟩⟩⟩⟩⟩
  simpa only [List.append_nil, List.append_assoc] using h
theorem rdtop_eMessage {w : World} {x : GMessage} {us : List Value} (q : Int) (r5 : Int) (hr5 : r5 = q + (cntL (x.Args.flatMap eWire) : Nat)) (h : RdLW w (topL (eMessage x) q) us) : ∃ v5, us = [.int .i64 x.Kind, .int .i64 x.Pos, .int .i64 x.Answer, .int .i64 x.Question, .string x.Name, v5, .int .i64 x.Value.Kind, .int .i64 x.Value.N, .int .i64 x.Count, .int .i64 x.Tag.Vat, .int .i64 x.Tag.Entity, .int .i64 x.Tag.Seq] ∧ RdW w (.s x.Args.length (mkL (x.Args.flatMap eWire) q)) v5 := by
  rw [top_eMessage x q r5 hr5] at h
  have q0 := h
  clear h
  obtain ⟨us0, rfl, q1⟩ := RdLW_w.1 q0
  obtain ⟨us1, rfl, q2⟩ := RdLW_w.1 q1
  obtain ⟨us2, rfl, q3⟩ := RdLW_w.1 q2
  obtain ⟨us3, rfl, q4⟩ := RdLW_w.1 q3
  obtain ⟨us4, rfl, q5⟩ := RdLW_w.1 q4
  obtain ⟨u5, us5, rfl, h5, q6⟩ := RdLW_cons.1 q5
  obtain ⟨us6, rfl, q7⟩ := RdLW_w.1 q6
  obtain ⟨us7, rfl, q8⟩ := RdLW_w.1 q7
  obtain ⟨us8, rfl, q9⟩ := RdLW_w.1 q8
  obtain ⟨us9, rfl, q10⟩ := RdLW_w.1 q9
  obtain ⟨us10, rfl, q11⟩ := RdLW_w.1 q10
  obtain ⟨us11, rfl, q12⟩ := RdLW_w.1 q11
  obtain rfl := RdLW_nil.1 q12
  exact ⟨u5, rfl, h5⟩
theorem len_eOutgoing (x : GOutgoing) : (eOutgoing x).length = 13 := rfl
theorem rd_eOutgoing {w : World} {x : GOutgoing} {us : List Value} (h : RdLW w (eOutgoing x) us) : ∃ v6, us = [.int .i64 x.To, .int .i64 x.Message.Kind, .int .i64 x.Message.Pos, .int .i64 x.Message.Answer, .int .i64 x.Message.Question, .string x.Message.Name, v6, .int .i64 x.Message.Value.Kind, .int .i64 x.Message.Value.N, .int .i64 x.Message.Count, .int .i64 x.Message.Tag.Vat, .int .i64 x.Message.Tag.Entity, .int .i64 x.Message.Tag.Seq] ∧ RdW w (.s x.Message.Args.length (x.Message.Args.flatMap eWire)) v6 := by
  unfold eOutgoing at h
  have q0 := h
  clear h
  obtain ⟨us0, rfl, q1⟩ := RdLW_w.1 q0
  obtain ⟨us1, rfl, q2⟩ := RdLW_w.1 q1
  obtain ⟨us2, rfl, q3⟩ := RdLW_w.1 q2
  obtain ⟨us3, rfl, q4⟩ := RdLW_w.1 q3
  obtain ⟨us4, rfl, q5⟩ := RdLW_w.1 q4
  obtain ⟨us5, rfl, q6⟩ := RdLW_w.1 q5
  obtain ⟨u6, us6, rfl, h6, q7⟩ := RdLW_cons.1 q6
  obtain ⟨us7, rfl, q8⟩ := RdLW_w.1 q7
  obtain ⟨us8, rfl, q9⟩ := RdLW_w.1 q8
  obtain ⟨us9, rfl, q10⟩ := RdLW_w.1 q9
  obtain ⟨us10, rfl, q11⟩ := RdLW_w.1 q10
  obtain ⟨us11, rfl, q12⟩ := RdLW_w.1 q11
  obtain ⟨us12, rfl, q13⟩ := RdLW_w.1 q12
  obtain rfl := RdLW_nil.1 q13
  exact ⟨u6, rfl, h6⟩
theorem mkrd_eOutgoing {w : World} {x : GOutgoing} {v6 : Value} (h6 : RdW w (.s x.Message.Args.length (x.Message.Args.flatMap eWire)) v6) : RdLW w (eOutgoing x) [.int .i64 x.To, .int .i64 x.Message.Kind, .int .i64 x.Message.Pos, .int .i64 x.Message.Answer, .int .i64 x.Message.Question, .string x.Message.Name, v6, .int .i64 x.Message.Value.Kind, .int .i64 x.Message.Value.N, .int .i64 x.Message.Count, .int .i64 x.Message.Tag.Vat, .int .i64 x.Message.Tag.Entity, .int .i64 x.Message.Tag.Seq] := by
  unfold eOutgoing
  exact RdLW_w.2 ⟨_, rfl, RdLW_w.2 ⟨_, rfl, RdLW_w.2 ⟨_, rfl, RdLW_w.2 ⟨_, rfl, RdLW_w.2 ⟨_, rfl, RdLW_w.2 ⟨_, rfl, RdLW_cons.2 ⟨_, _, rfl, h6, RdLW_w.2 ⟨_, rfl, RdLW_w.2 ⟨_, rfl, RdLW_w.2 ⟨_, rfl, RdLW_w.2 ⟨_, rfl, RdLW_w.2 ⟨_, rfl, RdLW_w.2 ⟨_, rfl, RdLW_nil.2 rfl⟩⟩⟩⟩⟩⟩⟩⟩⟩⟩⟩⟩⟩
theorem own_eOutgoing {w : World} {x : GOutgoing} {us : List Value} {fp : List Nat} (h : OwnL w (eOutgoing x) us fp) : ∃ v6 f6, us = [.int .i64 x.To, .int .i64 x.Message.Kind, .int .i64 x.Message.Pos, .int .i64 x.Message.Answer, .int .i64 x.Message.Question, .string x.Message.Name, v6, .int .i64 x.Message.Value.Kind, .int .i64 x.Message.Value.N, .int .i64 x.Message.Count, .int .i64 x.Message.Tag.Vat, .int .i64 x.Message.Tag.Entity, .int .i64 x.Message.Tag.Seq] ∧ fp = f6 ∧ Own w (.s x.Message.Args.length (x.Message.Args.flatMap eWire)) v6 f6 := by
  unfold eOutgoing at h
  have q0 := h
  clear h
  obtain ⟨us0, rfl, q1⟩ := OwnL_w.1 q0
  obtain ⟨us1, rfl, q2⟩ := OwnL_w.1 q1
  obtain ⟨us2, rfl, q3⟩ := OwnL_w.1 q2
  obtain ⟨us3, rfl, q4⟩ := OwnL_w.1 q3
  obtain ⟨us4, rfl, q5⟩ := OwnL_w.1 q4
  obtain ⟨us5, rfl, q6⟩ := OwnL_w.1 q5
  obtain ⟨u6, us6, g6, k6, rfl, rfl, h6, q7⟩ := OwnL_cons.1 q6
  obtain ⟨us7, rfl, q8⟩ := OwnL_w.1 q7
  obtain ⟨us8, rfl, q9⟩ := OwnL_w.1 q8
  obtain ⟨us9, rfl, q10⟩ := OwnL_w.1 q9
  obtain ⟨us10, rfl, q11⟩ := OwnL_w.1 q10
  obtain ⟨us11, rfl, q12⟩ := OwnL_w.1 q11
  obtain ⟨us12, rfl, q13⟩ := OwnL_w.1 q12
  obtain ⟨rfl, rfl⟩ := OwnL_nil.1 q13
  exact ⟨u6, g6, rfl, by simp only [List.append_nil, List.append_assoc], h6⟩
theorem mkown_eOutgoing {w : World} {x : GOutgoing} {v6 : Value} {f6 : List Nat} (h6 : Own w (.s x.Message.Args.length (x.Message.Args.flatMap eWire)) v6 f6) : OwnL w (eOutgoing x) [.int .i64 x.To, .int .i64 x.Message.Kind, .int .i64 x.Message.Pos, .int .i64 x.Message.Answer, .int .i64 x.Message.Question, .string x.Message.Name, v6, .int .i64 x.Message.Value.Kind, .int .i64 x.Message.Value.N, .int .i64 x.Message.Count, .int .i64 x.Message.Tag.Vat, .int .i64 x.Message.Tag.Entity, .int .i64 x.Message.Tag.Seq] (f6) := by
  have h : OwnL w (eOutgoing x) [.int .i64 x.To, .int .i64 x.Message.Kind, .int .i64 x.Message.Pos, .int .i64 x.Message.Answer, .int .i64 x.Message.Question, .string x.Message.Name, v6, .int .i64 x.Message.Value.Kind, .int .i64 x.Message.Value.N, .int .i64 x.Message.Count, .int .i64 x.Message.Tag.Vat, .int .i64 x.Message.Tag.Entity, .int .i64 x.Message.Tag.Seq] (f6 ++ ([])) := by
    unfold eOutgoing
    exact OwnL_w.2 ⟨_, rfl, OwnL_w.2 ⟨_, rfl, OwnL_w.2 ⟨_, rfl, OwnL_w.2 ⟨_, rfl, OwnL_w.2 ⟨_, rfl, OwnL_w.2 ⟨_, rfl, OwnL_cons.2 ⟨_, _, f6, _, rfl, rfl, h6, OwnL_w.2 ⟨_, rfl, OwnL_w.2 ⟨_, rfl, OwnL_w.2 ⟨_, rfl, OwnL_w.2 ⟨_, rfl, OwnL_w.2 ⟨_, rfl, OwnL_w.2 ⟨_, rfl, OwnL_nil.2 ⟨rfl, rfl⟩⟩⟩⟩⟩⟩⟩⟩⟩⟩⟩⟩⟩⟩
  simpa only [List.append_nil, List.append_assoc] using h
theorem row_eOutgoing {w : World} {xs : List GOutgoing} {A : Option Addr} {c : Nat} (h : RdW w (.s xs.length (xs.flatMap eOutgoing)) (.slice A xs.length c)) {i : Nat} {x : GOutgoing} (hx : xs[i]? = some x) :
    ∃ ad v6, A = some ad ∧ ad.block < w.heap.size ∧ w.cell? (ad.add (i * 13)) = some (.int .i64 x.To) ∧ w.cell? ⟨(ad.add (i * 13)).block, (ad.add (i * 13)).off + 1, none⟩ = some (.int .i64 x.Message.Kind) ∧ w.cell? ⟨(ad.add (i * 13)).block, (ad.add (i * 13)).off + 2, none⟩ = some (.int .i64 x.Message.Pos) ∧ w.cell? ⟨(ad.add (i * 13)).block, (ad.add (i * 13)).off + 3, none⟩ = some (.int .i64 x.Message.Answer) ∧ w.cell? ⟨(ad.add (i * 13)).block, (ad.add (i * 13)).off + 4, none⟩ = some (.int .i64 x.Message.Question) ∧ w.cell? ⟨(ad.add (i * 13)).block, (ad.add (i * 13)).off + 5, none⟩ = some (.string x.Message.Name) ∧ w.cell? ⟨(ad.add (i * 13)).block, (ad.add (i * 13)).off + 6, none⟩ = some (v6) ∧ w.cell? ⟨(ad.add (i * 13)).block, (ad.add (i * 13)).off + 7, none⟩ = some (.int .i64 x.Message.Value.Kind) ∧ w.cell? ⟨(ad.add (i * 13)).block, (ad.add (i * 13)).off + 8, none⟩ = some (.int .i64 x.Message.Value.N) ∧ w.cell? ⟨(ad.add (i * 13)).block, (ad.add (i * 13)).off + 9, none⟩ = some (.int .i64 x.Message.Count) ∧ w.cell? ⟨(ad.add (i * 13)).block, (ad.add (i * 13)).off + 10, none⟩ = some (.int .i64 x.Message.Tag.Vat) ∧ w.cell? ⟨(ad.add (i * 13)).block, (ad.add (i * 13)).off + 11, none⟩ = some (.int .i64 x.Message.Tag.Entity) ∧ w.cell? ⟨(ad.add (i * 13)).block, (ad.add (i * 13)).off + 12, none⟩ = some (.int .i64 x.Message.Tag.Seq) ∧ RdW w (.s x.Message.Args.length (x.Message.Args.flatMap eWire)) v6 := by
  obtain ⟨ad, ys, rfl, hb, hr, hc⟩ := RdW.at_ len_eOutgoing h hx
  obtain ⟨v6, rfl, h6⟩ := rd_eOutgoing hr
  exact ⟨ad, v6, rfl, hb, hc 0 _ rfl, (by rw [← add_field _ _ 1 (by omega)]; exact hc 1 _ rfl), (by rw [← add_field _ _ 2 (by omega)]; exact hc 2 _ rfl), (by rw [← add_field _ _ 3 (by omega)]; exact hc 3 _ rfl), (by rw [← add_field _ _ 4 (by omega)]; exact hc 4 _ rfl), (by rw [← add_field _ _ 5 (by omega)]; exact hc 5 _ rfl), (by rw [← add_field _ _ 6 (by omega)]; exact hc 6 _ rfl), (by rw [← add_field _ _ 7 (by omega)]; exact hc 7 _ rfl), (by rw [← add_field _ _ 8 (by omega)]; exact hc 8 _ rfl), (by rw [← add_field _ _ 9 (by omega)]; exact hc 9 _ rfl), (by rw [← add_field _ _ 10 (by omega)]; exact hc 10 _ rfl), (by rw [← add_field _ _ 11 (by omega)]; exact hc 11 _ rfl), (by rw [← add_field _ _ 12 (by omega)]; exact hc 12 _ rfl), h6⟩
theorem slim_eOutgoing (x : GOutgoing) : SlimL (eOutgoing x) := SlimL_cons (Slim_v _) (SlimL_cons (Slim_v _) (SlimL_cons (Slim_v _) (SlimL_cons (Slim_v _) (SlimL_cons (Slim_v _) (SlimL_cons (Slim_v _) (SlimL_cons (Slim_flat _ 2 len_eWire (by omega) slim_eWire _) (SlimL_cons (Slim_v _) (SlimL_cons (Slim_v _) (SlimL_cons (Slim_v _) (SlimL_cons (Slim_v _) (SlimL_cons (Slim_v _) (SlimL_cons (Slim_v _) (SlimL_nil)))))))))))))
theorem siz_eOutgoing (x : GOutgoing) : sizL (eOutgoing x) = x.Message.Name.size + (x.Message.Args.length + sizL (x.Message.Args.flatMap eWire)) := by
  simp only [eOutgoing, sizL_cons, sizL_nil, siz_s, siz_int, siz_str, siz_bool]
  first | done | omega | rfl
theorem cnt_eOutgoing (x : GOutgoing) : cntL (eOutgoing x) = 1 + 1 + 1 + 1 + 1 + 1 + cntL (x.Message.Args.flatMap eWire) + 1 + 1 + 1 + 1 + 1 + 1 := by
  simp only [eOutgoing, cntL_cons, cntL_nil, cnt_s, cnt_v]
  first | done | omega
theorem mk_eOutgoing (x : GOutgoing) (q : Int) (r6 : Int) (hr6 : r6 = q + 1 + 1 + 1 + 1 + 1 + 1 + (cntL (x.Message.Args.flatMap eWire) : Nat)) (b0 : 0 ≤ q) (b1 : q + cntL (eOutgoing x) ≤ 4611686018427387904) : mkL (eOutgoing x) q = [.v (.int .i64 q), .v (.int .i64 (q + 1)), .v (.int .i64 (q + 1 + 1)), .v (.int .i64 (q + 1 + 1 + 1)), .v (.int .i64 (q + 1 + 1 + 1 + 1)), .v (.string (mkText (q + 1 + 1 + 1 + 1 + 1))), .s x.Message.Args.length (mkL (x.Message.Args.flatMap eWire) (q + 1 + 1 + 1 + 1 + 1 + 1)), .v (.int .i64 r6), .v (.int .i64 (r6 + 1)), .v (.int .i64 (r6 + 1 + 1)), .v (.int .i64 (r6 + 1 + 1 + 1)), .v (.int .i64 (r6 + 1 + 1 + 1 + 1)), .v (.int .i64 (r6 + 1 + 1 + 1 + 1 + 1))] := by
  have hc := cnt_eOutgoing x
  subst hr6
  simp only [eOutgoing, mkL_cons, mkL_nil, mk_int, mk_str, mk_bool, mk_s, cnt_v, cnt_s, Int.natCast_one]
  rw [wrap_id (q) (by omega) (by omega)]
  rw [wrap_id (q + 1) (by omega) (by omega)]
  rw [wrap_id (q + 1 + 1) (by omega) (by omega)]
  rw [wrap_id (q + 1 + 1 + 1) (by omega) (by omega)]
  rw [wrap_id (q + 1 + 1 + 1 + 1) (by omega) (by omega)]
  rw [wrap_id ((q + 1 + 1 + 1 + 1 + 1 + 1 + (cntL (x.Message.Args.flatMap eWire) : Nat))) (by omega) (by omega)]
  rw [wrap_id ((q + 1 + 1 + 1 + 1 + 1 + 1 + (cntL (x.Message.Args.flatMap eWire) : Nat)) + 1) (by omega) (by omega)]
  rw [wrap_id ((q + 1 + 1 + 1 + 1 + 1 + 1 + (cntL (x.Message.Args.flatMap eWire) : Nat)) + 1 + 1) (by omega) (by omega)]
  rw [wrap_id ((q + 1 + 1 + 1 + 1 + 1 + 1 + (cntL (x.Message.Args.flatMap eWire) : Nat)) + 1 + 1 + 1) (by omega) (by omega)]
  rw [wrap_id ((q + 1 + 1 + 1 + 1 + 1 + 1 + (cntL (x.Message.Args.flatMap eWire) : Nat)) + 1 + 1 + 1 + 1) (by omega) (by omega)]
  rw [wrap_id ((q + 1 + 1 + 1 + 1 + 1 + 1 + (cntL (x.Message.Args.flatMap eWire) : Nat)) + 1 + 1 + 1 + 1 + 1) (by omega) (by omega)]
theorem rdm_eOutgoing {w : World} {x : GOutgoing} {us : List Value} (q : Int) (r6 : Int) (hr6 : r6 = q + 1 + 1 + 1 + 1 + 1 + 1 + (cntL (x.Message.Args.flatMap eWire) : Nat)) (b0 : 0 ≤ q) (b1 : q + cntL (eOutgoing x) ≤ 4611686018427387904) (h : RdLW w (mkL (eOutgoing x) q) us) : ∃ v6, us = [.int .i64 q, .int .i64 (q + 1), .int .i64 (q + 1 + 1), .int .i64 (q + 1 + 1 + 1), .int .i64 (q + 1 + 1 + 1 + 1), .string (mkText (q + 1 + 1 + 1 + 1 + 1)), v6, .int .i64 r6, .int .i64 (r6 + 1), .int .i64 (r6 + 1 + 1), .int .i64 (r6 + 1 + 1 + 1), .int .i64 (r6 + 1 + 1 + 1 + 1), .int .i64 (r6 + 1 + 1 + 1 + 1 + 1)] ∧ RdW w (.s x.Message.Args.length (mkL (x.Message.Args.flatMap eWire) (q + 1 + 1 + 1 + 1 + 1 + 1))) v6 := by
  rw [mk_eOutgoing x q r6 hr6 b0 b1] at h
  have q0 := h
  clear h
  obtain ⟨us0, rfl, q1⟩ := RdLW_w.1 q0
  obtain ⟨us1, rfl, q2⟩ := RdLW_w.1 q1
  obtain ⟨us2, rfl, q3⟩ := RdLW_w.1 q2
  obtain ⟨us3, rfl, q4⟩ := RdLW_w.1 q3
  obtain ⟨us4, rfl, q5⟩ := RdLW_w.1 q4
  obtain ⟨us5, rfl, q6⟩ := RdLW_w.1 q5
  obtain ⟨u6, us6, rfl, h6, q7⟩ := RdLW_cons.1 q6
  obtain ⟨us7, rfl, q8⟩ := RdLW_w.1 q7
  obtain ⟨us8, rfl, q9⟩ := RdLW_w.1 q8
  obtain ⟨us9, rfl, q10⟩ := RdLW_w.1 q9
  obtain ⟨us10, rfl, q11⟩ := RdLW_w.1 q10
  obtain ⟨us11, rfl, q12⟩ := RdLW_w.1 q11
  obtain ⟨us12, rfl, q13⟩ := RdLW_w.1 q12
  obtain rfl := RdLW_nil.1 q13
  exact ⟨u6, rfl, h6⟩
theorem mkownm_eOutgoing {w : World} {x : GOutgoing} (q : Int) (r6 : Int) (hr6 : r6 = q + 1 + 1 + 1 + 1 + 1 + 1 + (cntL (x.Message.Args.flatMap eWire) : Nat)) (b0 : 0 ≤ q) (b1 : q + cntL (eOutgoing x) ≤ 4611686018427387904) {v6 : Value} {f6 : List Nat} (h6 : Own w (.s x.Message.Args.length (mkL (x.Message.Args.flatMap eWire) (q + 1 + 1 + 1 + 1 + 1 + 1))) v6 f6) : OwnL w (mkL (eOutgoing x) q) [.int .i64 q, .int .i64 (q + 1), .int .i64 (q + 1 + 1), .int .i64 (q + 1 + 1 + 1), .int .i64 (q + 1 + 1 + 1 + 1), .string (mkText (q + 1 + 1 + 1 + 1 + 1)), v6, .int .i64 r6, .int .i64 (r6 + 1), .int .i64 (r6 + 1 + 1), .int .i64 (r6 + 1 + 1 + 1), .int .i64 (r6 + 1 + 1 + 1 + 1), .int .i64 (r6 + 1 + 1 + 1 + 1 + 1)] (f6) := by
  have h : OwnL w (mkL (eOutgoing x) q) [.int .i64 q, .int .i64 (q + 1), .int .i64 (q + 1 + 1), .int .i64 (q + 1 + 1 + 1), .int .i64 (q + 1 + 1 + 1 + 1), .string (mkText (q + 1 + 1 + 1 + 1 + 1)), v6, .int .i64 r6, .int .i64 (r6 + 1), .int .i64 (r6 + 1 + 1), .int .i64 (r6 + 1 + 1 + 1), .int .i64 (r6 + 1 + 1 + 1 + 1), .int .i64 (r6 + 1 + 1 + 1 + 1 + 1)] (f6 ++ ([])) := by
    rw [mk_eOutgoing x q r6 hr6 b0 b1]
    exact OwnL_w.2 ⟨_, rfl, OwnL_w.2 ⟨_, rfl, OwnL_w.2 ⟨_, rfl, OwnL_w.2 ⟨_, rfl, OwnL_w.2 ⟨_, rfl, OwnL_w.2 ⟨_, rfl, OwnL_cons.2 ⟨_, _, f6, _, rfl, rfl, h6, OwnL_w.2 ⟨_, rfl, OwnL_w.2 ⟨_, rfl, OwnL_w.2 ⟨_, rfl, OwnL_w.2 ⟨_, rfl, OwnL_w.2 ⟨_, rfl, OwnL_w.2 ⟨_, rfl, OwnL_nil.2 ⟨rfl, rfl⟩⟩⟩⟩⟩⟩⟩⟩⟩⟩⟩⟩⟩⟩
  simpa only [List.append_nil, List.append_assoc] using h
theorem str_eOutgoing {x : GOutgoing} (h : StrOkL (eOutgoing x)) : x.Message.Name.size ≤ 140737488355328 := by
  simp only [eOutgoing, StrOkL_cons, StrOkL_nil, StrOk_str, StrOk_int, StrOk_bool, StrOk_s, true_and, and_true] at h
  simp_all
theorem top_eOutgoing (x : GOutgoing) (q : Int) (r6 : Int) (hr6 : r6 = q + (cntL (x.Message.Args.flatMap eWire) : Nat)) : topL (eOutgoing x) q = [.v (.int .i64 x.To), .v (.int .i64 x.Message.Kind), .v (.int .i64 x.Message.Pos), .v (.int .i64 x.Message.Answer), .v (.int .i64 x.Message.Question), .v (.string x.Message.Name), .s x.Message.Args.length (mkL (x.Message.Args.flatMap eWire) q), .v (.int .i64 x.Message.Value.Kind), .v (.int .i64 x.Message.Value.N), .v (.int .i64 x.Message.Count), .v (.int .i64 x.Message.Tag.Vat), .v (.int .i64 x.Message.Tag.Entity), .v (.int .i64 x.Message.Tag.Seq)] := by
  subst hr6
  simp only [eOutgoing, topL_v, topL_s, topL_nil]
theorem tcnt_eOutgoing (x : GOutgoing) : tcnt (eOutgoing x) = cntL (x.Message.Args.flatMap eWire) := by
  simp only [eOutgoing, tcnt_v, tcnt_s, tcnt_nil, Nat.add_zero, Nat.add_assoc]
theorem mktop_eOutgoing {w : World} {x : GOutgoing} (q : Int) (r6 : Int) (hr6 : r6 = q + (cntL (x.Message.Args.flatMap eWire) : Nat)) {v6 : Value} {f6 : List Nat} (h6 : Own w (.s x.Message.Args.length (mkL (x.Message.Args.flatMap eWire) q)) v6 f6) : OwnL w (topL (eOutgoing x) q) [.int .i64 x.To, .int .i64 x.Message.Kind, .int .i64 x.Message.Pos, .int .i64 x.Message.Answer, .int .i64 x.Message.Question, .string x.Message.Name, v6, .int .i64 x.Message.Value.Kind, .int .i64 x.Message.Value.N, .int .i64 x.Message.Count, .int .i64 x.Message.Tag.Vat, .int .i64 x.Message.Tag.Entity, .int .i64 x.Message.Tag.Seq] (f6) := by
  have h : OwnL w (topL (eOutgoing x) q) [.int .i64 x.To, .int .i64 x.Message.Kind, .int .i64 x.Message.Pos, .int .i64 x.Message.Answer, .int .i64 x.Message.Question, .string x.Message.Name, v6, .int .i64 x.Message.Value.Kind, .int .i64 x.Message.Value.N, .int .i64 x.Message.Count, .int .i64 x.Message.Tag.Vat, .int .i64 x.Message.Tag.Entity, .int .i64 x.Message.Tag.Seq] (f6 ++ ([])) := by
    rw [top_eOutgoing x q r6 hr6]
    exact OwnL_w.2 ⟨_, rfl, OwnL_w.2 ⟨_, rfl, OwnL_w.2 ⟨_, rfl, OwnL_w.2 ⟨_, rfl, OwnL_w.2 ⟨_, rfl, OwnL_w.2 ⟨_, rfl, OwnL_cons.2 ⟨_, _, f6, _, rfl, rfl, h6, OwnL_w.2 ⟨_, rfl, OwnL_w.2 ⟨_, rfl, OwnL_w.2 ⟨_, rfl, OwnL_w.2 ⟨_, rfl, OwnL_w.2 ⟨_, rfl, OwnL_w.2 ⟨_, rfl, OwnL_nil.2 ⟨rfl, rfl⟩⟩⟩⟩⟩⟩⟩⟩⟩⟩⟩⟩⟩⟩
  simpa only [List.append_nil, List.append_assoc] using h
theorem rdtop_eOutgoing {w : World} {x : GOutgoing} {us : List Value} (q : Int) (r6 : Int) (hr6 : r6 = q + (cntL (x.Message.Args.flatMap eWire) : Nat)) (h : RdLW w (topL (eOutgoing x) q) us) : ∃ v6, us = [.int .i64 x.To, .int .i64 x.Message.Kind, .int .i64 x.Message.Pos, .int .i64 x.Message.Answer, .int .i64 x.Message.Question, .string x.Message.Name, v6, .int .i64 x.Message.Value.Kind, .int .i64 x.Message.Value.N, .int .i64 x.Message.Count, .int .i64 x.Message.Tag.Vat, .int .i64 x.Message.Tag.Entity, .int .i64 x.Message.Tag.Seq] ∧ RdW w (.s x.Message.Args.length (mkL (x.Message.Args.flatMap eWire) q)) v6 := by
  rw [top_eOutgoing x q r6 hr6] at h
  have q0 := h
  clear h
  obtain ⟨us0, rfl, q1⟩ := RdLW_w.1 q0
  obtain ⟨us1, rfl, q2⟩ := RdLW_w.1 q1
  obtain ⟨us2, rfl, q3⟩ := RdLW_w.1 q2
  obtain ⟨us3, rfl, q4⟩ := RdLW_w.1 q3
  obtain ⟨us4, rfl, q5⟩ := RdLW_w.1 q4
  obtain ⟨us5, rfl, q6⟩ := RdLW_w.1 q5
  obtain ⟨u6, us6, rfl, h6, q7⟩ := RdLW_cons.1 q6
  obtain ⟨us7, rfl, q8⟩ := RdLW_w.1 q7
  obtain ⟨us8, rfl, q9⟩ := RdLW_w.1 q8
  obtain ⟨us9, rfl, q10⟩ := RdLW_w.1 q9
  obtain ⟨us10, rfl, q11⟩ := RdLW_w.1 q10
  obtain ⟨us11, rfl, q12⟩ := RdLW_w.1 q11
  obtain ⟨us12, rfl, q13⟩ := RdLW_w.1 q12
  obtain rfl := RdLW_nil.1 q13
  exact ⟨u6, rfl, h6⟩
theorem len_eVat (x : GVat) : (eVat x).length = 5 := rfl
theorem rd_eVat {w : World} {x : GVat} {us : List Value} (h : RdLW w (eVat x) us) : ∃ v1 v2 v3 v4, us = [.int .i64 x.Id, v1, v2, v3, v4] ∧ RdW w (.s x.Entities.length (x.Entities.flatMap eEntity)) v1 ∧ RdW w (.s x.Loop.length (x.Loop.flatMap eSent)) v2 ∧ RdW w (.s x.Links.length (x.Links.flatMap eLink)) v3 ∧ RdW w (.s x.Out.length (x.Out.flatMap eOutgoing)) v4 := by
  unfold eVat at h
  have q0 := h
  clear h
  obtain ⟨us0, rfl, q1⟩ := RdLW_w.1 q0
  obtain ⟨u1, us1, rfl, h1, q2⟩ := RdLW_cons.1 q1
  obtain ⟨u2, us2, rfl, h2, q3⟩ := RdLW_cons.1 q2
  obtain ⟨u3, us3, rfl, h3, q4⟩ := RdLW_cons.1 q3
  obtain ⟨u4, us4, rfl, h4, q5⟩ := RdLW_cons.1 q4
  obtain rfl := RdLW_nil.1 q5
  exact ⟨u1, u2, u3, u4, rfl, h1, h2, h3, h4⟩
theorem mkrd_eVat {w : World} {x : GVat} {v1 : Value} {v2 : Value} {v3 : Value} {v4 : Value} (h1 : RdW w (.s x.Entities.length (x.Entities.flatMap eEntity)) v1) (h2 : RdW w (.s x.Loop.length (x.Loop.flatMap eSent)) v2) (h3 : RdW w (.s x.Links.length (x.Links.flatMap eLink)) v3) (h4 : RdW w (.s x.Out.length (x.Out.flatMap eOutgoing)) v4) : RdLW w (eVat x) [.int .i64 x.Id, v1, v2, v3, v4] := by
  unfold eVat
  exact RdLW_w.2 ⟨_, rfl, RdLW_cons.2 ⟨_, _, rfl, h1, RdLW_cons.2 ⟨_, _, rfl, h2, RdLW_cons.2 ⟨_, _, rfl, h3, RdLW_cons.2 ⟨_, _, rfl, h4, RdLW_nil.2 rfl⟩⟩⟩⟩⟩
theorem own_eVat {w : World} {x : GVat} {us : List Value} {fp : List Nat} (h : OwnL w (eVat x) us fp) : ∃ v1 f1 v2 f2 v3 f3 v4 f4, us = [.int .i64 x.Id, v1, v2, v3, v4] ∧ fp = f1 ++ (f2 ++ (f3 ++ (f4))) ∧ Own w (.s x.Entities.length (x.Entities.flatMap eEntity)) v1 f1 ∧ Own w (.s x.Loop.length (x.Loop.flatMap eSent)) v2 f2 ∧ Own w (.s x.Links.length (x.Links.flatMap eLink)) v3 f3 ∧ Own w (.s x.Out.length (x.Out.flatMap eOutgoing)) v4 f4 := by
  unfold eVat at h
  have q0 := h
  clear h
  obtain ⟨us0, rfl, q1⟩ := OwnL_w.1 q0
  obtain ⟨u1, us1, g1, k1, rfl, rfl, h1, q2⟩ := OwnL_cons.1 q1
  obtain ⟨u2, us2, g2, k2, rfl, rfl, h2, q3⟩ := OwnL_cons.1 q2
  obtain ⟨u3, us3, g3, k3, rfl, rfl, h3, q4⟩ := OwnL_cons.1 q3
  obtain ⟨u4, us4, g4, k4, rfl, rfl, h4, q5⟩ := OwnL_cons.1 q4
  obtain ⟨rfl, rfl⟩ := OwnL_nil.1 q5
  exact ⟨u1, g1, u2, g2, u3, g3, u4, g4, rfl, by simp only [List.append_nil, List.append_assoc], h1, h2, h3, h4⟩
theorem mkown_eVat {w : World} {x : GVat} {v1 : Value} {f1 : List Nat} {v2 : Value} {f2 : List Nat} {v3 : Value} {f3 : List Nat} {v4 : Value} {f4 : List Nat} (h1 : Own w (.s x.Entities.length (x.Entities.flatMap eEntity)) v1 f1) (h2 : Own w (.s x.Loop.length (x.Loop.flatMap eSent)) v2 f2) (h3 : Own w (.s x.Links.length (x.Links.flatMap eLink)) v3 f3) (h4 : Own w (.s x.Out.length (x.Out.flatMap eOutgoing)) v4 f4) : OwnL w (eVat x) [.int .i64 x.Id, v1, v2, v3, v4] (f1 ++ (f2 ++ (f3 ++ (f4)))) := by
  have h : OwnL w (eVat x) [.int .i64 x.Id, v1, v2, v3, v4] (f1 ++ (f2 ++ (f3 ++ (f4 ++ ([]))))) := by
    unfold eVat
    exact OwnL_w.2 ⟨_, rfl, OwnL_cons.2 ⟨_, _, f1, _, rfl, rfl, h1, OwnL_cons.2 ⟨_, _, f2, _, rfl, rfl, h2, OwnL_cons.2 ⟨_, _, f3, _, rfl, rfl, h3, OwnL_cons.2 ⟨_, _, f4, _, rfl, rfl, h4, OwnL_nil.2 ⟨rfl, rfl⟩⟩⟩⟩⟩⟩
  simpa only [List.append_nil, List.append_assoc] using h
theorem row_eVat {w : World} {xs : List GVat} {A : Option Addr} {c : Nat} (h : RdW w (.s xs.length (xs.flatMap eVat)) (.slice A xs.length c)) {i : Nat} {x : GVat} (hx : xs[i]? = some x) :
    ∃ ad v1 v2 v3 v4, A = some ad ∧ ad.block < w.heap.size ∧ w.cell? (ad.add (i * 5)) = some (.int .i64 x.Id) ∧ w.cell? ⟨(ad.add (i * 5)).block, (ad.add (i * 5)).off + 1, none⟩ = some (v1) ∧ w.cell? ⟨(ad.add (i * 5)).block, (ad.add (i * 5)).off + 2, none⟩ = some (v2) ∧ w.cell? ⟨(ad.add (i * 5)).block, (ad.add (i * 5)).off + 3, none⟩ = some (v3) ∧ w.cell? ⟨(ad.add (i * 5)).block, (ad.add (i * 5)).off + 4, none⟩ = some (v4) ∧ RdW w (.s x.Entities.length (x.Entities.flatMap eEntity)) v1 ∧ RdW w (.s x.Loop.length (x.Loop.flatMap eSent)) v2 ∧ RdW w (.s x.Links.length (x.Links.flatMap eLink)) v3 ∧ RdW w (.s x.Out.length (x.Out.flatMap eOutgoing)) v4 := by
  obtain ⟨ad, ys, rfl, hb, hr, hc⟩ := RdW.at_ len_eVat h hx
  obtain ⟨v1, v2, v3, v4, rfl, h1, h2, h3, h4⟩ := rd_eVat hr
  exact ⟨ad, v1, v2, v3, v4, rfl, hb, hc 0 _ rfl, (by rw [← add_field _ _ 1 (by omega)]; exact hc 1 _ rfl), (by rw [← add_field _ _ 2 (by omega)]; exact hc 2 _ rfl), (by rw [← add_field _ _ 3 (by omega)]; exact hc 3 _ rfl), (by rw [← add_field _ _ 4 (by omega)]; exact hc 4 _ rfl), h1, h2, h3, h4⟩
theorem slim_eVat (x : GVat) : SlimL (eVat x) := SlimL_cons (Slim_v _) (SlimL_cons (Slim_flat _ 12 len_eEntity (by omega) slim_eEntity _) (SlimL_cons (Slim_flat _ 7 len_eSent (by omega) slim_eSent _) (SlimL_cons (Slim_flat _ 7 len_eLink (by omega) slim_eLink _) (SlimL_cons (Slim_flat _ 13 len_eOutgoing (by omega) slim_eOutgoing _) (SlimL_nil)))))
theorem siz_eVat (x : GVat) : sizL (eVat x) = (x.Entities.length + sizL (x.Entities.flatMap eEntity)) + (x.Loop.length + sizL (x.Loop.flatMap eSent)) + (x.Links.length + sizL (x.Links.flatMap eLink)) + (x.Out.length + sizL (x.Out.flatMap eOutgoing)) := by
  simp only [eVat, sizL_cons, sizL_nil, siz_s, siz_int, siz_str, siz_bool]
  first | done | omega | rfl
theorem cnt_eVat (x : GVat) : cntL (eVat x) = 1 + cntL (x.Entities.flatMap eEntity) + cntL (x.Loop.flatMap eSent) + cntL (x.Links.flatMap eLink) + cntL (x.Out.flatMap eOutgoing) := by
  simp only [eVat, cntL_cons, cntL_nil, cnt_s, cnt_v]
  first | done | omega
theorem mk_eVat (x : GVat) (q : Int) (r1 : Int) (r2 : Int) (r3 : Int) (r4 : Int) (hr1 : r1 = q + 1 + (cntL (x.Entities.flatMap eEntity) : Nat)) (hr2 : r2 = r1 + (cntL (x.Loop.flatMap eSent) : Nat)) (hr3 : r3 = r2 + (cntL (x.Links.flatMap eLink) : Nat)) (hr4 : r4 = r3 + (cntL (x.Out.flatMap eOutgoing) : Nat)) (b0 : 0 ≤ q) (b1 : q + cntL (eVat x) ≤ 4611686018427387904) : mkL (eVat x) q = [.v (.int .i64 q), .s x.Entities.length (mkL (x.Entities.flatMap eEntity) (q + 1)), .s x.Loop.length (mkL (x.Loop.flatMap eSent) r1), .s x.Links.length (mkL (x.Links.flatMap eLink) r2), .s x.Out.length (mkL (x.Out.flatMap eOutgoing) r3)] := by
  have hc := cnt_eVat x
  subst hr1
  subst hr2
  subst hr3
  subst hr4
  simp only [eVat, mkL_cons, mkL_nil, mk_int, mk_str, mk_bool, mk_s, cnt_v, cnt_s, Int.natCast_one]
  rw [wrap_id (q) (by omega) (by omega)]
theorem rdm_eVat {w : World} {x : GVat} {us : List Value} (q : Int) (r1 : Int) (r2 : Int) (r3 : Int) (r4 : Int) (hr1 : r1 = q + 1 + (cntL (x.Entities.flatMap eEntity) : Nat)) (hr2 : r2 = r1 + (cntL (x.Loop.flatMap eSent) : Nat)) (hr3 : r3 = r2 + (cntL (x.Links.flatMap eLink) : Nat)) (hr4 : r4 = r3 + (cntL (x.Out.flatMap eOutgoing) : Nat)) (b0 : 0 ≤ q) (b1 : q + cntL (eVat x) ≤ 4611686018427387904) (h : RdLW w (mkL (eVat x) q) us) : ∃ v1 v2 v3 v4, us = [.int .i64 q, v1, v2, v3, v4] ∧ RdW w (.s x.Entities.length (mkL (x.Entities.flatMap eEntity) (q + 1))) v1 ∧ RdW w (.s x.Loop.length (mkL (x.Loop.flatMap eSent) r1)) v2 ∧ RdW w (.s x.Links.length (mkL (x.Links.flatMap eLink) r2)) v3 ∧ RdW w (.s x.Out.length (mkL (x.Out.flatMap eOutgoing) r3)) v4 := by
  rw [mk_eVat x q r1 r2 r3 r4 hr1 hr2 hr3 hr4 b0 b1] at h
  have q0 := h
  clear h
  obtain ⟨us0, rfl, q1⟩ := RdLW_w.1 q0
  obtain ⟨u1, us1, rfl, h1, q2⟩ := RdLW_cons.1 q1
  obtain ⟨u2, us2, rfl, h2, q3⟩ := RdLW_cons.1 q2
  obtain ⟨u3, us3, rfl, h3, q4⟩ := RdLW_cons.1 q3
  obtain ⟨u4, us4, rfl, h4, q5⟩ := RdLW_cons.1 q4
  obtain rfl := RdLW_nil.1 q5
  exact ⟨u1, u2, u3, u4, rfl, h1, h2, h3, h4⟩
theorem mkownm_eVat {w : World} {x : GVat} (q : Int) (r1 : Int) (r2 : Int) (r3 : Int) (r4 : Int) (hr1 : r1 = q + 1 + (cntL (x.Entities.flatMap eEntity) : Nat)) (hr2 : r2 = r1 + (cntL (x.Loop.flatMap eSent) : Nat)) (hr3 : r3 = r2 + (cntL (x.Links.flatMap eLink) : Nat)) (hr4 : r4 = r3 + (cntL (x.Out.flatMap eOutgoing) : Nat)) (b0 : 0 ≤ q) (b1 : q + cntL (eVat x) ≤ 4611686018427387904) {v1 : Value} {f1 : List Nat} {v2 : Value} {f2 : List Nat} {v3 : Value} {f3 : List Nat} {v4 : Value} {f4 : List Nat} (h1 : Own w (.s x.Entities.length (mkL (x.Entities.flatMap eEntity) (q + 1))) v1 f1) (h2 : Own w (.s x.Loop.length (mkL (x.Loop.flatMap eSent) r1)) v2 f2) (h3 : Own w (.s x.Links.length (mkL (x.Links.flatMap eLink) r2)) v3 f3) (h4 : Own w (.s x.Out.length (mkL (x.Out.flatMap eOutgoing) r3)) v4 f4) : OwnL w (mkL (eVat x) q) [.int .i64 q, v1, v2, v3, v4] (f1 ++ (f2 ++ (f3 ++ (f4)))) := by
  have h : OwnL w (mkL (eVat x) q) [.int .i64 q, v1, v2, v3, v4] (f1 ++ (f2 ++ (f3 ++ (f4 ++ ([]))))) := by
    rw [mk_eVat x q r1 r2 r3 r4 hr1 hr2 hr3 hr4 b0 b1]
    exact OwnL_w.2 ⟨_, rfl, OwnL_cons.2 ⟨_, _, f1, _, rfl, rfl, h1, OwnL_cons.2 ⟨_, _, f2, _, rfl, rfl, h2, OwnL_cons.2 ⟨_, _, f3, _, rfl, rfl, h3, OwnL_cons.2 ⟨_, _, f4, _, rfl, rfl, h4, OwnL_nil.2 ⟨rfl, rfl⟩⟩⟩⟩⟩⟩
  simpa only [List.append_nil, List.append_assoc] using h
theorem str_eVat {x : GVat} (h : StrOkL (eVat x)) : StrOkL (x.Entities.flatMap eEntity) ∧ StrOkL (x.Loop.flatMap eSent) ∧ StrOkL (x.Out.flatMap eOutgoing) := by
  simp only [eVat, StrOkL_cons, StrOkL_nil, StrOk_str, StrOk_int, StrOk_bool, StrOk_s, true_and, and_true] at h
  simp_all
theorem top_eVat (x : GVat) (q : Int) (r1 : Int) (r2 : Int) (r3 : Int) (r4 : Int) (hr1 : r1 = q + (cntL (x.Entities.flatMap eEntity) : Nat)) (hr2 : r2 = r1 + (cntL (x.Loop.flatMap eSent) : Nat)) (hr3 : r3 = r2 + (cntL (x.Links.flatMap eLink) : Nat)) (hr4 : r4 = r3 + (cntL (x.Out.flatMap eOutgoing) : Nat)) : topL (eVat x) q = [.v (.int .i64 x.Id), .s x.Entities.length (mkL (x.Entities.flatMap eEntity) q), .s x.Loop.length (mkL (x.Loop.flatMap eSent) r1), .s x.Links.length (mkL (x.Links.flatMap eLink) r2), .s x.Out.length (mkL (x.Out.flatMap eOutgoing) r3)] := by
  subst hr1
  subst hr2
  subst hr3
  subst hr4
  simp only [eVat, topL_v, topL_s, topL_nil]
theorem tcnt_eVat (x : GVat) : tcnt (eVat x) = cntL (x.Entities.flatMap eEntity) + (cntL (x.Loop.flatMap eSent) + (cntL (x.Links.flatMap eLink) + (cntL (x.Out.flatMap eOutgoing)))) := by
  simp only [eVat, tcnt_v, tcnt_s, tcnt_nil, Nat.add_zero, Nat.add_assoc]
theorem mktop_eVat {w : World} {x : GVat} (q : Int) (r1 : Int) (r2 : Int) (r3 : Int) (r4 : Int) (hr1 : r1 = q + (cntL (x.Entities.flatMap eEntity) : Nat)) (hr2 : r2 = r1 + (cntL (x.Loop.flatMap eSent) : Nat)) (hr3 : r3 = r2 + (cntL (x.Links.flatMap eLink) : Nat)) (hr4 : r4 = r3 + (cntL (x.Out.flatMap eOutgoing) : Nat)) {v1 : Value} {f1 : List Nat} {v2 : Value} {f2 : List Nat} {v3 : Value} {f3 : List Nat} {v4 : Value} {f4 : List Nat} (h1 : Own w (.s x.Entities.length (mkL (x.Entities.flatMap eEntity) q)) v1 f1) (h2 : Own w (.s x.Loop.length (mkL (x.Loop.flatMap eSent) r1)) v2 f2) (h3 : Own w (.s x.Links.length (mkL (x.Links.flatMap eLink) r2)) v3 f3) (h4 : Own w (.s x.Out.length (mkL (x.Out.flatMap eOutgoing) r3)) v4 f4) : OwnL w (topL (eVat x) q) [.int .i64 x.Id, v1, v2, v3, v4] (f1 ++ (f2 ++ (f3 ++ (f4)))) := by
  have h : OwnL w (topL (eVat x) q) [.int .i64 x.Id, v1, v2, v3, v4] (f1 ++ (f2 ++ (f3 ++ (f4 ++ ([]))))) := by
    rw [top_eVat x q r1 r2 r3 r4 hr1 hr2 hr3 hr4]
    exact OwnL_w.2 ⟨_, rfl, OwnL_cons.2 ⟨_, _, f1, _, rfl, rfl, h1, OwnL_cons.2 ⟨_, _, f2, _, rfl, rfl, h2, OwnL_cons.2 ⟨_, _, f3, _, rfl, rfl, h3, OwnL_cons.2 ⟨_, _, f4, _, rfl, rfl, h4, OwnL_nil.2 ⟨rfl, rfl⟩⟩⟩⟩⟩⟩
  simpa only [List.append_nil, List.append_assoc] using h
theorem rdtop_eVat {w : World} {x : GVat} {us : List Value} (q : Int) (r1 : Int) (r2 : Int) (r3 : Int) (r4 : Int) (hr1 : r1 = q + (cntL (x.Entities.flatMap eEntity) : Nat)) (hr2 : r2 = r1 + (cntL (x.Loop.flatMap eSent) : Nat)) (hr3 : r3 = r2 + (cntL (x.Links.flatMap eLink) : Nat)) (hr4 : r4 = r3 + (cntL (x.Out.flatMap eOutgoing) : Nat)) (h : RdLW w (topL (eVat x) q) us) : ∃ v1 v2 v3 v4, us = [.int .i64 x.Id, v1, v2, v3, v4] ∧ RdW w (.s x.Entities.length (mkL (x.Entities.flatMap eEntity) q)) v1 ∧ RdW w (.s x.Loop.length (mkL (x.Loop.flatMap eSent) r1)) v2 ∧ RdW w (.s x.Links.length (mkL (x.Links.flatMap eLink) r2)) v3 ∧ RdW w (.s x.Out.length (mkL (x.Out.flatMap eOutgoing) r3)) v4 := by
  rw [top_eVat x q r1 r2 r3 r4 hr1 hr2 hr3 hr4] at h
  have q0 := h
  clear h
  obtain ⟨us0, rfl, q1⟩ := RdLW_w.1 q0
  obtain ⟨u1, us1, rfl, h1, q2⟩ := RdLW_cons.1 q1
  obtain ⟨u2, us2, rfl, h2, q3⟩ := RdLW_cons.1 q2
  obtain ⟨u3, us3, rfl, h3, q4⟩ := RdLW_cons.1 q3
  obtain ⟨u4, us4, rfl, h4, q5⟩ := RdLW_cons.1 q4
  obtain rfl := RdLW_nil.1 q5
  exact ⟨u1, u2, u3, u4, rfl, h1, h2, h3, h4⟩
end Go.Proofs.YtmnpoajdibmocaaGreat
