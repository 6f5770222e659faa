/- What the functions over vats come to, in plain Lean. -/
import Derived.Test.YtmnpoajdibmocaaGreatTypes
set_option linter.unusedSimpArgs false
set_option linter.unusedVariables false
namespace Go.Proofs.YtmnpoajdibmocaaGreat
open Go.RowKit
def linkTo (v : GVat) (p : Int) : Int := idx (fun l : GLink => l.Peer == p) v.Links
def proxyFor (v : GVat) (a b : Int) : Int := idx (fun e : GEntity => e.Kind == 3 && (e.Peer == a && e.Pos == b)) v.Entities
def countObjects (v : GVat) : Int := (((v.Entities.filter fun e : GEntity => e.Kind == 1).length : Nat) : Int)
/-- the entity with a number, if there is one -/
def entAt (es : List GEntity) (n : Int) : Option GEntity := if 0 ≤ n ∧ n ≤ (es.length : Int) - 1 then es[n.toNat]? else none
theorem entAt_some {es : List GEntity} {n : Int} {e : GEntity} (h : entAt es n = some e) : ∃ i : Nat, n = i ∧ i < es.length ∧ es[i]? = some e := by
  unfold entAt at h
  by_cases hin : 0 ≤ n ∧ n ≤ (es.length : Int) - 1
  · rw [if_pos hin] at h
    exact ⟨n.toNat, by omega, by omega, h⟩
  · rw [if_neg hin] at h; cases h
theorem entAt_out {es : List GEntity} {n : Int} (h : entAt es n = none) : ¬ (0 ≤ n ∧ n ≤ (es.length : Int) - 1) := by
  intro hin
  unfold entAt at h
  rw [if_pos hin, List.getElem?_eq_none_iff] at h
  omega
theorem entAt_nat {es : List GEntity} {i : Nat} (h : i < es.length) : entAt es i = es[i]? := by
  unfold entAt; rw [if_pos (by omega), Int.toNat_natCast]
def entB (p : GEntity → Bool) (es : List GEntity) (n : Int) : Bool := match entAt es n with | some e => p e | none => false
theorem entB_some {p : GEntity → Bool} {es : List GEntity} {n : Int} {e : GEntity} (h : entAt es n = some e) : entB p es n = p e := by unfold entB; rw [h]
theorem entB_none {p : GEntity → Bool} {es : List GEntity} {n : Int} (h : entAt es n = none) : entB p es n = false := by unfold entB; rw [h]
def heldB (e : GEntity) : Bool := e.Kind == 2 && e.State == 4
def isHolding (v : GVat) (p : Int) : Bool := entB heldB v.Entities p
def sweptB (e : GEntity) : Bool := e.Kind == 2 && (e.State == 2 && eqbValue e.Value zValue)
def isSwept (v : GVat) (p : Int) : Bool := entB sweptB v.Entities p
/-- a value behind kept promises, in so many steps -/
def lookN (es : List GEntity) : Nat → GValue → GValue
  | 0, _ => ⟨2, 0⟩
  | n + 1, x => if x.Kind = 1 then (match entAt es x.N with | some e => if e.Kind = 2 ∧ e.State = 2 then lookN es n e.Value else x | none => x) else x
theorem lookN_no {es : List GEntity} {n : Nat} {x : GValue} (h : ¬ x.Kind = 1) : lookN es (n + 1) x = x := by rw [lookN, if_neg h]
theorem lookN_out {es : List GEntity} {n : Nat} {x : GValue} (h : entAt es x.N = none) : lookN es (n + 1) x = x := by rw [lookN, h]; simp
theorem lookN_end {es : List GEntity} {n : Nat} {x : GValue} {e : GEntity} (h : entAt es x.N = some e) (hn : ¬ (e.Kind = 2 ∧ e.State = 2)) : lookN es (n + 1) x = x := by rw [lookN, h]; simp [hn]
theorem lookN_on {es : List GEntity} {n : Nat} {x : GValue} {e : GEntity} (hk : x.Kind = 1) (h : entAt es x.N = some e) (h1 : e.Kind = 2) (h2 : e.State = 2) : lookN es (n + 1) x = lookN es n e.Value := by rw [lookN, if_pos hk, h]; simp [h1, h2]
def lookOf (v : GVat) (x : GValue) : GValue := lookN v.Entities (v.Entities.length + 1) x
def resultOf (v : GVat) (p : Int) : GValue := lookOf v ⟨1, p⟩
def isLocalB (v : GVat) (x : GValue) : Bool := (lookOf v x).Kind == 1 && entB (fun e => e.Kind == 1) v.Entities (lookOf v x).N
/-- the numbers of the first entities of which something is so -/
def thatN (p : GEntity → Bool) (es : List GEntity) (n : Nat) : List Int := ((List.range n).filter fun i => (es[i]?).any p).map fun i : Nat => (i : Int)
theorem thatN_zero (p : GEntity → Bool) (es : List GEntity) : thatN p es 0 = [] := rfl
theorem thatN_yes {p : GEntity → Bool} {es : List GEntity} {n : Nat} {e : GEntity} (h : es[n]? = some e) (hp : p e = true) : thatN p es (n + 1) = thatN p es n ++ [(n : Int)] := by
  unfold thatN; rw [List.range_succ, List.filter_append]; simp [h, hp]
theorem thatN_no {p : GEntity → Bool} {es : List GEntity} {n : Nat} {e : GEntity} (h : es[n]? = some e) (hp : p e = false) : thatN p es (n + 1) = thatN p es n := by
  unfold thatN; rw [List.range_succ, List.filter_append]; simp [h, hp]
theorem thatN_len (p : GEntity → Bool) (es : List GEntity) (n : Nat) : (thatN p es n).length ≤ n := by
  unfold thatN; rw [List.length_map]; have := List.length_filter_le (fun i => (es[i]?).any p) (List.range n); rwa [List.length_range] at this
def proxyB (a : Int) (e : GEntity) : Bool := e.Kind == 3 && e.Peer == a
def awayB (a : Int) (e : GEntity) : Bool := e.Kind == 2 && ((e.State == 3 || e.State == 4) && e.Peer == a)
def proxiesOf (v : GVat) (a : Int) : List Int := thatN (proxyB a) v.Entities v.Entities.length
def awayOf (v : GVat) (a : Int) : List Int := thatN (awayB a) v.Entities v.Entities.length
def answersOf (v : GVat) (a : Int) : List GQuestion := match v.Links[(linkTo v a).toNat]? with | some l => if 0 ≤ linkTo v a then l.Answers else [] | none => []
def answersTo (v : GVat) (a : Int) : List Int := (answersOf v a).map (·.Id)
theorem answersTo_len (v : GVat) (a : Int) : (answersTo v a).length ≤ sizL (eVat v) := by
  unfold answersTo answersOf
  rw [List.length_map]
  cases h : v.Links[(linkTo v a).toNat]? with
  | none => simp
  | some l =>
    dsimp only
    have h1 := sizL_flat_le eLink v.Links l (List.mem_of_getElem? h)
    have h2 := siz_eLink l
    have h3 := siz_eVat v
    split
    · omega
    · simp

end Go.Proofs.YtmnpoajdibmocaaGreat
