/- What the functions over messages come to, in plain Lean. -/
import Derived.Test.YtkgnkekbcblnlaaCommon
set_option linter.unusedSimpArgs false
set_option linter.unusedVariables false
namespace Go.Proofs.Ytkgnkekbcblnlaa
open Go.RowKit
def isWireB (x : GWire) : Bool := if x.Kind = 0 then inR x.N 0 999999 else if x.Kind = 1 ∨ x.Kind = 2 then inR x.N 1 999999 else decide (x.Kind = 3 ∧ x.N = 0)
def sameMessage (a b : GMessage) : Bool := a.Kind == b.Kind && (a.Pos == b.Pos && (a.Answer == b.Answer && (a.Question == b.Question && (a.Name.toList == b.Name.toList && (eqbWire a.Value b.Value && (a.Count == b.Count && (eqbTag a.Tag b.Tag && sameL eqbWire a.Args b.Args)))))))
def flightN (xs : List GChannel) (i : Nat) : Nat := ((xs.take i).map fun c => c.List.length).sum
theorem flightN_zero (xs : List GChannel) : flightN xs 0 = 0 := by simp [flightN]
theorem flightN_step {xs : List GChannel} {i : Nat} {x : GChannel} (hx : xs[i]? = some x) : flightN xs (i + 1) = flightN xs i + x.List.length := by
  unfold flightN; rw [List.take_add_one, hx]; simp
theorem flight_le : ∀ xs : List GChannel, (xs.map fun c => c.List.length).sum ≤ sizL (xs.flatMap eChannel)
  | [] => by simp
  | x :: xs => by
    have h := flight_le xs
    have h2 := siz_eChannel x
    rw [List.flatMap_cons, sizL_append, List.map_cons, List.sum_cons]; omega
theorem flightN_le (xs : List GChannel) (i : Nat) : flightN xs i ≤ sizL (xs.flatMap eChannel) :=
  Nat.le_trans (flight_le _) (siz_take_le eChannel xs i)
def countFlight (xs : List GChannel) : Int := (flightN xs xs.length : Int)
def eqChan (a b : GChannel) : Bool := a.From == b.From && (a.To == b.To && sameL sameMessage a.List b.List)
def sameChannels (a b : List GChannel) : Bool := sameL eqChan a b

end Go.Proofs.Ytkgnkekbcblnlaa
