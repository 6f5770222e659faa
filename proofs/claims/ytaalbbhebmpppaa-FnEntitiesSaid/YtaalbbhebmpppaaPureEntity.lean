/- What the functions over entities come to, in plain Lean. -/
import Derived.Test.YtaalbbhebmpppaaTypes
set_option linter.unusedSimpArgs false
set_option linter.unusedVariables false
namespace Go.Proofs.Ytaalbbhebmpppaa
open Go.RowKit
def newPromise : GEntity := { zEntity with Kind := 2, State := 1 }
def newProxy (a b : Int) : GEntity := { zEntity with Kind := 3, Peer := a, Pos := b, Count := 1 }
def newObject (s : Int) (l : List GValue) : GEntity := { zEntity with Kind := 1, Script := s, Slots := l }
def slotOf (e : GEntity) (i : Int) : GValue := if 0 ≤ i ∧ i ≤ (e.Slots.length : Int) - 1 then (e.Slots[i.toNat]?).getD zValue else zValue
def eqbSent' (a b : GSent) : Bool := a.Target == b.Target && (a.Name.toList == b.Name.toList && (sameL eqbValue a.Args b.Args && (a.Result == b.Result && eqbTag a.Tag b.Tag)))
def sameSents (a b : List GSent) : Bool := sameL eqbSent' a b
def sameEntity (a b : GEntity) : Bool := a.Kind == b.Kind && (a.Script == b.Script && (sameL eqbValue a.Slots b.Slots && (a.State == b.State && (eqbValue a.Value b.Value && (sameSents a.Queue b.Queue && (sameL eqbAsker a.Askers b.Askers && (a.Peer == b.Peer && (a.Pos == b.Pos && (a.Count == b.Count && a.Sent == b.Sent)))))))))

end Go.Proofs.Ytaalbbhebmpppaa
