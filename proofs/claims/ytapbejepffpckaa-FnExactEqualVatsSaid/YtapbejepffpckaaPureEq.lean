/- What the comparisons come to, in plain Lean. -/
import Derived.Test.YtapbejepffpckaaTypes
set_option linter.unusedSimpArgs false
set_option linter.unusedVariables false
namespace Go.Proofs.Ytapbejepffpckaa
open Go.RowKit
def newPromise : GEntity := { zEntity with Kind := 2, State := 1 }
def newProxy (a b : Int) : GEntity := { zEntity with Kind := 3, Peer := a, Pos := b, Count := 1 }
def newObject (s : Int) (l : List GValue) : GEntity := { zEntity with Kind := 1, Script := s, Slots := l }
def slotOf (e : GEntity) (i : Int) : GValue := if 0 ≤ i ∧ i ≤ (e.Slots.length : Int) - 1 then (e.Slots[i.toNat]?).getD zValue else zValue
def eqbSent' (a b : GSent) : Bool := a.Target == b.Target && (a.Name.toList == b.Name.toList && (sameL eqbValue a.Args b.Args && (a.Result == b.Result && eqbTag a.Tag b.Tag)))
def sameSents (a b : List GSent) : Bool := sameL eqbSent' a b
def sameEntity (a b : GEntity) : Bool := a.Kind == b.Kind && (a.Script == b.Script && (sameL eqbValue a.Slots b.Slots && (a.State == b.State && (eqbValue a.Value b.Value && (sameSents a.Queue b.Queue && (sameL eqbAsker a.Askers b.Askers && (a.Peer == b.Peer && (a.Pos == b.Pos && (a.Count == b.Count && a.Sent == b.Sent)))))))))
def sameLink (a b : GLink) : Bool := a.Peer == b.Peer && (a.Up == b.Up && (a.Next == b.Next && (a.Asked == b.Asked && (sameL eqbExport a.Exports b.Exports && (sameL eqbQuestion a.Questions b.Questions && sameL eqbQuestion a.Answers b.Answers)))))
def sameMessage (a b : GMessage) : Bool := a.Kind == b.Kind && (a.Pos == b.Pos && (a.Answer == b.Answer && (a.Question == b.Question && (a.Name.toList == b.Name.toList && (eqbWire a.Value b.Value && (a.Count == b.Count && (eqbTag a.Tag b.Tag && sameL eqbWire a.Args b.Args)))))))
def sameOut (x y : GOutgoing) : Bool := x.To == y.To && sameMessage x.Message y.Message
def sameVat (a b : GVat) : Bool := a.Id == b.Id && (sameL sameEntity a.Entities b.Entities && (sameSents a.Loop b.Loop && (sameL sameLink a.Links b.Links && sameL sameOut a.Out b.Out)))

end Go.Proofs.Ytapbejepffpckaa
