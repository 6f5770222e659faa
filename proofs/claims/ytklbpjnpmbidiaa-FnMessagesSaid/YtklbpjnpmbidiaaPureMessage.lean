/- What the functions over messages come to, in plain Lean. -/
import Derived.Test.YtklbpjnpmbidiaaCommon
set_option linter.unusedSimpArgs false
set_option linter.unusedVariables false
namespace Go.Proofs.Ytklbpjnpmbidiaa
open Go.RowKit
def isWireB (x : GWire) : Bool := if x.Kind = 0 then inR x.N 0 999999 else if x.Kind = 1 ∨ x.Kind = 2 then inR x.N 1 999999 else decide (x.Kind = 3 ∧ x.N = 0)
def sameMessage (a b : GMessage) : Bool := a.Kind == b.Kind && (a.Pos == b.Pos && (a.Answer == b.Answer && (a.Question == b.Question && (a.Name.toList == b.Name.toList && (eqbWire a.Value b.Value && (a.Count == b.Count && (eqbTag a.Tag b.Tag && sameL eqbWire a.Args b.Args)))))))

end Go.Proofs.Ytklbpjnpmbidiaa
