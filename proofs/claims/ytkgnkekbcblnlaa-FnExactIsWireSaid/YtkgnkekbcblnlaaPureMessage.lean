/- What the functions over messages come to, in plain Lean. -/
import Derived.Test.YtkgnkekbcblnlaaCommon
set_option linter.unusedSimpArgs false
set_option linter.unusedVariables false
namespace Go.Proofs.Ytkgnkekbcblnlaa
open Go.RowKit
def isWireB (x : GWire) : Bool := if x.Kind = 0 then inR x.N 0 999999 else if x.Kind = 1 ∨ x.Kind = 2 then inR x.N 1 999999 else decide (x.Kind = 3 ∧ x.N = 0)

end Go.Proofs.Ytkgnkekbcblnlaa
