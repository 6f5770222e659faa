/-
  No cell of these rows narrows 'for every input' (looked for: loops, veiled, ifaces, maps, wideKeys, modest, calm, conditions, laid).
  DERIVED. THE GIVEN ROWS OF THIS SEAT. 5 by the template 'for every input the law returns true; each argument reads behind the call as it read before'; 0 by the template 'total and deterministic' (their statements: YtpjopbicnkfeoaaTotals.lean).
  GIVEN WITH THE SEED: the statements are not yours to turn. If you find one false, say at which input.
  Laid BY PROGRAM, IN A SANDBOX (cutbox-rows.mjs): the forced cells as the released guide's own fill.sh prints them over the translation 5a18336d0d47b51f… (all of the seat's roots in one cut). By AI agents, Wed Nov 11 2026. No macro, syntax, notation, axiom, sorry.
-/
import Derived.Test.YtpjopbicnkfeoaaChecked
import GoSem.Claim
import GoSem.ClaimJoined
import GoSem.ClaimMapViews
import Derived.JoinedTies
import Derived.KernelRfl
namespace Go.Proofs.Ytpjopbicnkfeoaa
/- THE CELL 'sum', in the pinned program and in every row, IS THE sha256 OF THE DUMP (.gsa) THAT YtpjopbicnkfeoaaProg.lean LOADS. Nothing in Lean hashes anything: it is a label: what it is worth is what the hold of that sum in a sandbox is worth. -/
noncomputable def Try.pinned : Pinned := { name := "ytpjopbicnkfeoaa", sum := "5a18336d0d47b51f3313f8f89b74a06cb256c047838a84e734e3b45b0bd1f65d", checked := Try.checked }
namespace Rows
def none {H : Type} : Left H := { results := [], args := [] }

/-- 'laws.FnExactWrites': WHATEVER THE INPUT: true; the input reads as it did. -/
def fnExactWritesSpec : ChangeSpec := { name := "fnExactWrites", fn := fun _ => fun
  | [d1, d2] => { results := [.lit (.bool true)], args := [d1, d2] }
  | _ => none }
def fnExactWritesRow : OpenClaim := { program := "ytpjopbicnkfeoaa", sum := "5a18336d0d47b51f3313f8f89b74a06cb256c047838a84e734e3b45b0bd1f65d", func := "loop.example/g00591/laws.FnExactWrites", spec := "fnExactWrites", unfollowed := true, recurses := true, apart := false }
def FnExactWritesSaid : Prop := fnExactWritesRow.holds Try.pinned (OpenSpec.ofChange fnExactWritesSpec)

/-- ITS FALSE NEIGHBOUR: 'it returns false'. Refute it at one input. -/
def fnExactWritesWrong : ChangeSpec := { name := "fnExactWrites", fn := fun _ => fun
  | [d1, d2] => { results := [.lit (.bool false)], args := [d1, d2] }
  | _ => none }
def FnExactWritesWrongFalsely : Prop := fnExactWritesRow.holds Try.pinned (OpenSpec.ofChange fnExactWritesWrong)

/-- 'laws.FnExactMadeBy': WHATEVER THE INPUT: true; the input reads as it did. -/
def fnExactMadeBySpec : ChangeSpec := { name := "fnExactMadeBy", fn := fun _ => fun
  | [d] => { results := [.lit (.bool true)], args := [d] }
  | _ => none }
def fnExactMadeByRow : OpenClaim := { program := "ytpjopbicnkfeoaa", sum := "5a18336d0d47b51f3313f8f89b74a06cb256c047838a84e734e3b45b0bd1f65d", func := "loop.example/g00591/laws.FnExactMadeBy", spec := "fnExactMadeBy", apart := false }
def FnExactMadeBySaid : Prop := fnExactMadeByRow.holds Try.pinned (OpenSpec.ofChange fnExactMadeBySpec)

/-- ITS FALSE NEIGHBOUR: 'it returns false'. Refute it at one input. -/
def fnExactMadeByWrong : ChangeSpec := { name := "fnExactMadeBy", fn := fun _ => fun
  | [d] => { results := [.lit (.bool false)], args := [d] }
  | _ => none }
def FnExactMadeByWrongFalsely : Prop := fnExactMadeByRow.holds Try.pinned (OpenSpec.ofChange fnExactMadeByWrong)

/-- 'laws.FnExactAreKnown': WHATEVER THE INPUT: true; the input reads as it did. -/
def fnExactAreKnownSpec : ChangeSpec := { name := "fnExactAreKnown", fn := fun _ => fun
  | [d] => { results := [.lit (.bool true)], args := [d] }
  | _ => none }
def fnExactAreKnownRow : OpenClaim := { program := "ytpjopbicnkfeoaa", sum := "5a18336d0d47b51f3313f8f89b74a06cb256c047838a84e734e3b45b0bd1f65d", func := "loop.example/g00591/laws.FnExactAreKnown", spec := "fnExactAreKnown", unfollowed := true, recurses := true, apart := false }
def FnExactAreKnownSaid : Prop := fnExactAreKnownRow.holds Try.pinned (OpenSpec.ofChange fnExactAreKnownSpec)

/-- ITS FALSE NEIGHBOUR: 'it returns false'. Refute it at one input. -/
def fnExactAreKnownWrong : ChangeSpec := { name := "fnExactAreKnown", fn := fun _ => fun
  | [d] => { results := [.lit (.bool false)], args := [d] }
  | _ => none }
def FnExactAreKnownWrongFalsely : Prop := fnExactAreKnownRow.holds Try.pinned (OpenSpec.ofChange fnExactAreKnownWrong)

/-- 'laws.FnExactIsSafe': WHATEVER THE INPUT: true; the input reads as it did. -/
def fnExactIsSafeSpec : ChangeSpec := { name := "fnExactIsSafe", fn := fun _ => fun
  | [d] => { results := [.lit (.bool true)], args := [d] }
  | _ => none }
def fnExactIsSafeRow : OpenClaim := { program := "ytpjopbicnkfeoaa", sum := "5a18336d0d47b51f3313f8f89b74a06cb256c047838a84e734e3b45b0bd1f65d", func := "loop.example/g00591/laws.FnExactIsSafe", spec := "fnExactIsSafe", unfollowed := true, recurses := true, apart := false }
def FnExactIsSafeSaid : Prop := fnExactIsSafeRow.holds Try.pinned (OpenSpec.ofChange fnExactIsSafeSpec)

/-- ITS FALSE NEIGHBOUR: 'it returns false'. Refute it at one input. -/
def fnExactIsSafeWrong : ChangeSpec := { name := "fnExactIsSafe", fn := fun _ => fun
  | [d] => { results := [.lit (.bool false)], args := [d] }
  | _ => none }
def FnExactIsSafeWrongFalsely : Prop := fnExactIsSafeRow.holds Try.pinned (OpenSpec.ofChange fnExactIsSafeWrong)

/-- 'laws.FnExactAreSafe': WHATEVER THE INPUT: true; the input reads as it did. -/
def fnExactAreSafeSpec : ChangeSpec := { name := "fnExactAreSafe", fn := fun _ => fun
  | [d] => { results := [.lit (.bool true)], args := [d] }
  | _ => none }
def fnExactAreSafeRow : OpenClaim := { program := "ytpjopbicnkfeoaa", sum := "5a18336d0d47b51f3313f8f89b74a06cb256c047838a84e734e3b45b0bd1f65d", func := "loop.example/g00591/laws.FnExactAreSafe", spec := "fnExactAreSafe", unfollowed := true, recurses := true, apart := false }
def FnExactAreSafeSaid : Prop := fnExactAreSafeRow.holds Try.pinned (OpenSpec.ofChange fnExactAreSafeSpec)

/-- ITS FALSE NEIGHBOUR: 'it returns false'. Refute it at one input. -/
def fnExactAreSafeWrong : ChangeSpec := { name := "fnExactAreSafe", fn := fun _ => fun
  | [d] => { results := [.lit (.bool false)], args := [d] }
  | _ => none }
def FnExactAreSafeWrongFalsely : Prop := fnExactAreSafeRow.holds Try.pinned (OpenSpec.ofChange fnExactAreSafeWrong)

/- THE SECOND FORM. 'bulk': how many values and letters a reading holds, each counted each time it is reached (what is shared counts as often as it is met; a slice's spare places count too). A statement '..UptoSaid' is the law's where the arguments, and the package variables that the reading takes, are together of bulk at most 1048576: NARROWER than '..Said'. Prove '..Said' where nothing that the law and all that it calls make is longer than what came in: it says more and counts as full. Else prove '..UptoSaid'. A law counts once. -/
mutual
def uptoBulk {H : Type} : DataW H → Nat
  | .lit (.string bytes) => bytes.length + 1
  | .lit _ => 1
  | .nil => 1
  | .ptr d => uptoBulk d + 1
  | .slice elems spare => uptoBulkAll elems + uptoBulkAll spare + 1
  | .agg parts => uptoBulkAll parts + 1
  | .iface _ d => uptoBulk d + 1
  | .map entries => uptoBulkEntries entries + 1
  | .held _ => 1
def uptoBulkAll {H : Type} : List (DataW H) → Nat
  | [] => 0
  | d :: r => uptoBulk d + uptoBulkAll r
def uptoBulkEntries {H : Type} : List (Lit × DataW H) → Nat
  | [] => 0
  | x :: r => uptoBulkEntry x + uptoBulkEntries r
def uptoBulkEntry {H : Type} : Lit × DataW H → Nat
  | (.string bytes, d) => bytes.length + uptoBulk d + 1
  | (_, d) => uptoBulk d + 1
 end
def uptoSmall : (H : Type) → List (DataW H) → Bool := fun _ ds => decide (uptoBulkAll ds ≤ 1048576)
def OpenSpec.upto (s : _root_.Go.ChangeSpec) : _root_.Go.OpenSpec := { _root_.Go.OpenSpec.ofChange s with cond := some uptoSmall }

/-- 'laws.FnExactWrites', WHERE WHAT IT READS IS OF BULK AT MOST 1048576: true; the input reads as it did. -/
def fnExactWritesUptoRow : OpenClaim := { program := "ytpjopbicnkfeoaa", sum := "5a18336d0d47b51f3313f8f89b74a06cb256c047838a84e734e3b45b0bd1f65d", func := "loop.example/g00591/laws.FnExactWrites", spec := "fnExactWrites", unfollowed := true, recurses := true, apart := false, narrowed := true }
def FnExactWritesUptoSaid : Prop := fnExactWritesUptoRow.holds Try.pinned (OpenSpec.upto fnExactWritesSpec)

/-- 'laws.FnExactMadeBy', WHERE WHAT IT READS IS OF BULK AT MOST 1048576: true; the input reads as it did. -/
def fnExactMadeByUptoRow : OpenClaim := { program := "ytpjopbicnkfeoaa", sum := "5a18336d0d47b51f3313f8f89b74a06cb256c047838a84e734e3b45b0bd1f65d", func := "loop.example/g00591/laws.FnExactMadeBy", spec := "fnExactMadeBy", apart := false, narrowed := true }
def FnExactMadeByUptoSaid : Prop := fnExactMadeByUptoRow.holds Try.pinned (OpenSpec.upto fnExactMadeBySpec)

/-- 'laws.FnExactAreKnown', WHERE WHAT IT READS IS OF BULK AT MOST 1048576: true; the input reads as it did. -/
def fnExactAreKnownUptoRow : OpenClaim := { program := "ytpjopbicnkfeoaa", sum := "5a18336d0d47b51f3313f8f89b74a06cb256c047838a84e734e3b45b0bd1f65d", func := "loop.example/g00591/laws.FnExactAreKnown", spec := "fnExactAreKnown", unfollowed := true, recurses := true, apart := false, narrowed := true }
def FnExactAreKnownUptoSaid : Prop := fnExactAreKnownUptoRow.holds Try.pinned (OpenSpec.upto fnExactAreKnownSpec)

/-- 'laws.FnExactIsSafe', WHERE WHAT IT READS IS OF BULK AT MOST 1048576: true; the input reads as it did. -/
def fnExactIsSafeUptoRow : OpenClaim := { program := "ytpjopbicnkfeoaa", sum := "5a18336d0d47b51f3313f8f89b74a06cb256c047838a84e734e3b45b0bd1f65d", func := "loop.example/g00591/laws.FnExactIsSafe", spec := "fnExactIsSafe", unfollowed := true, recurses := true, apart := false, narrowed := true }
def FnExactIsSafeUptoSaid : Prop := fnExactIsSafeUptoRow.holds Try.pinned (OpenSpec.upto fnExactIsSafeSpec)

/-- 'laws.FnExactAreSafe', WHERE WHAT IT READS IS OF BULK AT MOST 1048576: true; the input reads as it did. -/
def fnExactAreSafeUptoRow : OpenClaim := { program := "ytpjopbicnkfeoaa", sum := "5a18336d0d47b51f3313f8f89b74a06cb256c047838a84e734e3b45b0bd1f65d", func := "loop.example/g00591/laws.FnExactAreSafe", spec := "fnExactAreSafe", unfollowed := true, recurses := true, apart := false, narrowed := true }
def FnExactAreSafeUptoSaid : Prop := fnExactAreSafeUptoRow.holds Try.pinned (OpenSpec.upto fnExactAreSafeSpec)

end Rows
end Go.Proofs.Ytpjopbicnkfeoaa
