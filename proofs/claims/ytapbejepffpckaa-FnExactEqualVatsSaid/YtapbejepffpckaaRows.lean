/-
  No cell of these rows narrows 'for every input' (looked for: loops, veiled, ifaces, maps, wideKeys, modest, calm, conditions, laid).
  DERIVED. THE GIVEN ROWS OF THIS SEAT. 12 by the template 'for every input the law returns true; each argument reads behind the call as it read before'; 0 by the template 'total and deterministic' (their statements: YtapbejepffpckaaTotals.lean).
  GIVEN WITH THE SEED: the statements are not yours to turn. If you find one false, say at which input.
  Laid BY PROGRAM, IN A SANDBOX (cutbox-rows.mjs): the forced cells as the released guide's own fill.sh prints them over the translation cebc6a319e75622a… (all of the seat's roots in one cut). By AI agents, Wed Nov 11 2026. No macro, syntax, notation, axiom, sorry.
-/
import Derived.Test.YtapbejepffpckaaChecked
import GoSem.Claim
import GoSem.ClaimJoined
import GoSem.ClaimMapViews
import Derived.JoinedTies
import Derived.KernelRfl
namespace Go.Proofs.Ytapbejepffpckaa
/- THE CELL 'sum', in the pinned program and in every row, IS THE sha256 OF THE DUMP (.gsa) THAT YtapbejepffpckaaProg.lean LOADS. Nothing in Lean hashes anything: it is a label: what it is worth is what the hold of that sum in a sandbox is worth. -/
noncomputable def Try.pinned : Pinned := { name := "ytapbejepffpckaa", sum := "cebc6a319e75622a29078514ef5767fbbfe35b5b4942ff70e06868871fd87bd9", checked := Try.checked }
namespace Rows
def none {H : Type} : Left H := { results := [], args := [] }

/-- 'laws.FnExactProxyFor': WHATEVER THE INPUT: true; the input reads as it did. -/
def fnExactProxyForSpec : ChangeSpec := { name := "fnExactProxyFor", fn := fun _ => fun
  | [d1, d2, d3] => { results := [.lit (.bool true)], args := [d1, d2, d3] }
  | _ => none }
def fnExactProxyForRow : OpenClaim := { program := "ytapbejepffpckaa", sum := "cebc6a319e75622a29078514ef5767fbbfe35b5b4942ff70e06868871fd87bd9", func := "loop.example/g00591/laws.FnExactProxyFor", spec := "fnExactProxyFor", apart := false }
def FnExactProxyForSaid : Prop := fnExactProxyForRow.holds Try.pinned (OpenSpec.ofChange fnExactProxyForSpec)

/-- ITS FALSE NEIGHBOUR: 'it returns false'. Refute it at one input. -/
def fnExactProxyForWrong : ChangeSpec := { name := "fnExactProxyFor", fn := fun _ => fun
  | [d1, d2, d3] => { results := [.lit (.bool false)], args := [d1, d2, d3] }
  | _ => none }
def FnExactProxyForWrongFalsely : Prop := fnExactProxyForRow.holds Try.pinned (OpenSpec.ofChange fnExactProxyForWrong)

/-- 'laws.FnExactIsHolding': WHATEVER THE INPUT: true; the input reads as it did. -/
def fnExactIsHoldingSpec : ChangeSpec := { name := "fnExactIsHolding", fn := fun _ => fun
  | [d1, d2] => { results := [.lit (.bool true)], args := [d1, d2] }
  | _ => none }
def fnExactIsHoldingRow : OpenClaim := { program := "ytapbejepffpckaa", sum := "cebc6a319e75622a29078514ef5767fbbfe35b5b4942ff70e06868871fd87bd9", func := "loop.example/g00591/laws.FnExactIsHolding", spec := "fnExactIsHolding", apart := false }
def FnExactIsHoldingSaid : Prop := fnExactIsHoldingRow.holds Try.pinned (OpenSpec.ofChange fnExactIsHoldingSpec)

/-- ITS FALSE NEIGHBOUR: 'it returns false'. Refute it at one input. -/
def fnExactIsHoldingWrong : ChangeSpec := { name := "fnExactIsHolding", fn := fun _ => fun
  | [d1, d2] => { results := [.lit (.bool false)], args := [d1, d2] }
  | _ => none }
def FnExactIsHoldingWrongFalsely : Prop := fnExactIsHoldingRow.holds Try.pinned (OpenSpec.ofChange fnExactIsHoldingWrong)

/-- 'laws.FnExactCountObjects': WHATEVER THE INPUT: true; the input reads as it did. -/
def fnExactCountObjectsSpec : ChangeSpec := { name := "fnExactCountObjects", fn := fun _ => fun
  | [d] => { results := [.lit (.bool true)], args := [d] }
  | _ => none }
def fnExactCountObjectsRow : OpenClaim := { program := "ytapbejepffpckaa", sum := "cebc6a319e75622a29078514ef5767fbbfe35b5b4942ff70e06868871fd87bd9", func := "loop.example/g00591/laws.FnExactCountObjects", spec := "fnExactCountObjects", apart := false }
def FnExactCountObjectsSaid : Prop := fnExactCountObjectsRow.holds Try.pinned (OpenSpec.ofChange fnExactCountObjectsSpec)

/-- ITS FALSE NEIGHBOUR: 'it returns false'. Refute it at one input. -/
def fnExactCountObjectsWrong : ChangeSpec := { name := "fnExactCountObjects", fn := fun _ => fun
  | [d] => { results := [.lit (.bool false)], args := [d] }
  | _ => none }
def FnExactCountObjectsWrongFalsely : Prop := fnExactCountObjectsRow.holds Try.pinned (OpenSpec.ofChange fnExactCountObjectsWrong)

/-- 'laws.FnExactLinkTo': WHATEVER THE INPUT: true; the input reads as it did. -/
def fnExactLinkToSpec : ChangeSpec := { name := "fnExactLinkTo", fn := fun _ => fun
  | [d1, d2] => { results := [.lit (.bool true)], args := [d1, d2] }
  | _ => none }
def fnExactLinkToRow : OpenClaim := { program := "ytapbejepffpckaa", sum := "cebc6a319e75622a29078514ef5767fbbfe35b5b4942ff70e06868871fd87bd9", func := "loop.example/g00591/laws.FnExactLinkTo", spec := "fnExactLinkTo", unfollowed := true, recurses := true, apart := false }
def FnExactLinkToSaid : Prop := fnExactLinkToRow.holds Try.pinned (OpenSpec.ofChange fnExactLinkToSpec)

/-- ITS FALSE NEIGHBOUR: 'it returns false'. Refute it at one input. -/
def fnExactLinkToWrong : ChangeSpec := { name := "fnExactLinkTo", fn := fun _ => fun
  | [d1, d2] => { results := [.lit (.bool false)], args := [d1, d2] }
  | _ => none }
def FnExactLinkToWrongFalsely : Prop := fnExactLinkToRow.holds Try.pinned (OpenSpec.ofChange fnExactLinkToWrong)

/-- 'laws.FnExactIsSwept': WHATEVER THE INPUT: true; the input reads as it did. -/
def fnExactIsSweptSpec : ChangeSpec := { name := "fnExactIsSwept", fn := fun _ => fun
  | [d1, d2] => { results := [.lit (.bool true)], args := [d1, d2] }
  | _ => none }
def fnExactIsSweptRow : OpenClaim := { program := "ytapbejepffpckaa", sum := "cebc6a319e75622a29078514ef5767fbbfe35b5b4942ff70e06868871fd87bd9", func := "loop.example/g00591/laws.FnExactIsSwept", spec := "fnExactIsSwept", apart := false }
def FnExactIsSweptSaid : Prop := fnExactIsSweptRow.holds Try.pinned (OpenSpec.ofChange fnExactIsSweptSpec)

/-- ITS FALSE NEIGHBOUR: 'it returns false'. Refute it at one input. -/
def fnExactIsSweptWrong : ChangeSpec := { name := "fnExactIsSwept", fn := fun _ => fun
  | [d1, d2] => { results := [.lit (.bool false)], args := [d1, d2] }
  | _ => none }
def FnExactIsSweptWrongFalsely : Prop := fnExactIsSweptRow.holds Try.pinned (OpenSpec.ofChange fnExactIsSweptWrong)

/-- 'laws.FnExactLook': WHATEVER THE INPUT: true; the input reads as it did. -/
def fnExactLookSpec : ChangeSpec := { name := "fnExactLook", fn := fun _ => fun
  | [d1, d2] => { results := [.lit (.bool true)], args := [d1, d2] }
  | _ => none }
def fnExactLookRow : OpenClaim := { program := "ytapbejepffpckaa", sum := "cebc6a319e75622a29078514ef5767fbbfe35b5b4942ff70e06868871fd87bd9", func := "loop.example/g00591/laws.FnExactLook", spec := "fnExactLook", apart := false }
def FnExactLookSaid : Prop := fnExactLookRow.holds Try.pinned (OpenSpec.ofChange fnExactLookSpec)

/-- ITS FALSE NEIGHBOUR: 'it returns false'. Refute it at one input. -/
def fnExactLookWrong : ChangeSpec := { name := "fnExactLook", fn := fun _ => fun
  | [d1, d2] => { results := [.lit (.bool false)], args := [d1, d2] }
  | _ => none }
def FnExactLookWrongFalsely : Prop := fnExactLookRow.holds Try.pinned (OpenSpec.ofChange fnExactLookWrong)

/-- 'laws.FnExactResultOf': WHATEVER THE INPUT: true; the input reads as it did. -/
def fnExactResultOfSpec : ChangeSpec := { name := "fnExactResultOf", fn := fun _ => fun
  | [d1, d2] => { results := [.lit (.bool true)], args := [d1, d2] }
  | _ => none }
def fnExactResultOfRow : OpenClaim := { program := "ytapbejepffpckaa", sum := "cebc6a319e75622a29078514ef5767fbbfe35b5b4942ff70e06868871fd87bd9", func := "loop.example/g00591/laws.FnExactResultOf", spec := "fnExactResultOf", apart := false }
def FnExactResultOfSaid : Prop := fnExactResultOfRow.holds Try.pinned (OpenSpec.ofChange fnExactResultOfSpec)

/-- ITS FALSE NEIGHBOUR: 'it returns false'. Refute it at one input. -/
def fnExactResultOfWrong : ChangeSpec := { name := "fnExactResultOf", fn := fun _ => fun
  | [d1, d2] => { results := [.lit (.bool false)], args := [d1, d2] }
  | _ => none }
def FnExactResultOfWrongFalsely : Prop := fnExactResultOfRow.holds Try.pinned (OpenSpec.ofChange fnExactResultOfWrong)

/-- 'laws.FnExactIsLocal': WHATEVER THE INPUT: true; the input reads as it did. -/
def fnExactIsLocalSpec : ChangeSpec := { name := "fnExactIsLocal", fn := fun _ => fun
  | [d1, d2] => { results := [.lit (.bool true)], args := [d1, d2] }
  | _ => none }
def fnExactIsLocalRow : OpenClaim := { program := "ytapbejepffpckaa", sum := "cebc6a319e75622a29078514ef5767fbbfe35b5b4942ff70e06868871fd87bd9", func := "loop.example/g00591/laws.FnExactIsLocal", spec := "fnExactIsLocal", apart := false }
def FnExactIsLocalSaid : Prop := fnExactIsLocalRow.holds Try.pinned (OpenSpec.ofChange fnExactIsLocalSpec)

/-- ITS FALSE NEIGHBOUR: 'it returns false'. Refute it at one input. -/
def fnExactIsLocalWrong : ChangeSpec := { name := "fnExactIsLocal", fn := fun _ => fun
  | [d1, d2] => { results := [.lit (.bool false)], args := [d1, d2] }
  | _ => none }
def FnExactIsLocalWrongFalsely : Prop := fnExactIsLocalRow.holds Try.pinned (OpenSpec.ofChange fnExactIsLocalWrong)

/-- 'laws.FnExactEqualVats': WHATEVER THE INPUT: true; the input reads as it did. -/
def fnExactEqualVatsSpec : ChangeSpec := { name := "fnExactEqualVats", fn := fun _ => fun
  | [d1, d2] => { results := [.lit (.bool true)], args := [d1, d2] }
  | _ => none }
def fnExactEqualVatsRow : OpenClaim := { program := "ytapbejepffpckaa", sum := "cebc6a319e75622a29078514ef5767fbbfe35b5b4942ff70e06868871fd87bd9", func := "loop.example/g00591/laws.FnExactEqualVats", spec := "fnExactEqualVats", unfollowed := true, recurses := true, apart := false }
def FnExactEqualVatsSaid : Prop := fnExactEqualVatsRow.holds Try.pinned (OpenSpec.ofChange fnExactEqualVatsSpec)

/-- ITS FALSE NEIGHBOUR: 'it returns false'. Refute it at one input. -/
def fnExactEqualVatsWrong : ChangeSpec := { name := "fnExactEqualVats", fn := fun _ => fun
  | [d1, d2] => { results := [.lit (.bool false)], args := [d1, d2] }
  | _ => none }
def FnExactEqualVatsWrongFalsely : Prop := fnExactEqualVatsRow.holds Try.pinned (OpenSpec.ofChange fnExactEqualVatsWrong)

/-- 'laws.FnExactProxiesOf': WHATEVER THE INPUT: true; the input reads as it did. -/
def fnExactProxiesOfSpec : ChangeSpec := { name := "fnExactProxiesOf", fn := fun _ => fun
  | [d1, d2] => { results := [.lit (.bool true)], args := [d1, d2] }
  | _ => none }
def fnExactProxiesOfRow : OpenClaim := { program := "ytapbejepffpckaa", sum := "cebc6a319e75622a29078514ef5767fbbfe35b5b4942ff70e06868871fd87bd9", func := "loop.example/g00591/laws.FnExactProxiesOf", spec := "fnExactProxiesOf", unfollowed := true, recurses := true, apart := false }
def FnExactProxiesOfSaid : Prop := fnExactProxiesOfRow.holds Try.pinned (OpenSpec.ofChange fnExactProxiesOfSpec)

/-- ITS FALSE NEIGHBOUR: 'it returns false'. Refute it at one input. -/
def fnExactProxiesOfWrong : ChangeSpec := { name := "fnExactProxiesOf", fn := fun _ => fun
  | [d1, d2] => { results := [.lit (.bool false)], args := [d1, d2] }
  | _ => none }
def FnExactProxiesOfWrongFalsely : Prop := fnExactProxiesOfRow.holds Try.pinned (OpenSpec.ofChange fnExactProxiesOfWrong)

/-- 'laws.FnExactAwayAt': WHATEVER THE INPUT: true; the input reads as it did. -/
def fnExactAwayAtSpec : ChangeSpec := { name := "fnExactAwayAt", fn := fun _ => fun
  | [d1, d2] => { results := [.lit (.bool true)], args := [d1, d2] }
  | _ => none }
def fnExactAwayAtRow : OpenClaim := { program := "ytapbejepffpckaa", sum := "cebc6a319e75622a29078514ef5767fbbfe35b5b4942ff70e06868871fd87bd9", func := "loop.example/g00591/laws.FnExactAwayAt", spec := "fnExactAwayAt", unfollowed := true, recurses := true, apart := false }
def FnExactAwayAtSaid : Prop := fnExactAwayAtRow.holds Try.pinned (OpenSpec.ofChange fnExactAwayAtSpec)

/-- ITS FALSE NEIGHBOUR: 'it returns false'. Refute it at one input. -/
def fnExactAwayAtWrong : ChangeSpec := { name := "fnExactAwayAt", fn := fun _ => fun
  | [d1, d2] => { results := [.lit (.bool false)], args := [d1, d2] }
  | _ => none }
def FnExactAwayAtWrongFalsely : Prop := fnExactAwayAtRow.holds Try.pinned (OpenSpec.ofChange fnExactAwayAtWrong)

/-- 'laws.FnExactAnswersTo': WHATEVER THE INPUT: true; the input reads as it did. -/
def fnExactAnswersToSpec : ChangeSpec := { name := "fnExactAnswersTo", fn := fun _ => fun
  | [d1, d2] => { results := [.lit (.bool true)], args := [d1, d2] }
  | _ => none }
def fnExactAnswersToRow : OpenClaim := { program := "ytapbejepffpckaa", sum := "cebc6a319e75622a29078514ef5767fbbfe35b5b4942ff70e06868871fd87bd9", func := "loop.example/g00591/laws.FnExactAnswersTo", spec := "fnExactAnswersTo", unfollowed := true, recurses := true, apart := false }
def FnExactAnswersToSaid : Prop := fnExactAnswersToRow.holds Try.pinned (OpenSpec.ofChange fnExactAnswersToSpec)

/-- ITS FALSE NEIGHBOUR: 'it returns false'. Refute it at one input. -/
def fnExactAnswersToWrong : ChangeSpec := { name := "fnExactAnswersTo", fn := fun _ => fun
  | [d1, d2] => { results := [.lit (.bool false)], args := [d1, d2] }
  | _ => none }
def FnExactAnswersToWrongFalsely : Prop := fnExactAnswersToRow.holds Try.pinned (OpenSpec.ofChange fnExactAnswersToWrong)

/- THE SECOND FORM. 'bulk': how many values and letters a reading holds, each counted each time it is reached (what is shared counts as often as it is met; a slice's spare places count too). A statement '..UptoSaid' is the law's where the arguments, and the package variables that the reading takes, are together of bulk at most 1048576: NARROWER than '..Said'. Prove '..Said' where nothing that the law and all that it calls make is longer than what came in: it says more and counts as full. Else prove '..UptoSaid'. A law counts once. -/
mutual
def uptoBulk {H : Type} : DataW H → Nat
  | .lit (.string bytes) => bytes.length + 1
  | .lit _ => 1
  | .nil => 1
  | .ptr d => uptoBulk d + 1
  | .slice elems spare => uptoBulkAll elems + uptoBulkAll spare + 1
  | .agg parts => uptoBulkAll parts + 1
  | .iface _ d => uptoBulk d + 1
  | .map entries => uptoBulkEntries entries + 1
  | .held _ => 1
def uptoBulkAll {H : Type} : List (DataW H) → Nat
  | [] => 0
  | d :: r => uptoBulk d + uptoBulkAll r
def uptoBulkEntries {H : Type} : List (Lit × DataW H) → Nat
  | [] => 0
  | x :: r => uptoBulkEntry x + uptoBulkEntries r
def uptoBulkEntry {H : Type} : Lit × DataW H → Nat
  | (.string bytes, d) => bytes.length + uptoBulk d + 1
  | (_, d) => uptoBulk d + 1
 end
def uptoSmall : (H : Type) → List (DataW H) → Bool := fun _ ds => decide (uptoBulkAll ds ≤ 1048576)
def OpenSpec.upto (s : _root_.Go.ChangeSpec) : _root_.Go.OpenSpec := { _root_.Go.OpenSpec.ofChange s with cond := some uptoSmall }

/-- 'laws.FnExactProxyFor', WHERE WHAT IT READS IS OF BULK AT MOST 1048576: true; the input reads as it did. -/
def fnExactProxyForUptoRow : OpenClaim := { program := "ytapbejepffpckaa", sum := "cebc6a319e75622a29078514ef5767fbbfe35b5b4942ff70e06868871fd87bd9", func := "loop.example/g00591/laws.FnExactProxyFor", spec := "fnExactProxyFor", apart := false, narrowed := true }
def FnExactProxyForUptoSaid : Prop := fnExactProxyForUptoRow.holds Try.pinned (OpenSpec.upto fnExactProxyForSpec)

/-- 'laws.FnExactIsHolding', WHERE WHAT IT READS IS OF BULK AT MOST 1048576: true; the input reads as it did. -/
def fnExactIsHoldingUptoRow : OpenClaim := { program := "ytapbejepffpckaa", sum := "cebc6a319e75622a29078514ef5767fbbfe35b5b4942ff70e06868871fd87bd9", func := "loop.example/g00591/laws.FnExactIsHolding", spec := "fnExactIsHolding", apart := false, narrowed := true }
def FnExactIsHoldingUptoSaid : Prop := fnExactIsHoldingUptoRow.holds Try.pinned (OpenSpec.upto fnExactIsHoldingSpec)

/-- 'laws.FnExactCountObjects', WHERE WHAT IT READS IS OF BULK AT MOST 1048576: true; the input reads as it did. -/
def fnExactCountObjectsUptoRow : OpenClaim := { program := "ytapbejepffpckaa", sum := "cebc6a319e75622a29078514ef5767fbbfe35b5b4942ff70e06868871fd87bd9", func := "loop.example/g00591/laws.FnExactCountObjects", spec := "fnExactCountObjects", apart := false, narrowed := true }
def FnExactCountObjectsUptoSaid : Prop := fnExactCountObjectsUptoRow.holds Try.pinned (OpenSpec.upto fnExactCountObjectsSpec)

/-- 'laws.FnExactLinkTo', WHERE WHAT IT READS IS OF BULK AT MOST 1048576: true; the input reads as it did. -/
def fnExactLinkToUptoRow : OpenClaim := { program := "ytapbejepffpckaa", sum := "cebc6a319e75622a29078514ef5767fbbfe35b5b4942ff70e06868871fd87bd9", func := "loop.example/g00591/laws.FnExactLinkTo", spec := "fnExactLinkTo", unfollowed := true, recurses := true, apart := false, narrowed := true }
def FnExactLinkToUptoSaid : Prop := fnExactLinkToUptoRow.holds Try.pinned (OpenSpec.upto fnExactLinkToSpec)

/-- 'laws.FnExactIsSwept', WHERE WHAT IT READS IS OF BULK AT MOST 1048576: true; the input reads as it did. -/
def fnExactIsSweptUptoRow : OpenClaim := { program := "ytapbejepffpckaa", sum := "cebc6a319e75622a29078514ef5767fbbfe35b5b4942ff70e06868871fd87bd9", func := "loop.example/g00591/laws.FnExactIsSwept", spec := "fnExactIsSwept", apart := false, narrowed := true }
def FnExactIsSweptUptoSaid : Prop := fnExactIsSweptUptoRow.holds Try.pinned (OpenSpec.upto fnExactIsSweptSpec)

/-- 'laws.FnExactLook', WHERE WHAT IT READS IS OF BULK AT MOST 1048576: true; the input reads as it did. -/
def fnExactLookUptoRow : OpenClaim := { program := "ytapbejepffpckaa", sum := "cebc6a319e75622a29078514ef5767fbbfe35b5b4942ff70e06868871fd87bd9", func := "loop.example/g00591/laws.FnExactLook", spec := "fnExactLook", apart := false, narrowed := true }
def FnExactLookUptoSaid : Prop := fnExactLookUptoRow.holds Try.pinned (OpenSpec.upto fnExactLookSpec)

/-- 'laws.FnExactResultOf', WHERE WHAT IT READS IS OF BULK AT MOST 1048576: true; the input reads as it did. -/
def fnExactResultOfUptoRow : OpenClaim := { program := "ytapbejepffpckaa", sum := "cebc6a319e75622a29078514ef5767fbbfe35b5b4942ff70e06868871fd87bd9", func := "loop.example/g00591/laws.FnExactResultOf", spec := "fnExactResultOf", apart := false, narrowed := true }
def FnExactResultOfUptoSaid : Prop := fnExactResultOfUptoRow.holds Try.pinned (OpenSpec.upto fnExactResultOfSpec)

/-- 'laws.FnExactIsLocal', WHERE WHAT IT READS IS OF BULK AT MOST 1048576: true; the input reads as it did. -/
def fnExactIsLocalUptoRow : OpenClaim := { program := "ytapbejepffpckaa", sum := "cebc6a319e75622a29078514ef5767fbbfe35b5b4942ff70e06868871fd87bd9", func := "loop.example/g00591/laws.FnExactIsLocal", spec := "fnExactIsLocal", apart := false, narrowed := true }
def FnExactIsLocalUptoSaid : Prop := fnExactIsLocalUptoRow.holds Try.pinned (OpenSpec.upto fnExactIsLocalSpec)

/-- 'laws.FnExactEqualVats', WHERE WHAT IT READS IS OF BULK AT MOST 1048576: true; the input reads as it did. -/
def fnExactEqualVatsUptoRow : OpenClaim := { program := "ytapbejepffpckaa", sum := "cebc6a319e75622a29078514ef5767fbbfe35b5b4942ff70e06868871fd87bd9", func := "loop.example/g00591/laws.FnExactEqualVats", spec := "fnExactEqualVats", unfollowed := true, recurses := true, apart := false, narrowed := true }
def FnExactEqualVatsUptoSaid : Prop := fnExactEqualVatsUptoRow.holds Try.pinned (OpenSpec.upto fnExactEqualVatsSpec)

/-- 'laws.FnExactProxiesOf', WHERE WHAT IT READS IS OF BULK AT MOST 1048576: true; the input reads as it did. -/
def fnExactProxiesOfUptoRow : OpenClaim := { program := "ytapbejepffpckaa", sum := "cebc6a319e75622a29078514ef5767fbbfe35b5b4942ff70e06868871fd87bd9", func := "loop.example/g00591/laws.FnExactProxiesOf", spec := "fnExactProxiesOf", unfollowed := true, recurses := true, apart := false, narrowed := true }
def FnExactProxiesOfUptoSaid : Prop := fnExactProxiesOfUptoRow.holds Try.pinned (OpenSpec.upto fnExactProxiesOfSpec)

/-- 'laws.FnExactAwayAt', WHERE WHAT IT READS IS OF BULK AT MOST 1048576: true; the input reads as it did. -/
def fnExactAwayAtUptoRow : OpenClaim := { program := "ytapbejepffpckaa", sum := "cebc6a319e75622a29078514ef5767fbbfe35b5b4942ff70e06868871fd87bd9", func := "loop.example/g00591/laws.FnExactAwayAt", spec := "fnExactAwayAt", unfollowed := true, recurses := true, apart := false, narrowed := true }
def FnExactAwayAtUptoSaid : Prop := fnExactAwayAtUptoRow.holds Try.pinned (OpenSpec.upto fnExactAwayAtSpec)

/-- 'laws.FnExactAnswersTo', WHERE WHAT IT READS IS OF BULK AT MOST 1048576: true; the input reads as it did. -/
def fnExactAnswersToUptoRow : OpenClaim := { program := "ytapbejepffpckaa", sum := "cebc6a319e75622a29078514ef5767fbbfe35b5b4942ff70e06868871fd87bd9", func := "loop.example/g00591/laws.FnExactAnswersTo", spec := "fnExactAnswersTo", unfollowed := true, recurses := true, apart := false, narrowed := true }
def FnExactAnswersToUptoSaid : Prop := fnExactAnswersToUptoRow.holds Try.pinned (OpenSpec.upto fnExactAnswersToSpec)

end Rows
end Go.Proofs.Ytapbejepffpckaa
