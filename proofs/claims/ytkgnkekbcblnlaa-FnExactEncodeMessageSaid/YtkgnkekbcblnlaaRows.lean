/-
  No cell of these rows narrows 'for every input' (looked for: loops, veiled, ifaces, maps, wideKeys, modest, calm, conditions, laid).
  DERIVED. THE GIVEN ROWS OF THIS SEAT. 8 by the template 'for every input the law returns true; each argument reads behind the call as it read before'; 0 by the template 'total and deterministic' (their statements: YtkgnkekbcblnlaaTotals.lean).
  GIVEN WITH THE SEED: the statements are not yours to turn. If you find one false, say at which input.
  Laid BY PROGRAM, IN A SANDBOX (cutbox-rows.mjs): the forced cells as the released guide's own fill.sh prints them over the translation 72e4f9f3f3cb5a03… (all of the seat's roots in one cut). By AI agents, Wed Nov 11 2026. No macro, syntax, notation, axiom, sorry.
-/
import Derived.Test.YtkgnkekbcblnlaaChecked
import GoSem.Claim
import GoSem.ClaimJoined
import GoSem.ClaimMapViews
import Derived.JoinedTies
import Derived.KernelRfl
namespace Go.Proofs.Ytkgnkekbcblnlaa
/- THE CELL 'sum', in the pinned program and in every row, IS THE sha256 OF THE DUMP (.gsa) THAT YtkgnkekbcblnlaaProg.lean LOADS. Nothing in Lean hashes anything: it is a label: what it is worth is what the hold of that sum in a sandbox is worth. -/
noncomputable def Try.pinned : Pinned := { name := "ytkgnkekbcblnlaa", sum := "72e4f9f3f3cb5a035b2becbd1e01397a885d46fc6f48fd445c92a8f3586de1b6", checked := Try.checked }
namespace Rows
def none {H : Type} : Left H := { results := [], args := [] }

/-- 'laws.FnExactIsWire': WHATEVER THE INPUT: true; the input reads as it did. -/
def fnExactIsWireSpec : ChangeSpec := { name := "fnExactIsWire", fn := fun _ => fun
  | [d] => { results := [.lit (.bool true)], args := [d] }
  | _ => none }
def fnExactIsWireRow : OpenClaim := { program := "ytkgnkekbcblnlaa", sum := "72e4f9f3f3cb5a035b2becbd1e01397a885d46fc6f48fd445c92a8f3586de1b6", func := "loop.example/g00591/laws.FnExactIsWire", spec := "fnExactIsWire", apart := false }
def FnExactIsWireSaid : Prop := fnExactIsWireRow.holds Try.pinned (OpenSpec.ofChange fnExactIsWireSpec)

/-- ITS FALSE NEIGHBOUR: 'it returns false'. Refute it at one input. -/
def fnExactIsWireWrong : ChangeSpec := { name := "fnExactIsWire", fn := fun _ => fun
  | [d] => { results := [.lit (.bool false)], args := [d] }
  | _ => none }
def FnExactIsWireWrongFalsely : Prop := fnExactIsWireRow.holds Try.pinned (OpenSpec.ofChange fnExactIsWireWrong)

/-- 'laws.FnExactEqualMessages': WHATEVER THE INPUT: true; the input reads as it did. -/
def fnExactEqualMessagesSpec : ChangeSpec := { name := "fnExactEqualMessages", fn := fun _ => fun
  | [d1, d2] => { results := [.lit (.bool true)], args := [d1, d2] }
  | _ => none }
def fnExactEqualMessagesRow : OpenClaim := { program := "ytkgnkekbcblnlaa", sum := "72e4f9f3f3cb5a035b2becbd1e01397a885d46fc6f48fd445c92a8f3586de1b6", func := "loop.example/g00591/laws.FnExactEqualMessages", spec := "fnExactEqualMessages", apart := false }
def FnExactEqualMessagesSaid : Prop := fnExactEqualMessagesRow.holds Try.pinned (OpenSpec.ofChange fnExactEqualMessagesSpec)

/-- ITS FALSE NEIGHBOUR: 'it returns false'. Refute it at one input. -/
def fnExactEqualMessagesWrong : ChangeSpec := { name := "fnExactEqualMessages", fn := fun _ => fun
  | [d1, d2] => { results := [.lit (.bool false)], args := [d1, d2] }
  | _ => none }
def FnExactEqualMessagesWrongFalsely : Prop := fnExactEqualMessagesRow.holds Try.pinned (OpenSpec.ofChange fnExactEqualMessagesWrong)

/-- 'laws.FnExactCountFlight': WHATEVER THE INPUT: true; the input reads as it did. -/
def fnExactCountFlightSpec : ChangeSpec := { name := "fnExactCountFlight", fn := fun _ => fun
  | [d] => { results := [.lit (.bool true)], args := [d] }
  | _ => none }
def fnExactCountFlightRow : OpenClaim := { program := "ytkgnkekbcblnlaa", sum := "72e4f9f3f3cb5a035b2becbd1e01397a885d46fc6f48fd445c92a8f3586de1b6", func := "loop.example/g00591/laws.FnExactCountFlight", spec := "fnExactCountFlight", apart := false }
def FnExactCountFlightSaid : Prop := fnExactCountFlightRow.holds Try.pinned (OpenSpec.ofChange fnExactCountFlightSpec)

/-- ITS FALSE NEIGHBOUR: 'it returns false'. Refute it at one input. -/
def fnExactCountFlightWrong : ChangeSpec := { name := "fnExactCountFlight", fn := fun _ => fun
  | [d] => { results := [.lit (.bool false)], args := [d] }
  | _ => none }
def FnExactCountFlightWrongFalsely : Prop := fnExactCountFlightRow.holds Try.pinned (OpenSpec.ofChange fnExactCountFlightWrong)

/-- 'laws.FnExactIsMessage': WHATEVER THE INPUT: true; the input reads as it did. -/
def fnExactIsMessageSpec : ChangeSpec := { name := "fnExactIsMessage", fn := fun _ => fun
  | [d] => { results := [.lit (.bool true)], args := [d] }
  | _ => none }
def fnExactIsMessageRow : OpenClaim := { program := "ytkgnkekbcblnlaa", sum := "72e4f9f3f3cb5a035b2becbd1e01397a885d46fc6f48fd445c92a8f3586de1b6", func := "loop.example/g00591/laws.FnExactIsMessage", spec := "fnExactIsMessage", unfollowed := true, recurses := true, apart := false }
def FnExactIsMessageSaid : Prop := fnExactIsMessageRow.holds Try.pinned (OpenSpec.ofChange fnExactIsMessageSpec)

/-- ITS FALSE NEIGHBOUR: 'it returns false'. Refute it at one input. -/
def fnExactIsMessageWrong : ChangeSpec := { name := "fnExactIsMessage", fn := fun _ => fun
  | [d] => { results := [.lit (.bool false)], args := [d] }
  | _ => none }
def FnExactIsMessageWrongFalsely : Prop := fnExactIsMessageRow.holds Try.pinned (OpenSpec.ofChange fnExactIsMessageWrong)

/-- 'laws.FnExactEqualChannels': WHATEVER THE INPUT: true; the input reads as it did. -/
def fnExactEqualChannelsSpec : ChangeSpec := { name := "fnExactEqualChannels", fn := fun _ => fun
  | [d1, d2] => { results := [.lit (.bool true)], args := [d1, d2] }
  | _ => none }
def fnExactEqualChannelsRow : OpenClaim := { program := "ytkgnkekbcblnlaa", sum := "72e4f9f3f3cb5a035b2becbd1e01397a885d46fc6f48fd445c92a8f3586de1b6", func := "loop.example/g00591/laws.FnExactEqualChannels", spec := "fnExactEqualChannels", unfollowed := true, recurses := true, apart := false }
def FnExactEqualChannelsSaid : Prop := fnExactEqualChannelsRow.holds Try.pinned (OpenSpec.ofChange fnExactEqualChannelsSpec)

/-- ITS FALSE NEIGHBOUR: 'it returns false'. Refute it at one input. -/
def fnExactEqualChannelsWrong : ChangeSpec := { name := "fnExactEqualChannels", fn := fun _ => fun
  | [d1, d2] => { results := [.lit (.bool false)], args := [d1, d2] }
  | _ => none }
def FnExactEqualChannelsWrongFalsely : Prop := fnExactEqualChannelsRow.holds Try.pinned (OpenSpec.ofChange fnExactEqualChannelsWrong)

/-- 'laws.FnExactAllChannels': WHATEVER THE INPUT: true; the input reads as it did. -/
def fnExactAllChannelsSpec : ChangeSpec := { name := "fnExactAllChannels", fn := fun _ => fun
  | [d] => { results := [.lit (.bool true)], args := [d] }
  | _ => none }
def fnExactAllChannelsRow : OpenClaim := { program := "ytkgnkekbcblnlaa", sum := "72e4f9f3f3cb5a035b2becbd1e01397a885d46fc6f48fd445c92a8f3586de1b6", func := "loop.example/g00591/laws.FnExactAllChannels", spec := "fnExactAllChannels", apart := false }
def FnExactAllChannelsSaid : Prop := fnExactAllChannelsRow.holds Try.pinned (OpenSpec.ofChange fnExactAllChannelsSpec)

/-- ITS FALSE NEIGHBOUR: 'it returns false'. Refute it at one input. -/
def fnExactAllChannelsWrong : ChangeSpec := { name := "fnExactAllChannels", fn := fun _ => fun
  | [d] => { results := [.lit (.bool false)], args := [d] }
  | _ => none }
def FnExactAllChannelsWrongFalsely : Prop := fnExactAllChannelsRow.holds Try.pinned (OpenSpec.ofChange fnExactAllChannelsWrong)

/-- 'laws.FnExactEncodeMessage': WHATEVER THE INPUT: true; the input reads as it did. -/
def fnExactEncodeMessageSpec : ChangeSpec := { name := "fnExactEncodeMessage", fn := fun _ => fun
  | [d] => { results := [.lit (.bool true)], args := [d] }
  | _ => none }
def fnExactEncodeMessageRow : OpenClaim := { program := "ytkgnkekbcblnlaa", sum := "72e4f9f3f3cb5a035b2becbd1e01397a885d46fc6f48fd445c92a8f3586de1b6", func := "loop.example/g00591/laws.FnExactEncodeMessage", spec := "fnExactEncodeMessage", unfollowed := true, recurses := true, apart := false }
def FnExactEncodeMessageSaid : Prop := fnExactEncodeMessageRow.holds Try.pinned (OpenSpec.ofChange fnExactEncodeMessageSpec)

/-- ITS FALSE NEIGHBOUR: 'it returns false'. Refute it at one input. -/
def fnExactEncodeMessageWrong : ChangeSpec := { name := "fnExactEncodeMessage", fn := fun _ => fun
  | [d] => { results := [.lit (.bool false)], args := [d] }
  | _ => none }
def FnExactEncodeMessageWrongFalsely : Prop := fnExactEncodeMessageRow.holds Try.pinned (OpenSpec.ofChange fnExactEncodeMessageWrong)

/-- 'laws.FnExactDecodeMessage': WHATEVER THE INPUT: true; the input reads as it did. -/
def fnExactDecodeMessageSpec : ChangeSpec := { name := "fnExactDecodeMessage", fn := fun _ => fun
  | [d] => { results := [.lit (.bool true)], args := [d] }
  | _ => none }
def fnExactDecodeMessageRow : OpenClaim := { program := "ytkgnkekbcblnlaa", sum := "72e4f9f3f3cb5a035b2becbd1e01397a885d46fc6f48fd445c92a8f3586de1b6", func := "loop.example/g00591/laws.FnExactDecodeMessage", spec := "fnExactDecodeMessage", unfollowed := true, recurses := true, apart := false }
def FnExactDecodeMessageSaid : Prop := fnExactDecodeMessageRow.holds Try.pinned (OpenSpec.ofChange fnExactDecodeMessageSpec)

/-- ITS FALSE NEIGHBOUR: 'it returns false'. Refute it at one input. -/
def fnExactDecodeMessageWrong : ChangeSpec := { name := "fnExactDecodeMessage", fn := fun _ => fun
  | [d] => { results := [.lit (.bool false)], args := [d] }
  | _ => none }
def FnExactDecodeMessageWrongFalsely : Prop := fnExactDecodeMessageRow.holds Try.pinned (OpenSpec.ofChange fnExactDecodeMessageWrong)

/- THE SECOND FORM. 'bulk': how many values and letters a reading holds, each counted each time it is reached (what is shared counts as often as it is met; a slice's spare places count too). A statement '..UptoSaid' is the law's where the arguments, and the package variables that the reading takes, are together of bulk at most 1048576: NARROWER than '..Said'. Prove '..Said' where nothing that the law and all that it calls make is longer than what came in: it says more and counts as full. Else prove '..UptoSaid'. A law counts once. -/
mutual
def uptoBulk {H : Type} : DataW H → Nat
  | .lit (.string bytes) => bytes.length + 1
  | .lit _ => 1
  | .nil => 1
  | .ptr d => uptoBulk d + 1
  | .slice elems spare => uptoBulkAll elems + uptoBulkAll spare + 1
  | .agg parts => uptoBulkAll parts + 1
  | .iface _ d => uptoBulk d + 1
  | .map entries => uptoBulkEntries entries + 1
  | .held _ => 1
def uptoBulkAll {H : Type} : List (DataW H) → Nat
  | [] => 0
  | d :: r => uptoBulk d + uptoBulkAll r
def uptoBulkEntries {H : Type} : List (Lit × DataW H) → Nat
  | [] => 0
  | x :: r => uptoBulkEntry x + uptoBulkEntries r
def uptoBulkEntry {H : Type} : Lit × DataW H → Nat
  | (.string bytes, d) => bytes.length + uptoBulk d + 1
  | (_, d) => uptoBulk d + 1
 end
def uptoSmall : (H : Type) → List (DataW H) → Bool := fun _ ds => decide (uptoBulkAll ds ≤ 1048576)
def OpenSpec.upto (s : _root_.Go.ChangeSpec) : _root_.Go.OpenSpec := { _root_.Go.OpenSpec.ofChange s with cond := some uptoSmall }

/-- 'laws.FnExactIsWire', WHERE WHAT IT READS IS OF BULK AT MOST 1048576: true; the input reads as it did. -/
def fnExactIsWireUptoRow : OpenClaim := { program := "ytkgnkekbcblnlaa", sum := "72e4f9f3f3cb5a035b2becbd1e01397a885d46fc6f48fd445c92a8f3586de1b6", func := "loop.example/g00591/laws.FnExactIsWire", spec := "fnExactIsWire", apart := false, narrowed := true }
def FnExactIsWireUptoSaid : Prop := fnExactIsWireUptoRow.holds Try.pinned (OpenSpec.upto fnExactIsWireSpec)

/-- 'laws.FnExactEqualMessages', WHERE WHAT IT READS IS OF BULK AT MOST 1048576: true; the input reads as it did. -/
def fnExactEqualMessagesUptoRow : OpenClaim := { program := "ytkgnkekbcblnlaa", sum := "72e4f9f3f3cb5a035b2becbd1e01397a885d46fc6f48fd445c92a8f3586de1b6", func := "loop.example/g00591/laws.FnExactEqualMessages", spec := "fnExactEqualMessages", apart := false, narrowed := true }
def FnExactEqualMessagesUptoSaid : Prop := fnExactEqualMessagesUptoRow.holds Try.pinned (OpenSpec.upto fnExactEqualMessagesSpec)

/-- 'laws.FnExactCountFlight', WHERE WHAT IT READS IS OF BULK AT MOST 1048576: true; the input reads as it did. -/
def fnExactCountFlightUptoRow : OpenClaim := { program := "ytkgnkekbcblnlaa", sum := "72e4f9f3f3cb5a035b2becbd1e01397a885d46fc6f48fd445c92a8f3586de1b6", func := "loop.example/g00591/laws.FnExactCountFlight", spec := "fnExactCountFlight", apart := false, narrowed := true }
def FnExactCountFlightUptoSaid : Prop := fnExactCountFlightUptoRow.holds Try.pinned (OpenSpec.upto fnExactCountFlightSpec)

/-- 'laws.FnExactIsMessage', WHERE WHAT IT READS IS OF BULK AT MOST 1048576: true; the input reads as it did. -/
def fnExactIsMessageUptoRow : OpenClaim := { program := "ytkgnkekbcblnlaa", sum := "72e4f9f3f3cb5a035b2becbd1e01397a885d46fc6f48fd445c92a8f3586de1b6", func := "loop.example/g00591/laws.FnExactIsMessage", spec := "fnExactIsMessage", unfollowed := true, recurses := true, apart := false, narrowed := true }
def FnExactIsMessageUptoSaid : Prop := fnExactIsMessageUptoRow.holds Try.pinned (OpenSpec.upto fnExactIsMessageSpec)

/-- 'laws.FnExactEqualChannels', WHERE WHAT IT READS IS OF BULK AT MOST 1048576: true; the input reads as it did. -/
def fnExactEqualChannelsUptoRow : OpenClaim := { program := "ytkgnkekbcblnlaa", sum := "72e4f9f3f3cb5a035b2becbd1e01397a885d46fc6f48fd445c92a8f3586de1b6", func := "loop.example/g00591/laws.FnExactEqualChannels", spec := "fnExactEqualChannels", unfollowed := true, recurses := true, apart := false, narrowed := true }
def FnExactEqualChannelsUptoSaid : Prop := fnExactEqualChannelsUptoRow.holds Try.pinned (OpenSpec.upto fnExactEqualChannelsSpec)

/-- 'laws.FnExactAllChannels', WHERE WHAT IT READS IS OF BULK AT MOST 1048576: true; the input reads as it did. -/
def fnExactAllChannelsUptoRow : OpenClaim := { program := "ytkgnkekbcblnlaa", sum := "72e4f9f3f3cb5a035b2becbd1e01397a885d46fc6f48fd445c92a8f3586de1b6", func := "loop.example/g00591/laws.FnExactAllChannels", spec := "fnExactAllChannels", apart := false, narrowed := true }
def FnExactAllChannelsUptoSaid : Prop := fnExactAllChannelsUptoRow.holds Try.pinned (OpenSpec.upto fnExactAllChannelsSpec)

/-- 'laws.FnExactEncodeMessage', WHERE WHAT IT READS IS OF BULK AT MOST 1048576: true; the input reads as it did. -/
def fnExactEncodeMessageUptoRow : OpenClaim := { program := "ytkgnkekbcblnlaa", sum := "72e4f9f3f3cb5a035b2becbd1e01397a885d46fc6f48fd445c92a8f3586de1b6", func := "loop.example/g00591/laws.FnExactEncodeMessage", spec := "fnExactEncodeMessage", unfollowed := true, recurses := true, apart := false, narrowed := true }
def FnExactEncodeMessageUptoSaid : Prop := fnExactEncodeMessageUptoRow.holds Try.pinned (OpenSpec.upto fnExactEncodeMessageSpec)

/-- 'laws.FnExactDecodeMessage', WHERE WHAT IT READS IS OF BULK AT MOST 1048576: true; the input reads as it did. -/
def fnExactDecodeMessageUptoRow : OpenClaim := { program := "ytkgnkekbcblnlaa", sum := "72e4f9f3f3cb5a035b2becbd1e01397a885d46fc6f48fd445c92a8f3586de1b6", func := "loop.example/g00591/laws.FnExactDecodeMessage", spec := "fnExactDecodeMessage", unfollowed := true, recurses := true, apart := false, narrowed := true }
def FnExactDecodeMessageUptoSaid : Prop := fnExactDecodeMessageUptoRow.holds Try.pinned (OpenSpec.upto fnExactDecodeMessageSpec)

end Rows
end Go.Proofs.Ytkgnkekbcblnlaa
