/-
  No cell of these rows narrows 'for every input' (looked for: loops, veiled, ifaces, maps, wideKeys, modest, calm, conditions, laid).
  DERIVED. THE GIVEN ROWS OF THIS SEAT. 7 by the template 'for every input the law returns true; each argument reads behind the call as it read before'; 0 by the template 'total and deterministic' (their statements: YtagkomochjnjoaaTotals.lean).
  GIVEN WITH THE SEED: the statements are not yours to turn. If you find one false, say at which input.
  Laid BY PROGRAM, IN A SANDBOX (cutbox-rows.mjs): the forced cells as the released guide's own fill.sh prints them over the translation c997168d654d01a9… (all of the seat's roots in one cut). By AI agents, Wed Nov 11 2026. No macro, syntax, notation, axiom, sorry.
-/
import Derived.Test.YtagkomochjnjoaaChecked
import GoSem.Claim
import GoSem.ClaimJoined
import GoSem.ClaimMapViews
import Derived.JoinedTies
import Derived.KernelRfl
namespace Go.Proofs.Ytagkomochjnjoaa
/- THE CELL 'sum', in the pinned program and in every row, IS THE sha256 OF THE DUMP (.gsa) THAT YtagkomochjnjoaaProg.lean LOADS. Nothing in Lean hashes anything: it is a label: what it is worth is what the hold of that sum in a sandbox is worth. -/
noncomputable def Try.pinned : Pinned := { name := "ytagkomochjnjoaa", sum := "c997168d654d01a9b49268c22a091818fc8b03c94c97beca02d088f107880fc8", checked := Try.checked }
namespace Rows
def none {H : Type} : Left H := { results := [], args := [] }

/-- 'laws.FnExactPutQuestion': WHATEVER THE INPUT: true; the input reads as it did. -/
def fnExactPutQuestionSpec : ChangeSpec := { name := "fnExactPutQuestion", fn := fun _ => fun
  | [d1, d2] => { results := [.lit (.bool true)], args := [d1, d2] }
  | _ => none }
def fnExactPutQuestionRow : OpenClaim := { program := "ytagkomochjnjoaa", sum := "c997168d654d01a9b49268c22a091818fc8b03c94c97beca02d088f107880fc8", func := "loop.example/g00591/laws.FnExactPutQuestion", spec := "fnExactPutQuestion", apart := false }
def FnExactPutQuestionSaid : Prop := fnExactPutQuestionRow.holds Try.pinned (OpenSpec.ofChange fnExactPutQuestionSpec)

/-- ITS FALSE NEIGHBOUR: 'it returns false'. Refute it at one input. -/
def fnExactPutQuestionWrong : ChangeSpec := { name := "fnExactPutQuestion", fn := fun _ => fun
  | [d1, d2] => { results := [.lit (.bool false)], args := [d1, d2] }
  | _ => none }
def FnExactPutQuestionWrongFalsely : Prop := fnExactPutQuestionRow.holds Try.pinned (OpenSpec.ofChange fnExactPutQuestionWrong)

/-- 'laws.FnExactPosOf': WHATEVER THE INPUT: true; the input reads as it did. -/
def fnExactPosOfSpec : ChangeSpec := { name := "fnExactPosOf", fn := fun _ => fun
  | [d1, d2] => { results := [.lit (.bool true)], args := [d1, d2] }
  | _ => none }
def fnExactPosOfRow : OpenClaim := { program := "ytagkomochjnjoaa", sum := "c997168d654d01a9b49268c22a091818fc8b03c94c97beca02d088f107880fc8", func := "loop.example/g00591/laws.FnExactPosOf", spec := "fnExactPosOf", unfollowed := true, recurses := true, apart := false }
def FnExactPosOfSaid : Prop := fnExactPosOfRow.holds Try.pinned (OpenSpec.ofChange fnExactPosOfSpec)

/-- ITS FALSE NEIGHBOUR: 'it returns false'. Refute it at one input. -/
def fnExactPosOfWrong : ChangeSpec := { name := "fnExactPosOf", fn := fun _ => fun
  | [d1, d2] => { results := [.lit (.bool false)], args := [d1, d2] }
  | _ => none }
def FnExactPosOfWrongFalsely : Prop := fnExactPosOfRow.holds Try.pinned (OpenSpec.ofChange fnExactPosOfWrong)

/-- 'laws.FnExactEqualLinks': WHATEVER THE INPUT: true; the input reads as it did. -/
def fnExactEqualLinksSpec : ChangeSpec := { name := "fnExactEqualLinks", fn := fun _ => fun
  | [d1, d2] => { results := [.lit (.bool true)], args := [d1, d2] }
  | _ => none }
def fnExactEqualLinksRow : OpenClaim := { program := "ytagkomochjnjoaa", sum := "c997168d654d01a9b49268c22a091818fc8b03c94c97beca02d088f107880fc8", func := "loop.example/g00591/laws.FnExactEqualLinks", spec := "fnExactEqualLinks", apart := false }
def FnExactEqualLinksSaid : Prop := fnExactEqualLinksRow.holds Try.pinned (OpenSpec.ofChange fnExactEqualLinksSpec)

/-- ITS FALSE NEIGHBOUR: 'it returns false'. Refute it at one input. -/
def fnExactEqualLinksWrong : ChangeSpec := { name := "fnExactEqualLinks", fn := fun _ => fun
  | [d1, d2] => { results := [.lit (.bool false)], args := [d1, d2] }
  | _ => none }
def FnExactEqualLinksWrongFalsely : Prop := fnExactEqualLinksRow.holds Try.pinned (OpenSpec.ofChange fnExactEqualLinksWrong)

/-- 'laws.FnExactPutExport': WHATEVER THE INPUT: true; the input reads as it did. -/
def fnExactPutExportSpec : ChangeSpec := { name := "fnExactPutExport", fn := fun _ => fun
  | [d1, d2] => { results := [.lit (.bool true)], args := [d1, d2] }
  | _ => none }
def fnExactPutExportRow : OpenClaim := { program := "ytagkomochjnjoaa", sum := "c997168d654d01a9b49268c22a091818fc8b03c94c97beca02d088f107880fc8", func := "loop.example/g00591/laws.FnExactPutExport", spec := "fnExactPutExport", unfollowed := true, recurses := true, apart := false }
def FnExactPutExportSaid : Prop := fnExactPutExportRow.holds Try.pinned (OpenSpec.ofChange fnExactPutExportSpec)

/-- ITS FALSE NEIGHBOUR: 'it returns false'. Refute it at one input. -/
def fnExactPutExportWrong : ChangeSpec := { name := "fnExactPutExport", fn := fun _ => fun
  | [d1, d2] => { results := [.lit (.bool false)], args := [d1, d2] }
  | _ => none }
def FnExactPutExportWrongFalsely : Prop := fnExactPutExportRow.holds Try.pinned (OpenSpec.ofChange fnExactPutExportWrong)

/-- 'laws.FnExactFindEntry': WHATEVER THE INPUT: true; the input reads as it did. -/
def fnExactFindEntrySpec : ChangeSpec := { name := "fnExactFindEntry", fn := fun _ => fun
  | [d1, d2] => { results := [.lit (.bool true)], args := [d1, d2] }
  | _ => none }
def fnExactFindEntryRow : OpenClaim := { program := "ytagkomochjnjoaa", sum := "c997168d654d01a9b49268c22a091818fc8b03c94c97beca02d088f107880fc8", func := "loop.example/g00591/laws.FnExactFindEntry", spec := "fnExactFindEntry", apart := false }
def FnExactFindEntrySaid : Prop := fnExactFindEntryRow.holds Try.pinned (OpenSpec.ofChange fnExactFindEntrySpec)

/-- ITS FALSE NEIGHBOUR: 'it returns false'. Refute it at one input. -/
def fnExactFindEntryWrong : ChangeSpec := { name := "fnExactFindEntry", fn := fun _ => fun
  | [d1, d2] => { results := [.lit (.bool false)], args := [d1, d2] }
  | _ => none }
def FnExactFindEntryWrongFalsely : Prop := fnExactFindEntryRow.holds Try.pinned (OpenSpec.ofChange fnExactFindEntryWrong)

/-- 'laws.FnExactDropEntry': WHATEVER THE INPUT: true; the input reads as it did. -/
def fnExactDropEntrySpec : ChangeSpec := { name := "fnExactDropEntry", fn := fun _ => fun
  | [d1, d2] => { results := [.lit (.bool true)], args := [d1, d2] }
  | _ => none }
def fnExactDropEntryRow : OpenClaim := { program := "ytagkomochjnjoaa", sum := "c997168d654d01a9b49268c22a091818fc8b03c94c97beca02d088f107880fc8", func := "loop.example/g00591/laws.FnExactDropEntry", spec := "fnExactDropEntry", unfollowed := true, recurses := true, apart := false }
def FnExactDropEntrySaid : Prop := fnExactDropEntryRow.holds Try.pinned (OpenSpec.ofChange fnExactDropEntrySpec)

/-- ITS FALSE NEIGHBOUR: 'it returns false'. Refute it at one input. -/
def fnExactDropEntryWrong : ChangeSpec := { name := "fnExactDropEntry", fn := fun _ => fun
  | [d1, d2] => { results := [.lit (.bool false)], args := [d1, d2] }
  | _ => none }
def FnExactDropEntryWrongFalsely : Prop := fnExactDropEntryRow.holds Try.pinned (OpenSpec.ofChange fnExactDropEntryWrong)

/-- 'laws.FnExactNewLink': WHATEVER THE INPUT: true; the input reads as it did. -/
def fnExactNewLinkSpec : ChangeSpec := { name := "fnExactNewLink", fn := fun _ => fun
  | [d] => { results := [.lit (.bool true)], args := [d] }
  | _ => none }
def fnExactNewLinkRow : OpenClaim := { program := "ytagkomochjnjoaa", sum := "c997168d654d01a9b49268c22a091818fc8b03c94c97beca02d088f107880fc8", func := "loop.example/g00591/laws.FnExactNewLink", spec := "fnExactNewLink", apart := false }
def FnExactNewLinkSaid : Prop := fnExactNewLinkRow.holds Try.pinned (OpenSpec.ofChange fnExactNewLinkSpec)

/-- ITS FALSE NEIGHBOUR: 'it returns false'. Refute it at one input. -/
def fnExactNewLinkWrong : ChangeSpec := { name := "fnExactNewLink", fn := fun _ => fun
  | [d] => { results := [.lit (.bool false)], args := [d] }
  | _ => none }
def FnExactNewLinkWrongFalsely : Prop := fnExactNewLinkRow.holds Try.pinned (OpenSpec.ofChange fnExactNewLinkWrong)

/- THE SECOND FORM. 'bulk': how many values and letters a reading holds, each counted each time it is reached (what is shared counts as often as it is met; a slice's spare places count too). A statement '..UptoSaid' is the law's where the arguments, and the package variables that the reading takes, are together of bulk at most 1048576: NARROWER than '..Said'. Prove '..Said' where nothing that the law and all that it calls make is longer than what came in: it says more and counts as full. Else prove '..UptoSaid'. A law counts once. -/
mutual
def uptoBulk {H : Type} : DataW H → Nat
  | .lit (.string bytes) => bytes.length + 1
  | .lit _ => 1
  | .nil => 1
  | .ptr d => uptoBulk d + 1
  | .slice elems spare => uptoBulkAll elems + uptoBulkAll spare + 1
  | .agg parts => uptoBulkAll parts + 1
  | .iface _ d => uptoBulk d + 1
  | .map entries => uptoBulkEntries entries + 1
  | .held _ => 1
def uptoBulkAll {H : Type} : List (DataW H) → Nat
  | [] => 0
  | d :: r => uptoBulk d + uptoBulkAll r
def uptoBulkEntries {H : Type} : List (Lit × DataW H) → Nat
  | [] => 0
  | x :: r => uptoBulkEntry x + uptoBulkEntries r
def uptoBulkEntry {H : Type} : Lit × DataW H → Nat
  | (.string bytes, d) => bytes.length + uptoBulk d + 1
  | (_, d) => uptoBulk d + 1
 end
def uptoSmall : (H : Type) → List (DataW H) → Bool := fun _ ds => decide (uptoBulkAll ds ≤ 1048576)
def OpenSpec.upto (s : _root_.Go.ChangeSpec) : _root_.Go.OpenSpec := { _root_.Go.OpenSpec.ofChange s with cond := some uptoSmall }

/-- 'laws.FnExactPutQuestion', WHERE WHAT IT READS IS OF BULK AT MOST 1048576: true; the input reads as it did. -/
def fnExactPutQuestionUptoRow : OpenClaim := { program := "ytagkomochjnjoaa", sum := "c997168d654d01a9b49268c22a091818fc8b03c94c97beca02d088f107880fc8", func := "loop.example/g00591/laws.FnExactPutQuestion", spec := "fnExactPutQuestion", apart := false, narrowed := true }
def FnExactPutQuestionUptoSaid : Prop := fnExactPutQuestionUptoRow.holds Try.pinned (OpenSpec.upto fnExactPutQuestionSpec)

/-- 'laws.FnExactPosOf', WHERE WHAT IT READS IS OF BULK AT MOST 1048576: true; the input reads as it did. -/
def fnExactPosOfUptoRow : OpenClaim := { program := "ytagkomochjnjoaa", sum := "c997168d654d01a9b49268c22a091818fc8b03c94c97beca02d088f107880fc8", func := "loop.example/g00591/laws.FnExactPosOf", spec := "fnExactPosOf", unfollowed := true, recurses := true, apart := false, narrowed := true }
def FnExactPosOfUptoSaid : Prop := fnExactPosOfUptoRow.holds Try.pinned (OpenSpec.upto fnExactPosOfSpec)

/-- 'laws.FnExactEqualLinks', WHERE WHAT IT READS IS OF BULK AT MOST 1048576: true; the input reads as it did. -/
def fnExactEqualLinksUptoRow : OpenClaim := { program := "ytagkomochjnjoaa", sum := "c997168d654d01a9b49268c22a091818fc8b03c94c97beca02d088f107880fc8", func := "loop.example/g00591/laws.FnExactEqualLinks", spec := "fnExactEqualLinks", apart := false, narrowed := true }
def FnExactEqualLinksUptoSaid : Prop := fnExactEqualLinksUptoRow.holds Try.pinned (OpenSpec.upto fnExactEqualLinksSpec)

/-- 'laws.FnExactPutExport', WHERE WHAT IT READS IS OF BULK AT MOST 1048576: true; the input reads as it did. -/
def fnExactPutExportUptoRow : OpenClaim := { program := "ytagkomochjnjoaa", sum := "c997168d654d01a9b49268c22a091818fc8b03c94c97beca02d088f107880fc8", func := "loop.example/g00591/laws.FnExactPutExport", spec := "fnExactPutExport", unfollowed := true, recurses := true, apart := false, narrowed := true }
def FnExactPutExportUptoSaid : Prop := fnExactPutExportUptoRow.holds Try.pinned (OpenSpec.upto fnExactPutExportSpec)

/-- 'laws.FnExactFindEntry', WHERE WHAT IT READS IS OF BULK AT MOST 1048576: true; the input reads as it did. -/
def fnExactFindEntryUptoRow : OpenClaim := { program := "ytagkomochjnjoaa", sum := "c997168d654d01a9b49268c22a091818fc8b03c94c97beca02d088f107880fc8", func := "loop.example/g00591/laws.FnExactFindEntry", spec := "fnExactFindEntry", apart := false, narrowed := true }
def FnExactFindEntryUptoSaid : Prop := fnExactFindEntryUptoRow.holds Try.pinned (OpenSpec.upto fnExactFindEntrySpec)

/-- 'laws.FnExactDropEntry', WHERE WHAT IT READS IS OF BULK AT MOST 1048576: true; the input reads as it did. -/
def fnExactDropEntryUptoRow : OpenClaim := { program := "ytagkomochjnjoaa", sum := "c997168d654d01a9b49268c22a091818fc8b03c94c97beca02d088f107880fc8", func := "loop.example/g00591/laws.FnExactDropEntry", spec := "fnExactDropEntry", unfollowed := true, recurses := true, apart := false, narrowed := true }
def FnExactDropEntryUptoSaid : Prop := fnExactDropEntryUptoRow.holds Try.pinned (OpenSpec.upto fnExactDropEntrySpec)

/-- 'laws.FnExactNewLink', WHERE WHAT IT READS IS OF BULK AT MOST 1048576: true; the input reads as it did. -/
def fnExactNewLinkUptoRow : OpenClaim := { program := "ytagkomochjnjoaa", sum := "c997168d654d01a9b49268c22a091818fc8b03c94c97beca02d088f107880fc8", func := "loop.example/g00591/laws.FnExactNewLink", spec := "fnExactNewLink", apart := false, narrowed := true }
def FnExactNewLinkUptoSaid : Prop := fnExactNewLinkUptoRow.holds Try.pinned (OpenSpec.upto fnExactNewLinkSpec)

end Rows
end Go.Proofs.Ytagkomochjnjoaa
