/-
  No cell of these rows narrows 'for every input' (looked for: loops, veiled, ifaces, maps, wideKeys, modest, calm, conditions, laid).
  DERIVED. THE GIVEN ROWS OF THIS SEAT. 8 by the template 'for every input the law returns true; each argument reads behind the call as it read before'; 0 by the template 'total and deterministic' (their statements: YtclpknilfhkalaaTotals.lean).
  GIVEN WITH THE SEED: the statements are not yours to turn. If you find one false, say at which input.
  Laid BY PROGRAM, IN A SANDBOX (cutbox-rows.mjs): the forced cells as the released guide's own fill.sh prints them over the translation dbfcee4bff846847… (all of the seat's roots in one cut). By AI agents, Wed Nov 11 2026. No macro, syntax, notation, axiom, sorry.
-/
import Derived.Test.YtclpknilfhkalaaChecked
import GoSem.Claim
import GoSem.ClaimJoined
import GoSem.ClaimMapViews
import Derived.JoinedTies
import Derived.KernelRfl
namespace Go.Proofs.Ytclpknilfhkalaa
/- THE CELL 'sum', in the pinned program and in every row, IS THE sha256 OF THE DUMP (.gsa) THAT YtclpknilfhkalaaProg.lean LOADS. Nothing in Lean hashes anything: it is a label: what it is worth is what the hold of that sum in a sandbox is worth. -/
noncomputable def Try.pinned : Pinned := { name := "ytclpknilfhkalaa", sum := "dbfcee4bff84684728a274f01b8ce555cd95a024ae4526559f6d714b26c649cd", checked := Try.checked }
namespace Rows
def none {H : Type} : Left H := { results := [], args := [] }

/-- 'laws.FnExactEqualSents': WHATEVER THE INPUT: true; the input reads as it did. -/
def fnExactEqualSentsSpec : ChangeSpec := { name := "fnExactEqualSents", fn := fun _ => fun
  | [d1, d2] => { results := [.lit (.bool true)], args := [d1, d2] }
  | _ => none }
def fnExactEqualSentsRow : OpenClaim := { program := "ytclpknilfhkalaa", sum := "dbfcee4bff84684728a274f01b8ce555cd95a024ae4526559f6d714b26c649cd", func := "loop.example/g00591/laws.FnExactEqualSents", spec := "fnExactEqualSents", unfollowed := true, recurses := true, apart := false }
def FnExactEqualSentsSaid : Prop := fnExactEqualSentsRow.holds Try.pinned (OpenSpec.ofChange fnExactEqualSentsSpec)

/-- ITS FALSE NEIGHBOUR: 'it returns false'. Refute it at one input. -/
def fnExactEqualSentsWrong : ChangeSpec := { name := "fnExactEqualSents", fn := fun _ => fun
  | [d1, d2] => { results := [.lit (.bool false)], args := [d1, d2] }
  | _ => none }
def FnExactEqualSentsWrongFalsely : Prop := fnExactEqualSentsRow.holds Try.pinned (OpenSpec.ofChange fnExactEqualSentsWrong)

/-- 'laws.FnExactNewPromise': WHATEVER THE INPUT: true; the input reads as it did. -/
def fnExactNewPromiseSpec : ChangeSpec := { name := "fnExactNewPromise", fn := fun _ => fun
  | [] => { results := [.lit (.bool true)], args := [] }
  | _ => none }
def fnExactNewPromiseRow : OpenClaim := { program := "ytclpknilfhkalaa", sum := "dbfcee4bff84684728a274f01b8ce555cd95a024ae4526559f6d714b26c649cd", func := "loop.example/g00591/laws.FnExactNewPromise", spec := "fnExactNewPromise", apart := false }
def FnExactNewPromiseSaid : Prop := fnExactNewPromiseRow.holds Try.pinned (OpenSpec.ofChange fnExactNewPromiseSpec)

/-- ITS FALSE NEIGHBOUR: 'it returns false'. Refute it at one input. -/
def fnExactNewPromiseWrong : ChangeSpec := { name := "fnExactNewPromise", fn := fun _ => fun
  | [] => { results := [.lit (.bool false)], args := [] }
  | _ => none }
def FnExactNewPromiseWrongFalsely : Prop := fnExactNewPromiseRow.holds Try.pinned (OpenSpec.ofChange fnExactNewPromiseWrong)

/-- 'laws.FnExactNewProxy': WHATEVER THE INPUT: true; the input reads as it did. -/
def fnExactNewProxySpec : ChangeSpec := { name := "fnExactNewProxy", fn := fun _ => fun
  | [d1, d2] => { results := [.lit (.bool true)], args := [d1, d2] }
  | _ => none }
def fnExactNewProxyRow : OpenClaim := { program := "ytclpknilfhkalaa", sum := "dbfcee4bff84684728a274f01b8ce555cd95a024ae4526559f6d714b26c649cd", func := "loop.example/g00591/laws.FnExactNewProxy", spec := "fnExactNewProxy", apart := false }
def FnExactNewProxySaid : Prop := fnExactNewProxyRow.holds Try.pinned (OpenSpec.ofChange fnExactNewProxySpec)

/-- ITS FALSE NEIGHBOUR: 'it returns false'. Refute it at one input. -/
def fnExactNewProxyWrong : ChangeSpec := { name := "fnExactNewProxy", fn := fun _ => fun
  | [d1, d2] => { results := [.lit (.bool false)], args := [d1, d2] }
  | _ => none }
def FnExactNewProxyWrongFalsely : Prop := fnExactNewProxyRow.holds Try.pinned (OpenSpec.ofChange fnExactNewProxyWrong)

/-- 'laws.FnExactSlotOf': WHATEVER THE INPUT: true; the input reads as it did. -/
def fnExactSlotOfSpec : ChangeSpec := { name := "fnExactSlotOf", fn := fun _ => fun
  | [d1, d2] => { results := [.lit (.bool true)], args := [d1, d2] }
  | _ => none }
def fnExactSlotOfRow : OpenClaim := { program := "ytclpknilfhkalaa", sum := "dbfcee4bff84684728a274f01b8ce555cd95a024ae4526559f6d714b26c649cd", func := "loop.example/g00591/laws.FnExactSlotOf", spec := "fnExactSlotOf", apart := false }
def FnExactSlotOfSaid : Prop := fnExactSlotOfRow.holds Try.pinned (OpenSpec.ofChange fnExactSlotOfSpec)

/-- ITS FALSE NEIGHBOUR: 'it returns false'. Refute it at one input. -/
def fnExactSlotOfWrong : ChangeSpec := { name := "fnExactSlotOf", fn := fun _ => fun
  | [d1, d2] => { results := [.lit (.bool false)], args := [d1, d2] }
  | _ => none }
def FnExactSlotOfWrongFalsely : Prop := fnExactSlotOfRow.holds Try.pinned (OpenSpec.ofChange fnExactSlotOfWrong)

/-- 'laws.FnExactNewObject': WHATEVER THE INPUT: true; the input reads as it did. -/
def fnExactNewObjectSpec : ChangeSpec := { name := "fnExactNewObject", fn := fun _ => fun
  | [d1, d2] => { results := [.lit (.bool true)], args := [d1, d2] }
  | _ => none }
def fnExactNewObjectRow : OpenClaim := { program := "ytclpknilfhkalaa", sum := "dbfcee4bff84684728a274f01b8ce555cd95a024ae4526559f6d714b26c649cd", func := "loop.example/g00591/laws.FnExactNewObject", spec := "fnExactNewObject", apart := false }
def FnExactNewObjectSaid : Prop := fnExactNewObjectRow.holds Try.pinned (OpenSpec.ofChange fnExactNewObjectSpec)

/-- ITS FALSE NEIGHBOUR: 'it returns false'. Refute it at one input. -/
def fnExactNewObjectWrong : ChangeSpec := { name := "fnExactNewObject", fn := fun _ => fun
  | [d1, d2] => { results := [.lit (.bool false)], args := [d1, d2] }
  | _ => none }
def FnExactNewObjectWrongFalsely : Prop := fnExactNewObjectRow.holds Try.pinned (OpenSpec.ofChange fnExactNewObjectWrong)

/-- 'laws.FnExactEqualEntities': WHATEVER THE INPUT: true; the input reads as it did. -/
def fnExactEqualEntitiesSpec : ChangeSpec := { name := "fnExactEqualEntities", fn := fun _ => fun
  | [d1, d2] => { results := [.lit (.bool true)], args := [d1, d2] }
  | _ => none }
def fnExactEqualEntitiesRow : OpenClaim := { program := "ytclpknilfhkalaa", sum := "dbfcee4bff84684728a274f01b8ce555cd95a024ae4526559f6d714b26c649cd", func := "loop.example/g00591/laws.FnExactEqualEntities", spec := "fnExactEqualEntities", unfollowed := true, recurses := true, apart := false }
def FnExactEqualEntitiesSaid : Prop := fnExactEqualEntitiesRow.holds Try.pinned (OpenSpec.ofChange fnExactEqualEntitiesSpec)

/-- ITS FALSE NEIGHBOUR: 'it returns false'. Refute it at one input. -/
def fnExactEqualEntitiesWrong : ChangeSpec := { name := "fnExactEqualEntities", fn := fun _ => fun
  | [d1, d2] => { results := [.lit (.bool false)], args := [d1, d2] }
  | _ => none }
def FnExactEqualEntitiesWrongFalsely : Prop := fnExactEqualEntitiesRow.holds Try.pinned (OpenSpec.ofChange fnExactEqualEntitiesWrong)

/-- 'laws.FnExactIsEntity': WHATEVER THE INPUT: true; the input reads as it did. -/
def fnExactIsEntitySpec : ChangeSpec := { name := "fnExactIsEntity", fn := fun _ => fun
  | [d1, d2] => { results := [.lit (.bool true)], args := [d1, d2] }
  | _ => none }
def fnExactIsEntityRow : OpenClaim := { program := "ytclpknilfhkalaa", sum := "dbfcee4bff84684728a274f01b8ce555cd95a024ae4526559f6d714b26c649cd", func := "loop.example/g00591/laws.FnExactIsEntity", spec := "fnExactIsEntity", unfollowed := true, recurses := true, apart := false }
def FnExactIsEntitySaid : Prop := fnExactIsEntityRow.holds Try.pinned (OpenSpec.ofChange fnExactIsEntitySpec)

/-- ITS FALSE NEIGHBOUR: 'it returns false'. Refute it at one input. -/
def fnExactIsEntityWrong : ChangeSpec := { name := "fnExactIsEntity", fn := fun _ => fun
  | [d1, d2] => { results := [.lit (.bool false)], args := [d1, d2] }
  | _ => none }
def FnExactIsEntityWrongFalsely : Prop := fnExactIsEntityRow.holds Try.pinned (OpenSpec.ofChange fnExactIsEntityWrong)

/-- 'laws.FnExactRefsOf': WHATEVER THE INPUT: true; the input reads as it did. -/
def fnExactRefsOfSpec : ChangeSpec := { name := "fnExactRefsOf", fn := fun _ => fun
  | [d] => { results := [.lit (.bool true)], args := [d] }
  | _ => none }
def fnExactRefsOfRow : OpenClaim := { program := "ytclpknilfhkalaa", sum := "dbfcee4bff84684728a274f01b8ce555cd95a024ae4526559f6d714b26c649cd", func := "loop.example/g00591/laws.FnExactRefsOf", spec := "fnExactRefsOf", apart := false }
def FnExactRefsOfSaid : Prop := fnExactRefsOfRow.holds Try.pinned (OpenSpec.ofChange fnExactRefsOfSpec)

/-- ITS FALSE NEIGHBOUR: 'it returns false'. Refute it at one input. -/
def fnExactRefsOfWrong : ChangeSpec := { name := "fnExactRefsOf", fn := fun _ => fun
  | [d] => { results := [.lit (.bool false)], args := [d] }
  | _ => none }
def FnExactRefsOfWrongFalsely : Prop := fnExactRefsOfRow.holds Try.pinned (OpenSpec.ofChange fnExactRefsOfWrong)

/- THE SECOND FORM. 'bulk': how many values and letters a reading holds, each counted each time it is reached (what is shared counts as often as it is met; a slice's spare places count too). A statement '..UptoSaid' is the law's where the arguments, and the package variables that the reading takes, are together of bulk at most 1048576: NARROWER than '..Said'. Prove '..Said' where nothing that the law and all that it calls make is longer than what came in: it says more and counts as full. Else prove '..UptoSaid'. A law counts once. -/
mutual
def uptoBulk {H : Type} : DataW H → Nat
  | .lit (.string bytes) => bytes.length + 1
  | .lit _ => 1
  | .nil => 1
  | .ptr d => uptoBulk d + 1
  | .slice elems spare => uptoBulkAll elems + uptoBulkAll spare + 1
  | .agg parts => uptoBulkAll parts + 1
  | .iface _ d => uptoBulk d + 1
  | .map entries => uptoBulkEntries entries + 1
  | .held _ => 1
def uptoBulkAll {H : Type} : List (DataW H) → Nat
  | [] => 0
  | d :: r => uptoBulk d + uptoBulkAll r
def uptoBulkEntries {H : Type} : List (Lit × DataW H) → Nat
  | [] => 0
  | x :: r => uptoBulkEntry x + uptoBulkEntries r
def uptoBulkEntry {H : Type} : Lit × DataW H → Nat
  | (.string bytes, d) => bytes.length + uptoBulk d + 1
  | (_, d) => uptoBulk d + 1
 end
def uptoSmall : (H : Type) → List (DataW H) → Bool := fun _ ds => decide (uptoBulkAll ds ≤ 1048576)
def OpenSpec.upto (s : _root_.Go.ChangeSpec) : _root_.Go.OpenSpec := { _root_.Go.OpenSpec.ofChange s with cond := some uptoSmall }

/-- 'laws.FnExactEqualSents', WHERE WHAT IT READS IS OF BULK AT MOST 1048576: true; the input reads as it did. -/
def fnExactEqualSentsUptoRow : OpenClaim := { program := "ytclpknilfhkalaa", sum := "dbfcee4bff84684728a274f01b8ce555cd95a024ae4526559f6d714b26c649cd", func := "loop.example/g00591/laws.FnExactEqualSents", spec := "fnExactEqualSents", unfollowed := true, recurses := true, apart := false, narrowed := true }
def FnExactEqualSentsUptoSaid : Prop := fnExactEqualSentsUptoRow.holds Try.pinned (OpenSpec.upto fnExactEqualSentsSpec)

/-- 'laws.FnExactNewPromise', WHERE WHAT IT READS IS OF BULK AT MOST 1048576: true; the input reads as it did. -/
def fnExactNewPromiseUptoRow : OpenClaim := { program := "ytclpknilfhkalaa", sum := "dbfcee4bff84684728a274f01b8ce555cd95a024ae4526559f6d714b26c649cd", func := "loop.example/g00591/laws.FnExactNewPromise", spec := "fnExactNewPromise", apart := false, narrowed := true }
def FnExactNewPromiseUptoSaid : Prop := fnExactNewPromiseUptoRow.holds Try.pinned (OpenSpec.upto fnExactNewPromiseSpec)

/-- 'laws.FnExactNewProxy', WHERE WHAT IT READS IS OF BULK AT MOST 1048576: true; the input reads as it did. -/
def fnExactNewProxyUptoRow : OpenClaim := { program := "ytclpknilfhkalaa", sum := "dbfcee4bff84684728a274f01b8ce555cd95a024ae4526559f6d714b26c649cd", func := "loop.example/g00591/laws.FnExactNewProxy", spec := "fnExactNewProxy", apart := false, narrowed := true }
def FnExactNewProxyUptoSaid : Prop := fnExactNewProxyUptoRow.holds Try.pinned (OpenSpec.upto fnExactNewProxySpec)

/-- 'laws.FnExactSlotOf', WHERE WHAT IT READS IS OF BULK AT MOST 1048576: true; the input reads as it did. -/
def fnExactSlotOfUptoRow : OpenClaim := { program := "ytclpknilfhkalaa", sum := "dbfcee4bff84684728a274f01b8ce555cd95a024ae4526559f6d714b26c649cd", func := "loop.example/g00591/laws.FnExactSlotOf", spec := "fnExactSlotOf", apart := false, narrowed := true }
def FnExactSlotOfUptoSaid : Prop := fnExactSlotOfUptoRow.holds Try.pinned (OpenSpec.upto fnExactSlotOfSpec)

/-- 'laws.FnExactNewObject', WHERE WHAT IT READS IS OF BULK AT MOST 1048576: true; the input reads as it did. -/
def fnExactNewObjectUptoRow : OpenClaim := { program := "ytclpknilfhkalaa", sum := "dbfcee4bff84684728a274f01b8ce555cd95a024ae4526559f6d714b26c649cd", func := "loop.example/g00591/laws.FnExactNewObject", spec := "fnExactNewObject", apart := false, narrowed := true }
def FnExactNewObjectUptoSaid : Prop := fnExactNewObjectUptoRow.holds Try.pinned (OpenSpec.upto fnExactNewObjectSpec)

/-- 'laws.FnExactEqualEntities', WHERE WHAT IT READS IS OF BULK AT MOST 1048576: true; the input reads as it did. -/
def fnExactEqualEntitiesUptoRow : OpenClaim := { program := "ytclpknilfhkalaa", sum := "dbfcee4bff84684728a274f01b8ce555cd95a024ae4526559f6d714b26c649cd", func := "loop.example/g00591/laws.FnExactEqualEntities", spec := "fnExactEqualEntities", unfollowed := true, recurses := true, apart := false, narrowed := true }
def FnExactEqualEntitiesUptoSaid : Prop := fnExactEqualEntitiesUptoRow.holds Try.pinned (OpenSpec.upto fnExactEqualEntitiesSpec)

/-- 'laws.FnExactIsEntity', WHERE WHAT IT READS IS OF BULK AT MOST 1048576: true; the input reads as it did. -/
def fnExactIsEntityUptoRow : OpenClaim := { program := "ytclpknilfhkalaa", sum := "dbfcee4bff84684728a274f01b8ce555cd95a024ae4526559f6d714b26c649cd", func := "loop.example/g00591/laws.FnExactIsEntity", spec := "fnExactIsEntity", unfollowed := true, recurses := true, apart := false, narrowed := true }
def FnExactIsEntityUptoSaid : Prop := fnExactIsEntityUptoRow.holds Try.pinned (OpenSpec.upto fnExactIsEntitySpec)

/-- 'laws.FnExactRefsOf', WHERE WHAT IT READS IS OF BULK AT MOST 1048576: true; the input reads as it did. -/
def fnExactRefsOfUptoRow : OpenClaim := { program := "ytclpknilfhkalaa", sum := "dbfcee4bff84684728a274f01b8ce555cd95a024ae4526559f6d714b26c649cd", func := "loop.example/g00591/laws.FnExactRefsOf", spec := "fnExactRefsOf", apart := false, narrowed := true }
def FnExactRefsOfUptoSaid : Prop := fnExactRefsOfUptoRow.holds Try.pinned (OpenSpec.upto fnExactRefsOfSpec)

end Rows
end Go.Proofs.Ytclpknilfhkalaa
