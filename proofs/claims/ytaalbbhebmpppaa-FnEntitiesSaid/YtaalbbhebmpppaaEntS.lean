import Derived.Test.YtaalbbhebmpppaaProg
import Derived.Test.YtaalbbhebmpppaaTypes
import Derived.StillTailTactics
import Derived.Deep.RegionHeld3
import Derived.Laws.IdiomStrings
import Derived.Test.YtaalbbhebmpppaaAppend
import Derived.Laws.StructEq
import Derived.Lib.SliceRun
import Derived.Shelf.RegionOpenPlain
import Derived.Test.YtaalbbhebmpppaaEntSf
import Derived.Test.YtaalbbhebmpppaaEntSt
namespace Go.Proofs.Ytaalbbhebmpppaa
open Go.RowKit
set_option linter.unusedVariables false
set_option linter.unusedSimpArgs false

set_option maxHeartbeats 25600000 in
set_option maxRecDepth 100000 in
theorem spec_IsEntity_calls (us : List Value) (x : GEntity) (n : Int) (w : World) (hr : RdLW w (eEntity x) us) (hs : x.Slots.length ≤ 3) (hq : x.Queue.length ≤ 1) (hn0 : 0 ≤ n) (hn1 : n < 7) :
    Calls Try.prog 21 #[.agg us.toArray, .int .i64 n] w fun e w' => e = .returned (.bool (entityB x n)) ∧ Below w.heap.size w w' := by
  rcases Bool.eq_false_or_eq_true ((x.State == 0) && (eqbValue x.Value ⟨0, 0⟩ && ((x.Queue.length == 0) && (x.Askers.length == 0)))) with h | h
  · exact spec_IsEntity_t us x n w hr hs hq h hn0 hn1
  · exact spec_IsEntity_f us x n w hr hs hq h hn0 hn1

end Go.Proofs.Ytaalbbhebmpppaa
