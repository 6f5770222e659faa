import Derived.Test.YtaalbbhebmpppaaProg
import Derived.Test.YtaalbbhebmpppaaTypes
import Derived.StillTailTactics
import Derived.Deep.RegionHeld3
import Derived.Laws.IdiomStrings
import Derived.Test.YtaalbbhebmpppaaAppend
import Derived.Laws.StructEq
import Derived.Lib.SliceRun
import Derived.Shelf.RegionOpenPlain
import Derived.Test.YtaalbbhebmpppaaEqSent
namespace Go.Proofs.Ytaalbbhebmpppaa
open Go.RowKit
set_option linter.unusedVariables false
set_option linter.unusedSimpArgs false

set_option maxHeartbeats 800000 in
theorem impl_EqualSents_calls (v : Value) (xs : List GSent) (v' : Value) (ys : List GSent) (w : World) (hr : RdW w (.s xs.length (xs.flatMap eSent)) v) (hr' : RdW w (.s ys.length (ys.flatMap eSent)) v') (hz : xs.length + sizL (xs.flatMap eSent) ≤ 1048576) (hz' : ys.length + sizL (ys.flatMap eSent) ≤ 1048576) :
    Calls Try.prog 60 #[v, v'] w fun e w' => e = .returned (.bool (sameSents xs ys)) ∧ Below w.heap.size w w' := by
  have HC := Lib.hid (slices_EqualFunc_Sent eqbSent' 83 #[] (enters_of Try.func83 (by kernel_rfl) rfl) v v' xs ys w hr hr' (fun W x y us us' _ _ _ hu hu' => impl_equalSent_calls us x us' y W hu hu'))
  obtain ⟨A, c, rfl, -⟩ := hr.slice
  obtain ⟨A', c', rfl, -⟩ := hr'.slice
  clear hr hr'
  go_enter Try.func60, Try.ntmps60
  go_wp2_with fail
  refine HC.out.mono ?_
  rintro e w1 ⟨rfl, hb1⟩
  go_wp2
  go_ret
  exact ⟨rfl, hb1⟩

end Go.Proofs.Ytaalbbhebmpppaa
