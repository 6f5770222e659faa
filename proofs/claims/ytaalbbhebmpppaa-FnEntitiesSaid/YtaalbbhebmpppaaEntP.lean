import Derived.Test.YtaalbbhebmpppaaProg
import Derived.Test.YtaalbbhebmpppaaTypes
import Derived.StillTailTactics
import Derived.Deep.RegionHeld3
import Derived.Laws.IdiomStrings
import Derived.Test.YtaalbbhebmpppaaAppend
import Derived.Laws.StructEq
import Derived.Lib.SliceRun
import Derived.Shelf.RegionOpenPlain
import Derived.Test.YtaalbbhebmpppaaEntP1
import Derived.Test.YtaalbbhebmpppaaEntP2
import Derived.Test.YtaalbbhebmpppaaEntP3
import Derived.Test.YtaalbbhebmpppaaEntP4
namespace Go.Proofs.Ytaalbbhebmpppaa
open Go.RowKit
set_option linter.unusedVariables false
set_option linter.unusedSimpArgs false

set_option maxHeartbeats 25600000 in
set_option maxRecDepth 100000 in
theorem spec_l9Promise_calls (us : List Value) (x : GEntity) (n : Int) (w : World) (hr : RdLW w (eEntity x) us) (hs : x.Slots.length ≤ 3) (hq : x.Queue.length ≤ 1) (hn0 : 0 ≤ n) (hn1 : n < 7) :
    Calls Try.prog 58 #[.agg us.toArray, .int .i64 n] w fun e w' => e = .returned (.bool (promS x n)) ∧ Below w.heap.size w w' := by
  by_cases e1 : x.State = 1
  · exact spec_l9Promise_1 us x n w hr hs hq e1 hn0 hn1
  by_cases e2 : x.State = 2
  · exact spec_l9Promise_2 us x n w hr hs hq e2 hn0 hn1
  by_cases e3 : x.State = 3
  · exact spec_l9Promise_3 us x n w hr hs hq e3 hn0 hn1
  by_cases e4 : x.State = 4
  · exact spec_l9Promise_4 us x n w hr hs hq e4 hn0 hn1
  obtain ⟨v2, v6, v7, rfl, h2, h6, h7⟩ := rd_eEntity hr
  obtain ⟨A2, c2, rfl, -⟩ := h2.slice
  obtain ⟨A6, c6, rfl, -⟩ := h6.slice
  obtain ⟨A7, c7, rfl, -⟩ := h7.slice
  obtain ⟨k, sc, sl, st, va, qu, ak, pe, po, co, se⟩ := x
  dsimp only at h2 hs hq e1 e2 e3 e4 ⊢
  have HR2 := Lib.hid (h2.alloc (.cells #[.int .i64 k, .int .i64 sc, .slice A2 sl.length c2, .int .i64 st, .int .i64 va.Kind, .int .i64 va.N, .slice A6 qu.length c6, .slice A7 ak.length c7, .int .i64 pe, .int .i64 po, .int .i64 co, .int .i64 se] 37))
  have HK := Lib.hid (Blk.new w 37 #[.int .i64 k, .int .i64 sc, .slice A2 sl.length c2, .int .i64 st, .int .i64 va.Kind, .int .i64 va.N, .slice A6 qu.length c6, .slice A7 ak.length c7, .int .i64 pe, .int .i64 po, .int .i64 co, .int .i64 se])
  have HB := Lib.hid ((Below.refl w.heap.size w).alloc (Nat.le_refl _) (.cells #[.int .i64 k, .int .i64 sc, .slice A2 sl.length c2, .int .i64 st, .int .i64 va.Kind, .int .i64 va.N, .slice A6 qu.length c6, .slice A7 ak.length c7, .int .i64 pe, .int .i64 po, .int .i64 co, .int .i64 se] 37))
  clear hr h2 h6 h7
  have h_st : inR st 1 4 = false := by unfold inR; simp; omega
  have HE : Hid (promS ⟨k, sc, sl, st, va, qu, ak, pe, po, co, se⟩ n = false) := by unfold Hid promS; simp [h_st]
  go_enter Try.func58, Try.ntmps58
  (try simp only [List.append_eq, List.cons_append, List.nil_append])
  go_wp2_with fail
  refine (spec_l1In_calls st 1 4 _).mono ?_
  rintro e w9 ⟨rfl, hw9⟩
  subst hw9
  rw [h_st]
  go_wp2
  go_ret
  exact ⟨by rw [HE.out]; rfl, HB.out⟩

end Go.Proofs.Ytaalbbhebmpppaa
