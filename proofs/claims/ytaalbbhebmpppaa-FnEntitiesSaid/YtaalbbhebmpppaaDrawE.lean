import Derived.Test.YtaalbbhebmpppaaProg
import Derived.Test.YtaalbbhebmpppaaTypes
import Derived.StillTailTactics
import Derived.Deep.RegionHeld3
import Derived.Laws.IdiomStrings
import Derived.Test.YtaalbbhebmpppaaAppend
import Derived.Laws.StructEq
import Derived.Lib.SliceRun
import Derived.Shelf.RegionOpenPlain
import Derived.Test.YtaalbbhebmpppaaDraw
namespace Go.Proofs.Ytaalbbhebmpppaa
open Go.RowKit
set_option linter.unusedVariables false
set_option linter.unusedSimpArgs false

set_option maxHeartbeats 400000 in
theorem spec_BrokenValue_calls (w : World) :
    Calls Try.prog 89 #[] w fun e w' => e = .returned (.agg #[.int .i64 2, .int .i64 0]) ∧ Below w.heap.size w w' := by
  go_enter Try.func89, Try.ntmps89
  go_wp2
  refine bodyPost_ret (v := .agg #[.int .i64 2, .int .i64 0]) (by simp [results, Try.results89, go_sem]) rfl ⟨rfl, ?_⟩
  exact (Below.refl _ _).alloc (Nat.le_refl _) _
set_option maxHeartbeats 400000 in
theorem spec_RefValue_calls (n : Int) (w : World) :
    Calls Try.prog 88 #[.int .i64 n] w fun e w' => e = .returned (.agg #[.int .i64 1, .int .i64 n]) ∧ Below w.heap.size w w' := by
  go_enter Try.func88, Try.ntmps88
  go_wp2
  refine bodyPost_ret (v := .agg #[.int .i64 1, .int .i64 n]) (by simp [results, Try.results88, go_sem]) rfl ⟨rfl, ?_⟩
  exact (Below.refl _ _).alloc (Nat.le_refl _) _
set_option maxHeartbeats 400000 in
theorem spec_Mod_calls (n : Int) (h0 : 0 ≤ n) (h1 : n < 1000000) (w : World) :
    Calls Try.prog 86 #[.int .i64 n, .int .i64 1000000] w fun e w' => e = .returned (.int .i64 n) ∧ Below w.heap.size w w' := by
  have HE : Hid ((n % 1000000 + 1000000) % 1000000 = n) := by unfold Hid; omega
  go_enter Try.func86, Try.ntmps86
  go_wp2
  go_ret
  exact ⟨by rw [show (n % 1000000 + 1000000) % 1000000 = n from HE.out]; rfl, Below.refl _ _⟩
set_option maxHeartbeats 400000 in
theorem spec_IntValue_calls (n : Int) (h0 : 0 ≤ n) (h1 : n < 1000000) (w : World) :
    Calls Try.prog 72 #[.int .i64 n] w fun e w' => e = .returned (.agg #[.int .i64 0, .int .i64 n]) ∧ Below w.heap.size w w' := by
  have HB := Lib.hid ((Below.refl w.heap.size w).alloc (Nat.le_refl _) (.cells #[.int .i64 0, .int .i64 0] 33))
  have HK := Lib.hid (Blk.new w 33 #[.int .i64 0, .int .i64 0])
  go_enter Try.func72, Try.ntmps72
  go_wp2_with fail
  refine (spec_Mod_calls n h0 h1 _).mono ?_
  rintro e w1 ⟨rfl, hb_⟩
  have hs1 := hb_.size
  simp only [size_alloc] at hs1
  have HB1 := Lib.hid (HB.out.trans (hb_.mono HB.out.size))
  have HK1 := Lib.hid (HK.out.below hb_)
  clear hb_
  obtain ⟨k1, f1⟩ := HK1.out.rules
  have l1 := HK1.out.lt
  go_wp2
  refine post_cell (w0 := w1) (fun k => k = w.heap.size) Try.results72 w.heap.size #[.int .i64 0, .int .i64 n] _ rfl (Blk.eq ((HK1.out.set_ 0 _).set_ 1 _) (by simp)) Try.underlying33 rfl (by kernel_rfl) rfl (((Chg.refl (· = w.heap.size) _).setCell (p := ⟨w.heap.size, 0, none⟩) (.inl rfl) _).setCell (p := ⟨w.heap.size, 1, none⟩) (.inl rfl) _) ?_
  intro W h3
  exact ⟨rfl, below_chg HB1.out h3 (by omega) (by rintro _ rfl; exact Nat.le_refl _)⟩

end Go.Proofs.Ytaalbbhebmpppaa
