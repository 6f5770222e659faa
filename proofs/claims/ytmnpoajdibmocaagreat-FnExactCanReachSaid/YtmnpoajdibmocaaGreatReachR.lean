import Derived.Test.YtmnpoajdibmocaaGreatProg
import Derived.Test.YtmnpoajdibmocaaGreatTypes
import Derived.StillTailTactics
import Derived.Deep.RegionHeld3
import Derived.Laws.IdiomStrings
import Derived.Test.YtmnpoajdibmocaaGreatAppend
import Derived.Laws.StructEq
import Derived.Lib.SliceRun
import Derived.Shelf.RegionOpenPlain
import Derived.Test.YtmnpoajdibmocaaGreatVat2
namespace Go.Proofs.YtmnpoajdibmocaaGreat
open Go.RowKit
set_option linter.unusedVariables false
set_option linter.unusedSimpArgs false

set_option maxHeartbeats 400000 in
theorem impl_Vat_refers_no (g : Nat) (k n : Int) (w : World) (hk : ¬ k = 1) :
    Calls Tryz.prog 28 #[.pointer (some ⟨g, 0, none⟩), .agg #[.int .i64 k, .int .i64 n]] w fun e w' => e = .returned (.pointer none) ∧ Below w.heap.size w w' := by
  go_enter Tryz.func28, Tryz.ntmps28
  go_wp2
  go_ret
  exact ⟨rfl, (Below.refl _ _).alloc (Nat.le_refl _) _⟩
set_option maxHeartbeats 400000 in
theorem impl_Vat_refers_none (g : Nat) (A : Option Addr) (ln c : Nat) (id : Int) (v2 v3 v4 : Value) (n : Int) (w : World) (hb : Blk w g 36 #[.int .i64 id, .slice A ln c, v2, v3, v4]) (hln : ln ≤ 1048576) (hn : ¬ (0 ≤ n ∧ n ≤ (ln : Int) - 1)) :
    Calls Tryz.prog 28 #[.pointer (some ⟨g, 0, none⟩), .agg #[.int .i64 1, .int .i64 n]] w fun e w' => e = .returned (.pointer none) ∧ Below w.heap.size w w' := by
  have HC := Lib.hid (impl_Vat_entity_none g A ln c id v2 v3 v4 n (w.alloc (.cells #[.int .i64 1, .int .i64 n] 53)) (hb.alloc _) hln hn)
  clear hn
  go_enter Tryz.func28, Tryz.ntmps28
  go_wp2_with fail
  refine HC.out.mono ?_
  rintro e w1 ⟨rfl, rfl⟩
  go_wp2
  go_ret
  exact ⟨rfl, (Below.refl _ _).alloc (Nat.le_refl _) _⟩
set_option maxHeartbeats 400000 in
theorem impl_Vat_refers_some (g : Nat) (ad : Addr) (ln c : Nat) (id : Int) (v2 v3 v4 : Value) (i : Nat) (w : World) (hb : Blk w g 36 #[.int .i64 id, .slice (some ad) ln c, v2, v3, v4]) (hln : ln ≤ 1048576) (hn : i < ln) :
    Calls Tryz.prog 28 #[.pointer (some ⟨g, 0, none⟩), .agg #[.int .i64 1, .int .i64 (i : Int)]] w fun e w' => e = .returned (.pointer (some (ad.add (i * 12)))) ∧ Below w.heap.size w w' := by
  have HC := Lib.hid (impl_Vat_entity_some g ad ln c id v2 v3 v4 i (w.alloc (.cells #[.int .i64 1, .int .i64 (i : Int)] 53)) (hb.alloc _) hln hn)
  go_enter Tryz.func28, Tryz.ntmps28
  go_wp2_with fail
  refine HC.out.mono ?_
  rintro e w1 ⟨rfl, rfl⟩
  go_wp2
  go_ret
  exact ⟨rfl, (Below.refl _ _).alloc (Nat.le_refl _) _⟩
end Go.Proofs.YtmnpoajdibmocaaGreat
