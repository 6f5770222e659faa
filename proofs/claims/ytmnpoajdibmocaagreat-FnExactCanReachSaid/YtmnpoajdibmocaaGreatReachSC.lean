import Derived.Test.YtmnpoajdibmocaaGreatProg
import Derived.Test.YtmnpoajdibmocaaGreatTypes
import Derived.StillTailTactics
import Derived.Lib.OwnBridge
import Derived.Sort.OwnSortedInts
import Derived.Deep.RegionHeld3
import Derived.Laws.IdiomStrings
import Derived.Test.YtmnpoajdibmocaaGreatAppend
import Derived.Laws.StructEq
import Derived.Lib.SliceRun
import Derived.Shelf.RegionOpenPlain
import Derived.Test.YtmnpoajdibmocaaGreatPureReach
import Derived.Test.YtmnpoajdibmocaaGreatSorts
namespace Go.Proofs.YtmnpoajdibmocaaGreat
open Go.RowKit
set_option linter.unusedVariables false
set_option linter.unusedSimpArgs false

theorem flat_vsInt (zs : List Int) : zs.flatMap vsInt = zs.map (Value.int .i64) := by
  induction zs with
  | nil => rfl
  | cons z zs ih => rw [List.flatMap_cons, ih]; rfl
theorem sort_ints_calls (base g cap : Nat) (zs : List Int) (w : World) (e : TypeId) (ho : w.ownsRow base e 1 (.slice (some ⟨g, 0, none⟩) zs.length cap) zs.length (zs.flatMap vsInt)) (hl : zs.length ≤ 1048576) :
    Calls Tryz.prog 29 #[.slice (some ⟨g, 0, none⟩) zs.length cap] w fun e' w' => e' = .returned (.tuple #[]) ∧ w'.ownsRow base e 1 (.slice (some ⟨g, 0, none⟩) zs.length cap) zs.length ((zs.mergeSort fun x y => decide (x ≤ y)).flatMap vsInt) ∧ w.grownBy w' (some g) := by
  rw [flat_vsInt] at ho
  rcases ho.2 with ⟨h0, _⟩ | ⟨g', cap', cur, hv, hbase, hb, h1, h2, h3, h4⟩
  · cases h0
  cases hv
  have hH : Go.Sort.Holds (Value.int .i64) w g 0 zs.toArray := Go.holds_of_blockI hb (by simpa using h4)
  have hlt : g < w.heap.size := (Array.getElem?_eq_some_iff.1 hb).1
  refine Calls.mono (Any.slices_Sort_int Tryz.laysSort g 0 cap zs w hH hlt (by omega)) ?_
  rintro e' w' ⟨rfl, n, os, rfl⟩
  refine ⟨rfl, ?_, Go.grownBy_sortedI _⟩
  rw [flat_vsInt]
  exact Go.ownsRow_sortedI (List.length_mergeSort _) hbase hb h1 h2 h3
theorem compact_ints_calls (base g cap : Nat) (zs : List Int) (w : World) (e : TypeId) (ho : w.ownsRow base e 1 (.slice (some ⟨g, 0, none⟩) zs.length cap) zs.length (zs.flatMap vsInt)) (hl : zs.length ≤ 1048576) :
    Calls Tryz.prog 30 #[.slice (some ⟨g, 0, none⟩) zs.length cap] w fun e' w' => e' = .returned (.slice (some ⟨g, 0, none⟩) (Go.Lib.compact zs).length cap) ∧ w'.ownsRow base e 1 (.slice (some ⟨g, 0, none⟩) (Go.Lib.compact zs).length cap) (Go.Lib.compact zs).length ((Go.Lib.compact zs).flatMap vsInt) ∧ w.grownBy w' (some g) := by
  rw [flat_vsInt] at ho
  have ho2 := ho
  rcases ho.2 with ⟨h0, _⟩ | ⟨g', cap', cur, hv, hbase, hb, h1, h2, h3, h4⟩
  · cases h0
  cases hv
  have hH : Go.Sort.Holds (Value.int .i64) w g 0 zs.toArray := Go.holds_of_blockI hb (by simpa using h4)
  have hle : (Go.Lib.compact zs).length ≤ zs.length := Go.Lib.compact_length_le zs
  refine Calls.mono (Any.slices_Compact_int Tryz.laysCompact g 0 cap zs w hH (by omega) h1) ?_
  rintro e' w' ⟨rfl, q, rfl⟩
  refine ⟨rfl, ?_, ?_⟩
  · have hc := Go.Lib.ownsRow_putRow (q := q) (k := (Go.Lib.compact zs).length) (ys := Go.Lib.compact zs ++ List.replicate (zs.length - (Go.Lib.compact zs).length) 0) ho2 (by simp; omega) (by omega)
    rw [List.take_left] at hc
    rw [flat_vsInt]
    exact hc
  · have h := Go.grownBy_sortedI (w := w) (g := g) (n := q) (os := #[]) (Go.Lib.compact zs ++ List.replicate (zs.length - (Go.Lib.compact zs).length) 0).toArray
    rwa [Go.Sort.grow_empty] at h
theorem sort_ints_n (base g cap n : Nat) (zs : List Int) (w : World) (e : TypeId) (hn : zs.length = n) (ho : w.ownsRow base e 1 (.slice (some ⟨g, 0, none⟩) n cap) n (zs.flatMap vsInt)) (hl : zs.length ≤ 1048576) :
    Calls Tryz.prog 29 #[.slice (some ⟨g, 0, none⟩) n cap] w fun e' w' => e' = .returned (.tuple #[]) ∧ w'.ownsRow base e 1 (.slice (some ⟨g, 0, none⟩) n cap) n ((zs.mergeSort fun x y => decide (x ≤ y)).flatMap vsInt) ∧ w.grownBy w' (some g) := by
  subst hn
  exact sort_ints_calls base g cap zs w e ho hl
theorem compact_ints_n (base g cap n : Nat) (zs : List Int) (w : World) (e : TypeId) (hn : zs.length = n) (ho : w.ownsRow base e 1 (.slice (some ⟨g, 0, none⟩) n cap) n (zs.flatMap vsInt)) (hl : zs.length ≤ 1048576) :
    Calls Tryz.prog 30 #[.slice (some ⟨g, 0, none⟩) n cap] w fun e' w' => e' = .returned (.slice (some ⟨g, 0, none⟩) (Go.Lib.compact zs).length cap) ∧ w'.ownsRow base e 1 (.slice (some ⟨g, 0, none⟩) (Go.Lib.compact zs).length cap) (Go.Lib.compact zs).length ((Go.Lib.compact zs).flatMap vsInt) ∧ w.grownBy w' (some g) := by
  subst hn
  exact compact_ints_calls base g cap zs w e ho hl

end Go.Proofs.YtmnpoajdibmocaaGreat
