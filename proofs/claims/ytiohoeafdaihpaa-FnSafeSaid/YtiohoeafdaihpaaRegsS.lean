import Derived.Test.YtiohoeafdaihpaaProg
import Derived.Test.YtiohoeafdaihpaaTypes
import Derived.StillTailTactics
import Derived.Deep.CutRange
import Derived.Deep.RegionHeld3
import Derived.Laws.IdiomStrings
import Derived.Test.YtiohoeafdaihpaaAppend
import Derived.Laws.StructEq
import Derived.Lib.SliceRun
import Derived.Shelf.RegionOpenPlain
import Derived.Test.YtiohoeafdaihpaaSets
namespace Go.Proofs.Ytiohoeafdaihpaa
open Go.RowKit
set_option linter.unusedVariables false
set_option linter.unusedSimpArgs false

theorem rdI_lit (w : World) (xs : List Int) (t : TypeId) (hl : xs.length ≤ 140737488355328) :
    RdW (w.alloc (.cells (xs.flatMap vsInt).toArray t)) (.s xs.length (xs.flatMap eInt)) (.slice (some ⟨w.heap.size, 0, none⟩) xs.length xs.length) := by
  have e : ∀ l : List Int, l.flatMap eInt = (l.flatMap vsInt).map Lf.v := by
    intro l
    induction l with
    | nil => rfl
    | cons a l ih => rw [List.flatMap_cons, List.flatMap_cons, ih, vals_eInt, List.map_append]
  rw [RdW, Rd]
  refine ⟨_, _, rfl, ⟨Nat.le_refl _, by omega, hl⟩, .inr ⟨_, xs.flatMap vsInt, rfl, by simp, fun k u hk => ?_, ?_⟩⟩
  · rw [add_zero_own, (Blk.new w t (xs.flatMap vsInt).toArray).cell k]; simpa using hk
  · rw [e]
    exact rdL_plain _ _ _
theorem rdI_lit' {w : World} {g : Nat} (xs : List Int) (t : TypeId) (hg : g = w.heap.size) (hl : xs.length ≤ 140737488355328) :
    RdW (w.alloc (.cells (xs.flatMap vsInt).toArray t)) (.s xs.length (xs.flatMap eInt)) (.slice (some ⟨g, 0, none⟩) xs.length xs.length) := by subst hg; exact rdI_lit w xs t hl
set_option maxHeartbeats 3200000 in
set_option maxRecDepth 100000 in
theorem spec_RegsOf_calls (y : GInstr) (w : World) :
    Calls Try.prog 50 #[.agg #[.int .i64 y.Op, .int .i64 y.A, .int .i64 y.B, .int .i64 y.C, .int .i64 y.D, .string y.Name]] w fun e w' => ∃ v, e = .returned v ∧ RdW w' (.s (regsOf y).length ((regsOf y).flatMap eInt)) v ∧ Below w.heap.size w w' := by
  obtain ⟨op, a, b, c, d, nm⟩ := y
  dsimp only
  by_cases e5 : op = 5
  · subst e5
    have HE : Hid (regsOf ⟨5, a, b, c, d, nm⟩ = [b, c]) := rfl
    go_enter Try.func50, Try.ntmps50
    go_upto_region 2 with fail
    obtain ⟨wc, hwc⟩ : ∃ q, q = (w.alloc (.cells #[.int .i64 5, .int .i64 a, .int .i64 b, .int .i64 c, .int .i64 d, .string nm] 47)).alloc (.cells #[] 3) := ⟨_, rfl⟩
    rw [← hwc]
    have HK : Hid (Blk wc w.heap.size 47 #[.int .i64 5, .int .i64 a, .int .i64 b, .int .i64 c, .int .i64 d, .string nm]) := by unfold Hid; rw [hwc]; exact (Blk.new w _ _).alloc _
    have HB : Hid (Below w.heap.size w wc) := by unfold Hid; rw [hwc]; exact ((Below.refl _ _).alloc (Nat.le_refl _) _).alloc (by simp) _
    have HO : Hid (wc.ownsRow (w.heap.size + 1) 3 1 (.slice (some ⟨w.heap.size + 1, 0, none⟩) 0 0) 0 ([].flatMap vsInt)) := by unfold Hid; rw [hwc]; exact ownsRow_made' (by simp) (by simp)
    have hz : w.heap.size + 1 ≤ wc.heap.size := by rw [hwc]; simp
    clear hwc
    obtain ⟨k0, f0⟩ := HK.out.rules
    have l0 := HK.out.lt
    have HZ := Lib.hid hz
    go_wp2
    go_ret
    refine ⟨_, rfl, ?_, HB.out.alloc HB.out.size _⟩
    rw [HE.out]
    exact rdI_lit wc [b, c] 3 (by simp)
  by_cases e8 : op = 8
  · subst e8
    have HE : Hid (regsOf ⟨8, a, b, c, d, nm⟩ = [b]) := rfl
    go_enter Try.func50, Try.ntmps50
    go_upto_region 2 with fail
    obtain ⟨wc, hwc⟩ : ∃ q, q = (w.alloc (.cells #[.int .i64 8, .int .i64 a, .int .i64 b, .int .i64 c, .int .i64 d, .string nm] 47)).alloc (.cells #[] 3) := ⟨_, rfl⟩
    rw [← hwc]
    have HK : Hid (Blk wc w.heap.size 47 #[.int .i64 8, .int .i64 a, .int .i64 b, .int .i64 c, .int .i64 d, .string nm]) := by unfold Hid; rw [hwc]; exact (Blk.new w _ _).alloc _
    have HB : Hid (Below w.heap.size w wc) := by unfold Hid; rw [hwc]; exact ((Below.refl _ _).alloc (Nat.le_refl _) _).alloc (by simp) _
    have HO : Hid (wc.ownsRow (w.heap.size + 1) 3 1 (.slice (some ⟨w.heap.size + 1, 0, none⟩) 0 0) 0 ([].flatMap vsInt)) := by unfold Hid; rw [hwc]; exact ownsRow_made' (by simp) (by simp)
    have hz : w.heap.size + 1 ≤ wc.heap.size := by rw [hwc]; simp
    clear hwc
    obtain ⟨k0, f0⟩ := HK.out.rules
    have l0 := HK.out.lt
    have HZ := Lib.hid hz
    go_wp2
    go_ret
    refine ⟨_, rfl, ?_, HB.out.alloc HB.out.size _⟩
    rw [HE.out]
    exact rdI_lit wc [b] 3 (by simp)
  by_cases e9 : op = 9
  · subst e9
    have HE : Hid (regsOf ⟨9, a, b, c, d, nm⟩ = [a]) := rfl
    go_enter Try.func50, Try.ntmps50
    go_upto_region 2 with fail
    obtain ⟨wc, hwc⟩ : ∃ q, q = (w.alloc (.cells #[.int .i64 9, .int .i64 a, .int .i64 b, .int .i64 c, .int .i64 d, .string nm] 47)).alloc (.cells #[] 3) := ⟨_, rfl⟩
    rw [← hwc]
    have HK : Hid (Blk wc w.heap.size 47 #[.int .i64 9, .int .i64 a, .int .i64 b, .int .i64 c, .int .i64 d, .string nm]) := by unfold Hid; rw [hwc]; exact (Blk.new w _ _).alloc _
    have HB : Hid (Below w.heap.size w wc) := by unfold Hid; rw [hwc]; exact ((Below.refl _ _).alloc (Nat.le_refl _) _).alloc (by simp) _
    have HO : Hid (wc.ownsRow (w.heap.size + 1) 3 1 (.slice (some ⟨w.heap.size + 1, 0, none⟩) 0 0) 0 ([].flatMap vsInt)) := by unfold Hid; rw [hwc]; exact ownsRow_made' (by simp) (by simp)
    have hz : w.heap.size + 1 ≤ wc.heap.size := by rw [hwc]; simp
    clear hwc
    obtain ⟨k0, f0⟩ := HK.out.rules
    have l0 := HK.out.lt
    have HZ := Lib.hid hz
    go_wp2
    go_ret
    refine ⟨_, rfl, ?_, HB.out.alloc HB.out.size _⟩
    rw [HE.out]
    exact rdI_lit wc [a] 3 (by simp)
  by_cases e10 : op = 10
  · subst e10
    have HE : Hid (regsOf ⟨10, a, b, c, d, nm⟩ = [a]) := rfl
    go_enter Try.func50, Try.ntmps50
    go_upto_region 2 with fail
    obtain ⟨wc, hwc⟩ : ∃ q, q = (w.alloc (.cells #[.int .i64 10, .int .i64 a, .int .i64 b, .int .i64 c, .int .i64 d, .string nm] 47)).alloc (.cells #[] 3) := ⟨_, rfl⟩
    rw [← hwc]
    have HK : Hid (Blk wc w.heap.size 47 #[.int .i64 10, .int .i64 a, .int .i64 b, .int .i64 c, .int .i64 d, .string nm]) := by unfold Hid; rw [hwc]; exact (Blk.new w _ _).alloc _
    have HB : Hid (Below w.heap.size w wc) := by unfold Hid; rw [hwc]; exact ((Below.refl _ _).alloc (Nat.le_refl _) _).alloc (by simp) _
    have HO : Hid (wc.ownsRow (w.heap.size + 1) 3 1 (.slice (some ⟨w.heap.size + 1, 0, none⟩) 0 0) 0 ([].flatMap vsInt)) := by unfold Hid; rw [hwc]; exact ownsRow_made' (by simp) (by simp)
    have hz : w.heap.size + 1 ≤ wc.heap.size := by rw [hwc]; simp
    clear hwc
    obtain ⟨k0, f0⟩ := HK.out.rules
    have l0 := HK.out.lt
    have HZ := Lib.hid hz
    go_wp2
    go_ret
    refine ⟨_, rfl, ?_, HB.out.alloc HB.out.size _⟩
    rw [HE.out]
    exact rdI_lit wc [a] 3 (by simp)
  by_cases e6 : op = 6
  · subst e6
    by_cases c1 : c = -1
    · subst c1
      by_cases d1 : d = -1
      · subst d1
        have HE : Hid (regsOf ⟨6, a, b, (-1), (-1), nm⟩ = (([] : List Int) ++ [b])) := by unfold Hid; show b :: someI (-1) (-1) = _; unfold someI; simp
        go_enter Try.func50, Try.ntmps50
        go_upto_region 2 with fail
        obtain ⟨wc, hwc⟩ : ∃ q, q = (w.alloc (.cells #[.int .i64 6, .int .i64 a, .int .i64 b, .int .i64 (-1), .int .i64 (-1), .string nm] 47)).alloc (.cells #[] 3) := ⟨_, rfl⟩
        rw [← hwc]
        have HK : Hid (Blk wc w.heap.size 47 #[.int .i64 6, .int .i64 a, .int .i64 b, .int .i64 (-1), .int .i64 (-1), .string nm]) := by unfold Hid; rw [hwc]; exact (Blk.new w _ _).alloc _
        have HB : Hid (Below w.heap.size w wc) := by unfold Hid; rw [hwc]; exact ((Below.refl _ _).alloc (Nat.le_refl _) _).alloc (by simp) _
        have HO : Hid (wc.ownsRow (w.heap.size + 1) 3 1 (.slice (some ⟨w.heap.size + 1, 0, none⟩) 0 0) 0 ([].flatMap vsInt)) := by unfold Hid; rw [hwc]; exact ownsRow_made' (by simp) (by simp)
        have hz : w.heap.size + 1 ≤ wc.heap.size := by rw [hwc]; simp
        clear hwc
        obtain ⟨k0, f0⟩ := HK.out.rules
        have l0 := HK.out.lt
        go_wp2_with (at_builtin; refine wpList_append_rd rfl _ _ 44 rfl (w.heap.size + 1) 3 _ _ 1 8 Try.underlying44 rfl rfl rfl rfl rfl (by omega) _ 0 _ rfl (HO.out.alloc _) vals_eInt [b] (one_eInt _) (lenv_eInt _) _ _ rfl (rdW_one vals_eInt wc b 3) (by simp) (by omega) (by simp; omega) ?_)
        intro A1 c1 w1 hown hgrow
        have hlo := HO.out.lt
        have HO1 : Hid (w1.ownsRow (w.heap.size + 1) 3 1 (.slice A1 (0 + 1) c1) (0 + 1) ((([] : List Int) ++ [b]).flatMap vsInt)) := by unfold Hid; rw [List.flatMap_append]; exact hown
        have HK1 := Lib.hid ((HK.out.alloc _).chg (grown_chg hgrow) (fun h => by have := (hlo _ h).1; omega))
        have HB1 := Lib.hid ((HB.out.alloc HB.out.size _).trans (grown_below hgrow (by have := HB.out.size; simp; omega) (fun k hk => by have := (hlo k hk).1; omega)))
        have hz1 : w.heap.size + 1 ≤ w1.heap.size := by have := hgrow.size; simp only [size_alloc] at this; omega
        clear hown hgrow hlo
        obtain ⟨k1, f1⟩ := HK1.out.rules
        have l1 := HK1.out.lt
        go_wp2
        go_ret
        refine ⟨_, rfl, ?_, HB1.out⟩
        rw [HE.out]
        exact ownsRow_rdw (xs := (([] : List Int) ++ [b])) vals_eInt HO1.out (by simp)
      · have hd1 : (d != -1) = true := by simpa using d1
        have HE : Hid (regsOf ⟨6, a, b, (-1), d, nm⟩ = ((([] : List Int) ++ [b]) ++ [d])) := by unfold Hid; show b :: someI (-1) d = _; unfold someI; simp [d1]
        go_enter Try.func50, Try.ntmps50
        go_upto_region 2 with fail
        obtain ⟨wc, hwc⟩ : ∃ q, q = (w.alloc (.cells #[.int .i64 6, .int .i64 a, .int .i64 b, .int .i64 (-1), .int .i64 d, .string nm] 47)).alloc (.cells #[] 3) := ⟨_, rfl⟩
        rw [← hwc]
        have HK : Hid (Blk wc w.heap.size 47 #[.int .i64 6, .int .i64 a, .int .i64 b, .int .i64 (-1), .int .i64 d, .string nm]) := by unfold Hid; rw [hwc]; exact (Blk.new w _ _).alloc _
        have HB : Hid (Below w.heap.size w wc) := by unfold Hid; rw [hwc]; exact ((Below.refl _ _).alloc (Nat.le_refl _) _).alloc (by simp) _
        have HO : Hid (wc.ownsRow (w.heap.size + 1) 3 1 (.slice (some ⟨w.heap.size + 1, 0, none⟩) 0 0) 0 ([].flatMap vsInt)) := by unfold Hid; rw [hwc]; exact ownsRow_made' (by simp) (by simp)
        have hz : w.heap.size + 1 ≤ wc.heap.size := by rw [hwc]; simp
        clear hwc
        obtain ⟨k0, f0⟩ := HK.out.rules
        have l0 := HK.out.lt
        go_wp2_with (at_builtin; refine wpList_append_rd rfl _ _ 44 rfl (w.heap.size + 1) 3 _ _ 1 8 Try.underlying44 rfl rfl rfl rfl rfl (by omega) _ 0 _ rfl (HO.out.alloc _) vals_eInt [b] (one_eInt _) (lenv_eInt _) _ _ rfl (rdW_one vals_eInt wc b 3) (by simp) (by omega) (by simp; omega) ?_)
        intro A1 c1 w1 hown hgrow
        have hlo := HO.out.lt
        have HO1 : Hid (w1.ownsRow (w.heap.size + 1) 3 1 (.slice A1 (0 + 1) c1) (0 + 1) ((([] : List Int) ++ [b]).flatMap vsInt)) := by unfold Hid; rw [List.flatMap_append]; exact hown
        have HK1 := Lib.hid ((HK.out.alloc _).chg (grown_chg hgrow) (fun h => by have := (hlo _ h).1; omega))
        have HB1 := Lib.hid ((HB.out.alloc HB.out.size _).trans (grown_below hgrow (by have := HB.out.size; simp; omega) (fun k hk => by have := (hlo k hk).1; omega)))
        have hz1 : w.heap.size + 1 ≤ w1.heap.size := by have := hgrow.size; simp only [size_alloc] at this; omega
        clear hown hgrow hlo
        obtain ⟨k1, f1⟩ := HK1.out.rules
        have l1 := HK1.out.lt
        go_wp2_with (at_builtin; refine wpList_append_rd rfl _ _ 44 rfl (w.heap.size + 1) 3 _ _ 1 8 Try.underlying44 rfl rfl rfl rfl rfl (by omega) _ (0 + 1) _ rfl (HO1.out.alloc _) vals_eInt [d] (one_eInt _) (lenv_eInt _) _ _ rfl (rdW_one vals_eInt w1 d 3) (by simp) (by omega) (by simp; omega) ?_)
        intro A2 c2 w2 hown hgrow
        have hlo := HO1.out.lt
        have HO2 : Hid (w2.ownsRow (w.heap.size + 1) 3 1 (.slice A2 ((0 + 1) + 1) c2) ((0 + 1) + 1) (((([] : List Int) ++ [b]) ++ [d]).flatMap vsInt)) := by unfold Hid; rw [List.flatMap_append]; exact hown
        have HK2 := Lib.hid ((HK1.out.alloc _).chg (grown_chg hgrow) (fun h => by have := (hlo _ h).1; omega))
        have HB2 := Lib.hid ((HB1.out.alloc HB1.out.size _).trans (grown_below hgrow (by have := HB1.out.size; simp; omega) (fun k hk => by have := (hlo k hk).1; omega)))
        have hz2 : w.heap.size + 1 ≤ w2.heap.size := by have := hgrow.size; simp only [size_alloc] at this; omega
        clear hown hgrow hlo
        obtain ⟨k2, f2⟩ := HK2.out.rules
        have l2 := HK2.out.lt
        go_wp2
        go_ret
        refine ⟨_, rfl, ?_, HB2.out⟩
        rw [HE.out]
        exact ownsRow_rdw (xs := ((([] : List Int) ++ [b]) ++ [d])) vals_eInt HO2.out (by simp)
    · have hc1 : (c != -1) = true := by simpa using c1
      by_cases d1 : d = -1
      · subst d1
        have HE : Hid (regsOf ⟨6, a, b, c, (-1), nm⟩ = ((([] : List Int) ++ [b]) ++ [c])) := by unfold Hid; show b :: someI c (-1) = _; unfold someI; simp [c1]
        go_enter Try.func50, Try.ntmps50
        go_upto_region 2 with fail
        obtain ⟨wc, hwc⟩ : ∃ q, q = (w.alloc (.cells #[.int .i64 6, .int .i64 a, .int .i64 b, .int .i64 c, .int .i64 (-1), .string nm] 47)).alloc (.cells #[] 3) := ⟨_, rfl⟩
        rw [← hwc]
        have HK : Hid (Blk wc w.heap.size 47 #[.int .i64 6, .int .i64 a, .int .i64 b, .int .i64 c, .int .i64 (-1), .string nm]) := by unfold Hid; rw [hwc]; exact (Blk.new w _ _).alloc _
        have HB : Hid (Below w.heap.size w wc) := by unfold Hid; rw [hwc]; exact ((Below.refl _ _).alloc (Nat.le_refl _) _).alloc (by simp) _
        have HO : Hid (wc.ownsRow (w.heap.size + 1) 3 1 (.slice (some ⟨w.heap.size + 1, 0, none⟩) 0 0) 0 ([].flatMap vsInt)) := by unfold Hid; rw [hwc]; exact ownsRow_made' (by simp) (by simp)
        have hz : w.heap.size + 1 ≤ wc.heap.size := by rw [hwc]; simp
        clear hwc
        obtain ⟨k0, f0⟩ := HK.out.rules
        have l0 := HK.out.lt
        go_wp2_with (at_builtin; refine wpList_append_rd rfl _ _ 44 rfl (w.heap.size + 1) 3 _ _ 1 8 Try.underlying44 rfl rfl rfl rfl rfl (by omega) _ 0 _ rfl (HO.out.alloc _) vals_eInt [b] (one_eInt _) (lenv_eInt _) _ _ rfl (rdW_one vals_eInt wc b 3) (by simp) (by omega) (by simp; omega) ?_)
        intro A1 c1 w1 hown hgrow
        have hlo := HO.out.lt
        have HO1 : Hid (w1.ownsRow (w.heap.size + 1) 3 1 (.slice A1 (0 + 1) c1) (0 + 1) ((([] : List Int) ++ [b]).flatMap vsInt)) := by unfold Hid; rw [List.flatMap_append]; exact hown
        have HK1 := Lib.hid ((HK.out.alloc _).chg (grown_chg hgrow) (fun h => by have := (hlo _ h).1; omega))
        have HB1 := Lib.hid ((HB.out.alloc HB.out.size _).trans (grown_below hgrow (by have := HB.out.size; simp; omega) (fun k hk => by have := (hlo k hk).1; omega)))
        have hz1 : w.heap.size + 1 ≤ w1.heap.size := by have := hgrow.size; simp only [size_alloc] at this; omega
        clear hown hgrow hlo
        obtain ⟨k1, f1⟩ := HK1.out.rules
        have l1 := HK1.out.lt
        go_wp2_with (at_builtin; refine wpList_append_rd rfl _ _ 44 rfl (w.heap.size + 1) 3 _ _ 1 8 Try.underlying44 rfl rfl rfl rfl rfl (by omega) _ (0 + 1) _ rfl (HO1.out.alloc _) vals_eInt [c] (one_eInt _) (lenv_eInt _) _ _ rfl (rdW_one vals_eInt w1 c 3) (by simp) (by omega) (by simp; omega) ?_)
        intro A2 c2 w2 hown hgrow
        have hlo := HO1.out.lt
        have HO2 : Hid (w2.ownsRow (w.heap.size + 1) 3 1 (.slice A2 ((0 + 1) + 1) c2) ((0 + 1) + 1) (((([] : List Int) ++ [b]) ++ [c]).flatMap vsInt)) := by unfold Hid; rw [List.flatMap_append]; exact hown
        have HK2 := Lib.hid ((HK1.out.alloc _).chg (grown_chg hgrow) (fun h => by have := (hlo _ h).1; omega))
        have HB2 := Lib.hid ((HB1.out.alloc HB1.out.size _).trans (grown_below hgrow (by have := HB1.out.size; simp; omega) (fun k hk => by have := (hlo k hk).1; omega)))
        have hz2 : w.heap.size + 1 ≤ w2.heap.size := by have := hgrow.size; simp only [size_alloc] at this; omega
        clear hown hgrow hlo
        obtain ⟨k2, f2⟩ := HK2.out.rules
        have l2 := HK2.out.lt
        go_wp2
        go_ret
        refine ⟨_, rfl, ?_, HB2.out⟩
        rw [HE.out]
        exact ownsRow_rdw (xs := ((([] : List Int) ++ [b]) ++ [c])) vals_eInt HO2.out (by simp)
      · have hd1 : (d != -1) = true := by simpa using d1
        have HE : Hid (regsOf ⟨6, a, b, c, d, nm⟩ = (((([] : List Int) ++ [b]) ++ [c]) ++ [d])) := by unfold Hid; show b :: someI c d = _; unfold someI; simp [c1, d1]
        go_enter Try.func50, Try.ntmps50
        go_upto_region 2 with fail
        obtain ⟨wc, hwc⟩ : ∃ q, q = (w.alloc (.cells #[.int .i64 6, .int .i64 a, .int .i64 b, .int .i64 c, .int .i64 d, .string nm] 47)).alloc (.cells #[] 3) := ⟨_, rfl⟩
        rw [← hwc]
        have HK : Hid (Blk wc w.heap.size 47 #[.int .i64 6, .int .i64 a, .int .i64 b, .int .i64 c, .int .i64 d, .string nm]) := by unfold Hid; rw [hwc]; exact (Blk.new w _ _).alloc _
        have HB : Hid (Below w.heap.size w wc) := by unfold Hid; rw [hwc]; exact ((Below.refl _ _).alloc (Nat.le_refl _) _).alloc (by simp) _
        have HO : Hid (wc.ownsRow (w.heap.size + 1) 3 1 (.slice (some ⟨w.heap.size + 1, 0, none⟩) 0 0) 0 ([].flatMap vsInt)) := by unfold Hid; rw [hwc]; exact ownsRow_made' (by simp) (by simp)
        have hz : w.heap.size + 1 ≤ wc.heap.size := by rw [hwc]; simp
        clear hwc
        obtain ⟨k0, f0⟩ := HK.out.rules
        have l0 := HK.out.lt
        go_wp2_with (at_builtin; refine wpList_append_rd rfl _ _ 44 rfl (w.heap.size + 1) 3 _ _ 1 8 Try.underlying44 rfl rfl rfl rfl rfl (by omega) _ 0 _ rfl (HO.out.alloc _) vals_eInt [b] (one_eInt _) (lenv_eInt _) _ _ rfl (rdW_one vals_eInt wc b 3) (by simp) (by omega) (by simp; omega) ?_)
        intro A1 c1 w1 hown hgrow
        have hlo := HO.out.lt
        have HO1 : Hid (w1.ownsRow (w.heap.size + 1) 3 1 (.slice A1 (0 + 1) c1) (0 + 1) ((([] : List Int) ++ [b]).flatMap vsInt)) := by unfold Hid; rw [List.flatMap_append]; exact hown
        have HK1 := Lib.hid ((HK.out.alloc _).chg (grown_chg hgrow) (fun h => by have := (hlo _ h).1; omega))
        have HB1 := Lib.hid ((HB.out.alloc HB.out.size _).trans (grown_below hgrow (by have := HB.out.size; simp; omega) (fun k hk => by have := (hlo k hk).1; omega)))
        have hz1 : w.heap.size + 1 ≤ w1.heap.size := by have := hgrow.size; simp only [size_alloc] at this; omega
        clear hown hgrow hlo
        obtain ⟨k1, f1⟩ := HK1.out.rules
        have l1 := HK1.out.lt
        go_wp2_with (at_builtin; refine wpList_append_rd rfl _ _ 44 rfl (w.heap.size + 1) 3 _ _ 1 8 Try.underlying44 rfl rfl rfl rfl rfl (by omega) _ (0 + 1) _ rfl (HO1.out.alloc _) vals_eInt [c] (one_eInt _) (lenv_eInt _) _ _ rfl (rdW_one vals_eInt w1 c 3) (by simp) (by omega) (by simp; omega) ?_)
        intro A2 c2 w2 hown hgrow
        have hlo := HO1.out.lt
        have HO2 : Hid (w2.ownsRow (w.heap.size + 1) 3 1 (.slice A2 ((0 + 1) + 1) c2) ((0 + 1) + 1) (((([] : List Int) ++ [b]) ++ [c]).flatMap vsInt)) := by unfold Hid; rw [List.flatMap_append]; exact hown
        have HK2 := Lib.hid ((HK1.out.alloc _).chg (grown_chg hgrow) (fun h => by have := (hlo _ h).1; omega))
        have HB2 := Lib.hid ((HB1.out.alloc HB1.out.size _).trans (grown_below hgrow (by have := HB1.out.size; simp; omega) (fun k hk => by have := (hlo k hk).1; omega)))
        have hz2 : w.heap.size + 1 ≤ w2.heap.size := by have := hgrow.size; simp only [size_alloc] at this; omega
        clear hown hgrow hlo
        obtain ⟨k2, f2⟩ := HK2.out.rules
        have l2 := HK2.out.lt
        go_wp2_with (at_builtin; refine wpList_append_rd rfl _ _ 44 rfl (w.heap.size + 1) 3 _ _ 1 8 Try.underlying44 rfl rfl rfl rfl rfl (by omega) _ ((0 + 1) + 1) _ rfl (HO2.out.alloc _) vals_eInt [d] (one_eInt _) (lenv_eInt _) _ _ rfl (rdW_one vals_eInt w2 d 3) (by simp) (by omega) (by simp; omega) ?_)
        intro A3 c3 w3 hown hgrow
        have hlo := HO2.out.lt
        have HO3 : Hid (w3.ownsRow (w.heap.size + 1) 3 1 (.slice A3 (((0 + 1) + 1) + 1) c3) (((0 + 1) + 1) + 1) ((((([] : List Int) ++ [b]) ++ [c]) ++ [d]).flatMap vsInt)) := by unfold Hid; rw [List.flatMap_append]; exact hown
        have HK3 := Lib.hid ((HK2.out.alloc _).chg (grown_chg hgrow) (fun h => by have := (hlo _ h).1; omega))
        have HB3 := Lib.hid ((HB2.out.alloc HB2.out.size _).trans (grown_below hgrow (by have := HB2.out.size; simp; omega) (fun k hk => by have := (hlo k hk).1; omega)))
        have hz3 : w.heap.size + 1 ≤ w3.heap.size := by have := hgrow.size; simp only [size_alloc] at this; omega
        clear hown hgrow hlo
        obtain ⟨k3, f3⟩ := HK3.out.rules
        have l3 := HK3.out.lt
        go_wp2
        go_ret
        refine ⟨_, rfl, ?_, HB3.out⟩
        rw [HE.out]
        exact ownsRow_rdw (xs := (((([] : List Int) ++ [b]) ++ [c]) ++ [d])) vals_eInt HO3.out (by simp)
  by_cases e7 : op = 7
  · subst e7
    by_cases c1 : c = -1
    · subst c1
      by_cases d1 : d = -1
      · subst d1
        have HE : Hid (regsOf ⟨7, a, b, (-1), (-1), nm⟩ = ([] : List Int)) := by unfold Hid; show someI (-1) (-1) = _; unfold someI; simp
        go_enter Try.func50, Try.ntmps50
        go_upto_region 2 with fail
        obtain ⟨wc, hwc⟩ : ∃ q, q = (w.alloc (.cells #[.int .i64 7, .int .i64 a, .int .i64 b, .int .i64 (-1), .int .i64 (-1), .string nm] 47)).alloc (.cells #[] 3) := ⟨_, rfl⟩
        rw [← hwc]
        have HK : Hid (Blk wc w.heap.size 47 #[.int .i64 7, .int .i64 a, .int .i64 b, .int .i64 (-1), .int .i64 (-1), .string nm]) := by unfold Hid; rw [hwc]; exact (Blk.new w _ _).alloc _
        have HB : Hid (Below w.heap.size w wc) := by unfold Hid; rw [hwc]; exact ((Below.refl _ _).alloc (Nat.le_refl _) _).alloc (by simp) _
        have HO : Hid (wc.ownsRow (w.heap.size + 1) 3 1 (.slice (some ⟨w.heap.size + 1, 0, none⟩) 0 0) 0 ([].flatMap vsInt)) := by unfold Hid; rw [hwc]; exact ownsRow_made' (by simp) (by simp)
        have hz : w.heap.size + 1 ≤ wc.heap.size := by rw [hwc]; simp
        clear hwc
        obtain ⟨k0, f0⟩ := HK.out.rules
        have l0 := HK.out.lt
        go_wp2
        go_ret
        refine ⟨_, rfl, ?_, HB.out⟩
        rw [HE.out]
        exact ownsRow_rdw (xs := ([] : List Int)) vals_eInt HO.out (by simp)
      · have hd1 : (d != -1) = true := by simpa using d1
        have HE : Hid (regsOf ⟨7, a, b, (-1), d, nm⟩ = (([] : List Int) ++ [d])) := by unfold Hid; show someI (-1) d = _; unfold someI; simp [d1]
        go_enter Try.func50, Try.ntmps50
        go_upto_region 2 with fail
        obtain ⟨wc, hwc⟩ : ∃ q, q = (w.alloc (.cells #[.int .i64 7, .int .i64 a, .int .i64 b, .int .i64 (-1), .int .i64 d, .string nm] 47)).alloc (.cells #[] 3) := ⟨_, rfl⟩
        rw [← hwc]
        have HK : Hid (Blk wc w.heap.size 47 #[.int .i64 7, .int .i64 a, .int .i64 b, .int .i64 (-1), .int .i64 d, .string nm]) := by unfold Hid; rw [hwc]; exact (Blk.new w _ _).alloc _
        have HB : Hid (Below w.heap.size w wc) := by unfold Hid; rw [hwc]; exact ((Below.refl _ _).alloc (Nat.le_refl _) _).alloc (by simp) _
        have HO : Hid (wc.ownsRow (w.heap.size + 1) 3 1 (.slice (some ⟨w.heap.size + 1, 0, none⟩) 0 0) 0 ([].flatMap vsInt)) := by unfold Hid; rw [hwc]; exact ownsRow_made' (by simp) (by simp)
        have hz : w.heap.size + 1 ≤ wc.heap.size := by rw [hwc]; simp
        clear hwc
        obtain ⟨k0, f0⟩ := HK.out.rules
        have l0 := HK.out.lt
        go_wp2_with (at_builtin; refine wpList_append_rd rfl _ _ 44 rfl (w.heap.size + 1) 3 _ _ 1 8 Try.underlying44 rfl rfl rfl rfl rfl (by omega) _ 0 _ rfl (HO.out.alloc _) vals_eInt [d] (one_eInt _) (lenv_eInt _) _ _ rfl (rdW_one vals_eInt wc d 3) (by simp) (by omega) (by simp; omega) ?_)
        intro A1 c1 w1 hown hgrow
        have hlo := HO.out.lt
        have HO1 : Hid (w1.ownsRow (w.heap.size + 1) 3 1 (.slice A1 (0 + 1) c1) (0 + 1) ((([] : List Int) ++ [d]).flatMap vsInt)) := by unfold Hid; rw [List.flatMap_append]; exact hown
        have HK1 := Lib.hid ((HK.out.alloc _).chg (grown_chg hgrow) (fun h => by have := (hlo _ h).1; omega))
        have HB1 := Lib.hid ((HB.out.alloc HB.out.size _).trans (grown_below hgrow (by have := HB.out.size; simp; omega) (fun k hk => by have := (hlo k hk).1; omega)))
        have hz1 : w.heap.size + 1 ≤ w1.heap.size := by have := hgrow.size; simp only [size_alloc] at this; omega
        clear hown hgrow hlo
        obtain ⟨k1, f1⟩ := HK1.out.rules
        have l1 := HK1.out.lt
        go_wp2
        go_ret
        refine ⟨_, rfl, ?_, HB1.out⟩
        rw [HE.out]
        exact ownsRow_rdw (xs := (([] : List Int) ++ [d])) vals_eInt HO1.out (by simp)
    · have hc1 : (c != -1) = true := by simpa using c1
      by_cases d1 : d = -1
      · subst d1
        have HE : Hid (regsOf ⟨7, a, b, c, (-1), nm⟩ = (([] : List Int) ++ [c])) := by unfold Hid; show someI c (-1) = _; unfold someI; simp [c1]
        go_enter Try.func50, Try.ntmps50
        go_upto_region 2 with fail
        obtain ⟨wc, hwc⟩ : ∃ q, q = (w.alloc (.cells #[.int .i64 7, .int .i64 a, .int .i64 b, .int .i64 c, .int .i64 (-1), .string nm] 47)).alloc (.cells #[] 3) := ⟨_, rfl⟩
        rw [← hwc]
        have HK : Hid (Blk wc w.heap.size 47 #[.int .i64 7, .int .i64 a, .int .i64 b, .int .i64 c, .int .i64 (-1), .string nm]) := by unfold Hid; rw [hwc]; exact (Blk.new w _ _).alloc _
        have HB : Hid (Below w.heap.size w wc) := by unfold Hid; rw [hwc]; exact ((Below.refl _ _).alloc (Nat.le_refl _) _).alloc (by simp) _
        have HO : Hid (wc.ownsRow (w.heap.size + 1) 3 1 (.slice (some ⟨w.heap.size + 1, 0, none⟩) 0 0) 0 ([].flatMap vsInt)) := by unfold Hid; rw [hwc]; exact ownsRow_made' (by simp) (by simp)
        have hz : w.heap.size + 1 ≤ wc.heap.size := by rw [hwc]; simp
        clear hwc
        obtain ⟨k0, f0⟩ := HK.out.rules
        have l0 := HK.out.lt
        go_wp2_with (at_builtin; refine wpList_append_rd rfl _ _ 44 rfl (w.heap.size + 1) 3 _ _ 1 8 Try.underlying44 rfl rfl rfl rfl rfl (by omega) _ 0 _ rfl (HO.out.alloc _) vals_eInt [c] (one_eInt _) (lenv_eInt _) _ _ rfl (rdW_one vals_eInt wc c 3) (by simp) (by omega) (by simp; omega) ?_)
        intro A1 c1 w1 hown hgrow
        have hlo := HO.out.lt
        have HO1 : Hid (w1.ownsRow (w.heap.size + 1) 3 1 (.slice A1 (0 + 1) c1) (0 + 1) ((([] : List Int) ++ [c]).flatMap vsInt)) := by unfold Hid; rw [List.flatMap_append]; exact hown
        have HK1 := Lib.hid ((HK.out.alloc _).chg (grown_chg hgrow) (fun h => by have := (hlo _ h).1; omega))
        have HB1 := Lib.hid ((HB.out.alloc HB.out.size _).trans (grown_below hgrow (by have := HB.out.size; simp; omega) (fun k hk => by have := (hlo k hk).1; omega)))
        have hz1 : w.heap.size + 1 ≤ w1.heap.size := by have := hgrow.size; simp only [size_alloc] at this; omega
        clear hown hgrow hlo
        obtain ⟨k1, f1⟩ := HK1.out.rules
        have l1 := HK1.out.lt
        go_wp2
        go_ret
        refine ⟨_, rfl, ?_, HB1.out⟩
        rw [HE.out]
        exact ownsRow_rdw (xs := (([] : List Int) ++ [c])) vals_eInt HO1.out (by simp)
      · have hd1 : (d != -1) = true := by simpa using d1
        have HE : Hid (regsOf ⟨7, a, b, c, d, nm⟩ = ((([] : List Int) ++ [c]) ++ [d])) := by unfold Hid; show someI c d = _; unfold someI; simp [c1, d1]
        go_enter Try.func50, Try.ntmps50
        go_upto_region 2 with fail
        obtain ⟨wc, hwc⟩ : ∃ q, q = (w.alloc (.cells #[.int .i64 7, .int .i64 a, .int .i64 b, .int .i64 c, .int .i64 d, .string nm] 47)).alloc (.cells #[] 3) := ⟨_, rfl⟩
        rw [← hwc]
        have HK : Hid (Blk wc w.heap.size 47 #[.int .i64 7, .int .i64 a, .int .i64 b, .int .i64 c, .int .i64 d, .string nm]) := by unfold Hid; rw [hwc]; exact (Blk.new w _ _).alloc _
        have HB : Hid (Below w.heap.size w wc) := by unfold Hid; rw [hwc]; exact ((Below.refl _ _).alloc (Nat.le_refl _) _).alloc (by simp) _
        have HO : Hid (wc.ownsRow (w.heap.size + 1) 3 1 (.slice (some ⟨w.heap.size + 1, 0, none⟩) 0 0) 0 ([].flatMap vsInt)) := by unfold Hid; rw [hwc]; exact ownsRow_made' (by simp) (by simp)
        have hz : w.heap.size + 1 ≤ wc.heap.size := by rw [hwc]; simp
        clear hwc
        obtain ⟨k0, f0⟩ := HK.out.rules
        have l0 := HK.out.lt
        go_wp2_with (at_builtin; refine wpList_append_rd rfl _ _ 44 rfl (w.heap.size + 1) 3 _ _ 1 8 Try.underlying44 rfl rfl rfl rfl rfl (by omega) _ 0 _ rfl (HO.out.alloc _) vals_eInt [c] (one_eInt _) (lenv_eInt _) _ _ rfl (rdW_one vals_eInt wc c 3) (by simp) (by omega) (by simp; omega) ?_)
        intro A1 c1 w1 hown hgrow
        have hlo := HO.out.lt
        have HO1 : Hid (w1.ownsRow (w.heap.size + 1) 3 1 (.slice A1 (0 + 1) c1) (0 + 1) ((([] : List Int) ++ [c]).flatMap vsInt)) := by unfold Hid; rw [List.flatMap_append]; exact hown
        have HK1 := Lib.hid ((HK.out.alloc _).chg (grown_chg hgrow) (fun h => by have := (hlo _ h).1; omega))
        have HB1 := Lib.hid ((HB.out.alloc HB.out.size _).trans (grown_below hgrow (by have := HB.out.size; simp; omega) (fun k hk => by have := (hlo k hk).1; omega)))
        have hz1 : w.heap.size + 1 ≤ w1.heap.size := by have := hgrow.size; simp only [size_alloc] at this; omega
        clear hown hgrow hlo
        obtain ⟨k1, f1⟩ := HK1.out.rules
        have l1 := HK1.out.lt
        go_wp2_with (at_builtin; refine wpList_append_rd rfl _ _ 44 rfl (w.heap.size + 1) 3 _ _ 1 8 Try.underlying44 rfl rfl rfl rfl rfl (by omega) _ (0 + 1) _ rfl (HO1.out.alloc _) vals_eInt [d] (one_eInt _) (lenv_eInt _) _ _ rfl (rdW_one vals_eInt w1 d 3) (by simp) (by omega) (by simp; omega) ?_)
        intro A2 c2 w2 hown hgrow
        have hlo := HO1.out.lt
        have HO2 : Hid (w2.ownsRow (w.heap.size + 1) 3 1 (.slice A2 ((0 + 1) + 1) c2) ((0 + 1) + 1) (((([] : List Int) ++ [c]) ++ [d]).flatMap vsInt)) := by unfold Hid; rw [List.flatMap_append]; exact hown
        have HK2 := Lib.hid ((HK1.out.alloc _).chg (grown_chg hgrow) (fun h => by have := (hlo _ h).1; omega))
        have HB2 := Lib.hid ((HB1.out.alloc HB1.out.size _).trans (grown_below hgrow (by have := HB1.out.size; simp; omega) (fun k hk => by have := (hlo k hk).1; omega)))
        have hz2 : w.heap.size + 1 ≤ w2.heap.size := by have := hgrow.size; simp only [size_alloc] at this; omega
        clear hown hgrow hlo
        obtain ⟨k2, f2⟩ := HK2.out.rules
        have l2 := HK2.out.lt
        go_wp2
        go_ret
        refine ⟨_, rfl, ?_, HB2.out⟩
        rw [HE.out]
        exact ownsRow_rdw (xs := ((([] : List Int) ++ [c]) ++ [d])) vals_eInt HO2.out (by simp)
  have HE : Hid (regsOf ⟨op, a, b, c, d, nm⟩ = []) := by unfold Hid regsOf; dsimp only; simp [e5, e6, e7, e8, e9, e10]
  go_enter Try.func50, Try.ntmps50
  go_upto_region 2 with fail
  obtain ⟨wc, hwc⟩ : ∃ q, q = (w.alloc (.cells #[.int .i64 op, .int .i64 a, .int .i64 b, .int .i64 c, .int .i64 d, .string nm] 47)).alloc (.cells #[] 3) := ⟨_, rfl⟩
  rw [← hwc]
  have HK : Hid (Blk wc w.heap.size 47 #[.int .i64 op, .int .i64 a, .int .i64 b, .int .i64 c, .int .i64 d, .string nm]) := by unfold Hid; rw [hwc]; exact (Blk.new w _ _).alloc _
  have HB : Hid (Below w.heap.size w wc) := by unfold Hid; rw [hwc]; exact ((Below.refl _ _).alloc (Nat.le_refl _) _).alloc (by simp) _
  have HO : Hid (wc.ownsRow (w.heap.size + 1) 3 1 (.slice (some ⟨w.heap.size + 1, 0, none⟩) 0 0) 0 ([].flatMap vsInt)) := by unfold Hid; rw [hwc]; exact ownsRow_made' (by simp) (by simp)
  have hz : w.heap.size + 1 ≤ wc.heap.size := by rw [hwc]; simp
  clear hwc
  obtain ⟨k0, f0⟩ := HK.out.rules
  have l0 := HK.out.lt
  go_wp2
  go_ret
  refine ⟨_, rfl, ?_, HB.out⟩
  rw [HE.out]
  exact ownsRow_rdw (xs := ([] : List Int)) vals_eInt HO.out (by simp)

end Go.Proofs.Ytiohoeafdaihpaa
