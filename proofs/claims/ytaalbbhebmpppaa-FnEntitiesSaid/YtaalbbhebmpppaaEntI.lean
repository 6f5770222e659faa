import Derived.Test.YtaalbbhebmpppaaProg
import Derived.Test.YtaalbbhebmpppaaTypes
import Derived.StillTailTactics
import Derived.Deep.RegionHeld3
import Derived.Laws.IdiomStrings
import Derived.Test.YtaalbbhebmpppaaAppend
import Derived.Laws.StructEq
import Derived.Lib.SliceRun
import Derived.Shelf.RegionOpenPlain
import Derived.Test.YtaalbbhebmpppaaEntB2
namespace Go.Proofs.Ytaalbbhebmpppaa
open Go.RowKit
set_option linter.unusedVariables false
set_option linter.unusedSimpArgs false

/-- what the check of an entity comes to -/
def entityB (x : GEntity) (n : Int) : Bool :=
  inR x.Sent 0 999999 && (if x.Kind = 1 then inR x.Script 0 5 && (!(x.Slots.any fun y => !valueB y n) && restA x)
    else if x.Kind = 3 then inR x.Peer 1 4 && (inR x.Pos 1 999999 && (inR x.Count 1 999999 && restB x))
    else if x.Kind = 2 then inR x.State 1 4 && (promB x n && restC x) else false)
set_option maxHeartbeats 12800000 in
set_option maxRecDepth 100000 in
theorem impl_IsEntity_calls (us : List Value) (x : GEntity) (n : Int) (w : World) (hr : RdLW w (eEntity x) us) (hs : x.Slots.length ≤ 3) (hq : x.Queue.length ≤ 1) (hn0 : 0 ≤ n) (hn1 : n < 7) :
    Calls Try.prog 20 #[.agg us.toArray, .int .i64 n] w fun e w' => e = .returned (.bool (entityB x n)) ∧ Below w.heap.size w w' := by
  obtain ⟨v2, v6, v7, rfl, h2, h6, h7⟩ := rd_eEntity hr
  obtain ⟨A2, c2, rfl, -⟩ := h2.slice
  obtain ⟨A6, c6, rfl, -⟩ := h6.slice
  obtain ⟨A7, c7, rfl, -⟩ := h7.slice
  obtain ⟨k, sc, sl, st, va, qu, ak, pe, po, co, se⟩ := x
  dsimp only at h2 hs hq ⊢
  have HR2 := Lib.hid (h2.alloc (.cells #[.int .i64 k, .int .i64 sc, .slice A2 sl.length c2, .int .i64 st, .int .i64 va.Kind, .int .i64 va.N, .slice A6 qu.length c6, .slice A7 ak.length c7, .int .i64 pe, .int .i64 po, .int .i64 co, .int .i64 se] 37))
  have HK := Lib.hid (Blk.new w 37 #[.int .i64 k, .int .i64 sc, .slice A2 sl.length c2, .int .i64 st, .int .i64 va.Kind, .int .i64 va.N, .slice A6 qu.length c6, .slice A7 ak.length c7, .int .i64 pe, .int .i64 po, .int .i64 co, .int .i64 se])
  have HB := Lib.hid ((Below.refl w.heap.size w).alloc (Nat.le_refl _) (.cells #[.int .i64 k, .int .i64 sc, .slice A2 sl.length c2, .int .i64 st, .int .i64 va.Kind, .int .i64 va.N, .slice A6 qu.length c6, .slice A7 ak.length c7, .int .i64 pe, .int .i64 po, .int .i64 co, .int .i64 se] 37))
  clear hr h2 h6 h7
  rcases Bool.eq_false_or_eq_true (inR se 0 999999) with hse | hse
  rotate_left
  · skip
    have HE : Hid (entityB  ⟨k, sc, sl, st, va, qu, ak, pe, po, co, se⟩ n = false) := by
      unfold Hid entityB
      simp [hse]
    go_enter Try.func20, Try.ntmps20
    go_wp2_with fail
    refine (impl_in_calls se 0 999999 _).mono ?_
    rintro e w9 ⟨rfl, hw9⟩
    subst hw9
    rw [hse]
    go_wp2
    go_ret
    exact ⟨by rw [HE.out]; rfl, HB.out⟩
  by_cases e1 : k = 1
  · subst e1
    rcases Bool.eq_false_or_eq_true (inR sc 0 5) with h1 | h1
    rotate_left
    · skip
      have HE : Hid (entityB ⟨1, sc, sl, st, va, qu, ak, pe, po, co, se⟩ n = false) := by
        unfold Hid entityB
        simp [hse, h1]
      go_enter Try.func20, Try.ntmps20
      go_wp2_with fail
      refine (impl_in_calls se 0 999999 _).mono ?_
      rintro e w9 ⟨rfl, hw9⟩
      subst hw9
      rw [hse]
      go_wp2_with fail
      refine (impl_in_calls sc 0 5 _).mono ?_
      rintro e w9 ⟨rfl, hw9⟩
      subst hw9
      rw [h1]
      go_wp2
      go_ret
      exact ⟨by rw [HE.out]; rfl, HB.out⟩
    rcases Bool.eq_false_or_eq_true (!(sl.any fun y => !valueB y n)) with h2 | h2
    rotate_left
    · skip
      have HE : Hid (entityB ⟨1, sc, sl, st, va, qu, ak, pe, po, co, se⟩ n = false) := by
        unfold Hid entityB
        simp [hse, h1, h2]
      go_enter Try.func20, Try.ntmps20
      go_wp2_with fail
      refine (impl_in_calls se 0 999999 _).mono ?_
      rintro e w9 ⟨rfl, hw9⟩
      subst hw9
      rw [hse]
      go_wp2_with fail
      refine (impl_in_calls sc 0 5 _).mono ?_
      rintro e w9 ⟨rfl, hw9⟩
      subst hw9
      rw [h1]
      go_wp2_with fail
      refine (impl_AreValues_calls _ sl n _ HR2.out hn0 hn1).mono ?_
      rintro e w8 ⟨rfl, hb8⟩
      rw [h2]
      have HK8 := Lib.hid (HK.out.below hb8)
      have HB8 := Lib.hid (HB.out.trans (hb8.mono (by simp)))
      clear hb8
      obtain ⟨k8, f8⟩ := HK8.out.rules
      have l8 := HK8.out.lt
      go_wp2
      go_ret
      exact ⟨by rw [HE.out]; rfl, HB8.out⟩
    rcases Bool.eq_false_or_eq_true (restA ⟨1, sc, sl, st, va, qu, ak, pe, po, co, se⟩) with hrs | hrs
    rotate_left
    · skip
      have HE : Hid (entityB ⟨1, sc, sl, st, va, qu, ak, pe, po, co, se⟩ n = false) := by
        unfold Hid entityB
        simp [hse, h1, h2, hrs]
      go_enter Try.func20, Try.ntmps20
      go_wp2_with fail
      refine (impl_in_calls se 0 999999 _).mono ?_
      rintro e w9 ⟨rfl, hw9⟩
      subst hw9
      rw [hse]
      go_wp2_with fail
      refine (impl_in_calls sc 0 5 _).mono ?_
      rintro e w9 ⟨rfl, hw9⟩
      subst hw9
      rw [h1]
      go_wp2_with fail
      refine (impl_AreValues_calls _ sl n _ HR2.out hn0 hn1).mono ?_
      rintro e w8 ⟨rfl, hb8⟩
      rw [h2]
      have HK8 := Lib.hid (HK.out.below hb8)
      have HB8 := Lib.hid (HB.out.trans (hb8.mono (by simp)))
      clear hb8
      obtain ⟨k8, f8⟩ := HK8.out.rules
      have l8 := HK8.out.lt
      go_wp2_with fail
      refine (impl_restA_calls w.heap.size ⟨1, sc, sl, st, va, qu, ak, pe, po, co, se⟩ A2 A6 A7 c2 c6 c7 _ HK8.out).mono ?_
      rintro e w9 ⟨rfl, hw9⟩
      subst hw9
      rw [hrs]
      go_wp2
      go_ret
      exact ⟨by rw [HE.out]; rfl, HB8.out⟩
    have HE : Hid (entityB ⟨1, sc, sl, st, va, qu, ak, pe, po, co, se⟩ n = true) := by
      unfold Hid entityB
      simp [hse, h1, h2, hrs]
    go_enter Try.func20, Try.ntmps20
    go_wp2_with fail
    refine (impl_in_calls se 0 999999 _).mono ?_
    rintro e w9 ⟨rfl, hw9⟩
    subst hw9
    rw [hse]
    go_wp2_with fail
    refine (impl_in_calls sc 0 5 _).mono ?_
    rintro e w9 ⟨rfl, hw9⟩
    subst hw9
    rw [h1]
    go_wp2_with fail
    refine (impl_AreValues_calls _ sl n _ HR2.out hn0 hn1).mono ?_
    rintro e w8 ⟨rfl, hb8⟩
    rw [h2]
    have HK8 := Lib.hid (HK.out.below hb8)
    have HB8 := Lib.hid (HB.out.trans (hb8.mono (by simp)))
    clear hb8
    obtain ⟨k8, f8⟩ := HK8.out.rules
    have l8 := HK8.out.lt
    go_wp2_with fail
    refine (impl_restA_calls w.heap.size ⟨1, sc, sl, st, va, qu, ak, pe, po, co, se⟩ A2 A6 A7 c2 c6 c7 _ HK8.out).mono ?_
    rintro e w9 ⟨rfl, hw9⟩
    subst hw9
    rw [hrs]
    go_wp2
    go_ret
    exact ⟨by rw [HE.out]; rfl, HB8.out⟩
  by_cases e3 : k = 3
  · subst e3
    rcases Bool.eq_false_or_eq_true (inR pe 1 4) with h1 | h1
    rotate_left
    · skip
      have HE : Hid (entityB ⟨3, sc, sl, st, va, qu, ak, pe, po, co, se⟩ n = false) := by
        unfold Hid entityB
        simp [hse, h1]
      go_enter Try.func20, Try.ntmps20
      go_wp2_with fail
      refine (impl_in_calls se 0 999999 _).mono ?_
      rintro e w9 ⟨rfl, hw9⟩
      subst hw9
      rw [hse]
      go_wp2_with fail
      refine (impl_in_calls pe 1 4 _).mono ?_
      rintro e w9 ⟨rfl, hw9⟩
      subst hw9
      rw [h1]
      go_wp2
      go_ret
      exact ⟨by rw [HE.out]; rfl, HB.out⟩
    rcases Bool.eq_false_or_eq_true (inR po 1 999999) with h2 | h2
    rotate_left
    · skip
      have HE : Hid (entityB ⟨3, sc, sl, st, va, qu, ak, pe, po, co, se⟩ n = false) := by
        unfold Hid entityB
        simp [hse, h1, h2]
      go_enter Try.func20, Try.ntmps20
      go_wp2_with fail
      refine (impl_in_calls se 0 999999 _).mono ?_
      rintro e w9 ⟨rfl, hw9⟩
      subst hw9
      rw [hse]
      go_wp2_with fail
      refine (impl_in_calls pe 1 4 _).mono ?_
      rintro e w9 ⟨rfl, hw9⟩
      subst hw9
      rw [h1]
      go_wp2_with fail
      refine (impl_in_calls po 1 999999 _).mono ?_
      rintro e w9 ⟨rfl, hw9⟩
      subst hw9
      rw [h2]
      go_wp2
      go_ret
      exact ⟨by rw [HE.out]; rfl, HB.out⟩
    rcases Bool.eq_false_or_eq_true (inR co 1 999999) with h3 | h3
    rotate_left
    · skip
      have HE : Hid (entityB ⟨3, sc, sl, st, va, qu, ak, pe, po, co, se⟩ n = false) := by
        unfold Hid entityB
        simp [hse, h1, h2, h3]
      go_enter Try.func20, Try.ntmps20
      go_wp2_with fail
      refine (impl_in_calls se 0 999999 _).mono ?_
      rintro e w9 ⟨rfl, hw9⟩
      subst hw9
      rw [hse]
      go_wp2_with fail
      refine (impl_in_calls pe 1 4 _).mono ?_
      rintro e w9 ⟨rfl, hw9⟩
      subst hw9
      rw [h1]
      go_wp2_with fail
      refine (impl_in_calls po 1 999999 _).mono ?_
      rintro e w9 ⟨rfl, hw9⟩
      subst hw9
      rw [h2]
      go_wp2_with fail
      refine (impl_in_calls co 1 999999 _).mono ?_
      rintro e w9 ⟨rfl, hw9⟩
      subst hw9
      rw [h3]
      go_wp2
      go_ret
      exact ⟨by rw [HE.out]; rfl, HB.out⟩
    rcases Bool.eq_false_or_eq_true (restB ⟨3, sc, sl, st, va, qu, ak, pe, po, co, se⟩) with hrs | hrs
    rotate_left
    · skip
      have HE : Hid (entityB ⟨3, sc, sl, st, va, qu, ak, pe, po, co, se⟩ n = false) := by
        unfold Hid entityB
        simp [hse, h1, h2, h3, hrs]
      go_enter Try.func20, Try.ntmps20
      go_wp2_with fail
      refine (impl_in_calls se 0 999999 _).mono ?_
      rintro e w9 ⟨rfl, hw9⟩
      subst hw9
      rw [hse]
      go_wp2_with fail
      refine (impl_in_calls pe 1 4 _).mono ?_
      rintro e w9 ⟨rfl, hw9⟩
      subst hw9
      rw [h1]
      go_wp2_with fail
      refine (impl_in_calls po 1 999999 _).mono ?_
      rintro e w9 ⟨rfl, hw9⟩
      subst hw9
      rw [h2]
      go_wp2_with fail
      refine (impl_in_calls co 1 999999 _).mono ?_
      rintro e w9 ⟨rfl, hw9⟩
      subst hw9
      rw [h3]
      go_wp2_with fail
      refine (impl_restB_calls w.heap.size ⟨3, sc, sl, st, va, qu, ak, pe, po, co, se⟩ A2 A6 A7 c2 c6 c7 _ HK.out).mono ?_
      rintro e w9 ⟨rfl, hw9⟩
      subst hw9
      rw [hrs]
      go_wp2
      go_ret
      exact ⟨by rw [HE.out]; rfl, HB.out⟩
    have HE : Hid (entityB ⟨3, sc, sl, st, va, qu, ak, pe, po, co, se⟩ n = true) := by
      unfold Hid entityB
      simp [hse, h1, h2, h3, hrs]
    go_enter Try.func20, Try.ntmps20
    go_wp2_with fail
    refine (impl_in_calls se 0 999999 _).mono ?_
    rintro e w9 ⟨rfl, hw9⟩
    subst hw9
    rw [hse]
    go_wp2_with fail
    refine (impl_in_calls pe 1 4 _).mono ?_
    rintro e w9 ⟨rfl, hw9⟩
    subst hw9
    rw [h1]
    go_wp2_with fail
    refine (impl_in_calls po 1 999999 _).mono ?_
    rintro e w9 ⟨rfl, hw9⟩
    subst hw9
    rw [h2]
    go_wp2_with fail
    refine (impl_in_calls co 1 999999 _).mono ?_
    rintro e w9 ⟨rfl, hw9⟩
    subst hw9
    rw [h3]
    go_wp2_with fail
    refine (impl_restB_calls w.heap.size ⟨3, sc, sl, st, va, qu, ak, pe, po, co, se⟩ A2 A6 A7 c2 c6 c7 _ HK.out).mono ?_
    rintro e w9 ⟨rfl, hw9⟩
    subst hw9
    rw [hrs]
    go_wp2
    go_ret
    exact ⟨by rw [HE.out]; rfl, HB.out⟩
  by_cases e2 : k = 2
  · subst e2
    rcases Bool.eq_false_or_eq_true (inR st 1 4) with h1 | h1
    rotate_left
    · skip
      have HE : Hid (entityB ⟨2, sc, sl, st, va, qu, ak, pe, po, co, se⟩ n = false) := by
        unfold Hid entityB
        simp [hse, h1]
      go_enter Try.func20, Try.ntmps20
      go_wp2_with fail
      refine (impl_in_calls se 0 999999 _).mono ?_
      rintro e w9 ⟨rfl, hw9⟩
      subst hw9
      rw [hse]
      go_wp2_with fail
      refine (impl_in_calls st 1 4 _).mono ?_
      rintro e w9 ⟨rfl, hw9⟩
      subst hw9
      rw [h1]
      go_wp2
      go_ret
      exact ⟨by rw [HE.out]; rfl, HB.out⟩
    rcases Bool.eq_false_or_eq_true (promB ⟨2, sc, sl, st, va, qu, ak, pe, po, co, se⟩ n) with h2 | h2
    rotate_left
    · skip
      have HE : Hid (entityB ⟨2, sc, sl, st, va, qu, ak, pe, po, co, se⟩ n = false) := by
        unfold Hid entityB
        simp [hse, h1, h2]
      go_enter Try.func20, Try.ntmps20
      go_wp2_with fail
      refine (impl_in_calls se 0 999999 _).mono ?_
      rintro e w9 ⟨rfl, hw9⟩
      subst hw9
      rw [hse]
      go_wp2_with fail
      refine (impl_in_calls st 1 4 _).mono ?_
      rintro e w9 ⟨rfl, hw9⟩
      subst hw9
      rw [h1]
      go_wp2_with fail
      refine (impl_promiseOk_calls w.heap.size ⟨2, sc, sl, st, va, qu, ak, pe, po, co, se⟩ n A2 A6 A7 c2 c6 c7 _ HK.out hn0 hn1 (of_decide_eq_true (show decide (1 ≤ st ∧ st ≤ 4) = true from h1)) hq).mono ?_
      rintro e w8 ⟨rfl, hb8⟩
      rw [h2]
      have HK8 := Lib.hid (HK.out.below hb8)
      have HB8 := Lib.hid (HB.out.trans (hb8.mono (by simp)))
      clear hb8
      obtain ⟨k8, f8⟩ := HK8.out.rules
      have l8 := HK8.out.lt
      go_wp2
      go_ret
      exact ⟨by rw [HE.out]; rfl, HB8.out⟩
    rcases Bool.eq_false_or_eq_true (restC ⟨2, sc, sl, st, va, qu, ak, pe, po, co, se⟩) with hrs | hrs
    rotate_left
    · skip
      have HE : Hid (entityB ⟨2, sc, sl, st, va, qu, ak, pe, po, co, se⟩ n = false) := by
        unfold Hid entityB
        simp [hse, h1, h2, hrs]
      go_enter Try.func20, Try.ntmps20
      go_wp2_with fail
      refine (impl_in_calls se 0 999999 _).mono ?_
      rintro e w9 ⟨rfl, hw9⟩
      subst hw9
      rw [hse]
      go_wp2_with fail
      refine (impl_in_calls st 1 4 _).mono ?_
      rintro e w9 ⟨rfl, hw9⟩
      subst hw9
      rw [h1]
      go_wp2_with fail
      refine (impl_promiseOk_calls w.heap.size ⟨2, sc, sl, st, va, qu, ak, pe, po, co, se⟩ n A2 A6 A7 c2 c6 c7 _ HK.out hn0 hn1 (of_decide_eq_true (show decide (1 ≤ st ∧ st ≤ 4) = true from h1)) hq).mono ?_
      rintro e w8 ⟨rfl, hb8⟩
      rw [h2]
      have HK8 := Lib.hid (HK.out.below hb8)
      have HB8 := Lib.hid (HB.out.trans (hb8.mono (by simp)))
      clear hb8
      obtain ⟨k8, f8⟩ := HK8.out.rules
      have l8 := HK8.out.lt
      go_wp2_with fail
      refine (impl_restC_calls w.heap.size ⟨2, sc, sl, st, va, qu, ak, pe, po, co, se⟩ A2 A6 A7 c2 c6 c7 _ HK8.out).mono ?_
      rintro e w9 ⟨rfl, hw9⟩
      subst hw9
      rw [hrs]
      go_wp2
      go_ret
      exact ⟨by rw [HE.out]; rfl, HB8.out⟩
    have HE : Hid (entityB ⟨2, sc, sl, st, va, qu, ak, pe, po, co, se⟩ n = true) := by
      unfold Hid entityB
      simp [hse, h1, h2, hrs]
    go_enter Try.func20, Try.ntmps20
    go_wp2_with fail
    refine (impl_in_calls se 0 999999 _).mono ?_
    rintro e w9 ⟨rfl, hw9⟩
    subst hw9
    rw [hse]
    go_wp2_with fail
    refine (impl_in_calls st 1 4 _).mono ?_
    rintro e w9 ⟨rfl, hw9⟩
    subst hw9
    rw [h1]
    go_wp2_with fail
    refine (impl_promiseOk_calls w.heap.size ⟨2, sc, sl, st, va, qu, ak, pe, po, co, se⟩ n A2 A6 A7 c2 c6 c7 _ HK.out hn0 hn1 (of_decide_eq_true (show decide (1 ≤ st ∧ st ≤ 4) = true from h1)) hq).mono ?_
    rintro e w8 ⟨rfl, hb8⟩
    rw [h2]
    have HK8 := Lib.hid (HK.out.below hb8)
    have HB8 := Lib.hid (HB.out.trans (hb8.mono (by simp)))
    clear hb8
    obtain ⟨k8, f8⟩ := HK8.out.rules
    have l8 := HK8.out.lt
    go_wp2_with fail
    refine (impl_restC_calls w.heap.size ⟨2, sc, sl, st, va, qu, ak, pe, po, co, se⟩ A2 A6 A7 c2 c6 c7 _ HK8.out).mono ?_
    rintro e w9 ⟨rfl, hw9⟩
    subst hw9
    rw [hrs]
    go_wp2
    go_ret
    exact ⟨by rw [HE.out]; rfl, HB8.out⟩
  have ek := And.intro e1 (And.intro e3 e2)
  have HE : Hid (entityB ⟨k, sc, sl, st, va, qu, ak, pe, po, co, se⟩ n = false) := by
    unfold Hid entityB
    simp [hse, ek]
  go_enter Try.func20, Try.ntmps20
  go_wp2_with fail
  refine (impl_in_calls se 0 999999 _).mono ?_
  rintro e w9 ⟨rfl, hw9⟩
  subst hw9
  rw [hse]
  go_wp2
  go_ret
  exact ⟨by rw [HE.out]; rfl, HB.out⟩

end Go.Proofs.Ytaalbbhebmpppaa
