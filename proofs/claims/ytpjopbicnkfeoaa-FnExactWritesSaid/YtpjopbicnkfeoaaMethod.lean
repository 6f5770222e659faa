import Derived.Test.YtpjopbicnkfeoaaProg
import Derived.Test.YtpjopbicnkfeoaaTypes
import Derived.StillTailTactics
import Derived.Deep.RegionHeld3
import Derived.Laws.IdiomStrings
import Derived.Test.YtpjopbicnkfeoaaAppend
import Derived.Laws.StructEq
import Derived.Lib.SliceRun
import Derived.Shelf.RegionOpenPlain
import Derived.Test.YtpjopbicnkfeoaaCommon
import Derived.Test.YtpjopbicnkfeoaaPureMethod
import Derived.Test.YtpjopbicnkfeoaaSlices
namespace Go.Proofs.Ytpjopbicnkfeoaa
open Go.RowKit
set_option linter.unusedVariables false
set_option linter.unusedSimpArgs false

set_option maxHeartbeats 400000 in
theorem spec_TargetOf_calls (y : GInstr) (w : World) :
    Calls Try.prog 32 #[.agg #[.int .i64 y.Op, .int .i64 y.A, .int .i64 y.B, .int .i64 y.C, .int .i64 y.D, .string y.Name]] w fun e w' => e = .returned (.int .i64 (targetOf y)) ∧ Below w.heap.size w w' := by
  rcases Bool.eq_false_or_eq_true (inR y.Op 1 7) with h | h
  rotate_left
  · have HE : Hid (targetOf y = -1) := by unfold Hid targetOf; rw [h]; simp
    have HH := Lib.hid h
    clear h
    go_enter Try.func32, Try.ntmps32
    go_wp2_with fail
    refine (spec_l1In_calls _ _ _ _).mono ?_
    rintro e w1 ⟨rfl, rfl⟩
    rw [HH.out]
    go_wp2
    go_ret
    exact ⟨by rw [HE.out]; rfl, (Below.refl _ _).alloc (Nat.le_refl _) _⟩
  · have HE : Hid (targetOf y = y.A) := by unfold Hid targetOf; rw [h]; simp
    have HH := Lib.hid h
    clear h
    go_enter Try.func32, Try.ntmps32
    go_wp2_with fail
    refine (spec_l1In_calls _ _ _ _).mono ?_
    rintro e w1 ⟨rfl, rfl⟩
    rw [HH.out]
    go_wp2
    go_ret
    exact ⟨by rw [HE.out]; rfl, (Below.refl _ _).alloc (Nat.le_refl _) _⟩
set_option maxHeartbeats 400000 in
theorem impl_TargetOf_calls (y : GInstr) (w : World) :
    Calls Try.prog 36 #[.agg #[.int .i64 y.Op, .int .i64 y.A, .int .i64 y.B, .int .i64 y.C, .int .i64 y.D, .string y.Name]] w fun e w' => e = .returned (.int .i64 (targetOf y)) ∧ Below w.heap.size w w' := by
  rcases Bool.eq_false_or_eq_true (inR y.Op 1 7) with h | h
  rotate_left
  · have HE : Hid (targetOf y = -1) := by unfold Hid targetOf; rw [h]; simp
    have HH := Lib.hid h
    clear h
    go_enter Try.func36, Try.ntmps36
    go_wp2_with fail
    refine (impl_in_calls _ _ _ _).mono ?_
    rintro e w1 ⟨rfl, rfl⟩
    rw [HH.out]
    go_wp2
    go_ret
    exact ⟨by rw [HE.out]; rfl, (Below.refl _ _).alloc (Nat.le_refl _) _⟩
  · have HE : Hid (targetOf y = y.A) := by unfold Hid targetOf; rw [h]; simp
    have HH := Lib.hid h
    clear h
    go_enter Try.func36, Try.ntmps36
    go_wp2_with fail
    refine (impl_in_calls _ _ _ _).mono ?_
    rintro e w1 ⟨rfl, rfl⟩
    rw [HH.out]
    go_wp2
    go_ret
    exact ⟨by rw [HE.out]; rfl, (Below.refl _ _).alloc (Nat.le_refl _) _⟩
set_option maxHeartbeats 1600000 in
theorem spec_Writes_calls (us : List Value) (x : GMethod) (a : Int) (w : World) (hr : RdLW w (eMethod x) us) (hz : sizL (eMethod x) ≤ 1048576) (hi : I64 a) :
    Calls Try.prog 9 #[.agg us.toArray, .int .i64 a] w fun e w' => e = .returned (.bool (writes x a)) ∧ Below w.heap.size w w' := by
  obtain ⟨v1, rfl, h1⟩ := rd_eMethod hr
  obtain ⟨A, c, rfl, ⟨_, _, hl⟩⟩ := h1.slice
  have HR := Lib.hid h1
  clear hr h1
  have HB0 := Lib.hid ((Below.refl w.heap.size w).alloc (Nat.le_refl _) (.cells #[.string x.Name, .slice A x.Code.length c] 29))
  go_enter Try.func9, Try.ntmps9
  go_wp2
  go_loopw [5] (fun t wr => ∃ i : Nat, i ≤ x.Code.length ∧ t = .int .i64 i ∧ Hid (Below w.heap.size w wr) ∧ Hid (Blk wr w.heap.size 29 #[.string x.Name, .slice A x.Code.length c]) ∧ Hid (∀ j y, j < i → x.Code[j]? = some y → (targetOf y == a && decide (0 ≤ a)) = false)) (fun t wr => x.Code.length - (intOf t).toNat)
  case atStart => exact ⟨0, by omega, rfl, HB0, Blk.new _ _ _, no_start⟩
  case round =>
    obtain ⟨i, hi, rfl, HB, HK, hno⟩ := hrel
    obtain ⟨kb, kf⟩ := HK.out.rules
    have hbl := HK.out.lt
    by_cases hlt : i < x.Code.length
    · obtain ⟨y, hy⟩ : ∃ y, x.Code[i]? = some y := ⟨x.Code[i], List.getElem?_eq_getElem hlt⟩
      obtain ⟨ad, rfl, hab, k0, k1, k2, k3, k4, k5⟩ := row_eInstr (HR.out.below HB.out) hy
      have HX := Lib.hid hy
      clear hy
      go_wp2_with fail
      refine (spec_TargetOf_calls y _).mono ?_
      rintro e w1 ⟨rfl, hb1⟩
      have HB1 := Lib.hid (HB.out.trans (hb1.mono HB.out.size))
      have HK1 := Lib.hid (HK.out.below hb1)
      clear hb1
      obtain ⟨q, hq⟩ : ∃ q, q = targetOf y := ⟨_, rfl⟩
      have HQ := Lib.hid hq
      rw [← hq]
      clear hq
      by_cases e1 : ¬ q = a
      · have e1b : (q == a) = false := by simpa using e1
        have HN := Lib.hid (step_no (p := fun y : GInstr => (targetOf y == a && decide (0 ≤ a)) = false) hno.out HX.out (by rw [← HQ.out, e1b]; rfl))
        go_wp2
        go_roundw
        case rel => exact ⟨i + 1, by omega, by go_num, HB1, HK1, HN⟩
        case measure => simp [intOf]; omega
      replace e1 := Classical.not_not.1 e1
      subst e1
      by_cases e2 : 0 ≤ q
      · have HE := Lib.hid (any_hit (p := fun x => targetOf x == q && decide (0 ≤ q)) HX.out (by rw [← HQ.out]; simp [e2]))
        go_wp2
        go_ret
        exact ⟨by rw [writes, HE.out]; rfl, HB1.out⟩
      · have HN := Lib.hid (step_no (p := fun y : GInstr => (targetOf y == q && decide (0 ≤ q)) = false) hno.out HX.out (by simp [e2]))
        go_wp2
        go_roundw
        case rel => exact ⟨i + 1, by omega, by go_num, HB1, HK1, HN⟩
        case measure => simp [intOf]; omega
    · have : i = x.Code.length := by omega
      subst this
      have HE := Lib.hid (any_miss (all_of (p := fun y : GInstr => (targetOf y == a && decide (0 ≤ a)) = false) hno.out))
      go_wp2
      go_ret
      exact ⟨by rw [writes, HE.out]; rfl, HB.out⟩
set_option maxHeartbeats 1600000 in
theorem impl_Writes1_calls (B : Nat) (y : GInstr) (us : List Value) (a : Int) (W : World) (hb : Blk W B 3 #[.int .i64 a]) (hr : RdLW W (eInstr y) us) :
    Calls Try.prog 35 #[.agg us.toArray, .pointer (some ⟨B, 0, none⟩)] W fun e w' => e = .returned (.bool (targetOf y == a)) ∧ Below W.heap.size W w' := by
  obtain rfl := rd_eInstr hr
  clear hr
  go_enter Try.func35, Try.ntmps35
  go_wp2
  obtain ⟨ws, hws⟩ : ∃ ws, ws = W.alloc (.cells #[.int .i64 y.Op, .int .i64 y.A, .int .i64 y.B, .int .i64 y.C, .int .i64 y.D, .string y.Name] 60) := ⟨_, rfl⟩
  rw [← hws]
  have HK : Hid (Blk ws W.heap.size 60 #[.int .i64 y.Op, .int .i64 y.A, .int .i64 y.B, .int .i64 y.C, .int .i64 y.D, .string y.Name]) := by unfold Hid; rw [hws]; exact Blk.new _ _ _
  have HKB : Hid (Blk ws B 3 #[.int .i64 a]) := by unfold Hid; rw [hws]; exact hb.alloc _
  have HB : Hid (Below W.heap.size W ws) := by unfold Hid; rw [hws]; exact (Below.refl _ _).alloc (Nat.le_refl _) _
  clear hws hb
  obtain ⟨ka, fa⟩ := HK.out.rules
  obtain ⟨kb, fb⟩ := HKB.out.rules
  have hla := HK.out.lt
  have hlb := HKB.out.lt
  go_region_held3 (fun wq => wq.cell? ⟨W.heap.size, 0, none⟩ = some (.int .i64 y.Op) ∧ wq.cell? ⟨W.heap.size, 1, none⟩ = some (.int .i64 y.A) ∧ wq.cell? ⟨W.heap.size, 2, none⟩ = some (.int .i64 y.B) ∧ wq.cell? ⟨W.heap.size, 3, none⟩ = some (.int .i64 y.C) ∧ wq.cell? ⟨W.heap.size, 4, none⟩ = some (.int .i64 y.D) ∧ wq.cell? ⟨W.heap.size, 5, none⟩ = some (.string y.Name) ∧ wq.cell? ⟨B, 0, none⟩ = some (.int .i64 a))
    (first | exact ⟨kc 0, kc 1, kc 2, kc 3, kc 4, kc 5, kd 0⟩ | exact ⟨ka 0, ka 1, ka 2, ka 3, ka 4, ka 5, kb 0⟩)
    ((go_at_call 36; refine (impl_TargetOf_calls y _).mono ?_; rintro e w1 ⟨rfl, hbq1⟩; obtain ⟨kc, fc⟩ := (HK.out.drew.below hbq1).rules; obtain ⟨kd, fd⟩ := (HKB.out.drew.below hbq1).rules))
  have HB1 := Lib.hid (HB.out.trans (((Below.refl _ _).drew.trans hbq1).mono HB.out.size))
  clear hbq1 kc fc kd fd
  go_wp2
  go_ret
  exact ⟨rfl, HB1.out⟩
set_option maxHeartbeats 800000 in
theorem impl_Writes_calls (us : List Value) (x : GMethod) (a : Int) (w : World) (hr : RdLW w (eMethod x) us) (hz : sizL (eMethod x) ≤ 1048576) (hi : I64 a) :
    Calls Try.prog 11 #[.agg us.toArray, .int .i64 a] w fun e w' => e = .returned (.bool (writes x a)) ∧ Below w.heap.size w w' := by
  obtain ⟨v1, rfl, h1⟩ := rd_eMethod hr
  obtain ⟨A, c, rfl, ⟨_, _, hl⟩⟩ := h1.slice
  have HR := Lib.hid h1
  clear hr h1
  by_cases hneg : ¬ 0 ≤ a
  · have HE : Hid (writes x a = false) := by unfold Hid writes; exact any_miss (fun y _ => by simp [hneg])
    go_enter Try.func11, Try.ntmps11
    go_wp2
    go_ret
    exact ⟨by rw [HE.out]; rfl, ((Below.refl _ _).alloc (Nat.le_refl _) _).alloc (by simp) _⟩
  replace hneg := Classical.not_not.1 hneg
  have HE : Hid (writes x a = x.Code.any fun y => targetOf y == a) := by unfold Hid writes; simp [hneg]
  have HC := Lib.hid (slices_ContainsFunc_Instr (fun y : GInstr => targetOf y == a) 35 #[.pointer (some ⟨w.heap.size + 1, 0, none⟩)] (enters_of Try.func35 (by kernel_rfl) rfl) _ x.Code ((w.alloc (.cells #[.string x.Name, .slice A x.Code.length c] 29)).alloc (.cells #[.int .i64 a] 3)) ((HR.out.alloc _).alloc _)
    (fun W y us hW hy hus => impl_Writes1_calls (w.heap.size + 1) y us a W ((Blk.made (by simp)).below hW) hus))
  go_enter Try.func11, Try.ntmps11
  go_wp2_with fail
  refine HC.out.mono ?_
  rintro e w1 ⟨rfl, hb1⟩
  go_wp2
  go_ret
  exact ⟨by rw [HE.out]; rfl, (((Below.refl _ _).alloc (Nat.le_refl _) _).alloc (by simp) _).trans (hb1.mono (by simp only [size_alloc]; omega))⟩

end Go.Proofs.Ytpjopbicnkfeoaa
