import Derived.Test.YtkgnkekbcblnlaaProg
import Derived.Test.YtkgnkekbcblnlaaTypes
import Derived.StillTailTactics
import Derived.Deep.RegionHeld3
import Derived.Laws.IdiomStrings
import Derived.Test.YtkgnkekbcblnlaaAppend
import Derived.Laws.StructEq
import Derived.Lib.SliceRun
import Derived.Shelf.RegionOpenPlain
import Derived.Test.YtkgnkekbcblnlaaHelp
import Derived.Test.YtkgnkekbcblnlaaPureMessage
import Derived.Test.YtkgnkekbcblnlaaSlices
import Derived.Test.YtkgnkekbcblnlaaCommon
namespace Go.Proofs.Ytkgnkekbcblnlaa
open Go.RowKit
set_option linter.unusedVariables false
set_option linter.unusedSimpArgs false

set_option maxHeartbeats 3200000 in
set_option maxRecDepth 100000 in
theorem impl_equalMessage_calls (us : List Value) (x : GMessage) (us' : List Value) (y : GMessage) (w : World) (hr : RdLW w (eMessage x) us) (hr' : RdLW w (eMessage y) us') :
    Calls Try.prog 47 #[.agg us.toArray, .agg us'.toArray] w fun e w' => e = .returned (.bool (sameMessage x y)) ∧ Below w.heap.size w w' := by
  obtain ⟨f0, f1, f2, f3, f4, f5, f6, f7, f8⟩ := x
  obtain ⟨f0', f1', f2', f3', f4', f5', f6', f7', f8'⟩ := y
  obtain ⟨v5, rfl, h5⟩ := rd_eMessage hr
  obtain ⟨A5, c5, rfl, ⟨_, _, hl5⟩⟩ := h5.slice
  obtain ⟨v5', rfl, h5'⟩ := rd_eMessage hr'
  obtain ⟨A5', c5', rfl, ⟨_, _, hl5'⟩⟩ := h5'.slice
  dsimp only at h5 h5' hl5 hl5' ⊢
  have HR5 := Lib.hid h5
  have HS5 := Lib.hid h5'
  clear hr hr' h5 h5'
  have HB := Lib.hid (((Below.refl w.heap.size w).alloc (Nat.le_refl _) (.cells #[.int .i64 f0, .int .i64 f1, .int .i64 f2, .int .i64 f3, .string f4, .slice A5 f5.length c5, .int .i64 f6.Kind, .int .i64 f6.N, .int .i64 f7, .int .i64 f8.Vat, .int .i64 f8.Entity, .int .i64 f8.Seq] 38)).alloc (by simp) (.cells #[.int .i64 f0', .int .i64 f1', .int .i64 f2', .int .i64 f3', .string f4', .slice A5' f5'.length c5', .int .i64 f6'.Kind, .int .i64 f6'.N, .int .i64 f7', .int .i64 f8'.Vat, .int .i64 f8'.Entity, .int .i64 f8'.Seq] 38))
  have heq := run_eql_Tag
  have hew := run_eql_Wire
  by_cases q0 : ¬ f0 = f0'
  · have HE : Hid (sameMessage ⟨f0, f1, f2, f3, f4, f5, f6, f7, f8⟩ ⟨f0', f1', f2', f3', f4', f5', f6', f7', f8'⟩ = false) := by unfold Hid; simp [sameMessage, q0]
    go_enter Try.func47, Try.ntmps47
    go_wp2
    go_ret
    exact ⟨by rw [HE.out]; first | rfl | exact congrArg (fun b => Ending.returned (Value.bool b)) (by simpa using q0 : (f0 == f0') = false), HB.out⟩
  replace q0 := Classical.not_not.1 q0
  subst q0
  by_cases q1 : ¬ f1 = f1'
  · have HE : Hid (sameMessage ⟨f0, f1, f2, f3, f4, f5, f6, f7, f8⟩ ⟨f0, f1', f2', f3', f4', f5', f6', f7', f8'⟩ = false) := by unfold Hid; simp [sameMessage, q1]
    go_enter Try.func47, Try.ntmps47
    go_wp2
    go_ret
    exact ⟨by rw [HE.out]; first | rfl | exact congrArg (fun b => Ending.returned (Value.bool b)) (by simpa using q1 : (f1 == f1') = false), HB.out⟩
  replace q1 := Classical.not_not.1 q1
  subst q1
  by_cases q2 : ¬ f2 = f2'
  · have HE : Hid (sameMessage ⟨f0, f1, f2, f3, f4, f5, f6, f7, f8⟩ ⟨f0, f1, f2', f3', f4', f5', f6', f7', f8'⟩ = false) := by unfold Hid; simp [sameMessage, q2]
    go_enter Try.func47, Try.ntmps47
    go_wp2
    go_ret
    exact ⟨by rw [HE.out]; first | rfl | exact congrArg (fun b => Ending.returned (Value.bool b)) (by simpa using q2 : (f2 == f2') = false), HB.out⟩
  replace q2 := Classical.not_not.1 q2
  subst q2
  by_cases q3 : ¬ f3 = f3'
  · have HE : Hid (sameMessage ⟨f0, f1, f2, f3, f4, f5, f6, f7, f8⟩ ⟨f0, f1, f2, f3', f4', f5', f6', f7', f8'⟩ = false) := by unfold Hid; simp [sameMessage, q3]
    go_enter Try.func47, Try.ntmps47
    go_wp2
    go_ret
    exact ⟨by rw [HE.out]; first | rfl | exact congrArg (fun b => Ending.returned (Value.bool b)) (by simpa using q3 : (f3 == f3') = false), HB.out⟩
  replace q3 := Classical.not_not.1 q3
  subst q3
  by_cases q4 : ¬ f4.toList = f4'.toList
  · have HE : Hid (sameMessage ⟨f0, f1, f2, f3, f4, f5, f6, f7, f8⟩ ⟨f0, f1, f2, f3, f4', f5', f6', f7', f8'⟩ = false) := by unfold Hid; simp [sameMessage, q4]
    go_enter Try.func47, Try.ntmps47
    go_wp2
    go_ret
    exact ⟨by rw [HE.out]; first | rfl | exact congrArg (fun b => Ending.returned (Value.bool b)) (by simpa using q4 : (f4.toList == f4'.toList) = false), HB.out⟩
  replace q4 := bytes_inj (Classical.not_not.1 q4)
  subst q4
  go_enter Try.func47, Try.ntmps47
  go_wp2_with fail
  refine (slices_Equal_Wire_calls _ _ f5 f5' _ (HR5.out.below HB.out) (HS5.out.below HB.out)).mono ?_
  rintro e w1 ⟨rfl, hb1⟩
  have HW1 := Lib.hid (HB.out.trans (hb1.mono (by first | exact HB.out.size | (simp only [size_alloc]; omega))))
  have K1_1 : Hid (Blk w1 w.heap.size 38 #[.int .i64 f0, .int .i64 f1, .int .i64 f2, .int .i64 f3, .string f4, .slice A5 f5.length c5, .int .i64 f6.Kind, .int .i64 f6.N, .int .i64 f7, .int .i64 f8.Vat, .int .i64 f8.Entity, .int .i64 f8.Seq]) := Lib.hid (((Blk.new w 38 _).alloc _).below hb1)
  have K2_1 : Hid (Blk w1 (w.heap.size + 1) 38 #[.int .i64 f0, .int .i64 f1, .int .i64 f2, .int .i64 f3, .string f4, .slice A5' f5'.length c5', .int .i64 f6'.Kind, .int .i64 f6'.N, .int .i64 f7', .int .i64 f8'.Vat, .int .i64 f8'.Entity, .int .i64 f8'.Seq]) := Lib.hid ((Blk.made (by simp)).below hb1)
  obtain ⟨k1_1, g1_1⟩ := K1_1.out.rules
  obtain ⟨k2_1, g2_1⟩ := K2_1.out.rules
  clear hb1
  rcases Bool.eq_false_or_eq_true (sameL eqbWire f5 f5') with s1 | s1
  rotate_left
  · have HE : Hid (sameMessage ⟨f0, f1, f2, f3, f4, f5, f6, f7, f8⟩ ⟨f0, f1, f2, f3, f4, f5', f6', f7', f8'⟩ = false) := by unfold Hid; simp [sameMessage, s1]
    rw [s1]
    go_wp2
    go_ret
    exact ⟨by rw [HE.out]; rfl, HW1.out⟩
  rw [s1]
  have S1 := Lib.hid s1
  clear s1
  rcases Bool.eq_false_or_eq_true (eqbWire f6 f6') with q6 | q6
  rotate_left
  · have HE : Hid (sameMessage ⟨f0, f1, f2, f3, f4, f5, f6, f7, f8⟩ ⟨f0, f1, f2, f3, f4, f5', f6', f7', f8'⟩ = false) := by unfold Hid; simp [sameMessage, q6, S1.out]
    go_wp2
    go_ret
    exact ⟨by rw [HE.out]; rfl, HW1.out⟩
  replace q6 := (eqbWire_iff _ _).1 q6
  subst q6
  have r6 := eqbWire_refl f6
  by_cases q7 : ¬ f7 = f7'
  · have HE : Hid (sameMessage ⟨f0, f1, f2, f3, f4, f5, f6, f7, f8⟩ ⟨f0, f1, f2, f3, f4, f5', f6, f7', f8'⟩ = false) := by unfold Hid; simp [sameMessage, q7, S1.out, eqbWire_refl]
    go_wp2
    go_ret
    exact ⟨by rw [HE.out]; first | rfl | exact congrArg (fun b => Ending.returned (Value.bool b)) (by simpa using q7 : (f7 == f7') = false), HW1.out⟩
  replace q7 := Classical.not_not.1 q7
  subst q7
  rcases Bool.eq_false_or_eq_true (eqbTag f8 f8') with q8 | q8
  rotate_left
  · have HE : Hid (sameMessage ⟨f0, f1, f2, f3, f4, f5, f6, f7, f8⟩ ⟨f0, f1, f2, f3, f4, f5', f6, f7, f8'⟩ = false) := by unfold Hid; simp [sameMessage, q8, S1.out, eqbWire_refl]
    go_wp2
    go_ret
    exact ⟨by rw [HE.out]; rfl, HW1.out⟩
  replace q8 := (eqbTag_iff _ _).1 q8
  subst q8
  have r8 := eqbTag_refl f8
  have HE : Hid (sameMessage ⟨f0, f1, f2, f3, f4, f5, f6, f7, f8⟩ ⟨f0, f1, f2, f3, f4, f5', f6, f7, f8⟩ = true) := by unfold Hid; simp [sameMessage, S1.out, eqbWire_refl, eqbTag_refl]
  go_wp2
  go_ret
  exact ⟨by rw [HE.out]; rfl, HW1.out⟩

set_option maxHeartbeats 3200000 in
set_option maxRecDepth 100000 in
theorem spec_EqualMessages_calls (us : List Value) (x : GMessage) (us' : List Value) (y : GMessage) (w : World) (hr : RdLW w (eMessage x) us) (hr' : RdLW w (eMessage y) us') (hz : sizL (eMessage x) ≤ 1048576) (hz' : sizL (eMessage y) ≤ 1048576) :
    Calls Try.prog 15 #[.agg us.toArray, .agg us'.toArray] w fun e w' => e = .returned (.bool (sameMessage x y)) ∧ Below w.heap.size w w' := by
  obtain ⟨f0, f1, f2, f3, f4, f5, f6, f7, f8⟩ := x
  obtain ⟨f0', f1', f2', f3', f4', f5', f6', f7', f8'⟩ := y
  obtain ⟨v5, rfl, h5⟩ := rd_eMessage hr
  obtain ⟨A5, c5, rfl, ⟨_, _, hl5⟩⟩ := h5.slice
  obtain ⟨v5', rfl, h5'⟩ := rd_eMessage hr'
  obtain ⟨A5', c5', rfl, ⟨_, _, hl5'⟩⟩ := h5'.slice
  have hzq := hz
  have hzq' := hz'
  rw [siz_eMessage] at hzq hzq'
  dsimp only at h5 h5' hl5 hl5' hzq hzq' ⊢
  have HR5 := Lib.hid h5
  have HS5 := Lib.hid h5'
  clear hr hr' h5 h5' hz hz'
  have HB := Lib.hid (((Below.refl w.heap.size w).alloc (Nat.le_refl _) (.cells #[.int .i64 f0, .int .i64 f1, .int .i64 f2, .int .i64 f3, .string f4, .slice A5 f5.length c5, .int .i64 f6.Kind, .int .i64 f6.N, .int .i64 f7, .int .i64 f8.Vat, .int .i64 f8.Entity, .int .i64 f8.Seq] 38)).alloc (by simp) (.cells #[.int .i64 f0', .int .i64 f1', .int .i64 f2', .int .i64 f3', .string f4', .slice A5' f5'.length c5', .int .i64 f6'.Kind, .int .i64 f6'.N, .int .i64 f7', .int .i64 f8'.Vat, .int .i64 f8'.Entity, .int .i64 f8'.Seq] 38))
  have hnt := run_neq_Tag
  have hnw := run_neq_Wire
  by_cases q0 : ¬ f0 = f0'
  · have HE : Hid (sameMessage ⟨f0, f1, f2, f3, f4, f5, f6, f7, f8⟩ ⟨f0', f1', f2', f3', f4', f5', f6', f7', f8'⟩ = false) := by unfold Hid; simp [sameMessage, q0]
    go_enter Try.func15, Try.ntmps15
    go_wp2
    go_ret
    exact ⟨by rw [HE.out]; first | rfl | exact congrArg (fun b => Ending.returned (Value.bool b)) (by simpa using q0 : (f0 == f0') = false), HB.out⟩
  replace q0 := Classical.not_not.1 q0
  subst q0
  by_cases q1 : ¬ f1 = f1'
  · have HE : Hid (sameMessage ⟨f0, f1, f2, f3, f4, f5, f6, f7, f8⟩ ⟨f0, f1', f2', f3', f4', f5', f6', f7', f8'⟩ = false) := by unfold Hid; simp [sameMessage, q1]
    go_enter Try.func15, Try.ntmps15
    go_wp2
    go_ret
    exact ⟨by rw [HE.out]; first | rfl | exact congrArg (fun b => Ending.returned (Value.bool b)) (by simpa using q1 : (f1 == f1') = false), HB.out⟩
  replace q1 := Classical.not_not.1 q1
  subst q1
  by_cases q2 : ¬ f2 = f2'
  · have HE : Hid (sameMessage ⟨f0, f1, f2, f3, f4, f5, f6, f7, f8⟩ ⟨f0, f1, f2', f3', f4', f5', f6', f7', f8'⟩ = false) := by unfold Hid; simp [sameMessage, q2]
    go_enter Try.func15, Try.ntmps15
    go_wp2
    go_ret
    exact ⟨by rw [HE.out]; first | rfl | exact congrArg (fun b => Ending.returned (Value.bool b)) (by simpa using q2 : (f2 == f2') = false), HB.out⟩
  replace q2 := Classical.not_not.1 q2
  subst q2
  by_cases q3 : ¬ f3 = f3'
  · have HE : Hid (sameMessage ⟨f0, f1, f2, f3, f4, f5, f6, f7, f8⟩ ⟨f0, f1, f2, f3', f4', f5', f6', f7', f8'⟩ = false) := by unfold Hid; simp [sameMessage, q3]
    go_enter Try.func15, Try.ntmps15
    go_wp2
    go_ret
    exact ⟨by rw [HE.out]; first | rfl | exact congrArg (fun b => Ending.returned (Value.bool b)) (by simpa using q3 : (f3 == f3') = false), HB.out⟩
  replace q3 := Classical.not_not.1 q3
  subst q3
  by_cases q4 : ¬ f4.toList = f4'.toList
  · have HE : Hid (sameMessage ⟨f0, f1, f2, f3, f4, f5, f6, f7, f8⟩ ⟨f0, f1, f2, f3, f4', f5', f6', f7', f8'⟩ = false) := by unfold Hid; simp [sameMessage, q4]
    go_enter Try.func15, Try.ntmps15
    go_wp2
    go_ret
    exact ⟨by rw [HE.out]; first | rfl | exact congrArg (fun b => Ending.returned (Value.bool b)) (by simpa using q4 : (f4.toList == f4'.toList) = false), HB.out⟩
  replace q4 := bytes_inj (Classical.not_not.1 q4)
  subst q4
  rcases Bool.eq_false_or_eq_true (eqbWire f6 f6') with q6 | q6
  rotate_left
  · have HE : Hid (sameMessage ⟨f0, f1, f2, f3, f4, f5, f6, f7, f8⟩ ⟨f0, f1, f2, f3, f4, f5', f6', f7', f8'⟩ = false) := by unfold Hid; simp [sameMessage, q6]
    go_enter Try.func15, Try.ntmps15
    go_wp2
    go_ret
    exact ⟨by rw [HE.out]; rfl, HB.out⟩
  replace q6 := (eqbWire_iff _ _).1 q6
  subst q6
  have r6 := eqbWire_refl f6
  by_cases q7 : ¬ f7 = f7'
  · have HE : Hid (sameMessage ⟨f0, f1, f2, f3, f4, f5, f6, f7, f8⟩ ⟨f0, f1, f2, f3, f4, f5', f6, f7', f8'⟩ = false) := by unfold Hid; simp [sameMessage, q7, eqbWire_refl]
    go_enter Try.func15, Try.ntmps15
    go_wp2
    go_ret
    exact ⟨by rw [HE.out]; first | rfl | exact congrArg (fun b => Ending.returned (Value.bool b)) (by simpa using q7 : (f7 == f7') = false), HB.out⟩
  replace q7 := Classical.not_not.1 q7
  subst q7
  rcases Bool.eq_false_or_eq_true (eqbTag f8 f8') with q8 | q8
  rotate_left
  · have HE : Hid (sameMessage ⟨f0, f1, f2, f3, f4, f5, f6, f7, f8⟩ ⟨f0, f1, f2, f3, f4, f5', f6, f7, f8'⟩ = false) := by unfold Hid; simp [sameMessage, q8, eqbWire_refl]
    go_enter Try.func15, Try.ntmps15
    go_wp2
    go_ret
    exact ⟨by rw [HE.out]; rfl, HB.out⟩
  replace q8 := (eqbTag_iff _ _).1 q8
  subst q8
  have r8 := eqbTag_refl f8
  by_cases q5 : ¬ f5.length = f5'.length
  · have HE : Hid (sameMessage ⟨f0, f1, f2, f3, f4, f5, f6, f7, f8⟩ ⟨f0, f1, f2, f3, f4, f5', f6, f7, f8⟩ = false) := by unfold Hid; simp [sameMessage, sameL_len q5, eqbWire_refl, eqbTag_refl]
    have hlb : ((f5.length : Int) != (f5'.length : Int)) = true := by simp; omega
    go_enter Try.func15, Try.ntmps15
    go_wp2
    go_ret
    exact ⟨by rw [HE.out]; rfl, HB.out⟩
  have HLN := Lib.hid (Classical.not_not.1 q5)
  have hlb : ((f5.length : Int) != (f5'.length : Int)) = false := by have := HLN.out; simp; omega
  clear q5
  have HS : Hid (sameMessage ⟨f0, f1, f2, f3, f4, f5, f6, f7, f8⟩ ⟨f0, f1, f2, f3, f4, f5', f6, f7, f8⟩ = (sameL eqbWire f5 f5')) := by unfold Hid; simp [sameMessage, eqbWire_refl, eqbTag_refl]
  have hneq := run_neq_Wire
  go_enter Try.func15, Try.ntmps15
  go_wp2
  clear hlb
  go_loopw [5] (fun b wr => ∃ i : Nat, i ≤ f5.length ∧ b = .int .i64 i ∧ Hid (Below w.heap.size w wr) ∧ Hid (Blk wr w.heap.size 38 #[.int .i64 f0, .int .i64 f1, .int .i64 f2, .int .i64 f3, .string f4, .slice A5 f5.length c5, .int .i64 f6.Kind, .int .i64 f6.N, .int .i64 f7, .int .i64 f8.Vat, .int .i64 f8.Entity, .int .i64 f8.Seq]) ∧ Hid (Blk wr (w.heap.size + 1) 38 #[.int .i64 f0, .int .i64 f1, .int .i64 f2, .int .i64 f3, .string f4, .slice A5' f5'.length c5', .int .i64 f6.Kind, .int .i64 f6.N, .int .i64 f7, .int .i64 f8.Vat, .int .i64 f8.Entity, .int .i64 f8.Seq]) ∧ Hid (∀ (j : Nat) a b, j < i → f5[j]? = some a → f5'[j]? = some b → eqbWire a b = true)) (fun b wr => f5.length - (intOf b).toNat)
  case atStart => exact ⟨0, by omega, rfl, HB, (Blk.new _ _ _).alloc _, Blk.made (by simp), fun j a b h => absurd h (Nat.not_lt_zero _)⟩
  case round =>
    obtain ⟨i, hi, rfl, HW, K1, K2, hno⟩ := hrel
    obtain ⟨k1, g1⟩ := K1.out.rules
    obtain ⟨k2, g2⟩ := K2.out.rules
    by_cases hlt : i < f5.length
    · obtain ⟨p1, hp⟩ : ∃ p, f5[i]? = some p := ⟨f5[i], List.getElem?_eq_getElem hlt⟩
      obtain ⟨q1, hq⟩ : ∃ q, f5'[i]? = some q := ⟨f5'[i]'(by have := HLN.out; omega), List.getElem?_eq_getElem _⟩
      obtain ⟨ad, rfl, _, h0, h1⟩ := row_eWire (HR5.out.below HW.out) hp
      obtain ⟨ad', rfl, _, h0', h1'⟩ := row_eWire (HS5.out.below HW.out) hq
      have HX := Lib.hid hp
      have HY := Lib.hid hq
      clear hp hq
      have hli : i < f5'.length := by have := HLN.out; omega
      cases he : eqbWire p1 q1 with
      | false =>
        have HE := Lib.hid (sameL_at (eq := eqbWire) HX.out HY.out he)
        go_wp2
        go_quiet (fail)
        go_wp2
        go_ret
        exact ⟨by rw [HS.out, HE.out]; rfl, belowN HW.out _⟩
      | true =>
        have HN := Lib.hid (step_eq (eq := eqbWire) hno.out HX.out HY.out he)
        go_wp2
        go_quiet (fail)
        go_wp2
        go_roundw
        case rel => exact ⟨i + 1, by omega, by go_num, belowN HW.out _, K1, K2, HN⟩
        case measure => simp [intOf]; omega
    · have HL := Lib.hid (sameL_all (eq := eqbWire) HLN.out (fun i a b ha hb => hno.out i a b (by have := (List.getElem?_eq_some_iff.1 ha).1; omega) ha hb))
      have HE : Hid (sameMessage ⟨f0, f1, f2, f3, f4, f5, f6, f7, f8⟩ ⟨f0, f1, f2, f3, f4, f5', f6, f7, f8⟩ = true) := by unfold Hid; simp [sameMessage, eqbWire_refl, eqbTag_refl, HL.out]
      go_wp2
      go_ret
      exact ⟨by rw [HE.out]; rfl, HW.out⟩

end Go.Proofs.Ytkgnkekbcblnlaa
