import Derived.Test.YtapbejepffpckaaProg
import Derived.Test.YtapbejepffpckaaTypes
import Derived.StillTailTactics
import Derived.Deep.RegionHeld3
import Derived.Laws.IdiomStrings
import Derived.Test.YtapbejepffpckaaAppend
import Derived.Laws.StructEq
import Derived.Lib.SliceRun
import Derived.Shelf.RegionOpenPlain
import Derived.Test.YtapbejepffpckaaSlicesE
import Derived.Test.YtapbejepffpckaaSlicesF
import Derived.Test.YtapbejepffpckaaPureEq
namespace Go.Proofs.Ytapbejepffpckaa
open Go.RowKit
set_option linter.unusedVariables false
set_option linter.unusedSimpArgs false

set_option maxHeartbeats 3200000 in
set_option maxRecDepth 100000 in
theorem impl_equalMessage_calls (us : List Value) (x : GMessage) (us' : List Value) (y : GMessage) (w : World) (hr : RdLW w (eMessage x) us) (hr' : RdLW w (eMessage y) us') :
    Calls Try.prog 81 #[.agg us.toArray, .agg us'.toArray] w fun e w' => e = .returned (.bool (sameMessage x y)) ∧ Below w.heap.size w w' := by
  obtain ⟨f0, f1, f2, f3, f4, f5, f6, f7, f8⟩ := x
  obtain ⟨f0', f1', f2', f3', f4', f5', f6', f7', f8'⟩ := y
  obtain ⟨v5, rfl, h5⟩ := rd_eMessage hr
  obtain ⟨A5, c5, rfl, ⟨_, _, hl5⟩⟩ := h5.slice
  obtain ⟨v5', rfl, h5'⟩ := rd_eMessage hr'
  obtain ⟨A5', c5', rfl, ⟨_, _, hl5'⟩⟩ := h5'.slice
  dsimp only at h5 h5' hl5 hl5' ⊢
  have HR5 := Lib.hid h5
  have HS5 := Lib.hid h5'
  clear hr hr' h5 h5'
  have HB := Lib.hid (((Below.refl w.heap.size w).alloc (Nat.le_refl _) (.cells #[.int .i64 f0, .int .i64 f1, .int .i64 f2, .int .i64 f3, .string f4, .slice A5 f5.length c5, .int .i64 f6.Kind, .int .i64 f6.N, .int .i64 f7, .int .i64 f8.Vat, .int .i64 f8.Entity, .int .i64 f8.Seq] 95)).alloc (by simp) (.cells #[.int .i64 f0', .int .i64 f1', .int .i64 f2', .int .i64 f3', .string f4', .slice A5' f5'.length c5', .int .i64 f6'.Kind, .int .i64 f6'.N, .int .i64 f7', .int .i64 f8'.Vat, .int .i64 f8'.Entity, .int .i64 f8'.Seq] 95))
  have heq := run_eql_Tag
  have hew := run_eql_Wire
  by_cases q0 : ¬ f0 = f0'
  · have HE : Hid (sameMessage ⟨f0, f1, f2, f3, f4, f5, f6, f7, f8⟩ ⟨f0', f1', f2', f3', f4', f5', f6', f7', f8'⟩ = false) := by unfold Hid; simp [sameMessage, q0]
    go_enter Try.func81, Try.ntmps81
    go_wp2
    go_ret
    exact ⟨by rw [HE.out]; first | rfl | exact congrArg (fun b => Ending.returned (Value.bool b)) (by simpa using q0 : (f0 == f0') = false), HB.out⟩
  replace q0 := Classical.not_not.1 q0
  subst q0
  by_cases q1 : ¬ f1 = f1'
  · have HE : Hid (sameMessage ⟨f0, f1, f2, f3, f4, f5, f6, f7, f8⟩ ⟨f0, f1', f2', f3', f4', f5', f6', f7', f8'⟩ = false) := by unfold Hid; simp [sameMessage, q1]
    go_enter Try.func81, Try.ntmps81
    go_wp2
    go_ret
    exact ⟨by rw [HE.out]; first | rfl | exact congrArg (fun b => Ending.returned (Value.bool b)) (by simpa using q1 : (f1 == f1') = false), HB.out⟩
  replace q1 := Classical.not_not.1 q1
  subst q1
  by_cases q2 : ¬ f2 = f2'
  · have HE : Hid (sameMessage ⟨f0, f1, f2, f3, f4, f5, f6, f7, f8⟩ ⟨f0, f1, f2', f3', f4', f5', f6', f7', f8'⟩ = false) := by unfold Hid; simp [sameMessage, q2]
    go_enter Try.func81, Try.ntmps81
    go_wp2
    go_ret
    exact ⟨by rw [HE.out]; first | rfl | exact congrArg (fun b => Ending.returned (Value.bool b)) (by simpa using q2 : (f2 == f2') = false), HB.out⟩
  replace q2 := Classical.not_not.1 q2
  subst q2
  by_cases q3 : ¬ f3 = f3'
  · have HE : Hid (sameMessage ⟨f0, f1, f2, f3, f4, f5, f6, f7, f8⟩ ⟨f0, f1, f2, f3', f4', f5', f6', f7', f8'⟩ = false) := by unfold Hid; simp [sameMessage, q3]
    go_enter Try.func81, Try.ntmps81
    go_wp2
    go_ret
    exact ⟨by rw [HE.out]; first | rfl | exact congrArg (fun b => Ending.returned (Value.bool b)) (by simpa using q3 : (f3 == f3') = false), HB.out⟩
  replace q3 := Classical.not_not.1 q3
  subst q3
  by_cases q4 : ¬ f4.toList = f4'.toList
  · have HE : Hid (sameMessage ⟨f0, f1, f2, f3, f4, f5, f6, f7, f8⟩ ⟨f0, f1, f2, f3, f4', f5', f6', f7', f8'⟩ = false) := by unfold Hid; simp [sameMessage, q4]
    go_enter Try.func81, Try.ntmps81
    go_wp2
    go_ret
    exact ⟨by rw [HE.out]; first | rfl | exact congrArg (fun b => Ending.returned (Value.bool b)) (by simpa using q4 : (f4.toList == f4'.toList) = false), HB.out⟩
  replace q4 := bytes_inj (Classical.not_not.1 q4)
  subst q4
  go_enter Try.func81, Try.ntmps81
  go_wp2_with fail
  refine (slices_Equal_Wire_calls _ _ f5 f5' _ (HR5.out.below HB.out) (HS5.out.below HB.out)).mono ?_
  rintro e w1 ⟨rfl, hb1⟩
  have HW1 := Lib.hid (HB.out.trans (hb1.mono (by first | exact HB.out.size | (simp only [size_alloc]; omega))))
  have K1_1 : Hid (Blk w1 w.heap.size 95 #[.int .i64 f0, .int .i64 f1, .int .i64 f2, .int .i64 f3, .string f4, .slice A5 f5.length c5, .int .i64 f6.Kind, .int .i64 f6.N, .int .i64 f7, .int .i64 f8.Vat, .int .i64 f8.Entity, .int .i64 f8.Seq]) := Lib.hid (((Blk.new w 95 _).alloc _).below hb1)
  have K2_1 : Hid (Blk w1 (w.heap.size + 1) 95 #[.int .i64 f0, .int .i64 f1, .int .i64 f2, .int .i64 f3, .string f4, .slice A5' f5'.length c5', .int .i64 f6'.Kind, .int .i64 f6'.N, .int .i64 f7', .int .i64 f8'.Vat, .int .i64 f8'.Entity, .int .i64 f8'.Seq]) := Lib.hid ((Blk.made (by simp)).below hb1)
  obtain ⟨k1_1, g1_1⟩ := K1_1.out.rules
  obtain ⟨k2_1, g2_1⟩ := K2_1.out.rules
  clear hb1
  rcases Bool.eq_false_or_eq_true (sameL eqbWire f5 f5') with s1 | s1
  rotate_left
  · have HE : Hid (sameMessage ⟨f0, f1, f2, f3, f4, f5, f6, f7, f8⟩ ⟨f0, f1, f2, f3, f4, f5', f6', f7', f8'⟩ = false) := by unfold Hid; simp [sameMessage, s1]
    rw [s1]
    go_wp2
    go_ret
    exact ⟨by rw [HE.out]; rfl, HW1.out⟩
  rw [s1]
  have S1 := Lib.hid s1
  clear s1
  rcases Bool.eq_false_or_eq_true (eqbWire f6 f6') with q6 | q6
  rotate_left
  · have HE : Hid (sameMessage ⟨f0, f1, f2, f3, f4, f5, f6, f7, f8⟩ ⟨f0, f1, f2, f3, f4, f5', f6', f7', f8'⟩ = false) := by unfold Hid; simp [sameMessage, q6, S1.out]
    go_wp2
    go_ret
    exact ⟨by rw [HE.out]; rfl, HW1.out⟩
  replace q6 := (eqbWire_iff _ _).1 q6
  subst q6
  have r6 := eqbWire_refl f6
  by_cases q7 : ¬ f7 = f7'
  · have HE : Hid (sameMessage ⟨f0, f1, f2, f3, f4, f5, f6, f7, f8⟩ ⟨f0, f1, f2, f3, f4, f5', f6, f7', f8'⟩ = false) := by unfold Hid; simp [sameMessage, q7, S1.out, eqbWire_refl]
    go_wp2
    go_ret
    exact ⟨by rw [HE.out]; first | rfl | exact congrArg (fun b => Ending.returned (Value.bool b)) (by simpa using q7 : (f7 == f7') = false), HW1.out⟩
  replace q7 := Classical.not_not.1 q7
  subst q7
  rcases Bool.eq_false_or_eq_true (eqbTag f8 f8') with q8 | q8
  rotate_left
  · have HE : Hid (sameMessage ⟨f0, f1, f2, f3, f4, f5, f6, f7, f8⟩ ⟨f0, f1, f2, f3, f4, f5', f6, f7, f8'⟩ = false) := by unfold Hid; simp [sameMessage, q8, S1.out, eqbWire_refl]
    go_wp2
    go_ret
    exact ⟨by rw [HE.out]; rfl, HW1.out⟩
  replace q8 := (eqbTag_iff _ _).1 q8
  subst q8
  have r8 := eqbTag_refl f8
  have HE : Hid (sameMessage ⟨f0, f1, f2, f3, f4, f5, f6, f7, f8⟩ ⟨f0, f1, f2, f3, f4, f5', f6, f7, f8⟩ = true) := by unfold Hid; simp [sameMessage, S1.out, eqbWire_refl, eqbTag_refl]
  go_wp2
  go_ret
  exact ⟨by rw [HE.out]; rfl, HW1.out⟩

set_option maxHeartbeats 3200000 in
set_option maxRecDepth 100000 in
theorem spec_EqualMessages_calls (us : List Value) (x : GMessage) (us' : List Value) (y : GMessage) (w : World) (hr : RdLW w (eMessage x) us) (hr' : RdLW w (eMessage y) us') (hz : sizL (eMessage x) ≤ 1048576) (hz' : sizL (eMessage y) ≤ 1048576) :
    Calls Try.prog 73 #[.agg us.toArray, .agg us'.toArray] w fun e w' => e = .returned (.bool (sameMessage x y)) ∧ Below w.heap.size w w' := by
  obtain ⟨f0, f1, f2, f3, f4, f5, f6, f7, f8⟩ := x
  obtain ⟨f0', f1', f2', f3', f4', f5', f6', f7', f8'⟩ := y
  obtain ⟨v5, rfl, h5⟩ := rd_eMessage hr
  obtain ⟨A5, c5, rfl, ⟨_, _, hl5⟩⟩ := h5.slice
  obtain ⟨v5', rfl, h5'⟩ := rd_eMessage hr'
  obtain ⟨A5', c5', rfl, ⟨_, _, hl5'⟩⟩ := h5'.slice
  have hzq := hz
  have hzq' := hz'
  rw [siz_eMessage] at hzq hzq'
  dsimp only at h5 h5' hl5 hl5' hzq hzq' ⊢
  have HR5 := Lib.hid h5
  have HS5 := Lib.hid h5'
  clear hr hr' h5 h5' hz hz'
  have HB := Lib.hid (((Below.refl w.heap.size w).alloc (Nat.le_refl _) (.cells #[.int .i64 f0, .int .i64 f1, .int .i64 f2, .int .i64 f3, .string f4, .slice A5 f5.length c5, .int .i64 f6.Kind, .int .i64 f6.N, .int .i64 f7, .int .i64 f8.Vat, .int .i64 f8.Entity, .int .i64 f8.Seq] 95)).alloc (by simp) (.cells #[.int .i64 f0', .int .i64 f1', .int .i64 f2', .int .i64 f3', .string f4', .slice A5' f5'.length c5', .int .i64 f6'.Kind, .int .i64 f6'.N, .int .i64 f7', .int .i64 f8'.Vat, .int .i64 f8'.Entity, .int .i64 f8'.Seq] 95))
  have hnt := run_neq_Tag
  have hnw := run_neq_Wire
  by_cases q0 : ¬ f0 = f0'
  · have HE : Hid (sameMessage ⟨f0, f1, f2, f3, f4, f5, f6, f7, f8⟩ ⟨f0', f1', f2', f3', f4', f5', f6', f7', f8'⟩ = false) := by unfold Hid; simp [sameMessage, q0]
    go_enter Try.func73, Try.ntmps73
    go_wp2
    go_ret
    exact ⟨by rw [HE.out]; first | rfl | exact congrArg (fun b => Ending.returned (Value.bool b)) (by simpa using q0 : (f0 == f0') = false), HB.out⟩
  replace q0 := Classical.not_not.1 q0
  subst q0
  by_cases q1 : ¬ f1 = f1'
  · have HE : Hid (sameMessage ⟨f0, f1, f2, f3, f4, f5, f6, f7, f8⟩ ⟨f0, f1', f2', f3', f4', f5', f6', f7', f8'⟩ = false) := by unfold Hid; simp [sameMessage, q1]
    go_enter Try.func73, Try.ntmps73
    go_wp2
    go_ret
    exact ⟨by rw [HE.out]; first | rfl | exact congrArg (fun b => Ending.returned (Value.bool b)) (by simpa using q1 : (f1 == f1') = false), HB.out⟩
  replace q1 := Classical.not_not.1 q1
  subst q1
  by_cases q2 : ¬ f2 = f2'
  · have HE : Hid (sameMessage ⟨f0, f1, f2, f3, f4, f5, f6, f7, f8⟩ ⟨f0, f1, f2', f3', f4', f5', f6', f7', f8'⟩ = false) := by unfold Hid; simp [sameMessage, q2]
    go_enter Try.func73, Try.ntmps73
    go_wp2
    go_ret
    exact ⟨by rw [HE.out]; first | rfl | exact congrArg (fun b => Ending.returned (Value.bool b)) (by simpa using q2 : (f2 == f2') = false), HB.out⟩
  replace q2 := Classical.not_not.1 q2
  subst q2
  by_cases q3 : ¬ f3 = f3'
  · have HE : Hid (sameMessage ⟨f0, f1, f2, f3, f4, f5, f6, f7, f8⟩ ⟨f0, f1, f2, f3', f4', f5', f6', f7', f8'⟩ = false) := by unfold Hid; simp [sameMessage, q3]
    go_enter Try.func73, Try.ntmps73
    go_wp2
    go_ret
    exact ⟨by rw [HE.out]; first | rfl | exact congrArg (fun b => Ending.returned (Value.bool b)) (by simpa using q3 : (f3 == f3') = false), HB.out⟩
  replace q3 := Classical.not_not.1 q3
  subst q3
  by_cases q4 : ¬ f4.toList = f4'.toList
  · have HE : Hid (sameMessage ⟨f0, f1, f2, f3, f4, f5, f6, f7, f8⟩ ⟨f0, f1, f2, f3, f4', f5', f6', f7', f8'⟩ = false) := by unfold Hid; simp [sameMessage, q4]
    go_enter Try.func73, Try.ntmps73
    go_wp2
    go_ret
    exact ⟨by rw [HE.out]; first | rfl | exact congrArg (fun b => Ending.returned (Value.bool b)) (by simpa using q4 : (f4.toList == f4'.toList) = false), HB.out⟩
  replace q4 := bytes_inj (Classical.not_not.1 q4)
  subst q4
  rcases Bool.eq_false_or_eq_true (eqbWire f6 f6') with q6 | q6
  rotate_left
  · have HE : Hid (sameMessage ⟨f0, f1, f2, f3, f4, f5, f6, f7, f8⟩ ⟨f0, f1, f2, f3, f4, f5', f6', f7', f8'⟩ = false) := by unfold Hid; simp [sameMessage, q6]
    go_enter Try.func73, Try.ntmps73
    go_wp2
    go_ret
    exact ⟨by rw [HE.out]; rfl, HB.out⟩
  replace q6 := (eqbWire_iff _ _).1 q6
  subst q6
  have r6 := eqbWire_refl f6
  by_cases q7 : ¬ f7 = f7'
  · have HE : Hid (sameMessage ⟨f0, f1, f2, f3, f4, f5, f6, f7, f8⟩ ⟨f0, f1, f2, f3, f4, f5', f6, f7', f8'⟩ = false) := by unfold Hid; simp [sameMessage, q7, eqbWire_refl]
    go_enter Try.func73, Try.ntmps73
    go_wp2
    go_ret
    exact ⟨by rw [HE.out]; first | rfl | exact congrArg (fun b => Ending.returned (Value.bool b)) (by simpa using q7 : (f7 == f7') = false), HB.out⟩
  replace q7 := Classical.not_not.1 q7
  subst q7
  rcases Bool.eq_false_or_eq_true (eqbTag f8 f8') with q8 | q8
  rotate_left
  · have HE : Hid (sameMessage ⟨f0, f1, f2, f3, f4, f5, f6, f7, f8⟩ ⟨f0, f1, f2, f3, f4, f5', f6, f7, f8'⟩ = false) := by unfold Hid; simp [sameMessage, q8, eqbWire_refl]
    go_enter Try.func73, Try.ntmps73
    go_wp2
    go_ret
    exact ⟨by rw [HE.out]; rfl, HB.out⟩
  replace q8 := (eqbTag_iff _ _).1 q8
  subst q8
  have r8 := eqbTag_refl f8
  by_cases q5 : ¬ f5.length = f5'.length
  · have HE : Hid (sameMessage ⟨f0, f1, f2, f3, f4, f5, f6, f7, f8⟩ ⟨f0, f1, f2, f3, f4, f5', f6, f7, f8⟩ = false) := by unfold Hid; simp [sameMessage, sameL_len q5, eqbWire_refl, eqbTag_refl]
    have hlb : ((f5.length : Int) != (f5'.length : Int)) = true := by simp; omega
    go_enter Try.func73, Try.ntmps73
    go_wp2
    go_ret
    exact ⟨by rw [HE.out]; rfl, HB.out⟩
  have HLN := Lib.hid (Classical.not_not.1 q5)
  have hlb : ((f5.length : Int) != (f5'.length : Int)) = false := by have := HLN.out; simp; omega
  clear q5
  have HS : Hid (sameMessage ⟨f0, f1, f2, f3, f4, f5, f6, f7, f8⟩ ⟨f0, f1, f2, f3, f4, f5', f6, f7, f8⟩ = (sameL eqbWire f5 f5')) := by unfold Hid; simp [sameMessage, eqbWire_refl, eqbTag_refl]
  have hneq := run_neq_Wire
  go_enter Try.func73, Try.ntmps73
  go_wp2
  clear hlb
  go_loopw [5] (fun b wr => ∃ i : Nat, i ≤ f5.length ∧ b = .int .i64 i ∧ Hid (Below w.heap.size w wr) ∧ Hid (Blk wr w.heap.size 95 #[.int .i64 f0, .int .i64 f1, .int .i64 f2, .int .i64 f3, .string f4, .slice A5 f5.length c5, .int .i64 f6.Kind, .int .i64 f6.N, .int .i64 f7, .int .i64 f8.Vat, .int .i64 f8.Entity, .int .i64 f8.Seq]) ∧ Hid (Blk wr (w.heap.size + 1) 95 #[.int .i64 f0, .int .i64 f1, .int .i64 f2, .int .i64 f3, .string f4, .slice A5' f5'.length c5', .int .i64 f6.Kind, .int .i64 f6.N, .int .i64 f7, .int .i64 f8.Vat, .int .i64 f8.Entity, .int .i64 f8.Seq]) ∧ Hid (∀ (j : Nat) a b, j < i → f5[j]? = some a → f5'[j]? = some b → eqbWire a b = true)) (fun b wr => f5.length - (intOf b).toNat)
  case atStart => exact ⟨0, by omega, rfl, HB, (Blk.new _ _ _).alloc _, Blk.made (by simp), fun j a b h => absurd h (Nat.not_lt_zero _)⟩
  case round =>
    obtain ⟨i, hi, rfl, HW, K1, K2, hno⟩ := hrel
    obtain ⟨k1, g1⟩ := K1.out.rules
    obtain ⟨k2, g2⟩ := K2.out.rules
    by_cases hlt : i < f5.length
    · obtain ⟨p1, hp⟩ : ∃ p, f5[i]? = some p := ⟨f5[i], List.getElem?_eq_getElem hlt⟩
      obtain ⟨q1, hq⟩ : ∃ q, f5'[i]? = some q := ⟨f5'[i]'(by have := HLN.out; omega), List.getElem?_eq_getElem _⟩
      obtain ⟨ad, rfl, _, h0, h1⟩ := row_eWire (HR5.out.below HW.out) hp
      obtain ⟨ad', rfl, _, h0', h1'⟩ := row_eWire (HS5.out.below HW.out) hq
      have HX := Lib.hid hp
      have HY := Lib.hid hq
      clear hp hq
      have hli : i < f5'.length := by have := HLN.out; omega
      cases he : eqbWire p1 q1 with
      | false =>
        have HE := Lib.hid (sameL_at (eq := eqbWire) HX.out HY.out he)
        go_wp2
        go_quiet (fail)
        go_wp2
        go_ret
        exact ⟨by rw [HS.out, HE.out]; rfl, belowN HW.out _⟩
      | true =>
        have HN := Lib.hid (step_eq (eq := eqbWire) hno.out HX.out HY.out he)
        go_wp2
        go_quiet (fail)
        go_wp2
        go_roundw
        case rel => exact ⟨i + 1, by omega, by go_num, belowN HW.out _, K1, K2, HN⟩
        case measure => simp [intOf]; omega
    · have HL := Lib.hid (sameL_all (eq := eqbWire) HLN.out (fun i a b ha hb => hno.out i a b (by have := (List.getElem?_eq_some_iff.1 ha).1; omega) ha hb))
      have HE : Hid (sameMessage ⟨f0, f1, f2, f3, f4, f5, f6, f7, f8⟩ ⟨f0, f1, f2, f3, f4, f5', f6, f7, f8⟩ = true) := by unfold Hid; simp [sameMessage, eqbWire_refl, eqbTag_refl, HL.out]
      go_wp2
      go_ret
      exact ⟨by rw [HE.out]; rfl, HW.out⟩

set_option maxHeartbeats 1600000 in
theorem spec_EqualLinks_calls (us : List Value) (x : GLink) (us' : List Value) (y : GLink) (w : World) (hr : RdLW w (eLink x) us) (hr' : RdLW w (eLink y) us') (hz : sizL (eLink x) ≤ 1048576) (hz' : sizL (eLink y) ≤ 1048576) :
    Calls Try.prog 72 #[.agg us.toArray, .agg us'.toArray] w fun e w' => e = .returned (.bool (sameLink x y)) ∧ Below w.heap.size w w' := by
  obtain ⟨p, up, ex, nx, qs, ak, an⟩ := x
  obtain ⟨p', up', ex', nx', qs', ak', an'⟩ := y
  obtain ⟨v2, v4, v6, rfl, h2, h4, h6⟩ := rd_eLink hr
  obtain ⟨A, c, rfl, ⟨_, _, hl⟩⟩ := h2.slice
  obtain ⟨A4, c4, rfl, -⟩ := h4.slice
  obtain ⟨A6, c6, rfl, -⟩ := h6.slice
  obtain ⟨u2, u4, u6, rfl, g2, g4, g6⟩ := rd_eLink hr'
  obtain ⟨A', c', rfl, ⟨_, _, hl'⟩⟩ := g2.slice
  obtain ⟨A4', c4', rfl, -⟩ := g4.slice
  obtain ⟨A6', c6', rfl, -⟩ := g6.slice
  dsimp only at h2 h4 h6 g2 g4 g6 hl hl' ⊢
  have HR2 := Lib.hid h2
  have HR4 := Lib.hid h4
  have HR6 := Lib.hid h6
  have HS2 := Lib.hid g2
  have HS4 := Lib.hid g4
  have HS6 := Lib.hid g6
  clear hr hr' h2 h4 h6 g2 g4 g6
  have HB := Lib.hid (((Below.refl w.heap.size w).alloc (Nat.le_refl _) (.cells #[.int .i64 p, .bool up, .slice A ex.length c, .int .i64 nx, .slice A4 qs.length c4, .int .i64 ak, .slice A6 an.length c6] 80)).alloc (by simp) (.cells #[.int .i64 p', .bool up', .slice A' ex'.length c', .int .i64 nx', .slice A4' qs'.length c4', .int .i64 ak', .slice A6' an'.length c6'] 80))
  have hneq := run_neq_Export
  by_cases c1 : ¬ p = p'
  · have HE : Hid (sameLink ⟨p, up, ex, nx, qs, ak, an⟩ ⟨p', up', ex', nx', qs', ak', an'⟩ = false) := by unfold Hid; simp [sameLink, c1]
    go_enter Try.func72, Try.ntmps72
    go_wp2
    go_ret
    exact ⟨by rw [HE.out]; rfl, HB.out⟩
  replace c1 := Classical.not_not.1 c1
  subst c1
  by_cases c2 : ¬ up = up'
  · cases up <;> cases up' <;> first
      | exact absurd rfl c2
      | (go_enter Try.func72, Try.ntmps72
         go_wp2
         go_ret
         refine ⟨?_, HB.out⟩
         show Ending.returned (.bool false) = _
         simp [sameLink])
  replace c2 := Classical.not_not.1 c2
  subst c2
  by_cases c3 : ¬ nx = nx'
  · have HE : Hid (sameLink ⟨p, up, ex, nx, qs, ak, an⟩ ⟨p, up, ex', nx', qs', ak', an'⟩ = false) := by unfold Hid; simp [sameLink, c3]
    go_enter Try.func72, Try.ntmps72
    go_wp2
    go_ret
    exact ⟨by rw [HE.out]; rfl, HB.out⟩
  replace c3 := Classical.not_not.1 c3
  subst c3
  by_cases c4 : ¬ ak = ak'
  · have HE : Hid (sameLink ⟨p, up, ex, nx, qs, ak, an⟩ ⟨p, up, ex', nx, qs', ak', an'⟩ = false) := by unfold Hid; simp [sameLink, c4]
    go_enter Try.func72, Try.ntmps72
    go_wp2
    go_ret
    exact ⟨by rw [HE.out]; rfl, HB.out⟩
  replace c4 := Classical.not_not.1 c4
  subst c4
  by_cases c5 : ¬ ex.length = ex'.length
  · have HE : Hid (sameLink ⟨p, up, ex, nx, qs, ak, an⟩ ⟨p, up, ex', nx, qs', ak, an'⟩ = false) := by unfold Hid; simp [sameLink, sameL_len c5]
    have hlb : ((ex.length : Int) != (ex'.length : Int)) = true := by simp; omega
    go_enter Try.func72, Try.ntmps72
    go_wp2
    go_ret
    exact ⟨by rw [HE.out]; rfl, HB.out⟩
  have hln := Lib.hid (Classical.not_not.1 c5)
  have hlb : ((ex.length : Int) != (ex'.length : Int)) = false := by have := hln.out; simp; omega
  clear c5
  have HS : Hid (sameLink ⟨p, up, ex, nx, qs, ak, an⟩ ⟨p, up, ex', nx, qs', ak, an'⟩ = (sameL eqbExport ex ex' && (sameL eqbQuestion qs qs' && sameL eqbQuestion an an'))) := by
    unfold Hid; simp [sameLink]
  go_enter Try.func72, Try.ntmps72
  go_wp2
  go_loopw [5] (fun b wr => ∃ i : Nat, i ≤ ex.length ∧ b = .int .i64 i ∧ Hid (Below w.heap.size w wr) ∧ Hid (Blk wr w.heap.size 80 #[.int .i64 p, .bool up, .slice A ex.length c, .int .i64 nx, .slice A4 qs.length c4, .int .i64 ak, .slice A6 an.length c6]) ∧ Hid (Blk wr (w.heap.size + 1) 80 #[.int .i64 p, .bool up, .slice A' ex'.length c', .int .i64 nx, .slice A4' qs'.length c4', .int .i64 ak, .slice A6' an'.length c6']) ∧ Hid (∀ (j : Nat) a b, j < i → ex[j]? = some a → ex'[j]? = some b → eqbExport a b = true)) (fun b wr => ex.length - (intOf b).toNat)
  case atStart => exact ⟨0, by omega, rfl, HB, (Blk.new _ _ _).alloc _, Blk.made (by simp), fun j a b h => absurd h (Nat.not_lt_zero _)⟩
  case round =>
    obtain ⟨i, hi, rfl, HW, K1, K2, hno⟩ := hrel
    obtain ⟨k1, f1⟩ := K1.out.rules
    obtain ⟨k2, f2⟩ := K2.out.rules
    by_cases hlt : i < ex.length
    · obtain ⟨p1, hp⟩ : ∃ p, ex[i]? = some p := ⟨ex[i], List.getElem?_eq_getElem hlt⟩
      obtain ⟨q1, hq⟩ : ∃ q, ex'[i]? = some q := ⟨ex'[i]'(by have := hln.out; omega), List.getElem?_eq_getElem _⟩
      obtain ⟨ad, rfl, _, h0, h1, h2⟩ := row_eExport (HR2.out.below HW.out) hp
      obtain ⟨ad', rfl, _, h0', h1', h2'⟩ := row_eExport (HS2.out.below HW.out) hq
      have HX := Lib.hid hp
      have HY := Lib.hid hq
      clear hp hq
      have hli : i < ex'.length := by have := hln.out; omega
      cases he : eqbExport p1 q1 with
      | false =>
        have HE := Lib.hid (sameL_at (eq := eqbExport) HX.out HY.out he)
        go_wp2
        go_quiet (fail)
        go_wp2
        go_ret
        exact ⟨by rw [HS.out, HE.out]; rfl, belowN HW.out _⟩
      | true =>
        have HN := Lib.hid (step_eq (eq := eqbExport) hno.out HX.out HY.out he)
        go_wp2
        go_quiet (fail)
        go_wp2
        go_roundw
        case rel => exact ⟨i + 1, by omega, by go_num, belowN HW.out _, K1, K2, HN⟩
        case measure => simp [intOf]; omega
    · have HE := Lib.hid (sameL_all (eq := eqbExport) hln.out (fun i a b ha hb => hno.out i a b (by have := (List.getElem?_eq_some_iff.1 ha).1; omega) ha hb))
      go_wp2_with fail
      refine (spec_l10Same_calls _ _ qs qs' _ (HR4.out.below HW.out) (HS4.out.below HW.out)).mono ?_
      rintro e w1 ⟨rfl, hb1⟩
      have HW1 := Lib.hid (HW.out.trans (hb1.mono HW.out.size))
      obtain ⟨k1', f1'⟩ := (K1.out.below hb1).rules
      obtain ⟨k2', f2'⟩ := (K2.out.below hb1).rules
      clear hb1 k1 f1 k2 f2
      cases hs : sameL eqbQuestion qs qs' with
      | false =>
        go_wp2
        go_ret
        exact ⟨by rw [HS.out, HE.out, hs]; rfl, HW1.out⟩
      | true =>
        go_wp2_with fail
        refine (spec_l10Same_calls _ _ an an' _ (HR6.out.below HW1.out) (HS6.out.below HW1.out)).mono ?_
        rintro e w2 ⟨rfl, hb2⟩
        have HW2 := Lib.hid (HW1.out.trans (hb2.mono HW1.out.size))
        clear hb2 k1' f1' k2' f2'
        go_wp2
        go_ret
        exact ⟨by rw [HS.out, HE.out, hs]; rfl, HW2.out⟩
set_option maxHeartbeats 1600000 in
theorem impl_EqualLinks_calls (us : List Value) (x : GLink) (us' : List Value) (y : GLink) (w : World) (hr : RdLW w (eLink x) us) (hr' : RdLW w (eLink y) us') (hz : sizL (eLink x) ≤ 1048576) (hz' : sizL (eLink y) ≤ 1048576) :
    Calls Try.prog 78 #[.agg us.toArray, .agg us'.toArray] w fun e w' => e = .returned (.bool (sameLink x y)) ∧ Below w.heap.size w w' := by
  obtain ⟨p, up, ex, nx, qs, ak, an⟩ := x
  obtain ⟨p', up', ex', nx', qs', ak', an'⟩ := y
  obtain ⟨v2, v4, v6, rfl, h2, h4, h6⟩ := rd_eLink hr
  obtain ⟨A, c, rfl, ⟨_, _, hl⟩⟩ := h2.slice
  obtain ⟨A4, c4, rfl, -⟩ := h4.slice
  obtain ⟨A6, c6, rfl, -⟩ := h6.slice
  obtain ⟨u2, u4, u6, rfl, g2, g4, g6⟩ := rd_eLink hr'
  obtain ⟨A', c', rfl, ⟨_, _, hl'⟩⟩ := g2.slice
  obtain ⟨A4', c4', rfl, -⟩ := g4.slice
  obtain ⟨A6', c6', rfl, -⟩ := g6.slice
  dsimp only at h2 h4 h6 g2 g4 g6 hl hl' ⊢
  have HR2 := Lib.hid h2
  have HR4 := Lib.hid h4
  have HR6 := Lib.hid h6
  have HS2 := Lib.hid g2
  have HS4 := Lib.hid g4
  have HS6 := Lib.hid g6
  clear hr hr' h2 h4 h6 g2 g4 g6
  have HB := Lib.hid (((Below.refl w.heap.size w).alloc (Nat.le_refl _) (.cells #[.int .i64 p, .bool up, .slice A ex.length c, .int .i64 nx, .slice A4 qs.length c4, .int .i64 ak, .slice A6 an.length c6] 80)).alloc (by simp) (.cells #[.int .i64 p', .bool up', .slice A' ex'.length c', .int .i64 nx', .slice A4' qs'.length c4', .int .i64 ak', .slice A6' an'.length c6'] 80))
  by_cases c1 : ¬ p = p'
  · have HE : Hid (sameLink ⟨p, up, ex, nx, qs, ak, an⟩ ⟨p', up', ex', nx', qs', ak', an'⟩ = false) := by unfold Hid; simp [sameLink, c1]
    go_enter Try.func78, Try.ntmps78
    go_wp2
    go_ret
    exact ⟨by rw [HE.out]; rfl, HB.out⟩
  replace c1 := Classical.not_not.1 c1
  subst c1
  by_cases c2 : ¬ up = up'
  · cases up <;> cases up' <;> first
      | exact absurd rfl c2
      | (go_enter Try.func78, Try.ntmps78
         go_wp2
         go_ret
         refine ⟨?_, HB.out⟩
         show Ending.returned (.bool false) = _
         simp [sameLink])
  replace c2 := Classical.not_not.1 c2
  subst c2
  go_enter Try.func78, Try.ntmps78
  go_wp2_with fail
  refine (slices_Equal_Export_calls _ _ ex ex' _ (HR2.out.below HB.out) (HS2.out.below HB.out)).mono ?_
  rintro e w1 ⟨rfl, hb1⟩
  have HW1 := Lib.hid (HB.out.trans (hb1.mono (by first | exact HB.out.size | (simp only [size_alloc]; omega))))
  have K1_1 := Lib.hid (((Blk.new w 80 _).alloc _).below hb1)
  have K2_1 := Lib.hid ((Blk.made (w := w.alloc _) (t := 80) (g := w.heap.size + 1) (by simp)).below hb1)
  obtain ⟨k1_1, f1_1⟩ := K1_1.out.rules
  obtain ⟨k2_1, f2_1⟩ := K2_1.out.rules
  clear hb1
  rcases Bool.eq_false_or_eq_true (sameL eqbExport ex ex') with s1 | s1
  rotate_left
  · have HE : Hid (sameLink ⟨p, up, ex, nx, qs, ak, an⟩ ⟨p, up, ex', nx', qs', ak', an'⟩ = false) := by unfold Hid; simp [sameLink, s1]
    rw [s1]
    go_wp2
    go_ret
    exact ⟨by rw [HE.out]; rfl, HW1.out⟩
  rw [s1]
  have S1 := Lib.hid s1
  clear s1
  by_cases c3 : ¬ nx = nx'
  · have HE : Hid (sameLink ⟨p, up, ex, nx, qs, ak, an⟩ ⟨p, up, ex', nx', qs', ak', an'⟩ = false) := by unfold Hid; simp [sameLink, c3]
    go_wp2
    go_ret
    exact ⟨by rw [HE.out]; rfl, HW1.out⟩
  replace c3 := Classical.not_not.1 c3
  subst c3
  go_wp2_with fail
  refine (slices_Equal_Question_calls _ _ qs qs' _ (HR4.out.below HW1.out) (HS4.out.below HW1.out)).mono ?_
  rintro e w2 ⟨rfl, hb2⟩
  have HW2 := Lib.hid (HW1.out.trans (hb2.mono (by first | exact HW1.out.size | (simp only [size_alloc]; omega))))
  have K1_2 := Lib.hid (K1_1.out.below hb2)
  have K2_2 := Lib.hid (K2_1.out.below hb2)
  obtain ⟨k1_2, f1_2⟩ := K1_2.out.rules
  obtain ⟨k2_2, f2_2⟩ := K2_2.out.rules
  clear hb2 k1_1 f1_1 k2_1 f2_1
  rcases Bool.eq_false_or_eq_true (sameL eqbQuestion qs qs') with s2 | s2
  rotate_left
  · have HE : Hid (sameLink ⟨p, up, ex, nx, qs, ak, an⟩ ⟨p, up, ex', nx, qs', ak', an'⟩ = false) := by unfold Hid; simp [sameLink, S1.out, s2]
    rw [s2]
    go_wp2
    go_ret
    exact ⟨by rw [HE.out]; rfl, HW2.out⟩
  rw [s2]
  have S2 := Lib.hid s2
  clear s2
  by_cases c4 : ¬ ak = ak'
  · have HE : Hid (sameLink ⟨p, up, ex, nx, qs, ak, an⟩ ⟨p, up, ex', nx, qs', ak', an'⟩ = false) := by unfold Hid; simp [sameLink, c4]
    go_wp2
    go_ret
    exact ⟨by rw [HE.out]; rfl, HW2.out⟩
  replace c4 := Classical.not_not.1 c4
  subst c4
  go_wp2_with fail
  refine (slices_Equal_Question_calls _ _ an an' _ (HR6.out.below HW2.out) (HS6.out.below HW2.out)).mono ?_
  rintro e w3 ⟨rfl, hb3⟩
  have HW3 := Lib.hid (HW2.out.trans (hb3.mono HW2.out.size))
  clear hb3 k1_2 f1_2 k2_2 f2_2
  have HE : Hid (sameLink ⟨p, up, ex, nx, qs, ak, an⟩ ⟨p, up, ex', nx, qs', ak, an'⟩ = sameL eqbQuestion an an') := by unfold Hid; simp [sameLink, S1.out, S2.out]
  go_wp2
  go_ret
  exact ⟨by rw [HE.out]; rfl, HW3.out⟩
end Go.Proofs.Ytapbejepffpckaa
