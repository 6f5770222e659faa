import Derived.Test.YtklbpjnpmbidiaaProg
import Derived.Test.YtklbpjnpmbidiaaTypes
import Derived.StillTailTactics
import Derived.Deep.RegionHeld3
import Derived.Laws.IdiomStrings
import Derived.Test.YtklbpjnpmbidiaaAppend
import Derived.Laws.StructEq
import Derived.Lib.SliceRun
import Derived.Shelf.RegionOpenPlain
import Derived.Test.YtklbpjnpmbidiaaHelp
import Derived.Test.YtklbpjnpmbidiaaPureMessage
import Derived.Test.YtklbpjnpmbidiaaSlices
import Derived.Test.YtklbpjnpmbidiaaCommon
namespace Go.Proofs.Ytklbpjnpmbidiaa
open Go.RowKit
set_option linter.unusedVariables false
set_option linter.unusedSimpArgs false

set_option maxHeartbeats 3200000 in
set_option maxRecDepth 100000 in
theorem impl_equalMessage_calls (us : List Value) (x : GMessage) (us' : List Value) (y : GMessage) (w : World) (hr : RdLW w (eMessage x) us) (hr' : RdLW w (eMessage y) us') :
    Calls Try.prog 40 #[.agg us.toArray, .agg us'.toArray] w fun e w' => e = .returned (.bool (sameMessage x y)) ∧ Below w.heap.size w w' := by
  obtain ⟨f0, f1, f2, f3, f4, f5, f6, f7, f8⟩ := x
  obtain ⟨f0', f1', f2', f3', f4', f5', f6', f7', f8'⟩ := y
  obtain ⟨v5, rfl, h5⟩ := rd_eMessage hr
  obtain ⟨A5, c5, rfl, ⟨_, _, hl5⟩⟩ := h5.slice
  obtain ⟨v5', rfl, h5'⟩ := rd_eMessage hr'
  obtain ⟨A5', c5', rfl, ⟨_, _, hl5'⟩⟩ := h5'.slice
  dsimp only at h5 h5' hl5 hl5' ⊢
  have HR5 := Lib.hid h5
  have HS5 := Lib.hid h5'
  clear hr hr' h5 h5'
  have HB := Lib.hid (((Below.refl w.heap.size w).alloc (Nat.le_refl _) (.cells #[.int .i64 f0, .int .i64 f1, .int .i64 f2, .int .i64 f3, .string f4, .slice A5 f5.length c5, .int .i64 f6.Kind, .int .i64 f6.N, .int .i64 f7, .int .i64 f8.Vat, .int .i64 f8.Entity, .int .i64 f8.Seq] 29)).alloc (by simp) (.cells #[.int .i64 f0', .int .i64 f1', .int .i64 f2', .int .i64 f3', .string f4', .slice A5' f5'.length c5', .int .i64 f6'.Kind, .int .i64 f6'.N, .int .i64 f7', .int .i64 f8'.Vat, .int .i64 f8'.Entity, .int .i64 f8'.Seq] 29))
  have heq := run_eql_Tag
  have hew := run_eql_Wire
  by_cases q0 : ¬ f0 = f0'
  · have HE : Hid (sameMessage ⟨f0, f1, f2, f3, f4, f5, f6, f7, f8⟩ ⟨f0', f1', f2', f3', f4', f5', f6', f7', f8'⟩ = false) := by unfold Hid; simp [sameMessage, q0]
    go_enter Try.func40, Try.ntmps40
    go_wp2
    go_ret
    exact ⟨by rw [HE.out]; first | rfl | exact congrArg (fun b => Ending.returned (Value.bool b)) (by simpa using q0 : (f0 == f0') = false), HB.out⟩
  replace q0 := Classical.not_not.1 q0
  subst q0
  by_cases q1 : ¬ f1 = f1'
  · have HE : Hid (sameMessage ⟨f0, f1, f2, f3, f4, f5, f6, f7, f8⟩ ⟨f0, f1', f2', f3', f4', f5', f6', f7', f8'⟩ = false) := by unfold Hid; simp [sameMessage, q1]
    go_enter Try.func40, Try.ntmps40
    go_wp2
    go_ret
    exact ⟨by rw [HE.out]; first | rfl | exact congrArg (fun b => Ending.returned (Value.bool b)) (by simpa using q1 : (f1 == f1') = false), HB.out⟩
  replace q1 := Classical.not_not.1 q1
  subst q1
  by_cases q2 : ¬ f2 = f2'
  · have HE : Hid (sameMessage ⟨f0, f1, f2, f3, f4, f5, f6, f7, f8⟩ ⟨f0, f1, f2', f3', f4', f5', f6', f7', f8'⟩ = false) := by unfold Hid; simp [sameMessage, q2]
    go_enter Try.func40, Try.ntmps40
    go_wp2
    go_ret
    exact ⟨by rw [HE.out]; first | rfl | exact congrArg (fun b => Ending.returned (Value.bool b)) (by simpa using q2 : (f2 == f2') = false), HB.out⟩
  replace q2 := Classical.not_not.1 q2
  subst q2
  by_cases q3 : ¬ f3 = f3'
  · have HE : Hid (sameMessage ⟨f0, f1, f2, f3, f4, f5, f6, f7, f8⟩ ⟨f0, f1, f2, f3', f4', f5', f6', f7', f8'⟩ = false) := by unfold Hid; simp [sameMessage, q3]
    go_enter Try.func40, Try.ntmps40
    go_wp2
    go_ret
    exact ⟨by rw [HE.out]; first | rfl | exact congrArg (fun b => Ending.returned (Value.bool b)) (by simpa using q3 : (f3 == f3') = false), HB.out⟩
  replace q3 := Classical.not_not.1 q3
  subst q3
  by_cases q4 : ¬ f4.toList = f4'.toList
  · have HE : Hid (sameMessage ⟨f0, f1, f2, f3, f4, f5, f6, f7, f8⟩ ⟨f0, f1, f2, f3, f4', f5', f6', f7', f8'⟩ = false) := by unfold Hid; simp [sameMessage, q4]
    go_enter Try.func40, Try.ntmps40
    go_wp2
    go_ret
    exact ⟨by rw [HE.out]; first | rfl | exact congrArg (fun b => Ending.returned (Value.bool b)) (by simpa using q4 : (f4.toList == f4'.toList) = false), HB.out⟩
  replace q4 := bytes_inj (Classical.not_not.1 q4)
  subst q4
  go_enter Try.func40, Try.ntmps40
  go_wp2_with fail
  refine (slices_Equal_Wire_calls _ _ f5 f5' _ (HR5.out.below HB.out) (HS5.out.below HB.out)).mono ?_
  rintro e w1 ⟨rfl, hb1⟩
  have HW1 := Lib.hid (HB.out.trans (hb1.mono (by first | exact HB.out.size | (simp only [size_alloc]; omega))))
  have K1_1 : Hid (Blk w1 w.heap.size 29 #[.int .i64 f0, .int .i64 f1, .int .i64 f2, .int .i64 f3, .string f4, .slice A5 f5.length c5, .int .i64 f6.Kind, .int .i64 f6.N, .int .i64 f7, .int .i64 f8.Vat, .int .i64 f8.Entity, .int .i64 f8.Seq]) := Lib.hid (((Blk.new w 29 _).alloc _).below hb1)
  have K2_1 : Hid (Blk w1 (w.heap.size + 1) 29 #[.int .i64 f0, .int .i64 f1, .int .i64 f2, .int .i64 f3, .string f4, .slice A5' f5'.length c5', .int .i64 f6'.Kind, .int .i64 f6'.N, .int .i64 f7', .int .i64 f8'.Vat, .int .i64 f8'.Entity, .int .i64 f8'.Seq]) := Lib.hid ((Blk.made (by simp)).below hb1)
  obtain ⟨k1_1, g1_1⟩ := K1_1.out.rules
  obtain ⟨k2_1, g2_1⟩ := K2_1.out.rules
  clear hb1
  rcases Bool.eq_false_or_eq_true (sameL eqbWire f5 f5') with s1 | s1
  rotate_left
  · have HE : Hid (sameMessage ⟨f0, f1, f2, f3, f4, f5, f6, f7, f8⟩ ⟨f0, f1, f2, f3, f4, f5', f6', f7', f8'⟩ = false) := by unfold Hid; simp [sameMessage, s1]
    rw [s1]
    go_wp2
    go_ret
    exact ⟨by rw [HE.out]; rfl, HW1.out⟩
  rw [s1]
  have S1 := Lib.hid s1
  clear s1
  rcases Bool.eq_false_or_eq_true (eqbWire f6 f6') with q6 | q6
  rotate_left
  · have HE : Hid (sameMessage ⟨f0, f1, f2, f3, f4, f5, f6, f7, f8⟩ ⟨f0, f1, f2, f3, f4, f5', f6', f7', f8'⟩ = false) := by unfold Hid; simp [sameMessage, q6, S1.out]
    go_wp2
    go_ret
    exact ⟨by rw [HE.out]; rfl, HW1.out⟩
  replace q6 := (eqbWire_iff _ _).1 q6
  subst q6
  have r6 := eqbWire_refl f6
  by_cases q7 : ¬ f7 = f7'
  · have HE : Hid (sameMessage ⟨f0, f1, f2, f3, f4, f5, f6, f7, f8⟩ ⟨f0, f1, f2, f3, f4, f5', f6, f7', f8'⟩ = false) := by unfold Hid; simp [sameMessage, q7, S1.out, eqbWire_refl]
    go_wp2
    go_ret
    exact ⟨by rw [HE.out]; first | rfl | exact congrArg (fun b => Ending.returned (Value.bool b)) (by simpa using q7 : (f7 == f7') = false), HW1.out⟩
  replace q7 := Classical.not_not.1 q7
  subst q7
  rcases Bool.eq_false_or_eq_true (eqbTag f8 f8') with q8 | q8
  rotate_left
  · have HE : Hid (sameMessage ⟨f0, f1, f2, f3, f4, f5, f6, f7, f8⟩ ⟨f0, f1, f2, f3, f4, f5', f6, f7, f8'⟩ = false) := by unfold Hid; simp [sameMessage, q8, S1.out, eqbWire_refl]
    go_wp2
    go_ret
    exact ⟨by rw [HE.out]; rfl, HW1.out⟩
  replace q8 := (eqbTag_iff _ _).1 q8
  subst q8
  have r8 := eqbTag_refl f8
  have HE : Hid (sameMessage ⟨f0, f1, f2, f3, f4, f5, f6, f7, f8⟩ ⟨f0, f1, f2, f3, f4, f5', f6, f7, f8⟩ = true) := by unfold Hid; simp [sameMessage, S1.out, eqbWire_refl, eqbTag_refl]
  go_wp2
  go_ret
  exact ⟨by rw [HE.out]; rfl, HW1.out⟩

end Go.Proofs.Ytklbpjnpmbidiaa
