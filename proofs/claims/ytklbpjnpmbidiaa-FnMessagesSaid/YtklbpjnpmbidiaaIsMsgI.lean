import Derived.Test.YtklbpjnpmbidiaaProg
import Derived.Test.YtklbpjnpmbidiaaTypes
import Derived.StillTailTactics
import Derived.Deep.RegionHeld3
import Derived.Laws.IdiomStrings
import Derived.Test.YtklbpjnpmbidiaaAppend
import Derived.Laws.StructEq
import Derived.Lib.SliceRun
import Derived.Shelf.RegionOpenPlain
import Derived.Test.YtklbpjnpmbidiaaIsMsg
import Derived.Test.YtklbpjnpmbidiaaMessage
namespace Go.Proofs.Ytklbpjnpmbidiaa
open Go.RowKit
set_option linter.unusedVariables false
set_option linter.unusedSimpArgs false

set_option maxHeartbeats 1600000 in
theorem impl_isTag_calls (t : GTag) (w : World) :
    Calls Try.prog 54 #[.agg #[.int .i64 t.Vat, .int .i64 t.Entity, .int .i64 t.Seq]] w fun e w' => e = .returned (.bool (tagB t)) ∧ Below w.heap.size w w' := by
  have HB := Lib.hid ((Below.refl w.heap.size w).alloc (Nat.le_refl _) (.cells #[.int .i64 t.Vat, .int .i64 t.Entity, .int .i64 t.Seq] 27))
  go_enter Try.func54, Try.ntmps54
  go_wp2_with fail
  refine (impl_named_calls _ _).mono ?_
  rintro e w1 ⟨rfl, rfl⟩
  rcases Bool.eq_false_or_eq_true (inR t.Vat 1 999999) with h1 | h1
  rotate_left
  · rw [h1]
    go_wp2
    go_ret
    exact ⟨by simp [tagB, h1], HB.out⟩
  rw [h1]
  go_wp2_with fail
  refine (impl_named_calls _ _).mono ?_
  rintro e w1 ⟨rfl, rfl⟩
  rcases Bool.eq_false_or_eq_true (inR t.Seq 1 999999) with h2 | h2
  rotate_left
  · rw [h2]
    go_wp2
    go_ret
    exact ⟨by simp [tagB, h2], HB.out⟩
  rw [h2]
  go_wp2_with fail
  refine (impl_in_calls _ _ _ _).mono ?_
  rintro e w1 ⟨rfl, rfl⟩
  go_wp2
  go_ret
  exact ⟨by simp [tagB, h1, h2], HB.out⟩
set_option maxHeartbeats 800000 in
theorem impl_isMessage1_calls (us : List Value) (x : GWire) (W : World) (hr : RdLW W (eWire x) us) :
    Calls Try.prog 52 #[.agg us.toArray] W fun e w' => e = .returned (.bool (!isWireB x)) ∧ Below W.heap.size W w' := by
  obtain rfl := rd_eWire hr
  clear hr
  have HC := Lib.hid (impl_isWire_calls _ x (W.alloc (.cells #[.int .i64 x.Kind, .int .i64 x.N] 25)) mkrd_eWire)
  go_enter Try.func52, Try.ntmps52
  go_wp2_with fail
  refine HC.out.mono ?_
  rintro e w1 ⟨rfl, hb1⟩
  go_wp2
  go_ret
  exact ⟨rfl, ((Below.refl _ _).alloc (Nat.le_refl _) _).trans (hb1.mono (by simp only [size_alloc]; omega))⟩
set_option maxHeartbeats 12800000 in
set_option maxRecDepth 100000 in
theorem impl_isMessage_calls (us : List Value) (x : GMessage) (w : World) (hr : RdLW w (eMessage x) us) (hz : sizL (eMessage x) ≤ 1048576) :
    Calls Try.prog 26 #[.agg us.toArray] w fun e w' => e = .returned (.bool (isMessageB x)) ∧ Below w.heap.size w w' := by
  rw [siz_eMessage] at hz
  obtain ⟨v5, rfl, h5⟩ := rd_eMessage hr
  obtain ⟨A, c, rfl, ⟨_, _, hl⟩⟩ := h5.slice
  obtain ⟨f0, f1, f2, f3, f4, f5, f6, f7, f8⟩ := x
  dsimp only at h5 hl hz ⊢
  have HR := Lib.hid h5
  have hs4 : f4.size ≤ 140737488355328 := by omega
  clear hr h5
  have HB := Lib.hid (((Below.refl w.heap.size w).alloc (Nat.le_refl _) (.cells #[.int .i64 f0, .int .i64 f1, .int .i64 f2, .int .i64 f3, .string f4, .slice A f5.length c, .int .i64 f6.Kind, .int .i64 f6.N, .int .i64 f7, .int .i64 f8.Vat, .int .i64 f8.Entity, .int .i64 f8.Seq] 29)))
  by_cases k1 : f0 = 1
  · subst k1
    have HK := Lib.hid (Blk.new w 29 #[.int .i64 1, .int .i64 f1, .int .i64 f2, .int .i64 f3, .string f4, .slice A f5.length c, .int .i64 f6.Kind, .int .i64 f6.N, .int .i64 f7, .int .i64 f8.Vat, .int .i64 f8.Entity, .int .i64 f8.Seq])
    rcases Bool.eq_false_or_eq_true (eqbWire f6 zWire) with q1 | q1
    rotate_left
    · have he1 : ∀ w, Sem.run Try.prog (binOp .neq 25 (.agg #[.int .i64 f6.Kind, .int .i64 f6.N]) (.agg #[.int .i64 0, .int .i64 0])) w = .ok (.bool true) w := fun w => by have h := run_neq_Wire f6 zWire w; rw [q1] at h; exact h
      go_enter Try.func26, Try.ntmps26
      go_wp2
      all_goals go_ret
      all_goals exact ⟨by first | (refine congrArg (fun b => Ending.returned (Value.bool b)) (Eq.symm ?_); simp [isMessageB, calmB, toB, tagB, q1]; done) | simp [isMessageB, calmB, toB, tagB, q1], HB.out⟩
    have he1 : ∀ w, Sem.run Try.prog (binOp .neq 25 (.agg #[.int .i64 f6.Kind, .int .i64 f6.N]) (.agg #[.int .i64 0, .int .i64 0])) w = .ok (.bool false) w := fun w => by have h := run_neq_Wire f6 zWire w; rw [q1] at h; exact h
    by_cases q2 : ¬ f7 = 0
    · have qb2 : (f7 == 0) = false := by simpa using q2
      go_enter Try.func26, Try.ntmps26
      go_wp2
      all_goals go_ret
      all_goals exact ⟨by first | (refine congrArg (fun b => Ending.returned (Value.bool b)) (Eq.symm ?_); simp [isMessageB, calmB, toB, tagB, q1, q2]; done) | simp [isMessageB, calmB, toB, tagB, q1, q2], HB.out⟩
    replace q2 := Classical.not_not.1 q2
    subst q2
    go_enter Try.func26, Try.ntmps26
    go_wp2_with fail
    refine (impl_named_calls f1 _).mono ?_
    rintro e w3 ⟨rfl, rfl⟩
    rcases Bool.eq_false_or_eq_true (inR f1 1 999999) with q3 | q3
    rotate_left
    · rw [q3]
      by_cases q4 : ¬ f1 = 0
      · have qb4 : (f1 == 0) = false := by simpa using q4
        go_wp2
        all_goals go_ret
        all_goals exact ⟨by first | (refine congrArg (fun b => Ending.returned (Value.bool b)) (Eq.symm ?_); simp [isMessageB, calmB, toB, tagB, q1, q3, q4]; done) | simp [isMessageB, calmB, toB, tagB, q1, q3, q4], HB.out⟩
      replace q4 := Classical.not_not.1 q4
      subst q4
      go_wp2_with fail
      refine (impl_named_calls f2 _).mono ?_
      rintro e w5 ⟨rfl, rfl⟩
      rcases Bool.eq_false_or_eq_true (inR f2 1 999999) with q5 | q5
      rotate_left
      · rw [q5]
        go_wp2
        all_goals go_ret
        all_goals exact ⟨by first | (refine congrArg (fun b => Ending.returned (Value.bool b)) (Eq.symm ?_); simp [isMessageB, calmB, toB, tagB, q1, q3, q5]; done) | simp [isMessageB, calmB, toB, tagB, q1, q3, q5], HB.out⟩
      rw [q5]
      go_wp2_with fail
      refine (impl_named_calls f3 _).mono ?_
      rintro e w6 ⟨rfl, rfl⟩
      rcases Bool.eq_false_or_eq_true (inR f3 1 999999) with q6 | q6
      rotate_left
      · rw [q6]
        go_wp2
        all_goals go_ret
        all_goals exact ⟨by first | (refine congrArg (fun b => Ending.returned (Value.bool b)) (Eq.symm ?_); simp [isMessageB, calmB, toB, tagB, q1, q3, q5, q6]; done) | simp [isMessageB, calmB, toB, tagB, q1, q3, q5, q6], HB.out⟩
      rw [q6]
      go_wp2_with fail
      refine (impl_isName_calls f4 _ hs4).mono ?_
      rintro e w7 ⟨rfl, rfl⟩
      rcases Bool.eq_false_or_eq_true (nameB f4) with q7 | q7
      rotate_left
      · rw [q7]
        go_wp2
        all_goals go_ret
        all_goals exact ⟨by first | (refine congrArg (fun b => Ending.returned (Value.bool b)) (Eq.symm ?_); simp [isMessageB, calmB, toB, tagB, q1, q3, q5, q6, q7]; done) | simp [isMessageB, calmB, toB, tagB, q1, q3, q5, q6, q7], HB.out⟩
      rw [q7]
      by_cases q8 : ¬ f5.length ≤ 2
      · have qi8 : ¬ ((f5.length : Int) ≤ 2) := by omega
        go_wp2
        all_goals go_ret
        all_goals exact ⟨by first | (refine congrArg (fun b => Ending.returned (Value.bool b)) (Eq.symm ?_); simp [isMessageB, calmB, toB, tagB, q1, q3, q5, q6, q7, q8]; done) | simp [isMessageB, calmB, toB, tagB, q1, q3, q5, q6, q7, q8], HB.out⟩
      replace q8 := Classical.not_not.1 q8
      have qi8 : (f5.length : Int) ≤ 2 := by omega
      go_wp2_with fail
      refine (slices_ContainsFunc_Wire (fun w => !isWireB w) 52 #[] (enters_of Try.func52 (by kernel_rfl) rfl) _ f5 _ (HR.out.below HB.out) (fun W y us _ _ hu => impl_isMessage1_calls us y W hu)).mono ?_
      rintro e w9 ⟨rfl, hb9⟩
      have HB9 := Lib.hid (HB.out.trans (hb9.mono HB.out.size))
      have K9 := Lib.hid (HK.out.below hb9)
      clear hb9
      obtain ⟨kc9, kf9⟩ := K9.out.rules
      have kl9 := K9.out.lt
      rcases Bool.eq_false_or_eq_true (badB f5) with q9 | q9
      rotate_left
      · have hq9 : (f5.any fun w => !isWireB w) = false := q9
        rw [hq9]
        go_wp2_with fail
        refine (impl_isTag_calls f8 _).mono ?_
        rintro e w10 ⟨rfl, hb10⟩
        have HB10 := Lib.hid (HB9.out.trans (hb10.mono HB9.out.size))
        have K10 := Lib.hid (K9.out.below hb10)
        clear hb10
        obtain ⟨kc10, kf10⟩ := K10.out.rules
        have kl10 := K10.out.lt
        go_wp2
        all_goals go_ret
        all_goals exact ⟨by first | (refine congrArg (fun b => Ending.returned (Value.bool b)) (Eq.symm ?_); simp [isMessageB, calmB, toB, tagB, q1, q3, q5, q6, q7, q8, q9]; done) | simp [isMessageB, calmB, toB, tagB, q1, q3, q5, q6, q7, q8, q9], HB10.out⟩
      have hq9 : (f5.any fun w => !isWireB w) = true := q9
      rw [hq9]
      go_wp2
      all_goals go_ret
      all_goals exact ⟨by first | (refine congrArg (fun b => Ending.returned (Value.bool b)) (Eq.symm ?_); simp [isMessageB, calmB, toB, tagB, q1, q3, q5, q6, q7, q8, q9]; done) | simp [isMessageB, calmB, toB, tagB, q1, q3, q5, q6, q7, q8, q9], HB9.out⟩
    rw [q3]
    have hn11 : ¬ f1 = 0 := by intro h; subst h; simp [inR] at q3
    have hn11b : (f1 == 0) = false := by simpa using hn11
    by_cases q11 : ¬ f2 = 0
    · have qb11 : (f2 == 0) = false := by simpa using q11
      go_wp2
      all_goals go_ret
      all_goals exact ⟨by first | (refine congrArg (fun b => Ending.returned (Value.bool b)) (Eq.symm ?_); simp [isMessageB, calmB, toB, tagB, q1, q3, hn11, q11]; done) | simp [isMessageB, calmB, toB, tagB, q1, q3, hn11, q11], HB.out⟩
    replace q11 := Classical.not_not.1 q11
    subst q11
    go_wp2_with fail
    refine (impl_named_calls f3 _).mono ?_
    rintro e w12 ⟨rfl, rfl⟩
    rcases Bool.eq_false_or_eq_true (inR f3 1 999999) with q12 | q12
    rotate_left
    · rw [q12]
      go_wp2
      all_goals go_ret
      all_goals exact ⟨by first | (refine congrArg (fun b => Ending.returned (Value.bool b)) (Eq.symm ?_); simp [isMessageB, calmB, toB, tagB, q1, q3, hn11, q12]; done) | simp [isMessageB, calmB, toB, tagB, q1, q3, hn11, q12], HB.out⟩
    rw [q12]
    go_wp2_with fail
    refine (impl_isName_calls f4 _ hs4).mono ?_
    rintro e w13 ⟨rfl, rfl⟩
    rcases Bool.eq_false_or_eq_true (nameB f4) with q13 | q13
    rotate_left
    · rw [q13]
      go_wp2
      all_goals go_ret
      all_goals exact ⟨by first | (refine congrArg (fun b => Ending.returned (Value.bool b)) (Eq.symm ?_); simp [isMessageB, calmB, toB, tagB, q1, q3, hn11, q12, q13]; done) | simp [isMessageB, calmB, toB, tagB, q1, q3, hn11, q12, q13], HB.out⟩
    rw [q13]
    by_cases q14 : ¬ f5.length ≤ 2
    · have qi14 : ¬ ((f5.length : Int) ≤ 2) := by omega
      go_wp2
      all_goals go_ret
      all_goals exact ⟨by first | (refine congrArg (fun b => Ending.returned (Value.bool b)) (Eq.symm ?_); simp [isMessageB, calmB, toB, tagB, q1, q3, hn11, q12, q13, q14]; done) | simp [isMessageB, calmB, toB, tagB, q1, q3, hn11, q12, q13, q14], HB.out⟩
    replace q14 := Classical.not_not.1 q14
    have qi14 : (f5.length : Int) ≤ 2 := by omega
    go_wp2_with fail
    refine (slices_ContainsFunc_Wire (fun w => !isWireB w) 52 #[] (enters_of Try.func52 (by kernel_rfl) rfl) _ f5 _ (HR.out.below HB.out) (fun W y us _ _ hu => impl_isMessage1_calls us y W hu)).mono ?_
    rintro e w15 ⟨rfl, hb15⟩
    have HB15 := Lib.hid (HB.out.trans (hb15.mono HB.out.size))
    have K15 := Lib.hid (HK.out.below hb15)
    clear hb15
    obtain ⟨kc15, kf15⟩ := K15.out.rules
    have kl15 := K15.out.lt
    rcases Bool.eq_false_or_eq_true (badB f5) with q15 | q15
    rotate_left
    · have hq15 : (f5.any fun w => !isWireB w) = false := q15
      rw [hq15]
      go_wp2_with fail
      refine (impl_isTag_calls f8 _).mono ?_
      rintro e w16 ⟨rfl, hb16⟩
      have HB16 := Lib.hid (HB15.out.trans (hb16.mono HB15.out.size))
      have K16 := Lib.hid (K15.out.below hb16)
      clear hb16
      obtain ⟨kc16, kf16⟩ := K16.out.rules
      have kl16 := K16.out.lt
      go_wp2
      all_goals go_ret
      all_goals exact ⟨by first | (refine congrArg (fun b => Ending.returned (Value.bool b)) (Eq.symm ?_); simp [isMessageB, calmB, toB, tagB, q1, q3, hn11, q12, q13, q14, q15]; done) | simp [isMessageB, calmB, toB, tagB, q1, q3, hn11, q12, q13, q14, q15], HB16.out⟩
    have hq15 : (f5.any fun w => !isWireB w) = true := q15
    rw [hq15]
    go_wp2
    all_goals go_ret
    all_goals exact ⟨by first | (refine congrArg (fun b => Ending.returned (Value.bool b)) (Eq.symm ?_); simp [isMessageB, calmB, toB, tagB, q1, q3, hn11, q12, q13, q14, q15]; done) | simp [isMessageB, calmB, toB, tagB, q1, q3, hn11, q12, q13, q14, q15], HB15.out⟩
  by_cases k2 : f0 = 2
  · subst k2
    have HK := Lib.hid (Blk.new w 29 #[.int .i64 2, .int .i64 f1, .int .i64 f2, .int .i64 f3, .string f4, .slice A f5.length c, .int .i64 f6.Kind, .int .i64 f6.N, .int .i64 f7, .int .i64 f8.Vat, .int .i64 f8.Entity, .int .i64 f8.Seq])
    by_cases q17 : ¬ f1 = 0
    · have qb17 : (f1 == 0) = false := by simpa using q17
      go_enter Try.func26, Try.ntmps26
      go_wp2
      all_goals go_ret
      all_goals exact ⟨by first | (refine congrArg (fun b => Ending.returned (Value.bool b)) (Eq.symm ?_); simp [isMessageB, calmB, toB, tagB, q17]; done) | simp [isMessageB, calmB, toB, tagB, q17], HB.out⟩
    replace q17 := Classical.not_not.1 q17
    subst q17
    by_cases q18 : ¬ f2 = 0
    · have qb18 : (f2 == 0) = false := by simpa using q18
      go_enter Try.func26, Try.ntmps26
      go_wp2
      all_goals go_ret
      all_goals exact ⟨by first | (refine congrArg (fun b => Ending.returned (Value.bool b)) (Eq.symm ?_); simp [isMessageB, calmB, toB, tagB, q18]; done) | simp [isMessageB, calmB, toB, tagB, q18], HB.out⟩
    replace q18 := Classical.not_not.1 q18
    subst q18
    by_cases q19 : ¬ f4.toList = []
    · have qb19 : (f4.toList == []) = false := by simpa using q19
      go_enter Try.func26, Try.ntmps26
      go_wp2
      all_goals go_ret
      all_goals exact ⟨by first | (refine congrArg (fun b => Ending.returned (Value.bool b)) (Eq.symm ?_); simp [isMessageB, calmB, toB, tagB, q19]; done) | simp [isMessageB, calmB, toB, tagB, q19], HB.out⟩
    replace q19 := Classical.not_not.1 q19
    by_cases q20 : ¬ f5 = []
    · have ql20 : 0 < f5.length := List.length_pos_iff.2 q20
      have qi20 : (0 : Int) < f5.length := by omega
      have qj20 : ((f5.length : Int) == 0) = false := by simp; omega
      go_enter Try.func26, Try.ntmps26
      go_wp2
      all_goals go_ret
      all_goals exact ⟨by first | (refine congrArg (fun b => Ending.returned (Value.bool b)) (Eq.symm ?_); simp [isMessageB, calmB, toB, tagB, q19, q20]; done) | simp [isMessageB, calmB, toB, tagB, q19, q20], HB.out⟩
    replace q20 := Classical.not_not.1 q20
    subst q20
    rcases Bool.eq_false_or_eq_true (eqbTag f8 zTag) with q21 | q21
    rotate_left
    · have he21 : ∀ w, Sem.run Try.prog (binOp .neq 27 (.agg #[.int .i64 f8.Vat, .int .i64 f8.Entity, .int .i64 f8.Seq]) (.agg #[.int .i64 0, .int .i64 0, .int .i64 0])) w = .ok (.bool true) w := fun w => by have h := run_neq_Tag f8 zTag w; rw [q21] at h; exact h
      go_enter Try.func26, Try.ntmps26
      go_wp2
      all_goals go_ret
      all_goals exact ⟨by first | (refine congrArg (fun b => Ending.returned (Value.bool b)) (Eq.symm ?_); simp [isMessageB, calmB, toB, tagB, q19, q21]; done) | simp [isMessageB, calmB, toB, tagB, q19, q21], HB.out⟩
    have he21 : ∀ w, Sem.run Try.prog (binOp .neq 27 (.agg #[.int .i64 f8.Vat, .int .i64 f8.Entity, .int .i64 f8.Seq]) (.agg #[.int .i64 0, .int .i64 0, .int .i64 0])) w = .ok (.bool false) w := fun w => by have h := run_neq_Tag f8 zTag w; rw [q21] at h; exact h
    by_cases q22 : ¬ f7 = 0
    · have qb22 : (f7 == 0) = false := by simpa using q22
      go_enter Try.func26, Try.ntmps26
      go_wp2
      all_goals go_ret
      all_goals exact ⟨by first | (refine congrArg (fun b => Ending.returned (Value.bool b)) (Eq.symm ?_); simp [isMessageB, calmB, toB, tagB, q19, q21, q22]; done) | simp [isMessageB, calmB, toB, tagB, q19, q21, q22], HB.out⟩
    replace q22 := Classical.not_not.1 q22
    subst q22
    go_enter Try.func26, Try.ntmps26
    go_wp2_with fail
    refine (impl_named_calls f3 _).mono ?_
    rintro e w23 ⟨rfl, rfl⟩
    rcases Bool.eq_false_or_eq_true (inR f3 1 999999) with q23 | q23
    rotate_left
    · rw [q23]
      go_wp2
      all_goals go_ret
      all_goals exact ⟨by first | (refine congrArg (fun b => Ending.returned (Value.bool b)) (Eq.symm ?_); simp [isMessageB, calmB, toB, tagB, q19, q21, q23]; done) | simp [isMessageB, calmB, toB, tagB, q19, q21, q23], HB.out⟩
    rw [q23]
    go_wp2_with fail
    refine (impl_isWire_calls _ f6 _ mkrd_eWire).mono ?_
    rintro e w24 ⟨rfl, hb24⟩
    have HB24 := Lib.hid (HB.out.trans (hb24.mono HB.out.size))
    have K24 := Lib.hid (HK.out.below hb24)
    clear hb24
    obtain ⟨kc24, kf24⟩ := K24.out.rules
    have kl24 := K24.out.lt
    go_wp2
    all_goals go_ret
    all_goals exact ⟨by first | (refine congrArg (fun b => Ending.returned (Value.bool b)) (Eq.symm ?_); simp [isMessageB, calmB, toB, tagB, q19, q21, q23]; done) | simp [isMessageB, calmB, toB, tagB, q19, q21, q23], HB24.out⟩
  by_cases k3 : f0 = 3
  · subst k3
    have HK := Lib.hid (Blk.new w 29 #[.int .i64 3, .int .i64 f1, .int .i64 f2, .int .i64 f3, .string f4, .slice A f5.length c, .int .i64 f6.Kind, .int .i64 f6.N, .int .i64 f7, .int .i64 f8.Vat, .int .i64 f8.Entity, .int .i64 f8.Seq])
    by_cases q25 : ¬ f1 = 0
    · have qb25 : (f1 == 0) = false := by simpa using q25
      go_enter Try.func26, Try.ntmps26
      go_wp2
      all_goals go_ret
      all_goals exact ⟨by first | (refine congrArg (fun b => Ending.returned (Value.bool b)) (Eq.symm ?_); simp [isMessageB, calmB, toB, tagB, q25]; done) | simp [isMessageB, calmB, toB, tagB, q25], HB.out⟩
    replace q25 := Classical.not_not.1 q25
    subst q25
    by_cases q26 : ¬ f2 = 0
    · have qb26 : (f2 == 0) = false := by simpa using q26
      go_enter Try.func26, Try.ntmps26
      go_wp2
      all_goals go_ret
      all_goals exact ⟨by first | (refine congrArg (fun b => Ending.returned (Value.bool b)) (Eq.symm ?_); simp [isMessageB, calmB, toB, tagB, q26]; done) | simp [isMessageB, calmB, toB, tagB, q26], HB.out⟩
    replace q26 := Classical.not_not.1 q26
    subst q26
    by_cases q27 : ¬ f4.toList = []
    · have qb27 : (f4.toList == []) = false := by simpa using q27
      go_enter Try.func26, Try.ntmps26
      go_wp2
      all_goals go_ret
      all_goals exact ⟨by first | (refine congrArg (fun b => Ending.returned (Value.bool b)) (Eq.symm ?_); simp [isMessageB, calmB, toB, tagB, q27]; done) | simp [isMessageB, calmB, toB, tagB, q27], HB.out⟩
    replace q27 := Classical.not_not.1 q27
    by_cases q28 : ¬ f5 = []
    · have ql28 : 0 < f5.length := List.length_pos_iff.2 q28
      have qi28 : (0 : Int) < f5.length := by omega
      have qj28 : ((f5.length : Int) == 0) = false := by simp; omega
      go_enter Try.func26, Try.ntmps26
      go_wp2
      all_goals go_ret
      all_goals exact ⟨by first | (refine congrArg (fun b => Ending.returned (Value.bool b)) (Eq.symm ?_); simp [isMessageB, calmB, toB, tagB, q27, q28]; done) | simp [isMessageB, calmB, toB, tagB, q27, q28], HB.out⟩
    replace q28 := Classical.not_not.1 q28
    subst q28
    rcases Bool.eq_false_or_eq_true (eqbTag f8 zTag) with q29 | q29
    rotate_left
    · have he29 : ∀ w, Sem.run Try.prog (binOp .neq 27 (.agg #[.int .i64 f8.Vat, .int .i64 f8.Entity, .int .i64 f8.Seq]) (.agg #[.int .i64 0, .int .i64 0, .int .i64 0])) w = .ok (.bool true) w := fun w => by have h := run_neq_Tag f8 zTag w; rw [q29] at h; exact h
      go_enter Try.func26, Try.ntmps26
      go_wp2
      all_goals go_ret
      all_goals exact ⟨by first | (refine congrArg (fun b => Ending.returned (Value.bool b)) (Eq.symm ?_); simp [isMessageB, calmB, toB, tagB, q27, q29]; done) | simp [isMessageB, calmB, toB, tagB, q27, q29], HB.out⟩
    have he29 : ∀ w, Sem.run Try.prog (binOp .neq 27 (.agg #[.int .i64 f8.Vat, .int .i64 f8.Entity, .int .i64 f8.Seq]) (.agg #[.int .i64 0, .int .i64 0, .int .i64 0])) w = .ok (.bool false) w := fun w => by have h := run_neq_Tag f8 zTag w; rw [q29] at h; exact h
    rcases Bool.eq_false_or_eq_true (eqbWire f6 zWire) with q30 | q30
    rotate_left
    · have he30 : ∀ w, Sem.run Try.prog (binOp .neq 25 (.agg #[.int .i64 f6.Kind, .int .i64 f6.N]) (.agg #[.int .i64 0, .int .i64 0])) w = .ok (.bool true) w := fun w => by have h := run_neq_Wire f6 zWire w; rw [q30] at h; exact h
      go_enter Try.func26, Try.ntmps26
      go_wp2
      all_goals go_ret
      all_goals exact ⟨by first | (refine congrArg (fun b => Ending.returned (Value.bool b)) (Eq.symm ?_); simp [isMessageB, calmB, toB, tagB, q27, q29, q30]; done) | simp [isMessageB, calmB, toB, tagB, q27, q29, q30], HB.out⟩
    have he30 : ∀ w, Sem.run Try.prog (binOp .neq 25 (.agg #[.int .i64 f6.Kind, .int .i64 f6.N]) (.agg #[.int .i64 0, .int .i64 0])) w = .ok (.bool false) w := fun w => by have h := run_neq_Wire f6 zWire w; rw [q30] at h; exact h
    by_cases q31 : ¬ f7 = 0
    · have qb31 : (f7 == 0) = false := by simpa using q31
      go_enter Try.func26, Try.ntmps26
      go_wp2
      all_goals go_ret
      all_goals exact ⟨by first | (refine congrArg (fun b => Ending.returned (Value.bool b)) (Eq.symm ?_); simp [isMessageB, calmB, toB, tagB, q27, q29, q30, q31]; done) | simp [isMessageB, calmB, toB, tagB, q27, q29, q30, q31], HB.out⟩
    replace q31 := Classical.not_not.1 q31
    subst q31
    go_enter Try.func26, Try.ntmps26
    go_wp2_with fail
    refine (impl_named_calls f3 _).mono ?_
    rintro e w32 ⟨rfl, rfl⟩
    rcases Bool.eq_false_or_eq_true (inR f3 1 999999) with q32 | q32
    rotate_left
    · rw [q32]
      go_wp2
      all_goals go_ret
      all_goals exact ⟨by first | (refine congrArg (fun b => Ending.returned (Value.bool b)) (Eq.symm ?_); simp [isMessageB, calmB, toB, tagB, q27, q29, q30, q32]; done) | simp [isMessageB, calmB, toB, tagB, q27, q29, q30, q32], HB.out⟩
    rw [q32]
    go_wp2
    all_goals go_ret
    all_goals exact ⟨by first | (refine congrArg (fun b => Ending.returned (Value.bool b)) (Eq.symm ?_); simp [isMessageB, calmB, toB, tagB, q27, q29, q30, q32]; done) | simp [isMessageB, calmB, toB, tagB, q27, q29, q30, q32], HB.out⟩
  by_cases k4 : f0 = 4
  · subst k4
    have HK := Lib.hid (Blk.new w 29 #[.int .i64 4, .int .i64 f1, .int .i64 f2, .int .i64 f3, .string f4, .slice A f5.length c, .int .i64 f6.Kind, .int .i64 f6.N, .int .i64 f7, .int .i64 f8.Vat, .int .i64 f8.Entity, .int .i64 f8.Seq])
    by_cases q33 : ¬ f1 = 0
    · have qb33 : (f1 == 0) = false := by simpa using q33
      go_enter Try.func26, Try.ntmps26
      go_wp2
      all_goals go_ret
      all_goals exact ⟨by first | (refine congrArg (fun b => Ending.returned (Value.bool b)) (Eq.symm ?_); simp [isMessageB, calmB, toB, tagB, q33]; done) | simp [isMessageB, calmB, toB, tagB, q33], HB.out⟩
    replace q33 := Classical.not_not.1 q33
    subst q33
    by_cases q34 : ¬ f2 = 0
    · have qb34 : (f2 == 0) = false := by simpa using q34
      go_enter Try.func26, Try.ntmps26
      go_wp2
      all_goals go_ret
      all_goals exact ⟨by first | (refine congrArg (fun b => Ending.returned (Value.bool b)) (Eq.symm ?_); simp [isMessageB, calmB, toB, tagB, q34]; done) | simp [isMessageB, calmB, toB, tagB, q34], HB.out⟩
    replace q34 := Classical.not_not.1 q34
    subst q34
    by_cases q35 : ¬ f4.toList = []
    · have qb35 : (f4.toList == []) = false := by simpa using q35
      go_enter Try.func26, Try.ntmps26
      go_wp2
      all_goals go_ret
      all_goals exact ⟨by first | (refine congrArg (fun b => Ending.returned (Value.bool b)) (Eq.symm ?_); simp [isMessageB, calmB, toB, tagB, q35]; done) | simp [isMessageB, calmB, toB, tagB, q35], HB.out⟩
    replace q35 := Classical.not_not.1 q35
    by_cases q36 : ¬ f5 = []
    · have ql36 : 0 < f5.length := List.length_pos_iff.2 q36
      have qi36 : (0 : Int) < f5.length := by omega
      have qj36 : ((f5.length : Int) == 0) = false := by simp; omega
      go_enter Try.func26, Try.ntmps26
      go_wp2
      all_goals go_ret
      all_goals exact ⟨by first | (refine congrArg (fun b => Ending.returned (Value.bool b)) (Eq.symm ?_); simp [isMessageB, calmB, toB, tagB, q35, q36]; done) | simp [isMessageB, calmB, toB, tagB, q35, q36], HB.out⟩
    replace q36 := Classical.not_not.1 q36
    subst q36
    rcases Bool.eq_false_or_eq_true (eqbTag f8 zTag) with q37 | q37
    rotate_left
    · have he37 : ∀ w, Sem.run Try.prog (binOp .neq 27 (.agg #[.int .i64 f8.Vat, .int .i64 f8.Entity, .int .i64 f8.Seq]) (.agg #[.int .i64 0, .int .i64 0, .int .i64 0])) w = .ok (.bool true) w := fun w => by have h := run_neq_Tag f8 zTag w; rw [q37] at h; exact h
      go_enter Try.func26, Try.ntmps26
      go_wp2
      all_goals go_ret
      all_goals exact ⟨by first | (refine congrArg (fun b => Ending.returned (Value.bool b)) (Eq.symm ?_); simp [isMessageB, calmB, toB, tagB, q35, q37]; done) | simp [isMessageB, calmB, toB, tagB, q35, q37], HB.out⟩
    have he37 : ∀ w, Sem.run Try.prog (binOp .neq 27 (.agg #[.int .i64 f8.Vat, .int .i64 f8.Entity, .int .i64 f8.Seq]) (.agg #[.int .i64 0, .int .i64 0, .int .i64 0])) w = .ok (.bool false) w := fun w => by have h := run_neq_Tag f8 zTag w; rw [q37] at h; exact h
    rcases Bool.eq_false_or_eq_true (eqbWire f6 zWire) with q38 | q38
    rotate_left
    · have he38 : ∀ w, Sem.run Try.prog (binOp .neq 25 (.agg #[.int .i64 f6.Kind, .int .i64 f6.N]) (.agg #[.int .i64 0, .int .i64 0])) w = .ok (.bool true) w := fun w => by have h := run_neq_Wire f6 zWire w; rw [q38] at h; exact h
      go_enter Try.func26, Try.ntmps26
      go_wp2
      all_goals go_ret
      all_goals exact ⟨by first | (refine congrArg (fun b => Ending.returned (Value.bool b)) (Eq.symm ?_); simp [isMessageB, calmB, toB, tagB, q35, q37, q38]; done) | simp [isMessageB, calmB, toB, tagB, q35, q37, q38], HB.out⟩
    have he38 : ∀ w, Sem.run Try.prog (binOp .neq 25 (.agg #[.int .i64 f6.Kind, .int .i64 f6.N]) (.agg #[.int .i64 0, .int .i64 0])) w = .ok (.bool false) w := fun w => by have h := run_neq_Wire f6 zWire w; rw [q38] at h; exact h
    by_cases q39 : ¬ f7 = 0
    · have qb39 : (f7 == 0) = false := by simpa using q39
      go_enter Try.func26, Try.ntmps26
      go_wp2
      all_goals go_ret
      all_goals exact ⟨by first | (refine congrArg (fun b => Ending.returned (Value.bool b)) (Eq.symm ?_); simp [isMessageB, calmB, toB, tagB, q35, q37, q38, q39]; done) | simp [isMessageB, calmB, toB, tagB, q35, q37, q38, q39], HB.out⟩
    replace q39 := Classical.not_not.1 q39
    subst q39
    go_enter Try.func26, Try.ntmps26
    go_wp2_with fail
    refine (impl_named_calls f3 _).mono ?_
    rintro e w40 ⟨rfl, rfl⟩
    rcases Bool.eq_false_or_eq_true (inR f3 1 999999) with q40 | q40
    rotate_left
    · rw [q40]
      go_wp2
      all_goals go_ret
      all_goals exact ⟨by first | (refine congrArg (fun b => Ending.returned (Value.bool b)) (Eq.symm ?_); simp [isMessageB, calmB, toB, tagB, q35, q37, q38, q40]; done) | simp [isMessageB, calmB, toB, tagB, q35, q37, q38, q40], HB.out⟩
    rw [q40]
    go_wp2
    all_goals go_ret
    all_goals exact ⟨by first | (refine congrArg (fun b => Ending.returned (Value.bool b)) (Eq.symm ?_); simp [isMessageB, calmB, toB, tagB, q35, q37, q38, q40]; done) | simp [isMessageB, calmB, toB, tagB, q35, q37, q38, q40], HB.out⟩
  by_cases k5 : f0 = 5
  · subst k5
    have HK := Lib.hid (Blk.new w 29 #[.int .i64 5, .int .i64 f1, .int .i64 f2, .int .i64 f3, .string f4, .slice A f5.length c, .int .i64 f6.Kind, .int .i64 f6.N, .int .i64 f7, .int .i64 f8.Vat, .int .i64 f8.Entity, .int .i64 f8.Seq])
    by_cases q41 : ¬ f1 = 0
    · have qb41 : (f1 == 0) = false := by simpa using q41
      go_enter Try.func26, Try.ntmps26
      go_wp2
      all_goals go_ret
      all_goals exact ⟨by first | (refine congrArg (fun b => Ending.returned (Value.bool b)) (Eq.symm ?_); simp [isMessageB, calmB, toB, tagB, q41]; done) | simp [isMessageB, calmB, toB, tagB, q41], HB.out⟩
    replace q41 := Classical.not_not.1 q41
    subst q41
    by_cases q42 : ¬ f2 = 0
    · have qb42 : (f2 == 0) = false := by simpa using q42
      go_enter Try.func26, Try.ntmps26
      go_wp2
      all_goals go_ret
      all_goals exact ⟨by first | (refine congrArg (fun b => Ending.returned (Value.bool b)) (Eq.symm ?_); simp [isMessageB, calmB, toB, tagB, q42]; done) | simp [isMessageB, calmB, toB, tagB, q42], HB.out⟩
    replace q42 := Classical.not_not.1 q42
    subst q42
    by_cases q43 : ¬ f4.toList = []
    · have qb43 : (f4.toList == []) = false := by simpa using q43
      go_enter Try.func26, Try.ntmps26
      go_wp2
      all_goals go_ret
      all_goals exact ⟨by first | (refine congrArg (fun b => Ending.returned (Value.bool b)) (Eq.symm ?_); simp [isMessageB, calmB, toB, tagB, q43]; done) | simp [isMessageB, calmB, toB, tagB, q43], HB.out⟩
    replace q43 := Classical.not_not.1 q43
    by_cases q44 : ¬ f5 = []
    · have ql44 : 0 < f5.length := List.length_pos_iff.2 q44
      have qi44 : (0 : Int) < f5.length := by omega
      have qj44 : ((f5.length : Int) == 0) = false := by simp; omega
      go_enter Try.func26, Try.ntmps26
      go_wp2
      all_goals go_ret
      all_goals exact ⟨by first | (refine congrArg (fun b => Ending.returned (Value.bool b)) (Eq.symm ?_); simp [isMessageB, calmB, toB, tagB, q43, q44]; done) | simp [isMessageB, calmB, toB, tagB, q43, q44], HB.out⟩
    replace q44 := Classical.not_not.1 q44
    subst q44
    rcases Bool.eq_false_or_eq_true (eqbTag f8 zTag) with q45 | q45
    rotate_left
    · have he45 : ∀ w, Sem.run Try.prog (binOp .neq 27 (.agg #[.int .i64 f8.Vat, .int .i64 f8.Entity, .int .i64 f8.Seq]) (.agg #[.int .i64 0, .int .i64 0, .int .i64 0])) w = .ok (.bool true) w := fun w => by have h := run_neq_Tag f8 zTag w; rw [q45] at h; exact h
      go_enter Try.func26, Try.ntmps26
      go_wp2
      all_goals go_ret
      all_goals exact ⟨by first | (refine congrArg (fun b => Ending.returned (Value.bool b)) (Eq.symm ?_); simp [isMessageB, calmB, toB, tagB, q43, q45]; done) | simp [isMessageB, calmB, toB, tagB, q43, q45], HB.out⟩
    have he45 : ∀ w, Sem.run Try.prog (binOp .neq 27 (.agg #[.int .i64 f8.Vat, .int .i64 f8.Entity, .int .i64 f8.Seq]) (.agg #[.int .i64 0, .int .i64 0, .int .i64 0])) w = .ok (.bool false) w := fun w => by have h := run_neq_Tag f8 zTag w; rw [q45] at h; exact h
    rcases Bool.eq_false_or_eq_true (eqbWire f6 zWire) with q46 | q46
    rotate_left
    · have he46 : ∀ w, Sem.run Try.prog (binOp .neq 25 (.agg #[.int .i64 f6.Kind, .int .i64 f6.N]) (.agg #[.int .i64 0, .int .i64 0])) w = .ok (.bool true) w := fun w => by have h := run_neq_Wire f6 zWire w; rw [q46] at h; exact h
      go_enter Try.func26, Try.ntmps26
      go_wp2
      all_goals go_ret
      all_goals exact ⟨by first | (refine congrArg (fun b => Ending.returned (Value.bool b)) (Eq.symm ?_); simp [isMessageB, calmB, toB, tagB, q43, q45, q46]; done) | simp [isMessageB, calmB, toB, tagB, q43, q45, q46], HB.out⟩
    have he46 : ∀ w, Sem.run Try.prog (binOp .neq 25 (.agg #[.int .i64 f6.Kind, .int .i64 f6.N]) (.agg #[.int .i64 0, .int .i64 0])) w = .ok (.bool false) w := fun w => by have h := run_neq_Wire f6 zWire w; rw [q46] at h; exact h
    by_cases q47 : ¬ f7 = 0
    · have qb47 : (f7 == 0) = false := by simpa using q47
      go_enter Try.func26, Try.ntmps26
      go_wp2
      all_goals go_ret
      all_goals exact ⟨by first | (refine congrArg (fun b => Ending.returned (Value.bool b)) (Eq.symm ?_); simp [isMessageB, calmB, toB, tagB, q43, q45, q46, q47]; done) | simp [isMessageB, calmB, toB, tagB, q43, q45, q46, q47], HB.out⟩
    replace q47 := Classical.not_not.1 q47
    subst q47
    go_enter Try.func26, Try.ntmps26
    go_wp2_with fail
    refine (impl_named_calls f3 _).mono ?_
    rintro e w48 ⟨rfl, rfl⟩
    rcases Bool.eq_false_or_eq_true (inR f3 1 999999) with q48 | q48
    rotate_left
    · rw [q48]
      go_wp2
      all_goals go_ret
      all_goals exact ⟨by first | (refine congrArg (fun b => Ending.returned (Value.bool b)) (Eq.symm ?_); simp [isMessageB, calmB, toB, tagB, q43, q45, q46, q48]; done) | simp [isMessageB, calmB, toB, tagB, q43, q45, q46, q48], HB.out⟩
    rw [q48]
    go_wp2
    all_goals go_ret
    all_goals exact ⟨by first | (refine congrArg (fun b => Ending.returned (Value.bool b)) (Eq.symm ?_); simp [isMessageB, calmB, toB, tagB, q43, q45, q46, q48]; done) | simp [isMessageB, calmB, toB, tagB, q43, q45, q46, q48], HB.out⟩
  by_cases k6 : f0 = 6
  · subst k6
    have HK := Lib.hid (Blk.new w 29 #[.int .i64 6, .int .i64 f1, .int .i64 f2, .int .i64 f3, .string f4, .slice A f5.length c, .int .i64 f6.Kind, .int .i64 f6.N, .int .i64 f7, .int .i64 f8.Vat, .int .i64 f8.Entity, .int .i64 f8.Seq])
    by_cases q49 : f1 = 0
    · subst q49
      by_cases q50 : ¬ f2 = 0
      · have qb50 : (f2 == 0) = false := by simpa using q50
        go_enter Try.func26, Try.ntmps26
        go_wp2
        all_goals go_ret
        all_goals exact ⟨by first | (refine congrArg (fun b => Ending.returned (Value.bool b)) (Eq.symm ?_); simp [isMessageB, calmB, toB, tagB, q50]; done) | simp [isMessageB, calmB, toB, tagB, q50], HB.out⟩
      replace q50 := Classical.not_not.1 q50
      subst q50
      by_cases q51 : ¬ f4.toList = []
      · have qb51 : (f4.toList == []) = false := by simpa using q51
        go_enter Try.func26, Try.ntmps26
        go_wp2
        all_goals go_ret
        all_goals exact ⟨by first | (refine congrArg (fun b => Ending.returned (Value.bool b)) (Eq.symm ?_); simp [isMessageB, calmB, toB, tagB, q51]; done) | simp [isMessageB, calmB, toB, tagB, q51], HB.out⟩
      replace q51 := Classical.not_not.1 q51
      by_cases q52 : ¬ f5 = []
      · have ql52 : 0 < f5.length := List.length_pos_iff.2 q52
        have qi52 : (0 : Int) < f5.length := by omega
        have qj52 : ((f5.length : Int) == 0) = false := by simp; omega
        go_enter Try.func26, Try.ntmps26
        go_wp2
        all_goals go_ret
        all_goals exact ⟨by first | (refine congrArg (fun b => Ending.returned (Value.bool b)) (Eq.symm ?_); simp [isMessageB, calmB, toB, tagB, q51, q52]; done) | simp [isMessageB, calmB, toB, tagB, q51, q52], HB.out⟩
      replace q52 := Classical.not_not.1 q52
      subst q52
      rcases Bool.eq_false_or_eq_true (eqbTag f8 zTag) with q53 | q53
      rotate_left
      · have he53 : ∀ w, Sem.run Try.prog (binOp .neq 27 (.agg #[.int .i64 f8.Vat, .int .i64 f8.Entity, .int .i64 f8.Seq]) (.agg #[.int .i64 0, .int .i64 0, .int .i64 0])) w = .ok (.bool true) w := fun w => by have h := run_neq_Tag f8 zTag w; rw [q53] at h; exact h
        go_enter Try.func26, Try.ntmps26
        go_wp2
        all_goals go_ret
        all_goals exact ⟨by first | (refine congrArg (fun b => Ending.returned (Value.bool b)) (Eq.symm ?_); simp [isMessageB, calmB, toB, tagB, q51, q53]; done) | simp [isMessageB, calmB, toB, tagB, q51, q53], HB.out⟩
      have he53 : ∀ w, Sem.run Try.prog (binOp .neq 27 (.agg #[.int .i64 f8.Vat, .int .i64 f8.Entity, .int .i64 f8.Seq]) (.agg #[.int .i64 0, .int .i64 0, .int .i64 0])) w = .ok (.bool false) w := fun w => by have h := run_neq_Tag f8 zTag w; rw [q53] at h; exact h
      rcases Bool.eq_false_or_eq_true (eqbWire f6 zWire) with q54 | q54
      rotate_left
      · have he54 : ∀ w, Sem.run Try.prog (binOp .neq 25 (.agg #[.int .i64 f6.Kind, .int .i64 f6.N]) (.agg #[.int .i64 0, .int .i64 0])) w = .ok (.bool true) w := fun w => by have h := run_neq_Wire f6 zWire w; rw [q54] at h; exact h
        go_enter Try.func26, Try.ntmps26
        go_wp2
        all_goals go_ret
        all_goals exact ⟨by first | (refine congrArg (fun b => Ending.returned (Value.bool b)) (Eq.symm ?_); simp [isMessageB, calmB, toB, tagB, q51, q53, q54]; done) | simp [isMessageB, calmB, toB, tagB, q51, q53, q54], HB.out⟩
      have he54 : ∀ w, Sem.run Try.prog (binOp .neq 25 (.agg #[.int .i64 f6.Kind, .int .i64 f6.N]) (.agg #[.int .i64 0, .int .i64 0])) w = .ok (.bool false) w := fun w => by have h := run_neq_Wire f6 zWire w; rw [q54] at h; exact h
      by_cases q55 : ¬ f3 = 0
      · have qb55 : (f3 == 0) = false := by simpa using q55
        go_enter Try.func26, Try.ntmps26
        go_wp2
        all_goals go_ret
        all_goals exact ⟨by first | (refine congrArg (fun b => Ending.returned (Value.bool b)) (Eq.symm ?_); simp [isMessageB, calmB, toB, tagB, q51, q53, q54, q55]; done) | simp [isMessageB, calmB, toB, tagB, q51, q53, q54, q55], HB.out⟩
      replace q55 := Classical.not_not.1 q55
      subst q55
      go_enter Try.func26, Try.ntmps26
      go_wp2_with fail
      refine (impl_named_calls 0 _).mono ?_
      rintro e w56 ⟨rfl, rfl⟩
      rcases Bool.eq_false_or_eq_true (inR 0 1 999999) with q56 | q56
      rotate_left
      · rw [q56]
        go_wp2
        all_goals go_ret
        all_goals exact ⟨by first | (refine congrArg (fun b => Ending.returned (Value.bool b)) (Eq.symm ?_); simp [isMessageB, calmB, toB, tagB, q51, q53, q54, q56]; done) | simp [isMessageB, calmB, toB, tagB, q51, q53, q54, q56], HB.out⟩
      rw [q56]
      go_wp2_with fail
      refine (impl_named_calls f7 _).mono ?_
      rintro e w57 ⟨rfl, rfl⟩
      go_wp2
      all_goals go_ret
      all_goals exact ⟨by first | (refine congrArg (fun b => Ending.returned (Value.bool b)) (Eq.symm ?_); simp [isMessageB, calmB, toB, tagB, q51, q53, q54, q56]; done) | simp [isMessageB, calmB, toB, tagB, q51, q53, q54, q56], HB.out⟩
    have qb49 : (f1 == 0) = false := by simpa using q49
    by_cases q58 : ¬ f2 = 0
    · have qb58 : (f2 == 0) = false := by simpa using q58
      go_enter Try.func26, Try.ntmps26
      go_wp2
      all_goals go_ret
      all_goals exact ⟨by first | (refine congrArg (fun b => Ending.returned (Value.bool b)) (Eq.symm ?_); simp [isMessageB, calmB, toB, tagB, q49, q58]; done) | simp [isMessageB, calmB, toB, tagB, q49, q58], HB.out⟩
    replace q58 := Classical.not_not.1 q58
    subst q58
    by_cases q59 : ¬ f4.toList = []
    · have qb59 : (f4.toList == []) = false := by simpa using q59
      go_enter Try.func26, Try.ntmps26
      go_wp2
      all_goals go_ret
      all_goals exact ⟨by first | (refine congrArg (fun b => Ending.returned (Value.bool b)) (Eq.symm ?_); simp [isMessageB, calmB, toB, tagB, q49, q59]; done) | simp [isMessageB, calmB, toB, tagB, q49, q59], HB.out⟩
    replace q59 := Classical.not_not.1 q59
    by_cases q60 : ¬ f5 = []
    · have ql60 : 0 < f5.length := List.length_pos_iff.2 q60
      have qi60 : (0 : Int) < f5.length := by omega
      have qj60 : ((f5.length : Int) == 0) = false := by simp; omega
      go_enter Try.func26, Try.ntmps26
      go_wp2
      all_goals go_ret
      all_goals exact ⟨by first | (refine congrArg (fun b => Ending.returned (Value.bool b)) (Eq.symm ?_); simp [isMessageB, calmB, toB, tagB, q49, q59, q60]; done) | simp [isMessageB, calmB, toB, tagB, q49, q59, q60], HB.out⟩
    replace q60 := Classical.not_not.1 q60
    subst q60
    rcases Bool.eq_false_or_eq_true (eqbTag f8 zTag) with q61 | q61
    rotate_left
    · have he61 : ∀ w, Sem.run Try.prog (binOp .neq 27 (.agg #[.int .i64 f8.Vat, .int .i64 f8.Entity, .int .i64 f8.Seq]) (.agg #[.int .i64 0, .int .i64 0, .int .i64 0])) w = .ok (.bool true) w := fun w => by have h := run_neq_Tag f8 zTag w; rw [q61] at h; exact h
      go_enter Try.func26, Try.ntmps26
      go_wp2
      all_goals go_ret
      all_goals exact ⟨by first | (refine congrArg (fun b => Ending.returned (Value.bool b)) (Eq.symm ?_); simp [isMessageB, calmB, toB, tagB, q49, q59, q61]; done) | simp [isMessageB, calmB, toB, tagB, q49, q59, q61], HB.out⟩
    have he61 : ∀ w, Sem.run Try.prog (binOp .neq 27 (.agg #[.int .i64 f8.Vat, .int .i64 f8.Entity, .int .i64 f8.Seq]) (.agg #[.int .i64 0, .int .i64 0, .int .i64 0])) w = .ok (.bool false) w := fun w => by have h := run_neq_Tag f8 zTag w; rw [q61] at h; exact h
    rcases Bool.eq_false_or_eq_true (eqbWire f6 zWire) with q62 | q62
    rotate_left
    · have he62 : ∀ w, Sem.run Try.prog (binOp .neq 25 (.agg #[.int .i64 f6.Kind, .int .i64 f6.N]) (.agg #[.int .i64 0, .int .i64 0])) w = .ok (.bool true) w := fun w => by have h := run_neq_Wire f6 zWire w; rw [q62] at h; exact h
      go_enter Try.func26, Try.ntmps26
      go_wp2
      all_goals go_ret
      all_goals exact ⟨by first | (refine congrArg (fun b => Ending.returned (Value.bool b)) (Eq.symm ?_); simp [isMessageB, calmB, toB, tagB, q49, q59, q61, q62]; done) | simp [isMessageB, calmB, toB, tagB, q49, q59, q61, q62], HB.out⟩
    have he62 : ∀ w, Sem.run Try.prog (binOp .neq 25 (.agg #[.int .i64 f6.Kind, .int .i64 f6.N]) (.agg #[.int .i64 0, .int .i64 0])) w = .ok (.bool false) w := fun w => by have h := run_neq_Wire f6 zWire w; rw [q62] at h; exact h
    by_cases q63 : ¬ f3 = 0
    · have qb63 : (f3 == 0) = false := by simpa using q63
      go_enter Try.func26, Try.ntmps26
      go_wp2
      all_goals go_ret
      all_goals exact ⟨by first | (refine congrArg (fun b => Ending.returned (Value.bool b)) (Eq.symm ?_); simp [isMessageB, calmB, toB, tagB, q49, q59, q61, q62, q63]; done) | simp [isMessageB, calmB, toB, tagB, q49, q59, q61, q62, q63], HB.out⟩
    replace q63 := Classical.not_not.1 q63
    subst q63
    go_enter Try.func26, Try.ntmps26
    go_wp2_with fail
    refine (impl_named_calls f1 _).mono ?_
    rintro e w64 ⟨rfl, rfl⟩
    rcases Bool.eq_false_or_eq_true (inR f1 1 999999) with q64 | q64
    rotate_left
    · rw [q64]
      go_wp2
      all_goals go_ret
      all_goals exact ⟨by first | (refine congrArg (fun b => Ending.returned (Value.bool b)) (Eq.symm ?_); simp [isMessageB, calmB, toB, tagB, q49, q59, q61, q62, q64]; done) | simp [isMessageB, calmB, toB, tagB, q49, q59, q61, q62, q64], HB.out⟩
    rw [q64]
    go_wp2_with fail
    refine (impl_named_calls f7 _).mono ?_
    rintro e w65 ⟨rfl, rfl⟩
    go_wp2
    all_goals go_ret
    all_goals exact ⟨by first | (refine congrArg (fun b => Ending.returned (Value.bool b)) (Eq.symm ?_); simp [isMessageB, calmB, toB, tagB, q49, q59, q61, q62, q64]; done) | simp [isMessageB, calmB, toB, tagB, q49, q59, q61, q62, q64], HB.out⟩
  have kb : (f0 == 1) = false ∧ (f0 == 2) = false ∧ (f0 == 3) = false ∧ (f0 == 4) = false ∧ (f0 == 5) = false ∧ (f0 == 6) = false := by simp [k1, k2, k3, k4, k5, k6]
  obtain ⟨kb1, kb2, kb3, kb4, kb5, kb6⟩ := kb
  have HK := Lib.hid (Blk.new w 29 #[.int .i64 f0, .int .i64 f1, .int .i64 f2, .int .i64 f3, .string f4, .slice A f5.length c, .int .i64 f6.Kind, .int .i64 f6.N, .int .i64 f7, .int .i64 f8.Vat, .int .i64 f8.Entity, .int .i64 f8.Seq])
  by_cases q66 : ¬ f1 = 0
  · have qb66 : (f1 == 0) = false := by simpa using q66
    go_enter Try.func26, Try.ntmps26
    go_wp2
    all_goals go_ret
    all_goals exact ⟨by first | (refine congrArg (fun b => Ending.returned (Value.bool b)) (Eq.symm ?_); simp [isMessageB, calmB, toB, tagB, k1, k2, k3, k4, k5, k6, q66]; done) | simp [isMessageB, calmB, toB, tagB, k1, k2, k3, k4, k5, k6, q66], HB.out⟩
  replace q66 := Classical.not_not.1 q66
  subst q66
  by_cases q67 : ¬ f2 = 0
  · have qb67 : (f2 == 0) = false := by simpa using q67
    go_enter Try.func26, Try.ntmps26
    go_wp2
    all_goals go_ret
    all_goals exact ⟨by first | (refine congrArg (fun b => Ending.returned (Value.bool b)) (Eq.symm ?_); simp [isMessageB, calmB, toB, tagB, k1, k2, k3, k4, k5, k6, q67]; done) | simp [isMessageB, calmB, toB, tagB, k1, k2, k3, k4, k5, k6, q67], HB.out⟩
  replace q67 := Classical.not_not.1 q67
  subst q67
  by_cases q68 : ¬ f4.toList = []
  · have qb68 : (f4.toList == []) = false := by simpa using q68
    go_enter Try.func26, Try.ntmps26
    go_wp2
    all_goals go_ret
    all_goals exact ⟨by first | (refine congrArg (fun b => Ending.returned (Value.bool b)) (Eq.symm ?_); simp [isMessageB, calmB, toB, tagB, k1, k2, k3, k4, k5, k6, q68]; done) | simp [isMessageB, calmB, toB, tagB, k1, k2, k3, k4, k5, k6, q68], HB.out⟩
  replace q68 := Classical.not_not.1 q68
  by_cases q69 : ¬ f5 = []
  · have ql69 : 0 < f5.length := List.length_pos_iff.2 q69
    have qi69 : (0 : Int) < f5.length := by omega
    have qj69 : ((f5.length : Int) == 0) = false := by simp; omega
    go_enter Try.func26, Try.ntmps26
    go_wp2
    all_goals go_ret
    all_goals exact ⟨by first | (refine congrArg (fun b => Ending.returned (Value.bool b)) (Eq.symm ?_); simp [isMessageB, calmB, toB, tagB, k1, k2, k3, k4, k5, k6, q68, q69]; done) | simp [isMessageB, calmB, toB, tagB, k1, k2, k3, k4, k5, k6, q68, q69], HB.out⟩
  replace q69 := Classical.not_not.1 q69
  subst q69
  rcases Bool.eq_false_or_eq_true (eqbTag f8 zTag) with q70 | q70
  rotate_left
  · have he70 : ∀ w, Sem.run Try.prog (binOp .neq 27 (.agg #[.int .i64 f8.Vat, .int .i64 f8.Entity, .int .i64 f8.Seq]) (.agg #[.int .i64 0, .int .i64 0, .int .i64 0])) w = .ok (.bool true) w := fun w => by have h := run_neq_Tag f8 zTag w; rw [q70] at h; exact h
    go_enter Try.func26, Try.ntmps26
    go_wp2
    all_goals go_ret
    all_goals exact ⟨by first | (refine congrArg (fun b => Ending.returned (Value.bool b)) (Eq.symm ?_); simp [isMessageB, calmB, toB, tagB, k1, k2, k3, k4, k5, k6, q68, q70]; done) | simp [isMessageB, calmB, toB, tagB, k1, k2, k3, k4, k5, k6, q68, q70], HB.out⟩
  have he70 : ∀ w, Sem.run Try.prog (binOp .neq 27 (.agg #[.int .i64 f8.Vat, .int .i64 f8.Entity, .int .i64 f8.Seq]) (.agg #[.int .i64 0, .int .i64 0, .int .i64 0])) w = .ok (.bool false) w := fun w => by have h := run_neq_Tag f8 zTag w; rw [q70] at h; exact h
  rcases Bool.eq_false_or_eq_true (eqbWire f6 zWire) with q71 | q71
  rotate_left
  · have he71 : ∀ w, Sem.run Try.prog (binOp .neq 25 (.agg #[.int .i64 f6.Kind, .int .i64 f6.N]) (.agg #[.int .i64 0, .int .i64 0])) w = .ok (.bool true) w := fun w => by have h := run_neq_Wire f6 zWire w; rw [q71] at h; exact h
    go_enter Try.func26, Try.ntmps26
    go_wp2
    all_goals go_ret
    all_goals exact ⟨by first | (refine congrArg (fun b => Ending.returned (Value.bool b)) (Eq.symm ?_); simp [isMessageB, calmB, toB, tagB, k1, k2, k3, k4, k5, k6, q68, q70, q71]; done) | simp [isMessageB, calmB, toB, tagB, k1, k2, k3, k4, k5, k6, q68, q70, q71], HB.out⟩
  have he71 : ∀ w, Sem.run Try.prog (binOp .neq 25 (.agg #[.int .i64 f6.Kind, .int .i64 f6.N]) (.agg #[.int .i64 0, .int .i64 0])) w = .ok (.bool false) w := fun w => by have h := run_neq_Wire f6 zWire w; rw [q71] at h; exact h
  by_cases q72 : ¬ f7 = 0
  · have qb72 : (f7 == 0) = false := by simpa using q72
    go_enter Try.func26, Try.ntmps26
    go_wp2
    all_goals go_ret
    all_goals exact ⟨by first | (refine congrArg (fun b => Ending.returned (Value.bool b)) (Eq.symm ?_); simp [isMessageB, calmB, toB, tagB, k1, k2, k3, k4, k5, k6, q68, q70, q71, q72]; done) | simp [isMessageB, calmB, toB, tagB, k1, k2, k3, k4, k5, k6, q68, q70, q71, q72], HB.out⟩
  replace q72 := Classical.not_not.1 q72
  subst q72
  go_enter Try.func26, Try.ntmps26
  go_wp2
  all_goals go_ret
  all_goals exact ⟨by first | (refine congrArg (fun b => Ending.returned (Value.bool b)) (Eq.symm ?_); simp [isMessageB, calmB, toB, tagB, k1, k2, k3, k4, k5, k6, q68, q70, q71]; done) | simp [isMessageB, calmB, toB, tagB, k1, k2, k3, k4, k5, k6, q68, q70, q71], HB.out⟩
set_option maxHeartbeats 800000 in
theorem impl_IsMessage_calls (us : List Value) (x : GMessage) (w : World) (hr : RdLW w (eMessage x) us) (hz : sizL (eMessage x) ≤ 1048576) :
    Calls Try.prog 19 #[.agg us.toArray] w fun e w' => e = .returned (.bool (isMessageB x)) ∧ Below w.heap.size w w' := by
  have hcon := Lib.hid (impl_isMessage_calls us x (w.alloc (.cells us.toArray 29)) (hr.below ((Below.refl _ _).alloc (Nat.le_refl _) _)) hz)
  obtain ⟨v5, rfl, h5⟩ := rd_eMessage hr
  obtain ⟨A5, c5, rfl, -⟩ := h5.slice
  clear hr h5
  go_enter Try.func19, Try.ntmps19
  go_wp2_with fail
  refine hcon.out.mono ?_
  rintro e w1 ⟨rfl, hb1⟩
  go_wp2
  go_ret
  exact ⟨rfl, ((Below.refl _ _).alloc (Nat.le_refl _) _).trans (hb1.mono (by simp only [size_alloc]; omega))⟩

end Go.Proofs.Ytklbpjnpmbidiaa
