import Derived.Test.YtklbpjnpmbidiaaProg
import Derived.Test.YtklbpjnpmbidiaaTypes
import Derived.StillTailTactics
import Derived.Deep.RegionHeld3
import Derived.Laws.IdiomStrings
import Derived.Test.YtklbpjnpmbidiaaAppend
import Derived.Laws.StructEq
import Derived.Lib.SliceRun
import Derived.Shelf.RegionOpenPlain
import Derived.Test.YtklbpjnpmbidiaaIsMsg
import Derived.Test.YtklbpjnpmbidiaaMessage
namespace Go.Proofs.Ytklbpjnpmbidiaa
open Go.RowKit
set_option linter.unusedVariables false
set_option linter.unusedSimpArgs false

set_option maxHeartbeats 12800000 in
set_option maxRecDepth 100000 in
theorem spec_IsMessage_calls (us : List Value) (x : GMessage) (w : World) (hr : RdLW w (eMessage x) us) (hz : sizL (eMessage x) ≤ 1048576) :
    Calls Try.prog 16 #[.agg us.toArray] w fun e w' => e = .returned (.bool (isMessageB x)) ∧ Below w.heap.size w w' := by
  rw [siz_eMessage] at hz
  obtain ⟨v5, rfl, h5⟩ := rd_eMessage hr
  obtain ⟨A, c, rfl, ⟨_, _, hl⟩⟩ := h5.slice
  obtain ⟨f0, f1, f2, f3, f4, f5, f6, f7, f8⟩ := x
  dsimp only at h5 hl hz ⊢
  have HR := Lib.hid h5
  have hs4 : f4.size ≤ 140737488355328 := by omega
  clear hr h5
  have HB := Lib.hid (((Below.refl w.heap.size w).alloc (Nat.le_refl _) (.cells #[.int .i64 f0, .int .i64 f1, .int .i64 f2, .int .i64 f3, .string f4, .slice A f5.length c, .int .i64 f6.Kind, .int .i64 f6.N, .int .i64 f7, .int .i64 f8.Vat, .int .i64 f8.Entity, .int .i64 f8.Seq] 29)))
  by_cases k1 : f0 = 1
  · subst k1
    have HK := Lib.hid (Blk.new w 29 #[.int .i64 1, .int .i64 f1, .int .i64 f2, .int .i64 f3, .string f4, .slice A f5.length c, .int .i64 f6.Kind, .int .i64 f6.N, .int .i64 f7, .int .i64 f8.Vat, .int .i64 f8.Entity, .int .i64 f8.Seq])
    have HB2 := Lib.hid (HB.out.alloc (by simp) (.cells #[.int .i64 0, .int .i64 0] 25))
    have HK2 := Lib.hid (HK.out.alloc (.cells #[.int .i64 0, .int .i64 0] 25))
    by_cases q1 : ¬ f2 = 0
    · have qb1 : (f2 == 0) = false := by first | (simpa using q1) | (simp; omega)
      go_enter Try.func16, Try.ntmps16
      go_wp2
      go_loopw [5] (fun b wr => ∃ j : Nat, j ≤ f5.length ∧ b = .int .i64 j ∧ Hid (Below w.heap.size w wr) ∧ Hid (Blk wr w.heap.size 29 #[.int .i64 1, .int .i64 f1, .int .i64 f2, .int .i64 f3, .string f4, .slice A f5.length c, .int .i64 f6.Kind, .int .i64 f6.N, .int .i64 f7, .int .i64 f8.Vat, .int .i64 f8.Entity, .int .i64 f8.Seq]) ∧ Hid (Blk wr (w.heap.size + 1) 25 #[.int .i64 0, .int .i64 0]) ∧ Hid (∀ k y, k < j → f5[k]? = some y → (!isWireB y) = false)) (fun b wr => f5.length - (intOf b).toNat)
      case atStart => exact ⟨0, by omega, rfl, HB.out.alloc (by simp) _, (Blk.new _ _ _).alloc _, Blk.made (by simp), no_start⟩
      case round =>
        obtain ⟨j, hj, rfl, HW, KM, KN, hno⟩ := hrel
        obtain ⟨kc, kf⟩ := KM.out.rules
        obtain ⟨kd, ke⟩ := KN.out.rules
        have kl := KM.out.lt
        have kl2 := KN.out.lt
        by_cases hlt : j < f5.length
        · obtain ⟨y, hy⟩ : ∃ y, f5[j]? = some y := ⟨f5[j], List.getElem?_eq_getElem hlt⟩
          obtain ⟨ad, rfl, hab, h0, h1⟩ := row_eWire (HR.out.below HW.out) hy
          have hab' : (ad.add (j * 2)).block < wr.heap.size := by rw [block_of_add]; exact hab
          have HX := Lib.hid hy
          clear hy
          go_wp2_with fail
          refine (spec_IsWire_calls _ y _ mkrd_eWire).mono ?_
          rintro e w1 ⟨rfl, hb1⟩
          have HW1 := Lib.hid (HW.out.trans (hb1.mono HW.out.size))
          have KM1 := Lib.hid (KM.out.below hb1)
          have KN1 := Lib.hid (KN.out.below hb1)
          clear hb1
          cases hq : isWireB y with
          | false =>
            have HA : Hid (badB f5 = true) := Lib.hid (any_hit HX.out (by simp [hq]))
            go_wp2
            go_ret
            exact ⟨by first | (refine congrArg (fun b => Ending.returned (Value.bool b)) (Eq.symm ?_); simp [isMessageB, HA.out]; done) | simp [isMessageB, HA.out], HW1.out⟩
          | true =>
            have HN := Lib.hid (step_no (p := fun y => (!isWireB y) = false) hno.out HX.out (by simp [hq]))
            go_wp2
            go_roundw
            case rel => exact ⟨j + 1, by omega, by go_num, HW1, KM1, KN1, HN⟩
            case measure => simp [intOf]; omega
        · have : j = f5.length := by omega
          subst this
          have HA : badB f5 = false := any_miss (all_of (p := fun y => (!isWireB y) = false) hno.out)
          clear hno
          go_wp2_with fail
          refine (spec_l11One_calls f1 _).mono ?_
          rintro e w2 ⟨rfl, rfl⟩
          rcases Bool.eq_false_or_eq_true (inR f1 1 999999) with q2 | q2
          rotate_left
          · rw [q2]
            go_wp2_with fail
            refine (spec_l11One_calls f2 _).mono ?_
            rintro e w3 ⟨rfl, rfl⟩
            rcases Bool.eq_false_or_eq_true (inR f2 1 999999) with q3 | q3
            rotate_left
            · rw [q3]
              go_wp2
              all_goals go_ret
              all_goals exact ⟨by first | (refine congrArg (fun b => Ending.returned (Value.bool b)) (Eq.symm ?_); simp [isMessageB, calmB, toB, tagB, q1, HA, q2, q3]; done) | simp [isMessageB, calmB, toB, tagB, q1, HA, q2, q3], HW.out⟩
            rw [q3]
            by_cases q4 : ¬ f1 = 0
            · have qb4 : (f1 == 0) = false := by simpa using q4
              go_wp2
              all_goals go_ret
              all_goals exact ⟨by first | (refine congrArg (fun b => Ending.returned (Value.bool b)) (Eq.symm ?_); simp [isMessageB, calmB, toB, tagB, q1, HA, q2, q3, q4]; done) | simp [isMessageB, calmB, toB, tagB, q1, HA, q2, q3, q4], HW.out⟩
            replace q4 := Classical.not_not.1 q4
            subst q4
            go_wp2_with fail
            refine (spec_l11One_calls f3 _).mono ?_
            rintro e w5 ⟨rfl, rfl⟩
            rcases Bool.eq_false_or_eq_true (inR f3 1 999999) with q5 | q5
            rotate_left
            · rw [q5]
              go_wp2
              all_goals go_ret
              all_goals exact ⟨by first | (refine congrArg (fun b => Ending.returned (Value.bool b)) (Eq.symm ?_); simp [isMessageB, calmB, toB, tagB, q1, HA, q2, q3, q5]; done) | simp [isMessageB, calmB, toB, tagB, q1, HA, q2, q3, q5], HW.out⟩
            rw [q5]
            go_wp2_with fail
            refine (spec_IsName_calls f4 _ hs4).mono ?_
            rintro e w6 ⟨rfl, rfl⟩
            rcases Bool.eq_false_or_eq_true (nameB f4) with q6 | q6
            rotate_left
            · rw [q6]
              go_wp2
              all_goals go_ret
              all_goals exact ⟨by first | (refine congrArg (fun b => Ending.returned (Value.bool b)) (Eq.symm ?_); simp [isMessageB, calmB, toB, tagB, q1, HA, q2, q3, q5, q6]; done) | simp [isMessageB, calmB, toB, tagB, q1, HA, q2, q3, q5, q6], HW.out⟩
            rw [q6]
            by_cases q7 : ¬ f5.length ≤ 2
            · have qi7 : ¬ ((f5.length : Int) ≤ 2) := by omega
              go_wp2
              all_goals go_ret
              all_goals exact ⟨by first | (refine congrArg (fun b => Ending.returned (Value.bool b)) (Eq.symm ?_); simp [isMessageB, calmB, toB, tagB, q1, HA, q2, q3, q5, q6, q7]; done) | simp [isMessageB, calmB, toB, tagB, q1, HA, q2, q3, q5, q6, q7], HW.out⟩
            replace q7 := Classical.not_not.1 q7
            have qi7 : (f5.length : Int) ≤ 2 := by omega
            rcases Bool.eq_false_or_eq_true (eqbWire f6 zWire) with q8 | q8
            rotate_left
            · have he8 : ∀ w, Sem.run Try.prog (binOp .eql 25 (.agg #[.int .i64 f6.Kind, .int .i64 f6.N]) (.agg #[.int .i64 0, .int .i64 0])) w = .ok (.bool false) w := fun w => by have h := run_eql_Wire f6 zWire w; rw [q8] at h; exact h
              go_wp2
              all_goals go_ret
              all_goals exact ⟨by first | (refine congrArg (fun b => Ending.returned (Value.bool b)) (Eq.symm ?_); simp [isMessageB, calmB, toB, tagB, q1, HA, q2, q3, q5, q6, q7, q8]; done) | simp [isMessageB, calmB, toB, tagB, q1, HA, q2, q3, q5, q6, q7, q8], HW.out⟩
            have he8 : ∀ w, Sem.run Try.prog (binOp .eql 25 (.agg #[.int .i64 f6.Kind, .int .i64 f6.N]) (.agg #[.int .i64 0, .int .i64 0])) w = .ok (.bool true) w := fun w => by have h := run_eql_Wire f6 zWire w; rw [q8] at h; exact h
            by_cases q9 : ¬ f7 = 0
            · have qb9 : (f7 == 0) = false := by simpa using q9
              go_wp2
              all_goals go_ret
              all_goals exact ⟨by first | (refine congrArg (fun b => Ending.returned (Value.bool b)) (Eq.symm ?_); simp [isMessageB, calmB, toB, tagB, q1, HA, q2, q3, q5, q6, q7, q8, q9]; done) | simp [isMessageB, calmB, toB, tagB, q1, HA, q2, q3, q5, q6, q7, q8, q9], HW.out⟩
            replace q9 := Classical.not_not.1 q9
            subst q9
            go_wp2_with fail
            refine (spec_l11One_calls f8.Vat _).mono ?_
            rintro e w10 ⟨rfl, rfl⟩
            rcases Bool.eq_false_or_eq_true (inR f8.Vat 1 999999) with q10 | q10
            rotate_left
            · rw [q10]
              go_wp2
              all_goals go_ret
              all_goals exact ⟨by first | (refine congrArg (fun b => Ending.returned (Value.bool b)) (Eq.symm ?_); simp [isMessageB, calmB, toB, tagB, q1, HA, q2, q3, q5, q6, q7, q8, q10]; done) | simp [isMessageB, calmB, toB, tagB, q1, HA, q2, q3, q5, q6, q7, q8, q10], HW.out⟩
            rw [q10]
            go_wp2_with fail
            refine (spec_l11One_calls f8.Seq _).mono ?_
            rintro e w11 ⟨rfl, rfl⟩
            rcases Bool.eq_false_or_eq_true (inR f8.Seq 1 999999) with q11 | q11
            rotate_left
            · rw [q11]
              go_wp2
              all_goals go_ret
              all_goals exact ⟨by first | (refine congrArg (fun b => Ending.returned (Value.bool b)) (Eq.symm ?_); simp [isMessageB, calmB, toB, tagB, q1, HA, q2, q3, q5, q6, q7, q8, q10, q11]; done) | simp [isMessageB, calmB, toB, tagB, q1, HA, q2, q3, q5, q6, q7, q8, q10, q11], HW.out⟩
            rw [q11]
            go_wp2_with fail
            refine (spec_l1In_calls _ _ _ _).mono ?_
            rintro e w12 ⟨rfl, rfl⟩
            go_wp2
            all_goals go_ret
            all_goals exact ⟨by first | (refine congrArg (fun b => Ending.returned (Value.bool b)) (Eq.symm ?_); simp [isMessageB, calmB, toB, tagB, q1, HA, q2, q3, q5, q6, q7, q8, q10, q11]; done) | simp [isMessageB, calmB, toB, tagB, q1, HA, q2, q3, q5, q6, q7, q8, q10, q11], HW.out⟩
          rw [q2]
          have hn13 : ¬ f1 = 0 := by intro h; subst h; simp [inR] at q2
          have hn13b : (f1 == 0) = false := by simpa using hn13
          go_wp2_with fail
          refine (spec_l11One_calls f2 _).mono ?_
          rintro e w14 ⟨rfl, rfl⟩
          rcases Bool.eq_false_or_eq_true (inR f2 1 999999) with q14 | q14
          rotate_left
          · rw [q14]
            go_wp2
            all_goals go_ret
            all_goals exact ⟨by first | (refine congrArg (fun b => Ending.returned (Value.bool b)) (Eq.symm ?_); simp [isMessageB, calmB, toB, tagB, q1, HA, q2, hn13, q14]; done) | simp [isMessageB, calmB, toB, tagB, q1, HA, q2, hn13, q14], HW.out⟩
          rw [q14]
          go_wp2
          all_goals go_ret
          all_goals exact ⟨by first | (refine congrArg (fun b => Ending.returned (Value.bool b)) (Eq.symm ?_); simp [isMessageB, calmB, toB, tagB, q1, HA, q2, hn13, q14]; done) | simp [isMessageB, calmB, toB, tagB, q1, HA, q2, hn13, q14], HW.out⟩
    replace q1 := Classical.not_not.1 q1
    subst q1
    by_cases q15 : ¬ f4.toList = []
    · have qb15 : (f4.toList == []) = false := by first | (simpa using q15) | (simp; omega)
      go_enter Try.func16, Try.ntmps16
      go_wp2
      go_loopw [5] (fun b wr => ∃ j : Nat, j ≤ f5.length ∧ b = .int .i64 j ∧ Hid (Below w.heap.size w wr) ∧ Hid (Blk wr w.heap.size 29 #[.int .i64 1, .int .i64 f1, .int .i64 0, .int .i64 f3, .string f4, .slice A f5.length c, .int .i64 f6.Kind, .int .i64 f6.N, .int .i64 f7, .int .i64 f8.Vat, .int .i64 f8.Entity, .int .i64 f8.Seq]) ∧ Hid (Blk wr (w.heap.size + 1) 25 #[.int .i64 0, .int .i64 0]) ∧ Hid (∀ k y, k < j → f5[k]? = some y → (!isWireB y) = false)) (fun b wr => f5.length - (intOf b).toNat)
      case atStart => exact ⟨0, by omega, rfl, HB.out.alloc (by simp) _, (Blk.new _ _ _).alloc _, Blk.made (by simp), no_start⟩
      case round =>
        obtain ⟨j, hj, rfl, HW, KM, KN, hno⟩ := hrel
        obtain ⟨kc, kf⟩ := KM.out.rules
        obtain ⟨kd, ke⟩ := KN.out.rules
        have kl := KM.out.lt
        have kl2 := KN.out.lt
        by_cases hlt : j < f5.length
        · obtain ⟨y, hy⟩ : ∃ y, f5[j]? = some y := ⟨f5[j], List.getElem?_eq_getElem hlt⟩
          obtain ⟨ad, rfl, hab, h0, h1⟩ := row_eWire (HR.out.below HW.out) hy
          have hab' : (ad.add (j * 2)).block < wr.heap.size := by rw [block_of_add]; exact hab
          have HX := Lib.hid hy
          clear hy
          go_wp2_with fail
          refine (spec_IsWire_calls _ y _ mkrd_eWire).mono ?_
          rintro e w1 ⟨rfl, hb1⟩
          have HW1 := Lib.hid (HW.out.trans (hb1.mono HW.out.size))
          have KM1 := Lib.hid (KM.out.below hb1)
          have KN1 := Lib.hid (KN.out.below hb1)
          clear hb1
          cases hq : isWireB y with
          | false =>
            have HA : Hid (badB f5 = true) := Lib.hid (any_hit HX.out (by simp [hq]))
            go_wp2
            go_ret
            exact ⟨by first | (refine congrArg (fun b => Ending.returned (Value.bool b)) (Eq.symm ?_); simp [isMessageB, HA.out]; done) | simp [isMessageB, HA.out], HW1.out⟩
          | true =>
            have HN := Lib.hid (step_no (p := fun y => (!isWireB y) = false) hno.out HX.out (by simp [hq]))
            go_wp2
            go_roundw
            case rel => exact ⟨j + 1, by omega, by go_num, HW1, KM1, KN1, HN⟩
            case measure => simp [intOf]; omega
        · have : j = f5.length := by omega
          subst this
          have HA : badB f5 = false := any_miss (all_of (p := fun y => (!isWireB y) = false) hno.out)
          clear hno
          go_wp2_with fail
          refine (spec_l11One_calls f1 _).mono ?_
          rintro e w16 ⟨rfl, rfl⟩
          rcases Bool.eq_false_or_eq_true (inR f1 1 999999) with q16 | q16
          rotate_left
          · rw [q16]
            go_wp2_with fail
            refine (spec_l11One_calls 0 _).mono ?_
            rintro e w17 ⟨rfl, rfl⟩
            have h017 : inR 0 1 999999 = false := by decide
            rw [h017]
            go_wp2
            all_goals go_ret
            all_goals exact ⟨by first | (refine congrArg (fun b => Ending.returned (Value.bool b)) (Eq.symm ?_); simp [isMessageB, calmB, toB, tagB, HA, q16, h017]; done) | simp [isMessageB, calmB, toB, tagB, HA, q16, h017], HW.out⟩
          rw [q16]
          have hn18 : ¬ f1 = 0 := by intro h; subst h; simp [inR] at q16
          have hn18b : (f1 == 0) = false := by simpa using hn18
          go_wp2_with fail
          refine (spec_l11One_calls f3 _).mono ?_
          rintro e w19 ⟨rfl, rfl⟩
          rcases Bool.eq_false_or_eq_true (inR f3 1 999999) with q19 | q19
          rotate_left
          · rw [q19]
            go_wp2
            all_goals go_ret
            all_goals exact ⟨by first | (refine congrArg (fun b => Ending.returned (Value.bool b)) (Eq.symm ?_); simp [isMessageB, calmB, toB, tagB, HA, q16, hn18, q19]; done) | simp [isMessageB, calmB, toB, tagB, HA, q16, hn18, q19], HW.out⟩
          rw [q19]
          go_wp2_with fail
          refine (spec_IsName_calls f4 _ hs4).mono ?_
          rintro e w20 ⟨rfl, rfl⟩
          rcases Bool.eq_false_or_eq_true (nameB f4) with q20 | q20
          rotate_left
          · rw [q20]
            go_wp2
            all_goals go_ret
            all_goals exact ⟨by first | (refine congrArg (fun b => Ending.returned (Value.bool b)) (Eq.symm ?_); simp [isMessageB, calmB, toB, tagB, HA, q16, hn18, q19, q20]; done) | simp [isMessageB, calmB, toB, tagB, HA, q16, hn18, q19, q20], HW.out⟩
          rw [q20]
          by_cases q21 : ¬ f5.length ≤ 2
          · have qi21 : ¬ ((f5.length : Int) ≤ 2) := by omega
            go_wp2
            all_goals go_ret
            all_goals exact ⟨by first | (refine congrArg (fun b => Ending.returned (Value.bool b)) (Eq.symm ?_); simp [isMessageB, calmB, toB, tagB, HA, q16, hn18, q19, q20, q21]; done) | simp [isMessageB, calmB, toB, tagB, HA, q16, hn18, q19, q20, q21], HW.out⟩
          replace q21 := Classical.not_not.1 q21
          have qi21 : (f5.length : Int) ≤ 2 := by omega
          rcases Bool.eq_false_or_eq_true (eqbWire f6 zWire) with q22 | q22
          rotate_left
          · have he22 : ∀ w, Sem.run Try.prog (binOp .eql 25 (.agg #[.int .i64 f6.Kind, .int .i64 f6.N]) (.agg #[.int .i64 0, .int .i64 0])) w = .ok (.bool false) w := fun w => by have h := run_eql_Wire f6 zWire w; rw [q22] at h; exact h
            go_wp2
            all_goals go_ret
            all_goals exact ⟨by first | (refine congrArg (fun b => Ending.returned (Value.bool b)) (Eq.symm ?_); simp [isMessageB, calmB, toB, tagB, HA, q16, hn18, q19, q20, q21, q22]; done) | simp [isMessageB, calmB, toB, tagB, HA, q16, hn18, q19, q20, q21, q22], HW.out⟩
          have he22 : ∀ w, Sem.run Try.prog (binOp .eql 25 (.agg #[.int .i64 f6.Kind, .int .i64 f6.N]) (.agg #[.int .i64 0, .int .i64 0])) w = .ok (.bool true) w := fun w => by have h := run_eql_Wire f6 zWire w; rw [q22] at h; exact h
          by_cases q23 : ¬ f7 = 0
          · have qb23 : (f7 == 0) = false := by simpa using q23
            go_wp2
            all_goals go_ret
            all_goals exact ⟨by first | (refine congrArg (fun b => Ending.returned (Value.bool b)) (Eq.symm ?_); simp [isMessageB, calmB, toB, tagB, HA, q16, hn18, q19, q20, q21, q22, q23]; done) | simp [isMessageB, calmB, toB, tagB, HA, q16, hn18, q19, q20, q21, q22, q23], HW.out⟩
          replace q23 := Classical.not_not.1 q23
          subst q23
          go_wp2_with fail
          refine (spec_l11One_calls f8.Vat _).mono ?_
          rintro e w24 ⟨rfl, rfl⟩
          rcases Bool.eq_false_or_eq_true (inR f8.Vat 1 999999) with q24 | q24
          rotate_left
          · rw [q24]
            go_wp2
            all_goals go_ret
            all_goals exact ⟨by first | (refine congrArg (fun b => Ending.returned (Value.bool b)) (Eq.symm ?_); simp [isMessageB, calmB, toB, tagB, HA, q16, hn18, q19, q20, q21, q22, q24]; done) | simp [isMessageB, calmB, toB, tagB, HA, q16, hn18, q19, q20, q21, q22, q24], HW.out⟩
          rw [q24]
          go_wp2_with fail
          refine (spec_l11One_calls f8.Seq _).mono ?_
          rintro e w25 ⟨rfl, rfl⟩
          rcases Bool.eq_false_or_eq_true (inR f8.Seq 1 999999) with q25 | q25
          rotate_left
          · rw [q25]
            go_wp2
            all_goals go_ret
            all_goals exact ⟨by first | (refine congrArg (fun b => Ending.returned (Value.bool b)) (Eq.symm ?_); simp [isMessageB, calmB, toB, tagB, HA, q16, hn18, q19, q20, q21, q22, q24, q25]; done) | simp [isMessageB, calmB, toB, tagB, HA, q16, hn18, q19, q20, q21, q22, q24, q25], HW.out⟩
          rw [q25]
          go_wp2_with fail
          refine (spec_l1In_calls _ _ _ _).mono ?_
          rintro e w26 ⟨rfl, rfl⟩
          go_wp2
          all_goals go_ret
          all_goals exact ⟨by first | (refine congrArg (fun b => Ending.returned (Value.bool b)) (Eq.symm ?_); simp [isMessageB, calmB, toB, tagB, HA, q16, hn18, q19, q20, q21, q22, q24, q25]; done) | simp [isMessageB, calmB, toB, tagB, HA, q16, hn18, q19, q20, q21, q22, q24, q25], HW.out⟩
    have qb15 : (f4.toList == []) = true := by first | (simpa using q15) | (simp; omega)
    clear q15
    by_cases q27 : ¬ f5.length = 0
    · have qb27 : ((f5.length : Int) == 0) = false := by first | (simpa using q27) | (simp; omega)
      go_enter Try.func16, Try.ntmps16
      go_wp2
      go_loopw [5] (fun b wr => ∃ j : Nat, j ≤ f5.length ∧ b = .int .i64 j ∧ Hid (Below w.heap.size w wr) ∧ Hid (Blk wr w.heap.size 29 #[.int .i64 1, .int .i64 f1, .int .i64 0, .int .i64 f3, .string f4, .slice A f5.length c, .int .i64 f6.Kind, .int .i64 f6.N, .int .i64 f7, .int .i64 f8.Vat, .int .i64 f8.Entity, .int .i64 f8.Seq]) ∧ Hid (Blk wr (w.heap.size + 1) 25 #[.int .i64 0, .int .i64 0]) ∧ Hid (∀ k y, k < j → f5[k]? = some y → (!isWireB y) = false)) (fun b wr => f5.length - (intOf b).toNat)
      case atStart => exact ⟨0, by omega, rfl, HB.out.alloc (by simp) _, (Blk.new _ _ _).alloc _, Blk.made (by simp), no_start⟩
      case round =>
        obtain ⟨j, hj, rfl, HW, KM, KN, hno⟩ := hrel
        obtain ⟨kc, kf⟩ := KM.out.rules
        obtain ⟨kd, ke⟩ := KN.out.rules
        have kl := KM.out.lt
        have kl2 := KN.out.lt
        by_cases hlt : j < f5.length
        · obtain ⟨y, hy⟩ : ∃ y, f5[j]? = some y := ⟨f5[j], List.getElem?_eq_getElem hlt⟩
          obtain ⟨ad, rfl, hab, h0, h1⟩ := row_eWire (HR.out.below HW.out) hy
          have hab' : (ad.add (j * 2)).block < wr.heap.size := by rw [block_of_add]; exact hab
          have HX := Lib.hid hy
          clear hy
          go_wp2_with fail
          refine (spec_IsWire_calls _ y _ mkrd_eWire).mono ?_
          rintro e w1 ⟨rfl, hb1⟩
          have HW1 := Lib.hid (HW.out.trans (hb1.mono HW.out.size))
          have KM1 := Lib.hid (KM.out.below hb1)
          have KN1 := Lib.hid (KN.out.below hb1)
          clear hb1
          cases hq : isWireB y with
          | false =>
            have HA : Hid (badB f5 = true) := Lib.hid (any_hit HX.out (by simp [hq]))
            go_wp2
            go_ret
            exact ⟨by first | (refine congrArg (fun b => Ending.returned (Value.bool b)) (Eq.symm ?_); simp [isMessageB, HA.out]; done) | simp [isMessageB, HA.out], HW1.out⟩
          | true =>
            have HN := Lib.hid (step_no (p := fun y => (!isWireB y) = false) hno.out HX.out (by simp [hq]))
            go_wp2
            go_roundw
            case rel => exact ⟨j + 1, by omega, by go_num, HW1, KM1, KN1, HN⟩
            case measure => simp [intOf]; omega
        · have : j = f5.length := by omega
          subst this
          have HA : badB f5 = false := any_miss (all_of (p := fun y => (!isWireB y) = false) hno.out)
          clear hno
          go_wp2_with fail
          refine (spec_l11One_calls f1 _).mono ?_
          rintro e w28 ⟨rfl, rfl⟩
          rcases Bool.eq_false_or_eq_true (inR f1 1 999999) with q28 | q28
          rotate_left
          · rw [q28]
            go_wp2_with fail
            refine (spec_l11One_calls 0 _).mono ?_
            rintro e w29 ⟨rfl, rfl⟩
            have h029 : inR 0 1 999999 = false := by decide
            rw [h029]
            go_wp2
            all_goals go_ret
            all_goals exact ⟨by first | (refine congrArg (fun b => Ending.returned (Value.bool b)) (Eq.symm ?_); simp [isMessageB, calmB, toB, tagB, HA, q28, h029]; done) | simp [isMessageB, calmB, toB, tagB, HA, q28, h029], HW.out⟩
          rw [q28]
          have hn30 : ¬ f1 = 0 := by intro h; subst h; simp [inR] at q28
          have hn30b : (f1 == 0) = false := by simpa using hn30
          go_wp2_with fail
          refine (spec_l11One_calls f3 _).mono ?_
          rintro e w31 ⟨rfl, rfl⟩
          rcases Bool.eq_false_or_eq_true (inR f3 1 999999) with q31 | q31
          rotate_left
          · rw [q31]
            go_wp2
            all_goals go_ret
            all_goals exact ⟨by first | (refine congrArg (fun b => Ending.returned (Value.bool b)) (Eq.symm ?_); simp [isMessageB, calmB, toB, tagB, HA, q28, hn30, q31]; done) | simp [isMessageB, calmB, toB, tagB, HA, q28, hn30, q31], HW.out⟩
          rw [q31]
          go_wp2_with fail
          refine (spec_IsName_calls f4 _ hs4).mono ?_
          rintro e w32 ⟨rfl, rfl⟩
          rcases Bool.eq_false_or_eq_true (nameB f4) with q32 | q32
          rotate_left
          · rw [q32]
            go_wp2
            all_goals go_ret
            all_goals exact ⟨by first | (refine congrArg (fun b => Ending.returned (Value.bool b)) (Eq.symm ?_); simp [isMessageB, calmB, toB, tagB, HA, q28, hn30, q31, q32]; done) | simp [isMessageB, calmB, toB, tagB, HA, q28, hn30, q31, q32], HW.out⟩
          rw [q32]
          by_cases q33 : ¬ f5.length ≤ 2
          · have qi33 : ¬ ((f5.length : Int) ≤ 2) := by omega
            go_wp2
            all_goals go_ret
            all_goals exact ⟨by first | (refine congrArg (fun b => Ending.returned (Value.bool b)) (Eq.symm ?_); simp [isMessageB, calmB, toB, tagB, HA, q28, hn30, q31, q32, q33]; done) | simp [isMessageB, calmB, toB, tagB, HA, q28, hn30, q31, q32, q33], HW.out⟩
          replace q33 := Classical.not_not.1 q33
          have qi33 : (f5.length : Int) ≤ 2 := by omega
          rcases Bool.eq_false_or_eq_true (eqbWire f6 zWire) with q34 | q34
          rotate_left
          · have he34 : ∀ w, Sem.run Try.prog (binOp .eql 25 (.agg #[.int .i64 f6.Kind, .int .i64 f6.N]) (.agg #[.int .i64 0, .int .i64 0])) w = .ok (.bool false) w := fun w => by have h := run_eql_Wire f6 zWire w; rw [q34] at h; exact h
            go_wp2
            all_goals go_ret
            all_goals exact ⟨by first | (refine congrArg (fun b => Ending.returned (Value.bool b)) (Eq.symm ?_); simp [isMessageB, calmB, toB, tagB, HA, q28, hn30, q31, q32, q33, q34]; done) | simp [isMessageB, calmB, toB, tagB, HA, q28, hn30, q31, q32, q33, q34], HW.out⟩
          have he34 : ∀ w, Sem.run Try.prog (binOp .eql 25 (.agg #[.int .i64 f6.Kind, .int .i64 f6.N]) (.agg #[.int .i64 0, .int .i64 0])) w = .ok (.bool true) w := fun w => by have h := run_eql_Wire f6 zWire w; rw [q34] at h; exact h
          by_cases q35 : ¬ f7 = 0
          · have qb35 : (f7 == 0) = false := by simpa using q35
            go_wp2
            all_goals go_ret
            all_goals exact ⟨by first | (refine congrArg (fun b => Ending.returned (Value.bool b)) (Eq.symm ?_); simp [isMessageB, calmB, toB, tagB, HA, q28, hn30, q31, q32, q33, q34, q35]; done) | simp [isMessageB, calmB, toB, tagB, HA, q28, hn30, q31, q32, q33, q34, q35], HW.out⟩
          replace q35 := Classical.not_not.1 q35
          subst q35
          go_wp2_with fail
          refine (spec_l11One_calls f8.Vat _).mono ?_
          rintro e w36 ⟨rfl, rfl⟩
          rcases Bool.eq_false_or_eq_true (inR f8.Vat 1 999999) with q36 | q36
          rotate_left
          · rw [q36]
            go_wp2
            all_goals go_ret
            all_goals exact ⟨by first | (refine congrArg (fun b => Ending.returned (Value.bool b)) (Eq.symm ?_); simp [isMessageB, calmB, toB, tagB, HA, q28, hn30, q31, q32, q33, q34, q36]; done) | simp [isMessageB, calmB, toB, tagB, HA, q28, hn30, q31, q32, q33, q34, q36], HW.out⟩
          rw [q36]
          go_wp2_with fail
          refine (spec_l11One_calls f8.Seq _).mono ?_
          rintro e w37 ⟨rfl, rfl⟩
          rcases Bool.eq_false_or_eq_true (inR f8.Seq 1 999999) with q37 | q37
          rotate_left
          · rw [q37]
            go_wp2
            all_goals go_ret
            all_goals exact ⟨by first | (refine congrArg (fun b => Ending.returned (Value.bool b)) (Eq.symm ?_); simp [isMessageB, calmB, toB, tagB, HA, q28, hn30, q31, q32, q33, q34, q36, q37]; done) | simp [isMessageB, calmB, toB, tagB, HA, q28, hn30, q31, q32, q33, q34, q36, q37], HW.out⟩
          rw [q37]
          go_wp2_with fail
          refine (spec_l1In_calls _ _ _ _).mono ?_
          rintro e w38 ⟨rfl, rfl⟩
          go_wp2
          all_goals go_ret
          all_goals exact ⟨by first | (refine congrArg (fun b => Ending.returned (Value.bool b)) (Eq.symm ?_); simp [isMessageB, calmB, toB, tagB, HA, q28, hn30, q31, q32, q33, q34, q36, q37]; done) | simp [isMessageB, calmB, toB, tagB, HA, q28, hn30, q31, q32, q33, q34, q36, q37], HW.out⟩
    have qb27 : ((f5.length : Int) == 0) = true := by first | (simpa using q27) | (simp; omega)
    clear q27
    rcases Bool.eq_false_or_eq_true (eqbTag f8 zTag) with q39 | q39
    · have he39 : ∀ w, Sem.run Try.prog (binOp .eql 27 (.agg #[.int .i64 f8.Vat, .int .i64 f8.Entity, .int .i64 f8.Seq]) (.agg #[.int .i64 0, .int .i64 0, .int .i64 0])) w = .ok (.bool true) w := fun w => by have h := run_eql_Tag f8 zTag w; rw [q39] at h; exact h
      clear q39
      go_enter Try.func16, Try.ntmps16
      go_wp2
      go_loopw [5] (fun b wr => ∃ j : Nat, j ≤ f5.length ∧ b = .int .i64 j ∧ Hid (Below w.heap.size w wr) ∧ Hid (Blk wr w.heap.size 29 #[.int .i64 1, .int .i64 f1, .int .i64 0, .int .i64 f3, .string f4, .slice A f5.length c, .int .i64 f6.Kind, .int .i64 f6.N, .int .i64 f7, .int .i64 f8.Vat, .int .i64 f8.Entity, .int .i64 f8.Seq]) ∧ Hid (Blk wr (w.heap.size + 1) 25 #[.int .i64 0, .int .i64 0]) ∧ Hid (∀ k y, k < j → f5[k]? = some y → (!isWireB y) = false)) (fun b wr => f5.length - (intOf b).toNat)
      case atStart => exact ⟨0, by omega, rfl, HB.out.alloc (by simp) _, (Blk.new _ _ _).alloc _, Blk.made (by simp), no_start⟩
      case round =>
        obtain ⟨j, hj, rfl, HW, KM, KN, hno⟩ := hrel
        obtain ⟨kc, kf⟩ := KM.out.rules
        obtain ⟨kd, ke⟩ := KN.out.rules
        have kl := KM.out.lt
        have kl2 := KN.out.lt
        by_cases hlt : j < f5.length
        · obtain ⟨y, hy⟩ : ∃ y, f5[j]? = some y := ⟨f5[j], List.getElem?_eq_getElem hlt⟩
          obtain ⟨ad, rfl, hab, h0, h1⟩ := row_eWire (HR.out.below HW.out) hy
          have hab' : (ad.add (j * 2)).block < wr.heap.size := by rw [block_of_add]; exact hab
          have HX := Lib.hid hy
          clear hy
          go_wp2_with fail
          refine (spec_IsWire_calls _ y _ mkrd_eWire).mono ?_
          rintro e w1 ⟨rfl, hb1⟩
          have HW1 := Lib.hid (HW.out.trans (hb1.mono HW.out.size))
          have KM1 := Lib.hid (KM.out.below hb1)
          have KN1 := Lib.hid (KN.out.below hb1)
          clear hb1
          cases hq : isWireB y with
          | false =>
            have HA : Hid (badB f5 = true) := Lib.hid (any_hit HX.out (by simp [hq]))
            go_wp2
            go_ret
            exact ⟨by first | (refine congrArg (fun b => Ending.returned (Value.bool b)) (Eq.symm ?_); simp [isMessageB, HA.out]; done) | simp [isMessageB, HA.out], HW1.out⟩
          | true =>
            have HN := Lib.hid (step_no (p := fun y => (!isWireB y) = false) hno.out HX.out (by simp [hq]))
            go_wp2
            go_roundw
            case rel => exact ⟨j + 1, by omega, by go_num, HW1, KM1, KN1, HN⟩
            case measure => simp [intOf]; omega
        · have : j = f5.length := by omega
          subst this
          have HA : badB f5 = false := any_miss (all_of (p := fun y => (!isWireB y) = false) hno.out)
          clear hno
          go_wp2_with fail
          refine (spec_l11One_calls f1 _).mono ?_
          rintro e w40 ⟨rfl, rfl⟩
          rcases Bool.eq_false_or_eq_true (inR f1 1 999999) with q40 | q40
          rotate_left
          · rw [q40]
            go_wp2_with fail
            refine (spec_l11One_calls 0 _).mono ?_
            rintro e w41 ⟨rfl, rfl⟩
            have h041 : inR 0 1 999999 = false := by decide
            rw [h041]
            go_wp2
            all_goals go_ret
            all_goals exact ⟨by first | (refine congrArg (fun b => Ending.returned (Value.bool b)) (Eq.symm ?_); simp [isMessageB, calmB, toB, tagB, HA, q40, h041]; done) | simp [isMessageB, calmB, toB, tagB, HA, q40, h041], HW.out⟩
          rw [q40]
          have hn42 : ¬ f1 = 0 := by intro h; subst h; simp [inR] at q40
          have hn42b : (f1 == 0) = false := by simpa using hn42
          go_wp2_with fail
          refine (spec_l11One_calls f3 _).mono ?_
          rintro e w43 ⟨rfl, rfl⟩
          rcases Bool.eq_false_or_eq_true (inR f3 1 999999) with q43 | q43
          rotate_left
          · rw [q43]
            go_wp2
            all_goals go_ret
            all_goals exact ⟨by first | (refine congrArg (fun b => Ending.returned (Value.bool b)) (Eq.symm ?_); simp [isMessageB, calmB, toB, tagB, HA, q40, hn42, q43]; done) | simp [isMessageB, calmB, toB, tagB, HA, q40, hn42, q43], HW.out⟩
          rw [q43]
          go_wp2_with fail
          refine (spec_IsName_calls f4 _ hs4).mono ?_
          rintro e w44 ⟨rfl, rfl⟩
          rcases Bool.eq_false_or_eq_true (nameB f4) with q44 | q44
          rotate_left
          · rw [q44]
            go_wp2
            all_goals go_ret
            all_goals exact ⟨by first | (refine congrArg (fun b => Ending.returned (Value.bool b)) (Eq.symm ?_); simp [isMessageB, calmB, toB, tagB, HA, q40, hn42, q43, q44]; done) | simp [isMessageB, calmB, toB, tagB, HA, q40, hn42, q43, q44], HW.out⟩
          rw [q44]
          by_cases q45 : ¬ f5.length ≤ 2
          · have qi45 : ¬ ((f5.length : Int) ≤ 2) := by omega
            go_wp2
            all_goals go_ret
            all_goals exact ⟨by first | (refine congrArg (fun b => Ending.returned (Value.bool b)) (Eq.symm ?_); simp [isMessageB, calmB, toB, tagB, HA, q40, hn42, q43, q44, q45]; done) | simp [isMessageB, calmB, toB, tagB, HA, q40, hn42, q43, q44, q45], HW.out⟩
          replace q45 := Classical.not_not.1 q45
          have qi45 : (f5.length : Int) ≤ 2 := by omega
          rcases Bool.eq_false_or_eq_true (eqbWire f6 zWire) with q46 | q46
          rotate_left
          · have he46 : ∀ w, Sem.run Try.prog (binOp .eql 25 (.agg #[.int .i64 f6.Kind, .int .i64 f6.N]) (.agg #[.int .i64 0, .int .i64 0])) w = .ok (.bool false) w := fun w => by have h := run_eql_Wire f6 zWire w; rw [q46] at h; exact h
            go_wp2
            all_goals go_ret
            all_goals exact ⟨by first | (refine congrArg (fun b => Ending.returned (Value.bool b)) (Eq.symm ?_); simp [isMessageB, calmB, toB, tagB, HA, q40, hn42, q43, q44, q45, q46]; done) | simp [isMessageB, calmB, toB, tagB, HA, q40, hn42, q43, q44, q45, q46], HW.out⟩
          have he46 : ∀ w, Sem.run Try.prog (binOp .eql 25 (.agg #[.int .i64 f6.Kind, .int .i64 f6.N]) (.agg #[.int .i64 0, .int .i64 0])) w = .ok (.bool true) w := fun w => by have h := run_eql_Wire f6 zWire w; rw [q46] at h; exact h
          by_cases q47 : ¬ f7 = 0
          · have qb47 : (f7 == 0) = false := by simpa using q47
            go_wp2
            all_goals go_ret
            all_goals exact ⟨by first | (refine congrArg (fun b => Ending.returned (Value.bool b)) (Eq.symm ?_); simp [isMessageB, calmB, toB, tagB, HA, q40, hn42, q43, q44, q45, q46, q47]; done) | simp [isMessageB, calmB, toB, tagB, HA, q40, hn42, q43, q44, q45, q46, q47], HW.out⟩
          replace q47 := Classical.not_not.1 q47
          subst q47
          go_wp2_with fail
          refine (spec_l11One_calls f8.Vat _).mono ?_
          rintro e w48 ⟨rfl, rfl⟩
          rcases Bool.eq_false_or_eq_true (inR f8.Vat 1 999999) with q48 | q48
          rotate_left
          · rw [q48]
            go_wp2
            all_goals go_ret
            all_goals exact ⟨by first | (refine congrArg (fun b => Ending.returned (Value.bool b)) (Eq.symm ?_); simp [isMessageB, calmB, toB, tagB, HA, q40, hn42, q43, q44, q45, q46, q48]; done) | simp [isMessageB, calmB, toB, tagB, HA, q40, hn42, q43, q44, q45, q46, q48], HW.out⟩
          rw [q48]
          go_wp2_with fail
          refine (spec_l11One_calls f8.Seq _).mono ?_
          rintro e w49 ⟨rfl, rfl⟩
          rcases Bool.eq_false_or_eq_true (inR f8.Seq 1 999999) with q49 | q49
          rotate_left
          · rw [q49]
            go_wp2
            all_goals go_ret
            all_goals exact ⟨by first | (refine congrArg (fun b => Ending.returned (Value.bool b)) (Eq.symm ?_); simp [isMessageB, calmB, toB, tagB, HA, q40, hn42, q43, q44, q45, q46, q48, q49]; done) | simp [isMessageB, calmB, toB, tagB, HA, q40, hn42, q43, q44, q45, q46, q48, q49], HW.out⟩
          rw [q49]
          go_wp2_with fail
          refine (spec_l1In_calls _ _ _ _).mono ?_
          rintro e w50 ⟨rfl, rfl⟩
          go_wp2
          all_goals go_ret
          all_goals exact ⟨by first | (refine congrArg (fun b => Ending.returned (Value.bool b)) (Eq.symm ?_); simp [isMessageB, calmB, toB, tagB, HA, q40, hn42, q43, q44, q45, q46, q48, q49]; done) | simp [isMessageB, calmB, toB, tagB, HA, q40, hn42, q43, q44, q45, q46, q48, q49], HW.out⟩
    · have he39 : ∀ w, Sem.run Try.prog (binOp .eql 27 (.agg #[.int .i64 f8.Vat, .int .i64 f8.Entity, .int .i64 f8.Seq]) (.agg #[.int .i64 0, .int .i64 0, .int .i64 0])) w = .ok (.bool false) w := fun w => by have h := run_eql_Tag f8 zTag w; rw [q39] at h; exact h
      clear q39
      go_enter Try.func16, Try.ntmps16
      go_wp2
      go_loopw [5] (fun b wr => ∃ j : Nat, j ≤ f5.length ∧ b = .int .i64 j ∧ Hid (Below w.heap.size w wr) ∧ Hid (Blk wr w.heap.size 29 #[.int .i64 1, .int .i64 f1, .int .i64 0, .int .i64 f3, .string f4, .slice A f5.length c, .int .i64 f6.Kind, .int .i64 f6.N, .int .i64 f7, .int .i64 f8.Vat, .int .i64 f8.Entity, .int .i64 f8.Seq]) ∧ Hid (Blk wr (w.heap.size + 1) 25 #[.int .i64 0, .int .i64 0]) ∧ Hid (∀ k y, k < j → f5[k]? = some y → (!isWireB y) = false)) (fun b wr => f5.length - (intOf b).toNat)
      case atStart => exact ⟨0, by omega, rfl, HB.out.alloc (by simp) _, (Blk.new _ _ _).alloc _, Blk.made (by simp), no_start⟩
      case round =>
        obtain ⟨j, hj, rfl, HW, KM, KN, hno⟩ := hrel
        obtain ⟨kc, kf⟩ := KM.out.rules
        obtain ⟨kd, ke⟩ := KN.out.rules
        have kl := KM.out.lt
        have kl2 := KN.out.lt
        by_cases hlt : j < f5.length
        · obtain ⟨y, hy⟩ : ∃ y, f5[j]? = some y := ⟨f5[j], List.getElem?_eq_getElem hlt⟩
          obtain ⟨ad, rfl, hab, h0, h1⟩ := row_eWire (HR.out.below HW.out) hy
          have hab' : (ad.add (j * 2)).block < wr.heap.size := by rw [block_of_add]; exact hab
          have HX := Lib.hid hy
          clear hy
          go_wp2_with fail
          refine (spec_IsWire_calls _ y _ mkrd_eWire).mono ?_
          rintro e w1 ⟨rfl, hb1⟩
          have HW1 := Lib.hid (HW.out.trans (hb1.mono HW.out.size))
          have KM1 := Lib.hid (KM.out.below hb1)
          have KN1 := Lib.hid (KN.out.below hb1)
          clear hb1
          cases hq : isWireB y with
          | false =>
            have HA : Hid (badB f5 = true) := Lib.hid (any_hit HX.out (by simp [hq]))
            go_wp2
            go_ret
            exact ⟨by first | (refine congrArg (fun b => Ending.returned (Value.bool b)) (Eq.symm ?_); simp [isMessageB, HA.out]; done) | simp [isMessageB, HA.out], HW1.out⟩
          | true =>
            have HN := Lib.hid (step_no (p := fun y => (!isWireB y) = false) hno.out HX.out (by simp [hq]))
            go_wp2
            go_roundw
            case rel => exact ⟨j + 1, by omega, by go_num, HW1, KM1, KN1, HN⟩
            case measure => simp [intOf]; omega
        · have : j = f5.length := by omega
          subst this
          have HA : badB f5 = false := any_miss (all_of (p := fun y => (!isWireB y) = false) hno.out)
          clear hno
          go_wp2_with fail
          refine (spec_l11One_calls f1 _).mono ?_
          rintro e w51 ⟨rfl, rfl⟩
          rcases Bool.eq_false_or_eq_true (inR f1 1 999999) with q51 | q51
          rotate_left
          · rw [q51]
            go_wp2_with fail
            refine (spec_l11One_calls 0 _).mono ?_
            rintro e w52 ⟨rfl, rfl⟩
            have h052 : inR 0 1 999999 = false := by decide
            rw [h052]
            go_wp2
            all_goals go_ret
            all_goals exact ⟨by first | (refine congrArg (fun b => Ending.returned (Value.bool b)) (Eq.symm ?_); simp [isMessageB, calmB, toB, tagB, HA, q51, h052]; done) | simp [isMessageB, calmB, toB, tagB, HA, q51, h052], HW.out⟩
          rw [q51]
          have hn53 : ¬ f1 = 0 := by intro h; subst h; simp [inR] at q51
          have hn53b : (f1 == 0) = false := by simpa using hn53
          go_wp2_with fail
          refine (spec_l11One_calls f3 _).mono ?_
          rintro e w54 ⟨rfl, rfl⟩
          rcases Bool.eq_false_or_eq_true (inR f3 1 999999) with q54 | q54
          rotate_left
          · rw [q54]
            go_wp2
            all_goals go_ret
            all_goals exact ⟨by first | (refine congrArg (fun b => Ending.returned (Value.bool b)) (Eq.symm ?_); simp [isMessageB, calmB, toB, tagB, HA, q51, hn53, q54]; done) | simp [isMessageB, calmB, toB, tagB, HA, q51, hn53, q54], HW.out⟩
          rw [q54]
          go_wp2_with fail
          refine (spec_IsName_calls f4 _ hs4).mono ?_
          rintro e w55 ⟨rfl, rfl⟩
          rcases Bool.eq_false_or_eq_true (nameB f4) with q55 | q55
          rotate_left
          · rw [q55]
            go_wp2
            all_goals go_ret
            all_goals exact ⟨by first | (refine congrArg (fun b => Ending.returned (Value.bool b)) (Eq.symm ?_); simp [isMessageB, calmB, toB, tagB, HA, q51, hn53, q54, q55]; done) | simp [isMessageB, calmB, toB, tagB, HA, q51, hn53, q54, q55], HW.out⟩
          rw [q55]
          by_cases q56 : ¬ f5.length ≤ 2
          · have qi56 : ¬ ((f5.length : Int) ≤ 2) := by omega
            go_wp2
            all_goals go_ret
            all_goals exact ⟨by first | (refine congrArg (fun b => Ending.returned (Value.bool b)) (Eq.symm ?_); simp [isMessageB, calmB, toB, tagB, HA, q51, hn53, q54, q55, q56]; done) | simp [isMessageB, calmB, toB, tagB, HA, q51, hn53, q54, q55, q56], HW.out⟩
          replace q56 := Classical.not_not.1 q56
          have qi56 : (f5.length : Int) ≤ 2 := by omega
          rcases Bool.eq_false_or_eq_true (eqbWire f6 zWire) with q57 | q57
          rotate_left
          · have he57 : ∀ w, Sem.run Try.prog (binOp .eql 25 (.agg #[.int .i64 f6.Kind, .int .i64 f6.N]) (.agg #[.int .i64 0, .int .i64 0])) w = .ok (.bool false) w := fun w => by have h := run_eql_Wire f6 zWire w; rw [q57] at h; exact h
            go_wp2
            all_goals go_ret
            all_goals exact ⟨by first | (refine congrArg (fun b => Ending.returned (Value.bool b)) (Eq.symm ?_); simp [isMessageB, calmB, toB, tagB, HA, q51, hn53, q54, q55, q56, q57]; done) | simp [isMessageB, calmB, toB, tagB, HA, q51, hn53, q54, q55, q56, q57], HW.out⟩
          have he57 : ∀ w, Sem.run Try.prog (binOp .eql 25 (.agg #[.int .i64 f6.Kind, .int .i64 f6.N]) (.agg #[.int .i64 0, .int .i64 0])) w = .ok (.bool true) w := fun w => by have h := run_eql_Wire f6 zWire w; rw [q57] at h; exact h
          by_cases q58 : ¬ f7 = 0
          · have qb58 : (f7 == 0) = false := by simpa using q58
            go_wp2
            all_goals go_ret
            all_goals exact ⟨by first | (refine congrArg (fun b => Ending.returned (Value.bool b)) (Eq.symm ?_); simp [isMessageB, calmB, toB, tagB, HA, q51, hn53, q54, q55, q56, q57, q58]; done) | simp [isMessageB, calmB, toB, tagB, HA, q51, hn53, q54, q55, q56, q57, q58], HW.out⟩
          replace q58 := Classical.not_not.1 q58
          subst q58
          go_wp2_with fail
          refine (spec_l11One_calls f8.Vat _).mono ?_
          rintro e w59 ⟨rfl, rfl⟩
          rcases Bool.eq_false_or_eq_true (inR f8.Vat 1 999999) with q59 | q59
          rotate_left
          · rw [q59]
            go_wp2
            all_goals go_ret
            all_goals exact ⟨by first | (refine congrArg (fun b => Ending.returned (Value.bool b)) (Eq.symm ?_); simp [isMessageB, calmB, toB, tagB, HA, q51, hn53, q54, q55, q56, q57, q59]; done) | simp [isMessageB, calmB, toB, tagB, HA, q51, hn53, q54, q55, q56, q57, q59], HW.out⟩
          rw [q59]
          go_wp2_with fail
          refine (spec_l11One_calls f8.Seq _).mono ?_
          rintro e w60 ⟨rfl, rfl⟩
          rcases Bool.eq_false_or_eq_true (inR f8.Seq 1 999999) with q60 | q60
          rotate_left
          · rw [q60]
            go_wp2
            all_goals go_ret
            all_goals exact ⟨by first | (refine congrArg (fun b => Ending.returned (Value.bool b)) (Eq.symm ?_); simp [isMessageB, calmB, toB, tagB, HA, q51, hn53, q54, q55, q56, q57, q59, q60]; done) | simp [isMessageB, calmB, toB, tagB, HA, q51, hn53, q54, q55, q56, q57, q59, q60], HW.out⟩
          rw [q60]
          go_wp2_with fail
          refine (spec_l1In_calls _ _ _ _).mono ?_
          rintro e w61 ⟨rfl, rfl⟩
          go_wp2
          all_goals go_ret
          all_goals exact ⟨by first | (refine congrArg (fun b => Ending.returned (Value.bool b)) (Eq.symm ?_); simp [isMessageB, calmB, toB, tagB, HA, q51, hn53, q54, q55, q56, q57, q59, q60]; done) | simp [isMessageB, calmB, toB, tagB, HA, q51, hn53, q54, q55, q56, q57, q59, q60], HW.out⟩
  by_cases k2 : f0 = 2
  · subst k2
    have HK := Lib.hid (Blk.new w 29 #[.int .i64 2, .int .i64 f1, .int .i64 f2, .int .i64 f3, .string f4, .slice A f5.length c, .int .i64 f6.Kind, .int .i64 f6.N, .int .i64 f7, .int .i64 f8.Vat, .int .i64 f8.Entity, .int .i64 f8.Seq])
    have HB2 := Lib.hid (HB.out.alloc (by simp) (.cells #[.int .i64 0, .int .i64 0] 25))
    have HK2 := Lib.hid (HK.out.alloc (.cells #[.int .i64 0, .int .i64 0] 25))
    by_cases q62 : ¬ f2 = 0
    · have qb62 : (f2 == 0) = false := by simpa using q62
      go_enter Try.func16, Try.ntmps16
      go_wp2
      all_goals go_ret
      all_goals exact ⟨by first | (refine congrArg (fun b => Ending.returned (Value.bool b)) (Eq.symm ?_); simp [isMessageB, calmB, toB, tagB, q62]; done) | simp [isMessageB, calmB, toB, tagB, q62], HB2.out⟩
    replace q62 := Classical.not_not.1 q62
    subst q62
    by_cases q63 : ¬ f4.toList = []
    · have qb63 : (f4.toList == []) = false := by simpa using q63
      go_enter Try.func16, Try.ntmps16
      go_wp2
      all_goals go_ret
      all_goals exact ⟨by first | (refine congrArg (fun b => Ending.returned (Value.bool b)) (Eq.symm ?_); simp [isMessageB, calmB, toB, tagB, q63]; done) | simp [isMessageB, calmB, toB, tagB, q63], HB2.out⟩
    replace q63 := Classical.not_not.1 q63
    by_cases q64 : ¬ f5 = []
    · have ql64 : 0 < f5.length := List.length_pos_iff.2 q64
      have qi64 : (0 : Int) < f5.length := by omega
      have qj64 : ((f5.length : Int) == 0) = false := by simp; omega
      go_enter Try.func16, Try.ntmps16
      go_wp2
      all_goals go_ret
      all_goals exact ⟨by first | (refine congrArg (fun b => Ending.returned (Value.bool b)) (Eq.symm ?_); simp [isMessageB, calmB, toB, tagB, q63, q64]; done) | simp [isMessageB, calmB, toB, tagB, q63, q64], HB2.out⟩
    replace q64 := Classical.not_not.1 q64
    subst q64
    rcases Bool.eq_false_or_eq_true (eqbTag f8 zTag) with q65 | q65
    rotate_left
    · have he65 : ∀ w, Sem.run Try.prog (binOp .eql 27 (.agg #[.int .i64 f8.Vat, .int .i64 f8.Entity, .int .i64 f8.Seq]) (.agg #[.int .i64 0, .int .i64 0, .int .i64 0])) w = .ok (.bool false) w := fun w => by have h := run_eql_Tag f8 zTag w; rw [q65] at h; exact h
      go_enter Try.func16, Try.ntmps16
      go_wp2
      all_goals go_ret
      all_goals exact ⟨by first | (refine congrArg (fun b => Ending.returned (Value.bool b)) (Eq.symm ?_); simp [isMessageB, calmB, toB, tagB, q63, q65]; done) | simp [isMessageB, calmB, toB, tagB, q63, q65], HB2.out⟩
    have he65 : ∀ w, Sem.run Try.prog (binOp .eql 27 (.agg #[.int .i64 f8.Vat, .int .i64 f8.Entity, .int .i64 f8.Seq]) (.agg #[.int .i64 0, .int .i64 0, .int .i64 0])) w = .ok (.bool true) w := fun w => by have h := run_eql_Tag f8 zTag w; rw [q65] at h; exact h
    go_enter Try.func16, Try.ntmps16
    go_wp2_with fail
    refine (spec_l11One_calls f3 _).mono ?_
    rintro e w66 ⟨rfl, rfl⟩
    rcases Bool.eq_false_or_eq_true (inR f3 1 999999) with q66 | q66
    rotate_left
    · rw [q66]
      go_wp2
      all_goals go_ret
      all_goals exact ⟨by first | (refine congrArg (fun b => Ending.returned (Value.bool b)) (Eq.symm ?_); simp [isMessageB, calmB, toB, tagB, q63, q65, q66]; done) | simp [isMessageB, calmB, toB, tagB, q63, q65, q66], HB2.out⟩
    rw [q66]
    go_wp2_with fail
    refine (spec_IsWire_calls _ f6 _ mkrd_eWire).mono ?_
    rintro e w67 ⟨rfl, hb67⟩
    have HB67 := Lib.hid (HB2.out.trans (hb67.mono HB2.out.size))
    have K67 := Lib.hid (HK2.out.below hb67)
    clear hb67
    obtain ⟨kc67, kf67⟩ := K67.out.rules
    have kl67 := K67.out.lt
    rcases Bool.eq_false_or_eq_true (isWireB f6) with q67 | q67
    rotate_left
    · rw [q67]
      go_wp2
      all_goals go_ret
      all_goals exact ⟨by first | (refine congrArg (fun b => Ending.returned (Value.bool b)) (Eq.symm ?_); simp [isMessageB, calmB, toB, tagB, q63, q65, q66, q67]; done) | simp [isMessageB, calmB, toB, tagB, q63, q65, q66, q67], HB67.out⟩
    rw [q67]
    by_cases q68 : ¬ f1 = 0
    · have qb68 : (f1 == 0) = false := by simpa using q68
      go_wp2
      all_goals go_ret
      all_goals exact ⟨by first | (refine congrArg (fun b => Ending.returned (Value.bool b)) (Eq.symm ?_); simp [isMessageB, calmB, toB, tagB, q63, q65, q66, q67, q68]; done) | simp [isMessageB, calmB, toB, tagB, q63, q65, q66, q67, q68], HB67.out⟩
    replace q68 := Classical.not_not.1 q68
    subst q68
    by_cases q69 : ¬ f7 = 0
    · have qb69 : (f7 == 0) = false := by simpa using q69
      go_wp2
      all_goals go_ret
      all_goals exact ⟨by first | (refine congrArg (fun b => Ending.returned (Value.bool b)) (Eq.symm ?_); simp [isMessageB, calmB, toB, tagB, q63, q65, q66, q67, q69]; done) | simp [isMessageB, calmB, toB, tagB, q63, q65, q66, q67, q69], HB67.out⟩
    replace q69 := Classical.not_not.1 q69
    subst q69
    go_wp2
    all_goals go_ret
    all_goals exact ⟨by first | (refine congrArg (fun b => Ending.returned (Value.bool b)) (Eq.symm ?_); simp [isMessageB, calmB, toB, tagB, q63, q65, q66, q67]; done) | simp [isMessageB, calmB, toB, tagB, q63, q65, q66, q67], HB67.out⟩
  by_cases k3 : f0 = 3
  · subst k3
    have HK := Lib.hid (Blk.new w 29 #[.int .i64 3, .int .i64 f1, .int .i64 f2, .int .i64 f3, .string f4, .slice A f5.length c, .int .i64 f6.Kind, .int .i64 f6.N, .int .i64 f7, .int .i64 f8.Vat, .int .i64 f8.Entity, .int .i64 f8.Seq])
    have HB2 := Lib.hid (HB.out.alloc (by simp) (.cells #[.int .i64 0, .int .i64 0] 25))
    have HK2 := Lib.hid (HK.out.alloc (.cells #[.int .i64 0, .int .i64 0] 25))
    by_cases q70 : ¬ f2 = 0
    · have qb70 : (f2 == 0) = false := by simpa using q70
      go_enter Try.func16, Try.ntmps16
      go_wp2
      all_goals go_ret
      all_goals exact ⟨by first | (refine congrArg (fun b => Ending.returned (Value.bool b)) (Eq.symm ?_); simp [isMessageB, calmB, toB, tagB, q70]; done) | simp [isMessageB, calmB, toB, tagB, q70], HB2.out⟩
    replace q70 := Classical.not_not.1 q70
    subst q70
    by_cases q71 : ¬ f4.toList = []
    · have qb71 : (f4.toList == []) = false := by simpa using q71
      go_enter Try.func16, Try.ntmps16
      go_wp2
      all_goals go_ret
      all_goals exact ⟨by first | (refine congrArg (fun b => Ending.returned (Value.bool b)) (Eq.symm ?_); simp [isMessageB, calmB, toB, tagB, q71]; done) | simp [isMessageB, calmB, toB, tagB, q71], HB2.out⟩
    replace q71 := Classical.not_not.1 q71
    by_cases q72 : ¬ f5 = []
    · have ql72 : 0 < f5.length := List.length_pos_iff.2 q72
      have qi72 : (0 : Int) < f5.length := by omega
      have qj72 : ((f5.length : Int) == 0) = false := by simp; omega
      go_enter Try.func16, Try.ntmps16
      go_wp2
      all_goals go_ret
      all_goals exact ⟨by first | (refine congrArg (fun b => Ending.returned (Value.bool b)) (Eq.symm ?_); simp [isMessageB, calmB, toB, tagB, q71, q72]; done) | simp [isMessageB, calmB, toB, tagB, q71, q72], HB2.out⟩
    replace q72 := Classical.not_not.1 q72
    subst q72
    rcases Bool.eq_false_or_eq_true (eqbTag f8 zTag) with q73 | q73
    rotate_left
    · have he73 : ∀ w, Sem.run Try.prog (binOp .eql 27 (.agg #[.int .i64 f8.Vat, .int .i64 f8.Entity, .int .i64 f8.Seq]) (.agg #[.int .i64 0, .int .i64 0, .int .i64 0])) w = .ok (.bool false) w := fun w => by have h := run_eql_Tag f8 zTag w; rw [q73] at h; exact h
      go_enter Try.func16, Try.ntmps16
      go_wp2
      all_goals go_ret
      all_goals exact ⟨by first | (refine congrArg (fun b => Ending.returned (Value.bool b)) (Eq.symm ?_); simp [isMessageB, calmB, toB, tagB, q71, q73]; done) | simp [isMessageB, calmB, toB, tagB, q71, q73], HB2.out⟩
    have he73 : ∀ w, Sem.run Try.prog (binOp .eql 27 (.agg #[.int .i64 f8.Vat, .int .i64 f8.Entity, .int .i64 f8.Seq]) (.agg #[.int .i64 0, .int .i64 0, .int .i64 0])) w = .ok (.bool true) w := fun w => by have h := run_eql_Tag f8 zTag w; rw [q73] at h; exact h
    go_enter Try.func16, Try.ntmps16
    go_wp2_with fail
    refine (spec_l11One_calls f3 _).mono ?_
    rintro e w74 ⟨rfl, rfl⟩
    rcases Bool.eq_false_or_eq_true (inR f3 1 999999) with q74 | q74
    rotate_left
    · rw [q74]
      go_wp2
      all_goals go_ret
      all_goals exact ⟨by first | (refine congrArg (fun b => Ending.returned (Value.bool b)) (Eq.symm ?_); simp [isMessageB, calmB, toB, tagB, q71, q73, q74]; done) | simp [isMessageB, calmB, toB, tagB, q71, q73, q74], HB2.out⟩
    rw [q74]
    rcases Bool.eq_false_or_eq_true (eqbWire f6 zWire) with q75 | q75
    rotate_left
    · have he75 : ∀ w, Sem.run Try.prog (binOp .eql 25 (.agg #[.int .i64 f6.Kind, .int .i64 f6.N]) (.agg #[.int .i64 0, .int .i64 0])) w = .ok (.bool false) w := fun w => by have h := run_eql_Wire f6 zWire w; rw [q75] at h; exact h
      go_wp2
      all_goals go_ret
      all_goals exact ⟨by first | (refine congrArg (fun b => Ending.returned (Value.bool b)) (Eq.symm ?_); simp [isMessageB, calmB, toB, tagB, q71, q73, q74, q75]; done) | simp [isMessageB, calmB, toB, tagB, q71, q73, q74, q75], HB2.out⟩
    have he75 : ∀ w, Sem.run Try.prog (binOp .eql 25 (.agg #[.int .i64 f6.Kind, .int .i64 f6.N]) (.agg #[.int .i64 0, .int .i64 0])) w = .ok (.bool true) w := fun w => by have h := run_eql_Wire f6 zWire w; rw [q75] at h; exact h
    by_cases q76 : ¬ f1 = 0
    · have qb76 : (f1 == 0) = false := by simpa using q76
      go_wp2
      all_goals go_ret
      all_goals exact ⟨by first | (refine congrArg (fun b => Ending.returned (Value.bool b)) (Eq.symm ?_); simp [isMessageB, calmB, toB, tagB, q71, q73, q74, q75, q76]; done) | simp [isMessageB, calmB, toB, tagB, q71, q73, q74, q75, q76], HB2.out⟩
    replace q76 := Classical.not_not.1 q76
    subst q76
    by_cases q77 : ¬ f7 = 0
    · have qb77 : (f7 == 0) = false := by simpa using q77
      go_wp2
      all_goals go_ret
      all_goals exact ⟨by first | (refine congrArg (fun b => Ending.returned (Value.bool b)) (Eq.symm ?_); simp [isMessageB, calmB, toB, tagB, q71, q73, q74, q75, q77]; done) | simp [isMessageB, calmB, toB, tagB, q71, q73, q74, q75, q77], HB2.out⟩
    replace q77 := Classical.not_not.1 q77
    subst q77
    go_wp2
    all_goals go_ret
    all_goals exact ⟨by first | (refine congrArg (fun b => Ending.returned (Value.bool b)) (Eq.symm ?_); simp [isMessageB, calmB, toB, tagB, q71, q73, q74, q75]; done) | simp [isMessageB, calmB, toB, tagB, q71, q73, q74, q75], HB2.out⟩
  by_cases k4 : f0 = 4
  · subst k4
    have HK := Lib.hid (Blk.new w 29 #[.int .i64 4, .int .i64 f1, .int .i64 f2, .int .i64 f3, .string f4, .slice A f5.length c, .int .i64 f6.Kind, .int .i64 f6.N, .int .i64 f7, .int .i64 f8.Vat, .int .i64 f8.Entity, .int .i64 f8.Seq])
    have HB2 := Lib.hid (HB.out.alloc (by simp) (.cells #[.int .i64 0, .int .i64 0] 25))
    have HK2 := Lib.hid (HK.out.alloc (.cells #[.int .i64 0, .int .i64 0] 25))
    by_cases q78 : ¬ f2 = 0
    · have qb78 : (f2 == 0) = false := by simpa using q78
      go_enter Try.func16, Try.ntmps16
      go_wp2
      all_goals go_ret
      all_goals exact ⟨by first | (refine congrArg (fun b => Ending.returned (Value.bool b)) (Eq.symm ?_); simp [isMessageB, calmB, toB, tagB, q78]; done) | simp [isMessageB, calmB, toB, tagB, q78], HB2.out⟩
    replace q78 := Classical.not_not.1 q78
    subst q78
    by_cases q79 : ¬ f4.toList = []
    · have qb79 : (f4.toList == []) = false := by simpa using q79
      go_enter Try.func16, Try.ntmps16
      go_wp2
      all_goals go_ret
      all_goals exact ⟨by first | (refine congrArg (fun b => Ending.returned (Value.bool b)) (Eq.symm ?_); simp [isMessageB, calmB, toB, tagB, q79]; done) | simp [isMessageB, calmB, toB, tagB, q79], HB2.out⟩
    replace q79 := Classical.not_not.1 q79
    by_cases q80 : ¬ f5 = []
    · have ql80 : 0 < f5.length := List.length_pos_iff.2 q80
      have qi80 : (0 : Int) < f5.length := by omega
      have qj80 : ((f5.length : Int) == 0) = false := by simp; omega
      go_enter Try.func16, Try.ntmps16
      go_wp2
      all_goals go_ret
      all_goals exact ⟨by first | (refine congrArg (fun b => Ending.returned (Value.bool b)) (Eq.symm ?_); simp [isMessageB, calmB, toB, tagB, q79, q80]; done) | simp [isMessageB, calmB, toB, tagB, q79, q80], HB2.out⟩
    replace q80 := Classical.not_not.1 q80
    subst q80
    rcases Bool.eq_false_or_eq_true (eqbTag f8 zTag) with q81 | q81
    rotate_left
    · have he81 : ∀ w, Sem.run Try.prog (binOp .eql 27 (.agg #[.int .i64 f8.Vat, .int .i64 f8.Entity, .int .i64 f8.Seq]) (.agg #[.int .i64 0, .int .i64 0, .int .i64 0])) w = .ok (.bool false) w := fun w => by have h := run_eql_Tag f8 zTag w; rw [q81] at h; exact h
      go_enter Try.func16, Try.ntmps16
      go_wp2
      all_goals go_ret
      all_goals exact ⟨by first | (refine congrArg (fun b => Ending.returned (Value.bool b)) (Eq.symm ?_); simp [isMessageB, calmB, toB, tagB, q79, q81]; done) | simp [isMessageB, calmB, toB, tagB, q79, q81], HB2.out⟩
    have he81 : ∀ w, Sem.run Try.prog (binOp .eql 27 (.agg #[.int .i64 f8.Vat, .int .i64 f8.Entity, .int .i64 f8.Seq]) (.agg #[.int .i64 0, .int .i64 0, .int .i64 0])) w = .ok (.bool true) w := fun w => by have h := run_eql_Tag f8 zTag w; rw [q81] at h; exact h
    go_enter Try.func16, Try.ntmps16
    go_wp2_with fail
    refine (spec_l11One_calls f3 _).mono ?_
    rintro e w82 ⟨rfl, rfl⟩
    rcases Bool.eq_false_or_eq_true (inR f3 1 999999) with q82 | q82
    rotate_left
    · rw [q82]
      go_wp2
      all_goals go_ret
      all_goals exact ⟨by first | (refine congrArg (fun b => Ending.returned (Value.bool b)) (Eq.symm ?_); simp [isMessageB, calmB, toB, tagB, q79, q81, q82]; done) | simp [isMessageB, calmB, toB, tagB, q79, q81, q82], HB2.out⟩
    rw [q82]
    rcases Bool.eq_false_or_eq_true (eqbWire f6 zWire) with q83 | q83
    rotate_left
    · have he83 : ∀ w, Sem.run Try.prog (binOp .eql 25 (.agg #[.int .i64 f6.Kind, .int .i64 f6.N]) (.agg #[.int .i64 0, .int .i64 0])) w = .ok (.bool false) w := fun w => by have h := run_eql_Wire f6 zWire w; rw [q83] at h; exact h
      go_wp2
      all_goals go_ret
      all_goals exact ⟨by first | (refine congrArg (fun b => Ending.returned (Value.bool b)) (Eq.symm ?_); simp [isMessageB, calmB, toB, tagB, q79, q81, q82, q83]; done) | simp [isMessageB, calmB, toB, tagB, q79, q81, q82, q83], HB2.out⟩
    have he83 : ∀ w, Sem.run Try.prog (binOp .eql 25 (.agg #[.int .i64 f6.Kind, .int .i64 f6.N]) (.agg #[.int .i64 0, .int .i64 0])) w = .ok (.bool true) w := fun w => by have h := run_eql_Wire f6 zWire w; rw [q83] at h; exact h
    by_cases q84 : ¬ f1 = 0
    · have qb84 : (f1 == 0) = false := by simpa using q84
      go_wp2
      all_goals go_ret
      all_goals exact ⟨by first | (refine congrArg (fun b => Ending.returned (Value.bool b)) (Eq.symm ?_); simp [isMessageB, calmB, toB, tagB, q79, q81, q82, q83, q84]; done) | simp [isMessageB, calmB, toB, tagB, q79, q81, q82, q83, q84], HB2.out⟩
    replace q84 := Classical.not_not.1 q84
    subst q84
    by_cases q85 : ¬ f7 = 0
    · have qb85 : (f7 == 0) = false := by simpa using q85
      go_wp2
      all_goals go_ret
      all_goals exact ⟨by first | (refine congrArg (fun b => Ending.returned (Value.bool b)) (Eq.symm ?_); simp [isMessageB, calmB, toB, tagB, q79, q81, q82, q83, q85]; done) | simp [isMessageB, calmB, toB, tagB, q79, q81, q82, q83, q85], HB2.out⟩
    replace q85 := Classical.not_not.1 q85
    subst q85
    go_wp2
    all_goals go_ret
    all_goals exact ⟨by first | (refine congrArg (fun b => Ending.returned (Value.bool b)) (Eq.symm ?_); simp [isMessageB, calmB, toB, tagB, q79, q81, q82, q83]; done) | simp [isMessageB, calmB, toB, tagB, q79, q81, q82, q83], HB2.out⟩
  by_cases k5 : f0 = 5
  · subst k5
    have HK := Lib.hid (Blk.new w 29 #[.int .i64 5, .int .i64 f1, .int .i64 f2, .int .i64 f3, .string f4, .slice A f5.length c, .int .i64 f6.Kind, .int .i64 f6.N, .int .i64 f7, .int .i64 f8.Vat, .int .i64 f8.Entity, .int .i64 f8.Seq])
    have HB2 := Lib.hid (HB.out.alloc (by simp) (.cells #[.int .i64 0, .int .i64 0] 25))
    have HK2 := Lib.hid (HK.out.alloc (.cells #[.int .i64 0, .int .i64 0] 25))
    by_cases q86 : ¬ f2 = 0
    · have qb86 : (f2 == 0) = false := by simpa using q86
      go_enter Try.func16, Try.ntmps16
      go_wp2
      all_goals go_ret
      all_goals exact ⟨by first | (refine congrArg (fun b => Ending.returned (Value.bool b)) (Eq.symm ?_); simp [isMessageB, calmB, toB, tagB, q86]; done) | simp [isMessageB, calmB, toB, tagB, q86], HB2.out⟩
    replace q86 := Classical.not_not.1 q86
    subst q86
    by_cases q87 : ¬ f4.toList = []
    · have qb87 : (f4.toList == []) = false := by simpa using q87
      go_enter Try.func16, Try.ntmps16
      go_wp2
      all_goals go_ret
      all_goals exact ⟨by first | (refine congrArg (fun b => Ending.returned (Value.bool b)) (Eq.symm ?_); simp [isMessageB, calmB, toB, tagB, q87]; done) | simp [isMessageB, calmB, toB, tagB, q87], HB2.out⟩
    replace q87 := Classical.not_not.1 q87
    by_cases q88 : ¬ f5 = []
    · have ql88 : 0 < f5.length := List.length_pos_iff.2 q88
      have qi88 : (0 : Int) < f5.length := by omega
      have qj88 : ((f5.length : Int) == 0) = false := by simp; omega
      go_enter Try.func16, Try.ntmps16
      go_wp2
      all_goals go_ret
      all_goals exact ⟨by first | (refine congrArg (fun b => Ending.returned (Value.bool b)) (Eq.symm ?_); simp [isMessageB, calmB, toB, tagB, q87, q88]; done) | simp [isMessageB, calmB, toB, tagB, q87, q88], HB2.out⟩
    replace q88 := Classical.not_not.1 q88
    subst q88
    rcases Bool.eq_false_or_eq_true (eqbTag f8 zTag) with q89 | q89
    rotate_left
    · have he89 : ∀ w, Sem.run Try.prog (binOp .eql 27 (.agg #[.int .i64 f8.Vat, .int .i64 f8.Entity, .int .i64 f8.Seq]) (.agg #[.int .i64 0, .int .i64 0, .int .i64 0])) w = .ok (.bool false) w := fun w => by have h := run_eql_Tag f8 zTag w; rw [q89] at h; exact h
      go_enter Try.func16, Try.ntmps16
      go_wp2
      all_goals go_ret
      all_goals exact ⟨by first | (refine congrArg (fun b => Ending.returned (Value.bool b)) (Eq.symm ?_); simp [isMessageB, calmB, toB, tagB, q87, q89]; done) | simp [isMessageB, calmB, toB, tagB, q87, q89], HB2.out⟩
    have he89 : ∀ w, Sem.run Try.prog (binOp .eql 27 (.agg #[.int .i64 f8.Vat, .int .i64 f8.Entity, .int .i64 f8.Seq]) (.agg #[.int .i64 0, .int .i64 0, .int .i64 0])) w = .ok (.bool true) w := fun w => by have h := run_eql_Tag f8 zTag w; rw [q89] at h; exact h
    go_enter Try.func16, Try.ntmps16
    go_wp2_with fail
    refine (spec_l11One_calls f3 _).mono ?_
    rintro e w90 ⟨rfl, rfl⟩
    rcases Bool.eq_false_or_eq_true (inR f3 1 999999) with q90 | q90
    rotate_left
    · rw [q90]
      go_wp2
      all_goals go_ret
      all_goals exact ⟨by first | (refine congrArg (fun b => Ending.returned (Value.bool b)) (Eq.symm ?_); simp [isMessageB, calmB, toB, tagB, q87, q89, q90]; done) | simp [isMessageB, calmB, toB, tagB, q87, q89, q90], HB2.out⟩
    rw [q90]
    rcases Bool.eq_false_or_eq_true (eqbWire f6 zWire) with q91 | q91
    rotate_left
    · have he91 : ∀ w, Sem.run Try.prog (binOp .eql 25 (.agg #[.int .i64 f6.Kind, .int .i64 f6.N]) (.agg #[.int .i64 0, .int .i64 0])) w = .ok (.bool false) w := fun w => by have h := run_eql_Wire f6 zWire w; rw [q91] at h; exact h
      go_wp2
      all_goals go_ret
      all_goals exact ⟨by first | (refine congrArg (fun b => Ending.returned (Value.bool b)) (Eq.symm ?_); simp [isMessageB, calmB, toB, tagB, q87, q89, q90, q91]; done) | simp [isMessageB, calmB, toB, tagB, q87, q89, q90, q91], HB2.out⟩
    have he91 : ∀ w, Sem.run Try.prog (binOp .eql 25 (.agg #[.int .i64 f6.Kind, .int .i64 f6.N]) (.agg #[.int .i64 0, .int .i64 0])) w = .ok (.bool true) w := fun w => by have h := run_eql_Wire f6 zWire w; rw [q91] at h; exact h
    by_cases q92 : ¬ f1 = 0
    · have qb92 : (f1 == 0) = false := by simpa using q92
      go_wp2
      all_goals go_ret
      all_goals exact ⟨by first | (refine congrArg (fun b => Ending.returned (Value.bool b)) (Eq.symm ?_); simp [isMessageB, calmB, toB, tagB, q87, q89, q90, q91, q92]; done) | simp [isMessageB, calmB, toB, tagB, q87, q89, q90, q91, q92], HB2.out⟩
    replace q92 := Classical.not_not.1 q92
    subst q92
    by_cases q93 : ¬ f7 = 0
    · have qb93 : (f7 == 0) = false := by simpa using q93
      go_wp2
      all_goals go_ret
      all_goals exact ⟨by first | (refine congrArg (fun b => Ending.returned (Value.bool b)) (Eq.symm ?_); simp [isMessageB, calmB, toB, tagB, q87, q89, q90, q91, q93]; done) | simp [isMessageB, calmB, toB, tagB, q87, q89, q90, q91, q93], HB2.out⟩
    replace q93 := Classical.not_not.1 q93
    subst q93
    go_wp2
    all_goals go_ret
    all_goals exact ⟨by first | (refine congrArg (fun b => Ending.returned (Value.bool b)) (Eq.symm ?_); simp [isMessageB, calmB, toB, tagB, q87, q89, q90, q91]; done) | simp [isMessageB, calmB, toB, tagB, q87, q89, q90, q91], HB2.out⟩
  by_cases k6 : f0 = 6
  · subst k6
    have HK := Lib.hid (Blk.new w 29 #[.int .i64 6, .int .i64 f1, .int .i64 f2, .int .i64 f3, .string f4, .slice A f5.length c, .int .i64 f6.Kind, .int .i64 f6.N, .int .i64 f7, .int .i64 f8.Vat, .int .i64 f8.Entity, .int .i64 f8.Seq])
    have HB2 := Lib.hid (HB.out.alloc (by simp) (.cells #[.int .i64 0, .int .i64 0] 25))
    have HK2 := Lib.hid (HK.out.alloc (.cells #[.int .i64 0, .int .i64 0] 25))
    by_cases q94 : ¬ f2 = 0
    · have qb94 : (f2 == 0) = false := by simpa using q94
      go_enter Try.func16, Try.ntmps16
      go_wp2
      all_goals go_ret
      all_goals exact ⟨by first | (refine congrArg (fun b => Ending.returned (Value.bool b)) (Eq.symm ?_); simp [isMessageB, calmB, toB, tagB, q94]; done) | simp [isMessageB, calmB, toB, tagB, q94], HB2.out⟩
    replace q94 := Classical.not_not.1 q94
    subst q94
    by_cases q95 : ¬ f4.toList = []
    · have qb95 : (f4.toList == []) = false := by simpa using q95
      go_enter Try.func16, Try.ntmps16
      go_wp2
      all_goals go_ret
      all_goals exact ⟨by first | (refine congrArg (fun b => Ending.returned (Value.bool b)) (Eq.symm ?_); simp [isMessageB, calmB, toB, tagB, q95]; done) | simp [isMessageB, calmB, toB, tagB, q95], HB2.out⟩
    replace q95 := Classical.not_not.1 q95
    by_cases q96 : ¬ f5 = []
    · have ql96 : 0 < f5.length := List.length_pos_iff.2 q96
      have qi96 : (0 : Int) < f5.length := by omega
      have qj96 : ((f5.length : Int) == 0) = false := by simp; omega
      go_enter Try.func16, Try.ntmps16
      go_wp2
      all_goals go_ret
      all_goals exact ⟨by first | (refine congrArg (fun b => Ending.returned (Value.bool b)) (Eq.symm ?_); simp [isMessageB, calmB, toB, tagB, q95, q96]; done) | simp [isMessageB, calmB, toB, tagB, q95, q96], HB2.out⟩
    replace q96 := Classical.not_not.1 q96
    subst q96
    rcases Bool.eq_false_or_eq_true (eqbTag f8 zTag) with q97 | q97
    rotate_left
    · have he97 : ∀ w, Sem.run Try.prog (binOp .eql 27 (.agg #[.int .i64 f8.Vat, .int .i64 f8.Entity, .int .i64 f8.Seq]) (.agg #[.int .i64 0, .int .i64 0, .int .i64 0])) w = .ok (.bool false) w := fun w => by have h := run_eql_Tag f8 zTag w; rw [q97] at h; exact h
      go_enter Try.func16, Try.ntmps16
      go_wp2
      all_goals go_ret
      all_goals exact ⟨by first | (refine congrArg (fun b => Ending.returned (Value.bool b)) (Eq.symm ?_); simp [isMessageB, calmB, toB, tagB, q95, q97]; done) | simp [isMessageB, calmB, toB, tagB, q95, q97], HB2.out⟩
    have he97 : ∀ w, Sem.run Try.prog (binOp .eql 27 (.agg #[.int .i64 f8.Vat, .int .i64 f8.Entity, .int .i64 f8.Seq]) (.agg #[.int .i64 0, .int .i64 0, .int .i64 0])) w = .ok (.bool true) w := fun w => by have h := run_eql_Tag f8 zTag w; rw [q97] at h; exact h
    by_cases q98 : ¬ f3 = 0
    · have qb98 : (f3 == 0) = false := by simpa using q98
      go_enter Try.func16, Try.ntmps16
      go_wp2
      all_goals go_ret
      all_goals exact ⟨by first | (refine congrArg (fun b => Ending.returned (Value.bool b)) (Eq.symm ?_); simp [isMessageB, calmB, toB, tagB, q95, q97, q98]; done) | simp [isMessageB, calmB, toB, tagB, q95, q97, q98], HB2.out⟩
    replace q98 := Classical.not_not.1 q98
    subst q98
    rcases Bool.eq_false_or_eq_true (eqbWire f6 zWire) with q99 | q99
    rotate_left
    · have he99 : ∀ w, Sem.run Try.prog (binOp .eql 25 (.agg #[.int .i64 f6.Kind, .int .i64 f6.N]) (.agg #[.int .i64 0, .int .i64 0])) w = .ok (.bool false) w := fun w => by have h := run_eql_Wire f6 zWire w; rw [q99] at h; exact h
      go_enter Try.func16, Try.ntmps16
      go_wp2
      all_goals go_ret
      all_goals exact ⟨by first | (refine congrArg (fun b => Ending.returned (Value.bool b)) (Eq.symm ?_); simp [isMessageB, calmB, toB, tagB, q95, q97, q99]; done) | simp [isMessageB, calmB, toB, tagB, q95, q97, q99], HB2.out⟩
    have he99 : ∀ w, Sem.run Try.prog (binOp .eql 25 (.agg #[.int .i64 f6.Kind, .int .i64 f6.N]) (.agg #[.int .i64 0, .int .i64 0])) w = .ok (.bool true) w := fun w => by have h := run_eql_Wire f6 zWire w; rw [q99] at h; exact h
    go_enter Try.func16, Try.ntmps16
    go_wp2_with fail
    refine (spec_l11One_calls f1 _).mono ?_
    rintro e w100 ⟨rfl, rfl⟩
    rcases Bool.eq_false_or_eq_true (inR f1 1 999999) with q100 | q100
    rotate_left
    · rw [q100]
      go_wp2
      all_goals go_ret
      all_goals exact ⟨by first | (refine congrArg (fun b => Ending.returned (Value.bool b)) (Eq.symm ?_); simp [isMessageB, calmB, toB, tagB, q95, q97, q99, q100]; done) | simp [isMessageB, calmB, toB, tagB, q95, q97, q99, q100], HB2.out⟩
    rw [q100]
    go_wp2_with fail
    refine (spec_l11One_calls f7 _).mono ?_
    rintro e w101 ⟨rfl, rfl⟩
    go_wp2
    all_goals go_ret
    all_goals exact ⟨by first | (refine congrArg (fun b => Ending.returned (Value.bool b)) (Eq.symm ?_); simp [isMessageB, calmB, toB, tagB, q95, q97, q99, q100]; done) | simp [isMessageB, calmB, toB, tagB, q95, q97, q99, q100], HB2.out⟩
  have kb : (f0 == 1) = false ∧ (f0 == 2) = false ∧ (f0 == 3) = false ∧ (f0 == 4) = false ∧ (f0 == 5) = false ∧ (f0 == 6) = false := by simp [k1, k2, k3, k4, k5, k6]
  obtain ⟨kb1, kb2, kb3, kb4, kb5, kb6⟩ := kb
  have HK := Lib.hid (Blk.new w 29 #[.int .i64 f0, .int .i64 f1, .int .i64 f2, .int .i64 f3, .string f4, .slice A f5.length c, .int .i64 f6.Kind, .int .i64 f6.N, .int .i64 f7, .int .i64 f8.Vat, .int .i64 f8.Entity, .int .i64 f8.Seq])
  have HB2 := Lib.hid (HB.out.alloc (by simp) (.cells #[.int .i64 0, .int .i64 0] 25))
  have HK2 := Lib.hid (HK.out.alloc (.cells #[.int .i64 0, .int .i64 0] 25))
  by_cases q102 : ¬ f2 = 0
  · have qb102 : (f2 == 0) = false := by simpa using q102
    go_enter Try.func16, Try.ntmps16
    go_wp2
    all_goals go_ret
    all_goals exact ⟨by first | (refine congrArg (fun b => Ending.returned (Value.bool b)) (Eq.symm ?_); simp [isMessageB, calmB, toB, tagB, k1, k2, k3, k4, k5, k6, q102]; done) | simp [isMessageB, calmB, toB, tagB, k1, k2, k3, k4, k5, k6, q102], HB2.out⟩
  replace q102 := Classical.not_not.1 q102
  subst q102
  by_cases q103 : ¬ f4.toList = []
  · have qb103 : (f4.toList == []) = false := by simpa using q103
    go_enter Try.func16, Try.ntmps16
    go_wp2
    all_goals go_ret
    all_goals exact ⟨by first | (refine congrArg (fun b => Ending.returned (Value.bool b)) (Eq.symm ?_); simp [isMessageB, calmB, toB, tagB, k1, k2, k3, k4, k5, k6, q103]; done) | simp [isMessageB, calmB, toB, tagB, k1, k2, k3, k4, k5, k6, q103], HB2.out⟩
  replace q103 := Classical.not_not.1 q103
  by_cases q104 : ¬ f5 = []
  · have ql104 : 0 < f5.length := List.length_pos_iff.2 q104
    have qi104 : (0 : Int) < f5.length := by omega
    have qj104 : ((f5.length : Int) == 0) = false := by simp; omega
    go_enter Try.func16, Try.ntmps16
    go_wp2
    all_goals go_ret
    all_goals exact ⟨by first | (refine congrArg (fun b => Ending.returned (Value.bool b)) (Eq.symm ?_); simp [isMessageB, calmB, toB, tagB, k1, k2, k3, k4, k5, k6, q103, q104]; done) | simp [isMessageB, calmB, toB, tagB, k1, k2, k3, k4, k5, k6, q103, q104], HB2.out⟩
  replace q104 := Classical.not_not.1 q104
  subst q104
  rcases Bool.eq_false_or_eq_true (eqbTag f8 zTag) with q105 | q105
  rotate_left
  · have he105 : ∀ w, Sem.run Try.prog (binOp .eql 27 (.agg #[.int .i64 f8.Vat, .int .i64 f8.Entity, .int .i64 f8.Seq]) (.agg #[.int .i64 0, .int .i64 0, .int .i64 0])) w = .ok (.bool false) w := fun w => by have h := run_eql_Tag f8 zTag w; rw [q105] at h; exact h
    go_enter Try.func16, Try.ntmps16
    go_wp2
    all_goals go_ret
    all_goals exact ⟨by first | (refine congrArg (fun b => Ending.returned (Value.bool b)) (Eq.symm ?_); simp [isMessageB, calmB, toB, tagB, k1, k2, k3, k4, k5, k6, q103, q105]; done) | simp [isMessageB, calmB, toB, tagB, k1, k2, k3, k4, k5, k6, q103, q105], HB2.out⟩
  have he105 : ∀ w, Sem.run Try.prog (binOp .eql 27 (.agg #[.int .i64 f8.Vat, .int .i64 f8.Entity, .int .i64 f8.Seq]) (.agg #[.int .i64 0, .int .i64 0, .int .i64 0])) w = .ok (.bool true) w := fun w => by have h := run_eql_Tag f8 zTag w; rw [q105] at h; exact h
  go_enter Try.func16, Try.ntmps16
  go_wp2
  all_goals go_ret
  all_goals exact ⟨by first | (refine congrArg (fun b => Ending.returned (Value.bool b)) (Eq.symm ?_); simp [isMessageB, calmB, toB, tagB, k1, k2, k3, k4, k5, k6, q103, q105]; done) | simp [isMessageB, calmB, toB, tagB, k1, k2, k3, k4, k5, k6, q103, q105], HB2.out⟩

end Go.Proofs.Ytklbpjnpmbidiaa
