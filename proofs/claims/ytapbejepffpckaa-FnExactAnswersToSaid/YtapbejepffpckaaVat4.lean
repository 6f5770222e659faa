import Derived.Test.YtapbejepffpckaaProg
import Derived.Test.YtapbejepffpckaaTypes
import Derived.StillTailTactics
import Derived.Deep.RegionHeld3
import Derived.Laws.IdiomStrings
import Derived.Test.YtapbejepffpckaaAppend
import Derived.Laws.StructEq
import Derived.Lib.SliceRun
import Derived.Shelf.RegionOpenPlain
import Derived.Test.YtapbejepffpckaaVat
namespace Go.Proofs.Ytapbejepffpckaa
open Go.RowKit
set_option linter.unusedVariables false
set_option linter.unusedSimpArgs false

set_option maxHeartbeats 3200000 in
set_option maxRecDepth 100000 in
theorem spec_AnswersTo_calls (us : List Value) (x : GVat) (a : Int) (w : World) (hr : RdLW w (eVat x) us) (hz : sizL (eVat x) ≤ 1048576) (hi : I64 a) :
    Calls Try.prog 46 #[.agg us.toArray, .int .i64 a] w fun e w' => ∃ v', e = .returned v' ∧ RdW w' (.s (answersTo x a).length ((answersTo x a).flatMap eInt)) v' ∧ Below w.heap.size w w' := by
  have HRR := Lib.hid hr
  obtain ⟨v1, v2, v3, v4, rfl, h1, h2, h3, h4⟩ := rd_eVat hr
  obtain ⟨A1, c1, rfl, -⟩ := h1.slice
  obtain ⟨A2, c2, rfl, -⟩ := h2.slice
  obtain ⟨A3, c3, rfl, ⟨_, _, hl3⟩⟩ := h3.slice
  obtain ⟨A4, c4, rfl, -⟩ := h4.slice
  have HR := Lib.hid h3
  clear hr h1 h2 h3 h4
  have HB0 := Lib.hid (((Below.refl w.heap.size w).alloc (Nat.le_refl _) (.cells #[.int .i64 x.Id, .slice A1 x.Entities.length c1, .slice A2 x.Loop.length c2, .slice A3 x.Links.length c3, .slice A4 x.Out.length c4] 35)).alloc (by simp) (.cells #[] 3))
  have HZA := Lib.hid (answersTo_len x a)
  have HZ := Lib.hid hz
  go_enter Try.func46, Try.ntmps46
  go_wp2_with fail
  refine (spec_LinkTo_calls _ x a _ (HRR.out.below HB0.out) hz hi).mono ?_
  rintro e w1 ⟨rfl, hb1⟩
  have HO0 : Hid (w1.ownsRow (w.heap.size + 1) 3 1 (.slice (some ⟨w.heap.size + 1, 0, none⟩) 0 0) 0 []) := Lib.hid (ownsRow_below (ownsRow_made' (by simp) (by simp)) hb1)
  have HK0 := Lib.hid (((Blk.new w 35 #[.int .i64 x.Id, .slice A1 x.Entities.length c1, .slice A2 x.Loop.length c2, .slice A3 x.Links.length c3, .slice A4 x.Out.length c4]).alloc (.cells #[] 3)).below hb1)
  have HB1 := Lib.hid (HB0.out.trans (hb1.mono (by simp only [size_alloc]; omega)))
  obtain ⟨kz0, kz1⟩ := HK0.out.rules
  have hlz := HK0.out.lt
  clear hb1
  by_cases hge : ¬ 0 ≤ linkTo x a
  · have HE : Hid (answersTo x a = []) := by
      unfold Hid answersTo answersOf
      cases x.Links[(linkTo x a).toNat]? with
      | none => rfl
      | some l => simp only [if_neg hge]; rfl
    obtain ⟨q, hq⟩ : ∃ q, q = linkTo x a := ⟨_, rfl⟩
    rw [← hq] at hge
    rw [← hq]
    clear hq
    go_wp2
    go_ret
    rw [HE.out]
    exact ⟨_, rfl, ownsRow_rdw (xs := ([] : List Int)) vals_eInt HO0.out (by simp), HB1.out⟩
  replace hge := Classical.not_not.1 hge
  obtain ⟨k, y, hk, hy, _, _⟩ := idx_some hge
  have hkl : k < x.Links.length := (List.getElem?_eq_some_iff.1 hy).1
  have HE : Hid (answersTo x a = y.Answers.map (·.Id)) := by
    unfold Hid answersTo answersOf
    rw [show linkTo x a = (k : Int) from hk, Int.toNat_natCast, hy]; simp
  rw [show linkTo x a = (k : Int) from hk]
  have hyl : y.Answers.length ≤ 1048576 := by have h1 := HZA.out; have h2 := HZ.out; rw [HE.out, List.length_map] at h1; omega
  obtain ⟨ad, u2, u4, u6, rfl, hab, k0, k1, k2, k3, k4, k5, k6, q2, q4, q6⟩ := row_eLink HR.out hy
  obtain ⟨B6, d6, rfl, ⟨_, _, hl6⟩⟩ := q6.slice
  have hab' : (ad.add (k * 7)).block < w.heap.size := by rw [block_of_add]; exact hab
  have HQ := Lib.hid q6
  have HK6 := Lib.hid k6
  have m6 := (HB1.out.cell (p := ⟨(ad.add (k * 7)).block, (ad.add (k * 7)).off + 6, none⟩) hab').trans k6
  have hm6 : (ad.add (k * 7)).block < w1.heap.size := by have := HB1.out.size; omega
  clear hk hge hy q2 q4 q6 k0 k1 k2 k3 k4 k5 k6
  have step : ∀ (i : Nat) (z : GQuestion), y.Answers[i]? = some z → ((y.Answers.take (i + 1)).map (·.Id)).flatMap vsInt = ((y.Answers.take i).map (·.Id)).flatMap vsInt ++ [z.Id].flatMap vsInt := by
    intro i z hz'
    rw [List.take_add_one, hz', List.map_append, List.flatMap_append]; rfl
  have STEP := Lib.hid step
  clear step
  go_wp2
  go_loopw [5, 7] (fun s t wr => ∃ (i : Nat) (A' : Option Addr) (c' : Nat), i ≤ y.Answers.length ∧ t = .int .i64 i ∧ s = .slice A' i c' ∧ Hid (wr.ownsRow (w.heap.size + 1) 3 1 (.slice A' i c') i (((y.Answers.take i).map (·.Id)).flatMap vsInt)) ∧ Hid (Below w.heap.size w wr) ∧ Hid (Blk wr w.heap.size 35 #[.int .i64 x.Id, .slice A1 x.Entities.length c1, .slice A2 x.Loop.length c2, .slice (some ad) x.Links.length c3, .slice A4 x.Out.length c4])) (fun s t wr => y.Answers.length - (intOf t).toNat)
  case atStart => exact ⟨0, _, _, by omega, rfl, rfl, HO0, HB1, HK0⟩
  case round =>
    obtain ⟨i, A', c', hi', rfl, rfl, HO, HB, HK⟩ := hrel
    obtain ⟨kb, kf⟩ := HK.out.rules
    have hbl := HK.out.lt
    have hlo := HO.out.lt
    have n6 := (HB.out.cell (p := ⟨(ad.add (k * 7)).block, (ad.add (k * 7)).off + 6, none⟩) hab').trans HK6.out
    have hn6 : (ad.add (k * 7)).block < wr.heap.size := by have := HB.out.size; omega
    by_cases hlt : i < y.Answers.length
    · obtain ⟨z, hz1⟩ : ∃ z, y.Answers[i]? = some z := ⟨y.Answers[i], List.getElem?_eq_getElem hlt⟩
      obtain ⟨aq, rfl, haq, r0, r1⟩ := row_eQuestion (HQ.out.below HB.out) hz1
      have haq' : (aq.add (i * 2)).block < wr.heap.size := by rw [block_of_add]; exact haq
      have HS := Lib.hid (STEP.out i z hz1)
      clear hz1
      go_wp2_with (at_builtin; refine wpList_append_rd rfl _ _ 54 rfl (w.heap.size + 1) 3 _ _ 1 8 Try.underlying54 rfl rfl rfl rfl rfl (by omega) _ i _ rfl (HO.out.alloc _) vals_eInt [z.Id] (one_eInt _) (lenv_eInt _) _ _ rfl (rdW_one vals_eInt wr z.Id 3) (by simp; omega) (by omega) (by have := HB.out.size; simp; omega) ?_)
      intro A'' c'' w2 hown hgrow
      have HB2 := Lib.hid ((HB.out.alloc (by have := HB.out.size; (try simp only [size_alloc]); omega) _).trans (grown_below hgrow (by have := HB.out.size; simp; omega) (fun k hk => by have := (hlo k hk).1; omega)))
      have HC2 : Chg (fun k => (Value.slice A' i c').ownBlock = some k) wr w2 := ((Chg.refl _ _).alloc _).trans (grown_chg hgrow)
      have HK2 := Lib.hid (HK.out.chg HC2 (fun h => by have := (hlo _ h).1; omega))
      have HO2 : Hid (w2.ownsRow (w.heap.size + 1) 3 1 (.slice A'' (i + 1) c'') (i + 1) (((y.Answers.take (i + 1)).map (·.Id)).flatMap vsInt)) := by
        unfold Hid; rw [HS.out]; simpa only [List.map_take, List.flatMap_cons, List.flatMap_nil, List.append_nil] using hown
      clear hown hgrow HC2
      go_wp2
      go_roundw
      case rel => exact ⟨i + 1, A'', c'', by omega, by go_num, rfl, HO2, HB2, HK2⟩
      case measure => simp [intOf]; omega
    · have : i = y.Answers.length := by omega
      subst this
      go_wp2
      go_ret
      have ho := HO.out
      rw [List.take_length] at ho
      rw [HE.out]
      have hlm : (y.Answers.map (·.Id)).length = y.Answers.length := List.length_map _
      rw [← hlm] at ho
      rw [← hlm]
      exact ⟨_, rfl, ownsRow_rdw vals_eInt ho (by omega), HB.out⟩
set_option maxHeartbeats 3200000 in
set_option maxRecDepth 100000 in
theorem impl_AnswersTo_calls (us : List Value) (x : GVat) (a : Int) (w : World) (hr : RdLW w (eVat x) us) (hz : sizL (eVat x) ≤ 1048576) (hi : I64 a) :
    Calls Try.prog 47 #[.agg us.toArray, .int .i64 a] w fun e w' => ∃ v' fp, e = .returned v' ∧ Own w' (.s (answersTo x a).length ((answersTo x a).flatMap eInt)) v' fp ∧ Fresh w fp ∧ Below w.heap.size w w' := by
  have HRR := Lib.hid hr
  obtain ⟨v1, v2, v3, v4, rfl, h1, h2, h3, h4⟩ := rd_eVat hr
  obtain ⟨A1, c1, rfl, -⟩ := h1.slice
  obtain ⟨A2, c2, rfl, -⟩ := h2.slice
  obtain ⟨A3, c3, rfl, ⟨_, _, hl3⟩⟩ := h3.slice
  obtain ⟨A4, c4, rfl, -⟩ := h4.slice
  have HR := Lib.hid h3
  clear hr h1 h2 h3 h4
  have HB0 := Lib.hid (((Below.refl w.heap.size w).alloc (Nat.le_refl _) (.cells #[.int .i64 x.Id, .slice A1 x.Entities.length c1, .slice A2 x.Loop.length c2, .slice A3 x.Links.length c3, .slice A4 x.Out.length c4] 35)).alloc (by simp) (.cells #[] 3))
  have HZA := Lib.hid (answersTo_len x a)
  have HZ := Lib.hid hz
  go_enter Try.func47, Try.ntmps47
  go_wp2_with fail
  refine (impl_LinkTo_calls _ x a _ (HRR.out.below HB0.out) hz hi).mono ?_
  rintro e w1 ⟨rfl, hb1⟩
  have HO0 : Hid (w1.ownsRow (w.heap.size + 1) 3 1 (.slice (some ⟨w.heap.size + 1, 0, none⟩) 0 0) 0 []) := Lib.hid (ownsRow_below (ownsRow_made' (by simp) (by simp)) hb1)
  have HK0 := Lib.hid (((Blk.new w 35 #[.int .i64 x.Id, .slice A1 x.Entities.length c1, .slice A2 x.Loop.length c2, .slice A3 x.Links.length c3, .slice A4 x.Out.length c4]).alloc (.cells #[] 3)).below hb1)
  have HB1 := Lib.hid (HB0.out.trans (hb1.mono (by simp only [size_alloc]; omega)))
  obtain ⟨kz0, kz1⟩ := HK0.out.rules
  have hlz := HK0.out.lt
  clear hb1
  by_cases hge : ¬ 0 ≤ linkTo x a
  · have HE : Hid (answersTo x a = []) := by
      unfold Hid answersTo answersOf
      cases x.Links[(linkTo x a).toNat]? with
      | none => rfl
      | some l => simp only [if_neg hge]; rfl
    obtain ⟨q, hq⟩ : ∃ q, q = linkTo x a := ⟨_, rfl⟩
    rw [← hq] at hge
    rw [← hq]
    clear hq
    go_wp2
    go_ret
    rw [HE.out]
    obtain ⟨fp, ho', hn', hge'⟩ := ownRow_own (xs := ([] : List Int)) vals_eInt HO0.out (by simp)
    exact ⟨_, fp, rfl, ho', ⟨hn', fun g hg => by have := hge' g hg; omega⟩, HB1.out⟩
  replace hge := Classical.not_not.1 hge
  obtain ⟨k, y, hk, hy, _, _⟩ := idx_some hge
  have hkl : k < x.Links.length := (List.getElem?_eq_some_iff.1 hy).1
  have HE : Hid (answersTo x a = y.Answers.map (·.Id)) := by
    unfold Hid answersTo answersOf
    rw [show linkTo x a = (k : Int) from hk, Int.toNat_natCast, hy]; simp
  rw [show linkTo x a = (k : Int) from hk]
  have hyl : y.Answers.length ≤ 1048576 := by have h1 := HZA.out; have h2 := HZ.out; rw [HE.out, List.length_map] at h1; omega
  obtain ⟨ad, u2, u4, u6, rfl, hab, k0, k1, k2, k3, k4, k5, k6, q2, q4, q6⟩ := row_eLink HR.out hy
  obtain ⟨B6, d6, rfl, ⟨_, _, hl6⟩⟩ := q6.slice
  have hab' : (ad.add (k * 7)).block < w.heap.size := by rw [block_of_add]; exact hab
  have HQ := Lib.hid q6
  have HK6 := Lib.hid k6
  have m6 := (HB1.out.cell (p := ⟨(ad.add (k * 7)).block, (ad.add (k * 7)).off + 6, none⟩) hab').trans k6
  have hm6 : (ad.add (k * 7)).block < w1.heap.size := by have := HB1.out.size; omega
  clear hk hge hy q2 q4 q6 k0 k1 k2 k3 k4 k5 k6
  have step : ∀ (i : Nat) (z : GQuestion), y.Answers[i]? = some z → ((y.Answers.take (i + 1)).map (·.Id)).flatMap vsInt = ((y.Answers.take i).map (·.Id)).flatMap vsInt ++ [z.Id].flatMap vsInt := by
    intro i z hz'
    rw [List.take_add_one, hz', List.map_append, List.flatMap_append]; rfl
  have STEP := Lib.hid step
  clear step
  go_wp2
  go_loopw [5, 22] (fun s t wr => ∃ (i : Nat) (A' : Option Addr) (c' : Nat), i ≤ y.Answers.length ∧ t = .int .i64 i ∧ s = .slice A' i c' ∧ Hid (wr.ownsRow (w.heap.size + 1) 3 1 (.slice A' i c') i (((y.Answers.take i).map (·.Id)).flatMap vsInt)) ∧ Hid (Below w.heap.size w wr) ∧ Hid (Blk wr w.heap.size 35 #[.int .i64 x.Id, .slice A1 x.Entities.length c1, .slice A2 x.Loop.length c2, .slice (some ad) x.Links.length c3, .slice A4 x.Out.length c4])) (fun s t wr => y.Answers.length - (intOf t).toNat)
  case atStart => exact ⟨0, _, _, by omega, rfl, rfl, HO0, HB1, HK0⟩
  case round =>
    obtain ⟨i, A', c', hi', rfl, rfl, HO, HB, HK⟩ := hrel
    obtain ⟨kb, kf⟩ := HK.out.rules
    have hbl := HK.out.lt
    have hlo := HO.out.lt
    have n6 := (HB.out.cell (p := ⟨(ad.add (k * 7)).block, (ad.add (k * 7)).off + 6, none⟩) hab').trans HK6.out
    have hn6 : (ad.add (k * 7)).block < wr.heap.size := by have := HB.out.size; omega
    by_cases hlt : i < y.Answers.length
    · obtain ⟨z, hz1⟩ : ∃ z, y.Answers[i]? = some z := ⟨y.Answers[i], List.getElem?_eq_getElem hlt⟩
      obtain ⟨aq, rfl, haq, r0, r1⟩ := row_eQuestion (HQ.out.below HB.out) hz1
      have haq' : (aq.add (i * 2)).block < wr.heap.size := by rw [block_of_add]; exact haq
      have HS := Lib.hid (STEP.out i z hz1)
      clear hz1
      go_wp2_with (at_builtin; refine wpList_append_rd rfl _ _ 54 rfl (w.heap.size + 1) 3 _ _ 1 8 Try.underlying54 rfl rfl rfl rfl rfl (by omega) _ i _ rfl ((HO.out.alloc _).alloc _) vals_eInt [z.Id] (one_eInt _) (lenv_eInt _) _ _ rfl (rdW_one' vals_eInt (w := wr.alloc _) z.Id 3 (by simp)) (by simp; omega) (by omega) (by have := HB.out.size; simp; omega) ?_)
      intro A'' c'' w2 hown hgrow
      have HB2 := Lib.hid (((HB.out.alloc HB.out.size _).alloc (by have := HB.out.size; (try simp only [size_alloc]); omega) _).trans (grown_below hgrow (by have := HB.out.size; simp; omega) (fun k hk => by have := (hlo k hk).1; omega)))
      have HC2 : Chg (fun k => (Value.slice A' i c').ownBlock = some k) wr w2 := (((Chg.refl _ _).alloc _).alloc _).trans (grown_chg hgrow)
      have HK2 := Lib.hid (HK.out.chg HC2 (fun h => by have := (hlo _ h).1; omega))
      have HO2 : Hid (w2.ownsRow (w.heap.size + 1) 3 1 (.slice A'' (i + 1) c'') (i + 1) (((y.Answers.take (i + 1)).map (·.Id)).flatMap vsInt)) := by
        unfold Hid; rw [HS.out]; simpa only [List.map_take, List.flatMap_cons, List.flatMap_nil, List.append_nil] using hown
      clear hown hgrow HC2
      go_wp2
      go_roundw
      case rel => exact ⟨i + 1, A'', c'', by omega, by go_num, rfl, HO2, HB2, HK2⟩
      case measure => simp [intOf]; omega
    · have : i = y.Answers.length := by omega
      subst this
      go_wp2
      go_ret
      have ho := HO.out
      rw [List.take_length] at ho
      rw [HE.out]
      have hlm : (y.Answers.map (·.Id)).length = y.Answers.length := List.length_map _
      rw [← hlm] at ho
      rw [← hlm]
      obtain ⟨fp, ho', hn', hge'⟩ := ownRow_own vals_eInt ho (by omega)
      exact ⟨_, fp, rfl, ho', ⟨hn', fun g hg => by have := hge' g hg; omega⟩, HB.out⟩

end Go.Proofs.Ytapbejepffpckaa
