import Derived.Test.YtiohoeafdaihpaaProg
import Derived.Test.YtiohoeafdaihpaaTypes
import Derived.StillTailTactics
import Derived.Deep.CutRange
import Derived.Laws.OwnMore
import Derived.Deep.AppendLies
import Derived.Deep.RegionWith
import Derived.Deep.RegionHeld3
import Derived.Laws.IdiomStrings
import Derived.Test.YtiohoeafdaihpaaAppend
import Derived.Laws.StructEq
import Derived.Lib.SliceRun
import Derived.Shelf.RegionOpenPlain
import Derived.Test.YtiohoeafdaihpaaLibA
import Derived.Test.YtiohoeafdaihpaaKnown
import Derived.Test.YtiohoeafdaihpaaOrders
namespace Go.Proofs.Ytiohoeafdaihpaa
open Go.RowKit
set_option linter.unusedVariables false
set_option linter.unusedSimpArgs false

set_option maxHeartbeats 3200000 in
theorem spec_IsScript_calls (us : List Value) (x : GScript) (w : World) (hr : RdLW w (eScript x) us) (hz : sizL (eScript x) ≤ 1048576) :
    Calls Try.prog 73 #[.agg us.toArray] w fun e w' => e = .returned (.bool (scriptB x)) ∧ Below w.heap.size w w' := by
  have hzq := hz
  rw [siz_eScript] at hzq
  obtain ⟨v1, rfl, h1⟩ := rd_eScript hr
  obtain ⟨A, c, rfl, ⟨_, _, hl⟩⟩ := h1.slice
  have HR := Lib.hid h1
  have hn : x.Name.size ≤ 140737488355328 := by omega
  have HMZ := Lib.hid (fun (m : GMethod) (hm : m ∈ x.Methods) => by
    have h2 := sizL_flat_le eMethod x.Methods m hm
    exact (by omega : sizL (eMethod m) ≤ 1048576))
  have HB0 := Lib.hid ((Below.refl w.heap.size w).alloc (Nat.le_refl _) (.cells #[.string x.Name, .slice A x.Methods.length c] 51))
  clear hz hr h1
  go_enter Try.func73, Try.ntmps73
  go_wp2
  go_loopw [3] (fun a wr => ∃ i : Nat, i ≤ x.Methods.length ∧ a = .int .i64 i ∧ Hid (Below w.heap.size w wr) ∧ Hid (Blk wr w.heap.size 51 #[.string x.Name, .slice A x.Methods.length c]) ∧ Hid (∀ j y, j < i → x.Methods[j]? = some y → methodAt x.Methods j y = true)) (fun a wr => x.Methods.length - (intOf a).toNat)
  case atStart => exact ⟨0, by omega, rfl, HB0, Blk.new _ _ _, fun j y h => absurd h (Nat.not_lt_zero _)⟩
  case round =>
    obtain ⟨i, hi, rfl, HB, HK, hno⟩ := hrel
    rename World => wo
    obtain ⟨kb, kf⟩ := HK.out.rules
    have hbl := HK.out.lt
    have zr := HB.out.size
    by_cases hlt : i < x.Methods.length
    · obtain ⟨m, hm⟩ : ∃ m, x.Methods[i]? = some m := ⟨x.Methods[i], List.getElem?_eq_getElem hlt⟩
      obtain ⟨ad, u1, rfl, hab, k0, k1, hq⟩ := row_eMethod (HR.out.below HB.out) hm
      obtain ⟨A2, c2, rfl, -⟩ := hq.slice
      have hmz := HMZ.out m (List.mem_of_getElem? hm)
      have HX := Lib.hid hm
      have hml : RdLW wo (eMethod m) [.string m.Name, .slice A2 m.Code.length c2] := mkrd_eMethod hq
      have HCM := Lib.hid (spec_IsMethod_calls _ m wo hml hmz)
      clear hm hq hml
      rcases Bool.eq_false_or_eq_true (methodB m) with g1 | g1
      rotate_left
      · have HE : Hid (scriptB x = false) := by unfold Hid scriptB; rw [allAt_false HX.out (by unfold methodAt; rw [g1]; rfl)]; simp
        go_wp2_with fail
        refine HCM.out.mono ?_
        rintro e w2 ⟨rfl, hb2⟩
        rw [g1]
        go_wp2
        go_ret
        exact ⟨by rw [HE.out]; rfl, HB.out.trans (hb2.mono zr)⟩
      · go_wp2_with fail
        refine HCM.out.mono ?_
        rintro e w2 ⟨rfl, hb2⟩
        rw [g1]
        have HB2 := Lib.hid (HB.out.trans (hb2.mono zr))
        have HK2 := Lib.hid (HK.out.below hb2)
        have z2 := HB2.out.size
        clear hb2
        go_wp2
        go_loopw [4] (fun a wk => ∃ k : Nat, k ≤ i ∧ a = .int .i64 k ∧ Hid (Below w2.heap.size w2 wk) ∧ Hid (∀ j y, j < k → x.Methods[j]? = some y → (y.Name.toList == m.Name.toList) = false)) (fun a wk => i - (intOf a).toNat)
        case atStart => exact ⟨0, by omega, rfl, Below.refl _ _, no_start⟩
        case round =>
          obtain ⟨k, hk, rfl, HBk, hno2⟩ := hrel
          have HKk := Lib.hid (HK2.out.below HBk.out)
          have HBwk := Lib.hid (HB2.out.trans (HBk.out.mono z2))
          obtain ⟨p0, p1⟩ := HKk.out.rules
          have p2 := HKk.out.lt
          by_cases hkl : k < i
          · obtain ⟨o, ho⟩ : ∃ o, x.Methods[k]? = some o := ⟨x.Methods[k]'(by omega), List.getElem?_eq_getElem _⟩
            obtain ⟨ad1, u2, e1, hab1, q0, q1, -⟩ := row_eMethod (HR.out.below HBwk.out) ho
            injection e1 with e1
            subst e1
            obtain ⟨ad2, u3, e2, hab2, q2, q3, -⟩ := row_eMethod (HR.out.below HBwk.out) HX.out
            injection e2 with e2
            subst e2
            have HO := Lib.hid ho
            clear ho q1 q3
            cases hq : (o.Name.toList == m.Name.toList) with
            | true =>
              have HE : Hid (scriptB x = false) := by unfold Hid scriptB; rw [allAt_false HX.out (by unfold methodAt; rw [any_take_hit HO.out hkl hq]; simp)]; simp
              go_wp2
              go_quiet (fail)
              go_wp2
              go_ret
              exact ⟨by rw [HE.out]; rfl, belowN HBwk.out _⟩
            | false =>
              have HN := Lib.hid (step_no (p := fun y : GMethod => (y.Name.toList == m.Name.toList) = false) hno2.out HO.out hq)
              go_wp2
              go_quiet (fail)
              go_wp2
              go_roundw
              case rel => exact ⟨k + 1, by omega, by go_num, belowN HBk.out _, HN⟩
              case measure => simp [intOf]; omega
          · have : k = i := by omega
            subst this
            have HN := Lib.hid (stepAt (p := methodAt x.Methods) hno.out HX.out (by unfold methodAt; rw [g1, any_take_miss hno2.out]; rfl))
            go_wp2
            go_roundw
            case rel => exact ⟨k + 1, by omega, by go_num, HBwk, HKk, HN⟩
            case measure => simp [intOf]; omega
    · have : i = x.Methods.length := by omega
      subst this
      have HE : Hid (scriptB x = (nameB x.Name && decide (x.Methods.length ≤ 4))) := by unfold Hid scriptB; rw [allAt_true (fun j y hj hy => hno.out j y hj hy), Bool.and_true]
      rcases Bool.eq_false_or_eq_true (nameB x.Name) with q1 | q1
      · rw [q1] at HE
        go_wp2_with (go_at_call 69; refine (spec_IsName_calls _ _ hn).mono ?_; rintro e w1 ⟨rfl, rfl⟩; rw [q1])
        go_ret
        exact ⟨by rw [HE.out, Bool.true_and, show decide (x.Methods.length ≤ 4) = decide ((x.Methods.length : Int) ≤ 4) from decide_eq_decide.2 (by omega)]; rfl, HB.out⟩
      · rw [q1] at HE
        go_wp2_with (go_at_call 69; refine (spec_IsName_calls _ _ hn).mono ?_; rintro e w1 ⟨rfl, rfl⟩; rw [q1])
        go_ret
        exact ⟨by rw [HE.out]; rfl, HB.out⟩
set_option maxHeartbeats 3200000 in
set_option maxRecDepth 100000 in
theorem impl_isLibrary_calls (v : Value) (xs : List GScript) (w : World) (hr : RdW w (.s xs.length (xs.flatMap eScript)) v) (hz : sizL (xs.flatMap eScript) ≤ 1048576) :
    Calls Try.prog 75 #[v] w fun e w' => e = .returned (.bool (libraryB xs)) ∧ Below w.heap.size w w' := by
  obtain ⟨A, c, rfl, ⟨_, _, hl⟩⟩ := hr.slice
  have HR := Lib.hid hr
  have HMZ := Lib.hid (fun (m : GScript) (hm : m ∈ xs) => by
    have h2 := sizL_flat_le eScript xs m hm
    exact (by omega : sizL (eScript m) ≤ 1048576))
  clear hz hr
  by_cases q2 : ¬ xs.length ≤ 6
  · have HE : Hid (libraryB xs = false) := by unfold Hid libraryB; simp [q2]
    go_enter Try.func75, Try.ntmps75
    go_wp2
    go_ret
    exact ⟨by rw [HE.out]; rfl, Below.refl _ _⟩
  replace q2 := Classical.not_not.1 q2
  have HS : Hid (libraryB xs = allAt (scriptAt xs) xs) := by unfold Hid libraryB; rw [decide_eq_true q2]; rfl
  go_enter Try.func75, Try.ntmps75
  go_wp2
  go_loopw [10] (fun a wr => ∃ i : Nat, i ≤ xs.length ∧ a = .int .i64 i ∧ Hid (Below w.heap.size w wr) ∧ Hid (∀ j y, j < i → xs[j]? = some y → scriptAt xs j y = true)) (fun a wr => xs.length - (intOf a).toNat)
  case atStart => exact ⟨0, by omega, rfl, Below.refl _ _, fun j y h => absurd h (Nat.not_lt_zero _)⟩
  case round =>
    obtain ⟨i, hi, rfl, HB, hno⟩ := hrel
    have zr := HB.out.size
    by_cases hlt : i < xs.length
    · obtain ⟨y, hy⟩ : ∃ y, xs[i]? = some y := ⟨xs[i], List.getElem?_eq_getElem hlt⟩
      obtain ⟨ad, u1, rfl, hab, k0, k1, hq⟩ := row_eScript (HR.out.below HB.out) hy
      obtain ⟨A2, c2, rfl, -⟩ := hq.slice
      have hyz := HMZ.out y (List.mem_of_getElem? hy)
      have HX := Lib.hid hy
      have hyl : RdLW wr (eScript y) [.string y.Name, .slice A2 y.Methods.length c2] := mkrd_eScript hq
      have HRTr := Lib.hid ((HR.out.below HB.out).takeN i hi)
      have HYLr := Lib.hid hyl
      clear hy hq hyl
      go_wp2
      obtain ⟨w0, hw0⟩ : ∃ q, q = wr.alloc (.cells #[.string y.Name, .slice A2 y.Methods.length c2] 51) := ⟨_, rfl⟩
      rw [← hw0]
      have HKY : Hid (Blk w0 wr.heap.size 51 #[.string y.Name, .slice A2 y.Methods.length c2]) := by unfold Hid; rw [hw0]; exact Blk.new wr _ _
      have HBw : Hid (Below wr.heap.size wr w0) := by unfold Hid; rw [hw0]; exact (Below.refl _ _).alloc (Nat.le_refl _) _
      have z0 := HBw.out.size
      clear hw0
      have HYL := Lib.hid (HYLr.out.below HBw.out)
      have HRT := Lib.hid (HRTr.out.below HBw.out)
      rcases Bool.eq_false_or_eq_true (scriptB y) with g1 | g1
      rotate_left
      · have HE : Hid (libraryB xs = false) := by unfold Hid; rw [HS.out]; exact allAt_false HX.out (by unfold scriptAt; rw [g1]; rfl)
        skip
        refine wp_region_U (fun wq => Below w0.heap.size w0 wq ∧ Blk wq wr.heap.size 51 #[.string y.Name, .slice A2 y.Methods.length c2]) [0, 1, 2, 3, 4, 5, 6, 7, 8, 9, 10, 11] (by kernel_rfl) ?_
        have hH_ := (⟨(Below.refl w0.heap.size w0).drew, HKY.out.drew⟩ : (fun wq => Below w0.heap.size w0 wq ∧ Blk wq wr.heap.size 51 #[.string y.Name, .slice A2 y.Methods.length c2]) w0.drew)
        refine wpAnyU_take (i := 0) (v := ?_) rfl (by kernel_rfl) (by kernel_rfl) (by kernel_rfl) (by kernel_rfl) (fun _ _ _ h => h) (Or.inl ⟨by rfl, ?_⟩) hH_ ?_
        rotate_left
        · (intro w hSw; (try dsimp only at hSw); (obtain ⟨hb_, ha0⟩ := hSw; obtain ⟨kc0, kf0⟩ := ha0.rules; go_simp <;> with_reducible rfl))
        simp only [Act.put, List.setIfInBounds_toArray, List.set_cons_zero, List.set_cons_succ]
        refine wpAnyU_one (i := 1) (by kernel_rfl) rfl (fun K hK => ?_)
        go_simp
        refine (impl_isScript_calls _ y _ (HYL.out.below hH_.1) hyz).mono ?_
        rintro e w2 ⟨rfl, hb2⟩
        rw [g1]
        refine hK.out _ _ ?_ (fun hH1_ => ?_)
        · exact ⟨hH_.1.trans (hb2.mono hH_.1.size), hH_.2.below hb2⟩
        clear hK K hH_
        have hH_ := hH1_
        clear hH1_
        refine wpAnyU_take (i := 2) (v := ?_) rfl (by kernel_rfl) (by kernel_rfl) (by kernel_rfl) (by kernel_rfl) (fun _ _ _ h => h) (Or.inl ⟨by rfl, ?_⟩) hH_ ?_
        rotate_left
        · (intro w hSw; (try dsimp only at hSw); go_simp <;> with_reducible rfl)
        simp only [Act.put, List.setIfInBounds_toArray, List.set_cons_zero, List.set_cons_succ]
        refine wpAnyU_take (i := 3) (v := ?_) rfl (by kernel_rfl) (by kernel_rfl) (by kernel_rfl) (by kernel_rfl) (fun _ _ _ h => h) (Or.inl ⟨by rfl, ?_⟩) hH_ ?_
        rotate_left
        · (intro w hSw; (try dsimp only at hSw); go_simp <;> with_reducible rfl)
        simp only [Act.put, List.setIfInBounds_toArray, List.set_cons_zero, List.set_cons_succ]
        refine wpAnyU_take (i := 4) (v := undef) rfl (by kernel_rfl) (by kernel_rfl) (by kernel_rfl) (by kernel_rfl) (fun _ _ _ h => h) (Or.inr ⟨by rfl, rfl⟩) hH_ ?_
        simp only [Act.put, List.setIfInBounds_toArray, List.set_cons_zero, List.set_cons_succ]
        refine wpAnyU_take (i := 5) (v := undef) rfl (by kernel_rfl) (by kernel_rfl) (by kernel_rfl) (by kernel_rfl) (fun _ _ _ h => h) (Or.inr ⟨by rfl, rfl⟩) hH_ ?_
        simp only [Act.put, List.setIfInBounds_toArray, List.set_cons_zero, List.set_cons_succ]
        refine wpAnyU_take (i := 6) (v := undef) rfl (by kernel_rfl) (by kernel_rfl) (by kernel_rfl) (by kernel_rfl) (fun _ _ _ h => h) (Or.inr ⟨by rfl, rfl⟩) hH_ ?_
        simp only [Act.put, List.setIfInBounds_toArray, List.set_cons_zero, List.set_cons_succ]
        refine wpAnyU_take (i := 7) (v := undef) rfl (by kernel_rfl) (by kernel_rfl) (by kernel_rfl) (by kernel_rfl) (fun _ _ _ h => h) (Or.inr ⟨by rfl, rfl⟩) hH_ ?_
        simp only [Act.put, List.setIfInBounds_toArray, List.set_cons_zero, List.set_cons_succ]
        refine wpAnyU_take (i := 8) (v := undef) rfl (by kernel_rfl) (by kernel_rfl) (by kernel_rfl) (by kernel_rfl) (fun _ _ _ h => h) (Or.inr ⟨by rfl, rfl⟩) hH_ ?_
        simp only [Act.put, List.setIfInBounds_toArray, List.set_cons_zero, List.set_cons_succ]
        refine wpAnyU_take (i := 9) (v := undef) rfl (by kernel_rfl) (by kernel_rfl) (by kernel_rfl) (by kernel_rfl) (fun _ _ _ h => h) (Or.inr ⟨by rfl, rfl⟩) hH_ ?_
        simp only [Act.put, List.setIfInBounds_toArray, List.set_cons_zero, List.set_cons_succ]
        refine wpAnyU_take (i := 10) (v := undef) rfl (by kernel_rfl) (by kernel_rfl) (by kernel_rfl) (by kernel_rfl) (fun _ _ _ h => h) (Or.inr ⟨by rfl, rfl⟩) hH_ ?_
        simp only [Act.put, List.setIfInBounds_toArray, List.set_cons_zero, List.set_cons_succ]
        refine wpAnyU_one' (i := 11) (by kernel_rfl) rfl (by kernel_rfl) (fun K hK => ?_)
        go_simp
        refine hK.out _ _ ?_
        clear hK K
        refine wpAnyU_done (by kernel_rfl) ?_ _
        go_wp2
        go_ret
        exact ⟨by rw [HE.out]; rfl, HB.out.trans ((HBw.out.trans (hH_.1.mono z0)).mono zr)⟩
      · obtain ⟨fi, hfi⟩ : ∃ fi, fi = findScript (xs.take i) y.Name := ⟨_, rfl⟩
        have HFI := Lib.hid hfi
        have HAN : Hid (((xs.take i).any fun o => o.Name.toList == y.Name.toList) = decide (fi ≥ 0)) := by unfold Hid; rw [hfi]; exact find_take.symm
        clear hfi
        have hic : i ≤ c := by omega
        refine wp_region_U (fun wq => Below w0.heap.size w0 wq ∧ Blk wq wr.heap.size 51 #[.string y.Name, .slice A2 y.Methods.length c2]) [0, 1, 2, 3, 4, 5, 6, 7, 8, 9, 10, 11] (by kernel_rfl) ?_
        have hH_ := (⟨(Below.refl w0.heap.size w0).drew, HKY.out.drew⟩ : (fun wq => Below w0.heap.size w0 wq ∧ Blk wq wr.heap.size 51 #[.string y.Name, .slice A2 y.Methods.length c2]) w0.drew)
        refine wpAnyU_take (i := 0) (v := ?_) rfl (by kernel_rfl) (by kernel_rfl) (by kernel_rfl) (by kernel_rfl) (fun _ _ _ h => h) (Or.inl ⟨by rfl, ?_⟩) hH_ ?_
        rotate_left
        · (intro w hSw; (try dsimp only at hSw); (obtain ⟨hb_, ha0⟩ := hSw; obtain ⟨kc0, kf0⟩ := ha0.rules; go_simp <;> with_reducible rfl))
        simp only [Act.put, List.setIfInBounds_toArray, List.set_cons_zero, List.set_cons_succ]
        refine wpAnyU_one (i := 1) (by kernel_rfl) rfl (fun K hK => ?_)
        go_simp
        refine (impl_isScript_calls _ y _ (HYL.out.below hH_.1) hyz).mono ?_
        rintro e w2 ⟨rfl, hb2⟩
        rw [g1]
        refine hK.out _ _ ?_ (fun hH1_ => ?_)
        · exact ⟨hH_.1.trans (hb2.mono hH_.1.size), hH_.2.below hb2⟩
        clear hK K hH_
        have hH_ := hH1_
        clear hH1_
        refine wpAnyU_take (i := 2) (v := ?_) rfl (by kernel_rfl) (by kernel_rfl) (by kernel_rfl) (by kernel_rfl) (fun _ _ _ h => h) (Or.inl ⟨by rfl, ?_⟩) hH_ ?_
        rotate_left
        · (intro w hSw; (try dsimp only at hSw); go_simp <;> with_reducible rfl)
        simp only [Act.put, List.setIfInBounds_toArray, List.set_cons_zero, List.set_cons_succ]
        refine wpAnyU_take (i := 3) (v := ?_) rfl (by kernel_rfl) (by kernel_rfl) (by kernel_rfl) (by kernel_rfl) (fun _ _ _ h => h) (Or.inl ⟨by rfl, ?_⟩) hH_ ?_
        rotate_left
        · (intro w hSw; (try dsimp only at hSw); go_simp <;> with_reducible rfl)
        simp only [Act.put, List.setIfInBounds_toArray, List.set_cons_zero, List.set_cons_succ]
        refine wpAnyU_take (i := 4) (v := ?_) rfl (by kernel_rfl) (by kernel_rfl) (by kernel_rfl) (by kernel_rfl) (fun _ _ _ h => h) (Or.inl ⟨by rfl, ?_⟩) hH_ ?_
        rotate_left
        · (intro w hSw; (try dsimp only at hSw); go_simp <;> with_reducible rfl)
        simp only [Act.put, List.setIfInBounds_toArray, List.set_cons_zero, List.set_cons_succ]
        refine wpAnyU_take (i := 5) (v := ?_) rfl (by kernel_rfl) (by kernel_rfl) (by kernel_rfl) (by kernel_rfl) (fun _ _ _ h => h) (Or.inl ⟨by rfl, ?_⟩) hH_ ?_
        rotate_left
        · (intro w hSw; (try dsimp only at hSw); go_simp <;> with_reducible rfl)
        simp only [Act.put, List.setIfInBounds_toArray, List.set_cons_zero, List.set_cons_succ]
        refine wpAnyU_take (i := 6) (v := ?_) rfl (by kernel_rfl) (by kernel_rfl) (by kernel_rfl) (by kernel_rfl) (fun _ _ _ h => h) (Or.inl ⟨by rfl, ?_⟩) hH_ ?_
        rotate_left
        · (intro w hSw; (try dsimp only at hSw); go_simp <;> with_reducible rfl)
        simp only [Act.put, List.setIfInBounds_toArray, List.set_cons_zero, List.set_cons_succ]
        refine wpAnyU_take (i := 7) (v := ?_) rfl (by kernel_rfl) (by kernel_rfl) (by kernel_rfl) (by kernel_rfl) (fun _ _ _ h => h) (Or.inl ⟨by rfl, ?_⟩) hH_ ?_
        rotate_left
        · (intro w hSw; (try dsimp only at hSw); go_simp <;> with_reducible rfl)
        simp only [Act.put, List.setIfInBounds_toArray, List.set_cons_zero, List.set_cons_succ]
        refine wpAnyU_take (i := 8) (v := ?_) rfl (by kernel_rfl) (by kernel_rfl) (by kernel_rfl) (by kernel_rfl) (fun _ _ _ h => h) (Or.inl ⟨by rfl, ?_⟩) hH_ ?_
        rotate_left
        · (intro w hSw; (try dsimp only at hSw); (obtain ⟨hb_, ha0⟩ := hSw; obtain ⟨kc0, kf0⟩ := ha0.rules; go_simp <;> with_reducible rfl))
        simp only [Act.put, List.setIfInBounds_toArray, List.set_cons_zero, List.set_cons_succ]
        refine wpAnyU_one (i := 9) (by kernel_rfl) rfl (fun K hK => ?_)
        go_simp
        refine (impl_FindScript_calls _ (xs.take i) y.Name _ (HRT.out.below hH_.1)).mono ?_
        rintro e w3 ⟨rfl, hb3⟩
        rw [← HFI.out]
        refine hK.out _ _ ?_ (fun hH1_ => ?_)
        · exact ⟨hH_.1.trans (hb3.mono hH_.1.size), hH_.2.below hb3⟩
        clear hK K hH_
        have hH_ := hH1_
        clear hH1_
        refine wpAnyU_take (i := 10) (v := ?_) rfl (by kernel_rfl) (by kernel_rfl) (by kernel_rfl) (by kernel_rfl) (fun _ _ _ h => h) (Or.inl ⟨by rfl, ?_⟩) hH_ ?_
        rotate_left
        · (intro w hSw; (try dsimp only at hSw); go_simp <;> with_reducible rfl)
        simp only [Act.put, List.setIfInBounds_toArray, List.set_cons_zero, List.set_cons_succ]
        refine wpAnyU_one' (i := 11) (by kernel_rfl) rfl (by kernel_rfl) (fun K hK => ?_)
        go_simp
        refine hK.out _ _ ?_
        clear hK K
        refine wpAnyU_done (by kernel_rfl) ?_ _
        by_cases hf : fi ≥ 0
        · have HE : Hid (libraryB xs = false) := by unfold Hid; rw [HS.out]; exact allAt_false HX.out (by unfold scriptAt; rw [g1, HAN.out, decide_eq_true hf]; rfl)
          go_wp2
          go_ret
          exact ⟨by rw [HE.out]; rfl, HB.out.trans ((HBw.out.trans (hH_.1.mono z0)).mono zr)⟩
        · have HN := Lib.hid (stepAt (p := scriptAt xs) hno.out HX.out (by unfold scriptAt; rw [g1, HAN.out, decide_eq_false hf]; rfl))
          go_wp2
          go_roundw
          case rel => exact ⟨i + 1, by omega, by go_num, HB.out.trans ((HBw.out.trans (hH_.1.mono z0)).mono zr), HN⟩
          case measure => simp [intOf]; omega
    · have : i = xs.length := by omega
      subst this
      have HE : Hid (libraryB xs = true) := by unfold Hid; rw [HS.out]; exact allAt_true (fun j y hj hy => hno.out j y hj hy)
      go_wp2
      go_ret
      exact ⟨by rw [HE.out]; rfl, HB.out⟩
set_option maxHeartbeats 3200000 in
theorem spec_IsLibrary_calls (v : Value) (xs : List GScript) (w : World) (hr : RdW w (.s xs.length (xs.flatMap eScript)) v) (hz : sizL (xs.flatMap eScript) ≤ 1048576) :
    Calls Try.prog 34 #[v] w fun e w' => e = .returned (.bool (libraryB xs)) ∧ Below w.heap.size w w' := by
  obtain ⟨A, c, rfl, ⟨_, _, hl⟩⟩ := hr.slice
  have HR := Lib.hid hr
  have HMZ := Lib.hid (fun (m : GScript) (hm : m ∈ xs) => by
    have h2 := sizL_flat_le eScript xs m hm
    exact (by omega : sizL (eScript m) ≤ 1048576))
  clear hz hr
  go_enter Try.func34, Try.ntmps34
  go_wp2
  go_loopw [3] (fun a wr => ∃ i : Nat, i ≤ xs.length ∧ a = .int .i64 i ∧ Hid (Below w.heap.size w wr) ∧ Hid (∀ j y, j < i → xs[j]? = some y → scriptAt xs j y = true)) (fun a wr => xs.length - (intOf a).toNat)
  case atStart => exact ⟨0, by omega, rfl, Below.refl _ _, fun j y h => absurd h (Nat.not_lt_zero _)⟩
  case round =>
    obtain ⟨i, hi, rfl, HB, hno⟩ := hrel
    have zr := HB.out.size
    by_cases hlt : i < xs.length
    · obtain ⟨y, hy⟩ : ∃ y, xs[i]? = some y := ⟨xs[i], List.getElem?_eq_getElem hlt⟩
      obtain ⟨ad, u1, rfl, hab, k0, k1, hq⟩ := row_eScript (HR.out.below HB.out) hy
      obtain ⟨A2, c2, rfl, -⟩ := hq.slice
      have hyz := HMZ.out y (List.mem_of_getElem? hy)
      have HX := Lib.hid hy
      have hyl : RdLW wr (eScript y) [.string y.Name, .slice A2 y.Methods.length c2] := mkrd_eScript hq
      have HC := Lib.hid (spec_IsScript_calls _ y wr hyl hyz)
      clear hq hyl
      rcases Bool.eq_false_or_eq_true (scriptB y) with g1 | g1
      rotate_left
      · have HE : Hid (libraryB xs = false) := by unfold Hid libraryB; rw [allAt_false HX.out (by unfold scriptAt; rw [g1]; rfl)]; simp
        clear hy
        go_wp2_with fail
        refine HC.out.mono ?_
        rintro e w2 ⟨rfl, hb2⟩
        rw [g1]
        go_wp2
        go_ret
        exact ⟨by rw [HE.out]; rfl, HB.out.trans (hb2.mono zr)⟩
      · have HFS := Lib.hid (find_self hy)
        obtain ⟨fi, hfi⟩ : ∃ fi, fi = findScript xs y.Name := ⟨_, rfl⟩
        rw [← hfi] at HFS
        have HFI := Lib.hid hfi
        clear hy hfi
        go_wp2_with fail
        refine HC.out.mono ?_
        rintro e w2 ⟨rfl, hb2⟩
        rw [g1]
        have HB2 := Lib.hid (HB.out.trans (hb2.mono zr))
        have k0b : w2.cell? (ad.add (i * 2)) = some (.string y.Name) := cell_below hb2 k0 (by rw [block_of_add]; exact hab)
        have hab2 : ad.block < w2.heap.size := Nat.lt_of_lt_of_le hab hb2.size
        clear hb2 k0 k1
        go_wp2_with fail
        refine (spec_FindScript_calls _ xs y.Name _ (HR.out.below HB2.out)).mono ?_
        rintro e w3 ⟨rfl, hw3⟩
        subst hw3
        rw [← HFI.out]
        obtain ⟨bb, hbb⟩ : ∃ bb, bb = (fi != (i : Int)) := ⟨_, rfl⟩
        have HBB := Lib.hid hbb
        have hbq : (fi != (i : Int)) = bb := hbb.symm
        clear hbb
        cases bb with
        | true =>
          have HE : Hid (libraryB xs = false) := by unfold Hid libraryB; rw [allAt_false HX.out (by unfold scriptAt; rw [g1, ← HFS.out, ← HBB.out]; rfl)]; simp
          go_wp2
          go_ret
          exact ⟨by rw [HE.out]; rfl, HB2.out⟩
        | false =>
          have HN := Lib.hid (stepAt (p := scriptAt xs) hno.out HX.out (by unfold scriptAt; rw [g1, ← HFS.out, ← HBB.out]; rfl))
          go_wp2
          go_roundw
          case rel => exact ⟨i + 1, by omega, by go_num, HB2, HN⟩
          case measure => simp [intOf]; omega
    · have : i = xs.length := by omega
      subst this
      have HE : Hid (libraryB xs = decide ((xs.length : Int) ≤ 6)) := by unfold Hid libraryB; rw [allAt_true (fun j y hj hy => hno.out j y hj hy), Bool.and_true]; exact decide_eq_decide.2 (by omega)
      go_wp2
      go_ret
      exact ⟨by rw [HE.out]; rfl, HB.out⟩

end Go.Proofs.Ytiohoeafdaihpaa
