import Derived.Test.YtmnpoajdibmocaaGreatProg
import Derived.Test.YtmnpoajdibmocaaGreatTypes
import Derived.StillTailTactics
import Derived.Deep.CutRange
import Derived.Laws.OwnMore
import Derived.Deep.AppendLies
import Derived.Deep.RegionWith
import Derived.Deep.RegionHeld3
import Derived.Laws.IdiomStrings
import Derived.Test.YtmnpoajdibmocaaGreatAppend
import Derived.Laws.StructEq
import Derived.Lib.SliceRun
import Derived.Shelf.RegionOpenPlain
import Derived.Test.YtmnpoajdibmocaaGreatReachI
import Derived.Test.YtmnpoajdibmocaaGreatOrders
namespace Go.Proofs.YtmnpoajdibmocaaGreat
open Go.RowKit
set_option linter.unusedVariables false
set_option linter.unusedSimpArgs false

/-- a slice is made, of n zeros -/
theorem run_make_repS {P : Program} (t e : TypeId) (bytes : Nat) (z : Value) (ht : P.underlying t = some (.slice e)) (hi : ∃ i, P.info? e = some i ∧ i.zero = some z ∧ z.cells = #[z] ∧ i.bytes = bytes ∧ i.size = 1) (n : Nat) (hn : bytes * n ≤ 281474976710656) (h63 : n ≤ 9223372036854775807) :
    ∀ W : World, (Instr.makeSlice t (.int .i64 (n : Int)) (.int .i64 (n : Int))).run P W = .ok (.slice (some ⟨W.heap.size, 0, none⟩) n n) (W.alloc (.cells (List.replicate n z).toArray e)) := by
  obtain ⟨i, h1, h2, hc, h3, h4⟩ := hi
  intro W
  have h := run_make_rowN t e i z ht h1 h2 .i64 .i64 n n (Nat.le_refl _) (by rw [h3]; exact hn) h63 W
  rw [h4, Nat.mul_one, hc] at h
  rw [h]
  have hq : madeCells #[z] n = (List.replicate n z).toArray := by
    apply Array.ext'
    rw [toList_madeCells_one]
  rw [hq]

def marksA (n : Nat) (ks : List Nat) : Array Value := ((List.range n).map fun i => Value.bool (decide (i ∈ ks))).toArray
theorem marksA_nil (n : Nat) : (List.replicate n (Value.bool false)).toArray = marksA n [] := by
  unfold marksA
  congr 1
  apply List.ext_getElem
  · simp
  · intro i h1 h2; simp
theorem marksA_get {n i : Nat} {ks : List Nat} (h : i < n) : (marksA n ks)[i]? = some (.bool (decide (i ∈ ks))) := by
  unfold marksA
  simp [h]
theorem marksA_set {n m : Nat} {ks : List Nat} (h : m < n) : (marksA n ks).setIfInBounds m (.bool true) = marksA n (ks ++ [m]) := by
  unfold marksA
  apply Array.ext'
  rw [Array.toList_setIfInBounds]
  apply List.ext_getElem
  · simp
  · intro i h1 h2
    rw [List.getElem_set]
    by_cases e : m = i
    · subst e; simp
    · have e2 : i ≠ m := fun h => e h.symm
      simp [e, e2]
set_option maxHeartbeats 25600000 in
set_option maxRecDepth 100000 in
theorem spec_CanReach_calls (us : List Value) (x : GVat) (a : Int) (w : World) (hr : RdLW w (eVat x) us) (hz : sizL (eVat x) ≤ 1048576) (hi : I64 a) :
    Calls Tryz.prog 5 #[.agg us.toArray, .int .i64 a] w fun e w' => ∃ v', e = .returned v' ∧ RdW w' (.s (canReach x a).length ((canReach x a).flatMap eInt)) v' ∧ Below w.heap.size w w' := by
  have HRR := Lib.hid hr
  have hle : x.Entities.length ≤ 1048576 := by rw [siz_eVat] at hz; omega
  have hmk : ∀ W : World, (Instr.makeSlice 47 (.int .i64 (x.Entities.length : Int)) (.int .i64 (x.Entities.length : Int))).run Tryz.prog W = .ok (.slice (some ⟨W.heap.size, 0, none⟩) x.Entities.length x.Entities.length) (W.alloc (.cells (marksA x.Entities.length []) 4)) := fun W => by
    have h := run_make_repS (P := Tryz.prog) 47 4 1 (.bool false) Tryz.underlying47 ⟨_, rfl, rfl, rfl, rfl, rfl⟩ x.Entities.length (by omega) (by omega) W
    rw [marksA_nil] at h
    exact h
  obtain ⟨v1, v2, v3, v4, rfl, h1, h2, h3, h4⟩ := rd_eVat hr
  obtain ⟨A1, c1, rfl, -⟩ := h1.slice
  obtain ⟨A2, c2, rfl, -⟩ := h2.slice
  obtain ⟨A3, c3, rfl, ⟨_, _, hl3⟩⟩ := h3.slice
  obtain ⟨A4, c4, rfl, -⟩ := h4.slice
  have HR := Lib.hid h3
  clear hr h1 h2 h3 h4
  have HB0 := Lib.hid (((Below.refl w.heap.size w).alloc (Nat.le_refl _) (.cells #[.int .i64 x.Id, .slice A1 x.Entities.length c1, .slice A2 x.Loop.length c2, .slice A3 x.Links.length c3, .slice A4 x.Out.length c4] 36)).alloc (by simp) (.cells #[] 3))
  have HZ := Lib.hid hz
  go_enter Tryz.func5, Tryz.ntmps5
  go_wp2_with fail
  refine (spec_LinkTo_calls _ x a _ (HRR.out.below HB0.out) hz hi).mono ?_
  rintro e w1 ⟨rfl, hb1⟩
  have HO0 : Hid (w1.ownsRow (w.heap.size + 1) 3 1 (.slice (some ⟨w.heap.size + 1, 0, none⟩) 0 0) 0 []) := Lib.hid (ownsRow_below (ownsRow_made' (by simp) (by simp)) hb1)
  have HK0 := Lib.hid (((Blk.new w 36 #[.int .i64 x.Id, .slice A1 x.Entities.length c1, .slice A2 x.Loop.length c2, .slice A3 x.Links.length c3, .slice A4 x.Out.length c4]).alloc (.cells #[] 3)).below hb1)
  have HB1 := Lib.hid (HB0.out.trans (hb1.mono (by simp only [size_alloc]; omega)))
  obtain ⟨kz0, kz1⟩ := HK0.out.rules
  have hlz := HK0.out.lt
  have hsz1 : w.heap.size + 1 < w1.heap.size := by have := hb1.size; simp only [size_alloc] at this; omega
  clear hb1
  by_cases hge : ¬ 0 ≤ linkTo x a
  · have HE : Hid (canReach x a = []) := by
      unfold Hid canReach reachNums
      cases x.Links[(linkTo x a).toNat]? with
      | none => rw [reachL_nil, setN_nil]
      | some l => simp only [if_neg hge]; rw [reachL_nil, setN_nil]
    obtain ⟨q, hq⟩ : ∃ q, q = linkTo x a := ⟨_, rfl⟩
    rw [← hq] at hge
    rw [← hq]
    clear hq
    go_wp2
    go_ret
    rw [HE.out]
    exact ⟨_, rfl, ownsRow_rdw (xs := ([] : List Int)) vals_eInt HO0.out (by simp), HB1.out⟩
  replace hge := Classical.not_not.1 hge
  obtain ⟨k, y, hk, hy, _, _⟩ := idx_some hge
  have hkl : k < x.Links.length := (List.getElem?_eq_some_iff.1 hy).1
  have HQ2 : Hid (canReach x a = setN (reachL x (linkNums y)) x.Entities.length) := by
    unfold Hid canReach reachNums
    rw [show linkTo x a = (k : Int) from hk, Int.toNat_natCast, hy]; simp
  rw [show linkTo x a = (k : Int) from hk]
  have hyl : y.Exports.length + y.Answers.length ≤ 1048576 := Nat.le_trans (link_len hy) HZ.out
  obtain ⟨ad, u2, u4, u6, rfl, hab, k0, k1, k2, k3, k4, k5, k6, q2, q4, q6⟩ := row_eLink HR.out hy
  obtain ⟨B2, d2, rfl, ⟨_, _, hl2⟩⟩ := q2.slice
  obtain ⟨B6, d6, rfl, ⟨_, _, hl6⟩⟩ := q6.slice
  obtain ⟨B4, d4, rfl, -⟩ := q4.slice
  have hab' : (ad.add (k * 7)).block < w.heap.size := by rw [block_of_add]; exact hab
  have HX2 := Lib.hid q2
  have HX6 := Lib.hid q6
  have m0 := cell_below HB1.out k0 hab'
  have m1 := cell_below HB1.out k1 hab'
  have m2 := cell_below HB1.out k2 hab'
  have m3 := cell_below HB1.out k3 hab'
  have m4 := cell_below HB1.out k4 hab'
  have m5 := cell_below HB1.out k5 hab'
  have m6 := cell_below HB1.out k6 hab'
  have hm6 : (ad.add (k * 7)).block < w1.heap.size := by omega
  clear hk hge hy q2 q4 q6 k0 k1 k2 k3 k4 k5 k6
  obtain ⟨es, hes⟩ : ∃ q, q = y.Exports := ⟨_, rfl⟩
  obtain ⟨an, han⟩ : ∃ q, q = y.Answers := ⟨_, rfl⟩
  obtain ⟨pe, hpe⟩ : ∃ q, q = y.Peer := ⟨_, rfl⟩
  obtain ⟨up, hup⟩ : ∃ q, q = y.Up := ⟨_, rfl⟩
  obtain ⟨nx, hnx⟩ : ∃ q, q = y.Next := ⟨_, rfl⟩
  obtain ⟨ak, hak⟩ : ∃ q, q = y.Asked := ⟨_, rfl⟩
  obtain ⟨qn, hqn⟩ : ∃ q, q = y.Questions.length := ⟨_, rfl⟩
  rw [← hqn] at m4
  rw [← hes] at hyl HX2 m2 hl2
  rw [← han] at hyl HX6 m6 hl6
  rw [← hpe] at m0
  rw [← hup] at m1
  rw [← hnx] at m3
  rw [← hak] at m5
  have HNS : Hid (linkNums y = es.map (·.Entity) ++ an.map (·.Promise)) := by unfold Hid linkNums; rw [hes, han]
  clear hes han hpe hup hnx hak hqn
  have STEP1 : Hid (∀ (i : Nat) (z : GExport), es[i]? = some z → reachL x ((es.take (i + 1)).map (·.Entity)) = reachL x ((es.take i).map (·.Entity)) ++ (match reachAt x z.Entity with | some k => [k] | none => [])) := by
    unfold Hid
    intro i z h
    have e := reachL_snoc x ((es.take i).map (·.Entity)) z.Entity
    rw [List.take_add_one, h, List.map_append]
    refine Eq.trans e ?_
    cases reachAt x z.Entity <;> rfl
  have STEP2 : Hid (∀ (i : Nat) (z : GQuestion), an[i]? = some z → reachL x (es.map (·.Entity) ++ (an.take (i + 1)).map (·.Promise)) = reachL x (es.map (·.Entity) ++ (an.take i).map (·.Promise)) ++ (match reachAt x z.Promise with | some k => [k] | none => [])) := by
    unfold Hid
    intro i z h
    have e := reachL_snoc x (es.map (·.Entity) ++ (an.take i).map (·.Promise)) z.Promise
    rw [List.take_add_one, h, List.map_append, ← List.append_assoc]
    refine Eq.trans e ?_
    cases reachAt x z.Promise <;> rfl
  go_upto_region 6 with fail
  obtain ⟨wM, hwM⟩ : ∃ q, q = w1.alloc (.cells (marksA x.Entities.length []) 4) := ⟨_, rfl⟩
  have hbM : Below w1.heap.size w1 wM := by rw [hwM]; exact (Below.refl _ _).alloc (Nat.le_refl _) _
  have HKM1 : Hid (Blk wM w1.heap.size 4 (marksA x.Entities.length (reachL x ((es.take 0).map (·.Entity))))) := by
    rw [hwM, List.take_zero, List.map_nil, reachL_nil]
    exact Blk.new w1 _ _
  have HKV1 := Lib.hid (HK0.out.below hbM)
  have HO1 := Lib.hid (ownsRow_below HO0.out hbM)
  have HB2 := Lib.hid (HB1.out.trans (hbM.mono HB1.out.size))
  have hszM : w1.heap.size < wM.heap.size := by rw [hwM]; simp
  replace m0 := cell_below hbM m0 hm6
  replace m1 := cell_below hbM m1 hm6
  replace m2 := cell_below hbM m2 hm6
  replace m3 := cell_below hbM m3 hm6
  replace m4 := cell_below hbM m4 hm6
  replace m5 := cell_below hbM m5 hm6
  replace m6 := cell_below hbM m6 hm6
  have hm7 : (ad.add (k * 7)).block < wM.heap.size := by omega
  rw [← hwM]
  clear hwM hbM kz0 kz1 hlz HK0 HO0 HB0 HB1 hmk
  obtain ⟨kz0, kz1⟩ := HKV1.out.rules
  have hlz := HKV1.out.lt
  go_upto_region 7 with fail
  obtain ⟨wL, hwL⟩ : ∃ q, q = wM.alloc (.cells #[.int .i64 pe, .bool up, .slice B2 es.length d2, .int .i64 nx, .slice B4 qn d4, .int .i64 ak, .slice B6 an.length d6] 51) := ⟨_, rfl⟩
  have HKM : Hid (Blk wL w1.heap.size 4 (marksA x.Entities.length (reachL x ((es.take 0).map (·.Entity))))) := by rw [hwL]; exact HKM1.out.alloc _
  have HKL : Hid (Blk wL wM.heap.size 51 #[.int .i64 pe, .bool up, .slice B2 es.length d2, .int .i64 nx, .slice B4 qn d4, .int .i64 ak, .slice B6 an.length d6]) := by rw [hwL]; exact Blk.new wM _ _
  have HKV : Hid (Blk wL w.heap.size 36 #[.int .i64 x.Id, .slice A1 x.Entities.length c1, .slice A2 x.Loop.length c2, .slice (some ad) x.Links.length c3, .slice A4 x.Out.length c4]) := by rw [hwL]; exact HKV1.out.alloc _
  have HO : Hid (wL.ownsRow (w.heap.size + 1) 3 1 (.slice (some ⟨w.heap.size + 1, 0, none⟩) 0 0) 0 []) := by rw [hwL]; exact HO1.out.alloc _
  have HB : Hid (Below w.heap.size w wL) := by rw [hwL]; exact HB2.out.alloc HB2.out.size _
  have hszL : wM.heap.size < wL.heap.size := by rw [hwL]; simp
  have hbl := (HKL.out).lt
  rw [← hwL]
  clear hwL m0 m1 m2 m3 m4 m5 m6 kz0 kz1 hlz HKV1 HO1 HB2 HKM1
  have hsl : wM.heap.size < wL.heap.size := hszL
  have HKM0 := HKM
  have HKL0 := HKL
  have HKV0 := HKV
  have HO0 := HO
  have HB0 := HB
  go_wp2
  go_loopw [9] (fun t wr => ∃ i : Nat, i ≤ es.length ∧ t = .int .i64 i ∧ Hid (Blk wr w1.heap.size 4 (marksA x.Entities.length (reachL x ((es.take (i)).map (·.Entity))))) ∧ Hid (Blk wr wM.heap.size 51 #[.int .i64 pe, .bool up, .slice B2 es.length d2, .int .i64 nx, .slice B4 qn d4, .int .i64 ak, .slice B6 an.length d6]) ∧ Hid (Blk wr w.heap.size 36 #[.int .i64 x.Id, .slice A1 x.Entities.length c1, .slice A2 x.Loop.length c2, .slice (some ad) x.Links.length c3, .slice A4 x.Out.length c4]) ∧ Hid (wr.ownsRow (w.heap.size + 1) 3 1 (.slice (some ⟨w.heap.size + 1, 0, none⟩) 0 0) 0 []) ∧ Hid (Below w.heap.size w wr) ∧ wM.heap.size < wr.heap.size) (fun t wr => es.length - (intOf t).toNat)
  case atStart => exact ⟨0, by omega, rfl, HKM0, HKL0, HKV0, HO0, HB0, hsl⟩
  case round =>
    clear HKM0 HKL0 HKV0 HO0 HB0 hsl HKM HKL HKV HO HB hszL hbl
    obtain ⟨i, hi', rfl, HKM, HKL, HKV, HO, HB, hsl⟩ := hrel
    obtain ⟨kl, fl⟩ := HKL.out.rules
    have hll := HKL.out.lt
    by_cases hlt : i < es.length
    · skip
      obtain ⟨z, hz1⟩ : ∃ z, es[i]? = some z := ⟨es[i], List.getElem?_eq_getElem hlt⟩
      obtain ⟨aq, rfl, haq, r0, r1, r2⟩ := row_eExport (HX2.out.below HB.out) hz1
      have haq' : (aq.add (i * 3)).block < wr.heap.size := by rw [block_of_add]; exact haq
      have HS := Lib.hid (STEP1.out i z hz1)
      obtain ⟨z1, hzz⟩ : ∃ q, q = z.Entity := ⟨_, rfl⟩
      rw [← hzz] at r1 HS
      clear hz1 hzz r0 r2 haq
      go_upto_region 10 with fail
      refine wp_region_U (fun wq => Blk wq w.heap.size 36 #[.int .i64 x.Id, .slice A1 x.Entities.length c1, .slice A2 x.Loop.length c2, .slice (some ad) x.Links.length c3, .slice A4 x.Out.length c4] ∧ Blk wq wM.heap.size 51 #[.int .i64 pe, .bool up, .slice (some aq) es.length d2, .int .i64 nx, .slice B4 qn d4, .int .i64 ak, .slice B6 an.length d6] ∧ (aq.add (i * 3)).block < wq.heap.size ∧ wq.cell? ⟨(aq.add (i * 3)).block, (aq.add (i * 3)).off + 1, none⟩ = some (.int .i64 z1)) [0, 1, 2, 3, 4, 5, 6, 7, 8, 9, 10] (by kernel_rfl) ?_
      have hH_ := (⟨HKV.out.drew, HKL.out.drew, haq', r1⟩ : (fun wq => Blk wq w.heap.size 36 #[.int .i64 x.Id, .slice A1 x.Entities.length c1, .slice A2 x.Loop.length c2, .slice (some ad) x.Links.length c3, .slice A4 x.Out.length c4] ∧ Blk wq wM.heap.size 51 #[.int .i64 pe, .bool up, .slice (some aq) es.length d2, .int .i64 nx, .slice B4 qn d4, .int .i64 ak, .slice B6 an.length d6] ∧ (aq.add (i * 3)).block < wq.heap.size ∧ wq.cell? ⟨(aq.add (i * 3)).block, (aq.add (i * 3)).off + 1, none⟩ = some (.int .i64 z1)) wr.drew)
      refine wpAnyU_take (i := 0) (v := ?_) rfl (by kernel_rfl) (by kernel_rfl) (by kernel_rfl) (by kernel_rfl) (fun _ _ _ h => h) (Or.inl ⟨by rfl, ?_⟩) hH_ ?_
      rotate_left
      · (intro w hSw; (obtain ⟨hs1, hs2, hs3, hs4⟩ := hSw; obtain ⟨kc0, kf0⟩ := hs2.rules; obtain ⟨kd0, kg0⟩ := hs1.rules; go_simp <;> with_reducible rfl))
      simp only [Act.put, List.getElem_toArray, List.getElem_cons_succ, List.getElem_cons_zero, List.setIfInBounds_toArray, List.set_cons_zero, List.set_cons_succ]
      refine wpAnyU_take (i := 1) (v := ?_) rfl (by kernel_rfl) (by kernel_rfl) (by kernel_rfl) (by kernel_rfl) (fun _ _ _ h => h) (Or.inl ⟨by rfl, ?_⟩) hH_ ?_
      rotate_left
      · (intro w hSw; (try dsimp only at hSw); go_simp <;> with_reducible rfl)
      simp only [Act.put, List.getElem_toArray, List.getElem_cons_succ, List.getElem_cons_zero, List.setIfInBounds_toArray, List.set_cons_zero, List.set_cons_succ]
      refine wpAnyU_take (i := 2) (v := ?_) rfl (by kernel_rfl) (by kernel_rfl) (by kernel_rfl) (by kernel_rfl) (fun _ _ _ h => h) (Or.inl ⟨by rfl, ?_⟩) hH_ ?_
      rotate_left
      · (intro w hSw; (obtain ⟨hs1, hs2, hs3, hs4⟩ := hSw; obtain ⟨kc0, kf0⟩ := hs2.rules; obtain ⟨kd0, kg0⟩ := hs1.rules; go_simp <;> with_reducible rfl))
      simp only [Act.put, List.getElem_toArray, List.getElem_cons_succ, List.getElem_cons_zero, List.setIfInBounds_toArray, List.set_cons_zero, List.set_cons_succ]
      refine wpAnyU_take (i := 3) (v := ?_) rfl (by kernel_rfl) (by kernel_rfl) (by kernel_rfl) (by kernel_rfl) (fun _ _ _ h => h) (Or.inl ⟨by rfl, ?_⟩) hH_ ?_
      rotate_left
      · (intro w hSw; (try dsimp only at hSw); go_simp <;> with_reducible rfl)
      simp only [Act.put, List.getElem_toArray, List.getElem_cons_succ, List.getElem_cons_zero, List.setIfInBounds_toArray, List.set_cons_zero, List.set_cons_succ]
      refine wpAnyU_take (i := 4) (v := ?_) rfl (by kernel_rfl) (by kernel_rfl) (by kernel_rfl) (by kernel_rfl) (fun _ _ _ h => h) (Or.inl ⟨by rfl, ?_⟩) hH_ ?_
      rotate_left
      · (intro w hSw; (have hw0 : IntKind.i64.wrap (i : Int) = (i : Int) := by rw [IntKind.wrap_i64]; omega); go_simp <;> with_reducible rfl)
      simp only [Act.put, List.getElem_toArray, List.getElem_cons_succ, List.getElem_cons_zero, List.setIfInBounds_toArray, List.set_cons_zero, List.set_cons_succ]
      refine wpAnyU_take (i := 5) (v := ?_) rfl (by kernel_rfl) (by kernel_rfl) (by kernel_rfl) (by kernel_rfl) (fun _ _ _ h => h) (Or.inl ⟨by rfl, ?_⟩) hH_ ?_
      rotate_left
      · (intro w hSw; (try dsimp only at hSw); go_simp <;> with_reducible rfl)
      simp only [Act.put, List.getElem_toArray, List.getElem_cons_succ, List.getElem_cons_zero, List.setIfInBounds_toArray, List.set_cons_zero, List.set_cons_succ]
      refine wpAnyU_take (i := 6) (v := ?_) rfl (by kernel_rfl) (by kernel_rfl) (by kernel_rfl) (by kernel_rfl) (fun _ _ _ h => h) (Or.inl ⟨by rfl, ?_⟩) hH_ ?_
      rotate_left
      · (intro w hSw; (obtain ⟨hs1, hs2, hs3, hs4⟩ := hSw; obtain ⟨kc0, kf0⟩ := hs2.rules; obtain ⟨kd0, kg0⟩ := hs1.rules; go_simp <;> with_reducible rfl))
      simp only [Act.put, List.getElem_toArray, List.getElem_cons_succ, List.getElem_cons_zero, List.setIfInBounds_toArray, List.set_cons_zero, List.set_cons_succ]
      refine wpAnyU_two (i := 7) (j := 9) (by kernel_rfl) rfl rfl (fun K hK => ?_) (fun K hK => ?_)
      · skip
        go_simp
        refine (spec_RefValue_calls z1 _).mono ?_
        rintro e w7 ⟨rfl, hb⟩
        refine hK.out _ _ ?_ (fun hH1_ => ?_)
        · exact ⟨hH_.1.below hb, hH_.2.1.below hb, Nat.lt_of_lt_of_le hH_.2.2.1 hb.size, cell_below hb hH_.2.2.2 hH_.2.2.1⟩
        replace HKM := Lib.hid (HKM.out.drew.below hb)
        replace HKV := Lib.hid (HKV.out.drew.below hb)
        replace HKL := Lib.hid (HKL.out.drew.below hb)
        replace HO := Lib.hid (ownsRow_below HO.out.drew hb)
        replace HB := Lib.hid (HB.out.drew.trans (hb.mono HB.out.drew.size))
        have hsl7 := hb.size
        have hsd7 : wr.drew.heap.size = wr.heap.size := rfl
        clear hK K hH_
        have hH_ := hH1_
        clear hH1_
        refine wpAnyU_two (i := 8) (j := 9) (by kernel_rfl) rfl rfl (fun K hK => ?_) (fun K hK => ?_)
        · skip
          go_simp
          refine (spec_Look_run _ x _ ⟨1, z1⟩ _ (HRR.out.below HB.out) mkrd_eValue hz).mono ?_
          rintro e w8 ⟨rfl, hb⟩
          obtain ⟨zv, hzv⟩ : ∃ q, q = lookOf x ⟨1, z1⟩ := ⟨_, rfl⟩
          rw [← hzv]
          obtain ⟨zk, zn⟩ := zv
          dsimp only
          have HZV := Lib.hid hzv
          clear hzv
          refine hK.out _ _ ?_ (fun hH1_ => ?_)
          · exact ⟨hH_.1.below hb, hH_.2.1.below hb, Nat.lt_of_lt_of_le hH_.2.2.1 hb.size, cell_below hb hH_.2.2.2 hH_.2.2.1⟩
          replace HKM := Lib.hid (HKM.out.below hb)
          replace HKV := Lib.hid (HKV.out.below hb)
          replace HKL := Lib.hid (HKL.out.below hb)
          replace HO := Lib.hid (ownsRow_below HO.out hb)
          replace HB := Lib.hid (HB.out.trans (hb.mono HB.out.size))
          have hsl8 := hb.size
          clear hK K hH_
          have hH_ := hH1_
          clear hH1_
          refine wpAnyU_one (i := 9) (by kernel_rfl) rfl (fun K hK => ?_)
          go_simp
          refine hK.out _ _ ?_ (fun hH1_ => ?_)
          · exact ⟨hH_.1.alloc _, hH_.2.1.alloc _, by have := hH_.2.2.1; simp; omega, cell_alloc_keep hH_.2.2.2⟩
          clear hK K hH_
          have hH_ := hH1_
          clear hH1_
          refine wpAnyU_one' (i := 10) (by kernel_rfl) rfl (by kernel_rfl) (fun K hK => ?_)
          go_simp
          refine hK.out _ _ ?_
          clear hK K
          refine wpAnyU_done (by kernel_rfl) ?_ _
          obtain ⟨wX, hwX⟩ : ∃ q, q = w8.alloc (.cells #[.int .i64 zk, .int .i64 zn] 53) := ⟨_, rfl⟩
          have hgw : wM.heap.size < w8.heap.size := by omega
          have hgw2 : w.heap.size + 1 < w8.heap.size := by omega
          have HXB : Hid (Blk wX w8.heap.size 53 #[.int .i64 zk, .int .i64 zn]) := by rw [hwX]; exact Blk.new w8 _ _
          have hbX : Below w8.heap.size w8 wX := by rw [hwX]; exact (Below.refl _ _).alloc (Nat.le_refl _) _
          replace HKM := Lib.hid (HKM.out.below hbX)
          replace HKV := Lib.hid (HKV.out.below hbX)
          replace HKL := Lib.hid (HKL.out.below hbX)
          replace HO := Lib.hid (ownsRow_below HO.out hbX)
          replace HB := Lib.hid (HB.out.trans (hbX.mono HB.out.size))
          have hslX := hbX.size
          clear hbX
          have hslB : wM.heap.size < wX.heap.size := by have := HXB.out.lt; omega
          rw [← hwX]
          clear hwX kl fl hll
          obtain ⟨kx, fx⟩ := HXB.out.rules
          have hxl := HXB.out.lt
          by_cases hk1 : ¬ zk = 1
          · have hf : reachL x ((es.take (i + 1)).map (·.Entity)) = reachL x ((es.take (i)).map (·.Entity)) := by
              rw [HS.out, reachAt_kind (by rw [← HZV.out]; exact hk1), List.append_nil]
            have HF := Lib.hid hf
            clear hf
            go_wp2
            go_roundw
            case rel => exact ⟨i + 1, by omega, by go_num, by unfold Hid; rw [HF.out]; exact HKM.out, HKL, HKV, HO, HB, by omega⟩
            case measure => simp [intOf]; omega
          replace hk1 := Classical.not_not.1 hk1
          subst hk1
          have hwr : IntKind.i64.wrap ((x.Entities.length : Int) - 1) = (x.Entities.length : Int) - 1 := by rw [IntKind.wrap_i64]; omega
          by_cases hin : ¬ (0 ≤ zn ∧ zn ≤ (x.Entities.length : Int) - 1)
          · have hf : reachL x ((es.take (i + 1)).map (·.Entity)) = reachL x ((es.take (i)).map (·.Entity)) := by
              rw [HS.out, reachAt_out (by rw [← HZV.out]; exact hin), List.append_nil]
            have HF := Lib.hid hf
            clear hf
            have HIN : Hid (inR zn 0 ((x.Entities.length : Int) - 1) = false) := by unfold Hid inR; exact decide_eq_false hin
            clear hin
            go_wp2_with fail
            refine (spec_l1In_calls _ _ _ _).mono ?_
            rintro e w9 ⟨rfl, he9⟩
            have he9' := he9.symm
            subst he9'
            clear he9
            rw [HIN.out]
            go_wp2
            go_roundw
            case rel => exact ⟨i + 1, by omega, by go_num, by unfold Hid; rw [HF.out]; exact HKM.out, HKL, HKV, HO, HB, by omega⟩
            case measure => simp [intOf]; omega
          replace hin := Classical.not_not.1 hin
          obtain ⟨m, hm⟩ : ∃ m : Nat, zn = m := ⟨zn.toNat, by omega⟩
          subst hm
          have hml : m < x.Entities.length := by omega
          have hf : reachL x ((es.take (i + 1)).map (·.Entity)) = reachL x ((es.take (i)).map (·.Entity)) ++ [m] := by
            rw [HS.out, reachAt_yes (i := m) (by rw [← HZV.out]) (by rw [← HZV.out]) hml]
          have HF := Lib.hid hf
          clear hf
          have HIN : Hid (inR (m : Int) 0 ((x.Entities.length : Int) - 1) = true) := by unfold Hid inR; exact decide_eq_true hin
          have hm0 : (0 : Int) ≤ m := by omega
          have hm1 : (m : Int) < x.Entities.length := by omega
          have cm := HKM.out.cell m
          rw [marksA_get hml] at cm
          have fm := HKM.out.frozen m
          have lm := HKM.out.lt
          clear hin
          go_wp2_with fail
          refine (spec_l1In_calls _ _ _ _).mono ?_
          rintro e w9 ⟨rfl, he9⟩
          have he9' := he9.symm
          subst he9'
          clear he9
          rw [HIN.out]
          go_wp2
          have HC : Hid (Chg (· = w1.heap.size) wX (wX.setCell ⟨w1.heap.size, m, none⟩ (.bool true))) := Lib.hid ((Chg.refl (· = w1.heap.size) _).setCell (p := ⟨w1.heap.size, m, none⟩) (.inl rfl) _)
          have HKM2 : Hid (Blk (wX.setCell ⟨w1.heap.size, m, none⟩ (.bool true)) w1.heap.size 4 (marksA x.Entities.length (reachL x ((es.take (i + 1)).map (·.Entity))))) := by
            unfold Hid
            rw [HF.out, ← marksA_set hml]
            exact HKM.out.set_ m _
          replace HKV := Lib.hid (HKV.out.chg HC.out (by omega))
          replace HKL := Lib.hid (HKL.out.chg HC.out (by omega))
          replace HO := Lib.hid (ownsRow_keep HO.out HC.out (fun k hk => by cases hk; show ¬ (w.heap.size + 1 = _); omega))
          replace HB := Lib.hid (below_chg HB.out HC.out HB.out.size (fun k hk => by omega))
          have hsl3 := HC.out.size
          go_roundw
          case rel => exact ⟨i + 1, by omega, by go_num, HKM2, HKL, HKV, HO, HB, by omega⟩
          case measure => simp [intOf]; omega
        · skip
          go_simp
          refine hK.out _ _ ?_ (fun hH1_ => ?_)
          · exact ⟨hH_.1.alloc _, hH_.2.1.alloc _, by have := hH_.2.2.1; simp; omega, cell_alloc_keep hH_.2.2.2⟩
          replace HKM := Lib.hid (HKM.out.alloc (.cells #[.int .i64 0, .int .i64 0] 53))
          replace HKV := Lib.hid (HKV.out.alloc (.cells #[.int .i64 0, .int .i64 0] 53))
          replace HKL := Lib.hid (HKL.out.alloc (.cells #[.int .i64 0, .int .i64 0] 53))
          replace HO := Lib.hid (HO.out.alloc (.cells #[.int .i64 0, .int .i64 0] 53))
          replace HB := Lib.hid (HB.out.alloc HB.out.size (.cells #[.int .i64 0, .int .i64 0] 53))
          have HA := Lib.hid (Blk.new w7 53 #[.int .i64 0, .int .i64 0])
          clear hK K hH_
          have hH_ := hH1_
          clear hH1_
          refine wpAnyU_one (i := 8) (by kernel_rfl) rfl (fun K hK => ?_)
          go_simp
          refine (spec_Look_run _ x _ ⟨1, z1⟩ _ (HRR.out.below HB.out) mkrd_eValue hz).mono ?_
          rintro e w8 ⟨rfl, hb⟩
          obtain ⟨zv, hzv⟩ : ∃ q, q = lookOf x ⟨1, z1⟩ := ⟨_, rfl⟩
          rw [← hzv]
          obtain ⟨zk, zn⟩ := zv
          dsimp only
          have HZV := Lib.hid hzv
          clear hzv
          refine hK.out _ _ ?_ (fun hH1_ => ?_)
          · exact ⟨hH_.1.below hb, hH_.2.1.below hb, Nat.lt_of_lt_of_le hH_.2.2.1 hb.size, cell_below hb hH_.2.2.2 hH_.2.2.1⟩
          replace HKM := Lib.hid (HKM.out.below hb)
          replace HKV := Lib.hid (HKV.out.below hb)
          replace HKL := Lib.hid (HKL.out.below hb)
          replace HA := Lib.hid (HA.out.below hb)
          replace HO := Lib.hid (ownsRow_below HO.out hb)
          replace HB := Lib.hid (HB.out.trans (hb.mono HB.out.size))
          have hsl8 := hb.size
          clear hK K hH_
          have hH_ := hH1_
          clear hH1_
          refine wpAnyU_one' (i := 10) (by kernel_rfl) rfl (by kernel_rfl) (fun K hK => ?_)
          obtain ⟨ka, fa⟩ := HA.out.rules
          have hal := HA.out.lt
          go_simp
          refine hK.out _ _ ?_
          clear hK K
          refine wpAnyU_done (by kernel_rfl) ?_ _
          obtain ⟨wX, hwX⟩ : ∃ q, q = (w8.setCell ⟨w7.heap.size, 0, none⟩ (.int .i64 zk)).setCell ⟨w7.heap.size, 1, none⟩ (.int .i64 zn) := ⟨_, rfl⟩
          have hgw : wM.heap.size < w7.heap.size := by omega
          have hgw2 : w.heap.size + 1 < w7.heap.size := by omega
          have HC : Hid (Chg (· = w7.heap.size) w8 wX) := by rw [hwX]; exact ((Chg.refl (· = w7.heap.size) _).setCell (p := ⟨w7.heap.size, 0, none⟩) (.inl rfl) _).setCell (p := ⟨w7.heap.size, 1, none⟩) (.inl rfl) _
          have HXB : Hid (Blk wX (w7.heap.size) 53 #[.int .i64 zk, .int .i64 zn]) := by rw [hwX]; exact Blk.eq ((HA.out.set_ 0 _).set_ 1 _) (by simp)
          replace HKM := Lib.hid (HKM.out.chg HC.out (by omega))
          replace HKV := Lib.hid (HKV.out.chg HC.out (by omega))
          replace HKL := Lib.hid (HKL.out.chg HC.out (by omega))
          replace HO := Lib.hid (ownsRow_keep HO.out HC.out (fun k hk => by cases hk; show ¬ (w.heap.size + 1 = _); omega))
          replace HB := Lib.hid (below_chg HB.out HC.out HB.out.size (fun k hk => by omega))
          have hslX := HC.out.size
          have hslB : wM.heap.size < wX.heap.size := by have := HXB.out.lt; omega
          rw [← hwX]
          clear hwX HC HA kl fl hll
          obtain ⟨kx, fx⟩ := HXB.out.rules
          have hxl := HXB.out.lt
          by_cases hk1 : ¬ zk = 1
          · have hf : reachL x ((es.take (i + 1)).map (·.Entity)) = reachL x ((es.take (i)).map (·.Entity)) := by
              rw [HS.out, reachAt_kind (by rw [← HZV.out]; exact hk1), List.append_nil]
            have HF := Lib.hid hf
            clear hf
            go_wp2
            go_roundw
            case rel => exact ⟨i + 1, by omega, by go_num, by unfold Hid; rw [HF.out]; exact HKM.out, HKL, HKV, HO, HB, by omega⟩
            case measure => simp [intOf]; omega
          replace hk1 := Classical.not_not.1 hk1
          subst hk1
          have hwr : IntKind.i64.wrap ((x.Entities.length : Int) - 1) = (x.Entities.length : Int) - 1 := by rw [IntKind.wrap_i64]; omega
          by_cases hin : ¬ (0 ≤ zn ∧ zn ≤ (x.Entities.length : Int) - 1)
          · have hf : reachL x ((es.take (i + 1)).map (·.Entity)) = reachL x ((es.take (i)).map (·.Entity)) := by
              rw [HS.out, reachAt_out (by rw [← HZV.out]; exact hin), List.append_nil]
            have HF := Lib.hid hf
            clear hf
            have HIN : Hid (inR zn 0 ((x.Entities.length : Int) - 1) = false) := by unfold Hid inR; exact decide_eq_false hin
            clear hin
            go_wp2_with fail
            refine (spec_l1In_calls _ _ _ _).mono ?_
            rintro e w9 ⟨rfl, he9⟩
            have he9' := he9.symm
            subst he9'
            clear he9
            rw [HIN.out]
            go_wp2
            go_roundw
            case rel => exact ⟨i + 1, by omega, by go_num, by unfold Hid; rw [HF.out]; exact HKM.out, HKL, HKV, HO, HB, by omega⟩
            case measure => simp [intOf]; omega
          replace hin := Classical.not_not.1 hin
          obtain ⟨m, hm⟩ : ∃ m : Nat, zn = m := ⟨zn.toNat, by omega⟩
          subst hm
          have hml : m < x.Entities.length := by omega
          have hf : reachL x ((es.take (i + 1)).map (·.Entity)) = reachL x ((es.take (i)).map (·.Entity)) ++ [m] := by
            rw [HS.out, reachAt_yes (i := m) (by rw [← HZV.out]) (by rw [← HZV.out]) hml]
          have HF := Lib.hid hf
          clear hf
          have HIN : Hid (inR (m : Int) 0 ((x.Entities.length : Int) - 1) = true) := by unfold Hid inR; exact decide_eq_true hin
          have hm0 : (0 : Int) ≤ m := by omega
          have hm1 : (m : Int) < x.Entities.length := by omega
          have cm := HKM.out.cell m
          rw [marksA_get hml] at cm
          have fm := HKM.out.frozen m
          have lm := HKM.out.lt
          clear hin
          go_wp2_with fail
          refine (spec_l1In_calls _ _ _ _).mono ?_
          rintro e w9 ⟨rfl, he9⟩
          have he9' := he9.symm
          subst he9'
          clear he9
          rw [HIN.out]
          go_wp2
          have HC : Hid (Chg (· = w1.heap.size) wX (wX.setCell ⟨w1.heap.size, m, none⟩ (.bool true))) := Lib.hid ((Chg.refl (· = w1.heap.size) _).setCell (p := ⟨w1.heap.size, m, none⟩) (.inl rfl) _)
          have HKM2 : Hid (Blk (wX.setCell ⟨w1.heap.size, m, none⟩ (.bool true)) w1.heap.size 4 (marksA x.Entities.length (reachL x ((es.take (i + 1)).map (·.Entity))))) := by
            unfold Hid
            rw [HF.out, ← marksA_set hml]
            exact HKM.out.set_ m _
          replace HKV := Lib.hid (HKV.out.chg HC.out (by omega))
          replace HKL := Lib.hid (HKL.out.chg HC.out (by omega))
          replace HO := Lib.hid (ownsRow_keep HO.out HC.out (fun k hk => by cases hk; show ¬ (w.heap.size + 1 = _); omega))
          replace HB := Lib.hid (below_chg HB.out HC.out HB.out.size (fun k hk => by omega))
          have hsl3 := HC.out.size
          go_roundw
          case rel => exact ⟨i + 1, by omega, by go_num, HKM2, HKL, HKV, HO, HB, by omega⟩
          case measure => simp [intOf]; omega
      · skip
        go_simp
        refine hK.out _ _ ?_ (fun hH1_ => ?_)
        · exact ⟨hH_.1.alloc _, hH_.2.1.alloc _, by have := hH_.2.2.1; simp; omega, cell_alloc_keep hH_.2.2.2⟩
        replace HKM := Lib.hid ((HKM.out.alloc (.cells #[.int .i64 0, .int .i64 0] 53)).drew)
        replace HKV := Lib.hid ((HKV.out.alloc (.cells #[.int .i64 0, .int .i64 0] 53)).drew)
        replace HKL := Lib.hid ((HKL.out.alloc (.cells #[.int .i64 0, .int .i64 0] 53)).drew)
        replace HO := Lib.hid ((HO.out.alloc (.cells #[.int .i64 0, .int .i64 0] 53)).drew)
        replace HB := Lib.hid ((HB.out.alloc HB.out.size (.cells #[.int .i64 0, .int .i64 0] 53)).drew)
        have HA := Lib.hid ((Blk.new wr 53 #[.int .i64 0, .int .i64 0]).drew)
        clear hK K hH_
        have hH_ := hH1_
        clear hH1_
        refine wpAnyU_one (i := 7) (by kernel_rfl) rfl (fun K hK => ?_)
        go_simp
        refine (spec_RefValue_calls z1 _).mono ?_
        rintro e w7 ⟨rfl, hb⟩
        refine hK.out _ _ ?_ (fun hH1_ => ?_)
        · exact ⟨hH_.1.below hb, hH_.2.1.below hb, Nat.lt_of_lt_of_le hH_.2.2.1 hb.size, cell_below hb hH_.2.2.2 hH_.2.2.1⟩
        replace HKM := Lib.hid (HKM.out.below hb)
        replace HKV := Lib.hid (HKV.out.below hb)
        replace HKL := Lib.hid (HKL.out.below hb)
        replace HA := Lib.hid (HA.out.below hb)
        replace HO := Lib.hid (ownsRow_below HO.out hb)
        replace HB := Lib.hid (HB.out.trans (hb.mono HB.out.size))
        have hsl7 := hb.size
        clear hK K hH_
        have hH_ := hH1_
        clear hH1_
        refine wpAnyU_one (i := 8) (by kernel_rfl) rfl (fun K hK => ?_)
        go_simp
        refine (spec_Look_run _ x _ ⟨1, z1⟩ _ (HRR.out.below HB.out) mkrd_eValue hz).mono ?_
        rintro e w8 ⟨rfl, hb⟩
        obtain ⟨zv, hzv⟩ : ∃ q, q = lookOf x ⟨1, z1⟩ := ⟨_, rfl⟩
        rw [← hzv]
        obtain ⟨zk, zn⟩ := zv
        dsimp only
        have HZV := Lib.hid hzv
        clear hzv
        refine hK.out _ _ ?_ (fun hH1_ => ?_)
        · exact ⟨hH_.1.below hb, hH_.2.1.below hb, Nat.lt_of_lt_of_le hH_.2.2.1 hb.size, cell_below hb hH_.2.2.2 hH_.2.2.1⟩
        replace HKM := Lib.hid (HKM.out.below hb)
        replace HKV := Lib.hid (HKV.out.below hb)
        replace HKL := Lib.hid (HKL.out.below hb)
        replace HA := Lib.hid (HA.out.below hb)
        replace HO := Lib.hid (ownsRow_below HO.out hb)
        replace HB := Lib.hid (HB.out.trans (hb.mono HB.out.size))
        have hsl8 := hb.size
        clear hK K hH_
        have hH_ := hH1_
        clear hH1_
        refine wpAnyU_one' (i := 10) (by kernel_rfl) rfl (by kernel_rfl) (fun K hK => ?_)
        obtain ⟨ka, fa⟩ := HA.out.rules
        have hal := HA.out.lt
        go_simp
        refine hK.out _ _ ?_
        clear hK K
        refine wpAnyU_done (by kernel_rfl) ?_ _
        obtain ⟨wX, hwX⟩ : ∃ q, q = (w8.setCell ⟨wr.heap.size, 0, none⟩ (.int .i64 zk)).setCell ⟨wr.heap.size, 1, none⟩ (.int .i64 zn) := ⟨_, rfl⟩
        have hgw : wM.heap.size < wr.heap.size := by omega
        have hgw2 : w.heap.size + 1 < wr.heap.size := by omega
        have HC : Hid (Chg (· = wr.heap.size) w8 wX) := by rw [hwX]; exact ((Chg.refl (· = wr.heap.size) _).setCell (p := ⟨wr.heap.size, 0, none⟩) (.inl rfl) _).setCell (p := ⟨wr.heap.size, 1, none⟩) (.inl rfl) _
        have HXB : Hid (Blk wX (wr.heap.size) 53 #[.int .i64 zk, .int .i64 zn]) := by rw [hwX]; exact Blk.eq ((HA.out.set_ 0 _).set_ 1 _) (by simp)
        replace HKM := Lib.hid (HKM.out.chg HC.out (by omega))
        replace HKV := Lib.hid (HKV.out.chg HC.out (by omega))
        replace HKL := Lib.hid (HKL.out.chg HC.out (by omega))
        replace HO := Lib.hid (ownsRow_keep HO.out HC.out (fun k hk => by cases hk; show ¬ (w.heap.size + 1 = _); omega))
        replace HB := Lib.hid (below_chg HB.out HC.out HB.out.size (fun k hk => by omega))
        have hslX := HC.out.size
        have hslB : wM.heap.size < wX.heap.size := by have := HXB.out.lt; omega
        rw [← hwX]
        clear hwX HC HA kl fl hll
        obtain ⟨kx, fx⟩ := HXB.out.rules
        have hxl := HXB.out.lt
        by_cases hk1 : ¬ zk = 1
        · have hf : reachL x ((es.take (i + 1)).map (·.Entity)) = reachL x ((es.take (i)).map (·.Entity)) := by
            rw [HS.out, reachAt_kind (by rw [← HZV.out]; exact hk1), List.append_nil]
          have HF := Lib.hid hf
          clear hf
          go_wp2
          go_roundw
          case rel => exact ⟨i + 1, by omega, by go_num, by unfold Hid; rw [HF.out]; exact HKM.out, HKL, HKV, HO, HB, by omega⟩
          case measure => simp [intOf]; omega
        replace hk1 := Classical.not_not.1 hk1
        subst hk1
        have hwr : IntKind.i64.wrap ((x.Entities.length : Int) - 1) = (x.Entities.length : Int) - 1 := by rw [IntKind.wrap_i64]; omega
        by_cases hin : ¬ (0 ≤ zn ∧ zn ≤ (x.Entities.length : Int) - 1)
        · have hf : reachL x ((es.take (i + 1)).map (·.Entity)) = reachL x ((es.take (i)).map (·.Entity)) := by
            rw [HS.out, reachAt_out (by rw [← HZV.out]; exact hin), List.append_nil]
          have HF := Lib.hid hf
          clear hf
          have HIN : Hid (inR zn 0 ((x.Entities.length : Int) - 1) = false) := by unfold Hid inR; exact decide_eq_false hin
          clear hin
          go_wp2_with fail
          refine (spec_l1In_calls _ _ _ _).mono ?_
          rintro e w9 ⟨rfl, he9⟩
          have he9' := he9.symm
          subst he9'
          clear he9
          rw [HIN.out]
          go_wp2
          go_roundw
          case rel => exact ⟨i + 1, by omega, by go_num, by unfold Hid; rw [HF.out]; exact HKM.out, HKL, HKV, HO, HB, by omega⟩
          case measure => simp [intOf]; omega
        replace hin := Classical.not_not.1 hin
        obtain ⟨m, hm⟩ : ∃ m : Nat, zn = m := ⟨zn.toNat, by omega⟩
        subst hm
        have hml : m < x.Entities.length := by omega
        have hf : reachL x ((es.take (i + 1)).map (·.Entity)) = reachL x ((es.take (i)).map (·.Entity)) ++ [m] := by
          rw [HS.out, reachAt_yes (i := m) (by rw [← HZV.out]) (by rw [← HZV.out]) hml]
        have HF := Lib.hid hf
        clear hf
        have HIN : Hid (inR (m : Int) 0 ((x.Entities.length : Int) - 1) = true) := by unfold Hid inR; exact decide_eq_true hin
        have hm0 : (0 : Int) ≤ m := by omega
        have hm1 : (m : Int) < x.Entities.length := by omega
        have cm := HKM.out.cell m
        rw [marksA_get hml] at cm
        have fm := HKM.out.frozen m
        have lm := HKM.out.lt
        clear hin
        go_wp2_with fail
        refine (spec_l1In_calls _ _ _ _).mono ?_
        rintro e w9 ⟨rfl, he9⟩
        have he9' := he9.symm
        subst he9'
        clear he9
        rw [HIN.out]
        go_wp2
        have HC : Hid (Chg (· = w1.heap.size) wX (wX.setCell ⟨w1.heap.size, m, none⟩ (.bool true))) := Lib.hid ((Chg.refl (· = w1.heap.size) _).setCell (p := ⟨w1.heap.size, m, none⟩) (.inl rfl) _)
        have HKM2 : Hid (Blk (wX.setCell ⟨w1.heap.size, m, none⟩ (.bool true)) w1.heap.size 4 (marksA x.Entities.length (reachL x ((es.take (i + 1)).map (·.Entity))))) := by
          unfold Hid
          rw [HF.out, ← marksA_set hml]
          exact HKM.out.set_ m _
        replace HKV := Lib.hid (HKV.out.chg HC.out (by omega))
        replace HKL := Lib.hid (HKL.out.chg HC.out (by omega))
        replace HO := Lib.hid (ownsRow_keep HO.out HC.out (fun k hk => by cases hk; show ¬ (w.heap.size + 1 = _); omega))
        replace HB := Lib.hid (below_chg HB.out HC.out HB.out.size (fun k hk => by omega))
        have hsl3 := HC.out.size
        go_roundw
        case rel => exact ⟨i + 1, by omega, by go_num, HKM2, HKL, HKV, HO, HB, by omega⟩
        case measure => simp [intOf]; omega
    · have : i = es.length := by omega
      subst this
      have HKM0 : Hid (Blk wr w1.heap.size 4 (marksA x.Entities.length (reachL x (es.map (·.Entity) ++ (an.take 0).map (·.Promise))))) := by
        have h := HKM.out
        rw [List.take_length] at h
        unfold Hid
        rwa [List.take_zero, List.map_nil, List.append_nil]
      have HKL0 := HKL
      have HKV0 := HKV
      have HO0 := HO
      have HB0 := HB
      clear HKM HKL HKV HO HB
      go_wp2
      clear kl fl hll
      go_loopw [11] (fun t wr => ∃ i : Nat, i ≤ an.length ∧ t = .int .i64 i ∧ Hid (Blk wr w1.heap.size 4 (marksA x.Entities.length (reachL x (es.map (·.Entity) ++ (an.take (i)).map (·.Promise))))) ∧ Hid (Blk wr wM.heap.size 51 #[.int .i64 pe, .bool up, .slice B2 es.length d2, .int .i64 nx, .slice B4 qn d4, .int .i64 ak, .slice B6 an.length d6]) ∧ Hid (Blk wr w.heap.size 36 #[.int .i64 x.Id, .slice A1 x.Entities.length c1, .slice A2 x.Loop.length c2, .slice (some ad) x.Links.length c3, .slice A4 x.Out.length c4]) ∧ Hid (wr.ownsRow (w.heap.size + 1) 3 1 (.slice (some ⟨w.heap.size + 1, 0, none⟩) 0 0) 0 []) ∧ Hid (Below w.heap.size w wr) ∧ wM.heap.size < wr.heap.size) (fun t wr => an.length - (intOf t).toNat)
      case atStart => exact ⟨0, by omega, rfl, HKM0, HKL0, HKV0, HO0, HB0, hsl⟩
      case round =>
        clear HKM0 HKL0 HKV0 HO0 HB0 hsl
        obtain ⟨i, hi', rfl, HKM, HKL, HKV, HO, HB, hsl⟩ := hrel
        obtain ⟨kl, fl⟩ := HKL.out.rules
        have hll := HKL.out.lt
        by_cases hlt : i < an.length
        · skip
          obtain ⟨z, hz1⟩ : ∃ z, an[i]? = some z := ⟨an[i], List.getElem?_eq_getElem hlt⟩
          obtain ⟨aq, rfl, haq, r0, r1⟩ := row_eQuestion (HX6.out.below HB.out) hz1
          have haq' : (aq.add (i * 2)).block < wr.heap.size := by rw [block_of_add]; exact haq
          have HS := Lib.hid (STEP2.out i z hz1)
          obtain ⟨z1, hzz⟩ : ∃ q, q = z.Promise := ⟨_, rfl⟩
          rw [← hzz] at r1 HS
          clear hz1 hzz r0 haq
          go_upto_region 16 with fail
          refine wp_region_U (fun wq => Blk wq w.heap.size 36 #[.int .i64 x.Id, .slice A1 x.Entities.length c1, .slice A2 x.Loop.length c2, .slice (some ad) x.Links.length c3, .slice A4 x.Out.length c4] ∧ Blk wq wM.heap.size 51 #[.int .i64 pe, .bool up, .slice B2 es.length d2, .int .i64 nx, .slice B4 qn d4, .int .i64 ak, .slice (some aq) an.length d6] ∧ (aq.add (i * 2)).block < wq.heap.size ∧ wq.cell? ⟨(aq.add (i * 2)).block, (aq.add (i * 2)).off + 1, none⟩ = some (.int .i64 z1)) [0, 1, 2, 3, 4, 5, 6, 7, 8, 9, 10] (by kernel_rfl) ?_
          have hH_ := (⟨HKV.out.drew, HKL.out.drew, haq', r1⟩ : (fun wq => Blk wq w.heap.size 36 #[.int .i64 x.Id, .slice A1 x.Entities.length c1, .slice A2 x.Loop.length c2, .slice (some ad) x.Links.length c3, .slice A4 x.Out.length c4] ∧ Blk wq wM.heap.size 51 #[.int .i64 pe, .bool up, .slice B2 es.length d2, .int .i64 nx, .slice B4 qn d4, .int .i64 ak, .slice (some aq) an.length d6] ∧ (aq.add (i * 2)).block < wq.heap.size ∧ wq.cell? ⟨(aq.add (i * 2)).block, (aq.add (i * 2)).off + 1, none⟩ = some (.int .i64 z1)) wr.drew)
          refine wpAnyU_take (i := 0) (v := ?_) rfl (by kernel_rfl) (by kernel_rfl) (by kernel_rfl) (by kernel_rfl) (fun _ _ _ h => h) (Or.inl ⟨by rfl, ?_⟩) hH_ ?_
          rotate_left
          · (intro w hSw; (obtain ⟨hs1, hs2, hs3, hs4⟩ := hSw; obtain ⟨kc0, kf0⟩ := hs2.rules; obtain ⟨kd0, kg0⟩ := hs1.rules; go_simp <;> with_reducible rfl))
          simp only [Act.put, List.getElem_toArray, List.getElem_cons_succ, List.getElem_cons_zero, List.setIfInBounds_toArray, List.set_cons_zero, List.set_cons_succ]
          refine wpAnyU_take (i := 1) (v := ?_) rfl (by kernel_rfl) (by kernel_rfl) (by kernel_rfl) (by kernel_rfl) (fun _ _ _ h => h) (Or.inl ⟨by rfl, ?_⟩) hH_ ?_
          rotate_left
          · (intro w hSw; (try dsimp only at hSw); go_simp <;> with_reducible rfl)
          simp only [Act.put, List.getElem_toArray, List.getElem_cons_succ, List.getElem_cons_zero, List.setIfInBounds_toArray, List.set_cons_zero, List.set_cons_succ]
          refine wpAnyU_take (i := 2) (v := ?_) rfl (by kernel_rfl) (by kernel_rfl) (by kernel_rfl) (by kernel_rfl) (fun _ _ _ h => h) (Or.inl ⟨by rfl, ?_⟩) hH_ ?_
          rotate_left
          · (intro w hSw; (obtain ⟨hs1, hs2, hs3, hs4⟩ := hSw; obtain ⟨kc0, kf0⟩ := hs2.rules; obtain ⟨kd0, kg0⟩ := hs1.rules; go_simp <;> with_reducible rfl))
          simp only [Act.put, List.getElem_toArray, List.getElem_cons_succ, List.getElem_cons_zero, List.setIfInBounds_toArray, List.set_cons_zero, List.set_cons_succ]
          refine wpAnyU_take (i := 3) (v := ?_) rfl (by kernel_rfl) (by kernel_rfl) (by kernel_rfl) (by kernel_rfl) (fun _ _ _ h => h) (Or.inl ⟨by rfl, ?_⟩) hH_ ?_
          rotate_left
          · (intro w hSw; (try dsimp only at hSw); go_simp <;> with_reducible rfl)
          simp only [Act.put, List.getElem_toArray, List.getElem_cons_succ, List.getElem_cons_zero, List.setIfInBounds_toArray, List.set_cons_zero, List.set_cons_succ]
          refine wpAnyU_take (i := 4) (v := ?_) rfl (by kernel_rfl) (by kernel_rfl) (by kernel_rfl) (by kernel_rfl) (fun _ _ _ h => h) (Or.inl ⟨by rfl, ?_⟩) hH_ ?_
          rotate_left
          · (intro w hSw; (have hw0 : IntKind.i64.wrap (i : Int) = (i : Int) := by rw [IntKind.wrap_i64]; omega); go_simp <;> with_reducible rfl)
          simp only [Act.put, List.getElem_toArray, List.getElem_cons_succ, List.getElem_cons_zero, List.setIfInBounds_toArray, List.set_cons_zero, List.set_cons_succ]
          refine wpAnyU_take (i := 5) (v := ?_) rfl (by kernel_rfl) (by kernel_rfl) (by kernel_rfl) (by kernel_rfl) (fun _ _ _ h => h) (Or.inl ⟨by rfl, ?_⟩) hH_ ?_
          rotate_left
          · (intro w hSw; (try dsimp only at hSw); go_simp <;> with_reducible rfl)
          simp only [Act.put, List.getElem_toArray, List.getElem_cons_succ, List.getElem_cons_zero, List.setIfInBounds_toArray, List.set_cons_zero, List.set_cons_succ]
          refine wpAnyU_take (i := 6) (v := ?_) rfl (by kernel_rfl) (by kernel_rfl) (by kernel_rfl) (by kernel_rfl) (fun _ _ _ h => h) (Or.inl ⟨by rfl, ?_⟩) hH_ ?_
          rotate_left
          · (intro w hSw; (obtain ⟨hs1, hs2, hs3, hs4⟩ := hSw; obtain ⟨kc0, kf0⟩ := hs2.rules; obtain ⟨kd0, kg0⟩ := hs1.rules; go_simp <;> with_reducible rfl))
          simp only [Act.put, List.getElem_toArray, List.getElem_cons_succ, List.getElem_cons_zero, List.setIfInBounds_toArray, List.set_cons_zero, List.set_cons_succ]
          refine wpAnyU_two (i := 7) (j := 9) (by kernel_rfl) rfl rfl (fun K hK => ?_) (fun K hK => ?_)
          · skip
            go_simp
            refine (spec_RefValue_calls z1 _).mono ?_
            rintro e w7 ⟨rfl, hb⟩
            refine hK.out _ _ ?_ (fun hH1_ => ?_)
            · exact ⟨hH_.1.below hb, hH_.2.1.below hb, Nat.lt_of_lt_of_le hH_.2.2.1 hb.size, cell_below hb hH_.2.2.2 hH_.2.2.1⟩
            replace HKM := Lib.hid (HKM.out.drew.below hb)
            replace HKV := Lib.hid (HKV.out.drew.below hb)
            replace HKL := Lib.hid (HKL.out.drew.below hb)
            replace HO := Lib.hid (ownsRow_below HO.out.drew hb)
            replace HB := Lib.hid (HB.out.drew.trans (hb.mono HB.out.drew.size))
            have hsl7 := hb.size
            have hsd7 : wr.drew.heap.size = wr.heap.size := rfl
            clear hK K hH_
            have hH_ := hH1_
            clear hH1_
            refine wpAnyU_two (i := 8) (j := 9) (by kernel_rfl) rfl rfl (fun K hK => ?_) (fun K hK => ?_)
            · skip
              go_simp
              refine (spec_Look_run _ x _ ⟨1, z1⟩ _ (HRR.out.below HB.out) mkrd_eValue hz).mono ?_
              rintro e w8 ⟨rfl, hb⟩
              obtain ⟨zv, hzv⟩ : ∃ q, q = lookOf x ⟨1, z1⟩ := ⟨_, rfl⟩
              rw [← hzv]
              obtain ⟨zk, zn⟩ := zv
              dsimp only
              have HZV := Lib.hid hzv
              clear hzv
              refine hK.out _ _ ?_ (fun hH1_ => ?_)
              · exact ⟨hH_.1.below hb, hH_.2.1.below hb, Nat.lt_of_lt_of_le hH_.2.2.1 hb.size, cell_below hb hH_.2.2.2 hH_.2.2.1⟩
              replace HKM := Lib.hid (HKM.out.below hb)
              replace HKV := Lib.hid (HKV.out.below hb)
              replace HKL := Lib.hid (HKL.out.below hb)
              replace HO := Lib.hid (ownsRow_below HO.out hb)
              replace HB := Lib.hid (HB.out.trans (hb.mono HB.out.size))
              have hsl8 := hb.size
              clear hK K hH_
              have hH_ := hH1_
              clear hH1_
              refine wpAnyU_one (i := 9) (by kernel_rfl) rfl (fun K hK => ?_)
              go_simp
              refine hK.out _ _ ?_ (fun hH1_ => ?_)
              · exact ⟨hH_.1.alloc _, hH_.2.1.alloc _, by have := hH_.2.2.1; simp; omega, cell_alloc_keep hH_.2.2.2⟩
              clear hK K hH_
              have hH_ := hH1_
              clear hH1_
              refine wpAnyU_one' (i := 10) (by kernel_rfl) rfl (by kernel_rfl) (fun K hK => ?_)
              go_simp
              refine hK.out _ _ ?_
              clear hK K
              refine wpAnyU_done (by kernel_rfl) ?_ _
              obtain ⟨wX, hwX⟩ : ∃ q, q = w8.alloc (.cells #[.int .i64 zk, .int .i64 zn] 53) := ⟨_, rfl⟩
              have hgw : wM.heap.size < w8.heap.size := by omega
              have hgw2 : w.heap.size + 1 < w8.heap.size := by omega
              have HXB : Hid (Blk wX w8.heap.size 53 #[.int .i64 zk, .int .i64 zn]) := by rw [hwX]; exact Blk.new w8 _ _
              have hbX : Below w8.heap.size w8 wX := by rw [hwX]; exact (Below.refl _ _).alloc (Nat.le_refl _) _
              replace HKM := Lib.hid (HKM.out.below hbX)
              replace HKV := Lib.hid (HKV.out.below hbX)
              replace HKL := Lib.hid (HKL.out.below hbX)
              replace HO := Lib.hid (ownsRow_below HO.out hbX)
              replace HB := Lib.hid (HB.out.trans (hbX.mono HB.out.size))
              have hslX := hbX.size
              clear hbX
              have hslB : wM.heap.size < wX.heap.size := by have := HXB.out.lt; omega
              rw [← hwX]
              clear hwX kl fl hll
              obtain ⟨kx, fx⟩ := HXB.out.rules
              have hxl := HXB.out.lt
              by_cases hk1 : ¬ zk = 1
              · have hf : reachL x (es.map (·.Entity) ++ (an.take (i + 1)).map (·.Promise)) = reachL x (es.map (·.Entity) ++ (an.take (i)).map (·.Promise)) := by
                  rw [HS.out, reachAt_kind (by rw [← HZV.out]; exact hk1), List.append_nil]
                have HF := Lib.hid hf
                clear hf
                go_wp2
                go_roundw
                case rel => exact ⟨i + 1, by omega, by go_num, by unfold Hid; rw [HF.out]; exact HKM.out, HKL, HKV, HO, HB, by omega⟩
                case measure => simp [intOf]; omega
              replace hk1 := Classical.not_not.1 hk1
              subst hk1
              have hwr : IntKind.i64.wrap ((x.Entities.length : Int) - 1) = (x.Entities.length : Int) - 1 := by rw [IntKind.wrap_i64]; omega
              by_cases hin : ¬ (0 ≤ zn ∧ zn ≤ (x.Entities.length : Int) - 1)
              · have hf : reachL x (es.map (·.Entity) ++ (an.take (i + 1)).map (·.Promise)) = reachL x (es.map (·.Entity) ++ (an.take (i)).map (·.Promise)) := by
                  rw [HS.out, reachAt_out (by rw [← HZV.out]; exact hin), List.append_nil]
                have HF := Lib.hid hf
                clear hf
                have HIN : Hid (inR zn 0 ((x.Entities.length : Int) - 1) = false) := by unfold Hid inR; exact decide_eq_false hin
                clear hin
                go_wp2_with fail
                refine (spec_l1In_calls _ _ _ _).mono ?_
                rintro e w9 ⟨rfl, he9⟩
                have he9' := he9.symm
                subst he9'
                clear he9
                rw [HIN.out]
                go_wp2
                go_roundw
                case rel => exact ⟨i + 1, by omega, by go_num, by unfold Hid; rw [HF.out]; exact HKM.out, HKL, HKV, HO, HB, by omega⟩
                case measure => simp [intOf]; omega
              replace hin := Classical.not_not.1 hin
              obtain ⟨m, hm⟩ : ∃ m : Nat, zn = m := ⟨zn.toNat, by omega⟩
              subst hm
              have hml : m < x.Entities.length := by omega
              have hf : reachL x (es.map (·.Entity) ++ (an.take (i + 1)).map (·.Promise)) = reachL x (es.map (·.Entity) ++ (an.take (i)).map (·.Promise)) ++ [m] := by
                rw [HS.out, reachAt_yes (i := m) (by rw [← HZV.out]) (by rw [← HZV.out]) hml]
              have HF := Lib.hid hf
              clear hf
              have HIN : Hid (inR (m : Int) 0 ((x.Entities.length : Int) - 1) = true) := by unfold Hid inR; exact decide_eq_true hin
              have hm0 : (0 : Int) ≤ m := by omega
              have hm1 : (m : Int) < x.Entities.length := by omega
              have cm := HKM.out.cell m
              rw [marksA_get hml] at cm
              have fm := HKM.out.frozen m
              have lm := HKM.out.lt
              clear hin
              go_wp2_with fail
              refine (spec_l1In_calls _ _ _ _).mono ?_
              rintro e w9 ⟨rfl, he9⟩
              have he9' := he9.symm
              subst he9'
              clear he9
              rw [HIN.out]
              go_wp2
              have HC : Hid (Chg (· = w1.heap.size) wX (wX.setCell ⟨w1.heap.size, m, none⟩ (.bool true))) := Lib.hid ((Chg.refl (· = w1.heap.size) _).setCell (p := ⟨w1.heap.size, m, none⟩) (.inl rfl) _)
              have HKM2 : Hid (Blk (wX.setCell ⟨w1.heap.size, m, none⟩ (.bool true)) w1.heap.size 4 (marksA x.Entities.length (reachL x (es.map (·.Entity) ++ (an.take (i + 1)).map (·.Promise))))) := by
                unfold Hid
                rw [HF.out, ← marksA_set hml]
                exact HKM.out.set_ m _
              replace HKV := Lib.hid (HKV.out.chg HC.out (by omega))
              replace HKL := Lib.hid (HKL.out.chg HC.out (by omega))
              replace HO := Lib.hid (ownsRow_keep HO.out HC.out (fun k hk => by cases hk; show ¬ (w.heap.size + 1 = _); omega))
              replace HB := Lib.hid (below_chg HB.out HC.out HB.out.size (fun k hk => by omega))
              have hsl3 := HC.out.size
              go_roundw
              case rel => exact ⟨i + 1, by omega, by go_num, HKM2, HKL, HKV, HO, HB, by omega⟩
              case measure => simp [intOf]; omega
            · skip
              go_simp
              refine hK.out _ _ ?_ (fun hH1_ => ?_)
              · exact ⟨hH_.1.alloc _, hH_.2.1.alloc _, by have := hH_.2.2.1; simp; omega, cell_alloc_keep hH_.2.2.2⟩
              replace HKM := Lib.hid (HKM.out.alloc (.cells #[.int .i64 0, .int .i64 0] 53))
              replace HKV := Lib.hid (HKV.out.alloc (.cells #[.int .i64 0, .int .i64 0] 53))
              replace HKL := Lib.hid (HKL.out.alloc (.cells #[.int .i64 0, .int .i64 0] 53))
              replace HO := Lib.hid (HO.out.alloc (.cells #[.int .i64 0, .int .i64 0] 53))
              replace HB := Lib.hid (HB.out.alloc HB.out.size (.cells #[.int .i64 0, .int .i64 0] 53))
              have HA := Lib.hid (Blk.new w7 53 #[.int .i64 0, .int .i64 0])
              clear hK K hH_
              have hH_ := hH1_
              clear hH1_
              refine wpAnyU_one (i := 8) (by kernel_rfl) rfl (fun K hK => ?_)
              go_simp
              refine (spec_Look_run _ x _ ⟨1, z1⟩ _ (HRR.out.below HB.out) mkrd_eValue hz).mono ?_
              rintro e w8 ⟨rfl, hb⟩
              obtain ⟨zv, hzv⟩ : ∃ q, q = lookOf x ⟨1, z1⟩ := ⟨_, rfl⟩
              rw [← hzv]
              obtain ⟨zk, zn⟩ := zv
              dsimp only
              have HZV := Lib.hid hzv
              clear hzv
              refine hK.out _ _ ?_ (fun hH1_ => ?_)
              · exact ⟨hH_.1.below hb, hH_.2.1.below hb, Nat.lt_of_lt_of_le hH_.2.2.1 hb.size, cell_below hb hH_.2.2.2 hH_.2.2.1⟩
              replace HKM := Lib.hid (HKM.out.below hb)
              replace HKV := Lib.hid (HKV.out.below hb)
              replace HKL := Lib.hid (HKL.out.below hb)
              replace HA := Lib.hid (HA.out.below hb)
              replace HO := Lib.hid (ownsRow_below HO.out hb)
              replace HB := Lib.hid (HB.out.trans (hb.mono HB.out.size))
              have hsl8 := hb.size
              clear hK K hH_
              have hH_ := hH1_
              clear hH1_
              refine wpAnyU_one' (i := 10) (by kernel_rfl) rfl (by kernel_rfl) (fun K hK => ?_)
              obtain ⟨ka, fa⟩ := HA.out.rules
              have hal := HA.out.lt
              go_simp
              refine hK.out _ _ ?_
              clear hK K
              refine wpAnyU_done (by kernel_rfl) ?_ _
              obtain ⟨wX, hwX⟩ : ∃ q, q = (w8.setCell ⟨w7.heap.size, 0, none⟩ (.int .i64 zk)).setCell ⟨w7.heap.size, 1, none⟩ (.int .i64 zn) := ⟨_, rfl⟩
              have hgw : wM.heap.size < w7.heap.size := by omega
              have hgw2 : w.heap.size + 1 < w7.heap.size := by omega
              have HC : Hid (Chg (· = w7.heap.size) w8 wX) := by rw [hwX]; exact ((Chg.refl (· = w7.heap.size) _).setCell (p := ⟨w7.heap.size, 0, none⟩) (.inl rfl) _).setCell (p := ⟨w7.heap.size, 1, none⟩) (.inl rfl) _
              have HXB : Hid (Blk wX (w7.heap.size) 53 #[.int .i64 zk, .int .i64 zn]) := by rw [hwX]; exact Blk.eq ((HA.out.set_ 0 _).set_ 1 _) (by simp)
              replace HKM := Lib.hid (HKM.out.chg HC.out (by omega))
              replace HKV := Lib.hid (HKV.out.chg HC.out (by omega))
              replace HKL := Lib.hid (HKL.out.chg HC.out (by omega))
              replace HO := Lib.hid (ownsRow_keep HO.out HC.out (fun k hk => by cases hk; show ¬ (w.heap.size + 1 = _); omega))
              replace HB := Lib.hid (below_chg HB.out HC.out HB.out.size (fun k hk => by omega))
              have hslX := HC.out.size
              have hslB : wM.heap.size < wX.heap.size := by have := HXB.out.lt; omega
              rw [← hwX]
              clear hwX HC HA kl fl hll
              obtain ⟨kx, fx⟩ := HXB.out.rules
              have hxl := HXB.out.lt
              by_cases hk1 : ¬ zk = 1
              · have hf : reachL x (es.map (·.Entity) ++ (an.take (i + 1)).map (·.Promise)) = reachL x (es.map (·.Entity) ++ (an.take (i)).map (·.Promise)) := by
                  rw [HS.out, reachAt_kind (by rw [← HZV.out]; exact hk1), List.append_nil]
                have HF := Lib.hid hf
                clear hf
                go_wp2
                go_roundw
                case rel => exact ⟨i + 1, by omega, by go_num, by unfold Hid; rw [HF.out]; exact HKM.out, HKL, HKV, HO, HB, by omega⟩
                case measure => simp [intOf]; omega
              replace hk1 := Classical.not_not.1 hk1
              subst hk1
              have hwr : IntKind.i64.wrap ((x.Entities.length : Int) - 1) = (x.Entities.length : Int) - 1 := by rw [IntKind.wrap_i64]; omega
              by_cases hin : ¬ (0 ≤ zn ∧ zn ≤ (x.Entities.length : Int) - 1)
              · have hf : reachL x (es.map (·.Entity) ++ (an.take (i + 1)).map (·.Promise)) = reachL x (es.map (·.Entity) ++ (an.take (i)).map (·.Promise)) := by
                  rw [HS.out, reachAt_out (by rw [← HZV.out]; exact hin), List.append_nil]
                have HF := Lib.hid hf
                clear hf
                have HIN : Hid (inR zn 0 ((x.Entities.length : Int) - 1) = false) := by unfold Hid inR; exact decide_eq_false hin
                clear hin
                go_wp2_with fail
                refine (spec_l1In_calls _ _ _ _).mono ?_
                rintro e w9 ⟨rfl, he9⟩
                have he9' := he9.symm
                subst he9'
                clear he9
                rw [HIN.out]
                go_wp2
                go_roundw
                case rel => exact ⟨i + 1, by omega, by go_num, by unfold Hid; rw [HF.out]; exact HKM.out, HKL, HKV, HO, HB, by omega⟩
                case measure => simp [intOf]; omega
              replace hin := Classical.not_not.1 hin
              obtain ⟨m, hm⟩ : ∃ m : Nat, zn = m := ⟨zn.toNat, by omega⟩
              subst hm
              have hml : m < x.Entities.length := by omega
              have hf : reachL x (es.map (·.Entity) ++ (an.take (i + 1)).map (·.Promise)) = reachL x (es.map (·.Entity) ++ (an.take (i)).map (·.Promise)) ++ [m] := by
                rw [HS.out, reachAt_yes (i := m) (by rw [← HZV.out]) (by rw [← HZV.out]) hml]
              have HF := Lib.hid hf
              clear hf
              have HIN : Hid (inR (m : Int) 0 ((x.Entities.length : Int) - 1) = true) := by unfold Hid inR; exact decide_eq_true hin
              have hm0 : (0 : Int) ≤ m := by omega
              have hm1 : (m : Int) < x.Entities.length := by omega
              have cm := HKM.out.cell m
              rw [marksA_get hml] at cm
              have fm := HKM.out.frozen m
              have lm := HKM.out.lt
              clear hin
              go_wp2_with fail
              refine (spec_l1In_calls _ _ _ _).mono ?_
              rintro e w9 ⟨rfl, he9⟩
              have he9' := he9.symm
              subst he9'
              clear he9
              rw [HIN.out]
              go_wp2
              have HC : Hid (Chg (· = w1.heap.size) wX (wX.setCell ⟨w1.heap.size, m, none⟩ (.bool true))) := Lib.hid ((Chg.refl (· = w1.heap.size) _).setCell (p := ⟨w1.heap.size, m, none⟩) (.inl rfl) _)
              have HKM2 : Hid (Blk (wX.setCell ⟨w1.heap.size, m, none⟩ (.bool true)) w1.heap.size 4 (marksA x.Entities.length (reachL x (es.map (·.Entity) ++ (an.take (i + 1)).map (·.Promise))))) := by
                unfold Hid
                rw [HF.out, ← marksA_set hml]
                exact HKM.out.set_ m _
              replace HKV := Lib.hid (HKV.out.chg HC.out (by omega))
              replace HKL := Lib.hid (HKL.out.chg HC.out (by omega))
              replace HO := Lib.hid (ownsRow_keep HO.out HC.out (fun k hk => by cases hk; show ¬ (w.heap.size + 1 = _); omega))
              replace HB := Lib.hid (below_chg HB.out HC.out HB.out.size (fun k hk => by omega))
              have hsl3 := HC.out.size
              go_roundw
              case rel => exact ⟨i + 1, by omega, by go_num, HKM2, HKL, HKV, HO, HB, by omega⟩
              case measure => simp [intOf]; omega
          · skip
            go_simp
            refine hK.out _ _ ?_ (fun hH1_ => ?_)
            · exact ⟨hH_.1.alloc _, hH_.2.1.alloc _, by have := hH_.2.2.1; simp; omega, cell_alloc_keep hH_.2.2.2⟩
            replace HKM := Lib.hid ((HKM.out.alloc (.cells #[.int .i64 0, .int .i64 0] 53)).drew)
            replace HKV := Lib.hid ((HKV.out.alloc (.cells #[.int .i64 0, .int .i64 0] 53)).drew)
            replace HKL := Lib.hid ((HKL.out.alloc (.cells #[.int .i64 0, .int .i64 0] 53)).drew)
            replace HO := Lib.hid ((HO.out.alloc (.cells #[.int .i64 0, .int .i64 0] 53)).drew)
            replace HB := Lib.hid ((HB.out.alloc HB.out.size (.cells #[.int .i64 0, .int .i64 0] 53)).drew)
            have HA := Lib.hid ((Blk.new wr 53 #[.int .i64 0, .int .i64 0]).drew)
            clear hK K hH_
            have hH_ := hH1_
            clear hH1_
            refine wpAnyU_one (i := 7) (by kernel_rfl) rfl (fun K hK => ?_)
            go_simp
            refine (spec_RefValue_calls z1 _).mono ?_
            rintro e w7 ⟨rfl, hb⟩
            refine hK.out _ _ ?_ (fun hH1_ => ?_)
            · exact ⟨hH_.1.below hb, hH_.2.1.below hb, Nat.lt_of_lt_of_le hH_.2.2.1 hb.size, cell_below hb hH_.2.2.2 hH_.2.2.1⟩
            replace HKM := Lib.hid (HKM.out.below hb)
            replace HKV := Lib.hid (HKV.out.below hb)
            replace HKL := Lib.hid (HKL.out.below hb)
            replace HA := Lib.hid (HA.out.below hb)
            replace HO := Lib.hid (ownsRow_below HO.out hb)
            replace HB := Lib.hid (HB.out.trans (hb.mono HB.out.size))
            have hsl7 := hb.size
            clear hK K hH_
            have hH_ := hH1_
            clear hH1_
            refine wpAnyU_one (i := 8) (by kernel_rfl) rfl (fun K hK => ?_)
            go_simp
            refine (spec_Look_run _ x _ ⟨1, z1⟩ _ (HRR.out.below HB.out) mkrd_eValue hz).mono ?_
            rintro e w8 ⟨rfl, hb⟩
            obtain ⟨zv, hzv⟩ : ∃ q, q = lookOf x ⟨1, z1⟩ := ⟨_, rfl⟩
            rw [← hzv]
            obtain ⟨zk, zn⟩ := zv
            dsimp only
            have HZV := Lib.hid hzv
            clear hzv
            refine hK.out _ _ ?_ (fun hH1_ => ?_)
            · exact ⟨hH_.1.below hb, hH_.2.1.below hb, Nat.lt_of_lt_of_le hH_.2.2.1 hb.size, cell_below hb hH_.2.2.2 hH_.2.2.1⟩
            replace HKM := Lib.hid (HKM.out.below hb)
            replace HKV := Lib.hid (HKV.out.below hb)
            replace HKL := Lib.hid (HKL.out.below hb)
            replace HA := Lib.hid (HA.out.below hb)
            replace HO := Lib.hid (ownsRow_below HO.out hb)
            replace HB := Lib.hid (HB.out.trans (hb.mono HB.out.size))
            have hsl8 := hb.size
            clear hK K hH_
            have hH_ := hH1_
            clear hH1_
            refine wpAnyU_one' (i := 10) (by kernel_rfl) rfl (by kernel_rfl) (fun K hK => ?_)
            obtain ⟨ka, fa⟩ := HA.out.rules
            have hal := HA.out.lt
            go_simp
            refine hK.out _ _ ?_
            clear hK K
            refine wpAnyU_done (by kernel_rfl) ?_ _
            obtain ⟨wX, hwX⟩ : ∃ q, q = (w8.setCell ⟨wr.heap.size, 0, none⟩ (.int .i64 zk)).setCell ⟨wr.heap.size, 1, none⟩ (.int .i64 zn) := ⟨_, rfl⟩
            have hgw : wM.heap.size < wr.heap.size := by omega
            have hgw2 : w.heap.size + 1 < wr.heap.size := by omega
            have HC : Hid (Chg (· = wr.heap.size) w8 wX) := by rw [hwX]; exact ((Chg.refl (· = wr.heap.size) _).setCell (p := ⟨wr.heap.size, 0, none⟩) (.inl rfl) _).setCell (p := ⟨wr.heap.size, 1, none⟩) (.inl rfl) _
            have HXB : Hid (Blk wX (wr.heap.size) 53 #[.int .i64 zk, .int .i64 zn]) := by rw [hwX]; exact Blk.eq ((HA.out.set_ 0 _).set_ 1 _) (by simp)
            replace HKM := Lib.hid (HKM.out.chg HC.out (by omega))
            replace HKV := Lib.hid (HKV.out.chg HC.out (by omega))
            replace HKL := Lib.hid (HKL.out.chg HC.out (by omega))
            replace HO := Lib.hid (ownsRow_keep HO.out HC.out (fun k hk => by cases hk; show ¬ (w.heap.size + 1 = _); omega))
            replace HB := Lib.hid (below_chg HB.out HC.out HB.out.size (fun k hk => by omega))
            have hslX := HC.out.size
            have hslB : wM.heap.size < wX.heap.size := by have := HXB.out.lt; omega
            rw [← hwX]
            clear hwX HC HA kl fl hll
            obtain ⟨kx, fx⟩ := HXB.out.rules
            have hxl := HXB.out.lt
            by_cases hk1 : ¬ zk = 1
            · have hf : reachL x (es.map (·.Entity) ++ (an.take (i + 1)).map (·.Promise)) = reachL x (es.map (·.Entity) ++ (an.take (i)).map (·.Promise)) := by
                rw [HS.out, reachAt_kind (by rw [← HZV.out]; exact hk1), List.append_nil]
              have HF := Lib.hid hf
              clear hf
              go_wp2
              go_roundw
              case rel => exact ⟨i + 1, by omega, by go_num, by unfold Hid; rw [HF.out]; exact HKM.out, HKL, HKV, HO, HB, by omega⟩
              case measure => simp [intOf]; omega
            replace hk1 := Classical.not_not.1 hk1
            subst hk1
            have hwr : IntKind.i64.wrap ((x.Entities.length : Int) - 1) = (x.Entities.length : Int) - 1 := by rw [IntKind.wrap_i64]; omega
            by_cases hin : ¬ (0 ≤ zn ∧ zn ≤ (x.Entities.length : Int) - 1)
            · have hf : reachL x (es.map (·.Entity) ++ (an.take (i + 1)).map (·.Promise)) = reachL x (es.map (·.Entity) ++ (an.take (i)).map (·.Promise)) := by
                rw [HS.out, reachAt_out (by rw [← HZV.out]; exact hin), List.append_nil]
              have HF := Lib.hid hf
              clear hf
              have HIN : Hid (inR zn 0 ((x.Entities.length : Int) - 1) = false) := by unfold Hid inR; exact decide_eq_false hin
              clear hin
              go_wp2_with fail
              refine (spec_l1In_calls _ _ _ _).mono ?_
              rintro e w9 ⟨rfl, he9⟩
              have he9' := he9.symm
              subst he9'
              clear he9
              rw [HIN.out]
              go_wp2
              go_roundw
              case rel => exact ⟨i + 1, by omega, by go_num, by unfold Hid; rw [HF.out]; exact HKM.out, HKL, HKV, HO, HB, by omega⟩
              case measure => simp [intOf]; omega
            replace hin := Classical.not_not.1 hin
            obtain ⟨m, hm⟩ : ∃ m : Nat, zn = m := ⟨zn.toNat, by omega⟩
            subst hm
            have hml : m < x.Entities.length := by omega
            have hf : reachL x (es.map (·.Entity) ++ (an.take (i + 1)).map (·.Promise)) = reachL x (es.map (·.Entity) ++ (an.take (i)).map (·.Promise)) ++ [m] := by
              rw [HS.out, reachAt_yes (i := m) (by rw [← HZV.out]) (by rw [← HZV.out]) hml]
            have HF := Lib.hid hf
            clear hf
            have HIN : Hid (inR (m : Int) 0 ((x.Entities.length : Int) - 1) = true) := by unfold Hid inR; exact decide_eq_true hin
            have hm0 : (0 : Int) ≤ m := by omega
            have hm1 : (m : Int) < x.Entities.length := by omega
            have cm := HKM.out.cell m
            rw [marksA_get hml] at cm
            have fm := HKM.out.frozen m
            have lm := HKM.out.lt
            clear hin
            go_wp2_with fail
            refine (spec_l1In_calls _ _ _ _).mono ?_
            rintro e w9 ⟨rfl, he9⟩
            have he9' := he9.symm
            subst he9'
            clear he9
            rw [HIN.out]
            go_wp2
            have HC : Hid (Chg (· = w1.heap.size) wX (wX.setCell ⟨w1.heap.size, m, none⟩ (.bool true))) := Lib.hid ((Chg.refl (· = w1.heap.size) _).setCell (p := ⟨w1.heap.size, m, none⟩) (.inl rfl) _)
            have HKM2 : Hid (Blk (wX.setCell ⟨w1.heap.size, m, none⟩ (.bool true)) w1.heap.size 4 (marksA x.Entities.length (reachL x (es.map (·.Entity) ++ (an.take (i + 1)).map (·.Promise))))) := by
              unfold Hid
              rw [HF.out, ← marksA_set hml]
              exact HKM.out.set_ m _
            replace HKV := Lib.hid (HKV.out.chg HC.out (by omega))
            replace HKL := Lib.hid (HKL.out.chg HC.out (by omega))
            replace HO := Lib.hid (ownsRow_keep HO.out HC.out (fun k hk => by cases hk; show ¬ (w.heap.size + 1 = _); omega))
            replace HB := Lib.hid (below_chg HB.out HC.out HB.out.size (fun k hk => by omega))
            have hsl3 := HC.out.size
            go_roundw
            case rel => exact ⟨i + 1, by omega, by go_num, HKM2, HKL, HKV, HO, HB, by omega⟩
            case measure => simp [intOf]; omega
        · have : i = an.length := by omega
          subst this
          obtain ⟨ks, hks⟩ : ∃ q, q = reachL x (linkNums y) := ⟨_, rfl⟩
          have HKM0 : Hid (Blk wr w1.heap.size 4 (marksA x.Entities.length ks)) := by
            have h := HKM.out
            rw [List.take_length, ← HNS.out, ← hks] at h
            exact h
          rw [← hks] at HQ2
          have HO0 := HO
          have HB0 := HB
          clear hks HKM HO HB HNS STEP1 STEP2
          go_wp2
          clear kl fl hll HKV HKL
          go_loopw [5, 13] (fun s t wr => ∃ (i n : Nat) (A' : Option Addr) (c' : Nat), i ≤ x.Entities.length ∧ n ≤ i ∧ t = .int .i64 i ∧ s = .slice A' n c' ∧ Hid (n = (setN ks i).length) ∧ Hid (wr.ownsRow (w.heap.size + 1) 3 1 (.slice A' n c') n ((setN ks i).flatMap vsInt)) ∧ Hid (∀ k, (Value.slice A' n c').ownBlock = some k → k ≠ w1.heap.size) ∧ Hid (Blk wr w1.heap.size 4 (marksA x.Entities.length ks)) ∧ Hid (Below w.heap.size w wr)) (fun s t wr => x.Entities.length - (intOf t).toNat)
          case atStart => exact ⟨0, 0, _, _, by omega, by omega, rfl, rfl, rfl, HO0, (by unfold Hid; intro k hk; cases hk; show w.heap.size + 1 ≠ _; omega), HKM0, HB0⟩
          case round =>
            clear HKM0 HO0 HB0 hsl
            obtain ⟨i, n, A', c', hi', hni, rfl, rfl, HN, HO, HNE, HKM, HB⟩ := hrel
            have hlo := HO.out.lt
            have lm := HKM.out.lt
            by_cases hlt : i < x.Entities.length
            · have cm := HKM.out.cell i
              rw [marksA_get hlt] at cm
              by_cases hin : i ∈ ks
              · have HF := Lib.hid (setN_yes hin)
                rw [decide_eq_true hin] at cm
                clear hin
                go_wp2_with (at_builtin; refine wpList_append_rd_at rfl _ _ 29 rfl (w.heap.size + 1) 3 _ _ 1 8 Tryz.underlying29 rfl rfl rfl rfl rfl (by omega) _ n _ rfl (HO.out.alloc _) vals_eInt [(i : Int)] (one_eInt _) (lenv_eInt _) _ _ rfl (rdW_one vals_eInt wr (i : Int) 3) (by simp; omega) (by omega) (by simp; omega) ?_)
                intro A'' c'' w2 hown hgrow hat
                have HB2 := Lib.hid ((HB.out.alloc HB.out.size _).trans (grown_below hgrow (by have := HB.out.size; simp; omega) (fun k hk => by have := (hlo k hk).1; omega)))
                have HKM2 := Lib.hid ((HKM.out.alloc _).chg (grown_chg hgrow) (fun h => HNE.out _ h rfl))
                have HNE2 : Hid (∀ k, (Value.slice A'' (n + 1) c'').ownBlock = some k → k ≠ w1.heap.size) := by
                  unfold Hid
                  intro k hk
                  rcases hat with hat | hat
                  · exact HNE.out k (hat.symm.trans hk)
                  · have h := hat.symm.trans hk
                    injection h with h
                    rw [← h]
                    simp
                    omega
                have HO2 : Hid (w2.ownsRow (w.heap.size + 1) 3 1 (.slice A'' (n + 1) c'') (n + 1) ((setN ks (i + 1)).flatMap vsInt)) := by
                  unfold Hid; rw [HF.out, List.flatMap_append]; exact hown
                clear hown hgrow hat
                go_wp2
                go_roundw
                case rel => exact ⟨i + 1, n + 1, A'', c'', by omega, by omega, by go_num, rfl, by unfold Hid; rw [HF.out, List.length_append, ← HN.out]; rfl, HO2, HNE2, HKM2, HB2⟩
                case measure => simp [intOf]; omega
              · have HF := Lib.hid (setN_no hin)
                rw [decide_eq_false hin] at cm
                clear hin
                go_wp2
                go_roundw
                case rel => exact ⟨i + 1, n, A', c', by omega, by omega, by go_num, rfl, by unfold Hid; rw [HF.out]; exact HN.out, by unfold Hid; rw [HF.out]; exact HO.out, HNE, HKM, HB⟩
                case measure => simp [intOf]; omega
            · have : i = x.Entities.length := by omega
              subst this
              go_wp2
              go_ret
              have ho := HO.out
              have hnn := HN.out
              rw [HQ2.out]
              subst hnn
              exact ⟨_, rfl, ownsRow_rdw vals_eInt ho (by omega), HB.out⟩

end Go.Proofs.YtmnpoajdibmocaaGreat
