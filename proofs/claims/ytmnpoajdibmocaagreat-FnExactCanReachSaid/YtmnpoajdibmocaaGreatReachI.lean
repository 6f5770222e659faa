import Derived.Test.YtmnpoajdibmocaaGreatProg
import Derived.Test.YtmnpoajdibmocaaGreatTypes
import Derived.StillTailTactics
import Derived.Deep.RegionHeld3
import Derived.Laws.IdiomStrings
import Derived.Test.YtmnpoajdibmocaaGreatAppend
import Derived.Laws.StructEq
import Derived.Lib.SliceRun
import Derived.Shelf.RegionOpenPlain
import Derived.Test.YtmnpoajdibmocaaGreatReachSC
import Derived.Test.YtmnpoajdibmocaaGreatReachR
namespace Go.Proofs.YtmnpoajdibmocaaGreat
open Go.RowKit
set_option linter.unusedVariables false
set_option linter.unusedSimpArgs false

theorem link_len {x : GVat} {k : Nat} {y : GLink} (h : x.Links[k]? = some y) : y.Exports.length + y.Answers.length ≤ sizL (eVat x) := by
  have h1 := sizL_flat_le eLink x.Links y (List.mem_of_getElem? h)
  have h2 := siz_eLink y
  have h3 := siz_eVat x
  omega
set_option maxHeartbeats 12800000 in
set_option maxRecDepth 100000 in
theorem impl_CanReach_calls (us : List Value) (x : GVat) (a : Int) (w : World) (hr : RdLW w (eVat x) us) (hz : sizL (eVat x) ≤ 1048576) (hi : I64 a) :
    Calls Tryz.prog 7 #[.agg us.toArray, .int .i64 a] w fun e w' => ∃ v' fp, e = .returned v' ∧ Own w' (.s (canReach x a).length ((canReach x a).flatMap eInt)) v' fp ∧ Fresh w fp ∧ Below w.heap.size w w' := by
  have HRR := Lib.hid hr
  have hle : x.Entities.length ≤ 1048576 := by rw [siz_eVat] at hz; omega
  obtain ⟨v1, v2, v3, v4, rfl, h1, h2, h3, h4⟩ := rd_eVat hr
  obtain ⟨A1, c1, rfl, -⟩ := h1.slice
  obtain ⟨A2, c2, rfl, -⟩ := h2.slice
  obtain ⟨A3, c3, rfl, ⟨_, _, hl3⟩⟩ := h3.slice
  obtain ⟨A4, c4, rfl, -⟩ := h4.slice
  have HR := Lib.hid h3
  have HE := Lib.hid h1
  clear hr h1 h2 h3 h4
  have HB0 := Lib.hid ((Below.refl w.heap.size w).alloc (Nat.le_refl _) (.cells #[.int .i64 x.Id, .slice A1 x.Entities.length c1, .slice A2 x.Loop.length c2, .slice A3 x.Links.length c3, .slice A4 x.Out.length c4] 36))
  have HZ := Lib.hid hz
  go_enter Tryz.func7, Tryz.ntmps7
  go_wp2_with fail
  refine (impl_LinkTo_calls _ x a _ (HRR.out.below HB0.out) hz hi).mono ?_
  rintro e w1 ⟨rfl, hb1⟩
  have HK0 := Lib.hid ((Blk.new w 36 #[.int .i64 x.Id, .slice A1 x.Entities.length c1, .slice A2 x.Loop.length c2, .slice A3 x.Links.length c3, .slice A4 x.Out.length c4]).below hb1)
  have HB1 := Lib.hid (HB0.out.trans (hb1.mono (by simp only [size_alloc]; omega)))
  obtain ⟨kz0, kz1⟩ := HK0.out.rules
  have hlz := HK0.out.lt
  have hwz1 := HB1.out.size
  clear hb1
  by_cases hge : ¬ 0 ≤ linkTo x a
  · have HE : Hid (canReach x a = []) := by
      unfold Hid canReach reachNums
      cases x.Links[(linkTo x a).toNat]? with
      | none => rw [reachL_nil, setN_nil]
      | some l => simp only [if_neg hge]; rw [reachL_nil, setN_nil]
    obtain ⟨q, hq⟩ : ∃ q, q = linkTo x a := ⟨_, rfl⟩
    rw [← hq] at hge
    rw [← hq]
    clear hq
    go_wp2
    go_ret
    rw [HE.out]
    refine ⟨_, [], rfl, ?_, Fresh.nil _, HB1.out⟩
    rw [Own]
    exact .inl ⟨rfl, ⟨_, _, rfl, Nat.le_refl _, by omega, by simp⟩, rfl⟩
  replace hge := Classical.not_not.1 hge
  obtain ⟨k, y, hk, hy, _, _⟩ := idx_some hge
  have hkl : k < x.Links.length := (List.getElem?_eq_some_iff.1 hy).1
  have HQ2 : Hid (canReach x a = setN (reachL x (linkNums y)) x.Entities.length) := by
    unfold Hid canReach reachNums
    rw [show linkTo x a = (k : Int) from hk, Int.toNat_natCast, hy]; simp
  rw [show linkTo x a = (k : Int) from hk]
  have hyl : y.Exports.length + y.Answers.length ≤ 1048576 := Nat.le_trans (link_len hy) HZ.out
  obtain ⟨ad, u2, u4, u6, rfl, hab, k0, k1, k2, k3, k4, k5, k6, q2, q4, q6⟩ := row_eLink HR.out hy
  obtain ⟨B2, d2, rfl, ⟨_, _, hl2⟩⟩ := q2.slice
  obtain ⟨B6, d6, rfl, ⟨_, _, hl6⟩⟩ := q6.slice
  have hab' : (ad.add (k * 7)).block < w.heap.size := by rw [block_of_add]; exact hab
  have HX2 := Lib.hid q2
  have HX6 := Lib.hid q6
  have HK6 := Lib.hid k6
  have m2 := (HB1.out.cell (p := ⟨(ad.add (k * 7)).block, (ad.add (k * 7)).off + 2, none⟩) hab').trans k2
  have hm6 : (ad.add (k * 7)).block < w1.heap.size := by omega
  clear hk hge hy q2 q4 q6 k0 k1 k2 k3 k4 k5 k6
  obtain ⟨es, hes⟩ : ∃ q, q = y.Exports := ⟨_, rfl⟩
  obtain ⟨an, han⟩ : ∃ q, q = y.Answers := ⟨_, rfl⟩
  rw [← hes] at hyl HX2 m2 hl2
  rw [← han] at hyl HX6 HK6 hl6
  have HNS : Hid (linkNums y = es.map (·.Entity) ++ an.map (·.Promise)) := by unfold Hid linkNums; rw [hes, han]
  clear hes han
  have STEP1 : Hid (∀ (i : Nat) (z : GExport), es[i]? = some z → ((es.take (i + 1)).map (·.Entity)).flatMap vsInt = ((es.take i).map (·.Entity)).flatMap vsInt ++ [z.Entity].flatMap vsInt) := by
    unfold Hid
    intro i z hz'
    rw [List.take_add_one, hz', List.map_append, List.flatMap_append]; rfl
  have STEP2 : Hid (∀ (i : Nat) (z : GQuestion), an[i]? = some z → (es.map (·.Entity) ++ (an.take (i + 1)).map (·.Promise)).flatMap vsInt = (es.map (·.Entity) ++ (an.take i).map (·.Promise)).flatMap vsInt ++ [z.Promise].flatMap vsInt) := by
    unfold Hid
    intro i z hz'
    rw [List.take_add_one, hz', List.map_append, ← List.append_assoc, List.flatMap_append]; rfl
  go_wp2
  go_loopw [6, 28] (fun s t wr => ∃ (i : Nat) (A' : Option Addr) (c' : Nat), i ≤ es.length ∧ t = .int .i64 i ∧ s = .slice A' i c' ∧ Hid (wr.ownsRow w1.heap.size 3 1 (.slice A' i c') i (((es.take i).map (·.Entity)).flatMap vsInt)) ∧ Hid (Below w1.heap.size w1 wr)) (fun s t wr => es.length - (intOf t).toNat)
  case atStart => exact ⟨0, _, _, by omega, rfl, rfl, ownsRow_made' (by simp) (by simp), (Below.refl _ _).alloc (Nat.le_refl _) _⟩
  case round =>
    obtain ⟨i, A', c', hi', rfl, rfl, HO, HB⟩ := hrel
    have hlo := HO.out.lt
    have hws := HB.out.size
    by_cases hlt : i < es.length
    · obtain ⟨z, hz1⟩ : ∃ z, es[i]? = some z := ⟨es[i], List.getElem?_eq_getElem hlt⟩
      obtain ⟨aq, rfl, haq, r0, r1, r2⟩ := row_eExport (HX2.out.below (HB1.out.trans (HB.out.mono hwz1))) hz1
      have haq' : (aq.add (i * 3)).block < wr.heap.size := by rw [block_of_add]; exact haq
      have HS := Lib.hid (STEP1.out i z hz1)
      clear hz1
      go_wp2_with (at_builtin; refine wpList_append_rd rfl _ _ 29 rfl w1.heap.size 3 _ _ 1 8 Tryz.underlying29 rfl rfl rfl rfl rfl (by omega) _ i _ rfl ((HO.out.alloc _).alloc _) vals_eInt [z.Entity] (one_eInt _) (lenv_eInt _) _ _ rfl (rdW_one' vals_eInt (w := wr.alloc _) z.Entity 3 (by simp)) (by simp; omega) (by omega) (by have := HB.out.size; simp; omega) ?_)
      intro A'' c'' w2 hown hgrow
      have HB2 := Lib.hid (((HB.out.alloc HB.out.size _).alloc (by have := HB.out.size; (try simp only [size_alloc]); omega) _).trans (grown_below hgrow (by have := HB.out.size; simp; omega) (fun k hk => by have := (hlo k hk).1; omega)))
      have HO2 : Hid (w2.ownsRow w1.heap.size 3 1 (.slice A'' (i + 1) c'') (i + 1) (((es.take (i + 1)).map (·.Entity)).flatMap vsInt)) := by
        unfold Hid; rw [HS.out]; simpa only [List.map_take, List.flatMap_cons, List.flatMap_nil, List.append_nil] using hown
      clear hown hgrow
      go_wp2
      go_roundw
      case rel => exact ⟨i + 1, A'', c'', by omega, by go_num, rfl, HO2, HB2⟩
      case measure => simp [intOf]; omega
    · have : i = es.length := by omega
      subst this
      have HO1 : Hid (wr.ownsRow w1.heap.size 3 1 (.slice A' es.length c') es.length ((es.map (·.Entity) ++ (an.take 0).map (·.Promise)).flatMap vsInt)) := by
        unfold Hid
        have h := HO.out
        rw [List.take_length] at h
        rwa [List.take_zero, List.map_nil, List.append_nil]
      have HK1 := Lib.hid (HK0.out.below HB.out)
      obtain ⟨kb, kf⟩ := HK1.out.rules
      have hbl := HK1.out.lt
      have n6 := ((HB1.out.trans (HB.out.mono hwz1)).cell (p := ⟨(ad.add (k * 7)).block, (ad.add (k * 7)).off + 6, none⟩) hab').trans HK6.out
      have hn6 : (ad.add (k * 7)).block < wr.heap.size := by omega
      have HBR := Lib.hid HB.out
      clear HO HB hlo
      go_wp2
      obtain ⟨wm, hwm⟩ : ∃ q, q = wr := ⟨_, rfl⟩
      go_loopw [6, 45] (fun s t wr => ∃ (i : Nat) (A' : Option Addr) (c' : Nat), i ≤ an.length ∧ t = .int .i64 i ∧ s = .slice A' (es.length + i) c' ∧ Hid (wr.ownsRow w1.heap.size 3 1 (.slice A' (es.length + i) c') (es.length + i) ((es.map (·.Entity) ++ (an.take i).map (·.Promise)).flatMap vsInt)) ∧ Hid (Below w1.heap.size w1 wr)) (fun s t wr => an.length - (intOf t).toNat)
      case atStart => exact ⟨0, _, _, by omega, rfl, rfl, HO1, HBR⟩
      case round =>
        clear kb kf hbl n6 hn6 HK1 hws HO1 HBR hwm wm
        obtain ⟨i, A', c', hi', rfl, rfl, HO, HB⟩ := hrel
        have hlo := HO.out.lt
        have hws := HB.out.size
        by_cases hlt : i < an.length
        · obtain ⟨z, hz1⟩ : ∃ z, an[i]? = some z := ⟨an[i], List.getElem?_eq_getElem hlt⟩
          obtain ⟨aq, rfl, haq, r0, r1⟩ := row_eQuestion (HX6.out.below (HB1.out.trans (HB.out.mono hwz1))) hz1
          have haq' : (aq.add (i * 2)).block < wr.heap.size := by rw [block_of_add]; exact haq
          have HS := Lib.hid (STEP2.out i z hz1)
          clear hz1
          go_wp2_with (at_builtin; refine wpList_append_rd rfl _ _ 29 rfl w1.heap.size 3 _ _ 1 8 Tryz.underlying29 rfl rfl rfl rfl rfl (by omega) _ (es.length + i) _ rfl ((HO.out.alloc _).alloc _) vals_eInt [z.Promise] (one_eInt _) (lenv_eInt _) _ _ rfl (rdW_one' vals_eInt (w := wr.alloc _) z.Promise 3 (by simp)) (by simp; omega) (by omega) (by have := HB.out.size; simp; omega) ?_)
          intro A'' c'' w2 hown hgrow
          have HB2 := Lib.hid (((HB.out.alloc HB.out.size _).alloc (by have := HB.out.size; (try simp only [size_alloc]); omega) _).trans (grown_below hgrow (by have := HB.out.size; simp; omega) (fun k hk => by have := (hlo k hk).1; omega)))
          have HO2 : Hid (w2.ownsRow w1.heap.size 3 1 (.slice A'' (es.length + (i + 1)) c'') (es.length + (i + 1)) ((es.map (·.Entity) ++ (an.take (i + 1)).map (·.Promise)).flatMap vsInt)) := by
            unfold Hid; rw [HS.out, ← Nat.add_assoc, List.flatMap_append]; simpa only [List.map_take, List.flatMap_cons, List.flatMap_nil, List.append_nil, List.append_assoc] using hown
          clear hown hgrow
          go_wp2
          go_roundw
          case rel => exact ⟨i + 1, A'', c'', by omega, by go_num, rfl, HO2, HB2⟩
          case measure => simp [intOf]; omega
        · have : i = an.length := by omega
          subst this
          obtain ⟨ns, hns⟩ : ∃ q, q = linkNums y := ⟨_, rfl⟩
          have hnl : es.length + an.length = ns.length := by rw [hns, HNS.out]; simp
          have HL : Hid (RdW wr (.s ns.length (ns.flatMap eInt)) (.slice A' ns.length c')) := by
            have h := HO.out
            rw [List.take_length, ← HNS.out, ← hns, hnl] at h
            exact ownsRow_rdw vals_eInt h (by omega)
          rw [← hns] at HQ2
          rw [hnl]
          have HK1 := Lib.hid (HK0.out.below HB.out)
          have HRX := Lib.hid (HRR.out.below (HB1.out.trans (HB.out.mono hwz1)))
          have HBW := Lib.hid (HB1.out.trans (HB.out.mono hwz1))
          have hnsz : ns.length ≤ 1048576 := by omega
          have hwm : w.heap.size < wr.heap.size := by omega
          clear HO HB hlo HNS STEP1 STEP2 HX2 HX6 HK6 hns hnl hlt hi'
          have HFIN : Hid (∀ (ks : List Nat), (∀ k, k ∈ ks → k < x.Entities.length) → Go.Lib.compact ((ks.map fun k : Nat => (k : Int)).mergeSort fun x y => decide (x ≤ y)) = setN ks x.Entities.length) := fun ks h => compact_sort h
          have STEP : Hid (∀ (i : Nat) (n0 : Int), ns[i]? = some n0 → reachL x (ns.take (i + 1)) = reachL x (ns.take i) ++ (match reachAt x n0 with | some k => [k] | none => [])) := by
            unfold Hid
            intro i n0 h
            have e := reachL_snoc x (ns.take i) n0
            rw [List.take_add_one, h]
            refine Eq.trans e ?_
            cases reachAt x n0 <;> rfl
          obtain ⟨w3, rfl⟩ : ∃ q, q = wr := ⟨wr, rfl⟩
          go_wp2
          go_loopw [11, 58] (fun s t wr => ∃ (i n : Nat) (A5 : Option Addr) (c5 : Nat), i ≤ ns.length ∧ n ≤ i ∧ t = .int .i64 i ∧ s = .slice A5 n c5 ∧ A5 ≠ none ∧ Hid (n = ((reachL x (ns.take i)).map fun k : Nat => (k : Int)).length) ∧ Hid (wr.ownsRow w3.heap.size 3 1 (.slice A5 n c5) n (((reachL x (ns.take i)).map fun k : Nat => (k : Int)).flatMap vsInt)) ∧ Hid (Below w3.heap.size w3 wr)) (fun s t wr => ns.length - (intOf t).toNat)
          case atStart => exact ⟨0, 0, _, _, by omega, by omega, rfl, rfl, by simp, rfl, ownsRow_made' (by simp) (by simp), (Below.refl _ _).alloc (Nat.le_refl _) _⟩
          case round =>
            obtain ⟨i, n, A5, c5, hi', hni, rfl, rfl, hA5, HN, HO, HB⟩ := hrel
            have hlo := HO.out.lt
            have hws := HB.out.size
            have HK5 := Lib.hid (HK1.out.below HB.out)
            obtain ⟨kb, kf⟩ := HK5.out.rules
            have hbl := HK5.out.lt
            by_cases hlt : i < ns.length
            · obtain ⟨n0, hn0⟩ : ∃ z, ns[i]? = some z := ⟨ns[i], List.getElem?_eq_getElem hlt⟩
              obtain ⟨aq, rfl, haq, r0⟩ := row_eInt (HL.out.below HB.out) hn0
              have haq' : (aq.add i).block < wr.heap.size := by rw [block_of_add]; exact haq
              have HS := Lib.hid (STEP.out i n0 hn0)
              clear hn0
              go_wp2_with fail
              refine (impl_RefValue_calls n0 _).mono ?_
              rintro e w4 ⟨rfl, hb⟩
              replace HB := Lib.hid (HB.out.trans (hb.mono HB.out.size))
              replace HK5 := Lib.hid (HK5.out.below hb)
              replace HO := Lib.hid (ownsRow_below HO.out hb)
              clear hb kb kf hbl r0 haq' haq
              have HRX4 := Lib.hid (HRX.out.below HB.out)
              obtain ⟨kb, kf⟩ := HK5.out.rules
              have hbl := HK5.out.lt
              go_wp2_with fail
              refine (impl_Vat_look_calls w.heap.size _ x ⟨1, n0⟩ _ HK5.out HRX4.out hz).mono ?_
              rintro e w5 ⟨rfl, hb⟩
              replace HB := Lib.hid (HB.out.trans (hb.mono HB.out.size))
              replace HK5 := Lib.hid (HK5.out.below hb)
              replace HO := Lib.hid (ownsRow_below HO.out hb)
              clear hb kb kf hbl HRX4
              obtain ⟨kb, kf⟩ := HK5.out.rules
              have hbl := HK5.out.lt
              have hlo := HO.out.lt
              have hws5 := HB.out.size
              obtain ⟨zv, hzv⟩ : ∃ q, q = lookOf x ⟨1, n0⟩ := ⟨_, rfl⟩
              rw [← hzv]
              obtain ⟨zk, zn⟩ := zv
              dsimp only
              have HZV := Lib.hid hzv
              clear hzv
              have HXB := Lib.hid (Blk.new w5 53 #[.int .i64 zk, .int .i64 zn])
              have HB6 := Lib.hid (HB.out.alloc HB.out.size (.cells #[.int .i64 zk, .int .i64 zn] 53))
              have HO6 := Lib.hid (HO.out.alloc (.cells #[.int .i64 zk, .int .i64 zn] 53))
              by_cases hk1 : ¬ zk = 1
              · have hf : reachL x (ns.take (i + 1)) = reachL x (ns.take i) := by
                  rw [HS.out, reachAt_kind (by rw [← HZV.out]; exact hk1), List.append_nil]
                have HF := Lib.hid hf
                clear hf
                go_wp2_with fail
                refine (impl_Vat_refers_no w.heap.size zk zn _ hk1).mono ?_
                rintro e w6 ⟨rfl, hb⟩
                replace HB6 := Lib.hid (HB6.out.trans (hb.mono HB6.out.size))
                replace HO6 := Lib.hid (ownsRow_below HO6.out hb)
                clear hb
                go_wp2
                go_roundw
                case rel => exact ⟨i + 1, n, A5, c5, by omega, by omega, by go_num, rfl, hA5, by unfold Hid; rw [HF.out]; exact HN.out, by unfold Hid; rw [HF.out]; exact HO6.out, HB6.out⟩
                case measure => simp [intOf]; omega
              replace hk1 := Classical.not_not.1 hk1
              subst hk1
              by_cases hin : ¬ (0 ≤ zn ∧ zn ≤ (x.Entities.length : Int) - 1)
              · have hf : reachL x (ns.take (i + 1)) = reachL x (ns.take i) := by
                  rw [HS.out, reachAt_out (by rw [← HZV.out]; exact hin), List.append_nil]
                have HF := Lib.hid hf
                clear hf
                have HC := Lib.hid (impl_Vat_refers_none w.heap.size A1 x.Entities.length c1 x.Id (.slice A2 x.Loop.length c2) (.slice (some ad) x.Links.length c3) (.slice A4 x.Out.length c4) zn (w5.alloc (.cells #[.int .i64 1, .int .i64 zn] 53)) (HK5.out.alloc _) hle hin)
                clear hin
                go_wp2_with fail
                refine HC.out.mono ?_
                rintro e w6 ⟨rfl, hb⟩
                replace HB6 := Lib.hid (HB6.out.trans (hb.mono HB6.out.size))
                replace HO6 := Lib.hid (ownsRow_below HO6.out hb)
                clear hb
                go_wp2
                go_roundw
                case rel => exact ⟨i + 1, n, A5, c5, by omega, by omega, by go_num, rfl, hA5, by unfold Hid; rw [HF.out]; exact HN.out, by unfold Hid; rw [HF.out]; exact HO6.out, HB6.out⟩
                case measure => simp [intOf]; omega
              replace hin := Classical.not_not.1 hin
              obtain ⟨m, hm⟩ : ∃ m : Nat, zn = m := ⟨zn.toNat, by omega⟩
              subst hm
              have hml : m < x.Entities.length := by omega
              have hf : reachL x (ns.take (i + 1)) = reachL x (ns.take i) ++ [m] := by
                rw [HS.out, reachAt_yes (i := m) (by rw [← HZV.out]) (by rw [← HZV.out]) hml]
              have HF := Lib.hid hf
              clear hf hin
              obtain ⟨ye, hye⟩ : ∃ z, x.Entities[m]? = some z := ⟨x.Entities[m], List.getElem?_eq_getElem hml⟩
              obtain ⟨q1, _, _, _, hq1, _⟩ := row_eEntity HE.out hye
              subst hq1
              clear hye
              have HC := Lib.hid (impl_Vat_refers_some w.heap.size q1 x.Entities.length c1 x.Id (.slice A2 x.Loop.length c2) (.slice (some ad) x.Links.length c3) (.slice A4 x.Out.length c4) m (w5.alloc (.cells #[.int .i64 1, .int .i64 (m : Int)] 53)) (HK5.out.alloc _) hle hml)
              go_wp2_with fail
              refine HC.out.mono ?_
              rintro e w6 ⟨rfl, hb⟩
              replace HB6 := Lib.hid (HB6.out.trans (hb.mono HB6.out.size))
              replace HO6 := Lib.hid (ownsRow_below HO6.out hb)
              replace HXB := Lib.hid (HXB.out.below hb)
              clear hb kb kf hbl hlo HC
              obtain ⟨kx, fx⟩ := HXB.out.rules
              have hxl := HXB.out.lt
              have hlo := HO6.out.lt
              have hws6 := HB6.out.size
              go_wp2_with (at_builtin; refine wpList_append_rd rfl _ _ 29 rfl w3.heap.size 3 _ _ 1 8 Tryz.underlying29 rfl rfl rfl rfl rfl (by omega) _ n _ rfl (HO6.out.alloc _) vals_eInt [(m : Int)] (one_eInt _) (lenv_eInt _) _ _ rfl (rdW_one vals_eInt w6 (m : Int) 3) (by simp; omega) (by omega) (by simp; omega) ?_)
              intro A'' c'' w7 hown hgrow
              have HB7 := Lib.hid ((HB6.out.alloc HB6.out.size _).trans (grown_below hgrow (by simp; omega) (fun k hk => by have := (hlo k hk).1; omega)))
              have HO7 : Hid (w7.ownsRow w3.heap.size 3 1 (.slice A'' (n + 1) c'') (n + 1) (((reachL x (ns.take (i + 1))).map fun k : Nat => (k : Int)).flatMap vsInt)) := by
                unfold Hid; rw [HF.out, List.map_append, List.flatMap_append]; exact hown
              have hA7 : A'' ≠ none := by
                intro h
                rcases hown.2 with ⟨h0, _⟩ | ⟨_, _, _, h0, _⟩
                · injection h0 with _ h0 _; omega
                · rw [h] at h0; cases h0
              clear hown hgrow
              go_wp2
              go_roundw
              case rel => exact ⟨i + 1, n + 1, A'', c'', by omega, by omega, by go_num, rfl, hA7, by unfold Hid; rw [HF.out, List.map_append, List.length_append, ← HN.out]; rfl, HO7, HB7⟩
              case measure => simp [intOf]; omega
            · have : i = ns.length := by omega
              subst this
              have HZS : Hid (∃ zs : List Int, zs = (reachL x ns).map (fun k : Nat => (k : Int)) ∧ zs.length = n ∧ wr.ownsRow w3.heap.size 3 1 (.slice A5 n c5) n (zs.flatMap vsInt)) := by
                have h1 := HO.out
                have h2 := HN.out
                rw [List.take_length] at h1 h2
                exact ⟨_, rfl, h2.symm, h1⟩
              obtain ⟨zs, hzs, hzl, hzo⟩ := HZS.out
              obtain ⟨g, hg, hgb⟩ : ∃ g, A5 = some ⟨g, 0, none⟩ ∧ w3.heap.size ≤ g := by
                rcases hzo.2 with ⟨h0, _⟩ | ⟨g, _, _, h0, hgb, _⟩
                · injection h0 with h0 _ _; exact absurd h0 hA5
                · injection h0 with h0 _ _; exact ⟨g, h0, hgb⟩
              subst hg
              have HZO := Lib.hid hzo
              have HCS := Lib.hid (compact_sort (ks := reachL x ns) (n := x.Entities.length) (fun k h => reachL_lt h))
              rw [← hzs] at HCS
              have hzb : zs.length ≤ 1048576 := by omega
              obtain ⟨ts, hts⟩ : ∃ q, q = zs.mergeSort fun x y => decide (x ≤ y) := ⟨_, rfl⟩
              rw [← hts] at HCS
              have htl : ts.length = n := by rw [hts, List.length_mergeSort]; exact hzl
              have HTS := Lib.hid hts
              clear hzs hzo hts HZS HO HN hlo
              go_wp2_with fail
              refine (sort_ints_n w3.heap.size g c5 n zs _ 3 hzl HZO.out hzb).mono ?_
              rintro e w6 ⟨rfl, ho, hg⟩
              rw [← HTS.out] at ho
              have HB6 := Lib.hid (HB.out.trans (grown_below hg HB.out.size (fun k hk => by cases hk; exact hgb)))
              have HO6 := Lib.hid ho
              clear ho hg
              go_wp2_with fail
              refine (compact_ints_n w3.heap.size g c5 n ts _ 3 htl HO6.out (by omega)).mono ?_
              rintro e w7 ⟨rfl, ho, hg⟩
              have HB7 := Lib.hid (HB6.out.trans (grown_below hg HB6.out.size (fun k hk => by cases hk; exact hgb)))
              rw [HCS.out, ← HQ2.out] at ho
              have HO7 := Lib.hid ho
              clear ho hg
              have hcl := canReach_len x a
              rw [HCS.out, ← HQ2.out]
              go_wp2
              go_ret
              obtain ⟨fp, ho', hn', hge'⟩ := ownRow_own vals_eInt HO7.out (by omega)
              exact ⟨_, fp, rfl, ho', ⟨hn', fun g hg => by have := hge' g hg; omega⟩, HBW.out.trans (HB7.out.mono (by omega))⟩

end Go.Proofs.YtmnpoajdibmocaaGreat
