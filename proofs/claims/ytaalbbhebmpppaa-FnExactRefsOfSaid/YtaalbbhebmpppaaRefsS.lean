import Derived.Test.YtaalbbhebmpppaaProg
import Derived.Test.YtaalbbhebmpppaaTypes
import Derived.StillTailTactics
import Derived.Deep.AppendLies
import Derived.Deep.RegionHeld3
import Derived.Laws.IdiomStrings
import Derived.Test.YtaalbbhebmpppaaAppend
import Derived.Laws.StructEq
import Derived.Lib.SliceRun
import Derived.Shelf.RegionOpenPlain
import Derived.Test.YtaalbbhebmpppaaRefs
namespace Go.Proofs.Ytaalbbhebmpppaa
open Go.RowKit
set_option linter.unusedVariables false
set_option linter.unusedSimpArgs false

set_option maxHeartbeats 1600000 in
set_option maxRecDepth 100000 in
theorem spec_l19Ref_row (W0 : World) (v : Value) (l : List Int) (x : GValue) (w : World) (HB0 : Below W0.heap.size W0 w) (ho : w.ownsRow W0.heap.size 3 1 v l.length (l.flatMap vsInt)) (hl : l.length ≤ 8388608) :
    Calls Try.prog 30 #[v, .agg #[.int .i64 x.Kind, .int .i64 x.N]] w fun e w' => ∃ A' c', e = .returned (.slice A' (l ++ refOne x).length c') ∧ w'.ownsRow W0.heap.size 3 1 (.slice A' (l ++ refOne x).length c') (l ++ refOne x).length ((l ++ refOne x).flatMap vsInt) ∧ Below W0.heap.size W0 w' := by
  obtain ⟨A, c, rfl⟩ := ownsRow_sl ho
  have HO := Lib.hid ho
  have HB := Lib.hid HB0
  have hlo := ho.lt
  have zr := HB0.size
  clear ho HB0
  by_cases hk : x.Kind = 1
  · have HS : Hid (refOne x = [x.N]) := by unfold Hid refOne; rw [if_pos hk]
    go_enter Try.func30, Try.ntmps30
    go_wp2_with (at_builtin; refine wpList_append_rd rfl _ _ 30 rfl (W0.heap.size) 3 _ _ 1 8 Try.underlying30 rfl rfl rfl rfl rfl (by omega) _ l.length _ rfl ((HO.out.alloc _).alloc _) vals_eInt [x.N] (one_eInt _) (lenv_eInt _) _ _ rfl (rdW_one' vals_eInt (w := w.alloc _) x.N 3 (by simp)) (by simp; omega) (by omega) (by simp; omega) ?_)
    intro A2 c2 w4 hown hgrow
    have HB4 := Lib.hid (((HB.out.alloc zr _).alloc (by simp; omega) _).trans (grown_below hgrow (by simp; omega) (fun k hk => (hlo k hk).1)))
    have HO4 := Lib.hid hown
    clear hown hgrow
    go_wp2
    go_ret
    rw [HS.out, List.length_append, List.flatMap_append]
    exact ⟨A2, c2, rfl, HO4.out, HB4.out⟩
  · have HS : Hid (refOne x = []) := by unfold Hid refOne; rw [if_neg hk]
    go_enter Try.func30, Try.ntmps30
    go_wp2
    go_ret
    rw [HS.out, List.append_nil]
    exact ⟨A, c, rfl, HO.out.alloc _, HB.out.alloc zr _⟩
set_option maxHeartbeats 3200000 in
set_option maxRecDepth 100000 in
theorem spec_l19Sents_row (W0 : World) (v : Value) (l : List Int) (v2 : Value) (qs : List GSent) (w : World) (HB0 : Below W0.heap.size W0 w) (ho : w.ownsRow W0.heap.size 3 1 v l.length (l.flatMap vsInt)) (hr : RdW W0 (.s qs.length (qs.flatMap eSent)) v2) (hl : l.length ≤ 2097152) (hz : qs.length + sizL (qs.flatMap eSent) ≤ 1048576) :
    Calls Try.prog 31 #[v, v2] w fun e w' => ∃ A' c', e = .returned (.slice A' (l ++ qs.flatMap refSent).length c') ∧ w'.ownsRow W0.heap.size 3 1 (.slice A' (l ++ qs.flatMap refSent).length c') (l ++ qs.flatMap refSent).length ((l ++ qs.flatMap refSent).flatMap vsInt) ∧ Below W0.heap.size W0 w' := by
  obtain ⟨A, c, rfl⟩ := ownsRow_sl ho
  obtain ⟨A6, c6, rfl, ⟨_, _, hl6⟩⟩ := hr.slice
  have HO := Lib.hid ho
  have HR := Lib.hid hr
  have HB := Lib.hid HB0
  have HZ := Lib.hid hz
  have hql : qs.length ≤ 1048576 := by omega
  clear ho hr HB0 hz
  go_enter Try.func31, Try.ntmps31
  go_wp2
  go_loopw [0, 5] (fun a b wr => ∃ (i : Nat) (cur : List Int) (A' : Option Addr) (c' : Nat), i ≤ qs.length ∧ cur.length ≤ 4194304 ∧ a = .slice A' cur.length c' ∧ b = .int .i64 i ∧ Hid (cur = l ++ (qs.take i).flatMap refSent) ∧ Hid (wr.ownsRow W0.heap.size 3 1 (.slice A' cur.length c') cur.length (cur.flatMap vsInt)) ∧ Hid (Below W0.heap.size W0 wr)) (fun a b wr => qs.length - (intOf b).toNat)
  case atStart => exact ⟨0, l, A, c, by omega, by omega, rfl, rfl, by simp [Hid], HO, HB⟩
  case round =>
    obtain ⟨i, cur, A', c', hi, hcl, rfl, rfl, HCU, HOR, HBR⟩ := hrel
    obtain ⟨wo, hwo⟩ : ∃ q, q = wr := ⟨_, rfl⟩
    rw [← hwo] at HOR HBR
    rw [← hwo]
    clear hwo
    by_cases hlt : i < qs.length
    · obtain ⟨y, hy⟩ : ∃ y, qs[i]? = some y := ⟨qs[i], List.getElem?_eq_getElem hlt⟩
      obtain ⟨ad, v3, rfl, hab0, h0, h1, h2, h3, h4, h5, h6, q3⟩ := row_eSent HR.out hy
      have habw : (ad.add (i * 7)).block < W0.heap.size := by rw [block_of_add]; exact hab0
      obtain ⟨A3, c3, rfl, -⟩ := q3.slice
      have HQ3 := Lib.hid q3
      have zr := HBR.out.size
      have hab' : (ad.add (i * 7)).block < wo.heap.size := by omega
      have HC0 := Lib.hid h0
      have HC2 := Lib.hid h2
      have HC3 := Lib.hid h3
      replace h0 := cell_below HBR.out h0 habw
      replace h2 := cell_below HBR.out h2 habw
      replace h3 := cell_below HBR.out h3 habw
      have HS := Lib.hid (refQ_step hy)
      have hya : y.Args.length + 2 + cur.length ≤ 6291456 := by
        have h1 := sizL_flat_le eSent qs y (List.mem_of_getElem? hy)
        have h2 := HZ.out
        rw [siz_eSent] at h1; omega
      have hnext : (l ++ (qs.take (i + 1)).flatMap refSent).length ≤ 4194304 := by
        have h1 := refQ_take qs (i + 1) (by omega)
        have h2 := HZ.out
        rw [List.length_append]; omega
      have hlo := HOR.out.lt
      clear hy q3 h1 h4 h5 h6 hab0
      go_wp2
      go_region_held3 (fun wq => wq.cell? (ad.add (i * 7)) = some (.int .i64 y.Target) ∧ wq.cell? ⟨(ad.add (i * 7)).block, (ad.add (i * 7)).off + 3, none⟩ = some (.int .i64 y.Result))
        (first | exact ⟨h0, h3⟩ | exact ⟨cell_alloc_keep h0, cell_alloc_keep h3⟩ | exact ⟨cell_grown hgrow (cell_alloc_keep h0) (fun k hk e => by have := (hlo k hk).1; have e' : k = (ad.add (i * 7)).block := e; omega), cell_grown hgrow (cell_alloc_keep h3) (fun k hk e => by have := (hlo k hk).1; have e' : k = (ad.add (i * 7)).block := e; omega)⟩)
        ((refine step_append_lies _ (by rfl) _ _ _ (by rfl) W0.heap.size 3 _ _ 1 8 Try.underlying30 rfl rfl rfl rfl rfl (by omega) _ cur.length _ (by rfl) ((HOR.out.alloc _).drew) ⟨wo.heap.size, 0, none⟩ 2 2 [.int .i64 y.Target, .int .i64 y.Result] (by rfl) (by rfl) (World.news_of_block (cs := #[.int .i64 y.Target, .int .i64 y.Result]) (t := 3) (fr := (0, 0)) (heap_alloc_new wo _)) (by simp [Value.oneCell']) (by omega) (by have h := (by decide : maxLen = 9223372036854775807); omega) (by omega) (by simp; omega) (wo.heap.size + 1) (by simp) ?_; intro gg cap w2 hown hgrow hat hlt2))
      have HB2 := Lib.hid ((HBR.out.alloc zr _).drew.trans (grown_below hgrow (by simp; omega) (fun k hk => (hlo k hk).1)))
      obtain ⟨cur2, hcur2⟩ : ∃ q, q = cur ++ [y.Target, y.Result] := ⟨_, rfl⟩
      have hc2l : cur2.length = cur.length + 2 := by rw [hcur2, List.length_append]; rfl
      have HO2 : Hid (w2.ownsRow W0.heap.size 3 1 (.slice (some ⟨gg, 0, none⟩) cur2.length cap) cur2.length (cur2.flatMap vsInt)) := by
        unfold Hid; rw [hc2l, hcur2, List.flatMap_append]; exact hown
      have HCU2 := Lib.hid hcur2
      rw [← hc2l]
      have z2 := HB2.out.size
      have hc2b : cur2.length + y.Args.length ≤ 6291456 := by omega
      clear hown hgrow hat hlt2 hcur2 hc2l h0 h2 h3 hlo
      go_wp2
      go_loopw [0, 6] (fun a b wr => ∃ (k : Nat) (cu : List Int) (A4 : Option Addr) (c4 : Nat), k ≤ y.Args.length ∧ cu.length ≤ cur2.length + k ∧ a = .slice A4 cu.length c4 ∧ b = .int .i64 k ∧ Hid (cu = cur2 ++ refVals (y.Args.take k)) ∧ Hid (wr.ownsRow W0.heap.size 3 1 (.slice A4 cu.length c4) cu.length (cu.flatMap vsInt)) ∧ Hid (Below W0.heap.size W0 wr)) (fun a b wr => y.Args.length - (intOf b).toNat)
      case atStart => exact ⟨0, cur2, _, _, by omega, by omega, rfl, rfl, by simp [Hid, refVals], HO2, HB2⟩
      case round =>
        obtain ⟨k, cu, A4, c4, hk, hcul, rfl, rfl, HK, HOK, HBK⟩ := hrel
        have h2 := cell_below HBK.out HC2.out habw
        have zk := HBK.out.size
        have habk : (ad.add (i * 7)).block < wr.heap.size := by omega
        by_cases hkl : k < y.Args.length
        · obtain ⟨x, hx⟩ : ∃ x, y.Args[k]? = some x := ⟨y.Args[k], List.getElem?_eq_getElem hkl⟩
          obtain ⟨ad3, rfl, hab3, g0, g1⟩ := row_eValue (HQ3.out.below HBK.out) hx
          have hab3' : (ad3.add (k * 2)).block < wr.heap.size := by rw [block_of_add]; exact hab3
          have HSV := Lib.hid (refVals_step hx)
          have HC := Lib.hid (spec_l19Ref_row W0 (.slice A4 cu.length c4) cu x wr HBK.out HOK.out (by omega))
          have hone : (refOne x).length ≤ 1 := by unfold refOne; split <;> simp
          clear hx
          go_wp2_with fail
          refine HC.out.mono ?_
          rintro e w5 ⟨A5, c5, rfl, ho5, hb5⟩
          obtain ⟨cu5, hcu5⟩ : ∃ q, q = cu ++ refOne x := ⟨_, rfl⟩
          have hc5l : cu5.length ≤ cur2.length + (k + 1) := by rw [hcu5, List.length_append]; omega
          rw [← hcu5] at ho5
          rw [← hcu5]
          have HO5 := Lib.hid ho5
          have HB5 := Lib.hid hb5
          have HK5 : Hid (cu5 = cur2 ++ refVals (y.Args.take (k + 1))) := by unfold Hid; rw [hcu5, HSV.out, HK.out, List.append_assoc]
          clear ho5 hb5 hcu5
          go_wp2
          go_roundw
          case rel => exact ⟨k + 1, cu5, A5, c5, by omega, hc5l, rfl, by go_num, HK5, HO5, HB5⟩
          case measure => simp [intOf]; omega
        · have : k = y.Args.length := by omega
          subst this
          have HCF : Hid (cu = l ++ (qs.take (i + 1)).flatMap refSent) := by
            unfold Hid
            rw [HK.out, HCU2.out, HCU.out, HS.out, List.take_length]
            unfold refSent
            simp only [List.append_assoc]
          have hcf : cu.length ≤ 4194304 := by rw [HCF.out]; exact hnext
          go_wp2
          go_roundw
          case rel => exact ⟨i + 1, cu, A4, c4, by omega, hcf, rfl, by go_num, HCF, HOK, HBK⟩
          case measure => simp [intOf]; omega
    · have : i = qs.length := by omega
      subst this
      go_wp2
      go_ret
      have hC := HCU.out
      rw [List.take_length] at hC
      subst hC
      exact ⟨A', c', rfl, HOR.out, HBR.out⟩
set_option maxHeartbeats 3200000 in
set_option maxRecDepth 100000 in
theorem spec_RefsOf_calls (us : List Value) (x : GEntity) (w : World) (hr : RdLW w (eEntity x) us) (hz : sizL (eEntity x) ≤ 1048576) :
    Calls Try.prog 6 #[.agg us.toArray] w fun e w' => ∃ v', e = .returned v' ∧ RdW w' (.s (refsOf x).length ((refsOf x).flatMap eInt)) v' ∧ Below w.heap.size w w' := by
  have hlen := Lib.hid (refsOf_len x hz)
  have hzq := hz
  rw [siz_eEntity] at hzq
  obtain ⟨v2, v6, v7, rfl, h2, h6, h7⟩ := rd_eEntity hr
  obtain ⟨A2, c2, rfl, ⟨_, _, hl2⟩⟩ := h2.slice
  obtain ⟨A6, c6, rfl, ⟨_, _, hl6⟩⟩ := h6.slice
  have HR2w := Lib.hid h2
  have HR6w := Lib.hid h6
  clear hr h2 h6 h7
  go_enter Try.func6, Try.ntmps6
  go_wp2
  obtain ⟨w0, hw0⟩ : ∃ q, q = w.alloc (.cells #[.int .i64 x.Kind, .int .i64 x.Script, .slice A2 x.Slots.length c2, .int .i64 x.State, .int .i64 x.Value.Kind, .int .i64 x.Value.N, .slice A6 x.Queue.length c6, v7, .int .i64 x.Peer, .int .i64 x.Pos, .int .i64 x.Count, .int .i64 x.Sent] 37) := ⟨_, rfl⟩
  have HK0 : Hid (Blk w0 w.heap.size 37 #[.int .i64 x.Kind, .int .i64 x.Script, .slice A2 x.Slots.length c2, .int .i64 x.State, .int .i64 x.Value.Kind, .int .i64 x.Value.N, .slice A6 x.Queue.length c6, v7, .int .i64 x.Peer, .int .i64 x.Pos, .int .i64 x.Count, .int .i64 x.Sent]) := by unfold Hid; rw [hw0]; exact Blk.new w _ _
  have HBw : Hid (Below w.heap.size w w0) := by unfold Hid; rw [hw0]; exact (Below.refl _ _).alloc (Nat.le_refl _) _
  have zw : w0.heap.size ≤ w.heap.size + 1 := by rw [hw0]; simp
  have zw' : w.heap.size + 1 ≤ w0.heap.size := by rw [hw0]; simp
  have HO0 : Hid ((w0.alloc (.cells #[] 3)).ownsRow w0.heap.size 3 1 (.slice (some ⟨w.heap.size + 1, 0, none⟩) 0 0) 0 []) := ownsRow_made' (by omega) (Nat.le_refl _)
  rw [← hw0]
  clear hw0
  have HR2 := Lib.hid (HR2w.out.below HBw.out)
  have HR6 := Lib.hid (HR6w.out.below HBw.out)
  go_loopw [3, 4] (fun a b wr => ∃ (i : Nat) (cur : List Int) (A' : Option Addr) (c' : Nat), i ≤ x.Slots.length ∧ cur.length ≤ i ∧ a = .slice A' cur.length c' ∧ b = .int .i64 i ∧ Hid (cur = refVals (x.Slots.take i)) ∧ Hid (wr.ownsRow w0.heap.size 3 1 (.slice A' cur.length c') cur.length (cur.flatMap vsInt)) ∧ Hid (Below w0.heap.size w0 wr)) (fun a b wr => x.Slots.length - (intOf b).toNat)
  case atStart => exact ⟨0, [], _, _, by omega, by simp, rfl, rfl, rfl, HO0, (Below.refl _ _).alloc (Nat.le_refl _) _⟩
  case round =>
    obtain ⟨i, cur, A', c', hi, hcl, rfl, rfl, HCU, HOR, HBR⟩ := hrel
    have HK := Lib.hid (HK0.out.below HBR.out)
    obtain ⟨k0, j0⟩ := HK.out.rules
    have l0 := HK.out.lt
    by_cases hlt : i < x.Slots.length
    · obtain ⟨y, hy⟩ : ∃ y, x.Slots[i]? = some y := ⟨x.Slots[i], List.getElem?_eq_getElem hlt⟩
      obtain ⟨ad, rfl, hab, g0, g1⟩ := row_eValue (HR2.out.below HBR.out) hy
      have hab' : (ad.add (i * 2)).block < wr.heap.size := by rw [block_of_add]; exact hab
      have HSV := Lib.hid (refVals_step hy)
      have HC := Lib.hid (spec_l19Ref_row w0 (.slice A' cur.length c') cur y wr HBR.out HOR.out (by omega))
      have hone : (refOne y).length ≤ 1 := by unfold refOne; split <;> simp
      clear hy
      go_wp2_with fail
      refine HC.out.mono ?_
      rintro e w5 ⟨A5, c5, rfl, ho5, hb5⟩
      obtain ⟨cu5, hcu5⟩ : ∃ q, q = cur ++ refOne y := ⟨_, rfl⟩
      have hc5l : cu5.length ≤ i + 1 := by rw [hcu5, List.length_append]; omega
      rw [← hcu5] at ho5
      rw [← hcu5]
      have HO5 := Lib.hid ho5
      have HB5 := Lib.hid hb5
      have HK5 : Hid (cu5 = refVals (x.Slots.take (i + 1))) := by unfold Hid; rw [hcu5, HSV.out, HCU.out]
      clear ho5 hb5 hcu5 k0 j0
      go_wp2
      go_roundw
      case rel => exact ⟨i + 1, cu5, A5, c5, by omega, hc5l, rfl, by go_num, HK5, HO5, HB5⟩
      case measure => simp [intOf]; omega
    · have : i = x.Slots.length := by omega
      subst this
      have HC := Lib.hid (spec_l19Ref_row w0 (.slice A' cur.length c') cur x.Value wr HBR.out HOR.out (by omega))
      have hone : (refOne x.Value).length ≤ 1 := by unfold refOne; split <;> simp
      go_wp2_with fail
      refine HC.out.mono ?_
      rintro e w5 ⟨A5, c5, rfl, ho5, hb5⟩
      obtain ⟨cu5, hcu5⟩ : ∃ q, q = cur ++ refOne x.Value := ⟨_, rfl⟩
      have hc5l : cu5.length ≤ 1048577 := by rw [hcu5, List.length_append]; omega
      rw [← hcu5] at ho5
      rw [← hcu5]
      have HCU5 : Hid (cu5 = refVals x.Slots ++ refVals [x.Value]) := by
        have h := HCU.out
        rw [List.take_length] at h
        unfold Hid; rw [hcu5, refVals_one, h]
      have HO5 := Lib.hid ho5
      have HB5 := Lib.hid hb5
      have HK5 := Lib.hid (HK0.out.below hb5)
      clear ho5 hb5 hcu5 k0 j0 l0
      obtain ⟨k0, j0⟩ := HK5.out.rules
      have l0 := HK5.out.lt
      have HC2 := Lib.hid (spec_l19Sents_row w0 (.slice A5 cu5.length c5) cu5 (.slice A6 x.Queue.length c6) x.Queue w5 HB5.out HO5.out HR6.out (by omega) (by omega))
      go_wp2_with fail
      refine HC2.out.mono ?_
      rintro e w6 ⟨A6', c6', rfl, ho6, hb6⟩
      have hE : cu5 ++ x.Queue.flatMap refSent = refsOf x := by rw [HCU5.out]; rfl
      obtain ⟨cu6, hcu6⟩ : ∃ q, q = cu5 ++ x.Queue.flatMap refSent := ⟨_, rfl⟩
      rw [← hcu6] at ho6 hE
      rw [← hcu6]
      have HE := Lib.hid hE
      clear hcu6 hE
      have HO6 := Lib.hid ho6
      have HB6 := Lib.hid hb6
      clear ho6 hb6
      go_wp2
      go_ret
      refine ⟨_, rfl, ?_, HBw.out.trans (HB6.out.mono (by omega))⟩
      rw [← HE.out]
      exact ownsRow_rdw vals_eInt HO6.out (by rw [HE.out]; have := hlen.out; omega)
theorem refsOf_cnt (x : GEntity) (h : sizL (eEntity x) ≤ 1048576) : cntL ((refsOf x).flatMap eInt) ≤ 1099511627776 := by
  rw [cntf_eInt]; have := refsOf_len x h; omega

end Go.Proofs.Ytaalbbhebmpppaa
