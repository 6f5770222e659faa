import Derived.Test.YtapbejepffpckaaProg
import Derived.Test.YtapbejepffpckaaTypes
import Derived.StillTailTactics
import Derived.Deep.RegionHeld3
import Derived.Laws.IdiomStrings
import Derived.Test.YtapbejepffpckaaAppend
import Derived.Laws.StructEq
import Derived.Lib.SliceRun
import Derived.Shelf.RegionOpenPlain
import Derived.Test.YtapbejepffpckaaVat
namespace Go.Proofs.Ytapbejepffpckaa
open Go.RowKit
set_option linter.unusedVariables false
set_option linter.unusedSimpArgs false

set_option maxHeartbeats 3200000 in
set_option maxRecDepth 100000 in
theorem spec_ProxiesOf_calls (us : List Value) (x : GVat) (a : Int) (w : World) (hr : RdLW w (eVat x) us) (hz : sizL (eVat x) ≤ 1048576) (hi : I64 a) :
    Calls Try.prog 38 #[.agg us.toArray, .int .i64 a] w fun e w' => ∃ v', e = .returned v' ∧ RdW w' (.s (proxiesOf x a).length ((proxiesOf x a).flatMap eInt)) v' ∧ Below w.heap.size w w' := by
  have hzx := hz
  rw [siz_eVat] at hzx
  obtain ⟨v1, v2, v3, v4, rfl, h1, h2, h3, h4⟩ := rd_eVat hr
  obtain ⟨A, c, rfl, ⟨_, _, hl⟩⟩ := h1.slice
  have HR := Lib.hid h1
  clear hr h1 h2 h3 h4
  have HB0 := Lib.hid ((Below.refl w.heap.size w).alloc (Nat.le_refl _) (.cells #[.int .i64 x.Id, .slice A x.Entities.length c, v2, v3, v4] 35))
  go_enter Try.func38, Try.ntmps38
  go_wp2
  go_loopw [5, 6] (fun s t wr => ∃ (i : Nat) (A' : Option Addr) (n c' : Nat), i ≤ x.Entities.length ∧ t = .int .i64 i ∧ s = .slice A' n c' ∧ n ≤ i ∧ Hid (n = (thatN (proxyB a) x.Entities i).length) ∧ Hid (wr.ownsRow (w.heap.size + 1) 3 1 (.slice A' n c') n ((thatN (proxyB a) x.Entities i).flatMap vsInt)) ∧ Hid (Below w.heap.size w wr) ∧ Hid (Blk wr w.heap.size 35 #[.int .i64 x.Id, .slice A x.Entities.length c, v2, v3, v4])) (fun s t wr => x.Entities.length - (intOf t).toNat)
  case atStart => exact ⟨0, _, _, _, by omega, rfl, rfl, by omega, rfl, ownsRow_made' (by simp) (by simp), HB0.out.alloc (by simp) _, (Blk.new _ _ _).alloc _⟩
  case round =>
    obtain ⟨i, A', n, c', hi', rfl, rfl, hn, HN, HO, HB, HK⟩ := hrel
    obtain ⟨kb, kf⟩ := HK.out.rules
    have hbl := HK.out.lt
    have hlo := HO.out.lt
    by_cases hlt : i < x.Entities.length
    · obtain ⟨y, hy⟩ : ∃ y, x.Entities[i]? = some y := ⟨x.Entities[i], List.getElem?_eq_getElem hlt⟩
      obtain ⟨ad, u2, u6, u7, rfl, hab, k0, k1, k2, k3, k4, k5, k6, k7, k8, k9, k10, k11, q2, q6, q7⟩ := row_eEntity (HR.out.below HB.out) hy
      have hab' : (ad.add (i * 12)).block < wr.heap.size := by rw [block_of_add]; exact hab
      obtain ⟨A2, c2, rfl, -⟩ := q2.slice
      obtain ⟨A6, c6, rfl, -⟩ := q6.slice
      obtain ⟨A7, c7, rfl, -⟩ := q7.slice
      obtain ⟨f0, f1, f2, f3, f4, f5, f6, f7, f8, f9, f10⟩ := y
      dsimp only at k0 k1 k2 k3 k4 k5 k6 k7 k8 k9 k10 k11
      have HX := Lib.hid hy
      clear hy q2 q6 q7
      by_cases e1 : ¬ f0 = 3
      · have hf := thatN_no (p := proxyB a) HX.out (by simp [proxyB, e1])
        have HF := Lib.hid hf
        clear hf
        go_wp2
        go_roundw
        case rel => exact ⟨i + 1, A', n, c', by omega, by go_num, rfl, by omega, by unfold Hid; rw [HF.out]; exact HN.out, by unfold Hid; rw [HF.out]; exact HO.out, HB.out, HK.out⟩
        case measure => simp [intOf]; omega
      replace e1 := Classical.not_not.1 e1
      subst e1
      by_cases e2 : ¬ f7 = a
      · have hf := thatN_no (p := proxyB a) HX.out (by simp [proxyB, e2])
        have HF := Lib.hid hf
        clear hf
        go_wp2
        go_roundw
        case rel => exact ⟨i + 1, A', n, c', by omega, by go_num, rfl, by omega, by unfold Hid; rw [HF.out]; exact HN.out, by unfold Hid; rw [HF.out]; exact HO.out, HB.out, HK.out⟩
        case measure => simp [intOf]; omega
      replace e2 := Classical.not_not.1 e2
      subst e2
      have hf := thatN_yes (p := proxyB f7) HX.out (by simp [proxyB])
      have HF := Lib.hid hf
      clear hf
      go_wp2_with (at_builtin; refine wpList_append_rd rfl _ _ 54 rfl (w.heap.size + 1) 3 _ _ 1 8 Try.underlying54 rfl rfl rfl rfl rfl (by omega) _ n _ rfl (HO.out.alloc _) vals_eInt [(i : Int)] (one_eInt _) (lenv_eInt _) _ _ rfl (rdW_one vals_eInt wr (i : Int) 3) (by simp; omega) (by omega) (by have := HB.out.size; simp; omega) ?_)
      intro A'' c'' w1 hown hgrow
      have HB1 := Lib.hid ((HB.out.alloc (by have := HB.out.size; (try simp only [size_alloc]); omega) _).trans (grown_below hgrow (by have := HB.out.size; simp; omega) (fun k hk => by have := (hlo k hk).1; omega)))
      have HK1 := Lib.hid ((HK.out.alloc _).chg (grown_chg hgrow) (fun h => by have := (hlo _ h).1; omega))
      have HO1 : Hid (w1.ownsRow (w.heap.size + 1) 3 1 (.slice A'' (n + 1) c'') (n + 1) ((thatN (proxyB f7) x.Entities (i + 1)).flatMap vsInt)) := by
        unfold Hid; rw [HF.out, List.flatMap_append]; exact hown
      clear hown hgrow
      go_wp2
      go_roundw
      case rel => exact ⟨i + 1, A'', n + 1, c'', by omega, by go_num, rfl, by omega, by unfold Hid; rw [HF.out, List.length_append, ← HN.out]; rfl, HO1, HB1, HK1⟩
      case measure => simp [intOf]; omega
    · have : i = x.Entities.length := by omega
      subst this
      go_wp2
      go_ret
      have ho := HO.out
      have hnn := HN.out
      refine ⟨_, rfl, ?_, HB.out⟩
      show RdW wr (.s (thatN (proxyB a) x.Entities x.Entities.length).length ((thatN (proxyB a) x.Entities x.Entities.length).flatMap eInt)) _
      have hl := thatN_len (proxyB a) x.Entities x.Entities.length
      subst hnn
      exact ownsRow_rdw vals_eInt ho (by omega)
set_option maxHeartbeats 3200000 in
set_option maxRecDepth 100000 in
theorem spec_AwayAt_calls (us : List Value) (x : GVat) (a : Int) (w : World) (hr : RdLW w (eVat x) us) (hz : sizL (eVat x) ≤ 1048576) (hi : I64 a) :
    Calls Try.prog 44 #[.agg us.toArray, .int .i64 a] w fun e w' => ∃ v', e = .returned v' ∧ RdW w' (.s (awayOf x a).length ((awayOf x a).flatMap eInt)) v' ∧ Below w.heap.size w w' := by
  have hzx := hz
  rw [siz_eVat] at hzx
  obtain ⟨v1, v2, v3, v4, rfl, h1, h2, h3, h4⟩ := rd_eVat hr
  obtain ⟨A, c, rfl, ⟨_, _, hl⟩⟩ := h1.slice
  have HR := Lib.hid h1
  clear hr h1 h2 h3 h4
  have HB0 := Lib.hid ((Below.refl w.heap.size w).alloc (Nat.le_refl _) (.cells #[.int .i64 x.Id, .slice A x.Entities.length c, v2, v3, v4] 35))
  go_enter Try.func44, Try.ntmps44
  go_wp2
  go_loopw [5, 6] (fun s t wr => ∃ (i : Nat) (A' : Option Addr) (n c' : Nat), i ≤ x.Entities.length ∧ t = .int .i64 i ∧ s = .slice A' n c' ∧ n ≤ i ∧ Hid (n = (thatN (awayB a) x.Entities i).length) ∧ Hid (wr.ownsRow (w.heap.size + 1) 3 1 (.slice A' n c') n ((thatN (awayB a) x.Entities i).flatMap vsInt)) ∧ Hid (Below w.heap.size w wr) ∧ Hid (Blk wr w.heap.size 35 #[.int .i64 x.Id, .slice A x.Entities.length c, v2, v3, v4])) (fun s t wr => x.Entities.length - (intOf t).toNat)
  case atStart => exact ⟨0, _, _, _, by omega, rfl, rfl, by omega, rfl, ownsRow_made' (by simp) (by simp), HB0.out.alloc (by simp) _, (Blk.new _ _ _).alloc _⟩
  case round =>
    obtain ⟨i, A', n, c', hi', rfl, rfl, hn, HN, HO, HB, HK⟩ := hrel
    obtain ⟨kb, kf⟩ := HK.out.rules
    have hbl := HK.out.lt
    have hlo := HO.out.lt
    by_cases hlt : i < x.Entities.length
    · obtain ⟨y, hy⟩ : ∃ y, x.Entities[i]? = some y := ⟨x.Entities[i], List.getElem?_eq_getElem hlt⟩
      obtain ⟨ad, u2, u6, u7, rfl, hab, k0, k1, k2, k3, k4, k5, k6, k7, k8, k9, k10, k11, q2, q6, q7⟩ := row_eEntity (HR.out.below HB.out) hy
      have hab' : (ad.add (i * 12)).block < wr.heap.size := by rw [block_of_add]; exact hab
      obtain ⟨A2, c2, rfl, -⟩ := q2.slice
      obtain ⟨A6, c6, rfl, -⟩ := q6.slice
      obtain ⟨A7, c7, rfl, -⟩ := q7.slice
      obtain ⟨f0, f1, f2, f3, f4, f5, f6, f7, f8, f9, f10⟩ := y
      dsimp only at k0 k1 k2 k3 k4 k5 k6 k7 k8 k9 k10 k11
      have HX := Lib.hid hy
      clear hy q2 q6 q7
      by_cases e1 : ¬ f0 = 2
      · have hf := thatN_no (p := awayB a) HX.out (by simp [awayB, e1])
        have HF := Lib.hid hf
        clear hf
        go_wp2
        go_roundw
        case rel => exact ⟨i + 1, A', n, c', by omega, by go_num, rfl, by omega, by unfold Hid; rw [HF.out]; exact HN.out, by unfold Hid; rw [HF.out]; exact (HO.out.alloc _), (HB.out.alloc HB.out.size _), (HK.out.alloc _)⟩
        case measure => simp [intOf]; omega
      replace e1 := Classical.not_not.1 e1
      subst e1
      by_cases e3 : f3 = 3
      · subst e3
        by_cases e2 : ¬ f7 = a
        · have hf := thatN_no (p := awayB a) HX.out (by simp [awayB, e2])
          have HF := Lib.hid hf
          clear hf
          go_wp2
          go_roundw
          case rel => exact ⟨i + 1, A', n, c', by omega, by go_num, rfl, by omega, by unfold Hid; rw [HF.out]; exact HN.out, by unfold Hid; rw [HF.out]; exact (HO.out.alloc _), (HB.out.alloc HB.out.size _), (HK.out.alloc _)⟩
          case measure => simp [intOf]; omega
        replace e2 := Classical.not_not.1 e2
        subst e2
        have hf := thatN_yes (p := awayB f7) HX.out (by simp [awayB])
        have HF := Lib.hid hf
        clear hf
        go_wp2_with (at_builtin; refine wpList_append_rd rfl _ _ 54 rfl (w.heap.size + 1) 3 _ _ 1 8 Try.underlying54 rfl rfl rfl rfl rfl (by omega) _ n _ rfl ((HO.out.alloc _).alloc _) vals_eInt [(i : Int)] (one_eInt _) (lenv_eInt _) _ _ rfl (rdW_one' vals_eInt (w := wr.alloc _) (i : Int) 3 (by simp)) (by simp; omega) (by omega) (by have := HB.out.size; simp; omega) ?_)
        intro A'' c'' w1 hown hgrow
        have HB1 := Lib.hid (((HB.out.alloc HB.out.size _).alloc (by have := HB.out.size; (try simp only [size_alloc]); omega) _).trans (grown_below hgrow (by have := HB.out.size; simp; omega) (fun k hk => by have := (hlo k hk).1; omega)))
        have HK1 := Lib.hid (((HK.out.alloc _).alloc _).chg (grown_chg hgrow) (fun h => by have := (hlo _ h).1; omega))
        have HO1 : Hid (w1.ownsRow (w.heap.size + 1) 3 1 (.slice A'' (n + 1) c'') (n + 1) ((thatN (awayB f7) x.Entities (i + 1)).flatMap vsInt)) := by
          unfold Hid; rw [HF.out, List.flatMap_append]; exact hown
        clear hown hgrow
        go_wp2
        go_roundw
        case rel => exact ⟨i + 1, A'', n + 1, c'', by omega, by go_num, rfl, by omega, by unfold Hid; rw [HF.out, List.length_append, ← HN.out]; rfl, HO1, HB1, HK1⟩
        case measure => simp [intOf]; omega
      by_cases e4 : ¬ f3 = 4
      · have hf := thatN_no (p := awayB a) HX.out (by simp [awayB, e3, e4])
        have HF := Lib.hid hf
        clear hf
        go_wp2
        go_roundw
        case rel => exact ⟨i + 1, A', n, c', by omega, by go_num, rfl, by omega, by unfold Hid; rw [HF.out]; exact HN.out, by unfold Hid; rw [HF.out]; exact (HO.out.alloc _), (HB.out.alloc HB.out.size _), (HK.out.alloc _)⟩
        case measure => simp [intOf]; omega
      replace e4 := Classical.not_not.1 e4
      subst e4
      by_cases e2 : ¬ f7 = a
      · have hf := thatN_no (p := awayB a) HX.out (by simp [awayB, e2])
        have HF := Lib.hid hf
        clear hf
        go_wp2
        go_roundw
        case rel => exact ⟨i + 1, A', n, c', by omega, by go_num, rfl, by omega, by unfold Hid; rw [HF.out]; exact HN.out, by unfold Hid; rw [HF.out]; exact (HO.out.alloc _), (HB.out.alloc HB.out.size _), (HK.out.alloc _)⟩
        case measure => simp [intOf]; omega
      replace e2 := Classical.not_not.1 e2
      subst e2
      have hf := thatN_yes (p := awayB f7) HX.out (by simp [awayB])
      have HF := Lib.hid hf
      clear hf
      go_wp2_with (at_builtin; refine wpList_append_rd rfl _ _ 54 rfl (w.heap.size + 1) 3 _ _ 1 8 Try.underlying54 rfl rfl rfl rfl rfl (by omega) _ n _ rfl ((HO.out.alloc _).alloc _) vals_eInt [(i : Int)] (one_eInt _) (lenv_eInt _) _ _ rfl (rdW_one' vals_eInt (w := wr.alloc _) (i : Int) 3 (by simp)) (by simp; omega) (by omega) (by have := HB.out.size; simp; omega) ?_)
      intro A'' c'' w1 hown hgrow
      have HB1 := Lib.hid (((HB.out.alloc HB.out.size _).alloc (by have := HB.out.size; (try simp only [size_alloc]); omega) _).trans (grown_below hgrow (by have := HB.out.size; simp; omega) (fun k hk => by have := (hlo k hk).1; omega)))
      have HK1 := Lib.hid (((HK.out.alloc _).alloc _).chg (grown_chg hgrow) (fun h => by have := (hlo _ h).1; omega))
      have HO1 : Hid (w1.ownsRow (w.heap.size + 1) 3 1 (.slice A'' (n + 1) c'') (n + 1) ((thatN (awayB f7) x.Entities (i + 1)).flatMap vsInt)) := by
        unfold Hid; rw [HF.out, List.flatMap_append]; exact hown
      clear hown hgrow
      go_wp2
      go_roundw
      case rel => exact ⟨i + 1, A'', n + 1, c'', by omega, by go_num, rfl, by omega, by unfold Hid; rw [HF.out, List.length_append, ← HN.out]; rfl, HO1, HB1, HK1⟩
      case measure => simp [intOf]; omega
    · have : i = x.Entities.length := by omega
      subst this
      go_wp2
      go_ret
      have ho := HO.out
      have hnn := HN.out
      refine ⟨_, rfl, ?_, HB.out⟩
      show RdW wr (.s (thatN (awayB a) x.Entities x.Entities.length).length ((thatN (awayB a) x.Entities x.Entities.length).flatMap eInt)) _
      have hl := thatN_len (awayB a) x.Entities x.Entities.length
      subst hnn
      exact ownsRow_rdw vals_eInt ho (by omega)
def EntC (W : World) (q : Addr) (y : GEntity) : Prop := q.block < W.heap.size ∧ W.cell? q = some (.int .i64 y.Kind) ∧ W.cell? ⟨q.block, q.off + 3, none⟩ = some (.int .i64 y.State) ∧ W.cell? ⟨q.block, q.off + 8, none⟩ = some (.int .i64 y.Peer)
set_option maxHeartbeats 1600000 in
set_option maxRecDepth 100000 in
theorem impl_Vat_that_calls (p : GEntity → Bool) (g0 : Nat) (lb : Array Value) (eg : ∀ args w, (callFunc g0 args).run Try.prog w = .ok (.enter g0 args) w) (g : Nat) (us : List Value) (x : GVat) (w : World) (hbk : Blk w g 35 us.toArray) (hr : RdLW w (eVat x) us) (hz : sizL (eVat x) ≤ 1048576)
    (hp : ∀ (W : World) (y : GEntity) (q : Addr), Below w.heap.size w W → EntC W q y → Calls Try.prog g0 (#[.pointer (some q)] ++ lb) W fun e w' => e = .returned (.bool (p y)) ∧ Below W.heap.size W w') :
    Calls Try.prog 82 #[.pointer (some ⟨g, 0, none⟩), .func (.func g0) #[] lb] w fun e w' => ∃ v' fp, e = .returned v' ∧ Own w' (.s (thatN p x.Entities x.Entities.length).length ((thatN p x.Entities x.Entities.length).flatMap eInt)) v' fp ∧ Fresh w fp ∧ Below w.heap.size w w' := by
  have hzx := hz
  rw [siz_eVat] at hzx
  obtain ⟨v1, v2, v3, v4, rfl, h1, h2, h3, h4⟩ := rd_eVat hr
  obtain ⟨A, c, rfl, ⟨_, _, hl⟩⟩ := h1.slice
  have HR := Lib.hid h1
  have HP := Lib.hid hp
  have HBK := Lib.hid hbk
  obtain ⟨kz, kzf⟩ := hbk.rules
  have hgl := hbk.lt
  clear hr h1 h2 h3 h4 hp hbk
  go_enter Try.func82, Try.ntmps82
  go_wp2
  go_loopw [5, 13] (fun s t wr => ∃ (i : Nat) (A' : Option Addr) (n c' : Nat), i ≤ x.Entities.length ∧ t = .int .i64 i ∧ s = .slice A' n c' ∧ n ≤ i ∧ Hid (n = (thatN p x.Entities i).length) ∧ Hid (wr.ownsRow w.heap.size 3 1 (.slice A' n c') n ((thatN p x.Entities i).flatMap vsInt)) ∧ Hid (Below w.heap.size w wr) ∧ Hid (Blk wr g 35 #[.int .i64 x.Id, .slice A x.Entities.length c, v2, v3, v4])) (fun s t wr => x.Entities.length - (intOf t).toNat)
  case atStart => exact ⟨0, _, _, _, by omega, rfl, rfl, by omega, rfl, ownsRow_made' (by simp) (by simp), (Below.refl _ _).alloc (Nat.le_refl _) _, HBK.out.alloc _⟩
  case round =>
    obtain ⟨i, A', n, c', hi', rfl, rfl, hn, HN, HO, HB, HK⟩ := hrel
    obtain ⟨kb, kf⟩ := HK.out.rules
    have hbl := HK.out.lt
    by_cases hlt : i < x.Entities.length
    · obtain ⟨y, hy⟩ : ∃ y, x.Entities[i]? = some y := ⟨x.Entities[i], List.getElem?_eq_getElem hlt⟩
      obtain ⟨ad, u2, u6, u7, rfl, hab, k0, k1, k2, k3, k4, k5, k6, k7, k8, k9, k10, k11, q2, q6, q7⟩ := row_eEntity (HR.out.below HB.out) hy
      have hab' : (ad.add (i * 12)).block < wr.heap.size := by rw [block_of_add]; exact hab
      have hcall := HP.out wr y (ad.add (i * 12)) HB.out ⟨hab', k0, k3, k8⟩
      have HX := Lib.hid hy
      clear hy q2 q6 q7 k0 k1 k2 k3 k4 k5 k6 k7 k8 k9 k10 k11
      cases hq : p y with
      | false =>
        rw [hq] at hcall
        have HF := Lib.hid (thatN_no (p := p) HX.out hq)
        have HC := Lib.hid hcall
        clear hcall hq
        go_wp2_with (go_at_fn g0; refine HC.out.mono ?_; rintro e w1 ⟨rfl, hb1⟩)
        go_roundw
        case rel => exact ⟨i + 1, A', n, c', by omega, by go_num, rfl, by omega, by unfold Hid; rw [HF.out]; exact HN.out, by unfold Hid; rw [HF.out]; exact ownsRow_below HO.out hb1, HB.out.trans (hb1.mono HB.out.size), HK.out.below hb1⟩
        case measure => simp [intOf]; omega
      | true =>
        rw [hq] at hcall
        have HF := Lib.hid (thatN_yes (p := p) HX.out hq)
        have HC := Lib.hid hcall
        clear hcall hq
        go_wp2_with (first | (go_at_fn g0; refine HC.out.mono ?_; rintro e w1 ⟨rfl, hb1⟩; have HO1 := Lib.hid (ownsRow_below HO.out hb1); have HB1 := Lib.hid (HB.out.trans (hb1.mono HB.out.size)); have HK1 := Lib.hid (HK.out.below hb1); clear hb1) | (at_builtin; refine wpList_append_rd rfl _ _ 54 rfl (w.heap.size) 3 _ _ 1 8 Try.underlying54 rfl rfl rfl rfl rfl (by omega) _ n _ rfl (HO1.out.alloc _) vals_eInt [(i : Int)] (one_eInt _) (lenv_eInt _) _ _ rfl (rdW_one vals_eInt w1 (i : Int) 3) (by simp; omega) (by omega) (by have := HB1.out.size; simp; omega) ?_))
        have hlo := HO1.out.lt
        intro A'' c'' w2 hown hgrow
        have HB2 := Lib.hid ((HB1.out.alloc HB1.out.size _).trans (grown_below hgrow (by have := HB1.out.size; simp; omega) (fun k hk => by have := (hlo k hk).1; omega)))
        have HK2 := Lib.hid ((HK1.out.alloc _).chg (grown_chg hgrow) (fun h => by have := (hlo _ h).1; omega))
        have HO2 : Hid (w2.ownsRow w.heap.size 3 1 (.slice A'' (n + 1) c'') (n + 1) ((thatN p x.Entities (i + 1)).flatMap vsInt)) := by
          unfold Hid; rw [HF.out, List.flatMap_append]; exact hown
        clear hown hgrow
        go_wp2
        go_roundw
        case rel => exact ⟨i + 1, A'', n + 1, c'', by omega, by go_num, rfl, by omega, by unfold Hid; rw [HF.out, List.length_append, ← HN.out]; rfl, HO2, HB2, HK2⟩
        case measure => simp [intOf]; omega
    · have : i = x.Entities.length := by omega
      subst this
      go_wp2
      go_ret
      have ho := HO.out
      have hnn := HN.out
      have hl := thatN_len p x.Entities x.Entities.length
      subst hnn
      obtain ⟨fp, ho', hn', hge⟩ := ownRow_own vals_eInt ho (by omega)
      exact ⟨_, fp, rfl, ho', ⟨hn', hge⟩, HB.out⟩
set_option maxHeartbeats 800000 in
theorem impl_ProxiesOf1_calls (B : Nat) (y : GEntity) (q : Addr) (a : Int) (W : World) (hb : Blk W B 3 #[.int .i64 a]) (hc : EntC W q y) :
    Calls Try.prog 83 #[.pointer (some q), .pointer (some ⟨B, 0, none⟩)] W fun e w' => e = .returned (.bool (proxyB a y)) ∧ Below W.heap.size W w' := by
  obtain ⟨hq, h0, h3, h7⟩ := hc
  obtain ⟨f0, f1, f2, f3, f4, f5, f6, f7, f8, f9, f10⟩ := y
  dsimp only at h0 h3 h7
  obtain ⟨k0, k1⟩ := hb.rules
  have hlt := hb.lt
  by_cases e1 : ¬ f0 = 3
  · have e1b : (f0 == 3) = false := by simpa using e1
    go_enter Try.func83, Try.ntmps83
    go_wp2
    go_quiet (fail)
    go_wp2
    go_ret
    exact ⟨by simp [proxyB, e1], belowN (Below.refl _ _) _⟩
  replace e1 := Classical.not_not.1 e1
  subst e1
  go_enter Try.func83, Try.ntmps83
  go_wp2
  go_quiet (fail)
  go_wp2
  go_ret
  exact ⟨by simp [proxyB], belowN (Below.refl _ _) _⟩
set_option maxHeartbeats 1600000 in
theorem impl_Entity_awayAt_calls (y : GEntity) (q : Addr) (a : Int) (W : World) (hc : EntC W q y) :
    Calls Try.prog 89 #[.pointer (some q), .int .i64 a] W fun e w' => e = .returned (.bool (awayB a y)) ∧ w' = W := by
  obtain ⟨hq, h0, h3, h7⟩ := hc
  obtain ⟨f0, f1, f2, f3, f4, f5, f6, f7, f8, f9, f10⟩ := y
  dsimp only at h0 h3 h7
  by_cases e1 : ¬ f0 = 2
  · go_enter Try.func89, Try.ntmps89
    go_wp2
    go_ret
    exact ⟨by simp [awayB, e1], rfl⟩
  replace e1 := Classical.not_not.1 e1
  subst e1
  by_cases e3 : f3 = 3
  · subst e3
    go_enter Try.func89, Try.ntmps89
    go_wp2
    go_ret
    exact ⟨by simp [awayB], rfl⟩
  by_cases e4 : ¬ f3 = 4
  · go_enter Try.func89, Try.ntmps89
    go_wp2
    go_ret
    exact ⟨by simp [awayB, e3, e4], rfl⟩
  replace e4 := Classical.not_not.1 e4
  subst e4
  go_enter Try.func89, Try.ntmps89
  go_wp2
  go_ret
  exact ⟨by simp [awayB], rfl⟩
set_option maxHeartbeats 800000 in
theorem impl_AwayAt1_calls (B : Nat) (y : GEntity) (q : Addr) (a : Int) (W : World) (hb : Blk W B 3 #[.int .i64 a]) (hc : EntC W q y) :
    Calls Try.prog 88 #[.pointer (some q), .pointer (some ⟨B, 0, none⟩)] W fun e w' => e = .returned (.bool (awayB a y)) ∧ Below W.heap.size W w' := by
  have HCC := Lib.hid (impl_Entity_awayAt_calls y q a W hc)
  obtain ⟨k0, k1⟩ := hb.rules
  have hlt := hb.lt
  clear hc
  go_enter Try.func88, Try.ntmps88
  go_wp2_with fail
  refine HCC.out.mono ?_
  rintro e w1 ⟨rfl, rfl⟩
  go_wp2
  go_ret
  exact ⟨rfl, Below.refl _ _⟩
set_option maxHeartbeats 800000 in
theorem impl_ProxiesOf_calls (us : List Value) (x : GVat) (a : Int) (w : World) (hr : RdLW w (eVat x) us) (hz : sizL (eVat x) ≤ 1048576) (hi : I64 a) :
    Calls Try.prog 39 #[.agg us.toArray, .int .i64 a] w fun e w' => ∃ v' fp, e = .returned v' ∧ Own w' (.s (proxiesOf x a).length ((proxiesOf x a).flatMap eInt)) v' fp ∧ Fresh w fp ∧ Below w.heap.size w w' := by
  have HC := Lib.hid (impl_Vat_that_calls (proxyB a) 83 #[.pointer (some ⟨w.heap.size + 1, 0, none⟩)] (enters_of Try.func83 (by kernel_rfl) rfl) w.heap.size us x ((w.alloc (.cells us.toArray 35)).alloc (.cells #[.int .i64 a] 3)) ((Blk.new _ _ _).alloc _) ((hr.below ((Below.refl _ _).alloc (Nat.le_refl _) _)).below ((Below.refl _ _).alloc (Nat.le_refl _) _)) hz
    (fun W y q hW hc => impl_ProxiesOf1_calls (w.heap.size + 1) y q a W ((Blk.made (by simp)).below hW) hc))
  obtain ⟨v1, v2, v3, v4, rfl, h1, h2, h3, h4⟩ := rd_eVat hr
  clear hr h1 h2 h3 h4
  go_enter Try.func39, Try.ntmps39
  go_wp2_with fail
  refine HC.out.mono ?_
  rintro e w1 ⟨v', fp, rfl, ho, hf, hb1⟩
  have HO := Lib.hid ho
  have HF := Lib.hid hf
  have HB := Lib.hid ((((Below.refl w.heap.size w).alloc (Nat.le_refl _) _).alloc (by simp) _).trans (hb1.mono (by simp only [size_alloc]; omega)))
  clear ho hf hb1
  go_wp2
  go_ret
  exact ⟨_, fp, rfl, HO.out, HF.out.mono (by simp only [size_alloc]; omega), HB.out⟩
set_option maxHeartbeats 800000 in
theorem impl_AwayAt_calls (us : List Value) (x : GVat) (a : Int) (w : World) (hr : RdLW w (eVat x) us) (hz : sizL (eVat x) ≤ 1048576) (hi : I64 a) :
    Calls Try.prog 45 #[.agg us.toArray, .int .i64 a] w fun e w' => ∃ v' fp, e = .returned v' ∧ Own w' (.s (awayOf x a).length ((awayOf x a).flatMap eInt)) v' fp ∧ Fresh w fp ∧ Below w.heap.size w w' := by
  have HC := Lib.hid (impl_Vat_that_calls (awayB a) 88 #[.pointer (some ⟨w.heap.size + 1, 0, none⟩)] (enters_of Try.func88 (by kernel_rfl) rfl) w.heap.size us x ((w.alloc (.cells us.toArray 35)).alloc (.cells #[.int .i64 a] 3)) ((Blk.new _ _ _).alloc _) ((hr.below ((Below.refl _ _).alloc (Nat.le_refl _) _)).below ((Below.refl _ _).alloc (Nat.le_refl _) _)) hz
    (fun W y q hW hc => impl_AwayAt1_calls (w.heap.size + 1) y q a W ((Blk.made (by simp)).below hW) hc))
  obtain ⟨v1, v2, v3, v4, rfl, h1, h2, h3, h4⟩ := rd_eVat hr
  clear hr h1 h2 h3 h4
  go_enter Try.func45, Try.ntmps45
  go_wp2_with fail
  refine HC.out.mono ?_
  rintro e w1 ⟨v', fp, rfl, ho, hf, hb1⟩
  have HO := Lib.hid ho
  have HF := Lib.hid hf
  have HB := Lib.hid ((((Below.refl w.heap.size w).alloc (Nat.le_refl _) _).alloc (by simp) _).trans (hb1.mono (by simp only [size_alloc]; omega)))
  clear ho hf hb1
  go_wp2
  go_ret
  exact ⟨_, fp, rfl, HO.out, HF.out.mono (by simp only [size_alloc]; omega), HB.out⟩

end Go.Proofs.Ytapbejepffpckaa
