import Derived.Test.YtlpjbipgocgioaaProg
import Derived.Test.YtlpjbipgocgioaaTypes
import Derived.StillTailTactics
import Derived.Deep.RegionHeld3
import Derived.Laws.IdiomStrings
import Derived.Test.YtlpjbipgocgioaaAppend
import Derived.Laws.StructEq
import Derived.Lib.SliceRun
import Derived.Shelf.RegionOpenPlain
import Derived.Test.YtlpjbipgocgioaaPut
import Derived.Test.YtlpjbipgocgioaaLink
namespace Go.Proofs.Ytlpjbipgocgioaa
open Go.RowKit
set_option linter.unusedVariables false
set_option linter.unusedSimpArgs false

set_option maxHeartbeats 3200000 in
set_option maxRecDepth 100000 in
theorem spec_PutExport_calls (us : List Value) (x : GLink) (p : Int) (w : World) (hr : RdLW w (eLink x) us) (hz : sizL (eLink x) ≤ 1048576) (hi : I64 p) :
    Calls Try.prog 12 #[.agg us.toArray, .int .i64 p] w fun e w' => ∃ us', e = .returned (.tuple #[.agg us'.toArray, .int .i64 (putExport2 x p)]) ∧ RdLW w' (eLink (putExport1 x p)) us' ∧ Below w.heap.size w w' := by
  have hcon := spec_l10Copy_calls us x ((w.alloc (.cells us.toArray 30)).alloc (.cells #[.int .i64 0, .bool false, .slice none 0 0, .int .i64 0, .slice none 0 0, .int .i64 0, .slice none 0 0] 30)) (hr.below (((Below.refl _ _).alloc (Nat.le_refl _) _).alloc (by simp) _)) hz
  obtain ⟨v2, v4, v6, rfl, h2, h4, h6⟩ := rd_eLink hr
  obtain ⟨A2, c2, rfl, ⟨_, _, hl2⟩⟩ := h2.slice
  have hzq := hz
  rw [siz_eLink] at hzq
  have HC := Lib.hid hcon
  have HR2 := Lib.hid h2
  clear hcon hr h2 h4 h6 hz
  go_enter Try.func12, Try.ntmps12
  go_wp2_with fail
  refine HC.out.mono ?_
  rintro e w1 ⟨B2, d2, B4, d4, B6, d6, rfl, hc, hb1⟩
  have z1 : w.heap.size + 2 ≤ w1.heap.size := by have := hb1.size; simpa using this
  have K0 : Hid (Blk w1 w.heap.size 30 #[.int .i64 x.Peer, .bool x.Up, .slice A2 x.Exports.length c2, .int .i64 x.Next, v4, .int .i64 x.Asked, v6]) := Lib.hid (((Blk.new w _ _).alloc _).below hb1)
  have K1 : Hid (Blk w1 (w.heap.size + 1) 30 #[.int .i64 0, .bool false, .slice none 0 0, .int .i64 0, .slice none 0 0, .int .i64 0, .slice none 0 0]) := Lib.hid ((Blk.made (by simp)).below hb1)
  have HB1 := Lib.hid ((((Below.refl w.heap.size w).alloc (Nat.le_refl _) _).alloc (by simp) _).trans (hb1.mono (by simp only [size_alloc]; omega)))
  have HCL : Hid (CopL (w.heap.size + 2) w1 x B2 d2 B4 d4 B6 d6) := ⟨hc.r2.mono (by simp only [size_alloc]; omega), hc.r4.mono (by simp only [size_alloc]; omega), hc.r6.mono (by simp only [size_alloc]; omega), hc.d24, hc.d26, hc.d46⟩
  clear hc hb1
  go_wp2
  obtain ⟨w2, hw2⟩ : ∃ q, q = w1.alloc (.cells #[.int .i64 x.Peer, .bool x.Up, .slice B2 x.Exports.length d2, .int .i64 x.Next, .slice B4 x.Questions.length d4, .int .i64 x.Asked, .slice B6 x.Answers.length d6] 30) := ⟨_, rfl⟩
  rw [← hw2]
  have K02 : Hid (Blk w2 w.heap.size 30 #[.int .i64 x.Peer, .bool x.Up, .slice A2 x.Exports.length c2, .int .i64 x.Next, v4, .int .i64 x.Asked, v6]) := by unfold Hid; rw [hw2]; exact K0.out.alloc _
  have K12 : Hid (Blk w2 (w.heap.size + 1) 30 #[.int .i64 0, .bool false, .slice none 0 0, .int .i64 0, .slice none 0 0, .int .i64 0, .slice none 0 0]) := by unfold Hid; rw [hw2]; exact K1.out.alloc _
  have KO : Hid (Blk w2 w1.heap.size 30 #[.int .i64 x.Peer, .bool x.Up, .slice B2 x.Exports.length d2, .int .i64 x.Next, .slice B4 x.Questions.length d4, .int .i64 x.Asked, .slice B6 x.Answers.length d6]) := by unfold Hid; rw [hw2]; exact Blk.new w1 _ _
  have HB2 : Hid (Below w.heap.size w w2) := by unfold Hid; rw [hw2]; exact HB1.out.alloc HB1.out.size _
  have HO2 : Hid (w2.ownsRow (w.heap.size + 2) 51 3 (.slice B2 x.Exports.length d2) x.Exports.length (x.Exports.flatMap vsExport)) := by unfold Hid; rw [hw2]; exact HCL.out.r2.alloc _
  have HO4 : Hid (w2.ownsRow (w.heap.size + 2) 41 2 (.slice B4 x.Questions.length d4) x.Questions.length (x.Questions.flatMap vsQuestion)) := by unfold Hid; rw [hw2]; exact HCL.out.r4.alloc _
  have HO6 : Hid (w2.ownsRow (w.heap.size + 2) 41 2 (.slice B6 x.Answers.length d6) x.Answers.length (x.Answers.flatMap vsQuestion)) := by unfold Hid; rw [hw2]; exact HCL.out.r6.alloc _
  have HL2 := Lib.hid HCL.out.r2.lt
  have HL4 := Lib.hid HCL.out.r4.lt
  have HL6 := Lib.hid HCL.out.r6.lt
  have z2 : w1.heap.size + 1 ≤ w2.heap.size := by rw [hw2]; simp
  clear hw2
  obtain ⟨k0, j0⟩ := K02.out.rules
  obtain ⟨k1, j1⟩ := K12.out.rules
  obtain ⟨k2, j2⟩ := KO.out.rules
  have l0 := K02.out.lt
  have l1 := K12.out.lt
  have l2 := KO.out.lt
  have ne1 : ¬ w1.heap.size = w.heap.size + 1 := by omega
  have ne2 : ¬ w.heap.size + 1 = w1.heap.size := by omega
  have ne3 : ¬ w1.heap.size = w.heap.size := by omega
  have ne4 : ¬ w.heap.size = w1.heap.size := by omega
  go_loop [7] (fun b => ∃ i : Nat, i ≤ x.Exports.length ∧ b = .int .i64 i ∧ Hid (∀ j y, j < i → x.Exports[j]? = some y → y.Entity ≠ p)) (fun b => x.Exports.length - (intOf b).toNat)
  case atStart => exact ⟨0, by omega, rfl, no_start⟩
  case round =>
    obtain ⟨i, hi, rfl, hno⟩ := hrel
    by_cases hlt : i < x.Exports.length
    · obtain ⟨y, hy⟩ : ∃ y, x.Exports[i]? = some y := ⟨x.Exports[i], List.getElem?_eq_getElem hlt⟩
      obtain ⟨ad, rfl, hab0, h0, h1, h2⟩ := row_eExport HR2.out hy
      have hab : (ad.add (i * 3)).block < w.heap.size := by rw [block_of_add]; exact hab0
      replace h0 := cell_below HB2.out h0 hab
      replace h1 := cell_below HB2.out h1 hab
      replace h2 := cell_below HB2.out h2 hab
      have hab2 : (ad.add (i * 3)).block < w2.heap.size := by omega
      have HX := Lib.hid hy
      clear hy hab0
      by_cases he : y.Entity = p
      · have hat := exAt_hit HX.out he hno.out
        have HP1 := Lib.hid (putExport1_hit hat HX.out)
        have HP2 := Lib.hid (putExport2_hit hat HX.out)
        obtain ⟨g2, cp2, hA2, hg2, hg2'⟩ := HO2.out.form (by omega)
        injection hA2 with hA2 _ hc2
        subst hA2
        subst hc2
        have f_2 := HO2.out.frozenAt (i * 3 + 2)
        have c_2 := own_cell (vs := vsExport) (fun _ => rfl) HO2.out rfl HX.out 2 (.int .i64 y.Count) rfl
        have hgB : ¬ g2 = w1.heap.size := fun h => by have := HL2.out g2 (by simp [Value.ownBlock]); omega
        have hBg : ¬ w1.heap.size = g2 := fun h => hgB h.symm
        have hg0 : ¬ g2 = w.heap.size := by omega
        have hg0' : ¬ w.heap.size = g2 := by omega
        have hg1 : ¬ g2 = w.heap.size + 1 := by omega
        have hg1' : ¬ w.heap.size + 1 = g2 := by omega
        have hna : ¬ (ad.add (i * 3)).block = w.heap.size + 1 := by omega
        have hna' : ¬ w.heap.size + 1 = (ad.add (i * 3)).block := by omega
        have hga : ¬ g2 = (ad.add (i * 3)).block := by omega
        have hga' : ¬ (ad.add (i * 3)).block = g2 := by omega
        obtain ⟨n, hn⟩ : ∃ n, n = succW y.Count := ⟨_, rfl⟩
        have hw : IntKind.i64.wrap (y.Count + 1) = n := hn.symm
        have hst := HO2.out.stored (i * 3 + 2) (.int .i64 n)
        rw [flat_set_one (vs := vsExport) (sz := 3) (y := oneMore y) (fun _ => rfl) x.Exports i y 2 (.int .i64 n) HX.out (by omega) (by rw [hn]; rfl)] at hst
        have HST := Lib.hid hst.1
        have HCH : Hid (Chg (fun k => k = g2) w2 (w2.setCell ⟨g2, i * 3 + 2, none⟩ (.int .i64 n))) := (Chg.refl (· = g2) w2).setCell (p := ⟨g2, i * 3 + 2, none⟩) (.inl rfl) _
        clear hat hst hn
        go_wp2
        go_region_held3 (fun wq => wq.cell? ⟨w1.heap.size, 2, none⟩ = some (.slice (some ⟨g2, 0, none⟩) x.Exports.length d2) ∧ wq.cell? ⟨w.heap.size, 2, none⟩ = some (.slice (some ad) x.Exports.length c2) ∧ wq.cell? ⟨(ad.add (i * 3)).block, (ad.add (i * 3)).off + 2, none⟩ = some (.int .i64 y.Count)) (go_keep) (fail)
        obtain ⟨ws, hws⟩ : ∃ q, q = (w2.setCell ⟨g2, i * 3 + 2, none⟩ (.int .i64 n)).drew := ⟨_, rfl⟩
        rw [← hws]
        have CS : Chg (fun k => k = g2) w2 ws := by rw [hws]; exact HCH.out.drew
        have HSTs : Hid (ws.ownsRow (w.heap.size + 2) 51 3 (.slice (some ⟨g2, 0, none⟩) x.Exports.length d2) x.Exports.length ((x.Exports.set i (oneMore y)).flatMap vsExport)) := by unfold Hid; rw [hws]; exact HST.out.drew
        have K0s := Lib.hid (K02.out.chg CS hg0')
        have K1s := Lib.hid (K12.out.chg CS hg1')
        have KOs := Lib.hid (KO.out.chg CS hBg)
        have HBs := Lib.hid (below_chg HB2.out CS HB2.out.size (fun k h => by omega))
        have Q4 := Lib.hid (ownsRow_keep HO4.out CS (fun k hk h => by subst h; exact HCL.out.d24 k (by simp [Value.ownBlock]) hk))
        have Q6 := Lib.hid (ownsRow_keep HO6.out CS (fun k hk h => by subst h; exact HCL.out.d26 k (by simp [Value.ownBlock]) hk))
        have h0s : ws.cell? (ad.add (i * 3)) = some (.int .i64 y.Pos) := (World.cell?_of_block (w := w2) (a := ad.add (i * 3)) (CS.block _ hab2 (fun h => hga h.symm))).trans h0
        have zs := CS.size
        have hab3 : (ad.add (i * 3)).block < ws.heap.size := by omega
        clear hws CS h0 h1 h2 f_2 c_2 k0 j0 k1 j1 k2 j2 l0 l1 l2
        (try clear hH_)
        obtain ⟨k0, j0⟩ := K0s.out.rules
        obtain ⟨k1, j1⟩ := K1s.out.rules
        obtain ⟨k2, j2⟩ := KOs.out.rules
        have l0 := K0s.out.lt
        have l1 := K1s.out.lt
        have l2 := KOs.out.lt
        go_wp2
        go_region_held3 (fun wq => wq.cell? ⟨w1.heap.size, 0, none⟩ = some (.int .i64 x.Peer) ∧ wq.cell? ⟨w1.heap.size, 1, none⟩ = some (.bool x.Up) ∧ wq.cell? ⟨w1.heap.size, 2, none⟩ = some (.slice (some ⟨g2, 0, none⟩) x.Exports.length d2) ∧ wq.cell? ⟨w1.heap.size, 3, none⟩ = some (.int .i64 x.Next) ∧ wq.cell? ⟨w1.heap.size, 4, none⟩ = some (.slice B4 x.Questions.length d4) ∧ wq.cell? ⟨w1.heap.size, 5, none⟩ = some (.int .i64 x.Asked) ∧ wq.cell? ⟨w1.heap.size, 6, none⟩ = some (.slice B6 x.Answers.length d6) ∧ wq.cell? ⟨w.heap.size, 2, none⟩ = some (.slice (some ad) x.Exports.length c2) ∧ wq.cell? (ad.add (i * 3)) = some (.int .i64 y.Pos)) (go_keep) (fail)
        go_wp2
        refine post_cell2 (w0 := ws) (fun k => k = w.heap.size + 1) Try.results12 (w.heap.size + 1) #[.int .i64 x.Peer, .bool x.Up, .slice (some ⟨g2, 0, none⟩) x.Exports.length d2, .int .i64 x.Next, .slice B4 x.Questions.length d4, .int .i64 x.Asked, .slice B6 x.Answers.length d6] _ _ rfl (Blk.eq ((((((((K1s.out.set_ 0 _).set_ 1 _).set_ 2 _).set_ 3 _).set_ 4 _).set_ 5 _).set_ 6 _).drew) (by simp)) Try.underlying30 rfl (by kernel_rfl) rfl rfl (((((((((Chg.refl (fun k => k = w.heap.size + 1) ws).setCell (p := ⟨w.heap.size + 1, 0, none⟩) (.inl rfl) _).setCell (p := ⟨w.heap.size + 1, 1, none⟩) (.inl rfl) _).setCell (p := ⟨w.heap.size + 1, 2, none⟩) (.inl rfl) _).setCell (p := ⟨w.heap.size + 1, 3, none⟩) (.inl rfl) _).setCell (p := ⟨w.heap.size + 1, 4, none⟩) (.inl rfl) _).setCell (p := ⟨w.heap.size + 1, 5, none⟩) (.inl rfl) _).setCell (p := ⟨w.heap.size + 1, 6, none⟩) (.inl rfl) _).drew) ?_
        intro W hW
        rw [HP2.out, HP1.out]
        have P2 := ownsRow_keep HSTs.out hW (fun k hk => by have := HL2.out k hk; omega)
        have P4 := ownsRow_keep Q4.out hW (fun k hk => by have := HL4.out k hk; omega)
        have P6 := ownsRow_keep Q6.out hW (fun k hk => by have := HL6.out k hk; omega)
        have hls : (x.Exports.set i (oneMore y)).length = x.Exports.length := List.length_set
        rw [← hls] at P2
        refine ⟨_, rfl, ?_, below_chg HBs.out hW HBs.out.size (fun i hi => by omega)⟩
        rw [← hls]
        exact mkrd_eLink (x := ⟨x.Peer, x.Up, x.Exports.set i (oneMore y), x.Next, x.Questions, x.Asked, x.Answers⟩) (ownsRow_rdw (xs := x.Exports.set i (oneMore y)) vals_eExport P2 (by omega)) (ownsRow_rdw (xs := x.Questions) vals_eQuestion P4 (by omega)) (ownsRow_rdw (xs := x.Answers) vals_eQuestion P6 (by omega))
      · have HN := Lib.hid (step_no (p := fun y : GExport => y.Entity ≠ p) hno.out HX.out he)
        go_wp2
        go_round
        case rel => exact ⟨i + 1, by omega, by go_num, HN⟩
        case measure => simp [intOf]; omega
    · have : i = x.Exports.length := by omega
      subst this
      have hat := exAt_miss (x := x) (e := p) (all_of (p := fun y : GExport => y.Entity ≠ p) hno.out)
      have HP1 := Lib.hid (putExport1_miss hat)
      have HP2 := Lib.hid (putExport2_miss hat)
      obtain ⟨n, hn⟩ : ∃ n, n = succW x.Next := ⟨_, rfl⟩
      have hw : IntKind.i64.wrap (x.Next + 1) = n := hn.symm
      have HN := Lib.hid hn
      have HCS : Hid (Chg (fun k => k = w1.heap.size) w2 (w2.setCell ⟨w1.heap.size, 3, none⟩ (.int .i64 n))) := (Chg.refl (· = w1.heap.size) w2).setCell (p := ⟨w1.heap.size, 3, none⟩) (.inl rfl) _
      have HOn := Lib.hid (ownsRow_keep HO2.out HCS.out (fun k hk => by have := HL2.out k hk; omega))
      clear hat hn
      go_wp2_with (at_builtin; go_loud (refine wpList_append_rd_at rfl _ _ 27 rfl (w.heap.size + 2) 51 _ _ 3 24 Try.underlying27 rfl rfl rfl rfl rfl (by omega) _ x.Exports.length _ rfl (HOn.out.alloc _) vals_eExport [(⟨n, p, 1⟩ : GExport)] (one_eExport _) (lenv_eExport _) _ _ rfl (rdW_one' vals_eExport (w := w2.setCell ⟨w1.heap.size, 3, none⟩ (.int .i64 n)) (⟨n, p, 1⟩ : GExport) 51 (by simp [World.setCell])) (by simp; omega) (by omega) (by simp [World.setCell]; omega) ?_))
      intro B5 d5 w3 o3 g3 a3
      have R2 := HOn.out.lt
      have A5 : Hid (∀ k, (Value.slice B5 (x.Exports.length + 1) d5).ownBlock = some k → w.heap.size + 2 ≤ k ∧ k ≠ w1.heap.size ∧ (k < w1.heap.size → (Value.slice B2 x.Exports.length d2).ownBlock = some k)) := by
        intro k hk
        rcases a3 with a3 | a3
        · have hk' : (Value.slice B2 x.Exports.length d2).ownBlock = some k := by rw [← a3]; exact hk
          have := HL2.out k hk'
          exact ⟨this.1, by omega, fun _ => hk'⟩
        · have hk' : (Value.slice B5 (x.Exports.length + 1) d5).ownBlock = some k := hk
          rw [show (Value.slice B5 (x.Exports.length + 1) d5).ownBlock = some _ from a3] at hk'
          simp [World.setCell] at hk'
          exact ⟨by omega, by omega, fun h => by omega⟩
      clear a3
      have C3 : Chg (fun k => k = w1.heap.size ∨ (Value.slice B2 x.Exports.length d2).ownBlock = some k) w2 w3 := ((HCS.out.mono (fun k _ h => .inl h)).trans ((Chg.refl _ _).alloc _)).trans ((grown_chg g3).mono (fun k _ h => .inr h))
      have KO3 : Hid (Blk w3 w1.heap.size 30 #[.int .i64 x.Peer, .bool x.Up, .slice B2 x.Exports.length d2, .int .i64 n, .slice B4 x.Questions.length d4, .int .i64 x.Asked, .slice B6 x.Answers.length d6]) := Lib.hid ((Blk.eq ((KO.out.set_ 3 (.int .i64 n)).alloc _) (by simp)).chg (grown_chg g3) (fun h => by have := HL2.out _ h; omega))
      have K03 := Lib.hid (K02.out.chg C3 (fun h => by rcases h with h | h; (omega); (have := HL2.out _ h; omega)))
      have K13 := Lib.hid (K12.out.chg C3 (fun h => by rcases h with h | h; (omega); (have := HL2.out _ h; omega)))
      have HB3 := Lib.hid (below_chg HB2.out C3 HB2.out.size (fun k h => by rcases h with h | h; (omega); (have := HL2.out _ h; omega)))
      have Q4 := Lib.hid (ownsRow_keep HO4.out C3 (fun k hk h => by rcases h with h | h; (have := HL4.out k hk; omega); exact HCL.out.d24 k h hk))
      have Q6 := Lib.hid (ownsRow_keep HO6.out C3 (fun k hk h => by rcases h with h | h; (have := HL6.out k hk; omega); exact HCL.out.d26 k h hk))
      have Q2 : Hid (w3.ownsRow (w.heap.size + 2) 51 3 (.slice B5 (x.Exports.length + 1) d5) (x.Exports ++ [(⟨n, p, 1⟩ : GExport)]).length ((x.Exports ++ [(⟨n, p, 1⟩ : GExport)]).flatMap vsExport)) := by
        unfold Hid; rw [List.flatMap_append, List.length_append]; exact o3
      clear o3 g3 C3 R2 k0 j0 k1 j1 k2 j2 l0 l1 l2
      obtain ⟨k0, j0⟩ := K03.out.rules
      obtain ⟨k1, j1⟩ := K13.out.rules
      obtain ⟨k2, j2⟩ := KO3.out.rules
      have l0 := K03.out.lt
      have l1 := K13.out.lt
      have l2 := KO3.out.lt
      go_wp2
      obtain ⟨ws, hws⟩ : ∃ q, q = w3.setCell ⟨w1.heap.size, 2, none⟩ (.slice B5 (x.Exports.length + 1) d5) := ⟨_, rfl⟩
      rw [← hws]
      have CS : Chg (fun k => k = w1.heap.size) w3 ws := by rw [hws]; exact (Chg.refl (· = w1.heap.size) _).setCell (p := ⟨w1.heap.size, 2, none⟩) (.inl rfl) _
      have KS : Hid (Blk ws w1.heap.size 30 #[.int .i64 x.Peer, .bool x.Up, .slice B5 (x.Exports.length + 1) d5, .int .i64 n, .slice B4 x.Questions.length d4, .int .i64 x.Asked, .slice B6 x.Answers.length d6]) := by unfold Hid; rw [hws]; exact Blk.eq (KO3.out.set_ 2 _) (by simp)
      have K1S := Lib.hid (K13.out.chg CS (by omega))
      have HBS := Lib.hid (below_chg HB3.out CS HB3.out.size (fun k h => by omega))
      have HCS2 := Lib.hid CS
      clear hws CS k0 j0 k1 j1 k2 j2 l0 l1 l2
      obtain ⟨k1, j1⟩ := K1S.out.rules
      obtain ⟨k2, j2⟩ := KS.out.rules
      have l1 := K1S.out.lt
      have l2 := KS.out.lt
      go_region_held3 (fun wq => wq.cell? ⟨w1.heap.size, 0, none⟩ = some (.int .i64 x.Peer) ∧ wq.cell? ⟨w1.heap.size, 1, none⟩ = some (.bool x.Up) ∧ wq.cell? ⟨w1.heap.size, 2, none⟩ = some (.slice B5 (x.Exports.length + 1) d5) ∧ wq.cell? ⟨w1.heap.size, 3, none⟩ = some (.int .i64 n) ∧ wq.cell? ⟨w1.heap.size, 4, none⟩ = some (.slice B4 x.Questions.length d4) ∧ wq.cell? ⟨w1.heap.size, 5, none⟩ = some (.int .i64 x.Asked) ∧ wq.cell? ⟨w1.heap.size, 6, none⟩ = some (.slice B6 x.Answers.length d6)) (go_keep) (fail)
      go_wp2
      refine post_cell2 (w0 := ws) (fun k => k = w.heap.size + 1) Try.results12 (w.heap.size + 1) #[.int .i64 x.Peer, .bool x.Up, .slice B5 (x.Exports.length + 1) d5, .int .i64 n, .slice B4 x.Questions.length d4, .int .i64 x.Asked, .slice B6 x.Answers.length d6] _ _ rfl (Blk.eq ((((((((K1S.out.set_ 0 _).set_ 1 _).set_ 2 _).set_ 3 _).set_ 4 _).set_ 5 _).set_ 6 _).drew) (by simp)) Try.underlying30 rfl (by kernel_rfl) rfl rfl (((((((((Chg.refl (fun k => k = w.heap.size + 1) ws).setCell (p := ⟨w.heap.size + 1, 0, none⟩) (.inl rfl) _).setCell (p := ⟨w.heap.size + 1, 1, none⟩) (.inl rfl) _).setCell (p := ⟨w.heap.size + 1, 2, none⟩) (.inl rfl) _).setCell (p := ⟨w.heap.size + 1, 3, none⟩) (.inl rfl) _).setCell (p := ⟨w.heap.size + 1, 4, none⟩) (.inl rfl) _).setCell (p := ⟨w.heap.size + 1, 5, none⟩) (.inl rfl) _).setCell (p := ⟨w.heap.size + 1, 6, none⟩) (.inl rfl) _).drew) ?_
      intro W hW
      have hn := HN.out
      subst hn
      rw [HP2.out, HP1.out]
      have P2 := ownsRow_keep (ownsRow_keep Q2.out HCS2.out (fun k hk => by have := A5.out k hk; omega)) hW (fun k hk => by have := A5.out k hk; omega)
      have P4 := ownsRow_keep (ownsRow_keep Q4.out HCS2.out (fun k hk => by have := HL4.out k hk; omega)) hW (fun k hk => by have := HL4.out k hk; omega)
      have P6 := ownsRow_keep (ownsRow_keep Q6.out HCS2.out (fun k hk => by have := HL6.out k hk; omega)) hW (fun k hk => by have := HL6.out k hk; omega)
      have hl5 : (x.Exports ++ [(⟨succW x.Next, p, 1⟩ : GExport)]).length = x.Exports.length + 1 := by simp
      refine ⟨_, rfl, ?_, below_chg HBS.out hW HBS.out.size (fun i hi => by omega)⟩
      rw [← hl5] at P2
      rw [← hl5]
      exact mkrd_eLink (x := ⟨x.Peer, x.Up, x.Exports ++ [⟨succW x.Next, p, 1⟩], succW x.Next, x.Questions, x.Asked, x.Answers⟩) (ownsRow_rdw (xs := x.Exports ++ [(⟨succW x.Next, p, 1⟩ : GExport)]) vals_eExport P2 (by rw [hl5]; omega)) (ownsRow_rdw (xs := x.Questions) vals_eQuestion P4 (by omega)) (ownsRow_rdw (xs := x.Answers) vals_eQuestion P6 (by omega))

end Go.Proofs.Ytlpjbipgocgioaa
