import Derived.Test.YtlpjbipgocgioaaProg
import Derived.Test.YtlpjbipgocgioaaTypes
import Derived.StillTailTactics
import Derived.Laws.OwnMore
import Derived.Deep.AppendLies
import Derived.Deep.RegionHeld3
import Derived.Laws.IdiomStrings
import Derived.Test.YtlpjbipgocgioaaAppend
import Derived.Laws.StructEq
import Derived.Lib.SliceRun
import Derived.Shelf.RegionOpenPlain
import Derived.Test.YtlpjbipgocgioaaAsk
namespace Go.Proofs.Ytlpjbipgocgioaa
open Go.RowKit
set_option linter.unusedVariables false
set_option linter.unusedSimpArgs false

theorem flat_set_one {α : Type} {vs : α → List Value} {sz : Nat} (hl : ∀ x, (vs x).length = sz) : ∀ (xs : List α) (i : Nat) (x y : α) (k : Nat) (u : Value), xs[i]? = some x → k < sz → vs y = (vs x).set k u → (xs.flatMap vs).set (i * sz + k) u = (xs.set i y).flatMap vs
  | [], i, x, y, k, u, h, _, _ => by simp at h
  | z :: xs, 0, x, y, k, u, h, hk, hy => by
    simp only [List.getElem?_cons_zero, Option.some.injEq] at h
    subst h
    rw [List.flatMap_cons, List.set_cons_zero, List.flatMap_cons, hy, Nat.zero_mul, Nat.zero_add, List.set_append_left _ _ (by rw [hl]; exact hk)]
  | z :: xs, i + 1, x, y, k, u, h, hk, hy => by
    rw [List.getElem?_cons_succ] at h
    have ih := flat_set_one hl xs i x y k u h hk hy
    rw [List.flatMap_cons, List.set_cons_succ, List.flatMap_cons, List.set_append_right _ _ (by rw [hl, Nat.succ_mul]; omega), hl, show (i + 1) * sz + k - sz = i * sz + k from by rw [Nat.succ_mul]; omega, ih]
theorem flat_at {α : Type} {vs : α → List Value} {sz : Nat} (hl : ∀ x, (vs x).length = sz) : ∀ (xs : List α) (i : Nat) (x : α) (k : Nat) (u : Value), xs[i]? = some x → (vs x)[k]? = some u → (xs.flatMap vs)[i * sz + k]? = some u
  | [], i, x, k, u, h, _ => by simp at h
  | z :: xs, 0, x, k, u, h, hu => by
    simp only [List.getElem?_cons_zero, Option.some.injEq] at h
    subst h
    rw [List.flatMap_cons, Nat.zero_mul, Nat.zero_add, List.getElem?_append_left (List.getElem?_eq_some_iff.1 hu).1]; exact hu
  | z :: xs, i + 1, x, k, u, h, hu => by
    rw [List.getElem?_cons_succ] at h
    rw [List.flatMap_cons, List.getElem?_append_right (by rw [hl, Nat.succ_mul]; omega), hl, show (i + 1) * sz + k - sz = i * sz + k from by rw [Nat.succ_mul]; omega]
    exact flat_at hl xs i x k u h hu
/-- an element of an owned row: its cells -/
theorem own_cell {α : Type} {vs : α → List Value} {sz : Nat} (hl : ∀ x, (vs x).length = sz) {w : World} {base g n c : Nat} {t : TypeId} {xs : List α} (h : w.ownsRow base t sz (.slice (some ⟨g, 0, none⟩) n c) n (xs.flatMap vs)) (hn : xs.length = n) {i : Nat} {x : α} (hx : xs[i]? = some x) (k : Nat) (u : Value) (hu : (vs x)[k]? = some u) :
    w.cell? ⟨g, i * sz + k, none⟩ = some u := by
  have hk := (List.getElem?_eq_some_iff.1 hu).1
  rw [hl] at hk
  have hi := (List.getElem?_eq_some_iff.1 hx).1
  have hm : (i + 1) * sz ≤ n * sz := Nat.mul_le_mul_right sz (by omega)
  rw [Nat.succ_mul] at hm
  rw [h.cellAt (i * sz + k) (by omega)]
  exact flat_at hl xs i x k u hx hu
set_option maxHeartbeats 3200000 in
set_option maxRecDepth 100000 in
theorem impl_Link_put_calls (B base : Nat) (x : GLink) (e0 : Int) (A2 A4 A6 : Option Addr) (c2 c4 c6 : Nat) (w : World)
    (hb : Blk w B 30 #[.int .i64 x.Peer, .bool x.Up, .slice A2 x.Exports.length c2, .int .i64 x.Next, .slice A4 x.Questions.length c4, .int .i64 x.Asked, .slice A6 x.Answers.length c6]) (hc : CopL base w x A2 c2 A4 c4 A6 c6) (hbase : base ≤ w.heap.size) (hne : ∀ k, (Value.slice A2 x.Exports.length c2).ownBlock = some k → k ≠ B) (hl : x.Exports.length ≤ 1048576) (hl4 : x.Questions.length ≤ 1048576) (hl6 : x.Answers.length ≤ 1048576) :
    Calls Try.prog 27 #[.pointer (some ⟨B, 0, none⟩), .int .i64 e0] w fun e w' => ∃ B2 d2, e = .returned (.int .i64 (putExport2 x e0)) ∧ Blk w' B 30 #[.int .i64 x.Peer, .bool x.Up, .slice B2 (putExport1 x e0).Exports.length d2, .int .i64 (putExport1 x e0).Next, .slice A4 x.Questions.length c4, .int .i64 x.Asked, .slice A6 x.Answers.length c6] ∧ w'.ownsRow base 51 3 (.slice B2 (putExport1 x e0).Exports.length d2) (putExport1 x e0).Exports.length ((putExport1 x e0).Exports.flatMap vsExport) ∧ (∀ k, (Value.slice B2 (putExport1 x e0).Exports.length d2).ownBlock = some k → (Value.slice A2 x.Exports.length c2).ownBlock = some k ∨ w.heap.size ≤ k) ∧ Chg (fun k => k = B ∨ (Value.slice A2 x.Exports.length c2).ownBlock = some k) w w' := by
  have hrd : RdLW w (eLink x) [.int .i64 x.Peer, .bool x.Up, .slice A2 x.Exports.length c2, .int .i64 x.Next, .slice A4 x.Questions.length c4, .int .i64 x.Asked, .slice A6 x.Answers.length c6] := mkrd_eLink (x := x) (ownsRow_rdw (xs := x.Exports) vals_eExport hc.r2 (by omega)) (ownsRow_rdw (xs := x.Questions) vals_eQuestion hc.r4 (by omega)) (ownsRow_rdw (xs := x.Answers) vals_eQuestion hc.r6 (by omega))
  have HOF := Lib.hid (impl_Link_of_calls B _ x e0 w hb hrd)
  have K0 := Lib.hid hb
  have HC := Lib.hid hc
  have HNE := Lib.hid hne
  have l0 := K0.out.lt
  clear hb hc hne hrd
  go_enter Try.func27, Try.ntmps27
  go_wp2_with fail
  refine HOF.out.mono ?_
  rintro e w1 ⟨rfl, hb1⟩
  have K1 := Lib.hid (K0.out.below hb1)
  have HB1 := Lib.hid hb1
  have HO1 := Lib.hid (ownsRow_below HC.out.r2 hb1)
  have z1 := hb1.size
  clear hb1
  obtain ⟨k0, j0⟩ := K1.out.rules
  have l1 := K1.out.lt
  by_cases hge : 0 ≤ idx (fun y : GExport => y.Entity == e0) x.Exports
  · obtain ⟨i, y, hi', hy, hp, hno⟩ := idx_some hge
    have hil : i < x.Exports.length := (List.getElem?_eq_some_iff.1 hy).1
    have hat := exAt_hit hy (by simpa using hp) (fun j z hj hz => by simpa using hno j z hj hz)
    have HP1 := Lib.hid (putExport1_hit hat hy)
    have HP2 := Lib.hid (putExport2_hit hat hy)
    rw [hi']
    obtain ⟨g2, cp2, hA2, hg2, hg2'⟩ := HO1.out.form (by omega)
    injection hA2 with hA2 _ hc2
    subst hA2
    subst hc2
    have c_0 := own_cell (vs := vsExport) (fun _ => rfl) HO1.out rfl hy 0 (.int .i64 y.Pos) rfl
    have c_1 := own_cell (vs := vsExport) (fun _ => rfl) HO1.out rfl hy 1 (.int .i64 y.Entity) rfl
    have c_2 := own_cell (vs := vsExport) (fun _ => rfl) HO1.out rfl hy 2 (.int .i64 y.Count) rfl
    rw [Nat.add_zero] at c_0
    have f_2 := HO1.out.frozenAt (i * 3 + 2)
    have hgB : ¬ g2 = B := fun h => HNE.out g2 (by simp [Value.ownBlock]) h
    have hBg : ¬ B = g2 := fun h => hgB h.symm
    obtain ⟨n, hn⟩ : ∃ n, n = succW y.Count := ⟨_, rfl⟩
    have hw : IntKind.i64.wrap (y.Count + 1) = n := hn.symm
    have hst := HO1.out.stored (i * 3 + 2) (.int .i64 n)
    rw [flat_set_one (vs := vsExport) (sz := 3) (y := oneMore y) (fun _ => rfl) x.Exports i y 2 (.int .i64 n) hy (by omega) (by rw [hn]; rfl)] at hst
    have HST := Lib.hid hst.1
    have HCH : Hid (Chg (fun k => k = g2) w1 (w1.setCell ⟨g2, i * 3 + 2, none⟩ (.int .i64 n))) := (Chg.refl (· = g2) w1).setCell (p := ⟨g2, i * 3 + 2, none⟩) (.inl rfl) _
    have KF := Lib.hid (K1.out.far (p := ⟨g2, i * 3 + 2, none⟩) (by show B ≠ g2; exact hBg) (.int .i64 n))
    clear hy hp hno hi' hge hat hst hn
    go_wp2
    go_ret
    have h1 := HP1.out
    rw [HP2.out, h1]
    have hls : (x.Exports.set i (oneMore y)).length = x.Exports.length := List.length_set
    rw [hls]
    refine ⟨some ⟨g2, 0, none⟩, c2, rfl, KF.out, HST.out, fun k hk => .inl hk, ?_⟩
    exact (Chg.of_below HB1.out _).trans (HCH.out.mono (fun k _ h => .inr (by simp [Value.ownBlock, h])))
  · obtain ⟨hi', hno⟩ := idx_none hge
    have hat := exAt_miss (x := x) (e := e0) (fun z hz => by simpa using hno z hz)
    have HP1 := Lib.hid (putExport1_miss hat)
    have HP2 := Lib.hid (putExport2_miss hat)
    rw [hi']
    obtain ⟨n, hn⟩ : ∃ n, n = succW x.Next := ⟨_, rfl⟩
    have hw : IntKind.i64.wrap (x.Next + 1) = n := hn.symm
    have HN := Lib.hid hn
    clear hno hi' hge hat hn
    go_wp2
    obtain ⟨ws, hws⟩ : ∃ ws, ws = w1.setCell ⟨B, 3, none⟩ (.int .i64 n) := ⟨_, rfl⟩
    rw [← hws]
    have CS : Chg (fun k => k = B) w1 ws := by rw [hws]; exact (Chg.refl (· = B) _).setCell (p := ⟨B, 3, none⟩) (.inl rfl) _
    have KS : Hid (Blk ws B 30 #[.int .i64 x.Peer, .bool x.Up, .slice A2 x.Exports.length c2, .int .i64 n, .slice A4 x.Questions.length c4, .int .i64 x.Asked, .slice A6 x.Answers.length c6]) := by unfold Hid; rw [hws]; exact Blk.eq (K1.out.set_ 3 _) (by simp)
    have HO := Lib.hid (ownsRow_keep HO1.out CS (fun k hk => HNE.out k hk))
    have zs := CS.size
    have HCS := Lib.hid ((Chg.of_below HB1.out (fun k => k = B)).trans CS)
    clear hws CS k0 j0
    obtain ⟨k1, j1⟩ := KS.out.rules
    have l1 := KS.out.lt
    have hlo := HO.out.lt
    refine wp_region_U (fun wq => wq.cell? ⟨B, 2, none⟩ = some (.slice A2 x.Exports.length c2) ∧ wq.cell? ⟨B, 3, none⟩ = some (.int .i64 n)) [0, 1, 2, 3, 4, 5, 6, 7, 8, 9, 10, 11, 12, 13] (by kernel_rfl) ?_
    have hH_ := (show ws.drew.cell? ⟨B, 2, none⟩ = _ ∧ ws.drew.cell? ⟨B, 3, none⟩ = _ from ⟨k1 2, k1 3⟩)
    refine wpAnyU_take (i := 0) (v := ?_) rfl (by kernel_rfl) (by kernel_rfl) (by kernel_rfl) (by kernel_rfl) (fun _ _ _ h => h) (Or.inl ⟨by rfl, ?_⟩) hH_ ?_
    rotate_left
    · (intro w hSw; (try dsimp only at hSw); go_simp <;> with_reducible rfl)
    simp only [Act.put, List.setIfInBounds_toArray, List.set_cons_zero, List.set_cons_succ]
    refine wpAnyU_take (i := 1) (v := ?_) rfl (by kernel_rfl) (by kernel_rfl) (by kernel_rfl) (by kernel_rfl) (fun _ _ _ h => h) (Or.inl ⟨by rfl, ?_⟩) hH_ ?_
    rotate_left
    · (intro w hSw; (try dsimp only at hSw); go_simp <;> with_reducible rfl)
    simp only [Act.put, List.setIfInBounds_toArray, List.set_cons_zero, List.set_cons_succ]
    refine wpAnyU_take (i := 2) (v := ?_) rfl (by kernel_rfl) (by kernel_rfl) (by kernel_rfl) (by kernel_rfl) (fun _ _ _ h => h) (Or.inl ⟨by rfl, ?_⟩) hH_ ?_
    rotate_left
    · (intro w hSw; (try dsimp only at hSw); go_simp <;> with_reducible rfl)
    simp only [Act.put, List.setIfInBounds_toArray, List.set_cons_zero, List.set_cons_succ]
    refine wpAnyU_take (i := 3) (v := ?_) rfl (by kernel_rfl) (by kernel_rfl) (by kernel_rfl) (by kernel_rfl) (fun _ _ _ h => h) (Or.inl ⟨by rfl, ?_⟩) hH_ ?_
    rotate_left
    · (intro w hSw; (try dsimp only at hSw); go_simp <;> with_reducible rfl)
    simp only [Act.put, List.setIfInBounds_toArray, List.set_cons_zero, List.set_cons_succ]
    refine wpAnyU_take (i := 4) (v := ?_) rfl (by kernel_rfl) (by kernel_rfl) (by kernel_rfl) (by kernel_rfl) (fun _ _ _ h => h) (Or.inl ⟨by rfl, ?_⟩) hH_ ?_
    rotate_left
    · (intro w hSw; (try dsimp only at hSw); go_simp <;> with_reducible rfl)
    simp only [Act.put, List.setIfInBounds_toArray, List.set_cons_zero, List.set_cons_succ]
    refine wpAnyU_take (i := 5) (v := ?_) rfl (by kernel_rfl) (by kernel_rfl) (by kernel_rfl) (by kernel_rfl) (fun _ _ _ h => h) (Or.inl ⟨by rfl, ?_⟩) hH_ ?_
    rotate_left
    · (intro w hSw; (try dsimp only at hSw); go_simp <;> with_reducible rfl)
    simp only [Act.put, List.setIfInBounds_toArray, List.set_cons_zero, List.set_cons_succ]
    refine wpAnyU_take (i := 6) (v := ?_) rfl (by kernel_rfl) (by kernel_rfl) (by kernel_rfl) (by kernel_rfl) (fun _ _ _ h => h) (Or.inl ⟨by rfl, ?_⟩) hH_ ?_
    rotate_left
    · (intro w hSw; (try dsimp only at hSw); go_simp <;> with_reducible rfl)
    simp only [Act.put, List.setIfInBounds_toArray, List.set_cons_zero, List.set_cons_succ]
    refine wpAnyU_take (i := 7) (v := ?_) rfl (by kernel_rfl) (by kernel_rfl) (by kernel_rfl) (by kernel_rfl) (fun _ _ _ h => h) (Or.inl ⟨by rfl, ?_⟩) hH_ ?_
    rotate_left
    · (intro w hSw; (try dsimp only at hSw); go_simp <;> with_reducible rfl)
    simp only [Act.put, List.setIfInBounds_toArray, List.set_cons_zero, List.set_cons_succ]
    refine wpAnyU_take (i := 8) (v := ?_) rfl (by kernel_rfl) (by kernel_rfl) (by kernel_rfl) (by kernel_rfl) (fun _ _ _ h => h) (Or.inl ⟨by rfl, ?_⟩) hH_ ?_
    rotate_left
    · (intro w hSw; (try dsimp only at hSw); go_simp <;> with_reducible rfl)
    simp only [Act.put, List.setIfInBounds_toArray, List.set_cons_zero, List.set_cons_succ]
    refine wpAnyU_take (i := 9) (v := ?_) rfl (by kernel_rfl) (by kernel_rfl) (by kernel_rfl) (by kernel_rfl) (fun _ _ _ h => h) (Or.inl ⟨by rfl, ?_⟩) hH_ ?_
    rotate_left
    · (intro w hSw; (try dsimp only at hSw); go_simp <;> with_reducible rfl)
    simp only [Act.put, List.setIfInBounds_toArray, List.set_cons_zero, List.set_cons_succ]
    refine wpAnyU_take (i := 10) (v := ?_) rfl (by kernel_rfl) (by kernel_rfl) (by kernel_rfl) (by kernel_rfl) (fun _ _ _ h => h) (Or.inl ⟨by rfl, ?_⟩) hH_ ?_
    rotate_left
    · (intro w hSw; (try dsimp only at hSw); go_simp <;> with_reducible rfl)
    simp only [Act.put, List.setIfInBounds_toArray, List.set_cons_zero, List.set_cons_succ]
    refine wpAnyU_one (i := 11) (by kernel_rfl) rfl (fun K hK => ?_)
    go_simp
    refine hK.out _ _ ?_ (fun hH1_ => ?_)
    · exact ⟨cell_alloc_keep (k1 2), cell_alloc_keep (k1 3)⟩
    clear hK K hH_
    have hH_ := hH1_
    clear hH1_
    refine wpAnyU_one (i := 12) (by kernel_rfl) rfl (fun K hK => ?_)
    refine step_append_lies _ (by rfl) _ _ _ (by rfl) base 51 _ _ 3 24 Try.underlying27 rfl rfl rfl rfl rfl (by omega) _ x.Exports.length _ (by rfl) ((HO.out.alloc _).drew) ⟨ws.heap.size, 0, none⟩ 1 1 [.int .i64 n, .int .i64 e0, .int .i64 1] (by rfl) (by rfl) (World.news_of_block (cs := #[.int .i64 n, .int .i64 e0, .int .i64 1]) (t := 51) (fr := (0, 0)) (heap_alloc_new ws _)) (by simp [Value.oneCell']) (by omega) (by have h := (by decide : maxLen = 9223372036854775807); omega) (by omega) (by simp; omega) (ws.heap.size + 1) (by simp) ?_
    intro gg cap w2 hown hgrow hat hlt2
    have KW2 : Hid (Blk w2 B 30 #[.int .i64 x.Peer, .bool x.Up, .slice A2 x.Exports.length c2, .int .i64 n, .slice A4 x.Questions.length c4, .int .i64 x.Asked, .slice A6 x.Answers.length c6]) := Lib.hid (((KS.out.alloc _).drew).chg (grown_chg hgrow) (fun h => HNE.out B h rfl))
    obtain ⟨k2, j2⟩ := KW2.out.rules
    have l2 := KW2.out.lt
    refine hK.out _ _ ?_ (fun hH1_ => ?_)
    · exact ⟨cell_grown hgrow (cell_alloc_keep (k1 2)) (fun k hk => HNE.out k hk), cell_grown hgrow (cell_alloc_keep (k1 3)) (fun k hk => HNE.out k hk)⟩
    clear hK K hH_
    have hH_ := hH1_
    clear hH1_
    refine wpAnyU_one' (i := 13) (by kernel_rfl) rfl (by kernel_rfl) (fun K hK => ?_)
    go_simp
    refine hK.out _ _ ?_
    clear hK K
    refine wpAnyU_one' (i := 14) (by kernel_rfl) rfl (by kernel_rfl) (fun K hK => ?_)
    go_simp
    refine hK.out _ _ ?_
    clear hK K
    refine wpAnyU_one' (i := 15) (by kernel_rfl) rfl (by kernel_rfl) (fun K hK => ?_)
    go_simp
    refine hK.out _ _ ?_
    clear hK K
    refine wpAnyU_done (by kernel_rfl) ?_ _
    have C2 : Chg (fun k => k = B ∨ (Value.slice A2 x.Exports.length c2).ownBlock = some k) w w2 := (HCS.out.mono (fun k _ h => .inl h)).trans ((((Chg.refl _ ws).alloc _).drew).trans ((grown_chg hgrow).mono (fun k _ h => .inr h)))
    have CF := Lib.hid (C2.setCell (p := ⟨B, 2, none⟩) (.inl (.inl rfl)) (.slice (some ⟨gg, 0, none⟩) (x.Exports.length + 1) cap))
    have KF := Lib.hid (Blk.eq (KW2.out.set_ 2 (.slice (some ⟨gg, 0, none⟩) (x.Exports.length + 1) cap)) (by simp) : Blk _ B _ #[.int .i64 x.Peer, .bool x.Up, .slice (some ⟨gg, 0, none⟩) (x.Exports.length + 1) cap, .int .i64 n, .slice A4 x.Questions.length c4, .int .i64 x.Asked, .slice A6 x.Answers.length c6])
    have HAT := Lib.hid hat
    have OF := Lib.hid (ownsRow_keep hown (T := fun k => k = B) ((Chg.refl (· = B) w2).setCell (p := ⟨B, 2, none⟩) (.inl rfl) (.slice (some ⟨gg, 0, none⟩) (x.Exports.length + 1) cap)) (fun k hk => by
      have hk' : gg = k := by simpa [Value.ownBlock] using hk
      subst hk'
      rcases hat with h | h
      · exact HNE.out _ h
      · omega))
    have hzz : w.heap.size ≤ ws.heap.size := by omega
    clear hown hgrow hat C2
    go_wp2
    go_ret
    have h1 := HP1.out
    have h2 := HN.out
    subst h2
    rw [HP2.out, h1]
    have hls : (x.Exports ++ [(⟨succW x.Next, e0, 1⟩ : GExport)]).length = x.Exports.length + 1 := by simp
    rw [hls]
    refine ⟨_, cap, rfl, KF.out, ?_, fun k hk => by
      have hk' : gg = k := by simpa [Value.ownBlock] using hk
      subst hk'
      rcases HAT.out with h | h
      · exact .inl h
      · exact .inr (by omega), CF.out⟩
    rw [List.flatMap_append]
    exact OF.out
set_option maxHeartbeats 3200000 in
set_option maxRecDepth 100000 in
theorem impl_PutExport_calls (us : List Value) (x : GLink) (p : Int) (w : World) (hr : RdLW w (eLink x) us) (hz : sizL (eLink x) ≤ 1048576) (hi : I64 p) :
    Calls Try.prog 13 #[.agg us.toArray, .int .i64 p] w fun e w' => ∃ us' fp, e = .returned (.tuple #[.agg us'.toArray, .int .i64 (putExport2 x p)]) ∧ OwnL w' (eLink (putExport1 x p)) us' fp ∧ Fresh w fp ∧ Below w.heap.size w w' := by
  have hcon := impl_Link_copied_calls us x ((w.alloc (.cells us.toArray 30)).alloc (.cells #[.int .i64 0, .bool false, .slice none 0 0, .int .i64 0, .slice none 0 0, .int .i64 0, .slice none 0 0] 30)) (hr.below (((Below.refl _ _).alloc (Nat.le_refl _) _).alloc (by simp) _)) hz
  obtain ⟨v2, v4, v6, rfl, h2, h4, h6⟩ := rd_eLink hr
  have hzq := hz
  rw [siz_eLink] at hzq
  have HC := Lib.hid hcon
  clear hcon hr h2 h4 h6 hz
  obtain ⟨zE, zN, hz1, hzl⟩ := putExport1_rest x p
  rw [hz1]
  obtain ⟨pos, hpos⟩ : ∃ q, q = putExport2 x p := ⟨_, rfl⟩
  rw [← hpos]
  have HZ1 := Lib.hid hz1
  have HPOS := Lib.hid hpos
  clear hz1 hpos
  go_enter Try.func13, Try.ntmps13
  go_wp2_with fail
  refine HC.out.mono ?_
  rintro e w1 ⟨B2, d2, B4, d4, B6, d6, rfl, hc, hb1⟩
  have z1 : w.heap.size + 2 ≤ w1.heap.size := by have := hb1.size; simpa using this
  have K1 : Hid (Blk w1 (w.heap.size + 1) 30 #[.int .i64 0, .bool false, .slice none 0 0, .int .i64 0, .slice none 0 0, .int .i64 0, .slice none 0 0]) := Lib.hid ((Blk.made (by simp)).below hb1)
  have HB1 := Lib.hid ((((Below.refl w.heap.size w).alloc (Nat.le_refl _) _).alloc (by simp) _).trans (hb1.mono (by simp only [size_alloc]; omega)))
  have HCL : Hid (CopL (w.heap.size + 2) w1 x B2 d2 B4 d4 B6 d6) := ⟨hc.r2.mono (by simp only [size_alloc]; omega), hc.r4.mono (by simp only [size_alloc]; omega), hc.r6.mono (by simp only [size_alloc]; omega), hc.d24, hc.d26, hc.d46⟩
  obtain ⟨k1, j1⟩ := K1.out.rules
  have l1 := K1.out.lt
  have L2 := HCL.out.r2.lt
  have L4 := HCL.out.r4.lt
  have L6 := HCL.out.r6.lt
  have hput := impl_Link_put_calls w1.heap.size (w.heap.size + 2) x p B2 B4 B6 d2 d4 d6 (w1.alloc (.cells #[.int .i64 x.Peer, .bool x.Up, .slice B2 x.Exports.length d2, .int .i64 x.Next, .slice B4 x.Questions.length d4, .int .i64 x.Asked, .slice B6 x.Answers.length d6] 30)) (Blk.new _ _ _) ⟨HCL.out.r2.alloc _, HCL.out.r4.alloc _, HCL.out.r6.alloc _, HCL.out.d24, HCL.out.d26, HCL.out.d46⟩ (by simp; omega) (fun k hk => by have := L2 k hk; omega) (by omega) (by omega) (by omega)
  rw [HZ1.out] at hput
  dsimp only at hput
  rw [← HPOS.out] at hput
  have HPUT := Lib.hid hput
  clear hc hb1 hput
  go_wp2_with fail
  refine HPUT.out.mono ?_
  rintro e w2 ⟨B5, d5, rfl, kb, o5, a5, c5⟩
  have z2 : w1.heap.size < w2.heap.size := by have := c5.size; simp only [size_alloc] at this; omega
  have C2 : Chg (fun k => k = w1.heap.size ∨ (Value.slice B2 x.Exports.length d2).ownBlock = some k) w1 w2 := ((Chg.refl _ w1).alloc _).trans c5
  have KO := Lib.hid kb
  have K12 := Lib.hid (K1.out.chg C2 (fun h => by rcases h with h | h; (omega); (have := L2 _ h; omega)))
  have HB2 := Lib.hid (below_chg HB1.out C2 HB1.out.size (fun k h => by rcases h with h | h; (omega); (have := L2 _ h; omega)))
  have Q4 := Lib.hid (ownsRow_keep HCL.out.r4 C2 (fun k h1 h2 => by rcases h2 with h2 | h2; (have := L4 k h1; omega); exact HCL.out.d24 k h2 h1))
  have Q6 := Lib.hid (ownsRow_keep HCL.out.r6 C2 (fun k h1 h2 => by rcases h2 with h2 | h2; (have := L6 k h1; omega); exact HCL.out.d26 k h2 h1))
  have Q2 := Lib.hid o5
  have A5 : Hid (∀ k, (Value.slice B5 zE.length d5).ownBlock = some k → (Value.slice B2 x.Exports.length d2).ownBlock = some k ∨ w1.heap.size + 1 ≤ k) := fun k hk => by
    have := a5 k hk
    simp only [size_alloc] at this
    exact this
  have HL4 := Lib.hid L4
  have HL2 := Lib.hid L2
  have HL6 := Lib.hid L6
  clear kb o5 a5 c5 C2 k1 j1 l1 L2 L4 L6
  obtain ⟨k1, j1⟩ := K12.out.rules
  obtain ⟨k2, j2⟩ := KO.out.rules
  have l1 := K12.out.lt
  have l2 := KO.out.lt
  go_wp2
  refine post_cell2 (w0 := w2) (fun k => k = w.heap.size + 1) Try.results13 (w.heap.size + 1) #[.int .i64 x.Peer, .bool x.Up, .slice B5 zE.length d5, .int .i64 zN, .slice B4 x.Questions.length d4, .int .i64 x.Asked, .slice B6 x.Answers.length d6] _ _ rfl (Blk.eq (((((((K12.out.set_ 0 _).set_ 1 _).set_ 2 _).set_ 3 _).set_ 4 _).set_ 5 _).set_ 6 _) (by simp)) Try.underlying30 rfl (by kernel_rfl) rfl rfl ((((((((Chg.refl (fun k => k = w.heap.size + 1) w2).setCell (p := ⟨w.heap.size + 1, 0, none⟩) (.inl rfl) _).setCell (p := ⟨w.heap.size + 1, 1, none⟩) (.inl rfl) _).setCell (p := ⟨w.heap.size + 1, 2, none⟩) (.inl rfl) _).setCell (p := ⟨w.heap.size + 1, 3, none⟩) (.inl rfl) _).setCell (p := ⟨w.heap.size + 1, 4, none⟩) (.inl rfl) _).setCell (p := ⟨w.heap.size + 1, 5, none⟩) (.inl rfl) _).setCell (p := ⟨w.heap.size + 1, 6, none⟩) (.inl rfl) _) ?_
  intro W hW
  have P2 := ownsRow_keep Q2.out hW (fun k hk => by rcases A5.out k hk with h | h; (have := HL2.out k h; omega); omega)
  have P4 := ownsRow_keep Q4.out hW (fun k hk => by have := HL4.out k hk; omega)
  have P6 := ownsRow_keep Q6.out hW (fun k hk => by have := HL6.out k hk; omega)
  obtain ⟨f2, o2, n2, g2⟩ := ownRow_own' (xs := zE) vals_eExport P2 (by omega)
  obtain ⟨f4, o4, n4, g4⟩ := ownRow_own' vals_eQuestion P4 (by omega)
  obtain ⟨f6, o6, n6, g6⟩ := ownRow_own' vals_eQuestion P6 (by omega)
  refine ⟨_, f2 ++ (f4 ++ f6), rfl, mkown_eLink (x := ⟨x.Peer, x.Up, zE, zN, x.Questions, x.Asked, x.Answers⟩) o2 o4 o6, ⟨?_, ?_⟩, below_chg HB2.out hW HB2.out.size (fun i hi => by omega)⟩
  · refine nodup3 n2 n4 n6 ?_ ?_ ?_
    · intro k h1 h2
      have e1 := (g4 k h2).2
      rcases A5.out k (g2 k h1).2 with e | e
      · exact HCL.out.d24 k e e1
      · have := HL4.out k e1; omega
    · intro k h1 h2
      have e1 := (g6 k h2).2
      rcases A5.out k (g2 k h1).2 with e | e
      · exact HCL.out.d26 k e e1
      · have := HL6.out k e1; omega
    · intro k h1 h2
      exact HCL.out.d46 k (g4 k h1).2 (g6 k h2).2
  · intro g hg
    rw [List.mem_append, List.mem_append] at hg
    rcases hg with hg | hg | hg
    · have := (g2 g hg).1; omega
    · have := (g4 g hg).1; omega
    · have := (g6 g hg).1; omega

end Go.Proofs.Ytlpjbipgocgioaa
