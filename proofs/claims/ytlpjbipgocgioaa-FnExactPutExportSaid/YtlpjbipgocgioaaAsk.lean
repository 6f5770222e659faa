import Derived.Test.YtlpjbipgocgioaaProg
import Derived.Test.YtlpjbipgocgioaaTypes
import Derived.StillTailTactics
import Derived.Deep.RegionHeld3
import Derived.Laws.IdiomStrings
import Derived.Test.YtlpjbipgocgioaaAppend
import Derived.Laws.StructEq
import Derived.Lib.SliceRun
import Derived.Shelf.RegionOpenPlain
import Derived.Test.YtlpjbipgocgioaaLink
import Derived.Test.YtlpjbipgocgioaaSlices
import Derived.Test.YtlpjbipgocgioaaOrders
namespace Go.Proofs.Ytlpjbipgocgioaa
open Go.RowKit
set_option linter.unusedVariables false
set_option linter.unusedSimpArgs false

theorem nodup3 {a b c : List Nat} (ha : a.Nodup) (hb : b.Nodup) (hc : c.Nodup) (hab : ∀ k, k ∈ a → k ∈ b → False) (hac : ∀ k, k ∈ a → k ∈ c → False) (hbc : ∀ k, k ∈ b → k ∈ c → False) : (a ++ (b ++ c)).Nodup := by
  rw [List.nodup_append, List.nodup_append]
  refine ⟨ha, ⟨hb, hc, fun x hx y hy e => hbc x hx (e ▸ hy)⟩, fun x hx y hy e => ?_⟩
  subst e
  rcases List.mem_append.1 hy with h | h
  · exact hab x hx h
  · exact hac x hx h
set_option maxHeartbeats 3200000 in
set_option maxRecDepth 100000 in
theorem impl_Link_ask_calls (B base : Nat) (f0 f3 f5 : Int) (f1 : Bool) (A2 A6 : Option Addr) (n2 c2 n6 c6 : Nat) (B4 : Option Addr) (d4 : Nat) (qs : List GQuestion) (p : Int) (w : World)
    (hb : Blk w B 30 #[.int .i64 f0, .bool f1, .slice A2 n2 c2, .int .i64 f3, .slice B4 qs.length d4, .int .i64 f5, .slice A6 n6 c6])
    (ho : w.ownsRow base 41 2 (.slice B4 qs.length d4) qs.length (qs.flatMap vsQuestion)) (hbase : base ≤ w.heap.size) (hne : ∀ k, (Value.slice B4 qs.length d4).ownBlock = some k → k ≠ B) (hl : qs.length ≤ 1048576) :
    Calls Try.prog 20 #[.pointer (some ⟨B, 0, none⟩), .int .i64 p] w fun e w' => ∃ B5 d5, e = .returned (.int .i64 (succW f5)) ∧ Blk w' B 30 #[.int .i64 f0, .bool f1, .slice A2 n2 c2, .int .i64 f3, .slice B5 (qs.length + 1) d5, .int .i64 (succW f5), .slice A6 n6 c6] ∧ w'.ownsRow base 41 2 (.slice B5 (qs.length + 1) d5) (qs.length + 1) (qs.flatMap vsQuestion ++ [.int .i64 (succW f5), .int .i64 p]) ∧ (∀ k, (Value.slice B5 (qs.length + 1) d5).ownBlock = some k → (Value.slice B4 qs.length d4).ownBlock = some k ∨ w.heap.size ≤ k) ∧ Chg (fun k => k = B ∨ (Value.slice B4 qs.length d4).ownBlock = some k) w w' := by
  obtain ⟨n, hn⟩ : ∃ n, n = succW f5 := ⟨_, rfl⟩
  have hw : IntKind.i64.wrap (f5 + 1) = n := hn.symm
  rw [← hn]
  clear hn
  have K0 := Lib.hid hb
  have HO0 := Lib.hid ho
  have HNE := Lib.hid hne
  obtain ⟨k0, j0⟩ := K0.out.rules
  have l0 := K0.out.lt
  clear hb ho hne
  go_enter Try.func20, Try.ntmps20
  go_wp2
  obtain ⟨ws, hws⟩ : ∃ ws, ws = w.setCell ⟨B, 5, none⟩ (.int .i64 n) := ⟨_, rfl⟩
  rw [← hws]
  have CS : Chg (fun k => k = B) w ws := by rw [hws]; exact (Chg.refl (· = B) _).setCell (p := ⟨B, 5, none⟩) (.inl rfl) _
  have KS : Hid (Blk ws B 30 #[.int .i64 f0, .bool f1, .slice A2 n2 c2, .int .i64 f3, .slice B4 qs.length d4, .int .i64 n, .slice A6 n6 c6]) := by unfold Hid; rw [hws]; exact Blk.eq (K0.out.set_ 5 _) (by simp)
  have HO := Lib.hid (ownsRow_keep HO0.out CS (fun k hk => HNE.out k hk))
  have zs := CS.size
  have HCS := Lib.hid CS
  clear hws CS k0 j0
  obtain ⟨k1, j1⟩ := KS.out.rules
  have l1 := KS.out.lt
  have hlo := HO.out.lt
  refine wp_region_U (fun wq => wq.cell? ⟨B, 4, none⟩ = some (.slice B4 qs.length d4) ∧ wq.cell? ⟨B, 5, none⟩ = some (.int .i64 n)) [0, 1, 2, 3, 4, 5, 6, 7, 8, 9, 10, 11, 12, 13] (by kernel_rfl) ?_
  have hH_ := (show ws.drew.cell? ⟨B, 4, none⟩ = _ ∧ ws.drew.cell? ⟨B, 5, none⟩ = _ from ⟨k1 4, k1 5⟩)
  refine wpAnyU_take (i := 0) (v := ?_) rfl (by kernel_rfl) (by kernel_rfl) (by kernel_rfl) (by kernel_rfl) (fun _ _ _ h => h) (Or.inl ⟨by rfl, ?_⟩) hH_ ?_
  rotate_left
  · (intro w hSw; (try dsimp only at hSw); go_simp <;> with_reducible rfl)
  simp only [Act.put, List.setIfInBounds_toArray, List.set_cons_zero, List.set_cons_succ]
  refine wpAnyU_take (i := 1) (v := ?_) rfl (by kernel_rfl) (by kernel_rfl) (by kernel_rfl) (by kernel_rfl) (fun _ _ _ h => h) (Or.inl ⟨by rfl, ?_⟩) hH_ ?_
  rotate_left
  · (intro w hSw; (try dsimp only at hSw); go_simp <;> with_reducible rfl)
  simp only [Act.put, List.setIfInBounds_toArray, List.set_cons_zero, List.set_cons_succ]
  refine wpAnyU_take (i := 2) (v := ?_) rfl (by kernel_rfl) (by kernel_rfl) (by kernel_rfl) (by kernel_rfl) (fun _ _ _ h => h) (Or.inl ⟨by rfl, ?_⟩) hH_ ?_
  rotate_left
  · (intro w hSw; (try dsimp only at hSw); go_simp <;> with_reducible rfl)
  simp only [Act.put, List.setIfInBounds_toArray, List.set_cons_zero, List.set_cons_succ]
  refine wpAnyU_take (i := 3) (v := ?_) rfl (by kernel_rfl) (by kernel_rfl) (by kernel_rfl) (by kernel_rfl) (fun _ _ _ h => h) (Or.inl ⟨by rfl, ?_⟩) hH_ ?_
  rotate_left
  · (intro w hSw; (try dsimp only at hSw); go_simp <;> with_reducible rfl)
  simp only [Act.put, List.setIfInBounds_toArray, List.set_cons_zero, List.set_cons_succ]
  refine wpAnyU_take (i := 4) (v := ?_) rfl (by kernel_rfl) (by kernel_rfl) (by kernel_rfl) (by kernel_rfl) (fun _ _ _ h => h) (Or.inl ⟨by rfl, ?_⟩) hH_ ?_
  rotate_left
  · (intro w hSw; (try dsimp only at hSw); go_simp <;> with_reducible rfl)
  simp only [Act.put, List.setIfInBounds_toArray, List.set_cons_zero, List.set_cons_succ]
  refine wpAnyU_take (i := 5) (v := ?_) rfl (by kernel_rfl) (by kernel_rfl) (by kernel_rfl) (by kernel_rfl) (fun _ _ _ h => h) (Or.inl ⟨by rfl, ?_⟩) hH_ ?_
  rotate_left
  · (intro w hSw; (try dsimp only at hSw); go_simp <;> with_reducible rfl)
  simp only [Act.put, List.setIfInBounds_toArray, List.set_cons_zero, List.set_cons_succ]
  refine wpAnyU_take (i := 6) (v := ?_) rfl (by kernel_rfl) (by kernel_rfl) (by kernel_rfl) (by kernel_rfl) (fun _ _ _ h => h) (Or.inl ⟨by rfl, ?_⟩) hH_ ?_
  rotate_left
  · (intro w hSw; (try dsimp only at hSw); go_simp <;> with_reducible rfl)
  simp only [Act.put, List.setIfInBounds_toArray, List.set_cons_zero, List.set_cons_succ]
  refine wpAnyU_take (i := 7) (v := ?_) rfl (by kernel_rfl) (by kernel_rfl) (by kernel_rfl) (by kernel_rfl) (fun _ _ _ h => h) (Or.inl ⟨by rfl, ?_⟩) hH_ ?_
  rotate_left
  · (intro w hSw; (try dsimp only at hSw); go_simp <;> with_reducible rfl)
  simp only [Act.put, List.setIfInBounds_toArray, List.set_cons_zero, List.set_cons_succ]
  refine wpAnyU_take (i := 8) (v := ?_) rfl (by kernel_rfl) (by kernel_rfl) (by kernel_rfl) (by kernel_rfl) (fun _ _ _ h => h) (Or.inl ⟨by rfl, ?_⟩) hH_ ?_
  rotate_left
  · (intro w hSw; (try dsimp only at hSw); go_simp <;> with_reducible rfl)
  simp only [Act.put, List.setIfInBounds_toArray, List.set_cons_zero, List.set_cons_succ]
  refine wpAnyU_take (i := 9) (v := ?_) rfl (by kernel_rfl) (by kernel_rfl) (by kernel_rfl) (by kernel_rfl) (fun _ _ _ h => h) (Or.inl ⟨by rfl, ?_⟩) hH_ ?_
  rotate_left
  · (intro w hSw; (try dsimp only at hSw); go_simp <;> with_reducible rfl)
  simp only [Act.put, List.setIfInBounds_toArray, List.set_cons_zero, List.set_cons_succ]
  refine wpAnyU_take (i := 10) (v := ?_) rfl (by kernel_rfl) (by kernel_rfl) (by kernel_rfl) (by kernel_rfl) (fun _ _ _ h => h) (Or.inl ⟨by rfl, ?_⟩) hH_ ?_
  rotate_left
  · (intro w hSw; (try dsimp only at hSw); go_simp <;> with_reducible rfl)
  simp only [Act.put, List.setIfInBounds_toArray, List.set_cons_zero, List.set_cons_succ]
  refine wpAnyU_one (i := 11) (by kernel_rfl) rfl (fun K hK => ?_)
  go_simp
  refine hK.out _ _ ?_ (fun hH1_ => ?_)
  · exact ⟨cell_alloc_keep (k1 4), cell_alloc_keep (k1 5)⟩
  clear hK K hH_
  have hH_ := hH1_
  clear hH1_
  refine wpAnyU_one (i := 12) (by kernel_rfl) rfl (fun K hK => ?_)
  refine step_append_lies _ (by rfl) _ _ _ (by rfl) base 41 _ _ 2 16 Try.underlying28 rfl rfl rfl rfl rfl (by omega) _ qs.length _ (by rfl) ((HO.out.alloc _).drew) ⟨ws.heap.size, 0, none⟩ 1 1 [.int .i64 n, .int .i64 p] (by rfl) (by rfl) (World.news_of_block (cs := #[.int .i64 n, .int .i64 p]) (t := 41) (fr := (0, 0)) (heap_alloc_new ws _)) (by simp [Value.oneCell']) (by omega) (by have h := (by decide : maxLen = 9223372036854775807); omega) (by omega) (by simp; omega) (ws.heap.size + 1) (by simp) ?_
  intro gg cap w2 hown hgrow hat hlt2
  have KW2 : Hid (Blk w2 B 30 #[.int .i64 f0, .bool f1, .slice A2 n2 c2, .int .i64 f3, .slice B4 qs.length d4, .int .i64 n, .slice A6 n6 c6]) := Lib.hid (((KS.out.alloc _).drew).chg (grown_chg hgrow) (fun h => HNE.out B h rfl))
  obtain ⟨k2, j2⟩ := KW2.out.rules
  have l2 := KW2.out.lt
  refine hK.out _ _ ?_ (fun hH1_ => ?_)
  · exact ⟨cell_grown hgrow (cell_alloc_keep (k1 4)) (fun k hk => HNE.out k hk), cell_grown hgrow (cell_alloc_keep (k1 5)) (fun k hk => HNE.out k hk)⟩
  clear hK K hH_
  have hH_ := hH1_
  clear hH1_
  refine wpAnyU_one' (i := 13) (by kernel_rfl) rfl (by kernel_rfl) (fun K hK => ?_)
  go_simp
  refine hK.out _ _ ?_
  clear hK K
  refine wpAnyU_one' (i := 14) (by kernel_rfl) rfl (by kernel_rfl) (fun K hK => ?_)
  go_simp
  refine hK.out _ _ ?_
  clear hK K
  refine wpAnyU_one' (i := 15) (by kernel_rfl) rfl (by kernel_rfl) (fun K hK => ?_)
  go_simp
  refine hK.out _ _ ?_
  clear hK K
  refine wpAnyU_done (by kernel_rfl) ?_ _
  have C2 : Chg (fun k => k = B ∨ (Value.slice B4 qs.length d4).ownBlock = some k) w w2 := (HCS.out.mono (fun k _ h => .inl h)).trans ((((Chg.refl _ ws).alloc _).drew).trans ((grown_chg hgrow).mono (fun k _ h => .inr h)))
  have CF := Lib.hid (C2.setCell (p := ⟨B, 4, none⟩) (.inl (.inl rfl)) (.slice (some ⟨gg, 0, none⟩) (qs.length + 1) cap))
  have KF := Lib.hid (Blk.eq (KW2.out.set_ 4 (.slice (some ⟨gg, 0, none⟩) (qs.length + 1) cap)) (by simp) : Blk _ B _ #[.int .i64 f0, .bool f1, .slice A2 n2 c2, .int .i64 f3, .slice (some ⟨gg, 0, none⟩) (qs.length + 1) cap, .int .i64 n, .slice A6 n6 c6])
  have HAT := Lib.hid hat
  have OF := Lib.hid (ownsRow_keep hown (T := fun k => k = B) ((Chg.refl (· = B) w2).setCell (p := ⟨B, 4, none⟩) (.inl rfl) (.slice (some ⟨gg, 0, none⟩) (qs.length + 1) cap)) (fun k hk => by
    have hk' : gg = k := by simpa [Value.ownBlock] using hk
    subst hk'
    rcases hat with h | h
    · exact HNE.out _ h
    · omega))
  have hzz : w.heap.size ≤ ws.heap.size := zs
  clear hown hgrow hat C2
  go_wp2
  go_ret
  exact ⟨_, cap, rfl, KF.out, OF.out, fun k hk => by
    have hk' : gg = k := by simpa [Value.ownBlock] using hk
    subst hk'
    rcases HAT.out with h | h
    · exact .inl h
    · exact .inr (by omega), CF.out⟩
set_option maxHeartbeats 3200000 in
set_option maxRecDepth 100000 in
theorem impl_Link_copied_calls (us : List Value) (x : GLink) (w : World) (hr : RdLW w (eLink x) us) (hz : sizL (eLink x) ≤ 1048576) :
    Calls Try.prog 19 #[.agg us.toArray] w fun e w' => ∃ B2 d2 B4 d4 B6 d6, e = .returned (.agg #[.int .i64 x.Peer, .bool x.Up, .slice B2 x.Exports.length d2, .int .i64 x.Next, .slice B4 x.Questions.length d4, .int .i64 x.Asked, .slice B6 x.Answers.length d6]) ∧ CopL w.heap.size w' x B2 d2 B4 d4 B6 d6 ∧ Below w.heap.size w w' := by
  rw [siz_eLink] at hz
  obtain ⟨v2, v4, v6, rfl, h2, h4, h6⟩ := rd_eLink hr
  obtain ⟨A2, c2, rfl, -⟩ := h2.slice
  obtain ⟨A4, c4, rfl, -⟩ := h4.slice
  obtain ⟨A6, c6, rfl, -⟩ := h6.slice
  have HR2 := Lib.hid h2
  have HR4 := Lib.hid h4
  have HR6 := Lib.hid h6
  have hz2 : x.Exports.length ≤ 1048576 := by omega
  have hz4 : x.Questions.length ≤ 1048576 := by omega
  have hz6 : x.Answers.length ≤ 1048576 := by omega
  clear hr h2 h4 h6 hz
  go_enter Try.func19, Try.ntmps19
  go_wp2
  obtain ⟨ws, hws⟩ : ∃ q, q = (w.alloc (.cells #[.int .i64 x.Peer, .bool x.Up, .slice A2 x.Exports.length c2, .int .i64 x.Next, .slice A4 x.Questions.length c4, .int .i64 x.Asked, .slice A6 x.Answers.length c6] 30)).alloc (.cells #[.int .i64 0, .bool false, .slice none 0 0, .int .i64 0, .slice none 0 0, .int .i64 0, .slice none 0 0] 30) := ⟨_, rfl⟩
  rw [← hws]
  have HK0 : Hid (Blk ws w.heap.size 30 #[.int .i64 x.Peer, .bool x.Up, .slice A2 x.Exports.length c2, .int .i64 x.Next, .slice A4 x.Questions.length c4, .int .i64 x.Asked, .slice A6 x.Answers.length c6]) := by unfold Hid; rw [hws]; exact (Blk.new _ _ _).alloc _
  have HR0 : Hid (Blk ws (w.heap.size + 1) 30 #[.int .i64 0, .bool false, .slice none 0 0, .int .i64 0, .slice none 0 0, .int .i64 0, .slice none 0 0]) := by unfold Hid; rw [hws]; exact Blk.made (by simp)
  have HB : Hid (Below w.heap.size w ws) := by unfold Hid; rw [hws]; exact ((Below.refl _ _).alloc (Nat.le_refl _) _).alloc (by simp) _
  have zs : Hid (w.heap.size + 2 ≤ ws.heap.size) := by unfold Hid; rw [hws]; simp
  clear hws
  obtain ⟨ka, fa⟩ := HK0.out.rules
  have hla := HK0.out.lt
  have hlr := HR0.out.lt
  refine wp_region_U (fun wq => wq.cell? ⟨w.heap.size, 2, none⟩ = some (.slice A2 x.Exports.length c2) ∧ wq.cell? ⟨w.heap.size, 4, none⟩ = some (.slice A4 x.Questions.length c4) ∧ wq.cell? ⟨w.heap.size, 6, none⟩ = some (.slice A6 x.Answers.length c6)) [0, 1, 2, 3, 4, 5, 6, 7, 8, 9, 10] (by kernel_rfl) ?_
  have hH_ := (show ws.drew.cell? ⟨w.heap.size, 2, none⟩ = _ ∧ ws.drew.cell? ⟨w.heap.size, 4, none⟩ = _ ∧ ws.drew.cell? ⟨w.heap.size, 6, none⟩ = _ from ⟨ka 2, ka 4, ka 6⟩)
  refine wpAnyU_take (i := 0) (v := ?_) rfl (by kernel_rfl) (by kernel_rfl) (by kernel_rfl) (by kernel_rfl) (fun _ _ _ h => h) (Or.inl ⟨by rfl, ?_⟩) hH_ ?_
  rotate_left
  · (intro w hSw; (try dsimp only at hSw); go_simp <;> with_reducible rfl)
  simp only [Act.put, List.setIfInBounds_toArray, List.set_cons_zero, List.set_cons_succ]
  refine wpAnyU_take (i := 1) (v := ?_) rfl (by kernel_rfl) (by kernel_rfl) (by kernel_rfl) (by kernel_rfl) (fun _ _ _ h => h) (Or.inl ⟨by rfl, ?_⟩) hH_ ?_
  rotate_left
  · (intro w hSw; (try dsimp only at hSw); go_simp <;> with_reducible rfl)
  simp only [Act.put, List.setIfInBounds_toArray, List.set_cons_zero, List.set_cons_succ]
  refine wpAnyU_take (i := 3) (v := ?_) rfl (by kernel_rfl) (by kernel_rfl) (by kernel_rfl) (by kernel_rfl) (fun _ _ _ h => h) (Or.inl ⟨by rfl, ?_⟩) hH_ ?_
  rotate_left
  · (intro w hSw; (try dsimp only at hSw); go_simp <;> with_reducible rfl)
  simp only [Act.put, List.setIfInBounds_toArray, List.set_cons_zero, List.set_cons_succ]
  refine wpAnyU_take (i := 4) (v := ?_) rfl (by kernel_rfl) (by kernel_rfl) (by kernel_rfl) (by kernel_rfl) (fun _ _ _ h => h) (Or.inl ⟨by rfl, ?_⟩) hH_ ?_
  rotate_left
  · (intro w hSw; (try dsimp only at hSw); go_simp <;> with_reducible rfl)
  simp only [Act.put, List.setIfInBounds_toArray, List.set_cons_zero, List.set_cons_succ]
  refine wpAnyU_take (i := 6) (v := ?_) rfl (by kernel_rfl) (by kernel_rfl) (by kernel_rfl) (by kernel_rfl) (fun _ _ _ h => h) (Or.inl ⟨by rfl, ?_⟩) hH_ ?_
  rotate_left
  · (intro w hSw; (try dsimp only at hSw); go_simp <;> with_reducible rfl)
  simp only [Act.put, List.setIfInBounds_toArray, List.set_cons_zero, List.set_cons_succ]
  refine wpAnyU_take (i := 7) (v := ?_) rfl (by kernel_rfl) (by kernel_rfl) (by kernel_rfl) (by kernel_rfl) (fun _ _ _ h => h) (Or.inl ⟨by rfl, ?_⟩) hH_ ?_
  rotate_left
  · (intro w hSw; (try dsimp only at hSw); go_simp <;> with_reducible rfl)
  simp only [Act.put, List.setIfInBounds_toArray, List.set_cons_zero, List.set_cons_succ]
  refine wpAnyU_one (i := 2) (by kernel_rfl) rfl (fun K hK => ?_)
  go_simp
  refine (slices_Clone_Export_row (.slice A2 x.Exports.length c2) x.Exports _ (HR2.out.below HB.out.drew) hz2).mono ?_
  rintro e w2 ⟨B2, d2, rfl, o2, h2⟩
  have K2 := Lib.hid (HK0.out.drew.below h2)
  obtain ⟨k2, j2⟩ := K2.out.rules
  have R2 := Lib.hid (HR0.out.drew.below h2)
  have HB2 := Lib.hid (HB.out.drew.trans (h2.mono HB.out.drew.size))
  have z2 := h2.size
  try dsimp only
  refine hK.out _ _ ?_ (fun hH1_ => ?_)
  · exact ⟨k2 2, k2 4, k2 6⟩
  clear hK K hH_
  have hH_ := hH1_
  clear hH1_
  refine wpAnyU_take (i := 9) (v := ?_) rfl (by kernel_rfl) (by kernel_rfl) (by kernel_rfl) (by kernel_rfl) (fun _ _ _ h => h) (Or.inl ⟨by rfl, ?_⟩) hH_ ?_
  rotate_left
  · (intro w hSw; (try dsimp only at hSw); go_simp <;> with_reducible rfl)
  simp only [Act.put, List.setIfInBounds_toArray, List.set_cons_zero, List.set_cons_succ]
  refine wpAnyU_one (i := 5) (by kernel_rfl) rfl (fun K hK => ?_)
  go_simp
  refine (slices_Clone_Question_row (.slice A4 x.Questions.length c4) x.Questions _ (HR4.out.below HB2.out) hz4).mono ?_
  rintro e w4 ⟨B4, d4, rfl, o4, h4⟩
  have K4 := Lib.hid (K2.out.below h4)
  obtain ⟨k4, j4⟩ := K4.out.rules
  have R4 := Lib.hid (R2.out.below h4)
  have HB4 := Lib.hid (HB2.out.trans (h4.mono HB2.out.size))
  have z4 := h4.size
  try dsimp only
  refine hK.out _ _ ?_ (fun hH1_ => ?_)
  · exact ⟨k4 2, k4 4, k4 6⟩
  clear hK K hH_
  have hH_ := hH1_
  clear hH1_
  refine wpAnyU_one (i := 8) (by kernel_rfl) rfl (fun K hK => ?_)
  go_simp
  refine (slices_Clone_Question_row (.slice A6 x.Answers.length c6) x.Answers _ (HR6.out.below HB4.out) hz6).mono ?_
  rintro e w6 ⟨B6, d6, rfl, o6, h6⟩
  have K6 := Lib.hid (K4.out.below h6)
  obtain ⟨k6, j6⟩ := K6.out.rules
  have R6 := Lib.hid (R4.out.below h6)
  have HB6 := Lib.hid (HB4.out.trans (h6.mono HB4.out.size))
  have z6 := h6.size
  try dsimp only
  refine hK.out _ _ ?_ (fun hH1_ => ?_)
  · exact ⟨k6 2, k6 4, k6 6⟩
  clear hK K hH_
  have hH_ := hH1_
  clear hH1_
  refine wpAnyU_one' (i := 10) (by kernel_rfl) rfl (by kernel_rfl) (fun K hK => ?_)
  go_simp
  refine hK.out _ _ ?_
  clear hK K
  refine wpAnyU_one' (i := 11) (by kernel_rfl) rfl (by kernel_rfl) (fun K hK => ?_)
  go_simp
  refine hK.out _ _ ?_
  clear hK K
  refine wpAnyU_one' (i := 12) (by kernel_rfl) rfl (by kernel_rfl) (fun K hK => ?_)
  go_simp
  refine hK.out _ _ ?_
  clear hK K
  refine wpAnyU_one' (i := 13) (by kernel_rfl) rfl (by kernel_rfl) (fun K hK => ?_)
  go_simp
  refine hK.out _ _ ?_
  clear hK K
  refine wpAnyU_one' (i := 14) (by kernel_rfl) rfl (by kernel_rfl) (fun K hK => ?_)
  go_simp
  refine hK.out _ _ ?_
  clear hK K
  refine wpAnyU_done (by kernel_rfl) ?_ _
  obtain ⟨wf, hwf⟩ : ∃ q, q = (((w6.setCell ⟨w.heap.size, 2, none⟩ (.slice B2 x.Exports.length d2)).setCell ⟨w.heap.size, 4, none⟩ (.slice B4 x.Questions.length d4)).setCell ⟨w.heap.size, 6, none⟩ (.slice B6 x.Answers.length d6)) := ⟨_, rfl⟩
  rw [← hwf]
  have KF : Hid (Blk wf w.heap.size 30 #[.int .i64 x.Peer, .bool x.Up, .slice B2 x.Exports.length d2, .int .i64 x.Next, .slice B4 x.Questions.length d4, .int .i64 x.Asked, .slice B6 x.Answers.length d6]) := by unfold Hid; rw [hwf]; exact Blk.eq (((K6.out.set_ 2 _).set_ 4 _).set_ 6 _) (by simp)
  have CF : Chg (fun k => k = w.heap.size) w6 wf := by rw [hwf]; exact (((Chg.refl (· = w.heap.size) w6).setCell (p := ⟨w.heap.size, 2, none⟩) (.inl rfl) _).setCell (p := ⟨w.heap.size, 4, none⟩) (.inl rfl) _).setCell (p := ⟨w.heap.size, 6, none⟩) (.inl rfl) _
  have RF := Lib.hid (R6.out.chg CF (by omega))
  have O2 := Lib.hid o2
  have O4 := Lib.hid o4
  have O6 := Lib.hid o6
  have h4b := Lib.hid h4
  have h6b := Lib.hid h6
  have HCF := Lib.hid CF
  clear hwf CF o2 o4 o6 h2 h4 h6 hH_ k2 j2 k4 j4 k6 j6 ka fa
  obtain ⟨k2, j2⟩ := KF.out.rules
  obtain ⟨k4, j4⟩ := RF.out.rules
  have lf := KF.out.lt
  have lf2 := RF.out.lt
  have zs' : w.heap.size + 2 ≤ ws.heap.size := zs.out
  have zd : ws.drew.heap.size = ws.heap.size := rfl
  rw [zd] at z2
  go_wp2
  refine post_cell (w0 := wf) (fun k => k = w.heap.size + 1) Try.results19 (w.heap.size + 1) #[.int .i64 x.Peer, .bool x.Up, .slice B2 x.Exports.length d2, .int .i64 x.Next, .slice B4 x.Questions.length d4, .int .i64 x.Asked, .slice B6 x.Answers.length d6] _ rfl (Blk.eq (((((((RF.out.set_ 0 _).set_ 1 _).set_ 2 _).set_ 3 _).set_ 4 _).set_ 5 _).set_ 6 _) (by simp)) Try.underlying30 rfl (by kernel_rfl) rfl ((((((((Chg.refl (fun k => k = w.heap.size + 1) wf).setCell (p := ⟨w.heap.size + 1, 0, none⟩) (.inl rfl) _).setCell (p := ⟨w.heap.size + 1, 1, none⟩) (.inl rfl) _).setCell (p := ⟨w.heap.size + 1, 2, none⟩) (.inl rfl) _).setCell (p := ⟨w.heap.size + 1, 3, none⟩) (.inl rfl) _).setCell (p := ⟨w.heap.size + 1, 4, none⟩) (.inl rfl) _).setCell (p := ⟨w.heap.size + 1, 5, none⟩) (.inl rfl) _).setCell (p := ⟨w.heap.size + 1, 6, none⟩) (.inl rfl) _) ?_
  intro W hW
  have L2 := O2.out.lt
  have L4 := O4.out.lt
  have L6 := O6.out.lt
  have CW : Chg (fun k => k = w.heap.size ∨ k = w.heap.size + 1) w6 W := (HCF.out.mono (fun k _ h => .inl h)).trans (hW.mono (fun k _ h => .inr h))
  have Q2 := ownsRow_keep (ownsRow_below (ownsRow_below O2.out h4b.out) h6b.out) CW (fun k hk => by have h1 := L2 k hk; rw [zd] at h1; omega)
  have Q4 := ownsRow_keep (ownsRow_below O4.out h6b.out) CW (fun k hk => by have := L4 k hk; omega)
  have Q6 := ownsRow_keep O6.out CW (fun k hk => by have := L6 k hk; omega)
  exact ⟨B2, d2, B4, d4, B6, d6, rfl, ⟨Q2.mono (by rw [zd]; omega), Q4.mono (by omega), Q6.mono (by omega), fun k h1 h2 => by have e1 := L2 k h1; have e2 := L4 k h2; omega, fun k h1 h2 => by have e1 := L2 k h1; have e2 := L6 k h2; omega, fun k h1 h2 => by have e1 := L4 k h1; have e2 := L6 k h2; omega⟩, below_chg HB6.out CW HB6.out.size (fun i hi => by omega)⟩
set_option maxHeartbeats 3200000 in
set_option maxRecDepth 100000 in
theorem impl_PutQuestion_calls (us : List Value) (x : GLink) (p : Int) (w : World) (hr : RdLW w (eLink x) us) (hz : sizL (eLink x) ≤ 1048576) (hi : I64 p) :
    Calls Try.prog 8 #[.agg us.toArray, .int .i64 p] w fun e w' => ∃ us' fp, e = .returned (.tuple #[.agg us'.toArray, .int .i64 (putQuestion2 x p)]) ∧ OwnL w' (eLink (putQuestion1 x p)) us' fp ∧ Fresh w fp ∧ Below w.heap.size w w' := by
  have hcon := impl_Link_copied_calls us x ((w.alloc (.cells us.toArray 30)).alloc (.cells #[.int .i64 0, .bool false, .slice none 0 0, .int .i64 0, .slice none 0 0, .int .i64 0, .slice none 0 0] 30)) (hr.below (((Below.refl _ _).alloc (Nat.le_refl _) _).alloc (by simp) _)) hz
  obtain ⟨v2, v4, v6, rfl, h2, h4, h6⟩ := rd_eLink hr
  have hzq := hz
  rw [siz_eLink] at hzq
  have HC := Lib.hid hcon
  clear hcon hr h2 h4 h6 hz
  go_enter Try.func8, Try.ntmps8
  go_wp2_with fail
  refine HC.out.mono ?_
  rintro e w1 ⟨B2, d2, B4, d4, B6, d6, rfl, hc, hb1⟩
  have z1 : w.heap.size + 2 ≤ w1.heap.size := by have := hb1.size; simpa using this
  have K1 : Hid (Blk w1 (w.heap.size + 1) 30 #[.int .i64 0, .bool false, .slice none 0 0, .int .i64 0, .slice none 0 0, .int .i64 0, .slice none 0 0]) := Lib.hid ((Blk.made (by simp)).below hb1)
  have HB1 := Lib.hid ((((Below.refl w.heap.size w).alloc (Nat.le_refl _) _).alloc (by simp) _).trans (hb1.mono (by simp only [size_alloc]; omega)))
  have HCL : Hid (CopL (w.heap.size + 2) w1 x B2 d2 B4 d4 B6 d6) := ⟨hc.r2.mono (by simp only [size_alloc]; omega), hc.r4.mono (by simp only [size_alloc]; omega), hc.r6.mono (by simp only [size_alloc]; omega), hc.d24, hc.d26, hc.d46⟩
  obtain ⟨k1, j1⟩ := K1.out.rules
  have l1 := K1.out.lt
  have L2 := HCL.out.r2.lt
  have L4 := HCL.out.r4.lt
  have L6 := HCL.out.r6.lt
  clear hc hb1
  go_wp2_with fail
  refine (impl_Link_ask_calls w1.heap.size (w.heap.size + 2) x.Peer x.Next x.Asked x.Up B2 B6 _ d2 _ d6 B4 d4 x.Questions p _ (Blk.new _ _ _) (HCL.out.r4.alloc _) (by simp; omega) (fun k hk => by have := L4 k hk; omega) (by omega)).mono ?_
  rintro e w2 ⟨B5, d5, rfl, kb, o5, a5, c5⟩
  have z2 : w1.heap.size < w2.heap.size := by have := c5.size; simp only [size_alloc] at this; omega
  have C2 : Chg (fun k => k = w1.heap.size ∨ (Value.slice B4 x.Questions.length d4).ownBlock = some k) w1 w2 := ((Chg.refl _ w1).alloc _).trans c5
  have KO := Lib.hid kb
  have K12 := Lib.hid (K1.out.chg C2 (fun h => by rcases h with h | h; (omega); (have := L4 _ h; omega)))
  have HB2 := Lib.hid (below_chg HB1.out C2 HB1.out.size (fun k h => by rcases h with h | h; (omega); (have := L4 _ h; omega)))
  have Q2 := Lib.hid (ownsRow_keep HCL.out.r2 C2 (fun k h1 h2 => by rcases h2 with h2 | h2; (have := L2 k h1; omega); exact HCL.out.d24 k h1 h2))
  have Q6 := Lib.hid (ownsRow_keep HCL.out.r6 C2 (fun k h1 h2 => by rcases h2 with h2 | h2; (have := L6 k h1; omega); exact HCL.out.d46 k h2 h1))
  have Q4 : Hid (w2.ownsRow (w.heap.size + 2) 41 2 (.slice B5 (x.Questions.length + 1) d5) (x.Questions ++ [(⟨succW x.Asked, p⟩ : GQuestion)]).length ((x.Questions ++ [(⟨succW x.Asked, p⟩ : GQuestion)]).flatMap vsQuestion)) := by
    unfold Hid; rw [List.flatMap_append, List.length_append]; exact o5
  have A5 : Hid (∀ k, (Value.slice B5 (x.Questions.length + 1) d5).ownBlock = some k → (Value.slice B4 x.Questions.length d4).ownBlock = some k ∨ w1.heap.size + 1 ≤ k) := fun k hk => by
    have := a5 k hk
    simp only [size_alloc] at this
    exact this
  have HL4 := Lib.hid L4
  have HL2 := Lib.hid L2
  have HL6 := Lib.hid L6
  clear kb o5 a5 c5 C2 k1 j1 l1 L2 L4 L6
  obtain ⟨k1, j1⟩ := K12.out.rules
  obtain ⟨k2, j2⟩ := KO.out.rules
  have l1 := K12.out.lt
  have l2 := KO.out.lt
  obtain ⟨n, hn⟩ : ∃ n, n = succW x.Asked := ⟨_, rfl⟩
  have HN := Lib.hid hn
  rw [← hn] at k2
  rw [← hn]
  clear hn
  go_wp2
  refine post_cell2 (w0 := w2) (fun k => k = w.heap.size + 1) Try.results8 (w.heap.size + 1) #[.int .i64 x.Peer, .bool x.Up, .slice B2 x.Exports.length d2, .int .i64 x.Next, .slice B5 (x.Questions.length + 1) d5, .int .i64 n, .slice B6 x.Answers.length d6] _ _ rfl (Blk.eq (((((((K12.out.set_ 0 _).set_ 1 _).set_ 2 _).set_ 3 _).set_ 4 _).set_ 5 _).set_ 6 _) (by simp)) Try.underlying30 rfl (by kernel_rfl) rfl rfl ((((((((Chg.refl (fun k => k = w.heap.size + 1) w2).setCell (p := ⟨w.heap.size + 1, 0, none⟩) (.inl rfl) _).setCell (p := ⟨w.heap.size + 1, 1, none⟩) (.inl rfl) _).setCell (p := ⟨w.heap.size + 1, 2, none⟩) (.inl rfl) _).setCell (p := ⟨w.heap.size + 1, 3, none⟩) (.inl rfl) _).setCell (p := ⟨w.heap.size + 1, 4, none⟩) (.inl rfl) _).setCell (p := ⟨w.heap.size + 1, 5, none⟩) (.inl rfl) _).setCell (p := ⟨w.heap.size + 1, 6, none⟩) (.inl rfl) _) ?_
  intro W hW
  have hn := HN.out
  subst hn
  have P2 := ownsRow_keep Q2.out hW (fun k hk => by have := HL2.out k hk; omega)
  have P6 := ownsRow_keep Q6.out hW (fun k hk => by have := HL6.out k hk; omega)
  have P4 := ownsRow_keep Q4.out hW (fun k hk => by rcases A5.out k hk with h | h; (have := HL4.out k h; omega); omega)
  have hl5 : (x.Questions ++ [(⟨succW x.Asked, p⟩ : GQuestion)]).length = x.Questions.length + 1 := by simp
  obtain ⟨f2, o2, n2, g2⟩ := ownRow_own' vals_eExport P2 (by omega)
  obtain ⟨f4, o4, n4, g4⟩ := ownRow_own' (xs := x.Questions ++ [(⟨succW x.Asked, p⟩ : GQuestion)]) vals_eQuestion P4 (by rw [hl5]; omega)
  obtain ⟨f6, o6, n6, g6⟩ := ownRow_own' vals_eQuestion P6 (by omega)
  refine ⟨_, f2 ++ (f4 ++ f6), rfl, mkown_eLink (x := putQuestion1 x p) o2 o4 o6, ⟨?_, ?_⟩, below_chg HB2.out hW HB2.out.size (fun i hi => by omega)⟩
  · refine nodup3 n2 n4 n6 ?_ ?_ ?_
    · intro k h1 h2
      have e1 := (g2 k h1).2
      rcases A5.out k (g4 k h2).2 with e | e
      · exact HCL.out.d24 k e1 e
      · have := HL2.out k e1; omega
    · intro k h1 h2
      exact HCL.out.d26 k (g2 k h1).2 (g6 k h2).2
    · intro k h1 h2
      have e1 := (g6 k h2).2
      rcases A5.out k (g4 k h1).2 with e | e
      · exact HCL.out.d46 k e e1
      · have := HL6.out k e1; omega
  · intro g hg
    rw [List.mem_append, List.mem_append] at hg
    rcases hg with hg | hg | hg
    · have := (g2 g hg).1; omega
    · have := (g4 g hg).1; omega
    · have := (g6 g hg).1; omega

end Go.Proofs.Ytlpjbipgocgioaa
