import Derived.Test.YtiohoeafdaihpaaProg
import Derived.Test.YtiohoeafdaihpaaTypes
import Derived.StillTailTactics
import Derived.Deep.CutBlock
import Derived.Deep.CutRange
import Derived.Laws.OwnMore
import Derived.Deep.AppendLies
import Derived.Deep.RegionWith
import Derived.Deep.RegionHeld3
import Derived.Laws.IdiomStrings
import Derived.Test.YtiohoeafdaihpaaAppend
import Derived.Laws.StructEq
import Derived.Lib.SliceRun
import Derived.Shelf.RegionOpenPlain
import Derived.Test.YtiohoeafdaihpaaTxt6
import Derived.Test.YtiohoeafdaihpaaTxt5
namespace Go.Proofs.Ytiohoeafdaihpaa
open Go.RowKit
set_option linter.unusedVariables false
set_option linter.unusedSimpArgs false

theorem ownsRow_uniq {w : World} {base : Nat} {e : TypeId} {sz n : Nat} {v : Value} {xs ys : List Value} (h : w.ownsRow base e sz v n xs) (h' : w.ownsRow base e sz v n ys) : xs = ys := by
  rcases h.2 with ⟨_, h0⟩ | ⟨g, cap, cur, hv, _, hg, _, _, _, ht⟩
  · have h1 := h.1
    have h2 := h'.1
    subst h0
    rw [Nat.zero_mul] at h1 h2
    rw [List.eq_nil_of_length_eq_zero h1, List.eq_nil_of_length_eq_zero h2]
  · rcases h'.2 with ⟨h0, _⟩ | ⟨g', cap', cur', hv', _, hg', _, _, _, ht'⟩
    · rw [hv] at h0; injection h0 with h0; cases h0
    · rw [hv] at hv'
      injection hv' with h1 h2 h3
      injection h1 with h1
      injection h1 with h1
      subst h1
      rw [hg] at hg'
      injection hg' with hg'
      injection hg' with hg'
      subst hg'
      rw [← ht, ← ht']
theorem MSt.own {B g0 : Nat} {w : World} {ms : List GMethod} {A1 : Option Addr} {c1 : Nat} (h : MSt B g0 w ms A1 c1) : (∃ xs, w.ownsRow B 29 2 (.slice A1 ms.length c1) ms.length xs) ∧ ∀ k, (Value.slice A1 ms.length c1).ownBlock = some k → k ≠ g0 := by
  rcases h with ⟨rfl, rfl, rfl⟩ | ⟨init, last, r, css, Al, cl, rfl, rfl, q3, q4, q5, q6, q7, q8⟩
  · exact ⟨⟨_, World.ownsRow_nil _ _ _ _⟩, by intro k hk; simp [Value.ownBlock] at hk⟩
  · have hlen : (init ++ [last]).length = init.length + 1 := by rw [List.length_append]; rfl
    rw [hlen]
    exact ⟨⟨_, q5⟩, by intro k hk; simp only [Value.ownBlock, Option.some.injEq] at hk; omega⟩
theorem kw_ne : (kwM.toList == kwS.toList) = false := by decide +kernel
set_option maxHeartbeats 6400000 in
set_option maxRecDepth 100000 in
theorem spec_l7Add_script (B ge n0 c0 : Nat) (s nm : ByteArray) (w : World) (hn0 : n0 = 0) (ho : w.ownsRow B 51 2 (.slice (some ⟨ge, 0, none⟩) n0 c0) n0 []) (hB : B ≤ w.heap.size) (hs : 7 < s.size) (hs2 : s.size ≤ 4000) (hp : s.extract 0 7 = kwS) (hn : s.extract 7 s.size = nm) :
    Calls Try.prog 106 #[.slice (some ⟨ge, 0, none⟩) n0 c0, .string s] w fun e w' => ∃ g0 cap, e = .returned (.tuple #[.slice (some ⟨g0, 0, none⟩) 1 cap, .bool true]) ∧ LSt B w' g0 cap nm [] ∧ Below B w w' := by
  have hq : ((s.extract 0 7).toList == ([115, 99, 114, 105, 112, 116, 32] : List UInt8)) = true := by rw [hp]; decide +kernel
  have hs7 : (7 : Int) < s.size := by omega
  have HO := Lib.hid ho
  have hlo := ho.lt
  have hn1 : n0 ≤ 1 := by omega
  have HN0 := Lib.hid hn0
  have HN := Lib.hid hn
  clear ho hn0 hn hp
  go_enter Try.func106, Try.ntmps106
  go_wp2_with (at_builtin; refine wpList_append_rd rfl _ _ 36 rfl B 51 _ _ 2 40 Try.underlying36 rfl rfl rfl rfl rfl (by omega) _ n0 _ rfl (HO.out.alloc _) (en := fun us : List Value => us.map Lf.v) (vs := id) (fun _ => rfl) [[.string (s.extract 7 s.size), .slice none 0 0]] (by simp [Value.oneCell']) rfl _ _ rfl (rdW_one' (en := fun us : List Value => us.map Lf.v) (vs := id) (fun _ => rfl) _ 51 (by simp)) (by simp; omega) (by omega) (by simp; omega) ?_)
  intro A' c' w4 hown hgrow
  have HB4 : Hid (Below B w w4) := ((Below.refl B w).alloc hB _).trans (grown_below hgrow (by simp; omega) (fun k hk => (hlo k hk).1))
  have HO4 : Hid (w4.ownsRow B 51 2 (.slice A' (n0 + 1) c') (n0 + 1) [.string (s.extract 7 s.size), .slice none 0 0]) := by unfold Hid; simpa using hown
  clear hown hgrow hlo
  go_wp2
  refine bodyPost_ret (v := .tuple #[.slice A' (n0 + 1) c', .bool true]) (by simp [results, Try.results106, go_sem]) rfl ?_
  have h := HO4.out
  have hn0 := HN0.out
  have hn := HN.out
  subst hn0
  rcases h.2 with ⟨h0, h1⟩ | ⟨g0, cap, cur, hv, hb, hg, hnc, hc, hcs, ht⟩
  · cases h1
  · injection hv with h0 h1 h2
    subst h0 h2
    have hmx : maxLen = 9223372036854775807 := by decide
    have hc0 : ∀ (k : Nat) (u : Value), [Value.string (s.extract 7 s.size), .slice none 0 0][k]? = some u → cur[k]? = some u := by
      intro k u hk
      rw [← ht, List.getElem?_take] at hk
      split at hk
      · simpa using hk
      · cases hk
    exact ⟨g0, _, rfl, ⟨cur, none, 0, hb, ⟨hnc, by omega, by omega⟩, hg, by rw [← hn]; exact hc0 0 _ rfl, hc0 1 _ rfl, .inl ⟨rfl, rfl, rfl⟩⟩, HB4.out⟩
set_option maxHeartbeats 6400000 in
set_option maxRecDepth 100000 in
theorem spec_l7Add_method (B g0 cap : Nat) (s nm nm2 : ByteArray) (ms : List GMethod) (w : World) (h : LSt B w g0 cap nm ms) (hml : ∀ m, m ∈ ms → m.Code.length ≤ 1000) (hmn : ms.length ≤ 100) (hB : B ≤ w.heap.size) (hs : 7 < s.size) (hs2 : s.size ≤ 4000) (hp : s.extract 0 7 = kwM) (hn : s.extract 7 s.size = nm2) :
    Calls Try.prog 106 #[.slice (some ⟨g0, 0, none⟩) 1 cap, .string s] w fun e w' => e = .returned (.tuple #[.slice (some ⟨g0, 0, none⟩) 1 cap, .bool true]) ∧ LSt B w' g0 cap nm (ms ++ [⟨nm2, []⟩]) ∧ Below B w w' := by
  have hq1 : ((s.extract 0 7).toList == ([115, 99, 114, 105, 112, 116, 32] : List UInt8)) = false := by rw [hp]; decide +kernel
  have hq2 : ((s.extract 0 7).toList == ([109, 101, 116, 104, 111, 100, 32] : List UInt8)) = true := by rw [hp]; decide +kernel
  have hs7 : (7 : Int) < s.size := by omega
  obtain ⟨cur, A1, c1, hBg, hcap, hk, h4, h5, hm⟩ := h
  obtain ⟨⟨xs, ho⟩, hne⟩ := hm.own
  have HK := Lib.hid hk
  have HM := Lib.hid hm
  have HO := Lib.hid ho
  clear hk hm ho hp
  subst hn
  have hs7' : (7 : Int) ≤ s.size := by omega
  have hwz : IntKind.i64.wrap 0 = 0 := by rw [IntKind.wrap_i64]; omega
  go_enter Try.func106, Try.ntmps106
  go_wp2
  refine wp_region_U (fun wq => wq.cell? ⟨g0, 1, none⟩ = some (.slice A1 ms.length c1)) [0, 1, 2, 3, 4, 5, 6, 7, 8, 9, 10, 11, 12, 13, 14, 15, 16] (by kernel_rfl) ?_
  have hH_ := ((HK.out.drew.cell 1).trans h5 : (fun wq : World => wq.cell? ⟨g0, 1, none⟩ = some (.slice A1 ms.length c1)) w.drew)
  refine wpAnyU_take (i := 0) (v := ?_) rfl (by kernel_rfl) (by kernel_rfl) (by kernel_rfl) (by kernel_rfl) (fun _ _ _ h => h) (Or.inl ⟨by rfl, ?_⟩) hH_ ?_
  rotate_left
  · (intro w hSw; (try dsimp only at hSw); go_simp <;> with_reducible rfl)
  simp only [Act.put, List.setIfInBounds_toArray, List.set_cons_zero, List.set_cons_succ]
  refine wpAnyU_take (i := 1) (v := ?_) rfl (by kernel_rfl) (by kernel_rfl) (by kernel_rfl) (by kernel_rfl) (fun _ _ _ h => h) (Or.inl ⟨by rfl, ?_⟩) hH_ ?_
  rotate_left
  · (intro w hSw; (try dsimp only at hSw); go_simp <;> with_reducible rfl)
  simp only [Act.put, List.setIfInBounds_toArray, List.set_cons_zero, List.set_cons_succ]
  refine wpAnyU_take (i := 2) (v := ?_) rfl (by kernel_rfl) (by kernel_rfl) (by kernel_rfl) (by kernel_rfl) (fun _ _ _ h => h) (Or.inl ⟨by rfl, ?_⟩) hH_ ?_
  rotate_left
  · (intro w hSw; (try dsimp only at hSw); go_simp <;> with_reducible rfl)
  simp only [Act.put, List.setIfInBounds_toArray, List.set_cons_zero, List.set_cons_succ]
  refine wpAnyU_take (i := 3) (v := ?_) rfl (by kernel_rfl) (by kernel_rfl) (by kernel_rfl) (by kernel_rfl) (fun _ _ _ h => h) (Or.inl ⟨by rfl, ?_⟩) hH_ ?_
  rotate_left
  · (intro w hSw; (try dsimp only at hSw); go_simp <;> with_reducible rfl)
  simp only [Act.put, List.setIfInBounds_toArray, List.set_cons_zero, List.set_cons_succ]
  refine wpAnyU_take (i := 4) (v := ?_) rfl (by kernel_rfl) (by kernel_rfl) (by kernel_rfl) (by kernel_rfl) (fun _ _ _ h => h) (Or.inl ⟨by rfl, ?_⟩) hH_ ?_
  rotate_left
  · (intro w hSw; (try dsimp only at hSw); go_simp <;> with_reducible rfl)
  simp only [Act.put, List.setIfInBounds_toArray, List.set_cons_zero, List.set_cons_succ]
  refine wpAnyU_take (i := 5) (v := ?_) rfl (by kernel_rfl) (by kernel_rfl) (by kernel_rfl) (by kernel_rfl) (fun _ _ _ h => h) (Or.inl ⟨by rfl, ?_⟩) hH_ ?_
  rotate_left
  · (intro w hSw; (try dsimp only at hSw); go_simp <;> with_reducible rfl)
  simp only [Act.put, List.setIfInBounds_toArray, List.set_cons_zero, List.set_cons_succ]
  refine wpAnyU_take (i := 6) (v := ?_) rfl (by kernel_rfl) (by kernel_rfl) (by kernel_rfl) (by kernel_rfl) (fun _ _ _ h => h) (Or.inl ⟨by rfl, ?_⟩) hH_ ?_
  rotate_left
  · (intro w hSw; (try dsimp only at hSw); go_simp <;> with_reducible rfl)
  simp only [Act.put, List.setIfInBounds_toArray, List.set_cons_zero, List.set_cons_succ]
  refine wpAnyU_take (i := 7) (v := ?_) rfl (by kernel_rfl) (by kernel_rfl) (by kernel_rfl) (by kernel_rfl) (fun _ _ _ h => h) (Or.inl ⟨by rfl, ?_⟩) hH_ ?_
  rotate_left
  · (intro w hSw; (try dsimp only at hSw); go_simp <;> with_reducible rfl)
  simp only [Act.put, List.setIfInBounds_toArray, List.set_cons_zero, List.set_cons_succ]
  refine wpAnyU_take (i := 8) (v := ?_) rfl (by kernel_rfl) (by kernel_rfl) (by kernel_rfl) (by kernel_rfl) (fun _ _ _ h => h) (Or.inl ⟨by rfl, ?_⟩) hH_ ?_
  rotate_left
  · (intro w hSw; (try dsimp only at hSw); go_simp <;> with_reducible rfl)
  simp only [Act.put, List.setIfInBounds_toArray, List.set_cons_zero, List.set_cons_succ]
  refine wpAnyU_take (i := 9) (v := ?_) rfl (by kernel_rfl) (by kernel_rfl) (by kernel_rfl) (by kernel_rfl) (fun _ _ _ h => h) (Or.inl ⟨by rfl, ?_⟩) hH_ ?_
  rotate_left
  · (intro w hSw; (try dsimp only at hSw); go_simp <;> with_reducible rfl)
  simp only [Act.put, List.setIfInBounds_toArray, List.set_cons_zero, List.set_cons_succ]
  refine wpAnyU_take (i := 10) (v := ?_) rfl (by kernel_rfl) (by kernel_rfl) (by kernel_rfl) (by kernel_rfl) (fun _ _ _ h => h) (Or.inl ⟨by rfl, ?_⟩) hH_ ?_
  rotate_left
  · (intro w hSw; (try dsimp only at hSw); go_simp <;> with_reducible rfl)
  simp only [Act.put, List.setIfInBounds_toArray, List.set_cons_zero, List.set_cons_succ]
  refine wpAnyU_take (i := 11) (v := ?_) rfl (by kernel_rfl) (by kernel_rfl) (by kernel_rfl) (by kernel_rfl) (fun _ _ _ h => h) (Or.inl ⟨by rfl, ?_⟩) hH_ ?_
  rotate_left
  · (intro w hSw; (try dsimp only at hSw); go_simp <;> with_reducible rfl)
  simp only [Act.put, List.setIfInBounds_toArray, List.set_cons_zero, List.set_cons_succ]
  refine wpAnyU_one (i := 12) (by kernel_rfl) rfl (fun K hK => ?_)
  go_simp
  refine hK.out _ _ ?_ (fun hH1_ => ?_)
  · exact cell_alloc_keep hH_
  clear hK K hH_
  have hH_ := hH1_
  clear hH1_
  refine wpAnyU_one (i := 13) (by kernel_rfl) rfl (fun K hK => ?_)
  refine step_append_lies _ (by rfl) _ _ _ (by rfl) B 29 _ _ 2 40 Try.underlying49 rfl rfl rfl rfl rfl (by omega) _ ms.length _ (by rfl) ((show w.drew.ownsRow _ _ _ _ _ _ from HO.out).alloc _) ⟨w.heap.size, 0, none⟩ 1 1 [.string (s.extract 7 s.size), .slice none 0 0] (by rfl) (by rfl) (World.news_of_block (cs := #[.string (s.extract 7 s.size), .slice none 0 0]) (t := 29) (fr := (0, 0)) (heap_alloc_new w.drew _)) (by simp [Value.oneCell']) (by omega) (by have h := (by decide : maxLen = 9223372036854775807); omega) (by omega) (by simp; omega) (w.heap.size + 1) (by simp) ?_
  intro gg cap1 w3 hown hgrow hat hlt2
  have hz3 : w.heap.size + 1 ≤ w3.heap.size := Nat.le_trans (Nat.le_of_eq (size_alloc w.drew (.cells #[.string (s.extract 7 s.size), .slice none 0 0] 29)).symm) hgrow.size
  have HK3 := Lib.hid ((HK.out.drew.alloc (.cells #[.string (s.extract 7 s.size), .slice none 0 0] 29)).chg (grown_chg hgrow) (fun h => hne _ h rfl))
  have HB3 : Hid (Below B w w3) := (((Below.refl B w).drew.alloc hB (.cells #[.string (s.extract 7 s.size), .slice none 0 0] 29)).trans (grown_below hgrow (by simp; omega) (fun k hk => (HO.out.lt k hk).1)))
  have HLM := Lib.hid (lst_method hBg hcap (HK.out.drew.alloc (.cells #[.string (s.extract 7 s.size), .slice none 0 0] 29)) h4 h5 ((HM.out.below (Below.refl _ _).drew).below ((Below.refl _ _).alloc (Nat.le_refl _) (.cells #[.string (s.extract 7 s.size), .slice none 0 0] 29))) hml hgrow (by rw [size_alloc]; exact hat) (fun xs' hx => by rw [ownsRow_uniq hx ((show w.drew.ownsRow _ _ _ _ _ _ from HO.out).alloc (.cells #[.string (s.extract 7 s.size), .slice none 0 0] 29))]; exact hown))
  have c3 : w3.cell? ⟨g0, 1, none⟩ = some (.slice A1 ms.length c1) := (HK3.out.cell 1).trans h5
  have hsz3 : 1 < cur.size := by
    rcases Nat.lt_or_ge 1 cur.size with h | h
    · exact h
    · rw [Array.getElem?_eq_none h] at h5; cases h5
  clear hown hgrow hat
  obtain ⟨k3, f3⟩ := HK3.out.rules
  have l3 := HK3.out.lt
  refine hK.out _ _ ?_ (fun hH1_ => ?_)
  · exact c3
  clear hK K hH_
  have hH_ := hH1_
  clear hH1_
  refine wpAnyU_take (i := 14) (v := ?_) rfl (by kernel_rfl) (by kernel_rfl) (by kernel_rfl) (by kernel_rfl) (fun _ _ _ h => h) (Or.inl ⟨by rfl, ?_⟩) hH_ ?_
  rotate_left
  · (intro w hSw; (try dsimp only at hSw); go_simp <;> with_reducible rfl)
  simp only [Act.put, List.setIfInBounds_toArray, List.set_cons_zero, List.set_cons_succ]
  refine wpAnyU_take (i := 15) (v := ?_) rfl (by kernel_rfl) (by kernel_rfl) (by kernel_rfl) (by kernel_rfl) (fun _ _ _ h => h) (Or.inl ⟨by rfl, ?_⟩) hH_ ?_
  rotate_left
  · (intro w hSw; (try dsimp only at hSw); go_simp <;> with_reducible rfl)
  simp only [Act.put, List.setIfInBounds_toArray, List.set_cons_zero, List.set_cons_succ]
  refine wpAnyU_one' (i := 16) (by kernel_rfl) rfl (by kernel_rfl) (fun K hK => ?_)
  go_simp
  refine hK.out _ _ ?_
  clear hK K
  refine wpAnyU_done (by kernel_rfl) ?_ _
  go_wp2
  refine bodyPost_ret (v := .tuple #[.slice (some ⟨g0, 0, none⟩) 1 cap, .bool true]) (by simp [results, Try.results106, go_sem]) rfl ⟨rfl, HLM.out, ?_⟩
  exact below_chg HB3.out ((Chg.refl (· = g0) w3).setCell (p := ⟨g0, 1, none⟩) (.inl rfl) _) (Nat.le_trans hB HB3.out.size) (by rintro _ rfl; exact hBg)

end Go.Proofs.Ytiohoeafdaihpaa
