import Derived.Test.YtaalbbhebmpppaaProg
import Derived.Test.YtaalbbhebmpppaaTypes
import Derived.StillTailTactics
import Derived.Deep.CutBlock
import Derived.Deep.CutRange
import Derived.Laws.OwnMore
import Derived.Deep.AppendLies
import Derived.Deep.RegionWith
import Derived.Deep.RegionHeld3
import Derived.Laws.IdiomStrings
import Derived.Test.YtaalbbhebmpppaaAppend
import Derived.Laws.StructEq
import Derived.Lib.SliceRun
import Derived.Shelf.RegionOpenPlain
import Derived.Test.YtaalbbhebmpppaaDrawE5
namespace Go.Proofs.Ytaalbbhebmpppaa
open Go.RowKit
set_option linter.unusedVariables false
set_option linter.unusedSimpArgs false

set_option maxHeartbeats 3200000 in
theorem spec_DrawNewObject_calls (v : Value) (b : List UInt8) (w : World) (hr : RdW w (.s b.length (b.flatMap eByte)) v) (hz : b.length ≤ 1048576) :
    Calls Try.prog 17 #[v] w fun e w' => ∃ (n : Int) (xs : List GValue) (A : Option Addr) (c : Nat), e = .returned (.tuple #[.int .i64 n, .slice A xs.length c]) ∧ 0 ≤ n ∧ n < 4 ∧ xs.length ≤ 3 ∧ RdW w' (.s xs.length (xs.flatMap eValue)) (.slice A xs.length c) ∧ Below w.heap.size w w' := by
  obtain ⟨A0, c0, rfl, -⟩ := hr.slice
  have HN := Lib.hid (spec_l1New_calls _ b w hr hz)
  clear hr
  go_enter Try.func17, Try.ntmps17
  go_wp2_with fail
  refine HN.out.mono ?_
  rintro e w1 ⟨rfl, hc1, hb1⟩
  have HC1 := Lib.hid hc1
  clear hc1 hb1 HN
  go_wp2_with fail
  refine (spec_l1Below_calls w w.heap.size _ _ HC1.out).mono ?_
  rintro e w2 ⟨n, hn0, hn1, rfl, hc2, hg2⟩
  replace hn1 := hn1 (by omega)
  have HC2 := Lib.hid hc2
  clear hc2 hg2 HC1
  go_wp2_with fail
  refine (spec_l4List_calls w w.heap.size _ HC2.out).mono ?_
  rintro e w3 ⟨xs, A, c, rfl, hxl, ho3, hc3, hg3⟩
  have HO3 := Lib.hid ho3
  have HC3 := Lib.hid hc3
  clear hc3 hg3 ho3 HC2
  go_wp2
  refine bodyPost_ret (v := .tuple #[.int .i64 n, .slice A xs.length c]) (by simp [results, Try.results17, go_sem]) rfl ?_
  exact ⟨n, xs, A, c, rfl, hn0, hn1, hxl, ownsRow_rdw vals_eValue HO3.out (by omega), HC3.out.base⟩
/-- an entity that a draw returned, to be read -/
theorem entS_rd {L : Nat} {w : World} {x : GEntity} {v2 v6 v7 : Value} (h : EntS L w x.Slots x.Queue x.Askers v2 v6 v7) : RdLW w (eEntity x) (entC x v2 v6 v7).toList := by
  obtain ⟨f2, f6, f7, h2, h6, h7, _⟩ := h
  exact mkrd_eEntity h2.rdw h6.rdw h7.rdw
set_option maxHeartbeats 6400000 in
set_option maxRecDepth 100000 in
theorem spec_DrawIsEntity_calls (v : Value) (b : List UInt8) (w : World) (hr : RdW w (.s b.length (b.flatMap eByte)) v) (hz : b.length ≤ 1048576) :
    Calls Try.prog 15 #[v] w fun e w' => ∃ (x : GEntity) (v2 v6 v7 : Value) (n : Int), e = .returned (.tuple #[.agg (entC x v2 v6 v7), .int .i64 n]) ∧ RdLW w' (eEntity x) (entC x v2 v6 v7).toList ∧ SmallE x ∧ 0 ≤ n ∧ n < 7 ∧ Below w.heap.size w w' := by
  obtain ⟨A0, c0, rfl, -⟩ := hr.slice
  have HN := Lib.hid (spec_l1New_calls _ b (w.alloc (.cells #[.int .i64 0, .int .i64 0, .slice none 0 0, .int .i64 0, .int .i64 0, .int .i64 0, .slice none 0 0, .slice none 0 0, .int .i64 0, .int .i64 0, .int .i64 0, .int .i64 0] 37)) (hr.alloc _) hz)
  clear hr
  go_enter Try.func15, Try.ntmps15
  go_wp2_with fail
  refine HN.out.mono ?_
  rintro e w1 ⟨he, hc1, hb1⟩
  simp only [size_alloc] at he hc1
  subst he
  have HC1 := Lib.hid hc1
  have HK1 : Hid (Blk w1 w.heap.size 37 #[.int .i64 0, .int .i64 0, .slice none 0 0, .int .i64 0, .int .i64 0, .int .i64 0, .slice none 0 0, .slice none 0 0, .int .i64 0, .int .i64 0, .int .i64 0, .int .i64 0]) := (Blk.new w _ _).below hb1
  have hs1 : w.heap.size + 1 ≤ w1.heap.size := by have h := hb1.size; simp only [size_alloc] at h; exact h
  have hg1 := hc1.lt
  clear hc1 hb1 HN
  go_wp2_with fail
  refine (spec_l9Any_calls _ (w.heap.size + 1) _ HC1.out).mono ?_
  rintro e w2 ⟨x, v2, v6, v7, he, hent, hsm, hc2, hg2⟩
  have hent2 := hent
  obtain ⟨f2, f6, f7, o2, o6, o7, -⟩ := hent2
  obtain ⟨A2, c2, rfl, -⟩ := o2.slice
  obtain ⟨A6, c6, rfl, -⟩ := o6.slice
  obtain ⟨A7, c7, rfl, -⟩ := o7.slice
  unfold entC at he
  subst he
  have HC2 := Lib.hid hc2
  have HE2 := Lib.hid hent
  have HSM := Lib.hid hsm
  have HK2 := Lib.hid (HK1.out.chg hg2 (by omega))
  have hs2 := hg2.size
  clear o2 o6 o7 hent hsm hc2 hg2 HC1 HK1
  go_wp2
  obtain ⟨w3, hw3⟩ : ∃ q, q = w2.alloc (.cells #[.int .i64 x.Kind, .int .i64 x.Script, .slice A2 x.Slots.length c2, .int .i64 x.State, .int .i64 x.Value.Kind, .int .i64 x.Value.N, .slice A6 x.Queue.length c6, .slice A7 x.Askers.length c7, .int .i64 x.Peer, .int .i64 x.Pos, .int .i64 x.Count, .int .i64 x.Sent] 37) := ⟨_, rfl⟩
  rw [← hw3]
  have HC3 : Hid (Cur (w.alloc (.cells #[.int .i64 0, .int .i64 0, .slice none 0 0, .int .i64 0, .int .i64 0, .int .i64 0, .slice none 0 0, .slice none 0 0, .int .i64 0, .int .i64 0, .int .i64 0, .int .i64 0] 37)) (w.heap.size + 1) w3) := by rw [hw3]; exact HC2.out.below ((Below.refl _ _).alloc (Nat.le_refl _) (.cells #[.int .i64 x.Kind, .int .i64 x.Script, .slice A2 x.Slots.length c2, .int .i64 x.State, .int .i64 x.Value.Kind, .int .i64 x.Value.N, .slice A6 x.Queue.length c6, .slice A7 x.Askers.length c7, .int .i64 x.Peer, .int .i64 x.Pos, .int .i64 x.Count, .int .i64 x.Sent] 37))
  have HKR3 : Hid (Blk w3 w.heap.size 37 #[.int .i64 0, .int .i64 0, .slice none 0 0, .int .i64 0, .int .i64 0, .int .i64 0, .slice none 0 0, .slice none 0 0, .int .i64 0, .int .i64 0, .int .i64 0, .int .i64 0]) := by rw [hw3]; exact HK2.out.alloc (.cells #[.int .i64 x.Kind, .int .i64 x.Script, .slice A2 x.Slots.length c2, .int .i64 x.State, .int .i64 x.Value.Kind, .int .i64 x.Value.N, .slice A6 x.Queue.length c6, .slice A7 x.Askers.length c7, .int .i64 x.Peer, .int .i64 x.Pos, .int .i64 x.Count, .int .i64 x.Sent] 37)
  have HKM3 : Hid (Blk w3 w2.heap.size 37 #[.int .i64 x.Kind, .int .i64 x.Script, .slice A2 x.Slots.length c2, .int .i64 x.State, .int .i64 x.Value.Kind, .int .i64 x.Value.N, .slice A6 x.Queue.length c6, .slice A7 x.Askers.length c7, .int .i64 x.Peer, .int .i64 x.Pos, .int .i64 x.Count, .int .i64 x.Sent]) := by rw [hw3]; exact Blk.new w2 37 #[.int .i64 x.Kind, .int .i64 x.Script, .slice A2 x.Slots.length c2, .int .i64 x.State, .int .i64 x.Value.Kind, .int .i64 x.Value.N, .slice A6 x.Queue.length c6, .slice A7 x.Askers.length c7, .int .i64 x.Peer, .int .i64 x.Pos, .int .i64 x.Count, .int .i64 x.Sent]
  have HE3 : Hid (EntS (w1.heap.size + 2) w3 x.Slots x.Queue x.Askers (.slice A2 x.Slots.length c2) (.slice A6 x.Queue.length c6) (.slice A7 x.Askers.length c7)) := by rw [hw3]; exact HE2.out.alloc (.cells #[.int .i64 x.Kind, .int .i64 x.Script, .slice A2 x.Slots.length c2, .int .i64 x.State, .int .i64 x.Value.Kind, .int .i64 x.Value.N, .slice A6 x.Queue.length c6, .slice A7 x.Askers.length c7, .int .i64 x.Peer, .int .i64 x.Pos, .int .i64 x.Count, .int .i64 x.Sent] 37)
  have hs3 : w2.heap.size + 1 ≤ w3.heap.size := by rw [hw3]; simp
  clear hw3
  refine wp_region_U (fun wq => Blk wq w2.heap.size 37 #[.int .i64 x.Kind, .int .i64 x.Script, .slice A2 x.Slots.length c2, .int .i64 x.State, .int .i64 x.Value.Kind, .int .i64 x.Value.N, .slice A6 x.Queue.length c6, .slice A7 x.Askers.length c7, .int .i64 x.Peer, .int .i64 x.Pos, .int .i64 x.Count, .int .i64 x.Sent]) [0, 1, 2, 3] (by kernel_rfl) ?_
  have hH_ := (HKM3.out.drew : (fun wq => Blk wq w2.heap.size 37 #[.int .i64 x.Kind, .int .i64 x.Script, .slice A2 x.Slots.length c2, .int .i64 x.State, .int .i64 x.Value.Kind, .int .i64 x.Value.N, .slice A6 x.Queue.length c6, .slice A7 x.Askers.length c7, .int .i64 x.Peer, .int .i64 x.Pos, .int .i64 x.Count, .int .i64 x.Sent]) _)
  refine wpAnyU_take (i := 0) (v := ?_) rfl (by kernel_rfl) (by kernel_rfl) (by kernel_rfl) (by kernel_rfl) (fun _ _ _ h => h) (Or.inl ⟨by rfl, ?_⟩) hH_ ?_
  rotate_left
  · (intro w hSw; (try dsimp only at hSw); (obtain ⟨kc0, kf0⟩ := hSw.rules; go_simp <;> with_reducible rfl))
  simp only [Act.put, List.setIfInBounds_toArray, List.set_cons_zero, List.set_cons_succ]
  refine wpAnyU_take (i := 1) (v := ?_) rfl (by kernel_rfl) (by kernel_rfl) (by kernel_rfl) (by kernel_rfl) (fun _ _ _ h => h) (Or.inl ⟨by rfl, ?_⟩) hH_ ?_
  rotate_left
  · (intro w hSw; (try dsimp only at hSw); go_simp <;> with_reducible rfl)
  simp only [Act.put, List.setIfInBounds_toArray, List.set_cons_zero, List.set_cons_succ]
  refine wpAnyU_one (i := 2) (by kernel_rfl) rfl (fun K hK => ?_)
  go_simp
  refine (spec_l1Below_calls _ (w.heap.size + 1) _ _ (HC3.out.below (Below.refl _ _).drew)).mono ?_
  rintro e w4 ⟨n, hn0, hn1, rfl, hc4, hg4⟩
  replace hn1 := hn1 (by omega)
  have HC4 := Lib.hid hc4
  have HKR4 := Lib.hid (HKR3.out.drew.chg hg4 (by omega))
  have HE4 := Lib.hid ((HE3.out.below (Below.refl _ _).drew).chg hg4 (by rintro _ rfl; omega))
  have hs4 := hg4.size
  obtain ⟨kr, jr⟩ := HKR4.out.rules
  have lr := HKR4.out.lt
  refine hK.out _ _ ?_ (fun hH1_ => ?_)
  · exact hH_.chg hg4 (by omega)
  clear hK K hH_
  have hH_ := hH1_
  clear hH1_
  refine wpAnyU_one' (i := 3) (by kernel_rfl) rfl (by kernel_rfl) (fun K hK => ?_)
  go_simp
  refine hK.out _ _ ?_
  clear hK K
  refine wpAnyU_one' (i := 4) (by kernel_rfl) rfl (by kernel_rfl) (fun K hK => ?_)
  go_simp
  refine hK.out _ _ ?_
  clear hK K
  refine wpAnyU_done (by kernel_rfl) ?_ _
  go_wp2
  have HCF := HC4.out.base
  refine post_cell2 (w0 := w4) (fun k => k = w.heap.size) Try.results15 w.heap.size #[.int .i64 x.Kind, .int .i64 x.Script, .slice A2 x.Slots.length c2, .int .i64 x.State, .int .i64 x.Value.Kind, .int .i64 x.Value.N, .slice A6 x.Queue.length c6, .slice A7 x.Askers.length c7, .int .i64 x.Peer, .int .i64 x.Pos, .int .i64 x.Count, .int .i64 x.Sent] (.int .i64 n) _ rfl (Blk.eq ((((((((((((HKR4.out.set_ 0 (.int .i64 x.Kind)).set_ 1 (.int .i64 x.Script)).set_ 2 (.slice A2 x.Slots.length c2)).set_ 3 (.int .i64 x.State)).set_ 4 (.int .i64 x.Value.Kind)).set_ 5 (.int .i64 x.Value.N)).set_ 6 (.slice A6 x.Queue.length c6)).set_ 7 (.slice A7 x.Askers.length c7)).set_ 8 (.int .i64 x.Peer)).set_ 9 (.int .i64 x.Pos)).set_ 10 (.int .i64 x.Count)).set_ 11 (.int .i64 x.Sent)) (by simp)) Try.underlying37 rfl (by kernel_rfl) rfl rfl (((((((((((((Chg.refl (· = w.heap.size) _).setCell (p := ⟨w.heap.size, 0, none⟩) (.inl rfl) (.int .i64 x.Kind)).setCell (p := ⟨w.heap.size, 1, none⟩) (.inl rfl) (.int .i64 x.Script)).setCell (p := ⟨w.heap.size, 2, none⟩) (.inl rfl) (.slice A2 x.Slots.length c2)).setCell (p := ⟨w.heap.size, 3, none⟩) (.inl rfl) (.int .i64 x.State)).setCell (p := ⟨w.heap.size, 4, none⟩) (.inl rfl) (.int .i64 x.Value.Kind)).setCell (p := ⟨w.heap.size, 5, none⟩) (.inl rfl) (.int .i64 x.Value.N)).setCell (p := ⟨w.heap.size, 6, none⟩) (.inl rfl) (.slice A6 x.Queue.length c6)).setCell (p := ⟨w.heap.size, 7, none⟩) (.inl rfl) (.slice A7 x.Askers.length c7)).setCell (p := ⟨w.heap.size, 8, none⟩) (.inl rfl) (.int .i64 x.Peer)).setCell (p := ⟨w.heap.size, 9, none⟩) (.inl rfl) (.int .i64 x.Pos)).setCell (p := ⟨w.heap.size, 10, none⟩) (.inl rfl) (.int .i64 x.Count)).setCell (p := ⟨w.heap.size, 11, none⟩) (.inl rfl) (.int .i64 x.Sent)) ?_
  intro W hW
  refine ⟨x, .slice A2 x.Slots.length c2, .slice A6 x.Queue.length c6, .slice A7 x.Askers.length c7, n, rfl, ?_, HSM.out, hn0, hn1, ?_⟩
  · exact entS_rd (HE4.out.chg hW (by rintro _ rfl; omega))
  · exact below_chg (((Below.refl w.heap.size w).alloc (Nat.le_refl _) _).trans (HCF.mono (by simp))) hW (by omega) (by rintro _ rfl; exact Nat.le_refl _)

end Go.Proofs.Ytaalbbhebmpppaa
