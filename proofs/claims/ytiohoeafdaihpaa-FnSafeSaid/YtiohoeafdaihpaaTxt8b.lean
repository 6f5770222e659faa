import Derived.Test.YtiohoeafdaihpaaProg
import Derived.Test.YtiohoeafdaihpaaTypes
import Derived.StillTailTactics
import Derived.Deep.CutBlock
import Derived.Deep.CutRange
import Derived.Laws.OwnMore
import Derived.Deep.AppendLies
import Derived.Deep.RegionWith
import Derived.Deep.RegionHeld3
import Derived.Laws.IdiomStrings
import Derived.Test.YtiohoeafdaihpaaAppend
import Derived.Laws.StructEq
import Derived.Lib.SliceRun
import Derived.Shelf.RegionOpenPlain
import Derived.Test.YtiohoeafdaihpaaTxt7
namespace Go.Proofs.Ytiohoeafdaihpaa
open Go.RowKit
set_option linter.unusedVariables false
set_option linter.unusedSimpArgs false

theorem row_last {w : World} {B r c1 : Nat} {L : Nat} {css : List (List Value)} {x y : Value} (h : w.ownsRow B 29 2 (.slice (some ⟨r, 0, none⟩) (L + 1) c1) (L + 1) (css.flatMap id ++ [x, y])) (_ : css.length = L) : w.cell? ⟨r, L * 2 + 1, none⟩ = some y := by
  have hfl : (css.flatMap id).length = L * 2 := by
    have h := h.1
    rw [List.length_append] at h
    simp at h ⊢
    omega
  rw [h.cellAt (L * 2 + 1) (by omega), List.getElem?_append_right (by omega), hfl, show L * 2 + 1 - L * 2 = 1 from by omega]
  rfl
theorem row_free {w : World} {B r c1 n : Nat} {e : TypeId} {sz : Nat} {xs : List Value} (h : w.ownsRow B e sz (.slice (some ⟨r, 0, none⟩) n c1) n xs) (j : Nat) : w.frozen? ⟨r, j, none⟩ = false := by
  rcases h.2 with ⟨h0, _⟩ | ⟨g, cap, cur, hv, _, hg, _, _, _, _⟩
  · injection h0 with h0; cases h0
  · injection hv with h0 h1 h2
    injection h0 with h0
    injection h0 with h0
    subst h0
    exact Blk.frozen (show Blk w _ e cur from hg) j
set_option maxHeartbeats 12800000 in
set_option maxRecDepth 100000 in
theorem spec_l7Add_instrL (B g0 cap : Nat) (s nm : ByteArray) (init : List GMethod) (last : GMethod) (y : GInstr) (w : World) (h : LSt B w g0 cap nm (init ++ [last])) (hL : LineI s y) (hmn : init.length ≤ 100) (hln : last.Code.length ≤ 1000) (hB : B ≤ w.heap.size) (hs2 : s.size ≤ 4000) (hs7 : (7 : Int) < s.size)
    (hq1 : ((s.extract 0 7).toList == ([115, 99, 114, 105, 112, 116, 32] : List UInt8)) = false) (hq2 : ((s.extract 0 7).toList == ([109, 101, 116, 104, 111, 100, 32] : List UInt8)) = false) :
    Calls Try.prog 106 #[.slice (some ⟨g0, 0, none⟩) 1 cap, .string s] w fun e w' => e = .returned (.tuple #[.slice (some ⟨g0, 0, none⟩) 1 cap, .bool true]) ∧ LSt B w' g0 cap nm (init ++ [⟨last.Name, last.Code ++ [y]⟩]) ∧ Below B w w' := by
  have HP := Lib.hid (fun W => spec_ParseInstr_calls s y hL (by omega) W)
  have HLST := Lib.hid h
  clear h hL
  go_enter Try.func106, Try.ntmps106
  · go_wp2_with fail
    refine (HP.out _).mono ?_
    rintro e w1 ⟨rfl, hb1⟩
    have hz1 := hb1.size
    have hL2 := HLST.out.below hb1
    obtain ⟨w2, hw2⟩ : ∃ q, q = w1.alloc (.cells #[.int .i64 y.Op, .int .i64 y.A, .int .i64 y.B, .int .i64 y.C, .int .i64 y.D, .string y.Name] 47) := ⟨_, rfl⟩
    have HKY : Hid (Blk w2 w1.heap.size 47 #[.int .i64 y.Op, .int .i64 y.A, .int .i64 y.B, .int .i64 y.C, .int .i64 y.D, .string y.Name]) := by rw [hw2]; exact Blk.new w1 _ _
    have HB2 : Hid (Below B w w2) := by rw [hw2]; exact ((hb1.mono hB).alloc (by omega) _)
    have hz2 : w2.heap.size = w1.heap.size + 1 := by rw [hw2]; simp
    clear hb1
    obtain ⟨cur, A1, c1, hBg, hcap, hk, h4, h5, hm⟩ := hL2
    have hlen : (init ++ [last]).length = init.length + 1 := by rw [List.length_append]; rfl
    rw [hlen] at h5
    rcases hm with ⟨h0, _⟩ | ⟨init', last', r, css, Al, cl, e1, rfl, q3, q4, q5, q6, q7, q8⟩
    · simp at h0
    obtain ⟨rfl, e2⟩ := List.append_inj' e1 rfl
    injection e2 with e2 _
    subst e2
    have hown7 : ∀ k, (Value.slice Al last.Code.length cl).ownBlock = some k → k < w1.heap.size := fun k hk2 => (q6.lt k hk2).2
    have HK : Hid (Blk w2 g0 51 cur) := by rw [hw2]; exact hk.alloc _
    have H5 : Hid (w2.ownsRow B 29 2 (.slice (some ⟨r, 0, none⟩) (init.length + 1) c1) (init.length + 1) (css.flatMap id ++ [.string last.Name, .slice Al last.Code.length cl])) := by rw [hw2]; exact q5.alloc _
    have H6 : Hid (w2.ownsRow B 47 6 (.slice Al last.Code.length cl) last.Code.length (last.Code.flatMap vsInstr)) := by rw [hw2]; exact q6.alloc _
    have H7 := Lib.hid q7
    have H8 : Hid (∀ (j : Nat) y, init[j]? = some y → ∃ cs, css[j]? = some cs ∧ RdL (fun k => B ≤ k ∧ k < w2.heap.size ∧ k ≠ g0 ∧ k ≠ r ∧ (Value.slice Al last.Code.length cl).ownBlock ≠ some k) w2 (eMethod y) cs) := by
      intro j z hz
      obtain ⟨cs, hc, hr⟩ := q8 j z hz
      refine ⟨cs, hc, RdL.mono (fun k hk => ⟨hk.1, by have := hk.2.1; omega, hk.2.2⟩) _ _ (RdL.keep (fun k hk => ?_) _ _ hr)⟩
      rw [hw2]
      exact ((Below.refl w1.heap.size w1).alloc (Nat.le_refl _) _).block k hk.2.1
    have hz0 : ¬ ((init.length : Int) + 1 = 0) := by omega
    have hwz : IntKind.i64.wrap 0 = 0 := by rw [IntKind.wrap_i64]; omega
    have hwL : IntKind.i64.wrap (init.length : Int) = init.length := by rw [IntKind.wrap_i64]; omega
    have hL0 : (0 : Int) ≤ init.length := by omega
    have hL1 : (init.length : Int) < (init.length : Int) + 1 := by omega
    have cA : w2.cell? ⟨g0, 1, none⟩ = some (.slice (some ⟨r, 0, none⟩) (init.length + 1) c1) := (HK.out.cell 1).trans h5
    have lk := HK.out.lt
    have H4_ := Lib.hid h4
    have H5_ := Lib.hid h5
    have HOWN := Lib.hid hown7
    have HZ2 := Lib.hid hz2
    have hBw2 : B ≤ w2.heap.size := by omega
    clear hk q5 q6 q7 q8 e1 h4 h5 hown7 hlen hz2
    go_upto_region 8 with fail
    rw [← hw2]
    clear hw2
    go_wp2
    refine wp_region_U (fun wq => wq.cell? ⟨g0, 1, none⟩ = some (.slice (some ⟨r, 0, none⟩) (init.length + 1) c1) ∧ wq.cell? ⟨r, init.length * 2 + 1, none⟩ = some (.slice Al last.Code.length cl) ∧ Blk wq w1.heap.size 47 #[.int .i64 y.Op, .int .i64 y.A, .int .i64 y.B, .int .i64 y.C, .int .i64 y.D, .string y.Name]) [0, 1, 2, 3, 4, 5, 6, 7, 8, 9, 10, 11, 12, 13, 14, 15, 16, 17, 18, 19, 20, 21, 22] (by kernel_rfl) ?_
    have hH_ := (⟨(HK.out.drew.cell 1).trans H5_.out, row_last (show w2.drew.ownsRow _ _ _ _ _ _ from H5.out) q4, HKY.out.drew⟩ : (fun wq : World => wq.cell? ⟨g0, 1, none⟩ = some (.slice (some ⟨r, 0, none⟩) (init.length + 1) c1) ∧ wq.cell? ⟨r, init.length * 2 + 1, none⟩ = some (.slice Al last.Code.length cl) ∧ Blk wq w1.heap.size 47 #[.int .i64 y.Op, .int .i64 y.A, .int .i64 y.B, .int .i64 y.C, .int .i64 y.D, .string y.Name]) w2.drew)
    refine wpAnyU_take (i := 0) (v := ?_) rfl (by kernel_rfl) (by kernel_rfl) (by kernel_rfl) (by kernel_rfl) (fun _ _ _ h => h) (Or.inl ⟨by rfl, ?_⟩) hH_ ?_
    rotate_left
    · (intro w hSw; (try dsimp only at hSw); go_simp <;> with_reducible rfl)
    simp only [Act.put, List.setIfInBounds_toArray, List.set_cons_zero, List.set_cons_succ]
    refine wpAnyU_take (i := 1) (v := ?_) rfl (by kernel_rfl) (by kernel_rfl) (by kernel_rfl) (by kernel_rfl) (fun _ _ _ h => h) (Or.inl ⟨by rfl, ?_⟩) hH_ ?_
    rotate_left
    · (intro w hSw; (try dsimp only at hSw); go_simp <;> with_reducible rfl)
    simp only [Act.put, List.setIfInBounds_toArray, List.set_cons_zero, List.set_cons_succ]
    refine wpAnyU_take (i := 2) (v := ?_) rfl (by kernel_rfl) (by kernel_rfl) (by kernel_rfl) (by kernel_rfl) (fun _ _ _ h => h) (Or.inl ⟨by rfl, ?_⟩) hH_ ?_
    rotate_left
    · (intro w hSw; (try dsimp only at hSw); go_simp <;> with_reducible rfl)
    simp only [Act.put, List.setIfInBounds_toArray, List.set_cons_zero, List.set_cons_succ]
    refine wpAnyU_take (i := 3) (v := ?_) rfl (by kernel_rfl) (by kernel_rfl) (by kernel_rfl) (by kernel_rfl) (fun _ _ _ h => h) (Or.inl ⟨by rfl, ?_⟩) hH_ ?_
    rotate_left
    · (intro w hSw; (try dsimp only at hSw); go_simp <;> with_reducible rfl)
    simp only [Act.put, List.setIfInBounds_toArray, List.set_cons_zero, List.set_cons_succ]
    refine wpAnyU_take (i := 4) (v := ?_) rfl (by kernel_rfl) (by kernel_rfl) (by kernel_rfl) (by kernel_rfl) (fun _ _ _ h => h) (Or.inl ⟨by rfl, ?_⟩) hH_ ?_
    rotate_left
    · (intro w hSw; (try dsimp only at hSw); go_simp <;> with_reducible rfl)
    simp only [Act.put, List.setIfInBounds_toArray, List.set_cons_zero, List.set_cons_succ]
    refine wpAnyU_take (i := 5) (v := ?_) rfl (by kernel_rfl) (by kernel_rfl) (by kernel_rfl) (by kernel_rfl) (fun _ _ _ h => h) (Or.inl ⟨by rfl, ?_⟩) hH_ ?_
    rotate_left
    · (intro w hSw; (try dsimp only at hSw); (have c1_ := hSw.1; go_simp <;> with_reducible rfl))
    simp only [Act.put, List.setIfInBounds_toArray, List.set_cons_zero, List.set_cons_succ]
    refine wpAnyU_take (i := 6) (v := ?_) rfl (by kernel_rfl) (by kernel_rfl) (by kernel_rfl) (by kernel_rfl) (fun _ _ _ h => h) (Or.inl ⟨by rfl, ?_⟩) hH_ ?_
    rotate_left
    · (intro w hSw; (try dsimp only at hSw); go_simp <;> with_reducible rfl)
    simp only [Act.put, List.setIfInBounds_toArray, List.set_cons_zero, List.set_cons_succ]
    refine wpAnyU_take (i := 7) (v := ?_) rfl (by kernel_rfl) (by kernel_rfl) (by kernel_rfl) (by kernel_rfl) (fun _ _ _ h => h) (Or.inl ⟨by rfl, ?_⟩) hH_ ?_
    rotate_left
    · (intro w hSw; (try dsimp only at hSw); go_simp <;> with_reducible rfl)
    simp only [Act.put, List.setIfInBounds_toArray, List.set_cons_zero, List.set_cons_succ]
    refine wpAnyU_take (i := 8) (v := ?_) rfl (by kernel_rfl) (by kernel_rfl) (by kernel_rfl) (by kernel_rfl) (fun _ _ _ h => h) (Or.inl ⟨by rfl, ?_⟩) hH_ ?_
    rotate_left
    · (intro w hSw; (try dsimp only at hSw); go_simp <;> with_reducible rfl)
    simp only [Act.put, List.setIfInBounds_toArray, List.set_cons_zero, List.set_cons_succ]
    refine wpAnyU_take (i := 9) (v := ?_) rfl (by kernel_rfl) (by kernel_rfl) (by kernel_rfl) (by kernel_rfl) (fun _ _ _ h => h) (Or.inl ⟨by rfl, ?_⟩) hH_ ?_
    rotate_left
    · (intro w hSw; (try dsimp only at hSw); go_simp <;> with_reducible rfl)
    simp only [Act.put, List.setIfInBounds_toArray, List.set_cons_zero, List.set_cons_succ]
    refine wpAnyU_take (i := 10) (v := ?_) rfl (by kernel_rfl) (by kernel_rfl) (by kernel_rfl) (by kernel_rfl) (fun _ _ _ h => h) (Or.inl ⟨by rfl, ?_⟩) hH_ ?_
    rotate_left
    · (intro w hSw; (try dsimp only at hSw); go_simp <;> with_reducible rfl)
    simp only [Act.put, List.setIfInBounds_toArray, List.set_cons_zero, List.set_cons_succ]
    refine wpAnyU_take (i := 11) (v := ?_) rfl (by kernel_rfl) (by kernel_rfl) (by kernel_rfl) (by kernel_rfl) (fun _ _ _ h => h) (Or.inl ⟨by rfl, ?_⟩) hH_ ?_
    rotate_left
    · (intro w hSw; (try dsimp only at hSw); go_simp <;> with_reducible rfl)
    simp only [Act.put, List.setIfInBounds_toArray, List.set_cons_zero, List.set_cons_succ]
    refine wpAnyU_take (i := 12) (v := ?_) rfl (by kernel_rfl) (by kernel_rfl) (by kernel_rfl) (by kernel_rfl) (fun _ _ _ h => h) (Or.inl ⟨by rfl, ?_⟩) hH_ ?_
    rotate_left
    · (intro w hSw; (try dsimp only at hSw); (have c1_ := hSw.1; go_simp <;> with_reducible rfl))
    simp only [Act.put, List.setIfInBounds_toArray, List.set_cons_zero, List.set_cons_succ]
    refine wpAnyU_take (i := 13) (v := ?_) rfl (by kernel_rfl) (by kernel_rfl) (by kernel_rfl) (by kernel_rfl) (fun _ _ _ h => h) (Or.inl ⟨by rfl, ?_⟩) hH_ ?_
    rotate_left
    · (intro w hSw; (try dsimp only at hSw); go_simp <;> with_reducible rfl)
    simp only [Act.put, List.setIfInBounds_toArray, List.set_cons_zero, List.set_cons_succ]
    refine wpAnyU_take (i := 14) (v := ?_) rfl (by kernel_rfl) (by kernel_rfl) (by kernel_rfl) (by kernel_rfl) (fun _ _ _ h => h) (Or.inl ⟨by rfl, ?_⟩) hH_ ?_
    rotate_left
    · (intro w hSw; (try dsimp only at hSw); go_simp <;> with_reducible rfl)
    simp only [Act.put, List.setIfInBounds_toArray, List.set_cons_zero, List.set_cons_succ]
    refine wpAnyU_take (i := 15) (v := ?_) rfl (by kernel_rfl) (by kernel_rfl) (by kernel_rfl) (by kernel_rfl) (fun _ _ _ h => h) (Or.inl ⟨by rfl, ?_⟩) hH_ ?_
    rotate_left
    · (intro w hSw; (try dsimp only at hSw); go_simp <;> with_reducible rfl)
    simp only [Act.put, List.setIfInBounds_toArray, List.set_cons_zero, List.set_cons_succ]
    refine wpAnyU_take (i := 16) (v := ?_) rfl (by kernel_rfl) (by kernel_rfl) (by kernel_rfl) (by kernel_rfl) (fun _ _ _ h => h) (Or.inl ⟨by rfl, ?_⟩) hH_ ?_
    rotate_left
    · (intro w hSw; (try dsimp only at hSw); (have c1_ := hSw.2.1; go_simp <;> with_reducible rfl))
    simp only [Act.put, List.setIfInBounds_toArray, List.set_cons_zero, List.set_cons_succ]
    refine wpAnyU_take (i := 17) (v := ?_) rfl (by kernel_rfl) (by kernel_rfl) (by kernel_rfl) (by kernel_rfl) (fun _ _ _ h => h) (Or.inl ⟨by rfl, ?_⟩) hH_ ?_
    rotate_left
    · (intro w hSw; (try dsimp only at hSw); (have hb_ := hSw.2.2; have e0 := hb_.cell 0; have e1 := hb_.cell 1; have e2 := hb_.cell 2; have e3 := hb_.cell 3; have e4 := hb_.cell 4; have e5 := hb_.cell 5; simp only [List.getElem?_toArray, List.getElem?_cons_zero, List.getElem?_cons_succ] at e0 e1 e2 e3 e4 e5; clear hb_ hSw; go_simp <;> with_reducible rfl))
    simp only [Act.put, List.setIfInBounds_toArray, List.set_cons_zero, List.set_cons_succ]
    refine wpAnyU_one (i := 18) (by kernel_rfl) rfl (fun K hK => ?_)
    go_simp
    refine hK.out _ _ ?_ (fun hH1_ => ?_)
    · exact ⟨cell_alloc_keep hH_.1, cell_alloc_keep hH_.2.1, hH_.2.2.alloc _⟩
    clear hK K hH_
    have hH_ := hH1_
    clear hH1_
    refine wpAnyU_one (i := 19) (by kernel_rfl) rfl (fun K hK => ?_)
    refine step_append_lies _ (by rfl) _ _ _ (by rfl) B 47 _ _ 6 56 Try.underlying27 rfl rfl rfl rfl rfl (by omega) _ last.Code.length _ (by rfl) ((show w2.drew.ownsRow _ _ _ _ _ _ from H6.out).alloc _) ⟨w2.heap.size, 0, none⟩ 1 1 [.int .i64 y.Op, .int .i64 y.A, .int .i64 y.B, .int .i64 y.C, .int .i64 y.D, .string y.Name] (by rfl) (by rfl) (World.news_of_block (cs := #[.int .i64 y.Op, .int .i64 y.A, .int .i64 y.B, .int .i64 y.C, .int .i64 y.D, .string y.Name]) (t := 47) (fr := (0, 0)) (heap_alloc_new w2.drew _)) (by simp [Value.oneCell']) (by omega) (by have h := (by decide : maxLen = 9223372036854775807); omega) (by omega) (by simp; omega) (w2.heap.size + 1) (by simp) ?_
    intro gg cap1 w3 hown hgrow hat hlt2
    have hz2 := HZ2.out
    have hz3 : w2.heap.size + 1 ≤ w3.heap.size := Nat.le_trans (Nat.le_of_eq (size_alloc w2.drew (.cells #[.int .i64 y.Op, .int .i64 y.A, .int .i64 y.B, .int .i64 y.C, .int .i64 y.D, .string y.Name] 47)).symm) hgrow.size
    have HB3 : Hid (Below B w w3) := ((HB2.out.drew.alloc (show B ≤ w2.heap.size from hBw2) (.cells #[.int .i64 y.Op, .int .i64 y.A, .int .i64 y.B, .int .i64 y.C, .int .i64 y.D, .string y.Name] 47)).trans (grown_below hgrow (by simp; omega) (fun k hk => (H6.out.lt k hk).1)))
    have HK3 := Lib.hid ((HK.out.drew.alloc (.cells #[.int .i64 y.Op, .int .i64 y.A, .int .i64 y.B, .int .i64 y.C, .int .i64 y.D, .string y.Name] 47)).chg (grown_chg hgrow) (fun h => (H7.out _ h).1 rfl))
    have HKY3 := Lib.hid ((HKY.out.drew.alloc (.cells #[.int .i64 y.Op, .int .i64 y.A, .int .i64 y.B, .int .i64 y.C, .int .i64 y.D, .string y.Name] 47)).chg (grown_chg hgrow) (fun h => by have := HOWN.out _ h; omega))
    have H53 := Lib.hid (ownsRow_keep ((show w2.drew.ownsRow _ _ _ _ _ _ from H5.out).alloc (.cells #[.int .i64 y.Op, .int .i64 y.A, .int .i64 y.B, .int .i64 y.C, .int .i64 y.D, .string y.Name] 47)) (grown_chg hgrow) (fun k hk2 e => by simp only [Value.ownBlock, Option.some.injEq] at hk2; exact (H7.out _ e).2 hk2.symm))
    have HLS := Lib.hid (lst_instr (y := y) hBg hcap (HK.out.drew.alloc (.cells #[.int .i64 y.Op, .int .i64 y.A, .int .i64 y.B, .int .i64 y.C, .int .i64 y.D, .string y.Name] 47)) H4_.out H5_.out q3 q4 ((show w2.drew.ownsRow _ _ _ _ _ _ from H5.out).alloc (.cells #[.int .i64 y.Op, .int .i64 y.A, .int .i64 y.B, .int .i64 y.C, .int .i64 y.D, .string y.Name] 47)) H7.out (fun j z hz => by
      obtain ⟨cs, hc, hr⟩ := H8.out j z hz
      have hr2 : RdL (fun k => B ≤ k ∧ k < w2.heap.size ∧ k ≠ g0 ∧ k ≠ r ∧ (Value.slice Al last.Code.length cl).ownBlock ≠ some k) (w2.drew.alloc (.cells #[.int .i64 y.Op, .int .i64 y.A, .int .i64 y.B, .int .i64 y.C, .int .i64 y.D, .string y.Name] 47)) (eMethod z) cs := RdL.keep (w := w2) (fun k hk => ((Below.refl w2.drew.heap.size w2.drew).alloc (Nat.le_refl _) (.cells #[.int .i64 y.Op, .int .i64 y.A, .int .i64 y.B, .int .i64 y.C, .int .i64 y.D, .string y.Name] 47)).block k hk.2.1) _ _ hr
      exact ⟨cs, hc, RdL.mono (fun k hk => ⟨hk.1, by rw [size_alloc]; exact Nat.lt_succ_of_lt hk.2.1, hk.2.2⟩) _ _ hr2⟩) hgrow (by rw [size_alloc]; exact hat) hown)
    have c3 : w3.cell? ⟨g0, 1, none⟩ = some (.slice (some ⟨r, 0, none⟩) (init.length + 1) c1) := (HK3.out.cell 1).trans H5_.out
    have c4 : w3.cell? ⟨r, init.length * 2 + 1, none⟩ = some (.slice Al last.Code.length cl) := row_last H53.out q4
    have f4 := row_free H53.out (init.length * 2 + 1)
    clear hown hgrow hat hz2
    refine hK.out _ _ ?_ (fun hH1_ => ?_)
    · exact ⟨c3, c4, HKY3.out⟩
    clear hK K hH_
    have hH_ := hH1_
    clear hH1_
    refine wpAnyU_take (i := 20) (v := ?_) rfl (by kernel_rfl) (by kernel_rfl) (by kernel_rfl) (by kernel_rfl) (fun _ _ _ h => h) (Or.inl ⟨by rfl, ?_⟩) hH_ ?_
    rotate_left
    · (intro w hSw; (try dsimp only at hSw); go_simp <;> with_reducible rfl)
    simp only [Act.put, List.setIfInBounds_toArray, List.set_cons_zero, List.set_cons_succ]
    refine wpAnyU_take (i := 21) (v := ?_) rfl (by kernel_rfl) (by kernel_rfl) (by kernel_rfl) (by kernel_rfl) (fun _ _ _ h => h) (Or.inl ⟨by rfl, ?_⟩) hH_ ?_
    rotate_left
    · (intro w hSw; (try dsimp only at hSw); go_simp <;> with_reducible rfl)
    simp only [Act.put, List.setIfInBounds_toArray, List.set_cons_zero, List.set_cons_succ]
    refine wpAnyU_one' (i := 22) (by kernel_rfl) rfl (by kernel_rfl) (fun K hK => ?_)
    go_simp
    refine hK.out _ _ ?_
    clear hK K
    refine wpAnyU_done (by kernel_rfl) ?_ _
    go_wp2
    refine bodyPost_ret (v := .tuple #[.slice (some ⟨g0, 0, none⟩) 1 cap, .bool true]) (by simp [results, Try.results106, go_sem]) rfl ⟨rfl, HLS.out, ?_⟩
    exact below_chg HB3.out ((Chg.refl (· = r) w3).setCell (p := ⟨r, init.length * 2 + 1, none⟩) (.inl rfl) _) (Nat.le_trans hB HB3.out.size) (by rintro _ rfl; exact (H53.out.lt _ rfl).1)

end Go.Proofs.Ytiohoeafdaihpaa
namespace Go.Proofs.Ytiohoeafdaihpaa
open Go.RowKit
set_option linter.unusedVariables false
set_option linter.unusedSimpArgs false

set_option maxHeartbeats 12800000 in
set_option maxRecDepth 100000 in
theorem spec_l7Add_instrS (B g0 cap : Nat) (s nm : ByteArray) (init : List GMethod) (last : GMethod) (y : GInstr) (w : World) (h : LSt B w g0 cap nm (init ++ [last])) (hL : LineI s y) (hmn : init.length ≤ 100) (hln : last.Code.length ≤ 1000) (hB : B ≤ w.heap.size) (hs2 : s.size ≤ 4000) (hs7 : ¬ (7 : Int) < s.size)
    (hq1 : ((s.extract 0 7).toList == ([115, 99, 114, 105, 112, 116, 32] : List UInt8)) = false) (hq2 : ((s.extract 0 7).toList == ([109, 101, 116, 104, 111, 100, 32] : List UInt8)) = false) :
    Calls Try.prog 106 #[.slice (some ⟨g0, 0, none⟩) 1 cap, .string s] w fun e w' => e = .returned (.tuple #[.slice (some ⟨g0, 0, none⟩) 1 cap, .bool true]) ∧ LSt B w' g0 cap nm (init ++ [⟨last.Name, last.Code ++ [y]⟩]) ∧ Below B w w' := by
  have HP := Lib.hid (fun W => spec_ParseInstr_calls s y hL (by omega) W)
  have HLST := Lib.hid h
  clear h hL
  go_enter Try.func106, Try.ntmps106
  · go_wp2_with fail
    refine (HP.out _).mono ?_
    rintro e w1 ⟨rfl, hb1⟩
    have hz1 := hb1.size
    have hL2 := HLST.out.below hb1
    obtain ⟨w2, hw2⟩ : ∃ q, q = w1.alloc (.cells #[.int .i64 y.Op, .int .i64 y.A, .int .i64 y.B, .int .i64 y.C, .int .i64 y.D, .string y.Name] 47) := ⟨_, rfl⟩
    have HKY : Hid (Blk w2 w1.heap.size 47 #[.int .i64 y.Op, .int .i64 y.A, .int .i64 y.B, .int .i64 y.C, .int .i64 y.D, .string y.Name]) := by rw [hw2]; exact Blk.new w1 _ _
    have HB2 : Hid (Below B w w2) := by rw [hw2]; exact ((hb1.mono hB).alloc (by omega) _)
    have hz2 : w2.heap.size = w1.heap.size + 1 := by rw [hw2]; simp
    clear hb1
    obtain ⟨cur, A1, c1, hBg, hcap, hk, h4, h5, hm⟩ := hL2
    have hlen : (init ++ [last]).length = init.length + 1 := by rw [List.length_append]; rfl
    rw [hlen] at h5
    rcases hm with ⟨h0, _⟩ | ⟨init', last', r, css, Al, cl, e1, rfl, q3, q4, q5, q6, q7, q8⟩
    · simp at h0
    obtain ⟨rfl, e2⟩ := List.append_inj' e1 rfl
    injection e2 with e2 _
    subst e2
    have hown7 : ∀ k, (Value.slice Al last.Code.length cl).ownBlock = some k → k < w1.heap.size := fun k hk2 => (q6.lt k hk2).2
    have HK : Hid (Blk w2 g0 51 cur) := by rw [hw2]; exact hk.alloc _
    have H5 : Hid (w2.ownsRow B 29 2 (.slice (some ⟨r, 0, none⟩) (init.length + 1) c1) (init.length + 1) (css.flatMap id ++ [.string last.Name, .slice Al last.Code.length cl])) := by rw [hw2]; exact q5.alloc _
    have H6 : Hid (w2.ownsRow B 47 6 (.slice Al last.Code.length cl) last.Code.length (last.Code.flatMap vsInstr)) := by rw [hw2]; exact q6.alloc _
    have H7 := Lib.hid q7
    have H8 : Hid (∀ (j : Nat) y, init[j]? = some y → ∃ cs, css[j]? = some cs ∧ RdL (fun k => B ≤ k ∧ k < w2.heap.size ∧ k ≠ g0 ∧ k ≠ r ∧ (Value.slice Al last.Code.length cl).ownBlock ≠ some k) w2 (eMethod y) cs) := by
      intro j z hz
      obtain ⟨cs, hc, hr⟩ := q8 j z hz
      refine ⟨cs, hc, RdL.mono (fun k hk => ⟨hk.1, by have := hk.2.1; omega, hk.2.2⟩) _ _ (RdL.keep (fun k hk => ?_) _ _ hr)⟩
      rw [hw2]
      exact ((Below.refl w1.heap.size w1).alloc (Nat.le_refl _) _).block k hk.2.1
    have hz0 : ¬ ((init.length : Int) + 1 = 0) := by omega
    have hwz : IntKind.i64.wrap 0 = 0 := by rw [IntKind.wrap_i64]; omega
    have hwL : IntKind.i64.wrap (init.length : Int) = init.length := by rw [IntKind.wrap_i64]; omega
    have hL0 : (0 : Int) ≤ init.length := by omega
    have hL1 : (init.length : Int) < (init.length : Int) + 1 := by omega
    have cA : w2.cell? ⟨g0, 1, none⟩ = some (.slice (some ⟨r, 0, none⟩) (init.length + 1) c1) := (HK.out.cell 1).trans h5
    have lk := HK.out.lt
    have H4_ := Lib.hid h4
    have H5_ := Lib.hid h5
    have HOWN := Lib.hid hown7
    have HZ2 := Lib.hid hz2
    have hBw2 : B ≤ w2.heap.size := by omega
    clear hk q5 q6 q7 q8 e1 h4 h5 hown7 hlen hz2
    go_upto_region 8 with fail
    rw [← hw2]
    clear hw2
    go_wp2
    refine wp_region_U (fun wq => wq.cell? ⟨g0, 1, none⟩ = some (.slice (some ⟨r, 0, none⟩) (init.length + 1) c1) ∧ wq.cell? ⟨r, init.length * 2 + 1, none⟩ = some (.slice Al last.Code.length cl) ∧ Blk wq w1.heap.size 47 #[.int .i64 y.Op, .int .i64 y.A, .int .i64 y.B, .int .i64 y.C, .int .i64 y.D, .string y.Name]) [0, 1, 2, 3, 4, 5, 6, 7, 8, 9, 10, 11, 12, 13, 14, 15, 16, 17, 18, 19, 20, 21, 22] (by kernel_rfl) ?_
    have hH_ := (⟨(HK.out.drew.cell 1).trans H5_.out, row_last (show w2.drew.ownsRow _ _ _ _ _ _ from H5.out) q4, HKY.out.drew⟩ : (fun wq : World => wq.cell? ⟨g0, 1, none⟩ = some (.slice (some ⟨r, 0, none⟩) (init.length + 1) c1) ∧ wq.cell? ⟨r, init.length * 2 + 1, none⟩ = some (.slice Al last.Code.length cl) ∧ Blk wq w1.heap.size 47 #[.int .i64 y.Op, .int .i64 y.A, .int .i64 y.B, .int .i64 y.C, .int .i64 y.D, .string y.Name]) w2.drew)
    refine wpAnyU_take (i := 0) (v := ?_) rfl (by kernel_rfl) (by kernel_rfl) (by kernel_rfl) (by kernel_rfl) (fun _ _ _ h => h) (Or.inl ⟨by rfl, ?_⟩) hH_ ?_
    rotate_left
    · (intro w hSw; (try dsimp only at hSw); go_simp <;> with_reducible rfl)
    simp only [Act.put, List.setIfInBounds_toArray, List.set_cons_zero, List.set_cons_succ]
    refine wpAnyU_take (i := 1) (v := ?_) rfl (by kernel_rfl) (by kernel_rfl) (by kernel_rfl) (by kernel_rfl) (fun _ _ _ h => h) (Or.inl ⟨by rfl, ?_⟩) hH_ ?_
    rotate_left
    · (intro w hSw; (try dsimp only at hSw); go_simp <;> with_reducible rfl)
    simp only [Act.put, List.setIfInBounds_toArray, List.set_cons_zero, List.set_cons_succ]
    refine wpAnyU_take (i := 2) (v := ?_) rfl (by kernel_rfl) (by kernel_rfl) (by kernel_rfl) (by kernel_rfl) (fun _ _ _ h => h) (Or.inl ⟨by rfl, ?_⟩) hH_ ?_
    rotate_left
    · (intro w hSw; (try dsimp only at hSw); go_simp <;> with_reducible rfl)
    simp only [Act.put, List.setIfInBounds_toArray, List.set_cons_zero, List.set_cons_succ]
    refine wpAnyU_take (i := 3) (v := ?_) rfl (by kernel_rfl) (by kernel_rfl) (by kernel_rfl) (by kernel_rfl) (fun _ _ _ h => h) (Or.inl ⟨by rfl, ?_⟩) hH_ ?_
    rotate_left
    · (intro w hSw; (try dsimp only at hSw); go_simp <;> with_reducible rfl)
    simp only [Act.put, List.setIfInBounds_toArray, List.set_cons_zero, List.set_cons_succ]
    refine wpAnyU_take (i := 4) (v := ?_) rfl (by kernel_rfl) (by kernel_rfl) (by kernel_rfl) (by kernel_rfl) (fun _ _ _ h => h) (Or.inl ⟨by rfl, ?_⟩) hH_ ?_
    rotate_left
    · (intro w hSw; (try dsimp only at hSw); go_simp <;> with_reducible rfl)
    simp only [Act.put, List.setIfInBounds_toArray, List.set_cons_zero, List.set_cons_succ]
    refine wpAnyU_take (i := 5) (v := ?_) rfl (by kernel_rfl) (by kernel_rfl) (by kernel_rfl) (by kernel_rfl) (fun _ _ _ h => h) (Or.inl ⟨by rfl, ?_⟩) hH_ ?_
    rotate_left
    · (intro w hSw; (try dsimp only at hSw); (have c1_ := hSw.1; go_simp <;> with_reducible rfl))
    simp only [Act.put, List.setIfInBounds_toArray, List.set_cons_zero, List.set_cons_succ]
    refine wpAnyU_take (i := 6) (v := ?_) rfl (by kernel_rfl) (by kernel_rfl) (by kernel_rfl) (by kernel_rfl) (fun _ _ _ h => h) (Or.inl ⟨by rfl, ?_⟩) hH_ ?_
    rotate_left
    · (intro w hSw; (try dsimp only at hSw); go_simp <;> with_reducible rfl)
    simp only [Act.put, List.setIfInBounds_toArray, List.set_cons_zero, List.set_cons_succ]
    refine wpAnyU_take (i := 7) (v := ?_) rfl (by kernel_rfl) (by kernel_rfl) (by kernel_rfl) (by kernel_rfl) (fun _ _ _ h => h) (Or.inl ⟨by rfl, ?_⟩) hH_ ?_
    rotate_left
    · (intro w hSw; (try dsimp only at hSw); go_simp <;> with_reducible rfl)
    simp only [Act.put, List.setIfInBounds_toArray, List.set_cons_zero, List.set_cons_succ]
    refine wpAnyU_take (i := 8) (v := ?_) rfl (by kernel_rfl) (by kernel_rfl) (by kernel_rfl) (by kernel_rfl) (fun _ _ _ h => h) (Or.inl ⟨by rfl, ?_⟩) hH_ ?_
    rotate_left
    · (intro w hSw; (try dsimp only at hSw); go_simp <;> with_reducible rfl)
    simp only [Act.put, List.setIfInBounds_toArray, List.set_cons_zero, List.set_cons_succ]
    refine wpAnyU_take (i := 9) (v := ?_) rfl (by kernel_rfl) (by kernel_rfl) (by kernel_rfl) (by kernel_rfl) (fun _ _ _ h => h) (Or.inl ⟨by rfl, ?_⟩) hH_ ?_
    rotate_left
    · (intro w hSw; (try dsimp only at hSw); go_simp <;> with_reducible rfl)
    simp only [Act.put, List.setIfInBounds_toArray, List.set_cons_zero, List.set_cons_succ]
    refine wpAnyU_take (i := 10) (v := ?_) rfl (by kernel_rfl) (by kernel_rfl) (by kernel_rfl) (by kernel_rfl) (fun _ _ _ h => h) (Or.inl ⟨by rfl, ?_⟩) hH_ ?_
    rotate_left
    · (intro w hSw; (try dsimp only at hSw); go_simp <;> with_reducible rfl)
    simp only [Act.put, List.setIfInBounds_toArray, List.set_cons_zero, List.set_cons_succ]
    refine wpAnyU_take (i := 11) (v := ?_) rfl (by kernel_rfl) (by kernel_rfl) (by kernel_rfl) (by kernel_rfl) (fun _ _ _ h => h) (Or.inl ⟨by rfl, ?_⟩) hH_ ?_
    rotate_left
    · (intro w hSw; (try dsimp only at hSw); go_simp <;> with_reducible rfl)
    simp only [Act.put, List.setIfInBounds_toArray, List.set_cons_zero, List.set_cons_succ]
    refine wpAnyU_take (i := 12) (v := ?_) rfl (by kernel_rfl) (by kernel_rfl) (by kernel_rfl) (by kernel_rfl) (fun _ _ _ h => h) (Or.inl ⟨by rfl, ?_⟩) hH_ ?_
    rotate_left
    · (intro w hSw; (try dsimp only at hSw); (have c1_ := hSw.1; go_simp <;> with_reducible rfl))
    simp only [Act.put, List.setIfInBounds_toArray, List.set_cons_zero, List.set_cons_succ]
    refine wpAnyU_take (i := 13) (v := ?_) rfl (by kernel_rfl) (by kernel_rfl) (by kernel_rfl) (by kernel_rfl) (fun _ _ _ h => h) (Or.inl ⟨by rfl, ?_⟩) hH_ ?_
    rotate_left
    · (intro w hSw; (try dsimp only at hSw); go_simp <;> with_reducible rfl)
    simp only [Act.put, List.setIfInBounds_toArray, List.set_cons_zero, List.set_cons_succ]
    refine wpAnyU_take (i := 14) (v := ?_) rfl (by kernel_rfl) (by kernel_rfl) (by kernel_rfl) (by kernel_rfl) (fun _ _ _ h => h) (Or.inl ⟨by rfl, ?_⟩) hH_ ?_
    rotate_left
    · (intro w hSw; (try dsimp only at hSw); go_simp <;> with_reducible rfl)
    simp only [Act.put, List.setIfInBounds_toArray, List.set_cons_zero, List.set_cons_succ]
    refine wpAnyU_take (i := 15) (v := ?_) rfl (by kernel_rfl) (by kernel_rfl) (by kernel_rfl) (by kernel_rfl) (fun _ _ _ h => h) (Or.inl ⟨by rfl, ?_⟩) hH_ ?_
    rotate_left
    · (intro w hSw; (try dsimp only at hSw); go_simp <;> with_reducible rfl)
    simp only [Act.put, List.setIfInBounds_toArray, List.set_cons_zero, List.set_cons_succ]
    refine wpAnyU_take (i := 16) (v := ?_) rfl (by kernel_rfl) (by kernel_rfl) (by kernel_rfl) (by kernel_rfl) (fun _ _ _ h => h) (Or.inl ⟨by rfl, ?_⟩) hH_ ?_
    rotate_left
    · (intro w hSw; (try dsimp only at hSw); (have c1_ := hSw.2.1; go_simp <;> with_reducible rfl))
    simp only [Act.put, List.setIfInBounds_toArray, List.set_cons_zero, List.set_cons_succ]
    refine wpAnyU_take (i := 17) (v := ?_) rfl (by kernel_rfl) (by kernel_rfl) (by kernel_rfl) (by kernel_rfl) (fun _ _ _ h => h) (Or.inl ⟨by rfl, ?_⟩) hH_ ?_
    rotate_left
    · (intro w hSw; (try dsimp only at hSw); (have hb_ := hSw.2.2; have e0 := hb_.cell 0; have e1 := hb_.cell 1; have e2 := hb_.cell 2; have e3 := hb_.cell 3; have e4 := hb_.cell 4; have e5 := hb_.cell 5; simp only [List.getElem?_toArray, List.getElem?_cons_zero, List.getElem?_cons_succ] at e0 e1 e2 e3 e4 e5; clear hb_ hSw; go_simp <;> with_reducible rfl))
    simp only [Act.put, List.setIfInBounds_toArray, List.set_cons_zero, List.set_cons_succ]
    refine wpAnyU_one (i := 18) (by kernel_rfl) rfl (fun K hK => ?_)
    go_simp
    refine hK.out _ _ ?_ (fun hH1_ => ?_)
    · exact ⟨cell_alloc_keep hH_.1, cell_alloc_keep hH_.2.1, hH_.2.2.alloc _⟩
    clear hK K hH_
    have hH_ := hH1_
    clear hH1_
    refine wpAnyU_one (i := 19) (by kernel_rfl) rfl (fun K hK => ?_)
    refine step_append_lies _ (by rfl) _ _ _ (by rfl) B 47 _ _ 6 56 Try.underlying27 rfl rfl rfl rfl rfl (by omega) _ last.Code.length _ (by rfl) ((show w2.drew.ownsRow _ _ _ _ _ _ from H6.out).alloc _) ⟨w2.heap.size, 0, none⟩ 1 1 [.int .i64 y.Op, .int .i64 y.A, .int .i64 y.B, .int .i64 y.C, .int .i64 y.D, .string y.Name] (by rfl) (by rfl) (World.news_of_block (cs := #[.int .i64 y.Op, .int .i64 y.A, .int .i64 y.B, .int .i64 y.C, .int .i64 y.D, .string y.Name]) (t := 47) (fr := (0, 0)) (heap_alloc_new w2.drew _)) (by simp [Value.oneCell']) (by omega) (by have h := (by decide : maxLen = 9223372036854775807); omega) (by omega) (by simp; omega) (w2.heap.size + 1) (by simp) ?_
    intro gg cap1 w3 hown hgrow hat hlt2
    have hz2 := HZ2.out
    have hz3 : w2.heap.size + 1 ≤ w3.heap.size := Nat.le_trans (Nat.le_of_eq (size_alloc w2.drew (.cells #[.int .i64 y.Op, .int .i64 y.A, .int .i64 y.B, .int .i64 y.C, .int .i64 y.D, .string y.Name] 47)).symm) hgrow.size
    have HB3 : Hid (Below B w w3) := ((HB2.out.drew.alloc (show B ≤ w2.heap.size from hBw2) (.cells #[.int .i64 y.Op, .int .i64 y.A, .int .i64 y.B, .int .i64 y.C, .int .i64 y.D, .string y.Name] 47)).trans (grown_below hgrow (by simp; omega) (fun k hk => (H6.out.lt k hk).1)))
    have HK3 := Lib.hid ((HK.out.drew.alloc (.cells #[.int .i64 y.Op, .int .i64 y.A, .int .i64 y.B, .int .i64 y.C, .int .i64 y.D, .string y.Name] 47)).chg (grown_chg hgrow) (fun h => (H7.out _ h).1 rfl))
    have HKY3 := Lib.hid ((HKY.out.drew.alloc (.cells #[.int .i64 y.Op, .int .i64 y.A, .int .i64 y.B, .int .i64 y.C, .int .i64 y.D, .string y.Name] 47)).chg (grown_chg hgrow) (fun h => by have := HOWN.out _ h; omega))
    have H53 := Lib.hid (ownsRow_keep ((show w2.drew.ownsRow _ _ _ _ _ _ from H5.out).alloc (.cells #[.int .i64 y.Op, .int .i64 y.A, .int .i64 y.B, .int .i64 y.C, .int .i64 y.D, .string y.Name] 47)) (grown_chg hgrow) (fun k hk2 e => by simp only [Value.ownBlock, Option.some.injEq] at hk2; exact (H7.out _ e).2 hk2.symm))
    have HLS := Lib.hid (lst_instr (y := y) hBg hcap (HK.out.drew.alloc (.cells #[.int .i64 y.Op, .int .i64 y.A, .int .i64 y.B, .int .i64 y.C, .int .i64 y.D, .string y.Name] 47)) H4_.out H5_.out q3 q4 ((show w2.drew.ownsRow _ _ _ _ _ _ from H5.out).alloc (.cells #[.int .i64 y.Op, .int .i64 y.A, .int .i64 y.B, .int .i64 y.C, .int .i64 y.D, .string y.Name] 47)) H7.out (fun j z hz => by
      obtain ⟨cs, hc, hr⟩ := H8.out j z hz
      have hr2 : RdL (fun k => B ≤ k ∧ k < w2.heap.size ∧ k ≠ g0 ∧ k ≠ r ∧ (Value.slice Al last.Code.length cl).ownBlock ≠ some k) (w2.drew.alloc (.cells #[.int .i64 y.Op, .int .i64 y.A, .int .i64 y.B, .int .i64 y.C, .int .i64 y.D, .string y.Name] 47)) (eMethod z) cs := RdL.keep (w := w2) (fun k hk => ((Below.refl w2.drew.heap.size w2.drew).alloc (Nat.le_refl _) (.cells #[.int .i64 y.Op, .int .i64 y.A, .int .i64 y.B, .int .i64 y.C, .int .i64 y.D, .string y.Name] 47)).block k hk.2.1) _ _ hr
      exact ⟨cs, hc, RdL.mono (fun k hk => ⟨hk.1, by rw [size_alloc]; exact Nat.lt_succ_of_lt hk.2.1, hk.2.2⟩) _ _ hr2⟩) hgrow (by rw [size_alloc]; exact hat) hown)
    have c3 : w3.cell? ⟨g0, 1, none⟩ = some (.slice (some ⟨r, 0, none⟩) (init.length + 1) c1) := (HK3.out.cell 1).trans H5_.out
    have c4 : w3.cell? ⟨r, init.length * 2 + 1, none⟩ = some (.slice Al last.Code.length cl) := row_last H53.out q4
    have f4 := row_free H53.out (init.length * 2 + 1)
    clear hown hgrow hat hz2
    refine hK.out _ _ ?_ (fun hH1_ => ?_)
    · exact ⟨c3, c4, HKY3.out⟩
    clear hK K hH_
    have hH_ := hH1_
    clear hH1_
    refine wpAnyU_take (i := 20) (v := ?_) rfl (by kernel_rfl) (by kernel_rfl) (by kernel_rfl) (by kernel_rfl) (fun _ _ _ h => h) (Or.inl ⟨by rfl, ?_⟩) hH_ ?_
    rotate_left
    · (intro w hSw; (try dsimp only at hSw); go_simp <;> with_reducible rfl)
    simp only [Act.put, List.setIfInBounds_toArray, List.set_cons_zero, List.set_cons_succ]
    refine wpAnyU_take (i := 21) (v := ?_) rfl (by kernel_rfl) (by kernel_rfl) (by kernel_rfl) (by kernel_rfl) (fun _ _ _ h => h) (Or.inl ⟨by rfl, ?_⟩) hH_ ?_
    rotate_left
    · (intro w hSw; (try dsimp only at hSw); go_simp <;> with_reducible rfl)
    simp only [Act.put, List.setIfInBounds_toArray, List.set_cons_zero, List.set_cons_succ]
    refine wpAnyU_one' (i := 22) (by kernel_rfl) rfl (by kernel_rfl) (fun K hK => ?_)
    go_simp
    refine hK.out _ _ ?_
    clear hK K
    refine wpAnyU_done (by kernel_rfl) ?_ _
    go_wp2
    refine bodyPost_ret (v := .tuple #[.slice (some ⟨g0, 0, none⟩) 1 cap, .bool true]) (by simp [results, Try.results106, go_sem]) rfl ⟨rfl, HLS.out, ?_⟩
    exact below_chg HB3.out ((Chg.refl (· = r) w3).setCell (p := ⟨r, init.length * 2 + 1, none⟩) (.inl rfl) _) (Nat.le_trans hB HB3.out.size) (by rintro _ rfl; exact (H53.out.lt _ rfl).1)

end Go.Proofs.Ytiohoeafdaihpaa
