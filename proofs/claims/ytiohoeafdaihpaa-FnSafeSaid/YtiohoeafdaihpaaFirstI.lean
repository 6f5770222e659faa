import Derived.Deep.CutRange
import Derived.Test.YtiohoeafdaihpaaProg
import Derived.Test.YtiohoeafdaihpaaTypes
import Derived.StillTailTactics
import Derived.Deep.CutRange
import Derived.Laws.OwnMore
import Derived.Deep.AppendLies
import Derived.Deep.RegionWith
import Derived.Deep.RegionHeld3
import Derived.Laws.IdiomStrings
import Derived.Test.YtiohoeafdaihpaaAppend
import Derived.Laws.StructEq
import Derived.Lib.SliceRun
import Derived.Shelf.RegionOpenPlain
import Derived.Test.YtiohoeafdaihpaaFirst
import Derived.Test.YtiohoeafdaihpaaMethod
namespace Go.Proofs.Ytiohoeafdaihpaa
open Go.RowKit
set_option linter.unusedVariables false
set_option linter.unusedSimpArgs false

/-- a slice is made, of n zeros -/
theorem run_make_rep {P : Program} (t e : TypeId) (bytes : Nat) (z : Value) (ht : P.underlying t = some (.slice e)) (hi : ∃ i, P.info? e = some i ∧ i.zero = some z ∧ z.cells = #[z] ∧ i.bytes = bytes ∧ i.size = 1) (n : Nat) (hn : bytes * n ≤ 281474976710656) (h63 : n ≤ 9223372036854775807) :
    ∀ W : World, (Instr.makeSlice t (.int .i64 (n : Int)) (.int .i64 (n : Int))).run P W = .ok (.slice (some ⟨W.heap.size, 0, none⟩) n n) (W.alloc (.cells (List.replicate n z).toArray e)) := by
  obtain ⟨i, h1, h2, hc, h3, h4⟩ := hi
  intro W
  have h := run_make_rowN t e i z ht h1 h2 .i64 .i64 n n (Nat.le_refl _) (by rw [h3]; exact hn) h63 W
  rw [h4, Nat.mul_one, hc] at h
  rw [h]
  have hq : madeCells #[z] n = (List.replicate n z).toArray := by
    apply Array.ext'
    rw [toList_madeCells_one]
  rw [hq]
theorem rep_none {w : World} {gm gs n : Nat} {us : List Value} : ∀ (j : Nat) (l : List Int) u, (List.replicate n (none : Option (List Int)))[j]? = some (some l) → us[j]? = some u → Rd (fun k => k < w.heap.size ∧ k ≠ gm ∧ k ≠ gs) w (.s l.length (l.flatMap eInt)) u := by
  intro j l u hs
  rw [List.getElem?_replicate] at hs
  split at hs <;> cases hs
set_option maxHeartbeats 12800000 in
set_option maxRecDepth 100000 in
theorem impl_FirstUnset_calls (us : List Value) (x : GMethod) (w : World) (hr : RdLW w (eMethod x) us) (hz : sizL (eMethod x) ≤ 1048576) :
    Calls Try.prog 18 #[.agg us.toArray] w fun e w' => e = .returned (.int .i64 (firstI x.Code)) ∧ Below w.heap.size w w' := by
  have hzq := hz
  rw [siz_eMethod] at hzq
  obtain ⟨v1, rfl, h1⟩ := rd_eMethod hr
  obtain ⟨A, c, rfl, ⟨_, _, hl⟩⟩ := h1.slice
  have HR := Lib.hid h1
  have hn1 : x.Code.length ≤ 1048576 := by omega
  have hmk1 : ∀ W : World, (Instr.makeSlice 69 (.int .i64 ((x.Code.length : Int) + 1)) (.int .i64 ((x.Code.length : Int) + 1))).run Try.prog W = .ok (.slice (some ⟨W.heap.size, 0, none⟩) (x.Code.length + 1) (x.Code.length + 1)) (W.alloc (.cells (List.replicate (x.Code.length + 1) (.bool false : Value)).toArray 4)) := fun W => by
    have h := run_make_rep (P := Try.prog) 69 4 1 (.bool false) Try.underlying69 ⟨_, rfl, rfl, rfl, rfl, rfl⟩ (x.Code.length + 1) (by omega) (by omega) W
    push_cast at h; exact h
  have hmk2 : ∀ W : World, (Instr.makeSlice 70 (.int .i64 ((x.Code.length : Int) + 1)) (.int .i64 ((x.Code.length : Int) + 1))).run Try.prog W = .ok (.slice (some ⟨W.heap.size, 0, none⟩) (x.Code.length + 1) (x.Code.length + 1)) (W.alloc (.cells (List.replicate (x.Code.length + 1) (.slice none 0 0 : Value)).toArray 44)) := fun W => by
    have h := run_make_rep (P := Try.prog) 70 44 24 (.slice none 0 0) Try.underlying70 ⟨_, rfl, rfl, rfl, rfl, rfl⟩ (x.Code.length + 1) (by omega) (by omega) W
    push_cast at h; exact h
  clear hz hr h1
  go_enter Try.func18, Try.ntmps18
  go_upto_region 2 with fail
  have hwr : IntKind.i64.wrap ((x.Code.length : Int) + 1) = (x.Code.length : Int) + 1 := by rw [IntKind.wrap_i64]; omega
  clear hzq
  obtain ⟨w0, hw0⟩ : ∃ q, q = w.alloc (.cells #[.string x.Name, .slice A x.Code.length c] 29) := ⟨_, rfl⟩
  rw [← hw0]
  have HK0 : Hid (Blk w0 w.heap.size 29 #[.string x.Name, .slice A x.Code.length c]) := by unfold Hid; rw [hw0]; exact Blk.new w _ _
  have HBw : Hid (Below w.heap.size w w0) := by unfold Hid; rw [hw0]; exact (Below.refl _ _).alloc (Nat.le_refl _) _
  have zw : w0.heap.size ≤ w.heap.size + 1 := by rw [hw0]; simp
  have zw' : w.heap.size + 1 ≤ w0.heap.size := by rw [hw0]; simp
  clear hw0
  go_cut [4, 5] from 15 to 20 (fun p_ q_ wx => ∃ (bm bs gm gs : Nat), p_ = .pointer (some ⟨bm, 0, none⟩) ∧ q_ = .pointer (some ⟨bs, 0, none⟩) ∧ StI wx w0.heap.size bm bs gm gs (x.Code.length + 1) (List.replicate (x.Code.length + 1) none) (List.replicate (x.Code.length + 1) (.slice none 0 0)) ∧ Below w0.heap.size w0 wx)
  case first =>
    refine wp_region_U (fun wq => True) [0, 1, 2, 3, 4, 5, 6, 7, 8, 9] (by kernel_rfl) ?_
    have hH_ := (trivial : (fun wq => True) w0.drew)
    refine wpAnyU_take (i := 0) (v := ?_) rfl (by kernel_rfl) (by kernel_rfl) (by kernel_rfl) (by kernel_rfl) (fun _ _ _ h => h) (Or.inl ⟨by rfl, ?_⟩) hH_ ?_
    rotate_left
    · (intro w hSw; (try dsimp only at hSw); go_simp <;> with_reducible rfl)
    simp only [Act.put, List.setIfInBounds_toArray, List.set_cons_zero, List.set_cons_succ]
    refine wpAnyU_take (i := 1) (v := ?_) rfl (by kernel_rfl) (by kernel_rfl) (by kernel_rfl) (by kernel_rfl) (fun _ _ _ h => h) (Or.inl ⟨by rfl, ?_⟩) hH_ ?_
    rotate_left
    · (intro w hSw; (try dsimp only at hSw); go_simp <;> with_reducible rfl)
    simp only [Act.put, List.setIfInBounds_toArray, List.set_cons_zero, List.set_cons_succ]
    refine wpAnyU_take (i := 3) (v := ?_) rfl (by kernel_rfl) (by kernel_rfl) (by kernel_rfl) (by kernel_rfl) (fun _ _ _ h => h) (Or.inl ⟨by rfl, ?_⟩) hH_ ?_
    rotate_left
    · (intro w hSw; (try dsimp only at hSw); go_simp <;> with_reducible rfl)
    simp only [Act.put, List.setIfInBounds_toArray, List.set_cons_zero, List.set_cons_succ]
    refine wpAnyU_take (i := 4) (v := ?_) rfl (by kernel_rfl) (by kernel_rfl) (by kernel_rfl) (by kernel_rfl) (fun _ _ _ h => h) (Or.inl ⟨by rfl, ?_⟩) hH_ ?_
    rotate_left
    · (intro w hSw; (try dsimp only at hSw); go_simp <;> with_reducible rfl)
    simp only [Act.put, List.setIfInBounds_toArray, List.set_cons_zero, List.set_cons_succ]
    refine wpAnyU_four (i := 2) (j := 5) (k := 6) (l := 7) (by kernel_rfl) rfl rfl rfl rfl (fun K hK => ?_) (fun K hK => ?_) (fun K hK => ?_) (fun K hK => ?_)
    · skip
      (try simp only [hwr])
      go_simp
      refine hK.out _ _ ?_ (fun hH1_ => ?_)
      · exact trivial
      clear hK K hH_
      have hH_ := hH1_
      clear hH1_
      refine wpAnyU_three (i := 5) (j := 6) (k := 7) (by kernel_rfl) rfl rfl rfl (fun K hK => ?_) (fun K hK => ?_) (fun K hK => ?_)
      · skip
        (try simp only [hwr])
        go_simp
        refine hK.out _ _ ?_ (fun hH1_ => ?_)
        · exact trivial
        clear hK K hH_
        have hH_ := hH1_
        clear hH1_
        refine wpAnyU_two (i := 6) (j := 7) (by kernel_rfl) rfl rfl (fun K hK => ?_) (fun K hK => ?_)
        · skip
          go_simp
          refine hK.out _ _ ?_ (fun hH1_ => ?_)
          · exact trivial
          clear hK K hH_
          have hH_ := hH1_
          clear hH1_
          refine wpAnyU_one (i := 7) (by kernel_rfl) rfl (fun K hK => ?_)
          go_simp
          refine hK.out _ _ ?_ (fun hH1_ => ?_)
          · exact trivial
          clear hK K hH_
          have hH_ := hH1_
          clear hH1_
          refine wpAnyU_one (i := 8) (by kernel_rfl) rfl (fun K hK => ?_)
          go_simp
          refine hK.out _ _ ?_ (fun hH1_ => ?_)
          · exact trivial
          clear hK K hH_
          have hH_ := hH1_
          clear hH1_
          refine wpAnyU_one' (i := 9) (by kernel_rfl) rfl (by kernel_rfl) (fun K hK => ?_)
          go_simp
          refine hK.out _ _ ?_
          clear hK K
          refine wpAnyU_done (by kernel_rfl) ?_ _
          go_wp2_with fail
          go_meet
          case rel => exact ⟨(w0.heap.size + 1 + 1), (w0.heap.size + 1 + 1 + 1), (w0.heap.size), (w0.heap.size + 1), rfl, rfl, ⟨by simp, by simp, by omega, by omega, by omega, by omega, by omega, by omega, by omega, by omega, by omega, (((Blk.made (by simp)).alloc _).drew), ((Blk.made (by simp)).drew), ((((((Blk.made (by simp)).alloc _).alloc _).alloc _).drew).eq (by simp)), (((((Blk.made (by simp)).alloc _).alloc _).drew).eq (by simp)), rep_none⟩, (((((Below.refl w0.heap.size w0).alloc (by simp) _).alloc (by simp <;> omega) _).alloc (by simp <;> omega) _).alloc (by simp <;> omega) _).drew⟩
        · skip
          go_simp
          refine hK.out _ _ ?_ (fun hH1_ => ?_)
          · exact trivial
          clear hK K hH_
          have hH_ := hH1_
          clear hH1_
          refine wpAnyU_one (i := 6) (by kernel_rfl) rfl (fun K hK => ?_)
          go_simp
          refine hK.out _ _ ?_ (fun hH1_ => ?_)
          · exact trivial
          clear hK K hH_
          have hH_ := hH1_
          clear hH1_
          refine wpAnyU_one (i := 8) (by kernel_rfl) rfl (fun K hK => ?_)
          go_simp
          refine hK.out _ _ ?_ (fun hH1_ => ?_)
          · exact trivial
          clear hK K hH_
          have hH_ := hH1_
          clear hH1_
          refine wpAnyU_one' (i := 9) (by kernel_rfl) rfl (by kernel_rfl) (fun K hK => ?_)
          go_simp
          refine hK.out _ _ ?_
          clear hK K
          refine wpAnyU_done (by kernel_rfl) ?_ _
          go_wp2_with fail
          go_meet
          case rel => exact ⟨(w0.heap.size + 1 + 1 + 1), (w0.heap.size + 1 + 1), (w0.heap.size), (w0.heap.size + 1), rfl, rfl, ⟨by simp, by simp, by omega, by omega, by omega, by omega, by omega, by omega, by omega, by omega, by omega, ((Blk.made (by simp)).drew), (((Blk.made (by simp)).alloc _).drew), ((((((Blk.made (by simp)).alloc _).alloc _).alloc _).drew).eq (by simp)), (((((Blk.made (by simp)).alloc _).alloc _).drew).eq (by simp)), rep_none⟩, (((((Below.refl w0.heap.size w0).alloc (by simp) _).alloc (by simp <;> omega) _).alloc (by simp <;> omega) _).alloc (by simp <;> omega) _).drew⟩
      · skip
        go_simp
        refine hK.out _ _ ?_ (fun hH1_ => ?_)
        · exact trivial
        clear hK K hH_
        have hH_ := hH1_
        clear hH1_
        refine wpAnyU_two (i := 5) (j := 7) (by kernel_rfl) rfl rfl (fun K hK => ?_) (fun K hK => ?_)
        · skip
          (try simp only [hwr])
          go_simp
          refine hK.out _ _ ?_ (fun hH1_ => ?_)
          · exact trivial
          clear hK K hH_
          have hH_ := hH1_
          clear hH1_
          refine wpAnyU_one (i := 7) (by kernel_rfl) rfl (fun K hK => ?_)
          go_simp
          refine hK.out _ _ ?_ (fun hH1_ => ?_)
          · exact trivial
          clear hK K hH_
          have hH_ := hH1_
          clear hH1_
          refine wpAnyU_one (i := 8) (by kernel_rfl) rfl (fun K hK => ?_)
          go_simp
          refine hK.out _ _ ?_ (fun hH1_ => ?_)
          · exact trivial
          clear hK K hH_
          have hH_ := hH1_
          clear hH1_
          refine wpAnyU_one' (i := 9) (by kernel_rfl) rfl (by kernel_rfl) (fun K hK => ?_)
          go_simp
          refine hK.out _ _ ?_
          clear hK K
          refine wpAnyU_done (by kernel_rfl) ?_ _
          go_wp2_with fail
          go_meet
          case rel => exact ⟨(w0.heap.size + 1), (w0.heap.size + 1 + 1 + 1), (w0.heap.size), (w0.heap.size + 1 + 1), rfl, rfl, ⟨by simp, by simp, by omega, by omega, by omega, by omega, by omega, by omega, by omega, by omega, by omega, ((((Blk.made (by simp)).alloc _).alloc _).drew), ((Blk.made (by simp)).drew), ((((((Blk.made (by simp)).alloc _).alloc _).alloc _).drew).eq (by simp)), ((((Blk.made (by simp)).alloc _).drew).eq (by simp)), rep_none⟩, (((((Below.refl w0.heap.size w0).alloc (by simp) _).alloc (by simp <;> omega) _).alloc (by simp <;> omega) _).alloc (by simp <;> omega) _).drew⟩
        · skip
          go_simp
          refine hK.out _ _ ?_ (fun hH1_ => ?_)
          · exact trivial
          clear hK K hH_
          have hH_ := hH1_
          clear hH1_
          refine wpAnyU_two (i := 5) (j := 8) (by kernel_rfl) rfl rfl (fun K hK => ?_) (fun K hK => ?_)
          · skip
            (try simp only [hwr])
            go_simp
            refine hK.out _ _ ?_ (fun hH1_ => ?_)
            · exact trivial
            clear hK K hH_
            have hH_ := hH1_
            clear hH1_
            refine wpAnyU_one (i := 8) (by kernel_rfl) rfl (fun K hK => ?_)
            go_simp
            refine hK.out _ _ ?_ (fun hH1_ => ?_)
            · exact trivial
            clear hK K hH_
            have hH_ := hH1_
            clear hH1_
            refine wpAnyU_one' (i := 9) (by kernel_rfl) rfl (by kernel_rfl) (fun K hK => ?_)
            go_simp
            refine hK.out _ _ ?_
            clear hK K
            refine wpAnyU_done (by kernel_rfl) ?_ _
            go_wp2_with fail
            go_meet
            case rel => exact ⟨(w0.heap.size + 1), (w0.heap.size + 1 + 1), (w0.heap.size), (w0.heap.size + 1 + 1 + 1), rfl, rfl, ⟨by simp, by simp, by omega, by omega, by omega, by omega, by omega, by omega, by omega, by omega, by omega, ((((Blk.made (by simp)).alloc _).alloc _).drew), (((Blk.made (by simp)).alloc _).drew), ((((((Blk.made (by simp)).alloc _).alloc _).alloc _).drew).eq (by simp)), (((Blk.made (by simp)).drew).eq (by simp)), rep_none⟩, (((((Below.refl w0.heap.size w0).alloc (by simp) _).alloc (by simp <;> omega) _).alloc (by simp <;> omega) _).alloc (by simp <;> omega) _).drew⟩
          · skip
            go_simp
            refine hK.out _ _ ?_ (fun hH1_ => ?_)
            · exact trivial
            clear hK K hH_
            have hH_ := hH1_
            clear hH1_
            refine wpAnyU_one (i := 5) (by kernel_rfl) rfl (fun K hK => ?_)
            (try simp only [hwr])
            go_simp
            refine hK.out _ _ ?_ (fun hH1_ => ?_)
            · exact trivial
            clear hK K hH_
            have hH_ := hH1_
            clear hH1_
            refine wpAnyU_one' (i := 9) (by kernel_rfl) rfl (by kernel_rfl) (fun K hK => ?_)
            go_simp
            refine hK.out _ _ ?_
            clear hK K
            refine wpAnyU_done (by kernel_rfl) ?_ _
            go_wp2_with fail
            go_meet
            case rel => exact ⟨(w0.heap.size + 1), (w0.heap.size + 1 + 1), (w0.heap.size), (w0.heap.size + 1 + 1 + 1), rfl, rfl, ⟨by simp, by simp, by omega, by omega, by omega, by omega, by omega, by omega, by omega, by omega, by omega, ((((Blk.made (by simp)).alloc _).alloc _).drew), (((Blk.made (by simp)).alloc _).drew), ((((((Blk.made (by simp)).alloc _).alloc _).alloc _).drew).eq (by simp)), (((Blk.made (by simp)).drew).eq (by simp)), rep_none⟩, (((((Below.refl w0.heap.size w0).alloc (by simp) _).alloc (by simp <;> omega) _).alloc (by simp <;> omega) _).alloc (by simp <;> omega) _).drew⟩
      · skip
        go_simp
        refine hK.out _ _ ?_ (fun hH1_ => ?_)
        · exact trivial
        clear hK K hH_
        have hH_ := hH1_
        clear hH1_
        refine wpAnyU_two (i := 5) (j := 6) (by kernel_rfl) rfl rfl (fun K hK => ?_) (fun K hK => ?_)
        · skip
          (try simp only [hwr])
          go_simp
          refine hK.out _ _ ?_ (fun hH1_ => ?_)
          · exact trivial
          clear hK K hH_
          have hH_ := hH1_
          clear hH1_
          refine wpAnyU_one (i := 6) (by kernel_rfl) rfl (fun K hK => ?_)
          go_simp
          refine hK.out _ _ ?_ (fun hH1_ => ?_)
          · exact trivial
          clear hK K hH_
          have hH_ := hH1_
          clear hH1_
          refine wpAnyU_one (i := 8) (by kernel_rfl) rfl (fun K hK => ?_)
          go_simp
          refine hK.out _ _ ?_ (fun hH1_ => ?_)
          · exact trivial
          clear hK K hH_
          have hH_ := hH1_
          clear hH1_
          refine wpAnyU_one' (i := 9) (by kernel_rfl) rfl (by kernel_rfl) (fun K hK => ?_)
          go_simp
          refine hK.out _ _ ?_
          clear hK K
          refine wpAnyU_done (by kernel_rfl) ?_ _
          go_wp2_with fail
          go_meet
          case rel => exact ⟨(w0.heap.size + 1 + 1 + 1), (w0.heap.size + 1), (w0.heap.size), (w0.heap.size + 1 + 1), rfl, rfl, ⟨by simp, by simp, by omega, by omega, by omega, by omega, by omega, by omega, by omega, by omega, by omega, ((Blk.made (by simp)).drew), ((((Blk.made (by simp)).alloc _).alloc _).drew), ((((((Blk.made (by simp)).alloc _).alloc _).alloc _).drew).eq (by simp)), ((((Blk.made (by simp)).alloc _).drew).eq (by simp)), rep_none⟩, (((((Below.refl w0.heap.size w0).alloc (by simp) _).alloc (by simp <;> omega) _).alloc (by simp <;> omega) _).alloc (by simp <;> omega) _).drew⟩
        · skip
          go_simp
          refine hK.out _ _ ?_ (fun hH1_ => ?_)
          · exact trivial
          clear hK K hH_
          have hH_ := hH1_
          clear hH1_
          refine wpAnyU_two (i := 5) (j := 8) (by kernel_rfl) rfl rfl (fun K hK => ?_) (fun K hK => ?_)
          · skip
            (try simp only [hwr])
            go_simp
            refine hK.out _ _ ?_ (fun hH1_ => ?_)
            · exact trivial
            clear hK K hH_
            have hH_ := hH1_
            clear hH1_
            refine wpAnyU_one (i := 8) (by kernel_rfl) rfl (fun K hK => ?_)
            go_simp
            refine hK.out _ _ ?_ (fun hH1_ => ?_)
            · exact trivial
            clear hK K hH_
            have hH_ := hH1_
            clear hH1_
            refine wpAnyU_one' (i := 9) (by kernel_rfl) rfl (by kernel_rfl) (fun K hK => ?_)
            go_simp
            refine hK.out _ _ ?_
            clear hK K
            refine wpAnyU_done (by kernel_rfl) ?_ _
            go_wp2_with fail
            go_meet
            case rel => exact ⟨(w0.heap.size + 1 + 1), (w0.heap.size + 1), (w0.heap.size), (w0.heap.size + 1 + 1 + 1), rfl, rfl, ⟨by simp, by simp, by omega, by omega, by omega, by omega, by omega, by omega, by omega, by omega, by omega, (((Blk.made (by simp)).alloc _).drew), ((((Blk.made (by simp)).alloc _).alloc _).drew), ((((((Blk.made (by simp)).alloc _).alloc _).alloc _).drew).eq (by simp)), (((Blk.made (by simp)).drew).eq (by simp)), rep_none⟩, (((((Below.refl w0.heap.size w0).alloc (by simp) _).alloc (by simp <;> omega) _).alloc (by simp <;> omega) _).alloc (by simp <;> omega) _).drew⟩
          · skip
            go_simp
            refine hK.out _ _ ?_ (fun hH1_ => ?_)
            · exact trivial
            clear hK K hH_
            have hH_ := hH1_
            clear hH1_
            refine wpAnyU_one (i := 5) (by kernel_rfl) rfl (fun K hK => ?_)
            (try simp only [hwr])
            go_simp
            refine hK.out _ _ ?_ (fun hH1_ => ?_)
            · exact trivial
            clear hK K hH_
            have hH_ := hH1_
            clear hH1_
            refine wpAnyU_one' (i := 9) (by kernel_rfl) rfl (by kernel_rfl) (fun K hK => ?_)
            go_simp
            refine hK.out _ _ ?_
            clear hK K
            refine wpAnyU_done (by kernel_rfl) ?_ _
            go_wp2_with fail
            go_meet
            case rel => exact ⟨(w0.heap.size + 1 + 1), (w0.heap.size + 1), (w0.heap.size), (w0.heap.size + 1 + 1 + 1), rfl, rfl, ⟨by simp, by simp, by omega, by omega, by omega, by omega, by omega, by omega, by omega, by omega, by omega, (((Blk.made (by simp)).alloc _).drew), ((((Blk.made (by simp)).alloc _).alloc _).drew), ((((((Blk.made (by simp)).alloc _).alloc _).alloc _).drew).eq (by simp)), (((Blk.made (by simp)).drew).eq (by simp)), rep_none⟩, (((((Below.refl w0.heap.size w0).alloc (by simp) _).alloc (by simp <;> omega) _).alloc (by simp <;> omega) _).alloc (by simp <;> omega) _).drew⟩
    · skip
      (try simp only [hwr])
      go_simp
      refine hK.out _ _ ?_ (fun hH1_ => ?_)
      · exact trivial
      clear hK K hH_
      have hH_ := hH1_
      clear hH1_
      refine wpAnyU_three (i := 2) (j := 6) (k := 7) (by kernel_rfl) rfl rfl rfl (fun K hK => ?_) (fun K hK => ?_) (fun K hK => ?_)
      · skip
        (try simp only [hwr])
        go_simp
        refine hK.out _ _ ?_ (fun hH1_ => ?_)
        · exact trivial
        clear hK K hH_
        have hH_ := hH1_
        clear hH1_
        refine wpAnyU_two (i := 6) (j := 7) (by kernel_rfl) rfl rfl (fun K hK => ?_) (fun K hK => ?_)
        · skip
          go_simp
          refine hK.out _ _ ?_ (fun hH1_ => ?_)
          · exact trivial
          clear hK K hH_
          have hH_ := hH1_
          clear hH1_
          refine wpAnyU_one (i := 7) (by kernel_rfl) rfl (fun K hK => ?_)
          go_simp
          refine hK.out _ _ ?_ (fun hH1_ => ?_)
          · exact trivial
          clear hK K hH_
          have hH_ := hH1_
          clear hH1_
          refine wpAnyU_one (i := 8) (by kernel_rfl) rfl (fun K hK => ?_)
          go_simp
          refine hK.out _ _ ?_ (fun hH1_ => ?_)
          · exact trivial
          clear hK K hH_
          have hH_ := hH1_
          clear hH1_
          refine wpAnyU_one' (i := 9) (by kernel_rfl) rfl (by kernel_rfl) (fun K hK => ?_)
          go_simp
          refine hK.out _ _ ?_
          clear hK K
          refine wpAnyU_done (by kernel_rfl) ?_ _
          go_wp2_with fail
          go_meet
          case rel => exact ⟨(w0.heap.size + 1 + 1), (w0.heap.size + 1 + 1 + 1), (w0.heap.size + 1), (w0.heap.size), rfl, rfl, ⟨by simp, by simp, by omega, by omega, by omega, by omega, by omega, by omega, by omega, by omega, by omega, (((Blk.made (by simp)).alloc _).drew), ((Blk.made (by simp)).drew), (((((Blk.made (by simp)).alloc _).alloc _).drew).eq (by simp)), ((((((Blk.made (by simp)).alloc _).alloc _).alloc _).drew).eq (by simp)), rep_none⟩, (((((Below.refl w0.heap.size w0).alloc (by simp) _).alloc (by simp <;> omega) _).alloc (by simp <;> omega) _).alloc (by simp <;> omega) _).drew⟩
        · skip
          go_simp
          refine hK.out _ _ ?_ (fun hH1_ => ?_)
          · exact trivial
          clear hK K hH_
          have hH_ := hH1_
          clear hH1_
          refine wpAnyU_one (i := 6) (by kernel_rfl) rfl (fun K hK => ?_)
          go_simp
          refine hK.out _ _ ?_ (fun hH1_ => ?_)
          · exact trivial
          clear hK K hH_
          have hH_ := hH1_
          clear hH1_
          refine wpAnyU_one (i := 8) (by kernel_rfl) rfl (fun K hK => ?_)
          go_simp
          refine hK.out _ _ ?_ (fun hH1_ => ?_)
          · exact trivial
          clear hK K hH_
          have hH_ := hH1_
          clear hH1_
          refine wpAnyU_one' (i := 9) (by kernel_rfl) rfl (by kernel_rfl) (fun K hK => ?_)
          go_simp
          refine hK.out _ _ ?_
          clear hK K
          refine wpAnyU_done (by kernel_rfl) ?_ _
          go_wp2_with fail
          go_meet
          case rel => exact ⟨(w0.heap.size + 1 + 1 + 1), (w0.heap.size + 1 + 1), (w0.heap.size + 1), (w0.heap.size), rfl, rfl, ⟨by simp, by simp, by omega, by omega, by omega, by omega, by omega, by omega, by omega, by omega, by omega, ((Blk.made (by simp)).drew), (((Blk.made (by simp)).alloc _).drew), (((((Blk.made (by simp)).alloc _).alloc _).drew).eq (by simp)), ((((((Blk.made (by simp)).alloc _).alloc _).alloc _).drew).eq (by simp)), rep_none⟩, (((((Below.refl w0.heap.size w0).alloc (by simp) _).alloc (by simp <;> omega) _).alloc (by simp <;> omega) _).alloc (by simp <;> omega) _).drew⟩
      · skip
        go_simp
        refine hK.out _ _ ?_ (fun hH1_ => ?_)
        · exact trivial
        clear hK K hH_
        have hH_ := hH1_
        clear hH1_
        refine wpAnyU_two (i := 2) (j := 7) (by kernel_rfl) rfl rfl (fun K hK => ?_) (fun K hK => ?_)
        · skip
          (try simp only [hwr])
          go_simp
          refine hK.out _ _ ?_ (fun hH1_ => ?_)
          · exact trivial
          clear hK K hH_
          have hH_ := hH1_
          clear hH1_
          refine wpAnyU_one (i := 7) (by kernel_rfl) rfl (fun K hK => ?_)
          go_simp
          refine hK.out _ _ ?_ (fun hH1_ => ?_)
          · exact trivial
          clear hK K hH_
          have hH_ := hH1_
          clear hH1_
          refine wpAnyU_one (i := 8) (by kernel_rfl) rfl (fun K hK => ?_)
          go_simp
          refine hK.out _ _ ?_ (fun hH1_ => ?_)
          · exact trivial
          clear hK K hH_
          have hH_ := hH1_
          clear hH1_
          refine wpAnyU_one' (i := 9) (by kernel_rfl) rfl (by kernel_rfl) (fun K hK => ?_)
          go_simp
          refine hK.out _ _ ?_
          clear hK K
          refine wpAnyU_done (by kernel_rfl) ?_ _
          go_wp2_with fail
          go_meet
          case rel => exact ⟨(w0.heap.size + 1), (w0.heap.size + 1 + 1 + 1), (w0.heap.size + 1 + 1), (w0.heap.size), rfl, rfl, ⟨by simp, by simp, by omega, by omega, by omega, by omega, by omega, by omega, by omega, by omega, by omega, ((((Blk.made (by simp)).alloc _).alloc _).drew), ((Blk.made (by simp)).drew), ((((Blk.made (by simp)).alloc _).drew).eq (by simp)), ((((((Blk.made (by simp)).alloc _).alloc _).alloc _).drew).eq (by simp)), rep_none⟩, (((((Below.refl w0.heap.size w0).alloc (by simp) _).alloc (by simp <;> omega) _).alloc (by simp <;> omega) _).alloc (by simp <;> omega) _).drew⟩
        · skip
          go_simp
          refine hK.out _ _ ?_ (fun hH1_ => ?_)
          · exact trivial
          clear hK K hH_
          have hH_ := hH1_
          clear hH1_
          refine wpAnyU_one (i := 2) (by kernel_rfl) rfl (fun K hK => ?_)
          (try simp only [hwr])
          go_simp
          refine hK.out _ _ ?_ (fun hH1_ => ?_)
          · exact trivial
          clear hK K hH_
          have hH_ := hH1_
          clear hH1_
          refine wpAnyU_one (i := 8) (by kernel_rfl) rfl (fun K hK => ?_)
          go_simp
          refine hK.out _ _ ?_ (fun hH1_ => ?_)
          · exact trivial
          clear hK K hH_
          have hH_ := hH1_
          clear hH1_
          refine wpAnyU_one' (i := 9) (by kernel_rfl) rfl (by kernel_rfl) (fun K hK => ?_)
          go_simp
          refine hK.out _ _ ?_
          clear hK K
          refine wpAnyU_done (by kernel_rfl) ?_ _
          go_wp2_with fail
          go_meet
          case rel => exact ⟨(w0.heap.size + 1), (w0.heap.size + 1 + 1), (w0.heap.size + 1 + 1 + 1), (w0.heap.size), rfl, rfl, ⟨by simp, by simp, by omega, by omega, by omega, by omega, by omega, by omega, by omega, by omega, by omega, ((((Blk.made (by simp)).alloc _).alloc _).drew), (((Blk.made (by simp)).alloc _).drew), (((Blk.made (by simp)).drew).eq (by simp)), ((((((Blk.made (by simp)).alloc _).alloc _).alloc _).drew).eq (by simp)), rep_none⟩, (((((Below.refl w0.heap.size w0).alloc (by simp) _).alloc (by simp <;> omega) _).alloc (by simp <;> omega) _).alloc (by simp <;> omega) _).drew⟩
      · skip
        go_simp
        refine hK.out _ _ ?_ (fun hH1_ => ?_)
        · exact trivial
        clear hK K hH_
        have hH_ := hH1_
        clear hH1_
        refine wpAnyU_two (i := 2) (j := 6) (by kernel_rfl) rfl rfl (fun K hK => ?_) (fun K hK => ?_)
        · skip
          (try simp only [hwr])
          go_simp
          refine hK.out _ _ ?_ (fun hH1_ => ?_)
          · exact trivial
          clear hK K hH_
          have hH_ := hH1_
          clear hH1_
          refine wpAnyU_one (i := 6) (by kernel_rfl) rfl (fun K hK => ?_)
          go_simp
          refine hK.out _ _ ?_ (fun hH1_ => ?_)
          · exact trivial
          clear hK K hH_
          have hH_ := hH1_
          clear hH1_
          refine wpAnyU_one (i := 8) (by kernel_rfl) rfl (fun K hK => ?_)
          go_simp
          refine hK.out _ _ ?_ (fun hH1_ => ?_)
          · exact trivial
          clear hK K hH_
          have hH_ := hH1_
          clear hH1_
          refine wpAnyU_one' (i := 9) (by kernel_rfl) rfl (by kernel_rfl) (fun K hK => ?_)
          go_simp
          refine hK.out _ _ ?_
          clear hK K
          refine wpAnyU_done (by kernel_rfl) ?_ _
          go_wp2_with fail
          go_meet
          case rel => exact ⟨(w0.heap.size + 1 + 1 + 1), (w0.heap.size + 1), (w0.heap.size + 1 + 1), (w0.heap.size), rfl, rfl, ⟨by simp, by simp, by omega, by omega, by omega, by omega, by omega, by omega, by omega, by omega, by omega, ((Blk.made (by simp)).drew), ((((Blk.made (by simp)).alloc _).alloc _).drew), ((((Blk.made (by simp)).alloc _).drew).eq (by simp)), ((((((Blk.made (by simp)).alloc _).alloc _).alloc _).drew).eq (by simp)), rep_none⟩, (((((Below.refl w0.heap.size w0).alloc (by simp) _).alloc (by simp <;> omega) _).alloc (by simp <;> omega) _).alloc (by simp <;> omega) _).drew⟩
        · skip
          go_simp
          refine hK.out _ _ ?_ (fun hH1_ => ?_)
          · exact trivial
          clear hK K hH_
          have hH_ := hH1_
          clear hH1_
          refine wpAnyU_one (i := 2) (by kernel_rfl) rfl (fun K hK => ?_)
          (try simp only [hwr])
          go_simp
          refine hK.out _ _ ?_ (fun hH1_ => ?_)
          · exact trivial
          clear hK K hH_
          have hH_ := hH1_
          clear hH1_
          refine wpAnyU_one (i := 8) (by kernel_rfl) rfl (fun K hK => ?_)
          go_simp
          refine hK.out _ _ ?_ (fun hH1_ => ?_)
          · exact trivial
          clear hK K hH_
          have hH_ := hH1_
          clear hH1_
          refine wpAnyU_one' (i := 9) (by kernel_rfl) rfl (by kernel_rfl) (fun K hK => ?_)
          go_simp
          refine hK.out _ _ ?_
          clear hK K
          refine wpAnyU_done (by kernel_rfl) ?_ _
          go_wp2_with fail
          go_meet
          case rel => exact ⟨(w0.heap.size + 1 + 1), (w0.heap.size + 1), (w0.heap.size + 1 + 1 + 1), (w0.heap.size), rfl, rfl, ⟨by simp, by simp, by omega, by omega, by omega, by omega, by omega, by omega, by omega, by omega, by omega, (((Blk.made (by simp)).alloc _).drew), ((((Blk.made (by simp)).alloc _).alloc _).drew), (((Blk.made (by simp)).drew).eq (by simp)), ((((((Blk.made (by simp)).alloc _).alloc _).alloc _).drew).eq (by simp)), rep_none⟩, (((((Below.refl w0.heap.size w0).alloc (by simp) _).alloc (by simp <;> omega) _).alloc (by simp <;> omega) _).alloc (by simp <;> omega) _).drew⟩
    · skip
      go_simp
      refine hK.out _ _ ?_ (fun hH1_ => ?_)
      · exact trivial
      clear hK K hH_
      have hH_ := hH1_
      clear hH1_
      refine wpAnyU_three (i := 2) (j := 5) (k := 7) (by kernel_rfl) rfl rfl rfl (fun K hK => ?_) (fun K hK => ?_) (fun K hK => ?_)
      · skip
        (try simp only [hwr])
        go_simp
        refine hK.out _ _ ?_ (fun hH1_ => ?_)
        · exact trivial
        clear hK K hH_
        have hH_ := hH1_
        clear hH1_
        refine wpAnyU_two (i := 5) (j := 7) (by kernel_rfl) rfl rfl (fun K hK => ?_) (fun K hK => ?_)
        · skip
          (try simp only [hwr])
          go_simp
          refine hK.out _ _ ?_ (fun hH1_ => ?_)
          · exact trivial
          clear hK K hH_
          have hH_ := hH1_
          clear hH1_
          refine wpAnyU_one (i := 7) (by kernel_rfl) rfl (fun K hK => ?_)
          go_simp
          refine hK.out _ _ ?_ (fun hH1_ => ?_)
          · exact trivial
          clear hK K hH_
          have hH_ := hH1_
          clear hH1_
          refine wpAnyU_one (i := 8) (by kernel_rfl) rfl (fun K hK => ?_)
          go_simp
          refine hK.out _ _ ?_ (fun hH1_ => ?_)
          · exact trivial
          clear hK K hH_
          have hH_ := hH1_
          clear hH1_
          refine wpAnyU_one' (i := 9) (by kernel_rfl) rfl (by kernel_rfl) (fun K hK => ?_)
          go_simp
          refine hK.out _ _ ?_
          clear hK K
          refine wpAnyU_done (by kernel_rfl) ?_ _
          go_wp2_with fail
          go_meet
          case rel => exact ⟨(w0.heap.size), (w0.heap.size + 1 + 1 + 1), (w0.heap.size + 1), (w0.heap.size + 1 + 1), rfl, rfl, ⟨by simp, by simp, by omega, by omega, by omega, by omega, by omega, by omega, by omega, by omega, by omega, (((((Blk.made (by simp)).alloc _).alloc _).alloc _).drew), ((Blk.made (by simp)).drew), (((((Blk.made (by simp)).alloc _).alloc _).drew).eq (by simp)), ((((Blk.made (by simp)).alloc _).drew).eq (by simp)), rep_none⟩, (((((Below.refl w0.heap.size w0).alloc (by simp) _).alloc (by simp <;> omega) _).alloc (by simp <;> omega) _).alloc (by simp <;> omega) _).drew⟩
        · skip
          go_simp
          refine hK.out _ _ ?_ (fun hH1_ => ?_)
          · exact trivial
          clear hK K hH_
          have hH_ := hH1_
          clear hH1_
          refine wpAnyU_two (i := 5) (j := 8) (by kernel_rfl) rfl rfl (fun K hK => ?_) (fun K hK => ?_)
          · skip
            (try simp only [hwr])
            go_simp
            refine hK.out _ _ ?_ (fun hH1_ => ?_)
            · exact trivial
            clear hK K hH_
            have hH_ := hH1_
            clear hH1_
            refine wpAnyU_one (i := 8) (by kernel_rfl) rfl (fun K hK => ?_)
            go_simp
            refine hK.out _ _ ?_ (fun hH1_ => ?_)
            · exact trivial
            clear hK K hH_
            have hH_ := hH1_
            clear hH1_
            refine wpAnyU_one' (i := 9) (by kernel_rfl) rfl (by kernel_rfl) (fun K hK => ?_)
            go_simp
            refine hK.out _ _ ?_
            clear hK K
            refine wpAnyU_done (by kernel_rfl) ?_ _
            go_wp2_with fail
            go_meet
            case rel => exact ⟨(w0.heap.size), (w0.heap.size + 1 + 1), (w0.heap.size + 1), (w0.heap.size + 1 + 1 + 1), rfl, rfl, ⟨by simp, by simp, by omega, by omega, by omega, by omega, by omega, by omega, by omega, by omega, by omega, (((((Blk.made (by simp)).alloc _).alloc _).alloc _).drew), (((Blk.made (by simp)).alloc _).drew), (((((Blk.made (by simp)).alloc _).alloc _).drew).eq (by simp)), (((Blk.made (by simp)).drew).eq (by simp)), rep_none⟩, (((((Below.refl w0.heap.size w0).alloc (by simp) _).alloc (by simp <;> omega) _).alloc (by simp <;> omega) _).alloc (by simp <;> omega) _).drew⟩
          · skip
            go_simp
            refine hK.out _ _ ?_ (fun hH1_ => ?_)
            · exact trivial
            clear hK K hH_
            have hH_ := hH1_
            clear hH1_
            refine wpAnyU_one (i := 5) (by kernel_rfl) rfl (fun K hK => ?_)
            (try simp only [hwr])
            go_simp
            refine hK.out _ _ ?_ (fun hH1_ => ?_)
            · exact trivial
            clear hK K hH_
            have hH_ := hH1_
            clear hH1_
            refine wpAnyU_one' (i := 9) (by kernel_rfl) rfl (by kernel_rfl) (fun K hK => ?_)
            go_simp
            refine hK.out _ _ ?_
            clear hK K
            refine wpAnyU_done (by kernel_rfl) ?_ _
            go_wp2_with fail
            go_meet
            case rel => exact ⟨(w0.heap.size), (w0.heap.size + 1 + 1), (w0.heap.size + 1), (w0.heap.size + 1 + 1 + 1), rfl, rfl, ⟨by simp, by simp, by omega, by omega, by omega, by omega, by omega, by omega, by omega, by omega, by omega, (((((Blk.made (by simp)).alloc _).alloc _).alloc _).drew), (((Blk.made (by simp)).alloc _).drew), (((((Blk.made (by simp)).alloc _).alloc _).drew).eq (by simp)), (((Blk.made (by simp)).drew).eq (by simp)), rep_none⟩, (((((Below.refl w0.heap.size w0).alloc (by simp) _).alloc (by simp <;> omega) _).alloc (by simp <;> omega) _).alloc (by simp <;> omega) _).drew⟩
      · skip
        (try simp only [hwr])
        go_simp
        refine hK.out _ _ ?_ (fun hH1_ => ?_)
        · exact trivial
        clear hK K hH_
        have hH_ := hH1_
        clear hH1_
        refine wpAnyU_two (i := 2) (j := 7) (by kernel_rfl) rfl rfl (fun K hK => ?_) (fun K hK => ?_)
        · skip
          (try simp only [hwr])
          go_simp
          refine hK.out _ _ ?_ (fun hH1_ => ?_)
          · exact trivial
          clear hK K hH_
          have hH_ := hH1_
          clear hH1_
          refine wpAnyU_one (i := 7) (by kernel_rfl) rfl (fun K hK => ?_)
          go_simp
          refine hK.out _ _ ?_ (fun hH1_ => ?_)
          · exact trivial
          clear hK K hH_
          have hH_ := hH1_
          clear hH1_
          refine wpAnyU_one (i := 8) (by kernel_rfl) rfl (fun K hK => ?_)
          go_simp
          refine hK.out _ _ ?_ (fun hH1_ => ?_)
          · exact trivial
          clear hK K hH_
          have hH_ := hH1_
          clear hH1_
          refine wpAnyU_one' (i := 9) (by kernel_rfl) rfl (by kernel_rfl) (fun K hK => ?_)
          go_simp
          refine hK.out _ _ ?_
          clear hK K
          refine wpAnyU_done (by kernel_rfl) ?_ _
          go_wp2_with fail
          go_meet
          case rel => exact ⟨(w0.heap.size), (w0.heap.size + 1 + 1 + 1), (w0.heap.size + 1 + 1), (w0.heap.size + 1), rfl, rfl, ⟨by simp, by simp, by omega, by omega, by omega, by omega, by omega, by omega, by omega, by omega, by omega, (((((Blk.made (by simp)).alloc _).alloc _).alloc _).drew), ((Blk.made (by simp)).drew), ((((Blk.made (by simp)).alloc _).drew).eq (by simp)), (((((Blk.made (by simp)).alloc _).alloc _).drew).eq (by simp)), rep_none⟩, (((((Below.refl w0.heap.size w0).alloc (by simp) _).alloc (by simp <;> omega) _).alloc (by simp <;> omega) _).alloc (by simp <;> omega) _).drew⟩
        · skip
          go_simp
          refine hK.out _ _ ?_ (fun hH1_ => ?_)
          · exact trivial
          clear hK K hH_
          have hH_ := hH1_
          clear hH1_
          refine wpAnyU_one (i := 2) (by kernel_rfl) rfl (fun K hK => ?_)
          (try simp only [hwr])
          go_simp
          refine hK.out _ _ ?_ (fun hH1_ => ?_)
          · exact trivial
          clear hK K hH_
          have hH_ := hH1_
          clear hH1_
          refine wpAnyU_one (i := 8) (by kernel_rfl) rfl (fun K hK => ?_)
          go_simp
          refine hK.out _ _ ?_ (fun hH1_ => ?_)
          · exact trivial
          clear hK K hH_
          have hH_ := hH1_
          clear hH1_
          refine wpAnyU_one' (i := 9) (by kernel_rfl) rfl (by kernel_rfl) (fun K hK => ?_)
          go_simp
          refine hK.out _ _ ?_
          clear hK K
          refine wpAnyU_done (by kernel_rfl) ?_ _
          go_wp2_with fail
          go_meet
          case rel => exact ⟨(w0.heap.size), (w0.heap.size + 1 + 1), (w0.heap.size + 1 + 1 + 1), (w0.heap.size + 1), rfl, rfl, ⟨by simp, by simp, by omega, by omega, by omega, by omega, by omega, by omega, by omega, by omega, by omega, (((((Blk.made (by simp)).alloc _).alloc _).alloc _).drew), (((Blk.made (by simp)).alloc _).drew), (((Blk.made (by simp)).drew).eq (by simp)), (((((Blk.made (by simp)).alloc _).alloc _).drew).eq (by simp)), rep_none⟩, (((((Below.refl w0.heap.size w0).alloc (by simp) _).alloc (by simp <;> omega) _).alloc (by simp <;> omega) _).alloc (by simp <;> omega) _).drew⟩
      · skip
        go_simp
        refine hK.out _ _ ?_ (fun hH1_ => ?_)
        · exact trivial
        clear hK K hH_
        have hH_ := hH1_
        clear hH1_
        refine wpAnyU_two (i := 2) (j := 5) (by kernel_rfl) rfl rfl (fun K hK => ?_) (fun K hK => ?_)
        · skip
          (try simp only [hwr])
          go_simp
          refine hK.out _ _ ?_ (fun hH1_ => ?_)
          · exact trivial
          clear hK K hH_
          have hH_ := hH1_
          clear hH1_
          refine wpAnyU_two (i := 5) (j := 8) (by kernel_rfl) rfl rfl (fun K hK => ?_) (fun K hK => ?_)
          · skip
            (try simp only [hwr])
            go_simp
            refine hK.out _ _ ?_ (fun hH1_ => ?_)
            · exact trivial
            clear hK K hH_
            have hH_ := hH1_
            clear hH1_
            refine wpAnyU_one (i := 8) (by kernel_rfl) rfl (fun K hK => ?_)
            go_simp
            refine hK.out _ _ ?_ (fun hH1_ => ?_)
            · exact trivial
            clear hK K hH_
            have hH_ := hH1_
            clear hH1_
            refine wpAnyU_one' (i := 9) (by kernel_rfl) rfl (by kernel_rfl) (fun K hK => ?_)
            go_simp
            refine hK.out _ _ ?_
            clear hK K
            refine wpAnyU_done (by kernel_rfl) ?_ _
            go_wp2_with fail
            go_meet
            case rel => exact ⟨(w0.heap.size), (w0.heap.size + 1), (w0.heap.size + 1 + 1), (w0.heap.size + 1 + 1 + 1), rfl, rfl, ⟨by simp, by simp, by omega, by omega, by omega, by omega, by omega, by omega, by omega, by omega, by omega, (((((Blk.made (by simp)).alloc _).alloc _).alloc _).drew), ((((Blk.made (by simp)).alloc _).alloc _).drew), ((((Blk.made (by simp)).alloc _).drew).eq (by simp)), (((Blk.made (by simp)).drew).eq (by simp)), rep_none⟩, (((((Below.refl w0.heap.size w0).alloc (by simp) _).alloc (by simp <;> omega) _).alloc (by simp <;> omega) _).alloc (by simp <;> omega) _).drew⟩
          · skip
            go_simp
            refine hK.out _ _ ?_ (fun hH1_ => ?_)
            · exact trivial
            clear hK K hH_
            have hH_ := hH1_
            clear hH1_
            refine wpAnyU_one (i := 5) (by kernel_rfl) rfl (fun K hK => ?_)
            (try simp only [hwr])
            go_simp
            refine hK.out _ _ ?_ (fun hH1_ => ?_)
            · exact trivial
            clear hK K hH_
            have hH_ := hH1_
            clear hH1_
            refine wpAnyU_one' (i := 9) (by kernel_rfl) rfl (by kernel_rfl) (fun K hK => ?_)
            go_simp
            refine hK.out _ _ ?_
            clear hK K
            refine wpAnyU_done (by kernel_rfl) ?_ _
            go_wp2_with fail
            go_meet
            case rel => exact ⟨(w0.heap.size), (w0.heap.size + 1), (w0.heap.size + 1 + 1), (w0.heap.size + 1 + 1 + 1), rfl, rfl, ⟨by simp, by simp, by omega, by omega, by omega, by omega, by omega, by omega, by omega, by omega, by omega, (((((Blk.made (by simp)).alloc _).alloc _).alloc _).drew), ((((Blk.made (by simp)).alloc _).alloc _).drew), ((((Blk.made (by simp)).alloc _).drew).eq (by simp)), (((Blk.made (by simp)).drew).eq (by simp)), rep_none⟩, (((((Below.refl w0.heap.size w0).alloc (by simp) _).alloc (by simp <;> omega) _).alloc (by simp <;> omega) _).alloc (by simp <;> omega) _).drew⟩
        · skip
          (try simp only [hwr])
          go_simp
          refine hK.out _ _ ?_ (fun hH1_ => ?_)
          · exact trivial
          clear hK K hH_
          have hH_ := hH1_
          clear hH1_
          refine wpAnyU_one (i := 2) (by kernel_rfl) rfl (fun K hK => ?_)
          (try simp only [hwr])
          go_simp
          refine hK.out _ _ ?_ (fun hH1_ => ?_)
          · exact trivial
          clear hK K hH_
          have hH_ := hH1_
          clear hH1_
          refine wpAnyU_one (i := 8) (by kernel_rfl) rfl (fun K hK => ?_)
          go_simp
          refine hK.out _ _ ?_ (fun hH1_ => ?_)
          · exact trivial
          clear hK K hH_
          have hH_ := hH1_
          clear hH1_
          refine wpAnyU_one' (i := 9) (by kernel_rfl) rfl (by kernel_rfl) (fun K hK => ?_)
          go_simp
          refine hK.out _ _ ?_
          clear hK K
          refine wpAnyU_done (by kernel_rfl) ?_ _
          go_wp2_with fail
          go_meet
          case rel => exact ⟨(w0.heap.size), (w0.heap.size + 1), (w0.heap.size + 1 + 1 + 1), (w0.heap.size + 1 + 1), rfl, rfl, ⟨by simp, by simp, by omega, by omega, by omega, by omega, by omega, by omega, by omega, by omega, by omega, (((((Blk.made (by simp)).alloc _).alloc _).alloc _).drew), ((((Blk.made (by simp)).alloc _).alloc _).drew), (((Blk.made (by simp)).drew).eq (by simp)), ((((Blk.made (by simp)).alloc _).drew).eq (by simp)), rep_none⟩, (((((Below.refl w0.heap.size w0).alloc (by simp) _).alloc (by simp <;> omega) _).alloc (by simp <;> omega) _).alloc (by simp <;> omega) _).drew⟩
    · skip
      go_simp
      refine hK.out _ _ ?_ (fun hH1_ => ?_)
      · exact trivial
      clear hK K hH_
      have hH_ := hH1_
      clear hH1_
      refine wpAnyU_three (i := 2) (j := 5) (k := 6) (by kernel_rfl) rfl rfl rfl (fun K hK => ?_) (fun K hK => ?_) (fun K hK => ?_)
      · skip
        (try simp only [hwr])
        go_simp
        refine hK.out _ _ ?_ (fun hH1_ => ?_)
        · exact trivial
        clear hK K hH_
        have hH_ := hH1_
        clear hH1_
        refine wpAnyU_two (i := 5) (j := 6) (by kernel_rfl) rfl rfl (fun K hK => ?_) (fun K hK => ?_)
        · skip
          (try simp only [hwr])
          go_simp
          refine hK.out _ _ ?_ (fun hH1_ => ?_)
          · exact trivial
          clear hK K hH_
          have hH_ := hH1_
          clear hH1_
          refine wpAnyU_one (i := 6) (by kernel_rfl) rfl (fun K hK => ?_)
          go_simp
          refine hK.out _ _ ?_ (fun hH1_ => ?_)
          · exact trivial
          clear hK K hH_
          have hH_ := hH1_
          clear hH1_
          refine wpAnyU_one (i := 8) (by kernel_rfl) rfl (fun K hK => ?_)
          go_simp
          refine hK.out _ _ ?_ (fun hH1_ => ?_)
          · exact trivial
          clear hK K hH_
          have hH_ := hH1_
          clear hH1_
          refine wpAnyU_one' (i := 9) (by kernel_rfl) rfl (by kernel_rfl) (fun K hK => ?_)
          go_simp
          refine hK.out _ _ ?_
          clear hK K
          refine wpAnyU_done (by kernel_rfl) ?_ _
          go_wp2_with fail
          go_meet
          case rel => exact ⟨(w0.heap.size + 1 + 1 + 1), (w0.heap.size), (w0.heap.size + 1), (w0.heap.size + 1 + 1), rfl, rfl, ⟨by simp, by simp, by omega, by omega, by omega, by omega, by omega, by omega, by omega, by omega, by omega, ((Blk.made (by simp)).drew), (((((Blk.made (by simp)).alloc _).alloc _).alloc _).drew), (((((Blk.made (by simp)).alloc _).alloc _).drew).eq (by simp)), ((((Blk.made (by simp)).alloc _).drew).eq (by simp)), rep_none⟩, (((((Below.refl w0.heap.size w0).alloc (by simp) _).alloc (by simp <;> omega) _).alloc (by simp <;> omega) _).alloc (by simp <;> omega) _).drew⟩
        · skip
          go_simp
          refine hK.out _ _ ?_ (fun hH1_ => ?_)
          · exact trivial
          clear hK K hH_
          have hH_ := hH1_
          clear hH1_
          refine wpAnyU_two (i := 5) (j := 8) (by kernel_rfl) rfl rfl (fun K hK => ?_) (fun K hK => ?_)
          · skip
            (try simp only [hwr])
            go_simp
            refine hK.out _ _ ?_ (fun hH1_ => ?_)
            · exact trivial
            clear hK K hH_
            have hH_ := hH1_
            clear hH1_
            refine wpAnyU_one (i := 8) (by kernel_rfl) rfl (fun K hK => ?_)
            go_simp
            refine hK.out _ _ ?_ (fun hH1_ => ?_)
            · exact trivial
            clear hK K hH_
            have hH_ := hH1_
            clear hH1_
            refine wpAnyU_one' (i := 9) (by kernel_rfl) rfl (by kernel_rfl) (fun K hK => ?_)
            go_simp
            refine hK.out _ _ ?_
            clear hK K
            refine wpAnyU_done (by kernel_rfl) ?_ _
            go_wp2_with fail
            go_meet
            case rel => exact ⟨(w0.heap.size + 1 + 1), (w0.heap.size), (w0.heap.size + 1), (w0.heap.size + 1 + 1 + 1), rfl, rfl, ⟨by simp, by simp, by omega, by omega, by omega, by omega, by omega, by omega, by omega, by omega, by omega, (((Blk.made (by simp)).alloc _).drew), (((((Blk.made (by simp)).alloc _).alloc _).alloc _).drew), (((((Blk.made (by simp)).alloc _).alloc _).drew).eq (by simp)), (((Blk.made (by simp)).drew).eq (by simp)), rep_none⟩, (((((Below.refl w0.heap.size w0).alloc (by simp) _).alloc (by simp <;> omega) _).alloc (by simp <;> omega) _).alloc (by simp <;> omega) _).drew⟩
          · skip
            go_simp
            refine hK.out _ _ ?_ (fun hH1_ => ?_)
            · exact trivial
            clear hK K hH_
            have hH_ := hH1_
            clear hH1_
            refine wpAnyU_one (i := 5) (by kernel_rfl) rfl (fun K hK => ?_)
            (try simp only [hwr])
            go_simp
            refine hK.out _ _ ?_ (fun hH1_ => ?_)
            · exact trivial
            clear hK K hH_
            have hH_ := hH1_
            clear hH1_
            refine wpAnyU_one' (i := 9) (by kernel_rfl) rfl (by kernel_rfl) (fun K hK => ?_)
            go_simp
            refine hK.out _ _ ?_
            clear hK K
            refine wpAnyU_done (by kernel_rfl) ?_ _
            go_wp2_with fail
            go_meet
            case rel => exact ⟨(w0.heap.size + 1 + 1), (w0.heap.size), (w0.heap.size + 1), (w0.heap.size + 1 + 1 + 1), rfl, rfl, ⟨by simp, by simp, by omega, by omega, by omega, by omega, by omega, by omega, by omega, by omega, by omega, (((Blk.made (by simp)).alloc _).drew), (((((Blk.made (by simp)).alloc _).alloc _).alloc _).drew), (((((Blk.made (by simp)).alloc _).alloc _).drew).eq (by simp)), (((Blk.made (by simp)).drew).eq (by simp)), rep_none⟩, (((((Below.refl w0.heap.size w0).alloc (by simp) _).alloc (by simp <;> omega) _).alloc (by simp <;> omega) _).alloc (by simp <;> omega) _).drew⟩
      · skip
        (try simp only [hwr])
        go_simp
        refine hK.out _ _ ?_ (fun hH1_ => ?_)
        · exact trivial
        clear hK K hH_
        have hH_ := hH1_
        clear hH1_
        refine wpAnyU_two (i := 2) (j := 6) (by kernel_rfl) rfl rfl (fun K hK => ?_) (fun K hK => ?_)
        · skip
          (try simp only [hwr])
          go_simp
          refine hK.out _ _ ?_ (fun hH1_ => ?_)
          · exact trivial
          clear hK K hH_
          have hH_ := hH1_
          clear hH1_
          refine wpAnyU_one (i := 6) (by kernel_rfl) rfl (fun K hK => ?_)
          go_simp
          refine hK.out _ _ ?_ (fun hH1_ => ?_)
          · exact trivial
          clear hK K hH_
          have hH_ := hH1_
          clear hH1_
          refine wpAnyU_one (i := 8) (by kernel_rfl) rfl (fun K hK => ?_)
          go_simp
          refine hK.out _ _ ?_ (fun hH1_ => ?_)
          · exact trivial
          clear hK K hH_
          have hH_ := hH1_
          clear hH1_
          refine wpAnyU_one' (i := 9) (by kernel_rfl) rfl (by kernel_rfl) (fun K hK => ?_)
          go_simp
          refine hK.out _ _ ?_
          clear hK K
          refine wpAnyU_done (by kernel_rfl) ?_ _
          go_wp2_with fail
          go_meet
          case rel => exact ⟨(w0.heap.size + 1 + 1 + 1), (w0.heap.size), (w0.heap.size + 1 + 1), (w0.heap.size + 1), rfl, rfl, ⟨by simp, by simp, by omega, by omega, by omega, by omega, by omega, by omega, by omega, by omega, by omega, ((Blk.made (by simp)).drew), (((((Blk.made (by simp)).alloc _).alloc _).alloc _).drew), ((((Blk.made (by simp)).alloc _).drew).eq (by simp)), (((((Blk.made (by simp)).alloc _).alloc _).drew).eq (by simp)), rep_none⟩, (((((Below.refl w0.heap.size w0).alloc (by simp) _).alloc (by simp <;> omega) _).alloc (by simp <;> omega) _).alloc (by simp <;> omega) _).drew⟩
        · skip
          go_simp
          refine hK.out _ _ ?_ (fun hH1_ => ?_)
          · exact trivial
          clear hK K hH_
          have hH_ := hH1_
          clear hH1_
          refine wpAnyU_one (i := 2) (by kernel_rfl) rfl (fun K hK => ?_)
          (try simp only [hwr])
          go_simp
          refine hK.out _ _ ?_ (fun hH1_ => ?_)
          · exact trivial
          clear hK K hH_
          have hH_ := hH1_
          clear hH1_
          refine wpAnyU_one (i := 8) (by kernel_rfl) rfl (fun K hK => ?_)
          go_simp
          refine hK.out _ _ ?_ (fun hH1_ => ?_)
          · exact trivial
          clear hK K hH_
          have hH_ := hH1_
          clear hH1_
          refine wpAnyU_one' (i := 9) (by kernel_rfl) rfl (by kernel_rfl) (fun K hK => ?_)
          go_simp
          refine hK.out _ _ ?_
          clear hK K
          refine wpAnyU_done (by kernel_rfl) ?_ _
          go_wp2_with fail
          go_meet
          case rel => exact ⟨(w0.heap.size + 1 + 1), (w0.heap.size), (w0.heap.size + 1 + 1 + 1), (w0.heap.size + 1), rfl, rfl, ⟨by simp, by simp, by omega, by omega, by omega, by omega, by omega, by omega, by omega, by omega, by omega, (((Blk.made (by simp)).alloc _).drew), (((((Blk.made (by simp)).alloc _).alloc _).alloc _).drew), (((Blk.made (by simp)).drew).eq (by simp)), (((((Blk.made (by simp)).alloc _).alloc _).drew).eq (by simp)), rep_none⟩, (((((Below.refl w0.heap.size w0).alloc (by simp) _).alloc (by simp <;> omega) _).alloc (by simp <;> omega) _).alloc (by simp <;> omega) _).drew⟩
      · skip
        go_simp
        refine hK.out _ _ ?_ (fun hH1_ => ?_)
        · exact trivial
        clear hK K hH_
        have hH_ := hH1_
        clear hH1_
        refine wpAnyU_two (i := 2) (j := 5) (by kernel_rfl) rfl rfl (fun K hK => ?_) (fun K hK => ?_)
        · skip
          (try simp only [hwr])
          go_simp
          refine hK.out _ _ ?_ (fun hH1_ => ?_)
          · exact trivial
          clear hK K hH_
          have hH_ := hH1_
          clear hH1_
          refine wpAnyU_two (i := 5) (j := 8) (by kernel_rfl) rfl rfl (fun K hK => ?_) (fun K hK => ?_)
          · skip
            (try simp only [hwr])
            go_simp
            refine hK.out _ _ ?_ (fun hH1_ => ?_)
            · exact trivial
            clear hK K hH_
            have hH_ := hH1_
            clear hH1_
            refine wpAnyU_one (i := 8) (by kernel_rfl) rfl (fun K hK => ?_)
            go_simp
            refine hK.out _ _ ?_ (fun hH1_ => ?_)
            · exact trivial
            clear hK K hH_
            have hH_ := hH1_
            clear hH1_
            refine wpAnyU_one' (i := 9) (by kernel_rfl) rfl (by kernel_rfl) (fun K hK => ?_)
            go_simp
            refine hK.out _ _ ?_
            clear hK K
            refine wpAnyU_done (by kernel_rfl) ?_ _
            go_wp2_with fail
            go_meet
            case rel => exact ⟨(w0.heap.size + 1), (w0.heap.size), (w0.heap.size + 1 + 1), (w0.heap.size + 1 + 1 + 1), rfl, rfl, ⟨by simp, by simp, by omega, by omega, by omega, by omega, by omega, by omega, by omega, by omega, by omega, ((((Blk.made (by simp)).alloc _).alloc _).drew), (((((Blk.made (by simp)).alloc _).alloc _).alloc _).drew), ((((Blk.made (by simp)).alloc _).drew).eq (by simp)), (((Blk.made (by simp)).drew).eq (by simp)), rep_none⟩, (((((Below.refl w0.heap.size w0).alloc (by simp) _).alloc (by simp <;> omega) _).alloc (by simp <;> omega) _).alloc (by simp <;> omega) _).drew⟩
          · skip
            go_simp
            refine hK.out _ _ ?_ (fun hH1_ => ?_)
            · exact trivial
            clear hK K hH_
            have hH_ := hH1_
            clear hH1_
            refine wpAnyU_one (i := 5) (by kernel_rfl) rfl (fun K hK => ?_)
            (try simp only [hwr])
            go_simp
            refine hK.out _ _ ?_ (fun hH1_ => ?_)
            · exact trivial
            clear hK K hH_
            have hH_ := hH1_
            clear hH1_
            refine wpAnyU_one' (i := 9) (by kernel_rfl) rfl (by kernel_rfl) (fun K hK => ?_)
            go_simp
            refine hK.out _ _ ?_
            clear hK K
            refine wpAnyU_done (by kernel_rfl) ?_ _
            go_wp2_with fail
            go_meet
            case rel => exact ⟨(w0.heap.size + 1), (w0.heap.size), (w0.heap.size + 1 + 1), (w0.heap.size + 1 + 1 + 1), rfl, rfl, ⟨by simp, by simp, by omega, by omega, by omega, by omega, by omega, by omega, by omega, by omega, by omega, ((((Blk.made (by simp)).alloc _).alloc _).drew), (((((Blk.made (by simp)).alloc _).alloc _).alloc _).drew), ((((Blk.made (by simp)).alloc _).drew).eq (by simp)), (((Blk.made (by simp)).drew).eq (by simp)), rep_none⟩, (((((Below.refl w0.heap.size w0).alloc (by simp) _).alloc (by simp <;> omega) _).alloc (by simp <;> omega) _).alloc (by simp <;> omega) _).drew⟩
        · skip
          (try simp only [hwr])
          go_simp
          refine hK.out _ _ ?_ (fun hH1_ => ?_)
          · exact trivial
          clear hK K hH_
          have hH_ := hH1_
          clear hH1_
          refine wpAnyU_one (i := 2) (by kernel_rfl) rfl (fun K hK => ?_)
          (try simp only [hwr])
          go_simp
          refine hK.out _ _ ?_ (fun hH1_ => ?_)
          · exact trivial
          clear hK K hH_
          have hH_ := hH1_
          clear hH1_
          refine wpAnyU_one (i := 8) (by kernel_rfl) rfl (fun K hK => ?_)
          go_simp
          refine hK.out _ _ ?_ (fun hH1_ => ?_)
          · exact trivial
          clear hK K hH_
          have hH_ := hH1_
          clear hH1_
          refine wpAnyU_one' (i := 9) (by kernel_rfl) rfl (by kernel_rfl) (fun K hK => ?_)
          go_simp
          refine hK.out _ _ ?_
          clear hK K
          refine wpAnyU_done (by kernel_rfl) ?_ _
          go_wp2_with fail
          go_meet
          case rel => exact ⟨(w0.heap.size + 1), (w0.heap.size), (w0.heap.size + 1 + 1 + 1), (w0.heap.size + 1 + 1), rfl, rfl, ⟨by simp, by simp, by omega, by omega, by omega, by omega, by omega, by omega, by omega, by omega, by omega, ((((Blk.made (by simp)).alloc _).alloc _).drew), (((((Blk.made (by simp)).alloc _).alloc _).alloc _).drew), (((Blk.made (by simp)).drew).eq (by simp)), ((((Blk.made (by simp)).alloc _).drew).eq (by simp)), rep_none⟩, (((((Below.refl w0.heap.size w0).alloc (by simp) _).alloc (by simp <;> omega) _).alloc (by simp <;> omega) _).alloc (by simp <;> omega) _).drew⟩
  case rest =>
    obtain ⟨bm, bs, gm, gs, rfl, rfl, hst, hb1⟩ := hcut
    have HS1 := Lib.hid hst
    have HB1 := Lib.hid (HBw.out.trans (hb1.mono HBw.out.size))
    have HK1 := Lib.hid (HK0.out.below hb1)
    have z1 := hb1.size
    clear hb1 hst HK0 HBw
    have HC := Lib.hid (impl_FirstUnset1_calls w0.heap.size bm bs gm gs (x.Code.length + 1) 0 _ _ [] (.slice none 0 0) wc HS1.out (by omega) (by omega) (fun j l h => by rw [List.getElem?_replicate] at h; split at h <;> cases h) (by rw [List.flatMap_nil, Rd]; exact ⟨none, 0, rfl, slOk_none, .inl rfl⟩))
    go_wp2_with fail
    refine HC.out.mono ?_
    rintro e w2 ⟨rfl, us2, hst2, hc2⟩
    have HS2 : Hid (StI w2 w0.heap.size bm bs gm gs (x.Code.length + 1) (some [] :: List.replicate x.Code.length none) us2) := by
      unfold Hid
      have h := hst2
      rw [reachG_none (by simp)] at h
      exact h
    have HB2 : Hid (Below w.heap.size w w2) := below_chg HB1.out hc2 (by omega) (fun k hk => by have h1 := HS1.out.hgm; have h2 := HS1.out.hgs; rcases hk with rfl | rfl <;> omega)
    have HK2 : Hid (Blk w2 w.heap.size 29 #[.string x.Name, .slice A x.Code.length c]) := HK1.out.chg hc2 (fun hk => by have h1 := HS1.out.hgm; have h2 := HS1.out.hgs; rcases hk with h | h <;> omega)
    obtain ⟨kb2, kf2⟩ := HK2.out.rules
    have hbl2 := HK2.out.lt
    have hwm : w.heap.size < gm := by have h1 := HS1.out.hgm; omega
    have hws : w.heap.size < gs := by have h1 := HS1.out.hgs; omega
    clear hst2 hc2 HC HS1 HB1 HK1
    go_wp2
    go_loopw [27] (fun a wr => ∃ (i : Nat) (S : List (Option (List Int))) (us : List Value), i ≤ x.Code.length ∧ a = .int .i64 i ∧ Hid (StI wr w0.heap.size bm bs gm gs (x.Code.length + 1) S us) ∧ Hid (Below w.heap.size w wr) ∧ Hid (Blk wr w.heap.size 29 #[.string x.Name, .slice A x.Code.length c]) ∧ Hid (firstI x.Code = runG badI nextI meetI x.Code.length (x.Code.drop i) i S) ∧ Hid (∀ (j : Nat) l, S[j]? = some (some l) → l.length ≤ i)) (fun a wr => x.Code.length - (intOf a).toNat)
    case atStart => exact ⟨0, _, _, by omega, rfl, HS2, HB2, HK2, rfl, fun j l h => by
      cases j with
      | zero => simp at h; subst h; simp
      | succ j => simp [List.getElem?_replicate] at h⟩
    case round =>
      clear kb2 kf2 hbl2 HS2 HB2 HK2
      obtain ⟨i, S, us, hi, rfl, HS, HB, HK, HF, HL⟩ := hrel
      obtain ⟨kb, kf⟩ := HK.out.rules
      have hbl := HK.out.lt
      have zr := HB.out.size
      by_cases hlt : i < x.Code.length
      · obtain ⟨y, hy⟩ : ∃ y, x.Code[i]? = some y := ⟨x.Code[i], List.getElem?_eq_getElem hlt⟩
        obtain ⟨ad, rfl, hab, k0, k1, k2, k3, k4, k5⟩ := row_eInstr (HR.out.below HB.out) hy
        obtain ⟨o, u, hso, huo, cm, cs⟩ := HS.out.cells (k := i) (by omega)
        obtain ⟨m1, g1⟩ := HS.out.kbm.rules
        obtain ⟨m2, g2⟩ := HS.out.kbs.rules
        have l1 := HS.out.kbm.lt
        have l2 := HS.out.kbs.lt
        have l3 := HS.out.kgm.lt
        have l4 := HS.out.kgs.lt
        have HX := Lib.hid hy
        cases o with
        | none =>
          have HF1 : Hid (firstI x.Code = runG badI nextI meetI x.Code.length (x.Code.drop (i + 1)) (i + 1) S) := HF.out.trans (runG_skip hy hso)
          simp only [Option.isSome_none] at cm
          clear hy hso huo
          go_wp2
          go_roundw
          case rel => exact ⟨i + 1, S, us, by omega, by go_num, HS.out.below ((Below.refl _ _).alloc (Nat.le_refl _) _), HB.out.alloc zr _, HK.out.alloc _, HF1, fun j l h => Nat.le_succ_of_le (HL.out j l h)⟩
          case measure => simp [intOf]; omega
        | some q =>
          simp only [Option.isSome_some] at cm
          have hrq := HS.out.rd i q u hso huo
          obtain ⟨A1, c1, rfl, _⟩ := RdW.slice (Rd.mono (fun k hk => hk.1) _ _ hrq)
          have hql := HL.out i q hso
          have HSO := Lib.hid hso
          have HRQ := Lib.hid hrq
          clear hy hso huo hrq
          obtain ⟨wa, hwa⟩ : ∃ q_, q_ = (wr.alloc (.cells #[.int .i64 y.Op, .int .i64 y.A, .int .i64 y.B, .int .i64 y.C, .int .i64 y.D, .string y.Name] 47)).alloc (.cells #[.slice A1 q.length c1] 44) := ⟨_, rfl⟩
          have HKX : Hid (Blk wa wr.heap.size 47 #[.int .i64 y.Op, .int .i64 y.A, .int .i64 y.B, .int .i64 y.C, .int .i64 y.D, .string y.Name]) := by unfold Hid; rw [hwa]; exact (Blk.new wr _ _).alloc _
          have HKV : Hid (Blk wa (wr.heap.size + 1) 44 #[.slice A1 q.length c1]) := by unfold Hid; rw [hwa]; exact Blk.made (by simp)
          have HBa : Hid (Below wr.heap.size wr wa) := by unfold Hid; rw [hwa]; exact ((Below.refl _ _).alloc (Nat.le_refl _) _).alloc (by simp) _
          have za : wr.heap.size + 2 ≤ wa.heap.size := by rw [hwa]; simp
          have hrw := Lib.hid hwa
          clear hwa
          go_wp2_with fail
          rw [← hrw.out]
          refine (impl_RegsOf_calls y _).mono ?_
          rintro e wb ⟨vb, rfl, hrb, hbb⟩
          obtain ⟨A2, c2, rfl, _⟩ := hrb.slice
          have HBb := Lib.hid (HBa.out.trans (hbb.mono HBa.out.size))
          have HKXb := Lib.hid (HKX.out.below hbb)
          have HKVb := Lib.hid (HKV.out.below hbb)
          have zb := hbb.size
          have HRQb : Hid (RdW wb (.s q.length (q.flatMap eInt)) (.slice A1 q.length c1)) := RdW.below (Rd.mono (fun k hk => hk.1) _ _ HRQ.out) HBb.out
          have HCF := Lib.hid (slices_ContainsFunc_Int (fun k => !hasI q k) 46 #[.pointer (some ⟨wr.heap.size + 1, 0, none⟩)] (enters_of Try.func46 (by kernel_rfl) rfl) _ (regsOf y) wb hrb
            (fun W k us hW hk hr => by
              obtain rfl := rd_eInt hr
              exact (impl_FirstUnset2_calls (wr.heap.size + 1) q k _ W (HKVb.out.below hW) (HRQb.out.below hW)).mono (fun e w' h => ⟨h.1, h.2 ▸ Below.refl _ _⟩)))
          obtain ⟨bd, hbd⟩ : ∃ bd, bd = badI q y := ⟨_, rfl⟩
          have HBD := Lib.hid hbd
          have hcf := HCF.out
          rw [show ((regsOf y).any fun k => !hasI q k) = bd from hbd.symm] at hcf
          clear hrb hbb hbd HCF
          go_wp2_with fail
          refine hcf.mono ?_
          rintro e wd ⟨rfl, hbd⟩
          have HBd := Lib.hid (HBb.out.trans (hbd.mono HBb.out.size))
          have HKXd := Lib.hid (HKXb.out.below hbd)
          have HKVd := Lib.hid (HKVb.out.below hbd)
          have zd := hbd.size
          clear hbd hcf
          cases bd with
          | true =>
            have HE : Hid (firstI x.Code = i) := HF.out.trans (runG_bad HX.out HSO.out HBD.out.symm)
            go_wp2
            go_ret
            exact ⟨by rw [HE.out]; rfl, HB.out.trans (HBd.out.mono zr)⟩
          | false =>
            have HF1 : Hid (firstI x.Code = runG badI nextI meetI x.Code.length (x.Code.drop (i + 1)) (i + 1) (stepG nextI meetI x.Code.length i y S q)) := HF.out.trans (runG_good HX.out HSO.out HBD.out.symm)
            have HL1 := Lib.hid (step_len HL.out hql x.Code.length i y)
            obtain ⟨p1, p2⟩ := HKXd.out.rules
            obtain ⟨p3, p4⟩ := HKVd.out.rules
            have p5 := HKXd.out.lt
            have p6 := HKVd.out.lt
            go_wp2_with fail
            refine (impl_TargetOf_calls y _).mono ?_
            rintro e we ⟨rfl, hbe⟩
            have HBe := Lib.hid (HBd.out.trans (hbe.mono HBd.out.size))
            have HKXe := Lib.hid (HKXd.out.below hbe)
            have HKVe := Lib.hid (HKVd.out.below hbe)
            have ze := hbe.size
            have HSe := Lib.hid (HS.out.below HBe.out)
            have HRQe : Hid (Rd (fun k => k < we.heap.size ∧ k ≠ gm ∧ k ≠ gs) we (.s q.length (q.flatMap eInt)) (.slice A1 q.length c1)) := Rd.mono (fun k hk => ⟨Nat.lt_of_lt_of_le hk.1 HBe.out.size, hk.2⟩) _ _ (Rd.keep (fun k hk => HBe.out.block k hk.1) _ _ HRQ.out)
            clear p1 p2 p3 p4 p5 p6 hbe
            obtain ⟨p1, p2⟩ := HKXe.out.rules
            obtain ⟨p3, p4⟩ := HKVe.out.rules
            have p5 := HKXe.out.lt
            have p6 := HKVe.out.lt
            obtain ⟨tt, htt⟩ : ∃ tt, tt = targetOf y := ⟨_, rfl⟩
            rw [← htt]
            have HTT := Lib.hid htt
            clear htt
            go_upto_if 49 with fail
            go_cut [] from 48 to 54 (fun wx => ∃ u2, Blk wx (wr.heap.size + 1) 44 #[u2] ∧ Rd (fun k => k < wx.heap.size ∧ k ≠ gm ∧ k ≠ gs) wx (.s (nextI q y).length ((nextI q y).flatMap eInt)) u2 ∧ Chg (· = wr.heap.size + 1) we wx)
            case first =>
              have hgl : gm < we.heap.size := by have := HBe.out.size; omega
              have hgl2 : gs < we.heap.size := by have := HBe.out.size; omega
              by_cases ht : tt = -1
              · have hN : Hid (nextI q y = q) := by unfold Hid nextI; rw [← HTT.out, if_pos ht]
                go_wp2
                go_meet
                case rel => exact ⟨_, HKVe.out, by rw [hN.out]; exact HRQe.out, Chg.refl _ _⟩
              · have htb : (tt != -1) = true := by simpa using ht
                have hN : Hid (nextI q y = q ++ [tt]) := by unfold Hid nextI; rw [← HTT.out, if_neg ht]
                go_wp2_with fail
                refine (slices_Clone_Int_row _ q _ (Rd.mono (fun k hk => hk.1) _ _ HRQe.out) (by omega)).mono ?_
                rintro e wf ⟨A3, c3, rfl, ho3, hbf⟩
                have HO3 := Lib.hid ho3
                have HKVf := Lib.hid (HKVe.out.below hbf)
                have HBf := Lib.hid hbf
                have zf := hbf.size
                have hlo := ho3.lt
                clear ho3 hbf p1 p2 p3 p4 p5 p6
                go_wp2_with (at_builtin; refine wpList_append_rd rfl _ _ 44 rfl (we.heap.size) 3 _ _ 1 8 Try.underlying44 rfl rfl rfl rfl rfl (by omega) _ q.length _ rfl (HO3.out.alloc _) vals_eInt [tt] (one_eInt _) (lenv_eInt _) _ _ rfl (rdW_one vals_eInt wf tt 3) (by simp; omega) (by omega) (by simp; omega) ?_)
                intro A4 c4 w6 hown hgrow
                have HKV6 := Lib.hid ((HKVf.out.alloc (.cells (vsInt tt).toArray 3)).chg (grown_chg hgrow) (fun h => by have := (hlo _ h).1; omega))
                have HB6 := Lib.hid ((HBf.out.alloc zf (.cells (vsInt tt).toArray 3)).trans (grown_below hgrow (by simp; omega) (fun k hk => (hlo k hk).1)))
                have HO6 : Hid (w6.ownsRow we.heap.size 3 1 (.slice A4 (q ++ [tt]).length c4) (q ++ [tt]).length ((q ++ [tt]).flatMap vsInt)) := by
                  unfold Hid
                  have h3 : (q ++ [tt]).flatMap vsInt = q.flatMap vsInt ++ [tt].flatMap vsInt := List.flatMap_append ..
                  rw [h3, List.length_append]; exact hown
                clear hown hgrow hlo
                obtain ⟨q3, q4⟩ := HKV6.out.rules
                have q6 := HKV6.out.lt
                go_wp2
                go_meet
                case rel =>
                  rw [show q.length + 1 = (q ++ [tt]).length from by simp]
                  obtain ⟨fp, how, _, hge⟩ := ownRow_own vals_eInt HO6.out (by simp; omega)
                  have hcx : Chg (· = wr.heap.size + 1) we (w6.setCell ⟨wr.heap.size + 1, 0, none⟩ (.slice A4 (q ++ [tt]).length c4)) := Chg.setCell (T := fun x => x = wr.heap.size + 1) (Chg.of_below HB6.out _) (p := ⟨wr.heap.size + 1, 0, none⟩) (.inl rfl) _
                  have hw6 : Chg (· = wr.heap.size + 1) w6 (w6.setCell ⟨wr.heap.size + 1, 0, none⟩ (.slice A4 (q ++ [tt]).length c4)) := Chg.setCell (T := fun x => x = wr.heap.size + 1) (Chg.refl _ w6) (p := ⟨wr.heap.size + 1, 0, none⟩) (.inl rfl) _
                  have how2 := how.chg hw6 (fun k hk e => by have := hge k hk; omega)
                  refine ⟨.slice A4 (q ++ [tt]).length c4, ?_, ?_, ?_⟩
                  · exact HKV6.out.set_ 0 (.slice A4 (q ++ [tt]).length c4)
                  · rw [hN.out]
                    exact Rd.mono (fun k hk => ⟨Own.lt _ _ _ how2 k hk, fun e => by have := hge k hk; omega, fun e => by have := hge k hk; omega⟩) _ _ how2.rd
                  · exact hcx
            case rest =>
              obtain ⟨u2, hk2, hr2, hc2⟩ := hcut
              obtain ⟨A5, c5, rfl, _⟩ := RdW.slice (Rd.mono (fun k hk => hk.1) _ _ hr2)
              have hnl : (nextI q y).length ≤ i + 1 := Nat.le_trans (nextI_len q y) (by omega)
              have HBx := Lib.hid (below_chg HBe.out hc2 (by omega) (fun k hk => by subst hk; omega))
              have HSx := Lib.hid (HS.out.below HBx.out)
              have HKXx := Lib.hid (HKXe.out.chg hc2 (fun h => by omega))
              have HKVx := Lib.hid hk2
              have HRx := Lib.hid hr2
              have HKx := Lib.hid (HK.out.below HBx.out)
              have zx := HBx.out.size
              clear p1 p2 p3 p4 p5 p6 hk2 hr2 hc2
              obtain ⟨p1, p2⟩ := HKXx.out.rules
              obtain ⟨p3, p4⟩ := HKVx.out.rules
              have p5 := HKXx.out.lt
              have p6 := HKVx.out.lt
              by_cases e10 : y.Op = 10
              · have HST : Hid (stepG nextI meetI x.Code.length i y S q = S) := by unfold Hid stepG; rw [if_pos e10]
                go_wp2
                go_roundw
                case rel => exact ⟨i + 1, S, us, by omega, by go_num, HSx, HB.out.trans (HBx.out.mono zr), HKx, by unfold Hid; rw [HST.out] at HF1; exact HF1.out, fun j l h => Nat.le_succ_of_le (HL.out j l h)⟩
                case measure => simp [intOf]; omega
              have e10b : (y.Op == 10) = false := by simpa using e10
              have HCR := Lib.hid (impl_FirstUnset1_calls w0.heap.size bm bs gm gs (x.Code.length + 1) (i + 1) S us (nextI q y) _ wc HSx.out (by omega) (by omega) (fun j l h => by have := HL.out j l h; omega) HRx.out)
              go_wp2_with fail
              refine HCR.out.mono ?_
              rintro e wg ⟨rfl, us3, hst3, hc3⟩
              have HSg := Lib.hid hst3
              have HBg := Lib.hid ((HB.out.trans (HBx.out.mono zr)).trans (hc3.below (B := w.heap.size) (by omega) (fun k hk => by rcases hk with rfl | rfl <;> omega)))
              have HKXg := Lib.hid (HKXx.out.chg hc3 (fun h => by rcases h with h | h <;> omega))
              have HKVg := Lib.hid (HKVx.out.chg hc3 (fun h => by rcases h with h | h <;> omega))
              have HKg := Lib.hid (HKx.out.chg hc3 (fun h => by rcases h with h | h <;> omega))
              have HRg : Hid (Rd (fun k => k < wg.heap.size ∧ k ≠ gm ∧ k ≠ gs) wg (.s (nextI q y).length ((nextI q y).flatMap eInt)) (.slice A5 (nextI q y).length c5)) :=
                Rd.mono (fun k hk => ⟨Nat.lt_of_lt_of_le hk.1 hc3.size, hk.2⟩) _ _ (Rd.chg HRx.out hc3 (fun k hk => hk.1) (fun k hk h => by rcases h with rfl | rfl; exact hk.2.1 rfl; exact hk.2.2 rfl))
              have zg := hc3.size
              clear p1 p2 p3 p4 p5 p6 hst3 hc3 HCR
              obtain ⟨p1, p2⟩ := HKXg.out.rules
              obtain ⟨p3, p4⟩ := HKVg.out.rules
              have p5 := HKXg.out.lt
              have p6 := HKVg.out.lt
              have HLg := Lib.hid (reach_len (k := i + 1) (m := i + 1) (fun j l h => Nat.le_succ_of_le (HL.out j l h)) hnl)
              by_cases e9 : ¬ y.Op = 9
              · have e9b : (y.Op == 9) = false := by simpa using e9
                have HST : Hid (stepG nextI meetI x.Code.length i y S q = reachG meetI S (i + 1) (nextI q y)) := by unfold Hid stepG; rw [if_neg e10, if_neg e9]
                go_wp2
                go_roundw
                case rel => exact ⟨i + 1, _, us3, by omega, by go_num, HSg, HBg, HKg, by unfold Hid; rw [HST.out] at HF1; exact HF1.out, HLg⟩
                case measure => simp [intOf]; omega
              replace e9 := Classical.not_not.1 e9
              have HST : Hid (stepG nextI meetI x.Code.length i y S q = reachG meetI (reachG meetI S (i + 1) (nextI q y)) (skipTo x.Code.length i y) (nextI q y)) := by unfold Hid stepG; rw [if_neg e10, if_pos e9]
              by_cases hB0 : 0 ≤ y.B
              · by_cases hB1 : y.B < (x.Code.length : Int) - i
                · obtain ⟨b, hb⟩ : ∃ b : Nat, y.B = b := ⟨y.B.toNat, by omega⟩
                  have HSK : Hid (skipTo x.Code.length i y = i + 1 + b) := (skipTo_in hB0 hB1).trans (by rw [hb]; rfl)
                  have hcr := impl_FirstUnset1_calls w0.heap.size bm bs gm gs (x.Code.length + 1) (i + 1 + b) _ us3 (nextI q y) _ wg HSg.out (by omega) (by omega) (fun j l h => by have := HLg.out j l h; omega) HRg.out
                  rw [show ((i + 1 + b : Nat) : Int) = (i : Int) + 1 + b from by omega] at hcr
                  have HCR := Lib.hid hcr
                  clear hcr
                  go_wp2_with fail
                  refine HCR.out.mono ?_
                  rintro e wh ⟨rfl, us4, hst4, hc4⟩
                  have HSh := Lib.hid hst4
                  have HBh := Lib.hid (HBg.out.trans (hc4.below (B := w.heap.size) (by omega) (fun k hk => by rcases hk with rfl | rfl <;> omega)))
                  have HKh := Lib.hid (HKg.out.chg hc4 (fun h => by rcases h with h | h <;> omega))
                  have HLh := Lib.hid (reach_len (k := i + 1 + b) HLg.out hnl)
                  clear hst4 hc4 HCR
                  go_wp2
                  go_roundw
                  case rel => exact ⟨i + 1, _, us4, by omega, by go_num, HSh, HBh, HKh, by unfold Hid; rw [HST.out, HSK.out] at HF1; exact HF1.out, HLh⟩
                  case measure => simp [intOf]; omega
                · skip
                  have HSK : Hid (skipTo x.Code.length i y = x.Code.length) := skipTo_out (fun h => hB1 h.2)
                  have hcr := impl_FirstUnset1_calls w0.heap.size bm bs gm gs (x.Code.length + 1) (x.Code.length) _ us3 (nextI q y) _ wg HSg.out (by omega) (by omega) (fun j l h => by have := HLg.out j l h; omega) HRg.out
                  have HCR := Lib.hid hcr
                  clear hcr
                  go_wp2_with fail
                  refine HCR.out.mono ?_
                  rintro e wh ⟨rfl, us4, hst4, hc4⟩
                  have HSh := Lib.hid hst4
                  have HBh := Lib.hid (HBg.out.trans (hc4.below (B := w.heap.size) (by omega) (fun k hk => by rcases hk with rfl | rfl <;> omega)))
                  have HKh := Lib.hid (HKg.out.chg hc4 (fun h => by rcases h with h | h <;> omega))
                  have HLh := Lib.hid (reach_len (k := x.Code.length) HLg.out hnl)
                  clear hst4 hc4 HCR
                  go_wp2
                  go_roundw
                  case rel => exact ⟨i + 1, _, us4, by omega, by go_num, HSh, HBh, HKh, by unfold Hid; rw [HST.out, HSK.out] at HF1; exact HF1.out, HLh⟩
                  case measure => simp [intOf]; omega
              · skip
                have HSK : Hid (skipTo x.Code.length i y = x.Code.length) := skipTo_out (fun h => hB0 h.1)
                have hcr := impl_FirstUnset1_calls w0.heap.size bm bs gm gs (x.Code.length + 1) (x.Code.length) _ us3 (nextI q y) _ wg HSg.out (by omega) (by omega) (fun j l h => by have := HLg.out j l h; omega) HRg.out
                have HCR := Lib.hid hcr
                clear hcr
                go_wp2_with fail
                refine HCR.out.mono ?_
                rintro e wh ⟨rfl, us4, hst4, hc4⟩
                have HSh := Lib.hid hst4
                have HBh := Lib.hid (HBg.out.trans (hc4.below (B := w.heap.size) (by omega) (fun k hk => by rcases hk with rfl | rfl <;> omega)))
                have HKh := Lib.hid (HKg.out.chg hc4 (fun h => by rcases h with h | h <;> omega))
                have HLh := Lib.hid (reach_len (k := x.Code.length) HLg.out hnl)
                clear hst4 hc4 HCR
                go_wp2
                go_roundw
                case rel => exact ⟨i + 1, _, us4, by omega, by go_num, HSh, HBh, HKh, by unfold Hid; rw [HST.out, HSK.out] at HF1; exact HF1.out, HLh⟩
                case measure => simp [intOf]; omega
      · have : i = x.Code.length := by omega
        subst this
        have HE : Hid (firstI x.Code = -1) := HF.out.trans (runG_end (Nat.le_refl _))
        go_wp2
        go_ret
        exact ⟨by rw [HE.out]; rfl, HB.out⟩


end Go.Proofs.Ytiohoeafdaihpaa
