import Derived.Test.YtklbpjnpmbidiaaProg
import Derived.Test.YtklbpjnpmbidiaaTypes
import Derived.StillTailTactics
import Derived.Deep.RegionWith
import Derived.Deep.AppendLies
import Derived.Lib.BufferRead
import Derived.Deep.RegionHeld3
import Derived.Laws.IdiomStrings
import Derived.Test.YtklbpjnpmbidiaaAppend
import Derived.Laws.StructEq
import Derived.Lib.SliceRun
import Derived.Shelf.RegionOpenPlain
import Derived.Test.YtklbpjnpmbidiaaDecM
import Derived.Test.YtklbpjnpmbidiaaChunk
namespace Go.Proofs.Ytklbpjnpmbidiaa
open Go.RowKit
set_option linter.unusedVariables false
set_option linter.unusedSimpArgs false

set_option maxHeartbeats 800000 in
set_option maxRecDepth 100000 in
theorem bytes_Equal_calls (v v' : Value) (xs ys : List UInt8) (w : World) (hr : RdW w (.s xs.length (xs.flatMap eByte)) v) (hr' : RdW w (.s ys.length (ys.flatMap eByte)) v') :
    Calls Try.prog 27 #[v, v'] w fun e w' => e = .returned (.bool (decide (xs = ys))) ∧ w' = w := by
  obtain ⟨A, c, rfl, -⟩ := hr.slice
  obtain ⟨A', c', rfl, -⟩ := hr'.slice
  have hcv := run_conv_row (P := Try.prog) w 22 9 5 A c xs Try.underlying22 Try.underlying5 Try.underlying9 hr
  have hcv' := run_conv_row (P := Try.prog) w 22 9 5 A' c' ys Try.underlying22 Try.underlying5 Try.underlying9 hr'
  clear hr hr'
  by_cases h : xs = ys
  · rw [decide_eq_true h]
    have hb : ((⟨xs.toArray⟩ : ByteArray).toList == (⟨ys.toArray⟩ : ByteArray).toList) = true := by rw [h]; simp
    clear h
    go_enter Try.func27, Try.ntmps27
    go_wp2
    go_ret
    simp_all
  · rw [decide_eq_false h]
    have hb : ((⟨xs.toArray⟩ : ByteArray).toList == (⟨ys.toArray⟩ : ByteArray).toList) = false := by
      rw [beq_eq_false_iff_ne]
      intro e
      have h2 := bytes_inj e
      injection h2 with h2
      exact h (by simpa using congrArg Array.toList h2)
    clear h
    go_enter Try.func27, Try.ntmps27
    go_wp2
    go_ret
    simp_all
set_option maxHeartbeats 6400000 in
set_option maxRecDepth 100000 in
theorem impl_DecodeMessage_calls (v : Value) (b : List UInt8) (w : World) (hr : RdW w (.s b.length (b.flatMap eByte)) v) (hz : b.length ≤ 1048576) :
    Calls Try.prog 7 #[v] w fun e w' => ∃ us' fp, e = .returned (.tuple #[.agg us'.toArray, .bool (decodeMessage2 b)]) ∧ OwnL w' (eMessage (decodeMessage1 b)) us' fp ∧ Fresh w fp ∧ Below w.heap.size w w' := by
  have HV := Lib.hid hr
  obtain ⟨A, c, rfl, ⟨hcl, hcm, hl⟩⟩ := hr.slice
  clear hr
  have HB0 := Lib.hid ((Below.refl w.heap.size w).alloc (Nat.le_refl _) (.cells #[.int .i64 0, .int .i64 0, .int .i64 0, .int .i64 0, .string ⟨#[]⟩, .slice none 0 0, .int .i64 0, .int .i64 0, .int .i64 0, .int .i64 0, .int .i64 0, .int .i64 0] 29))
  have K0 := Lib.hid (Blk.new w 29 #[.int .i64 0, .int .i64 0, .int .i64 0, .int .i64 0, .string ⟨#[]⟩, .slice none 0 0, .int .i64 0, .int .i64 0, .int .i64 0, .int .i64 0, .int .i64 0, .int .i64 0])
  have HC1 := Lib.hid (impl_DecodeInts_calls (.slice A b.length c) b 0 11 (w.alloc (.cells #[.int .i64 0, .int .i64 0, .int .i64 0, .int .i64 0, .string ⟨#[]⟩, .slice none 0 0, .int .i64 0, .int .i64 0, .int .i64 0, .int .i64 0, .int .i64 0, .int .i64 0] 29)) (HV.out.below HB0.out) hz (Nat.zero_le _) (by omega))
  refine (callsIn_wide (n := 5)).1 (callsIn_of_wp_marks Try.func7 rfl trivial ?_ rfl)
  refine (wpIn_wide (n := 5)).2 ?_
  simp only [Try.ntmps7, List.size_toArray, List.length_cons, List.length_nil, Nat.reduceAdd, Nat.reduceSub, Array.replicate_succ, Array.replicate_zero, List.push_toArray, List.append_toArray, List.nil_append, List.cons_append]
  go_wp2_with fail
  refine HC1.out.mono ?_
  rintro e w1 ⟨hb1, h1⟩
  have z1 : w.heap.size + 1 ≤ w1.heap.size := by have := hb1.size; simpa using this
  have K1 := Lib.hid (K0.out.below hb1)
  have HB1 := Lib.hid (HB0.out.trans (hb1.mono (by simp)))
  obtain ⟨k1, j1⟩ := K1.out.rules
  have l1 := K1.out.lt
  clear hb1
  rw [List.drop_zero] at h1
  rcases h1 with ⟨h1, v0, rfl⟩ | ⟨n, p, A1, c1, h1, hnl, -, hp, hnM, rfl, ho1⟩
  · have HN := Lib.hid (decMsg_none1 h1)
    clear h1
    go_wp2
    refine postM_of_post (post_cell2 (w0 := w1) (fun k => k = w.heap.size) Try.results7 w.heap.size #[.int .i64 0, .int .i64 0, .int .i64 0, .int .i64 0, .string ⟨#[]⟩, .slice none 0 0, .int .i64 0, .int .i64 0, .int .i64 0, .int .i64 0, .int .i64 0, .int .i64 0] (.bool false) _ rfl (Blk.eq ((((((((((((K1.out.set_ 0 _).set_ 1 _).set_ 2 _).set_ 3 _).set_ 4 _).set_ 5 _).set_ 6 _).set_ 7 _).set_ 8 _).set_ 9 _).set_ 10 _).set_ 11 _) (by simp)) Try.underlying29 rfl (by kernel_rfl) rfl rfl (((((((((((((Chg.refl (· = w.heap.size) w1).setCell (p := ⟨w.heap.size, 0, none⟩) (.inl rfl) _).setCell (p := ⟨w.heap.size, 1, none⟩) (.inl rfl) _).setCell (p := ⟨w.heap.size, 2, none⟩) (.inl rfl) _).setCell (p := ⟨w.heap.size, 3, none⟩) (.inl rfl) _).setCell (p := ⟨w.heap.size, 4, none⟩) (.inl rfl) _).setCell (p := ⟨w.heap.size, 5, none⟩) (.inl rfl) _).setCell (p := ⟨w.heap.size, 6, none⟩) (.inl rfl) _).setCell (p := ⟨w.heap.size, 7, none⟩) (.inl rfl) _).setCell (p := ⟨w.heap.size, 8, none⟩) (.inl rfl) _).setCell (p := ⟨w.heap.size, 9, none⟩) (.inl rfl) _).setCell (p := ⟨w.heap.size, 10, none⟩) (.inl rfl) _).setCell (p := ⟨w.heap.size, 11, none⟩) (.inl rfl) _) ?_)
    intro W hW
    have hD := HN.out
    refine ⟨_, [], by unfold decodeMessage2; rw [hD]; rfl, ?_, Fresh.nil _, below_chg HB1.out hW HB1.out.size (fun k h => by omega)⟩
    unfold decodeMessage1
    rw [hD]
    exact mkown_eMessage (x := zMessage) (own_none W)
  rw [Nat.sub_zero] at h1
  obtain ⟨x0, x1, x2, x3, x4, x5, x6, x7, x8, x9, x10, rfl⟩ := list11 hnl
  have hx10 : ([x0, x1, x2, x3, x4, x5, x6, x7, x8, x9, x10] : List Nat).getD 10 0 = x10 := rfl
  obtain ⟨g1, cp1, hA1, hg1, hg1'⟩ := ho1.form (by omega)
  injection hA1 with hA1 _ hc1
  subst hA1
  subst hc1
  simp only [size_alloc] at hg1
  have c_0 : w1.cell? ⟨g1, 0, none⟩ = some (.int .i64 x0) := ho1.cellAt 0 (by omega)
  have c_1 : w1.cell? ⟨g1, 1, none⟩ = some (.int .i64 x1) := ho1.cellAt 1 (by omega)
  have c_2 : w1.cell? ⟨g1, 2, none⟩ = some (.int .i64 x2) := ho1.cellAt 2 (by omega)
  have c_3 : w1.cell? ⟨g1, 3, none⟩ = some (.int .i64 x3) := ho1.cellAt 3 (by omega)
  have c_4 : w1.cell? ⟨g1, 4, none⟩ = some (.int .i64 x4) := ho1.cellAt 4 (by omega)
  have c_5 : w1.cell? ⟨g1, 5, none⟩ = some (.int .i64 x5) := ho1.cellAt 5 (by omega)
  have c_6 : w1.cell? ⟨g1, 6, none⟩ = some (.int .i64 x6) := ho1.cellAt 6 (by omega)
  have c_7 : w1.cell? ⟨g1, 7, none⟩ = some (.int .i64 x7) := ho1.cellAt 7 (by omega)
  have c_8 : w1.cell? ⟨g1, 8, none⟩ = some (.int .i64 x8) := ho1.cellAt 8 (by omega)
  have c_9 : w1.cell? ⟨g1, 9, none⟩ = some (.int .i64 x9) := ho1.cellAt 9 (by omega)
  have c_10 : w1.cell? ⟨g1, 10, none⟩ = some (.int .i64 x10) := ho1.cellAt 10 (by omega)
  have H1 := Lib.hid h1
  have HM := Lib.hid hnM
  have HO1 := Lib.hid ho1
  clear h1 hnM hnl ho1
  by_cases hbig : (2 : Int) < x10
  · have HN := Lib.hid (decMsg_none2 H1.out (by rw [hx10]; omega))
    go_wp2
    refine postM_of_post (post_cell2 (w0 := w1) (fun k => k = w.heap.size) Try.results7 w.heap.size #[.int .i64 0, .int .i64 0, .int .i64 0, .int .i64 0, .string ⟨#[]⟩, .slice none 0 0, .int .i64 0, .int .i64 0, .int .i64 0, .int .i64 0, .int .i64 0, .int .i64 0] (.bool false) _ rfl (Blk.eq ((((((((((((K1.out.set_ 0 _).set_ 1 _).set_ 2 _).set_ 3 _).set_ 4 _).set_ 5 _).set_ 6 _).set_ 7 _).set_ 8 _).set_ 9 _).set_ 10 _).set_ 11 _) (by simp)) Try.underlying29 rfl (by kernel_rfl) rfl rfl (((((((((((((Chg.refl (· = w.heap.size) w1).setCell (p := ⟨w.heap.size, 0, none⟩) (.inl rfl) _).setCell (p := ⟨w.heap.size, 1, none⟩) (.inl rfl) _).setCell (p := ⟨w.heap.size, 2, none⟩) (.inl rfl) _).setCell (p := ⟨w.heap.size, 3, none⟩) (.inl rfl) _).setCell (p := ⟨w.heap.size, 4, none⟩) (.inl rfl) _).setCell (p := ⟨w.heap.size, 5, none⟩) (.inl rfl) _).setCell (p := ⟨w.heap.size, 6, none⟩) (.inl rfl) _).setCell (p := ⟨w.heap.size, 7, none⟩) (.inl rfl) _).setCell (p := ⟨w.heap.size, 8, none⟩) (.inl rfl) _).setCell (p := ⟨w.heap.size, 9, none⟩) (.inl rfl) _).setCell (p := ⟨w.heap.size, 10, none⟩) (.inl rfl) _).setCell (p := ⟨w.heap.size, 11, none⟩) (.inl rfl) _) ?_)
    intro W hW
    have hD := HN.out
    refine ⟨_, [], by unfold decodeMessage2; rw [hD]; rfl, ?_, Fresh.nil _, below_chg HB1.out hW HB1.out.size (fun k h => by omega)⟩
    unfold decodeMessage1
    rw [hD]
    exact mkown_eMessage (x := zMessage) (own_none W)
  have hx10l : x10 ≤ 2 := by omega
  have HX10 := Lib.hid hx10
  clear hx10
  go_wp2
  go_region_held3 (fun wq => wq.cell? ⟨g1, 0, none⟩ = some (.int .i64 x0) ∧ wq.cell? ⟨g1, 1, none⟩ = some (.int .i64 x1) ∧ wq.cell? ⟨g1, 2, none⟩ = some (.int .i64 x2) ∧ wq.cell? ⟨g1, 3, none⟩ = some (.int .i64 x3) ∧ wq.cell? ⟨g1, 4, none⟩ = some (.int .i64 x4) ∧ wq.cell? ⟨g1, 5, none⟩ = some (.int .i64 x5) ∧ wq.cell? ⟨g1, 6, none⟩ = some (.int .i64 x6) ∧ wq.cell? ⟨g1, 7, none⟩ = some (.int .i64 x7) ∧ wq.cell? ⟨g1, 8, none⟩ = some (.int .i64 x8) ∧ wq.cell? ⟨g1, 9, none⟩ = some (.int .i64 x9)) (go_keep) (fail)
  obtain ⟨wm, hwm⟩ : ∃ q, q = (w1.alloc (.cells #[.int .i64 x0, .int .i64 x1, .int .i64 x2, .int .i64 x3, .string ⟨#[]⟩, .slice none 0 0, .int .i64 x8, .int .i64 x9, .int .i64 x4, .int .i64 x5, .int .i64 x6, .int .i64 x7] 29)).drew := ⟨_, rfl⟩
  rw [← hwm]
  have KM0 : Hid (Blk wm w1.heap.size 29 #[.int .i64 x0, .int .i64 x1, .int .i64 x2, .int .i64 x3, .string ⟨#[]⟩, .slice none 0 0, .int .i64 x8, .int .i64 x9, .int .i64 x4, .int .i64 x5, .int .i64 x6, .int .i64 x7]) := by unfold Hid; rw [hwm]; exact (Blk.new w1 _ _).drew
  have HB1m : Hid (Below w1.heap.size w1 wm) := by unfold Hid; rw [hwm]; exact ((Below.refl _ _).alloc (Nat.le_refl _) _).drew
  have zm : w1.heap.size + 1 ≤ wm.heap.size := by rw [hwm]; show _ ≤ (w1.alloc _).heap.size; simp
  clear hwm k1 j1 l1
  have HBm := Lib.hid (HB1.out.trans (HB1m.out.mono HB1.out.size))
  have K1m := Lib.hid (K1.out.below HB1m.out)
  have HO1m := Lib.hid (ownsRow_below HO1.out HB1m.out)
  have hc2 := impl_DecodeInts_calls (.slice A b.length c) b p (2 * x10) wm (HV.out.below HBm.out) hz hp (by omega)
  rw [show ((2 * x10 : Nat) : Int) = 2 * (x10 : Int) from by push_cast; rfl] at hc2
  have HC2 := Lib.hid hc2
  have c_10m : wm.cell? ⟨g1, 10, none⟩ = some (.int .i64 x10) := HO1m.out.cellAt 10 (by omega)
  clear hc2 c_0 c_1 c_2 c_3 c_4 c_5 c_6 c_7 c_8 c_9 c_10
  try clear hH_
  obtain ⟨k1, j1⟩ := K1m.out.rules
  have l1 := K1m.out.lt
  go_wp2_with fail
  refine HC2.out.mono ?_
  rintro e w2 ⟨hb2, h2⟩
  have z2 : wm.heap.size ≤ w2.heap.size := hb2.size
  have KM2 := Lib.hid (KM0.out.below hb2)
  have K2 := Lib.hid (K1m.out.below hb2)
  have HB2 := Lib.hid (HBm.out.trans (hb2.mono HBm.out.size))
  have HO1_2 := Lib.hid (ownsRow_below HO1m.out hb2)
  clear hb2 k1 j1 l1 c_10m
  obtain ⟨k2, j2⟩ := K2.out.rules
  have l2 := K2.out.lt
  rcases h2 with ⟨h2, v0, rfl⟩ | ⟨args, p2, A2, c2, h2, hal, hpp, hp2, haM, rfl, ho2⟩
  · have HN := Lib.hid (decMsg_none3 H1.out (by rw [HX10.out]; omega) (show rdInts (2 * ([x0, x1, x2, x3, x4, x5, x6, x7, x8, x9, x10] : List Nat).getD 10 0) (b.drop p) = none from h2))
    clear h2
    go_wp2
    refine postM_of_post (post_cell2 (w0 := w2) (fun k => k = w.heap.size) Try.results7 w.heap.size #[.int .i64 0, .int .i64 0, .int .i64 0, .int .i64 0, .string ⟨#[]⟩, .slice none 0 0, .int .i64 0, .int .i64 0, .int .i64 0, .int .i64 0, .int .i64 0, .int .i64 0] (.bool false) _ rfl (Blk.eq ((((((((((((K2.out.set_ 0 _).set_ 1 _).set_ 2 _).set_ 3 _).set_ 4 _).set_ 5 _).set_ 6 _).set_ 7 _).set_ 8 _).set_ 9 _).set_ 10 _).set_ 11 _) (by simp)) Try.underlying29 rfl (by kernel_rfl) rfl rfl (((((((((((((Chg.refl (· = w.heap.size) w2).setCell (p := ⟨w.heap.size, 0, none⟩) (.inl rfl) _).setCell (p := ⟨w.heap.size, 1, none⟩) (.inl rfl) _).setCell (p := ⟨w.heap.size, 2, none⟩) (.inl rfl) _).setCell (p := ⟨w.heap.size, 3, none⟩) (.inl rfl) _).setCell (p := ⟨w.heap.size, 4, none⟩) (.inl rfl) _).setCell (p := ⟨w.heap.size, 5, none⟩) (.inl rfl) _).setCell (p := ⟨w.heap.size, 6, none⟩) (.inl rfl) _).setCell (p := ⟨w.heap.size, 7, none⟩) (.inl rfl) _).setCell (p := ⟨w.heap.size, 8, none⟩) (.inl rfl) _).setCell (p := ⟨w.heap.size, 9, none⟩) (.inl rfl) _).setCell (p := ⟨w.heap.size, 10, none⟩) (.inl rfl) _).setCell (p := ⟨w.heap.size, 11, none⟩) (.inl rfl) _) ?_)
    intro W hW
    have hD := HN.out
    refine ⟨_, [], by unfold decodeMessage2; rw [hD]; rfl, ?_, Fresh.nil _, below_chg HB2.out hW HB2.out.size (fun k h => by omega)⟩
    unfold decodeMessage1
    rw [hD]
    exact mkown_eMessage (x := zMessage) (own_none W)
  have H2 : Hid (rdInts (2 * ([x0, x1, x2, x3, x4, x5, x6, x7, x8, x9, x10] : List Nat).getD 10 0) (b.drop p) = some (args, p2 - p)) := h2
  have HO2 := Lib.hid ho2
  have c_10 : w2.cell? ⟨g1, 10, none⟩ = some (.int .i64 x10) := HO1_2.out.cellAt 10 (by omega)
  clear h2 ho2
  go_wp2_with fail
  refine (slices_Chunk_calls A2 (2 * x10) c2 w2).mono ?_
  rintro e wl ⟨rfl, hwl⟩
  have KMl : Hid (Blk wl w1.heap.size 29 #[.int .i64 x0, .int .i64 x1, .int .i64 x2, .int .i64 x3, .string ⟨#[]⟩, .slice none 0 0, .int .i64 x8, .int .i64 x9, .int .i64 x4, .int .i64 x5, .int .i64 x6, .int .i64 x7]) := by unfold Hid; rw [hwl]; exact (KM2.out.alloc _).alloc _
  have Kl : Hid (Blk wl w.heap.size 29 #[.int .i64 0, .int .i64 0, .int .i64 0, .int .i64 0, .string ⟨#[]⟩, .slice none 0 0, .int .i64 0, .int .i64 0, .int .i64 0, .int .i64 0, .int .i64 0, .int .i64 0]) := by unfold Hid; rw [hwl]; exact (K2.out.alloc _).alloc _
  have HB2l : Hid (Below w2.heap.size w2 wl) := by unfold Hid; rw [hwl]; exact ((Below.refl _ _).alloc (Nat.le_refl _) _).alloc (by simp) _
  have KBs : Hid (Blk wl w2.heap.size 41 #[.slice A2 (2 * x10) c2]) := by unfold Hid; rw [hwl]; exact (Blk.new w2 _ _).alloc _
  have KBn : Hid (Blk wl (w2.heap.size + 1) 3 #[.int .i64 2]) := by unfold Hid; rw [hwl]; exact Blk.made (by simp)
  have zl : w2.heap.size + 2 ≤ wl.heap.size := by rw [hwl]; simp
  have HBl := Lib.hid (HB2.out.trans (HB2l.out.mono HB2.out.size))
  have hcap := owns_cap HO2.out
  obtain ⟨g2, hA, hg2c⟩ : ∃ g2 : Nat, (0 < x10 → A2 = some ⟨g2, 0, none⟩) ∧ (0 < x10 → g2 < w2.heap.size ∧ w1.heap.size < g2 ∧ ∀ (j x : Nat), args[j]? = some x → wl.cell? ⟨g2, j, none⟩ = some (.int .i64 x)) := by
    by_cases h0 : 0 < x10
    · obtain ⟨g2, cp2, hA2, hg2, hg2'⟩ := HO2.out.form (by omega)
      injection hA2 with hA2 _ hc2
      subst hA2
      subst hc2
      refine ⟨g2, fun _ => rfl, fun _ => ⟨hg2', by omega, fun j x hx => ?_⟩⟩
      have hjl := (List.getElem?_eq_some_iff.1 hx).1
      exact (World.cell?_of_block (w := w2) (a := ⟨g2, j, none⟩) (HB2l.out.block g2 hg2')).trans ((HO2.out.cellAt j (by omega)).trans (flatInt_at _ _ _ hx))
    · exact ⟨0, fun h => absurd h h0, fun h => absurd h h0⟩
  have HG2 := Lib.hid hg2c
  have HST := Lib.hid (chunk_stops g2 c2 x10 w2.heap.size (w2.heap.size + 1) A2 wl KBs.out KBn.out hx10l hA hcap)
  clear hwl hg2c hA c_10 k2 j2 l2
  go_wp2_with fail
  refine range_wide (α := Fin x10) (enc := fun j => .slice (some ⟨g2, 2 * j.val, none⟩) 2 2) rfl (enters_of Try.func47 (by kernel_rfl) rfl) HST.out (fun h k => ⟨k.1.trans h.1, k.2.trans h.2⟩) (fun W l o o' hl _ _ _ => ⟨World.putObj_heap_other (by omega), World.putObj_heap_other (by omega)⟩) (Below.refl _ _)
    (fun (pre : List (Fin x10)) W => ∃ (A3 : Option Addr) (c3 : Nat), Blk W w1.heap.size 29 #[.int .i64 x0, .int .i64 x1, .int .i64 x2, .int .i64 x3, .string ⟨#[]⟩, .slice A3 pre.length c3, .int .i64 x8, .int .i64 x9, .int .i64 x4, .int .i64 x5, .int .i64 x6, .int .i64 x7] ∧ W.ownsRow wl.heap.size 25 2 (.slice A3 pre.length c3) pre.length ((pre.map fun j => wireAt args j.val).flatMap vsWire) ∧ Chg (fun k => k = w1.heap.size ∨ wl.heap.size ≤ k) wl W)
    ?_ ⟨none, 0, KMl.out, World.ownsRow_nil _ _ _ _, Chg.refl _ _⟩ rfl rfl rfl (by simp) ?_ ?_
  · rintro s W W' row ⟨A3, c3, hk, ho, hc⟩ hg hr
    exact ⟨A3, c3, hk.kept hg (fun r e => (hr r e).2), ownsRow_kept2 ho hg (fun r e => (hr r e).2), hc.kept hg (fun r e => (hr r e).1) (fun k h1 h2 => by omega)⟩
  · rintro l pre ⟨j, hj⟩ W ⟨A3, c3, hk, ho, hc⟩ hlen
    have KM := Lib.hid hk
    have HO := Lib.hid ho
    have HCH := Lib.hid hc
    obtain ⟨km, jm⟩ := KM.out.rules
    have lm := KM.out.lt
    have hlo := HO.out.lt
    have zr := HCH.out.size
    obtain ⟨hgl, hgw, hgc⟩ := HG2.out (by omega)
    have hlg : g2 < W.heap.size := by omega
    obtain ⟨a, ha⟩ : ∃ a, args[2 * j]? = some a := ⟨_, List.getElem?_eq_getElem (by omega)⟩
    obtain ⟨a', ha'⟩ : ∃ a', args[2 * j + 1]? = some a' := ⟨_, List.getElem?_eq_getElem (by omega)⟩
    have d0 : W.cell? ⟨g2, 2 * j, none⟩ = some (.int .i64 a) := (World.cell?_of_block (w := wl) (a := ⟨g2, 2 * j, none⟩) (HCH.out.block g2 (by omega) (by omega))).trans (hgc _ _ ha)
    have d1 : W.cell? ⟨g2, 2 * j + 1, none⟩ = some (.int .i64 a') := (World.cell?_of_block (w := wl) (a := ⟨g2, 2 * j + 1, none⟩) (HCH.out.block g2 (by omega) (by omega))).trans (hgc _ _ ha')
    have HWI : Hid (wireAt args j = ⟨a, a'⟩) := by unfold Hid wireAt; rw [List.getD_eq_getElem?_getD, List.getD_eq_getElem?_getD, ha, ha']; rfl
    clear hk ho hc hgc ha ha'
    simp only [List.setIfInBounds_toArray, List.set_cons_zero, List.set_cons_succ]
    refine wpIn_block ?_
    refine region_inRound (by kernel_rfl) (nodefer_spec (by kernel_rfl)) (fun ⟨_, _, h⟩ => h) (wpAny_of_U (S := fun wq => wq.cell? ⟨w1.heap.size, 5, none⟩ = some (.slice A3 pre.length c3) ∧ wq.cell? ⟨g2, 2 * j, none⟩ = some (.int .i64 a) ∧ wq.cell? ⟨g2, 2 * j + 1, none⟩ = some (.int .i64 a')) (q := [0, 1, 2, 3, 4, 5, 6, 7, 8, 9, 10]) _ _ _ _ ?_)
    have hH_ := (show W.drew.cell? ⟨w1.heap.size, 5, none⟩ = _ ∧ W.drew.cell? ⟨g2, 2 * j, none⟩ = _ ∧ W.drew.cell? ⟨g2, 2 * j + 1, none⟩ = _ from ⟨km 5, d0, d1⟩)
    refine wpAnyU_take (i := 0) (v := ?_) rfl (by kernel_rfl) (by kernel_rfl) (by kernel_rfl) (by kernel_rfl) (fun _ _ _ h => h) (Or.inl ⟨by rfl, ?_⟩) hH_ ?_
    rotate_left
    · (intro w hSw; (try dsimp only at hSw); go_simp <;> with_reducible rfl)
    simp only [Act.put, List.setIfInBounds_toArray, List.set_cons_zero, List.set_cons_succ]
    refine wpAnyU_take (i := 1) (v := ?_) rfl (by kernel_rfl) (by kernel_rfl) (by kernel_rfl) (by kernel_rfl) (fun _ _ _ h => h) (Or.inl ⟨by rfl, ?_⟩) hH_ ?_
    rotate_left
    · (intro w hSw; (try dsimp only at hSw); go_simp <;> with_reducible rfl)
    simp only [Act.put, List.setIfInBounds_toArray, List.set_cons_zero, List.set_cons_succ]
    refine wpAnyU_take (i := 2) (v := ?_) rfl (by kernel_rfl) (by kernel_rfl) (by kernel_rfl) (by kernel_rfl) (fun _ _ _ h => h) (Or.inl ⟨by rfl, ?_⟩) hH_ ?_
    rotate_left
    · (intro w hSw; (try dsimp only at hSw); go_simp <;> with_reducible rfl)
    simp only [Act.put, List.setIfInBounds_toArray, List.set_cons_zero, List.set_cons_succ]
    refine wpAnyU_take (i := 3) (v := ?_) rfl (by kernel_rfl) (by kernel_rfl) (by kernel_rfl) (by kernel_rfl) (fun _ _ _ h => h) (Or.inl ⟨by rfl, ?_⟩) hH_ ?_
    rotate_left
    · (intro w hSw; (try dsimp only at hSw); go_simp <;> with_reducible rfl)
    simp only [Act.put, List.setIfInBounds_toArray, List.set_cons_zero, List.set_cons_succ]
    refine wpAnyU_take (i := 4) (v := ?_) rfl (by kernel_rfl) (by kernel_rfl) (by kernel_rfl) (by kernel_rfl) (fun _ _ _ h => h) (Or.inl ⟨by rfl, ?_⟩) hH_ ?_
    rotate_left
    · (intro w hSw; (try dsimp only at hSw); go_simp <;> with_reducible rfl)
    simp only [Act.put, List.setIfInBounds_toArray, List.set_cons_zero, List.set_cons_succ]
    refine wpAnyU_take (i := 5) (v := ?_) rfl (by kernel_rfl) (by kernel_rfl) (by kernel_rfl) (by kernel_rfl) (fun _ _ _ h => h) (Or.inl ⟨by rfl, ?_⟩) hH_ ?_
    rotate_left
    · (intro w hSw; (try dsimp only at hSw); go_simp <;> with_reducible rfl)
    simp only [Act.put, List.setIfInBounds_toArray, List.set_cons_zero, List.set_cons_succ]
    refine wpAnyU_take (i := 6) (v := ?_) rfl (by kernel_rfl) (by kernel_rfl) (by kernel_rfl) (by kernel_rfl) (fun _ _ _ h => h) (Or.inl ⟨by rfl, ?_⟩) hH_ ?_
    rotate_left
    · (intro w hSw; (try dsimp only at hSw); go_simp <;> with_reducible rfl)
    simp only [Act.put, List.setIfInBounds_toArray, List.set_cons_zero, List.set_cons_succ]
    refine wpAnyU_take (i := 7) (v := ?_) rfl (by kernel_rfl) (by kernel_rfl) (by kernel_rfl) (by kernel_rfl) (fun _ _ _ h => h) (Or.inl ⟨by rfl, ?_⟩) hH_ ?_
    rotate_left
    · (intro w hSw; (try dsimp only at hSw); go_simp <;> with_reducible rfl)
    simp only [Act.put, List.setIfInBounds_toArray, List.set_cons_zero, List.set_cons_succ]
    refine wpAnyU_take (i := 8) (v := ?_) rfl (by kernel_rfl) (by kernel_rfl) (by kernel_rfl) (by kernel_rfl) (fun _ _ _ h => h) (Or.inl ⟨by rfl, ?_⟩) hH_ ?_
    rotate_left
    · (intro w hSw; (try dsimp only at hSw); go_simp <;> with_reducible rfl)
    simp only [Act.put, List.setIfInBounds_toArray, List.set_cons_zero, List.set_cons_succ]
    refine wpAnyU_one (i := 9) (by kernel_rfl) rfl (fun K hK => ?_)
    go_simp
    refine hK.out _ _ ?_ (fun hH1_ => ?_)
    · exact ⟨cell_alloc_keep (km 5), cell_alloc_keep d0, cell_alloc_keep d1⟩
    clear hK K hH_
    have hH_ := hH1_
    clear hH1_
    refine wpAnyU_one' (i := 10) (by kernel_rfl) rfl (by kernel_rfl) (fun K hK => ?_)
    refine step_append_lies _ (by rfl) _ _ _ (by rfl) wl.heap.size 25 _ _ 2 16 Try.underlying23 rfl rfl rfl rfl rfl (by omega) _ pre.length _ (by rfl) ((HO.out.alloc _).drew) ⟨W.heap.size, 0, none⟩ 1 1 [.int .i64 a, .int .i64 a'] (by rfl) (by rfl) (World.news_of_block (cs := #[.int .i64 a, .int .i64 a']) (t := 25) (fr := (0, 0)) (heap_alloc_new W _)) (by simp [Value.oneCell']) (by omega) (by have h := (by decide : maxLen = 9223372036854775807); omega) (by omega) (by simp; omega) (W.heap.size + 1) (by simp) ?_
    intro gg cap w3 hown hgrow hat hlt2
    have KM3 := Lib.hid (((KM.out.alloc _).drew).chg (grown_chg hgrow) (fun h => by have := (hlo _ h).1; omega))
    obtain ⟨km3, jm3⟩ := KM3.out.rules
    have lm3 := KM3.out.lt
    refine hK.out _ _ ?_
    clear hK K
    refine wpAnyU_one' (i := 11) (by kernel_rfl) rfl (by kernel_rfl) (fun K hK => ?_)
    go_simp
    refine hK.out _ _ ?_
    clear hK K
    refine wpAnyU_one' (i := 12) (by kernel_rfl) rfl (by kernel_rfl) (fun K hK => ?_)
    go_simp
    refine hK.out _ _ ?_
    clear hK K
    refine wpAnyU_done (by kernel_rfl) ?_ _
    have HO3 : Hid (w3.ownsRow wl.heap.size 25 2 (.slice (some ⟨gg, 0, none⟩) (pre.length + 1) cap) (pre ++ [(⟨j, hj⟩ : Fin x10)]).length (((pre ++ [(⟨j, hj⟩ : Fin x10)]).map fun j => wireAt args j.val).flatMap vsWire)) := by
      unfold Hid
      rw [List.map_append, List.flatMap_append, List.length_append]
      simp only [List.map_cons, List.map_nil, HWI.out]
      exact hown
    have HS3 := Lib.hid ((Chg.refl (· = w1.heap.size) w3).setCell (p := ⟨w1.heap.size, 5, none⟩) (.inl rfl) (.slice (some ⟨gg, 0, none⟩) (pre.length + 1) cap))
    have hlo3 := HO3.out.lt
    have HO4 := ownsRow_keep HO3.out HS3.out (fun k hk => by have := (hlo3 k hk).1; omega)
    have KM4 := (Blk.eq (KM3.out.set_ 5 (.slice (some ⟨gg, 0, none⟩) (pre.length + 1) cap)) (by simp) : Blk _ w1.heap.size _ #[.int .i64 x0, .int .i64 x1, .int .i64 x2, .int .i64 x3, .string ⟨#[]⟩, .slice (some ⟨gg, 0, none⟩) (pre.length + 1) cap, .int .i64 x8, .int .i64 x9, .int .i64 x4, .int .i64 x5, .int .i64 x6, .int .i64 x7])
    have C4 : Chg (fun k => k = w1.heap.size ∨ wl.heap.size ≤ k) W (w3.setCell ⟨w1.heap.size, 5, none⟩ (.slice (some ⟨gg, 0, none⟩) (pre.length + 1) cap)) := ((((Chg.refl _ W).alloc _).drew).trans ((grown_chg hgrow).mono (fun k _ h => .inr ((hlo k h).1)))).trans (HS3.out.mono (fun k _ h => .inl h))
    have hKO : KeepsOthers W (w3.setCell ⟨w1.heap.size, 5, none⟩ (.slice (some ⟨gg, 0, none⟩) (pre.length + 1) cap)) := ((show KeepsOthers W (W.alloc (.cells #[.int .i64 a, .int .i64 a'] 25)).drew from ⟨(KeepsOthers.alloc W _).size, (KeepsOthers.alloc W _).same⟩).trans (kept_of_row ((HO.out.alloc _).drew) hgrow)).trans (KeepsOthers.setCell _ _ _)
    have hpl : (pre ++ [(⟨j, hj⟩ : Fin x10)]).length = pre.length + 1 := by simp
    refine ⟨hKO, ⟨C4.block _ (by omega) (by omega), C4.block _ (by omega) (by omega)⟩, some ⟨gg, 0, none⟩, cap, ?_, ?_, HCH.out.trans C4⟩
    · rw [hpl]; exact KM4
    · rw [hpl] at HO4 ⊢; exact HO4
  intro D xs wr hD hS ⟨A3, c3, hk, ho, hc⟩ hDf
  have hxl : xs.length = x10 := by have h := congrArg List.length hS; simpa using h
  have hxw : (xs.map fun j => wireAt args j.val) = wiresOf args := by
    have h : (xs.map fun j => wireAt args j.val) = (xs.map Fin.val).map (wireAt args) := by rw [List.map_map]; rfl
    rw [h, hS]; exact wires_range hal hx10l
  rw [hxw] at ho
  rw [hxl] at hk ho
  have KM := Lib.hid hk
  have HO := Lib.hid ho
  have HCH := Lib.hid hc
  have HDF : Hid (Dfd wr D) := hDf
  have zr := HCH.out.size
  have hDl := HDF.out.lt
  clear hk ho hc hDf hS hxl hxw HST
  have HL := Lib.hid (wiresOf_len x10 args hal)
  have HOW : Hid (wr.ownsRow wl.heap.size 25 2 (.slice A3 x10 c3) x10 ((wiresOf args).flatMap vsWire)) := by
    have h := HO.out
    exact h
  have HBr := Lib.hid (below_chg HBl.out HCH.out HBl.out.size (fun k h => by omega))
  have Kr := Lib.hid (Kl.out.chg HCH.out (by omega))
  have HC3 := Lib.hid (impl_ReadBytes_calls (.slice A b.length c) b p2 6 wr (HV.out.below HBr.out) hz hp2 (by omega))
  clear HO
  go_wp2_with fail
  refine HC3.out.mono ?_
  rintro e w4 ⟨hb4, h4⟩
  have z4 := hb4.size
  have K4 := Lib.hid (Kr.out.below hb4)
  have KM4 := Lib.hid (KM.out.below hb4)
  have HB4 := Lib.hid (HBr.out.trans (hb4.mono HBr.out.size))
  have HO4 := Lib.hid (ownsRow_below HOW.out hb4)
  have HD4 := Lib.hid (HDF.out.below hb4)
  have hD4l := HD4.out.lt
  clear hb4
  obtain ⟨k4, j4⟩ := K4.out.rules
  have l4 := K4.out.lt
  obtain ⟨km4, jm4⟩ := KM4.out.rules
  have lm4 := KM4.out.lt
  have hne1 : ¬ w1.heap.size = w.heap.size := by omega
  have hne2 : ¬ w.heap.size = w1.heap.size := by omega
  rcases h4 with ⟨h4, A0, c0, rfl, ho4⟩ | ⟨name, m, A4, c4, h4, hn6, hpm, rfl, ho4⟩
  · have HN := Lib.hid (decMsg_none4 H1.out (by rw [HX10.out]; omega) H2.out (show rdBytes (b.drop (p + (p2 - p))) 6 = none from by rw [show p + (p2 - p) = p2 from by omega]; exact h4))
    have hcv : Sem.run Try.prog (convert 22 9 (.slice A0 0 c0)) w4 = .ok (.string ⟨#[]⟩) w4 := run_conv_row w4 22 9 5 A0 c0 [] Try.underlying22 Try.underlying5 Try.underlying9 (ownsRow_rdw (xs := ([] : List UInt8)) vals_eByte ho4 (by simp))
    clear h4 ho4
    go_wp2
    refine post_cell2M (w0 := (w4.setCell ⟨w1.heap.size, 4, none⟩ (.string ⟨#[]⟩))) D (fun k => k = w.heap.size) Try.results7 w.heap.size #[.int .i64 0, .int .i64 0, .int .i64 0, .int .i64 0, .string ⟨#[]⟩, .slice none 0 0, .int .i64 0, .int .i64 0, .int .i64 0, .int .i64 0, .int .i64 0, .int .i64 0] (.bool false) _ rfl (Blk.eq (((((((((((((K4.out.far (p := ⟨w1.heap.size, 4, none⟩) (by show w.heap.size ≠ w1.heap.size; omega) _).set_ 0 _).set_ 1 _).set_ 2 _).set_ 3 _).set_ 4 _).set_ 5 _).set_ 6 _).set_ 7 _).set_ 8 _).set_ 9 _).set_ 10 _).set_ 11 _) (by simp)) Try.underlying29 rfl (by kernel_rfl) rfl rfl (((((((((((((Chg.refl (· = w.heap.size) (w4.setCell ⟨w1.heap.size, 4, none⟩ (.string ⟨#[]⟩))).setCell (p := ⟨w.heap.size, 0, none⟩) (.inl rfl) _).setCell (p := ⟨w.heap.size, 1, none⟩) (.inl rfl) _).setCell (p := ⟨w.heap.size, 2, none⟩) (.inl rfl) _).setCell (p := ⟨w.heap.size, 3, none⟩) (.inl rfl) _).setCell (p := ⟨w.heap.size, 4, none⟩) (.inl rfl) _).setCell (p := ⟨w.heap.size, 5, none⟩) (.inl rfl) _).setCell (p := ⟨w.heap.size, 6, none⟩) (.inl rfl) _).setCell (p := ⟨w.heap.size, 7, none⟩) (.inl rfl) _).setCell (p := ⟨w.heap.size, 8, none⟩) (.inl rfl) _).setCell (p := ⟨w.heap.size, 9, none⟩) (.inl rfl) _).setCell (p := ⟨w.heap.size, 10, none⟩) (.inl rfl) _).setCell (p := ⟨w.heap.size, 11, none⟩) (.inl rfl) _) (HD4.out.chg ((Chg.refl (· = w1.heap.size) w4).setCell (p := ⟨w1.heap.size, 4, none⟩) (.inl rfl) _) (by omega)) (by omega) (by omega) ?_
    intro W hW
    have hD := HN.out
    refine ⟨_, [], by unfold decodeMessage2; rw [hD]; rfl, ?_, Fresh.nil _, below_chg (HB4.out.setCell (p := ⟨w1.heap.size, 4, none⟩) (by show w.heap.size ≤ w1.heap.size; omega) _) hW (HB4.out.setCell (p := ⟨w1.heap.size, 4, none⟩) (by show w.heap.size ≤ w1.heap.size; omega) _).size (fun k h => by omega)⟩
    unfold decodeMessage1
    rw [hD]
    exact mkown_eMessage (x := zMessage) (own_none W)
  have HP := Lib.hid (decMsg_parts H1.out (by rw [HX10.out]; omega) H2.out (show rdBytes (b.drop (p + (p2 - p))) 6 = some (name, m) from by rw [show p + (p2 - p) = p2 from by omega]; exact h4))
  have HDS := Lib.hid (decMsg_some' H1.out (by rw [HX10.out]; omega) H2.out (show rdBytes (b.drop (p + (p2 - p))) 6 = some (name, m) from by rw [show p + (p2 - p) = p2 from by omega]; exact h4))
  obtain ⟨p3, hp3⟩ : ∃ p3, p3 = p2 + m := ⟨_, rfl⟩
  have HP3 := Lib.hid hp3
  rw [← hp3]
  have hcv : Sem.run Try.prog (convert 22 9 (.slice A4 name.length c4)) w4 = .ok (.string ⟨name.toArray⟩) w4 := run_conv_row w4 22 9 5 A4 c4 name Try.underlying22 Try.underlying5 Try.underlying9 (ownsRow_rdw vals_eByte ho4 (by omega))
  clear h4 ho4 hp3
  have KM5 : Hid (Blk (w4.setCell ⟨w1.heap.size, 4, none⟩ (.string ⟨name.toArray⟩)) w1.heap.size 29 #[.int .i64 x0, .int .i64 x1, .int .i64 x2, .int .i64 x3, .string ⟨name.toArray⟩, .slice A3 x10 c3, .int .i64 x8, .int .i64 x9, .int .i64 x4, .int .i64 x5, .int .i64 x6, .int .i64 x7]) := Lib.hid (Blk.eq (KM4.out.set_ 4 (.string ⟨name.toArray⟩)) (by simp))
  have HC5 := Lib.hid ((Chg.refl (· = w1.heap.size) w4).setCell (p := ⟨w1.heap.size, 4, none⟩) (.inl rfl) (.string ⟨name.toArray⟩))
  have hlo4 := HO4.out.lt
  have HO5 := Lib.hid (ownsRow_keep HO4.out HC5.out (fun k hk => by have := (hlo4 k hk).1; omega))
  have HR5 : Hid (RdLW (w4.setCell ⟨w1.heap.size, 4, none⟩ (.string ⟨name.toArray⟩)) (eMessage (⟨x0, x1, x2, x3, ⟨name.toArray⟩, wiresOf args, ⟨x8, x9⟩, x4, ⟨x5, x6, x7⟩⟩ : GMessage)) [.int .i64 x0, .int .i64 x1, .int .i64 x2, .int .i64 x3, .string ⟨name.toArray⟩, .slice A3 x10 c3, .int .i64 x8, .int .i64 x9, .int .i64 x4, .int .i64 x5, .int .i64 x6, .int .i64 x7]) := by
    have h := HO5.out
    have hl := HL.out
    unfold Hid
    rw [← hl] at h ⊢
    exact mkrd_eMessage (x := (⟨x0, x1, x2, x3, ⟨name.toArray⟩, wiresOf args, ⟨x8, x9⟩, x4, ⟨x5, x6, x7⟩⟩ : GMessage)) (ownsRow_rdw (xs := wiresOf args) vals_eWire h (by omega))
  have HZ5 := Lib.hid (siz_msg x0 x1 x2 x3 x8 x9 x4 x5 x6 x7 name (wiresOf args) hn6 (by rw [HL.out]; omega))
  have K5 : Hid (Blk (w4.setCell ⟨w1.heap.size, 4, none⟩ (.string ⟨name.toArray⟩)) w.heap.size 29 #[.int .i64 0, .int .i64 0, .int .i64 0, .int .i64 0, .string ⟨#[]⟩, .slice none 0 0, .int .i64 0, .int .i64 0, .int .i64 0, .int .i64 0, .int .i64 0, .int .i64 0]) := Lib.hid (K4.out.far (p := ⟨w1.heap.size, 4, none⟩) (by show w.heap.size ≠ w1.heap.size; omega) _)
  have HB5 : Hid (Below w.heap.size w (w4.setCell ⟨w1.heap.size, 4, none⟩ (.string ⟨name.toArray⟩))) := Lib.hid (HB4.out.setCell (p := ⟨w1.heap.size, 4, none⟩) (by show w.heap.size ≤ w1.heap.size; omega) _)
  have HD5 := Lib.hid (HD4.out.chg HC5.out (by omega))
  clear hlo4
  rcases Bool.eq_false_or_eq_true (isMessageB (⟨x0, x1, x2, x3, ⟨name.toArray⟩, wiresOf args, ⟨x8, x9⟩, x4, ⟨x5, x6, x7⟩⟩ : GMessage)) with hI | hI
  rotate_left
  · have HI := Lib.hid hI
    have HN : Hid (decMsg b = none) := by unfold Hid; rw [HDS.out, if_neg]; intro h; have h2 : isMessageB (⟨x0, x1, x2, x3, ⟨name.toArray⟩, wiresOf args, ⟨x8, x9⟩, x4, ⟨x5, x6, x7⟩⟩ : GMessage) = true := h.1; rw [hI] at h2; exact absurd h2 (by simp)
    clear hI
    go_wp2_with fail
    refine (impl_isMessage_calls _ (⟨x0, x1, x2, x3, ⟨name.toArray⟩, wiresOf args, ⟨x8, x9⟩, x4, ⟨x5, x6, x7⟩⟩ : GMessage) _ HR5.out HZ5.out).mono ?_
    rintro e w6 ⟨rfl, hb6⟩
    rw [HI.out]
    have K6 := Lib.hid (K5.out.below hb6)
    have HB6 := Lib.hid (HB5.out.trans (hb6.mono HB5.out.size))
    have HD6 := Lib.hid (HD5.out.below hb6)
    have z6 := hb6.size
    clear hb6 k4 j4 l4
    obtain ⟨k4, j4⟩ := K6.out.rules
    have l4 := K6.out.lt
    go_wp2
    refine post_cell2M (w0 := w6) D (fun k => k = w.heap.size) Try.results7 w.heap.size #[.int .i64 0, .int .i64 0, .int .i64 0, .int .i64 0, .string ⟨#[]⟩, .slice none 0 0, .int .i64 0, .int .i64 0, .int .i64 0, .int .i64 0, .int .i64 0, .int .i64 0] (.bool false) _ rfl (Blk.eq ((((((((((((K6.out.set_ 0 _).set_ 1 _).set_ 2 _).set_ 3 _).set_ 4 _).set_ 5 _).set_ 6 _).set_ 7 _).set_ 8 _).set_ 9 _).set_ 10 _).set_ 11 _) (by simp)) Try.underlying29 rfl (by kernel_rfl) rfl rfl (((((((((((((Chg.refl (· = w.heap.size) w6).setCell (p := ⟨w.heap.size, 0, none⟩) (.inl rfl) _).setCell (p := ⟨w.heap.size, 1, none⟩) (.inl rfl) _).setCell (p := ⟨w.heap.size, 2, none⟩) (.inl rfl) _).setCell (p := ⟨w.heap.size, 3, none⟩) (.inl rfl) _).setCell (p := ⟨w.heap.size, 4, none⟩) (.inl rfl) _).setCell (p := ⟨w.heap.size, 5, none⟩) (.inl rfl) _).setCell (p := ⟨w.heap.size, 6, none⟩) (.inl rfl) _).setCell (p := ⟨w.heap.size, 7, none⟩) (.inl rfl) _).setCell (p := ⟨w.heap.size, 8, none⟩) (.inl rfl) _).setCell (p := ⟨w.heap.size, 9, none⟩) (.inl rfl) _).setCell (p := ⟨w.heap.size, 10, none⟩) (.inl rfl) _).setCell (p := ⟨w.heap.size, 11, none⟩) (.inl rfl) _) HD6.out (by omega) (by omega) ?_
    intro W hW
    have hD := HN.out
    refine ⟨_, [], by unfold decodeMessage2; rw [hD]; rfl, ?_, Fresh.nil _, below_chg HB6.out hW HB6.out.size (fun k h => by omega)⟩
    unfold decodeMessage1
    rw [hD]
    exact mkown_eMessage (x := zMessage) (own_none W)
  have HI := Lib.hid hI
  have HEN : Hid (encodeMessage (⟨x0, x1, x2, x3, ⟨name.toArray⟩, wiresOf args, ⟨x8, x9⟩, x4, ⟨x5, x6, x7⟩⟩ : GMessage) = encM (⟨x0, x1, x2, x3, ⟨name.toArray⟩, wiresOf args, ⟨x8, x9⟩, x4, ⟨x5, x6, x7⟩⟩ : GMessage)) := by unfold Hid encodeMessage; rw [hI]; rfl
  have HCE : Hid (∀ us W, RdLW W (eMessage (⟨x0, x1, x2, x3, ⟨name.toArray⟩, wiresOf args, ⟨x8, x9⟩, x4, ⟨x5, x6, x7⟩⟩ : GMessage)) us → Calls Try.prog 28 #[.agg us.toArray] W fun e w' => ∃ A' c', e = .returned (.slice A' (encM (⟨x0, x1, x2, x3, ⟨name.toArray⟩, wiresOf args, ⟨x8, x9⟩, x4, ⟨x5, x6, x7⟩⟩ : GMessage)).length c') ∧ w'.ownsRow W.heap.size 5 1 (.slice A' (encM (⟨x0, x1, x2, x3, ⟨name.toArray⟩, wiresOf args, ⟨x8, x9⟩, x4, ⟨x5, x6, x7⟩⟩ : GMessage)).length c') (encM (⟨x0, x1, x2, x3, ⟨name.toArray⟩, wiresOf args, ⟨x8, x9⟩, x4, ⟨x5, x6, x7⟩⟩ : GMessage)).length ((encM (⟨x0, x1, x2, x3, ⟨name.toArray⟩, wiresOf args, ⟨x8, x9⟩, x4, ⟨x5, x6, x7⟩⟩ : GMessage)).flatMap vsByte) ∧ Below W.heap.size W w') := fun us W hv => by
    have h := impl_encodeMessage_row us _ W hv hI
    rw [HEN.out] at h
    exact h
  have hel := encodeMessage_len (⟨x0, x1, x2, x3, ⟨name.toArray⟩, wiresOf args, ⟨x8, x9⟩, x4, ⟨x5, x6, x7⟩⟩ : GMessage)
  rw [HEN.out] at hel
  obtain ⟨em, hem⟩ : ∃ em, em = encM (⟨x0, x1, x2, x3, ⟨name.toArray⟩, wiresOf args, ⟨x8, x9⟩, x4, ⟨x5, x6, x7⟩⟩ : GMessage) := ⟨_, rfl⟩
  rw [← hem] at HCE hel
  have HEM := Lib.hid hem
  clear hem
  have HDC : Hid (decMsg b = if em = b then some (⟨x0, x1, x2, x3, ⟨name.toArray⟩, wiresOf args, ⟨x8, x9⟩, x4, ⟨x5, x6, x7⟩⟩ : GMessage) else none) := by
    unfold Hid
    have hds : decMsg b = if isMessageB (⟨x0, x1, x2, x3, ⟨name.toArray⟩, wiresOf args, ⟨x8, x9⟩, x4, ⟨x5, x6, x7⟩⟩ : GMessage) = true ∧ encM (⟨x0, x1, x2, x3, ⟨name.toArray⟩, wiresOf args, ⟨x8, x9⟩, x4, ⟨x5, x6, x7⟩⟩ : GMessage) = b then some (⟨x0, x1, x2, x3, ⟨name.toArray⟩, wiresOf args, ⟨x8, x9⟩, x4, ⟨x5, x6, x7⟩⟩ : GMessage) else none := HDS.out
    rw [hds]
    by_cases h : em = b
    · rw [if_pos h, if_pos ⟨hI, by rw [← h]; exact HEM.out.symm⟩]
    · rw [if_neg h, if_neg (fun h2 => h (HEM.out.trans h2.2))]
  clear hI
  go_wp2_with fail
  refine (impl_isMessage_calls _ (⟨x0, x1, x2, x3, ⟨name.toArray⟩, wiresOf args, ⟨x8, x9⟩, x4, ⟨x5, x6, x7⟩⟩ : GMessage) _ HR5.out HZ5.out).mono ?_
  rintro e w6 ⟨rfl, hb6⟩
  rw [HI.out]
  have K6 := Lib.hid (K5.out.below hb6)
  have KM6 := Lib.hid (KM5.out.below hb6)
  have HO6 := Lib.hid (ownsRow_below HO5.out hb6)
  have HR6 := Lib.hid (HR5.out.below hb6)
  have HB6 := Lib.hid (HB5.out.trans (hb6.mono HB5.out.size))
  have HD6 := Lib.hid (HD5.out.below hb6)
  have z6 := hb6.size
  clear hb6 k4 j4 l4 km4 jm4 lm4
  obtain ⟨km4, jm4⟩ := KM6.out.rules
  have lm4 := KM6.out.lt
  have z7 : w4.heap.size ≤ w6.heap.size := by simpa [World.setCell] using z6
  go_wp2_with fail
  refine (HCE.out _ _ HR6.out).mono ?_
  rintro e w8 ⟨A8, c8, rfl, ho8, hb8⟩
  have K8 := Lib.hid (K6.out.below hb8)
  have KM8 := Lib.hid (KM6.out.below hb8)
  have HO8 := Lib.hid (ownsRow_below HO6.out hb8)
  have HB8 := Lib.hid (HB6.out.trans (hb8.mono HB6.out.size))
  have HD8 := Lib.hid (HD6.out.below hb8)
  have HRE := Lib.hid (ownsRow_rdw vals_eByte ho8 (by omega))
  have HRB := Lib.hid (HV.out.below HB8.out)
  have z8 := hb8.size
  clear hb8 ho8 km4 jm4 lm4
  obtain ⟨k4, j4⟩ := K8.out.rules
  have l4 := K8.out.lt
  obtain ⟨km4, jm4⟩ := KM8.out.rules
  have lm4 := KM8.out.lt
  have hDl8 := HD8.out.lt
  go_wp2_with fail
  refine (bytes_Equal_calls _ _ em b _ HRE.out HRB.out).mono ?_
  rintro e w9 ⟨rfl, hw9⟩
  have hw9 := hw9.symm
  subst hw9
  by_cases heq : em = b
  · have HS : Hid (decMsg b = some (⟨x0, x1, x2, x3, ⟨name.toArray⟩, wiresOf args, ⟨x8, x9⟩, x4, ⟨x5, x6, x7⟩⟩ : GMessage)) := by unfold Hid; rw [HDC.out, if_pos heq]
    rw [decide_eq_true heq]
    clear heq
    go_wp2
    refine post_cell2M (w0 := w8) D (fun k => k = w.heap.size) Try.results7 w.heap.size #[.int .i64 x0, .int .i64 x1, .int .i64 x2, .int .i64 x3, .string ⟨name.toArray⟩, .slice A3 x10 c3, .int .i64 x8, .int .i64 x9, .int .i64 x4, .int .i64 x5, .int .i64 x6, .int .i64 x7] (.bool true) _ rfl (Blk.eq ((((((((((((K8.out.set_ 0 _).set_ 1 _).set_ 2 _).set_ 3 _).set_ 4 _).set_ 5 _).set_ 6 _).set_ 7 _).set_ 8 _).set_ 9 _).set_ 10 _).set_ 11 _) (by simp)) Try.underlying29 rfl (by kernel_rfl) rfl rfl (((((((((((((Chg.refl (· = w.heap.size) w8).setCell (p := ⟨w.heap.size, 0, none⟩) (.inl rfl) _).setCell (p := ⟨w.heap.size, 1, none⟩) (.inl rfl) _).setCell (p := ⟨w.heap.size, 2, none⟩) (.inl rfl) _).setCell (p := ⟨w.heap.size, 3, none⟩) (.inl rfl) _).setCell (p := ⟨w.heap.size, 4, none⟩) (.inl rfl) _).setCell (p := ⟨w.heap.size, 5, none⟩) (.inl rfl) _).setCell (p := ⟨w.heap.size, 6, none⟩) (.inl rfl) _).setCell (p := ⟨w.heap.size, 7, none⟩) (.inl rfl) _).setCell (p := ⟨w.heap.size, 8, none⟩) (.inl rfl) _).setCell (p := ⟨w.heap.size, 9, none⟩) (.inl rfl) _).setCell (p := ⟨w.heap.size, 10, none⟩) (.inl rfl) _).setCell (p := ⟨w.heap.size, 11, none⟩) (.inl rfl) _) HD8.out (by omega) (by omega) ?_
    intro W hW
    have hD := HS.out
    have hlo8 := HO8.out.lt
    have hkD : ∀ k, (Value.slice A3 x10 c3).ownBlock = some k → k ≠ D := fun k hk e => by
      obtain ⟨c, fz, hc⟩ := Lib.ownsRow_kind HO8.out k hk
      rw [e, show w8.heap[D]? = _ from HD8.out] at hc
      cases hc
    have P6 := ownsRow_keep HO8.out hW (fun k hk => by have h1 := (hlo8 k hk).1; have h2 := hkD k hk; omega)
    have hl6 := HL.out
    rw [← hl6] at P6
    obtain ⟨f2, o2, n2, g2⟩ := ownRow_own' (xs := wiresOf args) vals_eWire P6 (by omega)
    refine ⟨_, f2, by unfold decodeMessage2; rw [hD]; rfl, ?_, ⟨n2, fun k hk => by have := (g2 k hk).1; omega⟩, below_chg HB8.out hW HB8.out.size (fun k h => by omega)⟩
    unfold decodeMessage1
    rw [hD, ← hl6]
    exact mkown_eMessage (x := (⟨x0, x1, x2, x3, ⟨name.toArray⟩, wiresOf args, ⟨x8, x9⟩, x4, ⟨x5, x6, x7⟩⟩ : GMessage)) o2
  · have HN : Hid (decMsg b = none) := by unfold Hid; rw [HDC.out, if_neg heq]
    rw [decide_eq_false heq]
    clear heq
    go_wp2
    refine post_cell2M (w0 := w8) D (fun k => k = w.heap.size) Try.results7 w.heap.size #[.int .i64 0, .int .i64 0, .int .i64 0, .int .i64 0, .string ⟨#[]⟩, .slice none 0 0, .int .i64 0, .int .i64 0, .int .i64 0, .int .i64 0, .int .i64 0, .int .i64 0] (.bool false) _ rfl (Blk.eq ((((((((((((K8.out.set_ 0 _).set_ 1 _).set_ 2 _).set_ 3 _).set_ 4 _).set_ 5 _).set_ 6 _).set_ 7 _).set_ 8 _).set_ 9 _).set_ 10 _).set_ 11 _) (by simp)) Try.underlying29 rfl (by kernel_rfl) rfl rfl (((((((((((((Chg.refl (· = w.heap.size) w8).setCell (p := ⟨w.heap.size, 0, none⟩) (.inl rfl) _).setCell (p := ⟨w.heap.size, 1, none⟩) (.inl rfl) _).setCell (p := ⟨w.heap.size, 2, none⟩) (.inl rfl) _).setCell (p := ⟨w.heap.size, 3, none⟩) (.inl rfl) _).setCell (p := ⟨w.heap.size, 4, none⟩) (.inl rfl) _).setCell (p := ⟨w.heap.size, 5, none⟩) (.inl rfl) _).setCell (p := ⟨w.heap.size, 6, none⟩) (.inl rfl) _).setCell (p := ⟨w.heap.size, 7, none⟩) (.inl rfl) _).setCell (p := ⟨w.heap.size, 8, none⟩) (.inl rfl) _).setCell (p := ⟨w.heap.size, 9, none⟩) (.inl rfl) _).setCell (p := ⟨w.heap.size, 10, none⟩) (.inl rfl) _).setCell (p := ⟨w.heap.size, 11, none⟩) (.inl rfl) _) HD8.out (by omega) (by omega) ?_
    intro W hW
    have hD := HN.out
    refine ⟨_, [], by unfold decodeMessage2; rw [hD]; rfl, ?_, Fresh.nil _, below_chg HB8.out hW HB8.out.size (fun k h => by omega)⟩
    unfold decodeMessage1
    rw [hD]
    exact mkown_eMessage (x := zMessage) (own_none W)

end Go.Proofs.Ytklbpjnpmbidiaa
