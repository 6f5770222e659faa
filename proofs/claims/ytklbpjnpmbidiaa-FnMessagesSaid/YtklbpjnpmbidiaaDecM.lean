import Derived.Test.YtklbpjnpmbidiaaProg
import Derived.Test.YtklbpjnpmbidiaaTypes
import Derived.StillTailTactics
import Derived.Deep.RegionWith
import Derived.Deep.AppendLies
import Derived.Lib.BufferRead
import Derived.Deep.RegionHeld3
import Derived.Laws.IdiomStrings
import Derived.Test.YtklbpjnpmbidiaaAppend
import Derived.Laws.StructEq
import Derived.Lib.SliceRun
import Derived.Shelf.RegionOpenPlain
import Derived.Test.YtklbpjnpmbidiaaDecI
import Derived.Test.YtklbpjnpmbidiaaEncM
import Derived.Test.YtklbpjnpmbidiaaOrders
namespace Go.Proofs.Ytklbpjnpmbidiaa
open Go.RowKit
set_option linter.unusedVariables false
set_option linter.unusedSimpArgs false

theorem run_conv_row {P : Program} (w : World) (src dst e : TypeId) (A : Option Addr) (c : Nat) (l : List UInt8) (hs : P.underlying src = some (.slice e)) (he : P.underlying e = some (.int .u8)) (hd : P.underlying dst = some .string)
    (hr : RdW w (.s l.length (l.flatMap eByte)) (.slice A l.length c)) : Sem.run P (convert src dst (.slice A l.length c)) w = .ok (.string ⟨l.toArray⟩) w := by
  have hc := hr.cells vals_eByte
  cases A with
  | none =>
    rcases hc with h | ⟨ad, h, _⟩
    · have : l = [] := List.eq_nil_of_length_eq_zero h
      subst this
      exact Lib.run_convert_nil_bytes w src dst e c hs he hd
    · cases h
  | some ad =>
    refine run_convert_bytes_back w src dst e ad c l hs he hd (fun j hj => ?_)
    rcases hc with h | ⟨ad', h, _, hcell⟩
    · omega
    · injection h with h; subst h
      apply hcell
      have : l.flatMap vsByte = l.map fun b => Value.int .u8 (b.toNat : Int) := by
        clear hcell hj hr
        induction l with
        | nil => rfl
        | cons y l ih => rw [List.map_cons, List.flatMap_cons, ih]; rfl
      rw [this, List.getElem?_map, List.getElem?_eq_getElem hj]; rfl

set_option maxHeartbeats 6400000 in
set_option maxRecDepth 100000 in
theorem spec_DecodeMessage_calls (v : Value) (b : List UInt8) (w : World) (hr : RdW w (.s b.length (b.flatMap eByte)) v) (hz : b.length ≤ 1048576) :
    Calls Try.prog 5 #[v] w fun e w' => ∃ us', e = .returned (.tuple #[.agg us'.toArray, .bool (decodeMessage2 b)]) ∧ RdLW w' (eMessage (decodeMessage1 b)) us' ∧ Below w.heap.size w w' := by
  have HV := Lib.hid hr
  obtain ⟨A, c, rfl, ⟨hcl, hcm, hl⟩⟩ := hr.slice
  clear hr
  have HB0 := Lib.hid ((Below.refl w.heap.size w).alloc (Nat.le_refl _) (.cells #[.int .i64 0, .int .i64 0, .int .i64 0, .int .i64 0, .string ⟨#[]⟩, .slice none 0 0, .int .i64 0, .int .i64 0, .int .i64 0, .int .i64 0, .int .i64 0, .int .i64 0] 29))
  have K0 := Lib.hid (Blk.new w 29 #[.int .i64 0, .int .i64 0, .int .i64 0, .int .i64 0, .string ⟨#[]⟩, .slice none 0 0, .int .i64 0, .int .i64 0, .int .i64 0, .int .i64 0, .int .i64 0, .int .i64 0])
  have HC1 := Lib.hid (spec_DecodeInts_calls (.slice A b.length c) b 0 11 (w.alloc (.cells #[.int .i64 0, .int .i64 0, .int .i64 0, .int .i64 0, .string ⟨#[]⟩, .slice none 0 0, .int .i64 0, .int .i64 0, .int .i64 0, .int .i64 0, .int .i64 0, .int .i64 0] 29)) (HV.out.below HB0.out) hz (Nat.zero_le _) (by omega))
  go_enter Try.func5, Try.ntmps5
  go_wp2_with fail
  refine HC1.out.mono ?_
  rintro e w1 ⟨hb1, h1⟩
  have z1 : w.heap.size + 1 ≤ w1.heap.size := by have := hb1.size; simpa using this
  have K1 := Lib.hid (K0.out.below hb1)
  have HB1 := Lib.hid (HB0.out.trans (hb1.mono (by simp)))
  obtain ⟨k1, j1⟩ := K1.out.rules
  have l1 := K1.out.lt
  clear hb1
  rw [List.drop_zero] at h1
  rcases h1 with ⟨h1, v0, rfl⟩ | ⟨n, p, A1, c1, h1, hnl, -, hp, hnM, rfl, ho1⟩
  · have HN := Lib.hid (decMsg_none1 h1)
    clear h1
    go_wp2
    refine post_cell2 (w0 := w1) (fun k => k = w.heap.size) Try.results5 w.heap.size #[.int .i64 0, .int .i64 0, .int .i64 0, .int .i64 0, .string ⟨#[]⟩, .slice none 0 0, .int .i64 0, .int .i64 0, .int .i64 0, .int .i64 0, .int .i64 0, .int .i64 0] (.bool false) _ rfl (Blk.eq ((((((((((((K1.out.set_ 0 _).set_ 1 _).set_ 2 _).set_ 3 _).set_ 4 _).set_ 5 _).set_ 6 _).set_ 7 _).set_ 8 _).set_ 9 _).set_ 10 _).set_ 11 _) (by simp)) Try.underlying29 rfl (by kernel_rfl) rfl rfl (((((((((((((Chg.refl (· = w.heap.size) w1).setCell (p := ⟨w.heap.size, 0, none⟩) (.inl rfl) _).setCell (p := ⟨w.heap.size, 1, none⟩) (.inl rfl) _).setCell (p := ⟨w.heap.size, 2, none⟩) (.inl rfl) _).setCell (p := ⟨w.heap.size, 3, none⟩) (.inl rfl) _).setCell (p := ⟨w.heap.size, 4, none⟩) (.inl rfl) _).setCell (p := ⟨w.heap.size, 5, none⟩) (.inl rfl) _).setCell (p := ⟨w.heap.size, 6, none⟩) (.inl rfl) _).setCell (p := ⟨w.heap.size, 7, none⟩) (.inl rfl) _).setCell (p := ⟨w.heap.size, 8, none⟩) (.inl rfl) _).setCell (p := ⟨w.heap.size, 9, none⟩) (.inl rfl) _).setCell (p := ⟨w.heap.size, 10, none⟩) (.inl rfl) _).setCell (p := ⟨w.heap.size, 11, none⟩) (.inl rfl) _) ?_
    intro W hW
    have hD := HN.out
    refine ⟨_, by unfold decodeMessage2; rw [hD]; rfl, ?_, below_chg HB1.out hW HB1.out.size (fun k h => by omega)⟩
    unfold decodeMessage1
    rw [hD]
    exact mkrd_eMessage (x := zMessage) (rd_none W)
  rw [Nat.sub_zero] at h1
  obtain ⟨x0, x1, x2, x3, x4, x5, x6, x7, x8, x9, x10, rfl⟩ := list11 hnl
  have hx10 : ([x0, x1, x2, x3, x4, x5, x6, x7, x8, x9, x10] : List Nat).getD 10 0 = x10 := rfl
  obtain ⟨g1, cp1, hA1, hg1, hg1'⟩ := ho1.form (by omega)
  injection hA1 with hA1 _ hc1
  subst hA1
  subst hc1
  simp only [size_alloc] at hg1
  have c_0 : w1.cell? ⟨g1, 0, none⟩ = some (.int .i64 x0) := ho1.cellAt 0 (by omega)
  have c_1 : w1.cell? ⟨g1, 1, none⟩ = some (.int .i64 x1) := ho1.cellAt 1 (by omega)
  have c_2 : w1.cell? ⟨g1, 2, none⟩ = some (.int .i64 x2) := ho1.cellAt 2 (by omega)
  have c_3 : w1.cell? ⟨g1, 3, none⟩ = some (.int .i64 x3) := ho1.cellAt 3 (by omega)
  have c_4 : w1.cell? ⟨g1, 4, none⟩ = some (.int .i64 x4) := ho1.cellAt 4 (by omega)
  have c_5 : w1.cell? ⟨g1, 5, none⟩ = some (.int .i64 x5) := ho1.cellAt 5 (by omega)
  have c_6 : w1.cell? ⟨g1, 6, none⟩ = some (.int .i64 x6) := ho1.cellAt 6 (by omega)
  have c_7 : w1.cell? ⟨g1, 7, none⟩ = some (.int .i64 x7) := ho1.cellAt 7 (by omega)
  have c_8 : w1.cell? ⟨g1, 8, none⟩ = some (.int .i64 x8) := ho1.cellAt 8 (by omega)
  have c_9 : w1.cell? ⟨g1, 9, none⟩ = some (.int .i64 x9) := ho1.cellAt 9 (by omega)
  have c_10 : w1.cell? ⟨g1, 10, none⟩ = some (.int .i64 x10) := ho1.cellAt 10 (by omega)
  have H1 := Lib.hid h1
  have HM := Lib.hid hnM
  have HO1 := Lib.hid ho1
  clear h1 hnM hnl ho1
  by_cases hbig : (2 : Int) < x10
  · have HN := Lib.hid (decMsg_none2 H1.out (by rw [hx10]; omega))
    go_wp2
    refine post_cell2 (w0 := w1) (fun k => k = w.heap.size) Try.results5 w.heap.size #[.int .i64 0, .int .i64 0, .int .i64 0, .int .i64 0, .string ⟨#[]⟩, .slice none 0 0, .int .i64 0, .int .i64 0, .int .i64 0, .int .i64 0, .int .i64 0, .int .i64 0] (.bool false) _ rfl (Blk.eq ((((((((((((K1.out.set_ 0 _).set_ 1 _).set_ 2 _).set_ 3 _).set_ 4 _).set_ 5 _).set_ 6 _).set_ 7 _).set_ 8 _).set_ 9 _).set_ 10 _).set_ 11 _) (by simp)) Try.underlying29 rfl (by kernel_rfl) rfl rfl (((((((((((((Chg.refl (· = w.heap.size) w1).setCell (p := ⟨w.heap.size, 0, none⟩) (.inl rfl) _).setCell (p := ⟨w.heap.size, 1, none⟩) (.inl rfl) _).setCell (p := ⟨w.heap.size, 2, none⟩) (.inl rfl) _).setCell (p := ⟨w.heap.size, 3, none⟩) (.inl rfl) _).setCell (p := ⟨w.heap.size, 4, none⟩) (.inl rfl) _).setCell (p := ⟨w.heap.size, 5, none⟩) (.inl rfl) _).setCell (p := ⟨w.heap.size, 6, none⟩) (.inl rfl) _).setCell (p := ⟨w.heap.size, 7, none⟩) (.inl rfl) _).setCell (p := ⟨w.heap.size, 8, none⟩) (.inl rfl) _).setCell (p := ⟨w.heap.size, 9, none⟩) (.inl rfl) _).setCell (p := ⟨w.heap.size, 10, none⟩) (.inl rfl) _).setCell (p := ⟨w.heap.size, 11, none⟩) (.inl rfl) _) ?_
    intro W hW
    have hD := HN.out
    refine ⟨_, by unfold decodeMessage2; rw [hD]; rfl, ?_, below_chg HB1.out hW HB1.out.size (fun k h => by omega)⟩
    unfold decodeMessage1
    rw [hD]
    exact mkrd_eMessage (x := zMessage) (rd_none W)
  have hx10l : x10 ≤ 2 := by omega
  have HX10 := Lib.hid hx10
  clear hx10
  go_wp2
  go_region_held3 (fun wq => wq.cell? ⟨g1, 0, none⟩ = some (.int .i64 x0) ∧ wq.cell? ⟨g1, 1, none⟩ = some (.int .i64 x1) ∧ wq.cell? ⟨g1, 2, none⟩ = some (.int .i64 x2) ∧ wq.cell? ⟨g1, 3, none⟩ = some (.int .i64 x3) ∧ wq.cell? ⟨g1, 4, none⟩ = some (.int .i64 x4) ∧ wq.cell? ⟨g1, 5, none⟩ = some (.int .i64 x5) ∧ wq.cell? ⟨g1, 6, none⟩ = some (.int .i64 x6) ∧ wq.cell? ⟨g1, 7, none⟩ = some (.int .i64 x7) ∧ wq.cell? ⟨g1, 8, none⟩ = some (.int .i64 x8) ∧ wq.cell? ⟨g1, 9, none⟩ = some (.int .i64 x9)) (go_keep) (fail)
  obtain ⟨wm, hwm⟩ : ∃ q, q = (w1.alloc (.cells #[.int .i64 x0, .int .i64 x1, .int .i64 x2, .int .i64 x3, .string ⟨#[]⟩, .slice none 0 0, .int .i64 x8, .int .i64 x9, .int .i64 x4, .int .i64 x5, .int .i64 x6, .int .i64 x7] 29)).drew := ⟨_, rfl⟩
  rw [← hwm]
  have KM0 : Hid (Blk wm w1.heap.size 29 #[.int .i64 x0, .int .i64 x1, .int .i64 x2, .int .i64 x3, .string ⟨#[]⟩, .slice none 0 0, .int .i64 x8, .int .i64 x9, .int .i64 x4, .int .i64 x5, .int .i64 x6, .int .i64 x7]) := by unfold Hid; rw [hwm]; exact (Blk.new w1 _ _).drew
  have HB1m : Hid (Below w1.heap.size w1 wm) := by unfold Hid; rw [hwm]; exact ((Below.refl _ _).alloc (Nat.le_refl _) _).drew
  have zm : w1.heap.size + 1 ≤ wm.heap.size := by rw [hwm]; show _ ≤ (w1.alloc _).heap.size; simp
  clear hwm k1 j1 l1
  have HBm := Lib.hid (HB1.out.trans (HB1m.out.mono HB1.out.size))
  have K1m := Lib.hid (K1.out.below HB1m.out)
  have HO1m := Lib.hid (ownsRow_below HO1.out HB1m.out)
  have hc2 := spec_DecodeInts_calls (.slice A b.length c) b p (2 * x10) wm (HV.out.below HBm.out) hz hp (by omega)
  rw [show ((2 * x10 : Nat) : Int) = 2 * (x10 : Int) from by push_cast; rfl] at hc2
  have HC2 := Lib.hid hc2
  have c_10m : wm.cell? ⟨g1, 10, none⟩ = some (.int .i64 x10) := HO1m.out.cellAt 10 (by omega)
  clear hc2 c_0 c_1 c_2 c_3 c_4 c_5 c_6 c_7 c_8 c_9 c_10
  try clear hH_
  obtain ⟨k1, j1⟩ := K1m.out.rules
  have l1 := K1m.out.lt
  go_wp2_with fail
  refine HC2.out.mono ?_
  rintro e w2 ⟨hb2, h2⟩
  have z2 : wm.heap.size ≤ w2.heap.size := hb2.size
  have KM2 := Lib.hid (KM0.out.below hb2)
  have K2 := Lib.hid (K1m.out.below hb2)
  have HB2 := Lib.hid (HBm.out.trans (hb2.mono HBm.out.size))
  have HO1_2 := Lib.hid (ownsRow_below HO1m.out hb2)
  clear hb2 k1 j1 l1 c_10m
  obtain ⟨k2, j2⟩ := K2.out.rules
  have l2 := K2.out.lt
  rcases h2 with ⟨h2, v0, rfl⟩ | ⟨args, p2, A2, c2, h2, hal, hpp, hp2, haM, rfl, ho2⟩
  · have HN := Lib.hid (decMsg_none3 H1.out (by rw [HX10.out]; omega) (show rdInts (2 * ([x0, x1, x2, x3, x4, x5, x6, x7, x8, x9, x10] : List Nat).getD 10 0) (b.drop p) = none from h2))
    clear h2
    go_wp2
    refine post_cell2 (w0 := w2) (fun k => k = w.heap.size) Try.results5 w.heap.size #[.int .i64 0, .int .i64 0, .int .i64 0, .int .i64 0, .string ⟨#[]⟩, .slice none 0 0, .int .i64 0, .int .i64 0, .int .i64 0, .int .i64 0, .int .i64 0, .int .i64 0] (.bool false) _ rfl (Blk.eq ((((((((((((K2.out.set_ 0 _).set_ 1 _).set_ 2 _).set_ 3 _).set_ 4 _).set_ 5 _).set_ 6 _).set_ 7 _).set_ 8 _).set_ 9 _).set_ 10 _).set_ 11 _) (by simp)) Try.underlying29 rfl (by kernel_rfl) rfl rfl (((((((((((((Chg.refl (· = w.heap.size) w2).setCell (p := ⟨w.heap.size, 0, none⟩) (.inl rfl) _).setCell (p := ⟨w.heap.size, 1, none⟩) (.inl rfl) _).setCell (p := ⟨w.heap.size, 2, none⟩) (.inl rfl) _).setCell (p := ⟨w.heap.size, 3, none⟩) (.inl rfl) _).setCell (p := ⟨w.heap.size, 4, none⟩) (.inl rfl) _).setCell (p := ⟨w.heap.size, 5, none⟩) (.inl rfl) _).setCell (p := ⟨w.heap.size, 6, none⟩) (.inl rfl) _).setCell (p := ⟨w.heap.size, 7, none⟩) (.inl rfl) _).setCell (p := ⟨w.heap.size, 8, none⟩) (.inl rfl) _).setCell (p := ⟨w.heap.size, 9, none⟩) (.inl rfl) _).setCell (p := ⟨w.heap.size, 10, none⟩) (.inl rfl) _).setCell (p := ⟨w.heap.size, 11, none⟩) (.inl rfl) _) ?_
    intro W hW
    have hD := HN.out
    refine ⟨_, by unfold decodeMessage2; rw [hD]; rfl, ?_, below_chg HB2.out hW HB2.out.size (fun k h => by omega)⟩
    unfold decodeMessage1
    rw [hD]
    exact mkrd_eMessage (x := zMessage) (rd_none W)
  have H2 : Hid (rdInts (2 * ([x0, x1, x2, x3, x4, x5, x6, x7, x8, x9, x10] : List Nat).getD 10 0) (b.drop p) = some (args, p2 - p)) := h2
  have HO2 := Lib.hid ho2
  have c_10 : w2.cell? ⟨g1, 10, none⟩ = some (.int .i64 x10) := HO1_2.out.cellAt 10 (by omega)
  clear h2 ho2
  go_wp2
  go_loopw [11] (fun b_ wr => ∃ (i : Nat) (A3 : Option Addr) (c3 : Nat), i ≤ x10 ∧ b_ = .int .i64 i ∧ Hid (Blk wr w1.heap.size 29 #[.int .i64 x0, .int .i64 x1, .int .i64 x2, .int .i64 x3, .string ⟨#[]⟩, .slice A3 i c3, .int .i64 x8, .int .i64 x9, .int .i64 x4, .int .i64 x5, .int .i64 x6, .int .i64 x7]) ∧ Hid (wr.ownsRow w2.heap.size 25 2 (.slice A3 i c3) i ((wiresOf (args.take (2 * i))).flatMap vsWire)) ∧ Hid (Chg (fun k => k = w1.heap.size ∨ w2.heap.size ≤ k) w2 wr)) (fun b_ wr => x10 - (intOf b_).toNat)
  case atStart => exact ⟨0, none, 0, by omega, rfl, KM2, World.ownsRow_nil _ _ _ _, Chg.refl _ _⟩
  case round =>
    obtain ⟨i, A3, c3, hi, rfl, KM, HO, HCH⟩ := hrel
    have hcx : wr.cell? ⟨g1, 10, none⟩ = some (.int .i64 x10) := (World.cell?_of_block (w := w2) (a := ⟨g1, 10, none⟩) (HCH.out.block g1 (by omega) (by omega))).trans c_10
    obtain ⟨km, jm⟩ := KM.out.rules
    have lm := KM.out.lt
    have hlo := HO.out.lt
    have zr := HCH.out.size
    have lg1 : g1 < wr.heap.size := by omega
    by_cases hlt : i < x10
    · have hi2 : i = 0 ∨ i = 1 := by omega
      rcases hi2 with rfl | rfl
      · skip
        have ha : ∃ a a', args[0]? = some a ∧ args[1]? = some a' := ⟨args[0]'(by omega), args[1]'(by omega), List.getElem?_eq_getElem _, List.getElem?_eq_getElem _⟩
        obtain ⟨a, a', ha0, ha1⟩ := ha
        obtain ⟨g2, cp2, hA2, hg2, hg2'⟩ := HO2.out.form (by omega)
        injection hA2 with hA2 _ hc2
        subst hA2
        subst hc2
        have q0 : w2.cell? ⟨g2, 0, none⟩ = some (.int .i64 a) := (HO2.out.cellAt 0 (by omega)).trans (flatInt_at _ _ _ ha0)
        have q1 : w2.cell? ⟨g2, 1, none⟩ = some (.int .i64 a') := (HO2.out.cellAt 1 (by omega)).trans (flatInt_at _ _ _ ha1)
        have d0 : wr.cell? ⟨g2, 0, none⟩ = some (.int .i64 a) := (World.cell?_of_block (w := w2) (a := ⟨g2, 0, none⟩) (HCH.out.block g2 hg2' (by omega))).trans q0
        have d1 : wr.cell? ⟨g2, 1, none⟩ = some (.int .i64 a') := (World.cell?_of_block (w := w2) (a := ⟨g2, 1, none⟩) (HCH.out.block g2 hg2' (by omega))).trans q1
        have HWI := Lib.hid (wires_step0 ha0 ha1)
        have hw0 : IntKind.i64.wrap 0 = 0 := by decide
        have hw1 : IntKind.i64.wrap 1 = 1 := by decide
        have hw2 : IntKind.i64.wrap 2 = 2 := by decide
        have hw3 : IntKind.i64.wrap 3 = 3 := by decide
        have hbA : (0 : Int) < 2 * (x10 : Int) := by omega
        have hbB : (1 : Int) < 2 * (x10 : Int) := by omega
        have hlw : g2 < wr.heap.size := Nat.lt_of_lt_of_le hg2' HCH.out.size
        clear q0 q1 ha0 ha1
        go_wp2
        refine wp_region_U (fun wq => wq.cell? ⟨w1.heap.size, 5, none⟩ = some (.slice A3 0 c3) ∧ wq.cell? ⟨g2, 0, none⟩ = some (.int .i64 a) ∧ wq.cell? ⟨g2, 1, none⟩ = some (.int .i64 a')) [0, 1, 2, 3, 4, 5, 6, 7, 8, 9, 10, 11, 12, 13, 14, 15] (by kernel_rfl) ?_
        have hH_ := (show wr.drew.cell? ⟨w1.heap.size, 5, none⟩ = _ ∧ wr.drew.cell? ⟨g2, 0, none⟩ = _ ∧ wr.drew.cell? ⟨g2, 1, none⟩ = _ from ⟨km 5, d0, d1⟩)
        refine wpAnyU_take (i := 0) (v := ?_) rfl (by kernel_rfl) (by kernel_rfl) (by kernel_rfl) (by kernel_rfl) (fun _ _ _ h => h) (Or.inl ⟨by rfl, ?_⟩) hH_ ?_
        rotate_left
        · (intro w hSw; (try dsimp only at hSw); go_simp <;> with_reducible rfl)
        simp only [Act.put, List.setIfInBounds_toArray, List.set_cons_zero, List.set_cons_succ]
        refine wpAnyU_take (i := 1) (v := ?_) rfl (by kernel_rfl) (by kernel_rfl) (by kernel_rfl) (by kernel_rfl) (fun _ _ _ h => h) (Or.inl ⟨by rfl, ?_⟩) hH_ ?_
        rotate_left
        · (intro w hSw; (try dsimp only at hSw); go_simp <;> with_reducible rfl)
        simp only [Act.put, List.setIfInBounds_toArray, List.set_cons_zero, List.set_cons_succ]
        refine wpAnyU_take (i := 2) (v := ?_) rfl (by kernel_rfl) (by kernel_rfl) (by kernel_rfl) (by kernel_rfl) (fun _ _ _ h => h) (Or.inl ⟨by rfl, ?_⟩) hH_ ?_
        rotate_left
        · (intro w hSw; (try dsimp only at hSw); go_simp <;> with_reducible rfl)
        simp only [Act.put, List.setIfInBounds_toArray, List.set_cons_zero, List.set_cons_succ]
        refine wpAnyU_take (i := 3) (v := ?_) rfl (by kernel_rfl) (by kernel_rfl) (by kernel_rfl) (by kernel_rfl) (fun _ _ _ h => h) (Or.inl ⟨by rfl, ?_⟩) hH_ ?_
        rotate_left
        · (intro w hSw; (try dsimp only at hSw); go_simp <;> with_reducible rfl)
        simp only [Act.put, List.setIfInBounds_toArray, List.set_cons_zero, List.set_cons_succ]
        refine wpAnyU_take (i := 4) (v := ?_) rfl (by kernel_rfl) (by kernel_rfl) (by kernel_rfl) (by kernel_rfl) (fun _ _ _ h => h) (Or.inl ⟨by rfl, ?_⟩) hH_ ?_
        rotate_left
        · (intro w hSw; (try dsimp only at hSw); go_simp; (try simp only [hw0, hw1, hw2, hw3]); with_reducible rfl)
        simp only [Act.put, List.setIfInBounds_toArray, List.set_cons_zero, List.set_cons_succ]
        refine wpAnyU_take (i := 5) (v := ?_) rfl (by kernel_rfl) (by kernel_rfl) (by kernel_rfl) (by kernel_rfl) (fun _ _ _ h => h) (Or.inl ⟨by rfl, ?_⟩) hH_ ?_
        rotate_left
        · (intro w hSw; (try dsimp only at hSw); go_simp; with_reducible rfl)
        simp only [Act.put, List.setIfInBounds_toArray, List.set_cons_zero, List.set_cons_succ]
        refine wpAnyU_take (i := 6) (v := ?_) rfl (by kernel_rfl) (by kernel_rfl) (by kernel_rfl) (by kernel_rfl) (fun _ _ _ h => h) (Or.inl ⟨by rfl, ?_⟩) hH_ ?_
        rotate_left
        · (intro w hSw; (try dsimp only at hSw); go_simp <;> with_reducible rfl)
        simp only [Act.put, List.setIfInBounds_toArray, List.set_cons_zero, List.set_cons_succ]
        refine wpAnyU_take (i := 7) (v := ?_) rfl (by kernel_rfl) (by kernel_rfl) (by kernel_rfl) (by kernel_rfl) (fun _ _ _ h => h) (Or.inl ⟨by rfl, ?_⟩) hH_ ?_
        rotate_left
        · (intro w hSw; (try dsimp only at hSw); go_simp <;> with_reducible rfl)
        simp only [Act.put, List.setIfInBounds_toArray, List.set_cons_zero, List.set_cons_succ]
        refine wpAnyU_take (i := 8) (v := ?_) rfl (by kernel_rfl) (by kernel_rfl) (by kernel_rfl) (by kernel_rfl) (fun _ _ _ h => h) (Or.inl ⟨by rfl, ?_⟩) hH_ ?_
        rotate_left
        · (intro w hSw; (try dsimp only at hSw); go_simp <;> with_reducible rfl)
        simp only [Act.put, List.setIfInBounds_toArray, List.set_cons_zero, List.set_cons_succ]
        refine wpAnyU_take (i := 9) (v := ?_) rfl (by kernel_rfl) (by kernel_rfl) (by kernel_rfl) (by kernel_rfl) (fun _ _ _ h => h) (Or.inl ⟨by rfl, ?_⟩) hH_ ?_
        rotate_left
        · (intro w hSw; (try dsimp only at hSw); go_simp; (try simp only [hw0, hw1, hw2, hw3]); with_reducible rfl)
        simp only [Act.put, List.setIfInBounds_toArray, List.set_cons_zero, List.set_cons_succ]
        refine wpAnyU_take (i := 10) (v := ?_) rfl (by kernel_rfl) (by kernel_rfl) (by kernel_rfl) (by kernel_rfl) (fun _ _ _ h => h) (Or.inl ⟨by rfl, ?_⟩) hH_ ?_
        rotate_left
        · (intro w hSw; (try dsimp only at hSw); go_simp; (try simp only [hw0, hw1, hw2, hw3]); with_reducible rfl)
        simp only [Act.put, List.setIfInBounds_toArray, List.set_cons_zero, List.set_cons_succ]
        refine wpAnyU_take (i := 11) (v := ?_) rfl (by kernel_rfl) (by kernel_rfl) (by kernel_rfl) (by kernel_rfl) (fun _ _ _ h => h) (Or.inl ⟨by rfl, ?_⟩) hH_ ?_
        rotate_left
        · (intro w hSw; (try dsimp only at hSw); go_simp; with_reducible rfl)
        simp only [Act.put, List.setIfInBounds_toArray, List.set_cons_zero, List.set_cons_succ]
        refine wpAnyU_take (i := 12) (v := ?_) rfl (by kernel_rfl) (by kernel_rfl) (by kernel_rfl) (by kernel_rfl) (fun _ _ _ h => h) (Or.inl ⟨by rfl, ?_⟩) hH_ ?_
        rotate_left
        · (intro w hSw; (try dsimp only at hSw); go_simp <;> with_reducible rfl)
        simp only [Act.put, List.setIfInBounds_toArray, List.set_cons_zero, List.set_cons_succ]
        refine wpAnyU_take (i := 13) (v := ?_) rfl (by kernel_rfl) (by kernel_rfl) (by kernel_rfl) (by kernel_rfl) (fun _ _ _ h => h) (Or.inl ⟨by rfl, ?_⟩) hH_ ?_
        rotate_left
        · (intro w hSw; (try dsimp only at hSw); go_simp <;> with_reducible rfl)
        simp only [Act.put, List.setIfInBounds_toArray, List.set_cons_zero, List.set_cons_succ]
        refine wpAnyU_one (i := 14) (by kernel_rfl) rfl (fun K hK => ?_)
        go_simp
        refine hK.out _ _ ?_ (fun hH1_ => ?_)
        · exact ⟨cell_alloc_keep (km 5), cell_alloc_keep d0, cell_alloc_keep d1⟩
        clear hK K hH_
        have hH_ := hH1_
        clear hH1_
        refine wpAnyU_one' (i := 15) (by kernel_rfl) rfl (by kernel_rfl) (fun K hK => ?_)
        refine step_append_lies _ (by rfl) _ _ _ (by rfl) w2.heap.size 25 _ _ 2 16 Try.underlying23 rfl rfl rfl rfl rfl (by omega) _ 0 _ (by rfl) ((HO.out.alloc _).drew) ⟨wr.heap.size, 0, none⟩ 1 1 [.int .i64 a, .int .i64 a'] (by rfl) (by rfl) (World.news_of_block (cs := #[.int .i64 a, .int .i64 a']) (t := 25) (fr := (0, 0)) (heap_alloc_new wr _)) (by simp [Value.oneCell']) (by omega) (by have h := (by decide : maxLen = 9223372036854775807); omega) (by omega) (by simp; omega) (wr.heap.size + 1) (by simp) ?_
        intro gg cap w3 hown hgrow hat hlt2
        have KM3 := Lib.hid (((KM.out.alloc _).drew).chg (grown_chg hgrow) (fun h => by have := (hlo _ h).1; omega))
        obtain ⟨km3, jm3⟩ := KM3.out.rules
        have lm3 := KM3.out.lt
        refine hK.out _ _ ?_
        clear hK K
        refine wpAnyU_one' (i := 16) (by kernel_rfl) rfl (by kernel_rfl) (fun K hK => ?_)
        go_simp
        refine hK.out _ _ ?_
        clear hK K
        refine wpAnyU_one' (i := 17) (by kernel_rfl) rfl (by kernel_rfl) (fun K hK => ?_)
        go_simp
        refine hK.out _ _ ?_
        clear hK K
        refine wpAnyU_done (by kernel_rfl) ?_ _
        have HO3 : Hid (w3.ownsRow w2.heap.size 25 2 (.slice (some ⟨gg, 0, none⟩) 1 cap) 1 ((wiresOf (args.take (2 * 1))).flatMap vsWire)) := by
          unfold Hid; rw [HWI.out]; exact hown
        have HS3 := Lib.hid ((Chg.refl (· = w1.heap.size) w3).setCell (p := ⟨w1.heap.size, 5, none⟩) (.inl rfl) (.slice (some ⟨gg, 0, none⟩) 1 cap))
        have hlo3 := HO3.out.lt
        have HO4 := Lib.hid (ownsRow_keep HO3.out HS3.out (fun k hk => by have := (hlo3 k hk).1; omega))
        have KM4 := Lib.hid (Blk.eq (KM3.out.set_ 5 (.slice (some ⟨gg, 0, none⟩) 1 cap)) (by simp) : Blk _ w1.heap.size _ #[.int .i64 x0, .int .i64 x1, .int .i64 x2, .int .i64 x3, .string ⟨#[]⟩, .slice (some ⟨gg, 0, none⟩) 1 cap, .int .i64 x8, .int .i64 x9, .int .i64 x4, .int .i64 x5, .int .i64 x6, .int .i64 x7])
        have HCH4 := Lib.hid (((HCH.out.trans ((((Chg.refl _ wr).alloc _).drew).trans ((grown_chg hgrow).mono (fun k _ h => .inr ((hlo k h).1))))).trans (HS3.out.mono (fun k _ h => .inl h))))
        clear hown hgrow hat hlt2 d0 d1
        go_wp2
        go_roundw
        case rel => exact ⟨1, _, cap, by omega, by go_num, KM4, HO4, HCH4⟩
        case measure => simp [intOf] <;> omega
      · skip
        have ha : ∃ a a', args[2]? = some a ∧ args[3]? = some a' := ⟨args[2]'(by omega), args[3]'(by omega), List.getElem?_eq_getElem _, List.getElem?_eq_getElem _⟩
        obtain ⟨a, a', ha0, ha1⟩ := ha
        obtain ⟨g2, cp2, hA2, hg2, hg2'⟩ := HO2.out.form (by omega)
        injection hA2 with hA2 _ hc2
        subst hA2
        subst hc2
        have q0 : w2.cell? ⟨g2, 2, none⟩ = some (.int .i64 a) := (HO2.out.cellAt 2 (by omega)).trans (flatInt_at _ _ _ ha0)
        have q1 : w2.cell? ⟨g2, 3, none⟩ = some (.int .i64 a') := (HO2.out.cellAt 3 (by omega)).trans (flatInt_at _ _ _ ha1)
        have d0 : wr.cell? ⟨g2, 2, none⟩ = some (.int .i64 a) := (World.cell?_of_block (w := w2) (a := ⟨g2, 2, none⟩) (HCH.out.block g2 hg2' (by omega))).trans q0
        have d1 : wr.cell? ⟨g2, 3, none⟩ = some (.int .i64 a') := (World.cell?_of_block (w := w2) (a := ⟨g2, 3, none⟩) (HCH.out.block g2 hg2' (by omega))).trans q1
        have HWI := Lib.hid (wires_step1 ha0 ha1)
        have hw0 : IntKind.i64.wrap 0 = 0 := by decide
        have hw1 : IntKind.i64.wrap 1 = 1 := by decide
        have hw2 : IntKind.i64.wrap 2 = 2 := by decide
        have hw3 : IntKind.i64.wrap 3 = 3 := by decide
        have hbA : (2 : Int) < 2 * (x10 : Int) := by omega
        have hbB : (3 : Int) < 2 * (x10 : Int) := by omega
        have hlw : g2 < wr.heap.size := Nat.lt_of_lt_of_le hg2' HCH.out.size
        clear q0 q1 ha0 ha1
        go_wp2
        refine wp_region_U (fun wq => wq.cell? ⟨w1.heap.size, 5, none⟩ = some (.slice A3 1 c3) ∧ wq.cell? ⟨g2, 2, none⟩ = some (.int .i64 a) ∧ wq.cell? ⟨g2, 3, none⟩ = some (.int .i64 a')) [0, 1, 2, 3, 4, 5, 6, 7, 8, 9, 10, 11, 12, 13, 14, 15] (by kernel_rfl) ?_
        have hH_ := (show wr.drew.cell? ⟨w1.heap.size, 5, none⟩ = _ ∧ wr.drew.cell? ⟨g2, 2, none⟩ = _ ∧ wr.drew.cell? ⟨g2, 3, none⟩ = _ from ⟨km 5, d0, d1⟩)
        refine wpAnyU_take (i := 0) (v := ?_) rfl (by kernel_rfl) (by kernel_rfl) (by kernel_rfl) (by kernel_rfl) (fun _ _ _ h => h) (Or.inl ⟨by rfl, ?_⟩) hH_ ?_
        rotate_left
        · (intro w hSw; (try dsimp only at hSw); go_simp <;> with_reducible rfl)
        simp only [Act.put, List.setIfInBounds_toArray, List.set_cons_zero, List.set_cons_succ]
        refine wpAnyU_take (i := 1) (v := ?_) rfl (by kernel_rfl) (by kernel_rfl) (by kernel_rfl) (by kernel_rfl) (fun _ _ _ h => h) (Or.inl ⟨by rfl, ?_⟩) hH_ ?_
        rotate_left
        · (intro w hSw; (try dsimp only at hSw); go_simp <;> with_reducible rfl)
        simp only [Act.put, List.setIfInBounds_toArray, List.set_cons_zero, List.set_cons_succ]
        refine wpAnyU_take (i := 2) (v := ?_) rfl (by kernel_rfl) (by kernel_rfl) (by kernel_rfl) (by kernel_rfl) (fun _ _ _ h => h) (Or.inl ⟨by rfl, ?_⟩) hH_ ?_
        rotate_left
        · (intro w hSw; (try dsimp only at hSw); go_simp <;> with_reducible rfl)
        simp only [Act.put, List.setIfInBounds_toArray, List.set_cons_zero, List.set_cons_succ]
        refine wpAnyU_take (i := 3) (v := ?_) rfl (by kernel_rfl) (by kernel_rfl) (by kernel_rfl) (by kernel_rfl) (fun _ _ _ h => h) (Or.inl ⟨by rfl, ?_⟩) hH_ ?_
        rotate_left
        · (intro w hSw; (try dsimp only at hSw); go_simp <;> with_reducible rfl)
        simp only [Act.put, List.setIfInBounds_toArray, List.set_cons_zero, List.set_cons_succ]
        refine wpAnyU_take (i := 4) (v := ?_) rfl (by kernel_rfl) (by kernel_rfl) (by kernel_rfl) (by kernel_rfl) (fun _ _ _ h => h) (Or.inl ⟨by rfl, ?_⟩) hH_ ?_
        rotate_left
        · (intro w hSw; (try dsimp only at hSw); go_simp; (try simp only [hw0, hw1, hw2, hw3]); with_reducible rfl)
        simp only [Act.put, List.setIfInBounds_toArray, List.set_cons_zero, List.set_cons_succ]
        refine wpAnyU_take (i := 5) (v := ?_) rfl (by kernel_rfl) (by kernel_rfl) (by kernel_rfl) (by kernel_rfl) (fun _ _ _ h => h) (Or.inl ⟨by rfl, ?_⟩) hH_ ?_
        rotate_left
        · (intro w hSw; (try dsimp only at hSw); go_simp; with_reducible rfl)
        simp only [Act.put, List.setIfInBounds_toArray, List.set_cons_zero, List.set_cons_succ]
        refine wpAnyU_take (i := 6) (v := ?_) rfl (by kernel_rfl) (by kernel_rfl) (by kernel_rfl) (by kernel_rfl) (fun _ _ _ h => h) (Or.inl ⟨by rfl, ?_⟩) hH_ ?_
        rotate_left
        · (intro w hSw; (try dsimp only at hSw); go_simp <;> with_reducible rfl)
        simp only [Act.put, List.setIfInBounds_toArray, List.set_cons_zero, List.set_cons_succ]
        refine wpAnyU_take (i := 7) (v := ?_) rfl (by kernel_rfl) (by kernel_rfl) (by kernel_rfl) (by kernel_rfl) (fun _ _ _ h => h) (Or.inl ⟨by rfl, ?_⟩) hH_ ?_
        rotate_left
        · (intro w hSw; (try dsimp only at hSw); go_simp <;> with_reducible rfl)
        simp only [Act.put, List.setIfInBounds_toArray, List.set_cons_zero, List.set_cons_succ]
        refine wpAnyU_take (i := 8) (v := ?_) rfl (by kernel_rfl) (by kernel_rfl) (by kernel_rfl) (by kernel_rfl) (fun _ _ _ h => h) (Or.inl ⟨by rfl, ?_⟩) hH_ ?_
        rotate_left
        · (intro w hSw; (try dsimp only at hSw); go_simp <;> with_reducible rfl)
        simp only [Act.put, List.setIfInBounds_toArray, List.set_cons_zero, List.set_cons_succ]
        refine wpAnyU_take (i := 9) (v := ?_) rfl (by kernel_rfl) (by kernel_rfl) (by kernel_rfl) (by kernel_rfl) (fun _ _ _ h => h) (Or.inl ⟨by rfl, ?_⟩) hH_ ?_
        rotate_left
        · (intro w hSw; (try dsimp only at hSw); go_simp; (try simp only [hw0, hw1, hw2, hw3]); with_reducible rfl)
        simp only [Act.put, List.setIfInBounds_toArray, List.set_cons_zero, List.set_cons_succ]
        refine wpAnyU_take (i := 10) (v := ?_) rfl (by kernel_rfl) (by kernel_rfl) (by kernel_rfl) (by kernel_rfl) (fun _ _ _ h => h) (Or.inl ⟨by rfl, ?_⟩) hH_ ?_
        rotate_left
        · (intro w hSw; (try dsimp only at hSw); go_simp; (try simp only [hw0, hw1, hw2, hw3]); with_reducible rfl)
        simp only [Act.put, List.setIfInBounds_toArray, List.set_cons_zero, List.set_cons_succ]
        refine wpAnyU_take (i := 11) (v := ?_) rfl (by kernel_rfl) (by kernel_rfl) (by kernel_rfl) (by kernel_rfl) (fun _ _ _ h => h) (Or.inl ⟨by rfl, ?_⟩) hH_ ?_
        rotate_left
        · (intro w hSw; (try dsimp only at hSw); go_simp; with_reducible rfl)
        simp only [Act.put, List.setIfInBounds_toArray, List.set_cons_zero, List.set_cons_succ]
        refine wpAnyU_take (i := 12) (v := ?_) rfl (by kernel_rfl) (by kernel_rfl) (by kernel_rfl) (by kernel_rfl) (fun _ _ _ h => h) (Or.inl ⟨by rfl, ?_⟩) hH_ ?_
        rotate_left
        · (intro w hSw; (try dsimp only at hSw); go_simp <;> with_reducible rfl)
        simp only [Act.put, List.setIfInBounds_toArray, List.set_cons_zero, List.set_cons_succ]
        refine wpAnyU_take (i := 13) (v := ?_) rfl (by kernel_rfl) (by kernel_rfl) (by kernel_rfl) (by kernel_rfl) (fun _ _ _ h => h) (Or.inl ⟨by rfl, ?_⟩) hH_ ?_
        rotate_left
        · (intro w hSw; (try dsimp only at hSw); go_simp <;> with_reducible rfl)
        simp only [Act.put, List.setIfInBounds_toArray, List.set_cons_zero, List.set_cons_succ]
        refine wpAnyU_one (i := 14) (by kernel_rfl) rfl (fun K hK => ?_)
        go_simp
        refine hK.out _ _ ?_ (fun hH1_ => ?_)
        · exact ⟨cell_alloc_keep (km 5), cell_alloc_keep d0, cell_alloc_keep d1⟩
        clear hK K hH_
        have hH_ := hH1_
        clear hH1_
        refine wpAnyU_one' (i := 15) (by kernel_rfl) rfl (by kernel_rfl) (fun K hK => ?_)
        refine step_append_lies _ (by rfl) _ _ _ (by rfl) w2.heap.size 25 _ _ 2 16 Try.underlying23 rfl rfl rfl rfl rfl (by omega) _ 1 _ (by rfl) ((HO.out.alloc _).drew) ⟨wr.heap.size, 0, none⟩ 1 1 [.int .i64 a, .int .i64 a'] (by rfl) (by rfl) (World.news_of_block (cs := #[.int .i64 a, .int .i64 a']) (t := 25) (fr := (0, 0)) (heap_alloc_new wr _)) (by simp [Value.oneCell']) (by omega) (by have h := (by decide : maxLen = 9223372036854775807); omega) (by omega) (by simp; omega) (wr.heap.size + 1) (by simp) ?_
        intro gg cap w3 hown hgrow hat hlt2
        have KM3 := Lib.hid (((KM.out.alloc _).drew).chg (grown_chg hgrow) (fun h => by have := (hlo _ h).1; omega))
        obtain ⟨km3, jm3⟩ := KM3.out.rules
        have lm3 := KM3.out.lt
        refine hK.out _ _ ?_
        clear hK K
        refine wpAnyU_one' (i := 16) (by kernel_rfl) rfl (by kernel_rfl) (fun K hK => ?_)
        go_simp
        refine hK.out _ _ ?_
        clear hK K
        refine wpAnyU_one' (i := 17) (by kernel_rfl) rfl (by kernel_rfl) (fun K hK => ?_)
        go_simp
        refine hK.out _ _ ?_
        clear hK K
        refine wpAnyU_done (by kernel_rfl) ?_ _
        have HO3 : Hid (w3.ownsRow w2.heap.size 25 2 (.slice (some ⟨gg, 0, none⟩) 2 cap) 2 ((wiresOf (args.take (2 * 2))).flatMap vsWire)) := by
          unfold Hid; rw [HWI.out]; rw [List.flatMap_append]; exact hown
        have HS3 := Lib.hid ((Chg.refl (· = w1.heap.size) w3).setCell (p := ⟨w1.heap.size, 5, none⟩) (.inl rfl) (.slice (some ⟨gg, 0, none⟩) 2 cap))
        have hlo3 := HO3.out.lt
        have HO4 := Lib.hid (ownsRow_keep HO3.out HS3.out (fun k hk => by have := (hlo3 k hk).1; omega))
        have KM4 := Lib.hid (Blk.eq (KM3.out.set_ 5 (.slice (some ⟨gg, 0, none⟩) 2 cap)) (by simp) : Blk _ w1.heap.size _ #[.int .i64 x0, .int .i64 x1, .int .i64 x2, .int .i64 x3, .string ⟨#[]⟩, .slice (some ⟨gg, 0, none⟩) 2 cap, .int .i64 x8, .int .i64 x9, .int .i64 x4, .int .i64 x5, .int .i64 x6, .int .i64 x7])
        have HCH4 := Lib.hid (((HCH.out.trans ((((Chg.refl _ wr).alloc _).drew).trans ((grown_chg hgrow).mono (fun k _ h => .inr ((hlo k h).1))))).trans (HS3.out.mono (fun k _ h => .inl h))))
        clear hown hgrow hat hlt2 d0 d1
        go_wp2
        go_roundw
        case rel => exact ⟨2, _, cap, by omega, by go_num, KM4, HO4, HCH4⟩
        case measure => simp [intOf] <;> omega
    · have hix : x10 = i := by omega
      subst hix
      clear km jm lm hlo hlt
      have HL := Lib.hid (wiresOf_len x10 args hal)
      have HOW : Hid (wr.ownsRow w2.heap.size 25 2 (.slice A3 x10 c3) x10 ((wiresOf args).flatMap vsWire)) := by
        have h := HO.out
        rw [List.take_of_length_le (show args.length ≤ 2 * x10 by omega)] at h
        exact h
      have HBr := Lib.hid (below_chg HB2.out HCH.out HB2.out.size (fun k h => by omega))
      have Kr := Lib.hid (K2.out.chg HCH.out (by omega))
      have HC3 := Lib.hid (spec_ReadBytes_calls (.slice A b.length c) b p2 6 wr (HV.out.below HBr.out) hz hp2 (by omega))
      clear HO
      go_wp2_with fail
      refine HC3.out.mono ?_
      rintro e w4 ⟨hb4, h4⟩
      have z4 := hb4.size
      have K4 := Lib.hid (Kr.out.below hb4)
      have KM4 := Lib.hid (KM.out.below hb4)
      have HB4 := Lib.hid (HBr.out.trans (hb4.mono HBr.out.size))
      have HO4 := Lib.hid (ownsRow_below HOW.out hb4)
      clear hb4
      obtain ⟨k4, j4⟩ := K4.out.rules
      have l4 := K4.out.lt
      obtain ⟨km4, jm4⟩ := KM4.out.rules
      have lm4 := KM4.out.lt
      have hne1 : ¬ w1.heap.size = w.heap.size := by omega
      have hne2 : ¬ w.heap.size = w1.heap.size := by omega
      rcases h4 with ⟨h4, A0, c0, rfl, ho4⟩ | ⟨name, m, A4, c4, h4, hn6, hpm, rfl, ho4⟩
      · have HN := Lib.hid (decMsg_none4 H1.out (by rw [HX10.out]; omega) H2.out (show rdBytes (b.drop (p + (p2 - p))) 6 = none from by rw [show p + (p2 - p) = p2 from by omega]; exact h4))
        have hcv : Sem.run Try.prog (convert 22 9 (.slice A0 0 c0)) w4 = .ok (.string ⟨#[]⟩) w4 := run_conv_row w4 22 9 5 A0 c0 [] Try.underlying22 Try.underlying5 Try.underlying9 (ownsRow_rdw (xs := ([] : List UInt8)) vals_eByte ho4 (by simp))
        clear h4 ho4
        go_wp2
        refine post_cell2 (w0 := (w4.setCell ⟨w1.heap.size, 4, none⟩ (.string ⟨#[]⟩))) (fun k => k = w.heap.size) Try.results5 w.heap.size #[.int .i64 0, .int .i64 0, .int .i64 0, .int .i64 0, .string ⟨#[]⟩, .slice none 0 0, .int .i64 0, .int .i64 0, .int .i64 0, .int .i64 0, .int .i64 0, .int .i64 0] (.bool false) _ rfl (Blk.eq (((((((((((((K4.out.far (p := ⟨w1.heap.size, 4, none⟩) (by show w.heap.size ≠ w1.heap.size; omega) _).set_ 0 _).set_ 1 _).set_ 2 _).set_ 3 _).set_ 4 _).set_ 5 _).set_ 6 _).set_ 7 _).set_ 8 _).set_ 9 _).set_ 10 _).set_ 11 _) (by simp)) Try.underlying29 rfl (by kernel_rfl) rfl rfl (((((((((((((Chg.refl (· = w.heap.size) (w4.setCell ⟨w1.heap.size, 4, none⟩ (.string ⟨#[]⟩))).setCell (p := ⟨w.heap.size, 0, none⟩) (.inl rfl) _).setCell (p := ⟨w.heap.size, 1, none⟩) (.inl rfl) _).setCell (p := ⟨w.heap.size, 2, none⟩) (.inl rfl) _).setCell (p := ⟨w.heap.size, 3, none⟩) (.inl rfl) _).setCell (p := ⟨w.heap.size, 4, none⟩) (.inl rfl) _).setCell (p := ⟨w.heap.size, 5, none⟩) (.inl rfl) _).setCell (p := ⟨w.heap.size, 6, none⟩) (.inl rfl) _).setCell (p := ⟨w.heap.size, 7, none⟩) (.inl rfl) _).setCell (p := ⟨w.heap.size, 8, none⟩) (.inl rfl) _).setCell (p := ⟨w.heap.size, 9, none⟩) (.inl rfl) _).setCell (p := ⟨w.heap.size, 10, none⟩) (.inl rfl) _).setCell (p := ⟨w.heap.size, 11, none⟩) (.inl rfl) _) ?_
        intro W hW
        have hD := HN.out
        refine ⟨_, by unfold decodeMessage2; rw [hD]; rfl, ?_, below_chg (HB4.out.setCell (p := ⟨w1.heap.size, 4, none⟩) (by show w.heap.size ≤ w1.heap.size; omega) _) hW (HB4.out.setCell (p := ⟨w1.heap.size, 4, none⟩) (by show w.heap.size ≤ w1.heap.size; omega) _).size (fun k h => by omega)⟩
        unfold decodeMessage1
        rw [hD]
        exact mkrd_eMessage (x := zMessage) (rd_none W)
      have HP := Lib.hid (decMsg_parts H1.out (by rw [HX10.out]; omega) H2.out (show rdBytes (b.drop (p + (p2 - p))) 6 = some (name, m) from by rw [show p + (p2 - p) = p2 from by omega]; exact h4))
      have HDS := Lib.hid (decMsg_some H1.out (by rw [HX10.out]; omega) H2.out (show rdBytes (b.drop (p + (p2 - p))) 6 = some (name, m) from by rw [show p + (p2 - p) = p2 from by omega]; exact h4))
      obtain ⟨p3, hp3⟩ : ∃ p3, p3 = p2 + m := ⟨_, rfl⟩
      have HP3 := Lib.hid hp3
      rw [← hp3]
      have hcv : Sem.run Try.prog (convert 22 9 (.slice A4 name.length c4)) w4 = .ok (.string ⟨name.toArray⟩) w4 := run_conv_row w4 22 9 5 A4 c4 name Try.underlying22 Try.underlying5 Try.underlying9 (ownsRow_rdw vals_eByte ho4 (by omega))
      clear h4 ho4 hp3
      have KM5 : Hid (Blk (w4.setCell ⟨w1.heap.size, 4, none⟩ (.string ⟨name.toArray⟩)) w1.heap.size 29 #[.int .i64 x0, .int .i64 x1, .int .i64 x2, .int .i64 x3, .string ⟨name.toArray⟩, .slice A3 x10 c3, .int .i64 x8, .int .i64 x9, .int .i64 x4, .int .i64 x5, .int .i64 x6, .int .i64 x7]) := Lib.hid (Blk.eq (KM4.out.set_ 4 (.string ⟨name.toArray⟩)) (by simp))
      have HC5 := Lib.hid ((Chg.refl (· = w1.heap.size) w4).setCell (p := ⟨w1.heap.size, 4, none⟩) (.inl rfl) (.string ⟨name.toArray⟩))
      have hlo4 := HO4.out.lt
      have HO5 := Lib.hid (ownsRow_keep HO4.out HC5.out (fun k hk => by have := (hlo4 k hk).1; omega))
      have HR5 : Hid (RdLW (w4.setCell ⟨w1.heap.size, 4, none⟩ (.string ⟨name.toArray⟩)) (eMessage (⟨x0, x1, x2, x3, ⟨name.toArray⟩, wiresOf args, ⟨x8, x9⟩, x4, ⟨x5, x6, x7⟩⟩ : GMessage)) [.int .i64 x0, .int .i64 x1, .int .i64 x2, .int .i64 x3, .string ⟨name.toArray⟩, .slice A3 x10 c3, .int .i64 x8, .int .i64 x9, .int .i64 x4, .int .i64 x5, .int .i64 x6, .int .i64 x7]) := by
        have h := HO5.out
        have hl := HL.out
        unfold Hid
        rw [← hl] at h ⊢
        exact mkrd_eMessage (x := (⟨x0, x1, x2, x3, ⟨name.toArray⟩, wiresOf args, ⟨x8, x9⟩, x4, ⟨x5, x6, x7⟩⟩ : GMessage)) (ownsRow_rdw (xs := wiresOf args) vals_eWire h (by omega))
      have HZ5 := Lib.hid (siz_msg x0 x1 x2 x3 x8 x9 x4 x5 x6 x7 name (wiresOf args) hn6 (by rw [HL.out]; omega))
      have K5 : Hid (Blk (w4.setCell ⟨w1.heap.size, 4, none⟩ (.string ⟨name.toArray⟩)) w.heap.size 29 #[.int .i64 0, .int .i64 0, .int .i64 0, .int .i64 0, .string ⟨#[]⟩, .slice none 0 0, .int .i64 0, .int .i64 0, .int .i64 0, .int .i64 0, .int .i64 0, .int .i64 0]) := Lib.hid (K4.out.far (p := ⟨w1.heap.size, 4, none⟩) (by show w.heap.size ≠ w1.heap.size; omega) _)
      have HB5 : Hid (Below w.heap.size w (w4.setCell ⟨w1.heap.size, 4, none⟩ (.string ⟨name.toArray⟩))) := Lib.hid (HB4.out.setCell (p := ⟨w1.heap.size, 4, none⟩) (by show w.heap.size ≤ w1.heap.size; omega) _)
      clear hlo4
      by_cases hend : ¬ p3 = b.length
      · have HN : Hid (decMsg b = none) := by unfold Hid; rw [HDS.out, if_neg (by have := HP3.out; omega)]
        have hend' : ((p3 : Int) != (b.length : Int)) = true := by simp; omega
        go_wp2
        refine post_cell2 (w0 := (w4.setCell ⟨w1.heap.size, 4, none⟩ (.string ⟨name.toArray⟩))) (fun k => k = w.heap.size) Try.results5 w.heap.size #[.int .i64 0, .int .i64 0, .int .i64 0, .int .i64 0, .string ⟨#[]⟩, .slice none 0 0, .int .i64 0, .int .i64 0, .int .i64 0, .int .i64 0, .int .i64 0, .int .i64 0] (.bool false) _ rfl (Blk.eq (((((((((((((K4.out.far (p := ⟨w1.heap.size, 4, none⟩) (by show w.heap.size ≠ w1.heap.size; omega) _).set_ 0 _).set_ 1 _).set_ 2 _).set_ 3 _).set_ 4 _).set_ 5 _).set_ 6 _).set_ 7 _).set_ 8 _).set_ 9 _).set_ 10 _).set_ 11 _) (by simp)) Try.underlying29 rfl (by kernel_rfl) rfl rfl (((((((((((((Chg.refl (· = w.heap.size) (w4.setCell ⟨w1.heap.size, 4, none⟩ (.string ⟨name.toArray⟩))).setCell (p := ⟨w.heap.size, 0, none⟩) (.inl rfl) _).setCell (p := ⟨w.heap.size, 1, none⟩) (.inl rfl) _).setCell (p := ⟨w.heap.size, 2, none⟩) (.inl rfl) _).setCell (p := ⟨w.heap.size, 3, none⟩) (.inl rfl) _).setCell (p := ⟨w.heap.size, 4, none⟩) (.inl rfl) _).setCell (p := ⟨w.heap.size, 5, none⟩) (.inl rfl) _).setCell (p := ⟨w.heap.size, 6, none⟩) (.inl rfl) _).setCell (p := ⟨w.heap.size, 7, none⟩) (.inl rfl) _).setCell (p := ⟨w.heap.size, 8, none⟩) (.inl rfl) _).setCell (p := ⟨w.heap.size, 9, none⟩) (.inl rfl) _).setCell (p := ⟨w.heap.size, 10, none⟩) (.inl rfl) _).setCell (p := ⟨w.heap.size, 11, none⟩) (.inl rfl) _) ?_
        intro W hW
        have hD := HN.out
        refine ⟨_, by unfold decodeMessage2; rw [hD]; rfl, ?_, below_chg (HB4.out.setCell (p := ⟨w1.heap.size, 4, none⟩) (by show w.heap.size ≤ w1.heap.size; omega) _) hW (HB4.out.setCell (p := ⟨w1.heap.size, 4, none⟩) (by show w.heap.size ≤ w1.heap.size; omega) _).size (fun k h => by omega)⟩
        unfold decodeMessage1
        rw [hD]
        exact mkrd_eMessage (x := zMessage) (rd_none W)
      replace hend := Classical.not_not.1 hend
      have hend' : ((p3 : Int) != (b.length : Int)) = false := by simp; omega
      rcases Bool.eq_false_or_eq_true (isMessageB (⟨x0, x1, x2, x3, ⟨name.toArray⟩, wiresOf args, ⟨x8, x9⟩, x4, ⟨x5, x6, x7⟩⟩ : GMessage)) with hI | hI
      rotate_left
      · have HI := Lib.hid hI
        have HN : Hid (decMsg b = none) := by unfold Hid; rw [HDS.out, if_neg]; intro h; have h2 : isMessageB (⟨x0, x1, x2, x3, ⟨name.toArray⟩, wiresOf args, ⟨x8, x9⟩, x4, ⟨x5, x6, x7⟩⟩ : GMessage) = true := h.2; rw [hI] at h2; exact absurd h2 (by simp)
        clear hI
        go_wp2_with fail
        refine (spec_IsMessage_calls _ (⟨x0, x1, x2, x3, ⟨name.toArray⟩, wiresOf args, ⟨x8, x9⟩, x4, ⟨x5, x6, x7⟩⟩ : GMessage) _ HR5.out HZ5.out).mono ?_
        rintro e w6 ⟨rfl, hb6⟩
        rw [HI.out]
        have K6 := Lib.hid (K5.out.below hb6)
        have HB6 := Lib.hid (HB5.out.trans (hb6.mono HB5.out.size))
        have z6 := hb6.size
        clear hb6 k4 j4 l4
        obtain ⟨k4, j4⟩ := K6.out.rules
        have l4 := K6.out.lt
        go_wp2
        refine post_cell2 (w0 := w6) (fun k => k = w.heap.size) Try.results5 w.heap.size #[.int .i64 0, .int .i64 0, .int .i64 0, .int .i64 0, .string ⟨#[]⟩, .slice none 0 0, .int .i64 0, .int .i64 0, .int .i64 0, .int .i64 0, .int .i64 0, .int .i64 0] (.bool false) _ rfl (Blk.eq ((((((((((((K6.out.set_ 0 _).set_ 1 _).set_ 2 _).set_ 3 _).set_ 4 _).set_ 5 _).set_ 6 _).set_ 7 _).set_ 8 _).set_ 9 _).set_ 10 _).set_ 11 _) (by simp)) Try.underlying29 rfl (by kernel_rfl) rfl rfl (((((((((((((Chg.refl (· = w.heap.size) w6).setCell (p := ⟨w.heap.size, 0, none⟩) (.inl rfl) _).setCell (p := ⟨w.heap.size, 1, none⟩) (.inl rfl) _).setCell (p := ⟨w.heap.size, 2, none⟩) (.inl rfl) _).setCell (p := ⟨w.heap.size, 3, none⟩) (.inl rfl) _).setCell (p := ⟨w.heap.size, 4, none⟩) (.inl rfl) _).setCell (p := ⟨w.heap.size, 5, none⟩) (.inl rfl) _).setCell (p := ⟨w.heap.size, 6, none⟩) (.inl rfl) _).setCell (p := ⟨w.heap.size, 7, none⟩) (.inl rfl) _).setCell (p := ⟨w.heap.size, 8, none⟩) (.inl rfl) _).setCell (p := ⟨w.heap.size, 9, none⟩) (.inl rfl) _).setCell (p := ⟨w.heap.size, 10, none⟩) (.inl rfl) _).setCell (p := ⟨w.heap.size, 11, none⟩) (.inl rfl) _) ?_
        intro W hW
        have hD := HN.out
        refine ⟨_, by unfold decodeMessage2; rw [hD]; rfl, ?_, below_chg HB6.out hW HB6.out.size (fun k h => by omega)⟩
        unfold decodeMessage1
        rw [hD]
        exact mkrd_eMessage (x := zMessage) (rd_none W)
      have HI := Lib.hid hI
      have HS : Hid (decMsg b = some (⟨x0, x1, x2, x3, ⟨name.toArray⟩, wiresOf args, ⟨x8, x9⟩, x4, ⟨x5, x6, x7⟩⟩ : GMessage)) := by unfold Hid; rw [HDS.out, if_pos ⟨by have := HP3.out; omega, hI⟩]; rfl
      clear hI
      go_wp2_with fail
      refine (spec_IsMessage_calls _ (⟨x0, x1, x2, x3, ⟨name.toArray⟩, wiresOf args, ⟨x8, x9⟩, x4, ⟨x5, x6, x7⟩⟩ : GMessage) _ HR5.out HZ5.out).mono ?_
      rintro e w6 ⟨rfl, hb6⟩
      rw [HI.out]
      have K6 := Lib.hid (K5.out.below hb6)
      have KM6 := Lib.hid (KM5.out.below hb6)
      have HO6 := Lib.hid (ownsRow_below HO5.out hb6)
      have HB6 := Lib.hid (HB5.out.trans (hb6.mono HB5.out.size))
      have z6 := hb6.size
      clear hb6 k4 j4 l4 km4 jm4 lm4
      obtain ⟨k4, j4⟩ := K6.out.rules
      have l4 := K6.out.lt
      obtain ⟨km4, jm4⟩ := KM6.out.rules
      have lm4 := KM6.out.lt
      have z7 : w4.heap.size ≤ w6.heap.size := by simpa [World.setCell] using z6
      go_wp2
      refine post_cell2 (w0 := w6) (fun k => k = w.heap.size) Try.results5 w.heap.size #[.int .i64 x0, .int .i64 x1, .int .i64 x2, .int .i64 x3, .string ⟨name.toArray⟩, .slice A3 x10 c3, .int .i64 x8, .int .i64 x9, .int .i64 x4, .int .i64 x5, .int .i64 x6, .int .i64 x7] (.bool true) _ rfl (Blk.eq ((((((((((((K6.out.set_ 0 _).set_ 1 _).set_ 2 _).set_ 3 _).set_ 4 _).set_ 5 _).set_ 6 _).set_ 7 _).set_ 8 _).set_ 9 _).set_ 10 _).set_ 11 _) (by simp)) Try.underlying29 rfl (by kernel_rfl) rfl rfl (((((((((((((Chg.refl (· = w.heap.size) w6).setCell (p := ⟨w.heap.size, 0, none⟩) (.inl rfl) _).setCell (p := ⟨w.heap.size, 1, none⟩) (.inl rfl) _).setCell (p := ⟨w.heap.size, 2, none⟩) (.inl rfl) _).setCell (p := ⟨w.heap.size, 3, none⟩) (.inl rfl) _).setCell (p := ⟨w.heap.size, 4, none⟩) (.inl rfl) _).setCell (p := ⟨w.heap.size, 5, none⟩) (.inl rfl) _).setCell (p := ⟨w.heap.size, 6, none⟩) (.inl rfl) _).setCell (p := ⟨w.heap.size, 7, none⟩) (.inl rfl) _).setCell (p := ⟨w.heap.size, 8, none⟩) (.inl rfl) _).setCell (p := ⟨w.heap.size, 9, none⟩) (.inl rfl) _).setCell (p := ⟨w.heap.size, 10, none⟩) (.inl rfl) _).setCell (p := ⟨w.heap.size, 11, none⟩) (.inl rfl) _) ?_
      intro W hW
      have hD := HS.out
      have hlo6 := HO6.out.lt
      have P6 := ownsRow_keep HO6.out hW (fun k hk => by have := (hlo6 k hk).1; omega)
      refine ⟨_, by unfold decodeMessage2; rw [hD]; rfl, ?_, below_chg HB6.out hW HB6.out.size (fun k h => by omega)⟩
      unfold decodeMessage1
      rw [hD]
      have hl6 := HL.out
      rw [← hl6] at P6
      rw [← hl6]
      exact mkrd_eMessage (x := (⟨x0, x1, x2, x3, ⟨name.toArray⟩, wiresOf args, ⟨x8, x9⟩, x4, ⟨x5, x6, x7⟩⟩ : GMessage)) (ownsRow_rdw (xs := wiresOf args) vals_eWire P6 (by omega))

end Go.Proofs.Ytklbpjnpmbidiaa
