import Derived.Test.YtklbpjnpmbidiaaProg
import Derived.Test.YtklbpjnpmbidiaaTypes
import Derived.StillTailTactics
import Derived.Deep.RegionWith
import Derived.Deep.AppendLies
import Derived.Deep.CutRange
import Derived.Deep.RegionHeld3
import Derived.Laws.IdiomStrings
import Derived.Test.YtklbpjnpmbidiaaAppend
import Derived.Laws.StructEq
import Derived.Lib.SliceRun
import Derived.Shelf.RegionOpenPlain
import Derived.Test.YtklbpjnpmbidiaaDrawM4
namespace Go.Proofs.Ytklbpjnpmbidiaa
open Go.RowKit
set_option linter.unusedVariables false
set_option linter.unusedSimpArgs false

set_option maxHeartbeats 1600000 in
theorem laws_sameBytes_calls (v v' : Value) (b : List UInt8) (w : World) (hr : RdW w (.s b.length (b.flatMap eByte)) v) (hr' : RdW w (.s b.length (b.flatMap eByte)) v') (hz : b.length ≤ 1048576) :
    Calls Try.prog 20 #[v, v'] w fun e w' => e = .returned (.bool true) ∧ Below w.heap.size w w' := by
  obtain ⟨A, c, rfl, ⟨_, _, hl⟩⟩ := hr.slice
  obtain ⟨A', c', rfl, ⟨_, _, _⟩⟩ := hr'.slice
  have HR := Lib.hid hr
  have HR' := Lib.hid hr'
  clear hr hr'
  go_enter Try.func20, Try.ntmps20
  go_wp2
  go_loopw [5] (fun a_ wr => ∃ (i : Nat), i ≤ b.length ∧ a_ = .int .i64 i ∧ Hid (Below w.heap.size w wr)) (fun a_ wr => b.length - (intOf a_).toNat)
  case atStart => exact ⟨0, by omega, rfl, Lib.hid (Below.refl _ _)⟩
  case round =>
    obtain ⟨i, hi, rfl, HB⟩ := hrel
    by_cases hlt : i < b.length
    · obtain ⟨x, hx⟩ : ∃ x, b[i]? = some x := ⟨b[i], List.getElem?_eq_getElem hlt⟩
      obtain ⟨ad, rfl, hab, h0⟩ := row_eByte (HR.out.below HB.out) hx
      obtain ⟨ad', rfl, hab', h0'⟩ := row_eByte (HR'.out.below HB.out) hx
      clear hx
      go_wp2
      go_quiet (fail)
      go_wp2
      go_roundw
      case rel => exact ⟨i + 1, by omega, by go_num, Lib.hid (belowN HB.out _)⟩
      case measure => simp [intOf]; omega
    · go_wp2
      go_ret
      exact ⟨rfl, HB.out⟩
theorem MsgAt.rd {L : Nat} {w : World} {x : GMessage} {us : List Value} (h : MsgAt L w x us) (ha : x.Args.length ≤ 3) : RdLW w (eMessage x) us := by
  obtain ⟨A, c, B, rfl, _, _, ho⟩ := h
  exact mkrd_eMessage (ownsRow_rdw vals_eWire ho (by omega))
set_option maxHeartbeats 3200000 in
set_option maxRecDepth 100000 in
theorem spec_DrawIsMessage_calls (v : Value) (b : List UInt8) (w : World) (hr : RdW w (.s b.length (b.flatMap eByte)) v) (hz : b.length ≤ 1048576) :
    Calls Try.prog 14 #[v] w fun e w' => ∃ x us, e = .returned (.agg us.toArray) ∧ RdLW w' (eMessage x) us ∧ x.Args.length ≤ 3 ∧ x.Name.size ≤ 7 ∧ Below w.heap.size w w' := by
  obtain ⟨A0, c0, rfl, -⟩ := hr.slice
  have HB0 := Lib.hid ((Below.refl w.heap.size w).alloc (Nat.le_refl _) (.cells #[.int .i64 0, .int .i64 0, .int .i64 0, .int .i64 0, .string ⟨#[]⟩, .slice none 0 0, .int .i64 0, .int .i64 0, .int .i64 0, .int .i64 0, .int .i64 0, .int .i64 0] 29))
  have HR := Lib.hid (hr.below HB0.out)
  have HKR := Lib.hid (Blk.new w 29 #[.int .i64 0, .int .i64 0, .int .i64 0, .int .i64 0, .string ⟨#[]⟩, .slice none 0 0, .int .i64 0, .int .i64 0, .int .i64 0, .int .i64 0, .int .i64 0, .int .i64 0])
  clear hr
  go_enter Try.func14, Try.ntmps14
  go_wp2_with fail
  refine (spec_l1New_calls _ b _ HR.out hz).mono ?_
  rintro e w1 ⟨he_, hc_, hb_⟩
  have hs1 := hb_.size
  simp only [size_alloc] at hs1 he_ hc_
  subst he_
  have HC := Lib.hid hc_
  have HB1 := Lib.hid (HB0.out.trans (hb_.mono HB0.out.size))
  have HKR1 := Lib.hid (HKR.out.below hb_)
  clear hc_ hb_
  obtain ⟨k1, f1⟩ := HKR1.out.rules
  have l1 := HKR1.out.lt
  go_wp2_with fail
  refine (spec_l11Any_calls _ (w.heap.size + 1) _ HC.out).mono ?_
  rintro e w2 ⟨x, us, rfl, ⟨A, c, B, rfl, hB1, hB2, ho⟩, hna, hnn, hc_, hg_⟩
  have hs2 := hg_.size
  have HKR2 := Lib.hid (HKR1.out.chg hg_ (by simp))
  have HB2 := Lib.hid (below_chg HB1.out hg_ (by omega) (by rintro _ rfl; simp))
  have HO := Lib.hid ho
  have HNN := Lib.hid hnn
  clear hc_ hg_ k1 f1 ho hnn
  obtain ⟨k2, f2⟩ := HKR2.out.rules
  have l2 := HKR2.out.lt
  go_wp2
  refine post_cell (w0 := w2) (fun k => k = w.heap.size) Try.results14 w.heap.size #[.int .i64 x.Kind, .int .i64 x.Pos, .int .i64 x.Answer, .int .i64 x.Question, .string x.Name, .slice A x.Args.length c, .int .i64 x.Value.Kind, .int .i64 x.Value.N, .int .i64 x.Count, .int .i64 x.Tag.Vat, .int .i64 x.Tag.Entity, .int .i64 x.Tag.Seq] _ rfl (Blk.eq ((((((((((((HKR2.out.set_ 0 _).set_ 1 _).set_ 2 _).set_ 3 _).set_ 4 _).set_ 5 _).set_ 6 _).set_ 7 _).set_ 8 _).set_ 9 _).set_ 10 _).set_ 11 _) (by simp)) Try.underlying29 rfl (by kernel_rfl) rfl (((((((((((((Chg.refl (· = w.heap.size) _).setCell (p := ⟨w.heap.size, 0, none⟩) (.inl rfl) _).setCell (p := ⟨w.heap.size, 1, none⟩) (.inl rfl) _).setCell (p := ⟨w.heap.size, 2, none⟩) (.inl rfl) _).setCell (p := ⟨w.heap.size, 3, none⟩) (.inl rfl) _).setCell (p := ⟨w.heap.size, 4, none⟩) (.inl rfl) _).setCell (p := ⟨w.heap.size, 5, none⟩) (.inl rfl) _).setCell (p := ⟨w.heap.size, 6, none⟩) (.inl rfl) _).setCell (p := ⟨w.heap.size, 7, none⟩) (.inl rfl) _).setCell (p := ⟨w.heap.size, 8, none⟩) (.inl rfl) _).setCell (p := ⟨w.heap.size, 9, none⟩) (.inl rfl) _).setCell (p := ⟨w.heap.size, 10, none⟩) (.inl rfl) _).setCell (p := ⟨w.heap.size, 11, none⟩) (.inl rfl) _) ?_
  intro W h3
  refine ⟨x, _, rfl, MsgAt.rd ⟨A, c, B, rfl, hB1, Nat.le_trans hB2 h3.size, ownsRow_keep HO.out h3 (fun k hk e => by have := (HO.out.lt k hk).1; omega)⟩ hna, hna, HNN.out, below_chg HB2.out h3 (by omega) (by rintro _ rfl; omega)⟩

end Go.Proofs.Ytklbpjnpmbidiaa
