import Derived.Test.YtklbpjnpmbidiaaProg
import Derived.Test.YtklbpjnpmbidiaaTypes
import Derived.StillTailTactics
import Derived.Deep.RegionWith
import Derived.Deep.AppendLies
import Derived.Deep.CutRange
import Derived.Deep.RegionHeld3
import Derived.Laws.IdiomStrings
import Derived.Test.YtklbpjnpmbidiaaAppend
import Derived.Laws.StructEq
import Derived.Lib.SliceRun
import Derived.Shelf.RegionOpenPlain
import Derived.Test.YtklbpjnpmbidiaaDrawM6
import Derived.Test.YtklbpjnpmbidiaaDecMI
import Derived.Test.YtklbpjnpmbidiaaPureMsgs
import Derived.Test.YtklbpjnpmbidiaaMessage
import Derived.Test.YtklbpjnpmbidiaaIsMsgI
import Derived.Test.YtklbpjnpmbidiaaIsMsgS
namespace Go.Proofs.Ytklbpjnpmbidiaa
open Go.RowKit
set_option linter.unusedVariables false
set_option linter.unusedSimpArgs false

set_option maxHeartbeats 1600000 in
theorem laws_big_calls (A : Option Addr) (n c : Nat) (w : World) (h : n ≤ 1048576) :
    Calls Try.prog 13 #[.slice A n c] w fun e w' => e = .returned (.bool false) ∧ w' = w := by
  have hn : ¬ (1048576 : Int) < n := by omega
  go_enter Try.func13, Try.ntmps13
  go_wp2
  go_ret
  exact ⟨rfl, rfl⟩
set_option maxHeartbeats 1600000 in
theorem laws_big_calls' (A : Option Addr) (n c : Nat) (w : World) (hn : (1048576 : Int) < n) :
    Calls Try.prog 13 #[.slice A n c] w fun e w' => e = .returned (.bool true) ∧ w' = w := by
  go_enter Try.func13, Try.ntmps13
  go_wp2
  go_ret
  exact ⟨rfl, rfl⟩
theorem sameMessage_refl (x : GMessage) : sameMessage x x = true := by
  have h : sameL eqbWire x.Args x.Args = true := sameL_all rfl (fun i a b h1 h2 => by rw [h1] at h2; injection h2 with h2; subst h2; exact eqbWire_refl _)
  simp [sameMessage, eqbWire_refl, eqbTag_refl, h]
set_option maxHeartbeats 6400000 in
set_option maxRecDepth 100000 in
theorem FnMessages_calls (w : World) (vaB : Value) (aB : List UInt8) (raB : RdW w (.s aB.length (aB.flatMap eByte)) vaB) :
    Calls Try.prog 4 #[vaB] w fun e w' => e = .returned (.bool true) ∧ Below w.heap.size w w' := by
  obtain ⟨AaB, caB, rfl, -⟩ := raB.slice
  have ARaB := Lib.hid raB
  clear raB
  go_enter Try.func4, Try.ntmps4
  by_cases hlenaB : (1048576 : Int) < aB.length
  · go_wp2_with fail
    refine (laws_big_calls' _ _ _ _ hlenaB).mono ?_
    rintro e w0 ⟨rfl, rfl⟩
    go_wp2
    go_ret
    exact ⟨rfl, (Below.refl _ _)⟩
  have hszaB : aB.length ≤ 1048576 := by omega
  go_wp2_with fail
  refine (laws_big_calls _ _ _ _ hszaB).mono ?_
  rintro e w0 ⟨rfl, hw0⟩
  have hw0' := hw0.symm
  subst hw0'
  clear hw0
  go_wp2_with fail
  refine (spec_DrawIsMessage_calls _ aB _ ARaB.out hszaB).mono ?_
  rintro e w1 ⟨x, us, rfl, hx, hna, hnn, hb_⟩
  have hs1 := hb_.size
  have hzx : sizL (eMessage x) ≤ 1048576 := by rw [siz_eMessage, siz_wires]; omega
  have HZX := Lib.hid hzx
  obtain ⟨v5, rfl, h5⟩ := rd_eMessage hx
  obtain ⟨A5, c5, rfl, -⟩ := h5.slice
  have HX := Lib.hid (hx.below ((Below.refl _ _).alloc (Nat.le_refl _) (.cells #[.int .i64 x.Kind, .int .i64 x.Pos, .int .i64 x.Answer, .int .i64 x.Question, .string x.Name, .slice A5 x.Args.length c5, .int .i64 x.Value.Kind, .int .i64 x.Value.N, .int .i64 x.Count, .int .i64 x.Tag.Vat, .int .i64 x.Tag.Entity, .int .i64 x.Tag.Seq] 29)))
  have HK := Lib.hid (Blk.new w1 29 #[.int .i64 x.Kind, .int .i64 x.Pos, .int .i64 x.Answer, .int .i64 x.Question, .string x.Name, .slice A5 x.Args.length c5, .int .i64 x.Value.Kind, .int .i64 x.Value.N, .int .i64 x.Count, .int .i64 x.Tag.Vat, .int .i64 x.Tag.Entity, .int .i64 x.Tag.Seq])
  have HB := Lib.hid (hb_.alloc hs1 (.cells #[.int .i64 x.Kind, .int .i64 x.Pos, .int .i64 x.Answer, .int .i64 x.Question, .string x.Name, .slice A5 x.Args.length c5, .int .i64 x.Value.Kind, .int .i64 x.Value.N, .int .i64 x.Count, .int .i64 x.Tag.Vat, .int .i64 x.Tag.Entity, .int .i64 x.Tag.Seq] 29))
  clear hb_ hx h5 hzx
  obtain ⟨k1, f1⟩ := HK.out.rules
  have l1 := HK.out.lt
  go_wp2_with fail
  refine (impl_EncodeMessage_calls _ x _ HX.out HZX.out).mono ?_
  rintro e w2 ⟨v2, fp2, rfl, ho2, _, hb_⟩
  have hs2 := hb_.size
  simp only [size_alloc] at hs2
  have HX2 := Lib.hid (HX.out.below hb_)
  have HK2 := Lib.hid (HK.out.below hb_)
  have HB2 := Lib.hid (HB.out.trans (hb_.mono HB.out.size))
  have HE2 := Lib.hid ho2.rdw
  have HEL := Lib.hid (encodeMessage_len x)
  clear ho2 hb_ k1 f1
  obtain ⟨k2, f2⟩ := HK2.out.rules
  have l2 := HK2.out.lt
  go_wp2_with fail
  refine (impl_DecodeMessage_calls _ (encodeMessage x) _ HE2.out (by have := HEL.out; omega)).mono ?_
  rintro e w3 ⟨us3, fp3, rfl, ho3, _, hb_⟩
  rw [decode_enc]
  have hsame := @decode_same x
  generalize decodeMessage1 (encodeMessage x) = y at *
  have hs3 := hb_.size
  obtain ⟨v6, rfl, h6⟩ := rd_eMessage ho3.rdw
  obtain ⟨A6, c6, rfl, -⟩ := h6.slice
  have HX3 := Lib.hid ((HX2.out.below hb_).below ((Below.refl _ _).alloc (Nat.le_refl _) (.cells #[.int .i64 y.Kind, .int .i64 y.Pos, .int .i64 y.Answer, .int .i64 y.Question, .string y.Name, .slice A6 y.Args.length c6, .int .i64 y.Value.Kind, .int .i64 y.Value.N, .int .i64 y.Count, .int .i64 y.Tag.Vat, .int .i64 y.Tag.Entity, .int .i64 y.Tag.Seq] 29)))
  have HY3 := Lib.hid (ho3.rdw.below ((Below.refl _ _).alloc (Nat.le_refl _) (.cells #[.int .i64 y.Kind, .int .i64 y.Pos, .int .i64 y.Answer, .int .i64 y.Question, .string y.Name, .slice A6 y.Args.length c6, .int .i64 y.Value.Kind, .int .i64 y.Value.N, .int .i64 y.Count, .int .i64 y.Tag.Vat, .int .i64 y.Tag.Entity, .int .i64 y.Tag.Seq] 29)))
  have HK3 := Lib.hid ((HK2.out.below hb_).alloc (.cells #[.int .i64 y.Kind, .int .i64 y.Pos, .int .i64 y.Answer, .int .i64 y.Question, .string y.Name, .slice A6 y.Args.length c6, .int .i64 y.Value.Kind, .int .i64 y.Value.N, .int .i64 y.Count, .int .i64 y.Tag.Vat, .int .i64 y.Tag.Entity, .int .i64 y.Tag.Seq] 29))
  have HKY := Lib.hid (Blk.new w3 29 #[.int .i64 y.Kind, .int .i64 y.Pos, .int .i64 y.Answer, .int .i64 y.Question, .string y.Name, .slice A6 y.Args.length c6, .int .i64 y.Value.Kind, .int .i64 y.Value.N, .int .i64 y.Count, .int .i64 y.Tag.Vat, .int .i64 y.Tag.Entity, .int .i64 y.Tag.Seq])
  have HB3' := Lib.hid (HB2.out.trans (hb_.mono HB2.out.size))
  have HB3 := Lib.hid (HB3'.out.alloc HB3'.out.size (.cells #[.int .i64 y.Kind, .int .i64 y.Pos, .int .i64 y.Answer, .int .i64 y.Question, .string y.Name, .slice A6 y.Args.length c6, .int .i64 y.Value.Kind, .int .i64 y.Value.N, .int .i64 y.Count, .int .i64 y.Tag.Vat, .int .i64 y.Tag.Entity, .int .i64 y.Tag.Seq] 29))
  clear ho3 hb_ h6 k2 f2
  obtain ⟨k3, f3⟩ := HK3.out.rules
  have l3 := HK3.out.lt
  obtain ⟨ky, fy⟩ := HKY.out.rules
  have ly := HKY.out.lt
  go_wp2_with fail
  refine (spec_IsMessage_calls _ x _ HX3.out HZX.out).mono ?_
  rintro e w4 ⟨rfl, hb_⟩
  have HX4 := Lib.hid (HX3.out.below hb_)
  have HY4 := Lib.hid (HY3.out.below hb_)
  have HK4 := Lib.hid (HK3.out.below hb_)
  have HKY4 := Lib.hid (HKY.out.below hb_)
  have HB4 := Lib.hid (HB3.out.trans (hb_.mono HB3.out.size))
  clear hb_ k3 f3 ky fy l3 ly
  obtain ⟨k4, f4⟩ := HK4.out.rules
  have l4 := HK4.out.lt
  obtain ⟨ky, fy⟩ := HKY4.out.rules
  have ly := HKY4.out.lt
  rcases Bool.eq_false_or_eq_true (isMessageB x) with hI | hI
  · have hyx := hsame hI
    have HS : Hid (sameMessage y x = true) := by unfold Hid; rw [hyx]; exact sameMessage_refl x
    have HZY : Hid (sizL (eMessage y) ≤ 1048576) := by unfold Hid; rw [hyx]; exact HZX.out
    rw [hI]
    clear hI hyx hsame
    go_wp2_with fail
    refine (impl_EqualMessages_calls _ y _ x _ HY4.out HX4.out HZY.out HZX.out).mono ?_
    rintro e w5 ⟨rfl, hb_⟩
    rw [HS.out]
    have HB5 := Lib.hid (HB4.out.trans (hb_.mono HB4.out.size))
    clear hb_ k4 f4 ky fy l4 ly
    go_wp2_with fail
    refine (spec_DrawDecodeMessage_calls _ aB _ (ARaB.out.below HB5.out) hszaB).mono ?_
    rintro e wb ⟨b', v', rfl, hr', hl', hb_⟩
    have HBb := Lib.hid (HB5.out.trans (hb_.mono HB5.out.size))
    have HRb := Lib.hid hr'
    obtain ⟨Ab, cb, rfl, -⟩ := hr'.slice
    clear hr' hb_
    go_wp2_with fail
    refine (impl_DecodeMessage_calls _ b' _ HRb.out hl').mono ?_
    rintro e wc ⟨us5, fp5, rfl, ho5, _, hb_⟩
    have hdz := @siz_dec b'
    have hok := @decode_ok b'
    generalize decodeMessage1 b' = z at *
    obtain ⟨v7, rfl, h7⟩ := rd_eMessage ho5.rdw
    obtain ⟨A7, c7, rfl, -⟩ := h7.slice
    have HZ := Lib.hid (ho5.rdw.below ((Below.refl _ _).alloc (Nat.le_refl _) (.cells #[.int .i64 z.Kind, .int .i64 z.Pos, .int .i64 z.Answer, .int .i64 z.Question, .string z.Name, .slice A7 z.Args.length c7, .int .i64 z.Value.Kind, .int .i64 z.Value.N, .int .i64 z.Count, .int .i64 z.Tag.Vat, .int .i64 z.Tag.Entity, .int .i64 z.Tag.Seq] 29)))
    have HKZ := Lib.hid (Blk.new wc 29 #[.int .i64 z.Kind, .int .i64 z.Pos, .int .i64 z.Answer, .int .i64 z.Question, .string z.Name, .slice A7 z.Args.length c7, .int .i64 z.Value.Kind, .int .i64 z.Value.N, .int .i64 z.Count, .int .i64 z.Tag.Vat, .int .i64 z.Tag.Entity, .int .i64 z.Tag.Seq])
    have HBc := Lib.hid (HBb.out.trans (hb_.mono HBb.out.size))
    have HBd := Lib.hid (HBc.out.alloc HBc.out.size (.cells #[.int .i64 z.Kind, .int .i64 z.Pos, .int .i64 z.Answer, .int .i64 z.Question, .string z.Name, .slice A7 z.Args.length c7, .int .i64 z.Value.Kind, .int .i64 z.Value.N, .int .i64 z.Count, .int .i64 z.Tag.Vat, .int .i64 z.Tag.Entity, .int .i64 z.Tag.Seq] 29))
    have HRd := Lib.hid ((HRb.out.below hb_).alloc (.cells #[.int .i64 z.Kind, .int .i64 z.Pos, .int .i64 z.Answer, .int .i64 z.Question, .string z.Name, .slice A7 z.Args.length c7, .int .i64 z.Value.Kind, .int .i64 z.Value.N, .int .i64 z.Count, .int .i64 z.Tag.Vat, .int .i64 z.Tag.Entity, .int .i64 z.Tag.Seq] 29))
    clear ho5 h7 hb_
    obtain ⟨kz, fz⟩ := HKZ.out.rules
    have lz := HKZ.out.lt
    rcases Bool.eq_false_or_eq_true (decodeMessage2 b') with hd | hd
    · have HZS := Lib.hid (hdz hd)
      have HOK := Lib.hid (hok hd)
      rw [hd]
      clear hd hdz hok
      go_wp2_with fail
      refine (impl_IsMessage_calls _ z _ HZ.out HZS.out).mono ?_
      rintro e wd ⟨rfl, hb_⟩
      rw [HOK.out.1]
      have HZ2 := Lib.hid (HZ.out.below hb_)
      have HKZ2 := Lib.hid (HKZ.out.below hb_)
      have HBe := Lib.hid (HBd.out.trans (hb_.mono HBd.out.size))
      have HRe := Lib.hid (HRd.out.below hb_)
      clear hb_ kz fz lz
      obtain ⟨kz, fz⟩ := HKZ2.out.rules
      have lz := HKZ2.out.lt
      go_wp2_with fail
      refine (impl_EncodeMessage_calls _ z _ HZ2.out HZS.out).mono ?_
      rintro e we ⟨v8, fp8, rfl, ho8, _, hb_⟩
      rw [HOK.out.2] at ho8
      have HBf := Lib.hid (HBe.out.trans (hb_.mono HBe.out.size))
      have HRf := Lib.hid (HRe.out.below hb_)
      have HE8 := Lib.hid ho8.rdw
      clear hb_ ho8 kz fz lz
      go_wp2_with fail
      refine (laws_sameBytes_calls _ _ b' _ HE8.out HRf.out hl').mono ?_
      rintro e wf ⟨rfl, hb_⟩
      have HBg := Lib.hid (HBf.out.trans (hb_.mono HBf.out.size))
      clear hb_
      go_wp2
      go_ret
      exact ⟨rfl, HBg.out⟩
    · rw [hd]
      clear hd hdz hok
      go_wp2
      go_ret
      exact ⟨rfl, HBd.out⟩
  · rw [hI]
    clear hI hsame k4 f4 l4 ky fy ly
    go_wp2_with fail
    refine (spec_DrawDecodeMessage_calls _ aB _ (ARaB.out.below HB4.out) hszaB).mono ?_
    rintro e wb ⟨b', v', rfl, hr', hl', hb_⟩
    have HBb := Lib.hid (HB4.out.trans (hb_.mono HB4.out.size))
    have HRb := Lib.hid hr'
    obtain ⟨Ab, cb, rfl, -⟩ := hr'.slice
    clear hr' hb_
    go_wp2_with fail
    refine (impl_DecodeMessage_calls _ b' _ HRb.out hl').mono ?_
    rintro e wc ⟨us5, fp5, rfl, ho5, _, hb_⟩
    have hdz := @siz_dec b'
    have hok := @decode_ok b'
    generalize decodeMessage1 b' = z at *
    obtain ⟨v7, rfl, h7⟩ := rd_eMessage ho5.rdw
    obtain ⟨A7, c7, rfl, -⟩ := h7.slice
    have HZ := Lib.hid (ho5.rdw.below ((Below.refl _ _).alloc (Nat.le_refl _) (.cells #[.int .i64 z.Kind, .int .i64 z.Pos, .int .i64 z.Answer, .int .i64 z.Question, .string z.Name, .slice A7 z.Args.length c7, .int .i64 z.Value.Kind, .int .i64 z.Value.N, .int .i64 z.Count, .int .i64 z.Tag.Vat, .int .i64 z.Tag.Entity, .int .i64 z.Tag.Seq] 29)))
    have HKZ := Lib.hid (Blk.new wc 29 #[.int .i64 z.Kind, .int .i64 z.Pos, .int .i64 z.Answer, .int .i64 z.Question, .string z.Name, .slice A7 z.Args.length c7, .int .i64 z.Value.Kind, .int .i64 z.Value.N, .int .i64 z.Count, .int .i64 z.Tag.Vat, .int .i64 z.Tag.Entity, .int .i64 z.Tag.Seq])
    have HBc := Lib.hid (HBb.out.trans (hb_.mono HBb.out.size))
    have HBd := Lib.hid (HBc.out.alloc HBc.out.size (.cells #[.int .i64 z.Kind, .int .i64 z.Pos, .int .i64 z.Answer, .int .i64 z.Question, .string z.Name, .slice A7 z.Args.length c7, .int .i64 z.Value.Kind, .int .i64 z.Value.N, .int .i64 z.Count, .int .i64 z.Tag.Vat, .int .i64 z.Tag.Entity, .int .i64 z.Tag.Seq] 29))
    have HRd := Lib.hid ((HRb.out.below hb_).alloc (.cells #[.int .i64 z.Kind, .int .i64 z.Pos, .int .i64 z.Answer, .int .i64 z.Question, .string z.Name, .slice A7 z.Args.length c7, .int .i64 z.Value.Kind, .int .i64 z.Value.N, .int .i64 z.Count, .int .i64 z.Tag.Vat, .int .i64 z.Tag.Entity, .int .i64 z.Tag.Seq] 29))
    clear ho5 h7 hb_
    obtain ⟨kz, fz⟩ := HKZ.out.rules
    have lz := HKZ.out.lt
    rcases Bool.eq_false_or_eq_true (decodeMessage2 b') with hd | hd
    · have HZS := Lib.hid (hdz hd)
      have HOK := Lib.hid (hok hd)
      rw [hd]
      clear hd hdz hok
      go_wp2_with fail
      refine (impl_IsMessage_calls _ z _ HZ.out HZS.out).mono ?_
      rintro e wd ⟨rfl, hb_⟩
      rw [HOK.out.1]
      have HZ2 := Lib.hid (HZ.out.below hb_)
      have HKZ2 := Lib.hid (HKZ.out.below hb_)
      have HBe := Lib.hid (HBd.out.trans (hb_.mono HBd.out.size))
      have HRe := Lib.hid (HRd.out.below hb_)
      clear hb_ kz fz lz
      obtain ⟨kz, fz⟩ := HKZ2.out.rules
      have lz := HKZ2.out.lt
      go_wp2_with fail
      refine (impl_EncodeMessage_calls _ z _ HZ2.out HZS.out).mono ?_
      rintro e we ⟨v8, fp8, rfl, ho8, _, hb_⟩
      rw [HOK.out.2] at ho8
      have HBf := Lib.hid (HBe.out.trans (hb_.mono HBe.out.size))
      have HRf := Lib.hid (HRe.out.below hb_)
      have HE8 := Lib.hid ho8.rdw
      clear hb_ ho8 kz fz lz
      go_wp2_with fail
      refine (laws_sameBytes_calls _ _ b' _ HE8.out HRf.out hl').mono ?_
      rintro e wf ⟨rfl, hb_⟩
      have HBg := Lib.hid (HBf.out.trans (hb_.mono HBf.out.size))
      clear hb_
      go_wp2
      go_ret
      exact ⟨rfl, HBg.out⟩
    · rw [hd]
      clear hd hdz hok
      go_wp2
      go_ret
      exact ⟨rfl, HBd.out⟩

end Go.Proofs.Ytklbpjnpmbidiaa
