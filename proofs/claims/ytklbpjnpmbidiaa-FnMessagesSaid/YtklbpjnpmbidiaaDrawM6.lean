import Derived.Test.YtklbpjnpmbidiaaProg
import Derived.Test.YtklbpjnpmbidiaaTypes
import Derived.StillTailTactics
import Derived.Deep.RegionWith
import Derived.Deep.AppendLies
import Derived.Deep.CutRange
import Derived.Deep.RegionHeld3
import Derived.Laws.IdiomStrings
import Derived.Test.YtklbpjnpmbidiaaAppend
import Derived.Laws.StructEq
import Derived.Lib.SliceRun
import Derived.Shelf.RegionOpenPlain
import Derived.Test.YtklbpjnpmbidiaaDrawM5
import Derived.Test.YtklbpjnpmbidiaaDecI
import Derived.Test.YtklbpjnpmbidiaaEncM
namespace Go.Proofs.Ytklbpjnpmbidiaa
open Go.RowKit
set_option linter.unusedVariables false
set_option linter.unusedSimpArgs false

set_option maxHeartbeats 6400000 in
set_option maxRecDepth 100000 in
theorem spec_l1Bent_calls (W0 : World) (g : Nat) (v : Value) (b : List UInt8) (w : World) (hC : Cur W0 g w) (hr : RdW w (.s b.length (b.flatMap eByte)) v) (hz : b.length ≤ 1048576) :
    Calls Try.prog 41 #[.pointer (some ⟨g, 0, none⟩), v] w fun e w' => ∃ (b' : List UInt8) (v' : Value), e = .returned v' ∧ RdW w' (.s b'.length (b'.flatMap eByte)) v' ∧ b'.length ≤ b.length + 1 ∧ Chg (· = g) w w' := by
  obtain ⟨A, c, rfl, ⟨_, _, hl⟩⟩ := hr.slice
  have hlt := hC.lt
  have HC0 := Lib.hid hC
  have HR := Lib.hid hr
  clear hC hr
  go_enter Try.func41, Try.ntmps41
  go_wp2_with (at_builtin; refine wpList_copy_rd rfl _ _ 22 rfl (w.heap.size) 5 _ _ 1 1 Try.underlying22 rfl rfl rfl rfl rfl (by omega) _ rfl (ownsRow_made' rfl (Nat.le_refl _)) vals_eByte b (one_eByte b) (lenv_eByte b) _ _ rfl (HR.out.alloc _) (by omega) (by omega) (by simp) ?_)
  intro A1 c1 w1 ho1 hg1
  have hb1 := ((Below.refl w.heap.size w).alloc (Nat.le_refl _) _).trans (grown_below hg1 (by simp) (by intro k hk; simp [Value.ownBlock] at hk; omega))
  have hs1 := hb1.size
  have HC := Lib.hid (HC0.out.below hb1)
  have HG := Lib.hid (Chg.of_below hb1 (· = g))
  have hlo : ∀ k, (Value.slice A1 b.length c1).ownBlock = some k → w.heap.size ≤ k := fun k hk => (ho1.lt k hk).1
  have HO := Lib.hid ho1
  clear ho1 hg1 hb1
  go_wp2_with fail
  refine (spec_l1Below_calls W0 g _ _ HC.out).mono ?_
  rintro e w2 ⟨r, hr0, hr1, rfl, hc_, hg_⟩
  replace hr1 := hr1 (by omega)
  have hs2 := hg_.size
  have HC2 := Lib.hid hc_
  have HG2 := Lib.hid (HG.out.trans hg_)
  have HO2 := Lib.hid (ownsRow_keep HO.out hg_ (fun k hk e => by have := hlo k hk; omega))
  clear hc_ hg_
  by_cases r0 : r = 0
  · by_cases hb0 : (0 : Int) < b.length
    · obtain ⟨fp, hown, -⟩ := ownRow_own vals_eByte HO2.out (by omega)
      obtain ⟨g1, c', e, -, -, -, -⟩ := own_rowis vals_eByte hown (by omega)
      injection e with e1 _ e2
      subst e1
      subst e2
      have hg1 := hlo g1 rfl
      clear hown
      go_wp2_with fail
      refine (spec_l1Below_calls W0 g _ _ HC2.out).mono ?_
      rintro e w3 ⟨i, hi0, hi1, rfl, hc_, hg_⟩
      replace hi1 := hi1 (by omega)
      have hs3 := hg_.size
      have HC3 := Lib.hid hc_
      have HG3 := Lib.hid (HG2.out.trans hg_)
      have HO3 := Lib.hid (ownsRow_keep HO2.out hg_ (fun k hk e => by have := hlo k hk; omega))
      clear hc_ hg_
      obtain ⟨i, rfl⟩ := Int.eq_ofNat_of_zero_le hi0
      go_wp2_with fail
      refine (spec_l1Below_calls W0 g _ _ HC3.out).mono ?_
      rintro e w4 ⟨y, hy0, hy1, rfl, hc_, hg_⟩
      replace hy1 := hy1 (by omega)
      have hs4 := hg_.size
      have HG4 := Lib.hid (HG3.out.trans hg_)
      have HO4 := Lib.hid (ownsRow_keep HO3.out hg_ (fun k hk e => by have := hlo k hk; omega))
      clear hc_ hg_
      obtain ⟨fp, hown, -⟩ := ownRow_own vals_eByte HO4.out (by omega)
      obtain ⟨g2, c2, e, hsl, -, hg2, hrow⟩ := own_rowis vals_eByte hown (by omega)
      injection e with e1 _ e2
      injection e1 with e1
      injection e1 with e1
      subst e1
      subst e2
      have HROW := Lib.hid hrow
      have HSL := Lib.hid hsl
      obtain ⟨y0, hc0, hf0⟩ := hrow.get i (by rw [lenv_eByte]; omega)
      clear hown hrow hsl
      obtain ⟨y, rfl⟩ := Int.eq_ofNat_of_zero_le hy0
      have hyn : ((UInt8.ofNat y).toNat : Int) = y := by
        have : (UInt8.ofNat y).toNat = y := by rw [UInt8.toNat_ofNat']; omega
        omega
      have HY := Lib.hid hyn
      clear hyn
      go_wp2
      go_ret
      refine ⟨b.set i (UInt8.ofNat y), _, rfl, ?_, by rw [List.length_set]; omega, HG4.out.setCell (p := ⟨g1, i, none⟩) (.inr hg1) _⟩
      have h := RowIs.setRow (sz := 1) (fun _ => rfl) HROW.out (show i < b.length by omega) (UInt8.ofNat y)
      simp only [vsByte, putRow, Nat.mul_one, HY.out] at h
      obtain ⟨fp, ho, _⟩ := own_rows vals_eByte h (by simpa [World.setCell] using hg2) (show SlOk _ c1 by rw [List.length_set]; exact HSL.out)
      have h2 := ho.rdw
      rw [List.length_set] at h2 ⊢
      exact h2
    · go_wp2
      go_ret
      exact ⟨b, _, rfl, ownsRow_rdw vals_eByte HO2.out (by omega), by omega, HG2.out⟩
  by_cases r1 : r = 1
  · go_wp2_with fail
    refine (spec_l1Below_calls W0 g _ _ HC2.out).mono ?_
    rintro e w3 ⟨k, hk0, hk1, rfl, hc_, hg_⟩
    replace hk1 := hk1 (by omega)
    have hs3 := hg_.size
    have HG3 := Lib.hid (HG2.out.trans hg_)
    have HO3 := Lib.hid (ownsRow_keep HO2.out hg_ (fun k hk e => by have := hlo k hk; omega))
    clear hc_ hg_
    obtain ⟨k, rfl⟩ := Int.eq_ofNat_of_zero_le hk0
    have hk1' : k ≤ b.length := by omega
    have HRD := Lib.hid (ownsRow_rdw vals_eByte HO3.out (by omega))
    rcases A1 with _ | ad
    · have hb0 : b.length = 0 := by
        rcases HRD.out.cells vals_eByte with h | ⟨ad, h, _⟩
        · exact h
        · cases h
      have hk0' : k = 0 := by omega
      subst hk0'
      go_wp2
      go_ret
      refine ⟨b, _, rfl, ?_, by omega, HG3.out⟩
      have h := HRD.out
      rw [hb0] at h ⊢
      exact h
    · have HS := Lib.hid (rdW_sub (p := 0) (n := k) vals_eByte (fun _ => rfl) HRD.out (by omega))
      obtain ⟨A', c', e', ⟨q1, q2, q3⟩⟩ := HRD.out.slice
      injection e' with e1 _ e2
      subst e1
      subst e2
      go_wp2
      go_ret
      refine ⟨b.take k, _, rfl, ?_, by rw [List.length_take]; omega, HG3.out⟩
      have h := HS.out
      have ha : ad.add 0 = ad := by cases ad; simp [Addr.add]
      have e : (b.take k).length = k := by rw [List.length_take]; omega
      rw [ha, List.drop_zero, Nat.sub_zero] at h
      rw [e] at h ⊢
      exact h
  by_cases r2 : r = 2
  · go_wp2_with fail
    refine (spec_l1Int_calls W0 g [0, 1, 128, 255] _ _ (HC2.out.below ((Below.refl _ _).alloc (Nat.le_refl _) _)) (by simp) (rdW_lit vals_eInt w2 _ 3 (by simp)) (fun A n c h => by injection h with h; injection h with h; subst h; have := HC2.out.lt; exact Nat.ne_of_gt this)).mono ?_
    rintro e w3 ⟨y, hy, rfl, hc_, hg_⟩
    have hy2 : 0 ≤ y ∧ y < 256 := by
      simp only [List.mem_cons, List.not_mem_nil, or_false] at hy
      omega
    obtain ⟨hy0, hy1⟩ := hy2
    have hs3 := hg_.size
    simp only [size_alloc] at hs3
    have HG3 := Lib.hid ((HG2.out.alloc _).trans hg_)
    have HO3 := Lib.hid (ownsRow_keep (HO2.out.alloc _) hg_ (fun k hk e => by have := hlo k hk; omega))
    clear hc_ hg_ hy
    obtain ⟨y, rfl⟩ := Int.eq_ofNat_of_zero_le hy0
    have hyn : ((UInt8.ofNat y).toNat : Int) = y := by
      have : (UInt8.ofNat y).toNat = y := by rw [UInt8.toNat_ofNat']; omega
      omega
    have HONE : Hid (RdW (w3.alloc (.cells #[.int .u8 y] 5)) (.s [UInt8.ofNat y].length ([UInt8.ofNat y].flatMap eByte)) (.slice (some ⟨w3.heap.size, 0, none⟩) [UInt8.ofNat y].length [UInt8.ofNat y].length)) := by
      unfold Hid; rw [← hyn]; exact rdW_one vals_eByte w3 (UInt8.ofNat y) 5
    clear hyn
    go_wp2_with (at_builtin; refine wpList_append_rd rfl _ _ 22 rfl (w.heap.size) 5 _ _ 1 1 Try.underlying22 rfl rfl rfl rfl rfl (by omega) _ b.length _ rfl (HO3.out.alloc _) vals_eByte [UInt8.ofNat y] (one_eByte _) (lenv_eByte _) _ _ rfl HONE.out (by simp; omega) (by omega) (by simp; omega) ?_)
    intro A5 c5 w5 ho5 hg5
    have HO5 := Lib.hid ho5
    have HG5 := Lib.hid ((HG3.out.alloc (.cells #[.int .u8 y] 5)).then_ (grown_chg hg5) (fun k hk h => by have := hlo k h; omega))
    clear ho5 hg5
    go_wp2
    go_ret
    refine ⟨b ++ [UInt8.ofNat y], _, rfl, ?_, by simp, HG5.out⟩
    have h3 : (b ++ [UInt8.ofNat y]).flatMap vsByte = b.flatMap vsByte ++ vsByte (UInt8.ofNat y) := by simp [List.flatMap_append]
    have hl5 : (b ++ [UInt8.ofNat y]).length = b.length + 1 := by simp
    have h1 : w5.ownsRow w.heap.size 5 1 (.slice A5 (b.length + 1) c5) (b ++ [UInt8.ofNat y]).length ((b ++ [UInt8.ofNat y]).flatMap vsByte) := by rw [h3, hl5]; exact HO5.out
    have h2 := ownsRow_rdw vals_eByte h1 (by rw [hl5]; omega)
    rw [hl5] at h2 ⊢
    exact h2
  · go_wp2
    go_ret
    exact ⟨b, _, rfl, ownsRow_rdw vals_eByte HO2.out (by omega), by omega, HG2.out⟩
set_option maxHeartbeats 3200000 in
set_option maxRecDepth 100000 in
theorem spec_DrawDecodeMessage_calls (v : Value) (b : List UInt8) (w : World) (hr : RdW w (.s b.length (b.flatMap eByte)) v) (hz : b.length ≤ 1048576) :
    Calls Try.prog 18 #[v] w fun e w' => ∃ (b' : List UInt8) (v' : Value), e = .returned v' ∧ RdW w' (.s b'.length (b'.flatMap eByte)) v' ∧ b'.length ≤ 1048576 ∧ Below w.heap.size w w' := by
  obtain ⟨A0, c0, rfl, -⟩ := hr.slice
  have HR := Lib.hid hr
  clear hr
  go_enter Try.func18, Try.ntmps18
  go_wp2_with fail
  refine (spec_l1New_calls _ b _ HR.out hz).mono ?_
  rintro e w1 ⟨rfl, hc_, hb_⟩
  have hs1 := hb_.size
  have HC := Lib.hid hc_
  have HB1 := Lib.hid hb_
  clear hc_ hb_
  go_wp2_with fail
  refine (spec_l11Message_calls _ w.heap.size _ HC.out).mono ?_
  rintro e w2 ⟨x, us, rfl, hm, hna, hnn, hc_, hg_⟩
  have hs2 := hg_.size
  have HM := Lib.hid (hm.rd (by omega))
  have HC2 := Lib.hid hc_
  have HB2 := Lib.hid (below_chg HB1.out hg_ hs1 (by rintro _ rfl; exact Nat.le_refl _))
  clear hc_ hg_ hm
  go_wp2_with fail
  refine (spec_EncodeMessage_calls us x _ HM.out (by rw [siz_eMessage, siz_wires]; omega)).mono ?_
  rintro e w3 ⟨v3, rfl, hr3, hb_⟩
  have hs3 := hb_.size
  have HR3 := Lib.hid hr3
  have HC3 := Lib.hid (HC2.out.below hb_)
  have HB3 := Lib.hid (HB2.out.trans (hb_.mono (by omega)))
  have HL := Lib.hid (encodeMessage_len x)
  clear hb_ hr3
  go_wp2_with fail
  refine (spec_l1Bent_calls _ w.heap.size _ (encodeMessage x) _ HC3.out HR3.out (by have := HL.out; omega)).mono ?_
  rintro e w4 ⟨b', v', rfl, hr4, hl4, hg_⟩
  have HR4 := Lib.hid hr4
  have HB4 := Lib.hid (below_chg HB3.out hg_ (by omega) (by rintro _ rfl; exact Nat.le_refl _))
  have hl4' : b'.length ≤ 1001 := by have := HL.out; omega
  clear hr4 hg_ hl4
  go_wp2
  go_ret
  exact ⟨b', _, rfl, HR4.out, by omega, HB4.out⟩

end Go.Proofs.Ytklbpjnpmbidiaa
