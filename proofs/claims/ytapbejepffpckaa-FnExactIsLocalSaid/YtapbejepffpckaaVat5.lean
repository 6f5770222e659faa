import Derived.Test.YtapbejepffpckaaProg
import Derived.Test.YtapbejepffpckaaTypes
import Derived.StillTailTactics
import Derived.Deep.RegionHeld3
import Derived.Laws.IdiomStrings
import Derived.Test.YtapbejepffpckaaAppend
import Derived.Laws.StructEq
import Derived.Lib.SliceRun
import Derived.Shelf.RegionOpenPlain
import Derived.Test.YtapbejepffpckaaVat2
namespace Go.Proofs.Ytapbejepffpckaa
open Go.RowKit
set_option linter.unusedVariables false
set_option linter.unusedSimpArgs false

set_option maxHeartbeats 400000 in
theorem impl_Vat_refers_no (g : Nat) (k n : Int) (w : World) (hk : ¬ k = 1) :
    Calls Try.prog 69 #[.pointer (some ⟨g, 0, none⟩), .agg #[.int .i64 k, .int .i64 n]] w fun e w' => e = .returned (.pointer none) ∧ Below w.heap.size w w' := by
  go_enter Try.func69, Try.ntmps69
  go_wp2
  go_ret
  exact ⟨rfl, (Below.refl _ _).alloc (Nat.le_refl _) _⟩
set_option maxHeartbeats 400000 in
theorem impl_Vat_refers_none (g : Nat) (A : Option Addr) (ln c : Nat) (id : Int) (v2 v3 v4 : Value) (n : Int) (w : World) (hb : Blk w g 35 #[.int .i64 id, .slice A ln c, v2, v3, v4]) (hln : ln ≤ 1048576) (hn : ¬ (0 ≤ n ∧ n ≤ (ln : Int) - 1)) :
    Calls Try.prog 69 #[.pointer (some ⟨g, 0, none⟩), .agg #[.int .i64 1, .int .i64 n]] w fun e w' => e = .returned (.pointer none) ∧ Below w.heap.size w w' := by
  have HC := Lib.hid (impl_Vat_entity_none g A ln c id v2 v3 v4 n (w.alloc (.cells #[.int .i64 1, .int .i64 n] 46)) (hb.alloc _) hln hn)
  clear hn
  go_enter Try.func69, Try.ntmps69
  go_wp2_with fail
  refine HC.out.mono ?_
  rintro e w1 ⟨rfl, rfl⟩
  go_wp2
  go_ret
  exact ⟨rfl, (Below.refl _ _).alloc (Nat.le_refl _) _⟩
set_option maxHeartbeats 400000 in
theorem impl_Vat_refers_some (g : Nat) (ad : Addr) (ln c : Nat) (id : Int) (v2 v3 v4 : Value) (i : Nat) (w : World) (hb : Blk w g 35 #[.int .i64 id, .slice (some ad) ln c, v2, v3, v4]) (hln : ln ≤ 1048576) (hn : i < ln) :
    Calls Try.prog 69 #[.pointer (some ⟨g, 0, none⟩), .agg #[.int .i64 1, .int .i64 (i : Int)]] w fun e w' => e = .returned (.pointer (some (ad.add (i * 12)))) ∧ Below w.heap.size w w' := by
  have HC := Lib.hid (impl_Vat_entity_some g ad ln c id v2 v3 v4 i (w.alloc (.cells #[.int .i64 1, .int .i64 (i : Int)] 46)) (hb.alloc _) hln hn)
  go_enter Try.func69, Try.ntmps69
  go_wp2_with fail
  refine HC.out.mono ?_
  rintro e w1 ⟨rfl, rfl⟩
  go_wp2
  go_ret
  exact ⟨rfl, (Below.refl _ _).alloc (Nat.le_refl _) _⟩
set_option maxHeartbeats 1600000 in
theorem spec_IsLocal_calls (us : List Value) (x : GVat) (us' : List Value) (t : GValue) (w : World) (hr : RdLW w (eVat x) us) (hr' : RdLW w (eValue t) us') (hz : sizL (eVat x) ≤ 1048576) :
    Calls Try.prog 34 #[.agg us.toArray, .agg us'.toArray] w fun e w' => e = .returned (.bool (isLocalB x t)) ∧ Below w.heap.size w w' := by
  have HRR := Lib.hid hr
  have hzx := hz
  rw [siz_eVat] at hzx
  obtain ⟨v1, v2, v3, v4, rfl, h1, h2, h3, h4⟩ := rd_eVat hr
  obtain ⟨A, c, rfl, ⟨_, _, hl⟩⟩ := h1.slice
  obtain ⟨B2, d2, rfl, -⟩ := h2.slice
  obtain ⟨B3, d3, rfl, -⟩ := h3.slice
  obtain ⟨B4, d4, rfl, -⟩ := h4.slice
  obtain rfl := rd_eValue hr'
  have HR := Lib.hid h1
  clear hr hr' h1 h2 h3 h4
  obtain ⟨⟨zk, zn⟩, hz0⟩ : ∃ z, z = lookOf x t := ⟨_, rfl⟩
  have HE : Hid (isLocalB x t = (zk == 1 && entB (fun e => e.Kind == 1) x.Entities zn)) := by unfold Hid isLocalB; rw [← hz0]
  have HZ := Lib.hid hz0
  clear hz0
  have HB0 := Lib.hid (((Below.refl w.heap.size w).alloc (Nat.le_refl _) (.cells #[.int .i64 x.Id, .slice A x.Entities.length c, .slice B2 x.Loop.length d2, .slice B3 x.Links.length d3, .slice B4 x.Out.length d4] 35)).alloc (by simp) (.cells #[.int .i64 t.Kind, .int .i64 t.N] 46))
  have HKV := Lib.hid ((Blk.new w 35 #[.int .i64 x.Id, .slice A x.Entities.length c, .slice B2 x.Loop.length d2, .slice B3 x.Links.length d3, .slice B4 x.Out.length d4]).alloc (.cells #[.int .i64 t.Kind, .int .i64 t.N] 46))
  go_enter Try.func34, Try.ntmps34
  go_wp2_with fail
  refine (spec_Look_run _ x _ t _ (HRR.out.below HB0.out) mkrd_eValue hz).mono ?_
  rintro e w1 ⟨rfl, hb1⟩
  rw [show lookOf x t = ⟨zk, zn⟩ from HZ.out.symm]
  have HK1 := Lib.hid (HKV.out.below hb1)
  have HB1 := Lib.hid (HB0.out.trans (hb1.mono (by simp only [size_alloc]; omega)))
  obtain ⟨ka, fa⟩ := HK1.out.rules
  have hla := HK1.out.lt
  clear hb1
  by_cases e1 : ¬ zk = 1
  · have e1b : (zk == 1) = false := by simpa using e1
    go_wp2
    go_ret
    exact ⟨by rw [HE.out, e1b]; rfl, HB1.out.alloc HB1.out.size _⟩
  replace e1 := Classical.not_not.1 e1
  subst e1
  cases hen : entAt x.Entities zn with
  | none =>
    have hout := entAt_out hen
    have HI : Hid (inR zn 0 ((x.Entities.length : Int) - 1) = false) := by unfold Hid inR; simpa using hout
    have HF : Hid (entB (fun e => e.Kind == 1) x.Entities zn = false) := entB_none hen
    clear hen hout
    go_wp2_with fail
    refine (spec_l1In_calls _ _ _ _).mono ?_
    rintro e w2 ⟨rfl, rfl⟩
    rw [HI.out]
    go_wp2
    go_ret
    exact ⟨by rw [HE.out, HF.out]; rfl, HB1.out.alloc HB1.out.size _⟩
  | some y =>
    obtain ⟨i, rfl, hil, hy⟩ := entAt_some hen
    have HI : Hid (inR (i : Int) 0 ((x.Entities.length : Int) - 1) = true) := by unfold Hid inR; simp; omega
    have HF : Hid (entB (fun e => e.Kind == 1) x.Entities i = (y.Kind == 1)) := entB_some hen
    obtain ⟨ad, u2, u6, u7, rfl, hab, k0, -, -, -, -, -, -, -, -, -, -, -, -, -, -⟩ := row_eEntity (HR.out.below HB1.out) hy
    have hab' : (ad.add (i * 12)).block < w1.heap.size := by rw [block_of_add]; exact hab
    clear hen hy
    go_wp2_with fail
    refine (spec_l1In_calls _ _ _ _).mono ?_
    rintro e w2 ⟨rfl, rfl⟩
    rw [HI.out]
    go_wp2
    go_ret
    exact ⟨by rw [HE.out, HF.out]; rfl, HB1.out.alloc HB1.out.size _⟩
set_option maxHeartbeats 1600000 in
theorem impl_IsLocal_calls (us : List Value) (x : GVat) (us' : List Value) (t : GValue) (w : World) (hr : RdLW w (eVat x) us) (hr' : RdLW w (eValue t) us') (hz : sizL (eVat x) ≤ 1048576) :
    Calls Try.prog 35 #[.agg us.toArray, .agg us'.toArray] w fun e w' => e = .returned (.bool (isLocalB x t)) ∧ Below w.heap.size w w' := by
  have HRR := Lib.hid hr
  have hzx := hz
  rw [siz_eVat] at hzx
  obtain ⟨v1, v2, v3, v4, rfl, h1, h2, h3, h4⟩ := rd_eVat hr
  obtain ⟨A, c, rfl, ⟨_, _, hl⟩⟩ := h1.slice
  obtain ⟨B2, d2, rfl, -⟩ := h2.slice
  obtain ⟨B3, d3, rfl, -⟩ := h3.slice
  obtain ⟨B4, d4, rfl, -⟩ := h4.slice
  obtain rfl := rd_eValue hr'
  have HR := Lib.hid h1
  clear hr hr' h1 h2 h3 h4
  obtain ⟨⟨zk, zn⟩, hz0⟩ : ∃ z, z = lookOf x t := ⟨_, rfl⟩
  have HE : Hid (isLocalB x t = (zk == 1 && entB (fun e => e.Kind == 1) x.Entities zn)) := by unfold Hid isLocalB; rw [← hz0]
  have HZ := Lib.hid hz0
  clear hz0
  have HB0 := Lib.hid (((Below.refl w.heap.size w).alloc (Nat.le_refl _) (.cells #[.int .i64 x.Id, .slice A x.Entities.length c, .slice B2 x.Loop.length d2, .slice B3 x.Links.length d3, .slice B4 x.Out.length d4] 35)).alloc (by simp) (.cells #[.int .i64 t.Kind, .int .i64 t.N] 46))
  have HKV := Lib.hid ((Blk.new w 35 #[.int .i64 x.Id, .slice A x.Entities.length c, .slice B2 x.Loop.length d2, .slice B3 x.Links.length d3, .slice B4 x.Out.length d4]).alloc (.cells #[.int .i64 t.Kind, .int .i64 t.N] 46))
  go_enter Try.func35, Try.ntmps35
  go_wp2_with fail
  refine (impl_Vat_look_calls w.heap.size _ x t _ HKV.out (HRR.out.below HB0.out) hz).mono ?_
  rintro e w1 ⟨rfl, hb1⟩
  rw [show lookOf x t = ⟨zk, zn⟩ from HZ.out.symm]
  have HK1 := Lib.hid (HKV.out.below hb1)
  have HB1 := Lib.hid (HB0.out.trans (hb1.mono (by simp only [size_alloc]; omega)))
  obtain ⟨ka, fa⟩ := HK1.out.rules
  have hla := HK1.out.lt
  clear hb1
  by_cases e1 : ¬ zk = 1
  · have e1b : (zk == 1) = false := by simpa using e1
    have HC := Lib.hid (impl_Vat_refers_no w.heap.size zk zn w1 e1)
    go_wp2_with fail
    refine HC.out.mono ?_
    rintro e w2 ⟨rfl, hb2⟩
    go_wp2
    go_ret
    exact ⟨by rw [HE.out, e1b]; rfl, HB1.out.trans (hb2.mono HB1.out.size)⟩
  replace e1 := Classical.not_not.1 e1
  subst e1
  cases hen : entAt x.Entities zn with
  | none =>
    have hout := entAt_out hen
    have HF : Hid (entB (fun e => e.Kind == 1) x.Entities zn = false) := entB_none hen
    have HC := Lib.hid (impl_Vat_refers_none w.heap.size A x.Entities.length c x.Id _ _ _ zn w1 HK1.out (by omega) hout)
    clear hen hout
    go_wp2_with fail
    refine HC.out.mono ?_
    rintro e w2 ⟨rfl, hb2⟩
    go_wp2
    go_ret
    exact ⟨by rw [HE.out, HF.out]; rfl, HB1.out.trans (hb2.mono HB1.out.size)⟩
  | some y =>
    obtain ⟨i, rfl, hil, hy⟩ := entAt_some hen
    have HF : Hid (entB (fun e => e.Kind == 1) x.Entities i = (y.Kind == 1)) := entB_some hen
    obtain ⟨ad, u2, u6, u7, rfl, hab, k0, -, -, -, -, -, -, -, -, -, -, -, -, -, -⟩ := row_eEntity (HR.out.below HB1.out) hy
    have hab' : (ad.add (i * 12)).block < w1.heap.size := by rw [block_of_add]; exact hab
    have HC := Lib.hid (impl_Vat_refers_some w.heap.size ad x.Entities.length c x.Id _ _ _ i w1 HK1.out (by omega) hil)
    clear hen hy
    go_wp2_with fail
    refine HC.out.mono ?_
    rintro e w2 ⟨rfl, hb2⟩
    have k0' := (hb2.cell hab').trans k0
    have hab2 : (ad.add (i * 12)).block < w2.heap.size := by have := hb2.size; omega
    go_wp2
    go_ret
    exact ⟨by rw [HE.out, HF.out]; rfl, HB1.out.trans (hb2.mono HB1.out.size)⟩

end Go.Proofs.Ytapbejepffpckaa
