import Derived.Test.YtiohoeafdaihpaaProg
import Derived.Test.YtiohoeafdaihpaaTypes
import Derived.StillTailTactics
import Derived.Deep.CutBlock
import Derived.Deep.CutRange
import Derived.Laws.OwnMore
import Derived.Deep.AppendLies
import Derived.Deep.RegionWith
import Derived.Deep.RegionHeld3
import Derived.Laws.IdiomStrings
import Derived.Test.YtiohoeafdaihpaaAppend
import Derived.Laws.StructEq
import Derived.Lib.SliceRun
import Derived.Shelf.RegionOpenPlain
import Derived.Test.YtiohoeafdaihpaaTxt2
import Derived.Test.YtiohoeafdaihpaaInstrS
namespace Go.Proofs.Ytiohoeafdaihpaa
open Go.RowKit
set_option linter.unusedVariables false
set_option linter.unusedSimpArgs false

def sp : ByteArray := ⟨#[32]⟩
/-- the text of an instruction -/
def fmtI (y : GInstr) : ByteArray :=
  if y.Op = 4 ∨ y.Op = 10 then opNm y.Op ++ (sp ++ dig y.A)
  else if y.Op = 5 then opNm y.Op ++ (sp ++ dig y.A) ++ (sp ++ dig y.B) ++ sp ++ dig y.C
  else if y.Op = 6 then
    let s := opNm y.Op ++ (sp ++ dig y.A) ++ (sp ++ dig y.B) ++ sp ++ y.Name
    let s2 := if y.C = -1 then s else s ++ sp ++ dig y.C
    if y.D = -1 then s2 else s2 ++ sp ++ dig y.D
  else if y.Op = 7 then
    let s := opNm y.Op ++ (sp ++ dig y.A) ++ sp ++ y.Name
    let s2 := if y.C = -1 then s else s ++ sp ++ dig y.C
    if y.D = -1 then s2 else s2 ++ sp ++ dig y.D
  else opNm y.Op ++ (sp ++ dig y.A) ++ (sp ++ dig y.B)
/-- an instruction of the given texts -/
structure GoodI (y : GInstr) : Prop where
  op : 1 ≤ y.Op ∧ y.Op ≤ 10
  ok : instrB y = true
  a : D4 y.A
  b : D4 y.B
  c : D4 y.C ∨ y.C = -1
  d : D4 y.D ∨ y.D = -1
  c5 : y.Op = 5 → D4 y.C
  nm : y.Name.size ≤ 7
theorem dig_size (n : Int) : (dig n).size = 1 := by
  unfold dig
  split
  · rfl
  split
  · rfl
  split <;> rfl
theorem opNm_size {n : Nat} (h : n ≤ 10) : (opNm n).size ≤ 6 := by
  have h1 : ∀ a : Fin 11, (opNm (a.val : Int)).size ≤ 6 := by decide +kernel
  exact h1 ⟨n, by omega⟩
set_option maxHeartbeats 12800000 in
set_option maxRecDepth 100000 in
theorem spec_FormatInstr_calls (y : GInstr) (hy : GoodI y) (w : World) :
    Calls Try.prog 116 #[.agg #[.int .i64 y.Op, .int .i64 y.A, .int .i64 y.B, .int .i64 y.C, .int .i64 y.D, .string y.Name]] w fun e w' => e = .returned (.string (fmtI y)) ∧ Below w.heap.size w w' := by
  have HY := Lib.hid hy
  obtain ⟨op, a, b, c, d, nm⟩ := y
  obtain ⟨⟨ho0, ho1⟩, hok, ha, hb, hc, hd, hc5, hnm⟩ := hy
  dsimp only at *
  have HOK := Lib.hid hok
  have HA := Lib.hid ha
  have HBd := Lib.hid hb
  have HCd := Lib.hid hc
  have HDd := Lib.hid hd
  have HC5 := Lib.hid hc5
  have hnms : nm.size ≤ 140737488355328 := by omega
  clear hok ha hb hc hd hc5
  obtain ⟨n, rfl⟩ : ∃ n : Nat, op = n := ⟨op.toNat, by omega⟩
  have hda := dig_size a
  have hdb := dig_size b
  have hdc := dig_size c
  have hdd := dig_size d
  have hop := opNm_size (n := n) (by omega)
  have HK0 := Lib.hid (Blk.new w 47 #[.int .i64 n, .int .i64 a, .int .i64 b, .int .i64 c, .int .i64 d, .string nm])
  have HB0 := Lib.hid ((Below.refl w.heap.size w).alloc (Nat.le_refl _) (.cells #[.int .i64 n, .int .i64 a, .int .i64 b, .int .i64 c, .int .i64 d, .string nm] 47))
  go_enter Try.func116, Try.ntmps116
  go_wp2_with fail
  refine (spec_IsInstr_calls ⟨n, a, b, c, d, nm⟩ _ hnms).mono ?_
  rintro e w1 ⟨rfl, hb_⟩
  rw [HOK.out]
  replace HK0 := Lib.hid (HK0.out.below hb_)
  replace HB0 := Lib.hid (HB0.out.trans (hb_.mono HB0.out.size))
  clear hb_
  (try clear kk ff ll)
  obtain ⟨kk, ff⟩ := HK0.out.rules
  have ll := HK0.out.lt
  go_wp2_with fail
  refine (spec_OpName_calls n (by omega) (by omega) _).mono ?_
  rintro e w2 ⟨rfl, hb_⟩
  replace HK0 := Lib.hid (HK0.out.below hb_)
  replace HB0 := Lib.hid (HB0.out.trans (hb_.mono HB0.out.size))
  clear hb_
  (try clear kk ff ll)
  obtain ⟨kk, ff⟩ := HK0.out.rules
  have ll := HK0.out.lt
  go_wp2_with fail
  refine (spec_FormatInt_calls a HA.out _).mono ?_
  rintro e w3 ⟨rfl, hb_⟩
  replace HK0 := Lib.hid (HK0.out.below hb_)
  replace HB0 := Lib.hid (HB0.out.trans (hb_.mono HB0.out.size))
  clear hb_
  (try clear kk ff ll)
  obtain ⟨kk, ff⟩ := HK0.out.rules
  have ll := HK0.out.lt
  go_wp2_with fail
  refine (spec_FormatInt_calls b HBd.out _).mono ?_
  rintro e w4 ⟨rfl, hb_⟩
  replace HK0 := Lib.hid (HK0.out.below hb_)
  replace HB0 := Lib.hid (HB0.out.trans (hb_.mono HB0.out.size))
  clear hb_
  (try clear kk ff ll)
  obtain ⟨kk, ff⟩ := HK0.out.rules
  have ll := HK0.out.lt
  by_cases e4 : (n : Int) = 4
  · skip
    go_wp2
    go_ret
    exact ⟨by rw [show fmtI ⟨(n : Int), a, b, c, d, nm⟩ = opNm (n : Int) ++ (sp ++ dig a) from if_pos (.inl e4), e4]; rfl, HB0.out⟩
  by_cases e10 : (n : Int) = 10
  · skip
    go_wp2
    go_ret
    exact ⟨by rw [show fmtI ⟨(n : Int), a, b, c, d, nm⟩ = opNm (n : Int) ++ (sp ++ dig a) from if_pos (.inr e10), e10]; rfl, HB0.out⟩
  have e410 : ¬ ((n : Int) = 4 ∨ (n : Int) = 10) := by omega
  by_cases e5 : (n : Int) = 5
  · skip
    go_wp2_with fail
    refine (spec_FormatInt_calls c (HC5.out e5) _).mono ?_
    rintro e w5 ⟨rfl, hb_⟩
    replace HK0 := Lib.hid (HK0.out.below hb_)
    replace HB0 := Lib.hid (HB0.out.trans (hb_.mono HB0.out.size))
    clear hb_
    (try clear kk ff ll)
    obtain ⟨kk, ff⟩ := HK0.out.rules
    have ll := HK0.out.lt
    go_wp2
    go_ret
    exact ⟨by rw [show fmtI ⟨(n : Int), a, b, c, d, nm⟩ = opNm (n : Int) ++ (sp ++ dig a) ++ (sp ++ dig b) ++ sp ++ dig c from (if_neg e410).trans (if_pos e5), e5]; rfl, HB0.out⟩
  by_cases e6 : (n : Int) = 6
  · have hopE := hop
    rw [e6] at hopE
    by_cases c1 : c = -1
    · subst c1
      by_cases d1 : d = -1
      · subst d1
        go_wp2
        go_ret
        exact ⟨by rw [show fmtI ⟨(n : Int), a, b, (-1), (-1), nm⟩ = (opNm (n : Int) ++ (sp ++ dig a) ++ (sp ++ dig b) ++ sp ++ nm) from ((if_neg e410).trans ((if_neg e5).trans (if_pos e6))).trans (by dsimp only; rw [if_pos rfl]; rw [if_pos rfl]), e6]; rfl, HB0.out⟩
      go_wp2_with fail
      refine (spec_FormatInt_calls d (HDd.out.resolve_right d1) _).mono ?_
      rintro e w7 ⟨rfl, hb_⟩
      replace HK0 := Lib.hid (HK0.out.below hb_)
      replace HB0 := Lib.hid (HB0.out.trans (hb_.mono HB0.out.size))
      clear hb_
      (try clear kk ff ll)
      obtain ⟨kk, ff⟩ := HK0.out.rules
      have ll := HK0.out.lt
      go_wp2
      go_ret
      exact ⟨by rw [show fmtI ⟨(n : Int), a, b, (-1), d, nm⟩ = (opNm (n : Int) ++ (sp ++ dig a) ++ (sp ++ dig b) ++ sp ++ nm) ++ sp ++ dig d from ((if_neg e410).trans ((if_neg e5).trans (if_pos e6))).trans (by dsimp only; rw [if_neg d1]; rw [if_pos rfl]), e6]; rfl, HB0.out⟩
    by_cases d1 : d = -1
    · subst d1
      go_wp2_with fail
      refine (spec_FormatInt_calls c (HCd.out.resolve_right c1) _).mono ?_
      rintro e w6 ⟨rfl, hb_⟩
      replace HK0 := Lib.hid (HK0.out.below hb_)
      replace HB0 := Lib.hid (HB0.out.trans (hb_.mono HB0.out.size))
      clear hb_
      (try clear kk ff ll)
      obtain ⟨kk, ff⟩ := HK0.out.rules
      have ll := HK0.out.lt
      go_wp2
      go_ret
      exact ⟨by rw [show fmtI ⟨(n : Int), a, b, c, (-1), nm⟩ = ((opNm (n : Int) ++ (sp ++ dig a) ++ (sp ++ dig b) ++ sp ++ nm) ++ sp ++ dig c) from ((if_neg e410).trans ((if_neg e5).trans (if_pos e6))).trans (by dsimp only; rw [if_pos rfl]; rw [if_neg c1]), e6]; rfl, HB0.out⟩
    go_wp2_with fail
    refine (spec_FormatInt_calls c (HCd.out.resolve_right c1) _).mono ?_
    rintro e w6 ⟨rfl, hb_⟩
    replace HK0 := Lib.hid (HK0.out.below hb_)
    replace HB0 := Lib.hid (HB0.out.trans (hb_.mono HB0.out.size))
    clear hb_
    (try clear kk ff ll)
    obtain ⟨kk, ff⟩ := HK0.out.rules
    have ll := HK0.out.lt
    go_wp2_with fail
    refine (spec_FormatInt_calls d (HDd.out.resolve_right d1) _).mono ?_
    rintro e w7 ⟨rfl, hb_⟩
    replace HK0 := Lib.hid (HK0.out.below hb_)
    replace HB0 := Lib.hid (HB0.out.trans (hb_.mono HB0.out.size))
    clear hb_
    (try clear kk ff ll)
    obtain ⟨kk, ff⟩ := HK0.out.rules
    have ll := HK0.out.lt
    go_wp2
    go_ret
    exact ⟨by rw [show fmtI ⟨(n : Int), a, b, c, d, nm⟩ = ((opNm (n : Int) ++ (sp ++ dig a) ++ (sp ++ dig b) ++ sp ++ nm) ++ sp ++ dig c) ++ sp ++ dig d from ((if_neg e410).trans ((if_neg e5).trans (if_pos e6))).trans (by dsimp only; rw [if_neg d1]; rw [if_neg c1]), e6]; rfl, HB0.out⟩
  by_cases e7 : (n : Int) = 7
  · have hopE := hop
    rw [e7] at hopE
    by_cases c1 : c = -1
    · subst c1
      by_cases d1 : d = -1
      · subst d1
        go_wp2
        go_ret
        exact ⟨by rw [show fmtI ⟨(n : Int), a, b, (-1), (-1), nm⟩ = (opNm (n : Int) ++ (sp ++ dig a) ++ sp ++ nm) from ((if_neg e410).trans ((if_neg e5).trans ((if_neg e6).trans (if_pos e7)))).trans (by dsimp only; rw [if_pos rfl]; rw [if_pos rfl]), e7]; rfl, HB0.out⟩
      go_wp2_with fail
      refine (spec_FormatInt_calls d (HDd.out.resolve_right d1) _).mono ?_
      rintro e w7 ⟨rfl, hb_⟩
      replace HK0 := Lib.hid (HK0.out.below hb_)
      replace HB0 := Lib.hid (HB0.out.trans (hb_.mono HB0.out.size))
      clear hb_
      (try clear kk ff ll)
      obtain ⟨kk, ff⟩ := HK0.out.rules
      have ll := HK0.out.lt
      go_wp2
      go_ret
      exact ⟨by rw [show fmtI ⟨(n : Int), a, b, (-1), d, nm⟩ = (opNm (n : Int) ++ (sp ++ dig a) ++ sp ++ nm) ++ sp ++ dig d from ((if_neg e410).trans ((if_neg e5).trans ((if_neg e6).trans (if_pos e7)))).trans (by dsimp only; rw [if_neg d1]; rw [if_pos rfl]), e7]; rfl, HB0.out⟩
    by_cases d1 : d = -1
    · subst d1
      go_wp2_with fail
      refine (spec_FormatInt_calls c (HCd.out.resolve_right c1) _).mono ?_
      rintro e w6 ⟨rfl, hb_⟩
      replace HK0 := Lib.hid (HK0.out.below hb_)
      replace HB0 := Lib.hid (HB0.out.trans (hb_.mono HB0.out.size))
      clear hb_
      (try clear kk ff ll)
      obtain ⟨kk, ff⟩ := HK0.out.rules
      have ll := HK0.out.lt
      go_wp2
      go_ret
      exact ⟨by rw [show fmtI ⟨(n : Int), a, b, c, (-1), nm⟩ = ((opNm (n : Int) ++ (sp ++ dig a) ++ sp ++ nm) ++ sp ++ dig c) from ((if_neg e410).trans ((if_neg e5).trans ((if_neg e6).trans (if_pos e7)))).trans (by dsimp only; rw [if_pos rfl]; rw [if_neg c1]), e7]; rfl, HB0.out⟩
    go_wp2_with fail
    refine (spec_FormatInt_calls c (HCd.out.resolve_right c1) _).mono ?_
    rintro e w6 ⟨rfl, hb_⟩
    replace HK0 := Lib.hid (HK0.out.below hb_)
    replace HB0 := Lib.hid (HB0.out.trans (hb_.mono HB0.out.size))
    clear hb_
    (try clear kk ff ll)
    obtain ⟨kk, ff⟩ := HK0.out.rules
    have ll := HK0.out.lt
    go_wp2_with fail
    refine (spec_FormatInt_calls d (HDd.out.resolve_right d1) _).mono ?_
    rintro e w7 ⟨rfl, hb_⟩
    replace HK0 := Lib.hid (HK0.out.below hb_)
    replace HB0 := Lib.hid (HB0.out.trans (hb_.mono HB0.out.size))
    clear hb_
    (try clear kk ff ll)
    obtain ⟨kk, ff⟩ := HK0.out.rules
    have ll := HK0.out.lt
    go_wp2
    go_ret
    exact ⟨by rw [show fmtI ⟨(n : Int), a, b, c, d, nm⟩ = ((opNm (n : Int) ++ (sp ++ dig a) ++ sp ++ nm) ++ sp ++ dig c) ++ sp ++ dig d from ((if_neg e410).trans ((if_neg e5).trans ((if_neg e6).trans (if_pos e7)))).trans (by dsimp only; rw [if_neg d1]; rw [if_neg c1]), e7]; rfl, HB0.out⟩
  go_wp2
  go_ret
  exact ⟨by rw [show fmtI ⟨(n : Int), a, b, c, d, nm⟩ = opNm (n : Int) ++ (sp ++ dig a) ++ (sp ++ dig b) from (if_neg e410).trans ((if_neg e5).trans ((if_neg e6).trans (if_neg e7)))]; rfl, HB0.out⟩

end Go.Proofs.Ytiohoeafdaihpaa
