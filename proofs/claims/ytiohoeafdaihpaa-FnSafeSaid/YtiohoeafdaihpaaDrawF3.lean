import Derived.Test.YtiohoeafdaihpaaProg
import Derived.Test.YtiohoeafdaihpaaTypes
import Derived.StillTailTactics
import Derived.Deep.CutBlock
import Derived.Deep.CutRange
import Derived.Laws.OwnMore
import Derived.Deep.AppendLies
import Derived.Deep.RegionWith
import Derived.Deep.RegionHeld3
import Derived.Laws.IdiomStrings
import Derived.Test.YtiohoeafdaihpaaAppend
import Derived.Laws.StructEq
import Derived.Lib.SliceRun
import Derived.Shelf.RegionOpenPlain
import Derived.Test.YtiohoeafdaihpaaDrawI
import Derived.Test.YtiohoeafdaihpaaDrawI2
namespace Go.Proofs.Ytiohoeafdaihpaa
open Go.RowKit
set_option linter.unusedVariables false
set_option linter.unusedSimpArgs false

/-- a method that a draw returned: its code in blocks of its own -/
def MethAt (L : Nat) (w : World) (x : GMethod) (us : List Value) : Prop :=
  ∃ A c B, us = [.string x.Name, .slice A x.Code.length c] ∧ L ≤ B ∧ B ≤ w.heap.size ∧ w.ownsRow B 47 6 (.slice A x.Code.length c) x.Code.length (x.Code.flatMap vsInstr)
theorem fine_plain {op a b : Int} (h : op = 1 ∨ op = 2 ∨ op = 3 ∨ op = 4) (h0 : 0 ≤ a) (h1 : a < 8) : FineI ⟨op, a, b, 0, 0, ⟨#[]⟩⟩ := by
  rcases h with rfl | rfl | rfl | rfl <;> exact ⟨fun k hk => (by have h2 : k ∈ ([] : List Int) := hk; cases h2), .inr (regB_of (by show 0 ≤ a; exact h0) (by show a < 8; exact h1))⟩
theorem fine4 (q s : Int) : ∀ y, y ∈ ([⟨2, 0, 0, 0, 0, ⟨#[]⟩⟩, ⟨3, 1, q, 0, 0, ⟨#[]⟩⟩, ⟨4, 2, 0, 0, 0, ⟨#[]⟩⟩, ⟨1, 3, s, 0, 0, ⟨#[]⟩⟩] : List GInstr) → FineI y ∧ y.Name.size ≤ 5 := by
  intro y hy
  simp only [List.mem_cons, List.not_mem_nil, or_false] at hy
  rcases hy with rfl | rfl | rfl | rfl <;> exact ⟨fine_plain (by omega) (by omega) (by omega), by show (0 : Nat) ≤ 5; omega⟩
theorem fine_ret (a : Int) (h0 : 0 ≤ a) (h1 : a < 8) : FineI ⟨10, a, 0, 0, 0, ⟨#[]⟩⟩ ∧ (⟨10, a, 0, 0, 0, ⟨#[]⟩⟩ : GInstr).Name.size ≤ 5 :=
  ⟨⟨fun k hk => (by have h2 : k ∈ ([a] : List Int) := hk; rw [List.mem_singleton.1 h2]; exact regB_of h0 h1), .inl rfl⟩, by show (0 : Nat) ≤ 5; omega⟩

end Go.Proofs.Ytiohoeafdaihpaa
namespace Go.Proofs.Ytiohoeafdaihpaa
open Go.RowKit
set_option linter.unusedVariables false
set_option linter.unusedSimpArgs false

set_option maxHeartbeats 12800000 in
set_option maxRecDepth 100000 in
theorem spec_l8Safe_calls (W0 : World) (g : Nat) (nm : ByteArray) (w : World) (hC : Cur W0 g w) :
    Calls Try.prog 40 #[.pointer (some ⟨g, 0, none⟩), .string nm] w fun e w' => ∃ x us, e = .returned (.agg us.toArray) ∧ MethAt w.heap.size w' x us ∧ x.Name = nm ∧ x.Code.length ≤ 10 ∧ (∀ y, y ∈ x.Code → FineI y ∧ y.Name.size ≤ 5) ∧ Cur W0 g w' ∧ Chg (· = g) w w' := by
  have hlt := hC.lt
  have hge := hC.ge
  have hW0 := hC.base.size
  have HC := Lib.hid (hC.below ((Below.refl w.heap.size w).alloc (Nat.le_refl _) (.cells #[.string ⟨#[]⟩, .slice none 0 0] 29)))
  have HKR := Lib.hid (Blk.new w 29 #[.string ⟨#[]⟩, .slice none 0 0])
  have HG := Lib.hid ((Chg.refl (· = g) w).alloc (.cells #[.string ⟨#[]⟩, .slice none 0 0] 29))
  clear hC
  have exit : ∀ (wl : World) (x : GMethod) (A : Option Addr) (c B : Nat), Cur W0 g wl → Chg (· = g) w wl → w.heap.size < B → B ≤ wl.heap.size → wl.ownsRow B 47 6 (.slice A x.Code.length c) x.Code.length (x.Code.flatMap vsInstr) → x.Name = nm → x.Code.length ≤ 10 → (∀ y, y ∈ x.Code → FineI y ∧ y.Name.size ≤ 5) → ∀ W, Chg (fun k => k = w.heap.size) wl W →
      ∃ (y : GMethod) (us : List Value), Ending.returned (.agg #[.string x.Name, .slice A x.Code.length c]) = .returned (.agg us.toArray) ∧ MethAt w.heap.size W y us ∧ y.Name = nm ∧ y.Code.length ≤ 10 ∧ (∀ z, z ∈ y.Code → FineI z ∧ z.Name.size ≤ 5) ∧ Cur W0 g W ∧ Chg (· = g) w W := by
    intro wl x A c B h1 h2 hB hBw ho hn ha hf W h3
    exact ⟨x, _, rfl, ⟨A, c, B, rfl, by omega, Nat.le_trans hBw h3.size, ownsRow_keep ho h3 (fun k hk e => by have := (ho.lt k hk).1; omega)⟩, hn, ha, hf, h1.chg h3 (by rintro _ rfl; exact hW0) (by omega), h2.then_ h3 (by rintro i hi rfl; omega)⟩
  have EX := Lib.hid exit
  clear exit
  go_enter Try.func40, Try.ntmps40
  go_wp2_with fail
  refine (spec_l1Below_calls W0 g _ _ HC.out).mono ?_
  rintro e w1 ⟨q, hq0, hq1, rfl, hc_, hg_⟩
  have hs_1 := hg_.size
  (try simp only [size_alloc] at hs_1)
  have HCn := Lib.hid hc_
  replace HKR := Lib.hid ((HKR.out).chg hg_ (by omega))
  replace HG := Lib.hid (HG.out.trans hg_)
  (try clear hc_ hg_ HC)
  have HC := HCn
  clear HCn
  (try clear k_HKR f_HKR)
  obtain ⟨k_HKR, f_HKR⟩ := HKR.out.rules
  have l_HKR := HKR.out.lt
  replace hq1 := hq1 (by omega)
  go_wp2_with fail
  refine (spec_l1Below_calls W0 g _ _ HC.out).mono ?_
  rintro e w2 ⟨s, hs0, hs1, rfl, hc_, hg_⟩
  have hs_2 := hg_.size
  (try simp only [size_alloc] at hs_2)
  have HCn := Lib.hid hc_
  replace HKR := Lib.hid ((HKR.out).chg hg_ (by omega))
  replace HG := Lib.hid (HG.out.trans hg_)
  (try clear hc_ hg_ HC)
  have HC := HCn
  clear HCn
  (try clear k_HKR f_HKR)
  obtain ⟨k_HKR, f_HKR⟩ := HKR.out.rules
  have l_HKR := HKR.out.lt
  replace hs1 := hs1 (by omega)
  have HKM : Hid (Blk ((w2.alloc (.cells #[.int .i64 2, .int .i64 0, .int .i64 0, .int .i64 0, .int .i64 0, .string ⟨#[]⟩, .int .i64 3, .int .i64 1, .int .i64 q, .int .i64 0, .int .i64 0, .string ⟨#[]⟩, .int .i64 4, .int .i64 2, .int .i64 0, .int .i64 0, .int .i64 0, .string ⟨#[]⟩, .int .i64 1, .int .i64 3, .int .i64 s, .int .i64 0, .int .i64 0, .string ⟨#[]⟩] 47)).alloc (.cells #[.string nm, .slice (some ⟨w2.heap.size, 0, none⟩) 4 4] 29)) (w2.heap.size + 1) 29 #[.string nm, .slice (some ⟨w2.heap.size, 0, none⟩) 4 4]) := Lib.hid (Blk.made (by simp))
  have HO : Hid (((w2.alloc (.cells #[.int .i64 2, .int .i64 0, .int .i64 0, .int .i64 0, .int .i64 0, .string ⟨#[]⟩, .int .i64 3, .int .i64 1, .int .i64 q, .int .i64 0, .int .i64 0, .string ⟨#[]⟩, .int .i64 4, .int .i64 2, .int .i64 0, .int .i64 0, .int .i64 0, .string ⟨#[]⟩, .int .i64 1, .int .i64 3, .int .i64 s, .int .i64 0, .int .i64 0, .string ⟨#[]⟩] 47)).alloc (.cells #[.string nm, .slice (some ⟨w2.heap.size, 0, none⟩) 4 4] 29)).ownsRow w2.heap.size 47 6 (.slice (some ⟨w2.heap.size, 0, none⟩) 4 4) 4 (([⟨2, 0, 0, 0, 0, ⟨#[]⟩⟩, ⟨3, 1, q, 0, 0, ⟨#[]⟩⟩, ⟨4, 2, 0, 0, 0, ⟨#[]⟩⟩, ⟨1, 3, s, 0, 0, ⟨#[]⟩⟩] : List GInstr).flatMap vsInstr)) := Lib.hid (World.ownsRow.alloc (World.ownsRow_lit w2 #[.int .i64 2, .int .i64 0, .int .i64 0, .int .i64 0, .int .i64 0, .string ⟨#[]⟩, .int .i64 3, .int .i64 1, .int .i64 q, .int .i64 0, .int .i64 0, .string ⟨#[]⟩, .int .i64 4, .int .i64 2, .int .i64 0, .int .i64 0, .int .i64 0, .string ⟨#[]⟩, .int .i64 1, .int .i64 3, .int .i64 s, .int .i64 0, .int .i64 0, .string ⟨#[]⟩] 4 (Nat.le_refl _) (by decide) rfl) _)
  have HF : Hid (∀ y, y ∈ ([⟨2, 0, 0, 0, 0, ⟨#[]⟩⟩, ⟨3, 1, q, 0, 0, ⟨#[]⟩⟩, ⟨4, 2, 0, 0, 0, ⟨#[]⟩⟩, ⟨1, 3, s, 0, 0, ⟨#[]⟩⟩] : List GInstr) → FineI y ∧ y.Name.size ≤ 5) := fine4 q s
  have hgw : w.heap.size < w2.heap.size := by omega
  have hgg : g < w2.heap.size := by omega
  have HCn := Lib.hid (HC.out.below (((Below.refl _ _).alloc (Nat.le_refl _) (.cells #[.int .i64 2, .int .i64 0, .int .i64 0, .int .i64 0, .int .i64 0, .string ⟨#[]⟩, .int .i64 3, .int .i64 1, .int .i64 q, .int .i64 0, .int .i64 0, .string ⟨#[]⟩, .int .i64 4, .int .i64 2, .int .i64 0, .int .i64 0, .int .i64 0, .string ⟨#[]⟩, .int .i64 1, .int .i64 3, .int .i64 s, .int .i64 0, .int .i64 0, .string ⟨#[]⟩] 47)).alloc (by simp) (.cells #[.string nm, .slice (some ⟨w2.heap.size, 0, none⟩) 4 4] 29)))
  clear HC
  have HC := HCn
  clear HCn
  replace HKR := Lib.hid (HKR.out.alloc (.cells #[.int .i64 2, .int .i64 0, .int .i64 0, .int .i64 0, .int .i64 0, .string ⟨#[]⟩, .int .i64 3, .int .i64 1, .int .i64 q, .int .i64 0, .int .i64 0, .string ⟨#[]⟩, .int .i64 4, .int .i64 2, .int .i64 0, .int .i64 0, .int .i64 0, .string ⟨#[]⟩, .int .i64 1, .int .i64 3, .int .i64 s, .int .i64 0, .int .i64 0, .string ⟨#[]⟩] 47))
  replace HG := Lib.hid (HG.out.alloc (.cells #[.int .i64 2, .int .i64 0, .int .i64 0, .int .i64 0, .int .i64 0, .string ⟨#[]⟩, .int .i64 3, .int .i64 1, .int .i64 q, .int .i64 0, .int .i64 0, .string ⟨#[]⟩, .int .i64 4, .int .i64 2, .int .i64 0, .int .i64 0, .int .i64 0, .string ⟨#[]⟩, .int .i64 1, .int .i64 3, .int .i64 s, .int .i64 0, .int .i64 0, .string ⟨#[]⟩] 47))
  replace HKR := Lib.hid (HKR.out.alloc (.cells #[.string nm, .slice (some ⟨w2.heap.size, 0, none⟩) 4 4] 29))
  replace HG := Lib.hid (HG.out.alloc (.cells #[.string nm, .slice (some ⟨w2.heap.size, 0, none⟩) 4 4] 29))
  (try clear k_HKR f_HKR)
  have hlo0 := HO.out.lt
  go_wp2_with fail
  refine (spec_l1Below_calls W0 g _ _ HC.out).mono ?_
  rintro e w3 ⟨i, hi0, hi1, rfl, hc_, hg_⟩
  replace hi1 := hi1 (by omega)
  have hs_3 := hg_.size
  simp only [size_alloc] at hs_3
  replace HO := Lib.hid (ownsRow_keep HO.out hg_ (fun k hk e => by have := (hlo0 k hk).1; omega))
  have HCn := Lib.hid hc_
  clear HC
  have HC := HCn
  clear HCn
  replace HKR := Lib.hid (HKR.out.chg hg_ (by omega))
  replace HKM := Lib.hid (HKM.out.chg hg_ (by omega))
  replace HG := Lib.hid (HG.out.trans hg_)
  clear hc_ hg_ hlo0
  (try clear k_HKR f_HKR k_HKM f_HKM)
  obtain ⟨k_HKR, f_HKR⟩ := HKR.out.rules
  have l_HKR := HKR.out.lt
  obtain ⟨k_HKM, f_HKM⟩ := HKM.out.rules
  have l_HKM := HKM.out.lt
  obtain ⟨i, rfl⟩ := Int.eq_ofNat_of_zero_le hi0
  go_wp2_with fail
  clear k_HKR f_HKR k_HKM f_HKM
  go_loopw [6] (fun a_ wr => ∃ (i : Nat) (xs : List GInstr) (A : Option Addr) (c_ : Nat), a_ = .int .i64 i ∧ i + xs.length ≤ 9 ∧ Hid (Blk wr ((w2.heap.size + 1)) 29 #[.string nm, .slice A xs.length c_]) ∧ Hid (wr.ownsRow (w2.heap.size) 47 6 (.slice A xs.length c_) xs.length (xs.flatMap vsInstr)) ∧ Hid (∀ k, (Value.slice A xs.length c_).ownBlock = some k → k ≠ (w2.heap.size + 1)) ∧ Hid (∀ y, y ∈ xs → FineI y ∧ y.Name.size ≤ 5) ∧ Hid (Cur W0 g wr) ∧ Hid (Chg (· = g) w wr) ∧ Hid (Blk wr w.heap.size 29 #[.string ⟨#[]⟩, .slice none 0 0]) ∧ Hid (w2.heap.size ≤ wr.heap.size)) (fun a_ wr => (intOf a_).toNat)
  case atStart => exact ⟨i, _, _, _, rfl, by show i + 4 ≤ 9; omega, HKM, HO, by intro k hk; simp [Value.ownBlock] at hk; omega, HF, HC, HG, HKR, by unfold Hid; omega⟩
  case round =>
    clear HC HG HKM HKR HO HF
    obtain ⟨i, xs, A3, c3, rfl, hix, HKM, HO, HNE, HF, HC, HG, HKR, HBS⟩ := hrel
    obtain ⟨km, jm⟩ := HKM.out.rules
    have lm := HKM.out.lt
    have hlo := HO.out.lt
    have zr := HG.out.size
    have hbs : w2.heap.size ≤ wr.heap.size := HBS.out
    obtain ⟨kr, jr⟩ := HKR.out.rules
    have lr := HKR.out.lt
    by_cases hp : (0 : Int) < i
    · go_wp2_with fail
      refine wp_region_U (fun wq => wq.cell? ⟨(w2.heap.size + 1), 1, none⟩ = some (.slice A3 xs.length c3)) [0, 1, 2, 3, 4, 5] (by kernel_rfl) ?_
      have hH_ := (show wr.drew.cell? ⟨(w2.heap.size + 1), 1, none⟩ = _ from km 1)
      refine wpAnyU_take (i := 0) (v := ?_) rfl (by kernel_rfl) (by kernel_rfl) (by kernel_rfl) (by kernel_rfl) (fun _ _ _ h => h) (Or.inl ⟨by rfl, ?_⟩) hH_ ?_
      rotate_left
      · (intro w hSw; (try dsimp only at hSw); go_simp <;> with_reducible rfl)
      simp only [Act.put, List.setIfInBounds_toArray, List.set_cons_zero, List.set_cons_succ]
      refine wpAnyU_take (i := 1) (v := ?_) rfl (by kernel_rfl) (by kernel_rfl) (by kernel_rfl) (by kernel_rfl) (fun _ _ _ h => h) (Or.inl ⟨by rfl, ?_⟩) hH_ ?_
      rotate_left
      · (intro w hSw; (try dsimp only at hSw); go_simp <;> with_reducible rfl)
      simp only [Act.put, List.setIfInBounds_toArray, List.set_cons_zero, List.set_cons_succ]
      refine wpAnyU_take (i := 2) (v := ?_) rfl (by kernel_rfl) (by kernel_rfl) (by kernel_rfl) (by kernel_rfl) (fun _ _ _ h => h) (Or.inl ⟨by rfl, ?_⟩) hH_ ?_
      rotate_left
      · (intro w hSw; (try dsimp only at hSw); go_simp <;> with_reducible rfl)
      simp only [Act.put, List.setIfInBounds_toArray, List.set_cons_zero, List.set_cons_succ]
      refine wpAnyU_one (i := 3) (by kernel_rfl) rfl (fun K hK => ?_)
      go_simp
      refine (spec_l5Instr_calls W0 g _ (HC.out.below (Below.refl _ _).drew)).mono ?_
      rintro e wb ⟨y, he, hfy, hny, hc_, hg_⟩
      have he2 : e = .returned (.agg #[.int .i64 y.Op, .int .i64 y.A, .int .i64 y.B, .int .i64 y.C, .int .i64 y.D, .string y.Name]) := he
      subst he2
      have HFY := Lib.hid (And.intro hfy hny)
      clear he hfy hny
      have hs_b : wr.heap.size ≤ wb.heap.size := hg_.size
      have HCb := Lib.hid hc_
      have HKMb := Lib.hid (HKM.out.drew.chg hg_ (by omega))
      have HKRb := Lib.hid (HKR.out.drew.chg hg_ (by omega))
      have HGb := Lib.hid (HG.out.drew.trans hg_)
      have HOb := Lib.hid (ownsRow_keep (show wr.drew.ownsRow _ _ _ _ _ _ from HO.out) hg_ (fun k hk e => by have := (hlo k hk).1; omega))
      clear hc_ hg_
      obtain ⟨kb, jb⟩ := HKMb.out.rules
      refine hK.out _ _ ?_ (fun hH1_ => ?_)
      · exact (kb 1)
      clear hK K hH_
      have hH_ := hH1_
      clear hH1_
      refine wpAnyU_one (i := 4) (by kernel_rfl) rfl (fun K hK => ?_)
      go_simp
      refine hK.out _ _ ?_ (fun hH1_ => ?_)
      · exact cell_alloc_keep (kb 1)
      clear hK K hH_
      have hH_ := hH1_
      clear hH1_
      refine wpAnyU_one' (i := 5) (by kernel_rfl) rfl (by kernel_rfl) (fun K hK => ?_)
      refine step_append_lies _ (by rfl) _ _ _ (by rfl) (w2.heap.size) 47 _ _ 6 56 Try.underlying27 rfl rfl rfl rfl rfl (by omega) _ xs.length _ (by rfl) (HOb.out.alloc _) ⟨wb.heap.size, 0, none⟩ 1 1 [.int .i64 y.Op, .int .i64 y.A, .int .i64 y.B, .int .i64 y.C, .int .i64 y.D, .string y.Name] (by rfl) (by rfl) (World.news_of_block (cs := #[.int .i64 y.Op, .int .i64 y.A, .int .i64 y.B, .int .i64 y.C, .int .i64 y.D, .string y.Name]) (t := 47) (fr := (0, 0)) (heap_alloc_new wb _)) (by simp [Value.oneCell']) (by omega) (by have h := (by decide : maxLen = 9223372036854775807); omega) (by omega) (by simp; omega) (wb.heap.size + 1) (by simp) ?_
      intro gg cap w3 hown hgrow hat hlt2
      have hz3 : wb.heap.size + 1 ≤ w3.heap.size := by have h := hgrow.size; simp only [size_alloc] at h; exact h
      have hlo2 : ∀ k, (Value.slice A3 xs.length c3).ownBlock = some k → w2.heap.size ≤ k := fun k hk => (hlo k hk).1
      have hlo3 : ∀ k, (Value.slice A3 xs.length c3).ownBlock = some k → k ≠ (w2.heap.size + 1) := HNE.out
      have KM3 := Lib.hid ((HKMb.out.alloc (.cells #[.int .i64 y.Op, .int .i64 y.A, .int .i64 y.B, .int .i64 y.C, .int .i64 y.D, .string y.Name] 47)).chg (grown_chg hgrow) (fun h => hlo3 _ h rfl))
      have KR3 := Lib.hid ((HKRb.out.alloc (.cells #[.int .i64 y.Op, .int .i64 y.A, .int .i64 y.B, .int .i64 y.C, .int .i64 y.D, .string y.Name] 47)).chg (grown_chg hgrow) (fun h => by have := hlo2 _ h; omega))
      have HC3 := Lib.hid ((HCb.out.below ((Below.refl _ _).alloc (Nat.le_refl _) (.cells #[.int .i64 y.Op, .int .i64 y.A, .int .i64 y.B, .int .i64 y.C, .int .i64 y.D, .string y.Name] 47))).chg (grown_chg hgrow) (fun k h => by have := hlo2 _ h; omega) (fun h => by have := hlo2 _ h; omega))
      have HG3 := Lib.hid ((HGb.out.alloc (.cells #[.int .i64 y.Op, .int .i64 y.A, .int .i64 y.B, .int .i64 y.C, .int .i64 y.D, .string y.Name] 47)).then_ (grown_chg hgrow) (fun k hk h => by have := hlo2 _ h; omega))
      have HO3 := Lib.hid hown
      have HN3 : Hid (∀ k, (Value.slice (some ⟨gg, 0, none⟩) (xs.length + 1) cap).ownBlock = some k → k ≠ (w2.heap.size + 1)) := by
        intro k hk
        simp only [Value.ownBlock, Option.some.injEq] at hk
        rcases hat with h | h
        · have := hlo3 _ h; omega
        · omega
      clear hown
      obtain ⟨km3, jm3⟩ := KM3.out.rules
      have lm3 := KM3.out.lt
      refine hK.out _ _ ?_
      clear hK K
      refine wpAnyU_one' (i := 6) (by kernel_rfl) rfl (by kernel_rfl) (fun K hK => ?_)
      go_simp
      refine hK.out _ _ ?_
      clear hK K
      refine wpAnyU_one' (i := 7) (by kernel_rfl) rfl (by kernel_rfl) (fun K hK => ?_)
      go_simp
      refine hK.out _ _ ?_
      clear hK K
      refine wpAnyU_done (by kernel_rfl) ?_ _
      have HO4 : Hid (w3.ownsRow (w2.heap.size) 47 6 (.slice (some ⟨gg, 0, none⟩) (xs ++ [y]).length cap) (xs ++ [y]).length ((xs ++ [y]).flatMap vsInstr)) := by unfold Hid; rw [List.flatMap_append, List.length_append]; exact HO3.out
      have HN4 : Hid (∀ k, (Value.slice (some ⟨gg, 0, none⟩) (xs ++ [y]).length cap).ownBlock = some k → k ≠ (w2.heap.size + 1)) := by unfold Hid; rw [List.length_append]; exact HN3.out
      have HF4 : Hid (∀ z, z ∈ xs ++ [y] → FineI z ∧ z.Name.size ≤ 5) := by intro z hz; rcases List.mem_append.1 hz with h | h; exact HF.out z h; rw [List.mem_singleton.1 h]; exact HFY.out
      have HS5 := Lib.hid ((Chg.refl (· = (w2.heap.size + 1)) w3).setCell (p := ⟨(w2.heap.size + 1), 1, none⟩) (.inl rfl) (.slice (some ⟨gg, 0, none⟩) (xs.length + 1) cap))
      clear hgrow hat hlo2 hlo3 km3 jm3 kb jb kr jr km jm
      go_wp2
      go_roundw
      case rel =>
        exact ⟨i - 1, xs ++ [y], some ⟨gg, 0, none⟩, cap, by rw [show ((i - 1 : Nat) : Int) = (i : Int) - 1 from by omega], by rw [List.length_append]; simp; omega, Lib.hid ((KM3.out.set_ 1 _).eq (by simp)), Lib.hid (ownsRow_keep HO4.out HS5.out (fun k hk e => HN4.out k hk e)), HN4, HF4, Lib.hid (HC3.out.chg HS5.out (by rintro _ rfl; omega) (by omega)), Lib.hid (HG3.out.then_ HS5.out (by rintro k hk rfl; omega)), Lib.hid (KR3.out.chg HS5.out (by omega)), Lib.hid (Nat.le_trans (by omega) HS5.out.size)⟩
      case measure => simp [intOf]; omega
    · have i0 : i = 0 := by omega
      subst i0
      clear kr jr lr km jm lm
      have hlo0 := HO.out.lt
      obtain ⟨km, jm⟩ := HKM.out.rules
      have lm := HKM.out.lt
      obtain ⟨kr, jr⟩ := HKR.out.rules
      have lr := HKR.out.lt
      go_wp2_with fail
      refine (spec_l1Once_calls W0 g _ _ HC.out).mono ?_
      rintro e wo ⟨t, rfl, hc_, hg_⟩
      have hs_o := hg_.size
      replace HO := Lib.hid (ownsRow_keep HO.out hg_ (fun k hk e => by have := (hlo0 k hk).1; omega))
      have HCn := Lib.hid hc_
      clear HC
      have HC := HCn
      clear HCn
      replace HKR := Lib.hid (HKR.out.chg hg_ (by omega))
      replace HKM := Lib.hid (HKM.out.chg hg_ (by omega))
      replace HG := Lib.hid (HG.out.trans hg_)
      have zr := HG.out.size
      clear hc_ hg_ hlo hlo0 km jm lm kr jr lr
      have hlo := HO.out.lt
      obtain ⟨km, jm⟩ := HKM.out.rules
      have lm := HKM.out.lt
      obtain ⟨kr, jr⟩ := HKR.out.rules
      have lr := HKR.out.lt
      rcases t with _ | _
      · skip
        go_wp2
        refine post_cell (w0 := wo) (fun k => k = w.heap.size) Try.results40 w.heap.size #[.string nm, .slice A3 xs.length c3] _ rfl (Blk.eq ((HKR.out.set_ 0 (.string nm)).set_ 1 (.slice A3 xs.length c3)) (by simp)) Try.underlying29 rfl (by kernel_rfl) rfl (((Chg.refl (· = w.heap.size) _).setCell (p := ⟨w.heap.size, 0, none⟩) (.inl rfl) (.string nm)).setCell (p := ⟨w.heap.size, 1, none⟩) (.inl rfl) (.slice A3 xs.length c3)) (EX.out wo ⟨nm, xs⟩ A3 c3 (w2.heap.size) HC.out HG.out (by omega) (by omega) HO.out rfl (by show xs.length ≤ 10; omega) HF.out)
      · skip
        go_wp2_with fail
        refine wp_region_U (fun wq => wq.cell? ⟨(w2.heap.size + 1), 1, none⟩ = some (.slice A3 xs.length c3)) [0, 1, 2, 3, 4, 5, 6] (by kernel_rfl) ?_
        have hH_ := (show wo.drew.cell? ⟨(w2.heap.size + 1), 1, none⟩ = _ from km 1)
        refine wpAnyU_take (i := 0) (v := ?_) rfl (by kernel_rfl) (by kernel_rfl) (by kernel_rfl) (by kernel_rfl) (fun _ _ _ h => h) (Or.inl ⟨by rfl, ?_⟩) hH_ ?_
        rotate_left
        · (intro w hSw; (try dsimp only at hSw); go_simp <;> with_reducible rfl)
        simp only [Act.put, List.setIfInBounds_toArray, List.set_cons_zero, List.set_cons_succ]
        refine wpAnyU_take (i := 1) (v := ?_) rfl (by kernel_rfl) (by kernel_rfl) (by kernel_rfl) (by kernel_rfl) (fun _ _ _ h => h) (Or.inl ⟨by rfl, ?_⟩) hH_ ?_
        rotate_left
        · (intro w hSw; (try dsimp only at hSw); go_simp <;> with_reducible rfl)
        simp only [Act.put, List.setIfInBounds_toArray, List.set_cons_zero, List.set_cons_succ]
        refine wpAnyU_take (i := 2) (v := ?_) rfl (by kernel_rfl) (by kernel_rfl) (by kernel_rfl) (by kernel_rfl) (fun _ _ _ h => h) (Or.inl ⟨by rfl, ?_⟩) hH_ ?_
        rotate_left
        · (intro w hSw; (try dsimp only at hSw); go_simp <;> with_reducible rfl)
        simp only [Act.put, List.setIfInBounds_toArray, List.set_cons_zero, List.set_cons_succ]
        refine wpAnyU_one (i := 3) (by kernel_rfl) rfl (fun K hK => ?_)
        go_simp
        refine (spec_l1Below_calls W0 g _ _ (HC.out.below (Below.refl _ _).drew)).mono ?_
        rintro e wb ⟨na, hn0, hn1, rfl, hc_, hg_⟩
        replace hn1 := hn1 (by omega)
        have hs_b : wo.heap.size ≤ wb.heap.size := hg_.size
        have HCb := Lib.hid hc_
        have HKMb := Lib.hid (HKM.out.drew.chg hg_ (by omega))
        have HKRb := Lib.hid (HKR.out.drew.chg hg_ (by omega))
        have HGb := Lib.hid (HG.out.drew.trans hg_)
        have HOb := Lib.hid (ownsRow_keep (show wo.drew.ownsRow _ _ _ _ _ _ from HO.out) hg_ (fun k hk e => by have := (hlo k hk).1; omega))
        clear hc_ hg_
        obtain ⟨kb, jb⟩ := HKMb.out.rules
        refine hK.out _ _ ?_ (fun hH1_ => ?_)
        · exact (kb 1)
        clear hK K hH_
        have hH_ := hH1_
        clear hH1_
        refine wpAnyU_take (i := 4) (v := ?_) rfl (by kernel_rfl) (by kernel_rfl) (by kernel_rfl) (by kernel_rfl) (fun _ _ _ h => h) (Or.inl ⟨by rfl, ?_⟩) hH_ ?_
        rotate_left
        · (intro w hSw; (try dsimp only at hSw); go_simp <;> with_reducible rfl)
        simp only [Act.put, List.setIfInBounds_toArray, List.set_cons_zero, List.set_cons_succ]
        refine wpAnyU_one (i := 5) (by kernel_rfl) rfl (fun K hK => ?_)
        go_simp
        refine hK.out _ _ ?_ (fun hH1_ => ?_)
        · exact cell_alloc_keep (kb 1)
        clear hK K hH_
        have hH_ := hH1_
        clear hH1_
        refine wpAnyU_one' (i := 6) (by kernel_rfl) rfl (by kernel_rfl) (fun K hK => ?_)
        refine step_append_lies _ (by rfl) _ _ _ (by rfl) (w2.heap.size) 47 _ _ 6 56 Try.underlying27 rfl rfl rfl rfl rfl (by omega) _ xs.length _ (by rfl) (HOb.out.alloc _) ⟨wb.heap.size, 0, none⟩ 1 1 [.int .i64 10, .int .i64 na, .int .i64 0, .int .i64 0, .int .i64 0, .string ⟨#[]⟩] (by rfl) (by rfl) (World.news_of_block (cs := #[.int .i64 10, .int .i64 na, .int .i64 0, .int .i64 0, .int .i64 0, .string ⟨#[]⟩]) (t := 47) (fr := (0, 0)) (heap_alloc_new wb _)) (by simp [Value.oneCell']) (by omega) (by have h := (by decide : maxLen = 9223372036854775807); omega) (by omega) (by simp; omega) (wb.heap.size + 1) (by simp) ?_
        intro gg cap w3 hown hgrow hat hlt2
        have hz3 : wb.heap.size + 1 ≤ w3.heap.size := by have h := hgrow.size; simp only [size_alloc] at h; exact h
        have hlo2 : ∀ k, (Value.slice A3 xs.length c3).ownBlock = some k → w2.heap.size ≤ k := fun k hk => (hlo k hk).1
        have hlo3 : ∀ k, (Value.slice A3 xs.length c3).ownBlock = some k → k ≠ (w2.heap.size + 1) := HNE.out
        have KM3 := Lib.hid ((HKMb.out.alloc (.cells #[.int .i64 10, .int .i64 na, .int .i64 0, .int .i64 0, .int .i64 0, .string ⟨#[]⟩] 47)).chg (grown_chg hgrow) (fun h => hlo3 _ h rfl))
        have KR3 := Lib.hid ((HKRb.out.alloc (.cells #[.int .i64 10, .int .i64 na, .int .i64 0, .int .i64 0, .int .i64 0, .string ⟨#[]⟩] 47)).chg (grown_chg hgrow) (fun h => by have := hlo2 _ h; omega))
        have HC3 := Lib.hid ((HCb.out.below ((Below.refl _ _).alloc (Nat.le_refl _) (.cells #[.int .i64 10, .int .i64 na, .int .i64 0, .int .i64 0, .int .i64 0, .string ⟨#[]⟩] 47))).chg (grown_chg hgrow) (fun k h => by have := hlo2 _ h; omega) (fun h => by have := hlo2 _ h; omega))
        have HG3 := Lib.hid ((HGb.out.alloc (.cells #[.int .i64 10, .int .i64 na, .int .i64 0, .int .i64 0, .int .i64 0, .string ⟨#[]⟩] 47)).then_ (grown_chg hgrow) (fun k hk h => by have := hlo2 _ h; omega))
        have HO3 := Lib.hid hown
        have HN3 : Hid (∀ k, (Value.slice (some ⟨gg, 0, none⟩) (xs.length + 1) cap).ownBlock = some k → k ≠ (w2.heap.size + 1)) := by
          intro k hk
          simp only [Value.ownBlock, Option.some.injEq] at hk
          rcases hat with h | h
          · have := hlo3 _ h; omega
          · omega
        clear hown
        obtain ⟨km3, jm3⟩ := KM3.out.rules
        have lm3 := KM3.out.lt
        refine hK.out _ _ ?_
        clear hK K
        refine wpAnyU_one' (i := 7) (by kernel_rfl) rfl (by kernel_rfl) (fun K hK => ?_)
        go_simp
        refine hK.out _ _ ?_
        clear hK K
        refine wpAnyU_one' (i := 8) (by kernel_rfl) rfl (by kernel_rfl) (fun K hK => ?_)
        go_simp
        refine hK.out _ _ ?_
        clear hK K
        refine wpAnyU_done (by kernel_rfl) ?_ _
        have HO4 : Hid (w3.ownsRow (w2.heap.size) 47 6 (.slice (some ⟨gg, 0, none⟩) (xs ++ [(⟨10, na, 0, 0, 0, ⟨#[]⟩⟩ : GInstr)]).length cap) (xs ++ [(⟨10, na, 0, 0, 0, ⟨#[]⟩⟩ : GInstr)]).length ((xs ++ [(⟨10, na, 0, 0, 0, ⟨#[]⟩⟩ : GInstr)]).flatMap vsInstr)) := by unfold Hid; rw [List.flatMap_append, List.length_append]; exact HO3.out
        have HF4 : Hid (∀ z, z ∈ xs ++ [(⟨10, na, 0, 0, 0, ⟨#[]⟩⟩ : GInstr)] → FineI z ∧ z.Name.size ≤ 5) := by intro z hz; rcases List.mem_append.1 hz with h | h; exact HF.out z h; rw [List.mem_singleton.1 h]; exact fine_ret na hn0 (by omega)
        have HL4 : Hid ((xs ++ [(⟨10, na, 0, 0, 0, ⟨#[]⟩⟩ : GInstr)]).length = xs.length + 1) := by unfold Hid; rw [List.length_append]; rfl
        have HS5 := Lib.hid ((Chg.refl (· = (w2.heap.size + 1)) w3).setCell (p := ⟨(w2.heap.size + 1), 1, none⟩) (.inl rfl) (.slice (some ⟨gg, 0, none⟩) (xs.length + 1) cap))
        have hn3 : ∀ k, (Value.slice (some ⟨gg, 0, none⟩) (xs ++ [(⟨10, na, 0, 0, 0, ⟨#[]⟩⟩ : GInstr)]).length cap).ownBlock = some k → k ≠ (w2.heap.size + 1) := by rw [HL4.out]; exact HN3.out
        obtain ⟨w5, hw5⟩ : ∃ q, q = w3.setCell ⟨(w2.heap.size + 1), 1, none⟩ (.slice (some ⟨gg, 0, none⟩) (xs.length + 1) cap) := ⟨_, rfl⟩
        have KM5 : Hid (Blk w5 (w2.heap.size + 1) 29 #[.string nm, .slice (some ⟨gg, 0, none⟩) (xs.length + 1) cap]) := by rw [hw5]; exact (KM3.out.set_ 1 _).eq (by simp)
        have HS6 : Chg (· = (w2.heap.size + 1)) w3 w5 := by rw [hw5]; exact HS5.out
        have HO5 := Lib.hid (ownsRow_keep HO4.out HS6 (fun k hk e => hn3 k hk e))
        replace HKR := Lib.hid (KR3.out.chg HS6 (by omega))
        have HC5 := Lib.hid (HC3.out.chg HS6 (by rintro _ rfl; omega) (by omega))
        have HG5 := Lib.hid (HG3.out.then_ HS6 (by rintro k hk rfl; omega))
        have hs_5 := HS6.size
        clear hgrow hat hlo2 hlo3 km3 jm3 lm3 kb jb kr jr lr km jm lm HS6 HS5 hn3
        go_upto_region 8 with fail
        rw [← hw5]
        clear hw5
        obtain ⟨km, jm⟩ := KM5.out.rules
        have lm := KM5.out.lt
        obtain ⟨kr, jr⟩ := HKR.out.rules
        have lr := HKR.out.lt
        go_wp2
        refine post_cell (w0 := w5) (fun k => k = w.heap.size) Try.results40 w.heap.size #[.string nm, .slice (some ⟨gg, 0, none⟩) (xs.length + 1) cap] _ rfl (Blk.eq ((HKR.out.set_ 0 (.string nm)).set_ 1 (.slice (some ⟨gg, 0, none⟩) (xs.length + 1) cap)) (by simp)) Try.underlying29 rfl (by kernel_rfl) rfl (((Chg.refl (· = w.heap.size) _).setCell (p := ⟨w.heap.size, 0, none⟩) (.inl rfl) (.string nm)).setCell (p := ⟨w.heap.size, 1, none⟩) (.inl rfl) (.slice (some ⟨gg, 0, none⟩) (xs.length + 1) cap)) ?_
        intro W hW
        have h := EX.out w5 ⟨nm, xs ++ [(⟨10, na, 0, 0, 0, ⟨#[]⟩⟩ : GInstr)]⟩ (some ⟨gg, 0, none⟩) cap (w2.heap.size) HC5.out HG5.out (by omega) (by omega) HO5.out rfl (by show (xs ++ [(⟨10, na, 0, 0, 0, ⟨#[]⟩⟩ : GInstr)]).length ≤ 10; rw [HL4.out]; omega) HF4.out W hW
        dsimp only at h
        rw [HL4.out] at h
        exact h

end Go.Proofs.Ytiohoeafdaihpaa
namespace Go.Proofs.Ytiohoeafdaihpaa
open Go.RowKit
set_option linter.unusedVariables false
set_option linter.unusedSimpArgs false

set_option maxHeartbeats 12800000 in
set_option maxRecDepth 100000 in
theorem spec_l6Method_calls (W0 : World) (g : Nat) (nm : ByteArray) (w : World) (hC : Cur W0 g w) :
    Calls Try.prog 41 #[.pointer (some ⟨g, 0, none⟩), .string nm] w fun e w' => ∃ x us, e = .returned (.agg us.toArray) ∧ MethAt w.heap.size w' x us ∧ x.Name = nm ∧ x.Code.length ≤ 10 ∧ (∀ y, y ∈ x.Code → FineI y ∧ y.Name.size ≤ 5) ∧ Cur W0 g w' ∧ Chg (· = g) w w' := by
  have hlt := hC.lt
  have hge := hC.ge
  have hW0 := hC.base.size
  have HC := Lib.hid (hC.below ((Below.refl w.heap.size w).alloc (Nat.le_refl _) (.cells #[.string ⟨#[]⟩, .slice none 0 0] 29)))
  have HKR := Lib.hid (Blk.new w 29 #[.string ⟨#[]⟩, .slice none 0 0])
  have HG := Lib.hid ((Chg.refl (· = g) w).alloc (.cells #[.string ⟨#[]⟩, .slice none 0 0] 29))
  clear hC
  have exit : ∀ (wl : World) (x : GMethod) (A : Option Addr) (c B : Nat), Cur W0 g wl → Chg (· = g) w wl → w.heap.size < B → B ≤ wl.heap.size → wl.ownsRow B 47 6 (.slice A x.Code.length c) x.Code.length (x.Code.flatMap vsInstr) → x.Name = nm → x.Code.length ≤ 10 → (∀ y, y ∈ x.Code → FineI y ∧ y.Name.size ≤ 5) → ∀ W, Chg (fun k => k = w.heap.size) wl W →
      ∃ (y : GMethod) (us : List Value), Ending.returned (.agg #[.string x.Name, .slice A x.Code.length c]) = .returned (.agg us.toArray) ∧ MethAt w.heap.size W y us ∧ y.Name = nm ∧ y.Code.length ≤ 10 ∧ (∀ z, z ∈ y.Code → FineI z ∧ z.Name.size ≤ 5) ∧ Cur W0 g W ∧ Chg (· = g) w W := by
    intro wl x A c B h1 h2 hB hBw ho hn ha hf W h3
    exact ⟨x, _, rfl, ⟨A, c, B, rfl, by omega, Nat.le_trans hBw h3.size, ownsRow_keep ho h3 (fun k hk e => by have := (ho.lt k hk).1; omega)⟩, hn, ha, hf, h1.chg h3 (by rintro _ rfl; exact hW0) (by omega), h2.then_ h3 (by rintro i hi rfl; omega)⟩
  have EX := Lib.hid exit
  clear exit
  go_enter Try.func41, Try.ntmps41
  have HKM : Hid (Blk ((w.alloc (.cells #[.string ⟨#[]⟩, .slice none 0 0] 29)).alloc (.cells #[.string nm, .slice none 0 0] 29)) (w.heap.size + 1) 29 #[.string nm, .slice none 0 0]) := Lib.hid (Blk.made (by simp))
  have HF : Hid (∀ y, y ∈ ([] : List GInstr) → FineI y ∧ y.Name.size ≤ 5) := by intro y hy; cases hy
  have hgw : w.heap.size < (w.heap.size + 2) := by omega
  have hgg : g < w.heap.size := by omega
  have HCn := Lib.hid (HC.out.below ((Below.refl _ _).alloc (Nat.le_refl _) (.cells #[.string nm, .slice none 0 0] 29)))
  clear HC
  have HC := HCn
  clear HCn
  replace HKR := Lib.hid (HKR.out.alloc (.cells #[.string nm, .slice none 0 0] 29))
  replace HG := Lib.hid (HG.out.alloc (.cells #[.string nm, .slice none 0 0] 29))
  have HO : Hid (∀ W : World, W.ownsRow (w.heap.size + 2) 47 6 (.slice none 0 0) 0 (([] : List GInstr).flatMap vsInstr)) := fun W => World.ownsRow_nil _ _ _ _
  (try clear k_HKR f_HKR)
  go_wp2_with fail
  refine (spec_l1Below_calls W0 g _ _ HC.out).mono ?_
  rintro e w1 ⟨i, hi0, hi1, rfl, hc_, hg_⟩
  have hs_1 := hg_.size
  (try simp only [size_alloc] at hs_1)
  have HCn := Lib.hid hc_
  replace HKR := Lib.hid ((HKR.out).chg hg_ (by omega))
  replace HKM := Lib.hid ((HKM.out).chg hg_ (by omega))
  replace HG := Lib.hid (HG.out.trans hg_)
  (try clear hc_ hg_ HC)
  have HC := HCn
  clear HCn
  (try clear k_HKR f_HKR k_HKM f_HKM)
  obtain ⟨k_HKR, f_HKR⟩ := HKR.out.rules
  have l_HKR := HKR.out.lt
  obtain ⟨k_HKM, f_HKM⟩ := HKM.out.rules
  have l_HKM := HKM.out.lt
  replace hi1 := hi1 (by omega)
  obtain ⟨i, rfl⟩ := Int.eq_ofNat_of_zero_le hi0
  go_wp2_with fail
  clear k_HKR f_HKR k_HKM f_HKM
  go_loopw [6] (fun a_ wr => ∃ (i : Nat) (xs : List GInstr) (A : Option Addr) (c_ : Nat), a_ = .int .i64 i ∧ i + xs.length ≤ 6 ∧ Hid (Blk wr ((w.heap.size + 1)) 29 #[.string nm, .slice A xs.length c_]) ∧ Hid (wr.ownsRow ((w.heap.size + 2)) 47 6 (.slice A xs.length c_) xs.length (xs.flatMap vsInstr)) ∧ Hid (∀ k, (Value.slice A xs.length c_).ownBlock = some k → k ≠ (w.heap.size + 1)) ∧ Hid (∀ y, y ∈ xs → FineI y ∧ y.Name.size ≤ 5) ∧ Hid (Cur W0 g wr) ∧ Hid (Chg (· = g) w wr) ∧ Hid (Blk wr w.heap.size 29 #[.string ⟨#[]⟩, .slice none 0 0]) ∧ Hid ((w.heap.size + 2) ≤ wr.heap.size)) (fun a_ wr => (intOf a_).toNat)
  case atStart => exact ⟨i + 1, [], none, 0, by rw [show ((i + 1 : Nat) : Int) = 1 + (i : Int) from by omega], by simp only [List.length_nil]; omega, HKM, HO.out _, by intro k hk; simp [Value.ownBlock] at hk, HF, HC, HG, HKR, by unfold Hid; have := HKM.out.lt; omega⟩
  case round =>
    clear HC HG HKM HKR HO HF
    obtain ⟨i, xs, A3, c3, rfl, hix, HKM, HO, HNE, HF, HC, HG, HKR, HBS⟩ := hrel
    obtain ⟨km, jm⟩ := HKM.out.rules
    have lm := HKM.out.lt
    have hlo := HO.out.lt
    have zr := HG.out.size
    have hbs : (w.heap.size + 2) ≤ wr.heap.size := HBS.out
    obtain ⟨kr, jr⟩ := HKR.out.rules
    have lr := HKR.out.lt
    by_cases hp : (0 : Int) < i
    · go_wp2_with fail
      refine wp_region_U (fun wq => wq.cell? ⟨(w.heap.size + 1), 1, none⟩ = some (.slice A3 xs.length c3)) [0, 1, 2, 3, 4, 5] (by kernel_rfl) ?_
      have hH_ := (show wr.drew.cell? ⟨(w.heap.size + 1), 1, none⟩ = _ from km 1)
      refine wpAnyU_take (i := 0) (v := ?_) rfl (by kernel_rfl) (by kernel_rfl) (by kernel_rfl) (by kernel_rfl) (fun _ _ _ h => h) (Or.inl ⟨by rfl, ?_⟩) hH_ ?_
      rotate_left
      · (intro w hSw; (try dsimp only at hSw); go_simp <;> with_reducible rfl)
      simp only [Act.put, List.setIfInBounds_toArray, List.set_cons_zero, List.set_cons_succ]
      refine wpAnyU_take (i := 1) (v := ?_) rfl (by kernel_rfl) (by kernel_rfl) (by kernel_rfl) (by kernel_rfl) (fun _ _ _ h => h) (Or.inl ⟨by rfl, ?_⟩) hH_ ?_
      rotate_left
      · (intro w hSw; (try dsimp only at hSw); go_simp <;> with_reducible rfl)
      simp only [Act.put, List.setIfInBounds_toArray, List.set_cons_zero, List.set_cons_succ]
      refine wpAnyU_take (i := 2) (v := ?_) rfl (by kernel_rfl) (by kernel_rfl) (by kernel_rfl) (by kernel_rfl) (fun _ _ _ h => h) (Or.inl ⟨by rfl, ?_⟩) hH_ ?_
      rotate_left
      · (intro w hSw; (try dsimp only at hSw); go_simp <;> with_reducible rfl)
      simp only [Act.put, List.setIfInBounds_toArray, List.set_cons_zero, List.set_cons_succ]
      refine wpAnyU_one (i := 3) (by kernel_rfl) rfl (fun K hK => ?_)
      go_simp
      refine (spec_l5Instr_calls W0 g _ (HC.out.below (Below.refl _ _).drew)).mono ?_
      rintro e wb ⟨y, he, hfy, hny, hc_, hg_⟩
      have he2 : e = .returned (.agg #[.int .i64 y.Op, .int .i64 y.A, .int .i64 y.B, .int .i64 y.C, .int .i64 y.D, .string y.Name]) := he
      subst he2
      have HFY := Lib.hid (And.intro hfy hny)
      clear he hfy hny
      have hs_b : wr.heap.size ≤ wb.heap.size := hg_.size
      have HCb := Lib.hid hc_
      have HKMb := Lib.hid (HKM.out.drew.chg hg_ (by omega))
      have HKRb := Lib.hid (HKR.out.drew.chg hg_ (by omega))
      have HGb := Lib.hid (HG.out.drew.trans hg_)
      have HOb := Lib.hid (ownsRow_keep (show wr.drew.ownsRow _ _ _ _ _ _ from HO.out) hg_ (fun k hk e => by have := (hlo k hk).1; omega))
      clear hc_ hg_
      obtain ⟨kb, jb⟩ := HKMb.out.rules
      refine hK.out _ _ ?_ (fun hH1_ => ?_)
      · exact (kb 1)
      clear hK K hH_
      have hH_ := hH1_
      clear hH1_
      refine wpAnyU_one (i := 4) (by kernel_rfl) rfl (fun K hK => ?_)
      go_simp
      refine hK.out _ _ ?_ (fun hH1_ => ?_)
      · exact cell_alloc_keep (kb 1)
      clear hK K hH_
      have hH_ := hH1_
      clear hH1_
      refine wpAnyU_one' (i := 5) (by kernel_rfl) rfl (by kernel_rfl) (fun K hK => ?_)
      refine step_append_lies _ (by rfl) _ _ _ (by rfl) ((w.heap.size + 2)) 47 _ _ 6 56 Try.underlying27 rfl rfl rfl rfl rfl (by omega) _ xs.length _ (by rfl) (HOb.out.alloc _) ⟨wb.heap.size, 0, none⟩ 1 1 [.int .i64 y.Op, .int .i64 y.A, .int .i64 y.B, .int .i64 y.C, .int .i64 y.D, .string y.Name] (by rfl) (by rfl) (World.news_of_block (cs := #[.int .i64 y.Op, .int .i64 y.A, .int .i64 y.B, .int .i64 y.C, .int .i64 y.D, .string y.Name]) (t := 47) (fr := (0, 0)) (heap_alloc_new wb _)) (by simp [Value.oneCell']) (by omega) (by have h := (by decide : maxLen = 9223372036854775807); omega) (by omega) (by simp; omega) (wb.heap.size + 1) (by simp) ?_
      intro gg cap w3 hown hgrow hat hlt2
      have hz3 : wb.heap.size + 1 ≤ w3.heap.size := by have h := hgrow.size; simp only [size_alloc] at h; exact h
      have hlo2 : ∀ k, (Value.slice A3 xs.length c3).ownBlock = some k → (w.heap.size + 2) ≤ k := fun k hk => (hlo k hk).1
      have hlo3 : ∀ k, (Value.slice A3 xs.length c3).ownBlock = some k → k ≠ (w.heap.size + 1) := HNE.out
      have KM3 := Lib.hid ((HKMb.out.alloc (.cells #[.int .i64 y.Op, .int .i64 y.A, .int .i64 y.B, .int .i64 y.C, .int .i64 y.D, .string y.Name] 47)).chg (grown_chg hgrow) (fun h => hlo3 _ h rfl))
      have KR3 := Lib.hid ((HKRb.out.alloc (.cells #[.int .i64 y.Op, .int .i64 y.A, .int .i64 y.B, .int .i64 y.C, .int .i64 y.D, .string y.Name] 47)).chg (grown_chg hgrow) (fun h => by have := hlo2 _ h; omega))
      have HC3 := Lib.hid ((HCb.out.below ((Below.refl _ _).alloc (Nat.le_refl _) (.cells #[.int .i64 y.Op, .int .i64 y.A, .int .i64 y.B, .int .i64 y.C, .int .i64 y.D, .string y.Name] 47))).chg (grown_chg hgrow) (fun k h => by have := hlo2 _ h; omega) (fun h => by have := hlo2 _ h; omega))
      have HG3 := Lib.hid ((HGb.out.alloc (.cells #[.int .i64 y.Op, .int .i64 y.A, .int .i64 y.B, .int .i64 y.C, .int .i64 y.D, .string y.Name] 47)).then_ (grown_chg hgrow) (fun k hk h => by have := hlo2 _ h; omega))
      have HO3 := Lib.hid hown
      have HN3 : Hid (∀ k, (Value.slice (some ⟨gg, 0, none⟩) (xs.length + 1) cap).ownBlock = some k → k ≠ (w.heap.size + 1)) := by
        intro k hk
        simp only [Value.ownBlock, Option.some.injEq] at hk
        rcases hat with h | h
        · have := hlo3 _ h; omega
        · omega
      clear hown
      obtain ⟨km3, jm3⟩ := KM3.out.rules
      have lm3 := KM3.out.lt
      refine hK.out _ _ ?_
      clear hK K
      refine wpAnyU_one' (i := 6) (by kernel_rfl) rfl (by kernel_rfl) (fun K hK => ?_)
      go_simp
      refine hK.out _ _ ?_
      clear hK K
      refine wpAnyU_one' (i := 7) (by kernel_rfl) rfl (by kernel_rfl) (fun K hK => ?_)
      go_simp
      refine hK.out _ _ ?_
      clear hK K
      refine wpAnyU_done (by kernel_rfl) ?_ _
      have HO4 : Hid (w3.ownsRow ((w.heap.size + 2)) 47 6 (.slice (some ⟨gg, 0, none⟩) (xs ++ [y]).length cap) (xs ++ [y]).length ((xs ++ [y]).flatMap vsInstr)) := by unfold Hid; rw [List.flatMap_append, List.length_append]; exact HO3.out
      have HN4 : Hid (∀ k, (Value.slice (some ⟨gg, 0, none⟩) (xs ++ [y]).length cap).ownBlock = some k → k ≠ (w.heap.size + 1)) := by unfold Hid; rw [List.length_append]; exact HN3.out
      have HF4 : Hid (∀ z, z ∈ xs ++ [y] → FineI z ∧ z.Name.size ≤ 5) := by intro z hz; rcases List.mem_append.1 hz with h | h; exact HF.out z h; rw [List.mem_singleton.1 h]; exact HFY.out
      have HS5 := Lib.hid ((Chg.refl (· = (w.heap.size + 1)) w3).setCell (p := ⟨(w.heap.size + 1), 1, none⟩) (.inl rfl) (.slice (some ⟨gg, 0, none⟩) (xs.length + 1) cap))
      clear hgrow hat hlo2 hlo3 km3 jm3 kb jb kr jr km jm
      go_wp2
      go_roundw
      case rel =>
        exact ⟨i - 1, xs ++ [y], some ⟨gg, 0, none⟩, cap, by rw [show ((i - 1 : Nat) : Int) = (i : Int) - 1 from by omega], by rw [List.length_append]; simp; omega, Lib.hid ((KM3.out.set_ 1 _).eq (by simp)), Lib.hid (ownsRow_keep HO4.out HS5.out (fun k hk e => HN4.out k hk e)), HN4, HF4, Lib.hid (HC3.out.chg HS5.out (by rintro _ rfl; omega) (by omega)), Lib.hid (HG3.out.then_ HS5.out (by rintro k hk rfl; omega)), Lib.hid (KR3.out.chg HS5.out (by omega)), Lib.hid (Nat.le_trans (by omega) HS5.out.size)⟩
      case measure => simp [intOf]; omega
    · have i0 : i = 0 := by omega
      subst i0
      clear kr jr lr km jm lm
      have hlo0 := HO.out.lt
      obtain ⟨km, jm⟩ := HKM.out.rules
      have lm := HKM.out.lt
      obtain ⟨kr, jr⟩ := HKR.out.rules
      have lr := HKR.out.lt
      go_wp2_with fail
      refine (spec_l1Once_calls W0 g _ _ HC.out).mono ?_
      rintro e wo ⟨t, rfl, hc_, hg_⟩
      have hs_o := hg_.size
      replace HO := Lib.hid (ownsRow_keep HO.out hg_ (fun k hk e => by have := (hlo0 k hk).1; omega))
      have HCn := Lib.hid hc_
      clear HC
      have HC := HCn
      clear HCn
      replace HKR := Lib.hid (HKR.out.chg hg_ (by omega))
      replace HKM := Lib.hid (HKM.out.chg hg_ (by omega))
      replace HG := Lib.hid (HG.out.trans hg_)
      have zr := HG.out.size
      clear hc_ hg_ hlo hlo0 km jm lm kr jr lr
      have hlo := HO.out.lt
      obtain ⟨km, jm⟩ := HKM.out.rules
      have lm := HKM.out.lt
      obtain ⟨kr, jr⟩ := HKR.out.rules
      have lr := HKR.out.lt
      rcases t with _ | _
      · skip
        go_wp2
        refine post_cell (w0 := wo) (fun k => k = w.heap.size) Try.results41 w.heap.size #[.string nm, .slice A3 xs.length c3] _ rfl (Blk.eq ((HKR.out.set_ 0 (.string nm)).set_ 1 (.slice A3 xs.length c3)) (by simp)) Try.underlying29 rfl (by kernel_rfl) rfl (((Chg.refl (· = w.heap.size) _).setCell (p := ⟨w.heap.size, 0, none⟩) (.inl rfl) (.string nm)).setCell (p := ⟨w.heap.size, 1, none⟩) (.inl rfl) (.slice A3 xs.length c3)) (EX.out wo ⟨nm, xs⟩ A3 c3 ((w.heap.size + 2)) HC.out HG.out (by omega) (by omega) HO.out rfl (by show xs.length ≤ 10; omega) HF.out)
      · skip
        go_wp2_with fail
        refine wp_region_U (fun wq => wq.cell? ⟨(w.heap.size + 1), 1, none⟩ = some (.slice A3 xs.length c3)) [0, 1, 2, 3, 4, 5, 6] (by kernel_rfl) ?_
        have hH_ := (show wo.drew.cell? ⟨(w.heap.size + 1), 1, none⟩ = _ from km 1)
        refine wpAnyU_take (i := 0) (v := ?_) rfl (by kernel_rfl) (by kernel_rfl) (by kernel_rfl) (by kernel_rfl) (fun _ _ _ h => h) (Or.inl ⟨by rfl, ?_⟩) hH_ ?_
        rotate_left
        · (intro w hSw; (try dsimp only at hSw); go_simp <;> with_reducible rfl)
        simp only [Act.put, List.setIfInBounds_toArray, List.set_cons_zero, List.set_cons_succ]
        refine wpAnyU_take (i := 1) (v := ?_) rfl (by kernel_rfl) (by kernel_rfl) (by kernel_rfl) (by kernel_rfl) (fun _ _ _ h => h) (Or.inl ⟨by rfl, ?_⟩) hH_ ?_
        rotate_left
        · (intro w hSw; (try dsimp only at hSw); go_simp <;> with_reducible rfl)
        simp only [Act.put, List.setIfInBounds_toArray, List.set_cons_zero, List.set_cons_succ]
        refine wpAnyU_take (i := 2) (v := ?_) rfl (by kernel_rfl) (by kernel_rfl) (by kernel_rfl) (by kernel_rfl) (fun _ _ _ h => h) (Or.inl ⟨by rfl, ?_⟩) hH_ ?_
        rotate_left
        · (intro w hSw; (try dsimp only at hSw); go_simp <;> with_reducible rfl)
        simp only [Act.put, List.setIfInBounds_toArray, List.set_cons_zero, List.set_cons_succ]
        refine wpAnyU_one (i := 3) (by kernel_rfl) rfl (fun K hK => ?_)
        go_simp
        refine (spec_l1Below_calls W0 g _ _ (HC.out.below (Below.refl _ _).drew)).mono ?_
        rintro e wb ⟨na, hn0, hn1, rfl, hc_, hg_⟩
        replace hn1 := hn1 (by omega)
        have hs_b : wo.heap.size ≤ wb.heap.size := hg_.size
        have HCb := Lib.hid hc_
        have HKMb := Lib.hid (HKM.out.drew.chg hg_ (by omega))
        have HKRb := Lib.hid (HKR.out.drew.chg hg_ (by omega))
        have HGb := Lib.hid (HG.out.drew.trans hg_)
        have HOb := Lib.hid (ownsRow_keep (show wo.drew.ownsRow _ _ _ _ _ _ from HO.out) hg_ (fun k hk e => by have := (hlo k hk).1; omega))
        clear hc_ hg_
        obtain ⟨kb, jb⟩ := HKMb.out.rules
        refine hK.out _ _ ?_ (fun hH1_ => ?_)
        · exact (kb 1)
        clear hK K hH_
        have hH_ := hH1_
        clear hH1_
        refine wpAnyU_take (i := 4) (v := ?_) rfl (by kernel_rfl) (by kernel_rfl) (by kernel_rfl) (by kernel_rfl) (fun _ _ _ h => h) (Or.inl ⟨by rfl, ?_⟩) hH_ ?_
        rotate_left
        · (intro w hSw; (try dsimp only at hSw); go_simp <;> with_reducible rfl)
        simp only [Act.put, List.setIfInBounds_toArray, List.set_cons_zero, List.set_cons_succ]
        refine wpAnyU_one (i := 5) (by kernel_rfl) rfl (fun K hK => ?_)
        go_simp
        refine hK.out _ _ ?_ (fun hH1_ => ?_)
        · exact cell_alloc_keep (kb 1)
        clear hK K hH_
        have hH_ := hH1_
        clear hH1_
        refine wpAnyU_one' (i := 6) (by kernel_rfl) rfl (by kernel_rfl) (fun K hK => ?_)
        refine step_append_lies _ (by rfl) _ _ _ (by rfl) ((w.heap.size + 2)) 47 _ _ 6 56 Try.underlying27 rfl rfl rfl rfl rfl (by omega) _ xs.length _ (by rfl) (HOb.out.alloc _) ⟨wb.heap.size, 0, none⟩ 1 1 [.int .i64 10, .int .i64 na, .int .i64 0, .int .i64 0, .int .i64 0, .string ⟨#[]⟩] (by rfl) (by rfl) (World.news_of_block (cs := #[.int .i64 10, .int .i64 na, .int .i64 0, .int .i64 0, .int .i64 0, .string ⟨#[]⟩]) (t := 47) (fr := (0, 0)) (heap_alloc_new wb _)) (by simp [Value.oneCell']) (by omega) (by have h := (by decide : maxLen = 9223372036854775807); omega) (by omega) (by simp; omega) (wb.heap.size + 1) (by simp) ?_
        intro gg cap w3 hown hgrow hat hlt2
        have hz3 : wb.heap.size + 1 ≤ w3.heap.size := by have h := hgrow.size; simp only [size_alloc] at h; exact h
        have hlo2 : ∀ k, (Value.slice A3 xs.length c3).ownBlock = some k → (w.heap.size + 2) ≤ k := fun k hk => (hlo k hk).1
        have hlo3 : ∀ k, (Value.slice A3 xs.length c3).ownBlock = some k → k ≠ (w.heap.size + 1) := HNE.out
        have KM3 := Lib.hid ((HKMb.out.alloc (.cells #[.int .i64 10, .int .i64 na, .int .i64 0, .int .i64 0, .int .i64 0, .string ⟨#[]⟩] 47)).chg (grown_chg hgrow) (fun h => hlo3 _ h rfl))
        have KR3 := Lib.hid ((HKRb.out.alloc (.cells #[.int .i64 10, .int .i64 na, .int .i64 0, .int .i64 0, .int .i64 0, .string ⟨#[]⟩] 47)).chg (grown_chg hgrow) (fun h => by have := hlo2 _ h; omega))
        have HC3 := Lib.hid ((HCb.out.below ((Below.refl _ _).alloc (Nat.le_refl _) (.cells #[.int .i64 10, .int .i64 na, .int .i64 0, .int .i64 0, .int .i64 0, .string ⟨#[]⟩] 47))).chg (grown_chg hgrow) (fun k h => by have := hlo2 _ h; omega) (fun h => by have := hlo2 _ h; omega))
        have HG3 := Lib.hid ((HGb.out.alloc (.cells #[.int .i64 10, .int .i64 na, .int .i64 0, .int .i64 0, .int .i64 0, .string ⟨#[]⟩] 47)).then_ (grown_chg hgrow) (fun k hk h => by have := hlo2 _ h; omega))
        have HO3 := Lib.hid hown
        have HN3 : Hid (∀ k, (Value.slice (some ⟨gg, 0, none⟩) (xs.length + 1) cap).ownBlock = some k → k ≠ (w.heap.size + 1)) := by
          intro k hk
          simp only [Value.ownBlock, Option.some.injEq] at hk
          rcases hat with h | h
          · have := hlo3 _ h; omega
          · omega
        clear hown
        obtain ⟨km3, jm3⟩ := KM3.out.rules
        have lm3 := KM3.out.lt
        refine hK.out _ _ ?_
        clear hK K
        refine wpAnyU_one' (i := 7) (by kernel_rfl) rfl (by kernel_rfl) (fun K hK => ?_)
        go_simp
        refine hK.out _ _ ?_
        clear hK K
        refine wpAnyU_one' (i := 8) (by kernel_rfl) rfl (by kernel_rfl) (fun K hK => ?_)
        go_simp
        refine hK.out _ _ ?_
        clear hK K
        refine wpAnyU_done (by kernel_rfl) ?_ _
        have HO4 : Hid (w3.ownsRow ((w.heap.size + 2)) 47 6 (.slice (some ⟨gg, 0, none⟩) (xs ++ [(⟨10, na, 0, 0, 0, ⟨#[]⟩⟩ : GInstr)]).length cap) (xs ++ [(⟨10, na, 0, 0, 0, ⟨#[]⟩⟩ : GInstr)]).length ((xs ++ [(⟨10, na, 0, 0, 0, ⟨#[]⟩⟩ : GInstr)]).flatMap vsInstr)) := by unfold Hid; rw [List.flatMap_append, List.length_append]; exact HO3.out
        have HF4 : Hid (∀ z, z ∈ xs ++ [(⟨10, na, 0, 0, 0, ⟨#[]⟩⟩ : GInstr)] → FineI z ∧ z.Name.size ≤ 5) := by intro z hz; rcases List.mem_append.1 hz with h | h; exact HF.out z h; rw [List.mem_singleton.1 h]; exact fine_ret na hn0 (by omega)
        have HL4 : Hid ((xs ++ [(⟨10, na, 0, 0, 0, ⟨#[]⟩⟩ : GInstr)]).length = xs.length + 1) := by unfold Hid; rw [List.length_append]; rfl
        have HS5 := Lib.hid ((Chg.refl (· = (w.heap.size + 1)) w3).setCell (p := ⟨(w.heap.size + 1), 1, none⟩) (.inl rfl) (.slice (some ⟨gg, 0, none⟩) (xs.length + 1) cap))
        have hn3 : ∀ k, (Value.slice (some ⟨gg, 0, none⟩) (xs ++ [(⟨10, na, 0, 0, 0, ⟨#[]⟩⟩ : GInstr)]).length cap).ownBlock = some k → k ≠ (w.heap.size + 1) := by rw [HL4.out]; exact HN3.out
        obtain ⟨w5, hw5⟩ : ∃ q, q = w3.setCell ⟨(w.heap.size + 1), 1, none⟩ (.slice (some ⟨gg, 0, none⟩) (xs.length + 1) cap) := ⟨_, rfl⟩
        have KM5 : Hid (Blk w5 (w.heap.size + 1) 29 #[.string nm, .slice (some ⟨gg, 0, none⟩) (xs.length + 1) cap]) := by rw [hw5]; exact (KM3.out.set_ 1 _).eq (by simp)
        have HS6 : Chg (· = (w.heap.size + 1)) w3 w5 := by rw [hw5]; exact HS5.out
        have HO5 := Lib.hid (ownsRow_keep HO4.out HS6 (fun k hk e => hn3 k hk e))
        replace HKR := Lib.hid (KR3.out.chg HS6 (by omega))
        have HC5 := Lib.hid (HC3.out.chg HS6 (by rintro _ rfl; omega) (by omega))
        have HG5 := Lib.hid (HG3.out.then_ HS6 (by rintro k hk rfl; omega))
        have hs_5 := HS6.size
        clear hgrow hat hlo2 hlo3 km3 jm3 lm3 kb jb kr jr lr km jm lm HS6 HS5 hn3
        go_upto_region 8 with fail
        rw [← hw5]
        clear hw5
        obtain ⟨km, jm⟩ := KM5.out.rules
        have lm := KM5.out.lt
        obtain ⟨kr, jr⟩ := HKR.out.rules
        have lr := HKR.out.lt
        go_wp2
        refine post_cell (w0 := w5) (fun k => k = w.heap.size) Try.results41 w.heap.size #[.string nm, .slice (some ⟨gg, 0, none⟩) (xs.length + 1) cap] _ rfl (Blk.eq ((HKR.out.set_ 0 (.string nm)).set_ 1 (.slice (some ⟨gg, 0, none⟩) (xs.length + 1) cap)) (by simp)) Try.underlying29 rfl (by kernel_rfl) rfl (((Chg.refl (· = w.heap.size) _).setCell (p := ⟨w.heap.size, 0, none⟩) (.inl rfl) (.string nm)).setCell (p := ⟨w.heap.size, 1, none⟩) (.inl rfl) (.slice (some ⟨gg, 0, none⟩) (xs.length + 1) cap)) ?_
        intro W hW
        have h := EX.out w5 ⟨nm, xs ++ [(⟨10, na, 0, 0, 0, ⟨#[]⟩⟩ : GInstr)]⟩ (some ⟨gg, 0, none⟩) cap ((w.heap.size + 2)) HC5.out HG5.out (by omega) (by omega) HO5.out rfl (by show (xs ++ [(⟨10, na, 0, 0, 0, ⟨#[]⟩⟩ : GInstr)]).length ≤ 10; rw [HL4.out]; omega) HF4.out W hW
        dsimp only at h
        rw [HL4.out] at h
        exact h

end Go.Proofs.Ytiohoeafdaihpaa
namespace Go.Proofs.Ytiohoeafdaihpaa
open Go.RowKit
set_option linter.unusedVariables false
set_option linter.unusedSimpArgs false

theorem MethAt.rd {L : Nat} {w : World} {x : GMethod} {us : List Value} (h : MethAt L w x us) (hl : x.Code.length ≤ 1048576) : RdLW w (eMethod x) us := by
  obtain ⟨A, c, B, rfl, _, _, ho⟩ := h
  exact mkrd_eMethod (ownsRow_rdw vals_eInstr ho (by omega))
theorem MethAt.chg {L : Nat} {w w' : World} {x : GMethod} {us : List Value} {U : Nat → Prop} (h : MethAt L w x us) (hc : Chg U w w') (hU : ∀ k, U k → k < L) : MethAt L w' x us := by
  obtain ⟨A, c, B, rfl, h1, h2, ho⟩ := h
  exact ⟨A, c, B, rfl, h1, Nat.le_trans h2 hc.size, ownsRow_keep ho hc (fun k hk e => by have := (ho.lt k hk).1; have := hU k e; omega)⟩
/-- all instructions but the last one are fine -/
def FineBut (xs : List GInstr) : Prop := ∀ (i : Nat) y, xs[i]? = some y → i + 1 < xs.length → FineI y
theorem fineBut_all {xs : List GInstr} (h : ∀ y, y ∈ xs → FineI y) : FineBut xs := fun i y hy _ => h y (List.mem_of_getElem? hy)
theorem fineBut_one {xs : List GInstr} (h : ∀ y, y ∈ xs → FineI y) (z : GInstr) : FineBut (xs ++ [z]) := fun i y hy hi => by
  rw [List.length_append, List.length_singleton] at hi
  rw [List.getElem?_append_left (by omega)] at hy
  exact h y (List.mem_of_getElem? hy)
theorem siz_code {xs : List GInstr} {m : Nat} (h : ∀ y, y ∈ xs → y.Name.size ≤ m) : sizL (xs.flatMap eInstr) ≤ xs.length * m := by
  induction xs with
  | nil => rw [List.flatMap_nil, sizL_nil]; omega
  | cons x xs ih =>
    have h1 := ih (fun y hy => h y (by simp [hy]))
    have h2 := h x (by simp)
    rw [List.flatMap_cons, sizL_append, siz_eInstr, List.length_cons, Nat.succ_mul]
    omega
set_option maxHeartbeats 12800000 in
set_option maxRecDepth 100000 in
theorem spec_DrawFirstUnset_calls (v : Value) (b : List UInt8) (w : World) (hr : RdW w (.s b.length (b.flatMap eByte)) v) (hz : b.length ≤ 1048576) :
    Calls Try.prog 17 #[v] w fun e w' => ∃ x us, e = .returned (.agg us.toArray) ∧ RdLW w' (eMethod x) us ∧ x.Name = ⟨#[103, 101, 116]⟩ ∧ x.Code.length ≤ 11 ∧ FineBut x.Code ∧ (∀ y, y ∈ x.Code → y.Name.size ≤ 7) ∧ Below w.heap.size w w' := by
  obtain ⟨A0, c0, rfl, -⟩ := hr.slice
  have HN := Lib.hid (spec_l1New_calls _ b (w.alloc (.cells #[.string ⟨#[]⟩, .slice none 0 0] 29)) (hr.alloc _) hz)
  clear hr
  go_enter Try.func17, Try.ntmps17
  go_wp2_with fail
  refine HN.out.mono ?_
  rintro e w1 ⟨he, hc1, hb1⟩
  simp only [size_alloc] at he hc1
  subst he
  have HC1 := Lib.hid hc1
  have HK1 : Hid (Blk w1 w.heap.size 29 #[.string ⟨#[]⟩, .slice none 0 0]) := (Blk.new w _ _).below hb1
  have hs1 : w.heap.size + 1 ≤ w1.heap.size := by have h := hb1.size; simp only [size_alloc] at h; exact h
  have hg1 := hc1.lt
  clear hc1 hb1 HN
  go_wp2_with fail
  refine (spec_l1Once_calls _ (w.heap.size + 1) _ _ HC1.out).mono ?_
  rintro e w2 ⟨t, rfl, hc2, hg2⟩
  have HC2 := Lib.hid hc2
  have HK2 := Lib.hid (HK1.out.chg hg2 (by omega))
  have hs2 := hg2.size
  clear hc2 hg2 HC1 HK1
  rcases t with _ | _
  · skip
    go_wp2_with fail
    refine (spec_l6Method_calls _ (w.heap.size + 1) _ _ HC2.out).mono ?_
    rintro e w3 ⟨x, us, rfl, hm, hn, hl, hf, hc3, hg3⟩
    obtain ⟨A, c, B, rfl, hB1, hB2, ho⟩ := hm
    have HO3 := Lib.hid ho
    have HC3 := Lib.hid hc3
    have HK3 := Lib.hid (HK2.out.chg hg3 (by omega))
    have HF3 := Lib.hid hf
    have HN3 : Hid (x.Name = ⟨#[103, 101, 116]⟩) := hn
    have hs3 := hg3.size
    have hlo := ho.lt
    clear hc3 hg3 ho hf hn HC2 HK2
    go_wp2_with fail
    obtain ⟨wr, hwr⟩ : ∃ q, q = w3.alloc (.cells #[.string x.Name, .slice A x.Code.length c] 29) := ⟨_, rfl⟩
    rw [← hwr]
    have HC : Hid (Cur (w.alloc (.cells #[.string ⟨#[]⟩, .slice none 0 0] 29)) (w.heap.size + 1) wr) := by rw [hwr]; exact HC3.out.below ((Below.refl _ _).alloc (Nat.le_refl _) _)
    have HKR : Hid (Blk wr w.heap.size 29 #[.string ⟨#[]⟩, .slice none 0 0]) := by rw [hwr]; exact HK3.out.alloc _
    have HKM : Hid (Blk wr w3.heap.size 29 #[.string x.Name, .slice A x.Code.length c]) := by rw [hwr]; exact Blk.new w3 _ _
    have HO : Hid (wr.ownsRow B 47 6 (.slice A x.Code.length c) x.Code.length (x.Code.flatMap vsInstr)) := by rw [hwr]; exact HO3.out.alloc _
    have hsr : wr.heap.size = w3.heap.size + 1 := by rw [hwr]; simp
    clear hwr HC3 HK3 HO3
    refine (spec_l1Once_calls _ (w.heap.size + 1) _ _ HC.out).mono ?_
    rintro e w4 ⟨t, rfl, hc4, hg4⟩
    have HC4 := Lib.hid hc4
    have HKR4 := Lib.hid (HKR.out.chg hg4 (by omega))
    have HKM4 := Lib.hid (HKM.out.chg hg4 (by omega))
    have HO4 := Lib.hid (ownsRow_keep HO.out hg4 (fun k hk e => by have := (hlo k hk).1; omega))
    have hs4 := hg4.size
    clear hc4 hg4 HC HKR HKM HO
    obtain ⟨km, jm⟩ := HKM4.out.rules
    have lm := HKM4.out.lt
    obtain ⟨kr, jr⟩ := HKR4.out.rules
    have lr := HKR4.out.lt
    rcases t with _ | _
    · skip
      go_wp2
      refine post_cell (w0 := w4) (fun k => k = w.heap.size) Try.results17 w.heap.size #[.string x.Name, .slice A x.Code.length c] _ rfl (Blk.eq ((HKR4.out.set_ 0 (.string x.Name)).set_ 1 (.slice A x.Code.length c)) (by simp)) Try.underlying29 rfl (by kernel_rfl) rfl (((Chg.refl (· = w.heap.size) _).setCell (p := ⟨w.heap.size, 0, none⟩) (.inl rfl) (.string x.Name)).setCell (p := ⟨w.heap.size, 1, none⟩) (.inl rfl) (.slice A x.Code.length c)) ?_
      intro W hW
      refine ⟨x, _, rfl, mkrd_eMethod (ownsRow_rdw vals_eInstr (ownsRow_keep HO4.out hW (fun k hk e => by have := (hlo k hk).1; omega)) (by omega)), HN3.out, by omega, fineBut_all (fun y hy => (HF3.out y hy).1), fun y hy => by have := (HF3.out y hy).2; omega, ?_⟩
      exact below_chg (((Below.refl w.heap.size w).alloc (Nat.le_refl _) _).trans (HC4.out.base.mono (by simp))) hW (by omega) (by rintro _ rfl; exact Nat.le_refl _)
    · skip
      go_wp2_with fail
      refine wp_region_U (fun wq => wq.cell? ⟨w3.heap.size, 1, none⟩ = some (.slice A x.Code.length c)) [0, 1, 2, 3, 4, 5] (by kernel_rfl) ?_
      have hH_ := (show w4.drew.cell? ⟨w3.heap.size, 1, none⟩ = _ from km 1)
      refine wpAnyU_take (i := 0) (v := ?_) rfl (by kernel_rfl) (by kernel_rfl) (by kernel_rfl) (by kernel_rfl) (fun _ _ _ h => h) (Or.inl ⟨by rfl, ?_⟩) hH_ ?_
      rotate_left
      · (intro w hSw; (try dsimp only at hSw); go_simp <;> with_reducible rfl)
      simp only [Act.put, List.setIfInBounds_toArray, List.set_cons_zero, List.set_cons_succ]
      refine wpAnyU_take (i := 1) (v := ?_) rfl (by kernel_rfl) (by kernel_rfl) (by kernel_rfl) (by kernel_rfl) (fun _ _ _ h => h) (Or.inl ⟨by rfl, ?_⟩) hH_ ?_
      rotate_left
      · (intro w hSw; (try dsimp only at hSw); go_simp <;> with_reducible rfl)
      simp only [Act.put, List.setIfInBounds_toArray, List.set_cons_zero, List.set_cons_succ]
      refine wpAnyU_take (i := 2) (v := ?_) rfl (by kernel_rfl) (by kernel_rfl) (by kernel_rfl) (by kernel_rfl) (fun _ _ _ h => h) (Or.inl ⟨by rfl, ?_⟩) hH_ ?_
      rotate_left
      · (intro w hSw; (try dsimp only at hSw); go_simp <;> with_reducible rfl)
      simp only [Act.put, List.setIfInBounds_toArray, List.set_cons_zero, List.set_cons_succ]
      refine wpAnyU_one (i := 3) (by kernel_rfl) rfl (fun K hK => ?_)
      go_simp
      refine (spec_l5Any_calls _ (w.heap.size + 1) _ (HC4.out.below (Below.refl _ _).drew)).mono ?_
      rintro e wb ⟨y, rfl, hny, hc_, hg_⟩
      have HNY := Lib.hid hny
      have hs_b : w4.heap.size ≤ wb.heap.size := hg_.size
      have HCb := Lib.hid hc_
      have HKMb := Lib.hid (HKM4.out.drew.chg hg_ (by omega))
      have HKRb := Lib.hid (HKR4.out.drew.chg hg_ (by omega))
      have HOb := Lib.hid (ownsRow_keep (show w4.drew.ownsRow _ _ _ _ _ _ from HO4.out) hg_ (fun k hk e => by have := (hlo k hk).1; omega))
      clear hc_ hg_ hny
      obtain ⟨kb, jb⟩ := HKMb.out.rules
      refine hK.out _ _ ?_ (fun hH1_ => ?_)
      · exact (kb 1)
      clear hK K hH_
      have hH_ := hH1_
      clear hH1_
      refine wpAnyU_one (i := 4) (by kernel_rfl) rfl (fun K hK => ?_)
      go_simp
      refine hK.out _ _ ?_ (fun hH1_ => ?_)
      · exact cell_alloc_keep (kb 1)
      clear hK K hH_
      have hH_ := hH1_
      clear hH1_
      refine wpAnyU_one' (i := 5) (by kernel_rfl) rfl (by kernel_rfl) (fun K hK => ?_)
      refine step_append_lies _ (by rfl) _ _ _ (by rfl) B 47 _ _ 6 56 Try.underlying27 rfl rfl rfl rfl rfl (by omega) _ x.Code.length _ (by rfl) (HOb.out.alloc _) ⟨wb.heap.size, 0, none⟩ 1 1 [.int .i64 y.Op, .int .i64 y.A, .int .i64 y.B, .int .i64 y.C, .int .i64 y.D, .string y.Name] (by rfl) (by rfl) (World.news_of_block (cs := #[.int .i64 y.Op, .int .i64 y.A, .int .i64 y.B, .int .i64 y.C, .int .i64 y.D, .string y.Name]) (t := 47) (fr := (0, 0)) (heap_alloc_new wb _)) (by simp [Value.oneCell']) (by omega) (by have h := (by decide : maxLen = 9223372036854775807); omega) (by omega) (by simp; omega) (wb.heap.size + 1) (by simp) ?_
      intro gg cap w6 hown hgrow hat hlt2
      have hz6 : wb.heap.size + 1 ≤ w6.heap.size := by have h := hgrow.size; simp only [size_alloc] at h; exact h
      have hlo2 : ∀ k, (Value.slice A x.Code.length c).ownBlock = some k → B ≤ k := fun k hk => (hlo k hk).1
      have hlo3 : ∀ k, (Value.slice A x.Code.length c).ownBlock = some k → k ≠ w3.heap.size := fun k hk => by have := (hlo k hk).2; omega
      have HKM6 := Lib.hid ((HKMb.out.alloc (.cells #[.int .i64 y.Op, .int .i64 y.A, .int .i64 y.B, .int .i64 y.C, .int .i64 y.D, .string y.Name] 47)).chg (grown_chg hgrow) (fun h => hlo3 _ h rfl))
      have HKR6 := Lib.hid ((HKRb.out.alloc (.cells #[.int .i64 y.Op, .int .i64 y.A, .int .i64 y.B, .int .i64 y.C, .int .i64 y.D, .string y.Name] 47)).chg (grown_chg hgrow) (fun h => by have := hlo2 _ h; omega))
      have HC6 := Lib.hid ((HCb.out.below ((Below.refl _ _).alloc (Nat.le_refl _) (.cells #[.int .i64 y.Op, .int .i64 y.A, .int .i64 y.B, .int .i64 y.C, .int .i64 y.D, .string y.Name] 47))).chg (grown_chg hgrow) (fun k h => by have := hlo2 _ h; simp only [size_alloc]; omega) (fun h => by have := hlo2 _ h; omega))
      have HO6 := Lib.hid hown
      have HN6 : Hid (∀ k, (Value.slice (some ⟨gg, 0, none⟩) (x.Code.length + 1) cap).ownBlock = some k → k ≠ w3.heap.size) := by
        intro k hk
        simp only [Value.ownBlock, Option.some.injEq] at hk
        rcases hat with h | h
        · have := hlo3 _ h; omega
        · omega
      clear hown
      obtain ⟨km3, jm3⟩ := HKM6.out.rules
      have lm3 := HKM6.out.lt
      refine hK.out _ _ ?_
      clear hK K
      refine wpAnyU_one' (i := 6) (by kernel_rfl) rfl (by kernel_rfl) (fun K hK => ?_)
      go_simp
      refine hK.out _ _ ?_
      clear hK K
      refine wpAnyU_one' (i := 7) (by kernel_rfl) rfl (by kernel_rfl) (fun K hK => ?_)
      go_simp
      refine hK.out _ _ ?_
      clear hK K
      refine wpAnyU_done (by kernel_rfl) ?_ _
      have HL5 : Hid ((x.Code ++ [y]).length = x.Code.length + 1) := by unfold Hid; rw [List.length_append]; rfl
      have HO5 : Hid (w6.ownsRow B 47 6 (.slice (some ⟨gg, 0, none⟩) (x.Code ++ [y]).length cap) (x.Code ++ [y]).length ((x.Code ++ [y]).flatMap vsInstr)) := by unfold Hid; rw [List.flatMap_append, HL5.out]; exact HO6.out
      obtain ⟨w7, hw7⟩ : ∃ q, q = w6.setCell ⟨w3.heap.size, 1, none⟩ (.slice (some ⟨gg, 0, none⟩) (x.Code.length + 1) cap) := ⟨_, rfl⟩
      have HS7 : Chg (· = w3.heap.size) w6 w7 := by rw [hw7]; exact (Chg.refl (· = w3.heap.size) w6).setCell (p := ⟨w3.heap.size, 1, none⟩) (.inl rfl) _
      have HKM7 : Hid (Blk w7 w3.heap.size 29 #[.string x.Name, .slice (some ⟨gg, 0, none⟩) (x.Code.length + 1) cap]) := by rw [hw7]; exact (HKM6.out.set_ 1 _).eq (by simp)
      have HKR7 := Lib.hid (HKR6.out.chg HS7 (by omega))
      have HO7 := Lib.hid (ownsRow_keep HO5.out HS7 (fun k hk e => by rw [HL5.out] at hk; exact HN6.out k hk e))
      have HC7 := Lib.hid (HC6.out.chg HS7 (by rintro _ rfl; simp only [size_alloc]; omega) (by omega))
      have hs7 := HS7.size
      clear hgrow hat hlo2 hlo3 km3 jm3 lm3 kb jb kr jr lr km jm lm HS7
      go_upto_region 7 with fail
      rw [← hw7]
      clear hw7
      obtain ⟨km, jm⟩ := HKM7.out.rules
      have lm := HKM7.out.lt
      obtain ⟨kr, jr⟩ := HKR7.out.rules
      have lr := HKR7.out.lt
      go_wp2
      refine post_cell (w0 := w7) (fun k => k = w.heap.size) Try.results17 w.heap.size #[.string x.Name, .slice (some ⟨gg, 0, none⟩) (x.Code.length + 1) cap] _ rfl (Blk.eq ((HKR7.out.set_ 0 (.string x.Name)).set_ 1 (.slice (some ⟨gg, 0, none⟩) (x.Code.length + 1) cap)) (by simp)) Try.underlying29 rfl (by kernel_rfl) rfl (((Chg.refl (· = w.heap.size) _).setCell (p := ⟨w.heap.size, 0, none⟩) (.inl rfl) (.string x.Name)).setCell (p := ⟨w.heap.size, 1, none⟩) (.inl rfl) (.slice (some ⟨gg, 0, none⟩) (x.Code.length + 1) cap)) ?_
      intro W hW
      have hrd := mkrd_eMethod (x := ⟨x.Name, x.Code ++ [y]⟩) (ownsRow_rdw vals_eInstr (ownsRow_keep HO7.out hW (fun k hk e => by have := (HO7.out.lt k hk).1; omega)) (by rw [HL5.out]; omega))
      dsimp only at hrd
      rw [HL5.out] at hrd
      refine ⟨⟨x.Name, x.Code ++ [y]⟩, _, rfl, hrd, HN3.out, by show (x.Code ++ [y]).length ≤ 11; rw [HL5.out]; omega, fineBut_one (fun y hy => (HF3.out y hy).1) y, fun z hz => ?_, ?_⟩
      · rcases List.mem_append.1 hz with h | h
        · have := (HF3.out z h).2; omega
        · rw [List.mem_singleton.1 h]; exact HNY.out
      · exact below_chg (((Below.refl w.heap.size w).alloc (Nat.le_refl _) _).trans (HC7.out.base.mono (by simp))) hW (by omega) (by rintro _ rfl; exact Nat.le_refl _)
  · skip
    go_wp2_with fail
    refine (spec_l8Safe_calls _ (w.heap.size + 1) _ _ HC2.out).mono ?_
    rintro e w3 ⟨x, us, rfl, hm, hn, hl, hf, hc3, hg3⟩
    obtain ⟨A, c, B, rfl, hB1, hB2, ho⟩ := hm
    have HO3 := Lib.hid ho
    have HC3 := Lib.hid hc3
    have HK3 := Lib.hid (HK2.out.chg hg3 (by omega))
    have HF3 := Lib.hid hf
    have HN3 : Hid (x.Name = ⟨#[103, 101, 116]⟩) := hn
    have hs3 := hg3.size
    have hlo := ho.lt
    clear hc3 hg3 ho hf hn HC2 HK2
    obtain ⟨kr, jr⟩ := HK3.out.rules
    have lr := HK3.out.lt
    go_wp2
    refine post_cell (w0 := w3) (fun k => k = w.heap.size) Try.results17 w.heap.size #[.string x.Name, .slice A x.Code.length c] _ rfl (Blk.eq ((HK3.out.set_ 0 (.string x.Name)).set_ 1 (.slice A x.Code.length c)) (by simp)) Try.underlying29 rfl (by kernel_rfl) rfl (((Chg.refl (· = w.heap.size) _).setCell (p := ⟨w.heap.size, 0, none⟩) (.inl rfl) (.string x.Name)).setCell (p := ⟨w.heap.size, 1, none⟩) (.inl rfl) (.slice A x.Code.length c)) ?_
    intro W hW
    refine ⟨x, _, rfl, mkrd_eMethod (ownsRow_rdw vals_eInstr (ownsRow_keep HO3.out hW (fun k hk e => by have := (hlo k hk).1; omega)) (by omega)), HN3.out, by omega, fineBut_all (fun y hy => (HF3.out y hy).1), fun y hy => by have := (HF3.out y hy).2; omega, ?_⟩
    exact below_chg (((Below.refl w.heap.size w).alloc (Nat.le_refl _) _).trans (HC3.out.base.mono (by simp))) hW (by omega) (by rintro _ rfl; exact Nat.le_refl _)

end Go.Proofs.Ytiohoeafdaihpaa
