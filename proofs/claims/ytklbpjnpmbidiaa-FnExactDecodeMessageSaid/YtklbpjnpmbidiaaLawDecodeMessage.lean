import Derived.Test.YtklbpjnpmbidiaaProg
import Derived.Test.YtklbpjnpmbidiaaTypes
import Derived.StillTailTactics
import Derived.Deep.RegionHeld3
import Derived.Laws.IdiomStrings
import Derived.Test.YtklbpjnpmbidiaaAppend
import Derived.Laws.StructEq
import Derived.Lib.SliceRun
import Derived.Shelf.RegionOpenPlain
import Derived.Test.YtklbpjnpmbidiaaDecM
import Derived.Test.YtklbpjnpmbidiaaDecMI
import Derived.Test.YtklbpjnpmbidiaaMessage
namespace Go.Proofs.Ytklbpjnpmbidiaa
open Go.RowKit
set_option linter.unusedVariables false
set_option linter.unusedSimpArgs false

set_option maxHeartbeats 800000 in
set_option maxRecDepth 100000 in
theorem FnExactDecodeMessage_calls (w : World) (vaB : Value) (aB : List UInt8) (raB : RdW w (.s aB.length (aB.flatMap eByte)) vaB) :
    Calls Try.prog 3 #[vaB] w fun e w' => e = .returned (.bool true) ∧ Below w.heap.size w w' := by
  obtain ⟨AaB, caB, rfl, -⟩ := raB.slice
  have ARaB := Lib.hid raB
  clear raB
  go_enter Try.func3, Try.ntmps3
  by_cases hlenaB : (1048576 : Int) < aB.length
  · go_wp2
    go_ret
    exact ⟨rfl, (Below.refl _ _)⟩
  have hszaB : aB.length ≤ 1048576 := by omega
  go_wp2_with fail
  refine (toByteS_calls aB _ _ (ARaB.out.below (Below.refl _ _)) (by omega)).mono ?_
  rintro e w1 ⟨u1, fp1, rfl, o1, f1, hb1⟩
  have NB1 : Below w.heap.size w w1 := hb1
  have BB0_1 := Lib.hid (NB1)
  have sz1 : w.heap.size ≤ w1.heap.size := by have h := hb1.size; (try simp only [size_alloc] at h); omega
  clear hb1 NB1
  have LB1 : Hid (∀ g, g ∈ fp1 → w.heap.size ≤ g) := Lib.hid (fun g hg => by have h := f1.2 g hg; (try simp only [size_alloc] at h); omega)
  have UB1 : Hid (∀ g, g ∈ fp1 → g < w1.heap.size) := Lib.hid (Own.lt _ _ _ o1)
  have ND1 := Lib.hid f1.1
  clear f1
  have D1 := Lib.hid o1
  clear o1
  obtain ⟨z0, hz0⟩ : ∃ z, z = (decodeMessage1 aB) := ⟨_, rfl⟩
  have HZ0 := Lib.hid hz0
  clear hz0
  go_wp2_with fail
  refine (spec_DecodeMessage_calls _ aB _ (D1.out.rdw.below (Below.refl _ _)) (by omega)).mono ?_
  rintro e w2 ⟨u2, rfl, o2, hb2⟩
  have NB2 : Below w1.heap.size w1 w2 := hb2
  have BB0_2 := Lib.hid (BB0_1.out.trans (NB2.mono BB0_1.out.size))
  have BB1_2 := Lib.hid (NB2)
  have sz2 : w1.heap.size ≤ w2.heap.size := by have h := hb2.size; (try simp only [size_alloc] at h); omega
  clear hb2 NB2
  rw [← HZ0.out] at o2
  obtain ⟨v5_2, rfl, q5_2⟩ := rd_eMessage o2
  obtain ⟨A5_2, c5_2, rfl, -⟩ := q5_2.slice
  clear q5_2
  have D2 := Lib.hid o2
  clear o2
  go_wp2_with fail
  refine (toByteS_calls aB _ _ (ARaB.out.below (BB0_2.out.alloc (by (try simp only [size_alloc]); omega) _)) (by omega)).mono ?_
  rintro e w3 ⟨u3, fp3, rfl, o3, f3, hb3⟩
  have NB3 : Below w2.heap.size w2 w3 := (((Below.refl _ _).alloc (Nat.le_refl _) _)).trans (hb3.mono (by (try simp only [size_alloc]); omega))
  have BB0_3 := Lib.hid (BB0_2.out.trans (NB3.mono BB0_2.out.size))
  have BB1_3 := Lib.hid (BB1_2.out.trans (NB3.mono BB1_2.out.size))
  have BB2_3 := Lib.hid (NB3)
  have sz3 : w2.heap.size + 1 ≤ w3.heap.size := by have h := hb3.size; (try simp only [size_alloc] at h); omega
  have Kw0_3 : Hid (Blk w3 (w2.heap.size) 29 #[.int .i64 z0.Kind, .int .i64 z0.Pos, .int .i64 z0.Answer, .int .i64 z0.Question, .string z0.Name, .slice A5_2 (z0.Args).length c5_2, .int .i64 z0.Value.Kind, .int .i64 z0.Value.N, .int .i64 z0.Count, .int .i64 z0.Tag.Vat, .int .i64 z0.Tag.Entity, .int .i64 z0.Tag.Seq]) := Lib.hid ((Blk.made rfl).below hb3)
  obtain ⟨kcw0_3, kfw0_3⟩ := Kw0_3.out.rules
  have klw0_3 := Kw0_3.out.lt
  clear hb3 NB3
  have LB3 : Hid (∀ g, g ∈ fp3 → w2.heap.size + 1 ≤ g) := Lib.hid (fun g hg => by have h := f3.2 g hg; (try simp only [size_alloc] at h); omega)
  have UB3 : Hid (∀ g, g ∈ fp3 → g < w3.heap.size) := Lib.hid (Own.lt _ _ _ o3)
  have ND3 := Lib.hid f3.1
  clear f3
  have D3 := Lib.hid o3
  clear o3
  go_wp2_with fail
  refine (impl_DecodeMessage_calls _ aB _ (D3.out.rdw.below (Below.refl _ _)) (by omega)).mono ?_
  rintro e w4 ⟨u4, fp4, rfl, o4, f4, hb4⟩
  have NB4 : Below w3.heap.size w3 w4 := hb4
  have BB0_4 := Lib.hid (BB0_3.out.trans (NB4.mono BB0_3.out.size))
  have BB1_4 := Lib.hid (BB1_3.out.trans (NB4.mono BB1_3.out.size))
  have BB2_4 := Lib.hid (BB2_3.out.trans (NB4.mono BB2_3.out.size))
  have BB3_4 := Lib.hid (NB4)
  have sz4 : w3.heap.size ≤ w4.heap.size := by have h := hb4.size; (try simp only [size_alloc] at h); omega
  have Kw0_4 : Hid (Blk w4 (w2.heap.size) 29 #[.int .i64 z0.Kind, .int .i64 z0.Pos, .int .i64 z0.Answer, .int .i64 z0.Question, .string z0.Name, .slice A5_2 (z0.Args).length c5_2, .int .i64 z0.Value.Kind, .int .i64 z0.Value.N, .int .i64 z0.Count, .int .i64 z0.Tag.Vat, .int .i64 z0.Tag.Entity, .int .i64 z0.Tag.Seq]) := Lib.hid (Kw0_3.out.below hb4)
  clear kcw0_3 kfw0_3 klw0_3
  obtain ⟨kcw0_4, kfw0_4⟩ := Kw0_4.out.rules
  have klw0_4 := Kw0_4.out.lt
  clear hb4 NB4
  rw [← HZ0.out] at o4
  obtain ⟨v5_4, f5_4, rfl, -, q5_4⟩ := own_eMessage o4
  obtain ⟨A5_4, c5_4, rfl, -⟩ := q5_4.slice
  clear q5_4
  have LB4 : Hid (∀ g, g ∈ fp4 → w3.heap.size ≤ g) := Lib.hid (fun g hg => by have h := f4.2 g hg; (try simp only [size_alloc] at h); omega)
  have UB4 : Hid (∀ g, g ∈ fp4 → g < w4.heap.size) := Lib.hid (OwnL.lt _ _ _ o4)
  have ND4 := Lib.hid f4.1
  clear f4
  have D4 := Lib.hid o4
  clear o4
  go_wp2_with fail
  refine (eqMessage_calls _ _ z0 _ (D4.out.rdw.below ((Below.refl _ _).alloc (Nat.le_refl _) _)) (D2.out.below (BB2_4.out.alloc (by (try simp only [size_alloc]); omega) _))).mono ?_
  rintro e w5 ⟨rfl, hb5⟩
  have NB5 : Below w4.heap.size w4 w5 := (((Below.refl _ _).alloc (Nat.le_refl _) _)).trans (hb5.mono (by (try simp only [size_alloc]); omega))
  have BB0_5 := Lib.hid (BB0_4.out.trans (NB5.mono BB0_4.out.size))
  have BB1_5 := Lib.hid (BB1_4.out.trans (NB5.mono BB1_4.out.size))
  have BB2_5 := Lib.hid (BB2_4.out.trans (NB5.mono BB2_4.out.size))
  have BB3_5 := Lib.hid (BB3_4.out.trans (NB5.mono BB3_4.out.size))
  have BB4_5 := Lib.hid (NB5)
  have sz5 : w4.heap.size + 1 ≤ w5.heap.size := by have h := hb5.size; (try simp only [size_alloc] at h); omega
  have Kw0_5 : Hid (Blk w5 (w2.heap.size) 29 #[.int .i64 z0.Kind, .int .i64 z0.Pos, .int .i64 z0.Answer, .int .i64 z0.Question, .string z0.Name, .slice A5_2 (z0.Args).length c5_2, .int .i64 z0.Value.Kind, .int .i64 z0.Value.N, .int .i64 z0.Count, .int .i64 z0.Tag.Vat, .int .i64 z0.Tag.Entity, .int .i64 z0.Tag.Seq]) := Lib.hid ((Kw0_4.out.alloc _).below hb5)
  have Kg0_5 : Hid (Blk w5 (w4.heap.size) 29 #[.int .i64 z0.Kind, .int .i64 z0.Pos, .int .i64 z0.Answer, .int .i64 z0.Question, .string z0.Name, .slice A5_4 (z0.Args).length c5_4, .int .i64 z0.Value.Kind, .int .i64 z0.Value.N, .int .i64 z0.Count, .int .i64 z0.Tag.Vat, .int .i64 z0.Tag.Entity, .int .i64 z0.Tag.Seq]) := Lib.hid ((Blk.made rfl).below hb5)
  clear kcw0_4 kfw0_4 klw0_4
  obtain ⟨kcw0_5, kfw0_5⟩ := Kw0_5.out.rules
  have klw0_5 := Kw0_5.out.lt
  obtain ⟨kcg0_5, kfg0_5⟩ := Kg0_5.out.rules
  have klg0_5 := Kg0_5.out.lt
  clear hb5 NB5
  go_wp2_with fail
  refine (toByteS_calls aB _ _ (ARaB.out.below BB0_5.out) (by omega)).mono ?_
  rintro e w6 ⟨u6, fp6, rfl, o6, f6, hb6⟩
  have NB6 : Below w5.heap.size w5 w6 := hb6
  have BB0_6 := Lib.hid (BB0_5.out.trans (NB6.mono BB0_5.out.size))
  have BB1_6 := Lib.hid (BB1_5.out.trans (NB6.mono BB1_5.out.size))
  have BB2_6 := Lib.hid (BB2_5.out.trans (NB6.mono BB2_5.out.size))
  have BB3_6 := Lib.hid (BB3_5.out.trans (NB6.mono BB3_5.out.size))
  have BB4_6 := Lib.hid (BB4_5.out.trans (NB6.mono BB4_5.out.size))
  have sz6 : w5.heap.size ≤ w6.heap.size := by have h := hb6.size; (try simp only [size_alloc] at h); omega
  have Kw0_6 : Hid (Blk w6 (w2.heap.size) 29 #[.int .i64 z0.Kind, .int .i64 z0.Pos, .int .i64 z0.Answer, .int .i64 z0.Question, .string z0.Name, .slice A5_2 (z0.Args).length c5_2, .int .i64 z0.Value.Kind, .int .i64 z0.Value.N, .int .i64 z0.Count, .int .i64 z0.Tag.Vat, .int .i64 z0.Tag.Entity, .int .i64 z0.Tag.Seq]) := Lib.hid (Kw0_5.out.below hb6)
  have Kg0_6 : Hid (Blk w6 (w4.heap.size) 29 #[.int .i64 z0.Kind, .int .i64 z0.Pos, .int .i64 z0.Answer, .int .i64 z0.Question, .string z0.Name, .slice A5_4 (z0.Args).length c5_4, .int .i64 z0.Value.Kind, .int .i64 z0.Value.N, .int .i64 z0.Count, .int .i64 z0.Tag.Vat, .int .i64 z0.Tag.Entity, .int .i64 z0.Tag.Seq]) := Lib.hid (Kg0_5.out.below hb6)
  clear kcw0_5 kfw0_5 klw0_5 kcg0_5 kfg0_5 klg0_5
  obtain ⟨kcw0_6, kfw0_6⟩ := Kw0_6.out.rules
  have klw0_6 := Kw0_6.out.lt
  obtain ⟨kcg0_6, kfg0_6⟩ := Kg0_6.out.rules
  have klg0_6 := Kg0_6.out.lt
  clear hb6 NB6
  have LB6 : Hid (∀ g, g ∈ fp6 → w5.heap.size ≤ g) := Lib.hid (fun g hg => by have h := f6.2 g hg; (try simp only [size_alloc] at h); omega)
  have UB6 : Hid (∀ g, g ∈ fp6 → g < w6.heap.size) := Lib.hid (Own.lt _ _ _ o6)
  have ND6 := Lib.hid f6.1
  clear f6
  have D6 := Lib.hid o6
  clear o6
  go_wp2_with fail
  refine (eqByteS_calls aB _ _ _ (D3.out.rdw.below BB3_6.out) (D6.out.rdw.below (Below.refl _ _))).mono ?_
  rintro e w7 ⟨rfl, hb7⟩
  have NB7 : Below w6.heap.size w6 w7 := hb7
  have BB0_7 := Lib.hid (BB0_6.out.trans (NB7.mono BB0_6.out.size))
  have BB1_7 := Lib.hid (BB1_6.out.trans (NB7.mono BB1_6.out.size))
  have BB2_7 := Lib.hid (BB2_6.out.trans (NB7.mono BB2_6.out.size))
  have BB3_7 := Lib.hid (BB3_6.out.trans (NB7.mono BB3_6.out.size))
  have BB4_7 := Lib.hid (BB4_6.out.trans (NB7.mono BB4_6.out.size))
  have BB6_7 := Lib.hid (NB7)
  have sz7 : w6.heap.size ≤ w7.heap.size := by have h := hb7.size; (try simp only [size_alloc] at h); omega
  have Kw0_7 : Hid (Blk w7 (w2.heap.size) 29 #[.int .i64 z0.Kind, .int .i64 z0.Pos, .int .i64 z0.Answer, .int .i64 z0.Question, .string z0.Name, .slice A5_2 (z0.Args).length c5_2, .int .i64 z0.Value.Kind, .int .i64 z0.Value.N, .int .i64 z0.Count, .int .i64 z0.Tag.Vat, .int .i64 z0.Tag.Entity, .int .i64 z0.Tag.Seq]) := Lib.hid (Kw0_6.out.below hb7)
  have Kg0_7 : Hid (Blk w7 (w4.heap.size) 29 #[.int .i64 z0.Kind, .int .i64 z0.Pos, .int .i64 z0.Answer, .int .i64 z0.Question, .string z0.Name, .slice A5_4 (z0.Args).length c5_4, .int .i64 z0.Value.Kind, .int .i64 z0.Value.N, .int .i64 z0.Count, .int .i64 z0.Tag.Vat, .int .i64 z0.Tag.Entity, .int .i64 z0.Tag.Seq]) := Lib.hid (Kg0_6.out.below hb7)
  clear kcw0_6 kfw0_6 klw0_6 kcg0_6 kfg0_6 klg0_6
  obtain ⟨kcw0_7, kfw0_7⟩ := Kw0_7.out.rules
  have klw0_7 := Kw0_7.out.lt
  obtain ⟨kcg0_7, kfg0_7⟩ := Kg0_7.out.rules
  have klg0_7 := Kg0_7.out.lt
  clear hb7 NB7
  have HC3 : Hid (cntL (aB.flatMap eByte) ≤ 1099511627776) := Lib.hid (by first | (have h1 := cnt_le _ (Slim_flat eByte 1 len_eByte (by omega) slim_eByte aB); rw [cnt_s, siz_s] at h1; omega) | (rw [cntf_eByte]; omega))
  go_wp2_with fail
  refine (markByteS_calls aB _ _ fp3 _ (D3.out.below BB3_7.out) ND3.out (by omega) (by have := HC3.out; omega)).mono ?_
  rintro e w8 ⟨r8, rfl, hr8, o8, hb8⟩
  have NC8 := hb8
  have NB8 := NC8.size
  have BB0_8 := Lib.hid (below_chg BB0_7.out NC8 BB0_7.out.size (fun i hi => by have := LB3.out _ hi; omega))
  have BB1_8 := Lib.hid (below_chg BB1_7.out NC8 BB1_7.out.size (fun i hi => by have := LB3.out _ hi; omega))
  have BB2_8 := Lib.hid (below_chg BB2_7.out NC8 BB2_7.out.size (fun i hi => by have := LB3.out _ hi; omega))
  have NCk8 := NC8
  have sz8 : w7.heap.size ≤ w8.heap.size := by have h := hb8.size; (try simp only [size_alloc] at h); omega
  have Kw0_8 : Hid (Blk w8 (w2.heap.size) 29 #[.int .i64 z0.Kind, .int .i64 z0.Pos, .int .i64 z0.Answer, .int .i64 z0.Question, .string z0.Name, .slice A5_2 (z0.Args).length c5_2, .int .i64 z0.Value.Kind, .int .i64 z0.Value.N, .int .i64 z0.Count, .int .i64 z0.Tag.Vat, .int .i64 z0.Tag.Entity, .int .i64 z0.Tag.Seq]) := Lib.hid (Kw0_7.out.chg hb8 (fun h => by have h1 := LB3.out _ h; have h2 := UB3.out _ h; omega))
  have Kg0_8 : Hid (Blk w8 (w4.heap.size) 29 #[.int .i64 z0.Kind, .int .i64 z0.Pos, .int .i64 z0.Answer, .int .i64 z0.Question, .string z0.Name, .slice A5_4 (z0.Args).length c5_4, .int .i64 z0.Value.Kind, .int .i64 z0.Value.N, .int .i64 z0.Count, .int .i64 z0.Tag.Vat, .int .i64 z0.Tag.Entity, .int .i64 z0.Tag.Seq]) := Lib.hid (Kg0_7.out.chg hb8 (fun h => by have h1 := LB3.out _ h; have h2 := UB3.out _ h; omega))
  clear kcw0_7 kfw0_7 klw0_7 kcg0_7 kfg0_7 klg0_7
  obtain ⟨kcw0_8, kfw0_8⟩ := Kw0_8.out.rules
  have klw0_8 := Kw0_8.out.lt
  obtain ⟨kcg0_8, kfg0_8⟩ := Kg0_8.out.rules
  have klg0_8 := Kg0_8.out.lt
  clear hb8 NB8 NC8
  have hr8_0 : 0 ≤ r8 := by omega
  have HR8 := Lib.hid hr8
  clear hr8
  have D4_8 := Lib.hid ((D4.out.below BB4_7.out).chg NCk8 (fun g hg hT => by have h1 := LB4.out _ hg; have h2 := UB3.out _ hT; omega))
  clear D4
  have D4 := D4_8
  clear D4_8
  clear NCk8
  have D3m := Lib.hid o8
  clear o8
  go_wp2_with fail
  refine (eqMessage_calls _ _ z0 _ (D4.out.rdw.below (Below.refl _ _)) (D2.out.below BB2_8.out)).mono ?_
  rintro e w9 ⟨rfl, hb9⟩
  have NB9 : Below w8.heap.size w8 w9 := hb9
  have BB0_9 := Lib.hid (BB0_8.out.trans (NB9.mono BB0_8.out.size))
  have BB1_9 := Lib.hid (BB1_8.out.trans (NB9.mono BB1_8.out.size))
  have BB2_9 := Lib.hid (BB2_8.out.trans (NB9.mono BB2_8.out.size))
  have BB8_9 := Lib.hid (NB9)
  have sz9 : w8.heap.size ≤ w9.heap.size := by have h := hb9.size; (try simp only [size_alloc] at h); omega
  have Kw0_9 : Hid (Blk w9 (w2.heap.size) 29 #[.int .i64 z0.Kind, .int .i64 z0.Pos, .int .i64 z0.Answer, .int .i64 z0.Question, .string z0.Name, .slice A5_2 (z0.Args).length c5_2, .int .i64 z0.Value.Kind, .int .i64 z0.Value.N, .int .i64 z0.Count, .int .i64 z0.Tag.Vat, .int .i64 z0.Tag.Entity, .int .i64 z0.Tag.Seq]) := Lib.hid (Kw0_8.out.below hb9)
  have Kg0_9 : Hid (Blk w9 (w4.heap.size) 29 #[.int .i64 z0.Kind, .int .i64 z0.Pos, .int .i64 z0.Answer, .int .i64 z0.Question, .string z0.Name, .slice A5_4 (z0.Args).length c5_4, .int .i64 z0.Value.Kind, .int .i64 z0.Value.N, .int .i64 z0.Count, .int .i64 z0.Tag.Vat, .int .i64 z0.Tag.Entity, .int .i64 z0.Tag.Seq]) := Lib.hid (Kg0_8.out.below hb9)
  clear kcw0_8 kfw0_8 klw0_8 kcg0_8 kfg0_8 klg0_8
  obtain ⟨kcw0_9, kfw0_9⟩ := Kw0_9.out.rules
  have klw0_9 := Kw0_9.out.lt
  obtain ⟨kcg0_9, kfg0_9⟩ := Kg0_9.out.rules
  have klg0_9 := Kg0_9.out.lt
  clear hb9 NB9
  have HC4 : Hid (cntL (eMessage z0) ≤ 1099511627776) := Lib.hid (by rw [HZ0.out]; exact (by exact decodeMessage1_cnt aB))
  go_wp2_with fail
  refine (markMessage_calls _ z0 _ fp4 _ (D4.out.below BB8_9.out) ND4.out (by omega) (by have := HC4.out; have := tcnt_le (eMessage z0); omega)).mono ?_
  rintro e w10 ⟨r10, rfl, hr10, o10, hb10⟩
  have NC10 := hb10
  have NB10 := NC10.size
  have BB0_10 := Lib.hid (below_chg BB0_9.out NC10 BB0_9.out.size (fun i hi => by have := LB4.out _ hi; omega))
  have BB1_10 := Lib.hid (below_chg BB1_9.out NC10 BB1_9.out.size (fun i hi => by have := LB4.out _ hi; omega))
  have BB2_10 := Lib.hid (below_chg BB2_9.out NC10 BB2_9.out.size (fun i hi => by have := LB4.out _ hi; omega))
  have NCk10 := NC10
  have sz10 : w9.heap.size ≤ w10.heap.size := by have h := hb10.size; (try simp only [size_alloc] at h); omega
  have Kw0_10 : Hid (Blk w10 (w2.heap.size) 29 #[.int .i64 z0.Kind, .int .i64 z0.Pos, .int .i64 z0.Answer, .int .i64 z0.Question, .string z0.Name, .slice A5_2 (z0.Args).length c5_2, .int .i64 z0.Value.Kind, .int .i64 z0.Value.N, .int .i64 z0.Count, .int .i64 z0.Tag.Vat, .int .i64 z0.Tag.Entity, .int .i64 z0.Tag.Seq]) := Lib.hid (Kw0_9.out.chg hb10 (fun h => by have h1 := LB4.out _ h; have h2 := UB4.out _ h; omega))
  have Kg0_10 : Hid (Blk w10 (w4.heap.size) 29 #[.int .i64 z0.Kind, .int .i64 z0.Pos, .int .i64 z0.Answer, .int .i64 z0.Question, .string z0.Name, .slice A5_4 (z0.Args).length c5_4, .int .i64 z0.Value.Kind, .int .i64 z0.Value.N, .int .i64 z0.Count, .int .i64 z0.Tag.Vat, .int .i64 z0.Tag.Entity, .int .i64 z0.Tag.Seq]) := Lib.hid (Kg0_9.out.chg hb10 (fun h => by have h1 := LB4.out _ h; have h2 := UB4.out _ h; omega))
  clear kcw0_9 kfw0_9 klw0_9 kcg0_9 kfg0_9 klg0_9
  obtain ⟨kcw0_10, kfw0_10⟩ := Kw0_10.out.rules
  have klw0_10 := Kw0_10.out.lt
  obtain ⟨kcg0_10, kfg0_10⟩ := Kg0_10.out.rules
  have klg0_10 := Kg0_10.out.lt
  clear hb10 NB10 NC10
  have hr10_0 : 0 ≤ r10 := by omega
  have HR10 := Lib.hid hr10
  clear hr10
  clear NCk10
  have D4m := Lib.hid o10
  clear o10
  go_wp2_with fail
  refine (heldMessage_calls _ z0 _ _ (D4m.out.rdw.below (Below.refl _ _)) (by omega) (by have := HC4.out; have := tcnt_le (eMessage z0); omega)).mono ?_
  rintro e w11 ⟨rr, rfl, hrr, hb11⟩
  have NB11 : Below w10.heap.size w10 w11 := hb11
  have BB0_11 := Lib.hid (BB0_10.out.trans (NB11.mono BB0_10.out.size))
  have BB1_11 := Lib.hid (BB1_10.out.trans (NB11.mono BB1_10.out.size))
  have BB2_11 := Lib.hid (BB2_10.out.trans (NB11.mono BB2_10.out.size))
  have BB10_11 := Lib.hid (NB11)
  have sz11 : w10.heap.size ≤ w11.heap.size := by have h := hb11.size; (try simp only [size_alloc] at h); omega
  have Kw0_11 : Hid (Blk w11 (w2.heap.size) 29 #[.int .i64 z0.Kind, .int .i64 z0.Pos, .int .i64 z0.Answer, .int .i64 z0.Question, .string z0.Name, .slice A5_2 (z0.Args).length c5_2, .int .i64 z0.Value.Kind, .int .i64 z0.Value.N, .int .i64 z0.Count, .int .i64 z0.Tag.Vat, .int .i64 z0.Tag.Entity, .int .i64 z0.Tag.Seq]) := Lib.hid (Kw0_10.out.below hb11)
  have Kg0_11 : Hid (Blk w11 (w4.heap.size) 29 #[.int .i64 z0.Kind, .int .i64 z0.Pos, .int .i64 z0.Answer, .int .i64 z0.Question, .string z0.Name, .slice A5_4 (z0.Args).length c5_4, .int .i64 z0.Value.Kind, .int .i64 z0.Value.N, .int .i64 z0.Count, .int .i64 z0.Tag.Vat, .int .i64 z0.Tag.Entity, .int .i64 z0.Tag.Seq]) := Lib.hid (Kg0_10.out.below hb11)
  clear kcw0_10 kfw0_10 klw0_10 kcg0_10 kfg0_10 klg0_10
  obtain ⟨kcw0_11, kfw0_11⟩ := Kw0_11.out.rules
  have klw0_11 := Kw0_11.out.lt
  obtain ⟨kcg0_11, kfg0_11⟩ := Kg0_11.out.rules
  have klg0_11 := Kg0_11.out.lt
  clear hb11 NB11
  obtain rfl : r10 = rr := HR10.out.trans hrr.symm
  clear hrr
  go_wp2_with fail
  refine (toByteS_calls aB _ _ (ARaB.out.below BB0_11.out) (by omega)).mono ?_
  rintro e w12 ⟨u12, fp12, rfl, o12, f12, hb12⟩
  have NB12 : Below w11.heap.size w11 w12 := hb12
  have BB0_12 := Lib.hid (BB0_11.out.trans (NB12.mono BB0_11.out.size))
  have BB1_12 := Lib.hid (BB1_11.out.trans (NB12.mono BB1_11.out.size))
  have BB2_12 := Lib.hid (BB2_11.out.trans (NB12.mono BB2_11.out.size))
  have BB10_12 := Lib.hid (BB10_11.out.trans (NB12.mono BB10_11.out.size))
  have sz12 : w11.heap.size ≤ w12.heap.size := by have h := hb12.size; (try simp only [size_alloc] at h); omega
  have Kw0_12 : Hid (Blk w12 (w2.heap.size) 29 #[.int .i64 z0.Kind, .int .i64 z0.Pos, .int .i64 z0.Answer, .int .i64 z0.Question, .string z0.Name, .slice A5_2 (z0.Args).length c5_2, .int .i64 z0.Value.Kind, .int .i64 z0.Value.N, .int .i64 z0.Count, .int .i64 z0.Tag.Vat, .int .i64 z0.Tag.Entity, .int .i64 z0.Tag.Seq]) := Lib.hid (Kw0_11.out.below hb12)
  have Kg0_12 : Hid (Blk w12 (w4.heap.size) 29 #[.int .i64 z0.Kind, .int .i64 z0.Pos, .int .i64 z0.Answer, .int .i64 z0.Question, .string z0.Name, .slice A5_4 (z0.Args).length c5_4, .int .i64 z0.Value.Kind, .int .i64 z0.Value.N, .int .i64 z0.Count, .int .i64 z0.Tag.Vat, .int .i64 z0.Tag.Entity, .int .i64 z0.Tag.Seq]) := Lib.hid (Kg0_11.out.below hb12)
  clear kcw0_11 kfw0_11 klw0_11 kcg0_11 kfg0_11 klg0_11
  obtain ⟨kcw0_12, kfw0_12⟩ := Kw0_12.out.rules
  have klw0_12 := Kw0_12.out.lt
  obtain ⟨kcg0_12, kfg0_12⟩ := Kg0_12.out.rules
  have klg0_12 := Kg0_12.out.lt
  clear hb12 NB12
  have LB12 : Hid (∀ g, g ∈ fp12 → w11.heap.size ≤ g) := Lib.hid (fun g hg => by have h := f12.2 g hg; (try simp only [size_alloc] at h); omega)
  have UB12 : Hid (∀ g, g ∈ fp12 → g < w12.heap.size) := Lib.hid (Own.lt _ _ _ o12)
  have ND12 := Lib.hid f12.1
  clear f12
  have D12 := Lib.hid o12
  clear o12
  go_wp2_with fail
  refine (impl_DecodeMessage_calls _ aB _ (D12.out.rdw.below (Below.refl _ _)) (by omega)).mono ?_
  rintro e w13 ⟨u13, fp13, rfl, o13, f13, hb13⟩
  have NB13 : Below w12.heap.size w12 w13 := hb13
  have BB0_13 := Lib.hid (BB0_12.out.trans (NB13.mono BB0_12.out.size))
  have BB1_13 := Lib.hid (BB1_12.out.trans (NB13.mono BB1_12.out.size))
  have BB2_13 := Lib.hid (BB2_12.out.trans (NB13.mono BB2_12.out.size))
  have BB10_13 := Lib.hid (BB10_12.out.trans (NB13.mono BB10_12.out.size))
  have BB12_13 := Lib.hid (NB13)
  have sz13 : w12.heap.size ≤ w13.heap.size := by have h := hb13.size; (try simp only [size_alloc] at h); omega
  have Kw0_13 : Hid (Blk w13 (w2.heap.size) 29 #[.int .i64 z0.Kind, .int .i64 z0.Pos, .int .i64 z0.Answer, .int .i64 z0.Question, .string z0.Name, .slice A5_2 (z0.Args).length c5_2, .int .i64 z0.Value.Kind, .int .i64 z0.Value.N, .int .i64 z0.Count, .int .i64 z0.Tag.Vat, .int .i64 z0.Tag.Entity, .int .i64 z0.Tag.Seq]) := Lib.hid (Kw0_12.out.below hb13)
  have Kg0_13 : Hid (Blk w13 (w4.heap.size) 29 #[.int .i64 z0.Kind, .int .i64 z0.Pos, .int .i64 z0.Answer, .int .i64 z0.Question, .string z0.Name, .slice A5_4 (z0.Args).length c5_4, .int .i64 z0.Value.Kind, .int .i64 z0.Value.N, .int .i64 z0.Count, .int .i64 z0.Tag.Vat, .int .i64 z0.Tag.Entity, .int .i64 z0.Tag.Seq]) := Lib.hid (Kg0_12.out.below hb13)
  clear kcw0_12 kfw0_12 klw0_12 kcg0_12 kfg0_12 klg0_12
  obtain ⟨kcw0_13, kfw0_13⟩ := Kw0_13.out.rules
  have klw0_13 := Kw0_13.out.lt
  obtain ⟨kcg0_13, kfg0_13⟩ := Kg0_13.out.rules
  have klg0_13 := Kg0_13.out.lt
  clear hb13 NB13
  rw [← HZ0.out] at o13
  obtain ⟨v5_13, f5_13, rfl, -, q5_13⟩ := own_eMessage o13
  obtain ⟨A5_13, c5_13, rfl, -⟩ := q5_13.slice
  clear q5_13
  have LB13 : Hid (∀ g, g ∈ fp13 → w12.heap.size ≤ g) := Lib.hid (fun g hg => by have h := f13.2 g hg; (try simp only [size_alloc] at h); omega)
  have UB13 : Hid (∀ g, g ∈ fp13 → g < w13.heap.size) := Lib.hid (OwnL.lt _ _ _ o13)
  have ND13 := Lib.hid f13.1
  clear f13
  have D13 := Lib.hid o13
  clear o13
  go_wp2_with fail
  refine (eqMessage_calls _ _ z0 _ (D13.out.rdw.below ((Below.refl _ _).alloc (Nat.le_refl _) _)) (D2.out.below (BB2_13.out.alloc (by (try simp only [size_alloc]); omega) _))).mono ?_
  rintro e w14 ⟨rfl, hb14⟩
  have NB14 : Below w13.heap.size w13 w14 := (((Below.refl _ _).alloc (Nat.le_refl _) _)).trans (hb14.mono (by (try simp only [size_alloc]); omega))
  have BB0_14 := Lib.hid (BB0_13.out.trans (NB14.mono BB0_13.out.size))
  have BB1_14 := Lib.hid (BB1_13.out.trans (NB14.mono BB1_13.out.size))
  have BB2_14 := Lib.hid (BB2_13.out.trans (NB14.mono BB2_13.out.size))
  have BB10_14 := Lib.hid (BB10_13.out.trans (NB14.mono BB10_13.out.size))
  have BB12_14 := Lib.hid (BB12_13.out.trans (NB14.mono BB12_13.out.size))
  have BB13_14 := Lib.hid (NB14)
  have sz14 : w13.heap.size + 1 ≤ w14.heap.size := by have h := hb14.size; (try simp only [size_alloc] at h); omega
  have Kw0_14 : Hid (Blk w14 (w2.heap.size) 29 #[.int .i64 z0.Kind, .int .i64 z0.Pos, .int .i64 z0.Answer, .int .i64 z0.Question, .string z0.Name, .slice A5_2 (z0.Args).length c5_2, .int .i64 z0.Value.Kind, .int .i64 z0.Value.N, .int .i64 z0.Count, .int .i64 z0.Tag.Vat, .int .i64 z0.Tag.Entity, .int .i64 z0.Tag.Seq]) := Lib.hid ((Kw0_13.out.alloc _).below hb14)
  have Kg0_14 : Hid (Blk w14 (w4.heap.size) 29 #[.int .i64 z0.Kind, .int .i64 z0.Pos, .int .i64 z0.Answer, .int .i64 z0.Question, .string z0.Name, .slice A5_4 (z0.Args).length c5_4, .int .i64 z0.Value.Kind, .int .i64 z0.Value.N, .int .i64 z0.Count, .int .i64 z0.Tag.Vat, .int .i64 z0.Tag.Entity, .int .i64 z0.Tag.Seq]) := Lib.hid ((Kg0_13.out.alloc _).below hb14)
  have Kh0_14 : Hid (Blk w14 (w13.heap.size) 29 #[.int .i64 z0.Kind, .int .i64 z0.Pos, .int .i64 z0.Answer, .int .i64 z0.Question, .string z0.Name, .slice A5_13 (z0.Args).length c5_13, .int .i64 z0.Value.Kind, .int .i64 z0.Value.N, .int .i64 z0.Count, .int .i64 z0.Tag.Vat, .int .i64 z0.Tag.Entity, .int .i64 z0.Tag.Seq]) := Lib.hid ((Blk.made rfl).below hb14)
  clear kcw0_13 kfw0_13 klw0_13 kcg0_13 kfg0_13 klg0_13
  obtain ⟨kcw0_14, kfw0_14⟩ := Kw0_14.out.rules
  have klw0_14 := Kw0_14.out.lt
  obtain ⟨kcg0_14, kfg0_14⟩ := Kg0_14.out.rules
  have klg0_14 := Kg0_14.out.lt
  obtain ⟨kch0_14, kfh0_14⟩ := Kh0_14.out.rules
  have klh0_14 := Kh0_14.out.lt
  clear hb14 NB14
  go_wp2_with fail
  refine (heldMessage_calls _ z0 _ _ (D4m.out.rdw.below BB10_14.out) (by omega) (by have := HC4.out; have := tcnt_le (eMessage z0); omega)).mono ?_
  rintro e w15 ⟨rr, rfl, hrr, hb15⟩
  have NB15 : Below w14.heap.size w14 w15 := hb15
  have BB0_15 := Lib.hid (BB0_14.out.trans (NB15.mono BB0_14.out.size))
  have BB1_15 := Lib.hid (BB1_14.out.trans (NB15.mono BB1_14.out.size))
  have BB2_15 := Lib.hid (BB2_14.out.trans (NB15.mono BB2_14.out.size))
  have BB10_15 := Lib.hid (BB10_14.out.trans (NB15.mono BB10_14.out.size))
  have BB12_15 := Lib.hid (BB12_14.out.trans (NB15.mono BB12_14.out.size))
  have BB13_15 := Lib.hid (BB13_14.out.trans (NB15.mono BB13_14.out.size))
  have sz15 : w14.heap.size ≤ w15.heap.size := by have h := hb15.size; (try simp only [size_alloc] at h); omega
  have Kw0_15 : Hid (Blk w15 (w2.heap.size) 29 #[.int .i64 z0.Kind, .int .i64 z0.Pos, .int .i64 z0.Answer, .int .i64 z0.Question, .string z0.Name, .slice A5_2 (z0.Args).length c5_2, .int .i64 z0.Value.Kind, .int .i64 z0.Value.N, .int .i64 z0.Count, .int .i64 z0.Tag.Vat, .int .i64 z0.Tag.Entity, .int .i64 z0.Tag.Seq]) := Lib.hid (Kw0_14.out.below hb15)
  have Kg0_15 : Hid (Blk w15 (w4.heap.size) 29 #[.int .i64 z0.Kind, .int .i64 z0.Pos, .int .i64 z0.Answer, .int .i64 z0.Question, .string z0.Name, .slice A5_4 (z0.Args).length c5_4, .int .i64 z0.Value.Kind, .int .i64 z0.Value.N, .int .i64 z0.Count, .int .i64 z0.Tag.Vat, .int .i64 z0.Tag.Entity, .int .i64 z0.Tag.Seq]) := Lib.hid (Kg0_14.out.below hb15)
  have Kh0_15 : Hid (Blk w15 (w13.heap.size) 29 #[.int .i64 z0.Kind, .int .i64 z0.Pos, .int .i64 z0.Answer, .int .i64 z0.Question, .string z0.Name, .slice A5_13 (z0.Args).length c5_13, .int .i64 z0.Value.Kind, .int .i64 z0.Value.N, .int .i64 z0.Count, .int .i64 z0.Tag.Vat, .int .i64 z0.Tag.Entity, .int .i64 z0.Tag.Seq]) := Lib.hid (Kh0_14.out.below hb15)
  clear kcw0_14 kfw0_14 klw0_14 kcg0_14 kfg0_14 klg0_14 kch0_14 kfh0_14 klh0_14
  obtain ⟨kcw0_15, kfw0_15⟩ := Kw0_15.out.rules
  have klw0_15 := Kw0_15.out.lt
  obtain ⟨kcg0_15, kfg0_15⟩ := Kg0_15.out.rules
  have klg0_15 := Kg0_15.out.lt
  obtain ⟨kch0_15, kfh0_15⟩ := Kh0_15.out.rules
  have klh0_15 := Kh0_15.out.lt
  clear hb15 NB15
  obtain rfl : r10 = rr := HR10.out.trans hrr.symm
  clear hrr
  go_wp2
  go_ret
  exact ⟨rfl, BB0_15.out⟩

end Go.Proofs.Ytklbpjnpmbidiaa
