import Derived.Test.YtkgnkekbcblnlaaProg
import Derived.Test.YtkgnkekbcblnlaaTypes
import Derived.StillTailTactics
import Derived.Deep.RegionHeld3
import Derived.Laws.IdiomStrings
import Derived.Test.YtkgnkekbcblnlaaAppend
import Derived.Laws.StructEq
import Derived.Lib.SliceRun
import Derived.Shelf.RegionOpenPlain
import Derived.Test.YtkgnkekbcblnlaaMessage
namespace Go.Proofs.Ytkgnkekbcblnlaa
open Go.RowKit
set_option linter.unusedVariables false
set_option linter.unusedSimpArgs false

set_option maxHeartbeats 800000 in
set_option maxRecDepth 100000 in
theorem FnExactIsWire_calls (w : World) (usaW : List Value) (aW : GWire) (raW : RdLW w (eWire aW) usaW) :
    Calls Try.prog 3 #[.agg usaW.toArray] w fun e w' => e = .returned (.bool true) ∧ Below w.heap.size w w' := by
  have ARaW := Lib.hid raW
  obtain rfl := rd_eWire raW
  clear raW
  go_enter Try.func3, Try.ntmps3
  go_wp2_with fail
  refine (toWire_calls _ aW _ (ARaW.out.below ((Below.refl _ _).alloc (Nat.le_refl _) _))).mono ?_
  rintro e w1 ⟨u1, fp1, rfl, o1, f1, hb1⟩
  have NB1 : Below w.heap.size w w1 := (((Below.refl _ _).alloc (Nat.le_refl _) _)).trans (hb1.mono (by (try simp only [size_alloc]); omega))
  have BB0_1 := Lib.hid (NB1)
  have sz1 : w.heap.size + 1 ≤ w1.heap.size := by have h := hb1.size; (try simp only [size_alloc] at h); omega
  have KBaW_1 : Hid (Blk w1 (w.heap.size) 23 #[.int .i64 aW.Kind, .int .i64 aW.N]) := Lib.hid ((Blk.made rfl).below hb1)
  obtain ⟨kcBaW_1, kfBaW_1⟩ := KBaW_1.out.rules
  have klBaW_1 := KBaW_1.out.lt
  clear hb1 NB1
  have LB1 : Hid (∀ g, g ∈ fp1 → w.heap.size + 1 ≤ g) := Lib.hid (fun g hg => by have h := f1.2 g hg; (try simp only [size_alloc] at h); omega)
  have UB1 : Hid (∀ g, g ∈ fp1 → g < w1.heap.size) := Lib.hid (OwnL.lt _ _ _ o1)
  have ND1 := Lib.hid f1.1
  clear f1
  have D1 := Lib.hid o1
  clear o1
  go_wp2_with fail
  refine (spec_IsWire_calls _ aW _ (D1.out.rdw.below (Below.refl _ _))).mono ?_
  rintro e w2 ⟨rfl, hb2⟩
  have NB2 : Below w1.heap.size w1 w2 := hb2
  have BB0_2 := Lib.hid (BB0_1.out.trans (NB2.mono BB0_1.out.size))
  have BB1_2 := Lib.hid (NB2)
  have sz2 : w1.heap.size ≤ w2.heap.size := by have h := hb2.size; (try simp only [size_alloc] at h); omega
  have KBaW_2 : Hid (Blk w2 (w.heap.size) 23 #[.int .i64 aW.Kind, .int .i64 aW.N]) := Lib.hid (KBaW_1.out.below hb2)
  clear kcBaW_1 kfBaW_1 klBaW_1
  obtain ⟨kcBaW_2, kfBaW_2⟩ := KBaW_2.out.rules
  have klBaW_2 := KBaW_2.out.lt
  clear hb2 NB2
  go_wp2_with fail
  refine (toWire_calls _ aW _ (ARaW.out.below BB0_2.out)).mono ?_
  rintro e w3 ⟨u3, fp3, rfl, o3, f3, hb3⟩
  have NB3 : Below w2.heap.size w2 w3 := hb3
  have BB0_3 := Lib.hid (BB0_2.out.trans (NB3.mono BB0_2.out.size))
  have BB1_3 := Lib.hid (BB1_2.out.trans (NB3.mono BB1_2.out.size))
  have sz3 : w2.heap.size ≤ w3.heap.size := by have h := hb3.size; (try simp only [size_alloc] at h); omega
  have KBaW_3 : Hid (Blk w3 (w.heap.size) 23 #[.int .i64 aW.Kind, .int .i64 aW.N]) := Lib.hid (KBaW_2.out.below hb3)
  clear kcBaW_2 kfBaW_2 klBaW_2
  obtain ⟨kcBaW_3, kfBaW_3⟩ := KBaW_3.out.rules
  have klBaW_3 := KBaW_3.out.lt
  clear hb3 NB3
  have LB3 : Hid (∀ g, g ∈ fp3 → w2.heap.size ≤ g) := Lib.hid (fun g hg => by have h := f3.2 g hg; (try simp only [size_alloc] at h); omega)
  have UB3 : Hid (∀ g, g ∈ fp3 → g < w3.heap.size) := Lib.hid (OwnL.lt _ _ _ o3)
  have ND3 := Lib.hid f3.1
  clear f3
  have D3 := Lib.hid o3
  clear o3
  go_wp2_with fail
  refine (impl_IsWire_calls _ aW _ (D3.out.rdw.below (Below.refl _ _))).mono ?_
  rintro e w4 ⟨rfl, hb4⟩
  have NB4 : Below w3.heap.size w3 w4 := hb4
  have BB0_4 := Lib.hid (BB0_3.out.trans (NB4.mono BB0_3.out.size))
  have BB1_4 := Lib.hid (BB1_3.out.trans (NB4.mono BB1_3.out.size))
  have BB3_4 := Lib.hid (NB4)
  have sz4 : w3.heap.size ≤ w4.heap.size := by have h := hb4.size; (try simp only [size_alloc] at h); omega
  have KBaW_4 : Hid (Blk w4 (w.heap.size) 23 #[.int .i64 aW.Kind, .int .i64 aW.N]) := Lib.hid (KBaW_3.out.below hb4)
  clear kcBaW_3 kfBaW_3 klBaW_3
  obtain ⟨kcBaW_4, kfBaW_4⟩ := KBaW_4.out.rules
  have klBaW_4 := KBaW_4.out.lt
  clear hb4 NB4
  go_wp2
  go_ret
  exact ⟨rfl, BB0_4.out⟩

end Go.Proofs.Ytkgnkekbcblnlaa
