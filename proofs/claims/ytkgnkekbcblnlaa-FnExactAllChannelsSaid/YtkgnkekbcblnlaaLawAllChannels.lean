import Derived.Test.YtkgnkekbcblnlaaProg
import Derived.Test.YtkgnkekbcblnlaaTypes
import Derived.StillTailTactics
import Derived.Deep.RegionHeld3
import Derived.Laws.IdiomStrings
import Derived.Test.YtkgnkekbcblnlaaAppend
import Derived.Laws.StructEq
import Derived.Lib.SliceRun
import Derived.Shelf.RegionOpenPlain
import Derived.Test.YtkgnkekbcblnlaaAllCh
import Derived.Test.YtkgnkekbcblnlaaMessage
namespace Go.Proofs.Ytkgnkekbcblnlaa
open Go.RowKit
set_option linter.unusedVariables false
set_option linter.unusedSimpArgs false

set_option maxHeartbeats 800000 in
set_option maxRecDepth 100000 in
theorem FnExactAllChannels_calls (w : World) (aVats : Int) (haVats : I64 aVats) :
    Calls Try.prog 8 #[.int .i64 aVats] w fun e w' => e = .returned (.bool true) ∧ Below w.heap.size w w' := by
  go_enter Try.func8, Try.ntmps8
  obtain ⟨z0, hz0⟩ : ∃ z, z = (allChannels aVats) := ⟨_, rfl⟩
  have HZ0 := Lib.hid hz0
  clear hz0
  go_wp2_with fail
  refine (spec_AllChannels_calls aVats _ haVats).mono ?_
  rintro e w1 ⟨u1, rfl, o1, hb1⟩
  have NB1 : Below w.heap.size w w1 := hb1
  have BB0_1 := Lib.hid (NB1)
  have sz1 : w.heap.size ≤ w1.heap.size := by have h := hb1.size; (try simp only [size_alloc] at h); omega
  clear hb1 NB1
  rw [← HZ0.out] at o1
  have D1 := Lib.hid o1
  clear o1
  go_wp2_with fail
  refine (impl_AllChannels_calls aVats _ haVats).mono ?_
  rintro e w2 ⟨u2, fp2, rfl, o2, f2, hb2⟩
  have NB2 : Below w1.heap.size w1 w2 := hb2
  have BB0_2 := Lib.hid (BB0_1.out.trans (NB2.mono BB0_1.out.size))
  have BB1_2 := Lib.hid (NB2)
  have sz2 : w1.heap.size ≤ w2.heap.size := by have h := hb2.size; (try simp only [size_alloc] at h); omega
  clear hb2 NB2
  rw [← HZ0.out] at o2
  have LB2 : Hid (∀ g, g ∈ fp2 → w1.heap.size ≤ g) := Lib.hid (fun g hg => by have h := f2.2 g hg; (try simp only [size_alloc] at h); omega)
  have UB2 : Hid (∀ g, g ∈ fp2 → g < w2.heap.size) := Lib.hid (Own.lt _ _ _ o2)
  have ND2 := Lib.hid f2.1
  clear f2
  have D2 := Lib.hid o2
  clear o2
  go_wp2_with fail
  refine (eqChannelS_calls z0 _ _ _ (D2.out.rdw.below (Below.refl _ _)) (D1.out.below BB1_2.out)).mono ?_
  rintro e w3 ⟨rfl, hb3⟩
  have NB3 : Below w2.heap.size w2 w3 := hb3
  have BB0_3 := Lib.hid (BB0_2.out.trans (NB3.mono BB0_2.out.size))
  have BB1_3 := Lib.hid (BB1_2.out.trans (NB3.mono BB1_2.out.size))
  have BB2_3 := Lib.hid (NB3)
  have sz3 : w2.heap.size ≤ w3.heap.size := by have h := hb3.size; (try simp only [size_alloc] at h); omega
  clear hb3 NB3
  have HC2 : Hid (cntL (z0.flatMap eChannel) ≤ 1099511627776) := Lib.hid (by rw [HZ0.out]; exact (by exact allChannels_cnt aVats))
  go_wp2_with fail
  refine (markChannelS_calls z0 _ _ fp2 _ (D2.out.below BB2_3.out) ND2.out (by omega) (by have := HC2.out; omega)).mono ?_
  rintro e w4 ⟨r4, rfl, hr4, o4, hb4⟩
  have NC4 := hb4
  have NB4 := NC4.size
  have BB0_4 := Lib.hid (below_chg BB0_3.out NC4 BB0_3.out.size (fun i hi => by have := LB2.out _ hi; omega))
  have BB1_4 := Lib.hid (below_chg BB1_3.out NC4 BB1_3.out.size (fun i hi => by have := LB2.out _ hi; omega))
  have NCk4 := NC4
  have sz4 : w3.heap.size ≤ w4.heap.size := by have h := hb4.size; (try simp only [size_alloc] at h); omega
  clear hb4 NB4 NC4
  have hr4_0 : 0 ≤ r4 := by omega
  have HR4 := Lib.hid hr4
  clear hr4
  clear NCk4
  have D2m := Lib.hid o4
  clear o4
  go_wp2_with fail
  refine (heldChannelS_calls z0 _ _ _ (D2m.out.rdw.below (Below.refl _ _)) (by omega) (by have := HC2.out; omega)).mono ?_
  rintro e w5 ⟨rr, rfl, hrr, hb5⟩
  have NB5 : Below w4.heap.size w4 w5 := hb5
  have BB0_5 := Lib.hid (BB0_4.out.trans (NB5.mono BB0_4.out.size))
  have BB1_5 := Lib.hid (BB1_4.out.trans (NB5.mono BB1_4.out.size))
  have BB4_5 := Lib.hid (NB5)
  have sz5 : w4.heap.size ≤ w5.heap.size := by have h := hb5.size; (try simp only [size_alloc] at h); omega
  clear hb5 NB5
  obtain rfl : r4 = rr := HR4.out.trans hrr.symm
  clear hrr
  go_wp2_with fail
  refine (impl_AllChannels_calls aVats _ haVats).mono ?_
  rintro e w6 ⟨u6, fp6, rfl, o6, f6, hb6⟩
  have NB6 : Below w5.heap.size w5 w6 := hb6
  have BB0_6 := Lib.hid (BB0_5.out.trans (NB6.mono BB0_5.out.size))
  have BB1_6 := Lib.hid (BB1_5.out.trans (NB6.mono BB1_5.out.size))
  have BB4_6 := Lib.hid (BB4_5.out.trans (NB6.mono BB4_5.out.size))
  have sz6 : w5.heap.size ≤ w6.heap.size := by have h := hb6.size; (try simp only [size_alloc] at h); omega
  clear hb6 NB6
  rw [← HZ0.out] at o6
  have LB6 : Hid (∀ g, g ∈ fp6 → w5.heap.size ≤ g) := Lib.hid (fun g hg => by have h := f6.2 g hg; (try simp only [size_alloc] at h); omega)
  have UB6 : Hid (∀ g, g ∈ fp6 → g < w6.heap.size) := Lib.hid (Own.lt _ _ _ o6)
  have ND6 := Lib.hid f6.1
  clear f6
  have D6 := Lib.hid o6
  clear o6
  go_wp2_with fail
  refine (eqChannelS_calls z0 _ _ _ (D6.out.rdw.below (Below.refl _ _)) (D1.out.below BB1_6.out)).mono ?_
  rintro e w7 ⟨rfl, hb7⟩
  have NB7 : Below w6.heap.size w6 w7 := hb7
  have BB0_7 := Lib.hid (BB0_6.out.trans (NB7.mono BB0_6.out.size))
  have BB1_7 := Lib.hid (BB1_6.out.trans (NB7.mono BB1_6.out.size))
  have BB4_7 := Lib.hid (BB4_6.out.trans (NB7.mono BB4_6.out.size))
  have BB6_7 := Lib.hid (NB7)
  have sz7 : w6.heap.size ≤ w7.heap.size := by have h := hb7.size; (try simp only [size_alloc] at h); omega
  clear hb7 NB7
  go_wp2_with fail
  refine (heldChannelS_calls z0 _ _ _ (D2m.out.rdw.below BB4_7.out) (by omega) (by have := HC2.out; omega)).mono ?_
  rintro e w8 ⟨rr, rfl, hrr, hb8⟩
  have NB8 : Below w7.heap.size w7 w8 := hb8
  have BB0_8 := Lib.hid (BB0_7.out.trans (NB8.mono BB0_7.out.size))
  have BB1_8 := Lib.hid (BB1_7.out.trans (NB8.mono BB1_7.out.size))
  have BB4_8 := Lib.hid (BB4_7.out.trans (NB8.mono BB4_7.out.size))
  have BB6_8 := Lib.hid (BB6_7.out.trans (NB8.mono BB6_7.out.size))
  have sz8 : w7.heap.size ≤ w8.heap.size := by have h := hb8.size; (try simp only [size_alloc] at h); omega
  clear hb8 NB8
  obtain rfl : r4 = rr := HR4.out.trans hrr.symm
  clear hrr
  go_wp2
  go_ret
  exact ⟨rfl, BB0_8.out⟩

end Go.Proofs.Ytkgnkekbcblnlaa
