import Derived.Test.YtkgnkekbcblnlaaProg
import Derived.Test.YtkgnkekbcblnlaaTypes
import Derived.StillTailTactics
import Derived.Deep.RegionHeld3
import Derived.Laws.IdiomStrings
import Derived.Test.YtkgnkekbcblnlaaAppend
import Derived.Laws.StructEq
import Derived.Lib.SliceRun
import Derived.Shelf.RegionOpenPlain
import Derived.Test.YtkgnkekbcblnlaaChan
import Derived.Test.YtkgnkekbcblnlaaChanI
import Derived.Test.YtkgnkekbcblnlaaMessage
namespace Go.Proofs.Ytkgnkekbcblnlaa
open Go.RowKit
set_option linter.unusedVariables false
set_option linter.unusedSimpArgs false

set_option maxHeartbeats 800000 in
set_option maxRecDepth 100000 in
theorem FnExactEqualChannels_calls (w : World) (vaA : Value) (aA : List GChannel) (raA : RdW w (.s aA.length (aA.flatMap eChannel)) vaA) (taA : StrOkL (aA.flatMap eChannel)) (vaB : Value) (aB : List GChannel) (raB : RdW w (.s aB.length (aB.flatMap eChannel)) vaB) (taB : StrOkL (aB.flatMap eChannel)) :
    Calls Try.prog 7 #[vaA, vaB] w fun e w' => e = .returned (.bool true) ∧ Below w.heap.size w w' := by
  obtain ⟨AaA, caA, rfl, -⟩ := raA.slice
  have ARaA := Lib.hid raA
  clear raA
  have TSaA := Lib.hid taA
  clear taA
  obtain ⟨AaB, caB, rfl, -⟩ := raB.slice
  have ARaB := Lib.hid raB
  clear raB
  have TSaB := Lib.hid taB
  clear taB
  go_enter Try.func7, Try.ntmps7
  go_wp2_with fail
  refine (szChannelS_calls aA _ _ _ (ARaA.out.below (Below.refl _ _)) TSaA.out (by omega) (by omega)).mono ?_
  rintro e w1 ⟨r1, rfl, hr1, hb1⟩
  have NB1 : Below w.heap.size w w1 := hb1
  have BB0_1 := Lib.hid (NB1)
  have sz1 : w.heap.size ≤ w1.heap.size := by have h := hb1.size; (try simp only [size_alloc] at h); omega
  clear hb1 NB1
  rcases hr1 with rfl | ⟨hr1, hr1_0⟩
  · go_wp2
    go_ret
    exact ⟨rfl, BB0_1.out⟩
  have hszaA : aA.length + sizL (aA.flatMap eChannel) ≤ 1048576 := by omega
  have hr1_9 : r1 ≤ 1048576 := by omega
  clear hr1
  go_wp2_with fail
  refine (szChannelS_calls aB _ _ _ (ARaB.out.below BB0_1.out) TSaB.out (by omega) (by omega)).mono ?_
  rintro e w2 ⟨r2, rfl, hr2, hb2⟩
  have NB2 : Below w1.heap.size w1 w2 := hb2
  have BB0_2 := Lib.hid (BB0_1.out.trans (NB2.mono BB0_1.out.size))
  have sz2 : w1.heap.size ≤ w2.heap.size := by have h := hb2.size; (try simp only [size_alloc] at h); omega
  clear hb2 NB2
  rcases hr2 with rfl | ⟨hr2, hr2_0⟩
  · go_wp2
    go_ret
    exact ⟨rfl, BB0_2.out⟩
  have hszaB : aB.length + sizL (aB.flatMap eChannel) ≤ 1048576 := by omega
  have hr2_9 : r2 ≤ 1048576 := by omega
  clear hr2
  go_wp2_with fail
  refine (toChannelS_calls aA _ _ (ARaA.out.below BB0_2.out) (by omega)).mono ?_
  rintro e w3 ⟨u3, fp3, rfl, o3, f3, hb3⟩
  have NB3 : Below w2.heap.size w2 w3 := hb3
  have BB0_3 := Lib.hid (BB0_2.out.trans (NB3.mono BB0_2.out.size))
  have sz3 : w2.heap.size ≤ w3.heap.size := by have h := hb3.size; (try simp only [size_alloc] at h); omega
  clear hb3 NB3
  have LB3 : Hid (∀ g, g ∈ fp3 → w2.heap.size ≤ g) := Lib.hid (fun g hg => by have h := f3.2 g hg; (try simp only [size_alloc] at h); omega)
  have UB3 : Hid (∀ g, g ∈ fp3 → g < w3.heap.size) := Lib.hid (Own.lt _ _ _ o3)
  have ND3 := Lib.hid f3.1
  clear f3
  have D3 := Lib.hid o3
  clear o3
  go_wp2_with fail
  refine (toChannelS_calls aB _ _ (ARaB.out.below BB0_3.out) (by omega)).mono ?_
  rintro e w4 ⟨u4, fp4, rfl, o4, f4, hb4⟩
  have NB4 : Below w3.heap.size w3 w4 := hb4
  have BB0_4 := Lib.hid (BB0_3.out.trans (NB4.mono BB0_3.out.size))
  have BB3_4 := Lib.hid (NB4)
  have sz4 : w3.heap.size ≤ w4.heap.size := by have h := hb4.size; (try simp only [size_alloc] at h); omega
  clear hb4 NB4
  have LB4 : Hid (∀ g, g ∈ fp4 → w3.heap.size ≤ g) := Lib.hid (fun g hg => by have h := f4.2 g hg; (try simp only [size_alloc] at h); omega)
  have UB4 : Hid (∀ g, g ∈ fp4 → g < w4.heap.size) := Lib.hid (Own.lt _ _ _ o4)
  have ND4 := Lib.hid f4.1
  clear f4
  have D4 := Lib.hid o4
  clear o4
  go_wp2_with fail
  refine (spec_EqualChannels_calls _ aA _ aB _ (D3.out.rdw.below BB3_4.out) (D4.out.rdw.below (Below.refl _ _)) (by omega) (by omega)).mono ?_
  rintro e w5 ⟨rfl, hb5⟩
  have NB5 : Below w4.heap.size w4 w5 := hb5
  have BB0_5 := Lib.hid (BB0_4.out.trans (NB5.mono BB0_4.out.size))
  have BB3_5 := Lib.hid (BB3_4.out.trans (NB5.mono BB3_4.out.size))
  have BB4_5 := Lib.hid (NB5)
  have sz5 : w4.heap.size ≤ w5.heap.size := by have h := hb5.size; (try simp only [size_alloc] at h); omega
  clear hb5 NB5
  go_wp2_with fail
  refine (toChannelS_calls aA _ _ (ARaA.out.below BB0_5.out) (by omega)).mono ?_
  rintro e w6 ⟨u6, fp6, rfl, o6, f6, hb6⟩
  have NB6 : Below w5.heap.size w5 w6 := hb6
  have BB0_6 := Lib.hid (BB0_5.out.trans (NB6.mono BB0_5.out.size))
  have BB3_6 := Lib.hid (BB3_5.out.trans (NB6.mono BB3_5.out.size))
  have BB4_6 := Lib.hid (BB4_5.out.trans (NB6.mono BB4_5.out.size))
  have sz6 : w5.heap.size ≤ w6.heap.size := by have h := hb6.size; (try simp only [size_alloc] at h); omega
  clear hb6 NB6
  have LB6 : Hid (∀ g, g ∈ fp6 → w5.heap.size ≤ g) := Lib.hid (fun g hg => by have h := f6.2 g hg; (try simp only [size_alloc] at h); omega)
  have UB6 : Hid (∀ g, g ∈ fp6 → g < w6.heap.size) := Lib.hid (Own.lt _ _ _ o6)
  have ND6 := Lib.hid f6.1
  clear f6
  have D6 := Lib.hid o6
  clear o6
  go_wp2_with fail
  refine (toChannelS_calls aB _ _ (ARaB.out.below BB0_6.out) (by omega)).mono ?_
  rintro e w7 ⟨u7, fp7, rfl, o7, f7, hb7⟩
  have NB7 : Below w6.heap.size w6 w7 := hb7
  have BB0_7 := Lib.hid (BB0_6.out.trans (NB7.mono BB0_6.out.size))
  have BB3_7 := Lib.hid (BB3_6.out.trans (NB7.mono BB3_6.out.size))
  have BB4_7 := Lib.hid (BB4_6.out.trans (NB7.mono BB4_6.out.size))
  have BB6_7 := Lib.hid (NB7)
  have sz7 : w6.heap.size ≤ w7.heap.size := by have h := hb7.size; (try simp only [size_alloc] at h); omega
  clear hb7 NB7
  have LB7 : Hid (∀ g, g ∈ fp7 → w6.heap.size ≤ g) := Lib.hid (fun g hg => by have h := f7.2 g hg; (try simp only [size_alloc] at h); omega)
  have UB7 : Hid (∀ g, g ∈ fp7 → g < w7.heap.size) := Lib.hid (Own.lt _ _ _ o7)
  have ND7 := Lib.hid f7.1
  clear f7
  have D7 := Lib.hid o7
  clear o7
  go_wp2_with fail
  refine (impl_EqualChannels_calls _ aA _ aB _ (D6.out.rdw.below BB6_7.out) (D7.out.rdw.below (Below.refl _ _)) (by omega) (by omega)).mono ?_
  rintro e w8 ⟨rfl, hb8⟩
  have NB8 : Below w7.heap.size w7 w8 := hb8
  have BB0_8 := Lib.hid (BB0_7.out.trans (NB8.mono BB0_7.out.size))
  have BB3_8 := Lib.hid (BB3_7.out.trans (NB8.mono BB3_7.out.size))
  have BB4_8 := Lib.hid (BB4_7.out.trans (NB8.mono BB4_7.out.size))
  have BB6_8 := Lib.hid (BB6_7.out.trans (NB8.mono BB6_7.out.size))
  have BB7_8 := Lib.hid (NB8)
  have sz8 : w7.heap.size ≤ w8.heap.size := by have h := hb8.size; (try simp only [size_alloc] at h); omega
  clear hb8 NB8
  go_wp2_with fail
  refine (toChannelS_calls aA _ _ (ARaA.out.below BB0_8.out) (by omega)).mono ?_
  rintro e w9 ⟨u9, fp9, rfl, o9, f9, hb9⟩
  have NB9 : Below w8.heap.size w8 w9 := hb9
  have BB0_9 := Lib.hid (BB0_8.out.trans (NB9.mono BB0_8.out.size))
  have BB3_9 := Lib.hid (BB3_8.out.trans (NB9.mono BB3_8.out.size))
  have BB4_9 := Lib.hid (BB4_8.out.trans (NB9.mono BB4_8.out.size))
  have BB6_9 := Lib.hid (BB6_8.out.trans (NB9.mono BB6_8.out.size))
  have BB7_9 := Lib.hid (BB7_8.out.trans (NB9.mono BB7_8.out.size))
  have sz9 : w8.heap.size ≤ w9.heap.size := by have h := hb9.size; (try simp only [size_alloc] at h); omega
  clear hb9 NB9
  have LB9 : Hid (∀ g, g ∈ fp9 → w8.heap.size ≤ g) := Lib.hid (fun g hg => by have h := f9.2 g hg; (try simp only [size_alloc] at h); omega)
  have UB9 : Hid (∀ g, g ∈ fp9 → g < w9.heap.size) := Lib.hid (Own.lt _ _ _ o9)
  have ND9 := Lib.hid f9.1
  clear f9
  have D9 := Lib.hid o9
  clear o9
  go_wp2_with fail
  refine (eqChannelS_calls aA _ _ _ (D6.out.rdw.below BB6_9.out) (D9.out.rdw.below (Below.refl _ _))).mono ?_
  rintro e w10 ⟨rfl, hb10⟩
  have NB10 : Below w9.heap.size w9 w10 := hb10
  have BB0_10 := Lib.hid (BB0_9.out.trans (NB10.mono BB0_9.out.size))
  have BB3_10 := Lib.hid (BB3_9.out.trans (NB10.mono BB3_9.out.size))
  have BB4_10 := Lib.hid (BB4_9.out.trans (NB10.mono BB4_9.out.size))
  have BB6_10 := Lib.hid (BB6_9.out.trans (NB10.mono BB6_9.out.size))
  have BB7_10 := Lib.hid (BB7_9.out.trans (NB10.mono BB7_9.out.size))
  have BB9_10 := Lib.hid (NB10)
  have sz10 : w9.heap.size ≤ w10.heap.size := by have h := hb10.size; (try simp only [size_alloc] at h); omega
  clear hb10 NB10
  go_wp2_with fail
  refine (toChannelS_calls aB _ _ (ARaB.out.below BB0_10.out) (by omega)).mono ?_
  rintro e w11 ⟨u11, fp11, rfl, o11, f11, hb11⟩
  have NB11 : Below w10.heap.size w10 w11 := hb11
  have BB0_11 := Lib.hid (BB0_10.out.trans (NB11.mono BB0_10.out.size))
  have BB3_11 := Lib.hid (BB3_10.out.trans (NB11.mono BB3_10.out.size))
  have BB4_11 := Lib.hid (BB4_10.out.trans (NB11.mono BB4_10.out.size))
  have BB6_11 := Lib.hid (BB6_10.out.trans (NB11.mono BB6_10.out.size))
  have BB7_11 := Lib.hid (BB7_10.out.trans (NB11.mono BB7_10.out.size))
  have BB9_11 := Lib.hid (BB9_10.out.trans (NB11.mono BB9_10.out.size))
  have sz11 : w10.heap.size ≤ w11.heap.size := by have h := hb11.size; (try simp only [size_alloc] at h); omega
  clear hb11 NB11
  have LB11 : Hid (∀ g, g ∈ fp11 → w10.heap.size ≤ g) := Lib.hid (fun g hg => by have h := f11.2 g hg; (try simp only [size_alloc] at h); omega)
  have UB11 : Hid (∀ g, g ∈ fp11 → g < w11.heap.size) := Lib.hid (Own.lt _ _ _ o11)
  have ND11 := Lib.hid f11.1
  clear f11
  have D11 := Lib.hid o11
  clear o11
  go_wp2_with fail
  refine (eqChannelS_calls aB _ _ _ (D7.out.rdw.below BB7_11.out) (D11.out.rdw.below (Below.refl _ _))).mono ?_
  rintro e w12 ⟨rfl, hb12⟩
  have NB12 : Below w11.heap.size w11 w12 := hb12
  have BB0_12 := Lib.hid (BB0_11.out.trans (NB12.mono BB0_11.out.size))
  have BB3_12 := Lib.hid (BB3_11.out.trans (NB12.mono BB3_11.out.size))
  have BB4_12 := Lib.hid (BB4_11.out.trans (NB12.mono BB4_11.out.size))
  have BB6_12 := Lib.hid (BB6_11.out.trans (NB12.mono BB6_11.out.size))
  have BB7_12 := Lib.hid (BB7_11.out.trans (NB12.mono BB7_11.out.size))
  have BB9_12 := Lib.hid (BB9_11.out.trans (NB12.mono BB9_11.out.size))
  have BB11_12 := Lib.hid (NB12)
  have sz12 : w11.heap.size ≤ w12.heap.size := by have h := hb12.size; (try simp only [size_alloc] at h); omega
  clear hb12 NB12
  go_wp2
  go_ret
  exact ⟨rfl, BB0_12.out⟩

end Go.Proofs.Ytkgnkekbcblnlaa
