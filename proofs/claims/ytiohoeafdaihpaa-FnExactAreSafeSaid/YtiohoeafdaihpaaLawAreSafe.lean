import Derived.Test.YtiohoeafdaihpaaProg
import Derived.Test.YtiohoeafdaihpaaTypes
import Derived.StillTailTactics
import Derived.Deep.RegionHeld3
import Derived.Laws.IdiomStrings
import Derived.Test.YtiohoeafdaihpaaAppend
import Derived.Laws.StructEq
import Derived.Lib.SliceRun
import Derived.Shelf.RegionOpenPlain
import Derived.Test.YtiohoeafdaihpaaHelp
import Derived.Test.YtiohoeafdaihpaaLibrary
namespace Go.Proofs.Ytiohoeafdaihpaa
open Go.RowKit
set_option linter.unusedVariables false
set_option linter.unusedSimpArgs false

set_option maxHeartbeats 800000 in
set_option maxRecDepth 100000 in
theorem FnExactAreSafe_calls (w : World) (vaL : Value) (aL : List GScript) (raL : RdW w (.s aL.length (aL.flatMap eScript)) vaL) (taL : StrOkL (aL.flatMap eScript)) :
    Calls Try.prog 4 #[vaL] w fun e w' => e = .returned (.bool true) ∧ Below w.heap.size w w' := by
  obtain ⟨AaL, caL, rfl, -⟩ := raL.slice
  have ARaL := Lib.hid raL
  clear raL
  have TSaL := Lib.hid taL
  clear taL
  go_enter Try.func4, Try.ntmps4
  go_wp2_with fail
  refine (szScriptS_calls aL _ _ _ (ARaL.out.below (Below.refl _ _)) TSaL.out (by omega) (by omega)).mono ?_
  rintro e w1 ⟨r1, rfl, hr1, hb1⟩
  have NB1 : Below w.heap.size w w1 := hb1
  have BB0_1 := Lib.hid (NB1)
  have sz1 : w.heap.size ≤ w1.heap.size := by have h := hb1.size; (try simp only [size_alloc] at h); omega
  clear hb1 NB1
  rcases hr1 with rfl | ⟨hr1, hr1_0⟩
  · go_wp2
    go_ret
    exact ⟨rfl, BB0_1.out⟩
  have hszaL : aL.length + sizL (aL.flatMap eScript) ≤ 1048576 := by omega
  have hr1_9 : r1 ≤ 1048576 := by omega
  clear hr1
  go_wp2_with fail
  refine (toScriptS_calls aL _ _ (ARaL.out.below BB0_1.out) (by omega)).mono ?_
  rintro e w2 ⟨u2, fp2, rfl, o2, f2, hb2⟩
  have NB2 : Below w1.heap.size w1 w2 := hb2
  have BB0_2 := Lib.hid (BB0_1.out.trans (NB2.mono BB0_1.out.size))
  have sz2 : w1.heap.size ≤ w2.heap.size := by have h := hb2.size; (try simp only [size_alloc] at h); omega
  clear hb2 NB2
  have LB2 : Hid (∀ g, g ∈ fp2 → w1.heap.size ≤ g) := Lib.hid (fun g hg => by have h := f2.2 g hg; (try simp only [size_alloc] at h); omega)
  have UB2 : Hid (∀ g, g ∈ fp2 → g < w2.heap.size) := Lib.hid (Own.lt _ _ _ o2)
  have ND2 := Lib.hid f2.1
  clear f2
  have D2 := Lib.hid o2
  clear o2
  go_wp2_with fail
  refine (spec_AreSafe_calls _ aL _ (D2.out.rdw.below (Below.refl _ _)) (by omega)).mono ?_
  rintro e w3 ⟨rfl, hb3⟩
  have NB3 : Below w2.heap.size w2 w3 := hb3
  have BB0_3 := Lib.hid (BB0_2.out.trans (NB3.mono BB0_2.out.size))
  have BB2_3 := Lib.hid (NB3)
  have sz3 : w2.heap.size ≤ w3.heap.size := by have h := hb3.size; (try simp only [size_alloc] at h); omega
  clear hb3 NB3
  go_wp2_with fail
  refine (toScriptS_calls aL _ _ (ARaL.out.below BB0_3.out) (by omega)).mono ?_
  rintro e w4 ⟨u4, fp4, rfl, o4, f4, hb4⟩
  have NB4 : Below w3.heap.size w3 w4 := hb4
  have BB0_4 := Lib.hid (BB0_3.out.trans (NB4.mono BB0_3.out.size))
  have BB2_4 := Lib.hid (BB2_3.out.trans (NB4.mono BB2_3.out.size))
  have sz4 : w3.heap.size ≤ w4.heap.size := by have h := hb4.size; (try simp only [size_alloc] at h); omega
  clear hb4 NB4
  have LB4 : Hid (∀ g, g ∈ fp4 → w3.heap.size ≤ g) := Lib.hid (fun g hg => by have h := f4.2 g hg; (try simp only [size_alloc] at h); omega)
  have UB4 : Hid (∀ g, g ∈ fp4 → g < w4.heap.size) := Lib.hid (Own.lt _ _ _ o4)
  have ND4 := Lib.hid f4.1
  clear f4
  have D4 := Lib.hid o4
  clear o4
  go_wp2_with fail
  refine (impl_AreSafe_calls _ aL _ (D4.out.rdw.below (Below.refl _ _)) (by omega)).mono ?_
  rintro e w5 ⟨rfl, hb5⟩
  have NB5 : Below w4.heap.size w4 w5 := hb5
  have BB0_5 := Lib.hid (BB0_4.out.trans (NB5.mono BB0_4.out.size))
  have BB2_5 := Lib.hid (BB2_4.out.trans (NB5.mono BB2_4.out.size))
  have BB4_5 := Lib.hid (NB5)
  have sz5 : w4.heap.size ≤ w5.heap.size := by have h := hb5.size; (try simp only [size_alloc] at h); omega
  clear hb5 NB5
  go_wp2_with fail
  refine (toScriptS_calls aL _ _ (ARaL.out.below BB0_5.out) (by omega)).mono ?_
  rintro e w6 ⟨u6, fp6, rfl, o6, f6, hb6⟩
  have NB6 : Below w5.heap.size w5 w6 := hb6
  have BB0_6 := Lib.hid (BB0_5.out.trans (NB6.mono BB0_5.out.size))
  have BB2_6 := Lib.hid (BB2_5.out.trans (NB6.mono BB2_5.out.size))
  have BB4_6 := Lib.hid (BB4_5.out.trans (NB6.mono BB4_5.out.size))
  have sz6 : w5.heap.size ≤ w6.heap.size := by have h := hb6.size; (try simp only [size_alloc] at h); omega
  clear hb6 NB6
  have LB6 : Hid (∀ g, g ∈ fp6 → w5.heap.size ≤ g) := Lib.hid (fun g hg => by have h := f6.2 g hg; (try simp only [size_alloc] at h); omega)
  have UB6 : Hid (∀ g, g ∈ fp6 → g < w6.heap.size) := Lib.hid (Own.lt _ _ _ o6)
  have ND6 := Lib.hid f6.1
  clear f6
  have D6 := Lib.hid o6
  clear o6
  go_wp2_with fail
  refine (eqScriptS_calls aL _ _ _ (D4.out.rdw.below BB4_6.out) (D6.out.rdw.below (Below.refl _ _))).mono ?_
  rintro e w7 ⟨rfl, hb7⟩
  have NB7 : Below w6.heap.size w6 w7 := hb7
  have BB0_7 := Lib.hid (BB0_6.out.trans (NB7.mono BB0_6.out.size))
  have BB2_7 := Lib.hid (BB2_6.out.trans (NB7.mono BB2_6.out.size))
  have BB4_7 := Lib.hid (BB4_6.out.trans (NB7.mono BB4_6.out.size))
  have BB6_7 := Lib.hid (NB7)
  have sz7 : w6.heap.size ≤ w7.heap.size := by have h := hb7.size; (try simp only [size_alloc] at h); omega
  clear hb7 NB7
  go_wp2
  go_ret
  exact ⟨rfl, BB0_7.out⟩

end Go.Proofs.Ytiohoeafdaihpaa
