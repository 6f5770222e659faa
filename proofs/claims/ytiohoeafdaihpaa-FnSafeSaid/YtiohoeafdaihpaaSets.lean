import Derived.Test.YtiohoeafdaihpaaProg
import Derived.Test.YtiohoeafdaihpaaTypes
import Derived.StillTailTactics
import Derived.Deep.RegionHeld3
import Derived.Laws.IdiomStrings
import Derived.Test.YtiohoeafdaihpaaAppend
import Derived.Laws.StructEq
import Derived.Lib.SliceRun
import Derived.Shelf.RegionOpenPlain
import Derived.Test.YtiohoeafdaihpaaInts
namespace Go.Proofs.Ytiohoeafdaihpaa
open Go.RowKit
set_option linter.unusedVariables false
set_option linter.unusedSimpArgs false

set_option maxHeartbeats 1600000 in
theorem impl_some_calls (v : Value) (xs : List Int) (w : World) (fp : List Nat) (ho : Own w (.s xs.length (xs.flatMap eInt)) v fp) (hn : fp.Nodup) (hz : xs.length ≤ 1048576) :
    Calls Try.prog 55 #[v] w fun e w' => ∃ v' fp', e = .returned v' ∧ Own w' (.s (xs.filter fun x => !(x == -1)).length ((xs.filter fun x => !(x == -1)).flatMap eInt)) v' fp' ∧ fp'.Nodup ∧ (∀ k, k ∈ fp' → k ∈ fp) ∧ Chg (· ∈ fp) w w' := by
  have hcon := slices_DeleteFunc_Int_calls (fun x : Int => x == -1) 89 #[] (enters_of Try.func89 (by kernel_rfl) rfl) v xs w fp ho hn hz
    (fun W x us hW hx hr => by
      obtain rfl := rd_eInt hr
      exact impl_some1_calls x W)
  obtain ⟨A, c, rfl, _⟩ := ho.slice
  clear ho
  go_enter Try.func55, Try.ntmps55
  go_wp2_with fail
  refine hcon.mono ?_
  rintro e w' ⟨v', fp', rfl, ho', hn', hs', hc'⟩
  obtain ⟨A', c', rfl, _⟩ := ho'.slice
  go_wp2
  go_ret
  exact ⟨_, fp', rfl, ho', hn', hs', hc'⟩
set_option maxHeartbeats 1600000 in
theorem impl_shared_calls (v v' : Value) (xs ys : List Int) (w : World) (hr : RdW w (.s xs.length (xs.flatMap eInt)) v) (hr' : RdW w (.s ys.length (ys.flatMap eInt)) v') (hz : xs.length ≤ 1048576) :
    Calls Try.prog 44 #[v, v'] w fun e w' => ∃ u fp, e = .returned u ∧ Own w' (.s (meetI xs ys).length ((meetI xs ys).flatMap eInt)) u fp ∧ (∀ k, k ∈ fp → w.heap.size ≤ k) ∧ Below w.heap.size w w' := by
  obtain ⟨A, c, rfl, _⟩ := hr.slice
  obtain ⟨A', c', rfl, _⟩ := hr'.slice
  go_enter Try.func44, Try.ntmps44
  go_wp2_with fail
  refine (slices_Clone_Int_row _ xs _ (hr.alloc _) hz).mono ?_
  rintro e w1 ⟨A1, c1, rfl, ho1, hb1⟩
  obtain ⟨fp, hown, hnd, hge⟩ := ownRow_own vals_eInt ho1 (by omega)
  have HK1 := (Blk.new w 44 #[.slice A' ys.length c']).below hb1
  have HR1 := (hr'.alloc (.cells #[.slice A' ys.length c'] 44)).below hb1
  have hgl : ∀ k, k ∈ fp → w.heap.size < k := fun k hk => by have := hge k hk; simp only [size_alloc] at this; omega
  have hcon := slices_DeleteFunc_Int_calls (fun x : Int => !hasI ys x) 85 #[.pointer (some ⟨w.heap.size, 0, none⟩)] (enters_of Try.func85 (by kernel_rfl) rfl) _ xs w1 fp hown hnd hz
    (fun W x us hW hx hr => by
      obtain rfl := rd_eInt hr
      refine (impl_shared1_calls w.heap.size ys x _ W (HK1.chg hW (fun hk => by have := hgl _ hk; omega)) ?_).mono (fun e w' ⟨h1, h2⟩ => ⟨h1, h2 ▸ Below.refl _ _⟩)
      exact Rd.mono (fun k hk => Nat.lt_of_lt_of_le hk (by have h1 := hb1.size; simp only [size_alloc] at h1; have := hW.size; omega)) _ _ (Rd.keep (S := fun k => k < w.heap.size) (fun k hk => by
        refine (hW.block k (by have h1 := hb1.size; simp only [size_alloc] at h1; omega) (fun hm => by have := hgl _ hm; omega)).trans ((hb1.block k (by simp only [size_alloc]; omega)).trans (Below.heap_alloc w _ k hk))) _ _ hr'))
  have hf : (xs.filter fun x => !(!hasI ys x)) = meetI xs ys := by unfold meetI; congr 1; funext x; rw [Bool.not_not]
  rw [hf] at hcon
  have HC := Lib.hid hcon
  have HB1 := Lib.hid hb1
  have HGL := Lib.hid hgl
  clear hcon hown hnd hge HK1 HR1 hgl hr hr' hb1 ho1 hf
  go_wp2_with fail
  refine HC.out.mono ?_
  rintro e w2 ⟨u, fp', rfl, ho', hn', hs', hc'⟩
  obtain ⟨A2, c2, rfl, _⟩ := ho'.slice
  go_wp2
  go_ret
  refine ⟨_, fp', rfl, ho', fun k hk => by have := HGL.out k (hs' k hk); omega, ?_⟩
  exact ((Below.refl w.heap.size w).alloc (Nat.le_refl _) _).trans ((HB1.out.mono (by simp)).trans (hc'.below (by have h1 := HB1.out.size; simp only [size_alloc] at h1; omega) (fun k hk => by have := HGL.out k hk; omega)))

end Go.Proofs.Ytiohoeafdaihpaa
