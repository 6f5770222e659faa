import Derived.Test.YtiohoeafdaihpaaProg
import Derived.Test.YtiohoeafdaihpaaTypes
import Derived.StillTailTactics
import Derived.Deep.CutBlock
import Derived.Deep.CutRange
import Derived.Laws.OwnMore
import Derived.Deep.AppendLies
import Derived.Deep.RegionWith
import Derived.Deep.RegionHeld3
import Derived.Laws.IdiomStrings
import Derived.Test.YtiohoeafdaihpaaAppend
import Derived.Laws.StructEq
import Derived.Lib.SliceRun
import Derived.Shelf.RegionOpenPlain
import Derived.Test.YtiohoeafdaihpaaTxt12
import Derived.Test.YtiohoeafdaihpaaDrawG3
import Derived.Test.YtiohoeafdaihpaaPureFnSafe
import Derived.Test.YtiohoeafdaihpaaIsSafe
import Derived.Test.YtiohoeafdaihpaaLibrary
import Derived.Test.YtiohoeafdaihpaaKnown
import Derived.Test.YtiohoeafdaihpaaHelp
import Derived.Test.YtiohoeafdaihpaaRegsI
import Derived.Test.YtiohoeafdaihpaaFirstI
import Derived.Test.YtiohoeafdaihpaaFirstS
namespace Go.Proofs.Ytiohoeafdaihpaa
open Go.RowKit
set_option linter.unusedVariables false
set_option linter.unusedSimpArgs false

set_option maxHeartbeats 1600000 in
theorem laws_big_calls (A : Option Addr) (n c : Nat) (w : World) (h : n ≤ 1048576) :
    Calls Try.prog 16 #[.slice A n c] w fun e w' => e = .returned (.bool false) ∧ w' = w := by
  have hn : ¬ (1048576 : Int) < n := by omega
  go_enter Try.func16, Try.ntmps16
  go_wp2
  go_ret
  exact ⟨rfl, rfl⟩
set_option maxHeartbeats 1600000 in
theorem laws_big_calls' (A : Option Addr) (n c : Nat) (w : World) (hn : (1048576 : Int) < n) :
    Calls Try.prog 16 #[.slice A n c] w fun e w' => e = .returned (.bool true) ∧ w' = w := by
  go_enter Try.func16, Try.ntmps16
  go_wp2
  go_ret
  exact ⟨rfl, rfl⟩
set_option maxHeartbeats 1600000 in
theorem impl_IsMethod_calls (us : List Value) (x : GMethod) (w : World) (hr : RdLW w (eMethod x) us) (hz : sizL (eMethod x) ≤ 1048576) :
    Calls Try.prog 24 #[.agg us.toArray] w fun e w' => e = .returned (.bool (methodB x)) ∧ Below w.heap.size w w' := by
  obtain ⟨v1, rfl, h1⟩ := rd_eMethod hr
  obtain ⟨A, c, rfl, -⟩ := h1.slice
  have HM := Lib.hid (impl_isMethod_calls _ x (w.alloc (.cells #[.string x.Name, .slice A x.Code.length c] 29)) (hr.below ((Below.refl _ _).alloc (Nat.le_refl _) _)) hz)
  have HB0 := Lib.hid ((Below.refl w.heap.size w).alloc (Nat.le_refl _) (.cells #[.string x.Name, .slice A x.Code.length c] 29))
  clear hr h1
  go_enter Try.func24, Try.ntmps24
  go_wp2_with fail
  refine HM.out.mono ?_
  rintro e w1 ⟨rfl, hb⟩
  have HB := Lib.hid (HB0.out.trans (hb.mono HB0.out.size))
  clear hb
  go_wp2
  go_ret
  exact ⟨rfl, HB.out⟩
theorem siz_lib {xs : List GScript} (h : ∀ x, x ∈ xs → SmallS x) : sizL (xs.flatMap eScript) ≤ xs.length * 1300 := by
  induction xs with
  | nil => rw [List.flatMap_nil, sizL_nil]; omega
  | cons x xs ih =>
    have h1 := ih (fun y hy => h y (by simp [hy]))
    have h2 := siz_smallS (h x (by simp))
    rw [List.flatMap_cons, sizL_append, List.length_cons, Nat.succ_mul]
    omega
theorem rdW_take {w : World} {xs : List GInstr} {A : Option Addr} {c k : Nat} (h : RdW w (.s xs.length (xs.flatMap eInstr)) (.slice A xs.length c)) (hk : k < xs.length) : RdW w (.s (xs.take k).length ((xs.take k).flatMap eInstr)) (.slice A k c) := by
  have hl : (xs.take k).length = k := by rw [List.length_take]; omega
  rw [hl]
  rw [RdW, Rd] at h ⊢
  obtain ⟨A', c', h0, hok, h | ⟨ad, us, h1, h2, h3, h4⟩⟩ := h
  · omega
  · injection h0 with h0 _ h5
    subst h0 h5
    refine ⟨_, _, rfl, ⟨by have := hok.le; omega, hok.cap, by have := hok.lim; omega⟩, ?_⟩
    have hx : xs.flatMap eInstr = (xs.take k).flatMap eInstr ++ (xs.drop k).flatMap eInstr := by rw [← List.flatMap_append, List.take_append_drop]
    rw [hx] at h4
    obtain ⟨ua, ub, rfl, hl2, h6, _⟩ := RdL.split _ _ _ h4
    refine .inr ⟨ad, ua, h1, h2, fun j x hj => h3 j x ?_, h6⟩
    rw [List.getElem?_append_left (List.getElem?_eq_some_iff.1 hj).1]; exact hj
set_option maxHeartbeats 51200000 in
set_option maxRecDepth 100000 in
theorem FnSafe_calls (w : World) (vaB : Value) (aB : List UInt8) (raB : RdW w (.s aB.length (aB.flatMap eByte)) vaB) :
    Calls Try.prog 5 #[vaB] w fun e w' => e = .returned (.bool true) ∧ Below w.heap.size w w' := by
  obtain ⟨AaB, caB, rfl, -⟩ := raB.slice
  have ARaB := Lib.hid raB
  clear raB
  go_enter Try.func5, Try.ntmps5
  by_cases hlenaB : (1048576 : Int) < aB.length
  · go_wp2_with fail
    refine (laws_big_calls' _ _ _ _ hlenaB).mono ?_
    rintro e w0 ⟨rfl, rfl⟩
    go_wp2
    go_ret
    exact ⟨rfl, (Below.refl _ _)⟩
  have hszaB : aB.length ≤ 1048576 := by omega
  go_wp2_with fail
  refine (laws_big_calls _ _ _ _ hszaB).mono ?_
  rintro e w0 ⟨rfl, hw0⟩
  have hw0' := hw0.symm
  subst hw0'
  clear hw0
  go_wp2_with fail
  refine (spec_DrawFirstUnset_calls _ aB _ ARaB.out hszaB).mono ?_
  rintro e w1 ⟨x, us, rfl, hx, hnm, hxl, hfb, hys, hb1⟩
  have hz1 := hb1.size
  have hcs := siz_code hys
  have hszx : sizL (eMethod x) ≤ 1048576 := by
    have h4 : x.Code.length * 7 ≤ 11 * 7 := Nat.mul_le_mul_right _ hxl
    rw [siz_eMethod, hnm]
    show 3 + _ ≤ _
    omega
  have HSZ := Lib.hid hszx
  have HF := Lib.hid (first_alike2 hfb)
  obtain ⟨v1, rfl, h1⟩ := rd_eMethod hx
  obtain ⟨A, c, rfl, -⟩ := h1.slice
  obtain ⟨wa, hwa⟩ : ∃ q, q = w1.alloc (.cells #[.string x.Name, .slice A x.Code.length c] 29) := ⟨_, rfl⟩
  have HX : Hid (RdLW wa (eMethod x) [.string x.Name, .slice A x.Code.length c]) := by rw [hwa]; exact hx.below ((Below.refl _ _).alloc (Nat.le_refl _) _)
  have HXC : Hid (RdW wa (.s x.Code.length (x.Code.flatMap eInstr)) (.slice A x.Code.length c)) := by rw [hwa]; exact h1.alloc _
  have HK : Hid (Blk wa w1.heap.size 29 #[.string x.Name, .slice A x.Code.length c]) := by rw [hwa]; exact Blk.new w1 _ _
  have HB : Hid (Below w.heap.size w wa) := by rw [hwa]; exact hb1.alloc hz1 _
  have hza : wa.heap.size = w1.heap.size + 1 := by rw [hwa]; simp
  clear hx h1 hb1 hys hfb hszx hnm hcs
  obtain ⟨kk, ff⟩ := HK.out.rules
  have ll := HK.out.lt
  go_upto_region 4 with fail
  rw [← hwa]
  clear hwa
  go_wp2_with fail
  refine (impl_FirstUnset_calls _ x _ HX.out HSZ.out).mono ?_
  rintro e w2 ⟨rfl, hb⟩
  replace HX := Lib.hid (HX.out.below hb)
  replace HXC := Lib.hid (HXC.out.below hb)
  replace HK := Lib.hid (HK.out.below hb)
  replace HB := Lib.hid (HB.out.trans (hb.mono HB.out.size))
  have hz2 := hb.size
  clear hb kk ff ll
  obtain ⟨kk, ff⟩ := HK.out.rules
  have ll := HK.out.lt
  go_wp2_with fail
  refine (spec_FirstUnset_calls _ x _ HX.out HSZ.out).mono ?_
  rintro e w3 ⟨rfl, hb⟩
  rw [← HF.out]
  replace HX := Lib.hid (HX.out.below hb)
  replace HXC := Lib.hid (HXC.out.below hb)
  replace HK := Lib.hid (HK.out.below hb)
  replace HB := Lib.hid (HB.out.trans (hb.mono HB.out.size))
  have hz3 := hb.size
  clear hb kk ff ll
  obtain ⟨kk, ff⟩ := HK.out.rules
  have ll := HK.out.lt
  rcases firstI_range x.Code with hk | hk
  · skip
    have hgk : ¬ ((x.Code.length : Int) ≤ -1) := by omega
    rw [hk]
    go_wp2_with fail
    refine (spec_DrawAreSafe_calls _ aB _ (ARaB.out.below HB.out) hszaB).mono ?_
    rintro e w6 ⟨xs, D0, d0, rfl, hxs, hxsl, hxss, hb⟩
    replace HX := Lib.hid (HX.out.below hb)
    replace HK := Lib.hid (HK.out.below hb)
    replace HB := Lib.hid (HB.out.trans (hb.mono HB.out.size))
    have hz6 := hb.size
    have HXS := Lib.hid hxs
    have HXZ : Hid (xs.length + sizL (xs.flatMap eScript) ≤ 1048576) := by
      unfold Hid
      have h := siz_lib hxss
      have h2 : xs.length * 1300 ≤ 4 * 1300 := Nat.mul_le_mul_right _ hxsl
      omega
    clear hb hxs hxss
    go_wp2_with fail
    refine (spec_DrawMadeBy_calls _ aB _ (ARaB.out.below HB.out) hszaB).mono ?_
    rintro e w7 ⟨s, us, rfl, hs, hss, hb⟩
    replace HX := Lib.hid (HX.out.below hb)
    replace HK := Lib.hid (HK.out.below hb)
    replace HXS := Lib.hid (HXS.out.below hb)
    replace HB := Lib.hid (HB.out.trans (hb.mono HB.out.size))
    have hz7 := hb.size
    have hssz := siz_smallS hss
    have HSS : Hid (sizL (eScript s) ≤ 1048576) := by unfold Hid; omega
    obtain ⟨vs, rfl, h1⟩ := rd_eScript hs
    obtain ⟨D, d, rfl, -⟩ := h1.slice
    obtain ⟨w8, hw8⟩ : ∃ q, q = w7.alloc (.cells #[.string s.Name, .slice D s.Methods.length d] 51) := ⟨_, rfl⟩
    have hb8 : Below w7.heap.size w7 w8 := by rw [hw8]; exact (Below.refl _ _).alloc (Nat.le_refl _) _
    have HKS : Hid (Blk w8 w7.heap.size 51 #[.string s.Name, .slice D s.Methods.length d]) := by rw [hw8]; exact Blk.new w7 _ _
    have HS := Lib.hid (hs.below hb8)
    replace HX := Lib.hid (HX.out.below hb8)
    replace HK := Lib.hid (HK.out.below hb8)
    replace HXS := Lib.hid (HXS.out.below hb8)
    replace HB := Lib.hid (HB.out.trans (hb8.mono HB.out.size))
    have hlk : w1.heap.size < w7.heap.size := by omega
    clear hb hb8 hs h1 hss
    obtain ⟨ks, fs⟩ := HKS.out.rules
    have ls := HKS.out.lt
    go_upto_region 13 with fail
    rw [← hw8]
    clear hw8
    go_wp2_with fail
    refine (impl_MadeBy_calls _ s _ HS.out HSS.out).mono ?_
    rintro e w9 ⟨vn, fp, rfl, hn, _, hb⟩
    obtain ⟨An, cn, rfl, -⟩ := hn.slice
    replace HX := Lib.hid (HX.out.below hb)
    replace HK := Lib.hid (HK.out.below hb)
    replace HXS := Lib.hid (HXS.out.below hb)
    replace HS := Lib.hid (HS.out.below hb)
    replace HKS := Lib.hid (HKS.out.below hb)
    replace HB := Lib.hid (HB.out.trans (hb.mono HB.out.size))
    clear hb hn ks fs ls
    go_wp2
    have hdr : Below w9.heap.size w9 w9.drew := (Below.refl _ _).drew
    obtain ⟨bS, hbS⟩ : ∃ q : Bool, q = areSafeB xs := ⟨_, rfl⟩
    obtain ⟨bK, hbK⟩ : ∃ q : Bool, q = areKnown xs := ⟨_, rfl⟩
    have HBS := Lib.hid hbS
    have HBK := Lib.hid hbK
    clear hbS hbK
    replace HX := Lib.hid (HX.out.below hdr)
    replace HXS := Lib.hid (HXS.out.below hdr)
    replace HS := Lib.hid (HS.out.below hdr)
    replace HB := Lib.hid (HB.out.drew)
    clear hdr
    cases hM : methodB x with
    | true =>
      have HSV : Hid (safeB x = true) := by unfold Hid safeB; rw [hM, hk]; rfl
      refine wp_region_U (fun wq => Blk wq w1.heap.size 29 #[.string x.Name, .slice A x.Code.length c] ∧ Blk wq w7.heap.size 51 #[.string s.Name, .slice D s.Methods.length d]) [0, 1, 2, 3, 4, 5, 6, 7, 8, 9, 10, 11, 12, 13, 14, 15, 16, 17, 18, 19, 20, 21, 22, 23, 24, 25, 26, 27, 28, 29, 30] (by kernel_rfl) ?_
      have hH_ := (⟨HK.out.drew, HKS.out.drew⟩ : (fun wq : World => Blk wq w1.heap.size 29 #[.string x.Name, .slice A x.Code.length c] ∧ Blk wq w7.heap.size 51 #[.string s.Name, .slice D s.Methods.length d]) w9.drew)
      refine wpAnyU_take (i := 0) (v := ?_) rfl (by kernel_rfl) (by kernel_rfl) (by kernel_rfl) (by kernel_rfl) (fun _ _ _ h => h) (Or.inl ⟨by rfl, ?_⟩) hH_ ?_
      rotate_left
      · (intro w hSw; (try dsimp only at hSw); (have hb_ := hSw.1; have e0 := hb_.cell 0; have e1 := hb_.cell 1; simp only [List.getElem?_toArray, List.getElem?_cons_zero, List.getElem?_cons_succ] at e0 e1; clear hb_ hSw; go_simp <;> with_reducible rfl))
      simp only [Act.put, List.getElem_toArray, List.getElem_cons_succ, List.getElem_cons_zero, List.setIfInBounds_toArray, List.set_cons_zero, List.set_cons_succ]
      refine wpAnyU_take (i := 2) (v := ?_) rfl (by kernel_rfl) (by kernel_rfl) (by kernel_rfl) (by kernel_rfl) (fun _ _ _ h => h) (Or.inl ⟨by rfl, ?_⟩) hH_ ?_
      rotate_left
      · (intro w hSw; (try dsimp only at hSw); (have hb_ := hSw.1; have e0 := hb_.cell 0; have e1 := hb_.cell 1; simp only [List.getElem?_toArray, List.getElem?_cons_zero, List.getElem?_cons_succ] at e0 e1; clear hb_ hSw; go_simp <;> with_reducible rfl))
      simp only [Act.put, List.getElem_toArray, List.getElem_cons_succ, List.getElem_cons_zero, List.setIfInBounds_toArray, List.set_cons_zero, List.set_cons_succ]
      refine wpAnyU_one (i := 1) (by kernel_rfl) rfl (fun K hK => ?_)
      go_simp
      refine (impl_IsSafe_calls _ x _ HX.out HSZ.out).mono ?_
      rintro e wc1 ⟨rfl, hb_1⟩
      rw [HSV.out]
      replace HX := Lib.hid (HX.out.below hb_1)
      replace HXS := Lib.hid (HXS.out.below hb_1)
      replace HS := Lib.hid (HS.out.below hb_1)
      replace HB := Lib.hid (HB.out.trans (hb_1.mono HB.out.size))
      refine hK.out _ _ ?_ (fun hH1_ => ?_)
      · exact ⟨hH_.1.below hb_1, hH_.2.below hb_1⟩
      clear hK K hH_
      have hH_ := hH1_
      clear hH1_
      refine wpAnyU_one (i := 3) (by kernel_rfl) rfl (fun K hK => ?_)
      go_simp
      refine (impl_IsMethod_calls _ x _ HX.out HSZ.out).mono ?_
      rintro e wc3 ⟨rfl, hb_3⟩
      rw [hM]
      replace HX := Lib.hid (HX.out.below hb_3)
      replace HXS := Lib.hid (HXS.out.below hb_3)
      replace HS := Lib.hid (HS.out.below hb_3)
      replace HB := Lib.hid (HB.out.trans (hb_3.mono HB.out.size))
      refine hK.out _ _ ?_ (fun hH1_ => ?_)
      · exact ⟨hH_.1.below hb_3, hH_.2.below hb_3⟩
      clear hK K hH_
      have hH_ := hH1_
      clear hH1_
      refine wpAnyU_take (i := 4) (v := ?_) rfl (by kernel_rfl) (by kernel_rfl) (by kernel_rfl) (by kernel_rfl) (fun _ _ _ h => h) (Or.inl ⟨by rfl, ?_⟩) hH_ ?_
      rotate_left
      · (intro w hSw; (try dsimp only at hSw); go_simp <;> with_reducible rfl)
      simp only [Act.put, List.getElem_toArray, List.getElem_cons_succ, List.getElem_cons_zero, List.setIfInBounds_toArray, List.set_cons_zero, List.set_cons_succ]
      refine wpAnyU_take (i := 5) (v := ?_) rfl (by kernel_rfl) (by kernel_rfl) (by kernel_rfl) (by kernel_rfl) (fun _ _ _ h => h) (Or.inl ⟨by rfl, ?_⟩) hH_ ?_
      rotate_left
      · (intro w hSw; (try dsimp only at hSw); go_simp <;> with_reducible rfl)
      simp only [Act.put, List.getElem_toArray, List.getElem_cons_succ, List.getElem_cons_zero, List.setIfInBounds_toArray, List.set_cons_zero, List.set_cons_succ]
      refine wpAnyU_take (i := 6) (v := ?_) rfl (by kernel_rfl) (by kernel_rfl) (by kernel_rfl) (by kernel_rfl) (fun _ _ _ h => h) (Or.inl ⟨by rfl, ?_⟩) hH_ ?_
      rotate_left
      · (intro w hSw; (try dsimp only at hSw); go_simp <;> with_reducible rfl)
      simp only [Act.put, List.getElem_toArray, List.getElem_cons_succ, List.getElem_cons_zero, List.setIfInBounds_toArray, List.set_cons_zero, List.set_cons_succ]
      refine wpAnyU_take (i := 7) (v := ?_) rfl (by kernel_rfl) (by kernel_rfl) (by kernel_rfl) (by kernel_rfl) (fun _ _ _ h => h) (Or.inl ⟨by rfl, ?_⟩) hH_ ?_
      rotate_left
      · (intro w hSw; (try dsimp only at hSw); go_simp <;> with_reducible rfl)
      simp only [Act.put, List.getElem_toArray, List.getElem_cons_succ, List.getElem_cons_zero, List.setIfInBounds_toArray, List.set_cons_zero, List.set_cons_succ]
      refine wpAnyU_take (i := 8) (v := ?_) rfl (by kernel_rfl) (by kernel_rfl) (by kernel_rfl) (by kernel_rfl) (fun _ _ _ h => h) (Or.inl ⟨by rfl, ?_⟩) hH_ ?_
      rotate_left
      · (intro w hSw; (try dsimp only at hSw); go_simp <;> with_reducible rfl)
      simp only [Act.put, List.getElem_toArray, List.getElem_cons_succ, List.getElem_cons_zero, List.setIfInBounds_toArray, List.set_cons_zero, List.set_cons_succ]
      refine wpAnyU_take (i := 9) (v := ?_) rfl (by kernel_rfl) (by kernel_rfl) (by kernel_rfl) (by kernel_rfl) (fun _ _ _ h => h) (Or.inl ⟨by rfl, ?_⟩) hH_ ?_
      rotate_left
      · (intro w hSw; (try dsimp only at hSw); go_simp <;> with_reducible rfl)
      simp only [Act.put, List.getElem_toArray, List.getElem_cons_succ, List.getElem_cons_zero, List.setIfInBounds_toArray, List.set_cons_zero, List.set_cons_succ]
      refine wpAnyU_take (i := 10) (v := ?_) rfl (by kernel_rfl) (by kernel_rfl) (by kernel_rfl) (by kernel_rfl) (fun _ _ _ h => h) (Or.inl ⟨by rfl, ?_⟩) hH_ ?_
      rotate_left
      · (intro w hSw; (try dsimp only at hSw); go_simp <;> with_reducible rfl)
      simp only [Act.put, List.getElem_toArray, List.getElem_cons_succ, List.getElem_cons_zero, List.setIfInBounds_toArray, List.set_cons_zero, List.set_cons_succ]
      refine wpAnyU_take (i := 12) (v := ?_) rfl (by kernel_rfl) (by kernel_rfl) (by kernel_rfl) (by kernel_rfl) (fun _ _ _ h => h) (Or.inl ⟨by rfl, ?_⟩) hH_ ?_
      rotate_left
      · (intro w hSw; (try dsimp only at hSw); go_simp <;> with_reducible rfl)
      simp only [Act.put, List.getElem_toArray, List.getElem_cons_succ, List.getElem_cons_zero, List.setIfInBounds_toArray, List.set_cons_zero, List.set_cons_succ]
      refine wpAnyU_one (i := 11) (by kernel_rfl) rfl (fun K hK => ?_)
      go_simp
      refine (impl_AreSafe_calls _ xs _ HXS.out (by have h := HXZ.out; omega)).mono ?_
      rintro e wc11 ⟨rfl, hb_11⟩
      rw [← HBS.out]
      replace HX := Lib.hid (HX.out.below hb_11)
      replace HXS := Lib.hid (HXS.out.below hb_11)
      replace HS := Lib.hid (HS.out.below hb_11)
      replace HB := Lib.hid (HB.out.trans (hb_11.mono HB.out.size))
      refine hK.out _ _ ?_ (fun hH1_ => ?_)
      · exact ⟨hH_.1.below hb_11, hH_.2.below hb_11⟩
      clear hK K hH_
      have hH_ := hH1_
      clear hH1_
      refine wpAnyU_one (i := 13) (by kernel_rfl) rfl (fun K hK => ?_)
      go_simp
      refine (spec_AreSafe_calls _ xs _ HXS.out (by have h := HXZ.out; omega)).mono ?_
      rintro e wc13 ⟨rfl, hb_13⟩
      rw [← HBS.out]
      replace HX := Lib.hid (HX.out.below hb_13)
      replace HXS := Lib.hid (HXS.out.below hb_13)
      replace HS := Lib.hid (HS.out.below hb_13)
      replace HB := Lib.hid (HB.out.trans (hb_13.mono HB.out.size))
      refine hK.out _ _ ?_ (fun hH1_ => ?_)
      · exact ⟨hH_.1.below hb_13, hH_.2.below hb_13⟩
      clear hK K hH_
      have hH_ := hH1_
      clear hH1_
      refine wpAnyU_take (i := 14) (v := ?_) rfl (by kernel_rfl) (by kernel_rfl) (by kernel_rfl) (by kernel_rfl) (fun _ _ _ h => h) (Or.inl ⟨by rfl, ?_⟩) hH_ ?_
      rotate_left
      · (intro w hSw; (try dsimp only at hSw); go_simp <;> with_reducible rfl)
      simp only [Act.put, List.getElem_toArray, List.getElem_cons_succ, List.getElem_cons_zero, List.setIfInBounds_toArray, List.set_cons_zero, List.set_cons_succ]
      refine wpAnyU_take (i := 15) (v := ?_) rfl (by kernel_rfl) (by kernel_rfl) (by kernel_rfl) (by kernel_rfl) (fun _ _ _ h => h) (Or.inl ⟨by rfl, ?_⟩) hH_ ?_
      rotate_left
      · (intro w hSw; (try dsimp only at hSw); go_simp <;> with_reducible rfl)
      simp only [Act.put, List.getElem_toArray, List.getElem_cons_succ, List.getElem_cons_zero, List.setIfInBounds_toArray, List.set_cons_zero, List.set_cons_succ]
      refine wpAnyU_take (i := 16) (v := ?_) rfl (by kernel_rfl) (by kernel_rfl) (by kernel_rfl) (by kernel_rfl) (fun _ _ _ h => h) (Or.inl ⟨by rfl, ?_⟩) hH_ ?_
      rotate_left
      · (intro w hSw; (try dsimp only at hSw); go_simp <;> with_reducible rfl)
      simp only [Act.put, List.getElem_toArray, List.getElem_cons_succ, List.getElem_cons_zero, List.setIfInBounds_toArray, List.set_cons_zero, List.set_cons_succ]
      refine wpAnyU_take (i := 17) (v := ?_) rfl (by kernel_rfl) (by kernel_rfl) (by kernel_rfl) (by kernel_rfl) (fun _ _ _ h => h) (Or.inl ⟨by rfl, ?_⟩) hH_ ?_
      rotate_left
      · (intro w hSw; (try dsimp only at hSw); go_simp <;> with_reducible rfl)
      simp only [Act.put, List.getElem_toArray, List.getElem_cons_succ, List.getElem_cons_zero, List.setIfInBounds_toArray, List.set_cons_zero, List.set_cons_succ]
      refine wpAnyU_take (i := 18) (v := ?_) rfl (by kernel_rfl) (by kernel_rfl) (by kernel_rfl) (by kernel_rfl) (fun _ _ _ h => h) (Or.inl ⟨by rfl, ?_⟩) hH_ ?_
      rotate_left
      · (intro w hSw; (try dsimp only at hSw); go_simp <;> with_reducible rfl)
      simp only [Act.put, List.getElem_toArray, List.getElem_cons_succ, List.getElem_cons_zero, List.setIfInBounds_toArray, List.set_cons_zero, List.set_cons_succ]
      refine wpAnyU_take (i := 19) (v := ?_) rfl (by kernel_rfl) (by kernel_rfl) (by kernel_rfl) (by kernel_rfl) (fun _ _ _ h => h) (Or.inl ⟨by rfl, ?_⟩) hH_ ?_
      rotate_left
      · (intro w hSw; (try dsimp only at hSw); (have hb_ := hSw.2; have e0 := hb_.cell 0; have e1 := hb_.cell 1; simp only [List.getElem?_toArray, List.getElem?_cons_zero, List.getElem?_cons_succ] at e0 e1; clear hb_ hSw; go_simp <;> with_reducible rfl))
      simp only [Act.put, List.getElem_toArray, List.getElem_cons_succ, List.getElem_cons_zero, List.setIfInBounds_toArray, List.set_cons_zero, List.set_cons_succ]
      refine wpAnyU_one (i := 20) (by kernel_rfl) rfl (fun K hK => ?_)
      go_simp
      refine (spec_MadeBy_calls _ s _ HS.out HSS.out).mono ?_
      rintro e wc20 ⟨vn2, rfl, hn2, hb_20⟩
      obtain ⟨An2, cn2, rfl, -⟩ := hn2.slice
      clear hn2
      replace HX := Lib.hid (HX.out.below hb_20)
      replace HXS := Lib.hid (HXS.out.below hb_20)
      replace HS := Lib.hid (HS.out.below hb_20)
      replace HB := Lib.hid (HB.out.trans (hb_20.mono HB.out.size))
      refine hK.out _ _ ?_ (fun hH1_ => ?_)
      · exact ⟨hH_.1.below hb_20, hH_.2.below hb_20⟩
      clear hK K hH_
      have hH_ := hH1_
      clear hH1_
      refine wpAnyU_take (i := 21) (v := ?_) rfl (by kernel_rfl) (by kernel_rfl) (by kernel_rfl) (by kernel_rfl) (fun _ _ _ h => h) (Or.inl ⟨by rfl, ?_⟩) hH_ ?_
      rotate_left
      · (intro w hSw; (try dsimp only at hSw); go_simp <;> with_reducible rfl)
      simp only [Act.put, List.getElem_toArray, List.getElem_cons_succ, List.getElem_cons_zero, List.setIfInBounds_toArray, List.set_cons_zero, List.set_cons_succ]
      refine wpAnyU_take (i := 22) (v := ?_) rfl (by kernel_rfl) (by kernel_rfl) (by kernel_rfl) (by kernel_rfl) (fun _ _ _ h => h) (Or.inl ⟨by rfl, ?_⟩) hH_ ?_
      rotate_left
      · (intro w hSw; (try dsimp only at hSw); go_simp <;> with_reducible rfl)
      simp only [Act.put, List.getElem_toArray, List.getElem_cons_succ, List.getElem_cons_zero, List.setIfInBounds_toArray, List.set_cons_zero, List.set_cons_succ]
      refine wpAnyU_take (i := 23) (v := ?_) rfl (by kernel_rfl) (by kernel_rfl) (by kernel_rfl) (by kernel_rfl) (fun _ _ _ h => h) (Or.inl ⟨by rfl, ?_⟩) hH_ ?_
      rotate_left
      · (intro w hSw; (try dsimp only at hSw); go_simp <;> with_reducible rfl)
      simp only [Act.put, List.getElem_toArray, List.getElem_cons_succ, List.getElem_cons_zero, List.setIfInBounds_toArray, List.set_cons_zero, List.set_cons_succ]
      refine wpAnyU_take (i := 24) (v := ?_) rfl (by kernel_rfl) (by kernel_rfl) (by kernel_rfl) (by kernel_rfl) (fun _ _ _ h => h) (Or.inl ⟨by rfl, ?_⟩) hH_ ?_
      rotate_left
      · (intro w hSw; (try dsimp only at hSw); go_simp <;> with_reducible rfl)
      simp only [Act.put, List.getElem_toArray, List.getElem_cons_succ, List.getElem_cons_zero, List.setIfInBounds_toArray, List.set_cons_zero, List.set_cons_succ]
      refine wpAnyU_take (i := 25) (v := ?_) rfl (by kernel_rfl) (by kernel_rfl) (by kernel_rfl) (by kernel_rfl) (fun _ _ _ h => h) (Or.inl ⟨by rfl, ?_⟩) hH_ ?_
      rotate_left
      · (intro w hSw; (try dsimp only at hSw); go_simp <;> with_reducible rfl)
      simp only [Act.put, List.getElem_toArray, List.getElem_cons_succ, List.getElem_cons_zero, List.setIfInBounds_toArray, List.set_cons_zero, List.set_cons_succ]
      refine wpAnyU_take (i := 27) (v := ?_) rfl (by kernel_rfl) (by kernel_rfl) (by kernel_rfl) (by kernel_rfl) (fun _ _ _ h => h) (Or.inl ⟨by rfl, ?_⟩) hH_ ?_
      rotate_left
      · (intro w hSw; (try dsimp only at hSw); go_simp <;> with_reducible rfl)
      simp only [Act.put, List.getElem_toArray, List.getElem_cons_succ, List.getElem_cons_zero, List.setIfInBounds_toArray, List.set_cons_zero, List.set_cons_succ]
      refine wpAnyU_one (i := 26) (by kernel_rfl) rfl (fun K hK => ?_)
      go_simp
      refine (impl_AreKnown_calls _ xs _ HXS.out HXZ.out).mono ?_
      rintro e wc26 ⟨rfl, hb_26⟩
      rw [← HBK.out]
      replace HX := Lib.hid (HX.out.below hb_26)
      replace HXS := Lib.hid (HXS.out.below hb_26)
      replace HS := Lib.hid (HS.out.below hb_26)
      replace HB := Lib.hid (HB.out.trans (hb_26.mono HB.out.size))
      refine hK.out _ _ ?_ (fun hH1_ => ?_)
      · exact ⟨hH_.1.below hb_26, hH_.2.below hb_26⟩
      clear hK K hH_
      have hH_ := hH1_
      clear hH1_
      refine wpAnyU_one (i := 28) (by kernel_rfl) rfl (fun K hK => ?_)
      go_simp
      refine (spec_AreKnown_calls _ xs _ HXS.out HXZ.out).mono ?_
      rintro e wc28 ⟨rfl, hb_28⟩
      rw [← HBK.out]
      replace HX := Lib.hid (HX.out.below hb_28)
      replace HXS := Lib.hid (HXS.out.below hb_28)
      replace HS := Lib.hid (HS.out.below hb_28)
      replace HB := Lib.hid (HB.out.trans (hb_28.mono HB.out.size))
      refine hK.out _ _ ?_ (fun hH1_ => ?_)
      · exact ⟨hH_.1.below hb_28, hH_.2.below hb_28⟩
      clear hK K hH_
      have hH_ := hH1_
      clear hH1_
      refine wpAnyU_take (i := 29) (v := ?_) rfl (by kernel_rfl) (by kernel_rfl) (by kernel_rfl) (by kernel_rfl) (fun _ _ _ h => h) (Or.inl ⟨by rfl, ?_⟩) hH_ ?_
      rotate_left
      · (intro w hSw; (try dsimp only at hSw); go_simp <;> with_reducible rfl)
      simp only [Act.put, List.getElem_toArray, List.getElem_cons_succ, List.getElem_cons_zero, List.setIfInBounds_toArray, List.set_cons_zero, List.set_cons_succ]
      refine wpAnyU_one' (i := 30) (by kernel_rfl) rfl (by kernel_rfl) (fun K hK => ?_)
      go_simp
      refine hK.out _ _ ?_
      clear hK K
      refine wpAnyU_one' (i := 31) (by kernel_rfl) rfl (by kernel_rfl) (fun K hK => ?_)
      go_simp
      refine hK.out _ _ ?_
      clear hK K
      refine wpAnyU_done (by kernel_rfl) ?_ _
      go_wp2
      go_ret
      exact ⟨rfl, HB.out⟩
    | false =>
      have HSV : Hid (safeB x = false) := by unfold Hid safeB; rw [hM]; rfl
      refine wp_region_U (fun wq => Blk wq w1.heap.size 29 #[.string x.Name, .slice A x.Code.length c] ∧ Blk wq w7.heap.size 51 #[.string s.Name, .slice D s.Methods.length d]) [0, 1, 2, 3, 4, 5, 6, 7, 8, 9, 10, 11, 12, 13, 14, 15, 16, 17, 18, 19, 20, 21, 22, 23, 24, 25, 26, 27, 28, 29, 30] (by kernel_rfl) ?_
      have hH_ := (⟨HK.out.drew, HKS.out.drew⟩ : (fun wq : World => Blk wq w1.heap.size 29 #[.string x.Name, .slice A x.Code.length c] ∧ Blk wq w7.heap.size 51 #[.string s.Name, .slice D s.Methods.length d]) w9.drew)
      refine wpAnyU_take (i := 0) (v := ?_) rfl (by kernel_rfl) (by kernel_rfl) (by kernel_rfl) (by kernel_rfl) (fun _ _ _ h => h) (Or.inl ⟨by rfl, ?_⟩) hH_ ?_
      rotate_left
      · (intro w hSw; (try dsimp only at hSw); (have hb_ := hSw.1; have e0 := hb_.cell 0; have e1 := hb_.cell 1; simp only [List.getElem?_toArray, List.getElem?_cons_zero, List.getElem?_cons_succ] at e0 e1; clear hb_ hSw; go_simp <;> with_reducible rfl))
      simp only [Act.put, List.getElem_toArray, List.getElem_cons_succ, List.getElem_cons_zero, List.setIfInBounds_toArray, List.set_cons_zero, List.set_cons_succ]
      refine wpAnyU_take (i := 2) (v := ?_) rfl (by kernel_rfl) (by kernel_rfl) (by kernel_rfl) (by kernel_rfl) (fun _ _ _ h => h) (Or.inl ⟨by rfl, ?_⟩) hH_ ?_
      rotate_left
      · (intro w hSw; (try dsimp only at hSw); (have hb_ := hSw.1; have e0 := hb_.cell 0; have e1 := hb_.cell 1; simp only [List.getElem?_toArray, List.getElem?_cons_zero, List.getElem?_cons_succ] at e0 e1; clear hb_ hSw; go_simp <;> with_reducible rfl))
      simp only [Act.put, List.getElem_toArray, List.getElem_cons_succ, List.getElem_cons_zero, List.setIfInBounds_toArray, List.set_cons_zero, List.set_cons_succ]
      refine wpAnyU_one (i := 1) (by kernel_rfl) rfl (fun K hK => ?_)
      go_simp
      refine (impl_IsSafe_calls _ x _ HX.out HSZ.out).mono ?_
      rintro e wc1 ⟨rfl, hb_1⟩
      rw [HSV.out]
      replace HX := Lib.hid (HX.out.below hb_1)
      replace HXS := Lib.hid (HXS.out.below hb_1)
      replace HS := Lib.hid (HS.out.below hb_1)
      replace HB := Lib.hid (HB.out.trans (hb_1.mono HB.out.size))
      refine hK.out _ _ ?_ (fun hH1_ => ?_)
      · exact ⟨hH_.1.below hb_1, hH_.2.below hb_1⟩
      clear hK K hH_
      have hH_ := hH1_
      clear hH1_
      refine wpAnyU_one (i := 3) (by kernel_rfl) rfl (fun K hK => ?_)
      go_simp
      refine (impl_IsMethod_calls _ x _ HX.out HSZ.out).mono ?_
      rintro e wc3 ⟨rfl, hb_3⟩
      rw [hM]
      replace HX := Lib.hid (HX.out.below hb_3)
      replace HXS := Lib.hid (HXS.out.below hb_3)
      replace HS := Lib.hid (HS.out.below hb_3)
      replace HB := Lib.hid (HB.out.trans (hb_3.mono HB.out.size))
      refine hK.out _ _ ?_ (fun hH1_ => ?_)
      · exact ⟨hH_.1.below hb_3, hH_.2.below hb_3⟩
      clear hK K hH_
      have hH_ := hH1_
      clear hH1_
      refine wpAnyU_take (i := 4) (v := ?_) rfl (by kernel_rfl) (by kernel_rfl) (by kernel_rfl) (by kernel_rfl) (fun _ _ _ h => h) (Or.inl ⟨by rfl, ?_⟩) hH_ ?_
      rotate_left
      · (intro w hSw; (try dsimp only at hSw); go_simp <;> with_reducible rfl)
      simp only [Act.put, List.getElem_toArray, List.getElem_cons_succ, List.getElem_cons_zero, List.setIfInBounds_toArray, List.set_cons_zero, List.set_cons_succ]
      refine wpAnyU_take (i := 5) (v := undef) rfl (by kernel_rfl) (by kernel_rfl) (by kernel_rfl) (by kernel_rfl) (fun _ _ _ h => h) (Or.inr ⟨by rfl, rfl⟩) hH_ ?_
      simp only [Act.put, List.getElem_toArray, List.getElem_cons_succ, List.getElem_cons_zero, List.setIfInBounds_toArray, List.set_cons_zero, List.set_cons_succ]
      refine wpAnyU_take (i := 6) (v := undef) rfl (by kernel_rfl) (by kernel_rfl) (by kernel_rfl) (by kernel_rfl) (fun _ _ _ h => h) (Or.inr ⟨by rfl, rfl⟩) hH_ ?_
      simp only [Act.put, List.getElem_toArray, List.getElem_cons_succ, List.getElem_cons_zero, List.setIfInBounds_toArray, List.set_cons_zero, List.set_cons_succ]
      refine wpAnyU_take (i := 7) (v := ?_) rfl (by kernel_rfl) (by kernel_rfl) (by kernel_rfl) (by kernel_rfl) (fun _ _ _ h => h) (Or.inl ⟨by rfl, ?_⟩) hH_ ?_
      rotate_left
      · (intro w hSw; (try dsimp only at hSw); go_simp <;> with_reducible rfl)
      simp only [Act.put, List.getElem_toArray, List.getElem_cons_succ, List.getElem_cons_zero, List.setIfInBounds_toArray, List.set_cons_zero, List.set_cons_succ]
      refine wpAnyU_take (i := 8) (v := ?_) rfl (by kernel_rfl) (by kernel_rfl) (by kernel_rfl) (by kernel_rfl) (fun _ _ _ h => h) (Or.inl ⟨by rfl, ?_⟩) hH_ ?_
      rotate_left
      · (intro w hSw; (try dsimp only at hSw); go_simp <;> with_reducible rfl)
      simp only [Act.put, List.getElem_toArray, List.getElem_cons_succ, List.getElem_cons_zero, List.setIfInBounds_toArray, List.set_cons_zero, List.set_cons_succ]
      refine wpAnyU_take (i := 9) (v := ?_) rfl (by kernel_rfl) (by kernel_rfl) (by kernel_rfl) (by kernel_rfl) (fun _ _ _ h => h) (Or.inl ⟨by rfl, ?_⟩) hH_ ?_
      rotate_left
      · (intro w hSw; (try dsimp only at hSw); go_simp <;> with_reducible rfl)
      simp only [Act.put, List.getElem_toArray, List.getElem_cons_succ, List.getElem_cons_zero, List.setIfInBounds_toArray, List.set_cons_zero, List.set_cons_succ]
      refine wpAnyU_take (i := 10) (v := ?_) rfl (by kernel_rfl) (by kernel_rfl) (by kernel_rfl) (by kernel_rfl) (fun _ _ _ h => h) (Or.inl ⟨by rfl, ?_⟩) hH_ ?_
      rotate_left
      · (intro w hSw; (try dsimp only at hSw); go_simp <;> with_reducible rfl)
      simp only [Act.put, List.getElem_toArray, List.getElem_cons_succ, List.getElem_cons_zero, List.setIfInBounds_toArray, List.set_cons_zero, List.set_cons_succ]
      refine wpAnyU_take (i := 12) (v := ?_) rfl (by kernel_rfl) (by kernel_rfl) (by kernel_rfl) (by kernel_rfl) (fun _ _ _ h => h) (Or.inl ⟨by rfl, ?_⟩) hH_ ?_
      rotate_left
      · (intro w hSw; (try dsimp only at hSw); go_simp <;> with_reducible rfl)
      simp only [Act.put, List.getElem_toArray, List.getElem_cons_succ, List.getElem_cons_zero, List.setIfInBounds_toArray, List.set_cons_zero, List.set_cons_succ]
      refine wpAnyU_one (i := 11) (by kernel_rfl) rfl (fun K hK => ?_)
      go_simp
      refine (impl_AreSafe_calls _ xs _ HXS.out (by have h := HXZ.out; omega)).mono ?_
      rintro e wc11 ⟨rfl, hb_11⟩
      rw [← HBS.out]
      replace HX := Lib.hid (HX.out.below hb_11)
      replace HXS := Lib.hid (HXS.out.below hb_11)
      replace HS := Lib.hid (HS.out.below hb_11)
      replace HB := Lib.hid (HB.out.trans (hb_11.mono HB.out.size))
      refine hK.out _ _ ?_ (fun hH1_ => ?_)
      · exact ⟨hH_.1.below hb_11, hH_.2.below hb_11⟩
      clear hK K hH_
      have hH_ := hH1_
      clear hH1_
      refine wpAnyU_one (i := 13) (by kernel_rfl) rfl (fun K hK => ?_)
      go_simp
      refine (spec_AreSafe_calls _ xs _ HXS.out (by have h := HXZ.out; omega)).mono ?_
      rintro e wc13 ⟨rfl, hb_13⟩
      rw [← HBS.out]
      replace HX := Lib.hid (HX.out.below hb_13)
      replace HXS := Lib.hid (HXS.out.below hb_13)
      replace HS := Lib.hid (HS.out.below hb_13)
      replace HB := Lib.hid (HB.out.trans (hb_13.mono HB.out.size))
      refine hK.out _ _ ?_ (fun hH1_ => ?_)
      · exact ⟨hH_.1.below hb_13, hH_.2.below hb_13⟩
      clear hK K hH_
      have hH_ := hH1_
      clear hH1_
      refine wpAnyU_take (i := 14) (v := ?_) rfl (by kernel_rfl) (by kernel_rfl) (by kernel_rfl) (by kernel_rfl) (fun _ _ _ h => h) (Or.inl ⟨by rfl, ?_⟩) hH_ ?_
      rotate_left
      · (intro w hSw; (try dsimp only at hSw); go_simp <;> with_reducible rfl)
      simp only [Act.put, List.getElem_toArray, List.getElem_cons_succ, List.getElem_cons_zero, List.setIfInBounds_toArray, List.set_cons_zero, List.set_cons_succ]
      refine wpAnyU_take (i := 15) (v := ?_) rfl (by kernel_rfl) (by kernel_rfl) (by kernel_rfl) (by kernel_rfl) (fun _ _ _ h => h) (Or.inl ⟨by rfl, ?_⟩) hH_ ?_
      rotate_left
      · (intro w hSw; (try dsimp only at hSw); go_simp <;> with_reducible rfl)
      simp only [Act.put, List.getElem_toArray, List.getElem_cons_succ, List.getElem_cons_zero, List.setIfInBounds_toArray, List.set_cons_zero, List.set_cons_succ]
      refine wpAnyU_take (i := 16) (v := ?_) rfl (by kernel_rfl) (by kernel_rfl) (by kernel_rfl) (by kernel_rfl) (fun _ _ _ h => h) (Or.inl ⟨by rfl, ?_⟩) hH_ ?_
      rotate_left
      · (intro w hSw; (try dsimp only at hSw); go_simp <;> with_reducible rfl)
      simp only [Act.put, List.getElem_toArray, List.getElem_cons_succ, List.getElem_cons_zero, List.setIfInBounds_toArray, List.set_cons_zero, List.set_cons_succ]
      refine wpAnyU_take (i := 17) (v := ?_) rfl (by kernel_rfl) (by kernel_rfl) (by kernel_rfl) (by kernel_rfl) (fun _ _ _ h => h) (Or.inl ⟨by rfl, ?_⟩) hH_ ?_
      rotate_left
      · (intro w hSw; (try dsimp only at hSw); go_simp <;> with_reducible rfl)
      simp only [Act.put, List.getElem_toArray, List.getElem_cons_succ, List.getElem_cons_zero, List.setIfInBounds_toArray, List.set_cons_zero, List.set_cons_succ]
      refine wpAnyU_take (i := 18) (v := ?_) rfl (by kernel_rfl) (by kernel_rfl) (by kernel_rfl) (by kernel_rfl) (fun _ _ _ h => h) (Or.inl ⟨by rfl, ?_⟩) hH_ ?_
      rotate_left
      · (intro w hSw; (try dsimp only at hSw); go_simp <;> with_reducible rfl)
      simp only [Act.put, List.getElem_toArray, List.getElem_cons_succ, List.getElem_cons_zero, List.setIfInBounds_toArray, List.set_cons_zero, List.set_cons_succ]
      refine wpAnyU_take (i := 19) (v := ?_) rfl (by kernel_rfl) (by kernel_rfl) (by kernel_rfl) (by kernel_rfl) (fun _ _ _ h => h) (Or.inl ⟨by rfl, ?_⟩) hH_ ?_
      rotate_left
      · (intro w hSw; (try dsimp only at hSw); (have hb_ := hSw.2; have e0 := hb_.cell 0; have e1 := hb_.cell 1; simp only [List.getElem?_toArray, List.getElem?_cons_zero, List.getElem?_cons_succ] at e0 e1; clear hb_ hSw; go_simp <;> with_reducible rfl))
      simp only [Act.put, List.getElem_toArray, List.getElem_cons_succ, List.getElem_cons_zero, List.setIfInBounds_toArray, List.set_cons_zero, List.set_cons_succ]
      refine wpAnyU_one (i := 20) (by kernel_rfl) rfl (fun K hK => ?_)
      go_simp
      refine (spec_MadeBy_calls _ s _ HS.out HSS.out).mono ?_
      rintro e wc20 ⟨vn2, rfl, hn2, hb_20⟩
      obtain ⟨An2, cn2, rfl, -⟩ := hn2.slice
      clear hn2
      replace HX := Lib.hid (HX.out.below hb_20)
      replace HXS := Lib.hid (HXS.out.below hb_20)
      replace HS := Lib.hid (HS.out.below hb_20)
      replace HB := Lib.hid (HB.out.trans (hb_20.mono HB.out.size))
      refine hK.out _ _ ?_ (fun hH1_ => ?_)
      · exact ⟨hH_.1.below hb_20, hH_.2.below hb_20⟩
      clear hK K hH_
      have hH_ := hH1_
      clear hH1_
      refine wpAnyU_take (i := 21) (v := ?_) rfl (by kernel_rfl) (by kernel_rfl) (by kernel_rfl) (by kernel_rfl) (fun _ _ _ h => h) (Or.inl ⟨by rfl, ?_⟩) hH_ ?_
      rotate_left
      · (intro w hSw; (try dsimp only at hSw); go_simp <;> with_reducible rfl)
      simp only [Act.put, List.getElem_toArray, List.getElem_cons_succ, List.getElem_cons_zero, List.setIfInBounds_toArray, List.set_cons_zero, List.set_cons_succ]
      refine wpAnyU_take (i := 22) (v := ?_) rfl (by kernel_rfl) (by kernel_rfl) (by kernel_rfl) (by kernel_rfl) (fun _ _ _ h => h) (Or.inl ⟨by rfl, ?_⟩) hH_ ?_
      rotate_left
      · (intro w hSw; (try dsimp only at hSw); go_simp <;> with_reducible rfl)
      simp only [Act.put, List.getElem_toArray, List.getElem_cons_succ, List.getElem_cons_zero, List.setIfInBounds_toArray, List.set_cons_zero, List.set_cons_succ]
      refine wpAnyU_take (i := 23) (v := ?_) rfl (by kernel_rfl) (by kernel_rfl) (by kernel_rfl) (by kernel_rfl) (fun _ _ _ h => h) (Or.inl ⟨by rfl, ?_⟩) hH_ ?_
      rotate_left
      · (intro w hSw; (try dsimp only at hSw); go_simp <;> with_reducible rfl)
      simp only [Act.put, List.getElem_toArray, List.getElem_cons_succ, List.getElem_cons_zero, List.setIfInBounds_toArray, List.set_cons_zero, List.set_cons_succ]
      refine wpAnyU_take (i := 24) (v := ?_) rfl (by kernel_rfl) (by kernel_rfl) (by kernel_rfl) (by kernel_rfl) (fun _ _ _ h => h) (Or.inl ⟨by rfl, ?_⟩) hH_ ?_
      rotate_left
      · (intro w hSw; (try dsimp only at hSw); go_simp <;> with_reducible rfl)
      simp only [Act.put, List.getElem_toArray, List.getElem_cons_succ, List.getElem_cons_zero, List.setIfInBounds_toArray, List.set_cons_zero, List.set_cons_succ]
      refine wpAnyU_take (i := 25) (v := ?_) rfl (by kernel_rfl) (by kernel_rfl) (by kernel_rfl) (by kernel_rfl) (fun _ _ _ h => h) (Or.inl ⟨by rfl, ?_⟩) hH_ ?_
      rotate_left
      · (intro w hSw; (try dsimp only at hSw); go_simp <;> with_reducible rfl)
      simp only [Act.put, List.getElem_toArray, List.getElem_cons_succ, List.getElem_cons_zero, List.setIfInBounds_toArray, List.set_cons_zero, List.set_cons_succ]
      refine wpAnyU_take (i := 27) (v := ?_) rfl (by kernel_rfl) (by kernel_rfl) (by kernel_rfl) (by kernel_rfl) (fun _ _ _ h => h) (Or.inl ⟨by rfl, ?_⟩) hH_ ?_
      rotate_left
      · (intro w hSw; (try dsimp only at hSw); go_simp <;> with_reducible rfl)
      simp only [Act.put, List.getElem_toArray, List.getElem_cons_succ, List.getElem_cons_zero, List.setIfInBounds_toArray, List.set_cons_zero, List.set_cons_succ]
      refine wpAnyU_one (i := 26) (by kernel_rfl) rfl (fun K hK => ?_)
      go_simp
      refine (impl_AreKnown_calls _ xs _ HXS.out HXZ.out).mono ?_
      rintro e wc26 ⟨rfl, hb_26⟩
      rw [← HBK.out]
      replace HX := Lib.hid (HX.out.below hb_26)
      replace HXS := Lib.hid (HXS.out.below hb_26)
      replace HS := Lib.hid (HS.out.below hb_26)
      replace HB := Lib.hid (HB.out.trans (hb_26.mono HB.out.size))
      refine hK.out _ _ ?_ (fun hH1_ => ?_)
      · exact ⟨hH_.1.below hb_26, hH_.2.below hb_26⟩
      clear hK K hH_
      have hH_ := hH1_
      clear hH1_
      refine wpAnyU_one (i := 28) (by kernel_rfl) rfl (fun K hK => ?_)
      go_simp
      refine (spec_AreKnown_calls _ xs _ HXS.out HXZ.out).mono ?_
      rintro e wc28 ⟨rfl, hb_28⟩
      rw [← HBK.out]
      replace HX := Lib.hid (HX.out.below hb_28)
      replace HXS := Lib.hid (HXS.out.below hb_28)
      replace HS := Lib.hid (HS.out.below hb_28)
      replace HB := Lib.hid (HB.out.trans (hb_28.mono HB.out.size))
      refine hK.out _ _ ?_ (fun hH1_ => ?_)
      · exact ⟨hH_.1.below hb_28, hH_.2.below hb_28⟩
      clear hK K hH_
      have hH_ := hH1_
      clear hH1_
      refine wpAnyU_take (i := 29) (v := ?_) rfl (by kernel_rfl) (by kernel_rfl) (by kernel_rfl) (by kernel_rfl) (fun _ _ _ h => h) (Or.inl ⟨by rfl, ?_⟩) hH_ ?_
      rotate_left
      · (intro w hSw; (try dsimp only at hSw); go_simp <;> with_reducible rfl)
      simp only [Act.put, List.getElem_toArray, List.getElem_cons_succ, List.getElem_cons_zero, List.setIfInBounds_toArray, List.set_cons_zero, List.set_cons_succ]
      refine wpAnyU_one' (i := 30) (by kernel_rfl) rfl (by kernel_rfl) (fun K hK => ?_)
      go_simp
      refine hK.out _ _ ?_
      clear hK K
      refine wpAnyU_one' (i := 31) (by kernel_rfl) rfl (by kernel_rfl) (fun K hK => ?_)
      go_simp
      refine hK.out _ _ ?_
      clear hK K
      refine wpAnyU_done (by kernel_rfl) ?_ _
      go_wp2
      go_ret
      exact ⟨rfl, HB.out⟩
  · obtain ⟨k, hkn⟩ : ∃ k : Nat, firstI x.Code = k := ⟨(firstI x.Code).toNat, by omega⟩
    obtain ⟨hkl, hkp, z, hz, hzr⟩ := firstI_prefix hkn
    rw [hkn]
    rw [hkn] at hk
    have hgk : ¬ ((x.Code.length : Int) ≤ k) := by omega
    have hk0 : (0 : Int) ≤ k := by omega
    have hkle : (k : Int) ≤ x.Code.length := by omega
    have hp1 := rdW_take HXC.out hkl
    have HP := Lib.hid (mkrd_eMethod (x := ⟨x.Name, x.Code.take k⟩) (v1 := .slice A k c) hp1)
    have hpz : sizL (eMethod ⟨x.Name, x.Code.take k⟩) ≤ 1048576 := by
      have h := HSZ.out
      rw [siz_eMethod] at h ⊢
      have h2 : x.Code.flatMap eInstr = (x.Code.take k).flatMap eInstr ++ (x.Code.drop k).flatMap eInstr := by rw [← List.flatMap_append, List.take_append_drop]
      rw [h2, sizL_append] at h
      have h3 : (x.Code.take k).length ≤ x.Code.length := by rw [List.length_take]; omega
      dsimp only
      omega
    have HPZ := Lib.hid hpz
    have HKP := Lib.hid hkp
    obtain ⟨ad, hA, hab, p0, p1, p2, p3, p4, p5⟩ := row_eInstr HXC.out hz
    have HROW := Lib.hid (And.intro p0 (And.intro p1 (And.intro p2 (And.intro p3 (And.intro p4 p5)))))
    have HZR := Lib.hid hzr
    have habk : (ad.add (k * 6)).block < w3.heap.size := by rw [block_of_add]; exact hab
    clear hp1 hpz p0 p1 p2 p3 p4 p5 hz hzr hkp
    subst hA
    have hkc : (k : Int) ≤ c := by
      have h := HXC.out
      rw [RdW, Rd] at h
      obtain ⟨A', c', h0, hok, -⟩ := h
      injection h0 with _ _ h5
      subst h5
      have := hok.le
      have := hok.cap
      omega
    go_upto_region 8 with fail
    obtain ⟨w4, hw4⟩ : ∃ q, q = (w3.alloc (.cells #[.string x.Name, .slice (some ad) k c] 29)).drew := ⟨_, rfl⟩
    refine wp_region_U (fun wq => Blk wq w1.heap.size 29 #[.string x.Name, .slice (some ad) x.Code.length c]) [0, 1, 2, 3, 4, 5, 6, 7, 8] (by kernel_rfl) ?_
    have hH_ := (HK.out.drew : (fun wq : World => Blk wq w1.heap.size 29 #[.string x.Name, .slice (some ad) x.Code.length c]) w3.drew)
    refine wpAnyU_take (i := 0) (v := ?_) rfl (by kernel_rfl) (by kernel_rfl) (by kernel_rfl) (by kernel_rfl) (fun _ _ _ h => h) (Or.inl ⟨by rfl, ?_⟩) hH_ ?_
    rotate_left
    · (intro w hSw; (try dsimp only at hSw); (have hb_ := hSw; have e0 := hb_.cell 0; have e1 := hb_.cell 1; simp only [List.getElem?_toArray, List.getElem?_cons_zero, List.getElem?_cons_succ] at e0 e1; clear hb_ hSw; go_simp <;> with_reducible rfl))
    simp only [Act.put, List.getElem_toArray, List.getElem_cons_succ, List.getElem_cons_zero, List.setIfInBounds_toArray, List.set_cons_zero, List.set_cons_succ]
    refine wpAnyU_take (i := 1) (v := ?_) rfl (by kernel_rfl) (by kernel_rfl) (by kernel_rfl) (by kernel_rfl) (fun _ _ _ h => h) (Or.inl ⟨by rfl, ?_⟩) hH_ ?_
    rotate_left
    · (intro w hSw; (try dsimp only at hSw); (have hb_ := hSw; have e0 := hb_.cell 0; have e1 := hb_.cell 1; simp only [List.getElem?_toArray, List.getElem?_cons_zero, List.getElem?_cons_succ] at e0 e1; clear hb_ hSw; go_simp <;> with_reducible rfl))
    simp only [Act.put, List.getElem_toArray, List.getElem_cons_succ, List.getElem_cons_zero, List.setIfInBounds_toArray, List.set_cons_zero, List.set_cons_succ]
    refine wpAnyU_take (i := 2) (v := ?_) rfl (by kernel_rfl) (by kernel_rfl) (by kernel_rfl) (by kernel_rfl) (fun _ _ _ h => h) (Or.inl ⟨by rfl, ?_⟩) hH_ ?_
    rotate_left
    · (intro w hSw; (try dsimp only at hSw); (have hb_ := hSw; have e0 := hb_.cell 0; have e1 := hb_.cell 1; simp only [List.getElem?_toArray, List.getElem?_cons_zero, List.getElem?_cons_succ] at e0 e1; clear hb_ hSw; go_simp <;> with_reducible rfl))
    simp only [Act.put, List.getElem_toArray, List.getElem_cons_succ, List.getElem_cons_zero, List.setIfInBounds_toArray, List.set_cons_zero, List.set_cons_succ]
    refine wpAnyU_take (i := 3) (v := ?_) rfl (by kernel_rfl) (by kernel_rfl) (by kernel_rfl) (by kernel_rfl) (fun _ _ _ h => h) (Or.inl ⟨by rfl, ?_⟩) hH_ ?_
    rotate_left
    · (intro w hSw; (try dsimp only at hSw); (have hb_ := hSw; have e0 := hb_.cell 0; have e1 := hb_.cell 1; simp only [List.getElem?_toArray, List.getElem?_cons_zero, List.getElem?_cons_succ] at e0 e1; clear hb_ hSw; go_simp <;> with_reducible rfl))
    simp only [Act.put, List.getElem_toArray, List.getElem_cons_succ, List.getElem_cons_zero, List.setIfInBounds_toArray, List.set_cons_zero, List.set_cons_succ]
    refine wpAnyU_take (i := 4) (v := ?_) rfl (by kernel_rfl) (by kernel_rfl) (by kernel_rfl) (by kernel_rfl) (fun _ _ _ h => h) (Or.inl ⟨by rfl, ?_⟩) hH_ ?_
    rotate_left
    · (intro w hSw; (try dsimp only at hSw); go_simp <;> with_reducible rfl)
    simp only [Act.put, List.getElem_toArray, List.getElem_cons_succ, List.getElem_cons_zero, List.setIfInBounds_toArray, List.set_cons_zero, List.set_cons_succ]
    refine wpAnyU_take (i := 5) (v := ?_) rfl (by kernel_rfl) (by kernel_rfl) (by kernel_rfl) (by kernel_rfl) (fun _ _ _ h => h) (Or.inl ⟨by rfl, ?_⟩) hH_ ?_
    rotate_left
    · (intro w hSw; (try dsimp only at hSw); go_simp <;> with_reducible rfl)
    simp only [Act.put, List.getElem_toArray, List.getElem_cons_succ, List.getElem_cons_zero, List.setIfInBounds_toArray, List.set_cons_zero, List.set_cons_succ]
    refine wpAnyU_take (i := 6) (v := ?_) rfl (by kernel_rfl) (by kernel_rfl) (by kernel_rfl) (by kernel_rfl) (fun _ _ _ h => h) (Or.inl ⟨by rfl, ?_⟩) hH_ ?_
    rotate_left
    · (intro w hSw; (try dsimp only at hSw); go_simp <;> with_reducible rfl)
    simp only [Act.put, List.getElem_toArray, List.getElem_cons_succ, List.getElem_cons_zero, List.setIfInBounds_toArray, List.set_cons_zero, List.set_cons_succ]
    refine wpAnyU_one (i := 7) (by kernel_rfl) rfl (fun K hK => ?_)
    go_simp
    refine hK.out _ _ ?_ (fun hH1_ => ?_)
    · exact hH_.alloc _
    clear hK K hH_
    have hH_ := hH1_
    clear hH1_
    refine wpAnyU_one' (i := 8) (by kernel_rfl) rfl (by kernel_rfl) (fun K hK => ?_)
    go_simp
    refine hK.out _ _ ?_
    clear hK K
    refine wpAnyU_done (by kernel_rfl) ?_ _
    go_upto_region 9 with fail
    rw [← hw4]
    have hb4 : Below w3.heap.size w3 w4 := by rw [hw4]; exact ((Below.refl _ _).alloc (Nat.le_refl _) _).drew
    have HKQ : Hid (Blk w4 w3.heap.size 29 #[.string x.Name, .slice (some ad) k c]) := by rw [hw4]; exact (Blk.new w3 _ _).drew
    have HPR := Lib.hid (HP.out.below hb4)
    replace HROW := Lib.hid (And.intro (cell_below hb4 HROW.out.1 habk) (And.intro (cell_below hb4 HROW.out.2.1 habk) (And.intro (cell_below hb4 HROW.out.2.2.1 habk) (And.intro (cell_below hb4 HROW.out.2.2.2.1 habk) (And.intro (cell_below hb4 HROW.out.2.2.2.2.1 habk) (cell_below hb4 HROW.out.2.2.2.2.2 habk))))))
    have hab4 : (ad.add (k * 6)).block < w4.heap.size := Nat.lt_of_lt_of_le habk hb4.size
    replace HX := Lib.hid (HX.out.below hb4)
    replace HK := Lib.hid (HK.out.below hb4)
    replace HB := Lib.hid (HB.out.trans (hb4.mono HB.out.size))
    have hs4 := hb4.size
    clear hb4 hw4 kk ff ll HP HXC habk hab
    obtain ⟨kk, ff⟩ := HKQ.out.rules
    have ll := HKQ.out.lt
    go_wp2_with fail
    refine (impl_FirstUnset_calls _ ⟨x.Name, x.Code.take k⟩ _ HPR.out HPZ.out).mono ?_
    rintro e w5 ⟨rfl, hb⟩
    rw [HKP.out]
    replace HROW := Lib.hid (And.intro (cell_below hb HROW.out.1 hab4) (And.intro (cell_below hb HROW.out.2.1 hab4) (And.intro (cell_below hb HROW.out.2.2.1 hab4) (And.intro (cell_below hb HROW.out.2.2.2.1 hab4) (And.intro (cell_below hb HROW.out.2.2.2.2.1 hab4) (cell_below hb HROW.out.2.2.2.2.2 hab4))))))
    have hab5 : (ad.add (k * 6)).block < w5.heap.size := Nat.lt_of_lt_of_le hab4 hb.size
    replace HX := Lib.hid (HX.out.below hb)
    replace HK := Lib.hid (HK.out.below hb)
    replace HB := Lib.hid (HB.out.trans (hb.mono HB.out.size))
    have hs5 := hb.size
    clear hb kk ff ll hab4 HKQ HPR
    obtain ⟨kk, ff⟩ := HK.out.rules
    have ll := HK.out.lt
    obtain ⟨q0, q1, q2, q3, q4, q5⟩ := HROW.out
    have hkl2 : (k : Int) < x.Code.length := by omega
    go_wp2_with fail
    refine (impl_RegsOf_calls z _).mono ?_
    rintro e wv ⟨v, rfl, hv, hb⟩
    obtain ⟨V, cV, rfl, -⟩ := hv.slice
    have hrl : ((regsOf z).length : Int) ≠ 0 := by
      intro h
      exact HZR.out (List.length_eq_zero_iff.1 (by omega))
    replace HX := Lib.hid (HX.out.below hb)
    replace HK := Lib.hid (HK.out.below hb)
    replace HB := Lib.hid (HB.out.trans (hb.mono HB.out.size))
    have hs6 := hb.size
    clear hb hv kk ff ll hab5 HROW q0 q1 q2 q3 q4 q5 HZR HKP HPZ
    go_wp2_with fail
    refine (spec_DrawAreSafe_calls _ aB _ (ARaB.out.below HB.out) hszaB).mono ?_
    rintro e w6 ⟨xs, D0, d0, rfl, hxs, hxsl, hxss, hb⟩
    replace HX := Lib.hid (HX.out.below hb)
    replace HK := Lib.hid (HK.out.below hb)
    replace HB := Lib.hid (HB.out.trans (hb.mono HB.out.size))
    have hz6 := hb.size
    have HXS := Lib.hid hxs
    have HXZ : Hid (xs.length + sizL (xs.flatMap eScript) ≤ 1048576) := by
      unfold Hid
      have h := siz_lib hxss
      have h2 : xs.length * 1300 ≤ 4 * 1300 := Nat.mul_le_mul_right _ hxsl
      omega
    clear hb hxs hxss
    go_wp2_with fail
    refine (spec_DrawMadeBy_calls _ aB _ (ARaB.out.below HB.out) hszaB).mono ?_
    rintro e w7 ⟨s, us, rfl, hs, hss, hb⟩
    replace HX := Lib.hid (HX.out.below hb)
    replace HK := Lib.hid (HK.out.below hb)
    replace HXS := Lib.hid (HXS.out.below hb)
    replace HB := Lib.hid (HB.out.trans (hb.mono HB.out.size))
    have hz7 := hb.size
    have hssz := siz_smallS hss
    have HSS : Hid (sizL (eScript s) ≤ 1048576) := by unfold Hid; omega
    obtain ⟨vs, rfl, h1⟩ := rd_eScript hs
    obtain ⟨D, d, rfl, -⟩ := h1.slice
    obtain ⟨w8, hw8⟩ : ∃ q, q = w7.alloc (.cells #[.string s.Name, .slice D s.Methods.length d] 51) := ⟨_, rfl⟩
    have hb8 : Below w7.heap.size w7 w8 := by rw [hw8]; exact (Below.refl _ _).alloc (Nat.le_refl _) _
    have HKS : Hid (Blk w8 w7.heap.size 51 #[.string s.Name, .slice D s.Methods.length d]) := by rw [hw8]; exact Blk.new w7 _ _
    have HS := Lib.hid (hs.below hb8)
    replace HX := Lib.hid (HX.out.below hb8)
    replace HK := Lib.hid (HK.out.below hb8)
    replace HXS := Lib.hid (HXS.out.below hb8)
    replace HB := Lib.hid (HB.out.trans (hb8.mono HB.out.size))
    have hlk : w1.heap.size < w7.heap.size := by omega
    clear hb hb8 hs h1 hss
    obtain ⟨ks, fs⟩ := HKS.out.rules
    have ls := HKS.out.lt
    go_upto_region 13 with fail
    rw [← hw8]
    clear hw8
    go_wp2_with fail
    refine (impl_MadeBy_calls _ s _ HS.out HSS.out).mono ?_
    rintro e w9 ⟨vn, fp, rfl, hn, _, hb⟩
    obtain ⟨An, cn, rfl, -⟩ := hn.slice
    replace HX := Lib.hid (HX.out.below hb)
    replace HK := Lib.hid (HK.out.below hb)
    replace HXS := Lib.hid (HXS.out.below hb)
    replace HS := Lib.hid (HS.out.below hb)
    replace HKS := Lib.hid (HKS.out.below hb)
    replace HB := Lib.hid (HB.out.trans (hb.mono HB.out.size))
    clear hb hn ks fs ls
    go_wp2
    have hdr : Below w9.heap.size w9 w9.drew := (Below.refl _ _).drew
    obtain ⟨bS, hbS⟩ : ∃ q : Bool, q = areSafeB xs := ⟨_, rfl⟩
    obtain ⟨bK, hbK⟩ : ∃ q : Bool, q = areKnown xs := ⟨_, rfl⟩
    have HBS := Lib.hid hbS
    have HBK := Lib.hid hbK
    clear hbS hbK
    replace HX := Lib.hid (HX.out.below hdr)
    replace HXS := Lib.hid (HXS.out.below hdr)
    replace HS := Lib.hid (HS.out.below hdr)
    replace HB := Lib.hid (HB.out.drew)
    clear hdr
    cases hM : methodB x with
    | true =>
      have HSV : Hid (safeB x = false) := by unfold Hid safeB; rw [hM, Bool.true_and]; simp only [beq_eq_false_iff_ne, ne_eq]; omega
      refine wp_region_U (fun wq => Blk wq w1.heap.size 29 #[.string x.Name, .slice (some ad) x.Code.length c] ∧ Blk wq w7.heap.size 51 #[.string s.Name, .slice D s.Methods.length d]) [0, 1, 2, 3, 4, 5, 6, 7, 8, 9, 10, 11, 12, 13, 14, 15, 16, 17, 18, 19, 20, 21, 22, 23, 24, 25, 26, 27, 28, 29, 30] (by kernel_rfl) ?_
      have hH_ := (⟨HK.out.drew, HKS.out.drew⟩ : (fun wq : World => Blk wq w1.heap.size 29 #[.string x.Name, .slice (some ad) x.Code.length c] ∧ Blk wq w7.heap.size 51 #[.string s.Name, .slice D s.Methods.length d]) w9.drew)
      refine wpAnyU_take (i := 0) (v := ?_) rfl (by kernel_rfl) (by kernel_rfl) (by kernel_rfl) (by kernel_rfl) (fun _ _ _ h => h) (Or.inl ⟨by rfl, ?_⟩) hH_ ?_
      rotate_left
      · (intro w hSw; (try dsimp only at hSw); (have hb_ := hSw.1; have e0 := hb_.cell 0; have e1 := hb_.cell 1; simp only [List.getElem?_toArray, List.getElem?_cons_zero, List.getElem?_cons_succ] at e0 e1; clear hb_ hSw; go_simp <;> with_reducible rfl))
      simp only [Act.put, List.getElem_toArray, List.getElem_cons_succ, List.getElem_cons_zero, List.setIfInBounds_toArray, List.set_cons_zero, List.set_cons_succ]
      refine wpAnyU_take (i := 2) (v := ?_) rfl (by kernel_rfl) (by kernel_rfl) (by kernel_rfl) (by kernel_rfl) (fun _ _ _ h => h) (Or.inl ⟨by rfl, ?_⟩) hH_ ?_
      rotate_left
      · (intro w hSw; (try dsimp only at hSw); (have hb_ := hSw.1; have e0 := hb_.cell 0; have e1 := hb_.cell 1; simp only [List.getElem?_toArray, List.getElem?_cons_zero, List.getElem?_cons_succ] at e0 e1; clear hb_ hSw; go_simp <;> with_reducible rfl))
      simp only [Act.put, List.getElem_toArray, List.getElem_cons_succ, List.getElem_cons_zero, List.setIfInBounds_toArray, List.set_cons_zero, List.set_cons_succ]
      refine wpAnyU_one (i := 1) (by kernel_rfl) rfl (fun K hK => ?_)
      go_simp
      refine (impl_IsSafe_calls _ x _ HX.out HSZ.out).mono ?_
      rintro e wc1 ⟨rfl, hb_1⟩
      rw [HSV.out]
      replace HX := Lib.hid (HX.out.below hb_1)
      replace HXS := Lib.hid (HXS.out.below hb_1)
      replace HS := Lib.hid (HS.out.below hb_1)
      replace HB := Lib.hid (HB.out.trans (hb_1.mono HB.out.size))
      refine hK.out _ _ ?_ (fun hH1_ => ?_)
      · exact ⟨hH_.1.below hb_1, hH_.2.below hb_1⟩
      clear hK K hH_
      have hH_ := hH1_
      clear hH1_
      refine wpAnyU_one (i := 3) (by kernel_rfl) rfl (fun K hK => ?_)
      go_simp
      refine (impl_IsMethod_calls _ x _ HX.out HSZ.out).mono ?_
      rintro e wc3 ⟨rfl, hb_3⟩
      rw [hM]
      replace HX := Lib.hid (HX.out.below hb_3)
      replace HXS := Lib.hid (HXS.out.below hb_3)
      replace HS := Lib.hid (HS.out.below hb_3)
      replace HB := Lib.hid (HB.out.trans (hb_3.mono HB.out.size))
      refine hK.out _ _ ?_ (fun hH1_ => ?_)
      · exact ⟨hH_.1.below hb_3, hH_.2.below hb_3⟩
      clear hK K hH_
      have hH_ := hH1_
      clear hH1_
      refine wpAnyU_take (i := 4) (v := ?_) rfl (by kernel_rfl) (by kernel_rfl) (by kernel_rfl) (by kernel_rfl) (fun _ _ _ h => h) (Or.inl ⟨by rfl, ?_⟩) hH_ ?_
      rotate_left
      · (intro w hSw; (try dsimp only at hSw); go_simp <;> with_reducible rfl)
      simp only [Act.put, List.getElem_toArray, List.getElem_cons_succ, List.getElem_cons_zero, List.setIfInBounds_toArray, List.set_cons_zero, List.set_cons_succ]
      refine wpAnyU_take (i := 5) (v := ?_) rfl (by kernel_rfl) (by kernel_rfl) (by kernel_rfl) (by kernel_rfl) (fun _ _ _ h => h) (Or.inl ⟨by rfl, ?_⟩) hH_ ?_
      rotate_left
      · (intro w hSw; (try dsimp only at hSw); go_simp <;> with_reducible rfl)
      simp only [Act.put, List.getElem_toArray, List.getElem_cons_succ, List.getElem_cons_zero, List.setIfInBounds_toArray, List.set_cons_zero, List.set_cons_succ]
      refine wpAnyU_take (i := 6) (v := ?_) rfl (by kernel_rfl) (by kernel_rfl) (by kernel_rfl) (by kernel_rfl) (fun _ _ _ h => h) (Or.inl ⟨by rfl, ?_⟩) hH_ ?_
      rotate_left
      · (intro w hSw; (try dsimp only at hSw); go_simp <;> with_reducible rfl)
      simp only [Act.put, List.getElem_toArray, List.getElem_cons_succ, List.getElem_cons_zero, List.setIfInBounds_toArray, List.set_cons_zero, List.set_cons_succ]
      refine wpAnyU_take (i := 7) (v := ?_) rfl (by kernel_rfl) (by kernel_rfl) (by kernel_rfl) (by kernel_rfl) (fun _ _ _ h => h) (Or.inl ⟨by rfl, ?_⟩) hH_ ?_
      rotate_left
      · (intro w hSw; (try dsimp only at hSw); go_simp <;> with_reducible rfl)
      simp only [Act.put, List.getElem_toArray, List.getElem_cons_succ, List.getElem_cons_zero, List.setIfInBounds_toArray, List.set_cons_zero, List.set_cons_succ]
      refine wpAnyU_take (i := 8) (v := ?_) rfl (by kernel_rfl) (by kernel_rfl) (by kernel_rfl) (by kernel_rfl) (fun _ _ _ h => h) (Or.inl ⟨by rfl, ?_⟩) hH_ ?_
      rotate_left
      · (intro w hSw; (try dsimp only at hSw); go_simp <;> with_reducible rfl)
      simp only [Act.put, List.getElem_toArray, List.getElem_cons_succ, List.getElem_cons_zero, List.setIfInBounds_toArray, List.set_cons_zero, List.set_cons_succ]
      refine wpAnyU_take (i := 9) (v := ?_) rfl (by kernel_rfl) (by kernel_rfl) (by kernel_rfl) (by kernel_rfl) (fun _ _ _ h => h) (Or.inl ⟨by rfl, ?_⟩) hH_ ?_
      rotate_left
      · (intro w hSw; (try dsimp only at hSw); go_simp <;> with_reducible rfl)
      simp only [Act.put, List.getElem_toArray, List.getElem_cons_succ, List.getElem_cons_zero, List.setIfInBounds_toArray, List.set_cons_zero, List.set_cons_succ]
      refine wpAnyU_take (i := 10) (v := ?_) rfl (by kernel_rfl) (by kernel_rfl) (by kernel_rfl) (by kernel_rfl) (fun _ _ _ h => h) (Or.inl ⟨by rfl, ?_⟩) hH_ ?_
      rotate_left
      · (intro w hSw; (try dsimp only at hSw); go_simp <;> with_reducible rfl)
      simp only [Act.put, List.getElem_toArray, List.getElem_cons_succ, List.getElem_cons_zero, List.setIfInBounds_toArray, List.set_cons_zero, List.set_cons_succ]
      refine wpAnyU_take (i := 12) (v := ?_) rfl (by kernel_rfl) (by kernel_rfl) (by kernel_rfl) (by kernel_rfl) (fun _ _ _ h => h) (Or.inl ⟨by rfl, ?_⟩) hH_ ?_
      rotate_left
      · (intro w hSw; (try dsimp only at hSw); go_simp <;> with_reducible rfl)
      simp only [Act.put, List.getElem_toArray, List.getElem_cons_succ, List.getElem_cons_zero, List.setIfInBounds_toArray, List.set_cons_zero, List.set_cons_succ]
      refine wpAnyU_one (i := 11) (by kernel_rfl) rfl (fun K hK => ?_)
      go_simp
      refine (impl_AreSafe_calls _ xs _ HXS.out (by have h := HXZ.out; omega)).mono ?_
      rintro e wc11 ⟨rfl, hb_11⟩
      rw [← HBS.out]
      replace HX := Lib.hid (HX.out.below hb_11)
      replace HXS := Lib.hid (HXS.out.below hb_11)
      replace HS := Lib.hid (HS.out.below hb_11)
      replace HB := Lib.hid (HB.out.trans (hb_11.mono HB.out.size))
      refine hK.out _ _ ?_ (fun hH1_ => ?_)
      · exact ⟨hH_.1.below hb_11, hH_.2.below hb_11⟩
      clear hK K hH_
      have hH_ := hH1_
      clear hH1_
      refine wpAnyU_one (i := 13) (by kernel_rfl) rfl (fun K hK => ?_)
      go_simp
      refine (spec_AreSafe_calls _ xs _ HXS.out (by have h := HXZ.out; omega)).mono ?_
      rintro e wc13 ⟨rfl, hb_13⟩
      rw [← HBS.out]
      replace HX := Lib.hid (HX.out.below hb_13)
      replace HXS := Lib.hid (HXS.out.below hb_13)
      replace HS := Lib.hid (HS.out.below hb_13)
      replace HB := Lib.hid (HB.out.trans (hb_13.mono HB.out.size))
      refine hK.out _ _ ?_ (fun hH1_ => ?_)
      · exact ⟨hH_.1.below hb_13, hH_.2.below hb_13⟩
      clear hK K hH_
      have hH_ := hH1_
      clear hH1_
      refine wpAnyU_take (i := 14) (v := ?_) rfl (by kernel_rfl) (by kernel_rfl) (by kernel_rfl) (by kernel_rfl) (fun _ _ _ h => h) (Or.inl ⟨by rfl, ?_⟩) hH_ ?_
      rotate_left
      · (intro w hSw; (try dsimp only at hSw); go_simp <;> with_reducible rfl)
      simp only [Act.put, List.getElem_toArray, List.getElem_cons_succ, List.getElem_cons_zero, List.setIfInBounds_toArray, List.set_cons_zero, List.set_cons_succ]
      refine wpAnyU_take (i := 15) (v := ?_) rfl (by kernel_rfl) (by kernel_rfl) (by kernel_rfl) (by kernel_rfl) (fun _ _ _ h => h) (Or.inl ⟨by rfl, ?_⟩) hH_ ?_
      rotate_left
      · (intro w hSw; (try dsimp only at hSw); go_simp <;> with_reducible rfl)
      simp only [Act.put, List.getElem_toArray, List.getElem_cons_succ, List.getElem_cons_zero, List.setIfInBounds_toArray, List.set_cons_zero, List.set_cons_succ]
      refine wpAnyU_take (i := 16) (v := ?_) rfl (by kernel_rfl) (by kernel_rfl) (by kernel_rfl) (by kernel_rfl) (fun _ _ _ h => h) (Or.inl ⟨by rfl, ?_⟩) hH_ ?_
      rotate_left
      · (intro w hSw; (try dsimp only at hSw); go_simp <;> with_reducible rfl)
      simp only [Act.put, List.getElem_toArray, List.getElem_cons_succ, List.getElem_cons_zero, List.setIfInBounds_toArray, List.set_cons_zero, List.set_cons_succ]
      refine wpAnyU_take (i := 17) (v := ?_) rfl (by kernel_rfl) (by kernel_rfl) (by kernel_rfl) (by kernel_rfl) (fun _ _ _ h => h) (Or.inl ⟨by rfl, ?_⟩) hH_ ?_
      rotate_left
      · (intro w hSw; (try dsimp only at hSw); go_simp <;> with_reducible rfl)
      simp only [Act.put, List.getElem_toArray, List.getElem_cons_succ, List.getElem_cons_zero, List.setIfInBounds_toArray, List.set_cons_zero, List.set_cons_succ]
      refine wpAnyU_take (i := 18) (v := ?_) rfl (by kernel_rfl) (by kernel_rfl) (by kernel_rfl) (by kernel_rfl) (fun _ _ _ h => h) (Or.inl ⟨by rfl, ?_⟩) hH_ ?_
      rotate_left
      · (intro w hSw; (try dsimp only at hSw); go_simp <;> with_reducible rfl)
      simp only [Act.put, List.getElem_toArray, List.getElem_cons_succ, List.getElem_cons_zero, List.setIfInBounds_toArray, List.set_cons_zero, List.set_cons_succ]
      refine wpAnyU_take (i := 19) (v := ?_) rfl (by kernel_rfl) (by kernel_rfl) (by kernel_rfl) (by kernel_rfl) (fun _ _ _ h => h) (Or.inl ⟨by rfl, ?_⟩) hH_ ?_
      rotate_left
      · (intro w hSw; (try dsimp only at hSw); (have hb_ := hSw.2; have e0 := hb_.cell 0; have e1 := hb_.cell 1; simp only [List.getElem?_toArray, List.getElem?_cons_zero, List.getElem?_cons_succ] at e0 e1; clear hb_ hSw; go_simp <;> with_reducible rfl))
      simp only [Act.put, List.getElem_toArray, List.getElem_cons_succ, List.getElem_cons_zero, List.setIfInBounds_toArray, List.set_cons_zero, List.set_cons_succ]
      refine wpAnyU_one (i := 20) (by kernel_rfl) rfl (fun K hK => ?_)
      go_simp
      refine (spec_MadeBy_calls _ s _ HS.out HSS.out).mono ?_
      rintro e wc20 ⟨vn2, rfl, hn2, hb_20⟩
      obtain ⟨An2, cn2, rfl, -⟩ := hn2.slice
      clear hn2
      replace HX := Lib.hid (HX.out.below hb_20)
      replace HXS := Lib.hid (HXS.out.below hb_20)
      replace HS := Lib.hid (HS.out.below hb_20)
      replace HB := Lib.hid (HB.out.trans (hb_20.mono HB.out.size))
      refine hK.out _ _ ?_ (fun hH1_ => ?_)
      · exact ⟨hH_.1.below hb_20, hH_.2.below hb_20⟩
      clear hK K hH_
      have hH_ := hH1_
      clear hH1_
      refine wpAnyU_take (i := 21) (v := ?_) rfl (by kernel_rfl) (by kernel_rfl) (by kernel_rfl) (by kernel_rfl) (fun _ _ _ h => h) (Or.inl ⟨by rfl, ?_⟩) hH_ ?_
      rotate_left
      · (intro w hSw; (try dsimp only at hSw); go_simp <;> with_reducible rfl)
      simp only [Act.put, List.getElem_toArray, List.getElem_cons_succ, List.getElem_cons_zero, List.setIfInBounds_toArray, List.set_cons_zero, List.set_cons_succ]
      refine wpAnyU_take (i := 22) (v := ?_) rfl (by kernel_rfl) (by kernel_rfl) (by kernel_rfl) (by kernel_rfl) (fun _ _ _ h => h) (Or.inl ⟨by rfl, ?_⟩) hH_ ?_
      rotate_left
      · (intro w hSw; (try dsimp only at hSw); go_simp <;> with_reducible rfl)
      simp only [Act.put, List.getElem_toArray, List.getElem_cons_succ, List.getElem_cons_zero, List.setIfInBounds_toArray, List.set_cons_zero, List.set_cons_succ]
      refine wpAnyU_take (i := 23) (v := ?_) rfl (by kernel_rfl) (by kernel_rfl) (by kernel_rfl) (by kernel_rfl) (fun _ _ _ h => h) (Or.inl ⟨by rfl, ?_⟩) hH_ ?_
      rotate_left
      · (intro w hSw; (try dsimp only at hSw); go_simp <;> with_reducible rfl)
      simp only [Act.put, List.getElem_toArray, List.getElem_cons_succ, List.getElem_cons_zero, List.setIfInBounds_toArray, List.set_cons_zero, List.set_cons_succ]
      refine wpAnyU_take (i := 24) (v := ?_) rfl (by kernel_rfl) (by kernel_rfl) (by kernel_rfl) (by kernel_rfl) (fun _ _ _ h => h) (Or.inl ⟨by rfl, ?_⟩) hH_ ?_
      rotate_left
      · (intro w hSw; (try dsimp only at hSw); go_simp <;> with_reducible rfl)
      simp only [Act.put, List.getElem_toArray, List.getElem_cons_succ, List.getElem_cons_zero, List.setIfInBounds_toArray, List.set_cons_zero, List.set_cons_succ]
      refine wpAnyU_take (i := 25) (v := ?_) rfl (by kernel_rfl) (by kernel_rfl) (by kernel_rfl) (by kernel_rfl) (fun _ _ _ h => h) (Or.inl ⟨by rfl, ?_⟩) hH_ ?_
      rotate_left
      · (intro w hSw; (try dsimp only at hSw); go_simp <;> with_reducible rfl)
      simp only [Act.put, List.getElem_toArray, List.getElem_cons_succ, List.getElem_cons_zero, List.setIfInBounds_toArray, List.set_cons_zero, List.set_cons_succ]
      refine wpAnyU_take (i := 27) (v := ?_) rfl (by kernel_rfl) (by kernel_rfl) (by kernel_rfl) (by kernel_rfl) (fun _ _ _ h => h) (Or.inl ⟨by rfl, ?_⟩) hH_ ?_
      rotate_left
      · (intro w hSw; (try dsimp only at hSw); go_simp <;> with_reducible rfl)
      simp only [Act.put, List.getElem_toArray, List.getElem_cons_succ, List.getElem_cons_zero, List.setIfInBounds_toArray, List.set_cons_zero, List.set_cons_succ]
      refine wpAnyU_one (i := 26) (by kernel_rfl) rfl (fun K hK => ?_)
      go_simp
      refine (impl_AreKnown_calls _ xs _ HXS.out HXZ.out).mono ?_
      rintro e wc26 ⟨rfl, hb_26⟩
      rw [← HBK.out]
      replace HX := Lib.hid (HX.out.below hb_26)
      replace HXS := Lib.hid (HXS.out.below hb_26)
      replace HS := Lib.hid (HS.out.below hb_26)
      replace HB := Lib.hid (HB.out.trans (hb_26.mono HB.out.size))
      refine hK.out _ _ ?_ (fun hH1_ => ?_)
      · exact ⟨hH_.1.below hb_26, hH_.2.below hb_26⟩
      clear hK K hH_
      have hH_ := hH1_
      clear hH1_
      refine wpAnyU_one (i := 28) (by kernel_rfl) rfl (fun K hK => ?_)
      go_simp
      refine (spec_AreKnown_calls _ xs _ HXS.out HXZ.out).mono ?_
      rintro e wc28 ⟨rfl, hb_28⟩
      rw [← HBK.out]
      replace HX := Lib.hid (HX.out.below hb_28)
      replace HXS := Lib.hid (HXS.out.below hb_28)
      replace HS := Lib.hid (HS.out.below hb_28)
      replace HB := Lib.hid (HB.out.trans (hb_28.mono HB.out.size))
      refine hK.out _ _ ?_ (fun hH1_ => ?_)
      · exact ⟨hH_.1.below hb_28, hH_.2.below hb_28⟩
      clear hK K hH_
      have hH_ := hH1_
      clear hH1_
      refine wpAnyU_take (i := 29) (v := ?_) rfl (by kernel_rfl) (by kernel_rfl) (by kernel_rfl) (by kernel_rfl) (fun _ _ _ h => h) (Or.inl ⟨by rfl, ?_⟩) hH_ ?_
      rotate_left
      · (intro w hSw; (try dsimp only at hSw); go_simp <;> with_reducible rfl)
      simp only [Act.put, List.getElem_toArray, List.getElem_cons_succ, List.getElem_cons_zero, List.setIfInBounds_toArray, List.set_cons_zero, List.set_cons_succ]
      refine wpAnyU_one' (i := 30) (by kernel_rfl) rfl (by kernel_rfl) (fun K hK => ?_)
      go_simp
      refine hK.out _ _ ?_
      clear hK K
      refine wpAnyU_one' (i := 31) (by kernel_rfl) rfl (by kernel_rfl) (fun K hK => ?_)
      go_simp
      refine hK.out _ _ ?_
      clear hK K
      refine wpAnyU_done (by kernel_rfl) ?_ _
      go_wp2
      go_ret
      exact ⟨rfl, HB.out⟩
    | false =>
      have HSV : Hid (safeB x = false) := by unfold Hid safeB; rw [hM]; rfl
      refine wp_region_U (fun wq => Blk wq w1.heap.size 29 #[.string x.Name, .slice (some ad) x.Code.length c] ∧ Blk wq w7.heap.size 51 #[.string s.Name, .slice D s.Methods.length d]) [0, 1, 2, 3, 4, 5, 6, 7, 8, 9, 10, 11, 12, 13, 14, 15, 16, 17, 18, 19, 20, 21, 22, 23, 24, 25, 26, 27, 28, 29, 30] (by kernel_rfl) ?_
      have hH_ := (⟨HK.out.drew, HKS.out.drew⟩ : (fun wq : World => Blk wq w1.heap.size 29 #[.string x.Name, .slice (some ad) x.Code.length c] ∧ Blk wq w7.heap.size 51 #[.string s.Name, .slice D s.Methods.length d]) w9.drew)
      refine wpAnyU_take (i := 0) (v := ?_) rfl (by kernel_rfl) (by kernel_rfl) (by kernel_rfl) (by kernel_rfl) (fun _ _ _ h => h) (Or.inl ⟨by rfl, ?_⟩) hH_ ?_
      rotate_left
      · (intro w hSw; (try dsimp only at hSw); (have hb_ := hSw.1; have e0 := hb_.cell 0; have e1 := hb_.cell 1; simp only [List.getElem?_toArray, List.getElem?_cons_zero, List.getElem?_cons_succ] at e0 e1; clear hb_ hSw; go_simp <;> with_reducible rfl))
      simp only [Act.put, List.getElem_toArray, List.getElem_cons_succ, List.getElem_cons_zero, List.setIfInBounds_toArray, List.set_cons_zero, List.set_cons_succ]
      refine wpAnyU_take (i := 2) (v := ?_) rfl (by kernel_rfl) (by kernel_rfl) (by kernel_rfl) (by kernel_rfl) (fun _ _ _ h => h) (Or.inl ⟨by rfl, ?_⟩) hH_ ?_
      rotate_left
      · (intro w hSw; (try dsimp only at hSw); (have hb_ := hSw.1; have e0 := hb_.cell 0; have e1 := hb_.cell 1; simp only [List.getElem?_toArray, List.getElem?_cons_zero, List.getElem?_cons_succ] at e0 e1; clear hb_ hSw; go_simp <;> with_reducible rfl))
      simp only [Act.put, List.getElem_toArray, List.getElem_cons_succ, List.getElem_cons_zero, List.setIfInBounds_toArray, List.set_cons_zero, List.set_cons_succ]
      refine wpAnyU_one (i := 1) (by kernel_rfl) rfl (fun K hK => ?_)
      go_simp
      refine (impl_IsSafe_calls _ x _ HX.out HSZ.out).mono ?_
      rintro e wc1 ⟨rfl, hb_1⟩
      rw [HSV.out]
      replace HX := Lib.hid (HX.out.below hb_1)
      replace HXS := Lib.hid (HXS.out.below hb_1)
      replace HS := Lib.hid (HS.out.below hb_1)
      replace HB := Lib.hid (HB.out.trans (hb_1.mono HB.out.size))
      refine hK.out _ _ ?_ (fun hH1_ => ?_)
      · exact ⟨hH_.1.below hb_1, hH_.2.below hb_1⟩
      clear hK K hH_
      have hH_ := hH1_
      clear hH1_
      refine wpAnyU_one (i := 3) (by kernel_rfl) rfl (fun K hK => ?_)
      go_simp
      refine (impl_IsMethod_calls _ x _ HX.out HSZ.out).mono ?_
      rintro e wc3 ⟨rfl, hb_3⟩
      rw [hM]
      replace HX := Lib.hid (HX.out.below hb_3)
      replace HXS := Lib.hid (HXS.out.below hb_3)
      replace HS := Lib.hid (HS.out.below hb_3)
      replace HB := Lib.hid (HB.out.trans (hb_3.mono HB.out.size))
      refine hK.out _ _ ?_ (fun hH1_ => ?_)
      · exact ⟨hH_.1.below hb_3, hH_.2.below hb_3⟩
      clear hK K hH_
      have hH_ := hH1_
      clear hH1_
      refine wpAnyU_take (i := 4) (v := ?_) rfl (by kernel_rfl) (by kernel_rfl) (by kernel_rfl) (by kernel_rfl) (fun _ _ _ h => h) (Or.inl ⟨by rfl, ?_⟩) hH_ ?_
      rotate_left
      · (intro w hSw; (try dsimp only at hSw); go_simp <;> with_reducible rfl)
      simp only [Act.put, List.getElem_toArray, List.getElem_cons_succ, List.getElem_cons_zero, List.setIfInBounds_toArray, List.set_cons_zero, List.set_cons_succ]
      refine wpAnyU_take (i := 5) (v := undef) rfl (by kernel_rfl) (by kernel_rfl) (by kernel_rfl) (by kernel_rfl) (fun _ _ _ h => h) (Or.inr ⟨by rfl, rfl⟩) hH_ ?_
      simp only [Act.put, List.getElem_toArray, List.getElem_cons_succ, List.getElem_cons_zero, List.setIfInBounds_toArray, List.set_cons_zero, List.set_cons_succ]
      refine wpAnyU_take (i := 6) (v := undef) rfl (by kernel_rfl) (by kernel_rfl) (by kernel_rfl) (by kernel_rfl) (fun _ _ _ h => h) (Or.inr ⟨by rfl, rfl⟩) hH_ ?_
      simp only [Act.put, List.getElem_toArray, List.getElem_cons_succ, List.getElem_cons_zero, List.setIfInBounds_toArray, List.set_cons_zero, List.set_cons_succ]
      refine wpAnyU_take (i := 7) (v := ?_) rfl (by kernel_rfl) (by kernel_rfl) (by kernel_rfl) (by kernel_rfl) (fun _ _ _ h => h) (Or.inl ⟨by rfl, ?_⟩) hH_ ?_
      rotate_left
      · (intro w hSw; (try dsimp only at hSw); go_simp <;> with_reducible rfl)
      simp only [Act.put, List.getElem_toArray, List.getElem_cons_succ, List.getElem_cons_zero, List.setIfInBounds_toArray, List.set_cons_zero, List.set_cons_succ]
      refine wpAnyU_take (i := 8) (v := ?_) rfl (by kernel_rfl) (by kernel_rfl) (by kernel_rfl) (by kernel_rfl) (fun _ _ _ h => h) (Or.inl ⟨by rfl, ?_⟩) hH_ ?_
      rotate_left
      · (intro w hSw; (try dsimp only at hSw); go_simp <;> with_reducible rfl)
      simp only [Act.put, List.getElem_toArray, List.getElem_cons_succ, List.getElem_cons_zero, List.setIfInBounds_toArray, List.set_cons_zero, List.set_cons_succ]
      refine wpAnyU_take (i := 9) (v := ?_) rfl (by kernel_rfl) (by kernel_rfl) (by kernel_rfl) (by kernel_rfl) (fun _ _ _ h => h) (Or.inl ⟨by rfl, ?_⟩) hH_ ?_
      rotate_left
      · (intro w hSw; (try dsimp only at hSw); go_simp <;> with_reducible rfl)
      simp only [Act.put, List.getElem_toArray, List.getElem_cons_succ, List.getElem_cons_zero, List.setIfInBounds_toArray, List.set_cons_zero, List.set_cons_succ]
      refine wpAnyU_take (i := 10) (v := ?_) rfl (by kernel_rfl) (by kernel_rfl) (by kernel_rfl) (by kernel_rfl) (fun _ _ _ h => h) (Or.inl ⟨by rfl, ?_⟩) hH_ ?_
      rotate_left
      · (intro w hSw; (try dsimp only at hSw); go_simp <;> with_reducible rfl)
      simp only [Act.put, List.getElem_toArray, List.getElem_cons_succ, List.getElem_cons_zero, List.setIfInBounds_toArray, List.set_cons_zero, List.set_cons_succ]
      refine wpAnyU_take (i := 12) (v := ?_) rfl (by kernel_rfl) (by kernel_rfl) (by kernel_rfl) (by kernel_rfl) (fun _ _ _ h => h) (Or.inl ⟨by rfl, ?_⟩) hH_ ?_
      rotate_left
      · (intro w hSw; (try dsimp only at hSw); go_simp <;> with_reducible rfl)
      simp only [Act.put, List.getElem_toArray, List.getElem_cons_succ, List.getElem_cons_zero, List.setIfInBounds_toArray, List.set_cons_zero, List.set_cons_succ]
      refine wpAnyU_one (i := 11) (by kernel_rfl) rfl (fun K hK => ?_)
      go_simp
      refine (impl_AreSafe_calls _ xs _ HXS.out (by have h := HXZ.out; omega)).mono ?_
      rintro e wc11 ⟨rfl, hb_11⟩
      rw [← HBS.out]
      replace HX := Lib.hid (HX.out.below hb_11)
      replace HXS := Lib.hid (HXS.out.below hb_11)
      replace HS := Lib.hid (HS.out.below hb_11)
      replace HB := Lib.hid (HB.out.trans (hb_11.mono HB.out.size))
      refine hK.out _ _ ?_ (fun hH1_ => ?_)
      · exact ⟨hH_.1.below hb_11, hH_.2.below hb_11⟩
      clear hK K hH_
      have hH_ := hH1_
      clear hH1_
      refine wpAnyU_one (i := 13) (by kernel_rfl) rfl (fun K hK => ?_)
      go_simp
      refine (spec_AreSafe_calls _ xs _ HXS.out (by have h := HXZ.out; omega)).mono ?_
      rintro e wc13 ⟨rfl, hb_13⟩
      rw [← HBS.out]
      replace HX := Lib.hid (HX.out.below hb_13)
      replace HXS := Lib.hid (HXS.out.below hb_13)
      replace HS := Lib.hid (HS.out.below hb_13)
      replace HB := Lib.hid (HB.out.trans (hb_13.mono HB.out.size))
      refine hK.out _ _ ?_ (fun hH1_ => ?_)
      · exact ⟨hH_.1.below hb_13, hH_.2.below hb_13⟩
      clear hK K hH_
      have hH_ := hH1_
      clear hH1_
      refine wpAnyU_take (i := 14) (v := ?_) rfl (by kernel_rfl) (by kernel_rfl) (by kernel_rfl) (by kernel_rfl) (fun _ _ _ h => h) (Or.inl ⟨by rfl, ?_⟩) hH_ ?_
      rotate_left
      · (intro w hSw; (try dsimp only at hSw); go_simp <;> with_reducible rfl)
      simp only [Act.put, List.getElem_toArray, List.getElem_cons_succ, List.getElem_cons_zero, List.setIfInBounds_toArray, List.set_cons_zero, List.set_cons_succ]
      refine wpAnyU_take (i := 15) (v := ?_) rfl (by kernel_rfl) (by kernel_rfl) (by kernel_rfl) (by kernel_rfl) (fun _ _ _ h => h) (Or.inl ⟨by rfl, ?_⟩) hH_ ?_
      rotate_left
      · (intro w hSw; (try dsimp only at hSw); go_simp <;> with_reducible rfl)
      simp only [Act.put, List.getElem_toArray, List.getElem_cons_succ, List.getElem_cons_zero, List.setIfInBounds_toArray, List.set_cons_zero, List.set_cons_succ]
      refine wpAnyU_take (i := 16) (v := ?_) rfl (by kernel_rfl) (by kernel_rfl) (by kernel_rfl) (by kernel_rfl) (fun _ _ _ h => h) (Or.inl ⟨by rfl, ?_⟩) hH_ ?_
      rotate_left
      · (intro w hSw; (try dsimp only at hSw); go_simp <;> with_reducible rfl)
      simp only [Act.put, List.getElem_toArray, List.getElem_cons_succ, List.getElem_cons_zero, List.setIfInBounds_toArray, List.set_cons_zero, List.set_cons_succ]
      refine wpAnyU_take (i := 17) (v := ?_) rfl (by kernel_rfl) (by kernel_rfl) (by kernel_rfl) (by kernel_rfl) (fun _ _ _ h => h) (Or.inl ⟨by rfl, ?_⟩) hH_ ?_
      rotate_left
      · (intro w hSw; (try dsimp only at hSw); go_simp <;> with_reducible rfl)
      simp only [Act.put, List.getElem_toArray, List.getElem_cons_succ, List.getElem_cons_zero, List.setIfInBounds_toArray, List.set_cons_zero, List.set_cons_succ]
      refine wpAnyU_take (i := 18) (v := ?_) rfl (by kernel_rfl) (by kernel_rfl) (by kernel_rfl) (by kernel_rfl) (fun _ _ _ h => h) (Or.inl ⟨by rfl, ?_⟩) hH_ ?_
      rotate_left
      · (intro w hSw; (try dsimp only at hSw); go_simp <;> with_reducible rfl)
      simp only [Act.put, List.getElem_toArray, List.getElem_cons_succ, List.getElem_cons_zero, List.setIfInBounds_toArray, List.set_cons_zero, List.set_cons_succ]
      refine wpAnyU_take (i := 19) (v := ?_) rfl (by kernel_rfl) (by kernel_rfl) (by kernel_rfl) (by kernel_rfl) (fun _ _ _ h => h) (Or.inl ⟨by rfl, ?_⟩) hH_ ?_
      rotate_left
      · (intro w hSw; (try dsimp only at hSw); (have hb_ := hSw.2; have e0 := hb_.cell 0; have e1 := hb_.cell 1; simp only [List.getElem?_toArray, List.getElem?_cons_zero, List.getElem?_cons_succ] at e0 e1; clear hb_ hSw; go_simp <;> with_reducible rfl))
      simp only [Act.put, List.getElem_toArray, List.getElem_cons_succ, List.getElem_cons_zero, List.setIfInBounds_toArray, List.set_cons_zero, List.set_cons_succ]
      refine wpAnyU_one (i := 20) (by kernel_rfl) rfl (fun K hK => ?_)
      go_simp
      refine (spec_MadeBy_calls _ s _ HS.out HSS.out).mono ?_
      rintro e wc20 ⟨vn2, rfl, hn2, hb_20⟩
      obtain ⟨An2, cn2, rfl, -⟩ := hn2.slice
      clear hn2
      replace HX := Lib.hid (HX.out.below hb_20)
      replace HXS := Lib.hid (HXS.out.below hb_20)
      replace HS := Lib.hid (HS.out.below hb_20)
      replace HB := Lib.hid (HB.out.trans (hb_20.mono HB.out.size))
      refine hK.out _ _ ?_ (fun hH1_ => ?_)
      · exact ⟨hH_.1.below hb_20, hH_.2.below hb_20⟩
      clear hK K hH_
      have hH_ := hH1_
      clear hH1_
      refine wpAnyU_take (i := 21) (v := ?_) rfl (by kernel_rfl) (by kernel_rfl) (by kernel_rfl) (by kernel_rfl) (fun _ _ _ h => h) (Or.inl ⟨by rfl, ?_⟩) hH_ ?_
      rotate_left
      · (intro w hSw; (try dsimp only at hSw); go_simp <;> with_reducible rfl)
      simp only [Act.put, List.getElem_toArray, List.getElem_cons_succ, List.getElem_cons_zero, List.setIfInBounds_toArray, List.set_cons_zero, List.set_cons_succ]
      refine wpAnyU_take (i := 22) (v := ?_) rfl (by kernel_rfl) (by kernel_rfl) (by kernel_rfl) (by kernel_rfl) (fun _ _ _ h => h) (Or.inl ⟨by rfl, ?_⟩) hH_ ?_
      rotate_left
      · (intro w hSw; (try dsimp only at hSw); go_simp <;> with_reducible rfl)
      simp only [Act.put, List.getElem_toArray, List.getElem_cons_succ, List.getElem_cons_zero, List.setIfInBounds_toArray, List.set_cons_zero, List.set_cons_succ]
      refine wpAnyU_take (i := 23) (v := ?_) rfl (by kernel_rfl) (by kernel_rfl) (by kernel_rfl) (by kernel_rfl) (fun _ _ _ h => h) (Or.inl ⟨by rfl, ?_⟩) hH_ ?_
      rotate_left
      · (intro w hSw; (try dsimp only at hSw); go_simp <;> with_reducible rfl)
      simp only [Act.put, List.getElem_toArray, List.getElem_cons_succ, List.getElem_cons_zero, List.setIfInBounds_toArray, List.set_cons_zero, List.set_cons_succ]
      refine wpAnyU_take (i := 24) (v := ?_) rfl (by kernel_rfl) (by kernel_rfl) (by kernel_rfl) (by kernel_rfl) (fun _ _ _ h => h) (Or.inl ⟨by rfl, ?_⟩) hH_ ?_
      rotate_left
      · (intro w hSw; (try dsimp only at hSw); go_simp <;> with_reducible rfl)
      simp only [Act.put, List.getElem_toArray, List.getElem_cons_succ, List.getElem_cons_zero, List.setIfInBounds_toArray, List.set_cons_zero, List.set_cons_succ]
      refine wpAnyU_take (i := 25) (v := ?_) rfl (by kernel_rfl) (by kernel_rfl) (by kernel_rfl) (by kernel_rfl) (fun _ _ _ h => h) (Or.inl ⟨by rfl, ?_⟩) hH_ ?_
      rotate_left
      · (intro w hSw; (try dsimp only at hSw); go_simp <;> with_reducible rfl)
      simp only [Act.put, List.getElem_toArray, List.getElem_cons_succ, List.getElem_cons_zero, List.setIfInBounds_toArray, List.set_cons_zero, List.set_cons_succ]
      refine wpAnyU_take (i := 27) (v := ?_) rfl (by kernel_rfl) (by kernel_rfl) (by kernel_rfl) (by kernel_rfl) (fun _ _ _ h => h) (Or.inl ⟨by rfl, ?_⟩) hH_ ?_
      rotate_left
      · (intro w hSw; (try dsimp only at hSw); go_simp <;> with_reducible rfl)
      simp only [Act.put, List.getElem_toArray, List.getElem_cons_succ, List.getElem_cons_zero, List.setIfInBounds_toArray, List.set_cons_zero, List.set_cons_succ]
      refine wpAnyU_one (i := 26) (by kernel_rfl) rfl (fun K hK => ?_)
      go_simp
      refine (impl_AreKnown_calls _ xs _ HXS.out HXZ.out).mono ?_
      rintro e wc26 ⟨rfl, hb_26⟩
      rw [← HBK.out]
      replace HX := Lib.hid (HX.out.below hb_26)
      replace HXS := Lib.hid (HXS.out.below hb_26)
      replace HS := Lib.hid (HS.out.below hb_26)
      replace HB := Lib.hid (HB.out.trans (hb_26.mono HB.out.size))
      refine hK.out _ _ ?_ (fun hH1_ => ?_)
      · exact ⟨hH_.1.below hb_26, hH_.2.below hb_26⟩
      clear hK K hH_
      have hH_ := hH1_
      clear hH1_
      refine wpAnyU_one (i := 28) (by kernel_rfl) rfl (fun K hK => ?_)
      go_simp
      refine (spec_AreKnown_calls _ xs _ HXS.out HXZ.out).mono ?_
      rintro e wc28 ⟨rfl, hb_28⟩
      rw [← HBK.out]
      replace HX := Lib.hid (HX.out.below hb_28)
      replace HXS := Lib.hid (HXS.out.below hb_28)
      replace HS := Lib.hid (HS.out.below hb_28)
      replace HB := Lib.hid (HB.out.trans (hb_28.mono HB.out.size))
      refine hK.out _ _ ?_ (fun hH1_ => ?_)
      · exact ⟨hH_.1.below hb_28, hH_.2.below hb_28⟩
      clear hK K hH_
      have hH_ := hH1_
      clear hH1_
      refine wpAnyU_take (i := 29) (v := ?_) rfl (by kernel_rfl) (by kernel_rfl) (by kernel_rfl) (by kernel_rfl) (fun _ _ _ h => h) (Or.inl ⟨by rfl, ?_⟩) hH_ ?_
      rotate_left
      · (intro w hSw; (try dsimp only at hSw); go_simp <;> with_reducible rfl)
      simp only [Act.put, List.getElem_toArray, List.getElem_cons_succ, List.getElem_cons_zero, List.setIfInBounds_toArray, List.set_cons_zero, List.set_cons_succ]
      refine wpAnyU_one' (i := 30) (by kernel_rfl) rfl (by kernel_rfl) (fun K hK => ?_)
      go_simp
      refine hK.out _ _ ?_
      clear hK K
      refine wpAnyU_one' (i := 31) (by kernel_rfl) rfl (by kernel_rfl) (fun K hK => ?_)
      go_simp
      refine hK.out _ _ ?_
      clear hK K
      refine wpAnyU_done (by kernel_rfl) ?_ _
      go_wp2
      go_ret
      exact ⟨rfl, HB.out⟩

end Go.Proofs.Ytiohoeafdaihpaa
