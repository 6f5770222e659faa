import Derived.Test.YtaalbbhebmpppaaProg
import Derived.Test.YtaalbbhebmpppaaTypes
import Derived.StillTailTactics
import Derived.Deep.RegionHeld3
import Derived.Laws.IdiomStrings
import Derived.Test.YtaalbbhebmpppaaAppend
import Derived.Laws.StructEq
import Derived.Lib.SliceRun
import Derived.Shelf.RegionOpenPlain
import Derived.Test.YtaalbbhebmpppaaPureEntity
import Derived.Test.YtaalbbhebmpppaaSlicesE
import Derived.Test.YtaalbbhebmpppaaCommon
namespace Go.Proofs.Ytaalbbhebmpppaa
open Go.RowKit
set_option linter.unusedVariables false
set_option linter.unusedSimpArgs false

set_option maxHeartbeats 400000 in
theorem spec_NewPromise_calls (w : World) :
    Calls Try.prog 71 #[] w fun e w' => ∃ us', e = .returned (.agg us'.toArray) ∧ RdLW w' (eEntity newPromise) us' ∧ Below w.heap.size w w' := by
  go_enter Try.func71, Try.ntmps71
  go_wp2
  refine bodyPost_ret (v := .agg #[.int .i64 2, .int .i64 0, .slice none 0 0, .int .i64 1, .int .i64 0, .int .i64 0, .slice none 0 0, .slice none 0 0, .int .i64 0, .int .i64 0, .int .i64 0, .int .i64 0]) (by simp [results, Try.results71, go_sem]) rfl ⟨_, rfl, mkrd_eEntity (x := newPromise) (rd_none _) (rd_none _) (rd_none _), ?_⟩
  exact (Below.refl _ _).alloc (Nat.le_refl _) _
set_option maxHeartbeats 400000 in
theorem impl_NewPromise_calls (w : World) :
    Calls Try.prog 24 #[] w fun e w' => ∃ us' fp, e = .returned (.agg us'.toArray) ∧ OwnL w' (eEntity newPromise) us' fp ∧ Fresh w fp ∧ Below w.heap.size w w' := by
  go_enter Try.func24, Try.ntmps24
  go_wp2
  refine bodyPost_ret (v := .agg #[.int .i64 2, .int .i64 0, .slice none 0 0, .int .i64 1, .int .i64 0, .int .i64 0, .slice none 0 0, .slice none 0 0, .int .i64 0, .int .i64 0, .int .i64 0, .int .i64 0]) (by simp [results, Try.results24, go_sem]) rfl ⟨_, [], rfl, mkown_eEntity (x := newPromise) (f2 := []) (f6 := []) (f7 := []) (own_none _) (own_none _) (own_none _), Fresh.nil _, ?_⟩
  exact (Below.refl _ _).alloc (Nat.le_refl _) _
set_option maxHeartbeats 400000 in
theorem spec_NewProxy_calls (a b : Int) (w : World) (hi : I64 a) (hj : I64 b) :
    Calls Try.prog 70 #[.int .i64 a, .int .i64 b] w fun e w' => ∃ us', e = .returned (.agg us'.toArray) ∧ RdLW w' (eEntity (newProxy a b)) us' ∧ Below w.heap.size w w' := by
  go_enter Try.func70, Try.ntmps70
  go_wp2
  refine bodyPost_ret (v := .agg #[.int .i64 3, .int .i64 0, .slice none 0 0, .int .i64 0, .int .i64 0, .int .i64 0, .slice none 0 0, .slice none 0 0, .int .i64 a, .int .i64 b, .int .i64 1, .int .i64 0]) (by simp [results, Try.results70, go_sem]) rfl ⟨_, rfl, mkrd_eEntity (x := newProxy a b) (rd_none _) (rd_none _) (rd_none _), ?_⟩
  exact (Below.refl _ _).alloc (Nat.le_refl _) _
set_option maxHeartbeats 800000 in
theorem impl_SlotOf_calls (us : List Value) (x : GEntity) (i : Int) (w : World) (hr : RdLW w (eEntity x) us) (hz : sizL (eEntity x) ≤ 1048576) (hi : I64 i) :
    Calls Try.prog 19 #[.agg us.toArray, .int .i64 i] w fun e w' => ∃ us' fp, e = .returned (.agg us'.toArray) ∧ OwnL w' (eValue (slotOf x i)) us' fp ∧ Fresh w fp ∧ Below w.heap.size w w' := by
  obtain ⟨v2, v6, v7, rfl, h2, h6, h7⟩ := rd_eEntity hr
  obtain ⟨A, c, rfl, ⟨_, _, hl⟩⟩ := h2.slice
  have HR := Lib.hid h2
  clear hr h2 h6 h7
  by_cases hin : 0 ≤ i ∧ i ≤ (x.Slots.length : Int) - 1
  · obtain ⟨y, hy⟩ : ∃ y, x.Slots[i.toNat]? = some y := ⟨x.Slots[i.toNat]'(by omega), List.getElem?_eq_getElem _⟩
    obtain ⟨j, rfl⟩ : ∃ j : Nat, i = j := ⟨i.toNat, by omega⟩
    rw [Int.toNat_natCast] at hy
    have hj : j < x.Slots.length := by omega
    have HE : Hid (slotOf x j = y) := by unfold Hid slotOf; rw [if_pos hin, Int.toNat_natCast, hy]; rfl
    have HI : Hid (inR j 0 ((x.Slots.length : Int) - 1) = true) := by unfold Hid inR; simp [hin]
    obtain ⟨ad, rfl, hab, h0, h1⟩ := row_eValue HR.out hy
    have hab' : (ad.add (j * 2)).block < w.heap.size := by rw [block_of_add]; exact hab
    clear hy hin
    go_enter Try.func19, Try.ntmps19
    go_wp2_with fail
    refine (impl_in_calls _ _ _ _).mono ?_
    rintro e w1 ⟨rfl, rfl⟩
    rw [HI.out]
    go_wp2
    refine bodyPost_ret (v := .agg #[.int .i64 y.Kind, .int .i64 y.N]) (by simp [results, Try.results19, go_sem]) rfl ⟨_, [], rfl, by rw [HE.out]; exact mkown_eValue, Fresh.nil _, ?_⟩
    exact ((Below.refl _ _).alloc (Nat.le_refl _) _).alloc (by simp) _
  · have HE : Hid (slotOf x i = zValue) := by unfold Hid slotOf; rw [if_neg hin]
    have HI : Hid (inR i 0 ((x.Slots.length : Int) - 1) = false) := by unfold Hid inR; simp; omega
    clear hin
    go_enter Try.func19, Try.ntmps19
    go_wp2_with fail
    refine (impl_in_calls _ _ _ _).mono ?_
    rintro e w1 ⟨rfl, rfl⟩
    rw [HI.out]
    go_wp2_with fail
    refine (impl_IntValue0_calls _).mono ?_
    rintro e w1 ⟨rfl, hb1⟩
    have hbb := Lib.hid ((((Below.refl w.heap.size w).alloc (Nat.le_refl _) _).alloc (by simp) _).trans (hb1.mono (by simp only [size_alloc]; omega)))
    have hk := Lib.hid ((Blk.made (w := w.alloc _) (g := w.heap.size + 1) (t := 33) (by simp)).below hb1)
    obtain ⟨k0, k1⟩ := hk.out.rules
    have hlt := hk.out.lt
    clear hb1
    go_wp2
    refine post_cell (w0 := w1) (fun g => g = w.heap.size + 1) Try.results19 (w.heap.size + 1) #[.int .i64 0, .int .i64 0] _ rfl (Blk.eq ((hk.out.set_ 0 _).set_ 1 _) (by simp)) Try.underlying33 rfl (by kernel_rfl) rfl (((Chg.refl (· = w.heap.size + 1) _).setCell (p := ⟨w.heap.size + 1, 0, none⟩) (.inl rfl) _).setCell (p := ⟨w.heap.size + 1, 1, none⟩) (.inl rfl) _) ?_
    intro W hW
    exact ⟨_, [], rfl, by rw [HE.out]; exact mkown_eValue (x := zValue), Fresh.nil _, below_chg hbb.out hW hbb.out.size (fun i hi => by omega)⟩
set_option maxHeartbeats 1600000 in
set_option maxRecDepth 100000 in
theorem spec_NewObject_calls (s : Int) (v : Value) (xs : List GValue) (w : World) (hr : RdW w (.s xs.length (xs.flatMap eValue)) v) (hz : xs.length + sizL (xs.flatMap eValue) ≤ 1048576) (hi : I64 s) :
    Calls Try.prog 69 #[.int .i64 s, v] w fun e w' => ∃ us', e = .returned (.agg us'.toArray) ∧ RdLW w' (eEntity (newObject s xs)) us' ∧ Below w.heap.size w w' := by
  obtain ⟨A, c, rfl, ⟨_, _, hl⟩⟩ := hr.slice
  have HR := Lib.hid hr
  clear hr
  have hz1 : xs.length ≤ 1048576 := by omega
  go_enter Try.func69, Try.ntmps69
  go_wp2_with (at_builtin; refine wpList_copy_rd rfl _ _ 32 rfl (w.heap.size + 1) 33 _ _ 2 16 Try.underlying32 rfl rfl rfl rfl rfl (by omega) _ rfl (ownsRow_made' (by simp) (by simp)) vals_eValue xs (one_eValue xs) (lenv_eValue xs) _ _ rfl ((HR.out.alloc _).alloc _) (by omega) (by omega) (by simp) ?_)
  intro A' c' w1 hown hgrow
  have HK := Lib.hid (((Blk.new w 37 #[.int .i64 0, .int .i64 0, .slice none 0 0, .int .i64 0, .int .i64 0, .int .i64 0, .slice none 0 0, .slice none 0 0, .int .i64 0, .int .i64 0, .int .i64 0, .int .i64 0]).alloc _).chg (grown_chg hgrow) (by simp [Value.ownBlock]))
  have HB := Lib.hid ((((Below.refl w.heap.size w).alloc (Nat.le_refl _) _).alloc (by simp) _).trans (grown_below hgrow (by simp; omega) (by intro k hk; simp [Value.ownBlock] at hk; omega)))
  have HO := Lib.hid hown
  obtain ⟨k0, k1⟩ := HK.out.rules
  have kl := HK.out.lt
  clear hown hgrow
  go_wp2
  refine post_cell (w0 := w1) (fun g => g = w.heap.size) Try.results69 w.heap.size #[.int .i64 1, .int .i64 s, .slice A' xs.length c', .int .i64 0, .int .i64 0, .int .i64 0, .slice none 0 0, .slice none 0 0, .int .i64 0, .int .i64 0, .int .i64 0, .int .i64 0] _ rfl (Blk.eq ((((((((((((HK.out.set_ 0 _).set_ 1 _).set_ 2 _).set_ 3 _).set_ 4 _).set_ 5 _).set_ 6 _).set_ 7 _).set_ 8 _).set_ 9 _).set_ 10 _).set_ 11 _) (by simp)) Try.underlying37 rfl (by kernel_rfl) rfl (((((((((((((Chg.refl (· = w.heap.size) _).setCell (p := ⟨w.heap.size, 0, none⟩) (.inl rfl) _).setCell (p := ⟨w.heap.size, 1, none⟩) (.inl rfl) _).setCell (p := ⟨w.heap.size, 2, none⟩) (.inl rfl) _).setCell (p := ⟨w.heap.size, 3, none⟩) (.inl rfl) _).setCell (p := ⟨w.heap.size, 4, none⟩) (.inl rfl) _).setCell (p := ⟨w.heap.size, 5, none⟩) (.inl rfl) _).setCell (p := ⟨w.heap.size, 6, none⟩) (.inl rfl) _).setCell (p := ⟨w.heap.size, 7, none⟩) (.inl rfl) _).setCell (p := ⟨w.heap.size, 8, none⟩) (.inl rfl) _).setCell (p := ⟨w.heap.size, 9, none⟩) (.inl rfl) _).setCell (p := ⟨w.heap.size, 10, none⟩) (.inl rfl) _).setCell (p := ⟨w.heap.size, 11, none⟩) (.inl rfl) _) ?_
  intro W hW
  have hl := xs.length
  obtain ⟨fp, ho, hn, hge⟩ := ownRow_own vals_eValue HO.out (by omega)
  have ho' := ho.chg hW (fun k hk e => by have := hge k hk; omega)
  exact ⟨_, rfl, mkrd_eEntity (x := newObject s xs) ho'.rdw (rd_none _) (rd_none _), below_chg HB.out hW HB.out.size (fun i hi => by omega)⟩
set_option maxHeartbeats 1600000 in
set_option maxRecDepth 100000 in
theorem impl_NewObject_calls (s : Int) (v : Value) (xs : List GValue) (w : World) (hr : RdW w (.s xs.length (xs.flatMap eValue)) v) (hz : xs.length + sizL (xs.flatMap eValue) ≤ 1048576) (hi : I64 s) :
    Calls Try.prog 18 #[.int .i64 s, v] w fun e w' => ∃ us' fp, e = .returned (.agg us'.toArray) ∧ OwnL w' (eEntity (newObject s xs)) us' fp ∧ Fresh w fp ∧ Below w.heap.size w w' := by
  obtain ⟨A, c, rfl, ⟨_, _, hl⟩⟩ := hr.slice
  have HR := Lib.hid hr
  clear hr
  have hz1 : xs.length ≤ 1048576 := by omega
  go_enter Try.func18, Try.ntmps18
  go_wp2_with fail
  refine (slices_Clone_Value_row _ xs _ (HR.out.alloc _) hz1).mono ?_
  rintro e w1 ⟨A', c', rfl, ho, hb1⟩
  have HK := Lib.hid ((Blk.new w 37 #[.int .i64 0, .int .i64 0, .slice none 0 0, .int .i64 0, .int .i64 0, .int .i64 0, .slice none 0 0, .slice none 0 0, .int .i64 0, .int .i64 0, .int .i64 0, .int .i64 0]).below hb1)
  have HB := Lib.hid (((Below.refl w.heap.size w).alloc (Nat.le_refl _) _).trans (hb1.mono (by simp only [size_alloc]; omega)))
  have HO : Hid (w1.ownsRow (w.heap.size + 1) 33 2 (.slice A' xs.length c') xs.length (xs.flatMap vsValue)) := by
    unfold Hid; simpa only [size_alloc] using ho
  obtain ⟨k0, k1⟩ := HK.out.rules
  have kl := HK.out.lt
  clear ho hb1
  go_wp2
  refine post_cell (w0 := w1) (fun g => g = w.heap.size) Try.results18 w.heap.size #[.int .i64 1, .int .i64 s, .slice A' xs.length c', .int .i64 0, .int .i64 0, .int .i64 0, .slice none 0 0, .slice none 0 0, .int .i64 0, .int .i64 0, .int .i64 0, .int .i64 0] _ rfl (Blk.eq ((((((((((((HK.out.set_ 0 _).set_ 1 _).set_ 2 _).set_ 3 _).set_ 4 _).set_ 5 _).set_ 6 _).set_ 7 _).set_ 8 _).set_ 9 _).set_ 10 _).set_ 11 _) (by simp)) Try.underlying37 rfl (by kernel_rfl) rfl (((((((((((((Chg.refl (· = w.heap.size) _).setCell (p := ⟨w.heap.size, 0, none⟩) (.inl rfl) _).setCell (p := ⟨w.heap.size, 1, none⟩) (.inl rfl) _).setCell (p := ⟨w.heap.size, 2, none⟩) (.inl rfl) _).setCell (p := ⟨w.heap.size, 3, none⟩) (.inl rfl) _).setCell (p := ⟨w.heap.size, 4, none⟩) (.inl rfl) _).setCell (p := ⟨w.heap.size, 5, none⟩) (.inl rfl) _).setCell (p := ⟨w.heap.size, 6, none⟩) (.inl rfl) _).setCell (p := ⟨w.heap.size, 7, none⟩) (.inl rfl) _).setCell (p := ⟨w.heap.size, 8, none⟩) (.inl rfl) _).setCell (p := ⟨w.heap.size, 9, none⟩) (.inl rfl) _).setCell (p := ⟨w.heap.size, 10, none⟩) (.inl rfl) _).setCell (p := ⟨w.heap.size, 11, none⟩) (.inl rfl) _) ?_
  intro W hW
  have hl := xs.length
  obtain ⟨fp, ho, hn, hge⟩ := ownRow_own vals_eValue HO.out (by omega)
  have ho' := ho.chg hW (fun k hk e => by have := hge k hk; omega)
  exact ⟨_, _, rfl, mkown_eEntity (x := newObject s xs) (f6 := []) (f7 := []) ho' (own_none _) (own_none _), ⟨by simpa using hn, fun k hk => by have := hge k (by simpa using hk); omega⟩, below_chg HB.out hW HB.out.size (fun i hi => by omega)⟩
end Go.Proofs.Ytaalbbhebmpppaa
