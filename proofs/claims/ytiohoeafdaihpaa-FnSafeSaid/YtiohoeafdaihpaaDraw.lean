import Derived.Test.YtiohoeafdaihpaaProg
import Derived.Test.YtiohoeafdaihpaaTypes
import Derived.StillTailTactics
import Derived.Laws.BitsLemmas
import Derived.Deep.RegionHeld
import Derived.Deep.RegionHeld3
import Derived.Laws.IdiomStrings
import Derived.Test.YtiohoeafdaihpaaAppend
import Derived.Laws.StructEq
import Derived.Lib.SliceRun
import Derived.Shelf.RegionOpenPlain
import Derived.Test.YtiohoeafdaihpaaCommon
namespace Go.Proofs.Ytiohoeafdaihpaa
open Go.RowKit
set_option linter.unusedVariables false
set_option linter.unusedSimpArgs false

theorem bits_and_255 (n : Int) : 0 ≤ bits .and .i64 n 255 ∧ bits .and .i64 n 255 < 256 := by
  have h127 : (BitVec.ofInt 64 255).toNat = 2 ^ 8 - 1 := by decide
  have key : (BitVec.ofInt 64 n &&& BitVec.ofInt 64 255).toNat = (n % ((2 ^ 64 : Nat) : Int)).toNat % 2 ^ 8 := by
    rw [BitVec.toNat_and, BitVec.toNat_ofInt, h127, Nat.and_two_pow_sub_one_eq_mod]
  have e : bits .and .i64 n 255 = n % 256 := by
    show IntKind.i64.wrap ((BitVec.ofInt 64 n &&& BitVec.ofInt 64 255).toNat : Nat) = n % 256
    rw [key, IntKind.wrap_i64]
    omega
  rw [e]
  omega
theorem rdW_lit {α : Type} {en : α → List Lf} {vs : α → List Value} (hvals : ∀ x, en x = (vs x).map Lf.v) (w : World) (xs : List α) (t : TypeId) (hl : xs.length ≤ 140737488355328) :
    RdW (w.alloc (.cells (xs.flatMap vs).toArray t)) (.s xs.length (xs.flatMap en)) (.slice (some ⟨w.heap.size, 0, none⟩) xs.length xs.length) := by
  have e : ∀ l : List α, l.flatMap en = (l.flatMap vs).map Lf.v := by
    intro l
    induction l with
    | nil => rfl
    | cons a l ih => rw [List.flatMap_cons, List.flatMap_cons, ih, hvals, List.map_append]
  rw [RdW, Rd]
  refine ⟨_, _, rfl, ⟨Nat.le_refl _, by omega, hl⟩, .inr ⟨_, xs.flatMap vs, rfl, by simp, fun k u hk => ?_, ?_⟩⟩
  · rw [add_zero_own, (Blk.new w t (xs.flatMap vs).toArray).cell k]; simpa using hk
  · rw [e]
    exact rdL_plain _ _ _
theorem Chg.then_ {T T' : Nat → Prop} {a b c : World} (h : Chg T a b) (k : Chg T' b c) (hT : ∀ i, i < a.heap.size → T' i → T i) : Chg T a c :=
  ⟨k.os.trans h.os, k.tape.trans h.tape, k.output.trans h.output, Nat.le_trans h.size k.size, fun i hi hn => (k.block i (Nat.lt_of_lt_of_le hi h.size) (fun ht => hn (hT i hi ht))).trans (h.block i hi hn)⟩
/-- the cursor of a draw, in block g, above W0 -/
def Cur (W0 : World) (g : Nat) (w : World) : Prop :=
  ∃ (b : List UInt8) (A : Option Addr) (c i : Nat) (h : Int), W0.heap.size ≤ g ∧ Below W0.heap.size W0 w ∧ RdW W0 (.s b.length (b.flatMap eByte)) (.slice A b.length c) ∧ b.length ≤ 1048576 ∧ i ≤ b.length ∧ Blk w g 100 #[.slice A b.length c, .int .i64 i, .int .i64 h]
theorem Chg.cell {T : Nat → Prop} {w w' : World} (h : Chg T w w') {p : Addr} (hp : p.block < w.heap.size) (hT : ¬ T p.block) : w'.cell? p = w.cell? p := World.cell?_of_block (w := w) (h.block p.block hp hT)
theorem Cur.ge {W0 : World} {g : Nat} {w : World} (h : Cur W0 g w) : W0.heap.size ≤ g := by obtain ⟨_, _, _, _, _, h, _⟩ := h; exact h
theorem Cur.base {W0 : World} {g : Nat} {w : World} (h : Cur W0 g w) : Below W0.heap.size W0 w := by obtain ⟨_, _, _, _, _, _, h, _⟩ := h; exact h
theorem Cur.lt {W0 : World} {g : Nat} {w : World} (h : Cur W0 g w) : g < w.heap.size := by obtain ⟨_, _, _, _, _, _, _, _, _, _, h⟩ := h; exact h.lt
theorem Cur.below {W0 : World} {g : Nat} {w w' : World} (h : Cur W0 g w) (hb : Below w.heap.size w w') : Cur W0 g w' := by
  obtain ⟨b, A, c, i, x, h1, h2, h3, h4, h5, h6⟩ := h
  exact ⟨b, A, c, i, x, h1, h2.trans (hb.mono h2.size), h3, h4, h5, h6.below hb⟩
theorem Cur.chg {W0 : World} {g : Nat} {w w' : World} {T : Nat → Prop} (h : Cur W0 g w) (hc : Chg T w w') (hT : ∀ k, T k → W0.heap.size ≤ k) (hg : ¬ T g) : Cur W0 g w' := by
  obtain ⟨b, A, c, i, x, h1, h2, h3, h4, h5, h6⟩ := h
  exact ⟨b, A, c, i, x, h1, below_chg h2 hc h2.size hT, h3, h4, h5, h6.chg hc hg⟩
set_option maxHeartbeats 1600000 in
set_option maxRecDepth 100000 in
theorem spec_l1New_calls (v : Value) (b : List UInt8) (w : World) (hr : RdW w (.s b.length (b.flatMap eByte)) v) (hz : b.length ≤ 1048576) :
    Calls Try.prog 38 #[v] w fun e w' => e = .returned (.pointer (some ⟨w.heap.size, 0, none⟩)) ∧ Cur w w.heap.size w' ∧ Below w.heap.size w w' := by
  obtain ⟨A, c, rfl, ⟨_, _, hl⟩⟩ := hr.slice
  have HR := Lib.hid hr
  clear hr
  go_enter Try.func38, Try.ntmps38
  go_wp2
  go_loopw [3, 4] (fun a b_ wr => ∃ (h : Int) (i : Nat), i ≤ b.length ∧ a = .int .i64 h ∧ b_ = .int .i64 i ∧ Hid (wr = w)) (fun a b_ wr => b.length - (intOf b_).toNat)
  case atStart => exact ⟨_, 0, by omega, rfl, rfl, rfl⟩
  case round =>
    obtain ⟨h, i, hi, rfl, rfl, HW⟩ := hrel
    have hw : w = wr := HW.out.symm
    subst hw
    by_cases hlt : i < b.length
    · by_cases h4 : i < 4000
      · obtain ⟨x, hx⟩ : ∃ x, b[i]? = some x := ⟨b[i], List.getElem?_eq_getElem hlt⟩
        obtain ⟨ad, rfl, hab, h0⟩ := row_eByte HR.out hx
        have hab' : (ad.add i).block < w.heap.size := by rw [block_of_add]; exact hab
        clear hx
        go_wp2
        go_roundw
        case rel => exact ⟨_, i + 1, by omega, rfl, by go_num, trivial⟩
        case measure => simp [intOf]; omega
      · go_wp2
        go_ret
        exact ⟨rfl, ⟨b, A, c, 0, h, Nat.le_refl _, (Below.refl _ _).alloc (Nat.le_refl _) _, HR.out, hz, by omega, Blk.new _ _ _⟩, (Below.refl _ _).alloc (Nat.le_refl _) _⟩
    · go_wp2
      go_ret
      exact ⟨rfl, ⟨b, A, c, 0, h, Nat.le_refl _, (Below.refl _ _).alloc (Nat.le_refl _) _, HR.out, hz, by omega, Blk.new _ _ _⟩, (Below.refl _ _).alloc (Nat.le_refl _) _⟩
set_option maxHeartbeats 1600000 in
set_option maxRecDepth 100000 in
theorem spec_l1Byte_calls (W0 : World) (g : Nat) (w : World) (hC : Cur W0 g w) :
    Calls Try.prog 103 #[.pointer (some ⟨g, 0, none⟩)] w fun e w' => ∃ n : Int, 0 ≤ n ∧ n < 256 ∧ e = .returned (.int .i64 n) ∧ Cur W0 g w' ∧ Chg (· = g) w w' := by
  obtain ⟨b, A, c, i, h, hge, hB, hr, hz, hi, hk⟩ := hC
  have HB := Lib.hid hB
  have HR := Lib.hid hr
  have HK := Lib.hid hk
  obtain ⟨A', c', e, ⟨hcl, hcm, hl⟩⟩ := hr.slice
  injection e with e1 _ e2
  subst e1; subst e2
  obtain ⟨k0, f0⟩ := HK.out.rules
  have l0 := HK.out.lt
  clear hB hr hk
  go_enter Try.func103, Try.ntmps103
  by_cases hlt : i < b.length
  · obtain ⟨x, hx⟩ : ∃ x, b[i]? = some x := ⟨b[i], List.getElem?_eq_getElem hlt⟩
    obtain ⟨ad, rfl, hab, h0⟩ := row_eByte HR.out hx
    have hne : g ≠ (ad.add i).block := by rw [block_of_add]; have := hge; omega
    have h0' : w.cell? (ad.add i) = some (.int .u8 x.toNat) := by
      rw [← h0]; exact HB.out.cell (by rw [block_of_add]; exact hab)
    have hfar : ∀ v, (w.setCell ⟨g, 2, none⟩ v).cell? (ad.add i) = some (.int .u8 x.toNat) := fun v => by
      rw [World.cell?_setCell_far _ _ _ _ hne]; exact h0'
    clear h0 h0' hx
    go_wp2
    go_quiet (fail)
    go_wp2
    go_quiet (fail)
    go_wp2
    go_quiet (fail)
    go_wp2
    go_ret
    refine ⟨_, ?_, ?_, rfl, ?_, ?_⟩
    · exact (bits_and_255 _).1
    · exact (bits_and_255 _).2
    · refine ⟨b, _, c, i + 1, wrap64 (wrap64 (h * 6364136223846793005) + 1442695040888963407), hge, ?_, HR.out, hz, by omega, ?_⟩
      · exact (belowN (HB.out.setCell (p := ⟨g, 2, none⟩) hge _) _).setCell (p := ⟨g, 1, none⟩) hge _
      · exact ((HK.out.set_ 2 _).set_ 1 _).eq (by simp)
    · exact (((Chg.refl (· = g) _).setCell (p := ⟨g, 2, none⟩) (.inl rfl) _).drewN _).setCell (p := ⟨g, 1, none⟩) (.inl rfl) _
  · go_wp2
    go_quiet (fail)
    go_wp2
    go_quiet (fail)
    go_wp2
    go_ret
    refine ⟨_, ?_, ?_, rfl, ?_, ?_⟩
    · exact (bits_and_255 _).1
    · exact (bits_and_255 _).2
    · refine ⟨b, _, c, i, wrap64 (wrap64 (h * 6364136223846793005) + 1442695040888963407), hge, ?_, HR.out, hz, by omega, ?_⟩
      · exact belowN (belowN (HB.out.setCell (p := ⟨g, 2, none⟩) hge _) _) _
      · exact (HK.out.set_ 2 _).eq rfl
    · exact (((Chg.refl (· = g) _).setCell (p := ⟨g, 2, none⟩) (.inl rfl) _).drewN _).drewN _
theorem tmod_range (x n : Int) (hx : 0 ≤ x) (hn : 0 < n) : 0 ≤ x % n ∧ x % n < n :=
  ⟨Int.emod_nonneg _ (by omega), Int.emod_lt_of_pos _ hn⟩
set_option maxHeartbeats 1600000 in
set_option maxRecDepth 100000 in
theorem spec_l1Below_calls (W0 : World) (g : Nat) (n : Int) (w : World) (hC : Cur W0 g w) :
    Calls Try.prog 80 #[.pointer (some ⟨g, 0, none⟩), .int .i64 n] w fun e w' => ∃ r : Int, 0 ≤ r ∧ (0 < n → r < n) ∧ e = .returned (.int .i64 r) ∧ Cur W0 g w' ∧ Chg (· = g) w w' := by
  have HC := Lib.hid hC
  clear hC
  go_enter Try.func80, Try.ntmps80
  by_cases h0 : n ≤ 0
  · go_wp2
    go_ret
    exact ⟨0, by omega, by omega, rfl, HC.out, Chg.refl _ _⟩
  · by_cases h1 : n ≤ 256
    · go_wp2_with fail
      refine (spec_l1Byte_calls W0 g _ HC.out).mono ?_
      rintro e w1 ⟨x, hx0, hx1, rfl, hc1, hg1⟩
      have HX := Lib.hid (tmod_range x n hx0 (by omega))
      have HG := Lib.hid (And.intro hc1 hg1)
      clear hc1 hg1
      go_wp2
      go_ret
      exact ⟨_, HX.out.1, fun _ => HX.out.2, rfl, HG.out.1, HG.out.2⟩
    · go_wp2_with fail
      refine (spec_l1Byte_calls W0 g _ HC.out).mono ?_
      rintro e w1 ⟨x, hx0, hx1, rfl, hc1, hg1⟩
      have HG1 := Lib.hid (And.intro hc1 hg1)
      clear hc1 hg1
      go_wp2_with fail
      refine (spec_l1Byte_calls W0 g _ HG1.out.1).mono ?_
      rintro e w2 ⟨y, hy0, hy1, rfl, hc2, hg2⟩
      have HG2 := Lib.hid (And.intro hc2 hg2)
      clear hc2 hg2
      go_wp2_with fail
      refine (spec_l1Byte_calls W0 g _ HG2.out.1).mono ?_
      rintro e w3 ⟨z, hz0, hz1, rfl, hc3, hg3⟩
      have HG3 := Lib.hid (And.intro hc3 hg3)
      clear hc3 hg3
      have HX := Lib.hid (tmod_range (x * 65536 + y * 256 + z) n (by omega) (by omega))
      go_wp2
      go_ret
      exact ⟨_, HX.out.1, fun _ => HX.out.2, rfl, HG3.out.1, HG1.out.2.trans (HG2.out.2.trans HG3.out.2)⟩
set_option maxHeartbeats 1600000 in
theorem spec_l1Once_calls (W0 : World) (g : Nat) (n : Int) (w : World) (hC : Cur W0 g w) :
    Calls Try.prog 39 #[.pointer (some ⟨g, 0, none⟩), .int .i64 n] w fun e w' => ∃ r : Bool, e = .returned (.bool r) ∧ Cur W0 g w' ∧ Chg (· = g) w w' := by
  have HC := Lib.hid hC
  clear hC
  go_enter Try.func39, Try.ntmps39
  go_wp2_with fail
  refine (spec_l1Below_calls W0 g n _ HC.out).mono ?_
  rintro e w1 ⟨x, _, _, rfl, hc1, hg1⟩
  have HG := Lib.hid (And.intro hc1 hg1)
  clear hc1 hg1
  go_wp2
  go_ret
  exact ⟨_, rfl, HG.out.1, HG.out.2⟩
set_option maxHeartbeats 1600000 in
theorem spec_l1Int_calls (W0 : World) (g : Nat) (xs : List Int) (v : Value) (w : World) (hC : Cur W0 g w) (h0 : xs ≠ []) (hr : RdW w (.s xs.length (xs.flatMap eInt)) v) (hg : ∀ A n c, v = .slice (some A) n c → A.block ≠ g) :
    Calls Try.prog 82 #[.pointer (some ⟨g, 0, none⟩), v] w fun e w' => ∃ r : Int, r ∈ xs ∧ e = .returned (.int .i64 r) ∧ Cur W0 g w' ∧ Chg (· = g) w w' := by
  obtain ⟨A, c, rfl, ⟨hcl, hcm, hl⟩⟩ := hr.slice
  have hlen : 0 < xs.length := by cases xs with | nil => exact (h0 rfl).elim | cons a b => simp
  have HC := Lib.hid hC
  have HR := Lib.hid hr
  clear hC hr
  go_enter Try.func82, Try.ntmps82
  go_wp2_with fail
  refine (spec_l1Below_calls W0 g xs.length _ HC.out).mono ?_
  rintro e w1 ⟨x, hx0, hx1, rfl, hc1, hg1⟩
  have hx1' := hx1 (by omega)
  clear hx1
  obtain ⟨i, rfl⟩ := Int.eq_ofNat_of_zero_le hx0
  have hi : i < xs.length := by omega
  obtain ⟨y, hy⟩ : ∃ y, xs[i]? = some y := ⟨xs[i], List.getElem?_eq_getElem hi⟩
  have HY := Lib.hid (List.mem_of_getElem? hy)
  have HG := Lib.hid (And.intro hc1 hg1)
  clear hc1
  obtain ⟨ad, rfl, hab, h0'⟩ := row_eInt HR.out hy
  have h1 : w1.cell? (ad.add i) = some (.int .i64 y) := by
    rw [← h0']; exact hg1.cell (by rw [block_of_add]; exact hab) (by rw [block_of_add]; exact hg _ _ _ rfl)
  clear h0' hy hg1 hg
  go_wp2
  go_ret
  exact ⟨_, HY.out, rfl, HG.out.1, HG.out.2⟩
set_option maxHeartbeats 1600000 in
theorem spec_l1Str_calls (W0 : World) (g : Nat) (xs : List ByteArray) (v : Value) (w : World) (hC : Cur W0 g w) (h0 : xs ≠ []) (hr : RdW w (.s xs.length (xs.flatMap eStr)) v) (hg : ∀ A n c, v = .slice (some A) n c → A.block ≠ g) :
    Calls Try.prog 83 #[.pointer (some ⟨g, 0, none⟩), v] w fun e w' => ∃ r : ByteArray, r ∈ xs ∧ e = .returned (.string r) ∧ Cur W0 g w' ∧ Chg (· = g) w w' := by
  obtain ⟨A, c, rfl, ⟨hcl, hcm, hl⟩⟩ := hr.slice
  have hlen : 0 < xs.length := by cases xs with | nil => exact (h0 rfl).elim | cons a b => simp
  have HC := Lib.hid hC
  have HR := Lib.hid hr
  clear hC hr
  go_enter Try.func83, Try.ntmps83
  go_wp2_with fail
  refine (spec_l1Below_calls W0 g xs.length _ HC.out).mono ?_
  rintro e w1 ⟨x, hx0, hx1, rfl, hc1, hg1⟩
  have hx1' := hx1 (by omega)
  clear hx1
  obtain ⟨i, rfl⟩ := Int.eq_ofNat_of_zero_le hx0
  have hi : i < xs.length := by omega
  obtain ⟨y, hy⟩ : ∃ y, xs[i]? = some y := ⟨xs[i], List.getElem?_eq_getElem hi⟩
  have HY := Lib.hid (List.mem_of_getElem? hy)
  have HG := Lib.hid (And.intro hc1 hg1)
  clear hc1
  obtain ⟨ad, rfl, hab, h0'⟩ := row_eStr HR.out hy
  have h1 : w1.cell? (ad.add i) = some (.string y) := by
    rw [← h0']; exact hg1.cell (by rw [block_of_add]; exact hab) (by rw [block_of_add]; exact hg _ _ _ rfl)
  clear h0' hy hg1 hg
  go_wp2
  go_ret
  exact ⟨_, HY.out, rfl, HG.out.1, HG.out.2⟩
set_option maxHeartbeats 1600000 in
theorem spec_l5Name_calls (W0 : World) (g : Nat) (w : World) (hC : Cur W0 g w) :
    Calls Try.prog 104 #[.pointer (some ⟨g, 0, none⟩)] w fun e w' => ∃ r : ByteArray, r.size ≤ 4 ∧ e = .returned (.string r) ∧ Cur W0 g w' ∧ Chg (· = g) w w' := by
  have hlt := hC.lt
  have HC := Lib.hid (hC.below ((Below.refl w.heap.size w).alloc (Nat.le_refl _) (.cells ([⟨#[103, 101, 116]⟩, ⟨#[115, 101, 116]⟩, ⟨#[97, 100, 100]⟩, ⟨#[109, 97, 107, 101]⟩, ⟨#[103, 111]⟩].flatMap vsStr).toArray 9)))
  clear hC
  go_enter Try.func104, Try.ntmps104
  go_wp2_with fail
  refine (spec_l1Str_calls W0 g [⟨#[103, 101, 116]⟩, ⟨#[115, 101, 116]⟩, ⟨#[97, 100, 100]⟩, ⟨#[109, 97, 107, 101]⟩, ⟨#[103, 111]⟩] _ _ HC.out (by simp) (rdW_lit vals_eStr w _ _ (by simp)) (by rintro A n c h; injection h with h; injection h with h; subst h; exact Nat.ne_of_gt hlt)).mono ?_
  rintro e w1 ⟨x, hx, rfl, hc1, hg1⟩
  have HX : Hid (x.size ≤ 4) := by
    unfold Hid
    simp only [List.mem_cons, List.not_mem_nil, or_false] at hx
    rcases hx with rfl | rfl | rfl | rfl | rfl <;> decide
  have HG := Lib.hid (And.intro hc1 hg1)
  clear hc1 hg1 hx
  go_wp2
  go_ret
  exact ⟨_, HX.out, rfl, HG.out.1, ((Chg.refl _ _).alloc _).trans HG.out.2⟩

end Go.Proofs.Ytiohoeafdaihpaa
