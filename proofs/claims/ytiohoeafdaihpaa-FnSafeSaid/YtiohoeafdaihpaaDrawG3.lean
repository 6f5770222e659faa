import Derived.Test.YtiohoeafdaihpaaProg
import Derived.Test.YtiohoeafdaihpaaTypes
import Derived.StillTailTactics
import Derived.Deep.CutBlock
import Derived.Deep.CutRange
import Derived.Laws.OwnMore
import Derived.Deep.AppendLies
import Derived.Deep.RegionWith
import Derived.Deep.RegionHeld3
import Derived.Laws.IdiomStrings
import Derived.Test.YtiohoeafdaihpaaAppend
import Derived.Laws.StructEq
import Derived.Lib.SliceRun
import Derived.Shelf.RegionOpenPlain
import Derived.Test.YtiohoeafdaihpaaDrawF3
namespace Go.Proofs.Ytiohoeafdaihpaa
open Go.RowKit
set_option linter.unusedVariables false
set_option linter.unusedSimpArgs false

theorem rdL_flatI {α : Type} {en : α → List Lf} {w : World} : ∀ {xs : List α} {css : List (List Value)}, css.length = xs.length → (∀ (j : Nat) y, xs[j]? = some y → ∃ cs, css[j]? = some cs ∧ RdLW w (en y) cs) → RdLW w (xs.flatMap en) (css.flatMap id)
  | [], [], _, _ => RdLW_nil.2 rfl
  | [], _ :: _, h, _ => by simp at h
  | _ :: _, [], h, _ => by simp at h
  | x :: xs, c :: css, hl, h => by
    obtain ⟨cs, hc, hr⟩ := h 0 x rfl
    injection hc with hc
    subst hc
    rw [List.flatMap_cons, List.flatMap_cons]
    exact RdL.append _ _ _ _ hr (rdL_flatI (by simpa using hl) (fun j y hy => h (j + 1) y (by simpa using hy)))
theorem rd_own_cells {w : World} {base : Nat} {e : TypeId} {sz n : Nat} {A : Option Addr} {c : Nat} {us : List Value} {ls : List Lf} (h : w.ownsRow base e sz (.slice A n c) n us) (hn : n ≤ 140737488355328) (hr : RdLW w ls us) : RdW w (.s n ls) (.slice A n c) := by
  have h63 : maxLen = 9223372036854775807 := by decide
  rw [RdW, Rd]
  rcases h.2 with ⟨h0, h1⟩ | ⟨g, cap, cur, hv, hb, hg, hnc, hc, hcs, ht⟩
  · injection h0 with h0 h2 h3
    subst h2 h3
    exact ⟨_, _, rfl, ⟨Nat.le_refl _, by omega, by omega⟩, .inl rfl⟩
  · injection hv with h0 h2 h3
    subst h0 h3
    refine ⟨_, _, rfl, ⟨hnc, by omega, hn⟩, .inr ⟨_, us, rfl, ?_, fun k u hk => ?_, hr⟩⟩
    · rcases Nat.lt_or_ge g w.heap.size with h1 | h1
      · exact h1
      · rw [Array.getElem?_eq_none h1] at hg; cases hg
    · rw [add_zero_own, cell_of_row w g k cur e (0, 0) hg]
      rw [← ht] at hk
      rw [List.getElem?_take] at hk
      split at hk
      · simpa using hk
      · cases hk
/-- a row of methods in blocks of its own, from L on; the block gm is none of them -/
def MRow (L gm : Nat) (w : World) (ms : List GMethod) (v : Value) : Prop :=
  ∃ css : List (List Value), css.length = ms.length ∧ w.ownsRow L 29 2 v ms.length (css.flatMap id) ∧ (∀ k, v.ownBlock = some k → k ≠ gm) ∧
    ∀ (j : Nat) y, ms[j]? = some y → ∃ cs, css[j]? = some cs ∧ RdL (fun k => L ≤ k ∧ k < w.heap.size ∧ k ≠ gm ∧ v.ownBlock ≠ some k) w (eMethod y) cs
theorem mrow_nil (L gm : Nat) (w : World) : MRow L gm w [] (.slice none 0 0) :=
  ⟨[], rfl, World.ownsRow_nil _ _ _ _, by intro k hk; simp [Value.ownBlock] at hk, by intro j y hy; simp at hy⟩
theorem MRow.chg {L gm : Nat} {w w' : World} {ms : List GMethod} {v : Value} {U : Nat → Prop} (h : MRow L gm w ms v) (hc : Chg U w w') (hU : ∀ k, U k → k < L ∨ k = gm) : MRow L gm w' ms v := by
  obtain ⟨css, h1, h2, h3, h4⟩ := h
  refine ⟨css, h1, ownsRow_keep h2 hc (fun k hk e => ?_), h3, fun j y hy => ?_⟩
  · have := (h2.lt k hk).1
    have := h3 k hk
    rcases hU k e with h | h <;> omega
  · obtain ⟨cs, hcs, hr⟩ := h4 j y hy
    refine ⟨cs, hcs, RdL.mono (fun k hk => ⟨hk.1, Nat.lt_of_lt_of_le hk.2.1 hc.size, hk.2.2⟩) _ _ (RdL.keep (fun k hk => hc.block k hk.2.1 (fun e => ?_)) _ _ hr)⟩
    rcases hU k e with h | h
    · have := hk.1; omega
    · exact hk.2.2.1 h
theorem MRow.lt {L gm : Nat} {w : World} {ms : List GMethod} {v : Value} (h : MRow L gm w ms v) : ∀ k, v.ownBlock = some k → L ≤ k ∧ k < w.heap.size := by
  obtain ⟨css, h1, h2, h3, h4⟩ := h
  exact h2.lt
theorem MRow.below {L gm : Nat} {w w' : World} {ms : List GMethod} {v : Value} (h : MRow L gm w ms v) (hb : Below w.heap.size w w') : MRow L gm w' ms v :=
  h.chg (U := fun _ => False) ⟨hb.os, hb.tape, hb.output, hb.size, fun i hi _ => hb.block i hi⟩ (by intro k hk; exact hk.elim)
theorem MRow.rd {L gm : Nat} {w : World} {ms : List GMethod} {v : Value} (h : MRow L gm w ms v) (hl : ms.length ≤ 140737488355328) : ∃ A c, v = .slice A ms.length c ∧ RdW w (.s ms.length (ms.flatMap eMethod)) (.slice A ms.length c) := by
  obtain ⟨css, h1, h2, h3, h4⟩ := h
  obtain ⟨A, c, rfl⟩ := ownsRow_sl h2
  exact ⟨A, c, rfl, rd_own_cells h2 hl (rdL_flatI h1 (fun j y hy => by
    obtain ⟨cs, hcs, hr⟩ := h4 j y hy
    exact ⟨cs, hcs, RdL.mono (fun k hk => hk.2.1) _ _ hr⟩))⟩
/-- the row behind an append -/
theorem mrow_app {L gm : Nat} {w w' : World} {ms ys : List GMethod} {v : Value} {gg cap : Nat} {css news : List (List Value)} (h1 : css.length = ms.length) (h3 : ∀ k, v.ownBlock = some k → k ≠ gm)
    (h4 : ∀ (j : Nat) y, ms[j]? = some y → ∃ cs, css[j]? = some cs ∧ RdL (fun k => L ≤ k ∧ k < w.heap.size ∧ k ≠ gm ∧ v.ownBlock ≠ some k) w (eMethod y) cs) (hl : news.length = ys.length)
    (hn : ∀ (j : Nat) y, ys[j]? = some y → ∃ cs, news[j]? = some cs ∧ RdL (fun k => L ≤ k ∧ k < w.heap.size ∧ k ≠ gm ∧ v.ownBlock ≠ some k) w (eMethod y) cs)
    (hg : w.grownBy w' v.ownBlock) (hat : v.ownBlock = some gg ∨ gg = w.heap.size) (hgm : gm < w.heap.size)
    (ho : w'.ownsRow L 29 2 (.slice (some ⟨gg, 0, none⟩) (ms.length + ys.length) cap) (ms.length + ys.length) (css.flatMap id ++ news.flatMap id)) :
    MRow L gm w' (ms ++ ys) (.slice (some ⟨gg, 0, none⟩) (ms.length + ys.length) cap) := by
  have key : ∀ (y : GMethod) (cs : List Value), RdL (fun k => L ≤ k ∧ k < w.heap.size ∧ k ≠ gm ∧ v.ownBlock ≠ some k) w (eMethod y) cs → RdL (fun k => L ≤ k ∧ k < w'.heap.size ∧ k ≠ gm ∧ (Value.slice (some ⟨gg, 0, none⟩) (ms.length + ys.length) cap).ownBlock ≠ some k) w' (eMethod y) cs := by
    intro y cs hr
    refine RdL.mono (fun k hk => ⟨hk.1, Nat.lt_of_lt_of_le hk.2.1 hg.size, hk.2.2.1, fun e => ?_⟩) _ _ (RdL.keep (fun k hk => hg.block k hk.2.1 (fun e => hk.2.2.2 e.symm)) _ _ hr)
    simp only [Value.ownBlock, Option.some.injEq] at e
    rcases hat with hh | hh
    · exact hk.2.2.2 (by rw [hh, e])
    · have := hk.2.1; omega
  refine ⟨css ++ news, by rw [List.length_append, List.length_append, h1, hl], ?_, ?_, ?_⟩
  · rw [List.flatMap_append, List.length_append]
    exact ho
  · intro k hk
    simp only [Value.ownBlock, Option.some.injEq] at hk
    rcases hat with hh | hh
    · have := h3 _ hh; omega
    · omega
  · intro j y hy
    by_cases hj : j < ms.length
    · rw [List.getElem?_append_left hj] at hy
      obtain ⟨cs, hcs, hr⟩ := h4 j y hy
      exact ⟨cs, by rw [List.getElem?_append_left (by omega)]; exact hcs, key y cs hr⟩
    · rw [List.getElem?_append_right (by omega)] at hy
      obtain ⟨cs, hcs, hr⟩ := hn _ y hy
      exact ⟨cs, by rw [List.getElem?_append_right (by omega), h1]; exact hcs, key y cs hr⟩
theorem MethAt.rdS {Lm : Nat} {w : World} {x : GMethod} {us : List Value} (h : MethAt Lm w x us) (hl : x.Code.length ≤ 1048576) : RdL (fun k => Lm ≤ k ∧ k < w.heap.size) w (eMethod x) us := by
  obtain ⟨A, c, B, rfl, h1, h2, ho⟩ := h
  obtain ⟨fp, hO, _, hfp⟩ := ownRow_own vals_eInstr ho (by omega)
  unfold eMethod
  refine RdL_cons.2 ⟨_, _, rfl, Rd_v.2 rfl, RdL_cons.2 ⟨_, _, rfl, ?_, RdL_nil.2 rfl⟩⟩
  exact Rd.mono (fun k hk => ⟨by have := hfp k hk; omega, Own.lt _ _ _ hO k hk⟩) _ _ (Own.rd _ _ _ hO)
/-- a script that a draw returned: its methods in blocks from L on -/
def ScrAt (L : Nat) (w : World) (x : GScript) (us : List Value) : Prop :=
  ∃ v gm, us = [.string x.Name, v] ∧ MRow L gm w x.Methods v
theorem ScrAt.chg {L : Nat} {w w' : World} {x : GScript} {us : List Value} {U : Nat → Prop} (h : ScrAt L w x us) (hc : Chg U w w') (hU : ∀ k, U k → k < L) : ScrAt L w' x us := by
  obtain ⟨v, gm, rfl, hm⟩ := h
  exact ⟨v, gm, rfl, hm.chg hc (fun k hk => .inl (hU k hk))⟩
theorem ScrAt.rd {L : Nat} {w : World} {x : GScript} {us : List Value} (h : ScrAt L w x us) (hl : x.Methods.length ≤ 1048576) : RdLW w (eScript x) us := by
  obtain ⟨v, gm, rfl, hm⟩ := h
  obtain ⟨A, c, rfl, hr⟩ := hm.rd (by omega)
  exact mkrd_eScript hr
/-- a small method -/
def SmallM (m : GMethod) : Prop := m.Name.size ≤ 7 ∧ m.Code.length ≤ 13 ∧ ∀ y, y ∈ m.Code → y.Name.size ≤ 7
theorem siz_small {m : GMethod} (h : SmallM m) : sizL (eMethod m) ≤ 200 := by
  obtain ⟨h1, h2, h3⟩ := h
  have := siz_code h3
  have h4 : m.Code.length * 7 ≤ 13 * 7 := Nat.mul_le_mul_right _ h2
  rw [siz_eMethod]
  omega
theorem siz_smalls {ms : List GMethod} (h : ∀ m, m ∈ ms → SmallM m) : sizL (ms.flatMap eMethod) ≤ ms.length * 200 := by
  induction ms with
  | nil => rw [List.flatMap_nil, sizL_nil]; omega
  | cons x xs ih =>
    have h1 := ih (fun y hy => h y (by simp [hy]))
    have h2 := siz_small (h x (by simp))
    rw [List.flatMap_cons, sizL_append, List.length_cons, Nat.succ_mul]
    omega
/-- a small script -/
def SmallS (x : GScript) : Prop := x.Name.size ≤ 7 ∧ x.Methods.length ≤ 6 ∧ ∀ m, m ∈ x.Methods → SmallM m
theorem siz_smallS {x : GScript} (h : SmallS x) : sizL (eScript x) ≤ 1300 := by
  obtain ⟨h1, h2, h3⟩ := h
  have := siz_smalls h3
  have h4 : x.Methods.length * 200 ≤ 6 * 200 := Nat.mul_le_mul_right _ h2
  rw [siz_eScript]
  omega

end Go.Proofs.Ytiohoeafdaihpaa
namespace Go.Proofs.Ytiohoeafdaihpaa
open Go.RowKit
set_option linter.unusedVariables false
set_option linter.unusedSimpArgs false

theorem MRow.alloc_ {L gm : Nat} {w : World} {ms : List GMethod} {v : Value} (h : MRow L gm w ms v) (o : Obj) : MRow L gm (w.alloc o) ms v := h.below ((Below.refl _ _).alloc (Nat.le_refl _) o)
theorem small_of {nm : ByteArray} {x : GMethod} (h0 : x.Name = nm) (h1 : nm.size ≤ 7) (h2 : x.Code.length ≤ 10) (h3 : ∀ y, y ∈ x.Code → FineI y ∧ y.Name.size ≤ 5) : SmallM x :=
  ⟨by rw [h0]; exact h1, by omega, fun y hy => by have := (h3 y hy).2; omega⟩
theorem lit4_small {k : Nat} {x : ByteArray} (h : ([⟨#[103, 101, 116]⟩, ⟨#[115, 101, 116]⟩, ⟨#[97, 100, 100]⟩, ⟨#[103, 111]⟩] : List ByteArray)[k]? = some x) : x.size ≤ 7 := by
  have h2 := List.mem_of_getElem? h
  simp only [List.mem_cons, List.not_mem_nil, or_false] at h2
  rcases h2 with rfl | rfl | rfl | rfl <;> decide
set_option maxHeartbeats 12800000 in
set_option maxRecDepth 100000 in
theorem spec_l6Script_calls (W0 : World) (g : Nat) (nm : ByteArray) (w : World) (hC : Cur W0 g w) :
    Calls Try.prog 91 #[.pointer (some ⟨g, 0, none⟩), .string nm] w fun e w' => ∃ x us, e = .returned (.agg us.toArray) ∧ ScrAt (w.heap.size + 3) w' x us ∧ x.Name = nm ∧ x.Methods.length ≤ 4 ∧ (∀ m, m ∈ x.Methods → SmallM m) ∧ Cur W0 g w' ∧ Chg (· = g) w w' := by
  have hlt := hC.lt
  have hge := hC.ge
  have hW0 := hC.base.size
  have HC := Lib.hid (((hC.below ((Below.refl w.heap.size w).alloc (Nat.le_refl _) (.cells #[.string ⟨#[]⟩, .slice none 0 0] 51))).below ((Below.refl _ _).alloc (Nat.le_refl _) (.cells #[.string nm, .slice none 0 0] 51))).below ((Below.refl _ _).alloc (Nat.le_refl _) (.cells #[.string ⟨#[103, 101, 116]⟩, .string ⟨#[115, 101, 116]⟩, .string ⟨#[97, 100, 100]⟩, .string ⟨#[103, 111]⟩] 9)))
  have HKR := Lib.hid (((Blk.new w 51 #[.string ⟨#[]⟩, .slice none 0 0]).alloc (.cells #[.string nm, .slice none 0 0] 51)).alloc (.cells #[.string ⟨#[103, 101, 116]⟩, .string ⟨#[115, 101, 116]⟩, .string ⟨#[97, 100, 100]⟩, .string ⟨#[103, 111]⟩] 9))
  have HKM : Hid (Blk (((w.alloc (.cells #[.string ⟨#[]⟩, .slice none 0 0] 51)).alloc (.cells #[.string nm, .slice none 0 0] 51)).alloc (.cells #[.string ⟨#[103, 101, 116]⟩, .string ⟨#[115, 101, 116]⟩, .string ⟨#[97, 100, 100]⟩, .string ⟨#[103, 111]⟩] 9)) (w.heap.size + 1) 51 #[.string nm, .slice none 0 0]) := Lib.hid ((Blk.made (by simp)).alloc (.cells #[.string ⟨#[103, 101, 116]⟩, .string ⟨#[115, 101, 116]⟩, .string ⟨#[97, 100, 100]⟩, .string ⟨#[103, 111]⟩] 9))
  have HKL : Hid (Blk (((w.alloc (.cells #[.string ⟨#[]⟩, .slice none 0 0] 51)).alloc (.cells #[.string nm, .slice none 0 0] 51)).alloc (.cells #[.string ⟨#[103, 101, 116]⟩, .string ⟨#[115, 101, 116]⟩, .string ⟨#[97, 100, 100]⟩, .string ⟨#[103, 111]⟩] 9)) (w.heap.size + 2) 9 #[.string ⟨#[103, 101, 116]⟩, .string ⟨#[115, 101, 116]⟩, .string ⟨#[97, 100, 100]⟩, .string ⟨#[103, 111]⟩]) := Lib.hid (Blk.made (by simp))
  have HG := Lib.hid ((((Chg.refl (· = g) w).alloc (.cells #[.string ⟨#[]⟩, .slice none 0 0] 51)).alloc (.cells #[.string nm, .slice none 0 0] 51)).alloc (.cells #[.string ⟨#[103, 101, 116]⟩, .string ⟨#[115, 101, 116]⟩, .string ⟨#[97, 100, 100]⟩, .string ⟨#[103, 111]⟩] 9))
  clear hC
  go_enter Try.func91, Try.ntmps91
  go_wp2
  go_loopw [12] (fun a_ wr => ∃ (i : Nat) (ms : List GMethod) (A : Option Addr) (c_ : Nat), a_ = .int .i64 i ∧ i ≤ 4 ∧ ms.length ≤ i ∧ Hid (Blk wr (w.heap.size + 1) 51 #[.string nm, .slice A ms.length c_]) ∧ Hid (MRow (w.heap.size + 3) (w.heap.size + 1) wr ms (.slice A ms.length c_)) ∧ Hid (∀ m, m ∈ ms → SmallM m) ∧ Hid (Cur W0 g wr) ∧ Hid (Chg (· = g) w wr) ∧ Hid (Blk wr w.heap.size 51 #[.string ⟨#[]⟩, .slice none 0 0]) ∧ Hid (Blk wr (w.heap.size + 2) 9 #[.string ⟨#[103, 101, 116]⟩, .string ⟨#[115, 101, 116]⟩, .string ⟨#[97, 100, 100]⟩, .string ⟨#[103, 111]⟩])) (fun a_ wr => 4 - (intOf a_).toNat)
  case atStart => exact ⟨0, [], none, 0, rfl, by omega, by simp, HKM, mrow_nil _ _ _, (by intro m hm; cases hm), HC, HG, HKR, HKL⟩
  case round =>
    clear HC HG HKM HKR HKL
    obtain ⟨i, ms, A3, c3, rfl, hi, hix, HKM, HM, HS, HC, HG, HKR, HKL⟩ := hrel
    have zr := HG.out.size
    have lm := HKM.out.lt
    have ll := HKL.out.lt
    have lr := HKR.out.lt
    by_cases hp : i < 4
    · obtain ⟨x, hx⟩ : ∃ x, ([⟨#[103, 101, 116]⟩, ⟨#[115, 101, 116]⟩, ⟨#[97, 100, 100]⟩, ⟨#[103, 111]⟩] : List ByteArray)[i]? = some x := ⟨_, List.getElem?_eq_getElem (by simpa using hp)⟩
      have hxs := lit4_small hx
      have hcell : wr.cell? ⟨w.heap.size + 2, i, none⟩ = some (.string x) := by
        have h := HKL.out.cell i
        rw [h]
        have h2 : ([⟨#[103, 101, 116]⟩, ⟨#[115, 101, 116]⟩, ⟨#[97, 100, 100]⟩, ⟨#[103, 111]⟩] : List ByteArray).map Value.string = (#[.string ⟨#[103, 101, 116]⟩, .string ⟨#[115, 101, 116]⟩, .string ⟨#[97, 100, 100]⟩, .string ⟨#[103, 111]⟩] : Array Value).toList := rfl
        rw [← Array.getElem?_toList, ← h2, List.getElem?_map, hx]; rfl
      clear hx
      go_wp2_with fail
      refine (spec_l1Once_calls W0 g _ _ HC.out).mono ?_
      rintro e wo ⟨t, rfl, hc_, hg_⟩
      have hs_o := hg_.size
      have HC2 := Lib.hid hc_
      have HKM2 := Lib.hid (HKM.out.chg hg_ (by omega))
      have HKR2 := Lib.hid (HKR.out.chg hg_ (by omega))
      have HKL2 := Lib.hid (HKL.out.chg hg_ (by omega))
      have HG2 := Lib.hid (HG.out.trans hg_)
      have HM2 := Lib.hid (HM.out.chg hg_ (by rintro k rfl; left; omega))
      clear hc_ hg_ HC HKM HKR HKL HG HM hcell
      rcases t with _ | _
      · skip
        obtain ⟨km, jm⟩ := HKM2.out.rules
        have lm2 := HKM2.out.lt
        go_wp2_with fail
        refine wp_region_U (fun wq => wq.cell? ⟨(w.heap.size + 1), 1, none⟩ = some (.slice A3 ms.length c3)) [0, 1, 2, 3, 4, 5, 6] (by kernel_rfl) ?_
        have hH_ := (show wo.drew.cell? ⟨(w.heap.size + 1), 1, none⟩ = _ from km 1)
        refine wpAnyU_take (i := 0) (v := ?_) rfl (by kernel_rfl) (by kernel_rfl) (by kernel_rfl) (by kernel_rfl) (fun _ _ _ h => h) (Or.inl ⟨by rfl, ?_⟩) hH_ ?_
        rotate_left
        · (intro w hSw; (try dsimp only at hSw); go_simp <;> with_reducible rfl)
        simp only [Act.put, List.setIfInBounds_toArray, List.set_cons_zero, List.set_cons_succ]
        refine wpAnyU_take (i := 1) (v := ?_) rfl (by kernel_rfl) (by kernel_rfl) (by kernel_rfl) (by kernel_rfl) (fun _ _ _ h => h) (Or.inl ⟨by rfl, ?_⟩) hH_ ?_
        rotate_left
        · (intro w hSw; (try dsimp only at hSw); go_simp <;> with_reducible rfl)
        simp only [Act.put, List.setIfInBounds_toArray, List.set_cons_zero, List.set_cons_succ]
        refine wpAnyU_take (i := 2) (v := ?_) rfl (by kernel_rfl) (by kernel_rfl) (by kernel_rfl) (by kernel_rfl) (fun _ _ _ h => h) (Or.inl ⟨by rfl, ?_⟩) hH_ ?_
        rotate_left
        · (intro w hSw; (try dsimp only at hSw); go_simp <;> with_reducible rfl)
        simp only [Act.put, List.setIfInBounds_toArray, List.set_cons_zero, List.set_cons_succ]
        refine wpAnyU_take (i := 3) (v := ?_) rfl (by kernel_rfl) (by kernel_rfl) (by kernel_rfl) (by kernel_rfl) (fun _ _ _ h => h) (Or.inl ⟨by rfl, ?_⟩) hH_ ?_
        rotate_left
        · (intro w hSw; (try dsimp only at hSw); go_simp <;> with_reducible rfl)
        simp only [Act.put, List.setIfInBounds_toArray, List.set_cons_zero, List.set_cons_succ]
        refine wpAnyU_one (i := 4) (by kernel_rfl) rfl (fun K hK => ?_)
        go_simp
        refine (spec_l6Method_calls W0 g x _ (HC2.out.below (Below.refl _ _).drew)).mono ?_
        rintro e wb ⟨y, us, rfl, hma, hnn, hyl, hyf, hc_, hg_⟩
        have HSY := Lib.hid (small_of hnn hxs hyl hyf)
        have hrs := hma.rdS (by omega)
        obtain ⟨Ay, cy, By, rfl, -, -, -⟩ := hma
        have hs_b : wo.heap.size ≤ wb.heap.size := hg_.size
        have HCb := Lib.hid hc_
        have HKMb := Lib.hid (HKM2.out.drew.chg hg_ (by omega))
        have HKRb := Lib.hid (HKR2.out.drew.chg hg_ (by omega))
        have HKLb := Lib.hid (HKL2.out.drew.chg hg_ (by omega))
        have HGb := Lib.hid (HG2.out.drew.trans hg_)
        have HMb := Lib.hid ((HM2.out.below (Below.refl _ _).drew).chg hg_ (by rintro k rfl; left; omega))
        have hml := HM2.out.lt
        have HRY : Hid (RdL (fun k => wo.heap.size ≤ k ∧ k < wb.heap.size) wb (eMethod y) _) := hrs
        clear hc_ hg_ hnn hyl hyf hrs
        obtain ⟨kb, jb⟩ := HKMb.out.rules
        refine hK.out _ _ ?_ (fun hH1_ => ?_)
        · exact (kb 1)
        clear hK K hH_
        have hH_ := hH1_
        clear hH1_
        refine wpAnyU_one (i := 5) (by kernel_rfl) rfl (fun K hK => ?_)
        go_simp
        refine hK.out _ _ ?_ (fun hH1_ => ?_)
        · exact cell_alloc_keep (kb 1)
        clear hK K hH_
        have hH_ := hH1_
        clear hH1_
        refine wpAnyU_one' (i := 6) (by kernel_rfl) rfl (by kernel_rfl) (fun K hK => ?_)
        obtain ⟨css, q1, q2, q3, q4⟩ := (HMb.out).alloc_ (.cells #[.string y.Name, .slice Ay y.Code.length cy] 29)
        refine step_append_lies _ (by rfl) _ _ _ (by rfl) ((w.heap.size + 3)) 29 _ _ 2 40 Try.underlying49 rfl rfl rfl rfl rfl (by omega) _ ms.length _ (by rfl) q2 ⟨wb.heap.size, 0, none⟩ 1 1 [.string y.Name, .slice Ay y.Code.length cy] (by rfl) (by rfl) (World.news_of_block (cs := #[.string y.Name, .slice Ay y.Code.length cy]) (t := 29) (fr := (0, 0)) (heap_alloc_new wb _)) (by simp [Value.oneCell']) (by omega) (by have h := (by decide : maxLen = 9223372036854775807); omega) (by omega) (by simp; omega) (wb.heap.size + 1) (by simp) ?_
        intro gg cap w3 hown hgrow hat hlt2
        have hz3 : wb.heap.size + 1 ≤ w3.heap.size := by have h := hgrow.size; simp only [size_alloc] at h; exact h
        have hlo2 : ∀ k, (Value.slice A3 ms.length c3).ownBlock = some k → (w.heap.size + 3) ≤ k ∧ k < wo.heap.size := hml
        have HKM3 := Lib.hid ((HKMb.out.alloc (.cells #[.string y.Name, .slice Ay y.Code.length cy] 29)).chg (grown_chg hgrow) (fun h => q3 _ h rfl))
        have HKR3 := Lib.hid ((HKRb.out.alloc (.cells #[.string y.Name, .slice Ay y.Code.length cy] 29)).chg (grown_chg hgrow) (fun h => by have := hlo2 _ h; omega))
        have HKL3 := Lib.hid ((HKLb.out.alloc (.cells #[.string y.Name, .slice Ay y.Code.length cy] 29)).chg (grown_chg hgrow) (fun h => by have := hlo2 _ h; omega))
        have HC3 := Lib.hid ((HCb.out.below ((Below.refl _ _).alloc (Nat.le_refl _) (.cells #[.string y.Name, .slice Ay y.Code.length cy] 29))).chg (grown_chg hgrow) (fun k h => by have := hlo2 _ h; omega) (fun h => by have := hlo2 _ h; omega))
        have HG3 := Lib.hid ((HGb.out.alloc (.cells #[.string y.Name, .slice Ay y.Code.length cy] 29)).then_ (grown_chg hgrow) (fun k hk h => by have := hlo2 _ h; omega))
        have HM3 := Lib.hid (mrow_app (ys := [y]) (news := [[.string y.Name, .slice Ay y.Code.length cy]]) q1 q3 q4 rfl (fun j z hz => by
          cases j with
          | zero =>
            injection hz with hz
            subst hz
            exact ⟨_, rfl, RdL.mono (fun k hk => ⟨by have := hk.1; omega, by simp only [size_alloc]; have := hk.2; omega, by have := hk.1; omega, fun e => by have := hlo2 _ e; have := hk.1; omega⟩) _ _ (RdL.keep (fun k hk => ((Below.refl wb.heap.size wb).alloc (Nat.le_refl _) (.cells #[.string y.Name, .slice Ay y.Code.length cy] 29)).block k hk.2) _ _ HRY.out)⟩
          | succ j => simp at hz) hgrow (by rw [size_alloc]; exact hat) (by simp only [size_alloc]; omega) hown)
        clear hown q1 q2 q3 q4
        obtain ⟨km3, jm3⟩ := HKM3.out.rules
        have lm3 := HKM3.out.lt
        refine hK.out _ _ ?_
        clear hK K
        refine wpAnyU_one' (i := 7) (by kernel_rfl) rfl (by kernel_rfl) (fun K hK => ?_)
        go_simp
        refine hK.out _ _ ?_
        clear hK K
        refine wpAnyU_one' (i := 8) (by kernel_rfl) rfl (by kernel_rfl) (fun K hK => ?_)
        go_simp
        refine hK.out _ _ ?_
        clear hK K
        refine wpAnyU_done (by kernel_rfl) ?_ _
        have HS5 := Lib.hid ((Chg.refl (· = (w.heap.size + 1)) w3).setCell (p := ⟨(w.heap.size + 1), 1, none⟩) (.inl rfl) (.slice (some ⟨gg, 0, none⟩) (ms.length + 1) cap))
        have HL5 : Hid ((ms ++ [y]).length = ms.length + 1) := by unfold Hid; rw [List.length_append]; rfl
        have hss : ∀ m, m ∈ ms ++ [y] → SmallM m := by
          intro m hm
          rcases List.mem_append.1 hm with h | h
          · exact HS.out m h
          · rw [List.mem_singleton.1 h]; exact HSY.out
        have HSS := Lib.hid hss
        clear hss hgrow hat hlt2
        go_wp2
        go_roundw
        case rel =>
          refine ⟨i + 1, ms ++ [y], some ⟨gg, 0, none⟩, cap, by go_num, by omega, by rw [HL5.out]; omega, ?_, ?_, HSS, Lib.hid (HC3.out.chg HS5.out (by rintro _ rfl; omega) (by omega)), Lib.hid (HG3.out.then_ HS5.out (by rintro k hk rfl; omega)), Lib.hid (HKR3.out.chg HS5.out (by omega)), Lib.hid (HKL3.out.chg HS5.out (by omega))⟩
          · rw [HL5.out]; exact Lib.hid ((HKM3.out.set_ 1 _).eq (by simp))
          · rw [HL5.out]; exact Lib.hid (HM3.out.chg HS5.out (by rintro k rfl; right; rfl))
        case measure => simp [intOf]; omega
      · skip
        go_wp2
        go_roundw
        case rel => exact ⟨i + 1, ms, A3, c3, by go_num, by omega, by omega, HKM2, HM2, HS, HC2, HG2, HKR2, HKL2⟩
        case measure => simp [intOf]; omega
    · have i4 : i = 4 := by omega
      subst i4
      obtain ⟨km, jm⟩ := HKM.out.rules
      obtain ⟨kr, jr⟩ := HKR.out.rules
      go_wp2
      refine post_cell (w0 := wr) (fun k => k = w.heap.size) Try.results91 w.heap.size #[.string nm, .slice A3 ms.length c3] _ rfl (Blk.eq ((HKR.out.set_ 0 (.string nm)).set_ 1 (.slice A3 ms.length c3)) (by simp)) Try.underlying51 rfl (by kernel_rfl) rfl (((Chg.refl (· = w.heap.size) _).setCell (p := ⟨w.heap.size, 0, none⟩) (.inl rfl) (.string nm)).setCell (p := ⟨w.heap.size, 1, none⟩) (.inl rfl) (.slice A3 ms.length c3)) ?_
      intro W hW
      exact ⟨⟨nm, ms⟩, _, rfl, ⟨_, (w.heap.size + 1), rfl, HM.out.chg hW (by rintro k rfl; left; omega)⟩, rfl, by show ms.length ≤ 4; omega, HS.out, HC.out.chg hW (by rintro _ rfl; exact hW0) (by omega), HG.out.then_ hW (by rintro i hi rfl; omega)⟩

end Go.Proofs.Ytiohoeafdaihpaa
namespace Go.Proofs.Ytiohoeafdaihpaa
open Go.RowKit
set_option linter.unusedVariables false
set_option linter.unusedSimpArgs false

theorem MRow.re {L gm gm' : Nat} {w : World} {ms : List GMethod} {v : Value} (h : MRow L gm w ms v) (hg : w.heap.size ≤ gm') : MRow L gm' w ms v := by
  obtain ⟨css, h1, h2, h3, h4⟩ := h
  refine ⟨css, h1, h2, fun k hk => by have := (h2.lt k hk).2; omega, fun j y hy => ?_⟩
  obtain ⟨cs, hcs, hr⟩ := h4 j y hy
  exact ⟨cs, hcs, RdL.mono (fun k hk => ⟨hk.1, hk.2.1, by have := hk.2.1; omega, hk.2.2.2⟩) _ _ hr⟩
theorem MRow.low {L L' gm : Nat} {w : World} {ms : List GMethod} {v : Value} (h : MRow L gm w ms v) (hl : L' ≤ L) : MRow L' gm w ms v := by
  obtain ⟨css, h1, h2, h3, h4⟩ := h
  refine ⟨css, h1, ⟨h2.1, ?_⟩, h3, fun j y hy => ?_⟩
  · rcases h2.2 with h | ⟨g, cap, cur, hv, hb, rest⟩
    · exact .inl h
    · exact .inr ⟨g, cap, cur, hv, by omega, rest⟩
  · obtain ⟨cs, hcs, hr⟩ := h4 j y hy
    exact ⟨cs, hcs, RdL.mono (fun k hk => ⟨by have := hk.1; omega, hk.2⟩) _ _ hr⟩
theorem smallS_app {x : GScript} {ys : List GMethod} (h : x.Name.size ≤ 7) (hl : x.Methods.length ≤ 4) (hm : ∀ m, m ∈ x.Methods → SmallM m) (hy : ys.length ≤ 2) (hys : ∀ m, m ∈ ys → SmallM m) : SmallS ⟨x.Name, x.Methods ++ ys⟩ :=
  ⟨h, by show (x.Methods ++ ys).length ≤ 6; rw [List.length_append]; omega, fun m hm' => by rcases List.mem_append.1 hm' with h | h; exact hm m h; exact hys m h⟩
/-- an instruction of zeros -/
def zInstr0 : GInstr := ⟨0, 0, 0, 0, 0, ⟨#[]⟩⟩
theorem small_zeros (n : Nat) (h : n ≤ 13) : SmallM ⟨⟨#[109]⟩, List.replicate n zInstr0⟩ :=
  ⟨by show (1 : Nat) ≤ 7; omega, by show (List.replicate n zInstr0).length ≤ 13; rw [List.length_replicate]; exact h, fun y hy => by rw [(List.mem_replicate.1 hy).2]; show (0 : Nat) ≤ 7; omega⟩
def YM (k : Nat) : GMethod := ⟨⟨#[109]⟩, List.replicate k zInstr0⟩
def zInstrC : Array Value := #[.int .i64 0, .int .i64 0, .int .i64 0, .int .i64 0, .int .i64 0, .string ⟨#[]⟩]
theorem made_instr (k : Nat) (hk : k ≤ 13) : ∀ W : World, (Instr.makeSlice 27 (.int .i64 (k : Int)) (.int .i64 (k : Int))).run Try.prog W = .ok (.slice (some ⟨W.heap.size, 0, none⟩) k k) (W.alloc (.cells (madeCells zInstrC (k * 6)) 47)) := by
  have hi : (Try.prog.info? 47).map (fun i => (i.zero, i.bytes, i.size)) = some (some (.agg zInstrC), 56, 6) := by kernel_rfl
  have hc : (Value.agg zInstrC).cells = zInstrC := by kernel_rfl
  obtain ⟨i, h1, h2, h3, h4⟩ : ∃ i, Try.prog.info? 47 = some i ∧ i.zero = some (.agg zInstrC) ∧ i.bytes = 56 ∧ i.size = 6 := by
    cases h : Try.prog.info? 47 with
    | none => rw [h] at hi; cases hi
    | some i =>
      rw [h] at hi
      simp only [Option.map_some, Option.some.injEq, Prod.mk.injEq] at hi
      exact ⟨i, rfl, hi.1, hi.2.1, hi.2.2⟩
  intro W
  have h := run_make_rowN (P := Try.prog) 27 47 i (.agg zInstrC) Try.underlying27 h1 h2 .i64 .i64 k k (Nat.le_refl _) (by rw [h3]; omega) (by omega) W
  rw [h4, hc] at h
  exact h
theorem made_at {k L : Nat} (hk : k = 0 ∨ k = 1 ∨ k = 13) {w : World} (hL : L ≤ w.heap.size) : RdL (fun j => L ≤ j ∧ j < (w.alloc (.cells (madeCells zInstrC (k * 6)) 47)).heap.size) (w.alloc (.cells (madeCells zInstrC (k * 6)) 47)) (eMethod (YM k)) [.string ⟨#[109]⟩, .slice (some ⟨w.heap.size, 0, none⟩) k k] := by
  have hl : (YM k).Code.length = k := List.length_replicate
  have ht : (madeCells zInstrC (k * 6)).toList = (YM k).Code.flatMap vsInstr := by rcases hk with rfl | rfl | rfl <;> kernel_rfl
  have hsz : (madeCells zInstrC (k * 6)).size = k * 6 := size_madeCells _ _
  have ho := World.ownsRow_lit (e := 47) (base := w.heap.size) (size := 6) w (madeCells zInstrC (k * 6)) k (Nat.le_refl _) (by have h := (by decide : maxLen = 9223372036854775807); omega) hsz
  rw [ht] at ho
  have hm : MethAt L (w.alloc (.cells (madeCells zInstrC (k * 6)) 47)) (YM k) [.string ⟨#[109]⟩, .slice (some ⟨w.heap.size, 0, none⟩) k k] :=
    ⟨some ⟨w.heap.size, 0, none⟩, k, w.heap.size, by rw [hl]; rfl, hL, by simp, by rw [hl]; exact ho⟩
  exact hm.rdS (by rw [hl]; omega)
set_option maxHeartbeats 25600000 in
set_option maxRecDepth 100000 in
theorem spec_l6Any_calls (W0 : World) (g : Nat) (w : World) (hC : Cur W0 g w) :
    Calls Try.prog 57 #[.pointer (some ⟨g, 0, none⟩)] w fun e w' => ∃ x us, e = .returned (.agg us.toArray) ∧ ScrAt (w.heap.size + 1) w' x us ∧ SmallS x ∧ Cur W0 g w' ∧ Chg (· = g) w w' := by
  have hlt := hC.lt
  have hge := hC.ge
  have hW0 := hC.base.size
  have HC := Lib.hid (hC.below ((Below.refl w.heap.size w).alloc (Nat.le_refl _) (.cells #[.string ⟨#[]⟩, .slice none 0 0] 51)))
  have HKR := Lib.hid (Blk.new w 51 #[.string ⟨#[]⟩, .slice none 0 0])
  have HG := Lib.hid ((Chg.refl (· = g) w).alloc (.cells #[.string ⟨#[]⟩, .slice none 0 0] 51))
  have hsz : (w.alloc (.cells #[.string ⟨#[]⟩, .slice none 0 0] 51)).heap.size = w.heap.size + 1 := size_alloc _ _
  clear hC
  have HGN : Hid (∀ (W : World) (A : Addr) (n : Nat) (c n' c' : Nat), g < W.heap.size → Value.slice (some ⟨W.heap.size, 0, none⟩) n' c' = .slice (some A) n c → A.block ≠ g) := by
    intro W A n c n' c' hW h; injection h with h; injection h with h; subst h; exact Nat.ne_of_gt hW
  go_enter Try.func57, Try.ntmps57
  obtain ⟨w0, hw0⟩ : ∃ q, q = w.alloc (.cells #[.string ⟨#[]⟩, .slice none 0 0] 51) := ⟨_, rfl⟩
  rw [← hw0] at HC HKR HG hsz
  go_wp2_with fail
  rw [← hw0, ← hsz]
  clear hw0
  refine (spec_l1Str_calls W0 g [⟨#[99, 101, 108, 108]⟩, ⟨#[112, 114, 111, 120, 121]⟩, ⟨#[109, 97, 107, 101, 114]⟩] _ _ (HC.out.below ((Below.refl _ _).alloc (Nat.le_refl _) _)) (by simp) (rdW_lit vals_eStr w0 _ 9 (by simp)) (fun A n c h => HGN.out w0 A n c _ _ HC.out.lt h)).mono ?_
  rintro e w1 ⟨nm, hnm, rfl, hc_, hg_⟩
  have hs_1 := hg_.size
  simp only [size_alloc] at hs_1
  have HNM : Hid (nm.size ≤ 5) := by unfold Hid; simp only [List.mem_cons, List.not_mem_nil, or_false] at hnm; rcases hnm with rfl | rfl | rfl <;> decide
  have HCn := Lib.hid hc_
  replace HKR := Lib.hid ((HKR.out.alloc _).chg hg_ (by omega))
  replace HG := Lib.hid ((HG.out.alloc _).trans hg_)
  clear hc_ hg_ hnm HC
  have HC := HCn
  clear HCn
  go_wp2_with fail
  refine (spec_l6Script_calls W0 g _ _ HC.out).mono ?_
  rintro e w2 ⟨x, us, rfl, hsa, hxn, hxl, hxm, hc_, hg_⟩
  have hs_2 := hg_.size
  obtain ⟨v, gm0, rfl, hmr⟩ := hsa
  have hmr2 := hmr
  obtain ⟨css0, hcs0, hcs1, -, -⟩ := hmr2
  obtain ⟨A3, c3, rfl⟩ := ownsRow_sl hcs1
  clear hcs0 hcs1
  have HSN : Hid (x.Name.size ≤ 7) := by unfold Hid; have := HNM.out; rw [hxn]; omega
  have HSM := Lib.hid hxm
  have HCn := Lib.hid hc_
  replace HKR := Lib.hid (HKR.out.chg hg_ (by omega))
  replace HG := Lib.hid (HG.out.trans hg_)
  have HM0 := Lib.hid ((hmr.low (L' := w1.heap.size) (by omega)).re (Nat.le_refl w2.heap.size))
  clear hc_ hg_ hxn hxm hmr HC HNM
  have HC := HCn
  clear HCn
  obtain ⟨w3, hw3⟩ : ∃ q, q = w2.alloc (.cells #[.string x.Name, .slice A3 x.Methods.length c3] 51) := ⟨_, rfl⟩
  have HKM : Hid (Blk w3 w2.heap.size 51 #[.string x.Name, .slice A3 x.Methods.length c3]) := by rw [hw3]; exact Blk.new w2 _ _
  have HM : Hid (MRow w1.heap.size w2.heap.size w3 x.Methods (.slice A3 x.Methods.length c3)) := by rw [hw3]; exact HM0.out.alloc_ _
  have HCn : Hid (Cur W0 g w3) := by rw [hw3]; exact HC.out.below ((Below.refl _ _).alloc (Nat.le_refl _) _)
  replace HKR : Hid (Blk w3 w.heap.size 51 #[.string ⟨#[]⟩, .slice none 0 0]) := by rw [hw3]; exact HKR.out.alloc _
  replace HG : Hid (Chg (· = g) w w3) := by rw [hw3]; exact HG.out.alloc _
  have hs_3 : w3.heap.size = w2.heap.size + 1 := by rw [hw3]; simp
  clear HC HM0
  have HC := HCn
  clear HCn
  go_wp2_with fail
  rw [← hw3]
  clear hw3
  refine (spec_l1Below_calls W0 g _ _ HC.out).mono ?_
  rintro e w4 ⟨r, hr0, hr1, rfl, hc_, hg_⟩
  replace hr1 := hr1 (by omega)
  have hs_4 := hg_.size
  have HCn := Lib.hid hc_
  replace HKR := Lib.hid (HKR.out.chg hg_ (by omega))
  replace HKM := Lib.hid (HKM.out.chg hg_ (by omega))
  replace HG := Lib.hid (HG.out.trans hg_)
  replace HM := Lib.hid (HM.out.chg hg_ (by rintro k rfl; left; omega))
  clear hc_ hg_ HC
  have HC := HCn
  clear HCn
  go_upto_block 0 with fail
  go_cut [] from 10 to 48 (fun wx => ∃ (x : GScript) (A3 : Option Addr) (c3 : Nat), Blk wx w2.heap.size 51 #[.string x.Name, .slice A3 x.Methods.length c3] ∧ MRow w1.heap.size w2.heap.size wx x.Methods (.slice A3 x.Methods.length c3) ∧ SmallS x ∧ Blk wx w.heap.size 51 #[.string ⟨#[]⟩, .slice none 0 0] ∧ Cur W0 g wx ∧ Chg (· = g) w wx)
  case first =>
    have hml := HM.out.lt
    obtain ⟨km, jm⟩ := HKM.out.rules
    have lm := HKM.out.lt
    by_cases r0 : r = 0
    · subst r0
      go_wp2_with fail
      refine (spec_l1Str_calls W0 g [⟨#[]⟩, ⟨#[65]⟩, ⟨#[97, 98, 99, 100, 101, 102, 103]⟩] _ _ (HC.out.below ((Below.refl _ _).alloc (Nat.le_refl _) _)) (by simp) (rdW_lit vals_eStr w4 _ 9 (by simp)) (fun A n c h => HGN.out w4 A n c _ _ HC.out.lt h)).mono ?_
      rintro e w5 ⟨nn, hnn, rfl, hc_, hg_⟩
      have hs_5 := hg_.size
      simp only [size_alloc] at hs_5
      have HNN : Hid (nn.size ≤ 7) := by unfold Hid; simp only [List.mem_cons, List.not_mem_nil, or_false] at hnn; rcases hnn with rfl | rfl | rfl <;> decide
      have HCn := Lib.hid hc_
      replace HKR := Lib.hid ((HKR.out.alloc _).chg hg_ (by omega))
      replace HKM := Lib.hid ((HKM.out.alloc _).chg hg_ (by omega))
      replace HG := Lib.hid ((HG.out.alloc _).trans hg_)
      replace HM := Lib.hid ((HM.out.alloc_ _).chg hg_ (by rintro k rfl; left; omega))
      clear hc_ hg_ hnn HC km jm
      have HC := HCn
      clear HCn
      obtain ⟨km, jm⟩ := HKM.out.rules
      have lm5 := HKM.out.lt
      go_wp2_with fail
      have HS5 := Lib.hid ((Chg.refl (· = w2.heap.size) w5).setCell (p := ⟨w2.heap.size, 0, none⟩) (.inl rfl) (.string nn))
      go_meet
      case rel => exact ⟨⟨nn, x.Methods⟩, A3, c3, (HKM.out.set_ 0 _).eq (by simp), HM.out.chg HS5.out (by rintro k rfl; right; rfl), ⟨HNN.out, by show x.Methods.length ≤ 6; omega, HSM.out⟩, HKR.out.chg HS5.out (by omega), HC.out.chg HS5.out (by rintro _ rfl; omega) (by omega), HG.out.then_ HS5.out (by rintro k hk rfl; omega)⟩
    by_cases r1 : r = 1
    · subst r1
      go_wp2_with fail
      refine wp_region_U (fun wq => wq.cell? ⟨w2.heap.size, 1, none⟩ = some (.slice A3 x.Methods.length c3)) [0, 1, 2, 3, 4, 5] (by kernel_rfl) ?_
      have hH_ := (show w4.drew.cell? ⟨w2.heap.size, 1, none⟩ = _ from km 1)
      refine wpAnyU_take (i := 0) (v := ?_) rfl (by kernel_rfl) (by kernel_rfl) (by kernel_rfl) (by kernel_rfl) (fun _ _ _ h => h) (Or.inl ⟨by rfl, ?_⟩) hH_ ?_
      rotate_left
      · (intro w hSw; (try dsimp only at hSw); go_simp <;> with_reducible rfl)
      simp only [Act.put, List.setIfInBounds_toArray, List.set_cons_zero, List.set_cons_succ]
      refine wpAnyU_take (i := 1) (v := ?_) rfl (by kernel_rfl) (by kernel_rfl) (by kernel_rfl) (by kernel_rfl) (fun _ _ _ h => h) (Or.inl ⟨by rfl, ?_⟩) hH_ ?_
      rotate_left
      · (intro w hSw; (try dsimp only at hSw); go_simp <;> with_reducible rfl)
      simp only [Act.put, List.setIfInBounds_toArray, List.set_cons_zero, List.set_cons_succ]
      refine wpAnyU_take (i := 2) (v := ?_) rfl (by kernel_rfl) (by kernel_rfl) (by kernel_rfl) (by kernel_rfl) (fun _ _ _ h => h) (Or.inl ⟨by rfl, ?_⟩) hH_ ?_
      rotate_left
      · (intro w hSw; (try dsimp only at hSw); go_simp <;> with_reducible rfl)
      simp only [Act.put, List.setIfInBounds_toArray, List.set_cons_zero, List.set_cons_succ]
      refine wpAnyU_one (i := 3) (by kernel_rfl) rfl (fun K hK => ?_)
      go_simp
      refine (spec_l6Method_calls W0 g ⟨#[103, 101, 116]⟩ _ (HC.out.below (Below.refl _ _).drew)).mono ?_
      rintro e wb ⟨y, us, rfl, hma, hnn, hyl, hyf, hc_, hg_⟩
      have HSYy := Lib.hid (small_of hnn (by decide) hyl hyf)
      have hrs := hma.rdS (by omega)
      obtain ⟨Ay, cy, By, rfl, -, -, -⟩ := hma
      have hs_wb : w4.heap.size ≤ wb.heap.size := hg_.size
      have HCwb := Lib.hid hc_
      have HKMwb := Lib.hid (HKM.out.drew.chg hg_ (by omega))
      have HKRwb := Lib.hid (HKR.out.drew.chg hg_ (by omega))
      have HGwb := Lib.hid (HG.out.drew.trans hg_)
      have HMwb := Lib.hid ((HM.out.below (Below.refl _ _).drew).chg hg_ (by rintro k rfl; left; omega))
      have HRy : Hid (RdL (fun k => w4.heap.size ≤ k ∧ k < wb.heap.size) wb (eMethod y) _) := hrs
      clear hc_ hg_ hnn hyl hyf hrs
      obtain ⟨kb, jb⟩ := HKMwb.out.rules
      refine hK.out _ _ ?_ (fun hH1_ => ?_)
      · exact (kb 1)
      clear hK K hH_
      have hH_ := hH1_
      clear hH1_
      refine wpAnyU_one (i := 4) (by kernel_rfl) rfl (fun K hK => ?_)
      go_simp
      refine hK.out _ _ ?_ (fun hH1_ => ?_)
      · exact cell_alloc_keep (kb 1)
      clear hK K hH_
      have hH_ := hH1_
      clear hH1_
      refine wpAnyU_one' (i := 5) (by kernel_rfl) rfl (by kernel_rfl) (fun K hK => ?_)
      obtain ⟨css, q1, q2, q3, q4⟩ := (HMwb.out).alloc_ (.cells #[.string y.Name, .slice Ay y.Code.length cy] 29)
      refine step_append_lies _ (by rfl) _ _ _ (by rfl) (w1.heap.size) 29 _ _ 2 40 Try.underlying49 rfl rfl rfl rfl rfl (by omega) _ x.Methods.length _ (by rfl) q2 ⟨wb.heap.size, 0, none⟩ 1 1 [.string y.Name, .slice Ay y.Code.length cy] (by rfl) (by rfl) (World.news_of_block (cs := #[.string y.Name, .slice Ay y.Code.length cy]) (t := 29) (fr := (0, 0)) (heap_alloc_new wb _)) (by simp [Value.oneCell']) (by omega) (by have h := (by decide : maxLen = 9223372036854775807); omega) (by omega) (by simp; omega) (wb.heap.size + 1) (by simp) ?_
      intro gg cap w3 hown hgrow hat hlt2
      have hz3 : wb.heap.size + 1 ≤ w3.heap.size := by have h := hgrow.size; simp only [size_alloc] at h; exact h
      have HKMf := Lib.hid ((HKMwb.out.alloc (.cells #[.string y.Name, .slice Ay y.Code.length cy] 29)).chg (grown_chg hgrow) (fun h => q3 _ h rfl))
      have HKRf := Lib.hid ((HKRwb.out.alloc (.cells #[.string y.Name, .slice Ay y.Code.length cy] 29)).chg (grown_chg hgrow) (fun h => by have := hml _ h; omega))
      have HCf := Lib.hid ((HCwb.out.below ((Below.refl _ _).alloc (Nat.le_refl _) (.cells #[.string y.Name, .slice Ay y.Code.length cy] 29))).chg (grown_chg hgrow) (fun k h => by have := hml _ h; omega) (fun h => by have := hml _ h; omega))
      have HGf := Lib.hid ((HGwb.out.alloc (.cells #[.string y.Name, .slice Ay y.Code.length cy] 29)).then_ (grown_chg hgrow) (fun k hk h => by have := hml _ h; omega))
      have HMf := Lib.hid (mrow_app (ys := [y]) (news := [[.string y.Name, .slice Ay y.Code.length cy]]) q1 q3 q4 rfl (fun j z hz => by
        cases j with
        | zero =>
          injection hz with hz
          subst hz
          exact ⟨_, rfl, RdL.mono (fun k hk => ⟨by have := hk.1; omega, by simp only [size_alloc]; have := hk.2; omega, by have := hk.1; omega, fun e => by have := hml _ e; have := hk.1; omega⟩) _ _ (RdL.keep (fun kk hk => ((Below.refl wb.heap.size wb).alloc (Nat.le_refl _) (.cells #[.string y.Name, .slice Ay y.Code.length cy] 29)).block kk hk.2) _ _ HRy.out)⟩
        | succ j => simp at hz) hgrow (by rw [size_alloc]; exact hat) (by simp only [size_alloc]; omega) hown)
      clear hown q1 q2 q3 q4
      obtain ⟨km3, jm3⟩ := HKMf.out.rules
      have lm3 := HKMf.out.lt
      refine hK.out _ _ ?_
      clear hK K
      refine wpAnyU_one' (i := 6) (by kernel_rfl) rfl (by kernel_rfl) (fun K hK => ?_)
      go_simp
      refine hK.out _ _ ?_
      clear hK K
      refine wpAnyU_one' (i := 7) (by kernel_rfl) rfl (by kernel_rfl) (fun K hK => ?_)
      go_simp
      refine hK.out _ _ ?_
      clear hK K
      refine wpAnyU_done (by kernel_rfl) ?_ _
      have HS5 := Lib.hid ((Chg.refl (· = w2.heap.size) w3).setCell (p := ⟨w2.heap.size, 1, none⟩) (.inl rfl) (.slice (some ⟨gg, 0, none⟩) (x.Methods.length + 1) cap))
      have HL5 : Hid ((x.Methods ++ [y]).length = x.Methods.length + 1) := by unfold Hid; rw [List.length_append]; rfl
      have hss : SmallS ⟨x.Name, x.Methods ++ [y]⟩ := smallS_app HSN.out (by omega) HSM.out (by show 1 ≤ 2; omega) (by intro m hm; simp only [List.mem_cons, List.not_mem_nil, or_false] at hm; rcases hm with rfl; exact HSYy.out)
      have HSS := Lib.hid hss
      clear hss hgrow hat hlt2
      go_wp2_with fail
      go_meet
      case rel =>
        refine ⟨⟨x.Name, x.Methods ++ [y]⟩, some ⟨gg, 0, none⟩, cap, ?_, ?_, HSS.out, HKRf.out.chg HS5.out (by omega), HCf.out.chg HS5.out (by rintro _ rfl; omega) (by omega), HGf.out.then_ HS5.out (by rintro k hk rfl; omega)⟩
        · show Blk _ w2.heap.size 51 #[.string x.Name, .slice (some ⟨gg, 0, none⟩) (x.Methods ++ [y]).length cap]
          rw [HL5.out]; exact (HKMf.out.set_ 1 _).eq (by simp)
        · show MRow w1.heap.size w2.heap.size _ (x.Methods ++ [y]) (.slice (some ⟨gg, 0, none⟩) (x.Methods ++ [y]).length cap)
          rw [HL5.out]; exact HMf.out.chg HS5.out (by rintro k rfl; right; rfl)
    by_cases r2 : r = 2
    · subst r2
      go_wp2_with fail
      refine wp_region_U (fun wq => wq.cell? ⟨w2.heap.size, 1, none⟩ = some (.slice A3 x.Methods.length c3)) [0, 1, 2, 3, 4, 5, 6, 7] (by kernel_rfl) ?_
      have hH_ := (show w4.drew.cell? ⟨w2.heap.size, 1, none⟩ = _ from km 1)
      refine wpAnyU_take (i := 0) (v := ?_) rfl (by kernel_rfl) (by kernel_rfl) (by kernel_rfl) (by kernel_rfl) (fun _ _ _ h => h) (Or.inl ⟨by rfl, ?_⟩) hH_ ?_
      rotate_left
      · (intro w hSw; (try dsimp only at hSw); go_simp <;> with_reducible rfl)
      simp only [Act.put, List.setIfInBounds_toArray, List.set_cons_zero, List.set_cons_succ]
      refine wpAnyU_take (i := 1) (v := ?_) rfl (by kernel_rfl) (by kernel_rfl) (by kernel_rfl) (by kernel_rfl) (fun _ _ _ h => h) (Or.inl ⟨by rfl, ?_⟩) hH_ ?_
      rotate_left
      · (intro w hSw; (try dsimp only at hSw); go_simp <;> with_reducible rfl)
      simp only [Act.put, List.setIfInBounds_toArray, List.set_cons_zero, List.set_cons_succ]
      refine wpAnyU_take (i := 2) (v := ?_) rfl (by kernel_rfl) (by kernel_rfl) (by kernel_rfl) (by kernel_rfl) (fun _ _ _ h => h) (Or.inl ⟨by rfl, ?_⟩) hH_ ?_
      rotate_left
      · (intro w hSw; (try dsimp only at hSw); go_simp <;> with_reducible rfl)
      simp only [Act.put, List.setIfInBounds_toArray, List.set_cons_zero, List.set_cons_succ]
      refine wpAnyU_take (i := 4) (v := ?_) rfl (by kernel_rfl) (by kernel_rfl) (by kernel_rfl) (by kernel_rfl) (fun _ _ _ h => h) (Or.inl ⟨by rfl, ?_⟩) hH_ ?_
      rotate_left
      · (intro w hSw; (try dsimp only at hSw); go_simp <;> with_reducible rfl)
      simp only [Act.put, List.setIfInBounds_toArray, List.set_cons_zero, List.set_cons_succ]
      refine wpAnyU_one (i := 3) (by kernel_rfl) rfl (fun K hK => ?_)
      go_simp
      refine (spec_l6Method_calls W0 g ⟨#[109, 97, 107, 101]⟩ _ (HC.out.below (Below.refl _ _).drew)).mono ?_
      rintro e wb ⟨y, us, rfl, hma, hnn, hyl, hyf, hc_, hg_⟩
      have HSYy := Lib.hid (small_of hnn (by decide) hyl hyf)
      have hrs := hma.rdS (by omega)
      obtain ⟨Ay, cy, By, rfl, -, -, -⟩ := hma
      have hs_wb : w4.heap.size ≤ wb.heap.size := hg_.size
      have HCwb := Lib.hid hc_
      have HKMwb := Lib.hid (HKM.out.drew.chg hg_ (by omega))
      have HKRwb := Lib.hid (HKR.out.drew.chg hg_ (by omega))
      have HGwb := Lib.hid (HG.out.drew.trans hg_)
      have HMwb := Lib.hid ((HM.out.below (Below.refl _ _).drew).chg hg_ (by rintro k rfl; left; omega))
      have HRy : Hid (RdL (fun k => w4.heap.size ≤ k ∧ k < wb.heap.size) wb (eMethod y) _) := hrs
      clear hc_ hg_ hnn hyl hyf hrs
      obtain ⟨kb, jb⟩ := HKMwb.out.rules
      refine hK.out _ _ ?_ (fun hH1_ => ?_)
      · exact (kb 1)
      clear hK K hH_
      have hH_ := hH1_
      clear hH1_
      refine wpAnyU_one (i := 5) (by kernel_rfl) rfl (fun K hK => ?_)
      go_simp
      refine (spec_l6Method_calls W0 g ⟨#[120]⟩ _ HCwb.out).mono ?_
      rintro e wc ⟨z, us, rfl, hma, hnn, hyl, hyf, hc_, hg_⟩
      have HSYz := Lib.hid (small_of hnn (by decide) hyl hyf)
      have hrs := hma.rdS (by omega)
      obtain ⟨Az, cz, Bz, rfl, -, -, -⟩ := hma
      have hs_wc : wb.heap.size ≤ wc.heap.size := hg_.size
      have HCwc := Lib.hid hc_
      have HKMwc := Lib.hid (HKMwb.out.chg hg_ (by omega))
      have HKRwc := Lib.hid (HKRwb.out.chg hg_ (by omega))
      have HGwc := Lib.hid (HGwb.out.trans hg_)
      have HMwc := Lib.hid (HMwb.out.chg hg_ (by rintro k rfl; left; omega))
      have HRz : Hid (RdL (fun k => wb.heap.size ≤ k ∧ k < wc.heap.size) wc (eMethod z) _) := hrs
      replace HRy : Hid (RdL (fun k => w4.heap.size ≤ k ∧ k < wc.heap.size) wc (eMethod y) [.string y.Name, .slice Ay y.Code.length cy]) := RdL.mono (fun k hk => ⟨hk.1, Nat.lt_of_lt_of_le hk.2 hg_.size⟩) _ _ (RdL.keep (fun k hk => hg_.block k hk.2 (by have := hk.1; omega)) _ _ HRy.out)
      clear hc_ hg_ hnn hyl hyf hrs
      obtain ⟨kc, jc⟩ := HKMwc.out.rules
      refine hK.out _ _ ?_ (fun hH1_ => ?_)
      · exact (kc 1)
      clear hK K hH_
      have hH_ := hH1_
      clear hH1_
      refine wpAnyU_one (i := 6) (by kernel_rfl) rfl (fun K hK => ?_)
      go_simp
      refine hK.out _ _ ?_ (fun hH1_ => ?_)
      · exact cell_alloc_keep (kc 1)
      clear hK K hH_
      have hH_ := hH1_
      clear hH1_
      refine wpAnyU_one' (i := 7) (by kernel_rfl) rfl (by kernel_rfl) (fun K hK => ?_)
      obtain ⟨css, q1, q2, q3, q4⟩ := (HMwc.out).alloc_ (.cells #[.string y.Name, .slice Ay y.Code.length cy, .string z.Name, .slice Az z.Code.length cz] 29)
      refine step_append_lies _ (by rfl) _ _ _ (by rfl) (w1.heap.size) 29 _ _ 2 40 Try.underlying49 rfl rfl rfl rfl rfl (by omega) _ x.Methods.length _ (by rfl) q2 ⟨wc.heap.size, 0, none⟩ 2 2 [.string y.Name, .slice Ay y.Code.length cy, .string z.Name, .slice Az z.Code.length cz] (by rfl) (by rfl) (World.news_of_block (cs := #[.string y.Name, .slice Ay y.Code.length cy, .string z.Name, .slice Az z.Code.length cz]) (t := 29) (fr := (0, 0)) (heap_alloc_new wc _)) (by simp [Value.oneCell']) (by omega) (by have h := (by decide : maxLen = 9223372036854775807); omega) (by omega) (by simp; omega) (wc.heap.size + 1) (by simp) ?_
      intro gg cap w3 hown hgrow hat hlt2
      have hz3 : wc.heap.size + 1 ≤ w3.heap.size := by have h := hgrow.size; simp only [size_alloc] at h; exact h
      have HKMf := Lib.hid ((HKMwc.out.alloc (.cells #[.string y.Name, .slice Ay y.Code.length cy, .string z.Name, .slice Az z.Code.length cz] 29)).chg (grown_chg hgrow) (fun h => q3 _ h rfl))
      have HKRf := Lib.hid ((HKRwc.out.alloc (.cells #[.string y.Name, .slice Ay y.Code.length cy, .string z.Name, .slice Az z.Code.length cz] 29)).chg (grown_chg hgrow) (fun h => by have := hml _ h; omega))
      have HCf := Lib.hid ((HCwc.out.below ((Below.refl _ _).alloc (Nat.le_refl _) (.cells #[.string y.Name, .slice Ay y.Code.length cy, .string z.Name, .slice Az z.Code.length cz] 29))).chg (grown_chg hgrow) (fun k h => by have := hml _ h; omega) (fun h => by have := hml _ h; omega))
      have HGf := Lib.hid ((HGwc.out.alloc (.cells #[.string y.Name, .slice Ay y.Code.length cy, .string z.Name, .slice Az z.Code.length cz] 29)).then_ (grown_chg hgrow) (fun k hk h => by have := hml _ h; omega))
      have HMf := Lib.hid (mrow_app (ys := [y, z]) (news := [[.string y.Name, .slice Ay y.Code.length cy], [.string z.Name, .slice Az z.Code.length cz]]) q1 q3 q4 rfl (fun j z hz => by
        match j, hz with
        | 0, hz =>
          injection hz with hz
          subst hz
          exact ⟨_, rfl, RdL.mono (fun k hk => ⟨by have := hk.1; omega, by simp only [size_alloc]; have := hk.2; omega, by have := hk.1; omega, fun e => by have := hml _ e; have := hk.1; omega⟩) _ _ (RdL.keep (fun kk hk => ((Below.refl wc.heap.size wc).alloc (Nat.le_refl _) (.cells #[.string y.Name, .slice Ay y.Code.length cy, .string z.Name, .slice Az z.Code.length cz] 29)).block kk hk.2) _ _ HRy.out)⟩
        | 1, hz =>
          injection hz with hz
          subst hz
          exact ⟨_, rfl, RdL.mono (fun k hk => ⟨by have := hk.1; omega, by simp only [size_alloc]; have := hk.2; omega, by have := hk.1; omega, fun e => by have := hml _ e; have := hk.1; omega⟩) _ _ (RdL.keep (fun kk hk => ((Below.refl wc.heap.size wc).alloc (Nat.le_refl _) (.cells #[.string y.Name, .slice Ay y.Code.length cy, .string z.Name, .slice Az z.Code.length cz] 29)).block kk hk.2) _ _ HRz.out)⟩
        | j + 2, hz => simp at hz) hgrow (by rw [size_alloc]; exact hat) (by simp only [size_alloc]; omega) hown)
      clear hown q1 q2 q3 q4
      obtain ⟨km3, jm3⟩ := HKMf.out.rules
      have lm3 := HKMf.out.lt
      refine hK.out _ _ ?_
      clear hK K
      refine wpAnyU_one' (i := 8) (by kernel_rfl) rfl (by kernel_rfl) (fun K hK => ?_)
      go_simp
      refine hK.out _ _ ?_
      clear hK K
      refine wpAnyU_one' (i := 9) (by kernel_rfl) rfl (by kernel_rfl) (fun K hK => ?_)
      go_simp
      refine hK.out _ _ ?_
      clear hK K
      refine wpAnyU_done (by kernel_rfl) ?_ _
      have HS5 := Lib.hid ((Chg.refl (· = w2.heap.size) w3).setCell (p := ⟨w2.heap.size, 1, none⟩) (.inl rfl) (.slice (some ⟨gg, 0, none⟩) (x.Methods.length + 2) cap))
      have HL5 : Hid ((x.Methods ++ [y, z]).length = x.Methods.length + 2) := by unfold Hid; rw [List.length_append]; rfl
      have hss : SmallS ⟨x.Name, x.Methods ++ [y, z]⟩ := smallS_app HSN.out (by omega) HSM.out (by show 2 ≤ 2; omega) (by intro m hm; simp only [List.mem_cons, List.not_mem_nil, or_false] at hm; rcases hm with rfl | rfl; exact HSYy.out; exact HSYz.out)
      have HSS := Lib.hid hss
      clear hss hgrow hat hlt2
      go_wp2_with fail
      go_meet
      case rel =>
        refine ⟨⟨x.Name, x.Methods ++ [y, z]⟩, some ⟨gg, 0, none⟩, cap, ?_, ?_, HSS.out, HKRf.out.chg HS5.out (by omega), HCf.out.chg HS5.out (by rintro _ rfl; omega) (by omega), HGf.out.then_ HS5.out (by rintro k hk rfl; omega)⟩
        · show Blk _ w2.heap.size 51 #[.string x.Name, .slice (some ⟨gg, 0, none⟩) (x.Methods ++ [y, z]).length cap]
          rw [HL5.out]; exact (HKMf.out.set_ 1 _).eq (by simp)
        · show MRow w1.heap.size w2.heap.size _ (x.Methods ++ [y, z]) (.slice (some ⟨gg, 0, none⟩) (x.Methods ++ [y, z]).length cap)
          rw [HL5.out]; exact HMf.out.chg HS5.out (by rintro k rfl; right; rfl)
    by_cases r3 : r = 3
    · subst r3
      go_wp2_with fail
      refine wp_region_U (fun wq => wq.cell? ⟨w2.heap.size, 1, none⟩ = some (.slice A3 x.Methods.length c3)) [0, 1, 2, 3, 4, 5, 6, 7, 8] (by kernel_rfl) ?_
      have hH_ := (show w4.drew.cell? ⟨w2.heap.size, 1, none⟩ = _ from km 1)
      refine wpAnyU_take (i := 0) (v := ?_) rfl (by kernel_rfl) (by kernel_rfl) (by kernel_rfl) (by kernel_rfl) (fun _ _ _ h => h) (Or.inl ⟨by rfl, ?_⟩) hH_ ?_
      rotate_left
      · (intro w hSw; (try dsimp only at hSw); go_simp <;> with_reducible rfl)
      simp only [Act.put, List.setIfInBounds_toArray, List.set_cons_zero, List.set_cons_succ]
      refine wpAnyU_take (i := 1) (v := ?_) rfl (by kernel_rfl) (by kernel_rfl) (by kernel_rfl) (by kernel_rfl) (fun _ _ _ h => h) (Or.inl ⟨by rfl, ?_⟩) hH_ ?_
      rotate_left
      · (intro w hSw; (try dsimp only at hSw); go_simp <;> with_reducible rfl)
      simp only [Act.put, List.setIfInBounds_toArray, List.set_cons_zero, List.set_cons_succ]
      refine wpAnyU_take (i := 2) (v := ?_) rfl (by kernel_rfl) (by kernel_rfl) (by kernel_rfl) (by kernel_rfl) (fun _ _ _ h => h) (Or.inl ⟨by rfl, ?_⟩) hH_ ?_
      rotate_left
      · (intro w hSw; (try dsimp only at hSw); go_simp <;> with_reducible rfl)
      simp only [Act.put, List.setIfInBounds_toArray, List.set_cons_zero, List.set_cons_succ]
      refine wpAnyU_one (i := 3) (by kernel_rfl) rfl (fun K hK => ?_)
      go_simp
      refine hK.out _ _ ?_ (fun hH1_ => ?_)
      · exact cell_alloc_keep hH_
      clear hK K hH_
      have hH_ := hH1_
      clear hH1_
      refine wpAnyU_one (i := 4) (by kernel_rfl) rfl (fun K hK => ?_)
      go_simp
      refine (spec_l1Int_calls W0 g [0, 1, 13] _ _ ((HC.out.below (Below.refl _ _).drew).below ((Below.refl _ _).alloc (Nat.le_refl _) _)) (by simp) (rdW_lit vals_eInt w4.drew _ 3 (by simp)) (fun A n c h => HGN.out w4.drew A n c _ _ HC.out.lt h)).mono ?_
      rintro e wb ⟨na, hna, rfl, hc_, hg_⟩
      obtain ⟨k, rfl, hk⟩ : ∃ k : Nat, na = k ∧ (k = 0 ∨ k = 1 ∨ k = 13) := by
        simp only [List.mem_cons, List.not_mem_nil, or_false] at hna
        rcases hna with rfl | rfl | rfl
        · exact ⟨0, rfl, by omega⟩
        · exact ⟨1, rfl, by omega⟩
        · exact ⟨13, rfl, by omega⟩
      have hk13 : k ≤ 13 := by omega
      have hs_wb : w4.heap.size + 1 ≤ wb.heap.size := by have h := hg_.size; simp only [size_alloc] at h; exact h
      have HCwb := Lib.hid hc_
      have HKMwb := Lib.hid ((HKM.out.drew.alloc _).chg hg_ (by omega))
      have HKRwb := Lib.hid ((HKR.out.drew.alloc _).chg hg_ (by omega))
      have HGwb := Lib.hid ((HG.out.drew.alloc _).trans hg_)
      have HMwb := Lib.hid (((HM.out.below (Below.refl _ _).drew).alloc_ _).chg hg_ (by rintro k rfl; left; omega))
      have hmk := made_instr k hk13
      clear hc_ hg_ hna
      obtain ⟨kb, jb⟩ := HKMwb.out.rules
      refine hK.out _ _ ?_ (fun hH1_ => ?_)
      · exact (kb 1)
      clear hK K hH_
      have hH_ := hH1_
      clear hH1_
      refine wpAnyU_one (i := 5) (by kernel_rfl) rfl (fun K hK => ?_)
      go_simp
      (try rw [hmk])
      (try go_simp)
      obtain ⟨wm, hwm⟩ : ∃ q, q = wb.alloc (.cells (madeCells zInstrC (k * 6)) 47) := ⟨_, rfl⟩
      (try rw [← hwm])
      have hs_wm : wm.heap.size = wb.heap.size + 1 := by rw [hwm]; simp
      have HCwm : Hid (Cur W0 g wm) := by rw [hwm]; exact HCwb.out.below ((Below.refl _ _).alloc (Nat.le_refl _) _)
      have HKMwm : Hid (Blk wm w2.heap.size 51 #[.string x.Name, .slice A3 x.Methods.length c3]) := by rw [hwm]; exact HKMwb.out.alloc _
      have HKRwm : Hid (Blk wm w.heap.size 51 #[.string ⟨#[]⟩, .slice none 0 0]) := by rw [hwm]; exact HKRwb.out.alloc _
      have HGwm : Hid (Chg (· = g) w wm) := by rw [hwm]; exact HGwb.out.alloc _
      have HMwm : Hid (MRow w1.heap.size w2.heap.size wm x.Methods (.slice A3 x.Methods.length c3)) := by rw [hwm]; exact HMwb.out.alloc_ _
      have HRY : Hid (RdL (fun j => w4.heap.size ≤ j ∧ j < wm.heap.size) wm (eMethod (YM k)) [.string ⟨#[109]⟩, .slice (some ⟨wb.heap.size, 0, none⟩) k k]) := by rw [hwm]; exact made_at hk (by omega)
      clear hwm HCwb HKMwb HKRwb HGwb HMwb kb jb hmk
      obtain ⟨kc, jc⟩ := HKMwm.out.rules
      refine hK.out _ _ ?_ (fun hH1_ => ?_)
      · exact (kc 1)
      clear hK K hH_
      have hH_ := hH1_
      clear hH1_
      refine wpAnyU_take (i := 6) (v := ?_) rfl (by kernel_rfl) (by kernel_rfl) (by kernel_rfl) (by kernel_rfl) (fun _ _ _ h => h) (Or.inl ⟨by rfl, ?_⟩) hH_ ?_
      rotate_left
      · (intro w hSw; (try dsimp only at hSw); go_simp <;> with_reducible rfl)
      simp only [Act.put, List.setIfInBounds_toArray, List.set_cons_zero, List.set_cons_succ]
      refine wpAnyU_one (i := 7) (by kernel_rfl) rfl (fun K hK => ?_)
      go_simp
      refine hK.out _ _ ?_ (fun hH1_ => ?_)
      · exact cell_alloc_keep (kc 1)
      clear hK K hH_
      have hH_ := hH1_
      clear hH1_
      refine wpAnyU_one' (i := 8) (by kernel_rfl) rfl (by kernel_rfl) (fun K hK => ?_)
      obtain ⟨css, q1, q2, q3, q4⟩ := (HMwm.out).alloc_ (.cells #[.string ⟨#[109]⟩, .slice (some ⟨wb.heap.size, 0, none⟩) k k] 29)
      refine step_append_lies _ (by rfl) _ _ _ (by rfl) (w1.heap.size) 29 _ _ 2 40 Try.underlying49 rfl rfl rfl rfl rfl (by omega) _ x.Methods.length _ (by rfl) q2 ⟨wb.heap.size + 1, 0, none⟩ 1 1 [.string ⟨#[109]⟩, .slice (some ⟨wb.heap.size, 0, none⟩) k k] (by rfl) (by rfl) (World.news_of_block (cs := #[.string ⟨#[109]⟩, .slice (some ⟨wb.heap.size, 0, none⟩) k k]) (t := 29) (fr := (0, 0)) (by rw [← hs_wm]; exact heap_alloc_new wm _)) (by simp [Value.oneCell']) (by omega) (by have h := (by decide : maxLen = 9223372036854775807); omega) (by omega) (by simp; omega) (wm.heap.size + 1) (by simp) ?_
      intro gg cap w3 hown hgrow hat hlt2
      have hz3 : wm.heap.size + 1 ≤ w3.heap.size := by have h := hgrow.size; simp only [size_alloc] at h; exact h
      have HKMf := Lib.hid ((HKMwm.out.alloc (.cells #[.string ⟨#[109]⟩, .slice (some ⟨wb.heap.size, 0, none⟩) k k] 29)).chg (grown_chg hgrow) (fun h => q3 _ h rfl))
      have HKRf := Lib.hid ((HKRwm.out.alloc (.cells #[.string ⟨#[109]⟩, .slice (some ⟨wb.heap.size, 0, none⟩) k k] 29)).chg (grown_chg hgrow) (fun h => by have := hml _ h; omega))
      have HCf := Lib.hid ((HCwm.out.below ((Below.refl _ _).alloc (Nat.le_refl _) (.cells #[.string ⟨#[109]⟩, .slice (some ⟨wb.heap.size, 0, none⟩) k k] 29))).chg (grown_chg hgrow) (fun k h => by have := hml _ h; omega) (fun h => by have := hml _ h; omega))
      have HGf := Lib.hid ((HGwm.out.alloc (.cells #[.string ⟨#[109]⟩, .slice (some ⟨wb.heap.size, 0, none⟩) k k] 29)).then_ (grown_chg hgrow) (fun k hk h => by have := hml _ h; omega))
      have HMf := Lib.hid (mrow_app (ys := [YM k]) (news := [[.string ⟨#[109]⟩, .slice (some ⟨wb.heap.size, 0, none⟩) k k]]) q1 q3 q4 rfl (fun j z hz => by
        cases j with
        | zero =>
          injection hz with hz
          subst hz
          exact ⟨_, rfl, RdL.mono (fun k hk => ⟨by have := hk.1; omega, by simp only [size_alloc]; have := hk.2; omega, by have := hk.1; omega, fun e => by have := hml _ e; have := hk.1; omega⟩) _ _ (RdL.keep (fun kk hk => ((Below.refl wm.heap.size wm).alloc (Nat.le_refl _) (.cells #[.string ⟨#[109]⟩, .slice (some ⟨wb.heap.size, 0, none⟩) k k] 29)).block kk hk.2) _ _ HRY.out)⟩
        | succ j => simp at hz) hgrow (by rw [size_alloc]; exact hat) (by simp only [size_alloc]; omega) hown)
      clear hown q1 q2 q3 q4
      obtain ⟨km3, jm3⟩ := HKMf.out.rules
      have lm3 := HKMf.out.lt
      refine hK.out _ _ ?_
      clear hK K
      refine wpAnyU_one' (i := 9) (by kernel_rfl) rfl (by kernel_rfl) (fun K hK => ?_)
      go_simp
      refine hK.out _ _ ?_
      clear hK K
      refine wpAnyU_one' (i := 10) (by kernel_rfl) rfl (by kernel_rfl) (fun K hK => ?_)
      go_simp
      refine hK.out _ _ ?_
      clear hK K
      refine wpAnyU_done (by kernel_rfl) ?_ _
      have HS5 := Lib.hid ((Chg.refl (· = w2.heap.size) w3).setCell (p := ⟨w2.heap.size, 1, none⟩) (.inl rfl) (.slice (some ⟨gg, 0, none⟩) (x.Methods.length + 1) cap))
      have HL5 : Hid ((x.Methods ++ [YM k]).length = x.Methods.length + 1) := by unfold Hid; rw [List.length_append]; rfl
      have hss : SmallS ⟨x.Name, x.Methods ++ [YM k]⟩ := smallS_app HSN.out (by omega) HSM.out (by show 1 ≤ 2; omega) (by intro m hm; simp only [List.mem_cons, List.not_mem_nil, or_false] at hm; rcases hm with rfl; exact small_zeros k hk13)
      have HSS := Lib.hid hss
      clear hss hgrow hat hlt2
      go_wp2_with fail
      go_meet
      case rel =>
        refine ⟨⟨x.Name, x.Methods ++ [YM k]⟩, some ⟨gg, 0, none⟩, cap, ?_, ?_, HSS.out, HKRf.out.chg HS5.out (by omega), HCf.out.chg HS5.out (by rintro _ rfl; omega) (by omega), HGf.out.then_ HS5.out (by rintro k hk rfl; omega)⟩
        · show Blk _ w2.heap.size 51 #[.string x.Name, .slice (some ⟨gg, 0, none⟩) (x.Methods ++ [YM k]).length cap]
          rw [HL5.out]; exact (HKMf.out.set_ 1 _).eq (by simp)
        · show MRow w1.heap.size w2.heap.size _ (x.Methods ++ [YM k]) (.slice (some ⟨gg, 0, none⟩) (x.Methods ++ [YM k]).length cap)
          rw [HL5.out]; exact HMf.out.chg HS5.out (by rintro k rfl; right; rfl)
    go_wp2_with fail
    go_meet
    case rel => exact ⟨x, A3, c3, HKM.out, HM.out, ⟨HSN.out, by omega, HSM.out⟩, HKR.out, HC.out, HG.out⟩
  case rest =>
    clear HC HKR HKM HG HM HSN HSM
    obtain ⟨x, A3, c3, hkm, hmr, hss, hkr, hcu, hch⟩ := hcut
    have HKM := Lib.hid hkm
    have HKR := Lib.hid hkr
    have HM := Lib.hid hmr
    have HSS := Lib.hid hss
    have HC := Lib.hid hcu
    have HG := Lib.hid hch
    have hs_0 := hch.size
    obtain ⟨km, jm⟩ := HKM.out.rules
    have lm := HKM.out.lt
    obtain ⟨kr, jr⟩ := HKR.out.rules
    have lr := HKR.out.lt
    clear hkm hkr hmr hss hcu hch
    go_wp2
    refine post_cell (w0 := wc) (fun k => k = w.heap.size) Try.results57 w.heap.size #[.string x.Name, .slice A3 x.Methods.length c3] _ rfl (Blk.eq ((HKR.out.set_ 0 (.string x.Name)).set_ 1 (.slice A3 x.Methods.length c3)) (by simp)) Try.underlying51 rfl (by kernel_rfl) rfl (((Chg.refl (· = w.heap.size) _).setCell (p := ⟨w.heap.size, 0, none⟩) (.inl rfl) (.string x.Name)).setCell (p := ⟨w.heap.size, 1, none⟩) (.inl rfl) (.slice A3 x.Methods.length c3)) ?_
    intro W hW
    exact ⟨x, _, rfl, ⟨_, w2.heap.size, rfl, (HM.out.low (by omega)).chg hW (by rintro k rfl; left; omega)⟩, HSS.out, HC.out.chg hW (by rintro _ rfl; exact hW0) (by omega), HG.out.then_ hW (by rintro i hi rfl; omega)⟩

end Go.Proofs.Ytiohoeafdaihpaa
namespace Go.Proofs.Ytiohoeafdaihpaa
open Go.RowKit
set_option linter.unusedVariables false
set_option linter.unusedSimpArgs false

set_option maxHeartbeats 6400000 in
theorem spec_DrawIsScript_calls (v : Value) (b : List UInt8) (w : World) (hr : RdW w (.s b.length (b.flatMap eByte)) v) (hz : b.length ≤ 1048576) :
    Calls Try.prog 58 #[v] w fun e w' => ∃ x us, e = .returned (.agg us.toArray) ∧ ScrAt (w.heap.size + 1) w' x us ∧ SmallS x ∧ Below w.heap.size w w' := by
  obtain ⟨A0, c0, rfl, -⟩ := hr.slice
  have HN := Lib.hid (spec_l1New_calls _ b (w.alloc (.cells #[.string ⟨#[]⟩, .slice none 0 0] 51)) (hr.alloc _) hz)
  clear hr
  go_enter Try.func58, Try.ntmps58
  go_wp2_with fail
  refine HN.out.mono ?_
  rintro e w1 ⟨he, hc1, hb1⟩
  simp only [size_alloc] at he hc1
  subst he
  have HC1 := Lib.hid hc1
  have HK1 : Hid (Blk w1 w.heap.size 51 #[.string ⟨#[]⟩, .slice none 0 0]) := (Blk.new w _ _).below hb1
  have hs1 : w.heap.size + 1 ≤ w1.heap.size := by have h := hb1.size; simp only [size_alloc] at h; exact h
  have hg1 := hc1.lt
  clear hc1 hb1 HN
  go_wp2_with fail
  refine (spec_l6Any_calls _ (w.heap.size + 1) _ HC1.out).mono ?_
  rintro e w2 ⟨x, us, rfl, hsa, hss, hc2, hg2⟩
  obtain ⟨v, gm, rfl, hm⟩ := hsa
  have hm2 := hm
  obtain ⟨css, _, h2, -, -⟩ := hm2
  obtain ⟨A3, c3, rfl⟩ := ownsRow_sl h2
  have HM := Lib.hid hm
  have HC2 := Lib.hid hc2
  have HK2 := Lib.hid (HK1.out.chg hg2 (by omega))
  have hs2 := hg2.size
  clear hm h2 hc2 hg2 HC1 HK1
  obtain ⟨kr, jr⟩ := HK2.out.rules
  have lr := HK2.out.lt
  go_wp2
  refine post_cell (w0 := w2) (fun k => k = w.heap.size) Try.results58 w.heap.size #[.string x.Name, .slice A3 x.Methods.length c3] _ rfl (Blk.eq ((HK2.out.set_ 0 (.string x.Name)).set_ 1 (.slice A3 x.Methods.length c3)) (by simp)) Try.underlying51 rfl (by kernel_rfl) rfl (((Chg.refl (· = w.heap.size) _).setCell (p := ⟨w.heap.size, 0, none⟩) (.inl rfl) (.string x.Name)).setCell (p := ⟨w.heap.size, 1, none⟩) (.inl rfl) (.slice A3 x.Methods.length c3)) ?_
  intro W hW
  exact ⟨x, _, rfl, ⟨_, gm, rfl, (HM.out.low (by omega)).chg hW (by rintro k rfl; left; omega)⟩, hss, below_chg (((Below.refl w.heap.size w).alloc (Nat.le_refl _) _).trans (HC2.out.base.mono (by simp))) hW (by omega) (by rintro _ rfl; exact Nat.le_refl _)⟩
set_option maxHeartbeats 6400000 in
theorem spec_DrawMadeBy_calls (v : Value) (b : List UInt8) (w : World) (hr : RdW w (.s b.length (b.flatMap eByte)) v) (hz : b.length ≤ 1048576) :
    Calls Try.prog 22 #[v] w fun e w' => ∃ x us, e = .returned (.agg us.toArray) ∧ RdLW w' (eScript x) us ∧ SmallS x ∧ Below w.heap.size w w' := by
  obtain ⟨A0, c0, rfl, -⟩ := hr.slice
  have HN := Lib.hid (spec_DrawIsScript_calls _ b (w.alloc (.cells #[.string ⟨#[]⟩, .slice none 0 0] 51)) (hr.alloc _) hz)
  have HK0 := Lib.hid (Blk.new w 51 #[.string ⟨#[]⟩, .slice none 0 0])
  clear hr
  go_enter Try.func22, Try.ntmps22
  go_wp2_with fail
  refine HN.out.mono ?_
  rintro e w2 ⟨x, us, rfl, hsa, hss, hb2⟩
  simp only [size_alloc] at hsa
  obtain ⟨v, gm, rfl, hm⟩ := hsa
  have hm2 := hm
  obtain ⟨css, _, h2, -, -⟩ := hm2
  obtain ⟨A3, c3, rfl⟩ := ownsRow_sl h2
  have HM := Lib.hid hm
  have HK2 := Lib.hid (HK0.out.below hb2)
  have hs2 := hb2.size
  simp only [size_alloc] at hs2
  have HB := Lib.hid (((Below.refl w.heap.size w).alloc (Nat.le_refl _) _).trans (hb2.mono (by simp)))
  clear hm h2 hb2 HN HK0
  obtain ⟨kr, jr⟩ := HK2.out.rules
  have lr := HK2.out.lt
  go_wp2
  refine post_cell (w0 := w2) (fun k => k = w.heap.size) Try.results22 w.heap.size #[.string x.Name, .slice A3 x.Methods.length c3] _ rfl (Blk.eq ((HK2.out.set_ 0 (.string x.Name)).set_ 1 (.slice A3 x.Methods.length c3)) (by simp)) Try.underlying51 rfl (by kernel_rfl) rfl (((Chg.refl (· = w.heap.size) _).setCell (p := ⟨w.heap.size, 0, none⟩) (.inl rfl) (.string x.Name)).setCell (p := ⟨w.heap.size, 1, none⟩) (.inl rfl) (.slice A3 x.Methods.length c3)) ?_
  intro W hW
  have hl := hss.2.1
  exact ⟨x, _, rfl, ScrAt.rd (L := w.heap.size + 1) ⟨_, gm, rfl, (HM.out.low (L' := w.heap.size + 1) (by omega)).chg hW (by rintro k rfl; left; omega)⟩ (by omega), hss, below_chg HB.out hW (by omega) (by rintro _ rfl; exact Nat.le_refl _)⟩

end Go.Proofs.Ytiohoeafdaihpaa
