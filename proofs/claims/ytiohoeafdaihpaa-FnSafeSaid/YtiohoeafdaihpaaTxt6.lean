import Derived.Test.YtiohoeafdaihpaaProg
import Derived.Test.YtiohoeafdaihpaaTypes
import Derived.StillTailTactics
import Derived.Deep.CutBlock
import Derived.Deep.CutRange
import Derived.Laws.OwnMore
import Derived.Deep.AppendLies
import Derived.Deep.RegionWith
import Derived.Deep.RegionHeld3
import Derived.Laws.IdiomStrings
import Derived.Test.YtiohoeafdaihpaaAppend
import Derived.Laws.StructEq
import Derived.Lib.SliceRun
import Derived.Shelf.RegionOpenPlain
import Derived.Test.YtiohoeafdaihpaaTxt4
import Derived.Test.YtiohoeafdaihpaaDrawG3
import Derived.Test.YtiohoeafdaihpaaOrders
namespace Go.Proofs.Ytiohoeafdaihpaa
open Go.RowKit
set_option linter.unusedVariables false
set_option linter.unusedSimpArgs false

theorem ownsRow_set {w : World} {base : Nat} {e : TypeId} {sz n r c : Nat} {xs : List Value} (h : w.ownsRow base e sz (.slice (some ⟨r, 0, none⟩) n c) n xs) (j : Nat) (u : Value) :
    (w.setCell ⟨r, j, none⟩ u).ownsRow base e sz (.slice (some ⟨r, 0, none⟩) n c) n (xs.set j u) := by
  refine ⟨by rw [List.length_set]; exact h.1, ?_⟩
  rcases h.2 with ⟨h0, _⟩ | ⟨g, cap, cur, hv, hb, hg, hn, hc, hcs, ht⟩
  · injection h0 with h0; cases h0
  · have hv2 := hv
    injection hv with h0 h1 h2
    injection h0 with h0
    injection h0 with h0
    subst h0 h2
    refine .inr ⟨_, _, cur.setIfInBounds j u, rfl, hb, Blk.set_ (show Blk w _ e cur from hg) j u, hn, hc, by rw [Array.size_setIfInBounds]; exact hcs, ?_⟩
    rw [Array.toList_setIfInBounds, List.take_set, ht]
/-- the methods of the script that is being read -/
def MSt (B g0 : Nat) (w : World) (ms : List GMethod) (A1 : Option Addr) (c1 : Nat) : Prop :=
  (ms = [] ∧ A1 = none ∧ c1 = 0) ∨
  ∃ (init : List GMethod) (last : GMethod) (r : Nat) (css : List (List Value)) (Al : Option Addr) (cl : Nat), ms = init ++ [last] ∧ A1 = some ⟨r, 0, none⟩ ∧ r ≠ g0 ∧ css.length = init.length ∧
    w.ownsRow B 29 2 (.slice (some ⟨r, 0, none⟩) (init.length + 1) c1) (init.length + 1) (css.flatMap id ++ [.string last.Name, .slice Al last.Code.length cl]) ∧
    w.ownsRow B 47 6 (.slice Al last.Code.length cl) last.Code.length (last.Code.flatMap vsInstr) ∧
    (∀ k, (Value.slice Al last.Code.length cl).ownBlock = some k → k ≠ g0 ∧ k ≠ r) ∧
    ∀ (j : Nat) y, init[j]? = some y → ∃ cs, css[j]? = some cs ∧ RdL (fun k => B ≤ k ∧ k < w.heap.size ∧ k ≠ g0 ∧ k ≠ r ∧ (Value.slice Al last.Code.length cl).ownBlock ≠ some k) w (eMethod y) cs
/-- the library that is being read: one script, in the block g0 -/
def LSt (B : Nat) (w : World) (g0 cap : Nat) (nm : ByteArray) (ms : List GMethod) : Prop :=
  ∃ (cur : Array Value) (A1 : Option Addr) (c1 : Nat), B ≤ g0 ∧ SlOk 1 cap ∧ Blk w g0 51 cur ∧ cur[0]? = some (.string nm) ∧ cur[1]? = some (.slice A1 ms.length c1) ∧ MSt B g0 w ms A1 c1
theorem MSt.below {B g0 : Nat} {w w' : World} {ms : List GMethod} {A1 : Option Addr} {c1 : Nat} (h : MSt B g0 w ms A1 c1) (hb : Below w.heap.size w w') : MSt B g0 w' ms A1 c1 := by
  rcases h with h | ⟨init, last, r, css, Al, cl, h1, h2, h3, h4, h5, h6, h7, h8⟩
  · exact .inl h
  · refine .inr ⟨init, last, r, css, Al, cl, h1, h2, h3, h4, ownsRow_below h5 hb, ownsRow_below h6 hb, h7, fun j y hy => ?_⟩
    obtain ⟨cs, hc, hr⟩ := h8 j y hy
    exact ⟨cs, hc, RdL.mono (fun k hk => ⟨hk.1, Nat.lt_of_lt_of_le hk.2.1 hb.size, hk.2.2⟩) _ _ (RdL.keep (fun k hk => hb.block k hk.2.1) _ _ hr)⟩
theorem LSt.below {B : Nat} {w w' : World} {g0 cap : Nat} {nm : ByteArray} {ms : List GMethod} (h : LSt B w g0 cap nm ms) (hb : Below w.heap.size w w') : LSt B w' g0 cap nm ms := by
  obtain ⟨cur, A1, c1, h1, h2, h3, h4, h5, h6⟩ := h
  exact ⟨cur, A1, c1, h1, h2, h3.below hb, h4, h5, h6.below hb⟩
theorem code_rdS {B : Nat} {w : World} {m : GMethod} {Al : Option Addr} {cl : Nat} (ho : w.ownsRow B 47 6 (.slice Al m.Code.length cl) m.Code.length (m.Code.flatMap vsInstr)) (hl : m.Code.length ≤ 1048576) :
    RdL (fun k => B ≤ k ∧ k < w.heap.size ∧ (Value.slice Al m.Code.length cl).ownBlock = some k) w (eMethod m) [.string m.Name, .slice Al m.Code.length cl] := by
  obtain ⟨fp, hO, _, hfp⟩ := ownRow_own' vals_eInstr ho (by omega)
  unfold eMethod
  refine RdL_cons.2 ⟨_, _, rfl, Rd_v.2 rfl, RdL_cons.2 ⟨_, _, rfl, ?_, RdL_nil.2 rfl⟩⟩
  exact Rd.mono (fun k hk => ⟨(hfp k hk).1, Own.lt _ _ _ hO k hk, (hfp k hk).2⟩) _ _ (Own.rd _ _ _ hO)
theorem LSt.rd {B : Nat} {w : World} {g0 cap : Nat} {nm : ByteArray} {ms : List GMethod} (h : LSt B w g0 cap nm ms) (hl : ms.length ≤ 100) (hm : ∀ m, m ∈ ms → m.Code.length ≤ 1000) :
    RdW w (.s 1 (eScript ⟨nm, ms⟩)) (.slice (some ⟨g0, 0, none⟩) 1 cap) := by
  obtain ⟨cur, A1, c1, h1, h2, h3, h4, h5, h6⟩ := h
  have hms : RdW w (.s ms.length (ms.flatMap eMethod)) (.slice A1 ms.length c1) := by
    rcases h6 with ⟨rfl, rfl, rfl⟩ | ⟨init, last, r, css, Al, cl, rfl, rfl, q3, q4, q5, q6, q7, q8⟩
    · exact rd_none _
    · have hlen : (init ++ [last]).length = init.length + 1 := by rw [List.length_append]; rfl
      rw [hlen] at hl ⊢
      refine rd_own_cells q5 (by omega) ?_
      rw [List.flatMap_append]
      refine RdL.append _ _ _ _ (rdL_flatI q4 (fun j y hy => ?_)) ?_
      · obtain ⟨cs, hc, hr⟩ := q8 j y hy
        exact ⟨cs, hc, RdL.mono (fun k hk => hk.2.1) _ _ hr⟩
      · rw [List.flatMap_cons, List.flatMap_nil, List.append_nil]
        exact RdL.mono (fun k hk => hk.2.1) _ _ (code_rdS q6 (by have := hm last (by simp); omega))
  rw [RdW, Rd]
  refine ⟨_, _, rfl, h2, .inr ⟨⟨g0, 0, none⟩, [.string nm, .slice A1 ms.length c1], rfl, h3.lt, fun k x hk => ?_, mkrd_eScript (x := ⟨nm, ms⟩) hms⟩⟩
  rw [add_zero_own, h3.cell]
  match k, hk with
  | 0, hk => injection hk with hk; subst hk; exact h4
  | 1, hk => injection hk with hk; subst hk; exact h5
  | k + 2, hk => simp at hk
/-- behind a line with a method's name -/
theorem lst_method {B : Nat} {w1 w3 : World} {g0 cap : Nat} {nm nm2 : ByteArray} {ms : List GMethod} {cur : Array Value} {A1 : Option Addr} {c1 gg cap1 : Nat} (hB : B ≤ g0) (hcap : SlOk 1 cap) (hk : Blk w1 g0 51 cur)
    (h0 : cur[0]? = some (.string nm)) (h1 : cur[1]? = some (.slice A1 ms.length c1)) (hm : MSt B g0 w1 ms A1 c1) (hl : ∀ m, m ∈ ms → m.Code.length ≤ 1000)
    (hg : w1.grownBy w3 (Value.slice A1 ms.length c1).ownBlock) (hat : (Value.slice A1 ms.length c1).ownBlock = some gg ∨ gg = w1.heap.size)
    (ho : ∀ xs, w1.ownsRow B 29 2 (.slice A1 ms.length c1) ms.length xs → w3.ownsRow B 29 2 (.slice (some ⟨gg, 0, none⟩) (ms.length + 1) cap1) (ms.length + 1) (xs ++ [.string nm2, .slice none 0 0])) :
    LSt B (w3.setCell ⟨g0, 1, none⟩ (.slice (some ⟨gg, 0, none⟩) (ms.length + 1) cap1)) g0 cap nm (ms ++ [⟨nm2, []⟩]) := by
  have hlt := hk.lt
  have hlen : (ms ++ [(⟨nm2, []⟩ : GMethod)]).length = ms.length + 1 := by rw [List.length_append]; rfl
  have hne : ∀ k, (Value.slice A1 ms.length c1).ownBlock = some k → k ≠ g0 := by
    intro k hk2
    rcases hm with ⟨_, rfl, _⟩ | ⟨init, last, r, css, Al, cl, _, rfl, q3, _⟩
    · simp [Value.ownBlock] at hk2
    · simp only [Value.ownBlock, Option.some.injEq] at hk2; omega
  have hggn : gg ≠ g0 := by rcases hat with h | h; exact hne gg h; omega
  have hk3 : Blk w3 g0 51 cur := hk.chg (grown_chg hg) (fun h => hne _ h rfl)
  have hsz := hg.size
  have hcs : Chg (· = g0) w3 (w3.setCell ⟨g0, 1, none⟩ (.slice (some ⟨gg, 0, none⟩) (ms.length + 1) cap1)) := (Chg.refl (· = g0) w3).setCell (p := ⟨g0, 1, none⟩) (.inl rfl) _
  have hs1 : 1 < cur.size := by
    rcases Nat.lt_or_ge 1 cur.size with h | h
    · exact h
    · rw [Array.getElem?_eq_none h] at h1; cases h1
  refine ⟨cur.setIfInBounds 1 (.slice (some ⟨gg, 0, none⟩) (ms.length + 1) cap1), some ⟨gg, 0, none⟩, cap1, hB, hcap, hk3.set_ 1 _, ?_, ?_, ?_⟩
  · rw [Array.getElem?_setIfInBounds_ne (by omega)]; exact h0
  · rw [Array.getElem?_setIfInBounds_self_of_lt hs1, hlen]
  · rcases hm with ⟨rfl, rfl, rfl⟩ | ⟨init, last, r, css, Al, cl, rfl, rfl, q3, q4, q5, q6, q7, q8⟩
    · refine .inr ⟨[], ⟨nm2, []⟩, gg, [], none, 0, rfl, rfl, hggn, rfl, ?_, World.ownsRow_nil _ _ _ _, by intro k hk; simp [Value.ownBlock] at hk, by intro j y hy; simp at hy⟩
      have h := ho [] (World.ownsRow_nil _ _ _ _)
      exact ownsRow_keep h hcs (fun k hk2 e => by simp only [Value.ownBlock, Option.some.injEq] at hk2; omega)
    · have hlen2 : (init ++ [last]).length = init.length + 1 := by rw [List.length_append]; rfl
      simp only [hlen2] at ho hg hat hne ⊢
      have h := ho _ q5
      have hrg : ∀ k, k < w1.heap.size → k ≠ r → k ≠ gg := by
        intro k hk2 hk3 e
        rcases hat with h | h
        · simp only [Value.ownBlock, Option.some.injEq] at h; omega
        · omega
      have keepR : ∀ (y : GMethod) (cs : List Value), RdL (fun k => B ≤ k ∧ k < w1.heap.size ∧ k ≠ g0 ∧ k ≠ r) w1 (eMethod y) cs → RdL (fun k => B ≤ k ∧ k < (w3.setCell ⟨g0, 1, none⟩ (.slice (some ⟨gg, 0, none⟩) (init.length + 1 + 1) cap1)).heap.size ∧ k ≠ g0 ∧ k ≠ gg ∧ (Value.slice none 0 0).ownBlock ≠ some k) (w3.setCell ⟨g0, 1, none⟩ (.slice (some ⟨gg, 0, none⟩) (init.length + 1 + 1) cap1)) (eMethod y) cs := by
        intro y cs hr
        refine RdL.mono (fun k hk2 => ⟨hk2.1, Nat.lt_of_lt_of_le hk2.2.1 (Nat.le_trans hsz (by simp [World.setCell])), hk2.2.2.1, hrg k hk2.2.1 hk2.2.2.2, by simp [Value.ownBlock]⟩) _ _ (RdL.keep (fun k hk2 => ?_) _ _ hr)
        have e1 := hg.block k hk2.2.1 (fun e => by simp only [Value.ownBlock, Option.some.injEq] at e; omega)
        have e2 := (((Chg.refl (· = g0) w3).setCell (p := ⟨g0, 1, none⟩) (.inl rfl) (.slice (some ⟨gg, 0, none⟩) (init.length + 1 + 1) cap1))).block k (Nat.lt_of_lt_of_le hk2.2.1 hsz) (fun e => hk2.2.2.1 e)
        exact e2.trans e1
      refine .inr ⟨init ++ [last], ⟨nm2, []⟩, gg, css ++ [[.string last.Name, .slice Al last.Code.length cl]], none, 0, rfl, rfl, hggn, by rw [List.length_append, hlen2, q4]; rfl, ?_, World.ownsRow_nil _ _ _ _, by intro k hk; simp [Value.ownBlock] at hk, fun j y hy => ?_⟩
      · rw [List.flatMap_append, hlen2]
        simp only [List.flatMap_cons, List.flatMap_nil, List.append_nil, id]
        exact ownsRow_keep h ((Chg.refl (· = g0) w3).setCell (p := ⟨g0, 1, none⟩) (.inl rfl) _) (fun k hk2 e => by simp only [Value.ownBlock, Option.some.injEq] at hk2; omega)
      · by_cases hj : j < init.length
        · rw [List.getElem?_append_left hj] at hy
          obtain ⟨cs, hc, hr⟩ := q8 j y hy
          exact ⟨cs, by rw [List.getElem?_append_left (by omega)]; exact hc, keepR y cs (RdL.mono (fun k hk2 => ⟨hk2.1, hk2.2.1, hk2.2.2.1, hk2.2.2.2.1⟩) _ _ hr)⟩
        · rw [List.getElem?_append_right (by omega)] at hy
          have hj0 : j - init.length = 0 := by
            rcases Nat.eq_zero_or_pos (j - init.length) with h | h
            · exact h
            · rw [List.getElem?_eq_none (by simp; omega)] at hy; cases hy
          rw [hj0] at hy
          injection hy with hy
          subst hy
          refine ⟨[.string last.Name, .slice Al last.Code.length cl], by rw [List.getElem?_append_right (by omega), q4, hj0]; rfl, keepR last _ (RdL.mono (fun k hk2 => ⟨hk2.1, hk2.2.1, (q7 k hk2.2.2).1, (q7 k hk2.2.2).2⟩) _ _ (code_rdS q6 (by have := hl last (by simp); omega)))⟩
/-- behind a line with an instruction -/
theorem lst_instr {B : Nat} {w1 w3 : World} {g0 cap : Nat} {nm : ByteArray} {init : List GMethod} {last : GMethod} {y : GInstr} {cur : Array Value} {r c1 gg cap1 : Nat} {css : List (List Value)} {Al : Option Addr} {cl : Nat} (hB : B ≤ g0) (hcap : SlOk 1 cap) (hk : Blk w1 g0 51 cur)
    (h0 : cur[0]? = some (.string nm)) (h1 : cur[1]? = some (.slice (some ⟨r, 0, none⟩) (init.length + 1) c1)) (q3 : r ≠ g0) (q4 : css.length = init.length)
    (q5 : w1.ownsRow B 29 2 (.slice (some ⟨r, 0, none⟩) (init.length + 1) c1) (init.length + 1) (css.flatMap id ++ [.string last.Name, .slice Al last.Code.length cl]))
    (q7 : ∀ k, (Value.slice Al last.Code.length cl).ownBlock = some k → k ≠ g0 ∧ k ≠ r)
    (q8 : ∀ (j : Nat) y, init[j]? = some y → ∃ cs, css[j]? = some cs ∧ RdL (fun k => B ≤ k ∧ k < w1.heap.size ∧ k ≠ g0 ∧ k ≠ r ∧ (Value.slice Al last.Code.length cl).ownBlock ≠ some k) w1 (eMethod y) cs)
    (hg : w1.grownBy w3 (Value.slice Al last.Code.length cl).ownBlock) (hat : (Value.slice Al last.Code.length cl).ownBlock = some gg ∨ gg = w1.heap.size)
    (ho : w3.ownsRow B 47 6 (.slice (some ⟨gg, 0, none⟩) (last.Code.length + 1) cap1) (last.Code.length + 1) (last.Code.flatMap vsInstr ++ vsInstr y)) :
    LSt B (w3.setCell ⟨r, init.length * 2 + 1, none⟩ (.slice (some ⟨gg, 0, none⟩) (last.Code.length + 1) cap1)) g0 cap nm (init ++ [⟨last.Name, last.Code ++ [y]⟩]) := by
  have hlt := hk.lt
  have hrlt := (q5.lt r rfl).2
  have hlen : (init ++ [(⟨last.Name, last.Code ++ [y]⟩ : GMethod)]).length = init.length + 1 := by rw [List.length_append]; rfl
  have hcl : (last.Code ++ [y]).length = last.Code.length + 1 := by rw [List.length_append]; rfl
  have hgg : gg ≠ g0 ∧ gg ≠ r := by
    rcases hat with h | h
    · exact q7 gg h
    · omega
  have hsz := hg.size
  have hcs : Chg (· = r) w3 (w3.setCell ⟨r, init.length * 2 + 1, none⟩ (.slice (some ⟨gg, 0, none⟩) (last.Code.length + 1) cap1)) := (Chg.refl (· = r) w3).setCell (p := ⟨r, init.length * 2 + 1, none⟩) (.inl rfl) _
  have hk3 : Blk w3 g0 51 cur := hk.chg (grown_chg hg) (fun h => (q7 _ h).1 rfl)
  refine ⟨cur, some ⟨r, 0, none⟩, c1, hB, hcap, hk3.chg hcs (fun h => q3 h.symm), h0, by rw [hlen]; exact h1, .inr ⟨init, ⟨last.Name, last.Code ++ [y]⟩, r, css, some ⟨gg, 0, none⟩, cap1, rfl, rfl, q3, q4, ?_, ?_, ?_, ?_⟩⟩
  · have h5 := ownsRow_set (ownsRow_keep q5 (grown_chg hg) (fun k hk2 e => by simp only [Value.ownBlock, Option.some.injEq] at hk2; exact (q7 _ e).2 hk2.symm)) (init.length * 2 + 1) (.slice (some ⟨gg, 0, none⟩) (last.Code.length + 1) cap1)
    have hfl : (css.flatMap id).length = init.length * 2 := by
      have h := q5.1
      rw [List.length_append] at h
      simp at h ⊢
      omega
    rw [List.set_append_right _ _ (by omega), hfl, show init.length * 2 + 1 - init.length * 2 = 1 from by omega] at h5
    dsimp only
    rw [hcl]
    exact h5
  · dsimp only
    rw [hcl, List.flatMap_append, List.flatMap_cons, List.flatMap_nil, List.append_nil]
    exact ownsRow_keep ho hcs (fun k hk2 e => by simp only [Value.ownBlock, Option.some.injEq] at hk2; omega)
  · intro k hk2
    simp only [Value.ownBlock, Option.some.injEq] at hk2
    omega
  · intro j z hz
    obtain ⟨cs, hc, hr⟩ := q8 j z hz
    have hne2 : ∀ k, k < w1.heap.size → (Value.slice Al last.Code.length cl).ownBlock ≠ some k → gg ≠ k := by
      intro k hk2 hk3 e
      rcases hat with h | h
      · exact hk3 (by rw [h, e])
      · omega
    have hr2 := RdL.keep (w' := w3.setCell ⟨r, init.length * 2 + 1, none⟩ (.slice (some ⟨gg, 0, none⟩) (last.Code.length + 1) cap1)) (fun k hk2 => (hcs.block k (Nat.lt_of_lt_of_le hk2.2.1 hsz) (fun e => hk2.2.2.2.1 e)).trans (hg.block k hk2.2.1 (fun e => hk2.2.2.2.2 e.symm))) _ _ hr
    refine ⟨cs, hc, RdL.mono (fun k hk2 => ⟨hk2.1, Nat.lt_of_lt_of_le hk2.2.1 (Nat.le_trans hsz hcs.size), hk2.2.2.1, hk2.2.2.2.1, fun e => ?_⟩) _ _ hr2⟩
    simp only [Value.ownBlock, Option.some.injEq] at e
    exact hne2 k hk2.2.1 hk2.2.2.2.2 e

end Go.Proofs.Ytiohoeafdaihpaa
