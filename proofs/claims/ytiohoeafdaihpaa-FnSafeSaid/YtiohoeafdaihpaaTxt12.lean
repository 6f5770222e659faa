import Derived.Test.YtiohoeafdaihpaaProg
import Derived.Test.YtiohoeafdaihpaaTypes
import Derived.StillTailTactics
import Derived.Deep.CutBlock
import Derived.Deep.CutRange
import Derived.Laws.OwnMore
import Derived.Deep.AppendLies
import Derived.Deep.RegionWith
import Derived.Deep.RegionHeld3
import Derived.Laws.IdiomStrings
import Derived.Test.YtiohoeafdaihpaaAppend
import Derived.Laws.StructEq
import Derived.Lib.SliceRun
import Derived.Shelf.RegionOpenPlain
import Derived.Test.YtiohoeafdaihpaaTxt9
import Derived.Test.YtiohoeafdaihpaaDrawG3
namespace Go.Proofs.Ytiohoeafdaihpaa
open Go.RowKit
set_option linter.unusedVariables false
set_option linter.unusedSimpArgs false

theorem d4_0 : D4 0 := .inl rfl
theorem d4_1 : D4 1 := .inr (.inl rfl)
theorem d4_2 : D4 2 := .inr (.inr (.inl rfl))
theorem d4_3 : D4 3 := .inr (.inr (.inr rfl))
instance (n : Int) : Decidable (D4 n) := by unfold D4; exact inferInstance
instance decOk (xs : List ByteArray) (i : Nat) : Decidable (okNum xs i) := by
  unfold okNum
  cases xs[i]? with
  | none => exact isTrue (by intro s h; cases h)
  | some t => exact decidable_of_iff (t = dig 0 ∨ t = dig 1 ∨ t = dig 2 ∨ t = dig 3) ⟨fun h s hs => by injection hs with hs; subst hs; exact h, fun h => h t rfl⟩
/-- the checks of a line, as one Bool -/
def lineB (s : ByteArray) (y : GInstr) : Bool :=
  decide (1 ≤ y.Op ∧ y.Op ≤ 10) && (instrB y && (decide (D4 y.A) && (decide (D4 y.B) && (decide (D4 y.C ∨ y.C = -1) && (decide (D4 y.D ∨ y.D = -1) && (decide (y.Op = 5 → D4 y.C) && (decide (y.Name.size ≤ 7) &&
  (decide (fmtI y = s) && (decide ((splitB s 32)[0]? = some (opNm y.Op)) && (decide (numAt (splitB s 32) 1 = y.A) && (decide (okNum (splitB s 32) 1) && (decide (okNum (splitB s 32) 2 ∨ y.Op = 7) && (decide (okNum (splitB s 32) 3 ∨ y.Op = 6) && (decide (okNum (splitB s 32) 4) && (decide (okNum (splitB s 32) 5) &&
  (decide (y.Op = 4 ∨ y.Op = 10 → y.B = 0 ∧ y.C = 0 ∧ y.D = 0 ∧ y.Name = ⟨#[]⟩) && (decide (y.Op = 5 → y.B = numAt (splitB s 32) 2 ∧ y.C = numAt (splitB s 32) 3 ∧ y.D = 0 ∧ y.Name = ⟨#[]⟩) &&
  (decide (y.Op = 6 → y.B = numAt (splitB s 32) 2 ∧ y.C = numAt (splitB s 32) 4 ∧ y.D = numAt (splitB s 32) 5 ∧ (splitB s 32)[3]? = some y.Name) &&
  (decide (y.Op = 7 → y.B = 0 ∧ y.C = numAt (splitB s 32) 3 ∧ y.D = numAt (splitB s 32) 4 ∧ (splitB s 32)[2]? = some y.Name) &&
  decide (¬ (y.Op = 4 ∨ y.Op = 10) → y.Op ≠ 5 → y.Op ≠ 6 → y.Op ≠ 7 → y.B = numAt (splitB s 32) 2 ∧ y.C = 0 ∧ y.D = 0 ∧ y.Name = ⟨#[]⟩))))))))))))))))))))
theorem goodI_of {y : GInstr} {s : ByteArray} (h : lineB s y = true) : GoodI y := by
  simp only [lineB, Bool.and_eq_true, decide_eq_true_eq] at h
  obtain ⟨h1, h2, h3, h4, h5, h6, h7, h8, _⟩ := h
  exact ⟨h1, h2, h3, h4, h5, h6, h7, h8⟩
theorem lineI_of {y : GInstr} {s : ByteArray} (h : lineB s y = true) : LineI s y := by
  have hg := goodI_of h
  simp only [lineB, Bool.and_eq_true, decide_eq_true_eq] at h
  obtain ⟨_, _, _, _, _, _, _, _, h9, h10, h11, h12, h13, h14, h15, h16, h17, h18, h19, h20, h21⟩ := h
  exact ⟨hg, h9, h10, h11, h12, h13, h14, h15, h16, h17, h18, h19, h20, h21⟩
/-- the checks of a text, as one Bool -/
def lnB (s : ByteArray) : Ln → Bool
  | .meth nm => decide (7 < s.size ∧ s.size ≤ 4000 ∧ s.extract 0 7 = kwM ∧ s.extract 7 s.size = nm)
  | .ins y => lineB s y && (decide (s.size ≤ 4000) && (((s.extract 0 7).toList == ([115, 99, 114, 105, 112, 116, 32] : List UInt8)) == false && ((s.extract 0 7).toList == ([109, 101, 116, 104, 111, 100, 32] : List UInt8)) == false))
theorem lineOk_of {s : ByteArray} : ∀ {l : Ln}, lnB s l = true → lineOk s l
  | .meth nm, h => by
    simp only [lnB, decide_eq_true_eq] at h
    exact h
  | .ins y, h => by
    simp only [lnB, Bool.and_eq_true, decide_eq_true_eq, beq_iff_eq] at h
    exact ⟨lineI_of h.1, h.2.1, h.2.2.1, h.2.2.2⟩
def isIns : Ln → Bool
  | .meth _ => false
  | .ins _ => true
def libB (t nm : ByteArray) (ls : List Ln) : Bool :=
  decide (t.size ≤ 4000) && (decide ((splitB t 10).length = ls.length + 2) && (decide (ls.length ≤ 100) &&
  ((match (splitB t 10)[0]? with | some s => decide (7 < s.size ∧ s.size ≤ 4000 ∧ s.extract 0 7 = kwS ∧ s.extract 7 s.size = nm) | none => false) &&
  (((List.range ls.length).all fun j => match ls[j]?, (splitB t 10)[j + 1]? with | some l, some s => lnB s l && (!(isIns l) || !(addAll (ls.take j)).isEmpty) | _, _ => false) &&
  (((List.range (ls.length + 1)).all fun j => decide ((addAll (ls.take j)).length ≤ 6) && (addAll (ls.take j)).all fun m => decide (m.Code.length ≤ 13)) &&
  (scriptB ⟨nm, addAll ls⟩ && (decide (nm.size ≤ 7) && (((addAll ls).all fun m => decide (m.Name.size ≤ 7) && m.Code.all fun y => lineB (fmtI y) y) && (libraryB [⟨nm, addAll ls⟩] && decide (fmtS ⟨nm, addAll ls⟩ = t))))))))))
theorem libT_of {t nm : ByteArray} {ls : List Ln} (h : libB t nm ls = true) : LibT t nm ls := by
  simp only [libB, Bool.and_eq_true, decide_eq_true_eq, List.all_eq_true, List.mem_range] at h
  obtain ⟨h1, h2, h3, h4, h5, h6, h7, h8, h9, h10, h11⟩ := h
  have hb : ∀ (j : Nat), j ≤ ls.length → (addAll (ls.take j)).length ≤ 6 ∧ ∀ m, m ∈ addAll (ls.take j) → m.Code.length ≤ 13 := fun j hj => by
    have h := h6 j (by omega)
    exact ⟨h.1, fun m hm => h.2 m hm⟩
  have hx : ∀ (j : Nat) l, ls[j]? = some l → ∃ s, (splitB t 10)[j + 1]? = some s ∧ lnB s l = true ∧ (isIns l = true → addAll (ls.take j) ≠ []) := by
    intro j l hl
    have h := h5 j (List.getElem?_eq_some_iff.1 hl).1
    rw [hl] at h
    cases hs : (splitB t 10)[j + 1]? with
    | none => rw [hs] at h; cases h
    | some s =>
      rw [hs] at h
      simp only [Bool.and_eq_true, Bool.or_eq_true, Bool.not_eq_true'] at h
      refine ⟨s, rfl, h.1, fun hi he => ?_⟩
      rcases h.2 with h | h
      · rw [hi] at h; cases h
      · rw [he] at h; cases h
  refine ⟨h1, h2, h3, ?_, fun j l hl => ?_, fun j y hl => ?_, hb, ⟨h7, h8, ?_, fun m hm => ?_, by rw [h11]; exact h1⟩, h10, h11⟩
  · cases hs : (splitB t 10)[0]? with
    | none => rw [hs] at h4; cases h4
    | some s => rw [hs] at h4; exact ⟨s, rfl, of_decide_eq_true h4⟩
  · obtain ⟨s, h, h', _⟩ := hx j l hl
    exact ⟨s, h, lineOk_of h'⟩
  · obtain ⟨s, _, _, h⟩ := hx j (.ins y) hl
    exact h rfl
  · have h := (hb ls.length (Nat.le_refl _)).1
    rw [List.take_length] at h
    exact h
  · have h := h9 m hm
    have hl := (hb ls.length (Nat.le_refl _)).2
    rw [List.take_length] at hl
    exact ⟨⟨h.1, hl m hm, fun y hy => (goodI_of (h.2 y hy)).nm⟩, fun y hy => goodI_of (h.2 y hy)⟩
def t_cell : ByteArray := ⟨#[115, 99, 114, 105, 112, 116, 32, 99, 101, 108, 108, 10, 109, 101, 116, 104, 111, 100, 32, 103, 101, 116, 10, 115, 108, 111, 116, 32, 48, 32, 48, 10, 114, 101, 116, 117, 114, 110, 32, 48, 10, 109, 101, 116, 104, 111, 100, 32, 115, 101, 116, 10, 97, 114, 103, 32, 48, 32, 48, 10, 115, 101, 116, 32, 48, 32, 48, 10, 114, 101, 116, 117, 114, 110, 32, 48, 10, 109, 101, 116, 104, 111, 100, 32, 97, 100, 100, 10, 115, 108, 111, 116, 32, 48, 32, 48, 10, 97, 114, 103, 32, 49, 32, 48, 10, 97, 100, 100, 32, 48, 32, 48, 32, 49, 10, 115, 101, 116, 32, 48, 32, 48, 10, 114, 101, 116, 117, 114, 110, 32, 48, 10]⟩
def ls_cell : List Ln := [.meth ⟨#[103, 101, 116]⟩, .ins ⟨3, 0, 0, 0, 0, ⟨#[]⟩⟩, .ins ⟨10, 0, 0, 0, 0, ⟨#[]⟩⟩, .meth ⟨#[115, 101, 116]⟩, .ins ⟨2, 0, 0, 0, 0, ⟨#[]⟩⟩, .ins ⟨8, 0, 0, 0, 0, ⟨#[]⟩⟩, .ins ⟨10, 0, 0, 0, 0, ⟨#[]⟩⟩, .meth ⟨#[97, 100, 100]⟩, .ins ⟨3, 0, 0, 0, 0, ⟨#[]⟩⟩, .ins ⟨2, 1, 0, 0, 0, ⟨#[]⟩⟩, .ins ⟨5, 0, 0, 1, 0, ⟨#[]⟩⟩, .ins ⟨8, 0, 0, 0, 0, ⟨#[]⟩⟩, .ins ⟨10, 0, 0, 0, 0, ⟨#[]⟩⟩]
set_option maxRecDepth 100000 in
theorem lib_cell : LibT t_cell ⟨#[99, 101, 108, 108]⟩ ls_cell := libT_of (by decide +kernel)
def t_proxy : ByteArray := ⟨#[115, 99, 114, 105, 112, 116, 32, 112, 114, 111, 120, 121, 10, 109, 101, 116, 104, 111, 100, 32, 103, 101, 116, 10, 115, 108, 111, 116, 32, 48, 32, 48, 10, 115, 101, 110, 100, 32, 49, 32, 48, 32, 103, 101, 116, 10, 114, 101, 116, 117, 114, 110, 32, 49, 10, 109, 101, 116, 104, 111, 100, 32, 115, 101, 116, 10, 97, 114, 103, 32, 48, 32, 48, 10, 115, 101, 116, 32, 48, 32, 48, 10, 109, 101, 116, 104, 111, 100, 32, 97, 100, 100, 10, 115, 108, 111, 116, 32, 48, 32, 48, 10, 97, 114, 103, 32, 49, 32, 48, 10, 115, 101, 110, 100, 32, 50, 32, 48, 32, 97, 100, 100, 32, 49, 10, 114, 101, 116, 117, 114, 110, 32, 50, 10, 109, 101, 116, 104, 111, 100, 32, 103, 111, 10, 97, 114, 103, 32, 48, 32, 48, 10, 115, 108, 111, 116, 32, 49, 32, 48, 10, 115, 101, 110, 100, 32, 50, 32, 48, 32, 103, 101, 116, 10, 115, 101, 110, 100, 32, 51, 32, 49, 32, 97, 100, 100, 32, 50, 10, 114, 101, 116, 117, 114, 110, 32, 51, 10]⟩
def ls_proxy : List Ln := [.meth ⟨#[103, 101, 116]⟩, .ins ⟨3, 0, 0, 0, 0, ⟨#[]⟩⟩, .ins ⟨6, 1, 0, (-1), (-1), ⟨#[103, 101, 116]⟩⟩, .ins ⟨10, 1, 0, 0, 0, ⟨#[]⟩⟩, .meth ⟨#[115, 101, 116]⟩, .ins ⟨2, 0, 0, 0, 0, ⟨#[]⟩⟩, .ins ⟨8, 0, 0, 0, 0, ⟨#[]⟩⟩, .meth ⟨#[97, 100, 100]⟩, .ins ⟨3, 0, 0, 0, 0, ⟨#[]⟩⟩, .ins ⟨2, 1, 0, 0, 0, ⟨#[]⟩⟩, .ins ⟨6, 2, 0, 1, (-1), ⟨#[97, 100, 100]⟩⟩, .ins ⟨10, 2, 0, 0, 0, ⟨#[]⟩⟩, .meth ⟨#[103, 111]⟩, .ins ⟨2, 0, 0, 0, 0, ⟨#[]⟩⟩, .ins ⟨3, 1, 0, 0, 0, ⟨#[]⟩⟩, .ins ⟨6, 2, 0, (-1), (-1), ⟨#[103, 101, 116]⟩⟩, .ins ⟨6, 3, 1, 2, (-1), ⟨#[97, 100, 100]⟩⟩, .ins ⟨10, 3, 0, 0, 0, ⟨#[]⟩⟩]
set_option maxRecDepth 100000 in
theorem lib_proxy : LibT t_proxy ⟨#[112, 114, 111, 120, 121]⟩ ls_proxy := libT_of (by decide +kernel)
def t_maker : ByteArray := ⟨#[115, 99, 114, 105, 112, 116, 32, 109, 97, 107, 101, 114, 10, 109, 101, 116, 104, 111, 100, 32, 109, 97, 107, 101, 10, 97, 114, 103, 32, 48, 32, 48, 10, 110, 101, 119, 32, 49, 32, 99, 101, 108, 108, 32, 48, 10, 114, 101, 116, 117, 114, 110, 32, 49, 10, 109, 101, 116, 104, 111, 100, 32, 103, 111, 10, 97, 114, 103, 32, 48, 32, 48, 10, 115, 101, 108, 102, 32, 49, 10, 115, 101, 110, 100, 32, 50, 32, 49, 32, 109, 97, 107, 101, 32, 48, 10, 115, 101, 110, 100, 32, 51, 32, 50, 32, 103, 101, 116, 10, 114, 101, 116, 117, 114, 110, 32, 51, 10, 109, 101, 116, 104, 111, 100, 32, 103, 101, 116, 10, 115, 101, 108, 102, 32, 48, 10, 114, 101, 116, 117, 114, 110, 32, 48, 10]⟩
def ls_maker : List Ln := [.meth ⟨#[109, 97, 107, 101]⟩, .ins ⟨2, 0, 0, 0, 0, ⟨#[]⟩⟩, .ins ⟨7, 1, 0, 0, (-1), ⟨#[99, 101, 108, 108]⟩⟩, .ins ⟨10, 1, 0, 0, 0, ⟨#[]⟩⟩, .meth ⟨#[103, 111]⟩, .ins ⟨2, 0, 0, 0, 0, ⟨#[]⟩⟩, .ins ⟨4, 1, 0, 0, 0, ⟨#[]⟩⟩, .ins ⟨6, 2, 1, 0, (-1), ⟨#[109, 97, 107, 101]⟩⟩, .ins ⟨6, 3, 2, (-1), (-1), ⟨#[103, 101, 116]⟩⟩, .ins ⟨10, 3, 0, 0, 0, ⟨#[]⟩⟩, .meth ⟨#[103, 101, 116]⟩, .ins ⟨4, 0, 0, 0, 0, ⟨#[]⟩⟩, .ins ⟨10, 0, 0, 0, 0, ⟨#[]⟩⟩]
set_option maxRecDepth 100000 in
theorem lib_maker : LibT t_maker ⟨#[109, 97, 107, 101, 114]⟩ ls_maker := libT_of (by decide +kernel)

end Go.Proofs.Ytiohoeafdaihpaa
namespace Go.Proofs.Ytiohoeafdaihpaa
open Go.RowKit
set_option linter.unusedVariables false
set_option linter.unusedSimpArgs false

theorem script_cells {S : Nat → Prop} {w : World} {x : GScript} {g cap : Nat} (h : Rd S w (.s 1 (eScript x)) (.slice (some ⟨g, 0, none⟩) 1 cap)) :
    ∃ A c, w.cell? ⟨g, 0, none⟩ = some (.string x.Name) ∧ w.cell? ⟨g, 1, none⟩ = some (.slice A x.Methods.length c) ∧ S g ∧ RdL S w (eScript x) [.string x.Name, .slice A x.Methods.length c] := by
  rw [Rd] at h
  obtain ⟨A, c, h0, _, h | ⟨ad, us, h1, h2, h3, h4⟩⟩ := h
  · cases h
  · injection h0 with h0 _ _
    rw [h1] at h0
    injection h0 with h0
    subst h0
    have h5 := h4
    unfold eScript at h4
    obtain ⟨u, us', rfl, h6, h7⟩ := RdL_cons.1 h4
    obtain ⟨u2, us2, rfl, h8, h9⟩ := RdL_cons.1 h7
    have h10 := Rd_v.1 h6
    subst h10
    have h11 := RdL_nil.1 h9
    subst h11
    have h12 := h8
    rw [Rd] at h12
    obtain ⟨A', c', rfl, _⟩ := h12
    refine ⟨A', c', ?_, ?_, h2, h5⟩
    · have h := h3 0 _ rfl; rw [add_zero_own] at h; exact h
    · have h := h3 1 _ rfl; rw [add_zero_own] at h; exact h
theorem rd_chg {S : Nat → Prop} {w w' : World} {l : Lf} {u : Value} {U : Nat → Prop} {B : Nat} (h : Rd (fun k => B ≤ k ∧ k < w.heap.size) w l u) (hc : Chg U w w') (hU : ∀ k, U k → k < B) : Rd (fun k => B ≤ k ∧ k < w'.heap.size) w' l u :=
  Rd.mono (fun k hk => ⟨hk.1, Nat.lt_of_lt_of_le hk.2 hc.size⟩) _ _ (Rd.keep (fun k hk => hc.block k hk.2 (fun e => by have := hU k e; have := hk.1; omega)) _ _ h)
theorem rdl_chg {w w' : World} {l : List Lf} {u : List Value} {U : Nat → Prop} {B : Nat} (h : RdL (fun k => B ≤ k ∧ k < w.heap.size) w l u) (hc : Chg U w w') (hU : ∀ k, U k → k < B) : RdL (fun k => B ≤ k ∧ k < w'.heap.size) w' l u :=
  RdL.mono (fun k hk => ⟨hk.1, Nat.lt_of_lt_of_le hk.2 hc.size⟩) _ _ (RdL.keep (fun k hk => hc.block k hk.2 (fun e => by have := hU k e; have := hk.1; omega)) _ _ h)
theorem rdl_bel {B : Nat} {w w' : World} {l : List Lf} {u : List Value} (h : RdL (fun k => B ≤ k ∧ k < w.heap.size) w l u) (hb : Below w.heap.size w w') : RdL (fun k => B ≤ k ∧ k < w'.heap.size) w' l u :=
  RdL.mono (fun k hk => ⟨hk.1, Nat.lt_of_lt_of_le hk.2 hb.size⟩) _ _ (RdL.keep (fun k hk => hb.block k hk.2) _ _ h)
theorem rd_bel {B B' : Nat} {w w' : World} {l : Lf} {u : Value} (h : Rd (fun k => B' ≤ k ∧ k < w.heap.size) w l u) (hB : B ≤ B') (hb : Below w.heap.size w w') : Rd (fun k => B ≤ k ∧ k < w'.heap.size) w' l u :=
  Rd.mono (fun k hk => ⟨Nat.le_trans hB hk.1, Nat.lt_of_lt_of_le hk.2 hb.size⟩) _ _ (Rd.keep (fun k hk => hb.block k hk.2) _ _ h)
theorem below_to_chg {g : Nat} {a b : World} (h : Below a.heap.size a b) : Chg (· = g) a b := ⟨h.os, h.tape, h.output, h.size, fun i hi _ => h.block i hi⟩
/-- a list of scripts that a draw returned -/
def LibAt (B g n : Nat) (w : World) (xs : List GScript) (v : Value) : Prop :=
  ∃ css : List (List Value), css.length = n ∧ xs.length = n ∧ w.ownsRow g 51 2 v n (css.flatMap id) ∧ ∀ (j : Nat) x, xs[j]? = some x → ∃ cs, css[j]? = some cs ∧ RdL (fun k => B ≤ k ∧ k < g) w (eScript x) cs
set_option maxHeartbeats 12800000 in
set_option maxRecDepth 100000 in
theorem spec_l8Library_calls (W0 : World) (g : Nat) (w : World) (hC : Cur W0 g w) :
    Calls Try.prog 56 #[.pointer (some ⟨g, 0, none⟩)] w fun e w' => ∃ (xs : List GScript) (gl : Nat), e = .returned (.slice (some ⟨gl, 0, none⟩) 3 3) ∧ LibAt w.heap.size gl 3 w' xs (.slice (some ⟨gl, 0, none⟩) 3 3) ∧ gl < w'.heap.size ∧ w.heap.size ≤ gl ∧ (∀ x, x ∈ xs → SmallS x) ∧ Cur W0 g w' ∧ Chg (· = g) w w' := by
  have hlt := hC.lt
  have hge := hC.ge
  have hW0 := hC.base.size
  have HC0 := Lib.hid hC
  clear hC
  go_enter Try.func56, Try.ntmps56
  simp only [List.append_eq, List.cons_append, List.nil_append]
  go_wp2_with fail
  refine (spec_ParseLibrary_calls t_cell _ ls_cell lib_cell _).mono ?_
  rintro e w1 ⟨g1, cap1, rfl, hr, hb⟩
  have hz1 := hb.size
  have HR1 := Lib.hid hr
  have HC1 := Lib.hid (HC0.out.below hb)
  have HG1 : Hid (Chg (· = g) w w1) := below_to_chg hb
  clear hr hb
  go_wp2_with fail
  refine (spec_ParseLibrary_calls t_proxy _ ls_proxy lib_proxy _).mono ?_
  rintro e w2 ⟨g2, cap2, rfl, hr, hb⟩
  have hz2 := hb.size
  have HR2 := Lib.hid hr
  replace HR1 := Lib.hid (rd_bel HR1.out (Nat.le_refl _) hb)
  have HC2 := Lib.hid (HC1.out.below hb)
  have HG2 : Hid (Chg (· = g) w w2) := HG1.out.trans (below_to_chg hb)
  clear hr hb
  go_wp2_with fail
  refine (spec_ParseLibrary_calls t_maker _ ls_maker lib_maker _).mono ?_
  rintro e w3 ⟨g3, cap3, rfl, hr, hb⟩
  have hz3 := hb.size
  have HR3 := Lib.hid hr
  replace HR1 := Lib.hid (rd_bel HR1.out (Nat.le_refl _) hb)
  replace HR2 := Lib.hid (rd_bel HR2.out (Nat.le_refl _) hb)
  have HC3 := Lib.hid (HC2.out.below hb)
  have HG3 : Hid (Chg (· = g) w w3) := HG2.out.trans (below_to_chg hb)
  clear hr hb
  go_wp2_with fail
  refine (spec_l1Once_calls W0 g _ _ HC3.out).mono ?_
  rintro e w4 ⟨t, rfl, hc, hg⟩
  have hz4 := hg.size
  have HC4 := Lib.hid hc
  have HG4 := Lib.hid (HG3.out.trans hg)
  replace HR1 := Lib.hid (rd_chg (S := fun _ => True) HR1.out hg (by rintro k rfl; omega))
  replace HR2 := Lib.hid (rd_chg (S := fun _ => True) HR2.out hg (by rintro k rfl; omega))
  replace HR3 := Lib.hid (rd_chg (S := fun _ => True) HR3.out hg (by rintro k rfl; omega))
  clear hc hg HC3 HG3 HG1 HG2 HC1 HC2
  have HS1 := Lib.hid lib_cell.good.small
  have HS2 := Lib.hid lib_proxy.good.small
  have HS3 := Lib.hid lib_maker.good.small
  rcases t with _ | _
  · skip
    replace HR2 : Hid (Rd (fun k => w.heap.size ≤ k ∧ k < w4.heap.size) w4 _ _) := Rd.mono (fun k hk => ⟨by have := hk.1; omega, hk.2⟩) _ _ HR2.out
    replace HR3 : Hid (Rd (fun k => w.heap.size ≤ k ∧ k < w4.heap.size) w4 _ _) := Rd.mono (fun k hk => ⟨by have := hk.1; omega, hk.2⟩) _ _ HR3.out
    obtain ⟨A1, d1, p1, p2, p3, p4⟩ := script_cells HR1.out
    obtain ⟨A2, d2, q1, q2, q3, q4⟩ := script_cells HR2.out
    obtain ⟨A3, d3, r1, r2, r3, r4⟩ := script_cells HR3.out
    have hwz : IntKind.i64.wrap 0 = 0 := by rw [IntKind.wrap_i64]; omega
    have HP4 := Lib.hid p4
    have HQ4 := Lib.hid q4
    have HR4 := Lib.hid r4
    have hsize : w.heap.size ≤ w4.heap.size := by omega
    clear p3 q3 r3 p4 q4 r4
    go_wp2
    refine wp_region_U (fun wq => wq.cell? ⟨g1, 0, none⟩ = some (.string (⟨⟨#[99, 101, 108, 108]⟩, addAll ls_cell⟩ : GScript).Name) ∧ wq.cell? ⟨g1, 1, none⟩ = some (.slice A1 (⟨⟨#[99, 101, 108, 108]⟩, addAll ls_cell⟩ : GScript).Methods.length d1) ∧ wq.cell? ⟨g2, 0, none⟩ = some (.string (⟨⟨#[112, 114, 111, 120, 121]⟩, addAll ls_proxy⟩ : GScript).Name) ∧ wq.cell? ⟨g2, 1, none⟩ = some (.slice A2 (⟨⟨#[112, 114, 111, 120, 121]⟩, addAll ls_proxy⟩ : GScript).Methods.length d2) ∧ wq.cell? ⟨g3, 0, none⟩ = some (.string (⟨⟨#[109, 97, 107, 101, 114]⟩, addAll ls_maker⟩ : GScript).Name) ∧ wq.cell? ⟨g3, 1, none⟩ = some (.slice A3 (⟨⟨#[109, 97, 107, 101, 114]⟩, addAll ls_maker⟩ : GScript).Methods.length d3)) [9, 10] (by kernel_rfl) ?_
    have hH_ := (⟨p1, p2, q1, q2, r1, r2⟩ : (fun wq : World => wq.cell? ⟨g1, 0, none⟩ = some (.string (⟨⟨#[99, 101, 108, 108]⟩, addAll ls_cell⟩ : GScript).Name) ∧ wq.cell? ⟨g1, 1, none⟩ = some (.slice A1 (⟨⟨#[99, 101, 108, 108]⟩, addAll ls_cell⟩ : GScript).Methods.length d1) ∧ wq.cell? ⟨g2, 0, none⟩ = some (.string (⟨⟨#[112, 114, 111, 120, 121]⟩, addAll ls_proxy⟩ : GScript).Name) ∧ wq.cell? ⟨g2, 1, none⟩ = some (.slice A2 (⟨⟨#[112, 114, 111, 120, 121]⟩, addAll ls_proxy⟩ : GScript).Methods.length d2) ∧ wq.cell? ⟨g3, 0, none⟩ = some (.string (⟨⟨#[109, 97, 107, 101, 114]⟩, addAll ls_maker⟩ : GScript).Name) ∧ wq.cell? ⟨g3, 1, none⟩ = some (.slice A3 (⟨⟨#[109, 97, 107, 101, 114]⟩, addAll ls_maker⟩ : GScript).Methods.length d3)) w4.drew)
    refine wpAnyU_take (i := 0) (v := ?_) rfl (by kernel_rfl) (by kernel_rfl) (by kernel_rfl) (by kernel_rfl) (fun _ _ _ h => h) (Or.inl ⟨by rfl, ?_⟩) hH_ ?_
    rotate_left
    · (intro w hSw; (try dsimp only at hSw); go_simp <;> with_reducible rfl)
    simp only [Act.put, List.setIfInBounds_toArray, List.set_cons_zero, List.set_cons_succ]
    refine wpAnyU_take (i := 1) (v := ?_) rfl (by kernel_rfl) (by kernel_rfl) (by kernel_rfl) (by kernel_rfl) (fun _ _ _ h => h) (Or.inl ⟨by rfl, ?_⟩) hH_ ?_
    rotate_left
    · (intro w hSw; (try dsimp only at hSw); go_simp <;> with_reducible rfl)
    simp only [Act.put, List.setIfInBounds_toArray, List.set_cons_zero, List.set_cons_succ]
    refine wpAnyU_take (i := 2) (v := ?_) rfl (by kernel_rfl) (by kernel_rfl) (by kernel_rfl) (by kernel_rfl) (fun _ _ _ h => h) (Or.inl ⟨by rfl, ?_⟩) hH_ ?_
    rotate_left
    · (intro w hSw; (try dsimp only at hSw); (have c0_ := hSw.1; have c1_ := hSw.2.1; go_simp <;> with_reducible rfl))
    simp only [Act.put, List.setIfInBounds_toArray, List.set_cons_zero, List.set_cons_succ]
    refine wpAnyU_take (i := 3) (v := ?_) rfl (by kernel_rfl) (by kernel_rfl) (by kernel_rfl) (by kernel_rfl) (fun _ _ _ h => h) (Or.inl ⟨by rfl, ?_⟩) hH_ ?_
    rotate_left
    · (intro w hSw; (try dsimp only at hSw); go_simp <;> with_reducible rfl)
    simp only [Act.put, List.setIfInBounds_toArray, List.set_cons_zero, List.set_cons_succ]
    refine wpAnyU_take (i := 4) (v := ?_) rfl (by kernel_rfl) (by kernel_rfl) (by kernel_rfl) (by kernel_rfl) (fun _ _ _ h => h) (Or.inl ⟨by rfl, ?_⟩) hH_ ?_
    rotate_left
    · (intro w hSw; (try dsimp only at hSw); go_simp <;> with_reducible rfl)
    simp only [Act.put, List.setIfInBounds_toArray, List.set_cons_zero, List.set_cons_succ]
    refine wpAnyU_take (i := 5) (v := ?_) rfl (by kernel_rfl) (by kernel_rfl) (by kernel_rfl) (by kernel_rfl) (fun _ _ _ h => h) (Or.inl ⟨by rfl, ?_⟩) hH_ ?_
    rotate_left
    · (intro w hSw; (try dsimp only at hSw); (have c0_ := hSw.2.2.1; have c1_ := hSw.2.2.2.1; go_simp <;> with_reducible rfl))
    simp only [Act.put, List.setIfInBounds_toArray, List.set_cons_zero, List.set_cons_succ]
    refine wpAnyU_take (i := 6) (v := ?_) rfl (by kernel_rfl) (by kernel_rfl) (by kernel_rfl) (by kernel_rfl) (fun _ _ _ h => h) (Or.inl ⟨by rfl, ?_⟩) hH_ ?_
    rotate_left
    · (intro w hSw; (try dsimp only at hSw); go_simp <;> with_reducible rfl)
    simp only [Act.put, List.setIfInBounds_toArray, List.set_cons_zero, List.set_cons_succ]
    refine wpAnyU_take (i := 7) (v := ?_) rfl (by kernel_rfl) (by kernel_rfl) (by kernel_rfl) (by kernel_rfl) (fun _ _ _ h => h) (Or.inl ⟨by rfl, ?_⟩) hH_ ?_
    rotate_left
    · (intro w hSw; (try dsimp only at hSw); go_simp <;> with_reducible rfl)
    simp only [Act.put, List.setIfInBounds_toArray, List.set_cons_zero, List.set_cons_succ]
    refine wpAnyU_take (i := 8) (v := ?_) rfl (by kernel_rfl) (by kernel_rfl) (by kernel_rfl) (by kernel_rfl) (fun _ _ _ h => h) (Or.inl ⟨by rfl, ?_⟩) hH_ ?_
    rotate_left
    · (intro w hSw; (try dsimp only at hSw); (have c0_ := hSw.2.2.2.2.1; have c1_ := hSw.2.2.2.2.2; go_simp <;> with_reducible rfl))
    simp only [Act.put, List.setIfInBounds_toArray, List.set_cons_zero, List.set_cons_succ]
    refine wpAnyU_one (i := 9) (by kernel_rfl) rfl (fun K hK => ?_)
    go_simp
    refine hK.out _ _ ?_ (fun hH1_ => ?_)
    · exact by first | exact ⟨cell_alloc_keep hH_.1, cell_alloc_keep hH_.2.1, cell_alloc_keep hH_.2.2.1, cell_alloc_keep hH_.2.2.2.1, cell_alloc_keep hH_.2.2.2.2.1, cell_alloc_keep hH_.2.2.2.2.2⟩
    clear hK K hH_
    have hH_ := hH1_
    clear hH1_
    refine wpAnyU_one' (i := 10) (by kernel_rfl) rfl (by kernel_rfl) (fun K hK => ?_)
    go_simp
    refine hK.out _ _ ?_
    clear hK K
    refine wpAnyU_done (by kernel_rfl) ?_ _
    go_wp2
    go_ret
    have hal : Below w4.drew.heap.size w4.drew (w4.drew.alloc (.cells #[.string (⟨⟨#[99, 101, 108, 108]⟩, addAll ls_cell⟩ : GScript).Name, .slice A1 (⟨⟨#[99, 101, 108, 108]⟩, addAll ls_cell⟩ : GScript).Methods.length d1, .string (⟨⟨#[112, 114, 111, 120, 121]⟩, addAll ls_proxy⟩ : GScript).Name, .slice A2 (⟨⟨#[112, 114, 111, 120, 121]⟩, addAll ls_proxy⟩ : GScript).Methods.length d2, .string (⟨⟨#[109, 97, 107, 101, 114]⟩, addAll ls_maker⟩ : GScript).Name, .slice A3 (⟨⟨#[109, 97, 107, 101, 114]⟩, addAll ls_maker⟩ : GScript).Methods.length d3] 51)) := (Below.refl _ _).alloc (Nat.le_refl _) _
    have keep : ∀ (x : GScript) (us : List Value), RdL (fun k => w.heap.size ≤ k ∧ k < w4.heap.size) w4 (eScript x) us → RdL (fun k => w.heap.size ≤ k ∧ k < w4.heap.size) (w4.drew.alloc (.cells #[.string (⟨⟨#[99, 101, 108, 108]⟩, addAll ls_cell⟩ : GScript).Name, .slice A1 (⟨⟨#[99, 101, 108, 108]⟩, addAll ls_cell⟩ : GScript).Methods.length d1, .string (⟨⟨#[112, 114, 111, 120, 121]⟩, addAll ls_proxy⟩ : GScript).Name, .slice A2 (⟨⟨#[112, 114, 111, 120, 121]⟩, addAll ls_proxy⟩ : GScript).Methods.length d2, .string (⟨⟨#[109, 97, 107, 101, 114]⟩, addAll ls_maker⟩ : GScript).Name, .slice A3 (⟨⟨#[109, 97, 107, 101, 114]⟩, addAll ls_maker⟩ : GScript).Methods.length d3] 51)) (eScript x) us := fun x us h => RdL.keep (w := w4) (fun k hk => hal.block k hk.2) _ _ h
    refine ⟨[(⟨⟨#[99, 101, 108, 108]⟩, addAll ls_cell⟩ : GScript), (⟨⟨#[112, 114, 111, 120, 121]⟩, addAll ls_proxy⟩ : GScript), (⟨⟨#[109, 97, 107, 101, 114]⟩, addAll ls_maker⟩ : GScript)], w4.heap.size, rfl, ⟨[[.string (⟨⟨#[99, 101, 108, 108]⟩, addAll ls_cell⟩ : GScript).Name, .slice A1 (⟨⟨#[99, 101, 108, 108]⟩, addAll ls_cell⟩ : GScript).Methods.length d1], [.string (⟨⟨#[112, 114, 111, 120, 121]⟩, addAll ls_proxy⟩ : GScript).Name, .slice A2 (⟨⟨#[112, 114, 111, 120, 121]⟩, addAll ls_proxy⟩ : GScript).Methods.length d2], [.string (⟨⟨#[109, 97, 107, 101, 114]⟩, addAll ls_maker⟩ : GScript).Name, .slice A3 (⟨⟨#[109, 97, 107, 101, 114]⟩, addAll ls_maker⟩ : GScript).Methods.length d3]], rfl, rfl, World.ownsRow_lit w4.drew #[.string (⟨⟨#[99, 101, 108, 108]⟩, addAll ls_cell⟩ : GScript).Name, .slice A1 (⟨⟨#[99, 101, 108, 108]⟩, addAll ls_cell⟩ : GScript).Methods.length d1, .string (⟨⟨#[112, 114, 111, 120, 121]⟩, addAll ls_proxy⟩ : GScript).Name, .slice A2 (⟨⟨#[112, 114, 111, 120, 121]⟩, addAll ls_proxy⟩ : GScript).Methods.length d2, .string (⟨⟨#[109, 97, 107, 101, 114]⟩, addAll ls_maker⟩ : GScript).Name, .slice A3 (⟨⟨#[109, 97, 107, 101, 114]⟩, addAll ls_maker⟩ : GScript).Methods.length d3] 3 (Nat.le_refl _) (by decide) rfl, fun j x hx => ?_⟩, ?_, hsize, ?_, HC4.out.below ((Below.refl _ _).drew.trans hal), HG4.out.drew.alloc _⟩
    · match j, hx with
      | 0, hx => injection hx with hx; subst hx; exact ⟨_, rfl, keep _ _ HP4.out⟩
      | 1, hx => injection hx with hx; subst hx; exact ⟨_, rfl, keep _ _ HQ4.out⟩
      | 2, hx => injection hx with hx; subst hx; exact ⟨_, rfl, keep _ _ HR4.out⟩
      | j + 3, hx => simp at hx
    · show w4.heap.size < (w4.heap.push _).size
      rw [Array.size_push]; exact Nat.lt_succ_self _
    · intro x hx
      simp only [List.mem_cons, List.not_mem_nil, or_false] at hx
      rcases hx with rfl | rfl | rfl
      · exact HS1.out
      · exact HS2.out
      · exact HS3.out
  · skip
    go_wp2_with fail
    refine (spec_l8Safe_calls W0 g _ _ HC4.out).mono ?_
    rintro e w5 ⟨m0, us, rfl, hma, hnn, hyl, hyf, hc, hg⟩
    have hz5 := hg.size
    have HC5 := Lib.hid hc
    have HG5 := Lib.hid (HG4.out.trans hg)
    have HSM0 := Lib.hid (small_of hnn (by decide) hyl hyf)
    have hrs := hma.rdS (by omega)
    obtain ⟨E0, f0, F0, rfl, -, -, -⟩ := hma
    have HM0 : Hid (RdL (fun k => w.heap.size ≤ k ∧ k < w5.heap.size) w5 (eMethod m0) [.string m0.Name, .slice E0 m0.Code.length f0]) := RdL.mono (fun k hk => ⟨by have := hk.1; omega, hk.2⟩) _ _ hrs
    replace HR1 := Lib.hid (rd_chg (S := fun _ => True) HR1.out hg (by rintro k rfl; omega))
    replace HR3 := Lib.hid (rd_chg (S := fun _ => True) HR3.out hg (by rintro k rfl; omega))
    clear hc hg hnn hyl hyf hrs
    go_wp2_with fail
    refine (spec_l8Safe_calls W0 g _ _ HC5.out).mono ?_
    rintro e w6 ⟨m1, us, rfl, hma, hnn, hyl, hyf, hc, hg⟩
    have hz6 := hg.size
    have HC6 := Lib.hid hc
    have HG6 := Lib.hid (HG5.out.trans hg)
    have HSM1 := Lib.hid (small_of hnn (by decide) hyl hyf)
    have hrs := hma.rdS (by omega)
    obtain ⟨E1, f1, F1, rfl, -, -, -⟩ := hma
    have HM1 : Hid (RdL (fun k => w.heap.size ≤ k ∧ k < w6.heap.size) w6 (eMethod m1) [.string m1.Name, .slice E1 m1.Code.length f1]) := RdL.mono (fun k hk => ⟨by have := hk.1; omega, hk.2⟩) _ _ hrs
    replace HR1 := Lib.hid (rd_chg (S := fun _ => True) HR1.out hg (by rintro k rfl; omega))
    replace HR3 := Lib.hid (rd_chg (S := fun _ => True) HR3.out hg (by rintro k rfl; omega))
    replace HM0 := Lib.hid (rdl_chg HM0.out hg (by rintro k rfl; omega))
    clear hc hg hnn hyl hyf hrs
    go_wp2_with fail
    refine (spec_l8Safe_calls W0 g _ _ HC6.out).mono ?_
    rintro e w7 ⟨m2, us, rfl, hma, hnn, hyl, hyf, hc, hg⟩
    have hz7 := hg.size
    have HC7 := Lib.hid hc
    have HG7 := Lib.hid (HG6.out.trans hg)
    have HSM2 := Lib.hid (small_of hnn (by decide) hyl hyf)
    have hrs := hma.rdS (by omega)
    obtain ⟨E2, f2, F2, rfl, -, -, -⟩ := hma
    have HM2 : Hid (RdL (fun k => w.heap.size ≤ k ∧ k < w7.heap.size) w7 (eMethod m2) [.string m2.Name, .slice E2 m2.Code.length f2]) := RdL.mono (fun k hk => ⟨by have := hk.1; omega, hk.2⟩) _ _ hrs
    replace HR1 := Lib.hid (rd_chg (S := fun _ => True) HR1.out hg (by rintro k rfl; omega))
    replace HR3 := Lib.hid (rd_chg (S := fun _ => True) HR3.out hg (by rintro k rfl; omega))
    replace HM0 := Lib.hid (rdl_chg HM0.out hg (by rintro k rfl; omega))
    replace HM1 := Lib.hid (rdl_chg HM1.out hg (by rintro k rfl; omega))
    clear hc hg hnn hyl hyf hrs
    go_wp2_with fail
    refine (spec_l8Safe_calls W0 g _ _ HC7.out).mono ?_
    rintro e w8 ⟨m3, us, rfl, hma, hnn, hyl, hyf, hc, hg⟩
    have hz8 := hg.size
    have HC8 := Lib.hid hc
    have HG8 := Lib.hid (HG7.out.trans hg)
    have HSM3 := Lib.hid (small_of hnn (by decide) hyl hyf)
    have hrs := hma.rdS (by omega)
    obtain ⟨E3, f3, F3, rfl, -, -, -⟩ := hma
    have HM3 : Hid (RdL (fun k => w.heap.size ≤ k ∧ k < w8.heap.size) w8 (eMethod m3) [.string m3.Name, .slice E3 m3.Code.length f3]) := RdL.mono (fun k hk => ⟨by have := hk.1; omega, hk.2⟩) _ _ hrs
    replace HR1 := Lib.hid (rd_chg (S := fun _ => True) HR1.out hg (by rintro k rfl; omega))
    replace HR3 := Lib.hid (rd_chg (S := fun _ => True) HR3.out hg (by rintro k rfl; omega))
    replace HM0 := Lib.hid (rdl_chg HM0.out hg (by rintro k rfl; omega))
    replace HM1 := Lib.hid (rdl_chg HM1.out hg (by rintro k rfl; omega))
    replace HM2 := Lib.hid (rdl_chg HM2.out hg (by rintro k rfl; omega))
    clear hc hg hnn hyl hyf hrs
    have hb9 : Below w8.heap.size w8 ((w8.alloc (.cells #[.string m0.Name, .slice E0 m0.Code.length f0, .string m1.Name, .slice E1 m1.Code.length f1, .string m2.Name, .slice E2 m2.Code.length f2, .string m3.Name, .slice E3 m3.Code.length f3] 29)).alloc (.cells #[.string ⟨#[112, 114, 111, 120, 121]⟩, .slice (some ⟨w8.heap.size, 0, none⟩) 4 4] 51)) := ((Below.refl _ _).alloc (Nat.le_refl _) _).alloc (by simp) _
    obtain ⟨w9, hw9⟩ : ∃ q, q = (w8.alloc (.cells #[.string m0.Name, .slice E0 m0.Code.length f0, .string m1.Name, .slice E1 m1.Code.length f1, .string m2.Name, .slice E2 m2.Code.length f2, .string m3.Name, .slice E3 m3.Code.length f3] 29)).alloc (.cells #[.string ⟨#[112, 114, 111, 120, 121]⟩, .slice (some ⟨w8.heap.size, 0, none⟩) 4 4] 51) := ⟨_, rfl⟩
    have hz9 : w9.heap.size = w8.heap.size + 2 := by rw [hw9]; simp
    have HO9 : Hid (w9.ownsRow w8.heap.size 29 2 (.slice (some ⟨w8.heap.size, 0, none⟩) 4 4) 4 (([[.string m0.Name, .slice E0 m0.Code.length f0], [.string m1.Name, .slice E1 m1.Code.length f1], [.string m2.Name, .slice E2 m2.Code.length f2], [.string m3.Name, .slice E3 m3.Code.length f3]] : List (List Value)).flatMap id)) := by
      rw [hw9]; exact (World.ownsRow_lit (e := 29) (size := 2) w8 #[.string m0.Name, .slice E0 m0.Code.length f0, .string m1.Name, .slice E1 m1.Code.length f1, .string m2.Name, .slice E2 m2.Code.length f2, .string m3.Name, .slice E3 m3.Code.length f3] 4 (Nat.le_refl _) (by decide) rfl).alloc _
    have HK9 : Hid (Blk w9 (w8.heap.size + 1) 51 #[.string ⟨#[112, 114, 111, 120, 121]⟩, .slice (some ⟨w8.heap.size, 0, none⟩) 4 4]) := by rw [hw9]; exact Blk.made (by simp)
    rw [← hw9] at hb9
    have hms : Rd (fun k => w.heap.size ≤ k ∧ k < w9.heap.size) w9 (.s 4 ([m0, m1, m2, m3].flatMap eMethod)) (.slice (some ⟨w8.heap.size, 0, none⟩) 4 4) := by
      refine rd_own_cellsS HO9.out (by omega) (fun k a b => ⟨by omega, b⟩) (rdL_flatS rfl (fun j y hy => ?_))
      match j, hy with
      | 0, hy => injection hy with hy; subst hy; exact ⟨_, rfl, rdl_bel HM0.out hb9⟩
      | 1, hy => injection hy with hy; subst hy; exact ⟨_, rfl, rdl_bel HM1.out hb9⟩
      | 2, hy => injection hy with hy; subst hy; exact ⟨_, rfl, rdl_bel HM2.out hb9⟩
      | 3, hy => injection hy with hy; subst hy; exact ⟨_, rfl, rdl_bel HM3.out hb9⟩
      | j + 4, hy => simp at hy
    have HR2' : Hid (Rd (fun k => w.heap.size ≤ k ∧ k < w9.heap.size) w9 (.s 1 (eScript (⟨⟨#[112, 114, 111, 120, 121]⟩, [m0, m1, m2, m3]⟩ : GScript))) (.slice (some ⟨w8.heap.size + 1, 0, none⟩) 1 1)) := by
      unfold Hid
      rw [Rd]
      refine ⟨_, _, rfl, ⟨Nat.le_refl _, by decide, by decide⟩, .inr ⟨⟨w8.heap.size + 1, 0, none⟩, [.string ⟨#[112, 114, 111, 120, 121]⟩, .slice (some ⟨w8.heap.size, 0, none⟩) 4 4], rfl, ⟨by show w.heap.size ≤ w8.heap.size + 1; omega, HK9.out.lt⟩, fun k x hk => ?_, RdL_cons.2 ⟨_, _, rfl, Rd_v.2 rfl, RdL_cons.2 ⟨_, _, rfl, hms, RdL_nil.2 rfl⟩⟩⟩⟩
      rw [add_zero_own, HK9.out.cell]
      match k, hk with
      | 0, hk => injection hk with hk; subst hk; rfl
      | 1, hk => injection hk with hk; subst hk; rfl
      | k + 2, hk => simp at hk
    have HS2' : Hid (SmallS (⟨⟨#[112, 114, 111, 120, 121]⟩, [m0, m1, m2, m3]⟩ : GScript)) := by
      refine ⟨by show (5 : Nat) ≤ 7; omega, by show (4 : Nat) ≤ 6; omega, fun m hm => ?_⟩
      have hm2 : m ∈ [m0, m1, m2, m3] := hm
      simp only [List.mem_cons, List.not_mem_nil, or_false] at hm2
      rcases hm2 with rfl | rfl | rfl | rfl
      · exact HSM0.out
      · exact HSM1.out
      · exact HSM2.out
      · exact HSM3.out
    replace HR1 := Lib.hid (rd_bel HR1.out (Nat.le_refl _) hb9)
    replace HR3 : Hid (Rd (fun k => w.heap.size ≤ k ∧ k < w9.heap.size) w9 _ _) := Lib.hid (rd_bel HR3.out (by omega) hb9)
    have HC9 := Lib.hid (HC8.out.below hb9)
    have HG9 := Lib.hid (HG8.out.trans (below_to_chg hb9))
    have hsz9 : w.heap.size ≤ w9.heap.size := by omega
    clear hms hb9 HO9 HK9 HM0 HM1 HM2 HM3 hz9
    go_upto_region 6 with fail
    rw [← hw9]
    clear hw9

    obtain ⟨A1, d1, p1, p2, p3, p4⟩ := script_cells HR1.out
    obtain ⟨A2, d2, q1, q2, q3, q4⟩ := script_cells HR2'.out
    obtain ⟨A3, d3, r1, r2, r3, r4⟩ := script_cells HR3.out
    have hwz : IntKind.i64.wrap 0 = 0 := by rw [IntKind.wrap_i64]; omega
    have HP4 := Lib.hid p4
    have HQ4 := Lib.hid q4
    have HR4 := Lib.hid r4
    have hsize : w.heap.size ≤ w9.heap.size := by omega
    clear p3 q3 r3 p4 q4 r4
    go_wp2
    refine wp_region_U (fun wq => wq.cell? ⟨g1, 0, none⟩ = some (.string (⟨⟨#[99, 101, 108, 108]⟩, addAll ls_cell⟩ : GScript).Name) ∧ wq.cell? ⟨g1, 1, none⟩ = some (.slice A1 (⟨⟨#[99, 101, 108, 108]⟩, addAll ls_cell⟩ : GScript).Methods.length d1) ∧ wq.cell? ⟨(w8.heap.size + 1), 0, none⟩ = some (.string (⟨⟨#[112, 114, 111, 120, 121]⟩, [m0, m1, m2, m3]⟩ : GScript).Name) ∧ wq.cell? ⟨(w8.heap.size + 1), 1, none⟩ = some (.slice A2 (⟨⟨#[112, 114, 111, 120, 121]⟩, [m0, m1, m2, m3]⟩ : GScript).Methods.length d2) ∧ wq.cell? ⟨g3, 0, none⟩ = some (.string (⟨⟨#[109, 97, 107, 101, 114]⟩, addAll ls_maker⟩ : GScript).Name) ∧ wq.cell? ⟨g3, 1, none⟩ = some (.slice A3 (⟨⟨#[109, 97, 107, 101, 114]⟩, addAll ls_maker⟩ : GScript).Methods.length d3)) [9, 10] (by kernel_rfl) ?_
    have hH_ := (⟨p1, p2, q1, q2, r1, r2⟩ : (fun wq : World => wq.cell? ⟨g1, 0, none⟩ = some (.string (⟨⟨#[99, 101, 108, 108]⟩, addAll ls_cell⟩ : GScript).Name) ∧ wq.cell? ⟨g1, 1, none⟩ = some (.slice A1 (⟨⟨#[99, 101, 108, 108]⟩, addAll ls_cell⟩ : GScript).Methods.length d1) ∧ wq.cell? ⟨(w8.heap.size + 1), 0, none⟩ = some (.string (⟨⟨#[112, 114, 111, 120, 121]⟩, [m0, m1, m2, m3]⟩ : GScript).Name) ∧ wq.cell? ⟨(w8.heap.size + 1), 1, none⟩ = some (.slice A2 (⟨⟨#[112, 114, 111, 120, 121]⟩, [m0, m1, m2, m3]⟩ : GScript).Methods.length d2) ∧ wq.cell? ⟨g3, 0, none⟩ = some (.string (⟨⟨#[109, 97, 107, 101, 114]⟩, addAll ls_maker⟩ : GScript).Name) ∧ wq.cell? ⟨g3, 1, none⟩ = some (.slice A3 (⟨⟨#[109, 97, 107, 101, 114]⟩, addAll ls_maker⟩ : GScript).Methods.length d3)) w9.drew)
    refine wpAnyU_take (i := 0) (v := ?_) rfl (by kernel_rfl) (by kernel_rfl) (by kernel_rfl) (by kernel_rfl) (fun _ _ _ h => h) (Or.inl ⟨by rfl, ?_⟩) hH_ ?_
    rotate_left
    · (intro w hSw; (try dsimp only at hSw); go_simp <;> with_reducible rfl)
    simp only [Act.put, List.setIfInBounds_toArray, List.set_cons_zero, List.set_cons_succ]
    refine wpAnyU_take (i := 1) (v := ?_) rfl (by kernel_rfl) (by kernel_rfl) (by kernel_rfl) (by kernel_rfl) (fun _ _ _ h => h) (Or.inl ⟨by rfl, ?_⟩) hH_ ?_
    rotate_left
    · (intro w hSw; (try dsimp only at hSw); go_simp <;> with_reducible rfl)
    simp only [Act.put, List.setIfInBounds_toArray, List.set_cons_zero, List.set_cons_succ]
    refine wpAnyU_take (i := 2) (v := ?_) rfl (by kernel_rfl) (by kernel_rfl) (by kernel_rfl) (by kernel_rfl) (fun _ _ _ h => h) (Or.inl ⟨by rfl, ?_⟩) hH_ ?_
    rotate_left
    · (intro w hSw; (try dsimp only at hSw); (have c0_ := hSw.1; have c1_ := hSw.2.1; go_simp <;> with_reducible rfl))
    simp only [Act.put, List.setIfInBounds_toArray, List.set_cons_zero, List.set_cons_succ]
    refine wpAnyU_take (i := 3) (v := ?_) rfl (by kernel_rfl) (by kernel_rfl) (by kernel_rfl) (by kernel_rfl) (fun _ _ _ h => h) (Or.inl ⟨by rfl, ?_⟩) hH_ ?_
    rotate_left
    · (intro w hSw; (try dsimp only at hSw); go_simp <;> with_reducible rfl)
    simp only [Act.put, List.setIfInBounds_toArray, List.set_cons_zero, List.set_cons_succ]
    refine wpAnyU_take (i := 4) (v := ?_) rfl (by kernel_rfl) (by kernel_rfl) (by kernel_rfl) (by kernel_rfl) (fun _ _ _ h => h) (Or.inl ⟨by rfl, ?_⟩) hH_ ?_
    rotate_left
    · (intro w hSw; (try dsimp only at hSw); go_simp <;> with_reducible rfl)
    simp only [Act.put, List.setIfInBounds_toArray, List.set_cons_zero, List.set_cons_succ]
    refine wpAnyU_take (i := 5) (v := ?_) rfl (by kernel_rfl) (by kernel_rfl) (by kernel_rfl) (by kernel_rfl) (fun _ _ _ h => h) (Or.inl ⟨by rfl, ?_⟩) hH_ ?_
    rotate_left
    · (intro w hSw; (try dsimp only at hSw); (have c0_ := hSw.2.2.1; have c1_ := hSw.2.2.2.1; go_simp <;> with_reducible rfl))
    simp only [Act.put, List.setIfInBounds_toArray, List.set_cons_zero, List.set_cons_succ]
    refine wpAnyU_take (i := 6) (v := ?_) rfl (by kernel_rfl) (by kernel_rfl) (by kernel_rfl) (by kernel_rfl) (fun _ _ _ h => h) (Or.inl ⟨by rfl, ?_⟩) hH_ ?_
    rotate_left
    · (intro w hSw; (try dsimp only at hSw); go_simp <;> with_reducible rfl)
    simp only [Act.put, List.setIfInBounds_toArray, List.set_cons_zero, List.set_cons_succ]
    refine wpAnyU_take (i := 7) (v := ?_) rfl (by kernel_rfl) (by kernel_rfl) (by kernel_rfl) (by kernel_rfl) (fun _ _ _ h => h) (Or.inl ⟨by rfl, ?_⟩) hH_ ?_
    rotate_left
    · (intro w hSw; (try dsimp only at hSw); go_simp <;> with_reducible rfl)
    simp only [Act.put, List.setIfInBounds_toArray, List.set_cons_zero, List.set_cons_succ]
    refine wpAnyU_take (i := 8) (v := ?_) rfl (by kernel_rfl) (by kernel_rfl) (by kernel_rfl) (by kernel_rfl) (fun _ _ _ h => h) (Or.inl ⟨by rfl, ?_⟩) hH_ ?_
    rotate_left
    · (intro w hSw; (try dsimp only at hSw); (have c0_ := hSw.2.2.2.2.1; have c1_ := hSw.2.2.2.2.2; go_simp <;> with_reducible rfl))
    simp only [Act.put, List.setIfInBounds_toArray, List.set_cons_zero, List.set_cons_succ]
    refine wpAnyU_one (i := 9) (by kernel_rfl) rfl (fun K hK => ?_)
    go_simp
    refine hK.out _ _ ?_ (fun hH1_ => ?_)
    · exact by first | exact ⟨cell_alloc_keep hH_.1, cell_alloc_keep hH_.2.1, cell_alloc_keep hH_.2.2.1, cell_alloc_keep hH_.2.2.2.1, cell_alloc_keep hH_.2.2.2.2.1, cell_alloc_keep hH_.2.2.2.2.2⟩
    clear hK K hH_
    have hH_ := hH1_
    clear hH1_
    refine wpAnyU_one' (i := 10) (by kernel_rfl) rfl (by kernel_rfl) (fun K hK => ?_)
    go_simp
    refine hK.out _ _ ?_
    clear hK K
    refine wpAnyU_done (by kernel_rfl) ?_ _
    go_wp2
    go_ret
    have hal : Below w9.drew.heap.size w9.drew (w9.drew.alloc (.cells #[.string (⟨⟨#[99, 101, 108, 108]⟩, addAll ls_cell⟩ : GScript).Name, .slice A1 (⟨⟨#[99, 101, 108, 108]⟩, addAll ls_cell⟩ : GScript).Methods.length d1, .string (⟨⟨#[112, 114, 111, 120, 121]⟩, [m0, m1, m2, m3]⟩ : GScript).Name, .slice A2 (⟨⟨#[112, 114, 111, 120, 121]⟩, [m0, m1, m2, m3]⟩ : GScript).Methods.length d2, .string (⟨⟨#[109, 97, 107, 101, 114]⟩, addAll ls_maker⟩ : GScript).Name, .slice A3 (⟨⟨#[109, 97, 107, 101, 114]⟩, addAll ls_maker⟩ : GScript).Methods.length d3] 51)) := (Below.refl _ _).alloc (Nat.le_refl _) _
    have keep : ∀ (x : GScript) (us : List Value), RdL (fun k => w.heap.size ≤ k ∧ k < w9.heap.size) w9 (eScript x) us → RdL (fun k => w.heap.size ≤ k ∧ k < w9.heap.size) (w9.drew.alloc (.cells #[.string (⟨⟨#[99, 101, 108, 108]⟩, addAll ls_cell⟩ : GScript).Name, .slice A1 (⟨⟨#[99, 101, 108, 108]⟩, addAll ls_cell⟩ : GScript).Methods.length d1, .string (⟨⟨#[112, 114, 111, 120, 121]⟩, [m0, m1, m2, m3]⟩ : GScript).Name, .slice A2 (⟨⟨#[112, 114, 111, 120, 121]⟩, [m0, m1, m2, m3]⟩ : GScript).Methods.length d2, .string (⟨⟨#[109, 97, 107, 101, 114]⟩, addAll ls_maker⟩ : GScript).Name, .slice A3 (⟨⟨#[109, 97, 107, 101, 114]⟩, addAll ls_maker⟩ : GScript).Methods.length d3] 51)) (eScript x) us := fun x us h => RdL.keep (w := w9) (fun k hk => hal.block k hk.2) _ _ h
    refine ⟨[(⟨⟨#[99, 101, 108, 108]⟩, addAll ls_cell⟩ : GScript), (⟨⟨#[112, 114, 111, 120, 121]⟩, [m0, m1, m2, m3]⟩ : GScript), (⟨⟨#[109, 97, 107, 101, 114]⟩, addAll ls_maker⟩ : GScript)], w9.heap.size, rfl, ⟨[[.string (⟨⟨#[99, 101, 108, 108]⟩, addAll ls_cell⟩ : GScript).Name, .slice A1 (⟨⟨#[99, 101, 108, 108]⟩, addAll ls_cell⟩ : GScript).Methods.length d1], [.string (⟨⟨#[112, 114, 111, 120, 121]⟩, [m0, m1, m2, m3]⟩ : GScript).Name, .slice A2 (⟨⟨#[112, 114, 111, 120, 121]⟩, [m0, m1, m2, m3]⟩ : GScript).Methods.length d2], [.string (⟨⟨#[109, 97, 107, 101, 114]⟩, addAll ls_maker⟩ : GScript).Name, .slice A3 (⟨⟨#[109, 97, 107, 101, 114]⟩, addAll ls_maker⟩ : GScript).Methods.length d3]], rfl, rfl, World.ownsRow_lit w9.drew #[.string (⟨⟨#[99, 101, 108, 108]⟩, addAll ls_cell⟩ : GScript).Name, .slice A1 (⟨⟨#[99, 101, 108, 108]⟩, addAll ls_cell⟩ : GScript).Methods.length d1, .string (⟨⟨#[112, 114, 111, 120, 121]⟩, [m0, m1, m2, m3]⟩ : GScript).Name, .slice A2 (⟨⟨#[112, 114, 111, 120, 121]⟩, [m0, m1, m2, m3]⟩ : GScript).Methods.length d2, .string (⟨⟨#[109, 97, 107, 101, 114]⟩, addAll ls_maker⟩ : GScript).Name, .slice A3 (⟨⟨#[109, 97, 107, 101, 114]⟩, addAll ls_maker⟩ : GScript).Methods.length d3] 3 (Nat.le_refl _) (by decide) rfl, fun j x hx => ?_⟩, ?_, hsize, ?_, HC9.out.below ((Below.refl _ _).drew.trans hal), HG9.out.drew.alloc _⟩
    · match j, hx with
      | 0, hx => injection hx with hx; subst hx; exact ⟨_, rfl, keep _ _ HP4.out⟩
      | 1, hx => injection hx with hx; subst hx; exact ⟨_, rfl, keep _ _ HQ4.out⟩
      | 2, hx => injection hx with hx; subst hx; exact ⟨_, rfl, keep _ _ HR4.out⟩
      | j + 3, hx => simp at hx
    · show w9.heap.size < (w9.heap.push _).size
      rw [Array.size_push]; exact Nat.lt_succ_self _
    · intro x hx
      simp only [List.mem_cons, List.not_mem_nil, or_false] at hx
      rcases hx with rfl | rfl | rfl
      · exact HS1.out
      · exact HS2'.out
      · exact HS3.out

end Go.Proofs.Ytiohoeafdaihpaa
namespace Go.Proofs.Ytiohoeafdaihpaa
open Go.RowKit
set_option linter.unusedVariables false
set_option linter.unusedSimpArgs false

theorem ScrAt.rdS {L : Nat} {w : World} {x : GScript} {us : List Value} (h : ScrAt L w x us) (hl : x.Methods.length ≤ 1048576) : RdL (fun k => L ≤ k ∧ k < w.heap.size) w (eScript x) us := by
  obtain ⟨v, gm, rfl, css, h1, h2, h3, h4⟩ := h
  obtain ⟨A, c, rfl⟩ := ownsRow_sl h2
  refine RdL_cons.2 ⟨_, _, rfl, Rd_v.2 rfl, RdL_cons.2 ⟨_, _, rfl, rd_own_cellsS h2 (by omega) (fun k a b => ⟨a, b⟩) (rdL_flatS h1 (fun j y hy => ?_)), RdL_nil.2 rfl⟩⟩
  obtain ⟨cs, hcs, hr⟩ := h4 j y hy
  exact ⟨cs, hcs, RdL.mono (fun k hk => ⟨hk.1, hk.2.1⟩) _ _ hr⟩
set_option maxHeartbeats 12800000 in
set_option maxRecDepth 100000 in
theorem spec_DrawAreSafe_calls (v : Value) (b : List UInt8) (w : World) (hr : RdW w (.s b.length (b.flatMap eByte)) v) (hz : b.length ≤ 1048576) :
    Calls Try.prog 21 #[v] w fun e w' => ∃ (xs : List GScript) (A : Option Addr) (c : Nat), e = .returned (.slice A xs.length c) ∧ RdW w' (.s xs.length (xs.flatMap eScript)) (.slice A xs.length c) ∧ xs.length ≤ 4 ∧ (∀ x, x ∈ xs → SmallS x) ∧ Below w.heap.size w w' := by
  obtain ⟨A0, c0, rfl, -⟩ := hr.slice
  have HN := Lib.hid (spec_l1New_calls _ b w hr hz)
  clear hr
  go_enter Try.func21, Try.ntmps21
  go_wp2_with fail
  refine HN.out.mono ?_
  rintro e w1 ⟨rfl, hc1, hb1⟩
  have HC1 := Lib.hid hc1
  have hs1 := hc1.lt
  clear hc1 hb1 HN
  go_wp2_with fail
  refine (spec_l8Library_calls w w.heap.size _ HC1.out).mono ?_
  rintro e w2 ⟨xs, gl, rfl, hlib, hgl, hgl2, hsm, hc2, hg2⟩
  have hs2 := hg2.size
  have HC2 := Lib.hid hc2
  have HL2 := Lib.hid hlib
  have HSM := Lib.hid hsm
  clear hc2 hg2 hlib hsm HC1
  go_wp2_with fail
  refine (spec_l1Once_calls w w.heap.size _ _ HC2.out).mono ?_
  rintro e w3 ⟨t, rfl, hc3, hg3⟩
  have hs3 := hg3.size
  have HC3 := Lib.hid hc3
  obtain ⟨css, q1, q2, q3, q4⟩ := HL2.out
  have HO3 := Lib.hid (ownsRow_keep q3 hg3 (fun k hk e => by simp only [Value.ownBlock, Option.some.injEq] at hk; omega))
  have HQ3 : Hid (∀ (j : Nat) x, xs[j]? = some x → ∃ cs, css[j]? = some cs ∧ RdL (fun k => w1.heap.size ≤ k ∧ k < gl) w3 (eScript x) cs) := by
    intro j x hx
    obtain ⟨cs, hcs, hr⟩ := q4 j x hx
    exact ⟨cs, hcs, RdL.keep (w := w2) (fun k hk => hg3.block k (by have := hk.2; omega) (by have := hk.1; omega)) _ _ hr⟩
  have hx3 : xs.length = 3 := q2
  clear hc3 hg3 q3 q4 HL2 HC2
  rcases t with _ | _
  · go_wp2
    go_ret
    refine ⟨xs, some ⟨gl, 0, none⟩, 3, by rw [q2]; rfl, ?_, by omega, HSM.out, HC3.out.base⟩
    have h := rd_own_cells HO3.out (by omega) (rdL_flatI (q1.trans q2.symm) (fun j y hy => by
      obtain ⟨cs, hcs, hr⟩ := HQ3.out j y hy
      exact ⟨cs, hcs, RdL.mono (fun k hk => by have := hk.2; omega) _ _ hr⟩))
    rw [q2]; exact h
  · go_wp2_with fail
    refine (spec_l6Any_calls w w.heap.size _ HC3.out).mono ?_
    rintro e w4 ⟨x, us, rfl, hsa, hss, hc4, hg4⟩
    have hs4 := hg4.size
    have hxl := hss.2.1
    have HX4 := Lib.hid (hsa.rdS (by omega))
    obtain ⟨vx, gm, rfl, hmr⟩ := hsa
    obtain ⟨css0, _, hm2, _, _⟩ := hmr
    obtain ⟨A3, c3, rfl⟩ := ownsRow_sl hm2
    have HC4 := Lib.hid hc4
    have HO4 := Lib.hid (ownsRow_keep HO3.out hg4 (fun k hk e => by simp only [Value.ownBlock, Option.some.injEq] at hk; omega))
    have HQ4 : Hid (∀ (j : Nat) x, xs[j]? = some x → ∃ cs, css[j]? = some cs ∧ RdL (fun k => w1.heap.size ≤ k ∧ k < gl) w4 (eScript x) cs) := by
      intro j x hx
      obtain ⟨cs, hcs, hr⟩ := HQ3.out j x hx
      exact ⟨cs, hcs, RdL.keep (w := w3) (fun k hk => hg4.block k (by have := hk.2; omega) (by have := hk.1; omega)) _ _ hr⟩
    have HSX := Lib.hid hss
    clear hc4 hg4 hm2 hss HC3 HO3 HQ3
    go_wp2_with (at_builtin; refine wpList_append_rd rfl _ _ 36 rfl gl 51 _ _ 2 40 Try.underlying36 rfl rfl rfl rfl rfl (by omega) _ 3 _ rfl (HO4.out.alloc _) (en := fun us : List Value => us.map Lf.v) (vs := id) (fun _ => rfl) [[.string x.Name, .slice A3 x.Methods.length c3]] (by simp [Value.oneCell']) rfl _ _ rfl (rdW_one' (en := fun us : List Value => us.map Lf.v) (vs := id) (fun _ => rfl) _ 51 (by simp)) (by simp) (by omega) (by simp; omega) ?_)
    intro A' c' w5 hown hgrow
    have hs5 := hgrow.size
    simp only [size_alloc] at hs5
    have HB5 : Hid (Below w.heap.size w w5) := (HC4.out.base.alloc HC4.out.base.size _).trans (grown_below hgrow (by simp; omega) (fun k hk => by simp only [Value.ownBlock, Option.some.injEq] at hk; omega))
    have HX5 : Hid (RdLW w5 (eScript x) [.string x.Name, .slice A3 x.Methods.length c3]) := RdL.mono (fun k hk => by have := hk.2; omega) _ _ (RdL.keep (w := w4) (fun k hk => (hgrow.block k (by simp only [size_alloc]; have := hk.2; omega) (fun e => by simp only [Value.ownBlock, Option.some.injEq] at e; have := hk.1; omega)).trans (((Below.refl w4.heap.size w4).alloc (Nat.le_refl _) _).block k hk.2)) _ _ HX4.out)
    have HQ5 : Hid (∀ (j : Nat) x, xs[j]? = some x → ∃ cs, css[j]? = some cs ∧ RdLW w5 (eScript x) cs) := by
      intro j x hx
      obtain ⟨cs, hcs, hr⟩ := HQ4.out j x hx
      exact ⟨cs, hcs, RdL.mono (fun k hk => by have := hk.2; omega) _ _ (RdL.keep (w := w4) (fun k hk => (hgrow.block k (by simp only [size_alloc]; have := hk.2; omega) (fun e => by simp only [Value.ownBlock, Option.some.injEq] at e; have := hk.2; omega)).trans (((Below.refl w4.heap.size w4).alloc (Nat.le_refl _) _).block k (by have := hk.2; omega))) _ _ hr)⟩
    have HO5 := Lib.hid hown
    clear hown hgrow
    go_wp2
    go_ret
    have hlen : (xs ++ [x]).length = 4 := by rw [List.length_append, q2]; rfl
    refine ⟨xs ++ [x], A', c', by rw [hlen]; rfl, ?_, by omega, fun y hy => ?_, HB5.out⟩
    · rw [hlen, List.flatMap_append]
      refine rd_own_cells HO5.out (by simp) ?_
      refine RdL.append _ _ _ _ (by rw [← List.flatMap_id]; exact rdL_flatI (q1.trans q2.symm) HQ5.out) ?_
      simp only [List.flatMap_cons, List.flatMap_nil, List.append_nil, id]
      exact HX5.out
    · rcases List.mem_append.1 hy with h | h
      · exact HSM.out y h
      · rw [List.mem_singleton.1 h]; exact HSX.out

end Go.Proofs.Ytiohoeafdaihpaa
