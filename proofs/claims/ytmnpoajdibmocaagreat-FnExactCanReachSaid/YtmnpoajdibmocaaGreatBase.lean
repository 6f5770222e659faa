/- Data as trees of cells, what it is to read one in memory, what it is to own one, and the laws of both over changes of memory; no program in sight. -/
import Derived.Below
import Derived.Deep.Draws
import Derived.OwnWalk
import Derived.Laws.MakeOwn
import Derived.Laws.OwnMore
import Derived.Deep.OwnRows
import Derived.WalkKit
import Derived.KernelRfl
import Derived.RowKit3
import Derived.Deep.LoopGhost
import Derived.Deep.QuietTactic
import Derived.BigQuiet
import Derived.Outline
import Derived.Lib.Hide
namespace Go.Proofs.YtmnpoajdibmocaaGreat
open Go.RowKit

/-- A cell's content: a plain value, or a slice of n rows with all its cells. -/
inductive Lf where
  | v (x : Value) : Lf
  | s (n : Nat) (ls : List Lf) : Lf

/-- a slice's length and capacity -/
structure SlOk (n c : Nat) : Prop where
  le : n ≤ c
  cap : c ≤ 9223372036854775807
  lim : n ≤ 140737488355328

mutual
/-- In the world w the value u reads as the leaf; each block that is met lies in S. -/
def Rd (S : Nat → Prop) (w : World) : Lf → Value → Prop
  | .v x, u => u = x
  | .s n ls, u => ∃ A c, u = .slice A n c ∧ SlOk n c ∧ (n = 0 ∨ ∃ ad us, A = some ad ∧ S ad.block ∧ (∀ (k : Nat) x, us[k]? = some x → w.cell? (ad.add k) = some x) ∧ RdL S w ls us)
def RdL (S : Nat → Prop) (w : World) : List Lf → List Value → Prop
  | [], us => us = []
  | l :: ls, us => ∃ u us', us = u :: us' ∧ Rd S w l u ∧ RdL S w ls us'
end

/-- The block g begins with the cells us, and they may be written. -/
def RowIs (w : World) (g : Nat) (us : List Value) : Prop := ∀ (k : Nat) u, us[k]? = some u → w.cell? ⟨g, k, none⟩ = some u ∧ w.frozen? ⟨g, k, none⟩ = false

mutual
/-- The value u is the leaf, in blocks of its own: just those of the list fp. -/
def Own (w : World) : Lf → Value → List Nat → Prop
  | .v x, u, fp => u = x ∧ fp = []
  | .s n ls, u, fp => (n = 0 ∧ (∃ A c, u = .slice A 0 c ∧ SlOk 0 c) ∧ fp = []) ∨ (0 < n ∧ ∃ g c us fp', u = .slice (some ⟨g, 0, none⟩) n c ∧ SlOk n c ∧ fp = g :: fp' ∧ g < w.heap.size ∧ RowIs w g us ∧ OwnL w ls us fp')
def OwnL (w : World) : List Lf → List Value → List Nat → Prop
  | [], us, fp => us = [] ∧ fp = []
  | l :: ls, us, fp => ∃ u us' f f', us = u :: us' ∧ fp = f ++ f' ∧ Own w l u f ∧ OwnL w ls us' f'
end

/-- Only the blocks of T, and new ones, have turned. -/
structure Chg (T : Nat → Prop) (w w' : World) : Prop where
  os : w'.os = w.os
  tape : w'.tape = w.tape
  output : w'.output = w.output
  size : w.heap.size ≤ w'.heap.size
  block : ∀ k, k < w.heap.size → ¬ T k → w'.heap[k]? = w.heap[k]?

theorem block_of_add (a : Addr) (n : Nat) : (a.add n).block = a.block := by unfold Addr.add; split <;> rfl
theorem add_of_add (a : Addr) (i j : Nat) : (a.add i).add j = a.add (i + j) := by
  unfold Addr.add
  by_cases hi : i = 0 <;> by_cases hj : j = 0 <;> simp [hi, hj, Nat.add_assoc]
theorem add_field (ad : Addr) (i j : Nat) (hj : 0 < j) : ad.add (i + j) = ⟨(ad.add i).block, (ad.add i).off + j, none⟩ := by
  unfold Addr.add
  by_cases hi : i = 0
  · subst hi; rw [if_neg (by omega)]; simp
  · rw [if_neg (by omega), if_neg hi]; simp [Nat.add_assoc]
theorem add_zero_own (g k : Nat) : (⟨g, 0, none⟩ : Addr).add k = ⟨g, k, none⟩ := by
  unfold Addr.add
  by_cases hk : k = 0 <;> simp [hk]

theorem Chg.refl (T : Nat → Prop) (w : World) : Chg T w w := ⟨rfl, rfl, rfl, Nat.le_refl _, fun _ _ _ => rfl⟩
theorem Chg.trans {T : Nat → Prop} {a b c : World} (h : Chg T a b) (k : Chg T b c) : Chg T a c :=
  ⟨k.os.trans h.os, k.tape.trans h.tape, k.output.trans h.output, Nat.le_trans h.size k.size, fun i hi hn => (k.block i (Nat.lt_of_lt_of_le hi h.size) hn).trans (h.block i hi hn)⟩
theorem Chg.mono {T T' : Nat → Prop} {a b : World} (h : Chg T a b) (hT : ∀ k, k < a.heap.size → T k → T' k) : Chg T' a b :=
  ⟨h.os, h.tape, h.output, h.size, fun i hi hn => h.block i hi fun ht => hn (hT i hi ht)⟩
theorem Chg.drew {T : Nat → Prop} {a w : World} (h : Chg T a w) : Chg T a w.drew := ⟨h.os, h.tape, h.output, h.size, h.block⟩
theorem Chg.drewN {T : Nat → Prop} {a w : World} (h : Chg T a w) (n : Nat) : Chg T a (w.drewN n) := ⟨h.os, h.tape, h.output, h.size, h.block⟩
theorem Chg.alloc {T : Nat → Prop} {a w : World} (h : Chg T a w) (o : Obj) : Chg T a (w.alloc o) :=
  ⟨h.os, h.tape, h.output, Nat.le_trans h.size (by simp), fun i hi hn => (Below.heap_alloc w o i (Nat.lt_of_lt_of_le hi h.size)).trans (h.block i hi hn)⟩
theorem Chg.setCell {T : Nat → Prop} {a w : World} (h : Chg T a w) {p : Addr} (hp : T p.block ∨ a.heap.size ≤ p.block) (u : Value) : Chg T a (w.setCell p u) :=
  ⟨h.os, h.tape, h.output, Nat.le_trans h.size (by simp [World.setCell]), fun i hi hn => (Below.heap_setCell w p u i (by
    rintro rfl
    rcases hp with hp | hp
    · exact hn hp
    · omega)).trans (h.block i hi hn)⟩
theorem Chg.below {T : Nat → Prop} {a b : World} (h : Chg T a b) {B : Nat} (hB : B ≤ a.heap.size) (hT : ∀ k, T k → B ≤ k) : Below B a b :=
  ⟨h.os, h.tape, h.output, h.size, fun i hi => h.block i (by omega) fun ht => by have := hT i ht; omega⟩
theorem Chg.of_below {a b : World} (h : Below a.heap.size a b) (T : Nat → Prop) : Chg T a b := ⟨h.os, h.tape, h.output, h.size, fun i hi _ => h.block i hi⟩
/-- Below, then a change above: below. -/
theorem below_chg {B : Nat} {T : Nat → Prop} {a b c : World} (h : Below B a b) (k : Chg T b c) (hB : B ≤ b.heap.size) (hT : ∀ i, T i → B ≤ i) : Below B a c := h.trans (k.below hB hT)

-- reading
mutual
theorem Rd.keep {S : Nat → Prop} {w w' : World} (hk : ∀ g, S g → w'.heap[g]? = w.heap[g]?) : ∀ (l : Lf) (u : Value), Rd S w l u → Rd S w' l u
  | .v x, u, h => by rw [Rd] at h ⊢; exact h
  | .s n ls, u, h => by
    rw [Rd] at h ⊢
    obtain ⟨A, c, rfl, hc, hr⟩ := h
    refine ⟨A, c, rfl, hc, ?_⟩
    rcases hr with h0 | ⟨ad, us, rfl, hs, hcell, hl⟩
    · exact .inl h0
    · exact .inr ⟨ad, us, rfl, hs, fun k x hx => (World.cell?_of_block (w := w) (by rw [block_of_add]; exact hk _ hs)).trans (hcell k x hx), RdL.keep hk ls us hl⟩
theorem RdL.keep {S : Nat → Prop} {w w' : World} (hk : ∀ g, S g → w'.heap[g]? = w.heap[g]?) : ∀ (ls : List Lf) (us : List Value), RdL S w ls us → RdL S w' ls us
  | [], us, h => by rw [RdL] at h ⊢; exact h
  | l :: ls, us, h => by
    rw [RdL] at h ⊢
    obtain ⟨u, us', rfl, h1, h2⟩ := h
    exact ⟨u, us', rfl, Rd.keep hk l u h1, RdL.keep hk ls us' h2⟩
end
mutual
theorem Rd.mono {S S' : Nat → Prop} {w : World} (hS : ∀ g, S g → S' g) : ∀ (l : Lf) (u : Value), Rd S w l u → Rd S' w l u
  | .v x, u, h => by rw [Rd] at h ⊢; exact h
  | .s n ls, u, h => by
    rw [Rd] at h ⊢
    obtain ⟨A, c, rfl, hc, hr⟩ := h
    refine ⟨A, c, rfl, hc, ?_⟩
    rcases hr with h0 | ⟨ad, us, rfl, hs, hcell, hl⟩
    · exact .inl h0
    · exact .inr ⟨ad, us, rfl, hS _ hs, hcell, RdL.mono hS ls us hl⟩
theorem RdL.mono {S S' : Nat → Prop} {w : World} (hS : ∀ g, S g → S' g) : ∀ (ls : List Lf) (us : List Value), RdL S w ls us → RdL S' w ls us
  | [], us, h => by rw [RdL] at h ⊢; exact h
  | l :: ls, us, h => by
    rw [RdL] at h ⊢
    obtain ⟨u, us', rfl, h1, h2⟩ := h
    exact ⟨u, us', rfl, Rd.mono hS l u h1, RdL.mono hS ls us' h2⟩
end
theorem RdL.length {S : Nat → Prop} {w : World} : ∀ (ls : List Lf) (us : List Value), RdL S w ls us → us.length = ls.length
  | [], us, h => by rw [RdL] at h; subst h; rfl
  | l :: ls, us, h => by
    rw [RdL] at h
    obtain ⟨u, us', rfl, _, h2⟩ := h
    simp [RdL.length ls us' h2]
theorem RdL.split {S : Nat → Prop} {w : World} : ∀ (as bs : List Lf) (us : List Value), RdL S w (as ++ bs) us → ∃ ua ub, us = ua ++ ub ∧ ua.length = as.length ∧ RdL S w as ua ∧ RdL S w bs ub
  | [], bs, us, h => ⟨[], us, rfl, rfl, by rw [RdL], h⟩
  | a :: as, bs, us, h => by
    rw [List.cons_append, RdL] at h
    obtain ⟨u, us', rfl, h1, h2⟩ := h
    obtain ⟨ua, ub, rfl, hl, ha, hb⟩ := RdL.split as bs us' h2
    exact ⟨u :: ua, ub, rfl, by simp [hl], by rw [RdL]; exact ⟨u, ua, rfl, h1, ha⟩, hb⟩
theorem RdL.append {S : Nat → Prop} {w : World} : ∀ (as bs : List Lf) (ua ub : List Value), RdL S w as ua → RdL S w bs ub → RdL S w (as ++ bs) (ua ++ ub)
  | [], bs, ua, ub, ha, hb => by rw [RdL] at ha; subst ha; exact hb
  | a :: as, bs, ua, ub, ha, hb => by
    rw [RdL] at ha
    obtain ⟨u, us', rfl, h1, h2⟩ := ha
    rw [List.cons_append, List.cons_append, RdL]
    exact ⟨u, us' ++ ub, rfl, h1, RdL.append as bs us' ub h2 hb⟩

-- owning
mutual
theorem Own.keep {w w' : World} (hz : w.heap.size ≤ w'.heap.size) : ∀ (l : Lf) (u : Value) (fp : List Nat), (∀ g, g ∈ fp → w'.heap[g]? = w.heap[g]?) → Own w l u fp → Own w' l u fp
  | .v x, u, fp, _, h => by rw [Own] at h ⊢; exact h
  | .s n ls, u, fp, hk, h => by
    rw [Own] at h ⊢
    rcases h with h | ⟨hn, g, c, us, fp', rfl, hc, rfl, hg, hr, hl⟩
    · exact .inl h
    · have hkg := hk g (by simp)
      exact .inr ⟨hn, g, c, us, fp', rfl, hc, rfl, by omega, fun k x hx => ⟨(World.cell?_of_block (w := w) (a := ⟨g, k, none⟩) hkg).trans (hr k x hx).1, (World.frozen?_of_block (w := w) (a := ⟨g, k, none⟩) hkg).trans (hr k x hx).2⟩,
        OwnL.keep hz ls us fp' (fun i hi => hk i (by simp [hi])) hl⟩
theorem OwnL.keep {w w' : World} (hz : w.heap.size ≤ w'.heap.size) : ∀ (ls : List Lf) (us : List Value) (fp : List Nat), (∀ g, g ∈ fp → w'.heap[g]? = w.heap[g]?) → OwnL w ls us fp → OwnL w' ls us fp
  | [], us, fp, _, h => by rw [OwnL] at h ⊢; exact h
  | l :: ls, us, fp, hk, h => by
    rw [OwnL] at h ⊢
    obtain ⟨u, us', f, f', rfl, rfl, h1, h2⟩ := h
    exact ⟨u, us', f, f', rfl, rfl, Own.keep hz l u f (fun i hi => hk i (by simp [hi])) h1, OwnL.keep hz ls us' f' (fun i hi => hk i (by simp [hi])) h2⟩
end
mutual
theorem Own.rd {w : World} : ∀ (l : Lf) (u : Value) (fp : List Nat), Own w l u fp → Rd (· ∈ fp) w l u
  | .v x, u, fp, h => by rw [Own] at h; rw [Rd]; exact h.1
  | .s n ls, u, fp, h => by
    rw [Own] at h; rw [Rd]
    rcases h with ⟨rfl, ⟨A, c, rfl, hc⟩, rfl⟩ | ⟨hn, g, c, us, fp', rfl, hc, rfl, hg, hr, hl⟩
    · exact ⟨A, c, rfl, hc, .inl rfl⟩
    · exact ⟨_, c, rfl, hc, .inr ⟨_, us, rfl, by simp, fun k x hx => by rw [add_zero_own]; exact (hr k x hx).1, RdL.mono (fun i hi => by simp [hi]) ls us (OwnL.rd ls us fp' hl)⟩⟩
theorem OwnL.rd {w : World} : ∀ (ls : List Lf) (us : List Value) (fp : List Nat), OwnL w ls us fp → RdL (· ∈ fp) w ls us
  | [], us, fp, h => by rw [OwnL] at h; rw [RdL]; exact h.1
  | l :: ls, us, fp, h => by
    rw [OwnL] at h; rw [RdL]
    obtain ⟨u, us', f, f', rfl, rfl, h1, h2⟩ := h
    exact ⟨u, us', rfl, Rd.mono (fun i hi => by simp [hi]) l u (Own.rd l u f h1), RdL.mono (fun i hi => by simp [hi]) ls us' (OwnL.rd ls us' f' h2)⟩
end
mutual
theorem Own.lt {w : World} : ∀ (l : Lf) (u : Value) (fp : List Nat), Own w l u fp → ∀ g, g ∈ fp → g < w.heap.size
  | .v x, u, fp, h => by rw [Own] at h; obtain ⟨_, rfl⟩ := h; simp
  | .s n ls, u, fp, h => by
    rw [Own] at h
    rcases h with ⟨_, _, rfl⟩ | ⟨hn, g, c, us, fp', rfl, hc, rfl, hg, hr, hl⟩
    · simp
    · intro i hi
      rcases List.mem_cons.1 hi with rfl | hi
      · exact hg
      · exact OwnL.lt ls us fp' hl i hi
theorem OwnL.lt {w : World} : ∀ (ls : List Lf) (us : List Value) (fp : List Nat), OwnL w ls us fp → ∀ g, g ∈ fp → g < w.heap.size
  | [], us, fp, h => by rw [OwnL] at h; obtain ⟨_, rfl⟩ := h; simp
  | l :: ls, us, fp, h => by
    rw [OwnL] at h
    obtain ⟨u, us', f, f', rfl, rfl, h1, h2⟩ := h
    intro i hi
    rcases List.mem_append.1 hi with hi | hi
    · exact Own.lt l u f h1 i hi
    · exact OwnL.lt ls us' f' h2 i hi
end
theorem OwnL.length {w : World} : ∀ (ls : List Lf) (us : List Value) (fp : List Nat), OwnL w ls us fp → us.length = ls.length
  | [], us, fp, h => by rw [OwnL] at h; rw [h.1]; rfl
  | l :: ls, us, fp, h => by
    rw [OwnL] at h
    obtain ⟨u, us', f, f', rfl, _, _, h2⟩ := h
    simp [OwnL.length ls us' f' h2]
theorem OwnL.split {w : World} : ∀ (as bs : List Lf) (us : List Value) (fp : List Nat), OwnL w (as ++ bs) us fp → ∃ ua ub fa fb, us = ua ++ ub ∧ fp = fa ++ fb ∧ ua.length = as.length ∧ OwnL w as ua fa ∧ OwnL w bs ub fb
  | [], bs, us, fp, h => ⟨[], us, [], fp, rfl, rfl, rfl, by rw [OwnL]; exact ⟨rfl, rfl⟩, h⟩
  | a :: as, bs, us, fp, h => by
    rw [List.cons_append, OwnL] at h
    obtain ⟨u, us', f, f', rfl, rfl, h1, h2⟩ := h
    obtain ⟨ua, ub, fa, fb, rfl, rfl, hl, ha, hb⟩ := OwnL.split as bs us' f' h2
    exact ⟨u :: ua, ub, f ++ fa, fb, rfl, by simp, by simp [hl], by rw [OwnL]; exact ⟨u, ua, f, fa, rfl, rfl, h1, ha⟩, hb⟩
theorem OwnL.append {w : World} : ∀ (as bs : List Lf) (ua ub : List Value) (fa fb : List Nat), OwnL w as ua fa → OwnL w bs ub fb → OwnL w (as ++ bs) (ua ++ ub) (fa ++ fb)
  | [], bs, ua, ub, fa, fb, ha, hb => by rw [OwnL] at ha; obtain ⟨rfl, rfl⟩ := ha; exact hb
  | a :: as, bs, ua, ub, fa, fb, ha, hb => by
    rw [OwnL] at ha
    obtain ⟨u, us', f, f', rfl, rfl, h1, h2⟩ := ha
    rw [List.cons_append, List.cons_append, OwnL]
    exact ⟨u, us' ++ ub, f, f' ++ fb, rfl, by simp, h1, OwnL.append as bs us' ub f' fb h2 hb⟩


theorem Rd_v {S : Nat → Prop} {w : World} {x u : Value} : Rd S w (.v x) u ↔ u = x := by rw [Rd]
theorem RdL_nil {S : Nat → Prop} {w : World} {us : List Value} : RdL S w [] us ↔ us = [] := by rw [RdL]
theorem RdL_cons {S : Nat → Prop} {w : World} {l : Lf} {ls : List Lf} {us : List Value} : RdL S w (l :: ls) us ↔ ∃ u us', us = u :: us' ∧ Rd S w l u ∧ RdL S w ls us' := by rw [RdL]
theorem Own_v {w : World} {x u : Value} {fp : List Nat} : Own w (.v x) u fp ↔ u = x ∧ fp = [] := by rw [Own]
theorem OwnL_nil {w : World} {us : List Value} {fp : List Nat} : OwnL w [] us fp ↔ us = [] ∧ fp = [] := by rw [OwnL]
theorem OwnL_cons {w : World} {l : Lf} {ls : List Lf} {us : List Value} {fp : List Nat} : OwnL w (l :: ls) us fp ↔ ∃ u us' f f', us = u :: us' ∧ fp = f ++ f' ∧ Own w l u f ∧ OwnL w ls us' f' := by rw [OwnL]

/-- Reads, in blocks that lie in w. -/
def RdW (w : World) (l : Lf) (u : Value) : Prop := Rd (fun k => k < w.heap.size) w l u
def RdLW (w : World) (ls : List Lf) (us : List Value) : Prop := RdL (fun k => k < w.heap.size) w ls us
theorem RdW_v {w : World} {x u : Value} : RdW w (.v x) u ↔ u = x := Rd_v
theorem RdLW_nil {w : World} {us : List Value} : RdLW w [] us ↔ us = [] := RdL_nil
theorem RdLW_cons {w : World} {l : Lf} {ls : List Lf} {us : List Value} : RdLW w (l :: ls) us ↔ ∃ u us', us = u :: us' ∧ RdW w l u ∧ RdLW w ls us' := RdL_cons
theorem RdW.below {w w' : World} {l : Lf} {u : Value} (h : RdW w l u) (hb : Below w.heap.size w w') : RdW w' l u :=
  Rd.mono (fun _ hg => Nat.lt_of_lt_of_le hg hb.size) l u (Rd.keep (fun g hg => hb.block g hg) l u h)
theorem RdLW.below {w w' : World} {l : List Lf} {u : List Value} (h : RdLW w l u) (hb : Below w.heap.size w w') : RdLW w' l u :=
  RdL.mono (fun _ hg => Nat.lt_of_lt_of_le hg hb.size) l u (RdL.keep (fun g hg => hb.block g hg) l u h)
theorem RdW.alloc {w : World} {l : Lf} {u : Value} (h : RdW w l u) (o : Obj) : RdW (w.alloc o) l u := h.below ((Below.refl _ w).alloc (Nat.le_refl _) o)
theorem RdW.drew {w : World} {l : Lf} {u : Value} (h : RdW w l u) : RdW w.drew l u := h.below (Below.refl _ w).drew
theorem Own.rdw {w : World} {l : Lf} {u : Value} {fp : List Nat} (h : Own w l u fp) : RdW w l u := Rd.mono (fun g hg => Own.lt l u fp h g hg) l u (Own.rd l u fp h)
theorem OwnL.rdw {w : World} {l : List Lf} {u : List Value} {fp : List Nat} (h : OwnL w l u fp) : RdLW w l u := RdL.mono (fun g hg => OwnL.lt l u fp h g hg) l u (OwnL.rd l u fp h)
theorem RdLW.len {w : World} {ls : List Lf} {us : List Value} (h : RdLW w ls us) : us.length = ls.length := RdL.length ls us h

theorem RdLW_w {w : World} {x : Value} {ls : List Lf} {us : List Value} : RdLW w (.v x :: ls) us ↔ ∃ us', us = x :: us' ∧ RdLW w ls us' :=
  ⟨fun h => by obtain ⟨u, us', rfl, h1, h2⟩ := RdLW_cons.1 h; exact ⟨us', by rw [RdW_v.1 h1], h2⟩, fun ⟨us', e, h2⟩ => RdLW_cons.2 ⟨x, us', e, RdW_v.2 rfl, h2⟩⟩
theorem OwnL_w {w : World} {x : Value} {ls : List Lf} {us : List Value} {fp : List Nat} : OwnL w (.v x :: ls) us fp ↔ ∃ us', us = x :: us' ∧ OwnL w ls us' fp :=
  ⟨fun h => by obtain ⟨u, us', f, f', rfl, rfl, h1, h2⟩ := OwnL_cons.1 h; obtain ⟨rfl, rfl⟩ := Own_v.1 h1; exact ⟨us', rfl, h2⟩, fun ⟨us', e, h2⟩ => OwnL_cons.2 ⟨x, us', [], fp, e, rfl, Own_v.2 ⟨rfl, rfl⟩, h2⟩⟩

/-- What was read at w reads at w', if only blocks of T have turned and the reading meets none of them. -/
theorem Rd.chg {S T : Nat → Prop} {w w' : World} {l : Lf} {u : Value} (h : Rd S w l u) (hc : Chg T w w') (hS : ∀ g, S g → g < w.heap.size) (hT : ∀ g, S g → ¬ T g) : Rd S w' l u :=
  Rd.keep (fun g hg => hc.block g (hS g hg) (hT g hg)) l u h
theorem RdL.chg {S T : Nat → Prop} {w w' : World} {l : List Lf} {u : List Value} (h : RdL S w l u) (hc : Chg T w w') (hS : ∀ g, S g → g < w.heap.size) (hT : ∀ g, S g → ¬ T g) : RdL S w' l u :=
  RdL.keep (fun g hg => hc.block g (hS g hg) (hT g hg)) l u h
theorem Own.chg {T : Nat → Prop} {w w' : World} {l : Lf} {u : Value} {fp : List Nat} (h : Own w l u fp) (hc : Chg T w w') (hT : ∀ g, g ∈ fp → ¬ T g) : Own w' l u fp :=
  Own.keep hc.size l u fp (fun g hg => hc.block g (Own.lt l u fp h g hg) (hT g hg)) h
theorem OwnL.chg {T : Nat → Prop} {w w' : World} {l : List Lf} {u : List Value} {fp : List Nat} (h : OwnL w l u fp) (hc : Chg T w w') (hT : ∀ g, g ∈ fp → ¬ T g) : OwnL w' l u fp :=
  OwnL.keep hc.size l u fp (fun g hg => hc.block g (OwnL.lt l u fp h g hg) (hT g hg)) h
theorem Own.below {w w' : World} {l : Lf} {u : Value} {fp : List Nat} (h : Own w l u fp) (hb : Below w.heap.size w w') : Own w' l u fp :=
  Own.keep hb.size l u fp (fun g hg => hb.block g (Own.lt l u fp h g hg)) h
theorem OwnL.below {w w' : World} {l : List Lf} {u : List Value} {fp : List Nat} (h : OwnL w l u fp) (hb : Below w.heap.size w w') : OwnL w' l u fp :=
  OwnL.keep hb.size l u fp (fun g hg => hb.block g (OwnL.lt l u fp h g hg)) h

/-- A slice that reads: its length, its capacity. -/
theorem RdW.slice {w : World} {n : Nat} {ls : List Lf} {u : Value} (h : RdW w (.s n ls) u) : ∃ A c, u = .slice A n c ∧ SlOk n c := by
  rw [RdW, Rd] at h
  obtain ⟨A, c, rfl, hc, _⟩ := h
  exact ⟨A, c, rfl, hc⟩
theorem Own.slice {w : World} {n : Nat} {ls : List Lf} {u : Value} {fp : List Nat} (h : Own w (.s n ls) u fp) : ∃ A c, u = .slice A n c ∧ SlOk n c := h.rdw.slice

/-- rows of a slice -/
theorem Rd.row {S : Nat → Prop} {w : World} {n : Nat} {ls : List Lf} {A : Option Addr} {c : Nat} (h : Rd S w (.s n ls) (.slice A n c)) (hn : 0 < n) {pre row post : List Lf} (e : ls = pre ++ (row ++ post)) :
    ∃ ad ys, A = some ad ∧ S ad.block ∧ RdL S w row ys ∧ ∀ (j : Nat) y, ys[j]? = some y → w.cell? (ad.add (pre.length + j)) = some y := by
  rw [Rd] at h
  obtain ⟨A', c', hv, _, hr⟩ := h
  injection hv with h1 h2 h3
  subst h1; subst h3
  rcases hr with h0 | ⟨ad, us, rfl, hs, hc, hl⟩
  · omega
  · rw [e] at hl
    obtain ⟨ua, ub, rfl, hla, ha, hb⟩ := RdL.split _ _ _ hl
    obtain ⟨ur, uo, rfl, hlr, hr, ho⟩ := RdL.split _ _ _ hb
    refine ⟨ad, ur, rfl, hs, hr, fun j y hy => hc _ _ ?_⟩
    rw [← hla, List.getElem?_append_right (by omega)]
    have hj : j < ur.length := (List.getElem?_eq_some_iff.1 hy).1
    rw [Nat.add_sub_cancel_left, List.getElem?_append_left hj]
    exact hy
theorem flat_row {α : Type} (en : α → List Lf) (xs : List α) (i : Nat) (x : α) (h : xs[i]? = some x) : xs.flatMap en = (xs.take i).flatMap en ++ (en x ++ (xs.drop (i+1)).flatMap en) := by
  have hi : i < xs.length := (List.getElem?_eq_some_iff.1 h).1
  have hx : xs[i] = x := (List.getElem?_eq_some_iff.1 h).2
  have : xs = xs.take i ++ (x :: xs.drop (i+1)) := by
    rw [← hx, ← List.drop_eq_getElem_cons hi, List.take_append_drop]
  conv => lhs; rw [this]
  simp
theorem flat_len {α : Type} (en : α → List Lf) (sz : Nat) (hs : ∀ x, (en x).length = sz) (xs : List α) : (xs.flatMap en).length = xs.length * sz := by
  induction xs with
  | nil => simp
  | cons x xs ih => simp [ih, hs, Nat.succ_mul]; omega
theorem flat_take {α : Type} (en : α → List Lf) (xs : List α) (i : Nat) (x : α) (h : xs[i]? = some x) : (xs.take (i+1)).flatMap en = (xs.take i).flatMap en ++ en x := by
  rw [List.take_add_one, h]; simp
/-- the row of an element -/
theorem RdW.at_ {α : Type} {w : World} {en : α → List Lf} {sz : Nat} (hs : ∀ x, (en x).length = sz) {xs : List α} {A : Option Addr} {c : Nat} (h : RdW w (.s xs.length (xs.flatMap en)) (.slice A xs.length c)) {i : Nat} {x : α} (hx : xs[i]? = some x) :
    ∃ ad ys, A = some ad ∧ ad.block < w.heap.size ∧ RdLW w (en x) ys ∧ ∀ (j : Nat) y, ys[j]? = some y → w.cell? (ad.add (i * sz + j)) = some y := by
  have hi : i < xs.length := (List.getElem?_eq_some_iff.1 hx).1
  obtain ⟨ad, ys, rfl, hs', hr, hc⟩ := Rd.row h (by omega) (flat_row en xs i x hx)
  rw [flat_len en sz hs, List.length_take, Nat.min_eq_left (by omega)] at hc
  exact ⟨ad, ys, rfl, hs', hr, hc⟩

-- sizes
mutual
/-- the elements of all slices, and the letters of all strings -/
def siz : Lf → Nat
  | .v (.string s) => s.size
  | .v _ => 0
  | .s n ls => n + sizL ls
def sizL : List Lf → Nat
  | [] => 0
  | l :: ls => siz l + sizL ls
end
theorem sizL_nil : sizL [] = 0 := by rw [sizL]
theorem sizL_cons (l : Lf) (ls : List Lf) : sizL (l :: ls) = siz l + sizL ls := by rw [sizL]
theorem siz_s (n : Nat) (ls : List Lf) : siz (.s n ls) = n + sizL ls := by rw [siz]
theorem siz_str (s : ByteArray) : siz (.v (.string s)) = s.size := by rw [siz]
theorem siz_int (k : IntKind) (n : Int) : siz (.v (.int k n)) = 0 := by rw [siz]; intro s h; cases h
theorem siz_bool (b : Bool) : siz (.v (.bool b)) = 0 := by rw [siz]; intro s h; cases h
theorem sizL_append (as bs : List Lf) : sizL (as ++ bs) = sizL as + sizL bs := by
  induction as with
  | nil => simp [sizL_nil]
  | cons a as ih => rw [List.cons_append, sizL_cons, sizL_cons, ih, Nat.add_assoc]
theorem sizL_flat_le {α : Type} (en : α → List Lf) (xs : List α) (x : α) (h : x ∈ xs) : sizL (en x) ≤ sizL (xs.flatMap en) := by
  induction xs with
  | nil => cases h
  | cons y ys ih =>
    rw [List.flatMap_cons, sizL_append]
    rcases List.mem_cons.1 h with rfl | h
    · omega
    · have := ih h; omega

mutual
/-- no string is longer than memory -/
def StrOk : Lf → Prop
  | .v (.string s) => s.size ≤ 140737488355328
  | .v _ => True
  | .s _ ls => StrOkL ls
def StrOkL : List Lf → Prop
  | [] => True
  | l :: ls => StrOk l ∧ StrOkL ls
end
theorem StrOk_str {s : ByteArray} : StrOk (.v (.string s)) ↔ s.size ≤ 140737488355328 := by rw [StrOk]
theorem StrOk_int {k : IntKind} {n : Int} : StrOk (.v (.int k n)) ↔ True := by rw [StrOk]; intro s h; cases h
theorem StrOk_bool {b : Bool} : StrOk (.v (.bool b)) ↔ True := by rw [StrOk]; intro s h; cases h
theorem StrOk_s {n : Nat} {ls : List Lf} : StrOk (.s n ls) ↔ StrOkL ls := by rw [StrOk]
theorem StrOkL_nil : StrOkL [] ↔ True := by rw [StrOkL]
theorem StrOkL_cons {l : Lf} {ls : List Lf} : StrOkL (l :: ls) ↔ StrOk l ∧ StrOkL ls := by rw [StrOkL]
theorem StrOkL_append {as bs : List Lf} : StrOkL (as ++ bs) ↔ StrOkL as ∧ StrOkL bs := by
  induction as with
  | nil => simp [StrOkL_nil]
  | cons a as ih => rw [List.cons_append, StrOkL_cons, StrOkL_cons, ih, and_assoc]
theorem StrOkL_mem {α : Type} {en : α → List Lf} {xs : List α} {x : α} (h : StrOkL (xs.flatMap en)) (hx : x ∈ xs) : StrOkL (en x) := by
  induction xs with
  | nil => cases hx
  | cons y ys ih =>
    rw [List.flatMap_cons, StrOkL_append] at h
    rcases List.mem_cons.1 hx with rfl | hx
    · exact h.1
    · exact ih h.2 hx
theorem StrOkL_flat {α : Type} {en : α → List Lf} {xs : List α} (h : ∀ x, x ∈ xs → StrOkL (en x)) : StrOkL (xs.flatMap en) := by
  induction xs with
  | nil => simp [StrOkL_nil]
  | cons y ys ih =>
    rw [List.flatMap_cons, StrOkL_append]
    exact ⟨h y (by simp), ih fun x hx => h x (by simp [hx])⟩
/-- what 'sz' answers -/
def SzR (r left : Int) (n : Nat) : Prop := r = -1 ∨ (r = left - n ∧ 0 ≤ r)

-- marks

def decDigits : Nat → Nat → List UInt8 → List UInt8
  | 0, _, acc => acc
  | f + 1, k, acc => if k = 0 then acc else decDigits f (k / 10) (UInt8.ofNat (48 + k % 10) :: acc)
/-- what markText makes -/
def mkText (k : Int) : ByteArray := if k ≤ 0 then ⟨#[109, 48]⟩ else ⟨(109 :: decDigits (k.toNat + 1) k.toNat []).toArray⟩
mutual
def mk : Lf → Int → Lf
  | .v (.int kd _), k => .v (.int kd (kd.wrap k))
  | .v (.bool _), k => .v (.bool (decide (Int.tmod k 3 = 0)))
  | .v (.string _), k => .v (.string (mkText k))
  | .v x, _ => .v x
  | .s n ls, k => .s n (mkL ls k)
def mkL : List Lf → Int → List Lf
  | [], _ => []
  | l :: ls, k => mk l k :: mkL ls (k + cnt l)
def cnt : Lf → Nat
  | .v _ => 1
  | .s _ ls => cntL ls
def cntL : List Lf → Nat
  | [] => 0
  | l :: ls => cnt l + cntL ls
end
theorem mkL_nil (k : Int) : mkL [] k = [] := by rw [mkL]
theorem mkL_cons (l : Lf) (ls : List Lf) (k : Int) : mkL (l :: ls) k = mk l k :: mkL ls (k + cnt l) := by rw [mkL]
theorem cntL_nil : cntL [] = 0 := by rw [cntL]
theorem cntL_cons (l : Lf) (ls : List Lf) : cntL (l :: ls) = cnt l + cntL ls := by rw [cntL]
theorem cnt_v (x : Value) : cnt (.v x) = 1 := by rw [cnt]
theorem cnt_s (n : Nat) (ls : List Lf) : cnt (.s n ls) = cntL ls := by rw [cnt]
theorem mk_s (n : Nat) (ls : List Lf) (k : Int) : mk (.s n ls) k = .s n (mkL ls k) := by rw [mk]
theorem mk_int (kd : IntKind) (n : Int) (k : Int) : mk (.v (.int kd n)) k = .v (.int kd (kd.wrap k)) := by rw [mk]
theorem mk_bool (b : Bool) (k : Int) : mk (.v (.bool b)) k = .v (.bool (decide (Int.tmod k 3 = 0))) := by rw [mk]
theorem mk_str (s : ByteArray) (k : Int) : mk (.v (.string s)) k = .v (.string (mkText k)) := by rw [mk]
theorem cntL_append (as bs : List Lf) : cntL (as ++ bs) = cntL as + cntL bs := by
  induction as with
  | nil => simp [cntL_nil]
  | cons a as ih => rw [List.cons_append, cntL_cons, cntL_cons, ih, Nat.add_assoc]
theorem mkL_append (as bs : List Lf) (k : Int) : mkL (as ++ bs) k = mkL as k ++ mkL bs (k + cntL as) := by
  induction as generalizing k with
  | nil => simp [cntL_nil, mkL_nil]
  | cons a as ih => rw [List.cons_append, mkL_cons, mkL_cons, ih, cntL_cons, List.cons_append, Int.natCast_add, Int.add_assoc]
theorem mkL_length (as : List Lf) (k : Int) : (mkL as k).length = as.length := by
  induction as generalizing k with
  | nil => simp [mkL_nil]
  | cons a as ih => rw [mkL_cons]; simp [ih]

/-- a struct's own marks: those of its slices, one behind the other -/
def topL : List Lf → Int → List Lf
  | [], _ => []
  | .v x :: ls, k => .v x :: topL ls k
  | .s n l :: ls, k => .s n (mkL l k) :: topL ls (k + cntL l)
def tcnt : List Lf → Nat
  | [] => 0
  | .v _ :: ls => tcnt ls
  | .s _ l :: ls => cntL l + tcnt ls
theorem topL_nil (k : Int) : topL [] k = [] := by rw [topL]
theorem topL_v (x : Value) (ls : List Lf) (k : Int) : topL (.v x :: ls) k = .v x :: topL ls k := by rw [topL]
theorem topL_s (n : Nat) (l ls : List Lf) (k : Int) : topL (.s n l :: ls) k = .s n (mkL l k) :: topL ls (k + cntL l) := by rw [topL]
theorem tcnt_nil : tcnt [] = 0 := by rw [tcnt]
theorem tcnt_v (x : Value) (ls : List Lf) : tcnt (.v x :: ls) = tcnt ls := by rw [tcnt]
theorem tcnt_s (n : Nat) (l ls : List Lf) : tcnt (.s n l :: ls) = cntL l + tcnt ls := by rw [tcnt]
theorem tcnt_le : ∀ ls : List Lf, tcnt ls ≤ cntL ls
  | [] => by rw [tcnt_nil]; omega
  | .v x :: ls => by rw [tcnt_v, cntL_cons, cnt_v]; have := tcnt_le ls; omega
  | .s n l :: ls => by rw [tcnt_s, cntL_cons, cnt_s]; have := tcnt_le ls; omega

mutual
/-- no row is wider than 24 cells -/
def Slim : Lf → Prop
  | .v _ => True
  | .s n ls => ls.length ≤ 24 * n ∧ SlimL ls
def SlimL : List Lf → Prop
  | [] => True
  | l :: ls => Slim l ∧ SlimL ls
end
mutual
theorem cnt_le : ∀ l : Lf, Slim l → cnt l ≤ 24 * siz l + 1
  | .v x, _ => by rw [cnt_v]; omega
  | .s n ls, h => by
    rw [Slim] at h
    have := cntL_le ls h.2
    rw [cnt_s, siz_s]; omega
theorem cntL_le : ∀ ls : List Lf, SlimL ls → cntL ls ≤ 24 * sizL ls + ls.length
  | [], _ => by rw [cntL_nil]; omega
  | l :: ls, h => by
    rw [SlimL] at h
    have h1 := cnt_le l h.1
    have h2 := cntL_le ls h.2
    rw [cntL_cons, sizL_cons, List.length_cons]; omega
end
theorem SlimL_nil : SlimL [] := by rw [SlimL]; trivial
theorem SlimL_cons {l : Lf} {ls : List Lf} (h : Slim l) (k : SlimL ls) : SlimL (l :: ls) := by rw [SlimL]; exact ⟨h, k⟩
theorem Slim_v (x : Value) : Slim (.v x) := by rw [Slim]; trivial
theorem SlimL_append {as bs : List Lf} (h : SlimL as) (k : SlimL bs) : SlimL (as ++ bs) := by
  induction as with
  | nil => exact k
  | cons a as ih => rw [SlimL] at h; exact SlimL_cons h.1 (ih h.2)
theorem Slim_flat {α : Type} (en : α → List Lf) (sz : Nat) (hs : ∀ x, (en x).length = sz) (hz : sz ≤ 24) (hl : ∀ x, SlimL (en x)) (xs : List α) : Slim (.s xs.length (xs.flatMap en)) := by
  rw [Slim]
  refine ⟨?_, ?_⟩
  · rw [flat_len en sz hs, Nat.mul_comm]; exact Nat.mul_le_mul_right _ hz
  · induction xs with
    | nil => exact SlimL_nil
    | cons x xs ih => rw [List.flatMap_cons]; exact SlimL_append (hl x) ih

theorem wrap_id (m : Int) (h0 : 0 ≤ m) (h1 : m ≤ 4611686018427387904) : IntKind.i64.wrap m = m := by rw [IntKind.wrap_i64]; omega

theorem size_set (w : World) (p : Addr) (u : Value) : (w.setCell p u).heap.size = w.heap.size := by simp [World.setCell]
theorem size_alloc (w : World) (o : Obj) : (w.alloc o).heap.size = w.heap.size + 1 := by simp
-- writing
theorem RowIs.set {w : World} {g : Nat} {us : List Value} (h : RowIs w g us) (k : Nat) (u : Value) (hk : k < us.length) : RowIs (w.setCell ⟨g, k, none⟩ u) g (us.set k u) := by
  intro j x hx
  have hc := (h k us[k] (List.getElem?_eq_getElem hk)).1
  by_cases hj : j = k
  · subst hj
    rw [List.getElem?_set_self hk] at hx
    injection hx with hx; subst hx
    exact ⟨World.cell?_setCell_same w _ _ hc, by rw [World.frozen?_setCell]; exact (h j _ (List.getElem?_eq_getElem hk)).2⟩
  · rw [List.getElem?_set_ne (by omega)] at hx
    exact ⟨(World.cell?_setCell_other w _ _ _ (fun e => hj (by injection e with _ e2 _; exact e2.symm))).trans (h j x hx).1, by rw [World.frozen?_setCell]; exact (h j x hx).2⟩
theorem RowIs.keep {w w' : World} {g : Nat} {us : List Value} (h : RowIs w g us) (hk : w'.heap[g]? = w.heap[g]?) : RowIs w' g us :=
  fun k x hx => ⟨(World.cell?_of_block (w := w) (a := ⟨g, k, none⟩) hk).trans (h k x hx).1, (World.frozen?_of_block (w := w) (a := ⟨g, k, none⟩) hk).trans (h k x hx).2⟩
theorem RowIs.other {w : World} {g : Nat} {us : List Value} (h : RowIs w g us) {p : Addr} (hp : g ≠ p.block) (u : Value) : RowIs (w.setCell p u) g us := h.keep (Below.heap_setCell w p u g hp)
theorem RowIs.drew {w : World} {g : Nat} {us : List Value} (h : RowIs w g us) : RowIs w.drew g us := h
theorem RowIs.drewN {w : World} {g : Nat} {us : List Value} (h : RowIs w g us) (n : Nat) : RowIs (w.drewN n) g us := h
theorem RowIs.pre {w : World} {g : Nat} {us vs : List Value} (h : RowIs w g (us ++ vs)) : RowIs w g us := fun k x hx => h k x (by rw [List.getElem?_append_left (List.getElem?_eq_some_iff.1 hx).1]; exact hx)
theorem RowIs.take {w : World} {g : Nat} {us : List Value} (h : RowIs w g us) (n : Nat) : RowIs w g (us.take n) := by
  rw [← List.take_append_drop n us] at h
  exact h.pre
theorem RowIs.get {w : World} {g : Nat} {us : List Value} (h : RowIs w g us) (k : Nat) (hk : k < us.length) : ∃ y, w.cell? ⟨g, k, none⟩ = some y ∧ w.frozen? ⟨g, k, none⟩ = false :=
  ⟨us[k], h k _ (List.getElem?_eq_getElem hk)⟩
/-- cells written one behind the other -/
def sets (us : List Value) : Nat → List Value → List Value
  | _, [] => us
  | k, a :: r => sets (us.set k a) (k + 1) r
theorem sets_length (us : List Value) (k : Nat) (r : List Value) : (sets us k r).length = us.length := by
  induction r generalizing us k with
  | nil => rfl
  | cons a r ih => rw [sets, ih]; simp
theorem sets_take (us : List Value) (k : Nat) (r : List Value) (h : k + r.length ≤ us.length) : (sets us k r).take (k + r.length) = us.take k ++ r := by
  induction r generalizing us k with
  | nil => simp [sets]
  | cons a r ih =>
    rw [List.length_cons] at h ⊢
    rw [sets, show k + (r.length + 1) = k + 1 + r.length from by omega, ih _ _ (by simp; omega), List.take_succ_eq_append_getElem (by simp; omega)]
    rw [List.getElem_set_self, List.take_set_of_le (Nat.le_refl _), List.append_assoc]
    rfl
theorem sets_drop (us : List Value) (k : Nat) (r : List Value) (n : Nat) (hn : k + r.length ≤ n) : (sets us k r).drop n = us.drop n := by
  induction r generalizing us k with
  | nil => rfl
  | cons a r ih =>
    rw [List.length_cons] at hn
    rw [sets, ih _ _ (by omega), List.drop_set_of_lt (by omega)]
/-- the row in three parts: its middle's cells -/
theorem RowIs.mid {w : World} {g : Nat} {pre row post : List Value} (h : RowIs w g (pre ++ (row ++ post))) (j : Nat) (y : Value) (hy : row[j]? = some y) : w.cell? ⟨g, pre.length + j, none⟩ = some y ∧ w.frozen? ⟨g, pre.length + j, none⟩ = false := by
  refine h _ _ ?_
  rw [List.getElem?_append_right (by omega), Nat.add_sub_cancel_left, List.getElem?_append_left (List.getElem?_eq_some_iff.1 hy).1]
  exact hy

theorem RowIs.midk {w : World} {g k : Nat} {pre row post : List Value} (h : RowIs w g (pre ++ (row ++ post))) (hk : pre.length = k) (j : Nat) (y : Value) (hy : row[j]? = some y) : w.cell? ⟨g, k + j, none⟩ = some y ∧ w.frozen? ⟨g, k + j, none⟩ = false := hk ▸ h.mid j y hy
theorem bcell {W w1 : World} {B : Nat} (hb : Below B W w1) : (∀ b o, b < B → w1.cell? ⟨b, o, none⟩ = W.cell? ⟨b, o, none⟩) ∧ (∀ b o, b < B → w1.frozen? ⟨b, o, none⟩ = W.frozen? ⟨b, o, none⟩) :=
  ⟨fun b o h => hb.cell (p := ⟨b, o, none⟩) h, fun b o h => hb.frozen (p := ⟨b, o, none⟩) h⟩
theorem run_make_rowN {P : Program} (t e : TypeId) (i : TypeInfo) (z : Value) (ht : P.underlying t = some (.slice e)) (hi : P.info? e = some i) (hz : i.zero = some z)
    (kl kc : IntKind) (n c : Nat) (hnc : n ≤ c) (hbytes : i.bytes * c ≤ 281474976710656) (h63 : c ≤ 9223372036854775807) (w : World) :
    (Instr.makeSlice t (.int kl (n : Int)) (.int kc (c : Int))).run P w = .ok (.slice (some ⟨w.heap.size, 0, none⟩) n c) (w.alloc (.cells (madeCells z.cells (c * i.size)) e)) := by
  have hb : (i.bytes : Int) * (c : Int) ≤ 281474976710656 := by
    have h : ((i.bytes * c : Nat) : Int) ≤ 281474976710656 := by omega
    rwa [Int.natCast_mul] at h
  have hr := run_make (P := P) w t e i z ht hi hz kl kc n c (by omega) (by omega) hb (by omega)
  simp only [Int.toNat_natCast] at hr
  exact hr
/-- a slice of n elements is made -/
theorem run_make_any {P : Program} (t e : TypeId) (bytes size : Nat) (ht : P.underlying t = some (.slice e)) (hi : ∃ i z, P.info? e = some i ∧ i.zero = some z ∧ i.bytes = bytes ∧ i.size = size) (n : Nat) (hn : bytes * n ≤ 281474976710656) (h63 : n ≤ 9223372036854775807) :
    ∃ cs : Array Value, cs.size = n * size ∧ ∀ W : World, (Instr.makeSlice t (.int .i64 (n : Int)) (.int .i64 (n : Int))).run P W = .ok (.slice (some ⟨W.heap.size, 0, none⟩) n n) (W.alloc (.cells cs e)) := by
  obtain ⟨i, z, h1, h2, h3, h4⟩ := hi
  refine ⟨madeCells z.cells (n * i.size), by rw [size_madeCells, h4], fun W => run_make_rowN t e i z ht h1 h2 .i64 .i64 n n (Nat.le_refl _) (by rw [h3]; exact hn) h63 W⟩
theorem RowIs.new (w : World) (cs : Array Value) (e : TypeId) : RowIs (w.alloc (.cells cs e)) w.heap.size cs.toList := by
  intro k x hx
  have h : (w.alloc (.cells cs e)).heap[w.heap.size]? = some (.cells cs e (0, 0)) := heap_alloc_new w _
  rw [cell_of_row _ _ _ _ _ _ h]
  refine ⟨by simpa using hx, ?_⟩
  unfold World.frozen?
  rw [h]
  simp
/-- a slice's footprint: new blocks, no two alike -/
def Fresh (w : World) (fp : List Nat) : Prop := fp.Nodup ∧ ∀ g, g ∈ fp → w.heap.size ≤ g
theorem Fresh.nil (w : World) : Fresh w [] := ⟨by simp, by simp⟩
theorem Fresh.mono {w w' : World} {fp : List Nat} (h : Fresh w' fp) (hz : w.heap.size ≤ w'.heap.size) : Fresh w fp := ⟨h.1, fun g hg => Nat.le_trans hz (h.2 g hg)⟩
/-- what was made later lies apart from what was there before -/
theorem Fresh.append {w : World} {a b : List Nat} {B : Nat} (ha : Fresh w a) (hl : ∀ g, g ∈ a → g < B) (hb : b.Nodup ∧ ∀ g, g ∈ b → B ≤ g) (hB : w.heap.size ≤ B) : Fresh w (a ++ b) := by
  refine ⟨List.nodup_append.2 ⟨ha.1, hb.1, fun x hx y hy e => ?_⟩, fun g hg => ?_⟩
  · have := hl x hx; have := hb.2 y hy; omega
  · rcases List.mem_append.1 hg with h | h
    · exact ha.2 g h
    · have := hb.2 g h; omega
theorem Fresh.put {w w' : World} {a b : List Nat} (ha : Fresh w a) (hl : ∀ g, g ∈ a → g < w'.heap.size) (hb : Fresh w' b) (hB : w.heap.size ≤ w'.heap.size) : Fresh w (a ++ b) := ha.append hl hb hB
theorem Fresh.cons {w : World} {g : Nat} {b : List Nat} (hg : w.heap.size ≤ g) (hb : Fresh w b) (hn : g ∉ b) : Fresh w (g :: b) :=
  ⟨List.nodup_cons.2 ⟨hn, hb.1⟩, fun x hx => by rcases List.mem_cons.1 hx with rfl | h; exact hg; exact hb.2 x h⟩

-- the loops of the copies
def putRow (w : World) (g : Nat) : Nat → List Value → World
  | _, [] => w
  | k, a :: r => putRow (w.setCell ⟨g, k, none⟩ a) g (k + 1) r
theorem putRow_chg (g : Nat) (r : List Value) : ∀ (w : World) (k : Nat), Chg (· = g) w (putRow w g k r) := by
  induction r with
  | nil => intro w k; exact Chg.refl _ _
  | cons a r ih => intro w k; exact ((Chg.refl (· = g) w).setCell (p := ⟨g, k, none⟩) (.inl rfl) a).trans (ih _ _)
theorem putRow_row (g : Nat) (r : List Value) : ∀ (w : World) (k : Nat) (us : List Value), k + r.length ≤ us.length → RowIs w g us → RowIs (putRow w g k r) g (sets us k r) := by
  induction r with
  | nil => intro w k us _ h; exact h
  | cons a r ih =>
    intro w k us hl h
    rw [List.length_cons] at hl
    exact ih _ _ _ (by simp; omega) (h.set k a (by omega))

structure ToInv {α : Type} (en : α → List Lf) (sz : Nat) (xs : List α) (w wr : World) (i : Nat) (us : List Value) (fp : List Nat) : Prop where
  len : us.length = xs.length * sz
  row : RowIs wr w.heap.size us
  own : OwnL wr ((xs.take i).flatMap en) (us.take (i * sz)) fp
  nodup : fp.Nodup
  gt : ∀ g, g ∈ fp → w.heap.size < g
  size : w.heap.size < wr.heap.size
  below : Below w.heap.size w wr
def ToI {α : Type} (en : α → List Lf) (sz : Nat) (xs : List α) (w wr : World) (i : Nat) : Prop := ∃ us fp, ToInv en sz xs w wr i us fp
theorem ToI.start {α : Type} {en : α → List Lf} {sz : Nat} {xs : List α} {w : World} {cs : Array Value} {e : TypeId} (h : cs.size = xs.length * sz) : ToI en sz xs w (w.alloc (.cells cs e)) 0 :=
  ⟨cs.toList, [], by simpa using h, RowIs.new _ _ _, by simp [OwnL_nil], by simp, by simp, by simp, (Below.refl _ _).alloc (Nat.le_refl _) _⟩
theorem ToI.below {α : Type} {en : α → List Lf} {sz : Nat} {xs : List α} {w wr : World} {i : Nat} (h : ToI en sz xs w wr i) : Below w.heap.size w wr := by
  obtain ⟨us, fp, h⟩ := h; exact h.below
theorem ToI.size {α : Type} {en : α → List Lf} {sz : Nat} {xs : List α} {w wr : World} {i : Nat} (h : ToI en sz xs w wr i) : w.heap.size < wr.heap.size := by
  obtain ⟨us, fp, h⟩ := h; exact h.size
theorem ToI.get {α : Type} {en : α → List Lf} {sz : Nat} {xs : List α} {w wr w1 : World} {i : Nat} (h : ToI en sz xs w wr i) (hb : Below wr.heap.size wr w1) (j : Nat) (hi : i < xs.length) (hj : j < sz) :
    ∃ y, w1.cell? ⟨w.heap.size, i * sz + j, none⟩ = some y ∧ w1.frozen? ⟨w.heap.size, i * sz + j, none⟩ = false := by
  obtain ⟨us, fp, h⟩ := h
  refine (h.row.keep (hb.block _ h.size)).get _ ?_
  rw [h.len]
  have : (i + 1) * sz ≤ xs.length * sz := Nat.mul_le_mul_right _ hi
  rw [Nat.succ_mul] at this
  omega
theorem ToI.step {α : Type} {en : α → List Lf} {sz : Nat} {xs : List α} {w wr w1 : World} {i : Nat} {x : α} (h : ToI en sz xs w wr i) (hx : xs[i]? = some x) (hb : Below wr.heap.size wr w1) (hs : ∀ x, (en x).length = sz)
    {ys : List Value} {fp' : List Nat} (ho : OwnL w1 (en x) ys fp') (hf : Fresh wr fp') : ToI en sz xs w (putRow w1 w.heap.size (i * sz) ys) (i + 1) := by
  obtain ⟨us, fp, h⟩ := h
  have hi : i < xs.length := (List.getElem?_eq_some_iff.1 hx).1
  have hyl : ys.length = sz := by rw [OwnL.length _ _ _ ho, hs]
  have hle : (i + 1) * sz ≤ xs.length * sz := Nat.mul_le_mul_right _ hi
  rw [Nat.succ_mul] at hle
  have hlen := h.len
  have hsz := h.size
  have hgf : ∀ g, g ∈ fp' → wr.heap.size ≤ g := hf.2
  have hch := putRow_chg w.heap.size ys w1 (i * sz)
  have hfl : ∀ g, g ∈ fp → g < wr.heap.size := OwnL.lt _ _ _ h.own
  refine ⟨sets us (i * sz) ys, fp ++ fp', by rw [sets_length]; exact h.len, putRow_row _ _ _ _ _ (by omega) (h.row.keep (hb.block _ h.size)), ?_, ?_, ?_, ?_, ?_⟩
  · rw [flat_take en xs i x hx, Nat.succ_mul, show i * sz + sz = i * sz + ys.length from by omega, sets_take _ _ _ (by omega)]
    refine OwnL.append _ _ _ _ _ _ ?_ ?_
    · exact (h.own.below hb).chg hch (fun g hg e => by have := h.gt g hg; omega)
    · exact ho.chg hch (fun g hg e => by have := hgf g hg; omega)
  · exact List.nodup_append.2 ⟨h.nodup, hf.1, fun a ha b hb' e => by have := hfl a ha; have := hgf b hb'; omega⟩
  · intro g hg
    rcases List.mem_append.1 hg with hg | hg
    · exact h.gt g hg
    · have := hgf g hg; omega
  · have := hch.size; have := hb.size; omega
  · exact below_chg (h.below.trans (hb.mono (by omega))) hch (by have := hb.size; omega) (fun i hi => by omega)
theorem ToI.finish {α : Type} {en : α → List Lf} {sz : Nat} {xs : List α} {w wr : World} (h : ToI en sz xs w wr xs.length) (hn : xs.length ≤ 1048576) :
    ∃ fp, Own wr (.s xs.length (xs.flatMap en)) (.slice (some ⟨w.heap.size, 0, none⟩) xs.length xs.length) fp ∧ Fresh w fp ∧ Below w.heap.size w wr := by
  obtain ⟨us, fp, h⟩ := h
  have hok : SlOk xs.length xs.length := ⟨Nat.le_refl _, by omega, by omega⟩
  by_cases h0 : xs.length = 0
  · refine ⟨[], ?_, Fresh.nil _, h.below⟩
    rw [Own]
    rw [h0] at hok ⊢
    exact .inl ⟨rfl, ⟨_, _, rfl, hok⟩, rfl⟩
  · refine ⟨w.heap.size :: fp, ?_, Fresh.cons (Nat.le_refl _) ⟨h.nodup, fun g hg => Nat.le_of_lt (h.gt g hg)⟩ (fun hm => by have := h.gt _ hm; omega), h.below⟩
    have ho := h.own
    rw [List.take_length, ← h.len, List.take_length] at ho
    rw [Own]
    exact .inr ⟨by omega, w.heap.size, _, us, fp, rfl, hok, rfl, h.size, h.row, ho⟩

-- the loops of the marks
theorem sets_mid (up ur uo : List Value) : ∀ (ur' : List Value), ur'.length = ur.length → sets (up ++ (ur ++ uo)) up.length ur' = up ++ (ur' ++ uo) := by
  induction ur generalizing up with
  | nil => intro ur' h; have : ur' = [] := List.eq_nil_of_length_eq_zero h; subst this; rfl
  | cons a ur ih =>
    intro ur' h
    cases ur' with
    | nil => simp at h
    | cons a' ur' =>
      have h' : ur'.length = ur.length := by simpa using h
      rw [sets]
      have e : (up ++ (a :: ur ++ uo)).set up.length a' = (up ++ [a']) ++ (ur ++ uo) := by
        rw [List.set_append_right _ _ (Nat.le_refl _), Nat.sub_self]; simp
      rw [e]
      have := ih (up ++ [a']) ur' h'
      rw [List.length_append] at this
      rw [show up.length + 1 = up.length + [a'].length from rfl, this]
      simp
theorem RowIs.setMid {w : World} {g : Nat} {up r uo : List Value} (h : RowIs w g (up ++ (r ++ uo))) {k : Nat} (hk : up.length = k) (j : Nat) (hj : j < r.length) (a : Value) : RowIs (w.setCell ⟨g, k + j, none⟩ a) g (up ++ (r.set j a ++ uo)) := by
  subst hk
  have h2 := h.set (up.length + j) a (by simp; omega)
  rw [List.set_append_right _ _ (by omega), Nat.add_sub_cancel_left, List.set_append_left _ _ hj] at h2
  exact h2
def MkI {α : Type} (en : α → List Lf) (xs : List α) (k0 : Int) (w wr : World) (v : Value) (fp : List Nat) (i : Nat) : Prop :=
  Own wr (.s xs.length (mkL ((xs.take i).flatMap en) k0 ++ (xs.drop i).flatMap en)) v fp ∧ Chg (· ∈ fp) w wr
structure MkO {α : Type} (en : α → List Lf) (sz : Nat) (xs : List α) (k0 : Int) (w wr : World) (fp : List Nat) (i : Nat) (x : α) (g c : Nat) (up ur uo : List Value) (fa fr fo : List Nat) : Prop where
  hx : xs[i]? = some x
  ok : SlOk xs.length c
  len : up.length = i * sz
  rlen : ur.length = sz
  glt : g < wr.heap.size
  row : RowIs wr g (up ++ (ur ++ uo))
  pre : OwnL wr (mkL ((xs.take i).flatMap en) k0) up fa
  mid : OwnL wr (en x) ur fr
  post : OwnL wr ((xs.drop (i + 1)).flatMap en) uo fo
  fpe : fp = g :: (fa ++ (fr ++ fo))
  nodup : fp.Nodup
  chg : Chg (· ∈ fp) w wr
theorem MkI.open_ {α : Type} {en : α → List Lf} {sz : Nat} (hs : ∀ x, (en x).length = sz) {xs : List α} {k0 : Int} {w wr : World} {v : Value} {fp : List Nat} {i : Nat} (h : MkI en xs k0 w wr v fp i) (hnd : fp.Nodup) {x : α} (hx : xs[i]? = some x) :
    ∃ g c up ur uo fa fr fo, v = .slice (some ⟨g, 0, none⟩) xs.length c ∧ MkO en sz xs k0 w wr fp i x g c up ur uo fa fr fo := by
  obtain ⟨ho, hc⟩ := h
  have hi : i < xs.length := (List.getElem?_eq_some_iff.1 hx).1
  rw [Own] at ho
  rcases ho with ⟨h0, _⟩ | ⟨hn, g, c, us, fp', rfl, hok, rfl, hg, hr, hl⟩
  · omega
  · have e : (xs.drop i).flatMap en = en x ++ (xs.drop (i + 1)).flatMap en := by
      rw [List.drop_eq_getElem_cons hi, (List.getElem?_eq_some_iff.1 hx).2]; rfl
    rw [e] at hl
    obtain ⟨up, ub, fa, fb, rfl, rfl, hla, ha, hb⟩ := OwnL.split _ _ _ _ hl
    obtain ⟨ur, uo, fr, fo, rfl, rfl, hlr, hr', ho⟩ := OwnL.split _ _ _ _ hb
    refine ⟨g, c, up, ur, uo, fa, fr, fo, rfl, ⟨hx, hok, ?_, by rw [hlr, hs], hg, hr, ha, hr', ho, rfl, hnd, hc⟩⟩
    rw [hla, mkL_length, flat_len en sz hs, List.length_take, Nat.min_eq_left (by omega)]
theorem MkO.cell {α : Type} {en : α → List Lf} {sz : Nat} {xs : List α} {k0 : Int} {w wr : World} {fp : List Nat} {i : Nat} {x : α} {g c : Nat} {up ur uo : List Value} {fa fr fo : List Nat} (h : MkO en sz xs k0 w wr fp i x g c up ur uo fa fr fo) (j : Nat) (y : Value) (hy : ur[j]? = some y) :
    wr.cell? ⟨g, i * sz + j, none⟩ = some y ∧ wr.frozen? ⟨g, i * sz + j, none⟩ = false := by
  rw [← h.len]; exact h.row.mid j y hy
theorem MkO.fr_ne {α : Type} {en : α → List Lf} {sz : Nat} {xs : List α} {k0 : Int} {w wr : World} {fp : List Nat} {i : Nat} {x : α} {g c : Nat} {up ur uo : List Value} {fa fr fo : List Nat} (h : MkO en sz xs k0 w wr fp i x g c up ur uo fa fr fo) : g ∉ fr := by
  have := h.nodup; rw [h.fpe] at this
  intro hg
  exact (List.nodup_cons.1 this).1 (by simp [hg])
theorem MkO.fr_nodup {α : Type} {en : α → List Lf} {sz : Nat} {xs : List α} {k0 : Int} {w wr : World} {fp : List Nat} {i : Nat} {x : α} {g c : Nat} {up ur uo : List Value} {fa fr fo : List Nat} (h : MkO en sz xs k0 w wr fp i x g c up ur uo fa fr fo) : fr.Nodup := by
  have := h.nodup; rw [h.fpe] at this
  exact (List.nodup_append.1 (List.nodup_append.1 (List.nodup_cons.1 this).2).2.1).1
theorem MkO.close {α : Type} {en : α → List Lf} {sz : Nat} {xs : List α} {k0 : Int} {w wr w2 : World} {fp : List Nat} {i : Nat} {x : α} {g c : Nat} {up ur uo : List Value} {fa fr fo : List Nat} (h : MkO en sz xs k0 w wr fp i x g c up ur uo fa fr fo)
    {ur' : List Value} (hr : RowIs w2 g (up ++ (ur' ++ uo))) (ho : OwnL w2 (mkL (en x) (k0 + cntL ((xs.take i).flatMap en))) ur' fr) (hc : Chg (fun b => b = g ∨ b ∈ fr) wr w2) :
    MkI en xs k0 w w2 (.slice (some ⟨g, 0, none⟩) xs.length c) fp (i + 1) := by
  have hnd := h.nodup
  have hi : i < xs.length := (List.getElem?_eq_some_iff.1 h.hx).1
  have hfpe := h.fpe
  subst hfpe
  obtain ⟨hg, hnd2⟩ := List.nodup_cons.1 hnd
  obtain ⟨ha, hro, hd⟩ := List.nodup_append.1 hnd2
  obtain ⟨hr2, ho2, hd2⟩ := List.nodup_append.1 hro
  refine ⟨?_, h.chg.trans (hc.mono (fun k _ hk => by rcases hk with rfl | hk <;> simp_all))⟩
  rw [Own]
  refine .inr ⟨by omega, g, c, up ++ (ur' ++ uo), fa ++ (fr ++ fo), rfl, h.ok, rfl, Nat.lt_of_lt_of_le h.glt hc.size, hr, ?_⟩
  rw [flat_take en xs i x h.hx, mkL_append, List.append_assoc]
  refine OwnL.append _ _ _ _ _ _ (h.pre.chg hc ?_) (OwnL.append _ _ _ _ _ _ ho (h.post.chg hc ?_))
  · intro b hb hk
    rcases hk with rfl | hk
    · exact hg (by simp [hb])
    · exact hd b hb b (by simp [hk]) rfl
  · intro b hb hk
    rcases hk with rfl | hk
    · exact hg (by simp [hb])
    · exact hd2 b hk b hb rfl
theorem MkO.closeRow {α : Type} {en : α → List Lf} {sz : Nat} {xs : List α} {k0 : Int} {w wr : World} {fp : List Nat} {i : Nat} {x : α} {g c : Nat} {up ur uo : List Value} {fa fr fo : List Nat} (h : MkO en sz xs k0 w wr fp i x g c up ur uo fa fr fo)
    {ur' : List Value} (ho : OwnL wr (mkL (en x) (k0 + cntL ((xs.take i).flatMap en))) ur' []) (hfr : fr = []) (hl : ur'.length = sz) :
    MkI en xs k0 w (putRow wr g (i * sz) ur') (.slice (some ⟨g, 0, none⟩) xs.length c) fp (i + 1) := by
  subst hfr
  have hch := putRow_chg g ur' wr (i * sz)
  refine h.close (ur' := ur') ?_ (ho.chg hch (by simp)) (hch.mono (fun k _ hk => .inl hk))
  have := putRow_row g ur' wr (i * sz) (up ++ (ur ++ uo)) (by have := h.len; have := h.rlen; simp; omega) h.row
  rw [← h.len, sets_mid _ _ _ _ (by rw [hl, h.rlen])] at this
  rw [← h.len]; exact this
theorem MkI.start {α : Type} {en : α → List Lf} {xs : List α} {k0 : Int} {w : World} {v : Value} {fp : List Nat} (h : Own w (.s xs.length (xs.flatMap en)) v fp) : MkI en xs k0 w w v fp 0 := by
  refine ⟨?_, Chg.refl _ _⟩
  simpa [mkL_nil] using h
theorem MkI.finish {α : Type} {en : α → List Lf} {xs : List α} {k0 : Int} {w wr : World} {v : Value} {fp : List Nat} (h : MkI en xs k0 w wr v fp xs.length) : Own wr (.s xs.length (mkL (xs.flatMap en) k0)) v fp ∧ Chg (· ∈ fp) w wr := by
  obtain ⟨h1, h2⟩ := h
  rw [List.take_length, List.drop_length] at h1
  simp only [List.flatMap_nil, List.append_nil] at h1
  exact ⟨h1, h2⟩
theorem MkI.slice {α : Type} {en : α → List Lf} {xs : List α} {k0 : Int} {w wr : World} {v : Value} {fp : List Nat} {i : Nat} (h : MkI en xs k0 w wr v fp i) : ∃ A c, v = .slice A xs.length c ∧ SlOk xs.length c := h.1.slice
theorem cnt_step {α : Type} (en : α → List Lf) (xs : List α) (i : Nat) (x : α) (h : xs[i]? = some x) : cntL ((xs.take (i+1)).flatMap en) = cntL ((xs.take i).flatMap en) + cntL (en x) := by
  rw [flat_take en xs i x h, cntL_append]
theorem cnt_take_le {α : Type} (en : α → List Lf) (xs : List α) (i : Nat) : cntL ((xs.take i).flatMap en) ≤ cntL (xs.flatMap en) := by
  conv => rhs; rw [← List.take_append_drop i xs]
  rw [List.flatMap_append, cntL_append]; omega
theorem siz_step {α : Type} (en : α → List Lf) (xs : List α) (i : Nat) (x : α) (h : xs[i]? = some x) : sizL ((xs.take (i+1)).flatMap en) = sizL ((xs.take i).flatMap en) + sizL (en x) := by
  rw [flat_take en xs i x h, sizL_append]
theorem siz_take_le {α : Type} (en : α → List Lf) (xs : List α) (i : Nat) : sizL ((xs.take i).flatMap en) ≤ sizL (xs.flatMap en) := by
  conv => rhs; rw [← List.take_append_drop i xs]
  rw [List.flatMap_append, sizL_append]; omega
/-- the row of a marked element, to be read -/
theorem RdW.atMk {α : Type} {w : World} {en : α → List Lf} {sz : Nat} (hs : ∀ x, (en x).length = sz) {xs : List α} {k0 : Int} {A : Option Addr} {c : Nat} (h : RdW w (.s xs.length (mkL (xs.flatMap en) k0)) (.slice A xs.length c)) {i : Nat} {x : α} (hx : xs[i]? = some x) :
    ∃ ad ys, A = some ad ∧ ad.block < w.heap.size ∧ RdLW w (mkL (en x) (k0 + cntL ((xs.take i).flatMap en))) ys ∧ ∀ (j : Nat) y, ys[j]? = some y → w.cell? (ad.add (i * sz + j)) = some y := by
  have hi : i < xs.length := (List.getElem?_eq_some_iff.1 hx).1
  have e : mkL (xs.flatMap en) k0 = mkL ((xs.take i).flatMap en) k0 ++ (mkL (en x) (k0 + cntL ((xs.take i).flatMap en)) ++ mkL ((xs.drop (i+1)).flatMap en) (k0 + cntL ((xs.take i).flatMap en) + cntL (en x))) := by
    conv => lhs; rw [flat_row en xs i x hx]
    rw [mkL_append, mkL_append]
  obtain ⟨ad, ys, rfl, hs', hr, hc⟩ := Rd.row h (by omega) e
  rw [mkL_length, flat_len en sz hs, List.length_take, Nat.min_eq_left (by omega)] at hc
  exact ⟨ad, ys, rfl, hs', hr, hc⟩

-- a block that is known whole
def Blk (w : World) (g : Nat) (t : TypeId) (cs : Array Value) : Prop := w.heap[g]? = some (.cells cs t (0, 0))
theorem Blk.lt {w : World} {g : Nat} {t : TypeId} {cs : Array Value} (h : Blk w g t cs) : g < w.heap.size := by
  rcases Nat.lt_or_ge g w.heap.size with hlt | hge
  · exact hlt
  · unfold Blk at h; rw [Array.getElem?_eq_none hge] at h; cases h
theorem Blk.cell {w : World} {g : Nat} {t : TypeId} {cs : Array Value} (h : Blk w g t cs) (i : Nat) : w.cell? ⟨g, i, none⟩ = cs[i]? := cell_of_row w g i cs t (0, 0) h
theorem Blk.frozen {w : World} {g : Nat} {t : TypeId} {cs : Array Value} (h : Blk w g t cs) (i : Nat) : w.frozen? ⟨g, i, none⟩ = false := by
  unfold Blk at h
  unfold World.frozen?
  rw [h]; simp
theorem Blk.new (w : World) (t : TypeId) (cs : Array Value) : Blk (w.alloc (.cells cs t)) w.heap.size t cs := heap_alloc_new w _
theorem Blk.made {w : World} {t : TypeId} {cs : Array Value} {g : Nat} (hg : g = w.heap.size) : Blk (w.alloc (.cells cs t)) g t cs := by subst hg; exact Blk.new w t cs
theorem Blk.drew {w : World} {g : Nat} {t : TypeId} {cs : Array Value} (h : Blk w g t cs) : Blk w.drew g t cs := h
theorem Blk.alloc {w : World} {g : Nat} {t : TypeId} {cs : Array Value} (h : Blk w g t cs) (o : Obj) : Blk (w.alloc o) g t cs := (Below.heap_alloc w o g h.lt).trans h
theorem Blk.set_ {w : World} {g : Nat} {t : TypeId} {cs : Array Value} (h : Blk w g t cs) (i : Nat) (u : Value) : Blk (w.setCell ⟨g, i, none⟩ u) g t (cs.setIfInBounds i u) := by
  unfold Blk at h ⊢
  simp [World.setCell, Array.getElem?_modify, h]
theorem Blk.far {w : World} {g : Nat} {t : TypeId} {cs : Array Value} (h : Blk w g t cs) {p : Addr} (hp : g ≠ p.block) (u : Value) : Blk (w.setCell p u) g t cs := (Below.heap_setCell w p u g hp).trans h
theorem Blk.below {w w' : World} {g : Nat} {t : TypeId} {cs : Array Value} (h : Blk w g t cs) (hb : Below w.heap.size w w') : Blk w' g t cs := (hb.block g h.lt).trans h
theorem Blk.chg {w w' : World} {g : Nat} {t : TypeId} {cs : Array Value} {T : Nat → Prop} (h : Blk w g t cs) (hb : Chg T w w') (hg : ¬ T g) : Blk w' g t cs := (hb.block g h.lt hg).trans h
/-- as the walk takes it -/
theorem Blk.rules {w : World} {g : Nat} {t : TypeId} {cs : Array Value} (h : Blk w g t cs) : (∀ i, w.cell? ⟨g, i, none⟩ = cs[i]?) ∧ (∀ i, w.frozen? ⟨g, i, none⟩ = false) := ⟨h.cell, h.frozen⟩

/-- a function's end, its result in a block of its own: the last world under a name -/
theorem post_cell {P : Program} {fn : Func} {R : Ending → World → Prop} {a : Act} {w w0 : World} {p : Tmp} {ty : TypeId} (T : Nat → Prop) (h : fn.results = #[.cell p ty]) (g : Nat) (cs : Array Value) (d : TypeDesc)
    (hp : a.tmps.getD p undef = .pointer (some ⟨g, 0, none⟩)) (hg : Blk w g ty cs) (hu : P.underlying ty = some d) (hd : (match d with | .struct _ | .array _ _ => true | _ => false) = true) (hi : (P.info? ty).map (·.size) = some cs.size) (hf : a.defers = [])
    (hc : Chg T w0 w) (hR : ∀ W, Chg T w0 W → R (.returned (.agg cs)) W) : bodyPost P fn R .ret a w :=
  bodyPost_ret (results_cell_row h a.tmps w g ty cs (0, 0) d hp hg hu hd hi) hf (hR w hc)
theorem Blk.eq {w : World} {g : Nat} {t : TypeId} {cs cs' : Array Value} (h : Blk w g t cs) (e : cs = cs') : Blk w g t cs' := e ▸ h
/-- a number of 64 bits -/
def I64 (n : Int) : Prop := -9223372036854775808 ≤ n ∧ n ≤ 9223372036854775807
theorem Below.made_drew {B : Nat} {a w : World} (h : Below B a w) : Below B a w.drew := h.drew

theorem bytes_inj {a b : ByteArray} (h : a.toList = b.toList) : a = b := by
  rw [ByteArray.toList_eq, ByteArray.toList_eq] at h
  cases a; cases b
  simp_all
/-- two lists alike, element by element -/
def sameL {α : Type} (eq : α → α → Bool) : List α → List α → Bool
  | [], [] => true
  | x :: xs, y :: ys => eq x y && sameL eq xs ys
  | _, _ => false
theorem sameL_len {α : Type} {eq : α → α → Bool} : ∀ {xs ys : List α}, xs.length ≠ ys.length → sameL eq xs ys = false
  | [], [], h => absurd rfl h
  | [], _ :: _, _ => rfl
  | _ :: _, [], _ => rfl
  | x :: xs, y :: ys, h => by rw [sameL, sameL_len (by simpa using h), Bool.and_false]
theorem sameL_at {α : Type} {eq : α → α → Bool} : ∀ {xs ys : List α} {i : Nat} {x y : α}, xs[i]? = some x → ys[i]? = some y → eq x y = false → sameL eq xs ys = false
  | [], _, _, _, _, h, _, _ => by simp at h
  | _ :: _, [], _, _, _, _, h, _ => by simp at h
  | a :: xs, b :: ys, 0, x, y, h1, h2, h => by
    simp at h1 h2; subst h1; subst h2; rw [sameL, h, Bool.false_and]
  | a :: xs, b :: ys, i + 1, x, y, h1, h2, h => by
    rw [sameL, sameL_at (by simpa using h1) (by simpa using h2) h, Bool.and_false]
theorem sameL_all {α : Type} {eq : α → α → Bool} : ∀ {xs ys : List α}, xs.length = ys.length → (∀ (i : Nat) x y, xs[i]? = some x → ys[i]? = some y → eq x y = true) → sameL eq xs ys = true
  | [], [], _, _ => rfl
  | [], _ :: _, h, _ => by simp at h
  | _ :: _, [], h, _ => by simp at h
  | x :: xs, y :: ys, hl, h => by
    rw [sameL, h 0 x y rfl rfl, sameL_all (by simpa using hl) (fun i a b ha hb => h (i + 1) a b (by simpa using ha) (by simpa using hb)), Bool.and_self]
theorem step_eq {α : Type} {eq : α → α → Bool} {xs ys : List α} {i : Nat} {x y : α} (h : ∀ (j : Nat) a b, j < i → xs[j]? = some a → ys[j]? = some b → eq a b = true) (hx : xs[i]? = some x) (hy : ys[i]? = some y) (he : eq x y = true) : ∀ (j : Nat) a b, j < i + 1 → xs[j]? = some a → ys[j]? = some b → eq a b = true := by
  intro j a b hj ha hb
  by_cases e : j = i
  · subst e; rw [hx] at ha; rw [hy] at hb; injection ha with ha; injection hb with hb; subst ha; subst hb; exact he
  · exact h j a b (by omega) ha hb
/-- the first place at which p holds, or -1 -/
def idx {α : Type} (p : α → Bool) (xs : List α) : Int := match xs.findIdx? p with | some i => (i : Int) | none => -1
theorem idx_hit {α : Type} {p : α → Bool} {xs : List α} {i : Nat} {x : α} (hx : xs[i]? = some x) (hp : p x = true) (hno : ∀ j y, j < i → xs[j]? = some y → p y = false) : idx p xs = i := by
  have hi : i < xs.length := (List.getElem?_eq_some_iff.1 hx).1
  have hxi : xs[i] = x := (List.getElem?_eq_some_iff.1 hx).2
  have h : xs.findIdx? p = some i := by
    rw [List.findIdx?_eq_some_iff_getElem]
    refine ⟨hi, by rw [hxi]; exact hp, fun j hj => ?_⟩
    have := hno j (xs[j]'(by omega)) hj (List.getElem?_eq_getElem _)
    simp [this]
  unfold idx; rw [h]
theorem idx_miss {α : Type} {p : α → Bool} {xs : List α} (hno : ∀ y, y ∈ xs → p y = false) : idx p xs = -1 := by
  unfold idx
  rw [List.findIdx?_eq_none_iff.2 (fun y hy => by simp [hno y hy])]
theorem idx_any {α : Type} (p : α → Bool) (xs : List α) : decide (idx p xs ≥ 0) = xs.any p := by
  unfold idx
  cases h : xs.findIdx? p with
  | none =>
    rw [List.findIdx?_eq_none_iff] at h
    have : xs.any p = false := by rw [List.any_eq_false]; intro x hx; simp [h x hx]
    rw [this]; decide
  | some i =>
    rw [List.findIdx?_eq_some_iff_getElem] at h
    obtain ⟨hi, hp, _⟩ := h
    have : xs.any p = true := by rw [List.any_eq_true]; exact ⟨_, List.getElem_mem hi, hp⟩
    rw [this]; simp
theorem step_no {α : Type} {p : α → Prop} {xs : List α} {i : Nat} {x : α} (h : ∀ j y, j < i → xs[j]? = some y → p y) (hx : xs[i]? = some x) (hp : p x) : ∀ j y, j < i + 1 → xs[j]? = some y → p y := by
  intro j y hj hy
  by_cases e : j = i
  · subst e; rw [hx] at hy; injection hy with hy; subst hy; exact hp
  · exact h j y (by omega) hy
theorem all_of {α : Type} {p : α → Prop} {xs : List α} (h : ∀ j y, j < xs.length → xs[j]? = some y → p y) : ∀ y, y ∈ xs → p y := by
  intro y hy
  obtain ⟨j, hj⟩ := List.getElem?_of_mem hy
  exact h j y (List.getElem?_eq_some_iff.1 hj).1 hj
theorem no_start {α : Type} {p : α → Prop} {xs : List α} : ∀ j y, j < 0 → xs[j]? = some y → p y := fun _ _ h => absurd h (Nat.not_lt_zero _)
-- a row of the call's own, as the append's law tells it
theorem ownRow_own {α : Type} {en : α → List Lf} {vs : α → List Value} (hv : ∀ x, en x = (vs x).map Lf.v) {w : World} {base : Nat} {e : TypeId} {sz : Nat} {xs : List α} {v : Value}
    (h : w.ownsRow base e sz v xs.length (xs.flatMap vs)) (hl : xs.length ≤ 140737488355328) :
    ∃ fp, Own w (.s xs.length (xs.flatMap en)) v fp ∧ fp.Nodup ∧ ∀ g, g ∈ fp → base ≤ g := by
  obtain ⟨hlen, h⟩ := h
  have h63 : maxLen = 9223372036854775807 := by decide
  rcases h with ⟨rfl, h0⟩ | ⟨g, cap, cur, rfl, hb, hh, hn, hc, hcs, ht⟩
  · refine ⟨[], ?_, by simp, by simp⟩
    rw [Own, h0]
    exact .inl ⟨rfl, ⟨_, _, rfl, ⟨Nat.le_refl _, by omega, by omega⟩⟩, rfl⟩
  · by_cases h0 : xs.length = 0
    · refine ⟨[], ?_, by simp, by simp⟩
      rw [Own, h0]
      exact .inl ⟨rfl, ⟨_, _, rfl, ⟨Nat.zero_le _, by omega, by omega⟩⟩, rfl⟩
    · have hg : g < w.heap.size := by
        rcases Nat.lt_or_ge g w.heap.size with h1 | h1
        · exact h1
        · rw [Array.getElem?_eq_none h1] at hh; cases hh
      refine ⟨[g], ?_, by simp, by simpa using hb⟩
      rw [Own]
      refine .inr ⟨by omega, g, cap, xs.flatMap vs, [], rfl, ⟨hn, by omega, hl⟩, rfl, hg, ?_, ?_⟩
      · intro k x hx
        refine ⟨?_, ?_⟩
        · rw [cell_of_row w g k cur e (0, 0) hh]
          rw [← ht] at hx
          rw [List.getElem?_take] at hx
          split at hx
          · simpa using hx
          · cases hx
        · unfold World.frozen?; rw [hh]; simp
      · have : ∀ ys : List α, OwnL w (ys.flatMap en) (ys.flatMap vs) [] := by
          intro ys
          induction ys with
          | nil => rw [List.flatMap_nil, List.flatMap_nil]; exact OwnL_nil.2 ⟨rfl, rfl⟩
          | cons y ys ih =>
            rw [List.flatMap_cons, List.flatMap_cons, hv]
            have hflat : ∀ us : List Value, OwnL w (us.map Lf.v) us [] := by
              intro us
              induction us with
              | nil => exact OwnL_nil.2 ⟨rfl, rfl⟩
              | cons u us ih => exact OwnL_w.2 ⟨us, rfl, ih⟩
            exact OwnL.append _ _ _ _ [] [] (hflat _) ih
        exact this xs
theorem flat_vals {α : Type} {en : α → List Lf} {vs : α → List Value} (hv : ∀ x, en x = (vs x).map Lf.v) : ∀ xs : List α, xs.flatMap en = (xs.flatMap vs).map Lf.v
  | [] => rfl
  | y :: ys => by rw [List.flatMap_cons, List.flatMap_cons, List.map_append, hv, flat_vals hv ys]
/-- the cells of a slice that reads, of plain elements -/
theorem RdW.cells {α : Type} {en : α → List Lf} {vs : α → List Value} (hv : ∀ x, en x = (vs x).map Lf.v) {w : World} {xs : List α} {A : Option Addr} {c : Nat} (h : RdW w (.s xs.length (xs.flatMap en)) (.slice A xs.length c)) :
    (xs.length = 0) ∨ ∃ ad, A = some ad ∧ ad.block < w.heap.size ∧ ∀ (j : Nat) u, (xs.flatMap vs)[j]? = some u → w.cell? (ad.add j) = some u := by
  rw [RdW, Rd] at h
  obtain ⟨A', c', hv', _, hr⟩ := h
  injection hv' with h1 h2 h3
  subst h1; subst h3
  rcases hr with h0 | ⟨ad, us, rfl, hs, hc, hl⟩
  · exact .inl h0
  · refine .inr ⟨ad, rfl, hs, ?_⟩
    have : us = xs.flatMap vs := by
      have hmap := flat_vals hv xs
      rw [hmap] at hl
      clear hc hmap
      generalize xs.flatMap vs = ys at hl ⊢
      induction ys generalizing us with
      | nil => exact RdL_nil.1 hl
      | cons y ys ih =>
        obtain ⟨us', rfl, h2⟩ := RdLW_w.1 hl
        rw [ih _ h2]
    rw [← this]; exact hc
theorem belowN {B : Nat} {a w : World} (h : Below B a w) (n : Nat) : Below B a (w.drewN n) := ⟨h.os, h.tape, h.output, h.size, h.block⟩
/-- the nil slice -/
theorem own_none {α : Type} {en : α → List Lf} (w : World) : Own w (.s ([] : List α).length (([] : List α).flatMap en)) (.slice none 0 0) [] := by
  rw [Own]
  exact .inl ⟨rfl, ⟨none, 0, rfl, ⟨Nat.le_refl _, by omega, by omega⟩⟩, rfl⟩
theorem rd_none {α : Type} {en : α → List Lf} (w : World) : RdW w (.s ([] : List α).length (([] : List α).flatMap en)) (.slice none 0 0) := (own_none w).rdw
theorem slOk_none : SlOk 0 0 := ⟨Nat.le_refl _, by omega, by omega⟩
end Go.Proofs.YtmnpoajdibmocaaGreat
