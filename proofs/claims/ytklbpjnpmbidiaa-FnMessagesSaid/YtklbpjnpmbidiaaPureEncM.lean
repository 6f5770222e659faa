import Derived.Test.YtklbpjnpmbidiaaProg
import Derived.Test.YtklbpjnpmbidiaaTypes
import Derived.StillTailTactics
import Derived.Lib.ConvBytes
import Derived.Deep.AppendLies
import Derived.Deep.RegionHeld3
import Derived.Laws.IdiomStrings
import Derived.Test.YtklbpjnpmbidiaaAppend
import Derived.Laws.StructEq
import Derived.Lib.SliceRun
import Derived.Shelf.RegionOpenPlain
import Derived.Test.YtklbpjnpmbidiaaEnc
import Derived.Test.YtklbpjnpmbidiaaPureIs
namespace Go.Proofs.Ytklbpjnpmbidiaa
open Go.RowKit
set_option linter.unusedVariables false
set_option linter.unusedSimpArgs false

def intsM (m : GMessage) : List Int := [m.Kind, m.Pos, m.Answer, m.Question, m.Count, m.Tag.Vat, m.Tag.Entity, m.Tag.Seq, m.Value.Kind, m.Value.N, (m.Args.length : Int)]
def wInts (w : GWire) : List Int := [w.Kind, w.N]
/-- the numbers of a message -/
def numsM (m : GMessage) : List Int := intsM m ++ m.Args.flatMap wInts
def encM (m : GMessage) : List UInt8 := (numsM m).flatMap uvI ++ uvI (m.Name.data.toList.length : Int) ++ m.Name.data.toList
def encodeMessage (m : GMessage) : List UInt8 := if isMessageB m = true then encM m else []
theorem args_le {m : GMessage} (h : isMessageB m = true) : m.Args.length ≤ 2 := by
  unfold isMessageB calmB at h
  split at h
  · simp only [Bool.and_eq_true, decide_eq_true_eq] at h; exact h.2.2.2.2.1
  split at h
  · simp only [Bool.and_eq_true, beq_iff_eq] at h; have := h.1.2.2.1; omega
  split at h
  · simp only [Bool.and_eq_true, beq_iff_eq] at h; have := h.1.2.2.1; omega
  split at h
  · simp only [Bool.and_eq_true, beq_iff_eq] at h; have := h.1.2.2.1; omega
  · cases h
theorem toList_loop_len (s : ByteArray) : ∀ (k i : Nat) (r : List UInt8), s.size - i = k → (ByteArray.toList.loop s i r).length = r.length + k := by
  intro k
  induction k with
  | zero => intro i r h; rw [ByteArray.toList.loop, if_neg (by omega)]; simp
  | succ k ih => intro i r h; rw [ByteArray.toList.loop, if_pos (by omega), ih (i + 1) _ (by omega), List.length_cons]; omega
theorem toList_nil {s : ByteArray} (h : s.toList = []) : s.data.toList.length ≤ 6 := by
  have h1 := toList_loop_len s (s.size - 0) 0 [] rfl
  have h2 : ByteArray.toList.loop s 0 [] = [] := h
  rw [h2] at h1
  have h3 : s.data.toList.length = s.size := rfl
  simp at h1; omega
theorem nm_le {m : GMessage} (h : isMessageB m = true) : m.Name.data.toList.length ≤ 6 := by
  unfold isMessageB calmB at h
  have e0 : m.Name.data.toList.length = m.Name.size := rfl
  split at h
  · simp only [Bool.and_eq_true, decide_eq_true_eq] at h
    have h1 := h.2.2.2.1
    unfold nameB inR at h1
    rw [Bool.and_eq_true, decide_eq_true_eq] at h1
    omega
  split at h
  · simp only [Bool.and_eq_true, beq_iff_eq] at h; exact toList_nil h.1.2.1
  split at h
  · simp only [Bool.and_eq_true, beq_iff_eq] at h; exact toList_nil h.1.2.1
  split at h
  · simp only [Bool.and_eq_true, beq_iff_eq] at h; exact toList_nil h.1.2.1
  · cases h
theorem wInts_len : ∀ xs : List GWire, (xs.flatMap wInts).length = 2 * xs.length
  | [] => rfl
  | x :: xs => by rw [List.flatMap_cons, List.length_append, wInts_len xs, List.length_cons]; show 2 + 2 * xs.length = _; omega
theorem wInts_step {xs : List GWire} {i : Nat} {x : GWire} (h : xs[i]? = some x) : (xs.take (i + 1)).flatMap wInts = (xs.take i).flatMap wInts ++ [x.Kind, x.N] := by
  rw [List.take_add_one, h, List.flatMap_append]; simp [wInts]
theorem numsM_len (m : GMessage) : (numsM m).length = 11 + 2 * m.Args.length := by
  unfold numsM; rw [List.length_append, wInts_len]; rfl
theorem encodeMessage_len (m : GMessage) : (encodeMessage m).length ≤ 1000 := by
  unfold encodeMessage
  by_cases h : isMessageB m = true
  · rw [if_pos h]; unfold encM
    have h1 := args_le h
    have h2 := nm_le h
    have h3 := flat_uv_len (numsM m)
    have h4 := numsM_len m
    have h5 := uvI_len (m.Name.data.toList.length : Int)
    rw [List.length_append, List.length_append]; omega
  · rw [if_neg h]; simp
theorem below_bytes (w : World) (e : TypeId) (s : ByteArray) : Below w.heap.size w (Lib.bytesWorld w e s) :=
  ⟨rfl, rfl, rfl, by rw [Lib.bytesWorld_size]; omega, fun k hk => Lib.bytesWorld_at_old w e s k hk⟩
theorem rdW_bytes (w : World) (e : TypeId) (s : ByteArray) (hs : s.size ≤ 140737488355328) : RdW (Lib.bytesWorld w e s) (.s s.data.toList.length (s.data.toList.flatMap eByte)) (.slice (some ⟨w.heap.size, 0, none⟩) s.size (grownCap w s.size 0 e)) := by
  rw [RdW, Rd]
  have hmx : maxLen = 9223372036854775807 := by decide
  refine ⟨some ⟨w.heap.size, 0, none⟩, _, rfl, ⟨grownCap_ge _ _ _ _, by have := grownCap_le_maxLen w s.size 0 e (by omega); omega, hs⟩, .inr ⟨_, s.data.toList.map (fun b => Value.int .u8 b.toNat), rfl, by rw [Lib.bytesWorld_size]; exact Nat.lt_succ_self _, ?_, ?_⟩⟩
  · intro k x hk
    rw [List.getElem?_map] at hk
    cases hb : s.data.toList[k]? with
    | none => rw [hb] at hk; cases hk
    | some b =>
      rw [hb] at hk
      have hk' : k < s.size := (List.getElem?_eq_some_iff.1 hb).1
      rw [add_zero_own, Lib.bytesWorld_cell w e s k hk']
      simp only [Option.map_some, Option.some.injEq] at hk
      rw [List.getD_eq_getElem?_getD, hb]; simp [← hk]
  · have : s.data.toList.flatMap eByte = (s.data.toList.map (fun b => Value.int .u8 b.toNat)).map Lf.v := by
      rw [List.map_map]; induction s.data.toList with
      | nil => rfl
      | cons b l ih => rw [List.flatMap_cons, List.map_cons, ih]; rfl
    rw [this]; exact rdL_plain _ _ _
/-- a slice of two numbers, built for an append -/
theorem rdW_two (w : World) (a b : Int) (t : TypeId) {g : Nat} (hg : g = w.heap.size) : RdW (w.alloc (.cells #[.int .i64 a, .int .i64 b] t)) (.s [a, b].length ([a, b].flatMap eInt)) (.slice (some ⟨g, 0, none⟩) [a, b].length [a, b].length) := by
  subst hg
  rw [RdW, Rd]
  refine ⟨_, _, rfl, ⟨Nat.le_refl _, by simp, by simp⟩, .inr ⟨_, [.int .i64 a, .int .i64 b], rfl, by simp, fun k u hk => ?_, ?_⟩⟩
  · rw [add_zero_own, (Blk.new w t #[.int .i64 a, .int .i64 b]).cell k]; simpa using hk
  · exact rdL_plain _ _ [.int .i64 a, .int .i64 b]
theorem ownsRow_lit {base : Nat} {e : TypeId} {xs : List Value} (w : World) (cur : Array Value) (n : Nat) (hb : base ≤ w.heap.size) (hs : cur.size = n) (hm : n ≤ maxLen) (hx : cur.toList = xs) :
    (w.alloc (.cells cur e)).ownsRow base e 1 (.slice (some ⟨w.heap.size, 0, none⟩) n n) n xs := by
  subst hx; subst hs
  exact ⟨by simp, .inr ⟨w.heap.size, cur.size, cur, rfl, hb, heap_alloc_new w _, Nat.le_refl _, hm, (Nat.mul_one _).symm, List.take_of_length_le (by simp)⟩⟩
theorem cell_alloc_keep {w : World} {a : Addr} {o : Obj} {v : Value} (h : w.cell? a = some v) : (w.alloc o).cell? a = some v := (World.cell?_alloc_some w a o (by simp [h])).trans h
theorem cell_grown {w w' : World} {row : Option Nat} {a : Addr} {v : Value} (hg : w.grownBy w' row) (h : w.cell? a = some v) (hne : ∀ k, row = some k → k ≠ a.block) : w'.cell? a = some v :=
  (hg.cell_far a (World.block_lt_of_cell? w a h) (fun e => hne _ e.symm rfl)).trans h
theorem cell_below {B : Nat} {w w' : World} {a : Addr} {v : Value} (hb : Below B w w') (h : w.cell? a = some v) (hlt : a.block < B) : w'.cell? a = some v :=
  (World.cell?_of_block (w := w) (a := a) (hb.block _ hlt)).trans h
theorem below_bytes_d (w : World) (e : TypeId) (s : ByteArray) : Below w.heap.size w (Lib.bytesWorld w.drew e s) := (Below.refl _ w).drew.trans (below_bytes w.drew e s)
theorem below_bytes_t {w w' : World} {e : TypeId} {s : ByteArray} (h : Below (Lib.bytesWorld w.drew e s).heap.size (Lib.bytesWorld w.drew e s) w') : Below w.heap.size w w' := (below_bytes_d w e s).trans (h.mono (below_bytes_d w e s).size)
theorem ownsRow_lit' {base g : Nat} {e : TypeId} {xs : List Value} {w : World} (cur : Array Value) (n : Nat) (hb : base ≤ w.heap.size) (hg : g = w.heap.size) (hs : cur.size = n) (hm : n ≤ maxLen) (hx : cur.toList = xs) :
    (w.alloc (.cells cur e)).ownsRow base e 1 (.slice (some ⟨g, 0, none⟩) n n) n xs := by
  subst hg; exact ownsRow_lit w cur n hb hs hm hx

end Go.Proofs.Ytklbpjnpmbidiaa
