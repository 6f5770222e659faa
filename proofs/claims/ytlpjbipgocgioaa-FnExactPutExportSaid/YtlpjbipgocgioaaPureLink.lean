/- What the functions over links come to, in plain Lean. -/
import Derived.Test.YtlpjbipgocgioaaTypes
set_option linter.unusedSimpArgs false
set_option linter.unusedVariables false
namespace Go.Proofs.Ytlpjbipgocgioaa
open Go.RowKit
theorem split_at {α : Type} {xs : List α} {i : Nat} {x : α} (hx : xs[i]? = some x) : xs = xs.take i ++ (x :: xs.drop (i + 1)) := by
  have hi : i < xs.length := (List.getElem?_eq_some_iff.1 hx).1
  have h : xs[i] = x := (List.getElem?_eq_some_iff.1 hx).2
  rw [← h, ← List.drop_eq_getElem_cons hi, List.take_append_drop]
theorem find_hit {α : Type} (p : α → Bool) (xs : List α) (i : Nat) (x : α) (hx : xs[i]? = some x) (hp : p x = true) (hno : ∀ j y, j < i → xs[j]? = some y → p y = false) : xs.find? p = some x := by
  rw [split_at hx, List.find?_append]
  have : (xs.take i).find? p = none := by
    rw [List.find?_eq_none]
    intro y hy
    obtain ⟨j, hj⟩ := List.getElem?_of_mem hy
    have hjl := (List.getElem?_eq_some_iff.1 hj).1
    rw [List.length_take] at hjl
    rw [List.getElem?_take_of_lt (by omega)] at hj
    simp [hno j y (by omega) hj]
  rw [this]; simp [hp]
def findEntry (l : List GQuestion) (id : Int) : Int := ((l.find? fun q => q.Id == id).map (·.Promise)).getD (-1)
theorem findEntry_hit (xs : List GQuestion) (id : Int) (i : Nat) (x : GQuestion) (hx : xs[i]? = some x) (he : x.Id = id) (hno : ∀ j y, j < i → xs[j]? = some y → y.Id ≠ id) : findEntry xs id = x.Promise := by
  unfold findEntry
  rw [find_hit _ xs i x hx (by simp [he]) (fun j y hj hy => by simpa using hno j y hj hy)]; rfl
theorem findEntry_miss (xs : List GQuestion) (id : Int) (hno : ∀ y, y ∈ xs → y.Id ≠ id) : findEntry xs id = -1 := by
  unfold findEntry
  rw [List.find?_eq_none.2 (fun y hy => by simpa using hno y hy)]; rfl
def posOf (x : GLink) (e : Int) : Int := ((x.Exports.find? fun q => q.Entity == e).map (·.Pos)).getD 0
theorem posOf_hit (x : GLink) (e : Int) (i : Nat) (y : GExport) (hx : x.Exports[i]? = some y) (he : y.Entity = e) (hno : ∀ j z, j < i → x.Exports[j]? = some z → z.Entity ≠ e) : posOf x e = y.Pos := by
  unfold posOf
  rw [find_hit _ x.Exports i y hx (by simp [he]) (fun j z hj hz => by simpa using hno j z hj hz)]; rfl
theorem posOf_miss (x : GLink) (e : Int) (hno : ∀ z, z ∈ x.Exports → z.Entity ≠ e) : posOf x e = 0 := by
  unfold posOf
  rw [List.find?_eq_none.2 (fun y hy => by simpa using hno y hy)]; rfl
def newLink (p : Int) : GLink := ⟨p, true, [], 0, [], 0, []⟩
def sameLink (a b : GLink) : Bool := a.Peer == b.Peer && (a.Up == b.Up && (a.Next == b.Next && (a.Asked == b.Asked && (sameL eqbExport a.Exports b.Exports && (sameL eqbQuestion a.Questions b.Questions && sameL eqbQuestion a.Answers b.Answers)))))
def dropEntry (l : List GQuestion) (id : Int) : List GQuestion := l.filter fun q => !(q.Id == id)
theorem dropEntry_len (l : List GQuestion) (id : Int) : (dropEntry l id).length ≤ l.length := List.length_filter_le _ _
/-- one more, as a 64-bit number -/
def succW (n : Int) : Int := IntKind.i64.wrap (n + 1)
def putQuestion1 (x : GLink) (p : Int) : GLink := ⟨x.Peer, x.Up, x.Exports, x.Next, x.Questions ++ [⟨succW x.Asked, p⟩], succW x.Asked, x.Answers⟩
def putQuestion2 (x : GLink) (_ : Int) : Int := succW x.Asked
theorem putQuestion1_cnt (x : GLink) (p : Int) (h : sizL (eLink x) ≤ 1048576) : cntL (eLink (putQuestion1 x p)) ≤ 1099511627776 := by
  rw [siz_eLink] at h
  rw [cnt_eLink]
  simp only [putQuestion1, cntf_eExport, cntf_eQuestion, List.length_append, List.length_cons, List.length_nil]
  omega
def exAt (x : GLink) (e : Int) : Option Nat := x.Exports.findIdx? fun q => q.Entity == e
def oneMore (y : GExport) : GExport := ⟨y.Pos, y.Entity, succW y.Count⟩
def putExport1 (x : GLink) (e : Int) : GLink := match exAt x e with
  | some i => ⟨x.Peer, x.Up, x.Exports.modify i oneMore, x.Next, x.Questions, x.Asked, x.Answers⟩
  | none => ⟨x.Peer, x.Up, x.Exports ++ [⟨succW x.Next, e, 1⟩], succW x.Next, x.Questions, x.Asked, x.Answers⟩
def putExport2 (x : GLink) (e : Int) : Int := match exAt x e with
  | some i => ((x.Exports[i]?).map (·.Pos)).getD 0
  | none => succW x.Next
theorem exAt_hit {x : GLink} {e : Int} {i : Nat} {y : GExport} (hx : x.Exports[i]? = some y) (he : y.Entity = e) (hno : ∀ j z, j < i → x.Exports[j]? = some z → z.Entity ≠ e) : exAt x e = some i := by
  unfold exAt
  rw [List.findIdx?_eq_some_iff_getElem]
  obtain ⟨h, hy⟩ := List.getElem?_eq_some_iff.1 hx
  refine ⟨h, by rw [hy]; simp [he], fun j hj => ?_⟩
  have := hno j _ hj (List.getElem?_eq_getElem (by omega))
  simpa using this
theorem exAt_miss {x : GLink} {e : Int} (hno : ∀ z, z ∈ x.Exports → z.Entity ≠ e) : exAt x e = none := by
  unfold exAt
  rw [List.findIdx?_eq_none_iff]
  intro z hz; simpa using hno z hz
theorem putExport1_hit {x : GLink} {e : Int} {i : Nat} {y : GExport} (h : exAt x e = some i) (hx : x.Exports[i]? = some y) : putExport1 x e = ⟨x.Peer, x.Up, x.Exports.set i (oneMore y), x.Next, x.Questions, x.Asked, x.Answers⟩ := by
  unfold putExport1; rw [h]
  simp only
  obtain ⟨hl, hy⟩ := List.getElem?_eq_some_iff.1 hx
  have hm : x.Exports.modify i oneMore = x.Exports.set i (oneMore y) := by
    apply List.ext_getElem?
    intro j
    rw [List.getElem?_modify, List.getElem?_set]
    by_cases hj : i = j
    · subst hj; rw [hx]; simp [hl]
    · simp [hj]
  rw [hm]
theorem putExport2_hit {x : GLink} {e : Int} {i : Nat} {y : GExport} (h : exAt x e = some i) (hx : x.Exports[i]? = some y) : putExport2 x e = y.Pos := by
  unfold putExport2; rw [h]; simp [hx]
theorem putExport1_miss {x : GLink} {e : Int} (h : exAt x e = none) : putExport1 x e = ⟨x.Peer, x.Up, x.Exports ++ [⟨succW x.Next, e, 1⟩], succW x.Next, x.Questions, x.Asked, x.Answers⟩ := by
  unfold putExport1; rw [h]
theorem putExport2_miss {x : GLink} {e : Int} (h : exAt x e = none) : putExport2 x e = succW x.Next := by
  unfold putExport2; rw [h]
theorem putExport1_cnt (x : GLink) (e : Int) (h : sizL (eLink x) ≤ 1048576) : cntL (eLink (putExport1 x e)) ≤ 1099511627776 := by
  rw [siz_eLink] at h
  rw [cnt_eLink]
  unfold putExport1
  split
  · simp only [cntf_eExport, cntf_eQuestion, List.length_modify]; omega
  · simp only [cntf_eExport, cntf_eQuestion, List.length_append, List.length_cons, List.length_nil]; omega
theorem putExport1_rest (x : GLink) (e : Int) : ∃ zE zN, putExport1 x e = ⟨x.Peer, x.Up, zE, zN, x.Questions, x.Asked, x.Answers⟩ ∧ zE.length ≤ x.Exports.length + 1 := by
  unfold putExport1
  split
  · exact ⟨_, _, rfl, by simp⟩
  · exact ⟨_, _, rfl, by simp⟩

end Go.Proofs.Ytlpjbipgocgioaa
