/- What the functions over links come to, in plain Lean. -/
import Derived.Test.YtagkomochjnjoaaTypes
set_option linter.unusedSimpArgs false
set_option linter.unusedVariables false
namespace Go.Proofs.Ytagkomochjnjoaa
open Go.RowKit
theorem split_at {α : Type} {xs : List α} {i : Nat} {x : α} (hx : xs[i]? = some x) : xs = xs.take i ++ (x :: xs.drop (i + 1)) := by
  have hi : i < xs.length := (List.getElem?_eq_some_iff.1 hx).1
  have h : xs[i] = x := (List.getElem?_eq_some_iff.1 hx).2
  rw [← h, ← List.drop_eq_getElem_cons hi, List.take_append_drop]
theorem find_hit {α : Type} (p : α → Bool) (xs : List α) (i : Nat) (x : α) (hx : xs[i]? = some x) (hp : p x = true) (hno : ∀ j y, j < i → xs[j]? = some y → p y = false) : xs.find? p = some x := by
  rw [split_at hx, List.find?_append]
  have : (xs.take i).find? p = none := by
    rw [List.find?_eq_none]
    intro y hy
    obtain ⟨j, hj⟩ := List.getElem?_of_mem hy
    have hjl := (List.getElem?_eq_some_iff.1 hj).1
    rw [List.length_take] at hjl
    rw [List.getElem?_take_of_lt (by omega)] at hj
    simp [hno j y (by omega) hj]
  rw [this]; simp [hp]
def findEntry (l : List GQuestion) (id : Int) : Int := ((l.find? fun q => q.Id == id).map (·.Promise)).getD (-1)
theorem findEntry_hit (xs : List GQuestion) (id : Int) (i : Nat) (x : GQuestion) (hx : xs[i]? = some x) (he : x.Id = id) (hno : ∀ j y, j < i → xs[j]? = some y → y.Id ≠ id) : findEntry xs id = x.Promise := by
  unfold findEntry
  rw [find_hit _ xs i x hx (by simp [he]) (fun j y hj hy => by simpa using hno j y hj hy)]; rfl
theorem findEntry_miss (xs : List GQuestion) (id : Int) (hno : ∀ y, y ∈ xs → y.Id ≠ id) : findEntry xs id = -1 := by
  unfold findEntry
  rw [List.find?_eq_none.2 (fun y hy => by simpa using hno y hy)]; rfl
def posOf (x : GLink) (e : Int) : Int := ((x.Exports.find? fun q => q.Entity == e).map (·.Pos)).getD 0
theorem posOf_hit (x : GLink) (e : Int) (i : Nat) (y : GExport) (hx : x.Exports[i]? = some y) (he : y.Entity = e) (hno : ∀ j z, j < i → x.Exports[j]? = some z → z.Entity ≠ e) : posOf x e = y.Pos := by
  unfold posOf
  rw [find_hit _ x.Exports i y hx (by simp [he]) (fun j z hj hz => by simpa using hno j z hj hz)]; rfl
theorem posOf_miss (x : GLink) (e : Int) (hno : ∀ z, z ∈ x.Exports → z.Entity ≠ e) : posOf x e = 0 := by
  unfold posOf
  rw [List.find?_eq_none.2 (fun y hy => by simpa using hno y hy)]; rfl
def newLink (p : Int) : GLink := ⟨p, true, [], 0, [], 0, []⟩
def sameLink (a b : GLink) : Bool := a.Peer == b.Peer && (a.Up == b.Up && (a.Next == b.Next && (a.Asked == b.Asked && (sameL eqbExport a.Exports b.Exports && (sameL eqbQuestion a.Questions b.Questions && sameL eqbQuestion a.Answers b.Answers)))))
def dropEntry (l : List GQuestion) (id : Int) : List GQuestion := l.filter fun q => !(q.Id == id)
theorem dropEntry_len (l : List GQuestion) (id : Int) : (dropEntry l id).length ≤ l.length := List.length_filter_le _ _

end Go.Proofs.Ytagkomochjnjoaa
