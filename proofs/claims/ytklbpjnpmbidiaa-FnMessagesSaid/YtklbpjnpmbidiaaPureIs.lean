import Derived.Test.YtklbpjnpmbidiaaProg
import Derived.Test.YtklbpjnpmbidiaaTypes
import Derived.StillTailTactics
import Derived.Deep.RegionHeld3
import Derived.Laws.IdiomStrings
import Derived.Test.YtklbpjnpmbidiaaAppend
import Derived.Laws.StructEq
import Derived.Lib.SliceRun
import Derived.Shelf.RegionOpenPlain
import Derived.Test.YtklbpjnpmbidiaaCommon
import Derived.Test.YtklbpjnpmbidiaaPureMessage
namespace Go.Proofs.Ytklbpjnpmbidiaa
open Go.RowKit
set_option linter.unusedVariables false
set_option linter.unusedSimpArgs false

def lowB (b : UInt8) : Bool := decide (97 ≤ b.toNat) && decide (b.toNat ≤ 122)
/-- one to six letters -/
def nameB (s : ByteArray) : Bool := s.data.toList.all lowB && inR s.size 1 6
theorem byte_at (s : ByteArray) (i : Nat) (h : i < s.size) : s.data.toList[i]? = some s[i] := by
  rw [Array.getElem?_toList]
  exact Array.getElem?_eq_getElem h
theorem name_bad {s : ByteArray} {i : Nat} {b : UInt8} (hb : s.data.toList[i]? = some b) (h : lowB b = false) : nameB s = false := by
  unfold nameB
  rw [List.all_eq_false.2 ⟨b, List.mem_of_getElem? hb, by simp [h]⟩, Bool.false_and]
theorem name_good {s : ByteArray} (h : ∀ j b, j < s.size → s.data.toList[j]? = some b → lowB b = true) : nameB s = inR s.size 1 6 := by
  unfold nameB
  rw [List.all_eq_true.2 (fun b hb => by
    obtain ⟨j, hj⟩ := List.getElem?_of_mem hb
    exact h j b (by have := (List.getElem?_eq_some_iff.1 hj).1; rwa [Array.length_toList] at this) hj), Bool.true_and]

def tagB (t : GTag) : Bool := inR t.Vat 1 999999 && (inR t.Seq 1 999999 && inR t.Entity 0 999999)
def badB (xs : List GWire) : Bool := xs.any fun w => !isWireB w
def calmB (m : GMessage) : Bool := m.Answer == 0 && (m.Name.toList == [] && (m.Args.length == 0 && eqbTag m.Tag zTag))
def toB (m : GMessage) : Bool := (inR m.Pos 1 999999 && m.Answer == 0) || (inR m.Answer 1 999999 && m.Pos == 0)
def isMessageB (m : GMessage) : Bool :=
  if m.Kind = 1 then !badB m.Args && (toB m && (inR m.Question 1 999999 && (nameB m.Name && (decide (m.Args.length ≤ 2) && (eqbWire m.Value zWire && (m.Count == 0 && tagB m.Tag))))))
  else if m.Kind = 2 then calmB m && (inR m.Question 1 999999 && (isWireB m.Value && (m.Pos == 0 && m.Count == 0)))
  else if m.Kind = 3 ∨ m.Kind = 4 ∨ m.Kind = 5 then calmB m && (inR m.Question 1 999999 && (eqbWire m.Value zWire && (m.Pos == 0 && m.Count == 0)))
  else if m.Kind = 6 then calmB m && (m.Question == 0 && (eqbWire m.Value zWire && (inR m.Pos 1 999999 && inR m.Count 1 999999)))
  else false
theorem any_hit {α : Type} {p : α → Bool} {xs : List α} {i : Nat} {x : α} (hx : xs[i]? = some x) (hp : p x = true) : xs.any p = true := List.any_eq_true.2 ⟨x, List.mem_of_getElem? hx, hp⟩
theorem any_miss {α : Type} {p : α → Bool} {xs : List α} (h : ∀ y, y ∈ xs → p y = false) : xs.any p = false := by
  rw [List.any_eq_false]; intro y hy; simp [h y hy]

end Go.Proofs.Ytklbpjnpmbidiaa
