/- What the checks of methods come to, in plain Lean. -/
import Derived.Test.YtiohoeafdaihpaaCommon
import Derived.Test.YtiohoeafdaihpaaPureName
import Derived.Test.YtiohoeafdaihpaaPureMade
set_option linter.unusedSimpArgs false
set_option linter.unusedVariables false
namespace Go.Proofs.Ytiohoeafdaihpaa
open Go.RowKit
def regB (n : Int) : Bool := inR n 0 7
/-- two registers or -1, the second one -1 if the first one is -/
def pairB (c d : Int) : Bool := (c == -1 && d == -1) || (regB c && (d == -1 || regB d))
def noName (s : ByteArray) : Bool := s.toList == (⟨#[]⟩ : ByteArray).toList
def plainB (y : GInstr) : Bool := (y.C == 0) && ((y.D == 0) && noName y.Name)
/-- one of the forms of an instruction -/
def instrB (y : GInstr) : Bool :=
  if y.Op = 1 then plainB y && (regB y.A && inR y.B 0 999999)
  else if y.Op = 2 then plainB y && (regB y.A && inR y.B 0 1)
  else if y.Op = 3 then plainB y && (regB y.A && inR y.B 0 2)
  else if y.Op = 4 then plainB y && (regB y.A && y.B == 0)
  else if y.Op = 10 then plainB y && (regB y.A && y.B == 0)
  else if y.Op = 5 then regB y.A && (regB y.B && (regB y.C && (y.D == 0 && noName y.Name)))
  else if y.Op = 6 then regB y.A && (regB y.B && (pairB y.C y.D && nameB y.Name))
  else if y.Op = 7 then regB y.A && (y.B == 0 && (pairB y.C y.D && nameB y.Name))
  else if y.Op = 8 then plainB y && (inR y.A 0 2 && regB y.B)
  else if y.Op = 9 then plainB y && (regB y.A && inR y.B 1 12)
  else false
def methodB (m : GMethod) : Bool := nameB m.Name && (decide (m.Code.length ≤ 12) && m.Code.all instrB)
theorem regB_iff {n : Int} : regB n = true ↔ 0 ≤ n ∧ n ≤ 7 := by unfold regB inR; simp
theorem eqb_plain3 (y : GInstr) : eqbInstr y ⟨y.Op, y.A, y.B, 0, 0, ⟨#[]⟩⟩ = plainB y := by simp [eqbInstr, plainB, noName]
theorem eqb_plain2 (y : GInstr) : eqbInstr y ⟨y.Op, y.A, 0, 0, 0, ⟨#[]⟩⟩ = (y.B == 0 && plainB y) := by simp [eqbInstr, plainB, noName]
theorem eqb_plain4 (y : GInstr) : eqbInstr y ⟨y.Op, y.A, y.B, y.C, 0, ⟨#[]⟩⟩ = (y.D == 0 && noName y.Name) := by simp [eqbInstr, noName]
theorem conj_ff {p : Bool} (q : Bool) (h : p = false) : (p && q) = false := by simp [h]
theorem conj_tt {p q r : Bool} (h : p = true) (h2 : q = r) : (p && q) = r := by simp [h, h2]
def hasI (xs : List Int) (n : Int) : Bool := xs.any fun o => o == n
/-- those of xs that are in ys -/
def meetI (xs ys : List Int) : List Int := xs.filter fun x => hasI ys x
def someI (c d : Int) : List Int := [c, d].filter fun x => !(x == -1)
/-- the registers that an instruction reads -/
def regsOf (y : GInstr) : List Int :=
  if y.Op = 5 then [y.B, y.C] else if y.Op = 6 then y.B :: someI y.C y.D else if y.Op = 7 then someI y.C y.D else if y.Op = 8 then [y.B] else if y.Op = 9 then [y.A] else if y.Op = 10 then [y.A] else []

end Go.Proofs.Ytiohoeafdaihpaa
