import Derived.Test.YtjfaklbccbofpaaProg
import Derived.Test.YtjfaklbccbofpaaTypes
import Derived.StillTailTactics
import Derived.Deep.RegionHeld3
import Derived.Laws.IdiomStrings
import Derived.Test.YtjfaklbccbofpaaAppend
import Derived.Laws.StructEq
import Derived.Lib.SliceRun
import Derived.Shelf.RegionOpenPlain
namespace Go.Proofs.Ytjfaklbccbofpaa
open Go.RowKit
set_option linter.unusedVariables false
set_option linter.unusedSimpArgs false

theorem run_eql_Value (x y : GValue) (w : World) : Sem.run Try.prog (binOp .eql 31 (.agg #[.int .i64 x.Kind, .int .i64 x.N]) (.agg #[.int .i64 y.Kind, .int .i64 y.N])) w = .ok (.bool (eqbValue x y)) w := by
  have hS31 : Try.prog.underlying 31 = some (.struct (Try.prog.fieldsOf 31)) := by kernel_rfl
  have hp31 : Try.prog.stoodInHeld 31 = false := by kernel_rfl
  have u3 := Try.underlying3
  rw [run_eql_struct, show (10000 : Nat) = 9999 + 1 from rfl, run_equalIn_struct w 9999 31 _ _ hS31 hp31]
  simp only [Program.fieldsOf, Try.underlying31]
  go_simp
  unfold eqbValue
  repeat' split
  all_goals simp_all
theorem run_neq_Value (x y : GValue) (w : World) : Sem.run Try.prog (binOp .neq 31 (.agg #[.int .i64 x.Kind, .int .i64 x.N]) (.agg #[.int .i64 y.Kind, .int .i64 y.N])) w = .ok (.bool (!eqbValue x y)) w := by
  have hS31 : Try.prog.underlying 31 = some (.struct (Try.prog.fieldsOf 31)) := by kernel_rfl
  have hp31 : Try.prog.stoodInHeld 31 = false := by kernel_rfl
  have u3 := Try.underlying3
  rw [run_neq_struct, show (10000 : Nat) = 9999 + 1 from rfl, run_equalIn_struct w 9999 31 _ _ hS31 hp31]
  simp only [Program.fieldsOf, Try.underlying31]
  go_simp
  unfold eqbValue
  repeat' split
  all_goals simp_all

end Go.Proofs.Ytjfaklbccbofpaa
