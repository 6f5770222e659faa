import Derived.Test.YtaalbbhebmpppaaProg
import Derived.Test.YtaalbbhebmpppaaTypes
import Derived.StillTailTactics
import Derived.Deep.RegionHeld3
import Derived.Laws.IdiomStrings
import Derived.Test.YtaalbbhebmpppaaAppend
import Derived.Laws.StructEq
import Derived.Lib.SliceRun
import Derived.Shelf.RegionOpenPlain
namespace Go.Proofs.Ytaalbbhebmpppaa
open Go.RowKit
set_option linter.unusedVariables false
set_option linter.unusedSimpArgs false

theorem run_eql_Value (x y : GValue) (w : World) : Sem.run Try.prog (binOp .eql 33 (.agg #[.int .i64 x.Kind, .int .i64 x.N]) (.agg #[.int .i64 y.Kind, .int .i64 y.N])) w = .ok (.bool (eqbValue x y)) w := by
  have hS33 : Try.prog.underlying 33 = some (.struct (Try.prog.fieldsOf 33)) := by kernel_rfl
  have hp33 : Try.prog.stoodInHeld 33 = false := by kernel_rfl
  have u3 := Try.underlying3
  rw [run_eql_struct, show (10000 : Nat) = 9999 + 1 from rfl, run_equalIn_struct w 9999 33 _ _ hS33 hp33]
  simp only [Program.fieldsOf, Try.underlying33]
  go_simp
  unfold eqbValue
  repeat' split
  all_goals simp_all
theorem run_neq_Value (x y : GValue) (w : World) : Sem.run Try.prog (binOp .neq 33 (.agg #[.int .i64 x.Kind, .int .i64 x.N]) (.agg #[.int .i64 y.Kind, .int .i64 y.N])) w = .ok (.bool (!eqbValue x y)) w := by
  have hS33 : Try.prog.underlying 33 = some (.struct (Try.prog.fieldsOf 33)) := by kernel_rfl
  have hp33 : Try.prog.stoodInHeld 33 = false := by kernel_rfl
  have u3 := Try.underlying3
  rw [run_neq_struct, show (10000 : Nat) = 9999 + 1 from rfl, run_equalIn_struct w 9999 33 _ _ hS33 hp33]
  simp only [Program.fieldsOf, Try.underlying33]
  go_simp
  unfold eqbValue
  repeat' split
  all_goals simp_all

theorem run_eql_Asker (x y : GAsker) (w : World) : Sem.run Try.prog (binOp .eql 93 (.agg #[.int .i64 x.Peer, .int .i64 x.Question]) (.agg #[.int .i64 y.Peer, .int .i64 y.Question])) w = .ok (.bool (eqbAsker x y)) w := by
  have hS93 : Try.prog.underlying 93 = some (.struct (Try.prog.fieldsOf 93)) := by kernel_rfl
  have hp93 : Try.prog.stoodInHeld 93 = false := by kernel_rfl
  have u3 := Try.underlying3
  rw [run_eql_struct, show (10000 : Nat) = 9999 + 1 from rfl, run_equalIn_struct w 9999 93 _ _ hS93 hp93]
  simp only [Program.fieldsOf, Try.underlying93]
  go_simp
  unfold eqbAsker
  repeat' split
  all_goals simp_all
theorem run_neq_Asker (x y : GAsker) (w : World) : Sem.run Try.prog (binOp .neq 93 (.agg #[.int .i64 x.Peer, .int .i64 x.Question]) (.agg #[.int .i64 y.Peer, .int .i64 y.Question])) w = .ok (.bool (!eqbAsker x y)) w := by
  have hS93 : Try.prog.underlying 93 = some (.struct (Try.prog.fieldsOf 93)) := by kernel_rfl
  have hp93 : Try.prog.stoodInHeld 93 = false := by kernel_rfl
  have u3 := Try.underlying3
  rw [run_neq_struct, show (10000 : Nat) = 9999 + 1 from rfl, run_equalIn_struct w 9999 93 _ _ hS93 hp93]
  simp only [Program.fieldsOf, Try.underlying93]
  go_simp
  unfold eqbAsker
  repeat' split
  all_goals simp_all

theorem run_eql_Tag (x y : GTag) (w : World) : Sem.run Try.prog (binOp .eql 69 (.agg #[.int .i64 x.Vat, .int .i64 x.Entity, .int .i64 x.Seq]) (.agg #[.int .i64 y.Vat, .int .i64 y.Entity, .int .i64 y.Seq])) w = .ok (.bool (eqbTag x y)) w := by
  have hS69 : Try.prog.underlying 69 = some (.struct (Try.prog.fieldsOf 69)) := by kernel_rfl
  have hp69 : Try.prog.stoodInHeld 69 = false := by kernel_rfl
  have u3 := Try.underlying3
  rw [run_eql_struct, show (10000 : Nat) = 9999 + 1 from rfl, run_equalIn_struct w 9999 69 _ _ hS69 hp69]
  simp only [Program.fieldsOf, Try.underlying69]
  go_simp
  unfold eqbTag
  repeat' split
  all_goals simp_all
theorem run_neq_Tag (x y : GTag) (w : World) : Sem.run Try.prog (binOp .neq 69 (.agg #[.int .i64 x.Vat, .int .i64 x.Entity, .int .i64 x.Seq]) (.agg #[.int .i64 y.Vat, .int .i64 y.Entity, .int .i64 y.Seq])) w = .ok (.bool (!eqbTag x y)) w := by
  have hS69 : Try.prog.underlying 69 = some (.struct (Try.prog.fieldsOf 69)) := by kernel_rfl
  have hp69 : Try.prog.stoodInHeld 69 = false := by kernel_rfl
  have u3 := Try.underlying3
  rw [run_neq_struct, show (10000 : Nat) = 9999 + 1 from rfl, run_equalIn_struct w 9999 69 _ _ hS69 hp69]
  simp only [Program.fieldsOf, Try.underlying69]
  go_simp
  unfold eqbTag
  repeat' split
  all_goals simp_all

end Go.Proofs.Ytaalbbhebmpppaa
