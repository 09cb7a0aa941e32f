import Derived.Test.YthbbbmomlehimaaRKitB
import Derived.Laws.StructEq
set_option linter.unusedVariables false
namespace Go.Proofs.YthbbbmomlehimaaR.Ts
open Go.RowKit

theorem h67 : Try.prog.eqGuardType Try.prog.depth 67 = false := by kernel_rfl
theorem h40 : Try.prog.eqGuardType Try.prog.depth 40 = false := by kernel_rfl
theorem p67 : Try.prog.stoodInHeld 67 = false := by kernel_rfl
theorem p40 : Try.prog.stoodInHeld 40 = false := by kernel_rfl
def eqSpt (a b c a' b' c' : Int) : Bool := a == a' && (b == b' && c == c')
def eqScr (a b c d e f g a' b' c' d' e' f' g' : Int) : Bool := a == a' && (b == b' && (c == c' && (d == d' && (e == e' && (f == f' && g == g')))))
theorem eqSpt_rfl (a b c : Int) : eqSpt a b c a b c = true := by simp [eqSpt]
theorem eqScr_rfl (a b c d e f g : Int) : eqScr a b c d e f g a b c d e f g = true := by simp [eqScr]
@[go_sem high] theorem eql67 (a b c a' b' c' : Int) (w : World) : (binOp .eql 67 (.agg #[.int .i64 a, .int .i64 b, .int .i64 c]) (.agg #[.int .i64 a', .int .i64 b', .int .i64 c'])).run Try.prog w = .ok (.bool (eqSpt a b c a' b' c')) w := by
  have e1 := Try.underlying67
  rw [run_eql_struct, run_equalIn_struct w 9999 67 _ _ (by simp [Program.fieldsOf, e1]) p67]
  simp [Program.fieldsOf, e1, Op.eqFields, eqSpt, go_sem, Try.underlying2, Try.underlying3, run_equalIn_int]
  repeat' split
  all_goals simp_all
@[go_sem high] theorem neq67 (a b c a' b' c' : Int) (w : World) : (binOp .neq 67 (.agg #[.int .i64 a, .int .i64 b, .int .i64 c]) (.agg #[.int .i64 a', .int .i64 b', .int .i64 c'])).run Try.prog w = .ok (.bool (!eqSpt a b c a' b' c')) w := by
  have e1 := Try.underlying67
  rw [run_neq_struct, run_equalIn_struct w 9999 67 _ _ (by simp [Program.fieldsOf, e1]) p67]
  simp [Program.fieldsOf, e1, Op.eqFields, eqSpt, go_sem, Try.underlying2, Try.underlying3, run_equalIn_int]
  repeat' split
  all_goals simp_all
@[go_sem high] theorem eql40 (a b c d e f g a' b' c' d' e' f' g' : Int) (w : World) : (binOp .eql 40 (.agg #[.int .i64 a, .int .i64 b, .int .i64 c, .int .i64 d, .int .i64 e, .int .i64 f, .int .i64 g]) (.agg #[.int .i64 a', .int .i64 b', .int .i64 c', .int .i64 d', .int .i64 e', .int .i64 f', .int .i64 g'])).run Try.prog w = .ok (.bool (eqScr a b c d e f g a' b' c' d' e' f' g')) w := by
  have e1 := Try.underlying40
  rw [run_eql_struct, run_equalIn_struct w 9999 40 _ _ (by simp [Program.fieldsOf, e1]) p40]
  simp [Program.fieldsOf, e1, Op.eqFields, eqScr, go_sem, Try.underlying3, run_equalIn_int]
  repeat' split
  all_goals simp_all
@[go_sem high] theorem neq40 (a b c d e f g a' b' c' d' e' f' g' : Int) (w : World) : (binOp .neq 40 (.agg #[.int .i64 a, .int .i64 b, .int .i64 c, .int .i64 d, .int .i64 e, .int .i64 f, .int .i64 g]) (.agg #[.int .i64 a', .int .i64 b', .int .i64 c', .int .i64 d', .int .i64 e', .int .i64 f', .int .i64 g'])).run Try.prog w = .ok (.bool (!eqScr a b c d e f g a' b' c' d' e' f' g')) w := by
  have e1 := Try.underlying40
  rw [run_neq_struct, run_equalIn_struct w 9999 40 _ _ (by simp [Program.fieldsOf, e1]) p40]
  simp [Program.fieldsOf, e1, Op.eqFields, eqScr, go_sem, Try.underlying3, run_equalIn_int]
  repeat' split
  all_goals simp_all
end Go.Proofs.YthbbbmomlehimaaR.Ts
