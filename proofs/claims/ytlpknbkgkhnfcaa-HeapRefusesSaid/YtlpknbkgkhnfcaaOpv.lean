/-
  Plain operations on numbers in drawn regions, by facts at hand.
-/
import Derived.Test.YtlpknbkgkhnfcaaItem
set_option linter.unusedSimpArgs false
set_option linter.unusedVariables false
namespace Go.Mm
open Go Go.RowKit
section
variable {P : Program} {o : Oper} {a : Act} {w : World}
/-- A sum. -/
class SumIs (n m : Int) (r : outParam Int) : Prop where
  h : n + m = r
  lo : -9223372036854775808 ≤ r
  hi : r ≤ 9223372036854775807
theorem run_sumv (t t' : TypeId) (x y : Operand) (ho : o.op = .binOp .add t x y t') {n m r : Int} [hx : Ev a x (.int .i64 n)] [hy : Ev a y (.int .i64 m)] [hr : SumIs n m r] : OpVal P o a w (.int .i64 r) := by
  have e : IntKind.i64.wrap (n + m) = r := by rw [hr.h]; have := hr.lo; have := hr.hi; rw [IntKind.wrap_i64]; omega
  unfold OpVal
  simp [execOp, ho, hx.h, hy.h, eqGuard, binOp, Op.intArith, e]
/-- A difference. -/
class DifIs (n m : Int) (r : outParam Int) : Prop where
  h : n - m = r
  lo : -9223372036854775808 ≤ r
  hi : r ≤ 9223372036854775807
theorem run_difv (t t' : TypeId) (x y : Operand) (ho : o.op = .binOp .sub t x y t') {n m r : Int} [hx : Ev a x (.int .i64 n)] [hy : Ev a y (.int .i64 m)] [hr : DifIs n m r] : OpVal P o a w (.int .i64 r) := by
  have e : IntKind.i64.wrap (n - m) = r := by rw [hr.h]; have := hr.lo; have := hr.hi; rw [IntKind.wrap_i64]; omega
  unfold OpVal
  simp [execOp, ho, hx.h, hy.h, eqGuard, binOp, Op.intArith, e]
/-- Comparisons: n below m. -/
class LtIs (n m : Int) (b : outParam Bool) : Prop where
  h : decide (n < m) = b
theorem run_lssv (t t' : TypeId) (x y : Operand) (ho : o.op = .binOp .lss t x y t') {k : IntKind} {n m : Int} {b : Bool} [hx : Ev a x (.int k n)] [hy : Ev a y (.int k m)] [hr : LtIs n m b] : OpVal P o a w (.bool b) := by
  unfold OpVal
  simp [execOp, ho, hx.h, hy.h, eqGuard, binOp, Op.intCmp, ← hr.h]
theorem run_gtv (t t' : TypeId) (x y : Operand) (ho : o.op = .binOp .gtr t x y t') {k : IntKind} {n m : Int} {b : Bool} [hx : Ev a x (.int k n)] [hy : Ev a y (.int k m)] [hr : LtIs m n b] : OpVal P o a w (.bool b) := by
  unfold OpVal
  simp [execOp, ho, hx.h, hy.h, eqGuard, binOp, Op.intCmp, ← hr.h]
class LeIs (n m : Int) (b : outParam Bool) : Prop where
  h : decide (n ≤ m) = b
theorem run_leqv (t t' : TypeId) (x y : Operand) (ho : o.op = .binOp .leq t x y t') {k : IntKind} {n m : Int} {b : Bool} [hx : Ev a x (.int k n)] [hy : Ev a y (.int k m)] [hr : LeIs n m b] : OpVal P o a w (.bool b) := by
  unfold OpVal
  simp [execOp, ho, hx.h, hy.h, eqGuard, binOp, Op.intCmp, ← hr.h]
theorem run_geqv (t t' : TypeId) (x y : Operand) (ho : o.op = .binOp .geq t x y t') {k : IntKind} {n m : Int} {b : Bool} [hx : Ev a x (.int k n)] [hy : Ev a y (.int k m)] [hr : LeIs m n b] : OpVal P o a w (.bool b) := by
  unfold OpVal
  simp [execOp, ho, hx.h, hy.h, eqGuard, binOp, Op.intCmp, ← hr.h]
/-- The greater of two numbers. -/
class MaxIs (n m : Int) (r : outParam Int) : Prop where
  h : (if m > n then m else n) = r
theorem run_maxv (x y : Operand) {ts : Array TypeId} (ho : o.op = .call { callee := .builtin .max, args := #[x, y], argTypes := ts }) {k : IntKind} {n m r : Int} [hx : Ev a x (.int k n)] [hy : Ev a y (.int k m)] [hr : MaxIs n m r] : OpVal P o a w (.int k r) := by
  unfold OpVal
  simp only [execOp, ho, resolve, invoke, builtin, Sem.run_bind, Sem.run_pure, Result.andThen_ok, List.map_toArray, List.map_cons, List.map_nil, hx.h, hy.h, run_max_int2, hr.h]
end
end Go.Mm
