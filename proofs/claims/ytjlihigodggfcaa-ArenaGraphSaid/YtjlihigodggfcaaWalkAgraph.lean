/-
  The walk of ArenaGraph.
-/
import Derived.Test.YtjlihigodggfcaaWplay
import Derived.Test.YtjlihigodggfcaaWagr
set_option linter.unusedSimpArgs false
set_option linter.unusedVariables false
namespace Go.Proofs.Ytjlihigodggfcaa
open Go.RowKit Go.Mm
variable {R : Ending → World → Prop}

set_option maxHeartbeats 2000000 in
set_option maxRecDepth 100000 in
theorem walk_agraph {W : World} (z : Int) (wz : (Lit.int .u8 z).wf = true) (y : Int) (wy : (Lit.int .u8 y).wf = true) (v : Value) {n sb so : Nat} {F : Nat → Nat → Value} (hv : Flat W [.i .u8, .i .u8, .i .u8, .i .u8, .i .u8] v n sb so F) (hR : ∀ w', Chg W w' [] → Ret R (.bool true) w') :
    Calls Try.prog 5 #[.int .u8 z, .int .u8 y, v] W R := by
  have hS : St W [] W [] := St.start0
  have hlen := hv.len (t := 49) Try.underlying49
  have hz := bounds_u8L wz
  have hy := bounds_u8L wy
  obtain ⟨zn, rfl⟩ : ∃ q : Nat, z = q := ⟨z.toNat, by omega⟩
  obtain ⟨yn, rfl⟩ : ∃ q : Nat, y = q := ⟨y.toNat, by omega⟩
  clear wz wy
  by_cases hn : 150 < n
  · have q : decide (150 < (n : Int)) = true := decide_eq_true (by omega)
    have q' : decide (150 < n) = true := decide_eq_true hn
    go_enter Try.func5, Try.ntmps5
    go_wp2_with (first | (go_at_call 18; refine works_ok hS ?_; clear hS; intro w hS; unfold Ret) | (refine wpList_is (.call { callee := .builtin .len, args := #[_], argTypes := #[_] }) rfl ?_; refine wpList_stp (by kernel_rfl) (stp_val (run_lenv _ _ rfl) ?_)))
    exact hR _ hS.chg
  have q : decide (150 < (n : Int)) = false := decide_eq_false (by omega)
  have q' : decide (150 < n) = false := decide_eq_false hn
  go_enter Try.func5, Try.ntmps5
  go_wp2_with (first | (go_at_call 18; refine works_ok hS ?_; clear hS; intro w hS; unfold Ret) | (go_at_call 19; go_must (refine wplay hS zn yn (by omega) (by omega) v hv (by omega) ?_); clear hS; intro bm w hMA; have hS := hMA.st; unfold Ret) | (go_at_call 24; go_must (refine wagrees (by omega) hMA (by omega) ?_); clear hS hMA; intro w hMA; have hS := hMA.st; unfold Ret) | (refine wpList_is (.call { callee := .builtin .len, args := #[_], argTypes := #[_] }) rfl ?_; refine wpList_stp (by kernel_rfl) (stp_val (run_lenv _ _ rfl) ?_)))
  exact hR _ hS.chg
end Go.Proofs.Ytjlihigodggfcaa
