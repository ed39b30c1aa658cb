/-
  Pools of buffers: the chapter's examples.
-/
import Derived.Test.YtmhldlcjfmnkpaaBufsF
import Derived.Test.YtmhldlcjfmnkpaaBufsB
set_option linter.unusedSimpArgs false
set_option linter.unusedVariables false
namespace Go.Proofs.Ytmhldlcjfmnkpaa
open Go.RowKit Go.Mm
variable {R : Ending → World → Prop} {w : World} {w0 : World} {bs : List Nat} {H H' H1 E : List Ent}

/-- Two outer names are one. -/
def outB (k i g k' i' g' : Int) : Bool := decide (k = k') && decide (i = i') && decide (g = g')
instance out_eq {k i g k' i' g' : Int} : AggEq Try.prog 36 #[.int .i64 k, .int .i64 i, .int .u32 g] #[.int .i64 k', .int .i64 i', .int .u32 g'] (outB k i g k' i' g') := by
  have h := aggEq_of (P := Try.prog) (t := 36) [(3, 0), (3, 1), (23, 2)] (by kernel_rfl) (by kernel_rfl) (by kernel_rfl) (by kernel_rfl) (xs := #[.int .i64 k, .int .i64 i, .int .u32 g]) (ys := #[.int .i64 k', .int .i64 i', .int .u32 g'])
  simpa [outB, Bool.and_assoc] using h
theorem outE {k i g k' i' g' : Int} {b : Bool} (h : outB k i g k' i' g' = b) : AggEq Try.prog 36 #[.int .i64 k, .int .i64 i, .int .u32 g] #[.int .i64 k', .int .i64 i', .int .u32 g'] b := by subst h; exact out_eq

theorem a1 : piT (some (some (100, [(0, 5, 0), (0, 5, 0)]))) 60 = some (some (100, [(1, 5, 60), (0, 5, 0)])) ∧ piE (some (some (100, [(0, 5, 0), (0, 5, 0)]))) 60 = 0 ∧ piR (some (some (100, [(0, 5, 0), (0, 5, 0)]))) 60 = (2, 0, 5) := by decide
theorem a2 : piT (some (some (100, [(1, 5, 60), (0, 5, 0)]))) 50 = some (some (100, [(1, 5, 60), (0, 5, 0)])) ∧ piE (some (some (100, [(1, 5, 60), (0, 5, 0)]))) 50 = 4 ∧ piR (some (some (100, [(1, 5, 60), (0, 5, 0)]))) 50 = (0, 0, 0) := by decide
theorem a3 : piT (some (some (100, [(1, 5, 60), (0, 5, 0)]))) 40 = some (some (100, [(1, 5, 60), (1, 5, 40)])) ∧ piE (some (some (100, [(1, 5, 60), (0, 5, 0)]))) 40 = 0 ∧ piR (some (some (100, [(1, 5, 60), (0, 5, 0)]))) 40 = (2, 1, 5) := by decide
theorem a4 : piT (some (some (100, [(0, 6, 0), (1, 5, 40)]))) 10 = some (some (100, [(1, 6, 10), (1, 5, 40)])) ∧ piE (some (some (100, [(0, 6, 0), (1, 5, 40)]))) 10 = 0 ∧ piR (some (some (100, [(0, 6, 0), (1, 5, 40)]))) 10 = (2, 0, 6) := by decide
set_option maxHeartbeats 400000 in
set_option maxRecDepth 100000 in
theorem works_ok (hO : St w0 bs w H) (hR : ∀ w', St w0 bs w' H → Ret R (.bool true) w') : Calls Try.prog 10 #[] w R := by
  have hS := hO
  clear hO
  have o1 := outE (k := 2) (i := 0) (g := 5) (k' := 2) (i' := 0) (g' := 5) (b := true) (by decide)
  have o2 := outE (k := 2) (i := 1) (g := 5) (k' := 2) (i' := 1) (g' := 5) (b := true) (by decide)
  have o3 := outE (k := 2) (i := 0) (g := 6) (k' := 2) (i' := 0) (g' := 6) (b := true) (by decide)
  go_enter Try.func10, Try.ntmps10
  go_wp2_with (first
    | go_skip
    | (go_at_call 11; refine pb_new hS 2 100 5 (by decide) (some (some (100, [(0, 5, 0), (0, 5, 0)]))) 0 (by decide) (by decide) ?_; clear hS; intro p E1 w hT hS; have hpn := hT.nil; unfold Ret)
    | (go_at_call 12; (with_reducible refine pb_pin hS hT 60 (some (some (100, [(1, 5, 60), (0, 5, 0)]))) 0 (2, 0, 5) a1.1 a1.2.1 a1.2.2 ?_); clear hS hT; intro E1 w hT hS; unfold Ret)
    | (go_at_call 12; (with_reducible refine pb_pin hS hT 50 (some (some (100, [(1, 5, 60), (0, 5, 0)]))) 4 (0, 0, 0) a2.1 a2.2.1 a2.2.2 ?_); clear hS hT; intro E1 w hT hS; unfold Ret)
    | (go_at_call 12; (with_reducible refine pb_pin hS hT 40 (some (some (100, [(1, 5, 60), (1, 5, 40)]))) 0 (2, 1, 5) a3.1 a3.2.1 a3.2.2 ?_); clear hS hT; intro E1 w hT hS; unfold Ret)
    | (go_at_call 14; (with_reducible refine pb_bytes hS hT 2 0 5 60 0 (by decide) (by decide) ?_); clear hS hT; intro w hT hS; unfold Ret)
    | (go_at_call 15; refine pb_used hS hT 100 (by decide) ?_; clear hS; intro w hS; unfold Ret)
    | (go_at_call 13; (with_reducible refine pb_unpin hS hT 2 0 5 (some (some (100, [(0, 6, 0), (1, 5, 40)]))) 0 (by decide) (by decide) ?_); clear hS hT; intro E1 w hT hS; unfold Ret)
    | (go_at_call 13; (with_reducible refine pb_unpin hS hT 2 0 5 (some (some (100, [(0, 6, 0), (1, 5, 40)]))) 7 (by decide) (by decide) ?_); clear hS hT; intro E1 w hT hS; unfold Ret)
    | (go_at_call 12; (with_reducible refine pb_pin hS hT 10 (some (some (100, [(1, 6, 10), (1, 5, 40)]))) 0 (2, 0, 6) a4.1 a4.2.1 a4.2.2 ?_); clear hS hT; intro E1 w hT hS; unfold Ret)
    | go_skip | (refine wpList_is (.build _ _) rfl ?_; go_must (refine wpList_stp (by kernel_rfl) (stp_val (run_bd _ _ rfl) ?_))) | (refine wpList_is (.call { callee := .builtin .clear, args := #[_], argTypes := #[_] }) rfl ?_; go_must (refine wpList_stp (by kernel_rfl) (stp_cl _ _ rfl hS (by decide) ?_)); clear hS; intro w hS) | (refine wpList_is (.load _ _) rfl ?_; go_must (first | refine wpList_stp (by kernel_rfl) (stp_val (run_ld _ _ rfl hS) ?_) | refine wpList_stp (by kernel_rfl) (stp_val (run_lda _ _ rfl hS) ?_) | refine wpList_stp (by kernel_rfl) (stp_val (run_ld0 _ _ rfl hS) ?_) | refine wpList_stp (by kernel_rfl) (stp_val (run_lda0 _ _ rfl hS) ?_))) | (refine wpList_is (.store _ _ _) rfl ?_; go_must (first | refine wpList_stp (by kernel_rfl) (stp_st _ _ _ rfl hS ?_) | refine wpList_stp (by kernel_rfl) (stp_sta _ _ _ rfl hS ?_)); clear hS; intro w hS) | (refine wpList_is (.alloc _) rfl ?_; go_must (refine wpList_stp (by kernel_rfl) (stp_al _ rfl hS ?_)); clear hS; intro bN w hbN hS) | (refine wpList_is (.box _ _) rfl ?_; go_must (refine wpList_stp (by kernel_rfl) (stp_bx _ _ rfl hS ?_)); clear hS; intro bN w hbN hS) | (refine wpList_is (.binOp .eql _ _ (.const (.slice none _ _)) _) rfl ?_; refine wpList_stp (by kernel_rfl) (stp_val (run_nse _ _ _ rfl) ?_)) | (refine wpList_is (.binOp .neq _ _ (.const (.slice none _ _)) _) rfl ?_; refine wpList_stp (by kernel_rfl) (stp_val (run_nsn _ _ _ rfl) ?_)) | (refine region_quiet hS (by kernel_rfl) (by kernel_rfl) (fun hne => ?_); (repeat (first | go_big_quiet_skip | (go_big_quiet_want; first | (refine quiet_is (.load _ _) rfl ?_; go_must (first | refine quiet_at sw_st (fun w hS => run_ld _ _ rfl hS) ?_ | refine quiet_at sw_st (fun w hS => run_lda _ _ rfl hS) ?_ | refine quiet_at sw_st (fun w hS => run_ld0 _ _ rfl hS) ?_ | refine quiet_at sw_st (fun w hS => run_lda0 _ _ rfl hS) ?_); go_big_quiet_on) | (refine quiet_is (.binOp .eql _ _ (.const (.slice none _ _)) _) rfl ?_; refine quiet_val (fun w _ => run_nse _ _ _ rfl) ?_; go_big_quiet_on) | (refine quiet_is (.binOp .neq _ _ (.const (.slice none _ _)) _) rfl ?_; refine quiet_val (fun w _ => run_nsn _ _ _ rfl) ?_; go_big_quiet_on) | (refine quiet_is (.call { callee := .builtin .len, args := #[_], argTypes := #[_] }) rfl ?_; refine quiet_val (fun w _ => run_lenv _ _ rfl) ?_; go_big_quiet_on) | (refine quiet_is (.indexAddr _ _ _) rfl ?_; refine quiet_val (fun w _ => run_idxv _ _ _ rfl) ?_; go_big_quiet_on) | (refine quiet_is (.binOp .eql _ _ _ _) rfl ?_; refine quiet_val (fun w _ => run_aeq _ _ _ _ rfl) ?_; go_big_quiet_on) | (refine quiet_is (.binOp .neq _ _ _ _) rfl ?_; refine quiet_val (fun w _ => run_ane _ _ _ _ rfl) ?_; go_big_quiet_on) | (go_big_quiet_op; go_big_quiet_on)))); refine wpQuiet_nil ?_; clear hS hne; intro w hS))
  exact hR _ hS.pick
end Go.Proofs.Ytmhldlcjfmnkpaa
