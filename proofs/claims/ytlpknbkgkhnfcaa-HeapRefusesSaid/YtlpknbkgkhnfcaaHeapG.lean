/-
  Heaps: the chapter's examples.
-/
import Derived.Test.YtlpknbkgkhnfcaaHeapF
set_option linter.unusedSimpArgs false
set_option linter.unusedVariables false
namespace Go.Proofs.Ytlpknbkgkhnfcaa
open Go.RowKit Go.Mm
variable {R : Ending → World → Prop} {w : World} {w0 : World} {bs : List Nat} {H H' H1 E : List Ent}

instance decOb : DecidableEq Ob := inferInstanceAs (DecidableEq (Int × List (Int × Int) × Bool))
instance decHs : DecidableEq Hs := inferInstanceAs (DecidableEq (Int × Int × Ob))
instance decHp : DecidableEq Hp := inferInstanceAs (DecidableEq (Option (Option (List Hs))))
def o2 : Ob := (2, zero4, false)
def o0 : Ob := (0, zero4, true)
def o2b : Ob := (2, [(1, 1), (0, 0), (0, 0), (0, 0)], false)
def o1 : Ob := (1, zero4, false)
theorem x0 : nwH 2 1 = some (some [(0, 1, zOb), (0, 1, zOb)]) ∧ nwE 2 1 = 0 := by decide
theorem x1 : mkT (some (some [(0, 1, zOb), (0, 1, zOb)])) 2 false = some (some [(1, 1, o2), (0, 1, zOb)]) ∧ mkR (some (some [(0, 1, zOb), (0, 1, zOb)])) 2 false = (0, 1) ∧ mkE (some (some [(0, 1, zOb), (0, 1, zOb)])) 2 false = 0 := by decide
theorem x2 : mkT (some (some [(1, 1, o2), (0, 1, zOb)])) 0 true = some (some [(1, 1, o2), (1, 1, o0)]) ∧ mkR (some (some [(1, 1, o2), (0, 1, zOb)])) 0 true = (1, 1) ∧ mkE (some (some [(1, 1, o2), (0, 1, zOb)])) 0 true = 0 := by decide
theorem x3 : mkT (some (some [(1, 1, o2), (1, 1, o0)])) 1 false = some (some [(1, 1, o2), (1, 1, o0)]) ∧ mkR (some (some [(1, 1, o2), (1, 1, o0)])) 1 false = (0, 0) ∧ mkE (some (some [(1, 1, o2), (1, 1, o0)])) 1 false = 4 := by decide
theorem x4 : stT (some (some [(1, 1, o2), (1, 1, o0)])) 0 1 0 (1, 1) = some (some [(1, 1, o2b), (1, 1, o0)]) ∧ stR (some (some [(1, 1, o2), (1, 1, o0)])) 0 1 0 (1, 1) = (0, 0) ∧ stE (some (some [(1, 1, o2), (1, 1, o0)])) 0 1 0 (1, 1) = 0 := by decide
theorem x5 : ldR (some (some [(1, 1, o2b), (1, 1, o0)])) 0 1 0 = (1, 1) ∧ ldE (some (some [(1, 1, o2b), (1, 1, o0)])) 0 1 0 = 0 := by decide
theorem x6 : frT (some (some [(1, 1, o2b), (1, 1, o0)])) 1 1 = some (some [(1, 1, o2b), (0, 2, zOb)]) ∧ wiH (some (some [(1, 1, o2b), (1, 1, o0)])) 1 1 = 0 := by decide
theorem x7 : stT (some (some [(1, 1, o2b), (0, 2, zOb)])) 0 1 1 (1, 1) = some (some [(1, 1, o2b), (0, 2, zOb)]) ∧ stR (some (some [(1, 1, o2b), (0, 2, zOb)])) 0 1 1 (1, 1) = (0, 0) ∧ stE (some (some [(1, 1, o2b), (0, 2, zOb)])) 0 1 1 (1, 1) = 7 := by decide
theorem x8 : mkT (some (some [(1, 1, o2b), (0, 2, zOb)])) 1 false = some (some [(1, 1, o2b), (1, 2, o1)]) ∧ mkR (some (some [(1, 1, o2b), (0, 2, zOb)])) 1 false = (1, 2) ∧ mkE (some (some [(1, 1, o2b), (0, 2, zOb)])) 1 false = 0 := by decide
theorem x9 : hasH (some (some [(1, 1, o2b), (1, 2, o1)])) 1 1 = false := by decide

set_option maxHeartbeats 2000000 in
set_option maxRecDepth 100000 in
theorem works_ok (hO : St w0 bs w H) (hR : ∀ w', St w0 bs w' H → Ret R (.bool true) w') : Calls Try.prog 11 #[] w R := by
  have hS := hO
  clear hO
  have q1 := refE (show refB 0 1 0 1 = true by decide)
  have q2 := refE (show refB 1 1 1 1 = true by decide)
  have q3 := refE (show refB 0 0 0 0 = true by decide)
  have q4 := refE (show refB 1 2 1 2 = true by decide)
  go_enter Try.func11, Try.ntmps11
  go_wp2_with (first | go_skip | (go_at_call 19; refine hp_new hS 2 1 (by decide) _ 0 x0.1 x0.2 ?_; clear hS; intro p E1 w hT hS; have hpn := hT.nil; unfold Ret) | (go_at_call 17; (with_reducible refine hp_make hS hT 2 false _ (0, 1) 0 x1.1 x1.2.1 x1.2.2 ?_); clear hS hT; intro E1 w hT hS; unfold Ret) | (go_at_call 17; (with_reducible refine hp_make hS hT 0 true _ (1, 1) 0 x2.1 x2.2.1 x2.2.2 ?_); clear hS hT; intro E1 w hT hS; unfold Ret) | (go_at_call 17; (with_reducible refine hp_make hS hT 1 false _ (0, 0) 4 x3.1 x3.2.1 x3.2.2 ?_); clear hS hT; intro E1 w hT hS; unfold Ret) | (go_at_call 17; (with_reducible refine hp_make hS hT 1 false _ (1, 2) 0 x8.1 x8.2.1 x8.2.2 ?_); clear hS hT; intro E1 w hT hS; unfold Ret) | (go_at_call 22; (with_reducible refine hp_store hS hT 0 1 0 1 1 (by decide) _ (0, 0) 0 x4.1 x4.2.1 x4.2.2 ?_); clear hS hT; intro E1 w hT hS; unfold Ret) | (go_at_call 21; refine hp_load hS hT 0 1 0 (1, 1) 0 x5.1 x5.2 ?_; clear hS; intro w _ hS; unfold Ret) | (go_at_call 18; refine hp_free hS hT 1 1 _ 0 x6.1 x6.2 ?_; clear hS hT; intro E1 w hT hS; unfold Ret) | (go_at_call 22; (with_reducible refine hp_store hS hT 0 1 1 1 1 (by decide) _ (0, 0) 7 x7.1 x7.2.1 x7.2.2 ?_); clear hS hT; intro E1 w hT hS; unfold Ret) | (go_at_call 24; refine hp_has hS hT 1 1 false x9 ?_; clear hS; intro w _ hS; unfold Ret) | (refine wpList_is (.binOp .eql _ _ _ _) rfl ?_; refine wpList_stp (by kernel_rfl) (stp_val (run_aeq _ _ _ _ rfl) ?_)) | (refine wpList_is (.binOp .neq _ _ _ _) rfl ?_; refine wpList_stp (by kernel_rfl) (stp_val (run_ane _ _ _ _ rfl) ?_)) | go_skip | (refine wpList_is (.build _ _) rfl ?_; go_must (refine wpList_stp (by kernel_rfl) (stp_val (run_bd _ _ rfl) ?_))) | (refine wpList_is (.call { callee := .builtin .clear, args := #[_], argTypes := #[_] }) rfl ?_; go_must (refine wpList_stp (by kernel_rfl) (stp_cl _ _ rfl hS (by decide) ?_)); clear hS; intro w hS) | (refine wpList_is (.load _ _) rfl ?_; go_must (first | refine wpList_stp (by kernel_rfl) (stp_val (run_ld _ _ rfl hS) ?_) | refine wpList_stp (by kernel_rfl) (stp_val (run_lda _ _ rfl hS) ?_) | refine wpList_stp (by kernel_rfl) (stp_val (run_ld0 _ _ rfl hS) ?_) | refine wpList_stp (by kernel_rfl) (stp_val (run_lda0 _ _ rfl hS) ?_))) | (refine wpList_is (.store _ _ _) rfl ?_; go_must (first | refine wpList_stp (by kernel_rfl) (stp_st _ _ _ rfl hS ?_) | refine wpList_stp (by kernel_rfl) (stp_sta _ _ _ rfl hS ?_)); clear hS; intro w hS) | (refine wpList_is (.alloc _) rfl ?_; go_must (refine wpList_stp (by kernel_rfl) (stp_al _ rfl hS ?_)); clear hS; intro bN w hbN hS) | (refine wpList_is (.box _ _) rfl ?_; go_must (refine wpList_stp (by kernel_rfl) (stp_bx _ _ rfl hS ?_)); clear hS; intro bN w hbN hS) | (refine wpList_is (.binOp .eql _ _ (.const (.slice none _ _)) _) rfl ?_; refine wpList_stp (by kernel_rfl) (stp_val (run_nse _ _ _ rfl) ?_)) | (refine wpList_is (.binOp .neq _ _ (.const (.slice none _ _)) _) rfl ?_; refine wpList_stp (by kernel_rfl) (stp_val (run_nsn _ _ _ rfl) ?_)))
  exact hR _ hS.pick
end Go.Proofs.Ytlpknbkgkhnfcaa
