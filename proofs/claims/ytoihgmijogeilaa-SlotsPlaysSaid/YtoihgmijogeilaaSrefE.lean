/-
  Tables of slots: a table shows what that of the document does.
-/
import Derived.Test.YtoihgmijogeilaaSrefD
namespace Go.Proofs.Ytoihgmijogeilaa
open Go.RowKit Go.Mm
variable {R : Ending → World → Prop} {w : World} {w0 : World} {bs : List Nat} {H H' H1 E : List Ent}

set_option maxHeartbeats 2000000 in
set_option maxRecDepth 100000 in
theorem alike_ok {p q : Option Addr} {T : Tb} {Ea Eb : List Ent} (hO : St w0 bs w (Ea ++ (Eb ++ H))) (hT : TA p T Ea) (hB : RA q T Eb) (s : Int)
    (hR : ∀ w', St w0 bs w' (Ea ++ (Eb ++ H)) → Ret R (.bool true) w') : Calls Try.prog 30 #[.pointer p, .pointer q, .int .i64 s] w R := by
  have hS := hO
  clear hO
  have h256 : (tkL T).length ≤ 256 := by
    cases T with
    | none => simp [tkL]
    | some L => exact tkL_256 hT.1
  obtain ⟨l, hl⟩ : ∃ l, tkL T = l := ⟨_, rfl⟩
  rw [hl] at h256
  have hl' := Lib.hid hl
  clear hl
  go_enter Try.func30, Try.ntmps30
  go_wp2_with (first | (go_at_call 18; refine sl_gen hS hT s ?_; clear hS; intro w _ hS; unfold Ret) | (go_at_call 41; refine rf_gen hS hB s ?_; clear hS; intro w _ hS; unfold Ret) | (go_at_call 22; refine sl_len hS hT ?_; clear hS; intro w _ hS; unfold Ret) | (go_at_call 42; refine rf_len hS hB ?_; clear hS; intro w _ hS; unfold Ret) | (go_at_call 21; refine sl_free hS hT ?_; clear hS; intro w _ hS; unfold Ret) | (go_at_call 43; refine rf_free hS hB ?_; clear hS; intro w _ hS; unfold Ret) | (go_at_call 19; refine sl_retired hS hT ?_; clear hS; intro w _ hS; unfold Ret) | (go_at_call 44; refine rf_retired hS hB ?_; clear hS; intro w _ hS; unfold Ret) | (go_at_call 13; refine sl_taken hS hT ?_; clear hS; intro v1 E1 w hA _ hS; rw [hl'.out] at hA; unfold Ret) | (go_at_call 46; refine rf_taken hS hB ?_; clear hS; intro v2 E2 w hC _ hS; rw [hl'.out] at hC; unfold Ret) | (go_at_call 45; refine rf_same hS hA hC h256 ?_; clear hS; intro w hS; unfold Ret) | go_skip | (refine wpList_is (.build _ _) rfl ?_; go_must (refine wpList_stp rfl (stp_val (run_bd _ _ rfl) ?_))) | (refine wpList_is (.call { callee := .builtin .clear, args := #[_], argTypes := #[_] }) rfl ?_; go_must (refine wpList_stp rfl (stp_cl _ _ rfl hS (by decide) ?_)); clear hS; intro w hS) | (refine wpList_is (.load _ _) rfl ?_; go_must (first | refine wpList_stp rfl (stp_val (run_ld _ _ rfl hS) ?_) | refine wpList_stp rfl (stp_val (run_lda _ _ rfl hS) ?_) | refine wpList_stp rfl (stp_val (run_ld0 _ _ rfl hS) ?_) | refine wpList_stp rfl (stp_val (run_lda0 _ _ rfl hS) ?_))) | (refine wpList_is (.store _ _ _) rfl ?_; go_must (first | refine wpList_stp rfl (stp_st _ _ _ rfl hS ?_) | refine wpList_stp rfl (stp_sta _ _ _ rfl hS ?_)); clear hS; intro w hS) | (refine wpList_is (.alloc _) rfl ?_; go_must (refine wpList_stp rfl (stp_al _ rfl hS ?_)); clear hS; intro bN w hbN hS) | (refine wpList_is (.box _ _) rfl ?_; go_must (refine wpList_stp rfl (stp_bx _ _ rfl hS ?_)); clear hS; intro bN w hbN hS) | (refine wpList_is (.binOp .eql _ _ (.const (.slice none _ _)) _) rfl ?_; refine wpList_stp rfl (stp_val (run_nse _ _ _ rfl) ?_)) | (refine wpList_is (.binOp .neq _ _ (.const (.slice none _ _)) _) rfl ?_; refine wpList_stp rfl (stp_val (run_nsn _ _ _ rfl) ?_)) | (refine region_quiet hS (by kernel_rfl) (by kernel_rfl) (fun hne => ?_); (repeat (first | go_big_quiet_skip | (go_big_quiet_want; first | (refine quiet_is (.load _ _) rfl ?_; go_must (first | refine quiet_at sw_st (fun w hS => run_ld _ _ rfl hS) ?_ | refine quiet_at sw_st (fun w hS => run_lda _ _ rfl hS) ?_ | refine quiet_at sw_st (fun w hS => run_ld0 _ _ rfl hS) ?_ | refine quiet_at sw_st (fun w hS => run_lda0 _ _ rfl hS) ?_); go_big_quiet_on) | (refine quiet_is (.binOp .eql _ _ (.const (.slice none _ _)) _) rfl ?_; refine quiet_val (fun w _ => run_nse _ _ _ rfl) ?_; go_big_quiet_on) | (refine quiet_is (.binOp .neq _ _ (.const (.slice none _ _)) _) rfl ?_; refine quiet_val (fun w _ => run_nsn _ _ _ rfl) ?_; go_big_quiet_on) | (refine quiet_is (.call { callee := .builtin .len, args := #[_], argTypes := #[_] }) rfl ?_; refine quiet_val (fun w _ => run_lenv _ _ rfl) ?_; go_big_quiet_on) | (refine quiet_is (.indexAddr _ _ _) rfl ?_; refine quiet_val (fun w _ => run_idxv _ _ _ rfl) ?_; go_big_quiet_on) | (refine quiet_is (.binOp .eql _ _ _ _) rfl ?_; refine quiet_val (fun w _ => run_aeq _ _ _ _ rfl) ?_; go_big_quiet_on) | (refine quiet_is (.binOp .neq _ _ _ _) rfl ?_; refine quiet_val (fun w _ => run_ane _ _ _ _ rfl) ?_; go_big_quiet_on) | (go_big_quiet_op; go_big_quiet_on)))); refine wpQuiet_nil ?_; clear hS hne; intro w hS))
  exact hR _ hS.pick
end Go.Proofs.Ytoihgmijogeilaa
