/-
  ScanStays: what its calls answer.
-/
import Derived.Test.YtgpjanfphgjbbaaGrp
import Derived.Test.YtgpjanfphgjbbaaWks
import Derived.Test.YtgpjanfphgjbbaaWalkSnil
set_option linter.unusedSimpArgs false
set_option linter.unusedVariables false
namespace Go.Proofs.Ytgpjanfphgjbbaa
open Go Go.RowKit Go.Mm
variable {R : Ending → World → Prop} {w : World} {w0 : World} {bs : List Nat} {H H1 E Ev : List Ent}
def posB (s : Int) : Bool := decide (0 < s)
set_option maxRecDepth 100000 in
theorem pos_ok (hO : St w0 bs w H) (s : Int) (b : Bool) (hb : posB s = b) (hR : ∀ w', St w0 bs w' H → Ret R (.bool b) w') : Calls Try.prog 32 #[.int .i64 s] w R := by
  have hS := hO
  clear hO
  unfold posB at hb
  go_enter Try.func32, Try.ntmps32
  go_wp2_with (first | go_skip | go_skip | (refine wpList_is (.build _ _) rfl ?_; go_must (refine wpList_stp (by kernel_rfl) (stp_val (run_bd _ _ rfl) ?_))) | (refine wpList_is (.call { callee := .builtin .clear, args := #[_], argTypes := #[_] }) rfl ?_; go_must (refine wpList_stp (by kernel_rfl) (stp_cl _ _ rfl hS (by decide) ?_)); clear hS; intro w hS) | (refine wpList_is (.load _ _) rfl ?_; go_must (first | refine wpList_stp (by kernel_rfl) (stp_val (run_ld _ _ rfl hS) ?_) | refine wpList_stp (by kernel_rfl) (stp_val (run_lda _ _ rfl hS) ?_) | refine wpList_stp (by kernel_rfl) (stp_val (run_ld0 _ _ rfl hS) ?_) | refine wpList_stp (by kernel_rfl) (stp_val (run_lda0 _ _ rfl hS) ?_))) | (refine wpList_is (.store _ _ _) rfl ?_; go_must (first | refine wpList_stp (by kernel_rfl) (stp_st _ _ _ rfl hS ?_) | refine wpList_stp (by kernel_rfl) (stp_sta _ _ _ rfl hS ?_)); clear hS; intro w hS) | (refine wpList_is (.alloc _) rfl ?_; go_must (refine wpList_stp (by kernel_rfl) (stp_al _ rfl hS ?_)); clear hS; intro bN w hbN hS) | (refine wpList_is (.box _ _) rfl ?_; go_must (refine wpList_stp (by kernel_rfl) (stp_bx _ _ rfl hS ?_)); clear hS; intro bN w hbN hS) | (refine wpList_is (.binOp .eql _ _ (.const (.slice none _ _)) _) rfl ?_; refine wpList_stp (by kernel_rfl) (stp_val (run_nse _ _ _ rfl) ?_)) | (refine wpList_is (.binOp .neq _ _ (.const (.slice none _ _)) _) rfl ?_; refine wpList_stp (by kernel_rfl) (stp_val (run_nsn _ _ _ rfl) ?_)))
  first
    | exact hR _ hS
    | (rw [← hb] at hR; exact hR _ hS)
set_option maxHeartbeats 1000000 in
set_option maxRecDepth 100000 in
theorem idx_pos {v : Value} {l : List Int} (hO : St w0 bs w (Ev ++ H1)) (hA : IS v l Ev) (hl : l.length ≤ 1000)
    (hR : ∀ w', St w0 bs w' (Ev ++ H1) → Ret R (.int .i64 (idxI posB l)) w') : Calls Try.prog 57 #[v, .func (.func 32) #[] #[]] w R := by
  have hS := hO
  clear hO
  have hlen := hA.len rfl
  have hone := hA.one
  go_enter Try.func57, Try.ntmps57
  go_wp2_with (first | go_skip | go_skip | (refine wpList_is (.call { callee := .builtin .len, args := #[_], argTypes := #[_] }) rfl ?_; refine wpList_stp (by kernel_rfl) (stp_val (run_lenv _ _ rfl) ?_)) | (refine wpList_is (.slice _ _ none (some _) none) rfl ?_; refine wpList_stp (by kernel_rfl) (stp_val (run_prev _ _ _ rfl) ?_)) | (refine wpList_is (.indexAddr _ _ _) rfl ?_; refine wpList_stp (by kernel_rfl) (stp_val (run_idxv _ _ _ rfl) ?_)) | go_skip | (refine wpList_is (.build _ _) rfl ?_; go_must (refine wpList_stp (by kernel_rfl) (stp_val (run_bd _ _ rfl) ?_))) | (refine wpList_is (.call { callee := .builtin .clear, args := #[_], argTypes := #[_] }) rfl ?_; go_must (refine wpList_stp (by kernel_rfl) (stp_cl _ _ rfl hS (by decide) ?_)); clear hS; intro w hS) | (refine wpList_is (.load _ _) rfl ?_; go_must (first | refine wpList_stp (by kernel_rfl) (stp_val (run_ld _ _ rfl hS) ?_) | refine wpList_stp (by kernel_rfl) (stp_val (run_lda _ _ rfl hS) ?_) | refine wpList_stp (by kernel_rfl) (stp_val (run_ld0 _ _ rfl hS) ?_) | refine wpList_stp (by kernel_rfl) (stp_val (run_lda0 _ _ rfl hS) ?_))) | (refine wpList_is (.store _ _ _) rfl ?_; go_must (first | refine wpList_stp (by kernel_rfl) (stp_st _ _ _ rfl hS ?_) | refine wpList_stp (by kernel_rfl) (stp_sta _ _ _ rfl hS ?_)); clear hS; intro w hS) | (refine wpList_is (.alloc _) rfl ?_; go_must (refine wpList_stp (by kernel_rfl) (stp_al _ rfl hS ?_)); clear hS; intro bN w hbN hS) | (refine wpList_is (.box _ _) rfl ?_; go_must (refine wpList_stp (by kernel_rfl) (stp_bx _ _ rfl hS ?_)); clear hS; intro bN w hbN hS) | (refine wpList_is (.binOp .eql _ _ (.const (.slice none _ _)) _) rfl ?_; refine wpList_stp (by kernel_rfl) (stp_val (run_nse _ _ _ rfl) ?_)) | (refine wpList_is (.binOp .neq _ _ (.const (.slice none _ _)) _) rfl ?_; refine wpList_stp (by kernel_rfl) (stp_val (run_nsn _ _ _ rfl) ?_)) | (refine region_quiet hS (by kernel_rfl) (by kernel_rfl) (fun hne => ?_); (repeat (first | go_big_quiet_skip | (go_big_quiet_want; first | (refine quiet_is (.load _ _) rfl ?_; go_must (first | refine quiet_at sw_st (fun w hS => run_ld _ _ rfl hS) ?_ | refine quiet_at sw_st (fun w hS => run_lda _ _ rfl hS) ?_ | refine quiet_at sw_st (fun w hS => run_ld0 _ _ rfl hS) ?_ | refine quiet_at sw_st (fun w hS => run_lda0 _ _ rfl hS) ?_); go_big_quiet_on) | (refine quiet_is (.binOp .eql _ _ (.const (.slice none _ _)) _) rfl ?_; refine quiet_val (fun w _ => run_nse _ _ _ rfl) ?_; go_big_quiet_on) | (refine quiet_is (.binOp .neq _ _ (.const (.slice none _ _)) _) rfl ?_; refine quiet_val (fun w _ => run_nsn _ _ _ rfl) ?_; go_big_quiet_on) | (refine quiet_is (.call { callee := .builtin .len, args := #[_], argTypes := #[_] }) rfl ?_; refine quiet_val (fun w _ => run_lenv _ _ rfl) ?_; go_big_quiet_on) | (refine quiet_is (.indexAddr _ _ _) rfl ?_; refine quiet_val (fun w _ => run_idxv _ _ _ rfl) ?_; go_big_quiet_on) | (refine quiet_is (.binOp .eql _ _ _ _) rfl ?_; refine quiet_val (fun w _ => run_aeq _ _ _ _ rfl) ?_; go_big_quiet_on) | (refine quiet_is (.binOp .neq _ _ _ _) rfl ?_; refine quiet_val (fun w _ => run_ane _ _ _ _ rfl) ?_; go_big_quiet_on) | (go_big_quiet_op; go_big_quiet_on)))); refine wpQuiet_nil ?_; clear hS hne; intro w hS))
  go_loopw [8] (fun u wr => ∃ k : Nat, k ≤ l.length ∧ u = .int .i64 k ∧ (∀ j, j < k → posB (l.getD j 0) = false) ∧ St w0 bs wr (Ev ++ H1)) (fun u _ => l.length - (intOf u).toNat)
  case atStart => exact ⟨0, Nat.zero_le _, rfl, fun j hj => absurd hj (Nat.not_lt_zero _), hS⟩
  case round =>
    clear hS
    obtain ⟨k, hk, rfl, hno, hS⟩ := hrel
    by_cases hlt : k < l.length
    · obtain ⟨x, hx⟩ : ∃ x, l.getD k 0 = x := ⟨_, rfl⟩
      obtain ⟨gx, sp, ix, hh, hcx⟩ := hA.at hlt hx
      have ix := ix k rfl
      have hno' := Lib.hid hno
      obtain ⟨b, hb⟩ : ∃ b, posB x = b := ⟨_, rfl⟩
      have hb' := Lib.hid hb
      have hx' := Lib.hid hx
      clear hx hno hb
      cases b with
      | true =>
        have e : idxI posB l = k := by
          unfold idxI
          rw [first_at hlt (fun j hj => hno'.out j hj) (by simp only [hx'.out, hb'.out])]
        rw [e] at hR
        clear e
        go_wp2_with (first | go_skip | (go_at_call 32; refine pos_ok hS x true hb'.out ?_; clear hS; intro w hS; unfold Ret) | go_skip | (refine wpList_is (.call { callee := .builtin .len, args := #[_], argTypes := #[_] }) rfl ?_; refine wpList_stp (by kernel_rfl) (stp_val (run_lenv _ _ rfl) ?_)) | (refine wpList_is (.slice _ _ none (some _) none) rfl ?_; refine wpList_stp (by kernel_rfl) (stp_val (run_prev _ _ _ rfl) ?_)) | (refine wpList_is (.indexAddr _ _ _) rfl ?_; refine wpList_stp (by kernel_rfl) (stp_val (run_idxv _ _ _ rfl) ?_)) | go_skip | (refine wpList_is (.build _ _) rfl ?_; go_must (refine wpList_stp (by kernel_rfl) (stp_val (run_bd _ _ rfl) ?_))) | (refine wpList_is (.call { callee := .builtin .clear, args := #[_], argTypes := #[_] }) rfl ?_; go_must (refine wpList_stp (by kernel_rfl) (stp_cl _ _ rfl hS (by decide) ?_)); clear hS; intro w hS) | (refine wpList_is (.load _ _) rfl ?_; go_must (first | refine wpList_stp (by kernel_rfl) (stp_val (run_ld _ _ rfl hS) ?_) | refine wpList_stp (by kernel_rfl) (stp_val (run_lda _ _ rfl hS) ?_) | refine wpList_stp (by kernel_rfl) (stp_val (run_ld0 _ _ rfl hS) ?_) | refine wpList_stp (by kernel_rfl) (stp_val (run_lda0 _ _ rfl hS) ?_))) | (refine wpList_is (.store _ _ _) rfl ?_; go_must (first | refine wpList_stp (by kernel_rfl) (stp_st _ _ _ rfl hS ?_) | refine wpList_stp (by kernel_rfl) (stp_sta _ _ _ rfl hS ?_)); clear hS; intro w hS) | (refine wpList_is (.alloc _) rfl ?_; go_must (refine wpList_stp (by kernel_rfl) (stp_al _ rfl hS ?_)); clear hS; intro bN w hbN hS) | (refine wpList_is (.box _ _) rfl ?_; go_must (refine wpList_stp (by kernel_rfl) (stp_bx _ _ rfl hS ?_)); clear hS; intro bN w hbN hS) | (refine wpList_is (.binOp .eql _ _ (.const (.slice none _ _)) _) rfl ?_; refine wpList_stp (by kernel_rfl) (stp_val (run_nse _ _ _ rfl) ?_)) | (refine wpList_is (.binOp .neq _ _ (.const (.slice none _ _)) _) rfl ?_; refine wpList_stp (by kernel_rfl) (stp_val (run_nsn _ _ _ rfl) ?_)) | (refine region_quiet hS (by kernel_rfl) (by kernel_rfl) (fun hne => ?_); (repeat (first | go_big_quiet_skip | (go_big_quiet_want; first | (refine quiet_is (.load _ _) rfl ?_; go_must (first | refine quiet_at sw_st (fun w hS => run_ld _ _ rfl hS) ?_ | refine quiet_at sw_st (fun w hS => run_lda _ _ rfl hS) ?_ | refine quiet_at sw_st (fun w hS => run_ld0 _ _ rfl hS) ?_ | refine quiet_at sw_st (fun w hS => run_lda0 _ _ rfl hS) ?_); go_big_quiet_on) | (refine quiet_is (.binOp .eql _ _ (.const (.slice none _ _)) _) rfl ?_; refine quiet_val (fun w _ => run_nse _ _ _ rfl) ?_; go_big_quiet_on) | (refine quiet_is (.binOp .neq _ _ (.const (.slice none _ _)) _) rfl ?_; refine quiet_val (fun w _ => run_nsn _ _ _ rfl) ?_; go_big_quiet_on) | (refine quiet_is (.call { callee := .builtin .len, args := #[_], argTypes := #[_] }) rfl ?_; refine quiet_val (fun w _ => run_lenv _ _ rfl) ?_; go_big_quiet_on) | (refine quiet_is (.indexAddr _ _ _) rfl ?_; refine quiet_val (fun w _ => run_idxv _ _ _ rfl) ?_; go_big_quiet_on) | (refine quiet_is (.binOp .eql _ _ _ _) rfl ?_; refine quiet_val (fun w _ => run_aeq _ _ _ _ rfl) ?_; go_big_quiet_on) | (refine quiet_is (.binOp .neq _ _ _ _) rfl ?_; refine quiet_val (fun w _ => run_ane _ _ _ _ rfl) ?_; go_big_quiet_on) | (go_big_quiet_op; go_big_quiet_on)))); refine wpQuiet_nil ?_; clear hS hne; intro w hS))
        exact hR _ hS.pick
      | false =>
        go_wp2_with (first | go_skip | (go_at_call 32; refine pos_ok hS x false hb'.out ?_; clear hS; intro w hS; unfold Ret) | go_skip | (refine wpList_is (.call { callee := .builtin .len, args := #[_], argTypes := #[_] }) rfl ?_; refine wpList_stp (by kernel_rfl) (stp_val (run_lenv _ _ rfl) ?_)) | (refine wpList_is (.slice _ _ none (some _) none) rfl ?_; refine wpList_stp (by kernel_rfl) (stp_val (run_prev _ _ _ rfl) ?_)) | (refine wpList_is (.indexAddr _ _ _) rfl ?_; refine wpList_stp (by kernel_rfl) (stp_val (run_idxv _ _ _ rfl) ?_)) | go_skip | (refine wpList_is (.build _ _) rfl ?_; go_must (refine wpList_stp (by kernel_rfl) (stp_val (run_bd _ _ rfl) ?_))) | (refine wpList_is (.call { callee := .builtin .clear, args := #[_], argTypes := #[_] }) rfl ?_; go_must (refine wpList_stp (by kernel_rfl) (stp_cl _ _ rfl hS (by decide) ?_)); clear hS; intro w hS) | (refine wpList_is (.load _ _) rfl ?_; go_must (first | refine wpList_stp (by kernel_rfl) (stp_val (run_ld _ _ rfl hS) ?_) | refine wpList_stp (by kernel_rfl) (stp_val (run_lda _ _ rfl hS) ?_) | refine wpList_stp (by kernel_rfl) (stp_val (run_ld0 _ _ rfl hS) ?_) | refine wpList_stp (by kernel_rfl) (stp_val (run_lda0 _ _ rfl hS) ?_))) | (refine wpList_is (.store _ _ _) rfl ?_; go_must (first | refine wpList_stp (by kernel_rfl) (stp_st _ _ _ rfl hS ?_) | refine wpList_stp (by kernel_rfl) (stp_sta _ _ _ rfl hS ?_)); clear hS; intro w hS) | (refine wpList_is (.alloc _) rfl ?_; go_must (refine wpList_stp (by kernel_rfl) (stp_al _ rfl hS ?_)); clear hS; intro bN w hbN hS) | (refine wpList_is (.box _ _) rfl ?_; go_must (refine wpList_stp (by kernel_rfl) (stp_bx _ _ rfl hS ?_)); clear hS; intro bN w hbN hS) | (refine wpList_is (.binOp .eql _ _ (.const (.slice none _ _)) _) rfl ?_; refine wpList_stp (by kernel_rfl) (stp_val (run_nse _ _ _ rfl) ?_)) | (refine wpList_is (.binOp .neq _ _ (.const (.slice none _ _)) _) rfl ?_; refine wpList_stp (by kernel_rfl) (stp_val (run_nsn _ _ _ rfl) ?_)) | (refine region_quiet hS (by kernel_rfl) (by kernel_rfl) (fun hne => ?_); (repeat (first | go_big_quiet_skip | (go_big_quiet_want; first | (refine quiet_is (.load _ _) rfl ?_; go_must (first | refine quiet_at sw_st (fun w hS => run_ld _ _ rfl hS) ?_ | refine quiet_at sw_st (fun w hS => run_lda _ _ rfl hS) ?_ | refine quiet_at sw_st (fun w hS => run_ld0 _ _ rfl hS) ?_ | refine quiet_at sw_st (fun w hS => run_lda0 _ _ rfl hS) ?_); go_big_quiet_on) | (refine quiet_is (.binOp .eql _ _ (.const (.slice none _ _)) _) rfl ?_; refine quiet_val (fun w _ => run_nse _ _ _ rfl) ?_; go_big_quiet_on) | (refine quiet_is (.binOp .neq _ _ (.const (.slice none _ _)) _) rfl ?_; refine quiet_val (fun w _ => run_nsn _ _ _ rfl) ?_; go_big_quiet_on) | (refine quiet_is (.call { callee := .builtin .len, args := #[_], argTypes := #[_] }) rfl ?_; refine quiet_val (fun w _ => run_lenv _ _ rfl) ?_; go_big_quiet_on) | (refine quiet_is (.indexAddr _ _ _) rfl ?_; refine quiet_val (fun w _ => run_idxv _ _ _ rfl) ?_; go_big_quiet_on) | (refine quiet_is (.binOp .eql _ _ _ _) rfl ?_; refine quiet_val (fun w _ => run_aeq _ _ _ _ rfl) ?_; go_big_quiet_on) | (refine quiet_is (.binOp .neq _ _ _ _) rfl ?_; refine quiet_val (fun w _ => run_ane _ _ _ _ rfl) ?_; go_big_quiet_on) | (go_big_quiet_op; go_big_quiet_on)))); refine wpQuiet_nil ?_; clear hS hne; intro w hS))
        go_roundw
        case rel =>
          refine ⟨k + 1, by omega, by go_num, fun j hj => ?_, hS.pick⟩
          by_cases e : j = k
          · subst e; rw [hx'.out]; exact hb'.out
          · exact hno'.out j (by omega)
        case measure => simp [intOf]; omega
    · obtain rfl : k = l.length := by omega
      have e : idxI posB l = -1 := by
        unfold idxI
        rw [first_no (fun j hj => hno j hj)]
      rw [e] at hR
      clear hno e
      go_wp2_with (first | go_skip | go_skip | (refine wpList_is (.call { callee := .builtin .len, args := #[_], argTypes := #[_] }) rfl ?_; refine wpList_stp (by kernel_rfl) (stp_val (run_lenv _ _ rfl) ?_)) | (refine wpList_is (.slice _ _ none (some _) none) rfl ?_; refine wpList_stp (by kernel_rfl) (stp_val (run_prev _ _ _ rfl) ?_)) | (refine wpList_is (.indexAddr _ _ _) rfl ?_; refine wpList_stp (by kernel_rfl) (stp_val (run_idxv _ _ _ rfl) ?_)) | go_skip | (refine wpList_is (.build _ _) rfl ?_; go_must (refine wpList_stp (by kernel_rfl) (stp_val (run_bd _ _ rfl) ?_))) | (refine wpList_is (.call { callee := .builtin .clear, args := #[_], argTypes := #[_] }) rfl ?_; go_must (refine wpList_stp (by kernel_rfl) (stp_cl _ _ rfl hS (by decide) ?_)); clear hS; intro w hS) | (refine wpList_is (.load _ _) rfl ?_; go_must (first | refine wpList_stp (by kernel_rfl) (stp_val (run_ld _ _ rfl hS) ?_) | refine wpList_stp (by kernel_rfl) (stp_val (run_lda _ _ rfl hS) ?_) | refine wpList_stp (by kernel_rfl) (stp_val (run_ld0 _ _ rfl hS) ?_) | refine wpList_stp (by kernel_rfl) (stp_val (run_lda0 _ _ rfl hS) ?_))) | (refine wpList_is (.store _ _ _) rfl ?_; go_must (first | refine wpList_stp (by kernel_rfl) (stp_st _ _ _ rfl hS ?_) | refine wpList_stp (by kernel_rfl) (stp_sta _ _ _ rfl hS ?_)); clear hS; intro w hS) | (refine wpList_is (.alloc _) rfl ?_; go_must (refine wpList_stp (by kernel_rfl) (stp_al _ rfl hS ?_)); clear hS; intro bN w hbN hS) | (refine wpList_is (.box _ _) rfl ?_; go_must (refine wpList_stp (by kernel_rfl) (stp_bx _ _ rfl hS ?_)); clear hS; intro bN w hbN hS) | (refine wpList_is (.binOp .eql _ _ (.const (.slice none _ _)) _) rfl ?_; refine wpList_stp (by kernel_rfl) (stp_val (run_nse _ _ _ rfl) ?_)) | (refine wpList_is (.binOp .neq _ _ (.const (.slice none _ _)) _) rfl ?_; refine wpList_stp (by kernel_rfl) (stp_val (run_nsn _ _ _ rfl) ?_)) | (refine region_quiet hS (by kernel_rfl) (by kernel_rfl) (fun hne => ?_); (repeat (first | go_big_quiet_skip | (go_big_quiet_want; first | (refine quiet_is (.load _ _) rfl ?_; go_must (first | refine quiet_at sw_st (fun w hS => run_ld _ _ rfl hS) ?_ | refine quiet_at sw_st (fun w hS => run_lda _ _ rfl hS) ?_ | refine quiet_at sw_st (fun w hS => run_ld0 _ _ rfl hS) ?_ | refine quiet_at sw_st (fun w hS => run_lda0 _ _ rfl hS) ?_); go_big_quiet_on) | (refine quiet_is (.binOp .eql _ _ (.const (.slice none _ _)) _) rfl ?_; refine quiet_val (fun w _ => run_nse _ _ _ rfl) ?_; go_big_quiet_on) | (refine quiet_is (.binOp .neq _ _ (.const (.slice none _ _)) _) rfl ?_; refine quiet_val (fun w _ => run_nsn _ _ _ rfl) ?_; go_big_quiet_on) | (refine quiet_is (.call { callee := .builtin .len, args := #[_], argTypes := #[_] }) rfl ?_; refine quiet_val (fun w _ => run_lenv _ _ rfl) ?_; go_big_quiet_on) | (refine quiet_is (.indexAddr _ _ _) rfl ?_; refine quiet_val (fun w _ => run_idxv _ _ _ rfl) ?_; go_big_quiet_on) | (refine quiet_is (.binOp .eql _ _ _ _) rfl ?_; refine quiet_val (fun w _ => run_aeq _ _ _ _ rfl) ?_; go_big_quiet_on) | (refine quiet_is (.binOp .neq _ _ _ _) rfl ?_; refine quiet_val (fun w _ => run_ane _ _ _ _ rfl) ?_; go_big_quiet_on) | (go_big_quiet_op; go_big_quiet_on)))); refine wpQuiet_nil ?_; clear hS hne; intro w hS))
      exact hR _ hS.pick
set_option maxRecDepth 100000 in
theorem con_pos {v : Value} {l : List Int} (hO : St w0 bs w (Ev ++ H1)) (hA : IS v l Ev) (hl : l.length ≤ 1000) (b : Bool) (hb : l.any posB = b)
    (hR : ∀ w', St w0 bs w' (Ev ++ H1) → Ret R (.bool b) w') : Calls Try.prog 31 #[v, .func (.func 32) #[] #[]] w R := by
  have hS := hO
  clear hO
  have hone := hA.one
  rw [← idxI_any] at hb
  obtain ⟨i, hi⟩ : ∃ i, idxI posB l = i := ⟨_, rfl⟩
  rw [hi] at hb
  have hi' := Lib.hid hi
  clear hi
  go_enter Try.func31, Try.ntmps31
  go_wp2_with (first | go_skip | (go_at_call 57; refine idx_pos hS hA hl ?_; clear hS; intro w hS; rw [hi'.out]; unfold Ret) | go_skip | (refine wpList_is (.build _ _) rfl ?_; go_must (refine wpList_stp (by kernel_rfl) (stp_val (run_bd _ _ rfl) ?_))) | (refine wpList_is (.call { callee := .builtin .clear, args := #[_], argTypes := #[_] }) rfl ?_; go_must (refine wpList_stp (by kernel_rfl) (stp_cl _ _ rfl hS (by decide) ?_)); clear hS; intro w hS) | (refine wpList_is (.load _ _) rfl ?_; go_must (first | refine wpList_stp (by kernel_rfl) (stp_val (run_ld _ _ rfl hS) ?_) | refine wpList_stp (by kernel_rfl) (stp_val (run_lda _ _ rfl hS) ?_) | refine wpList_stp (by kernel_rfl) (stp_val (run_ld0 _ _ rfl hS) ?_) | refine wpList_stp (by kernel_rfl) (stp_val (run_lda0 _ _ rfl hS) ?_))) | (refine wpList_is (.store _ _ _) rfl ?_; go_must (first | refine wpList_stp (by kernel_rfl) (stp_st _ _ _ rfl hS ?_) | refine wpList_stp (by kernel_rfl) (stp_sta _ _ _ rfl hS ?_)); clear hS; intro w hS) | (refine wpList_is (.alloc _) rfl ?_; go_must (refine wpList_stp (by kernel_rfl) (stp_al _ rfl hS ?_)); clear hS; intro bN w hbN hS) | (refine wpList_is (.box _ _) rfl ?_; go_must (refine wpList_stp (by kernel_rfl) (stp_bx _ _ rfl hS ?_)); clear hS; intro bN w hbN hS) | (refine wpList_is (.binOp .eql _ _ (.const (.slice none _ _)) _) rfl ?_; refine wpList_stp (by kernel_rfl) (stp_val (run_nse _ _ _ rfl) ?_)) | (refine wpList_is (.binOp .neq _ _ (.const (.slice none _ _)) _) rfl ?_; refine wpList_stp (by kernel_rfl) (stp_val (run_nsn _ _ _ rfl) ?_)))
  try subst hb
  exact hR _ hS.pick


/-! ### Paints of which one slot is grey, full stacks -/
def Z1 : List Int := Col.zerosL.set 0 1
theorem Z1_0 : Z1.getD 0 0 = 1 := by decide +kernel
theorem Z1_get {i : Nat} (h : 0 < i) : Z1.getD i 0 = 0 := by
  have : Z1.getD i 0 = if i = 0 then 1 else Col.zerosL.getD i 0 := by
    rw [Z1, List.getD_eq_getElem?_getD, List.getD_eq_getElem?_getD, List.getElem?_set]
    by_cases e : i = 0
    · omega
    · rw [if_neg (fun e' => e e'.symm), if_neg e]
  rw [this, if_neg (by omega), Col.zerosL, List.getD_eq_getElem?_getD, List.getElem?_replicate]
  split <;> rfl
def G1 (m : Nat) : Cq := some (some (m, Z1))
def U1 : Sq := some (some (1, false, [0]))
variable {m : Nat} {L : List Hs}
theorem nwC_m (h : 1 ≤ m ∧ m ≤ 40) : nwC (m : Int) = some (some (m, Col.zerosL)) := by
  rw [nwC, if_pos (by omega), Int.toNat_natCast]
theorem z_sk (h : 1 ≤ m ∧ m ≤ 40) : skT (some (some (m, Col.zerosL))) (nwS 1) 0 = G1 m ∧ skS (some (some (m, Col.zerosL))) (nwS 1) 0 = U1 ∧ skB (some (some (m, Col.zerosL))) (nwS 1) 0 = true ∧ skE (some (some (m, Col.zerosL))) (nwS 1) 0 = 0 := by
  have hc : (0 : Int) ≤ 0 ∧ (0 : Int) < (m : Int) := by omega
  have hz : Col.zerosL.getD (0 : Int).toNat 0 = 0 := by decide +kernel
  have hb : shB (some (some (m, Col.zerosL))) 0 = true := by simp only [shB, if_pos hc, hz]; rfl
  have hv : vlE (some (some (m, Col.zerosL))) (nwS 1) = true := rfl
  refine ⟨?_, ?_, ?_, ?_⟩
  · rw [skT, if_pos hv]; simp only [shC, if_pos hc, Col.shadeL, if_pos hz]; rfl
  · rw [skS, hv, hb]; rfl
  · rw [skB, hv, hb]; rfl
  · rw [skE, if_pos hv, if_pos hb]; rfl
theorem g_vl : vlE (G1 m) U1 = true := rfl
theorem g_of0 (h : 1 ≤ m) : ofE (G1 m) 0 = 0 ∧ ofR (G1 m) 0 = 1 := by
  have hc : (0 : Int) ≤ 0 ∧ (0 : Int) < (m : Int) := by omega
  refine ⟨by simp only [G1, ofE, if_pos hc], ?_⟩
  simp only [G1, ofR, if_pos hc]
  exact Z1_0
theorem g_of {s : Int} (h : ¬ (0 ≤ s ∧ s < (m : Int))) : ofE (G1 m) s = 3 := by simp only [G1, ofE, if_neg h]
theorem g_ofk {i : Nat} (h0 : 0 < i) (h : i < m) : ofE (G1 m) i = 0 ∧ ofR (G1 m) i = 0 := by
  have hc : (0 : Int) ≤ (i : Int) ∧ (i : Int) < (m : Int) := by omega
  refine ⟨by simp only [G1, ofE, if_pos hc], ?_⟩
  simp only [G1, ofR, if_pos hc, Int.toNat_natCast]
  exact Z1_get h0
/-- A slot beyond the paint is not shaded. -/
theorem g_sh {s : Int} (h : ¬ (0 ≤ s ∧ s < (m : Int))) : skT (G1 m) U1 s = G1 m ∧ skS (G1 m) U1 s = U1 ∧ skB (G1 m) U1 s = false ∧ skE (G1 m) U1 s = 3 := by
  have hb : shB (G1 m) s = false := by simp only [G1, shB, if_neg h]
  refine ⟨?_, ?_, ?_, ?_⟩
  · rw [skT, if_pos g_vl]; simp only [G1, shC, if_neg h]
  · rw [skS, g_vl, hb]; rfl
  · rw [skB, g_vl, hb]; rfl
  · rw [skE, if_pos g_vl, hb, if_neg (by decide)]; exact g_of h
theorem g_grey {f : Int} (h : 1 ≤ m) (hf : f ≤ 0) : rsS (G1 m) U1 f = U1 ∧ rsI (G1 m) U1 f = 0 ∧ rsB (G1 m) U1 f = false ∧ rsE (G1 m) U1 f = 4 := by
  have e : Col.firstOf (Col.isGrey Z1 f) m = some 0 := by
    obtain ⟨k, rfl⟩ : ∃ k, m = k + 1 := ⟨m - 1, by omega⟩
    rw [Col.firstOf, List.range_succ_eq_map, List.find?_cons_of_pos]
    simp only [Col.isGrey, Z1_0, Bool.and_eq_true, decide_eq_true_eq, beq_iff_eq]
    exact ⟨hf, trivial⟩
  have hg : gyB (G1 m) f = true := by simp only [G1, gyB, e]; rfl
  have hi : gyI (G1 m) f = 0 := by simp only [G1, gyI, e]; rfl
  have hp : puB U1 0 = false := by decide
  have hb : rsB (G1 m) U1 f = false := by rw [rsB, hi, hp, Bool.and_false, Bool.and_false]
  refine ⟨?_, ?_, hb, ?_⟩
  · rw [rsS, hb]; rfl
  · rw [rsI, hb]; rfl
  · rw [rsE, if_pos g_vl, if_pos hg, hi, hp]; rfl
theorem g_none : rsS (G1 m) U1 1 = U1 ∧ rsI (G1 m) U1 1 = 0 ∧ rsB (G1 m) U1 1 = false ∧ rsE (G1 m) U1 1 = 0 := by
  have e : Col.firstOf (Col.isGrey Z1 1) m = none := by
    rw [Col.firstOf, List.find?_eq_none]
    intro i _
    by_cases h0 : 0 < i
    · simp only [Col.isGrey, Z1_get h0]; simp
    · obtain rfl : i = 0 := by omega
      simp [Col.isGrey]
  have hg : gyB (G1 m) 1 = false := by simp only [G1, gyB, e]; rfl
  have hb : rsB (G1 m) U1 1 = false := by rw [rsB, hg]; rfl
  refine ⟨?_, ?_, hb, ?_⟩
  · rw [rsS, hb]; rfl
  · rw [rsI, hb]; rfl
  · rw [rsE, if_pos g_vl, hg]; rfl
/-- A scan that is refused. -/
theorem sc_refused {Hh : Hp} {T : Cq} {S : Sq} {s g : Int} (h : scG Hh T S s g = false) : scT Hh T S s g = T ∧ scS Hh T S s g = S ∧ scN Hh T S s g = 0 := by
  simp only [scT, scS, scN, h]; exact ⟨rfl, rfl, rfl⟩
theorem sc_e1 {T : Cq} {S : Sq} {s g e : Int} (hv : vlE T S = true) (hw : wiH (some (some L)) s g = e) (h0 : e ≠ 0) : scG (some (some L)) T S s g = false ∧ scE (some (some L)) T S s g = e := by
  have hs : scV (some (some L)) T S = true := by rw [scV, hv]; rfl
  refine ⟨?_, ?_⟩
  · rw [scG, hs, hw, decide_eq_false h0]; rfl
  · rw [scE, if_pos hs, hw, if_neg h0]
theorem sc_e2 {T : Cq} {S : Sq} {s g : Int} (hv : vlE T S = true) (hw : wiH (some (some L)) s g = 0) (hy : scY (some (some L)) T s g = true) : scG (some (some L)) T S s g = false ∧ scE (some (some L)) T S s g = 3 := by
  have hs : scV (some (some L)) T S = true := by rw [scV, hv]; rfl
  refine ⟨?_, ?_⟩
  · rw [scG, hs, hw, hy]; rfl
  · rw [scE, if_pos hs, if_pos hw, hy]; rfl
theorem sc_e3 {T : Cq} {S : Sq} {s g : Int} (hv : vlE T S = true) (hw : wiH (some (some L)) s g = 0) (hy : scY (some (some L)) T s g = false) (hr : ofR T s ≠ 1) : scG (some (some L)) T S s g = false ∧ scE (some (some L)) T S s g = 8 := by
  have hs : scV (some (some L)) T S = true := by rw [scV, hv]; rfl
  refine ⟨?_, ?_⟩
  · rw [scG, hs, hw, hy, decide_eq_false hr]; rfl
  · rw [scE, if_pos hs, if_pos hw, hy, if_neg (by decide), if_neg hr]
/-- No object of the graph has children beyond the paint of its size. -/
theorem Gr.near (h : Gr m L) {i : Nat} (hi : i < m) (n : Nat) (hn : m ≤ n) (Lp : List Int) : scY (some (some L)) (some (some (n, Lp))) i 1 = false := by
  obtain ⟨h1, h2, _⟩ := h.kids hi
  have e : ∀ j : Nat, j < m → bnd (some (some (n, Lp))) j = false := fun j hj => by
    have hc : (0 : Int) ≤ (j : Int) ∧ (j : Int) < (n : Int) := by omega
    simp only [bnd, ofE, if_pos hc]; rfl
  rw [scY, e i hi, Bool.false_or, h1, List.any_eq_false]
  intro c hc
  obtain ⟨j, hj, rfl⟩ := List.mem_map.1 hc
  rw [e j (h2 j hj)]; decide
theorem last_state (h : Gr m L) (hm : 2 ≤ m) : scG (some (some L)) (G1 m) U1 ((m - 1 : Nat) : Int) 1 = false ∧ scE (some (some L)) (G1 m) U1 ((m - 1 : Nat) : Int) 1 = 8 :=
  sc_e3 g_vl (h.is (by omega)) (h.near (by omega) m (Nat.le_refl m) Z1) (by rw [(g_ofk (m := m) (i := m - 1) (by omega) (by omega)).2]; decide)
theorem small_kids (h : Gr m L) (hm : 1 ≤ m) : (chdR (some (some L)) 0 1).any (bnd (G1 1)) = (chdR (some (some L)) 0 1).any posB := by
  obtain ⟨h1, h2, _⟩ := h.kids (i := 0) (by omega)
  have h1 : chdR (some (some L)) 0 1 = (kid L 0).map (fun j : Nat => (j : Int)) := h1
  rw [h1, List.any_map, List.any_map]
  congr 1
  funext j
  simp only [Function.comp]
  by_cases hj : j = 0
  · subst hj
    have := (g_of0 (m := 1) (Nat.le_refl 1)).1
    simp only [bnd, posB]
    rw [show ((0 : Nat) : Int) = 0 from rfl, this]; rfl
  · have := g_of (m := 1) (s := (j : Int)) (by omega)
    simp only [bnd, posB, this]
    rw [decide_eq_true (show (0 : Int) < (j : Int) by omega)]; rfl
theorem small_scan (h : Gr m L) (hm : 1 ≤ m) (hy : (chdR (some (some L)) 0 1).any posB = true) : scG (some (some L)) (G1 1) U1 0 1 = false ∧ scE (some (some L)) (G1 1) U1 0 1 = 3 :=
  sc_e2 g_vl (h.is (i := 0) (by omega)) (by rw [scY, small_kids h hm, hy, Bool.or_true])
theorem chS_small (h : Gr m L) : ∀ (ks : List Nat) (b : Bool), ∃ b' e, chS (G1 1) 1 b (ks.map (fun j : Nat => (j : Int))) = (b', e) ∧ (e = 0 ∨ e = 3) ∧ ((∀ j ∈ ks, j = 0) → e = 0)
  | [], b => ⟨b, 0, rfl, .inl rfl, fun _ => rfl⟩
  | j :: ks, b => by
    simp only [List.map_cons, chS]
    by_cases hj : j = 0
    · subst hj
      rw [if_pos (show ofE (G1 1) ((0 : Nat) : Int) = 0 from (g_of0 (m := 1) (Nat.le_refl 1)).1)]
      obtain ⟨b', e, h1, h2, h3⟩ := chS_small h ks (b && (decide ((1 : Int) ≠ 2) || decide (ofR (G1 1) ((0 : Nat) : Int) ≠ 0)))
      exact ⟨b', e, h1, h2, fun hh => h3 (fun j hj => hh j (.tail _ hj))⟩
    · have e3 := g_of (m := 1) (s := (j : Int)) (by omega)
      rw [e3, if_neg (by decide)]
      exact ⟨false, 3, rfl, .inr rfl, fun hh => absurd (hh j (.head _)) hj⟩
theorem small_sound (h : Gr m L) (hm : 1 ≤ m) : ∃ b, soR (some (some L)) (G1 1) = (b, if 1 < m then 3 else 0) := by
  have hs : soR (some (some L)) (G1 1) = soF (some (some L)) (G1 1) true (nmS m) := by rw [soR, ← h.all]; rfl
  obtain ⟨h1, h2, _⟩ := h.kids (i := 0) (by omega)
  have h1 : chdR (some (some L)) 0 1 = (kid L 0).map (fun j : Nat => (j : Int)) := h1
  have hw : wiH (some (some L)) 0 1 = 0 := h.is (i := 0) (by omega)
  obtain ⟨o1, o2⟩ := g_of0 (m := 1) (Nat.le_refl 1)
  obtain ⟨b', e, c1, c2, c3⟩ := chS_small h (kid L 0) true
  rw [hs]
  by_cases h1m : 1 < m
  · obtain ⟨l, hl⟩ : ∃ l, nmS m = (0, 1) :: (1, 1) :: l := by
      obtain ⟨k, rfl⟩ : ∃ k, m = k + 2 := ⟨m - 2, by omega⟩
      refine ⟨((List.range k).map (fun i : Nat => (((i + 1 + 1 : Nat) : Int), (1 : Int)))), ?_⟩
      rw [nmS, List.range_succ_eq_map, List.range_succ_eq_map]
      simp [Function.comp]
    rw [hl, if_pos h1m]
    simp only [soF, o1, hw, o2, h1, c1, if_true]
    rcases c2 with rfl | rfl
    · rw [if_pos rfl, g_of (m := 1) (s := 1) (by omega), if_neg (by decide)]
      exact ⟨_, rfl⟩
    · rw [if_neg (by decide)]
      have hb : b' = false := by
        have : ∀ (ks : List Nat) (b b' : Bool), chS (G1 1) 1 b (ks.map (fun j : Nat => (j : Int))) = (b', 3) → b' = false := by
          intro ks
          induction ks with
          | nil => intro b b' hh; simp [chS] at hh
          | cons j ks ih =>
            intro b b' hh
            simp only [List.map_cons, chS] at hh
            split at hh
            · exact ih _ _ hh
            · exact (Prod.mk.inj hh).1.symm
        exact this _ _ _ c1
      exact ⟨_, rfl⟩
  · obtain rfl : m = 1 := by omega
    have e0 : e = 0 := c3 (fun j hj => by have := h2 j hj; omega)
    subst e0
    rw [show nmS 1 = [(0, 1)] from rfl, if_neg h1m]
    simp only [soF, o1, hw, o2, h1, c1, if_true]
    exact ⟨_, rfl⟩
theorem u_end : ppT U1 = some (some (1, false, [])) ∧ ppR U1 = 0 ∧ ppB U1 = true := ⟨rfl, rfl, rfl⟩
theorem pn_counts {p : Option Addr} {n : Nat} {L : List Int} (hO : St w0 bs w H) (hT : KA p (some (some (n, L))) E) [hc : Cut H E H1] (x y z : Nat) (hx : Col.cnt 0 L n = x) (hy : Col.cnt 1 L n = y) (hz : Col.cnt 2 L n = z)
    (hR : ∀ w', St w0 bs w' (E ++ H1) → Ret R (.tuple #[.int .i64 x, .int .i64 y, .int .i64 z]) w') : Calls Try.prog 33 #[.pointer p] w R := by
  have hS := hO.front (E := E) (H1 := H1)
  clear hO
  obtain ⟨h1, h2, h3, h4, b, rfl, rfl⟩ := hT
  exact Col.counts_eq (n := (n : Int)) (L := L) hS (by omega) (by omega) h3 h4 x y z (by rw [Int.toNat_natCast]; exact hx) (by rw [Int.toNat_natCast]; exact hy) (by rw [Int.toNat_natCast]; exact hz) hR
theorem Z1_len : Z1.length = 256 := by decide +kernel
theorem g_cnt : ∀ {m : Nat}, 1 ≤ m → m ≤ 40 → Col.cnt 0 Z1 m = m - 1 ∧ Col.cnt 1 Z1 m = 1 ∧ Col.cnt 2 Z1 m = 0
  | 1, _, _ => by decide +kernel
  | k + 2, _, h => by
    obtain ⟨a, b, c⟩ := g_cnt (m := k + 1) (by omega) (by omega)
    have hl : k + 1 < Z1.length := by rw [Z1_len]; omega
    refine ⟨?_, ?_, ?_⟩
    · rw [Col.cnt_succ _ _ _ hl, a, Z1_get (by omega)]; simp
    · rw [Col.cnt_succ _ _ _ hl, b, Z1_get (by omega)]; simp
    · rw [Col.cnt_succ _ _ _ hl, c, Z1_get (by omega)]; simp
end Go.Proofs.Ytgpjanfphgjbbaa
