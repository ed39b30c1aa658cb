/-
  The walk of SlotsKnown.
-/
import Derived.Test.YtoihgmijogeilaaHas
namespace Go.Proofs.Ytoihgmijogeilaa
open Go.RowKit Go.Mm
variable {R : Ending → World → Prop}

def known (k : Nat) : List (Int × Int) := List.replicate k (1, 1) ++ List.replicate (256 - k) (0, 1)
theorem known_take {k : Nat} (h : k < 256) : tkT (some (known k)) = some (known (k + 1)) ∧ tkS (some (known k)) = k ∧ tkG (some (known k)) = 1 ∧ tkE (some (known k)) = 0 := by
  have hl : (known k).length = 256 := by simp [known]; omega
  have hx : (known k).getD k (0, 0) = (0, 1) := by
    rw [List.getD_eq_getElem?_getD, known, List.getElem?_append_right (by simp), List.length_replicate, Nat.sub_self, List.getElem?_replicate, if_pos (by omega)]; rfl
  have hf : firstOf (isSt 0 (known k)) (known k).length = some k := by
    refine first_at (by omega) (fun j hj => ?_) (by unfold isSt; rw [hx]; rfl)
    unfold isSt
    rw [List.getD_eq_getElem?_getD, known, List.getElem?_append_left (by simpa using hj), List.getElem?_replicate, if_pos hj]
    rfl
  obtain ⟨e1, e2, e3, e4, _⟩ := tk_some hf
  refine ⟨?_, e2, by rw [e3, hx], e1⟩
  rw [tkT, e4, hx]
  congr 1
  unfold known
  rw [List.set_append_right _ _ (by simp), List.length_replicate, Nat.sub_self, show 256 - k = (256 - (k + 1)) + 1 by omega, List.replicate_succ, List.set_cons_zero, List.replicate_succ' (n := k)]
  simp

theorem gen_eq {w0 w : World} {bs : List Nat} {H H1 E : List Ent} {p : Option Addr} {T : Tb} (s g e : Int) (hO : St w0 bs w H) (hT : TA p T E) [hc : Cut H E H1] (h1 : gnG T s = g) (h2 : gnE T s = e)
    (hR : ∀ w', TA p T E → St w0 bs w' (E ++ H1) → Ret R (.tuple #[.int .u32 g, .int .i64 e]) w') : Calls Try.prog 18 #[.pointer p, .int .i64 s] w R := by
  subst h1 h2; exact sl_gen hO hT s hR

set_option maxHeartbeats 4000000 in
set_option maxRecDepth 100000 in
theorem walk_known {W : World} (hR : ∀ w', Chg W w' [] → Ret R (.bool true) w') : Calls Try.prog 5 #[] W R := by
  have hS : St W [] W [] := St.start0
  have k0 : nwT 256 1 = some (known 0) := by rfl
  have k0' := Lib.hid k0
  clear k0
  go_enter Try.func5, Try.ntmps5
  go_wp2_with (first
    | (go_at_call 16; (with_reducible refine sl_new hS 0 1 (by decide) ?_); clear hS; intro p0 E0 w hT0 hS; have e0 : nwE 0 1 = 2 := (by rfl); rw [e0]; clear e0; unfold Ret)
    | (go_at_call 16; (with_reducible refine sl_new hS 257 1 (by decide) ?_); clear hS; intro p1 E1 w hT1 hS; have e0 : nwE 257 1 = 2 := (by rfl); rw [e0]; clear e0; unfold Ret)
    | (go_at_call 16; (with_reducible refine sl_new hS 1 0 (by decide) ?_); clear hS; intro p2 E2 w hT2 hS; have e0 : nwE 1 0 = 2 := (by rfl); rw [e0]; clear e0; unfold Ret)
    | (go_at_call 16; (with_reducible refine sl_new hS 256 1 (by decide) ?_); clear hS; intro p E3 w hT hS; have e0 : nwE 256 1 = 0 := (by rfl); rw [e0]; rw [k0'.out] at hT; have hpn := hT.nil; clear e0; unfold Ret)
    | (refine wpList_is (.build _ _) rfl ?_; go_must (refine wpList_stp rfl (stp_val (run_bd _ _ rfl) ?_))) | (refine wpList_is (.call { callee := .builtin .clear, args := #[_], argTypes := #[_] }) rfl ?_; go_must (refine wpList_stp rfl (stp_cl _ _ rfl hS (by decide) ?_)); clear hS; intro w hS) | (refine wpList_is (.load _ _) rfl ?_; go_must (first | refine wpList_stp rfl (stp_val (run_ld _ _ rfl hS) ?_) | refine wpList_stp rfl (stp_val (run_lda _ _ rfl hS) ?_) | refine wpList_stp rfl (stp_val (run_ld0 _ _ rfl hS) ?_) | refine wpList_stp rfl (stp_val (run_lda0 _ _ rfl hS) ?_))) | (refine wpList_is (.store _ _ _) rfl ?_; go_must (first | refine wpList_stp rfl (stp_st _ _ _ rfl hS ?_) | refine wpList_stp rfl (stp_sta _ _ _ rfl hS ?_)); clear hS; intro w hS) | (refine wpList_is (.alloc _) rfl ?_; go_must (refine wpList_stp rfl (stp_al _ rfl hS ?_)); clear hS; intro bN w hbN hS) | (refine wpList_is (.box _ _) rfl ?_; go_must (refine wpList_stp rfl (stp_bx _ _ rfl hS ?_)); clear hS; intro bN w hbN hS) | (refine wpList_is (.binOp .eql _ _ (.const (.slice none _ _)) _) rfl ?_; refine wpList_stp rfl (stp_val (run_nse _ _ _ rfl) ?_)) | (refine wpList_is (.binOp .neq _ _ (.const (.slice none _ _)) _) rfl ?_; refine wpList_stp rfl (stp_val (run_nsn _ _ _ rfl) ?_)) | (refine region_quiet hS (by kernel_rfl) (by kernel_rfl) (fun hne => ?_); (repeat (first | go_big_quiet_skip | (go_big_quiet_want; first | (refine quiet_is (.load _ _) rfl ?_; go_must (first | refine quiet_at sw_st (fun w hS => run_ld _ _ rfl hS) ?_ | refine quiet_at sw_st (fun w hS => run_lda _ _ rfl hS) ?_ | refine quiet_at sw_st (fun w hS => run_ld0 _ _ rfl hS) ?_ | refine quiet_at sw_st (fun w hS => run_lda0 _ _ rfl hS) ?_); go_big_quiet_on) | (refine quiet_is (.binOp .eql _ _ (.const (.slice none _ _)) _) rfl ?_; refine quiet_val (fun w _ => run_nse _ _ _ rfl) ?_; go_big_quiet_on) | (refine quiet_is (.binOp .neq _ _ (.const (.slice none _ _)) _) rfl ?_; refine quiet_val (fun w _ => run_nsn _ _ _ rfl) ?_; go_big_quiet_on) | (refine quiet_is (.call { callee := .builtin .len, args := #[_], argTypes := #[_] }) rfl ?_; refine quiet_val (fun w _ => run_lenv _ _ rfl) ?_; go_big_quiet_on) | (refine quiet_is (.indexAddr _ _ _) rfl ?_; refine quiet_val (fun w _ => run_idxv _ _ _ rfl) ?_; go_big_quiet_on) | (refine quiet_is (.binOp .eql _ _ _ _) rfl ?_; refine quiet_val (fun w _ => run_aeq _ _ _ _ rfl) ?_; go_big_quiet_on) | (refine quiet_is (.binOp .neq _ _ _ _) rfl ?_; refine quiet_val (fun w _ => run_ane _ _ _ _ rfl) ?_; go_big_quiet_on) | (go_big_quiet_op; go_big_quiet_on)))); refine wpQuiet_nil ?_; clear hS hne; intro w hS))
  clear hT0 hT1 hT2 hpn k0'
  go_loopw [9, 10, 11] (fun u _ _ wr => ∃ (k : Nat) (E3 : List Ent), k ≤ 256 ∧ u = .int .i64 k ∧ TA p (some (known k)) E3 ∧ St W [] wr E3) (fun u _ _ _ => 256 - (intOf u).toNat)
  case atStart => exact ⟨0, E3, Nat.zero_le _, rfl, hT, hS.pick⟩
  case round =>
    clear hS hT
    obtain ⟨k, E3, hk, rfl, hT, hS⟩ := hrel
    by_cases hlt : k < 256
    · obtain ⟨t1, t2, t3, t4⟩ := known_take hlt
      have t1' := Lib.hid t1
      have t2' := Lib.hid t2
      have t3' := Lib.hid t3
      have t4' := Lib.hid t4
      have q := refE (refB_self (k : Int) 1)
      clear t1 t2 t3 t4
      go_wp2_with (first | (go_at_call 17; refine take_eq _ _ _ _ hS hT t1'.out t2'.out t3'.out t4'.out ?_; clear hS hT; intro E3 w hT hS; unfold Ret) | (refine wpList_is (.build _ _) rfl ?_; go_must (refine wpList_stp rfl (stp_val (run_bd _ _ rfl) ?_))) | (refine wpList_is (.call { callee := .builtin .clear, args := #[_], argTypes := #[_] }) rfl ?_; go_must (refine wpList_stp rfl (stp_cl _ _ rfl hS (by decide) ?_)); clear hS; intro w hS) | (refine wpList_is (.load _ _) rfl ?_; go_must (first | refine wpList_stp rfl (stp_val (run_ld _ _ rfl hS) ?_) | refine wpList_stp rfl (stp_val (run_lda _ _ rfl hS) ?_) | refine wpList_stp rfl (stp_val (run_ld0 _ _ rfl hS) ?_) | refine wpList_stp rfl (stp_val (run_lda0 _ _ rfl hS) ?_))) | (refine wpList_is (.store _ _ _) rfl ?_; go_must (first | refine wpList_stp rfl (stp_st _ _ _ rfl hS ?_) | refine wpList_stp rfl (stp_sta _ _ _ rfl hS ?_)); clear hS; intro w hS) | (refine wpList_is (.alloc _) rfl ?_; go_must (refine wpList_stp rfl (stp_al _ rfl hS ?_)); clear hS; intro bN w hbN hS) | (refine wpList_is (.box _ _) rfl ?_; go_must (refine wpList_stp rfl (stp_bx _ _ rfl hS ?_)); clear hS; intro bN w hbN hS) | (refine wpList_is (.binOp .eql _ _ (.const (.slice none _ _)) _) rfl ?_; refine wpList_stp rfl (stp_val (run_nse _ _ _ rfl) ?_)) | (refine wpList_is (.binOp .neq _ _ (.const (.slice none _ _)) _) rfl ?_; refine wpList_stp rfl (stp_val (run_nsn _ _ _ rfl) ?_)) | (refine region_quiet hS (by kernel_rfl) (by kernel_rfl) (fun hne => ?_); (repeat (first | go_big_quiet_skip | (go_big_quiet_want; first | (refine quiet_is (.load _ _) rfl ?_; go_must (first | refine quiet_at sw_st (fun w hS => run_ld _ _ rfl hS) ?_ | refine quiet_at sw_st (fun w hS => run_lda _ _ rfl hS) ?_ | refine quiet_at sw_st (fun w hS => run_ld0 _ _ rfl hS) ?_ | refine quiet_at sw_st (fun w hS => run_lda0 _ _ rfl hS) ?_); go_big_quiet_on) | (refine quiet_is (.binOp .eql _ _ (.const (.slice none _ _)) _) rfl ?_; refine quiet_val (fun w _ => run_nse _ _ _ rfl) ?_; go_big_quiet_on) | (refine quiet_is (.binOp .neq _ _ (.const (.slice none _ _)) _) rfl ?_; refine quiet_val (fun w _ => run_nsn _ _ _ rfl) ?_; go_big_quiet_on) | (refine quiet_is (.call { callee := .builtin .len, args := #[_], argTypes := #[_] }) rfl ?_; refine quiet_val (fun w _ => run_lenv _ _ rfl) ?_; go_big_quiet_on) | (refine quiet_is (.indexAddr _ _ _) rfl ?_; refine quiet_val (fun w _ => run_idxv _ _ _ rfl) ?_; go_big_quiet_on) | (refine quiet_is (.binOp .eql _ _ _ _) rfl ?_; refine quiet_val (fun w _ => run_aeq _ _ _ _ rfl) ?_; go_big_quiet_on) | (refine quiet_is (.binOp .neq _ _ _ _) rfl ?_; refine quiet_val (fun w _ => run_ane _ _ _ _ rfl) ?_; go_big_quiet_on) | (go_big_quiet_op; go_big_quiet_on)))); refine wpQuiet_nil ?_; clear hS hne; intro w hS))
      go_roundw
      case rel => exact ⟨k + 1, E3, by omega, by go_num, hT, hS.pick⟩
      case measure => simp [intOf]; omega
    · obtain rfl : k = 256 := by omega
      have e1 : tkE (some (known 256)) = 4 ∧ tkS (some (known 256)) = 0 ∧ tkG (some (known 256)) = 0 ∧ tkT (some (known 256)) = some (known 256) := by decide +kernel
      have e2 : gnG (some (known 256)) 256 = 0 ∧ gnE (some (known 256)) 256 = 3 ∧ gnG (some (known 256)) (-1) = 0 ∧ gnE (some (known 256)) (-1) = 3 ∧ ckE (some (known 256)) 256 1 = 3 ∧ ckE (some (known 256)) 5 0 = 7 := by decide +kernel
      obtain ⟨f1, f2, f3, f4, f5, f6⟩ := e2
      obtain ⟨e1, e2, e3, e4⟩ := e1
      have f7 : gvT (some (known 256)) 256 1 = some (known 256) := congrArg some (gvN_no (by rw [f5]; decide))
      have f8 : gvT (some (known 256)) 5 0 = some (known 256) := congrArg some (gvN_no (by rw [f6]; decide))
      have u0 : nwT 1 4294967295 = some [(0, 4294967295)] := by rfl
      have e1 := Lib.hid e1
      have e2 := Lib.hid e2
      have e3 := Lib.hid e3
      have e4 := Lib.hid e4
      have f1 := Lib.hid f1
      have f2 := Lib.hid f2
      have f3 := Lib.hid f3
      have f4 := Lib.hid f4
      have f5 := Lib.hid f5
      have f6 := Lib.hid f6
      have f7 := Lib.hid f7
      have f8 := Lib.hid f8
      have u0 := Lib.hid u0
      clear hlt hk
      go_wp2_with (first
        | (go_at_call 17; (with_reducible refine take_eq _ _ _ _ hS hT e4.out e2.out e3.out e1.out ?_); clear hS hT; intro E3 w hT hS; unfold Ret)
        | (go_at_call 18; (with_reducible refine gen_eq 256 0 3 hS hT f1.out f2.out ?_); clear hS; intro w _ hS; unfold Ret)
        | (go_at_call 18; (with_reducible refine gen_eq (-1) 0 3 hS hT f3.out f4.out ?_); clear hS; intro w _ hS; unfold Ret)
        | (go_at_call 16; (with_reducible refine sl_new hS 1 4294967295 (by decide) ?_); clear hS; intro q E4 w hU hS; have e0 : nwE 1 4294967295 = 0 := (by rfl); rw [e0]; rw [u0.out] at hU; clear e0; unfold Ret)
        | (go_at_call 17; (with_reducible refine take_eq (some [(1, 4294967295)]) 0 4294967295 0 hS hU (by decide) (by decide) (by decide) (by decide) ?_); clear hS hU; intro E4 w hU hS; unfold Ret)
        | (go_at_call 15; (with_reducible refine give_eq (some [(2, 4294967295)]) 0 4294967295 0 hS hU (by decide) (by decide) ?_); clear hS hU; intro E4 w hU hS; unfold Ret)
        | (go_at_call 19; (with_reducible refine retired_eq 1 hS hU (by decide) ?_); clear hS; intro w _ hS; unfold Ret)
        | (go_at_call 14; (with_reducible refine check_eq 0 4294967295 7 hS hU (by decide) ?_); clear hS; intro w _ hS; unfold Ret)
        | (go_at_call 15; (with_reducible refine give_eq _ 256 1 3 hS hT f7.out f5.out ?_); clear hS hT; intro E3 w hT hS; unfold Ret)
        | (go_at_call 15; (with_reducible refine give_eq _ 5 0 7 hS hT f8.out f6.out ?_); clear hS hT; intro E3 w hT hS; unfold Ret)
        | (go_at_call 11; refine works_ok hS ?_; clear hS; intro w hS; unfold Ret) | (refine wpList_is (.build _ _) rfl ?_; go_must (refine wpList_stp rfl (stp_val (run_bd _ _ rfl) ?_))) | (refine wpList_is (.call { callee := .builtin .clear, args := #[_], argTypes := #[_] }) rfl ?_; go_must (refine wpList_stp rfl (stp_cl _ _ rfl hS (by decide) ?_)); clear hS; intro w hS) | (refine wpList_is (.load _ _) rfl ?_; go_must (first | refine wpList_stp rfl (stp_val (run_ld _ _ rfl hS) ?_) | refine wpList_stp rfl (stp_val (run_lda _ _ rfl hS) ?_) | refine wpList_stp rfl (stp_val (run_ld0 _ _ rfl hS) ?_) | refine wpList_stp rfl (stp_val (run_lda0 _ _ rfl hS) ?_))) | (refine wpList_is (.store _ _ _) rfl ?_; go_must (first | refine wpList_stp rfl (stp_st _ _ _ rfl hS ?_) | refine wpList_stp rfl (stp_sta _ _ _ rfl hS ?_)); clear hS; intro w hS) | (refine wpList_is (.alloc _) rfl ?_; go_must (refine wpList_stp rfl (stp_al _ rfl hS ?_)); clear hS; intro bN w hbN hS) | (refine wpList_is (.box _ _) rfl ?_; go_must (refine wpList_stp rfl (stp_bx _ _ rfl hS ?_)); clear hS; intro bN w hbN hS) | (refine wpList_is (.binOp .eql _ _ (.const (.slice none _ _)) _) rfl ?_; refine wpList_stp rfl (stp_val (run_nse _ _ _ rfl) ?_)) | (refine wpList_is (.binOp .neq _ _ (.const (.slice none _ _)) _) rfl ?_; refine wpList_stp rfl (stp_val (run_nsn _ _ _ rfl) ?_)) | (refine region_quiet hS (by kernel_rfl) (by kernel_rfl) (fun hne => ?_); (repeat (first | go_big_quiet_skip | (go_big_quiet_want; first | (refine quiet_is (.load _ _) rfl ?_; go_must (first | refine quiet_at sw_st (fun w hS => run_ld _ _ rfl hS) ?_ | refine quiet_at sw_st (fun w hS => run_lda _ _ rfl hS) ?_ | refine quiet_at sw_st (fun w hS => run_ld0 _ _ rfl hS) ?_ | refine quiet_at sw_st (fun w hS => run_lda0 _ _ rfl hS) ?_); go_big_quiet_on) | (refine quiet_is (.binOp .eql _ _ (.const (.slice none _ _)) _) rfl ?_; refine quiet_val (fun w _ => run_nse _ _ _ rfl) ?_; go_big_quiet_on) | (refine quiet_is (.binOp .neq _ _ (.const (.slice none _ _)) _) rfl ?_; refine quiet_val (fun w _ => run_nsn _ _ _ rfl) ?_; go_big_quiet_on) | (refine quiet_is (.call { callee := .builtin .len, args := #[_], argTypes := #[_] }) rfl ?_; refine quiet_val (fun w _ => run_lenv _ _ rfl) ?_; go_big_quiet_on) | (refine quiet_is (.indexAddr _ _ _) rfl ?_; refine quiet_val (fun w _ => run_idxv _ _ _ rfl) ?_; go_big_quiet_on) | (refine quiet_is (.binOp .eql _ _ _ _) rfl ?_; refine quiet_val (fun w _ => run_aeq _ _ _ _ rfl) ?_; go_big_quiet_on) | (refine quiet_is (.binOp .neq _ _ _ _) rfl ?_; refine quiet_val (fun w _ => run_ane _ _ _ _ rfl) ?_; go_big_quiet_on) | (go_big_quiet_op; go_big_quiet_on)))); refine wpQuiet_nil ?_; clear hS hne; intro w hS))
      exact hR _ hS.chg
end Go.Proofs.Ytoihgmijogeilaa
