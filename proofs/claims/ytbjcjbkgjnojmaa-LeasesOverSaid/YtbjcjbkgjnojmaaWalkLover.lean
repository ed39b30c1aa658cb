/-
  The walk of LeasesOver.
-/
import Derived.Test.YtbjcjbkgjnojmaaDeskH
set_option linter.unusedSimpArgs false
set_option linter.unusedVariables false
namespace Go.Proofs.Ytbjcjbkgjnojmaa
open Go.RowKit Go.Mm
variable {R : Ending → World → Prop}

theorem bounds_u64 {n : Int} (h : (Lit.int .u64 n).wf = true) : 0 ≤ n ∧ n ≤ 18446744073709551615 := by
  simp [Lit.wf, IntKind.min, IntKind.max, IntKind.signed, IntKind.bits] at h
  omega
theorem one_gr {t n : Int} (ht : spB t = true) (hn : tmB n = true) (h : n + t ≤ 1099511627776) : grT (some (some [(0, 1, 0)])) t n = some (some [(1, 1, n + t)]) ∧ grE (some (some [(0, 1, 0)])) t n = 0 ∧ grR (some (some [(0, 1, 0)])) t n = (3, 0, 1) := by
  have hI : grI [(0, 1, 0)] t n = some 0 := by
    unfold grI
    rw [ht, hn, decide_eq_true h]
    rfl
  simp only [grT, grE, grR, hI, ht, hn, Bool.and_self, if_true, if_pos h, Option.isSome_some]
  refine ⟨rfl, ?_, rfl⟩
  trivial
theorem one_wi (u : Int) {ok : Bool} (h : ok = true) : wiE (some (some [(1, 1, u)])) ok 3 0 1 = 0 := by subst h; rfl
theorem one_un (u : Int) : unAt (some (some [(1, 1, u)])) 0 = u := rfl
theorem one_ov (u n : Int) (h : tmB n = true) {b : Bool} (hb : decide (u ≤ n) = b) : ovR (some (some [(1, 1, u)])) 3 0 1 n = b := by unfold ovR; rw [if_pos (one_wi u h), one_un, hb]
theorem one_uq (u : Int) : uqR (some (some [(1, 1, u)])) 3 0 1 = u := by unfold uqR; rw [if_pos (one_wi u rfl), one_un]
theorem one_rt (u : Int) : rtT (some (some [(1, 1, u)])) 3 0 1 = some (some [(0, 2, u)]) := by unfold rtT; rw [if_pos (one_wi u rfl)]; rfl
theorem one_r8 {u t n : Int} (ht : spB t = true) (hn : tmB n = true) (h : u ≤ n) : rnE (some (some [(1, 1, u)])) 3 0 1 t n = 8 ∧ rnT (some (some [(1, 1, u)])) 3 0 1 t n = some (some [(1, 1, u)]) := by
  have e : rnE (some (some [(1, 1, u)])) 3 0 1 t n = 8 := by unfold rnE; rw [ht, hn, Bool.and_self, if_pos (one_wi u rfl), one_un, if_pos h]
  exact ⟨e, by unfold rnT; rw [e]; rfl⟩
theorem one_r0 {u t n : Int} (ht : spB t = true) (hn : tmB n = true) (h : ¬ u ≤ n) (h2 : n + t ≤ 1099511627776) : rnE (some (some [(1, 1, u)])) 3 0 1 t n = 0 ∧ rnT (some (some [(1, 1, u)])) 3 0 1 t n = some (some [(1, 1, n + t)]) := by
  have e : rnE (some (some [(1, 1, u)])) 3 0 1 t n = 0 := by unfold rnE; rw [ht, hn, Bool.and_self, if_pos (one_wi u rfl), one_un, if_neg h, if_pos h2]
  exact ⟨e, by unfold rnT; rw [if_pos e]; rfl⟩

set_option maxHeartbeats 1000000 in
set_option maxRecDepth 100000 in
theorem walk_lover {W : World} (a : Int) (wa : (Lit.int .u32 a).wf = true) (b : Int) (wb : (Lit.int .u64 b).wf = true) (c : Int) (wc : (Lit.int .u32 c).wf = true) (d : Int) (wd : (Lit.int .u32 d).wf = true) (hR : ∀ w', Chg W w' [] → Ret R (.bool true) w') :
    Calls Try.prog 3 #[.int .u32 a, .int .u64 b, .int .u32 c, .int .u32 d] W R := by
  have hS : St W [] W [] := St.start0
  obtain ⟨a0, a1⟩ := bounds_u32 wa
  obtain ⟨b0, b1⟩ := bounds_u64 wb
  obtain ⟨c0, c1⟩ := bounds_u32 wc
  obtain ⟨d0, d1⟩ := bounds_u32 wd
  have hsp : spB (1 + a % 1048576) = true := by simp only [spB, Bool.and_eq_true, decide_eq_true_eq]; omega
  have hsd : spB (1 + d % 1048576) = true := by simp only [spB, Bool.and_eq_true, decide_eq_true_eq]; omega
  have htm : tmB (b % 1099507433472) = true := by simp only [tmB, Bool.and_eq_true, decide_eq_true_eq]; omega
  have hta : tmB (b % 1099507433472 + c % 2097152) = true := by simp only [tmB, Bool.and_eq_true, decide_eq_true_eq]; omega
  have h1 : b % 1099507433472 + (1 + a % 1048576) ≤ 1099511627776 := by omega
  have h2 : b % 1099507433472 + c % 2097152 + (1 + d % 1048576) ≤ 1099511627776 := by omega
  obtain ⟨g1, g2, g3⟩ := one_gr hsp htm h1
  have g1' := Lib.hid g1
  have g2' := Lib.hid g2
  have g3' := Lib.hid g3
  have hw' := Lib.hid (one_wi (b % 1099507433472 + (1 + a % 1048576)) hta)
  clear g1 g2 g3
  have tok1 : True := trivial
  by_cases hov : b % 1099507433472 + (1 + a % 1048576) ≤ b % 1099507433472 + c % 2097152
  · have ho' := Lib.hid (one_ov _ _ hta (decide_eq_true hov))
    obtain ⟨r1, r2⟩ := one_r8 hsd hta hov
    have r1' := Lib.hid r1
    have r2' := Lib.hid r2
    have hq' := Lib.hid (one_uq (b % 1099507433472 + (1 + a % 1048576)))
    have hm' := Lib.hid (one_ov (b % 1099507433472 + (1 + a % 1048576)) 1099511627776 (by decide) (decide_eq_true h1))
    have hmw' : Hid (wiE (some (some [(1, 1, b % 1099507433472 + (1 + a % 1048576))])) (tmB 1099511627776) 3 0 1 = 0) := Lib.hid (one_wi _ (by decide))
    have hw0' := Lib.hid (one_wi (b % 1099507433472 + (1 + a % 1048576)) (ok := true) rfl)
    have ht' := Lib.hid (one_rt (b % 1099507433472 + (1 + a % 1048576)))
    have d1 : decide (b % 1099507433472 + (1 + a % 1048576) ≤ b % 1099507433472 + c % 2097152) = true := decide_eq_true hov
    have d2 : decide (1 + a % 1048576 ≤ c % 2097152) = true := decide_eq_true (by omega)
    clear r1 r2 hsp hsd htm hta h1 h2 hov
    go_enter Try.func3, Try.ntmps3
    go_wp2_with (first
      | go_skip
      | (refine wpList_is (.alloc 29) rfl ?_; go_must (refine wpList_stp rfl (stp_al _ rfl hS ?_)); clear hS; intro bo w _ hS)
      | (go_at_call 10; refine dk_new hS 1 1 (by decide) (some (some [(0, 1, 0)])) 0 (by decide) (by decide) ?_; clear hS; intro p E1 w hT hS; unfold Ret)
      | (go_at_call 11; (with_reducible refine dk_grant hS hT (1 + a % 1048576) (b % 1099507433472) _ 0 (3, 0, 1) g1'.out g2'.out g3'.out ?_); clear hS hT; intro E1 w hT hS; unfold Ret)
      | (go_at_call 12; have _t := tok1; (with_reducible refine dk_over hS hT 3 0 1 (b % 1099507433472 + c % 2097152) (by decide) true 0 ho'.out hw'.out ?_); clear hS tok1 _t; intro w _ hS; unfold Ret)
      | (go_at_call 12; (with_reducible refine dk_over hS hT 3 0 1 1099511627776 (by decide) true 0 hm'.out hmw'.out ?_); clear hS; intro w _ hS; unfold Ret)
      | (go_at_call 13; (with_reducible refine dk_renew hS hT 3 0 1 (1 + d % 1048576) (b % 1099507433472 + c % 2097152) (by decide) _ 8 r2'.out r1'.out ?_); clear hS hT; intro E1 w hT _ hS; unfold Ret)
      | (go_at_call 14; (with_reducible refine dk_until hS hT 3 0 1 (by decide) _ 0 hq'.out hw0'.out ?_); clear hS; intro w _ hS; unfold Ret)
      | (go_at_call 15; (with_reducible refine dk_return hS hT 3 0 1 (by decide) _ 0 ht'.out hw0'.out ?_); clear hS hT; intro E1 w hT hS; unfold Ret)
      | (go_at_call 16; refine works_ok hS ?_; clear hS; intro w hS; unfold Ret)
      | go_skip | (refine wpList_is (.build _ _) rfl ?_; go_must (refine wpList_stp rfl (stp_val (run_bd _ _ rfl) ?_))) | (refine wpList_is (.call { callee := .builtin .clear, args := #[_], argTypes := #[_] }) rfl ?_; go_must (refine wpList_stp rfl (stp_cl _ _ rfl hS (by decide) ?_)); clear hS; intro w hS) | (refine wpList_is (.load _ _) rfl ?_; go_must (first | refine wpList_stp rfl (stp_val (run_ld _ _ rfl hS) ?_) | refine wpList_stp rfl (stp_val (run_lda _ _ rfl hS) ?_) | refine wpList_stp rfl (stp_val (run_ld0 _ _ rfl hS) ?_) | refine wpList_stp rfl (stp_val (run_lda0 _ _ rfl hS) ?_))) | (refine wpList_is (.store _ _ _) rfl ?_; go_must (first | refine wpList_stp rfl (stp_st _ _ _ rfl hS ?_) | refine wpList_stp rfl (stp_sta _ _ _ rfl hS ?_)); clear hS; intro w hS) | (refine wpList_is (.alloc _) rfl ?_; go_must (refine wpList_stp rfl (stp_al _ rfl hS ?_)); clear hS; intro bN w hbN hS) | (refine wpList_is (.box _ _) rfl ?_; go_must (refine wpList_stp rfl (stp_bx _ _ rfl hS ?_)); clear hS; intro bN w hbN hS) | (refine wpList_is (.binOp .eql _ _ (.const (.slice none _ _)) _) rfl ?_; refine wpList_stp rfl (stp_val (run_nse _ _ _ rfl) ?_)) | (refine wpList_is (.binOp .neq _ _ (.const (.slice none _ _)) _) rfl ?_; refine wpList_stp rfl (stp_val (run_nsn _ _ _ rfl) ?_)))
    exact hR _ hS.chg
  · have ho' := Lib.hid (one_ov _ _ hta (decide_eq_false hov))
    obtain ⟨r1, r2⟩ := one_r0 hsd hta hov h2
    have r1' := Lib.hid r1
    have r2' := Lib.hid r2
    have hq' := Lib.hid (one_uq (b % 1099507433472 + c % 2097152 + (1 + d % 1048576)))
    have hw0' := Lib.hid (one_wi (b % 1099507433472 + c % 2097152 + (1 + d % 1048576)) (ok := true) rfl)
    have d1 : decide (b % 1099507433472 + (1 + a % 1048576) ≤ b % 1099507433472 + c % 2097152) = false := decide_eq_false hov
    have d2 : decide (1 + a % 1048576 ≤ c % 2097152) = false := decide_eq_false (by omega)
    clear r1 r2 hsp hsd htm hta h1 h2 hov
    go_enter Try.func3, Try.ntmps3
    go_wp2_with (first
      | go_skip
      | (refine wpList_is (.alloc 29) rfl ?_; go_must (refine wpList_stp rfl (stp_al _ rfl hS ?_)); clear hS; intro bo w _ hS)
      | (go_at_call 10; refine dk_new hS 1 1 (by decide) (some (some [(0, 1, 0)])) 0 (by decide) (by decide) ?_; clear hS; intro p E1 w hT hS; unfold Ret)
      | (go_at_call 11; (with_reducible refine dk_grant hS hT (1 + a % 1048576) (b % 1099507433472) _ 0 (3, 0, 1) g1'.out g2'.out g3'.out ?_); clear hS hT; intro E1 w hT hS; unfold Ret)
      | (go_at_call 12; (with_reducible refine dk_over hS hT 3 0 1 (b % 1099507433472 + c % 2097152) (by decide) false 0 ho'.out hw'.out ?_); clear hS; intro w _ hS; unfold Ret)
      | (go_at_call 13; (with_reducible refine dk_renew hS hT 3 0 1 (1 + d % 1048576) (b % 1099507433472 + c % 2097152) (by decide) _ 0 r2'.out r1'.out ?_); clear hS hT; intro E1 w hT _ hS; unfold Ret)
      | (go_at_call 14; (with_reducible refine dk_until hS hT 3 0 1 (by decide) _ 0 hq'.out hw0'.out ?_); clear hS; intro w _ hS; unfold Ret)
      | (go_at_call 16; refine works_ok hS ?_; clear hS; intro w hS; unfold Ret)
      | go_skip | (refine wpList_is (.build _ _) rfl ?_; go_must (refine wpList_stp rfl (stp_val (run_bd _ _ rfl) ?_))) | (refine wpList_is (.call { callee := .builtin .clear, args := #[_], argTypes := #[_] }) rfl ?_; go_must (refine wpList_stp rfl (stp_cl _ _ rfl hS (by decide) ?_)); clear hS; intro w hS) | (refine wpList_is (.load _ _) rfl ?_; go_must (first | refine wpList_stp rfl (stp_val (run_ld _ _ rfl hS) ?_) | refine wpList_stp rfl (stp_val (run_lda _ _ rfl hS) ?_) | refine wpList_stp rfl (stp_val (run_ld0 _ _ rfl hS) ?_) | refine wpList_stp rfl (stp_val (run_lda0 _ _ rfl hS) ?_))) | (refine wpList_is (.store _ _ _) rfl ?_; go_must (first | refine wpList_stp rfl (stp_st _ _ _ rfl hS ?_) | refine wpList_stp rfl (stp_sta _ _ _ rfl hS ?_)); clear hS; intro w hS) | (refine wpList_is (.alloc _) rfl ?_; go_must (refine wpList_stp rfl (stp_al _ rfl hS ?_)); clear hS; intro bN w hbN hS) | (refine wpList_is (.box _ _) rfl ?_; go_must (refine wpList_stp rfl (stp_bx _ _ rfl hS ?_)); clear hS; intro bN w hbN hS) | (refine wpList_is (.binOp .eql _ _ (.const (.slice none _ _)) _) rfl ?_; refine wpList_stp rfl (stp_val (run_nse _ _ _ rfl) ?_)) | (refine wpList_is (.binOp .neq _ _ (.const (.slice none _ _)) _) rfl ?_; refine wpList_stp rfl (stp_val (run_nsn _ _ _ rfl) ?_)))
    exact hR _ hS.chg
end Go.Proofs.Ytbjcjbkgjnojmaa
