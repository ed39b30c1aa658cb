/-
  The walk of BufsRoom.
-/
import Derived.Test.YtmhldlcjfmnkpaaSame
set_option linter.unusedVariables false
namespace Go.Proofs.Ytmhldlcjfmnkpaa
open Go.RowKit Go.Mm
variable {R : Ending → World → Prop}

set_option maxHeartbeats 1000000 in
set_option maxRecDepth 100000 in
theorem walk_broom {W : World} (a : Int) (wa : (Lit.int .u8 a).wf = true) (b : Int) (wb : (Lit.int .u16 b).wf = true) (v : Value) {n sb so : Nat} {F : Nat → Nat → Value} (hv : Flat W [.b, .i .u16] v n sb so F) (n' : Int) (wn : (Lit.int .u16 n').wf = true) (hR : ∀ w', Chg W w' [] → Ret R (.bool true) w') :
    Calls Try.prog 4 #[.int .u8 a, .int .u16 b, v, .int .u16 n'] W R := by
  have hS : St W [] W [] := St.start0
  have hlen := hv.len (t := 24) Try.underlying24
  by_cases hn : 200 < n
  · have q : decide (200 < (n : Int)) = true := decide_eq_true (by omega)
    go_enter Try.func4, Try.ntmps4
    go_wp2_with (first | (go_at_call 10; refine works_ok hS ?_; clear hS; intro w hS; unfold Ret) | go_skip | (refine wpList_is (.call { callee := .builtin .len, args := #[_], argTypes := #[_] }) rfl ?_; refine wpList_stp rfl (stp_val (run_lenv _ _ rfl) ?_)) | (refine wpList_is (.slice _ _ none (some _) none) rfl ?_; refine wpList_stp rfl (stp_val (run_prev _ _ _ rfl) ?_)) | (refine wpList_is (.indexAddr _ _ _) rfl ?_; refine wpList_stp rfl (stp_val (run_idxv _ _ _ rfl) ?_)) | go_skip | (refine wpList_is (.build _ _) rfl ?_; go_must (refine wpList_stp rfl (stp_val (run_bd _ _ rfl) ?_))) | (refine wpList_is (.call { callee := .builtin .clear, args := #[_], argTypes := #[_] }) rfl ?_; go_must (refine wpList_stp rfl (stp_cl _ _ rfl hS (by decide) ?_)); clear hS; intro w hS) | (refine wpList_is (.load _ _) rfl ?_; go_must (first | refine wpList_stp rfl (stp_val (run_ld _ _ rfl hS) ?_) | refine wpList_stp rfl (stp_val (run_lda _ _ rfl hS) ?_) | refine wpList_stp rfl (stp_val (run_ld0 _ _ rfl hS) ?_) | refine wpList_stp rfl (stp_val (run_lda0 _ _ rfl hS) ?_))) | (refine wpList_is (.store _ _ _) rfl ?_; go_must (first | refine wpList_stp rfl (stp_st _ _ _ rfl hS ?_) | refine wpList_stp rfl (stp_sta _ _ _ rfl hS ?_)); clear hS; intro w hS) | (refine wpList_is (.alloc _) rfl ?_; go_must (refine wpList_stp rfl (stp_al _ rfl hS ?_)); clear hS; intro bN w hbN hS) | (refine wpList_is (.box _ _) rfl ?_; go_must (refine wpList_stp rfl (stp_bx _ _ rfl hS ?_)); clear hS; intro bN w hbN hS) | (refine wpList_is (.binOp .eql _ _ (.const (.slice none _ _)) _) rfl ?_; refine wpList_stp rfl (stp_val (run_nse _ _ _ rfl) ?_)) | (refine wpList_is (.binOp .neq _ _ (.const (.slice none _ _)) _) rfl ?_; refine wpList_stp rfl (stp_val (run_nsn _ _ _ rfl) ?_)) | (refine region_quiet hS (by kernel_rfl) (by kernel_rfl) (fun hne => ?_); (repeat (first | go_big_quiet_skip | (go_big_quiet_want; first | (refine quiet_is (.load _ _) rfl ?_; go_must (first | refine quiet_at sw_st (fun w hS => run_ld _ _ rfl hS) ?_ | refine quiet_at sw_st (fun w hS => run_lda _ _ rfl hS) ?_ | refine quiet_at sw_st (fun w hS => run_ld0 _ _ rfl hS) ?_ | refine quiet_at sw_st (fun w hS => run_lda0 _ _ rfl hS) ?_); go_big_quiet_on) | (refine quiet_is (.binOp .eql _ _ (.const (.slice none _ _)) _) rfl ?_; refine quiet_val (fun w _ => run_nse _ _ _ rfl) ?_; go_big_quiet_on) | (refine quiet_is (.binOp .neq _ _ (.const (.slice none _ _)) _) rfl ?_; refine quiet_val (fun w _ => run_nsn _ _ _ rfl) ?_; go_big_quiet_on) | (refine quiet_is (.call { callee := .builtin .len, args := #[_], argTypes := #[_] }) rfl ?_; refine quiet_val (fun w _ => run_lenv _ _ rfl) ?_; go_big_quiet_on) | (refine quiet_is (.indexAddr _ _ _) rfl ?_; refine quiet_val (fun w _ => run_idxv _ _ _ rfl) ?_; go_big_quiet_on) | (refine quiet_is (.binOp .eql _ _ _ _) rfl ?_; refine quiet_val (fun w _ => run_aeq _ _ _ _ rfl) ?_; go_big_quiet_on) | (refine quiet_is (.binOp .neq _ _ _ _) rfl ?_; refine quiet_val (fun w _ => run_ane _ _ _ _ rfl) ?_; go_big_quiet_on) | (go_big_quiet_op; go_big_quiet_on)))); refine wpQuiet_nil ?_; clear hS hne; intro w hS))
    exact hR _ hS.chg
  have q : decide (200 < (n : Int)) = false := decide_eq_false (by omega)
  obtain ⟨a0, a1⟩ := bounds_u8 wa
  obtain ⟨b0, b1⟩ := bounds_u16 wb
  obtain ⟨n0, n1⟩ := bounds_u16 wn
  have hI := (L0B_i (b := b) (f := 1) a0 b0 (by omega)).fl (pn := gvB F) (nn := whB F) (k := n) (by omega)
  have hid := idB_is a0
  obtain ⟨L, hL⟩ : ∃ L, flL (moB b) (L0B a 1) (gvB F) (whB F) n = L := ⟨_, rfl⟩
  rw [hL] at hI
  have hL' := Lib.hid hL
  have hall := all_le hI
  obtain ⟨l, hl⟩ : ∃ l, allL L = l := ⟨_, rfl⟩
  obtain ⟨m, hm⟩ : ∃ m, l.length = m := ⟨_, rfl⟩
  obtain ⟨u, huL⟩ : ∃ u, usL L = u := ⟨_, rfl⟩
  have hus := hI.us
  have hub := usL_bd hI.w
  rw [huL] at hus hub
  rw [hl, hm] at hall
  have hI : FlI (1 + b % 4000) 1 (idB a) n L := hI
  have hus : u ≤ 1 + b % 4000 := hus
  have hal' : Hid (allP (some (some (1 + b % 4000, L))) = l) := Lib.hid hl
  have hln' : Hid ((allP (some (some (1 + b % 4000, L)))).length = m) := Lib.hid (by rw [← hm, ← hl]; rfl)
  have hm' := Lib.hid hm
  have hu' : Hid (usP (some (some (1 + b % 4000, L))) = u) := Lib.hid huL
  have q1 : decide (1 + b % 4000 < u) = false := decide_eq_false (by omega)
  have q2 : decide (idB a < m) = false := decide_eq_false (by omega)
  have q2' : decide ((idB a : Int) < (m : Int)) = false := decide_eq_false (by omega)
  have hI' := Lib.hid hI
  have hl' := Lib.hid hl
  have huL' := Lib.hid huL
  clear hL hI hl huL hm
  go_enter Try.func4, Try.ntmps4
  go_wp2_with (first
    | go_skip
    | (go_at_call 18; refine filled_ok hS a b 1 wa wb (by decide) hv (by omega) ?_; clear hS; intro p E1 w hT hS; rw [hL'.out] at hT; have hT : PA p (some (some (1 + b % 4000, L))) E1 := hT; have hpn := hT.nil; unfold Ret)
    | (go_at_call 15; refine pb_used hS hT u hu'.out ?_; clear hS; intro w hS; unfold Ret)
    | (go_at_call 16; refine pb_len hS hT m hln'.out ?_; clear hS; intro w hS; unfold Ret)
    | (go_at_call 17; go_must (refine pb_all hS hT ?_); clear hS; intro v2 E3 w hL hS; rw [hal'.out] at hL; have hone2 := hL.one; have hln2 := hL.len hm'.out; unfold Ret)
    | go_skip | (refine wpList_is (.call { callee := .builtin .len, args := #[_], argTypes := #[_] }) rfl ?_; refine wpList_stp rfl (stp_val (run_lenv _ _ rfl) ?_)) | (refine wpList_is (.slice _ _ none (some _) none) rfl ?_; refine wpList_stp rfl (stp_val (run_prev _ _ _ rfl) ?_)) | (refine wpList_is (.indexAddr _ _ _) rfl ?_; refine wpList_stp rfl (stp_val (run_idxv _ _ _ rfl) ?_)) | go_skip | (refine wpList_is (.build _ _) rfl ?_; go_must (refine wpList_stp rfl (stp_val (run_bd _ _ rfl) ?_))) | (refine wpList_is (.call { callee := .builtin .clear, args := #[_], argTypes := #[_] }) rfl ?_; go_must (refine wpList_stp rfl (stp_cl _ _ rfl hS (by decide) ?_)); clear hS; intro w hS) | (refine wpList_is (.load _ _) rfl ?_; go_must (first | refine wpList_stp rfl (stp_val (run_ld _ _ rfl hS) ?_) | refine wpList_stp rfl (stp_val (run_lda _ _ rfl hS) ?_) | refine wpList_stp rfl (stp_val (run_ld0 _ _ rfl hS) ?_) | refine wpList_stp rfl (stp_val (run_lda0 _ _ rfl hS) ?_))) | (refine wpList_is (.store _ _ _) rfl ?_; go_must (first | refine wpList_stp rfl (stp_st _ _ _ rfl hS ?_) | refine wpList_stp rfl (stp_sta _ _ _ rfl hS ?_)); clear hS; intro w hS) | (refine wpList_is (.alloc _) rfl ?_; go_must (refine wpList_stp rfl (stp_al _ rfl hS ?_)); clear hS; intro bN w hbN hS) | (refine wpList_is (.box _ _) rfl ?_; go_must (refine wpList_stp rfl (stp_bx _ _ rfl hS ?_)); clear hS; intro bN w hbN hS) | (refine wpList_is (.binOp .eql _ _ (.const (.slice none _ _)) _) rfl ?_; refine wpList_stp rfl (stp_val (run_nse _ _ _ rfl) ?_)) | (refine wpList_is (.binOp .neq _ _ (.const (.slice none _ _)) _) rfl ?_; refine wpList_stp rfl (stp_val (run_nsn _ _ _ rfl) ?_)) | (refine region_quiet hS (by kernel_rfl) (by kernel_rfl) (fun hne => ?_); (repeat (first | go_big_quiet_skip | (go_big_quiet_want; first | (refine quiet_is (.load _ _) rfl ?_; go_must (first | refine quiet_at sw_st (fun w hS => run_ld _ _ rfl hS) ?_ | refine quiet_at sw_st (fun w hS => run_lda _ _ rfl hS) ?_ | refine quiet_at sw_st (fun w hS => run_ld0 _ _ rfl hS) ?_ | refine quiet_at sw_st (fun w hS => run_lda0 _ _ rfl hS) ?_); go_big_quiet_on) | (refine quiet_is (.binOp .eql _ _ (.const (.slice none _ _)) _) rfl ?_; refine quiet_val (fun w _ => run_nse _ _ _ rfl) ?_; go_big_quiet_on) | (refine quiet_is (.binOp .neq _ _ (.const (.slice none _ _)) _) rfl ?_; refine quiet_val (fun w _ => run_nsn _ _ _ rfl) ?_; go_big_quiet_on) | (refine quiet_is (.call { callee := .builtin .len, args := #[_], argTypes := #[_] }) rfl ?_; refine quiet_val (fun w _ => run_lenv _ _ rfl) ?_; go_big_quiet_on) | (refine quiet_is (.indexAddr _ _ _) rfl ?_; refine quiet_val (fun w _ => run_idxv _ _ _ rfl) ?_; go_big_quiet_on) | (refine quiet_is (.binOp .eql _ _ _ _) rfl ?_; refine quiet_val (fun w _ => run_aeq _ _ _ _ rfl) ?_; go_big_quiet_on) | (refine quiet_is (.binOp .neq _ _ _ _) rfl ?_; refine quiet_val (fun w _ => run_ane _ _ _ _ rfl) ?_; go_big_quiet_on) | (go_big_quiet_op; go_big_quiet_on)))); refine wpQuiet_nil ?_; clear hS hne; intro w hS))
  clear hpn
  go_loopw [15] (fun x wr => ∃ k : Nat, k ≤ m ∧ x = .int .i64 k ∧ (∀ j, j < k → (l.getD j (0, 0, 0)).2.1 = (j : Nat)) ∧ St W [] wr (E3 ++ E1)) (fun x _ => m - (intOf x).toNat)
  case atStart => exact ⟨0, Nat.zero_le _, rfl, fun j hj => absurd hj (Nat.not_lt_zero _), hS.pick⟩
  case round =>
    clear hS
    obtain ⟨k, hk, rfl, hlo, hS⟩ := hrel
    have hI := hI'.out
    have hl := hl'.out
    have hm := hm'.out
    have huL := huL'.out
    by_cases hlk : k < m
    · have hlk' : k < l.length := by rw [hm]; exact hlk
      obtain ⟨⟨kd, i, g⟩, hx⟩ : ∃ x, l.getD k (0, 0, 0) = x := ⟨_, rfl⟩
      obtain ⟨ga, spa, ia, hha, hca⟩ := hL.at hlk' hx
      have ia := ia k rfl
      have hci : CellAt (blk [] olf l spa) (k * 3 + 1) (.int .i64 i) := ⟨by have := hca.h 1 (by decide); simpa using this⟩
      clear hca
      by_cases hik : i = k
      · have e1 : (i == (k : Int)) = true := by simp [hik]
        have e2 : decide (i = (k : Int)) = true := decide_eq_true hik
        have hlo' : ∀ j, j < k + 1 → (l.getD j (0, 0, 0)).2.1 = (j : Nat) := fun j hj => by
          rcases Nat.lt_succ_iff_lt_or_eq.1 hj with h | h
          · exact hlo j h
          · rw [h, hx]; exact hik
        have hlo2 := Lib.hid hlo'
        clear hI hl hm huL hlo hlo' hx hlk'
        go_wp2_with (first | go_skip | (refine wpList_is (.call { callee := .builtin .len, args := #[_], argTypes := #[_] }) rfl ?_; refine wpList_stp rfl (stp_val (run_lenv _ _ rfl) ?_)) | (refine wpList_is (.slice _ _ none (some _) none) rfl ?_; refine wpList_stp rfl (stp_val (run_prev _ _ _ rfl) ?_)) | (refine wpList_is (.indexAddr _ _ _) rfl ?_; refine wpList_stp rfl (stp_val (run_idxv _ _ _ rfl) ?_)) | go_skip | (refine wpList_is (.build _ _) rfl ?_; go_must (refine wpList_stp rfl (stp_val (run_bd _ _ rfl) ?_))) | (refine wpList_is (.call { callee := .builtin .clear, args := #[_], argTypes := #[_] }) rfl ?_; go_must (refine wpList_stp rfl (stp_cl _ _ rfl hS (by decide) ?_)); clear hS; intro w hS) | (refine wpList_is (.load _ _) rfl ?_; go_must (first | refine wpList_stp rfl (stp_val (run_ld _ _ rfl hS) ?_) | refine wpList_stp rfl (stp_val (run_lda _ _ rfl hS) ?_) | refine wpList_stp rfl (stp_val (run_ld0 _ _ rfl hS) ?_) | refine wpList_stp rfl (stp_val (run_lda0 _ _ rfl hS) ?_))) | (refine wpList_is (.store _ _ _) rfl ?_; go_must (first | refine wpList_stp rfl (stp_st _ _ _ rfl hS ?_) | refine wpList_stp rfl (stp_sta _ _ _ rfl hS ?_)); clear hS; intro w hS) | (refine wpList_is (.alloc _) rfl ?_; go_must (refine wpList_stp rfl (stp_al _ rfl hS ?_)); clear hS; intro bN w hbN hS) | (refine wpList_is (.box _ _) rfl ?_; go_must (refine wpList_stp rfl (stp_bx _ _ rfl hS ?_)); clear hS; intro bN w hbN hS) | (refine wpList_is (.binOp .eql _ _ (.const (.slice none _ _)) _) rfl ?_; refine wpList_stp rfl (stp_val (run_nse _ _ _ rfl) ?_)) | (refine wpList_is (.binOp .neq _ _ (.const (.slice none _ _)) _) rfl ?_; refine wpList_stp rfl (stp_val (run_nsn _ _ _ rfl) ?_)) | (refine region_quiet hS (by kernel_rfl) (by kernel_rfl) (fun hne => ?_); (repeat (first | go_big_quiet_skip | (go_big_quiet_want; first | (refine quiet_is (.load _ _) rfl ?_; go_must (first | refine quiet_at sw_st (fun w hS => run_ld _ _ rfl hS) ?_ | refine quiet_at sw_st (fun w hS => run_lda _ _ rfl hS) ?_ | refine quiet_at sw_st (fun w hS => run_ld0 _ _ rfl hS) ?_ | refine quiet_at sw_st (fun w hS => run_lda0 _ _ rfl hS) ?_); go_big_quiet_on) | (refine quiet_is (.binOp .eql _ _ (.const (.slice none _ _)) _) rfl ?_; refine quiet_val (fun w _ => run_nse _ _ _ rfl) ?_; go_big_quiet_on) | (refine quiet_is (.binOp .neq _ _ (.const (.slice none _ _)) _) rfl ?_; refine quiet_val (fun w _ => run_nsn _ _ _ rfl) ?_; go_big_quiet_on) | (refine quiet_is (.call { callee := .builtin .len, args := #[_], argTypes := #[_] }) rfl ?_; refine quiet_val (fun w _ => run_lenv _ _ rfl) ?_; go_big_quiet_on) | (refine quiet_is (.indexAddr _ _ _) rfl ?_; refine quiet_val (fun w _ => run_idxv _ _ _ rfl) ?_; go_big_quiet_on) | (refine quiet_is (.binOp .eql _ _ _ _) rfl ?_; refine quiet_val (fun w _ => run_aeq _ _ _ _ rfl) ?_; go_big_quiet_on) | (refine quiet_is (.binOp .neq _ _ _ _) rfl ?_; refine quiet_val (fun w _ => run_ane _ _ _ _ rfl) ?_; go_big_quiet_on) | (go_big_quiet_op; go_big_quiet_on)))); refine wpQuiet_nil ?_; clear hS hne; intro w hS))
        go_roundw
        case rel => exact ⟨k + 1, by omega, by go_num, hlo2.out, hS.pick⟩
        case measure => simp [intOf]; omega
      · have hstop : k = m ∨ (l.getD k (0, 0, 0)).2.1 ≠ (k : Nat) := .inr (by rw [hx]; exact hik)
        have e1 : (i == (k : Int)) = false := by simp [hik]
        have e2 : decide (i = (k : Int)) = false := decide_eq_false hik
        clear hx hlk'
        by_cases hroom : m < idB a ∧ u + (1 + n' % 4100) ≤ 1 + b % 4000
        · obtain ⟨hp1, hp2, hp3⟩ := low_is hI (n := 1 + n' % 4100) (by omega) ⟨by rw [hl, hm]; exact hroom.1, by rw [huL]; exact hroom.2⟩ (lw := k) (by rw [hl, hm]; exact hk) (by rw [hl]; exact hlo) (by rw [hl, hm]; exact hstop)
          obtain ⟨g, hg⟩ : ∃ g, (L.getD k (0, 0, 0)).2.1 = g := ⟨_, rfl⟩
          have t1 : piT (some (some (1 + b % 4000, L))) (1 + n' % 4100) = some (some (1 + b % 4000, piN L k (1 + n' % 4100))) := by rw [piT_L]; simp only [piL, hp1]
          have t2 : piE (some (some (1 + b % 4000, L))) (1 + n' % 4100) = 0 := by
            simp only [piE, hp1, Option.isSome_some, if_true]
            rw [if_pos (by simp only [Bool.and_eq_true, decide_eq_true_eq]; omega)]
          have t3 : piR (some (some (1 + b % 4000, L))) (1 + n' % 4100) = (2, (k : Int), g) := by simp only [piR, hp1, hg]
          have t4 : usP (some (some (1 + b % 4000, piN L k (1 + n' % 4100)))) = u + (1 + n' % 4100) := by rw [← huL, ← hp2]; rfl
          have t5 : (allP (some (some (1 + b % 4000, piN L k (1 + n' % 4100))))).length = m + 1 := by rw [allP_L, hp3, hl, hm]
          have t1' := Lib.hid t1
          have t2' := Lib.hid t2
          have t3' := Lib.hid t3
          have t4' := Lib.hid t4
          have t5' := Lib.hid t5
          have d1 : decide (m < idB a) = true := decide_eq_true (by omega)
          have d1' : decide ((m : Int) < (idB a : Int)) = true := decide_eq_true (by omega)
          have d2 : decide (u + (1 + n' % 4100) ≤ 1 + b % 4000) = true := decide_eq_true hroom.2
          have d3 : (((m + 1 : Nat) : Int) == (m : Int) + 1) = true := by simp
          have d4 : decide (((m + 1 : Nat) : Int) = (m : Int) + 1) = true := decide_eq_true (by omega)
          clear t1 t2 t3 t4 t5 hp1 hp2 hp3 hg hI hl huL hm hroom hlo hk
          go_wp2_with (first
            | go_skip
            | (refine wpList_is (.alloc 36) rfl ?_; go_must (refine wpList_stp rfl (stp_al _ rfl hS ?_)); clear hS; intro bo w _ hS)
            | (go_at_call 12; (with_reducible refine pb_pin hS hT (1 + n' % 4100) _ 0 (2, (k : Int), g) t1'.out t2'.out t3'.out ?_); clear hS hT; intro E1 w hT hS; unfold Ret)
            | (go_at_call 15; refine pb_used hS hT _ t4'.out ?_; clear hS; intro w hS; unfold Ret)
            | (go_at_call 16; refine pb_len hS hT _ t5'.out ?_; clear hS; intro w hS; unfold Ret)
            | (go_at_call 10; refine works_ok hS ?_; clear hS; intro w hS; unfold Ret) | go_skip | (refine wpList_is (.call { callee := .builtin .len, args := #[_], argTypes := #[_] }) rfl ?_; refine wpList_stp rfl (stp_val (run_lenv _ _ rfl) ?_)) | (refine wpList_is (.slice _ _ none (some _) none) rfl ?_; refine wpList_stp rfl (stp_val (run_prev _ _ _ rfl) ?_)) | (refine wpList_is (.indexAddr _ _ _) rfl ?_; refine wpList_stp rfl (stp_val (run_idxv _ _ _ rfl) ?_)) | go_skip | (refine wpList_is (.build _ _) rfl ?_; go_must (refine wpList_stp rfl (stp_val (run_bd _ _ rfl) ?_))) | (refine wpList_is (.call { callee := .builtin .clear, args := #[_], argTypes := #[_] }) rfl ?_; go_must (refine wpList_stp rfl (stp_cl _ _ rfl hS (by decide) ?_)); clear hS; intro w hS) | (refine wpList_is (.load _ _) rfl ?_; go_must (first | refine wpList_stp rfl (stp_val (run_ld _ _ rfl hS) ?_) | refine wpList_stp rfl (stp_val (run_lda _ _ rfl hS) ?_) | refine wpList_stp rfl (stp_val (run_ld0 _ _ rfl hS) ?_) | refine wpList_stp rfl (stp_val (run_lda0 _ _ rfl hS) ?_))) | (refine wpList_is (.store _ _ _) rfl ?_; go_must (first | refine wpList_stp rfl (stp_st _ _ _ rfl hS ?_) | refine wpList_stp rfl (stp_sta _ _ _ rfl hS ?_)); clear hS; intro w hS) | (refine wpList_is (.alloc _) rfl ?_; go_must (refine wpList_stp rfl (stp_al _ rfl hS ?_)); clear hS; intro bN w hbN hS) | (refine wpList_is (.box _ _) rfl ?_; go_must (refine wpList_stp rfl (stp_bx _ _ rfl hS ?_)); clear hS; intro bN w hbN hS) | (refine wpList_is (.binOp .eql _ _ (.const (.slice none _ _)) _) rfl ?_; refine wpList_stp rfl (stp_val (run_nse _ _ _ rfl) ?_)) | (refine wpList_is (.binOp .neq _ _ (.const (.slice none _ _)) _) rfl ?_; refine wpList_stp rfl (stp_val (run_nsn _ _ _ rfl) ?_)) | (refine region_quiet hS (by kernel_rfl) (by kernel_rfl) (fun hne => ?_); (repeat (first | go_big_quiet_skip | (go_big_quiet_want; first | (refine quiet_is (.load _ _) rfl ?_; go_must (first | refine quiet_at sw_st (fun w hS => run_ld _ _ rfl hS) ?_ | refine quiet_at sw_st (fun w hS => run_lda _ _ rfl hS) ?_ | refine quiet_at sw_st (fun w hS => run_ld0 _ _ rfl hS) ?_ | refine quiet_at sw_st (fun w hS => run_lda0 _ _ rfl hS) ?_); go_big_quiet_on) | (refine quiet_is (.binOp .eql _ _ (.const (.slice none _ _)) _) rfl ?_; refine quiet_val (fun w _ => run_nse _ _ _ rfl) ?_; go_big_quiet_on) | (refine quiet_is (.binOp .neq _ _ (.const (.slice none _ _)) _) rfl ?_; refine quiet_val (fun w _ => run_nsn _ _ _ rfl) ?_; go_big_quiet_on) | (refine quiet_is (.call { callee := .builtin .len, args := #[_], argTypes := #[_] }) rfl ?_; refine quiet_val (fun w _ => run_lenv _ _ rfl) ?_; go_big_quiet_on) | (refine quiet_is (.indexAddr _ _ _) rfl ?_; refine quiet_val (fun w _ => run_idxv _ _ _ rfl) ?_; go_big_quiet_on) | (refine quiet_is (.binOp .eql _ _ _ _) rfl ?_; refine quiet_val (fun w _ => run_aeq _ _ _ _ rfl) ?_; go_big_quiet_on) | (refine quiet_is (.binOp .neq _ _ _ _) rfl ?_; refine quiet_val (fun w _ => run_ane _ _ _ _ rfl) ?_; go_big_quiet_on) | (go_big_quiet_op; go_big_quiet_on)))); refine wpQuiet_nil ?_; clear hS hne; intro w hS))
          exact hR _ hS.chg
        · have hp1 := room_no hI (n := 1 + n' % 4100) (by omega) (fun h => hroom ⟨by rw [hl, hm] at h; exact h.1, by rw [huL] at h; exact h.2⟩)
          have t1 : piT (some (some (1 + b % 4000, L))) (1 + n' % 4100) = some (some (1 + b % 4000, L)) := by rw [piT_L]; simp only [piL, hp1]
          have t2 : piE (some (some (1 + b % 4000, L))) (1 + n' % 4100) = 4 := by
            simp only [piE, hp1, Option.isSome_none, Bool.false_eq_true, if_false]
            rw [if_pos (by simp only [Bool.and_eq_true, decide_eq_true_eq]; omega)]
          have t3 : piR (some (some (1 + b % 4000, L))) (1 + n' % 4100) = (0, 0, 0) := by simp only [piR, hp1]
          have t1' := Lib.hid t1
          have t2' := Lib.hid t2
          have t3' := Lib.hid t3
          have q0 := outE (outB_self 0 0 0)
          clear t1 t2 t3 hp1
          by_cases hmn : m < idB a
          · have d1 : decide (m < idB a) = true := decide_eq_true (by omega)
            have d1' : decide ((m : Int) < (idB a : Int)) = true := decide_eq_true (by omega)
            have d2 : decide (u + (1 + n' % 4100) ≤ 1 + b % 4000) = false := decide_eq_false (fun h => hroom ⟨hmn, h⟩)
            clear hroom hI hl huL hm hlo hk hmn
            go_wp2_with (first
              | go_skip
              | (refine wpList_is (.alloc 36) rfl ?_; go_must (refine wpList_stp rfl (stp_al _ rfl hS ?_)); clear hS; intro bo w _ hS)
              | (go_at_call 12; (with_reducible refine pb_pin hS hT (1 + n' % 4100) _ 4 (0, 0, 0) t1'.out t2'.out t3'.out ?_); clear hS hT; intro E1 w hT hS; unfold Ret)
              | (go_at_call 15; refine pb_used hS hT u hu'.out ?_; clear hS; intro w hS; unfold Ret)
              | (go_at_call 16; refine pb_len hS hT m hln'.out ?_; clear hS; intro w hS; unfold Ret)
              | (go_at_call 10; refine works_ok hS ?_; clear hS; intro w hS; unfold Ret) | (refine wpList_is (.binOp .eql _ _ _ _) rfl ?_; refine wpList_stp rfl (stp_val (run_aeq _ _ _ _ rfl) ?_)) | (refine wpList_is (.binOp .neq _ _ _ _) rfl ?_; refine wpList_stp rfl (stp_val (run_ane _ _ _ _ rfl) ?_)) | go_skip | (refine wpList_is (.call { callee := .builtin .len, args := #[_], argTypes := #[_] }) rfl ?_; refine wpList_stp rfl (stp_val (run_lenv _ _ rfl) ?_)) | (refine wpList_is (.slice _ _ none (some _) none) rfl ?_; refine wpList_stp rfl (stp_val (run_prev _ _ _ rfl) ?_)) | (refine wpList_is (.indexAddr _ _ _) rfl ?_; refine wpList_stp rfl (stp_val (run_idxv _ _ _ rfl) ?_)) | go_skip | (refine wpList_is (.build _ _) rfl ?_; go_must (refine wpList_stp rfl (stp_val (run_bd _ _ rfl) ?_))) | (refine wpList_is (.call { callee := .builtin .clear, args := #[_], argTypes := #[_] }) rfl ?_; go_must (refine wpList_stp rfl (stp_cl _ _ rfl hS (by decide) ?_)); clear hS; intro w hS) | (refine wpList_is (.load _ _) rfl ?_; go_must (first | refine wpList_stp rfl (stp_val (run_ld _ _ rfl hS) ?_) | refine wpList_stp rfl (stp_val (run_lda _ _ rfl hS) ?_) | refine wpList_stp rfl (stp_val (run_ld0 _ _ rfl hS) ?_) | refine wpList_stp rfl (stp_val (run_lda0 _ _ rfl hS) ?_))) | (refine wpList_is (.store _ _ _) rfl ?_; go_must (first | refine wpList_stp rfl (stp_st _ _ _ rfl hS ?_) | refine wpList_stp rfl (stp_sta _ _ _ rfl hS ?_)); clear hS; intro w hS) | (refine wpList_is (.alloc _) rfl ?_; go_must (refine wpList_stp rfl (stp_al _ rfl hS ?_)); clear hS; intro bN w hbN hS) | (refine wpList_is (.box _ _) rfl ?_; go_must (refine wpList_stp rfl (stp_bx _ _ rfl hS ?_)); clear hS; intro bN w hbN hS) | (refine wpList_is (.binOp .eql _ _ (.const (.slice none _ _)) _) rfl ?_; refine wpList_stp rfl (stp_val (run_nse _ _ _ rfl) ?_)) | (refine wpList_is (.binOp .neq _ _ (.const (.slice none _ _)) _) rfl ?_; refine wpList_stp rfl (stp_val (run_nsn _ _ _ rfl) ?_)) | (refine region_quiet hS (by kernel_rfl) (by kernel_rfl) (fun hne => ?_); (repeat (first | go_big_quiet_skip | (go_big_quiet_want; first | (refine quiet_is (.load _ _) rfl ?_; go_must (first | refine quiet_at sw_st (fun w hS => run_ld _ _ rfl hS) ?_ | refine quiet_at sw_st (fun w hS => run_lda _ _ rfl hS) ?_ | refine quiet_at sw_st (fun w hS => run_ld0 _ _ rfl hS) ?_ | refine quiet_at sw_st (fun w hS => run_lda0 _ _ rfl hS) ?_); go_big_quiet_on) | (refine quiet_is (.binOp .eql _ _ (.const (.slice none _ _)) _) rfl ?_; refine quiet_val (fun w _ => run_nse _ _ _ rfl) ?_; go_big_quiet_on) | (refine quiet_is (.binOp .neq _ _ (.const (.slice none _ _)) _) rfl ?_; refine quiet_val (fun w _ => run_nsn _ _ _ rfl) ?_; go_big_quiet_on) | (refine quiet_is (.call { callee := .builtin .len, args := #[_], argTypes := #[_] }) rfl ?_; refine quiet_val (fun w _ => run_lenv _ _ rfl) ?_; go_big_quiet_on) | (refine quiet_is (.indexAddr _ _ _) rfl ?_; refine quiet_val (fun w _ => run_idxv _ _ _ rfl) ?_; go_big_quiet_on) | (refine quiet_is (.binOp .eql _ _ _ _) rfl ?_; refine quiet_val (fun w _ => run_aeq _ _ _ _ rfl) ?_; go_big_quiet_on) | (refine quiet_is (.binOp .neq _ _ _ _) rfl ?_; refine quiet_val (fun w _ => run_ane _ _ _ _ rfl) ?_; go_big_quiet_on) | (go_big_quiet_op; go_big_quiet_on)))); refine wpQuiet_nil ?_; clear hS hne; intro w hS))
            exact hR _ hS.chg
          · have d1 : decide (m < idB a) = false := decide_eq_false (by omega)
            have d1' : decide ((m : Int) < (idB a : Int)) = false := decide_eq_false (by omega)
            clear hroom hI hl huL hm hlo hk hmn
            go_wp2_with (first
              | go_skip
              | (refine wpList_is (.alloc 36) rfl ?_; go_must (refine wpList_stp rfl (stp_al _ rfl hS ?_)); clear hS; intro bo w _ hS)
              | (go_at_call 12; (with_reducible refine pb_pin hS hT (1 + n' % 4100) _ 4 (0, 0, 0) t1'.out t2'.out t3'.out ?_); clear hS hT; intro E1 w hT hS; unfold Ret)
              | (go_at_call 15; refine pb_used hS hT u hu'.out ?_; clear hS; intro w hS; unfold Ret)
              | (go_at_call 16; refine pb_len hS hT m hln'.out ?_; clear hS; intro w hS; unfold Ret)
              | (go_at_call 10; refine works_ok hS ?_; clear hS; intro w hS; unfold Ret) | (refine wpList_is (.binOp .eql _ _ _ _) rfl ?_; refine wpList_stp rfl (stp_val (run_aeq _ _ _ _ rfl) ?_)) | (refine wpList_is (.binOp .neq _ _ _ _) rfl ?_; refine wpList_stp rfl (stp_val (run_ane _ _ _ _ rfl) ?_)) | go_skip | (refine wpList_is (.call { callee := .builtin .len, args := #[_], argTypes := #[_] }) rfl ?_; refine wpList_stp rfl (stp_val (run_lenv _ _ rfl) ?_)) | (refine wpList_is (.slice _ _ none (some _) none) rfl ?_; refine wpList_stp rfl (stp_val (run_prev _ _ _ rfl) ?_)) | (refine wpList_is (.indexAddr _ _ _) rfl ?_; refine wpList_stp rfl (stp_val (run_idxv _ _ _ rfl) ?_)) | go_skip | (refine wpList_is (.build _ _) rfl ?_; go_must (refine wpList_stp rfl (stp_val (run_bd _ _ rfl) ?_))) | (refine wpList_is (.call { callee := .builtin .clear, args := #[_], argTypes := #[_] }) rfl ?_; go_must (refine wpList_stp rfl (stp_cl _ _ rfl hS (by decide) ?_)); clear hS; intro w hS) | (refine wpList_is (.load _ _) rfl ?_; go_must (first | refine wpList_stp rfl (stp_val (run_ld _ _ rfl hS) ?_) | refine wpList_stp rfl (stp_val (run_lda _ _ rfl hS) ?_) | refine wpList_stp rfl (stp_val (run_ld0 _ _ rfl hS) ?_) | refine wpList_stp rfl (stp_val (run_lda0 _ _ rfl hS) ?_))) | (refine wpList_is (.store _ _ _) rfl ?_; go_must (first | refine wpList_stp rfl (stp_st _ _ _ rfl hS ?_) | refine wpList_stp rfl (stp_sta _ _ _ rfl hS ?_)); clear hS; intro w hS) | (refine wpList_is (.alloc _) rfl ?_; go_must (refine wpList_stp rfl (stp_al _ rfl hS ?_)); clear hS; intro bN w hbN hS) | (refine wpList_is (.box _ _) rfl ?_; go_must (refine wpList_stp rfl (stp_bx _ _ rfl hS ?_)); clear hS; intro bN w hbN hS) | (refine wpList_is (.binOp .eql _ _ (.const (.slice none _ _)) _) rfl ?_; refine wpList_stp rfl (stp_val (run_nse _ _ _ rfl) ?_)) | (refine wpList_is (.binOp .neq _ _ (.const (.slice none _ _)) _) rfl ?_; refine wpList_stp rfl (stp_val (run_nsn _ _ _ rfl) ?_)) | (refine region_quiet hS (by kernel_rfl) (by kernel_rfl) (fun hne => ?_); (repeat (first | go_big_quiet_skip | (go_big_quiet_want; first | (refine quiet_is (.load _ _) rfl ?_; go_must (first | refine quiet_at sw_st (fun w hS => run_ld _ _ rfl hS) ?_ | refine quiet_at sw_st (fun w hS => run_lda _ _ rfl hS) ?_ | refine quiet_at sw_st (fun w hS => run_ld0 _ _ rfl hS) ?_ | refine quiet_at sw_st (fun w hS => run_lda0 _ _ rfl hS) ?_); go_big_quiet_on) | (refine quiet_is (.binOp .eql _ _ (.const (.slice none _ _)) _) rfl ?_; refine quiet_val (fun w _ => run_nse _ _ _ rfl) ?_; go_big_quiet_on) | (refine quiet_is (.binOp .neq _ _ (.const (.slice none _ _)) _) rfl ?_; refine quiet_val (fun w _ => run_nsn _ _ _ rfl) ?_; go_big_quiet_on) | (refine quiet_is (.call { callee := .builtin .len, args := #[_], argTypes := #[_] }) rfl ?_; refine quiet_val (fun w _ => run_lenv _ _ rfl) ?_; go_big_quiet_on) | (refine quiet_is (.indexAddr _ _ _) rfl ?_; refine quiet_val (fun w _ => run_idxv _ _ _ rfl) ?_; go_big_quiet_on) | (refine quiet_is (.binOp .eql _ _ _ _) rfl ?_; refine quiet_val (fun w _ => run_aeq _ _ _ _ rfl) ?_; go_big_quiet_on) | (refine quiet_is (.binOp .neq _ _ _ _) rfl ?_; refine quiet_val (fun w _ => run_ane _ _ _ _ rfl) ?_; go_big_quiet_on) | (go_big_quiet_op; go_big_quiet_on)))); refine wpQuiet_nil ?_; clear hS hne; intro w hS))
            exact hR _ hS.chg
    · have hkm : k = m := by omega
      have hstop : k = m ∨ (l.getD k (0, 0, 0)).2.1 ≠ (k : Nat) := .inl hkm
      have e3 : decide (k < m) = false := decide_eq_false hlk
      by_cases hroom : m < idB a ∧ u + (1 + n' % 4100) ≤ 1 + b % 4000
      · obtain ⟨hp1, hp2, hp3⟩ := low_is hI (n := 1 + n' % 4100) (by omega) ⟨by rw [hl, hm]; exact hroom.1, by rw [huL]; exact hroom.2⟩ (lw := k) (by rw [hl, hm]; exact hk) (by rw [hl]; exact hlo) (by rw [hl, hm]; exact hstop)
        obtain ⟨g, hg⟩ : ∃ g, (L.getD k (0, 0, 0)).2.1 = g := ⟨_, rfl⟩
        have t1 : piT (some (some (1 + b % 4000, L))) (1 + n' % 4100) = some (some (1 + b % 4000, piN L k (1 + n' % 4100))) := by rw [piT_L]; simp only [piL, hp1]
        have t2 : piE (some (some (1 + b % 4000, L))) (1 + n' % 4100) = 0 := by
          simp only [piE, hp1, Option.isSome_some, if_true]
          rw [if_pos (by simp only [Bool.and_eq_true, decide_eq_true_eq]; omega)]
        have t3 : piR (some (some (1 + b % 4000, L))) (1 + n' % 4100) = (2, (k : Int), g) := by simp only [piR, hp1, hg]
        have t4 : usP (some (some (1 + b % 4000, piN L k (1 + n' % 4100)))) = u + (1 + n' % 4100) := by rw [← huL, ← hp2]; rfl
        have t5 : (allP (some (some (1 + b % 4000, piN L k (1 + n' % 4100))))).length = m + 1 := by rw [allP_L, hp3, hl, hm]
        have t1' := Lib.hid t1
        have t2' := Lib.hid t2
        have t3' := Lib.hid t3
        have t4' := Lib.hid t4
        have t5' := Lib.hid t5
        have d1 : decide (m < idB a) = true := decide_eq_true (by omega)
        have d1' : decide ((m : Int) < (idB a : Int)) = true := decide_eq_true (by omega)
        have d2 : decide (u + (1 + n' % 4100) ≤ 1 + b % 4000) = true := decide_eq_true hroom.2
        have d3 : (((m + 1 : Nat) : Int) == (m : Int) + 1) = true := by simp
        have d4 : decide (((m + 1 : Nat) : Int) = (m : Int) + 1) = true := decide_eq_true (by omega)
        clear t1 t2 t3 t4 t5 hp1 hp2 hp3 hg hI hl huL hm hroom hlo hk
        go_wp2_with (first
          | go_skip
          | (refine wpList_is (.alloc 36) rfl ?_; go_must (refine wpList_stp rfl (stp_al _ rfl hS ?_)); clear hS; intro bo w _ hS)
          | (go_at_call 12; (with_reducible refine pb_pin hS hT (1 + n' % 4100) _ 0 (2, (k : Int), g) t1'.out t2'.out t3'.out ?_); clear hS hT; intro E1 w hT hS; unfold Ret)
          | (go_at_call 15; refine pb_used hS hT _ t4'.out ?_; clear hS; intro w hS; unfold Ret)
          | (go_at_call 16; refine pb_len hS hT _ t5'.out ?_; clear hS; intro w hS; unfold Ret)
          | (go_at_call 10; refine works_ok hS ?_; clear hS; intro w hS; unfold Ret) | go_skip | (refine wpList_is (.call { callee := .builtin .len, args := #[_], argTypes := #[_] }) rfl ?_; refine wpList_stp rfl (stp_val (run_lenv _ _ rfl) ?_)) | (refine wpList_is (.slice _ _ none (some _) none) rfl ?_; refine wpList_stp rfl (stp_val (run_prev _ _ _ rfl) ?_)) | (refine wpList_is (.indexAddr _ _ _) rfl ?_; refine wpList_stp rfl (stp_val (run_idxv _ _ _ rfl) ?_)) | go_skip | (refine wpList_is (.build _ _) rfl ?_; go_must (refine wpList_stp rfl (stp_val (run_bd _ _ rfl) ?_))) | (refine wpList_is (.call { callee := .builtin .clear, args := #[_], argTypes := #[_] }) rfl ?_; go_must (refine wpList_stp rfl (stp_cl _ _ rfl hS (by decide) ?_)); clear hS; intro w hS) | (refine wpList_is (.load _ _) rfl ?_; go_must (first | refine wpList_stp rfl (stp_val (run_ld _ _ rfl hS) ?_) | refine wpList_stp rfl (stp_val (run_lda _ _ rfl hS) ?_) | refine wpList_stp rfl (stp_val (run_ld0 _ _ rfl hS) ?_) | refine wpList_stp rfl (stp_val (run_lda0 _ _ rfl hS) ?_))) | (refine wpList_is (.store _ _ _) rfl ?_; go_must (first | refine wpList_stp rfl (stp_st _ _ _ rfl hS ?_) | refine wpList_stp rfl (stp_sta _ _ _ rfl hS ?_)); clear hS; intro w hS) | (refine wpList_is (.alloc _) rfl ?_; go_must (refine wpList_stp rfl (stp_al _ rfl hS ?_)); clear hS; intro bN w hbN hS) | (refine wpList_is (.box _ _) rfl ?_; go_must (refine wpList_stp rfl (stp_bx _ _ rfl hS ?_)); clear hS; intro bN w hbN hS) | (refine wpList_is (.binOp .eql _ _ (.const (.slice none _ _)) _) rfl ?_; refine wpList_stp rfl (stp_val (run_nse _ _ _ rfl) ?_)) | (refine wpList_is (.binOp .neq _ _ (.const (.slice none _ _)) _) rfl ?_; refine wpList_stp rfl (stp_val (run_nsn _ _ _ rfl) ?_)) | (refine region_quiet hS (by kernel_rfl) (by kernel_rfl) (fun hne => ?_); (repeat (first | go_big_quiet_skip | (go_big_quiet_want; first | (refine quiet_is (.load _ _) rfl ?_; go_must (first | refine quiet_at sw_st (fun w hS => run_ld _ _ rfl hS) ?_ | refine quiet_at sw_st (fun w hS => run_lda _ _ rfl hS) ?_ | refine quiet_at sw_st (fun w hS => run_ld0 _ _ rfl hS) ?_ | refine quiet_at sw_st (fun w hS => run_lda0 _ _ rfl hS) ?_); go_big_quiet_on) | (refine quiet_is (.binOp .eql _ _ (.const (.slice none _ _)) _) rfl ?_; refine quiet_val (fun w _ => run_nse _ _ _ rfl) ?_; go_big_quiet_on) | (refine quiet_is (.binOp .neq _ _ (.const (.slice none _ _)) _) rfl ?_; refine quiet_val (fun w _ => run_nsn _ _ _ rfl) ?_; go_big_quiet_on) | (refine quiet_is (.call { callee := .builtin .len, args := #[_], argTypes := #[_] }) rfl ?_; refine quiet_val (fun w _ => run_lenv _ _ rfl) ?_; go_big_quiet_on) | (refine quiet_is (.indexAddr _ _ _) rfl ?_; refine quiet_val (fun w _ => run_idxv _ _ _ rfl) ?_; go_big_quiet_on) | (refine quiet_is (.binOp .eql _ _ _ _) rfl ?_; refine quiet_val (fun w _ => run_aeq _ _ _ _ rfl) ?_; go_big_quiet_on) | (refine quiet_is (.binOp .neq _ _ _ _) rfl ?_; refine quiet_val (fun w _ => run_ane _ _ _ _ rfl) ?_; go_big_quiet_on) | (go_big_quiet_op; go_big_quiet_on)))); refine wpQuiet_nil ?_; clear hS hne; intro w hS))
        exact hR _ hS.chg
      · have hp1 := room_no hI (n := 1 + n' % 4100) (by omega) (fun h => hroom ⟨by rw [hl, hm] at h; exact h.1, by rw [huL] at h; exact h.2⟩)
        have t1 : piT (some (some (1 + b % 4000, L))) (1 + n' % 4100) = some (some (1 + b % 4000, L)) := by rw [piT_L]; simp only [piL, hp1]
        have t2 : piE (some (some (1 + b % 4000, L))) (1 + n' % 4100) = 4 := by
          simp only [piE, hp1, Option.isSome_none, Bool.false_eq_true, if_false]
          rw [if_pos (by simp only [Bool.and_eq_true, decide_eq_true_eq]; omega)]
        have t3 : piR (some (some (1 + b % 4000, L))) (1 + n' % 4100) = (0, 0, 0) := by simp only [piR, hp1]
        have t1' := Lib.hid t1
        have t2' := Lib.hid t2
        have t3' := Lib.hid t3
        have q0 := outE (outB_self 0 0 0)
        clear t1 t2 t3 hp1
        by_cases hmn : m < idB a
        · have d1 : decide (m < idB a) = true := decide_eq_true (by omega)
          have d1' : decide ((m : Int) < (idB a : Int)) = true := decide_eq_true (by omega)
          have d2 : decide (u + (1 + n' % 4100) ≤ 1 + b % 4000) = false := decide_eq_false (fun h => hroom ⟨hmn, h⟩)
          clear hroom hI hl huL hm hlo hk hmn
          go_wp2_with (first
            | go_skip
            | (refine wpList_is (.alloc 36) rfl ?_; go_must (refine wpList_stp rfl (stp_al _ rfl hS ?_)); clear hS; intro bo w _ hS)
            | (go_at_call 12; (with_reducible refine pb_pin hS hT (1 + n' % 4100) _ 4 (0, 0, 0) t1'.out t2'.out t3'.out ?_); clear hS hT; intro E1 w hT hS; unfold Ret)
            | (go_at_call 15; refine pb_used hS hT u hu'.out ?_; clear hS; intro w hS; unfold Ret)
            | (go_at_call 16; refine pb_len hS hT m hln'.out ?_; clear hS; intro w hS; unfold Ret)
            | (go_at_call 10; refine works_ok hS ?_; clear hS; intro w hS; unfold Ret) | (refine wpList_is (.binOp .eql _ _ _ _) rfl ?_; refine wpList_stp rfl (stp_val (run_aeq _ _ _ _ rfl) ?_)) | (refine wpList_is (.binOp .neq _ _ _ _) rfl ?_; refine wpList_stp rfl (stp_val (run_ane _ _ _ _ rfl) ?_)) | go_skip | (refine wpList_is (.call { callee := .builtin .len, args := #[_], argTypes := #[_] }) rfl ?_; refine wpList_stp rfl (stp_val (run_lenv _ _ rfl) ?_)) | (refine wpList_is (.slice _ _ none (some _) none) rfl ?_; refine wpList_stp rfl (stp_val (run_prev _ _ _ rfl) ?_)) | (refine wpList_is (.indexAddr _ _ _) rfl ?_; refine wpList_stp rfl (stp_val (run_idxv _ _ _ rfl) ?_)) | go_skip | (refine wpList_is (.build _ _) rfl ?_; go_must (refine wpList_stp rfl (stp_val (run_bd _ _ rfl) ?_))) | (refine wpList_is (.call { callee := .builtin .clear, args := #[_], argTypes := #[_] }) rfl ?_; go_must (refine wpList_stp rfl (stp_cl _ _ rfl hS (by decide) ?_)); clear hS; intro w hS) | (refine wpList_is (.load _ _) rfl ?_; go_must (first | refine wpList_stp rfl (stp_val (run_ld _ _ rfl hS) ?_) | refine wpList_stp rfl (stp_val (run_lda _ _ rfl hS) ?_) | refine wpList_stp rfl (stp_val (run_ld0 _ _ rfl hS) ?_) | refine wpList_stp rfl (stp_val (run_lda0 _ _ rfl hS) ?_))) | (refine wpList_is (.store _ _ _) rfl ?_; go_must (first | refine wpList_stp rfl (stp_st _ _ _ rfl hS ?_) | refine wpList_stp rfl (stp_sta _ _ _ rfl hS ?_)); clear hS; intro w hS) | (refine wpList_is (.alloc _) rfl ?_; go_must (refine wpList_stp rfl (stp_al _ rfl hS ?_)); clear hS; intro bN w hbN hS) | (refine wpList_is (.box _ _) rfl ?_; go_must (refine wpList_stp rfl (stp_bx _ _ rfl hS ?_)); clear hS; intro bN w hbN hS) | (refine wpList_is (.binOp .eql _ _ (.const (.slice none _ _)) _) rfl ?_; refine wpList_stp rfl (stp_val (run_nse _ _ _ rfl) ?_)) | (refine wpList_is (.binOp .neq _ _ (.const (.slice none _ _)) _) rfl ?_; refine wpList_stp rfl (stp_val (run_nsn _ _ _ rfl) ?_)) | (refine region_quiet hS (by kernel_rfl) (by kernel_rfl) (fun hne => ?_); (repeat (first | go_big_quiet_skip | (go_big_quiet_want; first | (refine quiet_is (.load _ _) rfl ?_; go_must (first | refine quiet_at sw_st (fun w hS => run_ld _ _ rfl hS) ?_ | refine quiet_at sw_st (fun w hS => run_lda _ _ rfl hS) ?_ | refine quiet_at sw_st (fun w hS => run_ld0 _ _ rfl hS) ?_ | refine quiet_at sw_st (fun w hS => run_lda0 _ _ rfl hS) ?_); go_big_quiet_on) | (refine quiet_is (.binOp .eql _ _ (.const (.slice none _ _)) _) rfl ?_; refine quiet_val (fun w _ => run_nse _ _ _ rfl) ?_; go_big_quiet_on) | (refine quiet_is (.binOp .neq _ _ (.const (.slice none _ _)) _) rfl ?_; refine quiet_val (fun w _ => run_nsn _ _ _ rfl) ?_; go_big_quiet_on) | (refine quiet_is (.call { callee := .builtin .len, args := #[_], argTypes := #[_] }) rfl ?_; refine quiet_val (fun w _ => run_lenv _ _ rfl) ?_; go_big_quiet_on) | (refine quiet_is (.indexAddr _ _ _) rfl ?_; refine quiet_val (fun w _ => run_idxv _ _ _ rfl) ?_; go_big_quiet_on) | (refine quiet_is (.binOp .eql _ _ _ _) rfl ?_; refine quiet_val (fun w _ => run_aeq _ _ _ _ rfl) ?_; go_big_quiet_on) | (refine quiet_is (.binOp .neq _ _ _ _) rfl ?_; refine quiet_val (fun w _ => run_ane _ _ _ _ rfl) ?_; go_big_quiet_on) | (go_big_quiet_op; go_big_quiet_on)))); refine wpQuiet_nil ?_; clear hS hne; intro w hS))
          exact hR _ hS.chg
        · have d1 : decide (m < idB a) = false := decide_eq_false (by omega)
          have d1' : decide ((m : Int) < (idB a : Int)) = false := decide_eq_false (by omega)
          clear hroom hI hl huL hm hlo hk hmn
          go_wp2_with (first
            | go_skip
            | (refine wpList_is (.alloc 36) rfl ?_; go_must (refine wpList_stp rfl (stp_al _ rfl hS ?_)); clear hS; intro bo w _ hS)
            | (go_at_call 12; (with_reducible refine pb_pin hS hT (1 + n' % 4100) _ 4 (0, 0, 0) t1'.out t2'.out t3'.out ?_); clear hS hT; intro E1 w hT hS; unfold Ret)
            | (go_at_call 15; refine pb_used hS hT u hu'.out ?_; clear hS; intro w hS; unfold Ret)
            | (go_at_call 16; refine pb_len hS hT m hln'.out ?_; clear hS; intro w hS; unfold Ret)
            | (go_at_call 10; refine works_ok hS ?_; clear hS; intro w hS; unfold Ret) | (refine wpList_is (.binOp .eql _ _ _ _) rfl ?_; refine wpList_stp rfl (stp_val (run_aeq _ _ _ _ rfl) ?_)) | (refine wpList_is (.binOp .neq _ _ _ _) rfl ?_; refine wpList_stp rfl (stp_val (run_ane _ _ _ _ rfl) ?_)) | go_skip | (refine wpList_is (.call { callee := .builtin .len, args := #[_], argTypes := #[_] }) rfl ?_; refine wpList_stp rfl (stp_val (run_lenv _ _ rfl) ?_)) | (refine wpList_is (.slice _ _ none (some _) none) rfl ?_; refine wpList_stp rfl (stp_val (run_prev _ _ _ rfl) ?_)) | (refine wpList_is (.indexAddr _ _ _) rfl ?_; refine wpList_stp rfl (stp_val (run_idxv _ _ _ rfl) ?_)) | go_skip | (refine wpList_is (.build _ _) rfl ?_; go_must (refine wpList_stp rfl (stp_val (run_bd _ _ rfl) ?_))) | (refine wpList_is (.call { callee := .builtin .clear, args := #[_], argTypes := #[_] }) rfl ?_; go_must (refine wpList_stp rfl (stp_cl _ _ rfl hS (by decide) ?_)); clear hS; intro w hS) | (refine wpList_is (.load _ _) rfl ?_; go_must (first | refine wpList_stp rfl (stp_val (run_ld _ _ rfl hS) ?_) | refine wpList_stp rfl (stp_val (run_lda _ _ rfl hS) ?_) | refine wpList_stp rfl (stp_val (run_ld0 _ _ rfl hS) ?_) | refine wpList_stp rfl (stp_val (run_lda0 _ _ rfl hS) ?_))) | (refine wpList_is (.store _ _ _) rfl ?_; go_must (first | refine wpList_stp rfl (stp_st _ _ _ rfl hS ?_) | refine wpList_stp rfl (stp_sta _ _ _ rfl hS ?_)); clear hS; intro w hS) | (refine wpList_is (.alloc _) rfl ?_; go_must (refine wpList_stp rfl (stp_al _ rfl hS ?_)); clear hS; intro bN w hbN hS) | (refine wpList_is (.box _ _) rfl ?_; go_must (refine wpList_stp rfl (stp_bx _ _ rfl hS ?_)); clear hS; intro bN w hbN hS) | (refine wpList_is (.binOp .eql _ _ (.const (.slice none _ _)) _) rfl ?_; refine wpList_stp rfl (stp_val (run_nse _ _ _ rfl) ?_)) | (refine wpList_is (.binOp .neq _ _ (.const (.slice none _ _)) _) rfl ?_; refine wpList_stp rfl (stp_val (run_nsn _ _ _ rfl) ?_)) | (refine region_quiet hS (by kernel_rfl) (by kernel_rfl) (fun hne => ?_); (repeat (first | go_big_quiet_skip | (go_big_quiet_want; first | (refine quiet_is (.load _ _) rfl ?_; go_must (first | refine quiet_at sw_st (fun w hS => run_ld _ _ rfl hS) ?_ | refine quiet_at sw_st (fun w hS => run_lda _ _ rfl hS) ?_ | refine quiet_at sw_st (fun w hS => run_ld0 _ _ rfl hS) ?_ | refine quiet_at sw_st (fun w hS => run_lda0 _ _ rfl hS) ?_); go_big_quiet_on) | (refine quiet_is (.binOp .eql _ _ (.const (.slice none _ _)) _) rfl ?_; refine quiet_val (fun w _ => run_nse _ _ _ rfl) ?_; go_big_quiet_on) | (refine quiet_is (.binOp .neq _ _ (.const (.slice none _ _)) _) rfl ?_; refine quiet_val (fun w _ => run_nsn _ _ _ rfl) ?_; go_big_quiet_on) | (refine quiet_is (.call { callee := .builtin .len, args := #[_], argTypes := #[_] }) rfl ?_; refine quiet_val (fun w _ => run_lenv _ _ rfl) ?_; go_big_quiet_on) | (refine quiet_is (.indexAddr _ _ _) rfl ?_; refine quiet_val (fun w _ => run_idxv _ _ _ rfl) ?_; go_big_quiet_on) | (refine quiet_is (.binOp .eql _ _ _ _) rfl ?_; refine quiet_val (fun w _ => run_aeq _ _ _ _ rfl) ?_; go_big_quiet_on) | (refine quiet_is (.binOp .neq _ _ _ _) rfl ?_; refine quiet_val (fun w _ => run_ane _ _ _ _ rfl) ?_; go_big_quiet_on) | (go_big_quiet_op; go_big_quiet_on)))); refine wpQuiet_nil ?_; clear hS hne; intro w hS))
          exact hR _ hS.chg
end Go.Proofs.Ytmhldlcjfmnkpaa
