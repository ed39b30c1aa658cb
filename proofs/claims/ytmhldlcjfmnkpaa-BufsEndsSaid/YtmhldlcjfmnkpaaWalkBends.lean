/-
  The walk of BufsEnds.
-/
import Derived.Test.YtmhldlcjfmnkpaaEnds
import Derived.Test.YtmhldlcjfmnkpaaFillW
set_option linter.unusedSimpArgs false
set_option linter.unusedVariables false
namespace Go.Proofs.Ytmhldlcjfmnkpaa
open Go.RowKit Go.Mm
variable {R : Ending → World → Prop}

/-- What an id holds before its k-th pinning. -/
def stK (g k : Nat) : Bf := if k ≤ g then (0, 4294967295 - (g : Int) + k, 0) else (2, 4294967295, 0)
theorem ou_all {n : Nat} {f : Int} : (allP (some (some (100, ouL n n f)))).length = 0 := by
  show ((tkP (ouL n n f)).map outOf).length = 0
  have : tkP (ouL n n f) = [] := by
    unfold tkP tkL stL gl
    rw [List.map_eq_nil_iff, List.filter_eq_nil_iff]
    intro j hj
    rw [List.mem_range, tbB_len] at hj
    simp only [ouL, Nat.sub_self, List.replicate_zero, List.append_nil, List.length_replicate] at hj
    rw [isSt, tbB_get]
    simp [ouL, List.getD_eq_getElem?_getD, hj]
  rw [this]; rfl

set_option maxHeartbeats 1000000 in
set_option maxRecDepth 100000 in
theorem walk_bends {W : World} (a : Int) (wa : (Lit.int .u8 a).wf = true) (b : Int) (wb : (Lit.int .u8 b).wf = true) (hR : ∀ w', Chg W w' [] → Ret R (.bool true) w') :
    Calls Try.prog 5 #[.int .u8 a, .int .u8 b] W R := by
  have hS : St W [] W [] := St.start0
  obtain ⟨a0, a1⟩ := bounds_u8 wa
  obtain ⟨b0, b1⟩ := bounds_u8 wb
  obtain ⟨n, hn⟩ : ∃ n : Nat, 1 + a % 64 = n := ⟨(1 + a % 64).toNat, (Int.toNat_of_nonneg (by omega)).symm⟩
  obtain ⟨g, hg⟩ : ∃ g : Nat, b % 6 = g := ⟨(b % 6).toNat, (Int.toNat_of_nonneg (by omega)).symm⟩
  have hn64 : 1 ≤ n ∧ n ≤ 64 := by omega
  have hg6 : g < 6 := by omega
  have hok : nwOkB n 100 (4294967295 - g) = true := by
    unfold nwOkB
    simp only [Bool.and_eq_true, decide_eq_true_eq]
    omega
  have hnw : nwB n 100 (4294967295 - g) = some (some (100, ouL n 0 (4294967295 - g))) := by
    unfold nwB ouL
    rw [if_pos hok]
    simp
  have hne : nwBE n 100 (4294967295 - g) = 0 := by unfold nwBE; rw [if_pos hok]
  have hnw' := Lib.hid hnw
  have hne' := Lib.hid hne
  clear hok hnw hne
  go_enter Try.func5, Try.ntmps5
  go_wp2_with (first | go_skip | (go_at_call 11; go_must (with_reducible refine pb_new hS n 100 (4294967295 - g) (by omega) _ 0 hnw'.out hne'.out ?_); clear hS; intro p E1 w hT hS; have hpn := hT.nil; unfold Ret) | go_skip | (refine wpList_is (.build _ _) rfl ?_; go_must (refine wpList_stp rfl (stp_val (run_bd _ _ rfl) ?_))) | (refine wpList_is (.call { callee := .builtin .clear, args := #[_], argTypes := #[_] }) rfl ?_; go_must (refine wpList_stp rfl (stp_cl _ _ rfl hS (by decide) ?_)); clear hS; intro w hS) | (refine wpList_is (.load _ _) rfl ?_; go_must (first | refine wpList_stp rfl (stp_val (run_ld _ _ rfl hS) ?_) | refine wpList_stp rfl (stp_val (run_lda _ _ rfl hS) ?_) | refine wpList_stp rfl (stp_val (run_ld0 _ _ rfl hS) ?_) | refine wpList_stp rfl (stp_val (run_lda0 _ _ rfl hS) ?_))) | (refine wpList_is (.store _ _ _) rfl ?_; go_must (first | refine wpList_stp rfl (stp_st _ _ _ rfl hS ?_) | refine wpList_stp rfl (stp_sta _ _ _ rfl hS ?_)); clear hS; intro w hS) | (refine wpList_is (.alloc _) rfl ?_; go_must (refine wpList_stp rfl (stp_al _ rfl hS ?_)); clear hS; intro bN w hbN hS) | (refine wpList_is (.box _ _) rfl ?_; go_must (refine wpList_stp rfl (stp_bx _ _ rfl hS ?_)); clear hS; intro bN w hbN hS) | (refine wpList_is (.binOp .eql _ _ (.const (.slice none _ _)) _) rfl ?_; refine wpList_stp rfl (stp_val (run_nse _ _ _ rfl) ?_)) | (refine wpList_is (.binOp .neq _ _ (.const (.slice none _ _)) _) rfl ?_; refine wpList_stp rfl (stp_val (run_nsn _ _ _ rfl) ?_)) | (refine region_quiet hS (by kernel_rfl) (by kernel_rfl) (fun hne => ?_); (repeat (first | go_big_quiet_skip | (go_big_quiet_want; first | (refine quiet_is (.load _ _) rfl ?_; go_must (first | refine quiet_at sw_st (fun w hS => run_ld _ _ rfl hS) ?_ | refine quiet_at sw_st (fun w hS => run_lda _ _ rfl hS) ?_ | refine quiet_at sw_st (fun w hS => run_ld0 _ _ rfl hS) ?_ | refine quiet_at sw_st (fun w hS => run_lda0 _ _ rfl hS) ?_); go_big_quiet_on) | (refine quiet_is (.binOp .eql _ _ (.const (.slice none _ _)) _) rfl ?_; refine quiet_val (fun w _ => run_nse _ _ _ rfl) ?_; go_big_quiet_on) | (refine quiet_is (.binOp .neq _ _ (.const (.slice none _ _)) _) rfl ?_; refine quiet_val (fun w _ => run_nsn _ _ _ rfl) ?_; go_big_quiet_on) | (refine quiet_is (.call { callee := .builtin .len, args := #[_], argTypes := #[_] }) rfl ?_; refine quiet_val (fun w _ => run_lenv _ _ rfl) ?_; go_big_quiet_on) | (refine quiet_is (.indexAddr _ _ _) rfl ?_; refine quiet_val (fun w _ => run_idxv _ _ _ rfl) ?_; go_big_quiet_on) | (refine quiet_is (.binOp .eql _ _ _ _) rfl ?_; refine quiet_val (fun w _ => run_aeq _ _ _ _ rfl) ?_; go_big_quiet_on) | (refine quiet_is (.binOp .neq _ _ _ _) rfl ?_; refine quiet_val (fun w _ => run_ane _ _ _ _ rfl) ?_; go_big_quiet_on) | (go_big_quiet_op; go_big_quiet_on)))); refine wpQuiet_nil ?_; clear hS hne; intro w hS))
  clear hpn hnw' hne'
  go_loopw [9, 10, 11, 12] (fun u _ _ _ wr => ∃ (id : Nat) (E1 : List Ent), id ≤ n ∧ u = .int .i64 id ∧ PA p (some (some (100, ouL n id (4294967295 - g)))) E1 ∧ St W [] wr E1) (fun u _ _ _ _ => n - (intOf u).toNat)
  case atStart => exact ⟨0, E1, Nat.zero_le _, rfl, hT, hS.pick⟩
  case round =>
    clear hS hT
    obtain ⟨id, E1, hid, rfl, hT, hS⟩ := hrel
    by_cases hlt : id < n
    · rw [ouL_en hlt] at hT
      have hT : PA p (some (some (100, enL n id (4294967295 - g) (stK g 0)))) E1 := by
        unfold stK
        rw [if_pos (Nat.zero_le _)]
        simpa using hT
      go_wp2_with (first | go_skip | go_skip | (refine wpList_is (.build _ _) rfl ?_; go_must (refine wpList_stp rfl (stp_val (run_bd _ _ rfl) ?_))) | (refine wpList_is (.call { callee := .builtin .clear, args := #[_], argTypes := #[_] }) rfl ?_; go_must (refine wpList_stp rfl (stp_cl _ _ rfl hS (by decide) ?_)); clear hS; intro w hS) | (refine wpList_is (.load _ _) rfl ?_; go_must (first | refine wpList_stp rfl (stp_val (run_ld _ _ rfl hS) ?_) | refine wpList_stp rfl (stp_val (run_lda _ _ rfl hS) ?_) | refine wpList_stp rfl (stp_val (run_ld0 _ _ rfl hS) ?_) | refine wpList_stp rfl (stp_val (run_lda0 _ _ rfl hS) ?_))) | (refine wpList_is (.store _ _ _) rfl ?_; go_must (first | refine wpList_stp rfl (stp_st _ _ _ rfl hS ?_) | refine wpList_stp rfl (stp_sta _ _ _ rfl hS ?_)); clear hS; intro w hS) | (refine wpList_is (.alloc _) rfl ?_; go_must (refine wpList_stp rfl (stp_al _ rfl hS ?_)); clear hS; intro bN w hbN hS) | (refine wpList_is (.box _ _) rfl ?_; go_must (refine wpList_stp rfl (stp_bx _ _ rfl hS ?_)); clear hS; intro bN w hbN hS) | (refine wpList_is (.binOp .eql _ _ (.const (.slice none _ _)) _) rfl ?_; refine wpList_stp rfl (stp_val (run_nse _ _ _ rfl) ?_)) | (refine wpList_is (.binOp .neq _ _ (.const (.slice none _ _)) _) rfl ?_; refine wpList_stp rfl (stp_val (run_nsn _ _ _ rfl) ?_)))
      obtain ⟨wo, rfl⟩ : ∃ wo : World, wo = w := ⟨_, rfl⟩
      go_loopw [10, 11, 12] (fun u _ _ wr => ∃ (k : Nat) (E1 : List Ent), k ≤ g + 1 ∧ u = .int .u32 k ∧ PA p (some (some (100, enL n id (4294967295 - g) (stK g k)))) E1 ∧ St W [] wr E1) (fun u _ _ _ => g + 1 - (intOf u).toNat)
      case atStart => exact ⟨0, E1, Nat.zero_le _, rfl, hT, hS.pick⟩
      case round =>
        clear hS hT
        obtain ⟨k, E1, hk, rfl, hT, hS⟩ := hrel
        by_cases hkg : k ≤ g
        · have hs : stK g k = (0, 4294967295 - (g : Int) + k, 0) := by unfold stK; rw [if_pos hkg]
          rw [hs] at hT
          have t1' := Lib.hid (en_piT (f := 4294967295 - (g : Int)) hlt (g := 4294967295 - (g : Int) + k))
          have t2' := Lib.hid (en_piE (f := 4294967295 - (g : Int)) hlt (g := 4294967295 - (g : Int) + k))
          have t3' := Lib.hid (en_piR (f := 4294967295 - (g : Int)) hlt (g := 4294967295 - (g : Int) + k))
          have t4' := Lib.hid (en_fd (f := 4294967295 - (g : Int)) hlt (g := 4294967295 - (g : Int) + k))
          have hup := en_upT (f := 4294967295 - (g : Int)) hlt (g := 4294967295 - (g : Int) + k)
          have hnx : (if 4294967295 - (g : Int) + k < 4294967295 then (0, 4294967295 - (g : Int) + k + 1, 0) else (2, 4294967295 - (g : Int) + k, 0) : Bf) = stK g (k + 1) := by
            unfold stK
            by_cases h : k + 1 ≤ g
            · rw [if_pos (by omega), if_pos h]
              have : 4294967295 - (g : Int) + k + 1 = 4294967295 - (g : Int) + ((k + 1 : Nat) : Int) := by omega
              rw [this]
            · rw [if_neg (by omega), if_neg h]
              have : 4294967295 - (g : Int) + k = 4294967295 := by omega
              rw [this]
          rw [hnx] at hup
          have t5' := Lib.hid hup
          have q5 := outE (outB_self 2 id (4294967295 - (g : Int) + k))
          have d1 : decide ((k : Int) ≤ (g : Int)) = true := decide_eq_true (by omega)
          clear hup hnx hs
          go_wp2_with (first
            | go_skip
            | (refine wpList_is (.alloc 36) rfl ?_; go_must (refine wpList_stp rfl (stp_al _ rfl hS ?_)); clear hS; intro bo w _ hS)
            | (go_at_call 12; (with_reducible refine pb_pin hS hT 1 _ 0 (2, (id : Int), 4294967295 - (g : Int) + k) t1'.out t2'.out t3'.out ?_); clear hS hT; intro E1 w hT hS; unfold Ret)
            | (go_at_call 13; (with_reducible refine pb_unpin hS hT 2 id (4294967295 - (g : Int) + k) _ 0 t5'.out t4'.out ?_); clear hS hT; intro E1 w hT hS; unfold Ret)
            | (refine wpList_is (.binOp .eql _ _ _ _) rfl ?_; refine wpList_stp rfl (stp_val (run_aeq _ _ _ _ rfl) ?_)) | (refine wpList_is (.binOp .neq _ _ _ _) rfl ?_; refine wpList_stp rfl (stp_val (run_ane _ _ _ _ rfl) ?_)) | go_skip | (refine wpList_is (.call { callee := .builtin .len, args := #[_], argTypes := #[_] }) rfl ?_; refine wpList_stp rfl (stp_val (run_lenv _ _ rfl) ?_)) | (refine wpList_is (.slice _ _ none (some _) none) rfl ?_; refine wpList_stp rfl (stp_val (run_prev _ _ _ rfl) ?_)) | (refine wpList_is (.indexAddr _ _ _) rfl ?_; refine wpList_stp rfl (stp_val (run_idxv _ _ _ rfl) ?_)) | go_skip | (refine wpList_is (.build _ _) rfl ?_; go_must (refine wpList_stp rfl (stp_val (run_bd _ _ rfl) ?_))) | (refine wpList_is (.call { callee := .builtin .clear, args := #[_], argTypes := #[_] }) rfl ?_; go_must (refine wpList_stp rfl (stp_cl _ _ rfl hS (by decide) ?_)); clear hS; intro w hS) | (refine wpList_is (.load _ _) rfl ?_; go_must (first | refine wpList_stp rfl (stp_val (run_ld _ _ rfl hS) ?_) | refine wpList_stp rfl (stp_val (run_lda _ _ rfl hS) ?_) | refine wpList_stp rfl (stp_val (run_ld0 _ _ rfl hS) ?_) | refine wpList_stp rfl (stp_val (run_lda0 _ _ rfl hS) ?_))) | (refine wpList_is (.store _ _ _) rfl ?_; go_must (first | refine wpList_stp rfl (stp_st _ _ _ rfl hS ?_) | refine wpList_stp rfl (stp_sta _ _ _ rfl hS ?_)); clear hS; intro w hS) | (refine wpList_is (.alloc _) rfl ?_; go_must (refine wpList_stp rfl (stp_al _ rfl hS ?_)); clear hS; intro bN w hbN hS) | (refine wpList_is (.box _ _) rfl ?_; go_must (refine wpList_stp rfl (stp_bx _ _ rfl hS ?_)); clear hS; intro bN w hbN hS) | (refine wpList_is (.binOp .eql _ _ (.const (.slice none _ _)) _) rfl ?_; refine wpList_stp rfl (stp_val (run_nse _ _ _ rfl) ?_)) | (refine wpList_is (.binOp .neq _ _ (.const (.slice none _ _)) _) rfl ?_; refine wpList_stp rfl (stp_val (run_nsn _ _ _ rfl) ?_)))
          go_roundw
          case rel => exact ⟨k + 1, E1, by omega, by go_num, hT, hS.pick⟩
          case measure => simp [intOf]; omega
        · have hk1 : k = g + 1 := by omega
          have hs : stK g k = (2, 4294967295, 0) := by unfold stK; rw [if_neg hkg]
          rw [hs, enL_ou hlt] at hT
          have d1 : decide ((k : Int) ≤ (g : Int)) = false := decide_eq_false (by omega)
          clear hs
          go_wp2_with (first | go_skip | go_skip | (refine wpList_is (.build _ _) rfl ?_; go_must (refine wpList_stp rfl (stp_val (run_bd _ _ rfl) ?_))) | (refine wpList_is (.call { callee := .builtin .clear, args := #[_], argTypes := #[_] }) rfl ?_; go_must (refine wpList_stp rfl (stp_cl _ _ rfl hS (by decide) ?_)); clear hS; intro w hS) | (refine wpList_is (.load _ _) rfl ?_; go_must (first | refine wpList_stp rfl (stp_val (run_ld _ _ rfl hS) ?_) | refine wpList_stp rfl (stp_val (run_lda _ _ rfl hS) ?_) | refine wpList_stp rfl (stp_val (run_ld0 _ _ rfl hS) ?_) | refine wpList_stp rfl (stp_val (run_lda0 _ _ rfl hS) ?_))) | (refine wpList_is (.store _ _ _) rfl ?_; go_must (first | refine wpList_stp rfl (stp_st _ _ _ rfl hS ?_) | refine wpList_stp rfl (stp_sta _ _ _ rfl hS ?_)); clear hS; intro w hS) | (refine wpList_is (.alloc _) rfl ?_; go_must (refine wpList_stp rfl (stp_al _ rfl hS ?_)); clear hS; intro bN w hbN hS) | (refine wpList_is (.box _ _) rfl ?_; go_must (refine wpList_stp rfl (stp_bx _ _ rfl hS ?_)); clear hS; intro bN w hbN hS) | (refine wpList_is (.binOp .eql _ _ (.const (.slice none _ _)) _) rfl ?_; refine wpList_stp rfl (stp_val (run_nse _ _ _ rfl) ?_)) | (refine wpList_is (.binOp .neq _ _ (.const (.slice none _ _)) _) rfl ?_; refine wpList_stp rfl (stp_val (run_nsn _ _ _ rfl) ?_)))
          go_roundw
          case rel => exact ⟨id + 1, E1, by omega, by go_num, hT, hS.pick⟩
          case measure => simp [intOf]; omega
    · obtain rfl : id = n := by omega
      have t1' := Lib.hid (ou_piT (n := id) (f := 4294967295 - (g : Int)))
      have t2' := Lib.hid (ou_piE (n := id) (f := 4294967295 - (g : Int)))
      have t3' := Lib.hid (ou_piR (n := id) (f := 4294967295 - (g : Int)))
      have t4' : Hid (usP (some (some (100, ouL id id (4294967295 - (g : Int))))) = 0) := Lib.hid ouL_us
      have t5' := Lib.hid (ou_all (n := id) (f := 4294967295 - (g : Int)))
      go_wp2_with (first
        | go_skip
        | (refine wpList_is (.alloc 36) rfl ?_; go_must (refine wpList_stp rfl (stp_al _ rfl hS ?_)); clear hS; intro bo w _ hS)
        | (go_at_call 12; (with_reducible refine pb_pin hS hT 1 _ 4 (0, 0, 0) t1'.out t2'.out t3'.out ?_); clear hS hT; intro E1 w hT hS; unfold Ret)
        | (go_at_call 15; refine pb_used hS hT 0 t4'.out ?_; clear hS; intro w hS; unfold Ret)
        | (go_at_call 16; refine pb_len hS hT 0 t5'.out ?_; clear hS; intro w hS; unfold Ret)
        | (go_at_call 10; refine works_ok hS ?_; clear hS; intro w hS; unfold Ret) | go_skip | (refine wpList_is (.call { callee := .builtin .len, args := #[_], argTypes := #[_] }) rfl ?_; refine wpList_stp rfl (stp_val (run_lenv _ _ rfl) ?_)) | (refine wpList_is (.slice _ _ none (some _) none) rfl ?_; refine wpList_stp rfl (stp_val (run_prev _ _ _ rfl) ?_)) | (refine wpList_is (.indexAddr _ _ _) rfl ?_; refine wpList_stp rfl (stp_val (run_idxv _ _ _ rfl) ?_)) | go_skip | (refine wpList_is (.build _ _) rfl ?_; go_must (refine wpList_stp rfl (stp_val (run_bd _ _ rfl) ?_))) | (refine wpList_is (.call { callee := .builtin .clear, args := #[_], argTypes := #[_] }) rfl ?_; go_must (refine wpList_stp rfl (stp_cl _ _ rfl hS (by decide) ?_)); clear hS; intro w hS) | (refine wpList_is (.load _ _) rfl ?_; go_must (first | refine wpList_stp rfl (stp_val (run_ld _ _ rfl hS) ?_) | refine wpList_stp rfl (stp_val (run_lda _ _ rfl hS) ?_) | refine wpList_stp rfl (stp_val (run_ld0 _ _ rfl hS) ?_) | refine wpList_stp rfl (stp_val (run_lda0 _ _ rfl hS) ?_))) | (refine wpList_is (.store _ _ _) rfl ?_; go_must (first | refine wpList_stp rfl (stp_st _ _ _ rfl hS ?_) | refine wpList_stp rfl (stp_sta _ _ _ rfl hS ?_)); clear hS; intro w hS) | (refine wpList_is (.alloc _) rfl ?_; go_must (refine wpList_stp rfl (stp_al _ rfl hS ?_)); clear hS; intro bN w hbN hS) | (refine wpList_is (.box _ _) rfl ?_; go_must (refine wpList_stp rfl (stp_bx _ _ rfl hS ?_)); clear hS; intro bN w hbN hS) | (refine wpList_is (.binOp .eql _ _ (.const (.slice none _ _)) _) rfl ?_; refine wpList_stp rfl (stp_val (run_nse _ _ _ rfl) ?_)) | (refine wpList_is (.binOp .neq _ _ (.const (.slice none _ _)) _) rfl ?_; refine wpList_stp rfl (stp_val (run_nsn _ _ _ rfl) ?_)))
      exact hR _ hS.chg
end Go.Proofs.Ytmhldlcjfmnkpaa
