/-
  The colours of slots: the document's paints, Grey and Counts; and what both paints show.
-/
import Derived.Test.YtgpjanfphgjbbaaGreatKRef
import Derived.Laws.BitsLemmas
set_option linter.unusedSimpArgs false
set_option linter.unusedVariables false
namespace Go.Proofs.YtgpjanfphgjbbaaGreat.Col
open Go.RowKit Go.Mm
variable {R : Ending → World → Prop} {w : World} {rb rc m cap : Nat} {L : List Int} {sp : List Value} {w0 : World} {bs : List Nat} {H H' H1 : List Ent}

theorem firstAt {p : Nat → Bool} {n i : Nat} (hi : i < n) (h0 : ∀ j, j < i → p j = false) (h1 : p i = true) : firstOf p n = some i := by
  refine first_some hi h1 ?_
  have : gl p i = [] := by
    unfold gl
    rw [List.filter_eq_nil_iff]
    intro j hj
    rw [h0 j (List.mem_range.1 hj)]
    simp
  rw [this]; rfl
theorem firstNo {p : Nat → Bool} {n : Nat} (h0 : ∀ j, j < n → p j = false) : firstOf p n = none := by
  refine first_none ?_
  unfold gl
  rw [List.filter_eq_nil_iff]
  intro j hj
  rw [h0 j (List.mem_range.1 hj)]
  simp

theorem rgrey_nil (f : Int) (hR : Ret R (.tuple #[.int .i64 0, .bool false]) w) : Calls Tryz.prog 69 #[.pointer none, .int .i64 f] w R := by
  go_enter Tryz.func69, Tryz.ntmps69
  go_wp2_with (first | (go_at_call 75; refine rcheck_nil _ ?_; unfold Ret))
  exact hR

theorem rgrey_ok {f : Int} (hO : St w0 bs w H) [hH : Has H rb #[.slice (some ⟨rc, 0, none⟩) m cap] 99] [hC : Has H rc (rowC L sp) 3] (hl : L.length = m) (hm : 0 < m) (hm2 : m ≤ 256)
    (hR : ∀ w', St w0 bs w' H → Ret R (.tuple #[.int .i64 ((firstOf (isGrey L f) m).getD 0 : Nat), .bool (firstOf (isGrey L f) m).isSome]) w') : Calls Tryz.prog 69 #[.pointer (some ⟨rb, 0, none⟩), .int .i64 f] w R := by
  have hS := hO
  go_enter Tryz.func69, Tryz.ntmps69
  go_wp2_with (first | (go_at_call 75; refine rcheck_ok (hS.has inferInstance) _ (by omega) (by omega) ?_; unfold Ret) | go_skip | (refine wpList_is (.build _ _) rfl ?_; go_must (refine wpList_stp (by kernel_rfl) (stp_val (run_bd _ _ rfl) ?_))) | (refine wpList_is (.call { callee := .builtin .clear, args := #[_], argTypes := #[_] }) rfl ?_; go_must (refine wpList_stp (by kernel_rfl) (stp_cl _ _ rfl hS (by decide) ?_)); clear hS; intro w hS) | (refine wpList_is (.load _ _) rfl ?_; go_must (first | refine wpList_stp (by kernel_rfl) (stp_val (run_ld _ _ rfl hS) ?_) | refine wpList_stp (by kernel_rfl) (stp_val (run_lda _ _ rfl hS) ?_) | refine wpList_stp (by kernel_rfl) (stp_val (run_ld0 _ _ rfl hS) ?_) | refine wpList_stp (by kernel_rfl) (stp_val (run_lda0 _ _ rfl hS) ?_))) | (refine wpList_is (.store _ _ _) rfl ?_; go_must (first | refine wpList_stp (by kernel_rfl) (stp_st _ _ _ rfl hS ?_) | refine wpList_stp (by kernel_rfl) (stp_sta _ _ _ rfl hS ?_)); clear hS; intro w hS) | (refine wpList_is (.alloc _) rfl ?_; go_must (refine wpList_stp (by kernel_rfl) (stp_al _ rfl hS ?_)); clear hS; intro bN w hbN hS) | (refine wpList_is (.box _ _) rfl ?_; go_must (refine wpList_stp (by kernel_rfl) (stp_bx _ _ rfl hS ?_)); clear hS; intro bN w hbN hS) | (refine wpList_is (.binOp .eql _ _ (.const (.slice none _ _)) _) rfl ?_; refine wpList_stp (by kernel_rfl) (stp_val (run_nse _ _ _ rfl) ?_)) | (refine wpList_is (.binOp .neq _ _ (.const (.slice none _ _)) _) rfl ?_; refine wpList_stp (by kernel_rfl) (stp_val (run_nsn _ _ _ rfl) ?_)) | (refine region_quiet hS (by kernel_rfl) (by kernel_rfl) (fun hne => ?_); (repeat (first | go_big_quiet_skip | (go_big_quiet_want; first | (refine quiet_is (.load _ _) rfl ?_; go_must (first | refine quiet_at sw_st (fun w hS => run_ld _ _ rfl hS) ?_ | refine quiet_at sw_st (fun w hS => run_lda _ _ rfl hS) ?_ | refine quiet_at sw_st (fun w hS => run_ld0 _ _ rfl hS) ?_ | refine quiet_at sw_st (fun w hS => run_lda0 _ _ rfl hS) ?_); go_big_quiet_on) | (refine quiet_is (.binOp .eql _ _ (.const (.slice none _ _)) _) rfl ?_; refine quiet_val (fun w _ => run_nse _ _ _ rfl) ?_; go_big_quiet_on) | (refine quiet_is (.binOp .neq _ _ (.const (.slice none _ _)) _) rfl ?_; refine quiet_val (fun w _ => run_nsn _ _ _ rfl) ?_; go_big_quiet_on) | (refine quiet_is (.call { callee := .builtin .len, args := #[_], argTypes := #[_] }) rfl ?_; refine quiet_val (fun w _ => run_lenv _ _ rfl) ?_; go_big_quiet_on) | (refine quiet_is (.indexAddr _ _ _) rfl ?_; refine quiet_val (fun w _ => run_idxv _ _ _ rfl) ?_; go_big_quiet_on) | (refine quiet_is (.binOp .eql _ _ _ _) rfl ?_; refine quiet_val (fun w _ => run_aeq _ _ _ _ rfl) ?_; go_big_quiet_on) | (refine quiet_is (.binOp .neq _ _ _ _) rfl ?_; refine quiet_val (fun w _ => run_ane _ _ _ _ rfl) ?_; go_big_quiet_on) | (go_big_quiet_op; go_big_quiet_on)))); refine wpQuiet_nil ?_; clear hS hne; intro w hS))
  go_loopw [6] (fun u wr => ∃ k : Nat, k ≤ m ∧ u = .int .i64 k ∧ (∀ j, j < k → isGrey L f j = false) ∧ St w0 bs wr H) (fun u _ => m - (intOf u).toNat)
  case atStart => exact ⟨0, Nat.zero_le _, rfl, fun j h => absurd h (Nat.not_lt_zero _), hS⟩
  case round =>
    clear hS
    obtain ⟨k, hk, rfl, hno, hS⟩ := hrel
    have hno' := Lib.hid hno
    have hR' := Lib.hid hR
    clear hno hR
    by_cases hlt : k < m
    · have g := rowAt (sp := sp) (show k < L.length by omega)
      obtain ⟨c, hc⟩ : ∃ c, L.getD k 0 = c := ⟨_, rfl⟩
      rw [hc] at g
      have hc' := Lib.hid hc
      clear hc
      by_cases hf : f ≤ (k : Int)
      · have q1 : decide (f ≤ (k : Int)) = true := by simpa using hf
        by_cases hc1 : c = 1
        · subst hc1
          have hg : isGrey L f k = true := by unfold isGrey; rw [hc'.out, q1]; rfl
          have e := Lib.hid (firstAt hlt hno'.out hg)
          clear hg
          go_wp2_with (first | go_skip | (refine wpList_is (.build _ _) rfl ?_; go_must (refine wpList_stp (by kernel_rfl) (stp_val (run_bd _ _ rfl) ?_))) | (refine wpList_is (.call { callee := .builtin .clear, args := #[_], argTypes := #[_] }) rfl ?_; go_must (refine wpList_stp (by kernel_rfl) (stp_cl _ _ rfl hS (by decide) ?_)); clear hS; intro w hS) | (refine wpList_is (.load _ _) rfl ?_; go_must (first | refine wpList_stp (by kernel_rfl) (stp_val (run_ld _ _ rfl hS) ?_) | refine wpList_stp (by kernel_rfl) (stp_val (run_lda _ _ rfl hS) ?_) | refine wpList_stp (by kernel_rfl) (stp_val (run_ld0 _ _ rfl hS) ?_) | refine wpList_stp (by kernel_rfl) (stp_val (run_lda0 _ _ rfl hS) ?_))) | (refine wpList_is (.store _ _ _) rfl ?_; go_must (first | refine wpList_stp (by kernel_rfl) (stp_st _ _ _ rfl hS ?_) | refine wpList_stp (by kernel_rfl) (stp_sta _ _ _ rfl hS ?_)); clear hS; intro w hS) | (refine wpList_is (.alloc _) rfl ?_; go_must (refine wpList_stp (by kernel_rfl) (stp_al _ rfl hS ?_)); clear hS; intro bN w hbN hS) | (refine wpList_is (.box _ _) rfl ?_; go_must (refine wpList_stp (by kernel_rfl) (stp_bx _ _ rfl hS ?_)); clear hS; intro bN w hbN hS) | (refine wpList_is (.binOp .eql _ _ (.const (.slice none _ _)) _) rfl ?_; refine wpList_stp (by kernel_rfl) (stp_val (run_nse _ _ _ rfl) ?_)) | (refine wpList_is (.binOp .neq _ _ (.const (.slice none _ _)) _) rfl ?_; refine wpList_stp (by kernel_rfl) (stp_val (run_nsn _ _ _ rfl) ?_)) | (refine region_quiet hS (by kernel_rfl) (by kernel_rfl) (fun hne => ?_); (repeat (first | go_big_quiet_skip | (go_big_quiet_want; first | (refine quiet_is (.load _ _) rfl ?_; go_must (first | refine quiet_at sw_st (fun w hS => run_ld _ _ rfl hS) ?_ | refine quiet_at sw_st (fun w hS => run_lda _ _ rfl hS) ?_ | refine quiet_at sw_st (fun w hS => run_ld0 _ _ rfl hS) ?_ | refine quiet_at sw_st (fun w hS => run_lda0 _ _ rfl hS) ?_); go_big_quiet_on) | (refine quiet_is (.binOp .eql _ _ (.const (.slice none _ _)) _) rfl ?_; refine quiet_val (fun w _ => run_nse _ _ _ rfl) ?_; go_big_quiet_on) | (refine quiet_is (.binOp .neq _ _ (.const (.slice none _ _)) _) rfl ?_; refine quiet_val (fun w _ => run_nsn _ _ _ rfl) ?_; go_big_quiet_on) | (refine quiet_is (.call { callee := .builtin .len, args := #[_], argTypes := #[_] }) rfl ?_; refine quiet_val (fun w _ => run_lenv _ _ rfl) ?_; go_big_quiet_on) | (refine quiet_is (.indexAddr _ _ _) rfl ?_; refine quiet_val (fun w _ => run_idxv _ _ _ rfl) ?_; go_big_quiet_on) | (refine quiet_is (.binOp .eql _ _ _ _) rfl ?_; refine quiet_val (fun w _ => run_aeq _ _ _ _ rfl) ?_; go_big_quiet_on) | (refine quiet_is (.binOp .neq _ _ _ _) rfl ?_; refine quiet_val (fun w _ => run_ane _ _ _ _ rfl) ?_; go_big_quiet_on) | (go_big_quiet_op; go_big_quiet_on)))); refine wpQuiet_nil ?_; clear hS hne; intro w hS))
          have := hR'.out
          rw [e.out] at this
          exact this _ hS
        · have q2 : (c == 1) = false := by simpa using hc1
          have hg : isGrey L f k = false := by unfold isGrey; rw [hc'.out, q2]; simp
          have hg' := Lib.hid hg
          clear hg
          go_wp2_with (first | go_skip | (refine wpList_is (.build _ _) rfl ?_; go_must (refine wpList_stp (by kernel_rfl) (stp_val (run_bd _ _ rfl) ?_))) | (refine wpList_is (.call { callee := .builtin .clear, args := #[_], argTypes := #[_] }) rfl ?_; go_must (refine wpList_stp (by kernel_rfl) (stp_cl _ _ rfl hS (by decide) ?_)); clear hS; intro w hS) | (refine wpList_is (.load _ _) rfl ?_; go_must (first | refine wpList_stp (by kernel_rfl) (stp_val (run_ld _ _ rfl hS) ?_) | refine wpList_stp (by kernel_rfl) (stp_val (run_lda _ _ rfl hS) ?_) | refine wpList_stp (by kernel_rfl) (stp_val (run_ld0 _ _ rfl hS) ?_) | refine wpList_stp (by kernel_rfl) (stp_val (run_lda0 _ _ rfl hS) ?_))) | (refine wpList_is (.store _ _ _) rfl ?_; go_must (first | refine wpList_stp (by kernel_rfl) (stp_st _ _ _ rfl hS ?_) | refine wpList_stp (by kernel_rfl) (stp_sta _ _ _ rfl hS ?_)); clear hS; intro w hS) | (refine wpList_is (.alloc _) rfl ?_; go_must (refine wpList_stp (by kernel_rfl) (stp_al _ rfl hS ?_)); clear hS; intro bN w hbN hS) | (refine wpList_is (.box _ _) rfl ?_; go_must (refine wpList_stp (by kernel_rfl) (stp_bx _ _ rfl hS ?_)); clear hS; intro bN w hbN hS) | (refine wpList_is (.binOp .eql _ _ (.const (.slice none _ _)) _) rfl ?_; refine wpList_stp (by kernel_rfl) (stp_val (run_nse _ _ _ rfl) ?_)) | (refine wpList_is (.binOp .neq _ _ (.const (.slice none _ _)) _) rfl ?_; refine wpList_stp (by kernel_rfl) (stp_val (run_nsn _ _ _ rfl) ?_)) | (refine region_quiet hS (by kernel_rfl) (by kernel_rfl) (fun hne => ?_); (repeat (first | go_big_quiet_skip | (go_big_quiet_want; first | (refine quiet_is (.load _ _) rfl ?_; go_must (first | refine quiet_at sw_st (fun w hS => run_ld _ _ rfl hS) ?_ | refine quiet_at sw_st (fun w hS => run_lda _ _ rfl hS) ?_ | refine quiet_at sw_st (fun w hS => run_ld0 _ _ rfl hS) ?_ | refine quiet_at sw_st (fun w hS => run_lda0 _ _ rfl hS) ?_); go_big_quiet_on) | (refine quiet_is (.binOp .eql _ _ (.const (.slice none _ _)) _) rfl ?_; refine quiet_val (fun w _ => run_nse _ _ _ rfl) ?_; go_big_quiet_on) | (refine quiet_is (.binOp .neq _ _ (.const (.slice none _ _)) _) rfl ?_; refine quiet_val (fun w _ => run_nsn _ _ _ rfl) ?_; go_big_quiet_on) | (refine quiet_is (.call { callee := .builtin .len, args := #[_], argTypes := #[_] }) rfl ?_; refine quiet_val (fun w _ => run_lenv _ _ rfl) ?_; go_big_quiet_on) | (refine quiet_is (.indexAddr _ _ _) rfl ?_; refine quiet_val (fun w _ => run_idxv _ _ _ rfl) ?_; go_big_quiet_on) | (refine quiet_is (.binOp .eql _ _ _ _) rfl ?_; refine quiet_val (fun w _ => run_aeq _ _ _ _ rfl) ?_; go_big_quiet_on) | (refine quiet_is (.binOp .neq _ _ _ _) rfl ?_; refine quiet_val (fun w _ => run_ane _ _ _ _ rfl) ?_; go_big_quiet_on) | (go_big_quiet_op; go_big_quiet_on)))); refine wpQuiet_nil ?_; clear hS hne; intro w hS))
          go_roundw
          case rel =>
            refine ⟨k + 1, by omega, by go_num, fun j hj => ?_, hS⟩
            by_cases e : j = k
            · rw [e]; exact hg'.out
            · exact hno'.out j (by omega)
          case measure => simp [intOf]; omega
      · have q1 : decide (f ≤ (k : Int)) = false := by simpa using hf
        have hg : isGrey L f k = false := by unfold isGrey; rw [q1]; rfl
        have hg' := Lib.hid hg
        clear hg
        go_wp2_with (first | go_skip | (refine wpList_is (.build _ _) rfl ?_; go_must (refine wpList_stp (by kernel_rfl) (stp_val (run_bd _ _ rfl) ?_))) | (refine wpList_is (.call { callee := .builtin .clear, args := #[_], argTypes := #[_] }) rfl ?_; go_must (refine wpList_stp (by kernel_rfl) (stp_cl _ _ rfl hS (by decide) ?_)); clear hS; intro w hS) | (refine wpList_is (.load _ _) rfl ?_; go_must (first | refine wpList_stp (by kernel_rfl) (stp_val (run_ld _ _ rfl hS) ?_) | refine wpList_stp (by kernel_rfl) (stp_val (run_lda _ _ rfl hS) ?_) | refine wpList_stp (by kernel_rfl) (stp_val (run_ld0 _ _ rfl hS) ?_) | refine wpList_stp (by kernel_rfl) (stp_val (run_lda0 _ _ rfl hS) ?_))) | (refine wpList_is (.store _ _ _) rfl ?_; go_must (first | refine wpList_stp (by kernel_rfl) (stp_st _ _ _ rfl hS ?_) | refine wpList_stp (by kernel_rfl) (stp_sta _ _ _ rfl hS ?_)); clear hS; intro w hS) | (refine wpList_is (.alloc _) rfl ?_; go_must (refine wpList_stp (by kernel_rfl) (stp_al _ rfl hS ?_)); clear hS; intro bN w hbN hS) | (refine wpList_is (.box _ _) rfl ?_; go_must (refine wpList_stp (by kernel_rfl) (stp_bx _ _ rfl hS ?_)); clear hS; intro bN w hbN hS) | (refine wpList_is (.binOp .eql _ _ (.const (.slice none _ _)) _) rfl ?_; refine wpList_stp (by kernel_rfl) (stp_val (run_nse _ _ _ rfl) ?_)) | (refine wpList_is (.binOp .neq _ _ (.const (.slice none _ _)) _) rfl ?_; refine wpList_stp (by kernel_rfl) (stp_val (run_nsn _ _ _ rfl) ?_)) | (refine region_quiet hS (by kernel_rfl) (by kernel_rfl) (fun hne => ?_); (repeat (first | go_big_quiet_skip | (go_big_quiet_want; first | (refine quiet_is (.load _ _) rfl ?_; go_must (first | refine quiet_at sw_st (fun w hS => run_ld _ _ rfl hS) ?_ | refine quiet_at sw_st (fun w hS => run_lda _ _ rfl hS) ?_ | refine quiet_at sw_st (fun w hS => run_ld0 _ _ rfl hS) ?_ | refine quiet_at sw_st (fun w hS => run_lda0 _ _ rfl hS) ?_); go_big_quiet_on) | (refine quiet_is (.binOp .eql _ _ (.const (.slice none _ _)) _) rfl ?_; refine quiet_val (fun w _ => run_nse _ _ _ rfl) ?_; go_big_quiet_on) | (refine quiet_is (.binOp .neq _ _ (.const (.slice none _ _)) _) rfl ?_; refine quiet_val (fun w _ => run_nsn _ _ _ rfl) ?_; go_big_quiet_on) | (refine quiet_is (.call { callee := .builtin .len, args := #[_], argTypes := #[_] }) rfl ?_; refine quiet_val (fun w _ => run_lenv _ _ rfl) ?_; go_big_quiet_on) | (refine quiet_is (.indexAddr _ _ _) rfl ?_; refine quiet_val (fun w _ => run_idxv _ _ _ rfl) ?_; go_big_quiet_on) | (refine quiet_is (.binOp .eql _ _ _ _) rfl ?_; refine quiet_val (fun w _ => run_aeq _ _ _ _ rfl) ?_; go_big_quiet_on) | (refine quiet_is (.binOp .neq _ _ _ _) rfl ?_; refine quiet_val (fun w _ => run_ane _ _ _ _ rfl) ?_; go_big_quiet_on) | (go_big_quiet_op; go_big_quiet_on)))); refine wpQuiet_nil ?_; clear hS hne; intro w hS))
        go_roundw
        case rel =>
          refine ⟨k + 1, by omega, by go_num, fun j hj => ?_, hS⟩
          by_cases e : j = k
          · rw [e]; exact hg'.out
          · exact hno'.out j (by omega)
        case measure => simp [intOf]; omega
    · have hkm : k = m := by omega
      have e := Lib.hid (firstNo (p := isGrey L f) (n := m) (fun j hj => hno'.out j (by omega)))
      have q1 : decide ((k : Int) < m) = false := by simp; omega
      go_wp2_with (first | go_skip | (refine wpList_is (.build _ _) rfl ?_; go_must (refine wpList_stp (by kernel_rfl) (stp_val (run_bd _ _ rfl) ?_))) | (refine wpList_is (.call { callee := .builtin .clear, args := #[_], argTypes := #[_] }) rfl ?_; go_must (refine wpList_stp (by kernel_rfl) (stp_cl _ _ rfl hS (by decide) ?_)); clear hS; intro w hS) | (refine wpList_is (.load _ _) rfl ?_; go_must (first | refine wpList_stp (by kernel_rfl) (stp_val (run_ld _ _ rfl hS) ?_) | refine wpList_stp (by kernel_rfl) (stp_val (run_lda _ _ rfl hS) ?_) | refine wpList_stp (by kernel_rfl) (stp_val (run_ld0 _ _ rfl hS) ?_) | refine wpList_stp (by kernel_rfl) (stp_val (run_lda0 _ _ rfl hS) ?_))) | (refine wpList_is (.store _ _ _) rfl ?_; go_must (first | refine wpList_stp (by kernel_rfl) (stp_st _ _ _ rfl hS ?_) | refine wpList_stp (by kernel_rfl) (stp_sta _ _ _ rfl hS ?_)); clear hS; intro w hS) | (refine wpList_is (.alloc _) rfl ?_; go_must (refine wpList_stp (by kernel_rfl) (stp_al _ rfl hS ?_)); clear hS; intro bN w hbN hS) | (refine wpList_is (.box _ _) rfl ?_; go_must (refine wpList_stp (by kernel_rfl) (stp_bx _ _ rfl hS ?_)); clear hS; intro bN w hbN hS) | (refine wpList_is (.binOp .eql _ _ (.const (.slice none _ _)) _) rfl ?_; refine wpList_stp (by kernel_rfl) (stp_val (run_nse _ _ _ rfl) ?_)) | (refine wpList_is (.binOp .neq _ _ (.const (.slice none _ _)) _) rfl ?_; refine wpList_stp (by kernel_rfl) (stp_val (run_nsn _ _ _ rfl) ?_)) | (refine region_quiet hS (by kernel_rfl) (by kernel_rfl) (fun hne => ?_); (repeat (first | go_big_quiet_skip | (go_big_quiet_want; first | (refine quiet_is (.load _ _) rfl ?_; go_must (first | refine quiet_at sw_st (fun w hS => run_ld _ _ rfl hS) ?_ | refine quiet_at sw_st (fun w hS => run_lda _ _ rfl hS) ?_ | refine quiet_at sw_st (fun w hS => run_ld0 _ _ rfl hS) ?_ | refine quiet_at sw_st (fun w hS => run_lda0 _ _ rfl hS) ?_); go_big_quiet_on) | (refine quiet_is (.binOp .eql _ _ (.const (.slice none _ _)) _) rfl ?_; refine quiet_val (fun w _ => run_nse _ _ _ rfl) ?_; go_big_quiet_on) | (refine quiet_is (.binOp .neq _ _ (.const (.slice none _ _)) _) rfl ?_; refine quiet_val (fun w _ => run_nsn _ _ _ rfl) ?_; go_big_quiet_on) | (refine quiet_is (.call { callee := .builtin .len, args := #[_], argTypes := #[_] }) rfl ?_; refine quiet_val (fun w _ => run_lenv _ _ rfl) ?_; go_big_quiet_on) | (refine quiet_is (.indexAddr _ _ _) rfl ?_; refine quiet_val (fun w _ => run_idxv _ _ _ rfl) ?_; go_big_quiet_on) | (refine quiet_is (.binOp .eql _ _ _ _) rfl ?_; refine quiet_val (fun w _ => run_aeq _ _ _ _ rfl) ?_; go_big_quiet_on) | (refine quiet_is (.binOp .neq _ _ _ _) rfl ?_; refine quiet_val (fun w _ => run_ane _ _ _ _ rfl) ?_; go_big_quiet_on) | (go_big_quiet_op; go_big_quiet_on)))); refine wpQuiet_nil ?_; clear hS hne; intro w hS))
      have := hR'.out
      rw [e.out] at this
      exact this _ hS

end Go.Proofs.YtgpjanfphgjbbaaGreat.Col
