/-
  The walk of SlotsLowest.
-/
import Derived.Test.YtoihgmijogeilaaHas
import Derived.Test.YtoihgmijogeilaaLowest
namespace Go.Proofs.Ytoihgmijogeilaa
open Go.RowKit Go.Mm
variable {R : Ending → World → Prop}

theorem gen_eq {w0 w : World} {bs : List Nat} {H H1 E : List Ent} {p : Option Addr} {T : Tb} (s g e : Int) (hO : St w0 bs w H) (hT : TA p T E) [hc : Cut H E H1] (h1 : gnG T s = g) (h2 : gnE T s = e)
    (hR : ∀ w', TA p T E → St w0 bs w' (E ++ H1) → Ret R (.tuple #[.int .u32 g, .int .i64 e]) w') : Calls Try.prog 18 #[.pointer p, .int .i64 s] w R := by
  subst h1 h2; exact sl_gen hO hT s hR

set_option maxHeartbeats 2000000 in
set_option maxRecDepth 100000 in
theorem walk_lowest {W : World} (a : Int) (wa : (Lit.int .u8 a).wf = true) (b : Int) (wb : (Lit.int .u8 b).wf = true) (v : Value) {n sb so : Nat} {F : Nat → Nat → Value} (hv : Flat W [.b, .i .u8] v n sb so F) (hR : ∀ w', Chg W w' [] → Ret R (.bool true) w') :
    Calls Try.prog 8 #[.int .u8 a, .int .u8 b, v] W R := by
  have hS : St W [] W [] := St.start0
  have hlen := hv.len (t := 22) Try.underlying22
  by_cases hn : 200 < n
  · have q : decide (200 < (n : Int)) = true := by simp; omega
    go_enter Try.func8, Try.ntmps8
    go_wp2_with (first | (go_at_call 11; refine works_ok hS ?_; clear hS; intro w hS; unfold Ret) | go_skip | (refine wpList_is (.call { callee := .builtin .len, args := #[_], argTypes := #[_] }) rfl ?_; refine wpList_stp rfl (stp_val (run_lenv _ _ rfl) ?_)) | (refine wpList_is (.slice _ _ none (some _) none) rfl ?_; refine wpList_stp rfl (stp_val (run_prev _ _ _ rfl) ?_)) | (refine wpList_is (.indexAddr _ _ _) rfl ?_; refine wpList_stp rfl (stp_val (run_idxv _ _ _ rfl) ?_)) | go_skip | (refine wpList_is (.build _ _) rfl ?_; go_must (refine wpList_stp rfl (stp_val (run_bd _ _ rfl) ?_))) | (refine wpList_is (.call { callee := .builtin .clear, args := #[_], argTypes := #[_] }) rfl ?_; go_must (refine wpList_stp rfl (stp_cl _ _ rfl hS (by decide) ?_)); clear hS; intro w hS) | (refine wpList_is (.load _ _) rfl ?_; go_must (first | refine wpList_stp rfl (stp_val (run_ld _ _ rfl hS) ?_) | refine wpList_stp rfl (stp_val (run_lda _ _ rfl hS) ?_) | refine wpList_stp rfl (stp_val (run_ld0 _ _ rfl hS) ?_) | refine wpList_stp rfl (stp_val (run_lda0 _ _ rfl hS) ?_))) | (refine wpList_is (.store _ _ _) rfl ?_; go_must (first | refine wpList_stp rfl (stp_st _ _ _ rfl hS ?_) | refine wpList_stp rfl (stp_sta _ _ _ rfl hS ?_)); clear hS; intro w hS) | (refine wpList_is (.alloc _) rfl ?_; go_must (refine wpList_stp rfl (stp_al _ rfl hS ?_)); clear hS; intro bN w hbN hS) | (refine wpList_is (.box _ _) rfl ?_; go_must (refine wpList_stp rfl (stp_bx _ _ rfl hS ?_)); clear hS; intro bN w hbN hS) | (refine wpList_is (.binOp .eql _ _ (.const (.slice none _ _)) _) rfl ?_; refine wpList_stp rfl (stp_val (run_nse _ _ _ rfl) ?_)) | (refine wpList_is (.binOp .neq _ _ (.const (.slice none _ _)) _) rfl ?_; refine wpList_stp rfl (stp_val (run_nsn _ _ _ rfl) ?_)) | (refine region_quiet hS (by kernel_rfl) (by kernel_rfl) (fun hne => ?_); (repeat (first | go_big_quiet_skip | (go_big_quiet_want; first | (refine quiet_is (.load _ _) rfl ?_; go_must (first | refine quiet_at sw_st (fun w hS => run_ld _ _ rfl hS) ?_ | refine quiet_at sw_st (fun w hS => run_lda _ _ rfl hS) ?_ | refine quiet_at sw_st (fun w hS => run_ld0 _ _ rfl hS) ?_ | refine quiet_at sw_st (fun w hS => run_lda0 _ _ rfl hS) ?_); go_big_quiet_on) | (refine quiet_is (.binOp .eql _ _ (.const (.slice none _ _)) _) rfl ?_; refine quiet_val (fun w _ => run_nse _ _ _ rfl) ?_; go_big_quiet_on) | (refine quiet_is (.binOp .neq _ _ (.const (.slice none _ _)) _) rfl ?_; refine quiet_val (fun w _ => run_nsn _ _ _ rfl) ?_; go_big_quiet_on) | (refine quiet_is (.call { callee := .builtin .len, args := #[_], argTypes := #[_] }) rfl ?_; refine quiet_val (fun w _ => run_lenv _ _ rfl) ?_; go_big_quiet_on) | (refine quiet_is (.indexAddr _ _ _) rfl ?_; refine quiet_val (fun w _ => run_idxv _ _ _ rfl) ?_; go_big_quiet_on) | (refine quiet_is (.binOp .eql _ _ _ _) rfl ?_; refine quiet_val (fun w _ => run_aeq _ _ _ _ rfl) ?_; go_big_quiet_on) | (refine quiet_is (.binOp .neq _ _ _ _) rfl ?_; refine quiet_val (fun w _ => run_ane _ _ _ _ rfl) ?_; go_big_quiet_on) | (go_big_quiet_op; go_big_quiet_on)))); refine wpQuiet_nil ?_; clear hS hne; intro w hS))
    exact hR _ hS.chg
  have q : decide (200 < (n : Int)) = false := by simp; omega
  obtain ⟨a0, a1⟩ := bounds_u8 wa
  obtain ⟨b0, b1⟩ := bounds_u8 wb
  have hW := mdN_w (L0_w a0 b0) (gv := gvF F) (wh := whF F) n
  have hp0 := L0_pos (b := b) a0
  have hML := mdN_len (L := L0 a b) (gv := gvF F) (wh := whF F) n
  obtain ⟨M, hM⟩ : ∃ M, mdN (L0 a b) (gvF F) (whF F) n = M := ⟨_, rfl⟩
  rw [hM] at hW hML
  rw [← hML] at hp0
  have hM' := Lib.hid hM
  have hl256 := tkL_256 hW
  obtain ⟨l, hl⟩ : ∃ l, tkL (some M) = l := ⟨_, rfl⟩
  have hl' := Lib.hid hl
  rw [hl] at hl256
  obtain ⟨r0, hr0⟩ : ∃ r, ctN 2 (some M) = r := ⟨_, rfl⟩
  have hr0' := Lib.hid hr0
  have rb := ctN_bd hW 2
  rw [hr0] at rb
  obtain ⟨rb0, rb1⟩ := rb
  clear hM hML
  cases hi : tkI (some M) with
  | none =>
    obtain ⟨e1, e2, e3, e4⟩ := tk_none hp0 hi
    have f0 := Lib.hid (free_zero hi)
    have e1 := Lib.hid e1
    have e2 := Lib.hid e2
    have e3 := Lib.hid e3
    have e4 := Lib.hid (congrArg some e4)
    have q0 := refE (refB_self 0 0)
    clear hi hl hr0
    go_enter Try.func8, Try.ntmps8
    go_wp2_with (first | (go_at_call 12; refine made_ok hS _ _ wa wb hv (by omega) ?_; clear hS; intro p v1 E1 E2 w hT hA hS; rw [hM'.out] at hT; have hpn := hT.nil; unfold Ret) | (go_at_call 13; refine sl_taken hS hT ?_; clear hS; intro v2 E3 w hL _ hS; rw [hl'.out] at hL; have hl2 := hL.len rfl; unfold Ret) | (go_at_call 21; refine free_eq 0 hS hT f0.out ?_; clear hS; intro w _ hS; unfold Ret) | (go_at_call 19; refine retired_eq r0 hS hT hr0'.out ?_; clear hS; intro w _ hS; unfold Ret) | (go_at_call 17; refine take_eq (some M) 0 0 4 hS hT e4.out e2.out e3.out e1.out ?_; clear hS hT; intro E1 w hT hS; unfold Ret) | (go_at_call 11; refine works_ok hS ?_; clear hS; intro w hS; unfold Ret) | go_skip | (refine wpList_is (.call { callee := .builtin .len, args := #[_], argTypes := #[_] }) rfl ?_; refine wpList_stp rfl (stp_val (run_lenv _ _ rfl) ?_)) | (refine wpList_is (.slice _ _ none (some _) none) rfl ?_; refine wpList_stp rfl (stp_val (run_prev _ _ _ rfl) ?_)) | (refine wpList_is (.indexAddr _ _ _) rfl ?_; refine wpList_stp rfl (stp_val (run_idxv _ _ _ rfl) ?_)) | go_skip | (refine wpList_is (.build _ _) rfl ?_; go_must (refine wpList_stp rfl (stp_val (run_bd _ _ rfl) ?_))) | (refine wpList_is (.call { callee := .builtin .clear, args := #[_], argTypes := #[_] }) rfl ?_; go_must (refine wpList_stp rfl (stp_cl _ _ rfl hS (by decide) ?_)); clear hS; intro w hS) | (refine wpList_is (.load _ _) rfl ?_; go_must (first | refine wpList_stp rfl (stp_val (run_ld _ _ rfl hS) ?_) | refine wpList_stp rfl (stp_val (run_lda _ _ rfl hS) ?_) | refine wpList_stp rfl (stp_val (run_ld0 _ _ rfl hS) ?_) | refine wpList_stp rfl (stp_val (run_lda0 _ _ rfl hS) ?_))) | (refine wpList_is (.store _ _ _) rfl ?_; go_must (first | refine wpList_stp rfl (stp_st _ _ _ rfl hS ?_) | refine wpList_stp rfl (stp_sta _ _ _ rfl hS ?_)); clear hS; intro w hS) | (refine wpList_is (.alloc _) rfl ?_; go_must (refine wpList_stp rfl (stp_al _ rfl hS ?_)); clear hS; intro bN w hbN hS) | (refine wpList_is (.box _ _) rfl ?_; go_must (refine wpList_stp rfl (stp_bx _ _ rfl hS ?_)); clear hS; intro bN w hbN hS) | (refine wpList_is (.binOp .eql _ _ (.const (.slice none _ _)) _) rfl ?_; refine wpList_stp rfl (stp_val (run_nse _ _ _ rfl) ?_)) | (refine wpList_is (.binOp .neq _ _ (.const (.slice none _ _)) _) rfl ?_; refine wpList_stp rfl (stp_val (run_nsn _ _ _ rfl) ?_)) | (refine region_quiet hS (by kernel_rfl) (by kernel_rfl) (fun hne => ?_); (repeat (first | go_big_quiet_skip | (go_big_quiet_want; first | (refine quiet_is (.load _ _) rfl ?_; go_must (first | refine quiet_at sw_st (fun w hS => run_ld _ _ rfl hS) ?_ | refine quiet_at sw_st (fun w hS => run_lda _ _ rfl hS) ?_ | refine quiet_at sw_st (fun w hS => run_ld0 _ _ rfl hS) ?_ | refine quiet_at sw_st (fun w hS => run_lda0 _ _ rfl hS) ?_); go_big_quiet_on) | (refine quiet_is (.binOp .eql _ _ (.const (.slice none _ _)) _) rfl ?_; refine quiet_val (fun w _ => run_nse _ _ _ rfl) ?_; go_big_quiet_on) | (refine quiet_is (.binOp .neq _ _ (.const (.slice none _ _)) _) rfl ?_; refine quiet_val (fun w _ => run_nsn _ _ _ rfl) ?_; go_big_quiet_on) | (refine quiet_is (.call { callee := .builtin .len, args := #[_], argTypes := #[_] }) rfl ?_; refine quiet_val (fun w _ => run_lenv _ _ rfl) ?_; go_big_quiet_on) | (refine quiet_is (.indexAddr _ _ _) rfl ?_; refine quiet_val (fun w _ => run_idxv _ _ _ rfl) ?_; go_big_quiet_on) | (refine quiet_is (.binOp .eql _ _ _ _) rfl ?_; refine quiet_val (fun w _ => run_aeq _ _ _ _ rfl) ?_; go_big_quiet_on) | (refine quiet_is (.binOp .neq _ _ _ _) rfl ?_; refine quiet_val (fun w _ => run_ane _ _ _ _ rfl) ?_; go_big_quiet_on) | (go_big_quiet_op; go_big_quiet_on)))); refine wpQuiet_nil ?_; clear hS hne; intro w hS))
    exact hR _ hS.chg
  | some i =>
    obtain ⟨e1, e2, e3, e4, hil, hz, _⟩ := tk_some hi
    obtain ⟨c1, c2, c3⟩ := take_cnt hi
    obtain ⟨j, hLow⟩ := low_of hil hz
    obtain ⟨g, hg⟩ : ∃ g, (M.getD i (0, 0)).2 = g := ⟨_, rfl⟩
    have hgb := hW.gn _ (getD_mem hil)
    rw [hg] at e3 e4 hgb
    simp only [hg] at hLow
    obtain ⟨g0, g1⟩ := hgb
    obtain ⟨M1, hM1⟩ : ∃ M1, M.set i (1, g) = M1 := ⟨_, rfl⟩
    have hx1 : M1.getD i (0, 0) = (1, g) := by rw [← hM1, getD_set2 _ _ _ _ hil, if_pos rfl]
    have hil1 : i < M1.length := by rw [← hM1, List.length_set]; exact hil
    rw [e4] at c1 c3
    rw [hM1] at e4 c1 c3 hLow
    obtain ⟨l1, hl1⟩ : ∃ l1, tkL (some M1) = l1 := ⟨_, rfl⟩
    rw [hl, hl1] at hLow
    rw [hr0] at c3
    obtain ⟨f0, hf0⟩ : ∃ f, ctN 0 (some M) = f := ⟨_, rfl⟩
    have fb := (ctN_bd hW 0).2
    rw [hf0] at c1 c2 fb
    obtain ⟨n1, n2⟩ := gn_at hil1 hx1
    obtain ⟨hc1, hlt, hge⟩ := give_cnt hil1 hx1
    have hf0' := Lib.hid hf0
    have e1' := Lib.hid e1
    have e2' := Lib.hid e2
    have e3' := Lib.hid e3
    have e4' := Lib.hid (congrArg some e4)
    have c1' := Lib.hid c1
    have c3' := Lib.hid c3
    have n1' := Lib.hid n1
    have n2' := Lib.hid n2
    have hl1' := Lib.hid hl1
    have hlen1' := Lib.hid hLow.len
    have hLow' := Lib.hid hLow
    have hc1' := Lib.hid hc1
    have hlt' := Lib.hid hlt
    have hge' := Lib.hid hge
    have hx1' := Lib.hid hx1
    have qf : (f0 == 0) = false := by simp; omega
    have hjl := hLow.le
    have tok1 : True := trivial
    clear hf0 e1 e2 e3 e4 c1 c3 n1 n2 hl1 hLow hc1 hlt hge hx1 hi hl hr0 hM1 hg hz
    go_enter Try.func8, Try.ntmps8
    go_wp2_with (first | (refine wpList_is (.alloc 31) rfl ?_; go_must (refine wpList_stp rfl (stp_al _ rfl hS ?_)); clear hS; intro br w _ hS) | (go_at_call 12; refine made_ok hS _ _ wa wb hv (by omega) ?_; clear hS; intro p v1 E1 E2 w hT hA hS; rw [hM'.out] at hT; have hpn := hT.nil; unfold Ret) | (go_at_call 13; have _t := tok1; refine sl_taken hS hT ?_; clear hS _t tok1; intro v2 E3 w hL _ hS; rw [hl'.out] at hL; have hl2 := hL.len rfl; unfold Ret) | (go_at_call 13; refine sl_taken hS hT ?_; clear hS; intro v3 E4 w hL1 _ hS; rw [hl1'.out] at hL1; have hl3 := hL1.len hlen1'.out; unfold Ret) | (go_at_call 21; (with_reducible refine free_eq f0 hS hT hf0'.out ?_); clear hS; intro w _ hS; unfold Ret) | (go_at_call 21; (with_reducible refine free_eq (f0 - 1) hS hT c1'.out ?_); clear hS; intro w _ hS; unfold Ret) | (go_at_call 19; (with_reducible refine retired_eq r0 hS hT hr0'.out ?_); clear hS; intro w _ hS; unfold Ret) | (go_at_call 19; (with_reducible refine retired_eq r0 hS hT c3'.out ?_); clear hS; intro w _ hS; unfold Ret) | (go_at_call 17; refine take_eq (some M1) i g 0 hS hT e4'.out e2'.out e3'.out e1'.out ?_; clear hS hT; intro E1 w hT hS; unfold Ret) | (go_at_call 18; refine gen_eq i g 0 hS hT n1'.out n2'.out ?_; clear hS; intro w _ hS; unfold Ret) | go_skip | (refine wpList_is (.call { callee := .builtin .len, args := #[_], argTypes := #[_] }) rfl ?_; refine wpList_stp rfl (stp_val (run_lenv _ _ rfl) ?_)) | (refine wpList_is (.slice _ _ none (some _) none) rfl ?_; refine wpList_stp rfl (stp_val (run_prev _ _ _ rfl) ?_)) | (refine wpList_is (.indexAddr _ _ _) rfl ?_; refine wpList_stp rfl (stp_val (run_idxv _ _ _ rfl) ?_)) | go_skip | (refine wpList_is (.build _ _) rfl ?_; go_must (refine wpList_stp rfl (stp_val (run_bd _ _ rfl) ?_))) | (refine wpList_is (.call { callee := .builtin .clear, args := #[_], argTypes := #[_] }) rfl ?_; go_must (refine wpList_stp rfl (stp_cl _ _ rfl hS (by decide) ?_)); clear hS; intro w hS) | (refine wpList_is (.load _ _) rfl ?_; go_must (first | refine wpList_stp rfl (stp_val (run_ld _ _ rfl hS) ?_) | refine wpList_stp rfl (stp_val (run_lda _ _ rfl hS) ?_) | refine wpList_stp rfl (stp_val (run_ld0 _ _ rfl hS) ?_) | refine wpList_stp rfl (stp_val (run_lda0 _ _ rfl hS) ?_))) | (refine wpList_is (.store _ _ _) rfl ?_; go_must (first | refine wpList_stp rfl (stp_st _ _ _ rfl hS ?_) | refine wpList_stp rfl (stp_sta _ _ _ rfl hS ?_)); clear hS; intro w hS) | (refine wpList_is (.alloc _) rfl ?_; go_must (refine wpList_stp rfl (stp_al _ rfl hS ?_)); clear hS; intro bN w hbN hS) | (refine wpList_is (.box _ _) rfl ?_; go_must (refine wpList_stp rfl (stp_bx _ _ rfl hS ?_)); clear hS; intro bN w hbN hS) | (refine wpList_is (.binOp .eql _ _ (.const (.slice none _ _)) _) rfl ?_; refine wpList_stp rfl (stp_val (run_nse _ _ _ rfl) ?_)) | (refine wpList_is (.binOp .neq _ _ (.const (.slice none _ _)) _) rfl ?_; refine wpList_stp rfl (stp_val (run_nsn _ _ _ rfl) ?_)) | (refine region_quiet hS (by kernel_rfl) (by kernel_rfl) (fun hne => ?_); (repeat (first | go_big_quiet_skip | (go_big_quiet_want; first | (refine quiet_is (.load _ _) rfl ?_; go_must (first | refine quiet_at sw_st (fun w hS => run_ld _ _ rfl hS) ?_ | refine quiet_at sw_st (fun w hS => run_lda _ _ rfl hS) ?_ | refine quiet_at sw_st (fun w hS => run_ld0 _ _ rfl hS) ?_ | refine quiet_at sw_st (fun w hS => run_lda0 _ _ rfl hS) ?_); go_big_quiet_on) | (refine quiet_is (.binOp .eql _ _ (.const (.slice none _ _)) _) rfl ?_; refine quiet_val (fun w _ => run_nse _ _ _ rfl) ?_; go_big_quiet_on) | (refine quiet_is (.binOp .neq _ _ (.const (.slice none _ _)) _) rfl ?_; refine quiet_val (fun w _ => run_nsn _ _ _ rfl) ?_; go_big_quiet_on) | (refine quiet_is (.call { callee := .builtin .len, args := #[_], argTypes := #[_] }) rfl ?_; refine quiet_val (fun w _ => run_lenv _ _ rfl) ?_; go_big_quiet_on) | (refine quiet_is (.indexAddr _ _ _) rfl ?_; refine quiet_val (fun w _ => run_idxv _ _ _ rfl) ?_; go_big_quiet_on) | (refine quiet_is (.binOp .eql _ _ _ _) rfl ?_; refine quiet_val (fun w _ => run_aeq _ _ _ _ rfl) ?_; go_big_quiet_on) | (refine quiet_is (.binOp .neq _ _ _ _) rfl ?_; refine quiet_val (fun w _ => run_ane _ _ _ _ rfl) ?_; go_big_quiet_on) | (go_big_quiet_op; go_big_quiet_on)))); refine wpQuiet_nil ?_; clear hS hne; intro w hS))
    go_loopw [18, 17] (fun u c wr => ∃ k t : Nat, k ≤ (l.length + 1) ∧ u = .int .i64 k ∧ c = .int .i64 t ∧ ((k ≤ j ∧ t = k) ∨ (j < k ∧ t + 1 = k)) ∧ St W [] wr (E4 ++ (E3 ++ (⟨br, #[.int .i64 i, .int .u32 g], 31, true⟩ :: E1)))) (fun u _ _ => (l.length + 1) - (intOf u).toNat)
    case atStart => exact ⟨0, 0, Nat.zero_le _, rfl, rfl, .inl ⟨Nat.zero_le _, rfl⟩, hS.pick⟩
    case round =>
      clear hS
      obtain ⟨k, t, hk, rfl, rfl, hor, hS⟩ := hrel
      by_cases hlk : k < (l.length + 1)
      · have hlk1 : k < l1.length := by rw [hlen1'.out]; exact hlk
        rcases Nat.lt_trichotomy k j with hkj | hkj | hkj
        · obtain rfl : t = k := by omega
          obtain ⟨⟨ys, yg⟩, hy⟩ : ∃ y, l.getD t (0, 0) = y := ⟨_, rfl⟩
          have hy1 := (hLow'.out.lo t hkj).trans hy
          have hne := hLow'.out.ne t hlk1 (by omega)
          rw [hy1] at hne
          obtain ⟨gy, spy, iy, hhy, hcy⟩ := hL1.at hlk1 hy1
          obtain ⟨gz, spz, iz, hhz, hcz⟩ := hL.at (show t < l.length by omega) hy
          have iy := iy t rfl
          have iz := iz t rfl
          simp only at hcy hcz
          have q5 := refE (refB_self ys yg)
          have q6 := refE (refB_no (x := (ys, yg)) (y := ((i : Int), g)) hne)
          simp only at q6
          have q7 : decide (l.length ≤ t) = false := by simp; omega
          clear hy hy1 hne hlk1 hor
          go_wp2_with (first | go_skip | (refine wpList_is (.call { callee := .builtin .len, args := #[_], argTypes := #[_] }) rfl ?_; refine wpList_stp rfl (stp_val (run_lenv _ _ rfl) ?_)) | (refine wpList_is (.slice _ _ none (some _) none) rfl ?_; refine wpList_stp rfl (stp_val (run_prev _ _ _ rfl) ?_)) | (refine wpList_is (.indexAddr _ _ _) rfl ?_; refine wpList_stp rfl (stp_val (run_idxv _ _ _ rfl) ?_)) | go_skip | (refine wpList_is (.build _ _) rfl ?_; go_must (refine wpList_stp rfl (stp_val (run_bd _ _ rfl) ?_))) | (refine wpList_is (.call { callee := .builtin .clear, args := #[_], argTypes := #[_] }) rfl ?_; go_must (refine wpList_stp rfl (stp_cl _ _ rfl hS (by decide) ?_)); clear hS; intro w hS) | (refine wpList_is (.load _ _) rfl ?_; go_must (first | refine wpList_stp rfl (stp_val (run_ld _ _ rfl hS) ?_) | refine wpList_stp rfl (stp_val (run_lda _ _ rfl hS) ?_) | refine wpList_stp rfl (stp_val (run_ld0 _ _ rfl hS) ?_) | refine wpList_stp rfl (stp_val (run_lda0 _ _ rfl hS) ?_))) | (refine wpList_is (.store _ _ _) rfl ?_; go_must (first | refine wpList_stp rfl (stp_st _ _ _ rfl hS ?_) | refine wpList_stp rfl (stp_sta _ _ _ rfl hS ?_)); clear hS; intro w hS) | (refine wpList_is (.alloc _) rfl ?_; go_must (refine wpList_stp rfl (stp_al _ rfl hS ?_)); clear hS; intro bN w hbN hS) | (refine wpList_is (.box _ _) rfl ?_; go_must (refine wpList_stp rfl (stp_bx _ _ rfl hS ?_)); clear hS; intro bN w hbN hS) | (refine wpList_is (.binOp .eql _ _ (.const (.slice none _ _)) _) rfl ?_; refine wpList_stp rfl (stp_val (run_nse _ _ _ rfl) ?_)) | (refine wpList_is (.binOp .neq _ _ (.const (.slice none _ _)) _) rfl ?_; refine wpList_stp rfl (stp_val (run_nsn _ _ _ rfl) ?_)) | (refine region_quiet hS (by kernel_rfl) (by kernel_rfl) (fun hne => ?_); (repeat (first | go_big_quiet_skip | (go_big_quiet_want; first | (refine quiet_is (.load _ _) rfl ?_; go_must (first | refine quiet_at sw_st (fun w hS => run_ld _ _ rfl hS) ?_ | refine quiet_at sw_st (fun w hS => run_lda _ _ rfl hS) ?_ | refine quiet_at sw_st (fun w hS => run_ld0 _ _ rfl hS) ?_ | refine quiet_at sw_st (fun w hS => run_lda0 _ _ rfl hS) ?_); go_big_quiet_on) | (refine quiet_is (.binOp .eql _ _ (.const (.slice none _ _)) _) rfl ?_; refine quiet_val (fun w _ => run_nse _ _ _ rfl) ?_; go_big_quiet_on) | (refine quiet_is (.binOp .neq _ _ (.const (.slice none _ _)) _) rfl ?_; refine quiet_val (fun w _ => run_nsn _ _ _ rfl) ?_; go_big_quiet_on) | (refine quiet_is (.call { callee := .builtin .len, args := #[_], argTypes := #[_] }) rfl ?_; refine quiet_val (fun w _ => run_lenv _ _ rfl) ?_; go_big_quiet_on) | (refine quiet_is (.indexAddr _ _ _) rfl ?_; refine quiet_val (fun w _ => run_idxv _ _ _ rfl) ?_; go_big_quiet_on) | (refine quiet_is (.binOp .eql _ _ _ _) rfl ?_; refine quiet_val (fun w _ => run_aeq _ _ _ _ rfl) ?_; go_big_quiet_on) | (refine quiet_is (.binOp .neq _ _ _ _) rfl ?_; refine quiet_val (fun w _ => run_ane _ _ _ _ rfl) ?_; go_big_quiet_on) | (go_big_quiet_op; go_big_quiet_on)))); refine wpQuiet_nil ?_; clear hS hne; intro w hS))
          go_roundw
          case rel => exact ⟨t + 1, t + 1, by omega, by go_num, by go_num, .inl ⟨by omega, rfl⟩, hS.pick⟩
          case measure => simp [intOf]; omega
        · subst hkj
          obtain rfl : t = k := by omega
          obtain ⟨gy, spy, iy, hhy, hcy⟩ := hL1.at hlk1 hLow'.out.at'
          have iy := iy t rfl
          simp only at hcy
          have q5 := refE (refB_self (i : Int) g)
          clear hlk1 hor
          go_wp2_with (first | go_skip | (refine wpList_is (.call { callee := .builtin .len, args := #[_], argTypes := #[_] }) rfl ?_; refine wpList_stp rfl (stp_val (run_lenv _ _ rfl) ?_)) | (refine wpList_is (.slice _ _ none (some _) none) rfl ?_; refine wpList_stp rfl (stp_val (run_prev _ _ _ rfl) ?_)) | (refine wpList_is (.indexAddr _ _ _) rfl ?_; refine wpList_stp rfl (stp_val (run_idxv _ _ _ rfl) ?_)) | go_skip | (refine wpList_is (.build _ _) rfl ?_; go_must (refine wpList_stp rfl (stp_val (run_bd _ _ rfl) ?_))) | (refine wpList_is (.call { callee := .builtin .clear, args := #[_], argTypes := #[_] }) rfl ?_; go_must (refine wpList_stp rfl (stp_cl _ _ rfl hS (by decide) ?_)); clear hS; intro w hS) | (refine wpList_is (.load _ _) rfl ?_; go_must (first | refine wpList_stp rfl (stp_val (run_ld _ _ rfl hS) ?_) | refine wpList_stp rfl (stp_val (run_lda _ _ rfl hS) ?_) | refine wpList_stp rfl (stp_val (run_ld0 _ _ rfl hS) ?_) | refine wpList_stp rfl (stp_val (run_lda0 _ _ rfl hS) ?_))) | (refine wpList_is (.store _ _ _) rfl ?_; go_must (first | refine wpList_stp rfl (stp_st _ _ _ rfl hS ?_) | refine wpList_stp rfl (stp_sta _ _ _ rfl hS ?_)); clear hS; intro w hS) | (refine wpList_is (.alloc _) rfl ?_; go_must (refine wpList_stp rfl (stp_al _ rfl hS ?_)); clear hS; intro bN w hbN hS) | (refine wpList_is (.box _ _) rfl ?_; go_must (refine wpList_stp rfl (stp_bx _ _ rfl hS ?_)); clear hS; intro bN w hbN hS) | (refine wpList_is (.binOp .eql _ _ (.const (.slice none _ _)) _) rfl ?_; refine wpList_stp rfl (stp_val (run_nse _ _ _ rfl) ?_)) | (refine wpList_is (.binOp .neq _ _ (.const (.slice none _ _)) _) rfl ?_; refine wpList_stp rfl (stp_val (run_nsn _ _ _ rfl) ?_)) | (refine region_quiet hS (by kernel_rfl) (by kernel_rfl) (fun hne => ?_); (repeat (first | go_big_quiet_skip | (go_big_quiet_want; first | (refine quiet_is (.load _ _) rfl ?_; go_must (first | refine quiet_at sw_st (fun w hS => run_ld _ _ rfl hS) ?_ | refine quiet_at sw_st (fun w hS => run_lda _ _ rfl hS) ?_ | refine quiet_at sw_st (fun w hS => run_ld0 _ _ rfl hS) ?_ | refine quiet_at sw_st (fun w hS => run_lda0 _ _ rfl hS) ?_); go_big_quiet_on) | (refine quiet_is (.binOp .eql _ _ (.const (.slice none _ _)) _) rfl ?_; refine quiet_val (fun w _ => run_nse _ _ _ rfl) ?_; go_big_quiet_on) | (refine quiet_is (.binOp .neq _ _ (.const (.slice none _ _)) _) rfl ?_; refine quiet_val (fun w _ => run_nsn _ _ _ rfl) ?_; go_big_quiet_on) | (refine quiet_is (.call { callee := .builtin .len, args := #[_], argTypes := #[_] }) rfl ?_; refine quiet_val (fun w _ => run_lenv _ _ rfl) ?_; go_big_quiet_on) | (refine quiet_is (.indexAddr _ _ _) rfl ?_; refine quiet_val (fun w _ => run_idxv _ _ _ rfl) ?_; go_big_quiet_on) | (refine quiet_is (.binOp .eql _ _ _ _) rfl ?_; refine quiet_val (fun w _ => run_aeq _ _ _ _ rfl) ?_; go_big_quiet_on) | (refine quiet_is (.binOp .neq _ _ _ _) rfl ?_; refine quiet_val (fun w _ => run_ane _ _ _ _ rfl) ?_; go_big_quiet_on) | (go_big_quiet_op; go_big_quiet_on)))); refine wpQuiet_nil ?_; clear hS hne; intro w hS))
          go_roundw
          case rel => exact ⟨t + 1, t, by omega, by go_num, rfl, .inr ⟨by omega, rfl⟩, hS.pick⟩
          case measure => simp [intOf]; omega
        · obtain rfl : k = t + 1 := by omega
          obtain ⟨⟨ys, yg⟩, hy⟩ : ∃ y, l.getD t (0, 0) = y := ⟨_, rfl⟩
          have hy1 := (hLow'.out.hi (t + 1) hkj hlk1).trans hy
          have hne := hLow'.out.ne (t + 1) hlk1 (by omega)
          rw [hy1] at hne
          obtain ⟨gy, spy, iy, hhy, hcy⟩ := hL1.at hlk1 hy1
          obtain ⟨gz, spz, iz, hhz, hcz⟩ := hL.at (show t < l.length by omega) hy
          have iy1 := iy ((t : Int) + 1) (by omega)
          have iy := iy ((t + 1 : Nat) : Int) rfl
          have iz := iz t rfl
          simp only at hcy hcz
          have q5 := refE (refB_self ys yg)
          have q6 := refE (refB_no (x := (ys, yg)) (y := ((i : Int), g)) hne)
          simp only at q6
          have q7 : decide (l.length ≤ t) = false := by simp; omega
          clear hy hy1 hne hlk1 hor
          go_wp2_with (first | go_skip | (refine wpList_is (.call { callee := .builtin .len, args := #[_], argTypes := #[_] }) rfl ?_; refine wpList_stp rfl (stp_val (run_lenv _ _ rfl) ?_)) | (refine wpList_is (.slice _ _ none (some _) none) rfl ?_; refine wpList_stp rfl (stp_val (run_prev _ _ _ rfl) ?_)) | (refine wpList_is (.indexAddr _ _ _) rfl ?_; refine wpList_stp rfl (stp_val (run_idxv _ _ _ rfl) ?_)) | go_skip | (refine wpList_is (.build _ _) rfl ?_; go_must (refine wpList_stp rfl (stp_val (run_bd _ _ rfl) ?_))) | (refine wpList_is (.call { callee := .builtin .clear, args := #[_], argTypes := #[_] }) rfl ?_; go_must (refine wpList_stp rfl (stp_cl _ _ rfl hS (by decide) ?_)); clear hS; intro w hS) | (refine wpList_is (.load _ _) rfl ?_; go_must (first | refine wpList_stp rfl (stp_val (run_ld _ _ rfl hS) ?_) | refine wpList_stp rfl (stp_val (run_lda _ _ rfl hS) ?_) | refine wpList_stp rfl (stp_val (run_ld0 _ _ rfl hS) ?_) | refine wpList_stp rfl (stp_val (run_lda0 _ _ rfl hS) ?_))) | (refine wpList_is (.store _ _ _) rfl ?_; go_must (first | refine wpList_stp rfl (stp_st _ _ _ rfl hS ?_) | refine wpList_stp rfl (stp_sta _ _ _ rfl hS ?_)); clear hS; intro w hS) | (refine wpList_is (.alloc _) rfl ?_; go_must (refine wpList_stp rfl (stp_al _ rfl hS ?_)); clear hS; intro bN w hbN hS) | (refine wpList_is (.box _ _) rfl ?_; go_must (refine wpList_stp rfl (stp_bx _ _ rfl hS ?_)); clear hS; intro bN w hbN hS) | (refine wpList_is (.binOp .eql _ _ (.const (.slice none _ _)) _) rfl ?_; refine wpList_stp rfl (stp_val (run_nse _ _ _ rfl) ?_)) | (refine wpList_is (.binOp .neq _ _ (.const (.slice none _ _)) _) rfl ?_; refine wpList_stp rfl (stp_val (run_nsn _ _ _ rfl) ?_)) | (refine region_quiet hS (by kernel_rfl) (by kernel_rfl) (fun hne => ?_); (repeat (first | go_big_quiet_skip | (go_big_quiet_want; first | (refine quiet_is (.load _ _) rfl ?_; go_must (first | refine quiet_at sw_st (fun w hS => run_ld _ _ rfl hS) ?_ | refine quiet_at sw_st (fun w hS => run_lda _ _ rfl hS) ?_ | refine quiet_at sw_st (fun w hS => run_ld0 _ _ rfl hS) ?_ | refine quiet_at sw_st (fun w hS => run_lda0 _ _ rfl hS) ?_); go_big_quiet_on) | (refine quiet_is (.binOp .eql _ _ (.const (.slice none _ _)) _) rfl ?_; refine quiet_val (fun w _ => run_nse _ _ _ rfl) ?_; go_big_quiet_on) | (refine quiet_is (.binOp .neq _ _ (.const (.slice none _ _)) _) rfl ?_; refine quiet_val (fun w _ => run_nsn _ _ _ rfl) ?_; go_big_quiet_on) | (refine quiet_is (.call { callee := .builtin .len, args := #[_], argTypes := #[_] }) rfl ?_; refine quiet_val (fun w _ => run_lenv _ _ rfl) ?_; go_big_quiet_on) | (refine quiet_is (.indexAddr _ _ _) rfl ?_; refine quiet_val (fun w _ => run_idxv _ _ _ rfl) ?_; go_big_quiet_on) | (refine quiet_is (.binOp .eql _ _ _ _) rfl ?_; refine quiet_val (fun w _ => run_aeq _ _ _ _ rfl) ?_; go_big_quiet_on) | (refine quiet_is (.binOp .neq _ _ _ _) rfl ?_; refine quiet_val (fun w _ => run_ane _ _ _ _ rfl) ?_; go_big_quiet_on) | (go_big_quiet_op; go_big_quiet_on)))); refine wpQuiet_nil ?_; clear hS hne; intro w hS))
          go_roundw
          case rel => exact ⟨t + 1 + 1, t + 1, by omega, by go_num, by go_num, .inr ⟨by omega, rfl⟩, hS.pick⟩
          case measure => simp [intOf]; omega
      · obtain rfl : k = l.length + 1 := by omega
        clear hor hlk
        obtain ⟨M2, hM2⟩ : ∃ M2, gvN M1 i g = M2 := ⟨_, rfl⟩
        by_cases hgm : g < 4294967295
        · obtain ⟨_, hf2, hr2, hx2⟩ := hlt'.out hgm
          rw [hM2] at hf2 hr2 hx2
          have hil2 : i < M2.length := by rw [← hM2, gvN_len]; exact hil1
          obtain ⟨hn1, hn2⟩ := gn_at hil2 hx2
          have hc2 : ckE (some M2) i g = 7 := by rw [ck_at hil2, hx2, if_neg (by simp)]
          rw [c1'.out] at hf2
          rw [c3'.out] at hr2
          have hv : (if g < 4294967295 then g + 1 else (0 : Int)) = g + 1 := if_pos hgm
          have hv' := Lib.hid hv
          clear hv
          have hd' := Lib.hid (decide_eq_true hgm)
          have ef : f0 - 1 + 1 = f0 := by omega
          rw [ef] at hf2
          clear hx2 ef
          have hM2g := gvN_no (L := M2) (s := (i : Int)) (g := g) (by rw [hc2]; decide)
          have hg2' := Lib.hid (show gvT (some M2) i g = some M2 from congrArg some hM2g)
          have hc2' := Lib.hid hc2
          have hg1' := Lib.hid (show gvT (some M1) i g = some M2 from congrArg some hM2)
          have hn1' := Lib.hid hn1
          have hn2' := Lib.hid hn2
          have hf2' := Lib.hid hf2
          have hr2' := Lib.hid hr2
          clear hM2g hc2 hM2 hn1 hn2 hf2 hr2
          go_wp2_with (first | (go_at_call 15; (with_reducible refine give_eq (some M2) i g 0 hS hT hg1'.out hc1'.out ?_); clear hS hT; intro E1 w hT hS; unfold Ret) | (go_at_call 15; (with_reducible refine give_eq (some M2) i g 7 hS hT hg2'.out hc2'.out ?_); clear hS hT; intro E1 w hT hS; unfold Ret) | (go_at_call 14; (with_reducible refine check_eq i g 7 hS hT hc2'.out ?_); clear hS; intro w _ hS; unfold Ret) | (go_at_call 18; refine gen_eq i (g + 1) 0 hS hT hn1'.out hn2'.out ?_; clear hS; intro w _ hS; unfold Ret) | (go_at_call 24; refine next_ok (g + 1) true hS g0 g1 hv'.out hd'.out ?_; clear hS; intro w hS; unfold Ret) | (go_at_call 19; refine retired_eq r0 hS hT hr2'.out ?_; clear hS; intro w _ hS; unfold Ret) | (go_at_call 21; refine free_eq f0 hS hT hf2'.out ?_; clear hS; intro w _ hS; unfold Ret) | (go_at_call 11; refine works_ok hS ?_; clear hS; intro w hS; unfold Ret) | go_skip | (refine wpList_is (.call { callee := .builtin .len, args := #[_], argTypes := #[_] }) rfl ?_; refine wpList_stp rfl (stp_val (run_lenv _ _ rfl) ?_)) | (refine wpList_is (.slice _ _ none (some _) none) rfl ?_; refine wpList_stp rfl (stp_val (run_prev _ _ _ rfl) ?_)) | (refine wpList_is (.indexAddr _ _ _) rfl ?_; refine wpList_stp rfl (stp_val (run_idxv _ _ _ rfl) ?_)) | go_skip | (refine wpList_is (.build _ _) rfl ?_; go_must (refine wpList_stp rfl (stp_val (run_bd _ _ rfl) ?_))) | (refine wpList_is (.call { callee := .builtin .clear, args := #[_], argTypes := #[_] }) rfl ?_; go_must (refine wpList_stp rfl (stp_cl _ _ rfl hS (by decide) ?_)); clear hS; intro w hS) | (refine wpList_is (.load _ _) rfl ?_; go_must (first | refine wpList_stp rfl (stp_val (run_ld _ _ rfl hS) ?_) | refine wpList_stp rfl (stp_val (run_lda _ _ rfl hS) ?_) | refine wpList_stp rfl (stp_val (run_ld0 _ _ rfl hS) ?_) | refine wpList_stp rfl (stp_val (run_lda0 _ _ rfl hS) ?_))) | (refine wpList_is (.store _ _ _) rfl ?_; go_must (first | refine wpList_stp rfl (stp_st _ _ _ rfl hS ?_) | refine wpList_stp rfl (stp_sta _ _ _ rfl hS ?_)); clear hS; intro w hS) | (refine wpList_is (.alloc _) rfl ?_; go_must (refine wpList_stp rfl (stp_al _ rfl hS ?_)); clear hS; intro bN w hbN hS) | (refine wpList_is (.box _ _) rfl ?_; go_must (refine wpList_stp rfl (stp_bx _ _ rfl hS ?_)); clear hS; intro bN w hbN hS) | (refine wpList_is (.binOp .eql _ _ (.const (.slice none _ _)) _) rfl ?_; refine wpList_stp rfl (stp_val (run_nse _ _ _ rfl) ?_)) | (refine wpList_is (.binOp .neq _ _ (.const (.slice none _ _)) _) rfl ?_; refine wpList_stp rfl (stp_val (run_nsn _ _ _ rfl) ?_)) | (refine region_quiet hS (by kernel_rfl) (by kernel_rfl) (fun hne => ?_); (repeat (first | go_big_quiet_skip | (go_big_quiet_want; first | (refine quiet_is (.load _ _) rfl ?_; go_must (first | refine quiet_at sw_st (fun w hS => run_ld _ _ rfl hS) ?_ | refine quiet_at sw_st (fun w hS => run_lda _ _ rfl hS) ?_ | refine quiet_at sw_st (fun w hS => run_ld0 _ _ rfl hS) ?_ | refine quiet_at sw_st (fun w hS => run_lda0 _ _ rfl hS) ?_); go_big_quiet_on) | (refine quiet_is (.binOp .eql _ _ (.const (.slice none _ _)) _) rfl ?_; refine quiet_val (fun w _ => run_nse _ _ _ rfl) ?_; go_big_quiet_on) | (refine quiet_is (.binOp .neq _ _ (.const (.slice none _ _)) _) rfl ?_; refine quiet_val (fun w _ => run_nsn _ _ _ rfl) ?_; go_big_quiet_on) | (refine quiet_is (.call { callee := .builtin .len, args := #[_], argTypes := #[_] }) rfl ?_; refine quiet_val (fun w _ => run_lenv _ _ rfl) ?_; go_big_quiet_on) | (refine quiet_is (.indexAddr _ _ _) rfl ?_; refine quiet_val (fun w _ => run_idxv _ _ _ rfl) ?_; go_big_quiet_on) | (refine quiet_is (.binOp .eql _ _ _ _) rfl ?_; refine quiet_val (fun w _ => run_aeq _ _ _ _ rfl) ?_; go_big_quiet_on) | (refine quiet_is (.binOp .neq _ _ _ _) rfl ?_; refine quiet_val (fun w _ => run_ane _ _ _ _ rfl) ?_; go_big_quiet_on) | (go_big_quiet_op; go_big_quiet_on)))); refine wpQuiet_nil ?_; clear hS hne; intro w hS))
          exact hR _ hS.chg
        · obtain rfl : g = 4294967295 := by omega
          obtain ⟨_, hf2, hr2, hx2⟩ := hge'.out (by omega)
          rw [hM2] at hf2 hr2 hx2
          have hil2 : i < M2.length := by rw [← hM2, gvN_len]; exact hil1
          obtain ⟨hn1, hn2⟩ := gn_at hil2 hx2
          have hc2 : ckE (some M2) i 4294967295 = 7 := by rw [ck_at hil2, hx2, if_neg (by simp)]
          rw [c1'.out] at hf2
          rw [c3'.out] at hr2
          have hv' := Lib.hid (show (if (4294967295 : Int) < 4294967295 then (4294967295 : Int) + 1 else 0) = 0 from rfl)
          have hd' := Lib.hid (show decide ((4294967295 : Int) < 4294967295) = false from rfl)
          clear hx2 hgm
          have hM2g := gvN_no (L := M2) (s := (i : Int)) (g := 4294967295) (by rw [hc2]; decide)
          have hg2' := Lib.hid (show gvT (some M2) i 4294967295 = some M2 from congrArg some hM2g)
          have hc2' := Lib.hid hc2
          have hg1' := Lib.hid (show gvT (some M1) i 4294967295 = some M2 from congrArg some hM2)
          have hn1' := Lib.hid hn1
          have hn2' := Lib.hid hn2
          have hf2' := Lib.hid hf2
          have hr2' := Lib.hid hr2
          clear hM2g hc2 hM2 hn1 hn2 hf2 hr2
          go_wp2_with (first | (go_at_call 15; (with_reducible refine give_eq (some M2) i 4294967295 0 hS hT hg1'.out hc1'.out ?_); clear hS hT; intro E1 w hT hS; unfold Ret) | (go_at_call 15; (with_reducible refine give_eq (some M2) i 4294967295 7 hS hT hg2'.out hc2'.out ?_); clear hS hT; intro E1 w hT hS; unfold Ret) | (go_at_call 14; (with_reducible refine check_eq i 4294967295 7 hS hT hc2'.out ?_); clear hS; intro w _ hS; unfold Ret) | (go_at_call 18; refine gen_eq i 4294967295 0 hS hT hn1'.out hn2'.out ?_; clear hS; intro w _ hS; unfold Ret) | (go_at_call 24; refine next_ok 0 false hS g0 g1 hv'.out hd'.out ?_; clear hS; intro w hS; unfold Ret) | (go_at_call 19; refine retired_eq (r0 + 1) hS hT hr2'.out ?_; clear hS; intro w _ hS; unfold Ret) | (go_at_call 21; refine free_eq (f0 - 1) hS hT hf2'.out ?_; clear hS; intro w _ hS; unfold Ret) | (go_at_call 11; refine works_ok hS ?_; clear hS; intro w hS; unfold Ret) | go_skip | (refine wpList_is (.call { callee := .builtin .len, args := #[_], argTypes := #[_] }) rfl ?_; refine wpList_stp rfl (stp_val (run_lenv _ _ rfl) ?_)) | (refine wpList_is (.slice _ _ none (some _) none) rfl ?_; refine wpList_stp rfl (stp_val (run_prev _ _ _ rfl) ?_)) | (refine wpList_is (.indexAddr _ _ _) rfl ?_; refine wpList_stp rfl (stp_val (run_idxv _ _ _ rfl) ?_)) | go_skip | (refine wpList_is (.build _ _) rfl ?_; go_must (refine wpList_stp rfl (stp_val (run_bd _ _ rfl) ?_))) | (refine wpList_is (.call { callee := .builtin .clear, args := #[_], argTypes := #[_] }) rfl ?_; go_must (refine wpList_stp rfl (stp_cl _ _ rfl hS (by decide) ?_)); clear hS; intro w hS) | (refine wpList_is (.load _ _) rfl ?_; go_must (first | refine wpList_stp rfl (stp_val (run_ld _ _ rfl hS) ?_) | refine wpList_stp rfl (stp_val (run_lda _ _ rfl hS) ?_) | refine wpList_stp rfl (stp_val (run_ld0 _ _ rfl hS) ?_) | refine wpList_stp rfl (stp_val (run_lda0 _ _ rfl hS) ?_))) | (refine wpList_is (.store _ _ _) rfl ?_; go_must (first | refine wpList_stp rfl (stp_st _ _ _ rfl hS ?_) | refine wpList_stp rfl (stp_sta _ _ _ rfl hS ?_)); clear hS; intro w hS) | (refine wpList_is (.alloc _) rfl ?_; go_must (refine wpList_stp rfl (stp_al _ rfl hS ?_)); clear hS; intro bN w hbN hS) | (refine wpList_is (.box _ _) rfl ?_; go_must (refine wpList_stp rfl (stp_bx _ _ rfl hS ?_)); clear hS; intro bN w hbN hS) | (refine wpList_is (.binOp .eql _ _ (.const (.slice none _ _)) _) rfl ?_; refine wpList_stp rfl (stp_val (run_nse _ _ _ rfl) ?_)) | (refine wpList_is (.binOp .neq _ _ (.const (.slice none _ _)) _) rfl ?_; refine wpList_stp rfl (stp_val (run_nsn _ _ _ rfl) ?_)) | (refine region_quiet hS (by kernel_rfl) (by kernel_rfl) (fun hne => ?_); (repeat (first | go_big_quiet_skip | (go_big_quiet_want; first | (refine quiet_is (.load _ _) rfl ?_; go_must (first | refine quiet_at sw_st (fun w hS => run_ld _ _ rfl hS) ?_ | refine quiet_at sw_st (fun w hS => run_lda _ _ rfl hS) ?_ | refine quiet_at sw_st (fun w hS => run_ld0 _ _ rfl hS) ?_ | refine quiet_at sw_st (fun w hS => run_lda0 _ _ rfl hS) ?_); go_big_quiet_on) | (refine quiet_is (.binOp .eql _ _ (.const (.slice none _ _)) _) rfl ?_; refine quiet_val (fun w _ => run_nse _ _ _ rfl) ?_; go_big_quiet_on) | (refine quiet_is (.binOp .neq _ _ (.const (.slice none _ _)) _) rfl ?_; refine quiet_val (fun w _ => run_nsn _ _ _ rfl) ?_; go_big_quiet_on) | (refine quiet_is (.call { callee := .builtin .len, args := #[_], argTypes := #[_] }) rfl ?_; refine quiet_val (fun w _ => run_lenv _ _ rfl) ?_; go_big_quiet_on) | (refine quiet_is (.indexAddr _ _ _) rfl ?_; refine quiet_val (fun w _ => run_idxv _ _ _ rfl) ?_; go_big_quiet_on) | (refine quiet_is (.binOp .eql _ _ _ _) rfl ?_; refine quiet_val (fun w _ => run_aeq _ _ _ _ rfl) ?_; go_big_quiet_on) | (refine quiet_is (.binOp .neq _ _ _ _) rfl ?_; refine quiet_val (fun w _ => run_ane _ _ _ _ rfl) ?_; go_big_quiet_on) | (go_big_quiet_op; go_big_quiet_on)))); refine wpQuiet_nil ?_; clear hS hne; intro w hS))
          exact hR _ hS.chg
end Go.Proofs.Ytoihgmijogeilaa
