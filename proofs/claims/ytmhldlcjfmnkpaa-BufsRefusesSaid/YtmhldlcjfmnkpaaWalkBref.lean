/-
  The walk of BufsRefuses.
-/
import Derived.Test.YtmhldlcjfmnkpaaSame
set_option linter.unusedSimpArgs false
set_option linter.unusedVariables false
namespace Go.Proofs.Ytmhldlcjfmnkpaa
open Go.RowKit Go.Mm
variable {R : Ending → World → Prop}

theorem nwB_no {z M g : Int} (h : nwOkB z M g = false) : nwB z M g = none ∧ nwBE z M g = 2 := by unfold nwB nwBE; rw [h]; exact ⟨rfl, rfl⟩
theorem fd_bad2 {T : Pl} {k i g e : Int} (h : fdE T k i g = e) (h0 : e ≠ 0) : byR T k i g = 0 ∧ upT T k i g = T := (fd_bad (by rw [h]; exact h0)).2
instance e_int : ElemT Try.prog 3 1 8 #[.int .i64 0] := ⟨by kernel_rfl⟩
instance sl_int : SliceT Try.prog 66 3 := ⟨by kernel_rfl⟩
theorem idxInt {b m c i : Nat} (hi : i < m) {j : Int} (hj : j = i) : IdxV Try.prog 66 (.slice (some ⟨b, 0, none⟩) m c) j ⟨b, i * 1, none⟩ := ⟨fun w => by
  subst hj
  have h2 : 0 ≤ (i : Int) := by omega
  simp [Instr.indexAt, asIntOf, run_underlying Try.underlying66, hi, run_sizeOf' (P := Try.prog) (t := 3) (n := 1) (by kernel_rfl), Addr.add_lit]⟩
/-- The kinds that are tried. -/
def badK (n : Int) (r : Nat) : Int := [1, 3, 0, 4 + n, -1].getD r 0
theorem badK_ne {n : Int} (hn : 0 ≤ n) (r : Nat) : badK n r ≠ 2 := by
  unfold badK
  match r with
  | 0 => simp
  | 1 => simp
  | 2 => simp
  | 3 => simp; omega
  | 4 => simp
  | r + 5 => simp
theorem badK_cell {n : Int} {r : Nat} (hr : r < 5) : CellAt #[.int .i64 1, .int .i64 3, .int .i64 0, .int .i64 (4 + n), .int .i64 (-1)] (r * 1) (.int .i64 (badK n r)) := ⟨by
  unfold badK
  match r, hr with
  | 0, _ => rfl
  | 1, _ => rfl
  | 2, _ => rfl
  | 3, _ => rfl
  | 4, _ => rfl⟩
theorem pin_no {M : Int} {L : List Bf} {n : Int} (h : n < 1 ∨ 65536 < n) : piT (some (some (M, L))) n = some (some (M, L)) ∧ piE (some (some (M, L))) n = 2 ∧ piR (some (some (M, L))) n = (0, 0, 0) := by
  have hI : piI M L n = none := by
    unfold piI
    rw [if_neg]
    simp only [Bool.and_eq_true, decide_eq_true_eq]
    omega
  have hE : (decide (1 ≤ n) && decide (n ≤ 65536)) = false := by
    rw [Bool.eq_false_iff, ne_eq, Bool.and_eq_true, decide_eq_true_eq, decide_eq_true_eq]; omega
  simp only [piT, piE, piR, hI, hE, Bool.false_eq_true, if_false, and_self]

set_option maxHeartbeats 2000000 in
set_option maxRecDepth 100000 in
theorem walk_bref {W : World} (a : Int) (wa : (Lit.int .u8 a).wf = true) (b : Int) (wb : (Lit.int .u16 b).wf = true) (v : Value) {n sb so : Nat} {F : Nat → Nat → Value} (hv : Flat W [.b, .i .u16] v n sb so F) (f : Int) (wf : (Lit.int .u16 f).wf = true) (hR : ∀ w', Chg W w' [] → Ret R (.bool true) w') :
    Calls Try.prog 8 #[.int .u8 a, .int .u16 b, v, .int .u16 f] W R := by
  have hS : St W [] W [] := St.start0
  have hlen := hv.len (t := 24) Try.underlying24
  by_cases hn : 100 < n
  · have q : decide (100 < (n : Int)) = true := decide_eq_true (by omega)
    go_enter Try.func8, Try.ntmps8
    go_wp2_with (first | go_skip | (go_at_call 10; refine works_ok hS ?_; clear hS; intro w hS; unfold Ret) | go_skip | (refine wpList_is (.call { callee := .builtin .len, args := #[_], argTypes := #[_] }) rfl ?_; refine wpList_stp rfl (stp_val (run_lenv _ _ rfl) ?_)) | (refine wpList_is (.slice _ _ none (some _) none) rfl ?_; refine wpList_stp rfl (stp_val (run_prev _ _ _ rfl) ?_)) | (refine wpList_is (.indexAddr _ _ _) rfl ?_; refine wpList_stp rfl (stp_val (run_idxv _ _ _ rfl) ?_)) | go_skip | (refine wpList_is (.build _ _) rfl ?_; go_must (refine wpList_stp rfl (stp_val (run_bd _ _ rfl) ?_))) | (refine wpList_is (.call { callee := .builtin .clear, args := #[_], argTypes := #[_] }) rfl ?_; go_must (refine wpList_stp rfl (stp_cl _ _ rfl hS (by decide) ?_)); clear hS; intro w hS) | (refine wpList_is (.load _ _) rfl ?_; go_must (first | refine wpList_stp rfl (stp_val (run_ld _ _ rfl hS) ?_) | refine wpList_stp rfl (stp_val (run_lda _ _ rfl hS) ?_) | refine wpList_stp rfl (stp_val (run_ld0 _ _ rfl hS) ?_) | refine wpList_stp rfl (stp_val (run_lda0 _ _ rfl hS) ?_))) | (refine wpList_is (.store _ _ _) rfl ?_; go_must (first | refine wpList_stp rfl (stp_st _ _ _ rfl hS ?_) | refine wpList_stp rfl (stp_sta _ _ _ rfl hS ?_)); clear hS; intro w hS) | (refine wpList_is (.alloc _) rfl ?_; go_must (refine wpList_stp rfl (stp_al _ rfl hS ?_)); clear hS; intro bN w hbN hS) | (refine wpList_is (.box _ _) rfl ?_; go_must (refine wpList_stp rfl (stp_bx _ _ rfl hS ?_)); clear hS; intro bN w hbN hS) | (refine wpList_is (.binOp .eql _ _ (.const (.slice none _ _)) _) rfl ?_; refine wpList_stp rfl (stp_val (run_nse _ _ _ rfl) ?_)) | (refine wpList_is (.binOp .neq _ _ (.const (.slice none _ _)) _) rfl ?_; refine wpList_stp rfl (stp_val (run_nsn _ _ _ rfl) ?_)) | (refine region_quiet hS (by kernel_rfl) (by kernel_rfl) (fun hne => ?_); (repeat (first | go_big_quiet_skip | (go_big_quiet_want; first | (refine quiet_is (.load _ _) rfl ?_; go_must (first | refine quiet_at sw_st (fun w hS => run_ld _ _ rfl hS) ?_ | refine quiet_at sw_st (fun w hS => run_lda _ _ rfl hS) ?_ | refine quiet_at sw_st (fun w hS => run_ld0 _ _ rfl hS) ?_ | refine quiet_at sw_st (fun w hS => run_lda0 _ _ rfl hS) ?_); go_big_quiet_on) | (refine quiet_is (.binOp .eql _ _ (.const (.slice none _ _)) _) rfl ?_; refine quiet_val (fun w _ => run_nse _ _ _ rfl) ?_; go_big_quiet_on) | (refine quiet_is (.binOp .neq _ _ (.const (.slice none _ _)) _) rfl ?_; refine quiet_val (fun w _ => run_nsn _ _ _ rfl) ?_; go_big_quiet_on) | (refine quiet_is (.call { callee := .builtin .len, args := #[_], argTypes := #[_] }) rfl ?_; refine quiet_val (fun w _ => run_lenv _ _ rfl) ?_; go_big_quiet_on) | (refine quiet_is (.indexAddr _ _ _) rfl ?_; refine quiet_val (fun w _ => run_idxv _ _ _ rfl) ?_; go_big_quiet_on) | (refine quiet_is (.binOp .eql _ _ _ _) rfl ?_; refine quiet_val (fun w _ => run_aeq _ _ _ _ rfl) ?_; go_big_quiet_on) | (refine quiet_is (.binOp .neq _ _ _ _) rfl ?_; refine quiet_val (fun w _ => run_ane _ _ _ _ rfl) ?_; go_big_quiet_on) | (go_big_quiet_op; go_big_quiet_on)))); refine wpQuiet_nil ?_; clear hS hne; intro w hS))
    exact hR _ hS.chg
  have q : decide (100 < (n : Int)) = false := decide_eq_false (by omega)
  obtain ⟨a0, a1⟩ := bounds_u8 wa
  obtain ⟨b0, b1⟩ := bounds_u16 wb
  obtain ⟨f0, f1⟩ := bounds_u16 wf
  have hI := (L0B_i (b := b) (f := 7) a0 b0 (by omega)).fl (pn := gvB F) (nn := whB F) (k := n) (by omega)
  obtain ⟨L, hL⟩ : ∃ L, flL (moB b) (L0B a 7) (gvB F) (whB F) n = L := ⟨_, rfl⟩
  rw [hL] at hI
  have hL' := Lib.hid hL
  have hI' := Lib.hid hI
  have hLl := hI.len
  have hid := idB_is a0
  have hids : idB a ≤ 64 := hid.2.2
  obtain ⟨l, hl⟩ : ∃ l, allL L = l := ⟨_, rfl⟩
  obtain ⟨m, hm⟩ : ∃ m, l.length = m := ⟨_, rfl⟩
  have h64 := allL_64 hI.w
  rw [hl, hm] at h64
  obtain ⟨M, hM⟩ : ∃ M, moB b = M := ⟨_, rfl⟩
  rw [hM] at hI hL'
  have hM' := Lib.hid hM
  have hal' : Hid (allP (some (some (M, L))) = l) := Lib.hid hl
  have hm' := Lib.hid hm
  have hl' := Lib.hid hl
  have hcp : cpP (some (some (M, L))) = some (some (M, L)) := rfl
  have hcp' := Lib.hid hcp
  obtain ⟨p1, p2, p3⟩ := pin_no (M := M) (L := L) (n := -f) (by omega)
  obtain ⟨r1, r2, r3⟩ := pin_no (M := M) (L := L) (n := 65537 + f) (by omega)
  have p1' := Lib.hid p1
  have p2' := Lib.hid p2
  have p3' := Lib.hid p3
  have r1' := Lib.hid r1
  have r2' := Lib.hid r2
  have r3' := Lib.hid r3
  have tok1 : True := trivial
  clear hL hI hl hm p1 p2 p3 r1 r2 r3 hid hcp hM hLl
  go_enter Try.func8, Try.ntmps8
  go_wp2_with (first
    | go_skip
    | (refine wpList_is (.alloc 36) rfl ?_; go_must (refine wpList_stp rfl (stp_al _ rfl hS ?_)); clear hS; intro bx w _ hS)
    | (go_at_call 18; refine filled_ok hS a b 7 wa wb (by decide) hv (by omega) ?_; clear hS; intro p E1 w hT hS; rw [hM'.out, hL'.out] at hT; have hpn := hT.nil; unfold Ret)
    | (go_at_call 23; refine pb_copy hS hT _ hcp'.out ?_; clear hS; intro q E2 w hU _ hS; have hqn := hU.nil; unfold Ret)
    | (go_at_call 12; have _t := tok1; (with_reducible refine pb_pin hS hT (-f) _ 2 (0, 0, 0) p1'.out p2'.out p3'.out ?_); clear hS hT tok1 _t; intro E1 w hT hS; unfold Ret)
    | (go_at_call 12; (with_reducible refine pb_pin hS hT (65537 + f) _ 2 (0, 0, 0) r1'.out r2'.out r3'.out ?_); clear hS hT; intro E1 w hT hS; unfold Ret)
    | (go_at_call 17; go_must (refine pb_all hS hT ?_); clear hS; intro v2 E3 w hL hS; rw [hal'.out] at hL; have hone2 := hL.one; have hln2 := hL.len hm'.out; unfold Ret)
    | go_skip | (refine wpList_is (.call { callee := .builtin .len, args := #[_], argTypes := #[_] }) rfl ?_; refine wpList_stp rfl (stp_val (run_lenv _ _ rfl) ?_)) | (refine wpList_is (.slice _ _ none (some _) none) rfl ?_; refine wpList_stp rfl (stp_val (run_prev _ _ _ rfl) ?_)) | (refine wpList_is (.indexAddr _ _ _) rfl ?_; refine wpList_stp rfl (stp_val (run_idxv _ _ _ rfl) ?_)) | go_skip | (refine wpList_is (.build _ _) rfl ?_; go_must (refine wpList_stp rfl (stp_val (run_bd _ _ rfl) ?_))) | (refine wpList_is (.call { callee := .builtin .clear, args := #[_], argTypes := #[_] }) rfl ?_; go_must (refine wpList_stp rfl (stp_cl _ _ rfl hS (by decide) ?_)); clear hS; intro w hS) | (refine wpList_is (.load _ _) rfl ?_; go_must (first | refine wpList_stp rfl (stp_val (run_ld _ _ rfl hS) ?_) | refine wpList_stp rfl (stp_val (run_lda _ _ rfl hS) ?_) | refine wpList_stp rfl (stp_val (run_ld0 _ _ rfl hS) ?_) | refine wpList_stp rfl (stp_val (run_lda0 _ _ rfl hS) ?_))) | (refine wpList_is (.store _ _ _) rfl ?_; go_must (first | refine wpList_stp rfl (stp_st _ _ _ rfl hS ?_) | refine wpList_stp rfl (stp_sta _ _ _ rfl hS ?_)); clear hS; intro w hS) | (refine wpList_is (.alloc _) rfl ?_; go_must (refine wpList_stp rfl (stp_al _ rfl hS ?_)); clear hS; intro bN w hbN hS) | (refine wpList_is (.box _ _) rfl ?_; go_must (refine wpList_stp rfl (stp_bx _ _ rfl hS ?_)); clear hS; intro bN w hbN hS) | (refine wpList_is (.binOp .eql _ _ (.const (.slice none _ _)) _) rfl ?_; refine wpList_stp rfl (stp_val (run_nse _ _ _ rfl) ?_)) | (refine wpList_is (.binOp .neq _ _ (.const (.slice none _ _)) _) rfl ?_; refine wpList_stp rfl (stp_val (run_nsn _ _ _ rfl) ?_)) | (refine region_quiet hS (by kernel_rfl) (by kernel_rfl) (fun hne => ?_); (repeat (first | go_big_quiet_skip | (go_big_quiet_want; first | (refine quiet_is (.load _ _) rfl ?_; go_must (first | refine quiet_at sw_st (fun w hS => run_ld _ _ rfl hS) ?_ | refine quiet_at sw_st (fun w hS => run_lda _ _ rfl hS) ?_ | refine quiet_at sw_st (fun w hS => run_ld0 _ _ rfl hS) ?_ | refine quiet_at sw_st (fun w hS => run_lda0 _ _ rfl hS) ?_); go_big_quiet_on) | (refine quiet_is (.binOp .eql _ _ (.const (.slice none _ _)) _) rfl ?_; refine quiet_val (fun w _ => run_nse _ _ _ rfl) ?_; go_big_quiet_on) | (refine quiet_is (.binOp .neq _ _ (.const (.slice none _ _)) _) rfl ?_; refine quiet_val (fun w _ => run_nsn _ _ _ rfl) ?_; go_big_quiet_on) | (refine quiet_is (.call { callee := .builtin .len, args := #[_], argTypes := #[_] }) rfl ?_; refine quiet_val (fun w _ => run_lenv _ _ rfl) ?_; go_big_quiet_on) | (refine quiet_is (.indexAddr _ _ _) rfl ?_; refine quiet_val (fun w _ => run_idxv _ _ _ rfl) ?_; go_big_quiet_on) | (refine quiet_is (.binOp .eql _ _ _ _) rfl ?_; refine quiet_val (fun w _ => run_aeq _ _ _ _ rfl) ?_; go_big_quiet_on) | (refine quiet_is (.binOp .neq _ _ _ _) rfl ?_; refine quiet_val (fun w _ => run_ane _ _ _ _ rfl) ?_; go_big_quiet_on) | (go_big_quiet_op; go_big_quiet_on)))); refine wpQuiet_nil ?_; clear hS hne; intro w hS))
  clear hpn hqn p1' p2' p3' r1' r2' r3'
  go_loopw [17, 18, 19, 20, 21, 22, 23, 24, 25, 26, 27] (fun u _ _ _ _ _ _ _ _ _ _ wr => ∃ (k : Nat) (E1 : List Ent), k ≤ m ∧ u = .int .i64 k ∧ PA p (some (some (M, L))) E1 ∧ St W [] wr (E3 ++ (E1 ++ E2))) (fun u _ _ _ _ _ _ _ _ _ _ _ => m - (intOf u).toNat)
  case atStart => exact ⟨0, E1, Nat.zero_le _, rfl, hT, hS.pick⟩
  case round =>
    clear hS hT
    obtain ⟨k, E1, hk, rfl, hT, hS⟩ := hrel
    by_cases hlk : k < m
    · have hlk' : k < l.length := by rw [hm'.out]; exact hlk
      obtain ⟨i, hi, hx, h1⟩ := allL_at (L := L) (j := k) (by rw [hl'.out]; exact hlk')
      rw [hl'.out] at hx
      obtain ⟨ga, spa, ia, hha, hca⟩ := hL.at hlk' hx
      have ia := ia k rfl
      simp only at hca
      obtain ⟨g, hg⟩ : ∃ g, (L.getD i (0, 0, 0)).2.1 = g := ⟨_, rfl⟩
      have hIo := hI'.out
      have hi64 : i < 64 := by have := hIo.len; omega
      have hgb : 1 ≤ g ∧ g ≤ 107 := by
        have h2 := hIo.lo _ (getDm hi)
        have h3 := hIo.w.tb.gn ((L.getD i (0, 0, 0)).1, (L.getD i (0, 0, 0)).2.1) (List.mem_map.2 ⟨_, getDm hi, rfl⟩)
        simp only at h3
        omega
      have k1 : fdE (some (some (M, L))) (badK f (f % 5).toNat) i g = 2 := by simp only [fdE]; rw [if_neg (badK_ne f0 _)]
      have k2 : fdE (some (some (M, L))) 2 (64 + f) g = 3 := by
        simp only [fdE, if_true]
        rw [if_neg]
        simp only [inTb, Bool.and_eq_true, decide_eq_true_eq, tbB_len]
        have := hIo.len
        omega
      have k3 : fdE (some (some (M, L))) 2 i (g + 1 + f) = 7 := by
        simp only [fdE, if_true]
        rw [if_pos (by simp only [inTb, Bool.and_eq_true, decide_eq_true_eq, tbB_len]; omega), if_neg]
        rw [ck_at (by rw [tbB_len]; exact hi), tbB_get, hg, if_neg (by intro h; have := (Prod.mk.inj h).2; omega)]
        decide
      obtain ⟨b1, u1⟩ := fd_bad2 k1 (by decide)
      obtain ⟨b2, u2⟩ := fd_bad2 k2 (by decide)
      obtain ⟨b3, u3⟩ := fd_bad2 k3 (by decide)
      have k1' := Lib.hid k1
      have k2' := Lib.hid k2
      have k3' := Lib.hid k3
      have b1' := Lib.hid b1
      have b2' := Lib.hid b2
      have b3' := Lib.hid b3
      have u1' := Lib.hid u1
      have u2' := Lib.hid u2
      have u3' := Lib.hid u3
      rw [hg] at hca
      obtain ⟨r, hr⟩ : ∃ r, (f % 5).toNat = r := ⟨_, rfl⟩
      have hr5 : r < 5 := by omega
      have hrI : f % 5 = (r : Int) := by omega
      rw [hr] at k1' b1' u1'
      obtain ⟨kd, hkd⟩ : ∃ kd, badK f r = kd := ⟨_, rfl⟩
      have hcd := badK_cell (n := f) hr5
      rw [hkd] at k1' b1' u1' hcd
      clear k1 k2 k3 b1 b2 b3 u1 u2 u3 hx hg h1 hi hlk' hIo hr hkd
      go_wp2_with (first | go_skip | (refine wpList_is (.alloc 36) rfl ?_; go_must (refine wpList_stp rfl (stp_al _ rfl hS ?_)); clear hS; intro bo w _ hS) | go_skip | (refine wpList_is (.call { callee := .builtin .len, args := #[_], argTypes := #[_] }) rfl ?_; refine wpList_stp rfl (stp_val (run_lenv _ _ rfl) ?_)) | (refine wpList_is (.slice _ _ none (some _) none) rfl ?_; refine wpList_stp rfl (stp_val (run_prev _ _ _ rfl) ?_)) | (refine wpList_is (.indexAddr _ _ _) rfl ?_; refine wpList_stp rfl (stp_val (run_idxv _ _ _ rfl) ?_)) | go_skip | (refine wpList_is (.build _ _) rfl ?_; go_must (refine wpList_stp rfl (stp_val (run_bd _ _ rfl) ?_))) | (refine wpList_is (.call { callee := .builtin .clear, args := #[_], argTypes := #[_] }) rfl ?_; go_must (refine wpList_stp rfl (stp_cl _ _ rfl hS (by decide) ?_)); clear hS; intro w hS) | (refine wpList_is (.load _ _) rfl ?_; go_must (first | refine wpList_stp rfl (stp_val (run_ld _ _ rfl hS) ?_) | refine wpList_stp rfl (stp_val (run_lda _ _ rfl hS) ?_) | refine wpList_stp rfl (stp_val (run_ld0 _ _ rfl hS) ?_) | refine wpList_stp rfl (stp_val (run_lda0 _ _ rfl hS) ?_))) | (refine wpList_is (.store _ _ _) rfl ?_; go_must (first | refine wpList_stp rfl (stp_st _ _ _ rfl hS ?_) | refine wpList_stp rfl (stp_sta _ _ _ rfl hS ?_)); clear hS; intro w hS) | (refine wpList_is (.alloc _) rfl ?_; go_must (refine wpList_stp rfl (stp_al _ rfl hS ?_)); clear hS; intro bN w hbN hS) | (refine wpList_is (.box _ _) rfl ?_; go_must (refine wpList_stp rfl (stp_bx _ _ rfl hS ?_)); clear hS; intro bN w hbN hS) | (refine wpList_is (.binOp .eql _ _ (.const (.slice none _ _)) _) rfl ?_; refine wpList_stp rfl (stp_val (run_nse _ _ _ rfl) ?_)) | (refine wpList_is (.binOp .neq _ _ (.const (.slice none _ _)) _) rfl ?_; refine wpList_stp rfl (stp_val (run_nsn _ _ _ rfl) ?_)))
      refine region_itemsE [⟨(undef, []), [(3, fun _ x => ∃ b, x = (.pointer (some ⟨b, 0, none⟩), [⟨b, #[.int .i64 0, .int .i64 0, .int .u32 0], 36, true⟩])), (6, fun y x => ∃ b, y.1 = .pointer (some ⟨b, 0, none⟩) ∧ x.2 = [⟨b, #[.int .i64 2, .int .i64 i, .int .u32 g], 36, true⟩])]⟩,
        ⟨(undef, []), [(4, fun _ x => ∃ b, x = (.pointer (some ⟨b, 0, none⟩), [⟨b, #[.int .i64 0, .int .i64 0, .int .u32 0], 36, true⟩])), (7, fun y x => ∃ b, y.1 = .pointer (some ⟨b, 0, none⟩) ∧ x.2 = [⟨b, #[.int .i64 2, .int .i64 i, .int .u32 g], 36, true⟩])]⟩,
        ⟨(undef, []), [(5, fun _ x => ∃ b, x = (.pointer (some ⟨b, 0, none⟩), [⟨b, #[.int .i64 0, .int .i64 0, .int .u32 0], 36, true⟩])), (8, fun y x => ∃ b, y.1 = .pointer (some ⟨b, 0, none⟩) ∧ x.2 = [⟨b, #[.int .i64 2, .int .i64 i, .int .u32 g], 36, true⟩])]⟩]
        (⟨bo, #[.int .i64 2, .int .i64 i, .int .u32 g], 36, true⟩ :: (E3 ++ (E1 ++ E2))) (⟨bo, #[.int .i64 2, .int .i64 i, .int .u32 g], 36, true⟩ :: (E3 ++ (E1 ++ E2))) (by simp) hS.pick (by kernel_rfl) (by kernel_rfl) ?_
      first | (refine fx_val (fun _ => rfl) rfl (fun χ w hw => run_mv _ rfl) ?_) | (refine fx_val (fun _ => rfl) rfl (fun χ w hw => run_as _ rfl) ?_) | (refine fx_val (fun _ => rfl) rfl (fun χ w hw => run_fa _ _ _ rfl) ?_) | (refine fx_val (fun _ => rfl) rfl (fun χ w hw => run_ld _ _ rfl hw) ?_) | (refine fx_val (fun _ => rfl) rfl (fun χ w hw => run_lda _ _ rfl hw) ?_) | (refine fx_val (fun _ => rfl) rfl (fun χ w hw => run_ld0 _ _ rfl hw) ?_) | (refine fx_val (fun _ => rfl) rfl (fun χ w hw => run_lda0 _ _ rfl hw) ?_) | (refine fx_val (fun _ => rfl) rfl (fun χ w hw => run_ine _ _ _ _ rfl) ?_) | (refine fx_val (fun _ => rfl) rfl (fun χ w hw => run_aeq _ _ _ _ rfl) ?_) | (refine fx_val (fun _ => rfl) rfl (fun χ w hw => run_ane _ _ _ _ rfl) ?_) | (refine fx_val (fun _ => rfl) rfl (fun χ w hw => run_lenv _ _ rfl) ?_) | (refine fx_val (fun _ => rfl) rfl (fun χ w hw => run_idxv _ _ _ rfl) ?_) | (refine fx_val (fun _ => rfl) rfl (fun χ w hw => run_pk1 _ _ _ rfl) ?_) | (refine fx_val (fun _ => rfl) rfl (fun χ w hw => run_pk2 _ _ _ rfl) ?_) | (refine fx_val (fun _ => rfl) rfl (fun χ w hw => run_nse _ _ _ rfl) ?_) | (refine fx_val (fun _ => rfl) rfl (fun χ w hw => run_nsn _ _ _ rfl) ?_) | (refine fx_val (fun _ => rfl) rfl (fun χ w hw => run_bd _ _ rfl) ?_) | (refine fx_val (fun _ => rfl) rfl (fun χ w hw => run_ieq _ _ _ _ rfl) ?_) | (refine fx_val (fun _ => rfl) rfl (fun χ w hw => run_beq _ _ _ _ rfl) ?_) | (refine fx_val (fun _ => rfl) rfl (fun χ w hw => run_bne _ _ _ _ rfl) ?_) | (refine fx_val (fun _ => rfl) rfl (fun χ w hw => run_bnot _ _ rfl) ?_) | (refine fx_val (fun _ => rfl) rfl (fun χ w hw => run_ext _ _ rfl) ?_) | (refine fx_val (fun _ => rfl) rfl (fun χ w hw => run_ilit _ _ _ _ rfl) ?_) | (refine fx_val (fun _ => rfl) rfl (fun χ w hw => run_cvn _ _ _ rfl) ?_) | (refine fx_val (fun _ => rfl) rfl (fun χ w hw => run_remn _ _ _ _ rfl (by decide)) ?_) | (refine fx_val (fun _ => rfl) rfl (fun χ w hw => run_nc _ rfl) ?_) | (refine fx_val (fun _ => rfl) rfl (fun χ w hw => run_inlit _ _ _ _ rfl) ?_) | (refine fx_skip (fun _ => rfl) ?_)
      first | (refine fx_val (fun _ => rfl) rfl (fun χ w hw => run_mv _ rfl) ?_) | (refine fx_val (fun _ => rfl) rfl (fun χ w hw => run_as _ rfl) ?_) | (refine fx_val (fun _ => rfl) rfl (fun χ w hw => run_fa _ _ _ rfl) ?_) | (refine fx_val (fun _ => rfl) rfl (fun χ w hw => run_ld _ _ rfl hw) ?_) | (refine fx_val (fun _ => rfl) rfl (fun χ w hw => run_lda _ _ rfl hw) ?_) | (refine fx_val (fun _ => rfl) rfl (fun χ w hw => run_ld0 _ _ rfl hw) ?_) | (refine fx_val (fun _ => rfl) rfl (fun χ w hw => run_lda0 _ _ rfl hw) ?_) | (refine fx_val (fun _ => rfl) rfl (fun χ w hw => run_ine _ _ _ _ rfl) ?_) | (refine fx_val (fun _ => rfl) rfl (fun χ w hw => run_aeq _ _ _ _ rfl) ?_) | (refine fx_val (fun _ => rfl) rfl (fun χ w hw => run_ane _ _ _ _ rfl) ?_) | (refine fx_val (fun _ => rfl) rfl (fun χ w hw => run_lenv _ _ rfl) ?_) | (refine fx_val (fun _ => rfl) rfl (fun χ w hw => run_idxv _ _ _ rfl) ?_) | (refine fx_val (fun _ => rfl) rfl (fun χ w hw => run_pk1 _ _ _ rfl) ?_) | (refine fx_val (fun _ => rfl) rfl (fun χ w hw => run_pk2 _ _ _ rfl) ?_) | (refine fx_val (fun _ => rfl) rfl (fun χ w hw => run_nse _ _ _ rfl) ?_) | (refine fx_val (fun _ => rfl) rfl (fun χ w hw => run_nsn _ _ _ rfl) ?_) | (refine fx_val (fun _ => rfl) rfl (fun χ w hw => run_bd _ _ rfl) ?_) | (refine fx_val (fun _ => rfl) rfl (fun χ w hw => run_ieq _ _ _ _ rfl) ?_) | (refine fx_val (fun _ => rfl) rfl (fun χ w hw => run_beq _ _ _ _ rfl) ?_) | (refine fx_val (fun _ => rfl) rfl (fun χ w hw => run_bne _ _ _ _ rfl) ?_) | (refine fx_val (fun _ => rfl) rfl (fun χ w hw => run_bnot _ _ rfl) ?_) | (refine fx_val (fun _ => rfl) rfl (fun χ w hw => run_ext _ _ rfl) ?_) | (refine fx_val (fun _ => rfl) rfl (fun χ w hw => run_ilit _ _ _ _ rfl) ?_) | (refine fx_val (fun _ => rfl) rfl (fun χ w hw => run_cvn _ _ _ rfl) ?_) | (refine fx_val (fun _ => rfl) rfl (fun χ w hw => run_remn _ _ _ _ rfl (by decide)) ?_) | (refine fx_val (fun _ => rfl) rfl (fun χ w hw => run_nc _ rfl) ?_) | (refine fx_val (fun _ => rfl) rfl (fun χ w hw => run_inlit _ _ _ _ rfl) ?_) | (refine fx_skip (fun _ => rfl) ?_)
      first | (refine fx_val (fun _ => rfl) rfl (fun χ w hw => run_mv _ rfl) ?_) | (refine fx_val (fun _ => rfl) rfl (fun χ w hw => run_as _ rfl) ?_) | (refine fx_val (fun _ => rfl) rfl (fun χ w hw => run_fa _ _ _ rfl) ?_) | (refine fx_val (fun _ => rfl) rfl (fun χ w hw => run_ld _ _ rfl hw) ?_) | (refine fx_val (fun _ => rfl) rfl (fun χ w hw => run_lda _ _ rfl hw) ?_) | (refine fx_val (fun _ => rfl) rfl (fun χ w hw => run_ld0 _ _ rfl hw) ?_) | (refine fx_val (fun _ => rfl) rfl (fun χ w hw => run_lda0 _ _ rfl hw) ?_) | (refine fx_val (fun _ => rfl) rfl (fun χ w hw => run_ine _ _ _ _ rfl) ?_) | (refine fx_val (fun _ => rfl) rfl (fun χ w hw => run_aeq _ _ _ _ rfl) ?_) | (refine fx_val (fun _ => rfl) rfl (fun χ w hw => run_ane _ _ _ _ rfl) ?_) | (refine fx_val (fun _ => rfl) rfl (fun χ w hw => run_lenv _ _ rfl) ?_) | (refine fx_val (fun _ => rfl) rfl (fun χ w hw => run_idxv _ _ _ rfl) ?_) | (refine fx_val (fun _ => rfl) rfl (fun χ w hw => run_pk1 _ _ _ rfl) ?_) | (refine fx_val (fun _ => rfl) rfl (fun χ w hw => run_pk2 _ _ _ rfl) ?_) | (refine fx_val (fun _ => rfl) rfl (fun χ w hw => run_nse _ _ _ rfl) ?_) | (refine fx_val (fun _ => rfl) rfl (fun χ w hw => run_nsn _ _ _ rfl) ?_) | (refine fx_val (fun _ => rfl) rfl (fun χ w hw => run_bd _ _ rfl) ?_) | (refine fx_val (fun _ => rfl) rfl (fun χ w hw => run_ieq _ _ _ _ rfl) ?_) | (refine fx_val (fun _ => rfl) rfl (fun χ w hw => run_beq _ _ _ _ rfl) ?_) | (refine fx_val (fun _ => rfl) rfl (fun χ w hw => run_bne _ _ _ _ rfl) ?_) | (refine fx_val (fun _ => rfl) rfl (fun χ w hw => run_bnot _ _ rfl) ?_) | (refine fx_val (fun _ => rfl) rfl (fun χ w hw => run_ext _ _ rfl) ?_) | (refine fx_val (fun _ => rfl) rfl (fun χ w hw => run_ilit _ _ _ _ rfl) ?_) | (refine fx_val (fun _ => rfl) rfl (fun χ w hw => run_cvn _ _ _ rfl) ?_) | (refine fx_val (fun _ => rfl) rfl (fun χ w hw => run_remn _ _ _ _ rfl (by decide)) ?_) | (refine fx_val (fun _ => rfl) rfl (fun χ w hw => run_nc _ rfl) ?_) | (refine fx_val (fun _ => rfl) rfl (fun χ w hw => run_inlit _ _ _ _ rfl) ?_) | (refine fx_skip (fun _ => rfl) ?_)
      refine fx_turn0 0 0 rfl rfl (by first | rfl | kernel_rfl) (by first | rfl | kernel_rfl) (by first | rfl | kernel_rfl) (fun _ => rfl) (fun x => x.1) ?_ ?_
      · intro χ X w _ hS
        exact stepX_al _ rfl (show St W [] w (X ++ _) from hS) (fun b w' _ hS' => ⟨(_, [_]), rfl, ⟨b, rfl⟩, hS'⟩)
      refine fx_turn0 1 0 rfl rfl (by first | rfl | kernel_rfl) (by first | rfl | kernel_rfl) (by first | rfl | kernel_rfl) (fun _ => rfl) (fun x => x.1) ?_ ?_
      · intro χ X w _ hS
        exact stepX_al _ rfl (show St W [] w (X ++ _) from hS) (fun b w' _ hS' => ⟨(_, [_]), rfl, ⟨b, rfl⟩, hS'⟩)
      refine fx_turn0 2 0 rfl rfl (by first | rfl | kernel_rfl) (by first | rfl | kernel_rfl) (by first | rfl | kernel_rfl) (fun _ => rfl) (fun x => x.1) ?_ ?_
      · intro χ X w _ hS
        exact stepX_al _ rfl (show St W [] w (X ++ _) from hS) (fun b w' _ hS' => ⟨(_, [_]), rfl, ⟨b, rfl⟩, hS'⟩)
      refine fx_turn0 0 1 rfl rfl (by first | rfl | kernel_rfl) (by first | rfl | kernel_rfl) (by first | rfl | kernel_rfl) (fun _ => rfl) (fun _ => undef) ?_ ?_
      · rintro χ X w ⟨⟨b, hb⟩, _⟩ hS
        have hS : St W [] w ((χ 3).2 ++ (X ++ _)) := hS
        rw [hb] at hS
        have hS : St W [] w (⟨b, #[.int .i64 0, .int .i64 0, .int .u32 0], 36, true⟩ :: (X ++ _)) := hS
        have hb1 : (χ 3).1 = .pointer (some ⟨b, 0, none⟩) := by rw [hb]
        exact stepX_stb _ _ _ rfl hS hb1 (fun w' hS' => ⟨(undef, [⟨b, #[.int .i64 2, .int .i64 i, .int .u32 g], 36, true⟩]), rfl, ⟨b, hb1, rfl⟩, hS'⟩)
      refine fx_turn0 1 1 rfl rfl (by first | rfl | kernel_rfl) (by first | rfl | kernel_rfl) (by first | rfl | kernel_rfl) (fun _ => rfl) (fun _ => undef) ?_ ?_
      · rintro χ X w ⟨⟨b, hb⟩, _⟩ hS
        have hS : St W [] w ((χ 4).2 ++ (X ++ _)) := hS
        rw [hb] at hS
        have hS : St W [] w (⟨b, #[.int .i64 0, .int .i64 0, .int .u32 0], 36, true⟩ :: (X ++ _)) := hS
        have hb1 : (χ 4).1 = .pointer (some ⟨b, 0, none⟩) := by rw [hb]
        exact stepX_stb _ _ _ rfl hS hb1 (fun w' hS' => ⟨(undef, [⟨b, #[.int .i64 2, .int .i64 i, .int .u32 g], 36, true⟩]), rfl, ⟨b, hb1, rfl⟩, hS'⟩)
      refine fx_turn0 2 1 rfl rfl (by first | rfl | kernel_rfl) (by first | rfl | kernel_rfl) (by first | rfl | kernel_rfl) (fun _ => rfl) (fun _ => undef) ?_ ?_
      · rintro χ X w ⟨⟨b, hb⟩, _⟩ hS
        have hS : St W [] w ((χ 5).2 ++ (X ++ _)) := hS
        rw [hb] at hS
        have hS : St W [] w (⟨b, #[.int .i64 0, .int .i64 0, .int .u32 0], 36, true⟩ :: (X ++ _)) := hS
        have hb1 : (χ 5).1 = .pointer (some ⟨b, 0, none⟩) := by rw [hb]
        exact stepX_stb _ _ _ rfl hS hb1 (fun w' hS' => ⟨(undef, [⟨b, #[.int .i64 2, .int .i64 i, .int .u32 g], 36, true⟩]), rfl, ⟨b, hb1, rfl⟩, hS'⟩)
      refine fx_end rfl ?_
      intro χ w hok hS
      obtain ⟨⟨c1, hb1⟩, ⟨c1', hb1', hs1⟩, _⟩ := hok _ (.head _)
      obtain ⟨⟨c2, hb2⟩, ⟨c2', hb2', hs2⟩, _⟩ := hok _ (.tail _ (.head _))
      obtain ⟨⟨c3, hb3⟩, ⟨c3', hb3', hs3⟩, _⟩ := hok _ (.tail _ (.tail _ (.head _)))
      rw [hb1] at hb1'
      rw [hb2] at hb2'
      rw [hb3] at hb3'
      obtain ⟨⟩ := hb1'
      obtain ⟨⟩ := hb2'
      obtain ⟨⟩ := hb3'
      have hS : St W [] w (((χ 6).2 ++ ((χ 7).2 ++ ((χ 8).2 ++ []))) ++ (⟨bo, #[.int .i64 2, .int .i64 i, .int .u32 g], 36, true⟩ :: (E3 ++ (E1 ++ E2)))) := hS
      rw [hs1, hs2, hs3, List.append_nil] at hS
      simp only [hb1, hb2, hb3]
      simp only [List.cons_append, List.nil_append] at hS
      clear hok hs1 hs2 hs3 hb1 hb2 hb3
      go_wp2_with (first
        | go_skip
        | (refine wpList_is (.buildSlice _ _ _) rfl ?_; go_must (refine wpList_stp rfl (stp_bsl _ _ _ rfl hS (by decide) rfl (by decide) (by decide) ?_)); clear hS; intro bN w hbN hS; have hix := idxInt (b := bN) (m := 5) (c := 5) hr5 (j := (r : Int)) rfl; have hix2 := idxInt (b := bN) (m := 5) (c := 5) hr5 hrI)
        | (go_at_call 14; (with_reducible refine pb_bytes hS hT kd i g 0 2 b1'.out k1'.out ?_); clear hS; intro w _ hS; unfold Ret)
        | (go_at_call 14; (with_reducible refine pb_bytes hS hT 2 (64 + f) g 0 3 b2'.out k2'.out ?_); clear hS; intro w _ hS; unfold Ret)
        | (go_at_call 14; (with_reducible refine pb_bytes hS hT 2 i (g + 1 + f) 0 7 b3'.out k3'.out ?_); clear hS; intro w _ hS; unfold Ret)
        | (go_at_call 13; (with_reducible refine pb_unpin hS hT kd i g _ 2 u1'.out k1'.out ?_); clear hS hT; intro E1 w hT hS; unfold Ret)
        | (go_at_call 13; (with_reducible refine pb_unpin hS hT 2 (64 + f) g _ 3 u2'.out k2'.out ?_); clear hS hT; intro E1 w hT hS; unfold Ret)
        | (go_at_call 13; (with_reducible refine pb_unpin hS hT 2 i (g + 1 + f) _ 7 u3'.out k3'.out ?_); clear hS hT; intro E1 w hT hS; unfold Ret)
        | go_skip | (refine wpList_is (.call { callee := .builtin .len, args := #[_], argTypes := #[_] }) rfl ?_; refine wpList_stp rfl (stp_val (run_lenv _ _ rfl) ?_)) | (refine wpList_is (.slice _ _ none (some _) none) rfl ?_; refine wpList_stp rfl (stp_val (run_prev _ _ _ rfl) ?_)) | (refine wpList_is (.indexAddr _ _ _) rfl ?_; refine wpList_stp rfl (stp_val (run_idxv _ _ _ rfl) ?_)) | go_skip | (refine wpList_is (.build _ _) rfl ?_; go_must (refine wpList_stp rfl (stp_val (run_bd _ _ rfl) ?_))) | (refine wpList_is (.call { callee := .builtin .clear, args := #[_], argTypes := #[_] }) rfl ?_; go_must (refine wpList_stp rfl (stp_cl _ _ rfl hS (by decide) ?_)); clear hS; intro w hS) | (refine wpList_is (.load _ _) rfl ?_; go_must (first | refine wpList_stp rfl (stp_val (run_ld _ _ rfl hS) ?_) | refine wpList_stp rfl (stp_val (run_lda _ _ rfl hS) ?_) | refine wpList_stp rfl (stp_val (run_ld0 _ _ rfl hS) ?_) | refine wpList_stp rfl (stp_val (run_lda0 _ _ rfl hS) ?_))) | (refine wpList_is (.store _ _ _) rfl ?_; go_must (first | refine wpList_stp rfl (stp_st _ _ _ rfl hS ?_) | refine wpList_stp rfl (stp_sta _ _ _ rfl hS ?_)); clear hS; intro w hS) | (refine wpList_is (.alloc _) rfl ?_; go_must (refine wpList_stp rfl (stp_al _ rfl hS ?_)); clear hS; intro bN w hbN hS) | (refine wpList_is (.box _ _) rfl ?_; go_must (refine wpList_stp rfl (stp_bx _ _ rfl hS ?_)); clear hS; intro bN w hbN hS) | (refine wpList_is (.binOp .eql _ _ (.const (.slice none _ _)) _) rfl ?_; refine wpList_stp rfl (stp_val (run_nse _ _ _ rfl) ?_)) | (refine wpList_is (.binOp .neq _ _ (.const (.slice none _ _)) _) rfl ?_; refine wpList_stp rfl (stp_val (run_nsn _ _ _ rfl) ?_)))
      go_roundw
      case rel => exact ⟨k + 1, E1, by omega, by go_num, hT, hS.pick⟩
      case measure => simp [intOf]; omega
    · have hkm : k = m := by omega
      subst hkm
      clear hlk hk
      have n1 := nwB_no (z := 0) (M := 1) (g := 1) (by decide)
      have n2 := nwB_no (z := 65 + f) (M := 1) (g := 1) (by simp [nwOkB]; omega)
      have n3 := nwB_no (z := 1) (M := -f) (g := 1) (by simp [nwOkB]; omega)
      have n4 := nwB_no (z := 1) (M := 16777217 + f) (g := 1) (by simp [nwOkB]; omega)
      have n5 := nwB_no (z := 1) (M := 1) (g := 0) (by decide)
      have k4 : fdE (some (some (M, L))) 2 (-1 - f) 7 = 3 := by
        simp only [fdE, if_true]
        rw [if_neg]
        simp only [inTb, Bool.and_eq_true, decide_eq_true_eq]
        omega
      obtain ⟨_, u4⟩ := fd_bad2 k4 (by decide)
      have n1' := Lib.hid n1
      have n2' := Lib.hid n2
      have n3' := Lib.hid n3
      have n4' := Lib.hid n4
      have n5' := Lib.hid n5
      have k4' := Lib.hid k4
      have u4' := Lib.hid u4
      clear n1 n2 n3 n4 n5 k4 u4
      go_wp2_with (first
        | go_skip
        | (go_at_call 11; (with_reducible refine pb_new hS 0 1 1 (by decide) none 2 n1'.out.1 n1'.out.2 ?_); clear hS; intro pn En w hN hS; unfold Ret)
        | (go_at_call 11; (with_reducible refine pb_new hS (65 + f) 1 1 (by decide) none 2 n2'.out.1 n2'.out.2 ?_); clear hS; intro pn En w hN hS; unfold Ret)
        | (go_at_call 11; (with_reducible refine pb_new hS 1 (-f) 1 (by decide) none 2 n3'.out.1 n3'.out.2 ?_); clear hS; intro pn En w hN hS; unfold Ret)
        | (go_at_call 11; (with_reducible refine pb_new hS 1 (16777217 + f) 1 (by decide) none 2 n4'.out.1 n4'.out.2 ?_); clear hS; intro pn En w hN hS; unfold Ret)
        | (go_at_call 11; (with_reducible refine pb_new hS 1 1 0 (by decide) none 2 n5'.out.1 n5'.out.2 ?_); clear hS; intro pn En w hN hS; unfold Ret)
        | (go_at_call 25; (with_reducible refine same_cut hS hT hU ?_); clear hS; intro w hS; unfold Ret)
        | (go_at_call 13; (with_reducible refine pb_unpin hS hT 2 (-1 - f) 7 _ 3 u4'.out k4'.out ?_); clear hS hT; intro E1 w hT hS; unfold Ret)
        | (go_at_call 10; refine works_ok hS ?_; clear hS; intro w hS; unfold Ret) | go_skip | (refine wpList_is (.call { callee := .builtin .len, args := #[_], argTypes := #[_] }) rfl ?_; refine wpList_stp rfl (stp_val (run_lenv _ _ rfl) ?_)) | (refine wpList_is (.slice _ _ none (some _) none) rfl ?_; refine wpList_stp rfl (stp_val (run_prev _ _ _ rfl) ?_)) | (refine wpList_is (.indexAddr _ _ _) rfl ?_; refine wpList_stp rfl (stp_val (run_idxv _ _ _ rfl) ?_)) | go_skip | (refine wpList_is (.build _ _) rfl ?_; go_must (refine wpList_stp rfl (stp_val (run_bd _ _ rfl) ?_))) | (refine wpList_is (.call { callee := .builtin .clear, args := #[_], argTypes := #[_] }) rfl ?_; go_must (refine wpList_stp rfl (stp_cl _ _ rfl hS (by decide) ?_)); clear hS; intro w hS) | (refine wpList_is (.load _ _) rfl ?_; go_must (first | refine wpList_stp rfl (stp_val (run_ld _ _ rfl hS) ?_) | refine wpList_stp rfl (stp_val (run_lda _ _ rfl hS) ?_) | refine wpList_stp rfl (stp_val (run_ld0 _ _ rfl hS) ?_) | refine wpList_stp rfl (stp_val (run_lda0 _ _ rfl hS) ?_))) | (refine wpList_is (.store _ _ _) rfl ?_; go_must (first | refine wpList_stp rfl (stp_st _ _ _ rfl hS ?_) | refine wpList_stp rfl (stp_sta _ _ _ rfl hS ?_)); clear hS; intro w hS) | (refine wpList_is (.alloc _) rfl ?_; go_must (refine wpList_stp rfl (stp_al _ rfl hS ?_)); clear hS; intro bN w hbN hS) | (refine wpList_is (.box _ _) rfl ?_; go_must (refine wpList_stp rfl (stp_bx _ _ rfl hS ?_)); clear hS; intro bN w hbN hS) | (refine wpList_is (.binOp .eql _ _ (.const (.slice none _ _)) _) rfl ?_; refine wpList_stp rfl (stp_val (run_nse _ _ _ rfl) ?_)) | (refine wpList_is (.binOp .neq _ _ (.const (.slice none _ _)) _) rfl ?_; refine wpList_stp rfl (stp_val (run_nsn _ _ _ rfl) ?_)))
      exact hR _ hS.chg
end Go.Proofs.Ytmhldlcjfmnkpaa
