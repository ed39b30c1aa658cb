/-
  The walk of ArenaFull.
-/
import Derived.Test.YtjlihigodggfcaaBgn
set_option linter.unusedSimpArgs false
set_option linter.unusedVariables false
namespace Go.Proofs.Ytjlihigodggfcaa
open Go Go.RowKit Go.Mm
variable {R : Ending → World → Prop}

/-- The arena: one object, that is in its own field, in a variable, and n times a root of m. -/
def FT (k m n : Nat) : Ar := (FL2, (List.replicate k []).set m (List.replicate n (0, 1)), zero8.set 3 (0, 1))
section
variable {k m n : Nat}
theorem rt_set {L : List Hs} {l : List Rf} {G : List Rf} (h : m < k) : rtL (L, (List.replicate k []).set m l, G) m = l := by
  unfold rtL
  rw [Int.toNat_natCast, List.getD_eq_getElem?_getD, List.getElem?_set_self (by simpa using h)]
  rfl
theorem in_set {L : List Hs} {l : List Rf} {G : List Rf} (h : m < k) : inM (L, (List.replicate k []).set m l, G) m = true := by
  simp only [inM, List.length_set, List.length_replicate, Bool.and_eq_true, decide_eq_true_eq]; omega
theorem ft_in (h : m < k) : inM (FT k m n) m = true := in_set h
theorem ft_rt (h : m < k) : rtL (FT k m n) m = List.replicate n (0, 1) := rt_set h
theorem ft_len (h : m < k) : (rtL (FT k m n) m).length = n := by rw [ft_rt h, List.length_replicate]
theorem ft_st (h : m < k) : (if inM (FT k m n) m then rtL (FT k m n) m else []).length = n := by rw [ft_in h, if_pos rfl, ft_len h]
theorem ft_mu (h : m < k) : muE (FT k m n) m = 0 := by unfold muE; rw [ft_in h]; rfl
theorem rt0 {L : List Hs} {l : List Rf} {G : List Rf} (h : m < k) (hn : 1 ≤ n) : rtE (L, (List.replicate k []).set m (List.replicate n (0, 1)), G) m 0 = 0 ∧ rtR (L, (List.replicate k []).set m (List.replicate n (0, 1)), G) m 0 = (0, 1) := by
  have e : rtE (L, (List.replicate k []).set m (List.replicate n (0, 1)), G) m 0 = 0 := by
    unfold rtE; rw [in_set h, if_pos rfl, rt_set h, if_pos (by rw [List.length_replicate]; omega)]
  refine ⟨e, ?_⟩
  unfold rtR
  rw [e, if_pos rfl, rt_set h]
  cases n with
  | zero => omega
  | succ n => rfl
theorem ft_ldV (h : m < k) (hn : 1 ≤ n) : ldV (FT k m n) m 0 0 = (0, 1) := by
  obtain ⟨e1, e2⟩ := rt0 (L := FL2) (l := []) (G := zero8.set 3 (0, 1)) h hn
  unfold ldV
  show (if rtE (FL2, (List.replicate k []).set m (List.replicate n (0, 1)), zero8.set 3 (0, 1)) m 0 = 0 then _ else _) = _
  rw [if_pos e1]
  show ldR (some (some FL2)) (rtR (FL2, (List.replicate k []).set m (List.replicate n (0, 1)), zero8.set 3 (0, 1)) m 0).1 (rtR (FL2, (List.replicate k []).set m (List.replicate n (0, 1)), zero8.set 3 (0, 1)) m 0).2 0 = _
  rw [e2]
  exact fl_ld.2
theorem ft_ldX (h : m < k) (hn : 1 ≤ n) : ldX (FT k m n) m 0 0 = 0 := by
  obtain ⟨e1, e2⟩ := rt0 (L := FL2) (l := []) (G := zero8.set 3 (0, 1)) h hn
  unfold ldX
  rw [ft_ldV h hn]
  show (if rtE (FL2, (List.replicate k []).set m (List.replicate n (0, 1)), zero8.set 3 (0, 1)) m 0 = 0 then ldxE (ldE (some (some FL2)) (rtR (FL2, (List.replicate k []).set m (List.replicate n (0, 1)), zero8.set 3 (0, 1)) m 0).1 (rtR (FL2, (List.replicate k []).set m (List.replicate n (0, 1)), zero8.set 3 (0, 1)) m 0).2 0) (0, 1) else _) = 0
  rw [if_pos e1, e2, show ldE (some (some FL2)) ((0, 1) : Rf).1 ((0, 1) : Rf).2 0 = 0 from fl_ld.1]
  decide
theorem ft_gtX : gtX (FT k m n) 3 = 0 := by show ldxE (vE (some (true, zero8.set 3 (0, 1))) 3) (gtR (some (true, zero8.set 3 (0, 1))) 3) = 0; decide
theorem ft_gtR : gtR (some (true, (FT k m n).2.2)) 3 = (0, 1) := by show gtR (some (true, zero8.set 3 (0, 1))) 3 = (0, 1); decide
theorem ft_gi (h : m < k) : giT (FT k m n) m (0, 1) = FT k m (n + 1) := by
  unfold giT
  rw [ft_rt h]
  unfold FT
  simp only [Int.toNat_natCast, List.set_set, List.replicate_succ']
theorem f_make (h : m < k) : mkAr (FL0, List.replicate k [], zero8) m 1 false = (FL1, (List.replicate k []).set m (List.replicate 1 (0, 1)), zero8) := by
  have e : rtL (FL0, List.replicate k [], zero8) m = [] := by
    unfold rtL; rw [Int.toNat_natCast, List.getD_eq_getElem?_getD, List.getElem?_replicate, if_pos h]; rfl
  unfold mkAr
  simp only [fl_mk.1, fl_mk.2.1, e, Int.toNat_natCast, hpL]
  rfl
theorem f_in0 (h : m < k) : inM (FL0, List.replicate k [], zero8) m = true := by
  simp only [inM, List.length_replicate, Bool.and_eq_true, decide_eq_true_eq]; omega
theorem f_rt0 (h : m < k) : rtL (FL0, List.replicate k [], zero8) m = [] := by
  unfold rtL; rw [Int.toNat_natCast, List.getD_eq_getElem?_getD, List.getElem?_replicate, if_pos h]; rfl
theorem f_store (h : m < k) : stA (FL1, (List.replicate k []).set m (List.replicate 1 (0, 1)), zero8) m 0 0 0 = (FL2, (List.replicate k []).set m (List.replicate 1 (0, 1)), zero8) := by
  obtain ⟨e1, e2⟩ := rt0 (L := FL1) (l := []) (G := zero8) (n := 1) h (Nat.le_refl _)
  have e3 : vaR (FL1, (List.replicate k []).set m (List.replicate 1 (0, 1)), zero8) m 0 = (0, 1) := by unfold vaR; rw [if_neg (by decide)]; exact e2
  unfold stA
  rw [e2, e3]
  simp only [fl_st.1, hpL]
theorem f_va {L : List Hs} {G : List Rf} (h : m < k) : vaE (L, (List.replicate k []).set m (List.replicate 1 (0, 1)), G) m 0 = 0 ∧ vaR (L, (List.replicate k []).set m (List.replicate 1 (0, 1)), G) m 0 = (0, 1) := by
  obtain ⟨e1, e2⟩ := rt0 (L := L) (l := []) (G := G) (n := 1) h (Nat.le_refl _)
  refine ⟨?_, ?_⟩
  · unfold vaE
    rw [show decide ((0 : Int) = -1) = false from rfl, Bool.and_false]
    exact e1
  · unfold vaR; rw [if_neg (by decide)]; exact e2
end
theorem bounds_u8A {n : Int} (h : (Lit.int .u8 n).wf = true) : 0 ≤ n ∧ n ≤ 255 := by
  simp [Lit.wf, IntKind.min, IntKind.max, IntKind.signed, IntKind.bits] at h
  omega

set_option maxHeartbeats 8000000 in
set_option maxRecDepth 100000 in
theorem walk_afull {W : World} (mu : Int) (w1 : (Lit.int .u8 mu).wf = true) (wh : Int) (w2 : (Lit.int .u8 wh).wf = true) (ls : Int) (w3 : (Lit.int .u8 ls).wf = true) (hR : ∀ w', Chg W w' [] → Ret R (.bool true) w') :
    Calls Try.prog 3 #[.int .u8 mu, .int .u8 wh, .int .u8 ls] W R := by
  have hS : St W [] W [] := St.start0
  have hmu := bounds_u8A w1
  obtain ⟨h0, h1⟩ := bounds_u8A w2
  obtain ⟨l0, l1⟩ := bounds_u8A w3
  obtain ⟨k, hk⟩ : ∃ k : Nat, 1 + mu % 4 = (k : Int) := ⟨(1 + mu % 4).toNat, by omega⟩
  have hk14 : 1 ≤ k ∧ k ≤ 4 := by omega
  have hk' := Lib.hid hk
  obtain ⟨m, hm⟩ : ∃ m : Nat, wh % (k : Int) = (m : Int) := ⟨(wh % (k : Int)).toNat, (Int.toNat_of_nonneg (Int.emod_nonneg _ (by omega))).symm⟩
  have hmk : m < k := by have := Int.emod_lt_of_pos wh (show (0 : Int) < k by omega); omega
  have rm : RemIs wh (k : Int) (m : Int) := ⟨by rw [Int.tmod_eq_emod_of_nonneg h0]; exact hm, by omega⟩
  obtain ⟨rr, hrr⟩ : ∃ rr : Nat, ls % 3 = (rr : Int) := ⟨(ls % 3).toNat, by omega⟩
  have rr3 : rr < 3 := by omega
  have hrr' := Lib.hid hrr
  have hT0 : nwA (1 + 255) k 1 = (FL0, List.replicate k [], zero8) := by
    show (hpL (nwH 256 1), List.replicate (k : Int).toNat [], zero8) = _
    rw [fl_new.1, Int.toNat_natCast]; rfl
  have hT0' := Lib.hid hT0
  have q0 := refE (refB_self 0 0)
  have q1 := refE (refB_self 0 1)
  clear w1 w2 w3 hk hm hT0 hrr
  go_enter Try.func3, Try.ntmps3
  go_wp2_with (first | go_skip | (refine wpList_is (.binOp .neq 29 _ _ _) rfl ?_; refine wpList_stp (by kernel_rfl) (stp_val (run_ane _ _ _ _ rfl) ?_)) | (refine wpList_is (.binOp .rem _ _ _ _) rfl ?_; refine wpList_stp (by kernel_rfl) (stp_val (run_remv _ _ _ _ rfl) ?_)) | (go_at_call 9; go_must (refine begin_ok hS 255 mu (by decide) hmu k hk'.out _ hT0'.out ?_); clear hS; intro bm bv M p E cv w0 bs w hB hT hS; unfold Ret) | (go_at_call 10; go_must (refine ar_make_ok hS hT m 1 false (f_in0 hmk) (by decide) (by rw [f_rt0 hmk]; decide) fl_mk.2.2 _ (0, 1) (f_make hmk) fl_mk.2.1 ?_); clear hS hT; intro E w hT hS; unfold Ret) | (go_at_call 11; go_must (refine ar_store_ok hS hT m 0 0 0 (rt0 (l := []) hmk (Nat.le_refl _)).1 (f_va hmk).1 (0, 1) (0, 1) (0, 0) (rt0 (l := []) hmk (Nat.le_refl _)).2 (f_va hmk).2 fl_st.2.1 fl_st.2.2 _ (f_store hmk) ?_); clear hS hT; intro E w hT hS; unfold Ret) | (go_at_call 12; go_must (refine ar_put_ok hS hT m 0 3 (f_va hmk).1 (by decide) (FT k m 1) (0, 1) (0, 0) (f_va hmk).2 (show zero8.getD 3 (0, 0) = (0, 0) from rfl) rfl ?_); clear hS hT; intro E w hT hS; unfold Ret) | (refine wpList_is (o := ⟨some 9, _, _, _, _, _⟩) (.alloc _) rfl ?_; go_must (refine wpList_stp (by kernel_rfl) (stp_al _ rfl hS ?_)); clear hS; intro b9 w _ hS) | (refine wpList_is (.alloc 29) rfl ?_; go_must (refine wpList_stp (by kernel_rfl) (stp_al _ rfl hS ?_)); clear hS; intro br w _ hS) | go_skip | (refine wpList_is (.call { callee := .builtin .len, args := #[_], argTypes := #[_] }) rfl ?_; refine wpList_stp (by kernel_rfl) (stp_val (run_lenv _ _ rfl) ?_)) | (refine wpList_is (.slice _ _ none (some _) none) rfl ?_; refine wpList_stp (by kernel_rfl) (stp_val (run_prev _ _ _ rfl) ?_)) | (refine wpList_is (.indexAddr _ _ _) rfl ?_; refine wpList_stp (by kernel_rfl) (stp_val (run_idxv _ _ _ rfl) ?_)) | go_skip | (refine wpList_is (.build _ _) rfl ?_; go_must (refine wpList_stp (by kernel_rfl) (stp_val (run_bd _ _ rfl) ?_))) | (refine wpList_is (.call { callee := .builtin .clear, args := #[_], argTypes := #[_] }) rfl ?_; go_must (refine wpList_stp (by kernel_rfl) (stp_cl _ _ rfl hS (by decide) ?_)); clear hS; intro w hS) | (refine wpList_is (.load _ _) rfl ?_; go_must (first | refine wpList_stp (by kernel_rfl) (stp_val (run_ld _ _ rfl hS) ?_) | refine wpList_stp (by kernel_rfl) (stp_val (run_lda _ _ rfl hS) ?_) | refine wpList_stp (by kernel_rfl) (stp_val (run_ld0 _ _ rfl hS) ?_) | refine wpList_stp (by kernel_rfl) (stp_val (run_lda0 _ _ rfl hS) ?_))) | (refine wpList_is (.store _ _ _) rfl ?_; go_must (first | refine wpList_stp (by kernel_rfl) (stp_st _ _ _ rfl hS ?_) | refine wpList_stp (by kernel_rfl) (stp_sta _ _ _ rfl hS ?_)); clear hS; intro w hS) | (refine wpList_is (.alloc _) rfl ?_; go_must (refine wpList_stp (by kernel_rfl) (stp_al _ rfl hS ?_)); clear hS; intro bN w hbN hS) | (refine wpList_is (.box _ _) rfl ?_; go_must (refine wpList_stp (by kernel_rfl) (stp_bx _ _ rfl hS ?_)); clear hS; intro bN w hbN hS) | (refine wpList_is (.binOp .eql _ _ (.const (.slice none _ _)) _) rfl ?_; refine wpList_stp (by kernel_rfl) (stp_val (run_nse _ _ _ rfl) ?_)) | (refine wpList_is (.binOp .neq _ _ (.const (.slice none _ _)) _) rfl ?_; refine wpList_stp (by kernel_rfl) (stp_val (run_nsn _ _ _ rfl) ?_)))
  have hS0 : St w0 bs _ (⟨bm, wrC p M (.slice (some ⟨bv, 0, none⟩) k k) zero8, 32, true⟩ :: ⟨b9, #[.int .i64 0, .int .u32 1], 29, true⟩ :: E) := hS.pick
  have hT0 := hT
  obtain ⟨wo, hwo⟩ : ∃ wo : World, wo = w := ⟨_, rfl⟩
  clear hS hT hwo hT0'
  go_loopw [18] (fun u wr => ∃ (n : Nat) (E : List Ent), 1 ≤ n ∧ n ≤ 32 - rr ∧ u = .int .i64 n ∧ AA p (FT k m n) E ∧ St w0 bs wr (⟨bm, wrC p M (.slice (some ⟨bv, 0, none⟩) k k) zero8, 32, true⟩ :: ⟨b9, #[.int .i64 0, .int .u32 1], 29, true⟩ :: E)) (fun u _ => 32 - (intOf u).toNat)
  case atStart => exact ⟨1, E, by omega, by omega, rfl, hT0, hS0⟩
  case round =>
    clear hS0 hT0
    obtain ⟨n, E, hn1, hn2, rfl, hT, hS⟩ := hrel
    by_cases hlt : n < 32 - rr
    · have dn : decide ((n : Int) < 32 - ls % 3) = true := decide_eq_true (by have := hrr'.out; omega)
      go_wp2_with (first | go_skip | (refine wpList_is (.binOp .neq 29 _ _ _) rfl ?_; refine wpList_stp (by kernel_rfl) (stp_val (run_ane _ _ _ _ rfl) ?_)) | (go_at_call 13; go_must (refine ar_load_ok hS hT m 0 0 (ft_in hmk) (ft_ldX hmk (by omega)) (by rw [ft_len hmk]; omega) (0, 1) (ft_ldV hmk (by omega)) ?_); clear hS hT; intro E w hT hS; rw [ft_gi hmk] at hT; unfold Ret) | go_skip | (refine wpList_is (.call { callee := .builtin .len, args := #[_], argTypes := #[_] }) rfl ?_; refine wpList_stp (by kernel_rfl) (stp_val (run_lenv _ _ rfl) ?_)) | (refine wpList_is (.slice _ _ none (some _) none) rfl ?_; refine wpList_stp (by kernel_rfl) (stp_val (run_prev _ _ _ rfl) ?_)) | (refine wpList_is (.indexAddr _ _ _) rfl ?_; refine wpList_stp (by kernel_rfl) (stp_val (run_idxv _ _ _ rfl) ?_)) | go_skip | (refine wpList_is (.build _ _) rfl ?_; go_must (refine wpList_stp (by kernel_rfl) (stp_val (run_bd _ _ rfl) ?_))) | (refine wpList_is (.call { callee := .builtin .clear, args := #[_], argTypes := #[_] }) rfl ?_; go_must (refine wpList_stp (by kernel_rfl) (stp_cl _ _ rfl hS (by decide) ?_)); clear hS; intro w hS) | (refine wpList_is (.load _ _) rfl ?_; go_must (first | refine wpList_stp (by kernel_rfl) (stp_val (run_ld _ _ rfl hS) ?_) | refine wpList_stp (by kernel_rfl) (stp_val (run_lda _ _ rfl hS) ?_) | refine wpList_stp (by kernel_rfl) (stp_val (run_ld0 _ _ rfl hS) ?_) | refine wpList_stp (by kernel_rfl) (stp_val (run_lda0 _ _ rfl hS) ?_))) | (refine wpList_is (.store _ _ _) rfl ?_; go_must (first | refine wpList_stp (by kernel_rfl) (stp_st _ _ _ rfl hS ?_) | refine wpList_stp (by kernel_rfl) (stp_sta _ _ _ rfl hS ?_)); clear hS; intro w hS) | (refine wpList_is (.alloc _) rfl ?_; go_must (refine wpList_stp (by kernel_rfl) (stp_al _ rfl hS ?_)); clear hS; intro bN w hbN hS) | (refine wpList_is (.box _ _) rfl ?_; go_must (refine wpList_stp (by kernel_rfl) (stp_bx _ _ rfl hS ?_)); clear hS; intro bN w hbN hS) | (refine wpList_is (.binOp .eql _ _ (.const (.slice none _ _)) _) rfl ?_; refine wpList_stp (by kernel_rfl) (stp_val (run_nse _ _ _ rfl) ?_)) | (refine wpList_is (.binOp .neq _ _ (.const (.slice none _ _)) _) rfl ?_; refine wpList_stp (by kernel_rfl) (stp_val (run_nsn _ _ _ rfl) ?_)))
      go_roundw
      case rel => exact ⟨n + 1, E, by omega, by omega, by go_num, hT, hS.pick⟩
      case measure => simp [intOf]; omega
    · have dn : decide ((n : Int) < 32 - ls % 3) = false := decide_eq_false (by have := hrr'.out; omega)
      obtain rfl : n = 32 - rr := by omega
      have q3 : BoolEq Try.prog 4 true true true := ⟨by simp, Try.underlying4⟩
      have q4 : BoolEq Try.prog 4 false false true := ⟨by simp, Try.underlying4⟩
      rcases rr with _ | _ | _ | rr
      · have e3 : decide (0 < ls % 3) = false := decide_eq_false (by have := hrr'.out; omega)
        have e4 : decide (1 < ls % 3) = false := decide_eq_false (by have := hrr'.out; omega)
        have hT : AA p (FT k m 32) E := hT
        go_wp2_with (first | go_skip | (go_at_call 14; go_must (refine ar_heap hS hT ?_); clear hS; intro qh Eq w _ hQ hS; unfold Ret) | (go_at_call 15; go_must (refine hp_len hS hQ 1 fl_al ?_); clear hS; intro w _ hS; unfold Ret) | (go_at_call 16; go_must (refine ar_get_err hS hT m 3 (ft_in hmk) 0 ft_gtX (.inr (ft_len hmk)) 4 (by decide) ?_); clear hS; intro w _ hS; unfold Ret) | (go_at_call 13; go_must (refine ar_load_err hS hT m 0 0 (ft_in hmk) 0 (ft_ldX hmk (by omega)) (.inr (ft_len hmk)) 4 (by decide) ?_); clear hS; intro w _ hS; unfold Ret) | (go_at_call 10; (with_reducible refine ar_make_err hS hT m 0 true (ft_in hmk) (.inr (ft_len hmk)) 4 (by decide) ?_); clear hS; intro w _ hS; unfold Ret) | (go_at_call 10; (with_reducible refine ar_make_err hS hT m 5 true (ft_in hmk) (.inl (by decide)) 2 (by decide) ?_); clear hS; intro w _ hS; unfold Ret) | (go_at_call 17; go_must (refine ar_stack hS hT m _ 0 rfl (ft_mu hmk) ?_); clear hS; intro v9 E9 w _ hL9 hS; have hone9 := hL9.one; have hln9 : LenV Try.prog 44 v9 32 := hL9.len (ft_st hmk); unfold Ret) | (go_at_call 18; refine works_ok hS ?_; clear hS; intro w hS; unfold Ret) | (refine wpList_is (.binOp .neq 29 _ _ _) rfl ?_; refine wpList_stp (by kernel_rfl) (stp_val (run_ane _ _ _ _ rfl) ?_)) | go_skip | (refine wpList_is (.call { callee := .builtin .len, args := #[_], argTypes := #[_] }) rfl ?_; refine wpList_stp (by kernel_rfl) (stp_val (run_lenv _ _ rfl) ?_)) | (refine wpList_is (.slice _ _ none (some _) none) rfl ?_; refine wpList_stp (by kernel_rfl) (stp_val (run_prev _ _ _ rfl) ?_)) | (refine wpList_is (.indexAddr _ _ _) rfl ?_; refine wpList_stp (by kernel_rfl) (stp_val (run_idxv _ _ _ rfl) ?_)) | go_skip | (refine wpList_is (.build _ _) rfl ?_; go_must (refine wpList_stp (by kernel_rfl) (stp_val (run_bd _ _ rfl) ?_))) | (refine wpList_is (.call { callee := .builtin .clear, args := #[_], argTypes := #[_] }) rfl ?_; go_must (refine wpList_stp (by kernel_rfl) (stp_cl _ _ rfl hS (by decide) ?_)); clear hS; intro w hS) | (refine wpList_is (.load _ _) rfl ?_; go_must (first | refine wpList_stp (by kernel_rfl) (stp_val (run_ld _ _ rfl hS) ?_) | refine wpList_stp (by kernel_rfl) (stp_val (run_lda _ _ rfl hS) ?_) | refine wpList_stp (by kernel_rfl) (stp_val (run_ld0 _ _ rfl hS) ?_) | refine wpList_stp (by kernel_rfl) (stp_val (run_lda0 _ _ rfl hS) ?_))) | (refine wpList_is (.store _ _ _) rfl ?_; go_must (first | refine wpList_stp (by kernel_rfl) (stp_st _ _ _ rfl hS ?_) | refine wpList_stp (by kernel_rfl) (stp_sta _ _ _ rfl hS ?_)); clear hS; intro w hS) | (refine wpList_is (.alloc _) rfl ?_; go_must (refine wpList_stp (by kernel_rfl) (stp_al _ rfl hS ?_)); clear hS; intro bN w hbN hS) | (refine wpList_is (.box _ _) rfl ?_; go_must (refine wpList_stp (by kernel_rfl) (stp_bx _ _ rfl hS ?_)); clear hS; intro bN w hbN hS) | (refine wpList_is (.binOp .eql _ _ (.const (.slice none _ _)) _) rfl ?_; refine wpList_stp (by kernel_rfl) (stp_val (run_nse _ _ _ rfl) ?_)) | (refine wpList_is (.binOp .neq _ _ (.const (.slice none _ _)) _) rfl ?_; refine wpList_stp (by kernel_rfl) (stp_val (run_nsn _ _ _ rfl) ?_)) | (refine region_quiet hS (by kernel_rfl) (by kernel_rfl) (fun hne => ?_); (repeat (first | go_big_quiet_skip | (go_big_quiet_want; first | (refine quiet_is (.load _ _) rfl ?_; go_must (first | refine quiet_at sw_st (fun w hS => run_ld _ _ rfl hS) ?_ | refine quiet_at sw_st (fun w hS => run_lda _ _ rfl hS) ?_ | refine quiet_at sw_st (fun w hS => run_ld0 _ _ rfl hS) ?_ | refine quiet_at sw_st (fun w hS => run_lda0 _ _ rfl hS) ?_); go_big_quiet_on) | (refine quiet_is (.binOp .eql _ _ (.const (.slice none _ _)) _) rfl ?_; refine quiet_val (fun w _ => run_nse _ _ _ rfl) ?_; go_big_quiet_on) | (refine quiet_is (.binOp .neq _ _ (.const (.slice none _ _)) _) rfl ?_; refine quiet_val (fun w _ => run_nsn _ _ _ rfl) ?_; go_big_quiet_on) | (refine quiet_is (.call { callee := .builtin .len, args := #[_], argTypes := #[_] }) rfl ?_; refine quiet_val (fun w _ => run_lenv _ _ rfl) ?_; go_big_quiet_on) | (refine quiet_is (.indexAddr _ _ _) rfl ?_; refine quiet_val (fun w _ => run_idxv _ _ _ rfl) ?_; go_big_quiet_on) | (refine quiet_is (.binOp .eql _ _ _ _) rfl ?_; refine quiet_val (fun w _ => run_aeq _ _ _ _ rfl) ?_; go_big_quiet_on) | (refine quiet_is (.binOp .neq _ _ _ _) rfl ?_; refine quiet_val (fun w _ => run_ane _ _ _ _ rfl) ?_; go_big_quiet_on) | (go_big_quiet_op; go_big_quiet_on)))); refine wpQuiet_nil ?_; clear hS hne; intro w hS))
        exact hR _ (hB.all hS)
      · have e3 : decide (0 < ls % 3) = true := decide_eq_true (by have := hrr'.out; omega)
        have e4 : decide (1 < ls % 3) = false := decide_eq_false (by have := hrr'.out; omega)
        have hT : AA p (FT k m 31) E := hT
        have d31 : decide ((31 : Int) < 32 - ls % 3) = false := decide_eq_false (by have := hrr'.out; omega)
        go_wp2_with (first | go_skip | (go_at_call 14; go_must (refine ar_heap hS hT ?_); clear hS; intro qh Eq w _ hQ hS; unfold Ret) | (go_at_call 15; go_must (refine hp_len hS hQ 1 fl_al ?_); clear hS; intro w _ hS; unfold Ret) | (go_at_call 16; go_must (refine ar_get_ok hS hT m 3 (ft_in hmk) ft_gtX (by rw [ft_len hmk]; omega) (0, 1) ft_gtR ?_); clear hS hT; intro E w hT hS; rw [ft_gi hmk] at hT; unfold Ret) | (go_at_call 13; go_must (refine ar_load_err hS hT m 0 0 (ft_in hmk) 0 (ft_ldX hmk (by omega)) (.inr (ft_len hmk)) 4 (by decide) ?_); clear hS; intro w _ hS; unfold Ret) | (go_at_call 10; (with_reducible refine ar_make_err hS hT m 0 true (ft_in hmk) (.inr (ft_len hmk)) 4 (by decide) ?_); clear hS; intro w _ hS; unfold Ret) | (go_at_call 10; (with_reducible refine ar_make_err hS hT m 5 true (ft_in hmk) (.inl (by decide)) 2 (by decide) ?_); clear hS; intro w _ hS; unfold Ret) | (go_at_call 17; go_must (refine ar_stack hS hT m _ 0 rfl (ft_mu hmk) ?_); clear hS; intro v9 E9 w _ hL9 hS; have hone9 := hL9.one; have hln9 : LenV Try.prog 44 v9 32 := hL9.len (ft_st hmk); unfold Ret) | (go_at_call 18; refine works_ok hS ?_; clear hS; intro w hS; unfold Ret) | (refine wpList_is (.binOp .neq 29 _ _ _) rfl ?_; refine wpList_stp (by kernel_rfl) (stp_val (run_ane _ _ _ _ rfl) ?_)) | go_skip | (refine wpList_is (.call { callee := .builtin .len, args := #[_], argTypes := #[_] }) rfl ?_; refine wpList_stp (by kernel_rfl) (stp_val (run_lenv _ _ rfl) ?_)) | (refine wpList_is (.slice _ _ none (some _) none) rfl ?_; refine wpList_stp (by kernel_rfl) (stp_val (run_prev _ _ _ rfl) ?_)) | (refine wpList_is (.indexAddr _ _ _) rfl ?_; refine wpList_stp (by kernel_rfl) (stp_val (run_idxv _ _ _ rfl) ?_)) | go_skip | (refine wpList_is (.build _ _) rfl ?_; go_must (refine wpList_stp (by kernel_rfl) (stp_val (run_bd _ _ rfl) ?_))) | (refine wpList_is (.call { callee := .builtin .clear, args := #[_], argTypes := #[_] }) rfl ?_; go_must (refine wpList_stp (by kernel_rfl) (stp_cl _ _ rfl hS (by decide) ?_)); clear hS; intro w hS) | (refine wpList_is (.load _ _) rfl ?_; go_must (first | refine wpList_stp (by kernel_rfl) (stp_val (run_ld _ _ rfl hS) ?_) | refine wpList_stp (by kernel_rfl) (stp_val (run_lda _ _ rfl hS) ?_) | refine wpList_stp (by kernel_rfl) (stp_val (run_ld0 _ _ rfl hS) ?_) | refine wpList_stp (by kernel_rfl) (stp_val (run_lda0 _ _ rfl hS) ?_))) | (refine wpList_is (.store _ _ _) rfl ?_; go_must (first | refine wpList_stp (by kernel_rfl) (stp_st _ _ _ rfl hS ?_) | refine wpList_stp (by kernel_rfl) (stp_sta _ _ _ rfl hS ?_)); clear hS; intro w hS) | (refine wpList_is (.alloc _) rfl ?_; go_must (refine wpList_stp (by kernel_rfl) (stp_al _ rfl hS ?_)); clear hS; intro bN w hbN hS) | (refine wpList_is (.box _ _) rfl ?_; go_must (refine wpList_stp (by kernel_rfl) (stp_bx _ _ rfl hS ?_)); clear hS; intro bN w hbN hS) | (refine wpList_is (.binOp .eql _ _ (.const (.slice none _ _)) _) rfl ?_; refine wpList_stp (by kernel_rfl) (stp_val (run_nse _ _ _ rfl) ?_)) | (refine wpList_is (.binOp .neq _ _ (.const (.slice none _ _)) _) rfl ?_; refine wpList_stp (by kernel_rfl) (stp_val (run_nsn _ _ _ rfl) ?_)) | (refine region_quiet hS (by kernel_rfl) (by kernel_rfl) (fun hne => ?_); (repeat (first | go_big_quiet_skip | (go_big_quiet_want; first | (refine quiet_is (.load _ _) rfl ?_; go_must (first | refine quiet_at sw_st (fun w hS => run_ld _ _ rfl hS) ?_ | refine quiet_at sw_st (fun w hS => run_lda _ _ rfl hS) ?_ | refine quiet_at sw_st (fun w hS => run_ld0 _ _ rfl hS) ?_ | refine quiet_at sw_st (fun w hS => run_lda0 _ _ rfl hS) ?_); go_big_quiet_on) | (refine quiet_is (.binOp .eql _ _ (.const (.slice none _ _)) _) rfl ?_; refine quiet_val (fun w _ => run_nse _ _ _ rfl) ?_; go_big_quiet_on) | (refine quiet_is (.binOp .neq _ _ (.const (.slice none _ _)) _) rfl ?_; refine quiet_val (fun w _ => run_nsn _ _ _ rfl) ?_; go_big_quiet_on) | (refine quiet_is (.call { callee := .builtin .len, args := #[_], argTypes := #[_] }) rfl ?_; refine quiet_val (fun w _ => run_lenv _ _ rfl) ?_; go_big_quiet_on) | (refine quiet_is (.indexAddr _ _ _) rfl ?_; refine quiet_val (fun w _ => run_idxv _ _ _ rfl) ?_; go_big_quiet_on) | (refine quiet_is (.binOp .eql _ _ _ _) rfl ?_; refine quiet_val (fun w _ => run_aeq _ _ _ _ rfl) ?_; go_big_quiet_on) | (refine quiet_is (.binOp .neq _ _ _ _) rfl ?_; refine quiet_val (fun w _ => run_ane _ _ _ _ rfl) ?_; go_big_quiet_on) | (go_big_quiet_op; go_big_quiet_on)))); refine wpQuiet_nil ?_; clear hS hne; intro w hS))
        exact hR _ (hB.all hS)
      · have e3 : decide (0 < ls % 3) = true := decide_eq_true (by have := hrr'.out; omega)
        have e4 : decide (1 < ls % 3) = true := decide_eq_true (by have := hrr'.out; omega)
        have hT : AA p (FT k m 30) E := hT
        have d30 : decide ((30 : Int) < 32 - ls % 3) = false := decide_eq_false (by have := hrr'.out; omega)
        go_wp2_with (first | go_skip | (go_at_call 14; go_must (refine ar_heap hS hT ?_); clear hS; intro qh Eq w _ hQ hS; unfold Ret) | (go_at_call 15; go_must (refine hp_len hS hQ 1 fl_al ?_); clear hS; intro w _ hS; unfold Ret) | (go_at_call 16; go_must (refine ar_get_ok hS hT m 3 (ft_in hmk) ft_gtX (by rw [ft_len hmk]; omega) (0, 1) ft_gtR ?_); clear hS hT; intro E w hT hS; rw [ft_gi hmk] at hT; unfold Ret) | (go_at_call 13; go_must (refine ar_load_ok hS hT m 0 0 (ft_in hmk) (ft_ldX hmk (by omega)) (by rw [ft_len hmk]; omega) (0, 1) (ft_ldV hmk (by omega)) ?_); clear hS hT; intro E w hT hS; rw [ft_gi hmk] at hT; unfold Ret) | (go_at_call 10; (with_reducible refine ar_make_err hS hT m 0 true (ft_in hmk) (.inr (ft_len hmk)) 4 (by decide) ?_); clear hS; intro w _ hS; unfold Ret) | (go_at_call 10; (with_reducible refine ar_make_err hS hT m 5 true (ft_in hmk) (.inl (by decide)) 2 (by decide) ?_); clear hS; intro w _ hS; unfold Ret) | (go_at_call 17; go_must (refine ar_stack hS hT m _ 0 rfl (ft_mu hmk) ?_); clear hS; intro v9 E9 w _ hL9 hS; have hone9 := hL9.one; have hln9 : LenV Try.prog 44 v9 32 := hL9.len (ft_st hmk); unfold Ret) | (go_at_call 18; refine works_ok hS ?_; clear hS; intro w hS; unfold Ret) | (refine wpList_is (.binOp .neq 29 _ _ _) rfl ?_; refine wpList_stp (by kernel_rfl) (stp_val (run_ane _ _ _ _ rfl) ?_)) | go_skip | (refine wpList_is (.call { callee := .builtin .len, args := #[_], argTypes := #[_] }) rfl ?_; refine wpList_stp (by kernel_rfl) (stp_val (run_lenv _ _ rfl) ?_)) | (refine wpList_is (.slice _ _ none (some _) none) rfl ?_; refine wpList_stp (by kernel_rfl) (stp_val (run_prev _ _ _ rfl) ?_)) | (refine wpList_is (.indexAddr _ _ _) rfl ?_; refine wpList_stp (by kernel_rfl) (stp_val (run_idxv _ _ _ rfl) ?_)) | go_skip | (refine wpList_is (.build _ _) rfl ?_; go_must (refine wpList_stp (by kernel_rfl) (stp_val (run_bd _ _ rfl) ?_))) | (refine wpList_is (.call { callee := .builtin .clear, args := #[_], argTypes := #[_] }) rfl ?_; go_must (refine wpList_stp (by kernel_rfl) (stp_cl _ _ rfl hS (by decide) ?_)); clear hS; intro w hS) | (refine wpList_is (.load _ _) rfl ?_; go_must (first | refine wpList_stp (by kernel_rfl) (stp_val (run_ld _ _ rfl hS) ?_) | refine wpList_stp (by kernel_rfl) (stp_val (run_lda _ _ rfl hS) ?_) | refine wpList_stp (by kernel_rfl) (stp_val (run_ld0 _ _ rfl hS) ?_) | refine wpList_stp (by kernel_rfl) (stp_val (run_lda0 _ _ rfl hS) ?_))) | (refine wpList_is (.store _ _ _) rfl ?_; go_must (first | refine wpList_stp (by kernel_rfl) (stp_st _ _ _ rfl hS ?_) | refine wpList_stp (by kernel_rfl) (stp_sta _ _ _ rfl hS ?_)); clear hS; intro w hS) | (refine wpList_is (.alloc _) rfl ?_; go_must (refine wpList_stp (by kernel_rfl) (stp_al _ rfl hS ?_)); clear hS; intro bN w hbN hS) | (refine wpList_is (.box _ _) rfl ?_; go_must (refine wpList_stp (by kernel_rfl) (stp_bx _ _ rfl hS ?_)); clear hS; intro bN w hbN hS) | (refine wpList_is (.binOp .eql _ _ (.const (.slice none _ _)) _) rfl ?_; refine wpList_stp (by kernel_rfl) (stp_val (run_nse _ _ _ rfl) ?_)) | (refine wpList_is (.binOp .neq _ _ (.const (.slice none _ _)) _) rfl ?_; refine wpList_stp (by kernel_rfl) (stp_val (run_nsn _ _ _ rfl) ?_)) | (refine region_quiet hS (by kernel_rfl) (by kernel_rfl) (fun hne => ?_); (repeat (first | go_big_quiet_skip | (go_big_quiet_want; first | (refine quiet_is (.load _ _) rfl ?_; go_must (first | refine quiet_at sw_st (fun w hS => run_ld _ _ rfl hS) ?_ | refine quiet_at sw_st (fun w hS => run_lda _ _ rfl hS) ?_ | refine quiet_at sw_st (fun w hS => run_ld0 _ _ rfl hS) ?_ | refine quiet_at sw_st (fun w hS => run_lda0 _ _ rfl hS) ?_); go_big_quiet_on) | (refine quiet_is (.binOp .eql _ _ (.const (.slice none _ _)) _) rfl ?_; refine quiet_val (fun w _ => run_nse _ _ _ rfl) ?_; go_big_quiet_on) | (refine quiet_is (.binOp .neq _ _ (.const (.slice none _ _)) _) rfl ?_; refine quiet_val (fun w _ => run_nsn _ _ _ rfl) ?_; go_big_quiet_on) | (refine quiet_is (.call { callee := .builtin .len, args := #[_], argTypes := #[_] }) rfl ?_; refine quiet_val (fun w _ => run_lenv _ _ rfl) ?_; go_big_quiet_on) | (refine quiet_is (.indexAddr _ _ _) rfl ?_; refine quiet_val (fun w _ => run_idxv _ _ _ rfl) ?_; go_big_quiet_on) | (refine quiet_is (.binOp .eql _ _ _ _) rfl ?_; refine quiet_val (fun w _ => run_aeq _ _ _ _ rfl) ?_; go_big_quiet_on) | (refine quiet_is (.binOp .neq _ _ _ _) rfl ?_; refine quiet_val (fun w _ => run_ane _ _ _ _ rfl) ?_; go_big_quiet_on) | (go_big_quiet_op; go_big_quiet_on)))); refine wpQuiet_nil ?_; clear hS hne; intro w hS))
        exact hR _ (hB.all hS)
      · omega
end Go.Proofs.Ytjlihigodggfcaa
