/-
  The walk of ColourWay.
-/
import Derived.Test.YtpfcjlbgljcooaaColW
import Derived.Test.YtpfcjlbgljcooaaArg
namespace Go.Proofs.Ytpfcjlbgljcooaa
open Go.RowKit Go.Mm
variable {R : Ending → World → Prop}

instance s_u16 : ScalarT Try.prog 28 := ⟨by kernel_rfl, by kernel_rfl⟩
instance sl_int : SliceT Try.prog 27 3 := ⟨by kernel_rfl⟩
instance e_int : ElemT Try.prog 3 1 8 #[.int .i64 0] := ⟨by kernel_rfl⟩

/-- What the law keeps: the colours, what it wants, and how often a slot was shaded. -/
structure WayInv (N : Nat) (L Wt Sh : List Int) : Prop where
  l : L.length = 256
  w : Wt.length = N
  s : Sh.length = N
  c : ∀ c ∈ L, c = 0 ∨ c = 1 ∨ c = 2
  eq : ∀ i, i < N → L.getD i 0 = Wt.getD i 0
  sh : ∀ i, i < N → Sh.getD i 0 = if Wt.getD i 0 = 0 then 0 else 1

theorem getD_set (L : List Int) (i j : Nat) (c : Int) (h : i < L.length) : (L.set i c).getD j 0 = if j = i then c else L.getD j 0 := by
  simp only [List.getD_eq_getElem?_getD, List.getElem?_set]
  by_cases e : i = j
  · subst e; simp [h]
  · have e' : ¬ j = i := fun q => e q.symm
    simp [e, e']
theorem mem_set_of {L : List Int} {i : Nat} {c : Int} {p : Int → Prop} (h : ∀ x ∈ L, p x) (hc : p c) : ∀ x ∈ L.set i c, p x := fun x hx => by
  rcases List.mem_or_eq_of_mem_set hx with h1 | rfl
  · exact h x h1
  · exact hc

theorem WayInv.shade {N : Nat} {L Wt Sh : List Int} (h : WayInv N L Wt Sh) (hN : N ≤ 256) {i : Nat} (hi : i < N) : WayInv N (L.set i 1) (Wt.set i 1) (Sh.set i 1) := by
  have := h.l
  have := h.w
  have := h.s
  refine ⟨by simpa using h.l, by simpa using h.w, by simpa using h.s, mem_set_of h.c (by simp), fun j hj => ?_, fun j hj => ?_⟩
  · rw [getD_set _ _ _ _ (by omega), getD_set _ _ _ _ (by omega), h.eq j hj]
  · rw [getD_set _ _ _ _ (by omega), getD_set _ _ _ _ (by omega), h.sh j hj]
    by_cases e : j = i <;> simp [e]
theorem WayInv.black {N : Nat} {L Wt Sh : List Int} (h : WayInv N L Wt Sh) (hN : N ≤ 256) {i : Nat} (hi : i < N) (h1 : Wt.getD i 0 = 1) : WayInv N (L.set i 2) (Wt.set i 2) Sh := by
  have := h.l
  have := h.w
  have := h.s
  refine ⟨by simpa using h.l, by simpa using h.w, h.s, mem_set_of h.c (by simp), fun j hj => ?_, fun j hj => ?_⟩
  · rw [getD_set _ _ _ _ (by omega), getD_set _ _ _ _ (by omega), h.eq j hj]
  · rw [getD_set _ _ _ _ (by omega), h.sh j hj]
    by_cases e : j = i
    · subst e; rw [h1]; simp
    · simp [e]
theorem repAt (n i : Nat) : (List.replicate n (0 : Int)).getD i 0 = 0 := by
  rw [List.getD_eq_getElem?_getD, List.getElem?_replicate]; split <;> rfl
theorem zerosAt (i : Nat) : zerosL.getD i 0 = 0 := repAt 256 i
theorem WayInv.start (N : Nat) : WayInv N zerosL (List.replicate N 0) (List.replicate N 0) := by
  refine ⟨zerosLen, by simp, by simp, ?_, ?_, ?_⟩
  · intro c hc
    exact .inl (List.mem_replicate.1 hc).2
  · intro i hi
    exact (zerosAt i).trans (repAt N i).symm
  · intro i hi
    exact (repAt N i).trans (if_pos (repAt N i)).symm

set_option maxHeartbeats 4000000 in
set_option maxRecDepth 100000 in
theorem walk_way {W : World} (a0 : Int) (w0 : (Lit.int .u8 a0).wf = true) (v : Value) {n b off : Nat} {F : Nat → Nat → Value} (hv : Flat W [.i .u16] v n b off F) (hR : ∀ w', Chg W w' [] → Ret R (.bool true) w') :
    Calls Try.prog 3 #[.int .u8 a0, v] W R := by
  have hS : St W [] W [] := St.start0
  obtain ⟨lo, hi⟩ := bounds_u8 w0
  obtain ⟨m, rfl⟩ := Int.eq_ofNat_of_zero_le lo
  have hmk := run_make_ints sl_int e_int (1 + m) (by omega) (by omega) (1 + (m : Int)) (by omega)
  have hlen := hv.len (t := 22) Try.underlying22
  obtain ⟨q, hq⟩ : ∃ q : Nat, (if (200 : Int) < n then (200 : Int) else n) = q := ⟨if 200 < n then 200 else n, by split <;> split <;> omega⟩
  have hqn : q ≤ n := by split at hq <;> omega
  obtain ⟨v', hpre, hv'⟩ := hv.pre (t := 22) (m := q) Try.underlying22 (by kernel_rfl) hqn
  have hlen' := hv'.len (t := 22) Try.underlying22
  go_enter Try.func3, Try.ntmps3
  go_wp2_with (first | (go_at_call 9; refine new_ok hS _ (by omega) (by omega) ?_; clear hS; intro pb w hS; unfold Ret))
  refine region_two (w0 := W) (bs := []) (fun c d => [(31, .int .i64 (1 + (m : Int))), (32, .slice (some ⟨c, 0, none⟩) (1 + m) (1 + m)), (33, .int .i64 (1 + (m : Int))), (34, .slice (some ⟨d, 0, none⟩) (1 + m) (1 + m)), (8, .slice (some ⟨c, 0, none⟩) (1 + m) (1 + m)), (9, .slice (some ⟨d, 0, none⟩) (1 + m) (1 + m))])
    (fun c d => [⟨c, intsK .i64 (List.replicate (1 + m) 0), 3, true⟩, ⟨d, intsK .i64 (List.replicate (1 + m) 0), 3, true⟩, ⟨pb, paintCells (1 + (m : Int)) zerosL, 59, true⟩]) ?_ ?_
  · go_region
    · obtain ⟨c8, c9, w', e1, e2, e3, hS', _⟩ := two_new hS (intsK .i64 (List.replicate (1 + m) 0)) (intsK .i64 (List.replicate (1 + m) 0)) 3 3
      rw [e3, e2, e1]
      exact ⟨c8, c9, rfl, hS'⟩
    · obtain ⟨c9, c8, w', e1, e2, e3, _, hS'⟩ := two_new hS (intsK .i64 (List.replicate (1 + m) 0)) (intsK .i64 (List.replicate (1 + m) 0)) 3 3
      rw [e3, e2, e1]
      exact ⟨c8, c9, rfl, hS'⟩
  clear hS hmk
  intro c8 c9 w' hS
  go_wp2_with (first | (refine wpList_is (.call { callee := .builtin .len, args := #[_], argTypes := #[_] }) rfl ?_; refine wpList_stp rfl (stp_val (run_lenv _ _ rfl) ?_)) | (refine wpList_is (.slice _ _ none (some _) none) rfl ?_; refine wpList_stp rfl (stp_val (run_prev _ _ _ rfl) ?_)) | (refine wpList_is (.indexAddr _ _ _) rfl ?_; refine wpList_stp rfl (stp_val (run_idxv _ _ _ rfl) ?_)))
  go_loopw [41] (fun u wr => ∃ (k : Nat) (L Wt Sh : List Int), k ≤ q ∧ u = .int .i64 k ∧ WayInv (1 + m) L Wt Sh ∧ St W [] wr [⟨c8, intsK .i64 Wt, 3, true⟩, ⟨c9, intsK .i64 Sh, 3, true⟩, ⟨pb, paintCells (1 + (m : Int)) L, 59, true⟩]) (fun u _ => q - (intOf u).toNat)
  case atStart => exact ⟨0, _, _, _, Nat.zero_le _, rfl, WayInv.start _, hS⟩
  case round =>
    obtain ⟨k, L, Wt, Sh, hk, rfl, hI, hS⟩ := hrel
    by_cases hlt : k < q
    · have hidx := hv'.idx1 (t := 22) (i := k) rfl Try.underlying22 (by kernel_rfl) hlt
      have hcell := hv'.cell1 (i := k) rfl hlt
      obtain ⟨x, hx, hxw⟩ := hv'.int (i := k) (j := 0) hlt rfl
      obtain ⟨x0, x1⟩ := bounds_u16 hxw
      rw [hx] at hcell
      clear hx hxw
      obtain ⟨i, hi⟩ : ∃ i : Nat, x / 2 % (1 + (m : Int)) = i := ⟨(x / 2 % (1 + (m : Int))).toNat, (Int.toNat_of_nonneg (Int.emod_nonneg _ (by omega))).symm⟩
      have him : i < 1 + m := by have := Int.emod_lt_of_pos (x / 2) (show 0 < 1 + (m : Int) by omega); omega
      have hn1 : 1 + (m : Int) ≤ 256 := by omega
      have hl1 : 1 + (m : Int) ≤ L.length := by rw [hI.l]; omega
      have hi1 : (i : Int) < 1 + (m : Int) := by omega
      have hc := hI.c
      have hc2 : ∀ c ∈ L, 0 ≤ c ∧ c ≤ 255 := fun c h => by rcases hc c h with rfl | rfl | rfl <;> decide
      have hWl : i < Wt.length := by rw [hI.w]; exact him
      have hSl : i < Sh.length := by rw [hI.s]; exact him
      have hLl : i < L.length := by rw [hI.l]; omega
      have hw1 := intsAt (k := .i64) hWl
      have hw2 := intsAt (k := .i64) hSl
      have he := hI.eq i him
      have hs := hI.sh i him
      have h012 := hc (L.getD i 0) (by simp [List.getD_eq_getElem?_getD, List.getElem?_eq_getElem hLl])
      cases hbit : (bits BinOp.and IntKind.u16 x 1 == 0)
      · -- Blacken
        rw [he] at h012
        rcases h012 with h0 | h0 | h0
        · rw [h0] at hw1 hs
          have e1 : blackE 1 L i = 8 := by unfold blackE; rw [he, h0]; rfl
          have e2 : blackL 1 L i = L := by unfold blackL; rw [he, h0]; rfl
          have e3 := he.trans h0
          have hs01 : Sh.getD i 0 ≤ 1 := by rw [hs]; split <;> decide
          generalize Sh.getD i 0 = sh at *
          clear hs he h0 hc
          go_wp2_with (first | (go_at_call 11; refine blacken_eq hS hn1 hl1 i _ rfl hi1 8 L e1 e2 ?_; clear hS; intro w hS; unfold Ret) | (go_at_call 12; refine of_eq hS hn1 hl1 hc2 i _ rfl hi1 _ e3 ?_; clear hS; intro w hS; unfold Ret) | (refine wpList_is (.call { callee := .builtin .len, args := #[_], argTypes := #[_] }) rfl ?_; refine wpList_stp rfl (stp_val (run_lenv _ _ rfl) ?_)) | (refine wpList_is (.slice _ _ none (some _) none) rfl ?_; refine wpList_stp rfl (stp_val (run_prev _ _ _ rfl) ?_)) | (refine wpList_is (.indexAddr _ _ _) rfl ?_; refine wpList_stp rfl (stp_val (run_idxv _ _ _ rfl) ?_)) | (refine wpList_is (.build _ _) rfl ?_; go_must (refine wpList_stp rfl (stp_val (run_bd _ _ rfl) ?_))) | (refine wpList_is (.call { callee := .builtin .clear, args := #[_], argTypes := #[_] }) rfl ?_; go_must (refine wpList_stp rfl (stp_cl _ _ rfl hS (by decide) ?_)); clear hS; intro w hS) | (refine wpList_is (.load _ _) rfl ?_; go_must (first | refine wpList_stp rfl (stp_val (run_ld _ _ rfl hS) ?_) | refine wpList_stp rfl (stp_val (run_lda _ _ rfl hS) ?_) | refine wpList_stp rfl (stp_val (run_ld0 _ _ rfl hS) ?_) | refine wpList_stp rfl (stp_val (run_lda0 _ _ rfl hS) ?_))) | (refine wpList_is (.store _ _ _) rfl ?_; go_must (first | refine wpList_stp rfl (stp_st _ _ _ rfl hS ?_) | refine wpList_stp rfl (stp_sta _ _ _ rfl hS ?_)); clear hS; intro w hS) | (refine wpList_is (.alloc _) rfl ?_; go_must (refine wpList_stp rfl (stp_al _ rfl hS ?_)); clear hS; intro bN w hbN hS) | (refine wpList_is (.box _ _) rfl ?_; go_must (refine wpList_stp rfl (stp_bx _ _ rfl hS ?_)); clear hS; intro bN w hbN hS) | (refine region_quiet hS (by kernel_rfl) (by kernel_rfl) (fun hne => ?_); (repeat (first | go_big_quiet_skip | (go_big_quiet_want; first | (refine quiet_is (.load _ _) rfl ?_; go_must (first | refine quiet_at sw_st (fun w hS => run_ld _ _ rfl hS) ?_ | refine quiet_at sw_st (fun w hS => run_lda _ _ rfl hS) ?_ | refine quiet_at sw_st (fun w hS => run_ld0 _ _ rfl hS) ?_ | refine quiet_at sw_st (fun w hS => run_lda0 _ _ rfl hS) ?_); go_big_quiet_on) | (go_big_quiet_op; go_big_quiet_on)))); refine wpQuiet_nil ?_; clear hS hne; intro w hS))
          go_roundw
          case rel => exact ⟨k + 1, _, _, _, by omega, by go_num, hI, hS⟩
          case measure => simp [intOf]; omega
        · have g1 := intsSet (k := .i64) 2 hWl
          have g2 := intsAt (k := .i64) (L := Wt.set i 2) (i := i) (by simpa using hWl)
          rw [getD_set _ _ _ _ hWl, if_pos rfl] at g2
          rw [h0] at hw1 he hs
          rw [if_neg (by decide)] at hs
          rw [hs] at hw2
          have hI' := hI.black (by omega) him h0
          have e1 : blackE 1 L i = 0 := by unfold blackE; rw [he]; rfl
          have e2 : blackL 1 L i = L.set i 2 := by unfold blackL; rw [he]; rfl
          have e3 : (L.set i 2).getD i 0 = 2 := by rw [getD_set _ _ _ _ hLl, if_pos rfl]
          have hl2 : 1 + (m : Int) ≤ (L.set i 2).length := by rw [List.length_set]; exact hl1
          have hc3 : ∀ c ∈ L.set i 2, 0 ≤ c ∧ c ≤ 255 := mem_set_of hc2 (by decide)
          clear hs he h0 hc hc2
          go_wp2_with (first | (go_at_call 11; refine blacken_eq hS hn1 hl1 i _ rfl hi1 0 (L.set i 2) e1 e2 ?_; clear hS; intro w hS; unfold Ret) | (go_at_call 12; refine of_eq hS hn1 hl2 hc3 i _ rfl hi1 2 e3 ?_; clear hS; intro w hS; unfold Ret) | (refine wpList_is (.call { callee := .builtin .len, args := #[_], argTypes := #[_] }) rfl ?_; refine wpList_stp rfl (stp_val (run_lenv _ _ rfl) ?_)) | (refine wpList_is (.slice _ _ none (some _) none) rfl ?_; refine wpList_stp rfl (stp_val (run_prev _ _ _ rfl) ?_)) | (refine wpList_is (.indexAddr _ _ _) rfl ?_; refine wpList_stp rfl (stp_val (run_idxv _ _ _ rfl) ?_)) | (refine wpList_is (.build _ _) rfl ?_; go_must (refine wpList_stp rfl (stp_val (run_bd _ _ rfl) ?_))) | (refine wpList_is (.call { callee := .builtin .clear, args := #[_], argTypes := #[_] }) rfl ?_; go_must (refine wpList_stp rfl (stp_cl _ _ rfl hS (by decide) ?_)); clear hS; intro w hS) | (refine wpList_is (.load _ _) rfl ?_; go_must (first | refine wpList_stp rfl (stp_val (run_ld _ _ rfl hS) ?_) | refine wpList_stp rfl (stp_val (run_lda _ _ rfl hS) ?_) | refine wpList_stp rfl (stp_val (run_ld0 _ _ rfl hS) ?_) | refine wpList_stp rfl (stp_val (run_lda0 _ _ rfl hS) ?_))) | (refine wpList_is (.store _ _ _) rfl ?_; go_must (first | refine wpList_stp rfl (stp_st _ _ _ rfl hS ?_) | refine wpList_stp rfl (stp_sta _ _ _ rfl hS ?_)); clear hS; intro w hS) | (refine wpList_is (.alloc _) rfl ?_; go_must (refine wpList_stp rfl (stp_al _ rfl hS ?_)); clear hS; intro bN w hbN hS) | (refine wpList_is (.box _ _) rfl ?_; go_must (refine wpList_stp rfl (stp_bx _ _ rfl hS ?_)); clear hS; intro bN w hbN hS) | (refine region_quiet hS (by kernel_rfl) (by kernel_rfl) (fun hne => ?_); (repeat (first | go_big_quiet_skip | (go_big_quiet_want; first | (refine quiet_is (.load _ _) rfl ?_; go_must (first | refine quiet_at sw_st (fun w hS => run_ld _ _ rfl hS) ?_ | refine quiet_at sw_st (fun w hS => run_lda _ _ rfl hS) ?_ | refine quiet_at sw_st (fun w hS => run_ld0 _ _ rfl hS) ?_ | refine quiet_at sw_st (fun w hS => run_lda0 _ _ rfl hS) ?_); go_big_quiet_on) | (go_big_quiet_op; go_big_quiet_on)))); refine wpQuiet_nil ?_; clear hS hne; intro w hS))
          go_roundw
          case rel => exact ⟨k + 1, _, _, _, by omega, by go_num, hI', hS⟩
          case measure => simp [intOf]; omega
        · rw [h0] at hw1 hs
          have e1 : blackE 1 L i = 8 := by unfold blackE; rw [he, h0]; rfl
          have e2 : blackL 1 L i = L := by unfold blackL; rw [he, h0]; rfl
          have e3 := he.trans h0
          have hs01 : Sh.getD i 0 ≤ 1 := by rw [hs]; split <;> decide
          generalize Sh.getD i 0 = sh at *
          clear hs he h0 hc
          go_wp2_with (first | (go_at_call 11; refine blacken_eq hS hn1 hl1 i _ rfl hi1 8 L e1 e2 ?_; clear hS; intro w hS; unfold Ret) | (go_at_call 12; refine of_eq hS hn1 hl1 hc2 i _ rfl hi1 _ e3 ?_; clear hS; intro w hS; unfold Ret) | (refine wpList_is (.call { callee := .builtin .len, args := #[_], argTypes := #[_] }) rfl ?_; refine wpList_stp rfl (stp_val (run_lenv _ _ rfl) ?_)) | (refine wpList_is (.slice _ _ none (some _) none) rfl ?_; refine wpList_stp rfl (stp_val (run_prev _ _ _ rfl) ?_)) | (refine wpList_is (.indexAddr _ _ _) rfl ?_; refine wpList_stp rfl (stp_val (run_idxv _ _ _ rfl) ?_)) | (refine wpList_is (.build _ _) rfl ?_; go_must (refine wpList_stp rfl (stp_val (run_bd _ _ rfl) ?_))) | (refine wpList_is (.call { callee := .builtin .clear, args := #[_], argTypes := #[_] }) rfl ?_; go_must (refine wpList_stp rfl (stp_cl _ _ rfl hS (by decide) ?_)); clear hS; intro w hS) | (refine wpList_is (.load _ _) rfl ?_; go_must (first | refine wpList_stp rfl (stp_val (run_ld _ _ rfl hS) ?_) | refine wpList_stp rfl (stp_val (run_lda _ _ rfl hS) ?_) | refine wpList_stp rfl (stp_val (run_ld0 _ _ rfl hS) ?_) | refine wpList_stp rfl (stp_val (run_lda0 _ _ rfl hS) ?_))) | (refine wpList_is (.store _ _ _) rfl ?_; go_must (first | refine wpList_stp rfl (stp_st _ _ _ rfl hS ?_) | refine wpList_stp rfl (stp_sta _ _ _ rfl hS ?_)); clear hS; intro w hS) | (refine wpList_is (.alloc _) rfl ?_; go_must (refine wpList_stp rfl (stp_al _ rfl hS ?_)); clear hS; intro bN w hbN hS) | (refine wpList_is (.box _ _) rfl ?_; go_must (refine wpList_stp rfl (stp_bx _ _ rfl hS ?_)); clear hS; intro bN w hbN hS) | (refine region_quiet hS (by kernel_rfl) (by kernel_rfl) (fun hne => ?_); (repeat (first | go_big_quiet_skip | (go_big_quiet_want; first | (refine quiet_is (.load _ _) rfl ?_; go_must (first | refine quiet_at sw_st (fun w hS => run_ld _ _ rfl hS) ?_ | refine quiet_at sw_st (fun w hS => run_lda _ _ rfl hS) ?_ | refine quiet_at sw_st (fun w hS => run_ld0 _ _ rfl hS) ?_ | refine quiet_at sw_st (fun w hS => run_lda0 _ _ rfl hS) ?_); go_big_quiet_on) | (go_big_quiet_op; go_big_quiet_on)))); refine wpQuiet_nil ?_; clear hS hne; intro w hS))
          go_roundw
          case rel => exact ⟨k + 1, _, _, _, by omega, by go_num, hI, hS⟩
          case measure => simp [intOf]; omega
      · -- Shade
        rw [he] at h012
        rcases h012 with h0 | h0 | h0
        · have g1 := intsSet (k := .i64) 1 hWl
          have g2 := intsAt (k := .i64) (L := Wt.set i 1) (i := i) (by simpa using hWl)
          rw [getD_set _ _ _ _ hWl, if_pos rfl] at g2
          have g3 := intsSet (k := .i64) 1 hSl
          have g4 := intsAt (k := .i64) (L := Sh.set i 1) (i := i) (by simpa using hSl)
          rw [getD_set _ _ _ _ hSl, if_pos rfl] at g4
          rw [h0] at hw1 he hs
          rw [if_pos rfl] at hs
          rw [hs] at hw2
          have hI' := hI.shade (by omega) him
          have e1 : decide (L.getD i 0 = 0) = true := by rw [he]; rfl
          have e2 : shadeL L i = L.set i 1 := by unfold shadeL; rw [he]; rfl
          have e3 : (L.set i 1).getD i 0 = 1 := by rw [getD_set _ _ _ _ hLl, if_pos rfl]
          have hl2 : 1 + (m : Int) ≤ (L.set i 1).length := by rw [List.length_set]; exact hl1
          have hc3 : ∀ c ∈ L.set i 1, 0 ≤ c ∧ c ≤ 255 := mem_set_of hc2 (by decide)
          clear hs he h0 hc hc2
          go_wp2_with (first | (go_at_call 10; refine shade_eq hS hn1 hl1 i _ rfl hi1 true (L.set i 1) e1 e2 ?_; clear hS; intro w hS; unfold Ret) | (go_at_call 12; refine of_eq hS hn1 hl2 hc3 i _ rfl hi1 1 e3 ?_; clear hS; intro w hS; unfold Ret) | (refine wpList_is (.call { callee := .builtin .len, args := #[_], argTypes := #[_] }) rfl ?_; refine wpList_stp rfl (stp_val (run_lenv _ _ rfl) ?_)) | (refine wpList_is (.slice _ _ none (some _) none) rfl ?_; refine wpList_stp rfl (stp_val (run_prev _ _ _ rfl) ?_)) | (refine wpList_is (.indexAddr _ _ _) rfl ?_; refine wpList_stp rfl (stp_val (run_idxv _ _ _ rfl) ?_)) | (refine wpList_is (.build _ _) rfl ?_; go_must (refine wpList_stp rfl (stp_val (run_bd _ _ rfl) ?_))) | (refine wpList_is (.call { callee := .builtin .clear, args := #[_], argTypes := #[_] }) rfl ?_; go_must (refine wpList_stp rfl (stp_cl _ _ rfl hS (by decide) ?_)); clear hS; intro w hS) | (refine wpList_is (.load _ _) rfl ?_; go_must (first | refine wpList_stp rfl (stp_val (run_ld _ _ rfl hS) ?_) | refine wpList_stp rfl (stp_val (run_lda _ _ rfl hS) ?_) | refine wpList_stp rfl (stp_val (run_ld0 _ _ rfl hS) ?_) | refine wpList_stp rfl (stp_val (run_lda0 _ _ rfl hS) ?_))) | (refine wpList_is (.store _ _ _) rfl ?_; go_must (first | refine wpList_stp rfl (stp_st _ _ _ rfl hS ?_) | refine wpList_stp rfl (stp_sta _ _ _ rfl hS ?_)); clear hS; intro w hS) | (refine wpList_is (.alloc _) rfl ?_; go_must (refine wpList_stp rfl (stp_al _ rfl hS ?_)); clear hS; intro bN w hbN hS) | (refine wpList_is (.box _ _) rfl ?_; go_must (refine wpList_stp rfl (stp_bx _ _ rfl hS ?_)); clear hS; intro bN w hbN hS) | (refine region_quiet hS (by kernel_rfl) (by kernel_rfl) (fun hne => ?_); (repeat (first | go_big_quiet_skip | (go_big_quiet_want; first | (refine quiet_is (.load _ _) rfl ?_; go_must (first | refine quiet_at sw_st (fun w hS => run_ld _ _ rfl hS) ?_ | refine quiet_at sw_st (fun w hS => run_lda _ _ rfl hS) ?_ | refine quiet_at sw_st (fun w hS => run_ld0 _ _ rfl hS) ?_ | refine quiet_at sw_st (fun w hS => run_lda0 _ _ rfl hS) ?_); go_big_quiet_on) | (go_big_quiet_op; go_big_quiet_on)))); refine wpQuiet_nil ?_; clear hS hne; intro w hS))
          go_roundw
          case rel => exact ⟨k + 1, _, _, _, by omega, by go_num, hI', hS⟩
          case measure => simp [intOf]; omega
        · rw [h0] at hw1 hs
          have e1 : decide (L.getD i 0 = 0) = false := by rw [he, h0]; rfl
          have e2 : shadeL L i = L := by unfold shadeL; rw [he, h0]; rfl
          have e3 := he.trans h0
          have hs01 : Sh.getD i 0 ≤ 1 := by rw [hs]; split <;> decide
          generalize Sh.getD i 0 = sh at *
          clear hs he h0 hc
          go_wp2_with (first | (go_at_call 10; refine shade_eq hS hn1 hl1 i _ rfl hi1 false L e1 e2 ?_; clear hS; intro w hS; unfold Ret) | (go_at_call 12; refine of_eq hS hn1 hl1 hc2 i _ rfl hi1 _ e3 ?_; clear hS; intro w hS; unfold Ret) | (refine wpList_is (.call { callee := .builtin .len, args := #[_], argTypes := #[_] }) rfl ?_; refine wpList_stp rfl (stp_val (run_lenv _ _ rfl) ?_)) | (refine wpList_is (.slice _ _ none (some _) none) rfl ?_; refine wpList_stp rfl (stp_val (run_prev _ _ _ rfl) ?_)) | (refine wpList_is (.indexAddr _ _ _) rfl ?_; refine wpList_stp rfl (stp_val (run_idxv _ _ _ rfl) ?_)) | (refine wpList_is (.build _ _) rfl ?_; go_must (refine wpList_stp rfl (stp_val (run_bd _ _ rfl) ?_))) | (refine wpList_is (.call { callee := .builtin .clear, args := #[_], argTypes := #[_] }) rfl ?_; go_must (refine wpList_stp rfl (stp_cl _ _ rfl hS (by decide) ?_)); clear hS; intro w hS) | (refine wpList_is (.load _ _) rfl ?_; go_must (first | refine wpList_stp rfl (stp_val (run_ld _ _ rfl hS) ?_) | refine wpList_stp rfl (stp_val (run_lda _ _ rfl hS) ?_) | refine wpList_stp rfl (stp_val (run_ld0 _ _ rfl hS) ?_) | refine wpList_stp rfl (stp_val (run_lda0 _ _ rfl hS) ?_))) | (refine wpList_is (.store _ _ _) rfl ?_; go_must (first | refine wpList_stp rfl (stp_st _ _ _ rfl hS ?_) | refine wpList_stp rfl (stp_sta _ _ _ rfl hS ?_)); clear hS; intro w hS) | (refine wpList_is (.alloc _) rfl ?_; go_must (refine wpList_stp rfl (stp_al _ rfl hS ?_)); clear hS; intro bN w hbN hS) | (refine wpList_is (.box _ _) rfl ?_; go_must (refine wpList_stp rfl (stp_bx _ _ rfl hS ?_)); clear hS; intro bN w hbN hS) | (refine region_quiet hS (by kernel_rfl) (by kernel_rfl) (fun hne => ?_); (repeat (first | go_big_quiet_skip | (go_big_quiet_want; first | (refine quiet_is (.load _ _) rfl ?_; go_must (first | refine quiet_at sw_st (fun w hS => run_ld _ _ rfl hS) ?_ | refine quiet_at sw_st (fun w hS => run_lda _ _ rfl hS) ?_ | refine quiet_at sw_st (fun w hS => run_ld0 _ _ rfl hS) ?_ | refine quiet_at sw_st (fun w hS => run_lda0 _ _ rfl hS) ?_); go_big_quiet_on) | (go_big_quiet_op; go_big_quiet_on)))); refine wpQuiet_nil ?_; clear hS hne; intro w hS))
          go_roundw
          case rel => exact ⟨k + 1, _, _, _, by omega, by go_num, hI, hS⟩
          case measure => simp [intOf]; omega
        · rw [h0] at hw1 hs
          have e1 : decide (L.getD i 0 = 0) = false := by rw [he, h0]; rfl
          have e2 : shadeL L i = L := by unfold shadeL; rw [he, h0]; rfl
          have e3 := he.trans h0
          have hs01 : Sh.getD i 0 ≤ 1 := by rw [hs]; split <;> decide
          generalize Sh.getD i 0 = sh at *
          clear hs he h0 hc
          go_wp2_with (first | (go_at_call 10; refine shade_eq hS hn1 hl1 i _ rfl hi1 false L e1 e2 ?_; clear hS; intro w hS; unfold Ret) | (go_at_call 12; refine of_eq hS hn1 hl1 hc2 i _ rfl hi1 _ e3 ?_; clear hS; intro w hS; unfold Ret) | (refine wpList_is (.call { callee := .builtin .len, args := #[_], argTypes := #[_] }) rfl ?_; refine wpList_stp rfl (stp_val (run_lenv _ _ rfl) ?_)) | (refine wpList_is (.slice _ _ none (some _) none) rfl ?_; refine wpList_stp rfl (stp_val (run_prev _ _ _ rfl) ?_)) | (refine wpList_is (.indexAddr _ _ _) rfl ?_; refine wpList_stp rfl (stp_val (run_idxv _ _ _ rfl) ?_)) | (refine wpList_is (.build _ _) rfl ?_; go_must (refine wpList_stp rfl (stp_val (run_bd _ _ rfl) ?_))) | (refine wpList_is (.call { callee := .builtin .clear, args := #[_], argTypes := #[_] }) rfl ?_; go_must (refine wpList_stp rfl (stp_cl _ _ rfl hS (by decide) ?_)); clear hS; intro w hS) | (refine wpList_is (.load _ _) rfl ?_; go_must (first | refine wpList_stp rfl (stp_val (run_ld _ _ rfl hS) ?_) | refine wpList_stp rfl (stp_val (run_lda _ _ rfl hS) ?_) | refine wpList_stp rfl (stp_val (run_ld0 _ _ rfl hS) ?_) | refine wpList_stp rfl (stp_val (run_lda0 _ _ rfl hS) ?_))) | (refine wpList_is (.store _ _ _) rfl ?_; go_must (first | refine wpList_stp rfl (stp_st _ _ _ rfl hS ?_) | refine wpList_stp rfl (stp_sta _ _ _ rfl hS ?_)); clear hS; intro w hS) | (refine wpList_is (.alloc _) rfl ?_; go_must (refine wpList_stp rfl (stp_al _ rfl hS ?_)); clear hS; intro bN w hbN hS) | (refine wpList_is (.box _ _) rfl ?_; go_must (refine wpList_stp rfl (stp_bx _ _ rfl hS ?_)); clear hS; intro bN w hbN hS) | (refine region_quiet hS (by kernel_rfl) (by kernel_rfl) (fun hne => ?_); (repeat (first | go_big_quiet_skip | (go_big_quiet_want; first | (refine quiet_is (.load _ _) rfl ?_; go_must (first | refine quiet_at sw_st (fun w hS => run_ld _ _ rfl hS) ?_ | refine quiet_at sw_st (fun w hS => run_lda _ _ rfl hS) ?_ | refine quiet_at sw_st (fun w hS => run_ld0 _ _ rfl hS) ?_ | refine quiet_at sw_st (fun w hS => run_lda0 _ _ rfl hS) ?_); go_big_quiet_on) | (go_big_quiet_op; go_big_quiet_on)))); refine wpQuiet_nil ?_; clear hS hne; intro w hS))
          go_roundw
          case rel => exact ⟨k + 1, _, _, _, by omega, by go_num, hI, hS⟩
          case measure => simp [intOf]; omega
    · obtain rfl : k = q := by omega
      have hn1 : 1 + (m : Int) ≤ 256 := by omega
      have hl1 : 1 + (m : Int) ≤ L.length := by rw [hI.l]; omega
      have hc2 : ∀ c ∈ L, 0 ≤ c ∧ c ≤ 255 := fun c h => by rcases hI.c c h with rfl | rfl | rfl <;> decide
      have hq2 := hn1
      clear hlen hlen' hpre hv'
      go_wp2_with (first | (refine wpList_is (.build _ _) rfl ?_; go_must (refine wpList_stp rfl (stp_val (run_bd _ _ rfl) ?_))) | (refine wpList_is (.call { callee := .builtin .clear, args := #[_], argTypes := #[_] }) rfl ?_; go_must (refine wpList_stp rfl (stp_cl _ _ rfl hS (by decide) ?_)); clear hS; intro w hS) | (refine wpList_is (.load _ _) rfl ?_; go_must (first | refine wpList_stp rfl (stp_val (run_ld _ _ rfl hS) ?_) | refine wpList_stp rfl (stp_val (run_lda _ _ rfl hS) ?_) | refine wpList_stp rfl (stp_val (run_ld0 _ _ rfl hS) ?_) | refine wpList_stp rfl (stp_val (run_lda0 _ _ rfl hS) ?_))) | (refine wpList_is (.store _ _ _) rfl ?_; go_must (first | refine wpList_stp rfl (stp_st _ _ _ rfl hS ?_) | refine wpList_stp rfl (stp_sta _ _ _ rfl hS ?_)); clear hS; intro w hS) | (refine wpList_is (.alloc _) rfl ?_; go_must (refine wpList_stp rfl (stp_al _ rfl hS ?_)); clear hS; intro bN w hbN hS) | (refine wpList_is (.box _ _) rfl ?_; go_must (refine wpList_stp rfl (stp_bx _ _ rfl hS ?_)); clear hS; intro bN w hbN hS) | (refine region_quiet hS (by kernel_rfl) (by kernel_rfl) (fun hne => ?_); (repeat (first | go_big_quiet_skip | (go_big_quiet_want; first | (refine quiet_is (.load _ _) rfl ?_; go_must (first | refine quiet_at sw_st (fun w hS => run_ld _ _ rfl hS) ?_ | refine quiet_at sw_st (fun w hS => run_lda _ _ rfl hS) ?_ | refine quiet_at sw_st (fun w hS => run_ld0 _ _ rfl hS) ?_ | refine quiet_at sw_st (fun w hS => run_lda0 _ _ rfl hS) ?_); go_big_quiet_on) | (go_big_quiet_op; go_big_quiet_on)))); refine wpQuiet_nil ?_; clear hS hne; intro w hS))
      go_loopw [129] (fun u wr => ∃ j : Nat, j ≤ 1 + m ∧ u = .int .i64 j ∧ St W [] wr [⟨c8, intsK .i64 Wt, 3, true⟩, ⟨c9, intsK .i64 Sh, 3, true⟩, ⟨pb, paintCells (1 + (m : Int)) L, 59, true⟩]) (fun u _ => 1 + m - (intOf u).toNat)
      case atStart => exact ⟨0, Nat.zero_le _, rfl, hS⟩
      case round =>
        obtain ⟨j, hj, rfl, hS⟩ := hrel
        by_cases hlj : j < 1 + m
        · have hWl : j < Wt.length := by rw [hI.w]; exact hlj
          have hw1 := intsAt (k := .i64) hWl
          have e3 := hI.eq j hlj
          go_wp2_with (first | (go_at_call 12; refine of_eq hS hn1 hl1 hc2 j _ rfl (by omega) _ e3 ?_; clear hS; intro w hS; unfold Ret) | (refine wpList_is (.build _ _) rfl ?_; go_must (refine wpList_stp rfl (stp_val (run_bd _ _ rfl) ?_))) | (refine wpList_is (.call { callee := .builtin .clear, args := #[_], argTypes := #[_] }) rfl ?_; go_must (refine wpList_stp rfl (stp_cl _ _ rfl hS (by decide) ?_)); clear hS; intro w hS) | (refine wpList_is (.load _ _) rfl ?_; go_must (first | refine wpList_stp rfl (stp_val (run_ld _ _ rfl hS) ?_) | refine wpList_stp rfl (stp_val (run_lda _ _ rfl hS) ?_) | refine wpList_stp rfl (stp_val (run_ld0 _ _ rfl hS) ?_) | refine wpList_stp rfl (stp_val (run_lda0 _ _ rfl hS) ?_))) | (refine wpList_is (.store _ _ _) rfl ?_; go_must (first | refine wpList_stp rfl (stp_st _ _ _ rfl hS ?_) | refine wpList_stp rfl (stp_sta _ _ _ rfl hS ?_)); clear hS; intro w hS) | (refine wpList_is (.alloc _) rfl ?_; go_must (refine wpList_stp rfl (stp_al _ rfl hS ?_)); clear hS; intro bN w hbN hS) | (refine wpList_is (.box _ _) rfl ?_; go_must (refine wpList_stp rfl (stp_bx _ _ rfl hS ?_)); clear hS; intro bN w hbN hS) | (refine region_quiet hS (by kernel_rfl) (by kernel_rfl) (fun hne => ?_); (repeat (first | go_big_quiet_skip | (go_big_quiet_want; first | (refine quiet_is (.load _ _) rfl ?_; go_must (first | refine quiet_at sw_st (fun w hS => run_ld _ _ rfl hS) ?_ | refine quiet_at sw_st (fun w hS => run_lda _ _ rfl hS) ?_ | refine quiet_at sw_st (fun w hS => run_ld0 _ _ rfl hS) ?_ | refine quiet_at sw_st (fun w hS => run_lda0 _ _ rfl hS) ?_); go_big_quiet_on) | (go_big_quiet_op; go_big_quiet_on)))); refine wpQuiet_nil ?_; clear hS hne; intro w hS))
          go_roundw
          case rel => exact ⟨j + 1, by omega, by go_num, hS⟩
          case measure => simp [intOf]; omega
        · obtain rfl : j = 1 + m := by omega
          go_wp2_with (first | (go_at_call 13; refine works_ok hS ?_; clear hS; intro w hS; unfold Ret) | (refine wpList_is (.build _ _) rfl ?_; go_must (refine wpList_stp rfl (stp_val (run_bd _ _ rfl) ?_))) | (refine wpList_is (.call { callee := .builtin .clear, args := #[_], argTypes := #[_] }) rfl ?_; go_must (refine wpList_stp rfl (stp_cl _ _ rfl hS (by decide) ?_)); clear hS; intro w hS) | (refine wpList_is (.load _ _) rfl ?_; go_must (first | refine wpList_stp rfl (stp_val (run_ld _ _ rfl hS) ?_) | refine wpList_stp rfl (stp_val (run_lda _ _ rfl hS) ?_) | refine wpList_stp rfl (stp_val (run_ld0 _ _ rfl hS) ?_) | refine wpList_stp rfl (stp_val (run_lda0 _ _ rfl hS) ?_))) | (refine wpList_is (.store _ _ _) rfl ?_; go_must (first | refine wpList_stp rfl (stp_st _ _ _ rfl hS ?_) | refine wpList_stp rfl (stp_sta _ _ _ rfl hS ?_)); clear hS; intro w hS) | (refine wpList_is (.alloc _) rfl ?_; go_must (refine wpList_stp rfl (stp_al _ rfl hS ?_)); clear hS; intro bN w hbN hS) | (refine wpList_is (.box _ _) rfl ?_; go_must (refine wpList_stp rfl (stp_bx _ _ rfl hS ?_)); clear hS; intro bN w hbN hS) | (refine region_quiet hS (by kernel_rfl) (by kernel_rfl) (fun hne => ?_); (repeat (first | go_big_quiet_skip | (go_big_quiet_want; first | (refine quiet_is (.load _ _) rfl ?_; go_must (first | refine quiet_at sw_st (fun w hS => run_ld _ _ rfl hS) ?_ | refine quiet_at sw_st (fun w hS => run_lda _ _ rfl hS) ?_ | refine quiet_at sw_st (fun w hS => run_ld0 _ _ rfl hS) ?_ | refine quiet_at sw_st (fun w hS => run_lda0 _ _ rfl hS) ?_); go_big_quiet_on) | (go_big_quiet_op; go_big_quiet_on)))); refine wpQuiet_nil ?_; clear hS hne; intro w hS))
          exact hR _ hS.chg
end Go.Proofs.Ytpfcjlbgljcooaa
