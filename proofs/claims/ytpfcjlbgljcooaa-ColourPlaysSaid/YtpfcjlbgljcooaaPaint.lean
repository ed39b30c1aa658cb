/-
  The colours of slots: a paint that is built from numbers, and the colours of all slots.
-/
import Derived.Test.YtpfcjlbgljcooaaColW
import Derived.Test.YtpfcjlbgljcooaaArg
namespace Go.Proofs.Ytpfcjlbgljcooaa
open Go.RowKit Go.Mm
variable {R : Ending → World → Prop}

instance sl_int : SliceT Try.prog 27 3 := ⟨by kernel_rfl⟩
instance e_int : ElemT Try.prog 3 1 8 #[.int .i64 0] := ⟨by kernel_rfl⟩

theorem getD_set (L : List Int) (i j : Nat) (c : Int) (h : i < L.length) : (L.set i c).getD j 0 = if j = i then c else L.getD j 0 := by
  simp only [List.getD_eq_getElem?_getD, List.getElem?_set]
  by_cases e : i = j
  · subst e; simp [h]
  · have e' : ¬ j = i := fun q => e q.symm
    simp [e, e']
theorem mem_set_of {L : List Int} {i : Nat} {c : Int} {p : Int → Prop} (h : ∀ x ∈ L, p x) (hc : p c) : ∀ x ∈ L.set i c, p x := fun x hx => by
  rcases List.mem_or_eq_of_mem_set hx with h1 | rfl
  · exact h x h1
  · exact hc
theorem repAt (n i : Nat) : (List.replicate n (0 : Int)).getD i 0 = 0 := by
  rw [List.getD_eq_getElem?_getD, List.getElem?_replicate]; split <;> rfl

/-- All slots have a colour. -/
structure Cols (L : List Int) : Prop where
  l : L.length = 256
  c : ∀ c ∈ L, c = 0 ∨ c = 1 ∨ c = 2
theorem Cols.zero : Cols zerosL := ⟨zerosLen, fun _ hc => .inl (List.mem_replicate.1 hc).2⟩
theorem Cols.set {L : List Int} (h : Cols L) (i : Nat) {c : Int} (hc : c = 0 ∨ c = 1 ∨ c = 2) : Cols (L.set i c) := ⟨by rw [List.length_set]; exact h.l, mem_set_of h.c hc⟩
theorem Cols.at {L : List Int} (h : Cols L) {i : Nat} (hi : i < 256) : L.getD i 0 = 0 ∨ L.getD i 0 = 1 ∨ L.getD i 0 = 2 :=
  h.c _ (by simp [List.getD_eq_getElem?_getD, List.getElem?_eq_getElem (show i < L.length by rw [h.l]; exact hi)])
theorem Cols.u8 {L : List Int} (h : Cols L) : ∀ c ∈ L, 0 ≤ c ∧ c ≤ 255 := fun c hc => by rcases h.c c hc with rfl | rfl | rfl <;> decide
theorem Cols.shade {L : List Int} (h : Cols L) {i : Nat} (hi : i < 256) : ∃ r L1, decide (L.getD i 0 = 0) = r ∧ shadeL L i = L1 ∧ Cols L1 ∧ (L1.getD i 0 = 1 ∨ L1.getD i 0 = 2) := by
  refine ⟨_, _, rfl, rfl, ?_⟩
  unfold shadeL
  split
  · exact ⟨h.set i (by simp), .inl (by rw [getD_set _ _ _ _ (by rw [h.l]; exact hi), if_pos rfl])⟩
  · refine ⟨h, ?_⟩
    rcases h.at hi with h0 | h0
    · contradiction
    · exact h0

variable {w0 w : World} {bs : List Nat} {H : List Ent}

set_option maxHeartbeats 4000000 in
set_option maxRecDepth 100000 in
theorem painted_ok (hO : St w0 [] w H) {n : Nat} (h1 : 1 ≤ n) (h2 : n ≤ 256) {v : Value} {sn sb so : Nat} {F : Nat → Nat → Value} (hv : Flat w0 [.i .u8] v sn sb so F)
    (hR : ∀ pb L w', Cols L → St w0 [] w' (⟨pb, paintCells n L, 59, true⟩ :: H) → Ret R (.pointer (some ⟨pb, 0, none⟩)) w') :
    Calls Try.prog 14 #[.int .i64 n, v] w R := by
  have hS := hO
  have hlen := hv.len (t := 37) Try.underlying37
  obtain ⟨q, hq⟩ : ∃ q : Nat, (if (200 : Int) < sn then (200 : Int) else sn) = q := ⟨if 200 < sn then 200 else sn, by split <;> split <;> omega⟩
  have hqn : q ≤ sn := by split at hq <;> omega
  obtain ⟨v', hpre, hv'⟩ := hv.pre (t := 37) (m := q) Try.underlying37 (by kernel_rfl) hqn
  have hlen' := hv'.len (t := 37) Try.underlying37
  go_enter Try.func14, Try.ntmps14
  go_wp2_with (first | (go_at_call 9; refine new_ok hS _ (by omega) (by omega) ?_; clear hS; intro pb w hS; unfold Ret) | (refine wpList_is (.call { callee := .builtin .len, args := #[_], argTypes := #[_] }) rfl ?_; refine wpList_stp rfl (stp_val (run_lenv _ _ rfl) ?_)) | (refine wpList_is (.slice _ _ none (some _) none) rfl ?_; refine wpList_stp rfl (stp_val (run_prev _ _ _ rfl) ?_)) | (refine wpList_is (.indexAddr _ _ _) rfl ?_; refine wpList_stp rfl (stp_val (run_idxv _ _ _ rfl) ?_)))
  go_loopw [28] (fun u wr => ∃ (k : Nat) (L : List Int), k ≤ q ∧ u = .int .i64 k ∧ Cols L ∧ St w0 [] wr (⟨pb, paintCells n L, 59, true⟩ :: H)) (fun u _ => q - (intOf u).toNat)
  case atStart => exact ⟨0, _, Nat.zero_le _, rfl, Cols.zero, hS⟩
  case round =>
    clear hS
    obtain ⟨k, L, hk, rfl, hC, hS⟩ := hrel
    by_cases hlt : k < q
    · have hidx := hv'.idx1 (t := 37) (i := k) rfl Try.underlying37 (by kernel_rfl) hlt
      have hcell := hv'.cell1 (i := k) rfl hlt
      obtain ⟨x, hx, hxw⟩ := hv'.int (i := k) (j := 0) hlt rfl
      obtain ⟨x0, x1⟩ := bounds_u8 hxw
      rw [hx] at hcell
      clear hx hxw
      obtain ⟨i, hi⟩ : ∃ i : Nat, x % 128 * 2 % (n : Int) = i := ⟨(x % 128 * 2 % (n : Int)).toNat, (Int.toNat_of_nonneg (Int.emod_nonneg _ (by omega))).symm⟩
      have him : (i : Int) < n := by rw [← hi]; exact Int.emod_lt_of_pos _ (by omega)
      have hn1 : (n : Int) ≤ 256 := by omega
      obtain ⟨r, L1, e1, e2, hC1, h12⟩ := hC.shade (i := i) (by omega)
      have hl : (n : Int) ≤ L.length := by rw [hC.l]; omega
      have hl1 : (n : Int) ≤ L1.length := by rw [hC1.l]; omega
      have hL1 : i < L1.length := by rw [hC1.l]; omega
      by_cases hx8 : x < 128
      · have d1 : decide (x < 128) = true := by simpa using hx8
        have d2 : decide (128 ≤ x) = false := by simp; omega
        rcases h12 with h0 | h0
        · have e3 : blackE 1 L1 i = 0 := by unfold blackE; rw [h0]; rfl
          have e4 : blackL 1 L1 i = L1.set i 2 := by unfold blackL; rw [h0]; rfl
          have hl2 : (n : Int) ≤ (L1.set i 2).length := by rw [List.length_set]; exact hl1
          have hl3 : (n : Int) ≤ ((L1.set i 2).set i 0).length := by rw [List.length_set]; exact hl2
          have e5 : decide (((L1.set i 2).set i 0).getD i 0 = 0) = true := by rw [getD_set _ _ _ _ (by rw [List.length_set]; exact hL1), if_pos rfl]; rfl
          have e6 : shadeL ((L1.set i 2).set i 0) i = ((L1.set i 2).set i 0).set i 1 := by unfold shadeL; rw [if_pos (of_decide_eq_true e5)]
          have hC4 : Cols (((L1.set i 2).set i 0).set i 1) := ((hC1.set i (by simp)).set i (by simp)).set i (by simp)
          clear h0
          go_wp2_with (first | (go_at_call 10; (first | (refine shade_eq hS hn1 hl i _ rfl him r L1 e1 e2 ?_) | (refine shade_eq hS hn1 hl3 i _ rfl him true _ e5 e6 ?_)); clear hS; intro w hS; unfold Ret) | (go_at_call 11; refine blacken_eq hS hn1 hl1 i _ rfl him 0 _ e3 e4 ?_; clear hS; intro w hS; unfold Ret) | (go_at_call 17; refine bleach_eq hS hn1 hl2 i _ rfl him _ rfl ?_; clear hS; intro w hS; unfold Ret) | (refine wpList_is (.call { callee := .builtin .len, args := #[_], argTypes := #[_] }) rfl ?_; refine wpList_stp rfl (stp_val (run_lenv _ _ rfl) ?_)) | (refine wpList_is (.slice _ _ none (some _) none) rfl ?_; refine wpList_stp rfl (stp_val (run_prev _ _ _ rfl) ?_)) | (refine wpList_is (.indexAddr _ _ _) rfl ?_; refine wpList_stp rfl (stp_val (run_idxv _ _ _ rfl) ?_)) | (refine wpList_is (.build _ _) rfl ?_; go_must (refine wpList_stp rfl (stp_val (run_bd _ _ rfl) ?_))) | (refine wpList_is (.call { callee := .builtin .clear, args := #[_], argTypes := #[_] }) rfl ?_; go_must (refine wpList_stp rfl (stp_cl _ _ rfl hS (by decide) ?_)); clear hS; intro w hS) | (refine wpList_is (.load _ _) rfl ?_; go_must (first | refine wpList_stp rfl (stp_val (run_ld _ _ rfl hS) ?_) | refine wpList_stp rfl (stp_val (run_lda _ _ rfl hS) ?_) | refine wpList_stp rfl (stp_val (run_ld0 _ _ rfl hS) ?_) | refine wpList_stp rfl (stp_val (run_lda0 _ _ rfl hS) ?_))) | (refine wpList_is (.store _ _ _) rfl ?_; go_must (first | refine wpList_stp rfl (stp_st _ _ _ rfl hS ?_) | refine wpList_stp rfl (stp_sta _ _ _ rfl hS ?_)); clear hS; intro w hS) | (refine wpList_is (.alloc _) rfl ?_; go_must (refine wpList_stp rfl (stp_al _ rfl hS ?_)); clear hS; intro bN w hbN hS) | (refine wpList_is (.box _ _) rfl ?_; go_must (refine wpList_stp rfl (stp_bx _ _ rfl hS ?_)); clear hS; intro bN w hbN hS) | (refine wpList_is (.binOp .eql _ _ (.const (.slice none _ _)) _) rfl ?_; refine wpList_stp rfl (stp_val (run_nse _ _ _ rfl) ?_)) | (refine wpList_is (.binOp .neq _ _ (.const (.slice none _ _)) _) rfl ?_; refine wpList_stp rfl (stp_val (run_nsn _ _ _ rfl) ?_)) | (refine region_quiet hS (by kernel_rfl) (by kernel_rfl) (fun hne => ?_); (repeat (first | go_big_quiet_skip | (go_big_quiet_want; first | (refine quiet_is (.load _ _) rfl ?_; go_must (first | refine quiet_at sw_st (fun w hS => run_ld _ _ rfl hS) ?_ | refine quiet_at sw_st (fun w hS => run_lda _ _ rfl hS) ?_ | refine quiet_at sw_st (fun w hS => run_ld0 _ _ rfl hS) ?_ | refine quiet_at sw_st (fun w hS => run_lda0 _ _ rfl hS) ?_); go_big_quiet_on) | (refine quiet_is (.binOp .eql _ _ (.const (.slice none _ _)) _) rfl ?_; refine quiet_val (fun w _ => run_nse _ _ _ rfl) ?_; go_big_quiet_on) | (refine quiet_is (.binOp .neq _ _ (.const (.slice none _ _)) _) rfl ?_; refine quiet_val (fun w _ => run_nsn _ _ _ rfl) ?_; go_big_quiet_on) | (go_big_quiet_op; go_big_quiet_on)))); refine wpQuiet_nil ?_; clear hS hne; intro w hS))
          go_roundw
          case rel => exact ⟨k + 1, _, by omega, by go_num, hC4, hS⟩
          case measure => simp [intOf]; omega
        · have e3 : blackE 1 L1 i = 8 := by unfold blackE; rw [h0]; rfl
          have e4 : blackL 1 L1 i = L1 := by unfold blackL; rw [h0]; rfl
          clear h0
          go_wp2_with (first | (go_at_call 10; refine shade_eq hS hn1 hl i _ rfl him r L1 e1 e2 ?_; clear hS; intro w hS; unfold Ret) | (go_at_call 11; refine blacken_eq hS hn1 hl1 i _ rfl him 8 _ e3 e4 ?_; clear hS; intro w hS; unfold Ret) | (refine wpList_is (.call { callee := .builtin .len, args := #[_], argTypes := #[_] }) rfl ?_; refine wpList_stp rfl (stp_val (run_lenv _ _ rfl) ?_)) | (refine wpList_is (.slice _ _ none (some _) none) rfl ?_; refine wpList_stp rfl (stp_val (run_prev _ _ _ rfl) ?_)) | (refine wpList_is (.indexAddr _ _ _) rfl ?_; refine wpList_stp rfl (stp_val (run_idxv _ _ _ rfl) ?_)) | (refine wpList_is (.build _ _) rfl ?_; go_must (refine wpList_stp rfl (stp_val (run_bd _ _ rfl) ?_))) | (refine wpList_is (.call { callee := .builtin .clear, args := #[_], argTypes := #[_] }) rfl ?_; go_must (refine wpList_stp rfl (stp_cl _ _ rfl hS (by decide) ?_)); clear hS; intro w hS) | (refine wpList_is (.load _ _) rfl ?_; go_must (first | refine wpList_stp rfl (stp_val (run_ld _ _ rfl hS) ?_) | refine wpList_stp rfl (stp_val (run_lda _ _ rfl hS) ?_) | refine wpList_stp rfl (stp_val (run_ld0 _ _ rfl hS) ?_) | refine wpList_stp rfl (stp_val (run_lda0 _ _ rfl hS) ?_))) | (refine wpList_is (.store _ _ _) rfl ?_; go_must (first | refine wpList_stp rfl (stp_st _ _ _ rfl hS ?_) | refine wpList_stp rfl (stp_sta _ _ _ rfl hS ?_)); clear hS; intro w hS) | (refine wpList_is (.alloc _) rfl ?_; go_must (refine wpList_stp rfl (stp_al _ rfl hS ?_)); clear hS; intro bN w hbN hS) | (refine wpList_is (.box _ _) rfl ?_; go_must (refine wpList_stp rfl (stp_bx _ _ rfl hS ?_)); clear hS; intro bN w hbN hS) | (refine wpList_is (.binOp .eql _ _ (.const (.slice none _ _)) _) rfl ?_; refine wpList_stp rfl (stp_val (run_nse _ _ _ rfl) ?_)) | (refine wpList_is (.binOp .neq _ _ (.const (.slice none _ _)) _) rfl ?_; refine wpList_stp rfl (stp_val (run_nsn _ _ _ rfl) ?_)) | (refine region_quiet hS (by kernel_rfl) (by kernel_rfl) (fun hne => ?_); (repeat (first | go_big_quiet_skip | (go_big_quiet_want; first | (refine quiet_is (.load _ _) rfl ?_; go_must (first | refine quiet_at sw_st (fun w hS => run_ld _ _ rfl hS) ?_ | refine quiet_at sw_st (fun w hS => run_lda _ _ rfl hS) ?_ | refine quiet_at sw_st (fun w hS => run_ld0 _ _ rfl hS) ?_ | refine quiet_at sw_st (fun w hS => run_lda0 _ _ rfl hS) ?_); go_big_quiet_on) | (refine quiet_is (.binOp .eql _ _ (.const (.slice none _ _)) _) rfl ?_; refine quiet_val (fun w _ => run_nse _ _ _ rfl) ?_; go_big_quiet_on) | (refine quiet_is (.binOp .neq _ _ (.const (.slice none _ _)) _) rfl ?_; refine quiet_val (fun w _ => run_nsn _ _ _ rfl) ?_; go_big_quiet_on) | (go_big_quiet_op; go_big_quiet_on)))); refine wpQuiet_nil ?_; clear hS hne; intro w hS))
          go_roundw
          case rel => exact ⟨k + 1, _, by omega, by go_num, hC1, hS⟩
          case measure => simp [intOf]; omega
      · have d1 : decide (x < 128) = false := by simpa using hx8
        have d2 : decide (128 ≤ x) = true := by simp; omega
        rcases h12 with h0 | h0
        · have e3 : blackE 1 L1 i = 0 := by unfold blackE; rw [h0]; rfl
          have e4 : blackL 1 L1 i = L1.set i 2 := by unfold blackL; rw [h0]; rfl
          have hC4 : Cols (L1.set i 2) := hC1.set i (by simp)
          clear h0
          go_wp2_with (first | (go_at_call 10; refine shade_eq hS hn1 hl i _ rfl him r L1 e1 e2 ?_; clear hS; intro w hS; unfold Ret) | (go_at_call 11; refine blacken_eq hS hn1 hl1 i _ rfl him 0 _ e3 e4 ?_; clear hS; intro w hS; unfold Ret) | (refine wpList_is (.call { callee := .builtin .len, args := #[_], argTypes := #[_] }) rfl ?_; refine wpList_stp rfl (stp_val (run_lenv _ _ rfl) ?_)) | (refine wpList_is (.slice _ _ none (some _) none) rfl ?_; refine wpList_stp rfl (stp_val (run_prev _ _ _ rfl) ?_)) | (refine wpList_is (.indexAddr _ _ _) rfl ?_; refine wpList_stp rfl (stp_val (run_idxv _ _ _ rfl) ?_)) | (refine wpList_is (.build _ _) rfl ?_; go_must (refine wpList_stp rfl (stp_val (run_bd _ _ rfl) ?_))) | (refine wpList_is (.call { callee := .builtin .clear, args := #[_], argTypes := #[_] }) rfl ?_; go_must (refine wpList_stp rfl (stp_cl _ _ rfl hS (by decide) ?_)); clear hS; intro w hS) | (refine wpList_is (.load _ _) rfl ?_; go_must (first | refine wpList_stp rfl (stp_val (run_ld _ _ rfl hS) ?_) | refine wpList_stp rfl (stp_val (run_lda _ _ rfl hS) ?_) | refine wpList_stp rfl (stp_val (run_ld0 _ _ rfl hS) ?_) | refine wpList_stp rfl (stp_val (run_lda0 _ _ rfl hS) ?_))) | (refine wpList_is (.store _ _ _) rfl ?_; go_must (first | refine wpList_stp rfl (stp_st _ _ _ rfl hS ?_) | refine wpList_stp rfl (stp_sta _ _ _ rfl hS ?_)); clear hS; intro w hS) | (refine wpList_is (.alloc _) rfl ?_; go_must (refine wpList_stp rfl (stp_al _ rfl hS ?_)); clear hS; intro bN w hbN hS) | (refine wpList_is (.box _ _) rfl ?_; go_must (refine wpList_stp rfl (stp_bx _ _ rfl hS ?_)); clear hS; intro bN w hbN hS) | (refine wpList_is (.binOp .eql _ _ (.const (.slice none _ _)) _) rfl ?_; refine wpList_stp rfl (stp_val (run_nse _ _ _ rfl) ?_)) | (refine wpList_is (.binOp .neq _ _ (.const (.slice none _ _)) _) rfl ?_; refine wpList_stp rfl (stp_val (run_nsn _ _ _ rfl) ?_)) | (refine region_quiet hS (by kernel_rfl) (by kernel_rfl) (fun hne => ?_); (repeat (first | go_big_quiet_skip | (go_big_quiet_want; first | (refine quiet_is (.load _ _) rfl ?_; go_must (first | refine quiet_at sw_st (fun w hS => run_ld _ _ rfl hS) ?_ | refine quiet_at sw_st (fun w hS => run_lda _ _ rfl hS) ?_ | refine quiet_at sw_st (fun w hS => run_ld0 _ _ rfl hS) ?_ | refine quiet_at sw_st (fun w hS => run_lda0 _ _ rfl hS) ?_); go_big_quiet_on) | (refine quiet_is (.binOp .eql _ _ (.const (.slice none _ _)) _) rfl ?_; refine quiet_val (fun w _ => run_nse _ _ _ rfl) ?_; go_big_quiet_on) | (refine quiet_is (.binOp .neq _ _ (.const (.slice none _ _)) _) rfl ?_; refine quiet_val (fun w _ => run_nsn _ _ _ rfl) ?_; go_big_quiet_on) | (go_big_quiet_op; go_big_quiet_on)))); refine wpQuiet_nil ?_; clear hS hne; intro w hS))
          go_roundw
          case rel => exact ⟨k + 1, _, by omega, by go_num, hC4, hS⟩
          case measure => simp [intOf]; omega
        · have e3 : blackE 1 L1 i = 8 := by unfold blackE; rw [h0]; rfl
          have e4 : blackL 1 L1 i = L1 := by unfold blackL; rw [h0]; rfl
          clear h0
          go_wp2_with (first | (go_at_call 10; refine shade_eq hS hn1 hl i _ rfl him r L1 e1 e2 ?_; clear hS; intro w hS; unfold Ret) | (go_at_call 11; refine blacken_eq hS hn1 hl1 i _ rfl him 8 _ e3 e4 ?_; clear hS; intro w hS; unfold Ret) | (refine wpList_is (.call { callee := .builtin .len, args := #[_], argTypes := #[_] }) rfl ?_; refine wpList_stp rfl (stp_val (run_lenv _ _ rfl) ?_)) | (refine wpList_is (.slice _ _ none (some _) none) rfl ?_; refine wpList_stp rfl (stp_val (run_prev _ _ _ rfl) ?_)) | (refine wpList_is (.indexAddr _ _ _) rfl ?_; refine wpList_stp rfl (stp_val (run_idxv _ _ _ rfl) ?_)) | (refine wpList_is (.build _ _) rfl ?_; go_must (refine wpList_stp rfl (stp_val (run_bd _ _ rfl) ?_))) | (refine wpList_is (.call { callee := .builtin .clear, args := #[_], argTypes := #[_] }) rfl ?_; go_must (refine wpList_stp rfl (stp_cl _ _ rfl hS (by decide) ?_)); clear hS; intro w hS) | (refine wpList_is (.load _ _) rfl ?_; go_must (first | refine wpList_stp rfl (stp_val (run_ld _ _ rfl hS) ?_) | refine wpList_stp rfl (stp_val (run_lda _ _ rfl hS) ?_) | refine wpList_stp rfl (stp_val (run_ld0 _ _ rfl hS) ?_) | refine wpList_stp rfl (stp_val (run_lda0 _ _ rfl hS) ?_))) | (refine wpList_is (.store _ _ _) rfl ?_; go_must (first | refine wpList_stp rfl (stp_st _ _ _ rfl hS ?_) | refine wpList_stp rfl (stp_sta _ _ _ rfl hS ?_)); clear hS; intro w hS) | (refine wpList_is (.alloc _) rfl ?_; go_must (refine wpList_stp rfl (stp_al _ rfl hS ?_)); clear hS; intro bN w hbN hS) | (refine wpList_is (.box _ _) rfl ?_; go_must (refine wpList_stp rfl (stp_bx _ _ rfl hS ?_)); clear hS; intro bN w hbN hS) | (refine wpList_is (.binOp .eql _ _ (.const (.slice none _ _)) _) rfl ?_; refine wpList_stp rfl (stp_val (run_nse _ _ _ rfl) ?_)) | (refine wpList_is (.binOp .neq _ _ (.const (.slice none _ _)) _) rfl ?_; refine wpList_stp rfl (stp_val (run_nsn _ _ _ rfl) ?_)) | (refine region_quiet hS (by kernel_rfl) (by kernel_rfl) (fun hne => ?_); (repeat (first | go_big_quiet_skip | (go_big_quiet_want; first | (refine quiet_is (.load _ _) rfl ?_; go_must (first | refine quiet_at sw_st (fun w hS => run_ld _ _ rfl hS) ?_ | refine quiet_at sw_st (fun w hS => run_lda _ _ rfl hS) ?_ | refine quiet_at sw_st (fun w hS => run_ld0 _ _ rfl hS) ?_ | refine quiet_at sw_st (fun w hS => run_lda0 _ _ rfl hS) ?_); go_big_quiet_on) | (refine quiet_is (.binOp .eql _ _ (.const (.slice none _ _)) _) rfl ?_; refine quiet_val (fun w _ => run_nse _ _ _ rfl) ?_; go_big_quiet_on) | (refine quiet_is (.binOp .neq _ _ (.const (.slice none _ _)) _) rfl ?_; refine quiet_val (fun w _ => run_nsn _ _ _ rfl) ?_; go_big_quiet_on) | (go_big_quiet_op; go_big_quiet_on)))); refine wpQuiet_nil ?_; clear hS hne; intro w hS))
          go_roundw
          case rel => exact ⟨k + 1, _, by omega, by go_num, hC1, hS⟩
          case measure => simp [intOf]; omega
    · obtain rfl : k = q := by omega
      go_wp2_with (first | (refine wpList_is (.call { callee := .builtin .len, args := #[_], argTypes := #[_] }) rfl ?_; refine wpList_stp rfl (stp_val (run_lenv _ _ rfl) ?_)) | (refine wpList_is (.slice _ _ none (some _) none) rfl ?_; refine wpList_stp rfl (stp_val (run_prev _ _ _ rfl) ?_)) | (refine wpList_is (.indexAddr _ _ _) rfl ?_; refine wpList_stp rfl (stp_val (run_idxv _ _ _ rfl) ?_)) | (refine wpList_is (.build _ _) rfl ?_; go_must (refine wpList_stp rfl (stp_val (run_bd _ _ rfl) ?_))) | (refine wpList_is (.call { callee := .builtin .clear, args := #[_], argTypes := #[_] }) rfl ?_; go_must (refine wpList_stp rfl (stp_cl _ _ rfl hS (by decide) ?_)); clear hS; intro w hS) | (refine wpList_is (.load _ _) rfl ?_; go_must (first | refine wpList_stp rfl (stp_val (run_ld _ _ rfl hS) ?_) | refine wpList_stp rfl (stp_val (run_lda _ _ rfl hS) ?_) | refine wpList_stp rfl (stp_val (run_ld0 _ _ rfl hS) ?_) | refine wpList_stp rfl (stp_val (run_lda0 _ _ rfl hS) ?_))) | (refine wpList_is (.store _ _ _) rfl ?_; go_must (first | refine wpList_stp rfl (stp_st _ _ _ rfl hS ?_) | refine wpList_stp rfl (stp_sta _ _ _ rfl hS ?_)); clear hS; intro w hS) | (refine wpList_is (.alloc _) rfl ?_; go_must (refine wpList_stp rfl (stp_al _ rfl hS ?_)); clear hS; intro bN w hbN hS) | (refine wpList_is (.box _ _) rfl ?_; go_must (refine wpList_stp rfl (stp_bx _ _ rfl hS ?_)); clear hS; intro bN w hbN hS) | (refine wpList_is (.binOp .eql _ _ (.const (.slice none _ _)) _) rfl ?_; refine wpList_stp rfl (stp_val (run_nse _ _ _ rfl) ?_)) | (refine wpList_is (.binOp .neq _ _ (.const (.slice none _ _)) _) rfl ?_; refine wpList_stp rfl (stp_val (run_nsn _ _ _ rfl) ?_)) | (refine region_quiet hS (by kernel_rfl) (by kernel_rfl) (fun hne => ?_); (repeat (first | go_big_quiet_skip | (go_big_quiet_want; first | (refine quiet_is (.load _ _) rfl ?_; go_must (first | refine quiet_at sw_st (fun w hS => run_ld _ _ rfl hS) ?_ | refine quiet_at sw_st (fun w hS => run_lda _ _ rfl hS) ?_ | refine quiet_at sw_st (fun w hS => run_ld0 _ _ rfl hS) ?_ | refine quiet_at sw_st (fun w hS => run_lda0 _ _ rfl hS) ?_); go_big_quiet_on) | (refine quiet_is (.binOp .eql _ _ (.const (.slice none _ _)) _) rfl ?_; refine quiet_val (fun w _ => run_nse _ _ _ rfl) ?_; go_big_quiet_on) | (refine quiet_is (.binOp .neq _ _ (.const (.slice none _ _)) _) rfl ?_; refine quiet_val (fun w _ => run_nsn _ _ _ rfl) ?_; go_big_quiet_on) | (go_big_quiet_op; go_big_quiet_on)))); refine wpQuiet_nil ?_; clear hS hne; intro w hS))
      exact hR _ _ _ hC hS

theorem painted_eq (hO : St w0 [] w H) {n : Nat} (z : Int) (hz : z = n) (h1 : 1 ≤ n) (h2 : n ≤ 256) {v : Value} {sn sb so : Nat} {F : Nat → Nat → Value} (hv : Flat w0 [.i .u8] v sn sb so F)
    (hR : ∀ pb L w', Cols L → St w0 [] w' (⟨pb, paintCells z L, 59, true⟩ :: H) → Ret R (.pointer (some ⟨pb, 0, none⟩)) w') :
    Calls Try.prog 14 #[.int .i64 z, v] w R := by
  subst hz; exact painted_ok hO h1 h2 hv hR

/-- The colours of the slots of a paint: a row of its own. -/
structure Same (C L : List Int) (m : Nat) : Prop where
  l : C.length = m
  eq : ∀ i, i < m → C.getD i 0 = L.getD i 0

set_option maxHeartbeats 4000000 in
theorem colours_ok (hO : St w0 bs w H) {m : Nat} {b : Nat} {L : List Int} [hH : Has H b (paintCells m L) 59] (h1 : 1 ≤ m) (h2 : m ≤ 256) (hC : Cols L)
    (hR : ∀ cb C w', Same C L m → St w0 bs w' (⟨cb, intsK .i64 C, 3, true⟩ :: H) → Ret R (.slice (some ⟨cb, 0, none⟩) m m) w') :
    Calls Try.prog 15 #[.pointer (some ⟨b, 0, none⟩), .int .i64 m] w R := by
  have hS := hO
  have hn1 : (m : Int) ≤ 256 := by omega
  have hl : (m : Int) ≤ L.length := by rw [hC.l]; omega
  have hu := hC.u8
  go_enter Try.func15, Try.ntmps15
  go_wp2_with (first | (refine wpList_is (.makeSlice _ _ _) rfl ?_; go_must (refine wpList_stp rfl (stp_mki _ _ _ rfl hS (by first | rfl | assumption) (by omega) (by omega) ?_)); clear hS; intro bN w hbN hS) | (refine wpList_is (.build _ _) rfl ?_; go_must (refine wpList_stp rfl (stp_val (run_bd _ _ rfl) ?_))) | (refine wpList_is (.call { callee := .builtin .clear, args := #[_], argTypes := #[_] }) rfl ?_; go_must (refine wpList_stp rfl (stp_cl _ _ rfl hS (by decide) ?_)); clear hS; intro w hS) | (refine wpList_is (.load _ _) rfl ?_; go_must (first | refine wpList_stp rfl (stp_val (run_ld _ _ rfl hS) ?_) | refine wpList_stp rfl (stp_val (run_lda _ _ rfl hS) ?_) | refine wpList_stp rfl (stp_val (run_ld0 _ _ rfl hS) ?_) | refine wpList_stp rfl (stp_val (run_lda0 _ _ rfl hS) ?_))) | (refine wpList_is (.store _ _ _) rfl ?_; go_must (first | refine wpList_stp rfl (stp_st _ _ _ rfl hS ?_) | refine wpList_stp rfl (stp_sta _ _ _ rfl hS ?_)); clear hS; intro w hS) | (refine wpList_is (.alloc _) rfl ?_; go_must (refine wpList_stp rfl (stp_al _ rfl hS ?_)); clear hS; intro bN w hbN hS) | (refine wpList_is (.box _ _) rfl ?_; go_must (refine wpList_stp rfl (stp_bx _ _ rfl hS ?_)); clear hS; intro bN w hbN hS) | (refine wpList_is (.binOp .eql _ _ (.const (.slice none _ _)) _) rfl ?_; refine wpList_stp rfl (stp_val (run_nse _ _ _ rfl) ?_)) | (refine wpList_is (.binOp .neq _ _ (.const (.slice none _ _)) _) rfl ?_; refine wpList_stp rfl (stp_val (run_nsn _ _ _ rfl) ?_)) | (refine region_quiet hS (by kernel_rfl) (by kernel_rfl) (fun hne => ?_); (repeat (first | go_big_quiet_skip | (go_big_quiet_want; first | (refine quiet_is (.load _ _) rfl ?_; go_must (first | refine quiet_at sw_st (fun w hS => run_ld _ _ rfl hS) ?_ | refine quiet_at sw_st (fun w hS => run_lda _ _ rfl hS) ?_ | refine quiet_at sw_st (fun w hS => run_ld0 _ _ rfl hS) ?_ | refine quiet_at sw_st (fun w hS => run_lda0 _ _ rfl hS) ?_); go_big_quiet_on) | (refine quiet_is (.binOp .eql _ _ (.const (.slice none _ _)) _) rfl ?_; refine quiet_val (fun w _ => run_nse _ _ _ rfl) ?_; go_big_quiet_on) | (refine quiet_is (.binOp .neq _ _ (.const (.slice none _ _)) _) rfl ?_; refine quiet_val (fun w _ => run_nsn _ _ _ rfl) ?_; go_big_quiet_on) | (go_big_quiet_op; go_big_quiet_on)))); refine wpQuiet_nil ?_; clear hS hne; intro w hS))
  go_loopw [13] (fun u wr => ∃ (k : Nat) (C : List Int), k ≤ m ∧ u = .int .i64 k ∧ C.length = m ∧ (∀ i, i < k → C.getD i 0 = L.getD i 0) ∧ St w0 bs wr (⟨bN, intsK .i64 C, 3, true⟩ :: H)) (fun u _ => m - (intOf u).toNat)
  case atStart => exact ⟨0, _, Nat.zero_le _, rfl, List.length_replicate, fun _ h => absurd h (Nat.not_lt_zero _), hS⟩
  case round =>
    clear hS
    obtain ⟨k, C, hk, rfl, hCl, hCe, hS⟩ := hrel
    by_cases hlt : k < m
    · have hcl : k < C.length := by omega
      have h012 := hC.at (i := k) (by omega)
      obtain ⟨c, hc⟩ : ∃ c, L.getD k 0 = c := ⟨_, rfl⟩
      rw [hc] at h012
      have d1 : decide (c < 0) = false := by simp; omega
      have d2 : decide (2 < c) = false := by simp; omega
      have g1 := intsSet (k := .i64) c hcl
      go_wp2_with (first | (go_at_call 12; refine of_eq hS hn1 hl hu k _ rfl (by omega) c hc ?_; clear hS; intro w hS; unfold Ret) | (refine wpList_is (.build _ _) rfl ?_; go_must (refine wpList_stp rfl (stp_val (run_bd _ _ rfl) ?_))) | (refine wpList_is (.call { callee := .builtin .clear, args := #[_], argTypes := #[_] }) rfl ?_; go_must (refine wpList_stp rfl (stp_cl _ _ rfl hS (by decide) ?_)); clear hS; intro w hS) | (refine wpList_is (.load _ _) rfl ?_; go_must (first | refine wpList_stp rfl (stp_val (run_ld _ _ rfl hS) ?_) | refine wpList_stp rfl (stp_val (run_lda _ _ rfl hS) ?_) | refine wpList_stp rfl (stp_val (run_ld0 _ _ rfl hS) ?_) | refine wpList_stp rfl (stp_val (run_lda0 _ _ rfl hS) ?_))) | (refine wpList_is (.store _ _ _) rfl ?_; go_must (first | refine wpList_stp rfl (stp_st _ _ _ rfl hS ?_) | refine wpList_stp rfl (stp_sta _ _ _ rfl hS ?_)); clear hS; intro w hS) | (refine wpList_is (.alloc _) rfl ?_; go_must (refine wpList_stp rfl (stp_al _ rfl hS ?_)); clear hS; intro bN w hbN hS) | (refine wpList_is (.box _ _) rfl ?_; go_must (refine wpList_stp rfl (stp_bx _ _ rfl hS ?_)); clear hS; intro bN w hbN hS) | (refine wpList_is (.binOp .eql _ _ (.const (.slice none _ _)) _) rfl ?_; refine wpList_stp rfl (stp_val (run_nse _ _ _ rfl) ?_)) | (refine wpList_is (.binOp .neq _ _ (.const (.slice none _ _)) _) rfl ?_; refine wpList_stp rfl (stp_val (run_nsn _ _ _ rfl) ?_)) | (refine region_quiet hS (by kernel_rfl) (by kernel_rfl) (fun hne => ?_); (repeat (first | go_big_quiet_skip | (go_big_quiet_want; first | (refine quiet_is (.load _ _) rfl ?_; go_must (first | refine quiet_at sw_st (fun w hS => run_ld _ _ rfl hS) ?_ | refine quiet_at sw_st (fun w hS => run_lda _ _ rfl hS) ?_ | refine quiet_at sw_st (fun w hS => run_ld0 _ _ rfl hS) ?_ | refine quiet_at sw_st (fun w hS => run_lda0 _ _ rfl hS) ?_); go_big_quiet_on) | (refine quiet_is (.binOp .eql _ _ (.const (.slice none _ _)) _) rfl ?_; refine quiet_val (fun w _ => run_nse _ _ _ rfl) ?_; go_big_quiet_on) | (refine quiet_is (.binOp .neq _ _ (.const (.slice none _ _)) _) rfl ?_; refine quiet_val (fun w _ => run_nsn _ _ _ rfl) ?_; go_big_quiet_on) | (go_big_quiet_op; go_big_quiet_on)))); refine wpQuiet_nil ?_; clear hS hne; intro w hS))
      go_roundw
      case rel =>
        refine ⟨k + 1, C.set k c, by omega, by go_num, by rw [List.length_set]; exact hCl, fun i hi => ?_, hS⟩
        rw [getD_set _ _ _ _ hcl]
        split
        · next e => rw [e]; exact hc.symm
        · exact hCe i (by omega)
      case measure => simp [intOf]; omega
    · obtain rfl : k = m := by omega
      go_wp2_with (first | (refine wpList_is (.build _ _) rfl ?_; go_must (refine wpList_stp rfl (stp_val (run_bd _ _ rfl) ?_))) | (refine wpList_is (.call { callee := .builtin .clear, args := #[_], argTypes := #[_] }) rfl ?_; go_must (refine wpList_stp rfl (stp_cl _ _ rfl hS (by decide) ?_)); clear hS; intro w hS) | (refine wpList_is (.load _ _) rfl ?_; go_must (first | refine wpList_stp rfl (stp_val (run_ld _ _ rfl hS) ?_) | refine wpList_stp rfl (stp_val (run_lda _ _ rfl hS) ?_) | refine wpList_stp rfl (stp_val (run_ld0 _ _ rfl hS) ?_) | refine wpList_stp rfl (stp_val (run_lda0 _ _ rfl hS) ?_))) | (refine wpList_is (.store _ _ _) rfl ?_; go_must (first | refine wpList_stp rfl (stp_st _ _ _ rfl hS ?_) | refine wpList_stp rfl (stp_sta _ _ _ rfl hS ?_)); clear hS; intro w hS) | (refine wpList_is (.alloc _) rfl ?_; go_must (refine wpList_stp rfl (stp_al _ rfl hS ?_)); clear hS; intro bN w hbN hS) | (refine wpList_is (.box _ _) rfl ?_; go_must (refine wpList_stp rfl (stp_bx _ _ rfl hS ?_)); clear hS; intro bN w hbN hS) | (refine wpList_is (.binOp .eql _ _ (.const (.slice none _ _)) _) rfl ?_; refine wpList_stp rfl (stp_val (run_nse _ _ _ rfl) ?_)) | (refine wpList_is (.binOp .neq _ _ (.const (.slice none _ _)) _) rfl ?_; refine wpList_stp rfl (stp_val (run_nsn _ _ _ rfl) ?_)) | (refine region_quiet hS (by kernel_rfl) (by kernel_rfl) (fun hne => ?_); (repeat (first | go_big_quiet_skip | (go_big_quiet_want; first | (refine quiet_is (.load _ _) rfl ?_; go_must (first | refine quiet_at sw_st (fun w hS => run_ld _ _ rfl hS) ?_ | refine quiet_at sw_st (fun w hS => run_lda _ _ rfl hS) ?_ | refine quiet_at sw_st (fun w hS => run_ld0 _ _ rfl hS) ?_ | refine quiet_at sw_st (fun w hS => run_lda0 _ _ rfl hS) ?_); go_big_quiet_on) | (refine quiet_is (.binOp .eql _ _ (.const (.slice none _ _)) _) rfl ?_; refine quiet_val (fun w _ => run_nse _ _ _ rfl) ?_; go_big_quiet_on) | (refine quiet_is (.binOp .neq _ _ (.const (.slice none _ _)) _) rfl ?_; refine quiet_val (fun w _ => run_nsn _ _ _ rfl) ?_; go_big_quiet_on) | (go_big_quiet_op; go_big_quiet_on)))); refine wpQuiet_nil ?_; clear hS hne; intro w hS))
      exact hR _ _ _ ⟨hCl, hCe⟩ hS
theorem colours_eq (hO : St w0 bs w H) {m : Nat} (z : Int) (hz : z = m) {b : Nat} {L : List Int} [hH : Has H b (paintCells z L) 59] (h1 : 1 ≤ m) (h2 : m ≤ 256) (hC : Cols L)
    (hR : ∀ cb C w', Same C L m → St w0 bs w' (⟨cb, intsK .i64 C, 3, true⟩ :: H) → Ret R (.slice (some ⟨cb, 0, none⟩) m m) w') :
    Calls Try.prog 15 #[.pointer (some ⟨b, 0, none⟩), .int .i64 z] w R := by
  subst hz; exact colours_ok hO h1 h2 hC hR

end Go.Proofs.Ytpfcjlbgljcooaa
