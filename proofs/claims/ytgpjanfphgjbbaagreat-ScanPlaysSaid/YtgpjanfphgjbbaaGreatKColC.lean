/-
  The colours of slots: the iterator over grey slots, and Grey.
-/
import Derived.Test.YtgpjanfphgjbbaaGreatKColB
import Derived.Test.YtgpjanfphgjbbaaGreatBas
set_option linter.unusedSimpArgs false
set_option linter.unusedVariables false
namespace Go.Proofs.YtgpjanfphgjbbaaGreat.Col
open Go.RowKit Go.Mm
attribute [local go_sem] Oper.semAt_some

variable {R : Ending → World → Prop} {w : World} {b : Nat} {L : List Int} {w0 : World} {bs : List Nat} {H H' : List Ent}

theorem made_in {m : Nat} {n : Int} {W : World} (hP : PaintAt W b n L) (hR : Ret R (.bool (decide (0 < n))) W) : CallsIn Fence.wide m Tryz.prog 105 #[.pointer (some ⟨b, 0, none⟩)] W R := callsIn_wide.2 (made_at hP hR)

instance s_pp : ScalarT Tryz.prog 29 := ⟨by kernel_rfl, by kernel_rfl⟩

def isGrey (L : List Int) (f : Int) (i : Nat) : Bool := decide (f ≤ i) && (L.getD i 0 == 1)

theorem gl_start {L : List Int} {f : Int} {k : Nat} (h : (k : Int) ≤ f ∨ k = 0) : gl (isGrey L f) k = [] := by
  unfold gl
  rw [List.filter_eq_nil_iff]
  intro i hi
  simp only [List.mem_range] at hi
  simp [isGrey]
  intro _
  omega
theorem gl_done {p : Nat → Bool} {k n : Nat} (h : k ≤ n ∨ gl p k = []) (hn : n ≤ k) : gl p k = gl p n := by
  rcases h with h | h
  · rw [show k = n by omega]
  · rw [h]
    symm
    unfold gl at *
    rw [List.filter_eq_nil_iff] at *
    intro i hi
    exact h i (by simp at hi ⊢; omega)

/-- 'grey(from)' yields the grey slots from one on. -/
theorem grey_stops {n m : Nat} {f : Int} (h1 : 1 ≤ m) (bp bf : Nat) {W : World} (hp : W.heap[bp]? = some (.cells #[.pointer (some ⟨b, 0, none⟩)] 29 (0, 0))) (hf : W.heap[bf]? = some (.cells #[.int .i64 f] 3 (0, 0)))
    (hP : PaintAt W b n L) (hpf : bp ≠ bf ∧ bp ≠ b ∧ bf ≠ b) (hn : 0 < n) (hn2 : n ≤ 256) (hl : L.length = 256) :
    SeqStopsK Fence.wide m Tryz.prog 118 #[.pointer (some ⟨bp, 0, none⟩), .pointer (some ⟨bf, 0, none⟩)] (fun i : Nat => #[.int .i64 i]) (Kept [bp, bf, b])
      (fun xs => xs = gl (isGrey L f) n) (fun pre => ∃ k, k < n ∧ isGrey L f k = true ∧ pre = gl (isGrey L f) k ++ [k]) 257 W := by
  intro l J Jx W1 hW hJ hJx hY h0
  have hF := wide_fn
  have hk : ∀ W', Kept [bp, bf, b] W1 W' → St W' [] W' [⟨bp, #[.pointer (some ⟨b, 0, none⟩)], 29, false⟩, ⟨bf, #[.int .i64 f], 3, false⟩, ⟨b, paintCells n L, 86, false⟩] := by
    intro W' hk
    have g : ∀ x o, W.heap[x]? = some o → x ∈ [bp, bf, b] → W'.heap[x]? = some o := fun x o ho hx => by
      rw [hk x hx, hW.block x (lt_of_heap ho)]; exact ho
    refine St.start ?_ ?_ (by simp)
    · simp only [List.mem_cons, List.not_mem_nil, or_false, forall_eq_or_imp, forall_eq]
      exact ⟨g _ _ hp (by simp), g _ _ hf (by simp), g _ _ hP (by simp)⟩
    · simp [hpf.1, hpf.2.1, hpf.2.2]
  have hS := hk W1 (fun _ _ => rfl)
  refine callsIn_of_wp Tryz.func118 rfl trivial ?_ rfl
  simp only [Tryz.ntmps118, List.size_toArray, List.length_cons, List.length_nil, Nat.reduceAdd, Nat.reduceSub, Array.replicate_succ, Array.replicate_zero, List.push_toArray, List.append_toArray, List.nil_append, List.cons_append]
  have hn0 : (0 : Int) < n := by omega
  by_cases hf0 : 0 ≤ f
  · obtain ⟨g, rfl⟩ := Int.eq_ofNat_of_zero_le hf0
    clear hf0
    gi_wp2_with (first | (gi_at_call 105; refine made_in (hS.has inferInstance) ?_; unfold Ret) | (refine wpListIn_is (.build _ _) rfl ?_; go_must (refine wpListIn_stp hF rfl rfl (stp_val (run_bd _ _ rfl) ?_))) | (refine wpListIn_is (.call { callee := .builtin .clear, args := #[_], argTypes := #[_] }) rfl ?_; go_must (refine wpListIn_stp hF rfl rfl (stp_cl _ _ rfl hS (by decide) ?_)); clear hS; intro w hS) | (refine wpListIn_is (.load _ _) rfl ?_; go_must (first | refine wpListIn_stp hF rfl rfl (stp_val (run_ld _ _ rfl hS) ?_) | refine wpListIn_stp hF rfl rfl (stp_val (run_lda _ _ rfl hS) ?_) | refine wpListIn_stp hF rfl rfl (stp_val (run_ld0 _ _ rfl hS) ?_) | refine wpListIn_stp hF rfl rfl (stp_val (run_lda0 _ _ rfl hS) ?_))) | (refine wpListIn_is (.store _ _ _) rfl ?_; go_must (first | refine wpListIn_stp hF rfl rfl (stp_st _ _ _ rfl hS ?_) | refine wpListIn_stp hF rfl rfl (stp_sta _ _ _ rfl hS ?_)); clear hS; intro w hS) | (refine wpListIn_is (.alloc _) rfl ?_; go_must (refine wpListIn_stp hF rfl rfl (stp_al _ rfl hS ?_)); clear hS; intro bN w hbN hS) | (refine wpListIn_is (.box _ _) rfl ?_; go_must (refine wpListIn_stp hF rfl rfl (stp_bx _ _ rfl hS ?_)); clear hS; intro bN w hbN hS))
    gi_loopw [4] (fun v wr => ∃ k : Nat, v = .int .i64 k ∧ g ≤ (k : Int) ∧ (k ≤ n ∨ gl (isGrey L g) k = []) ∧ J (gl (isGrey L g) k) wr ∧ Kept [bp, bf, b] W1 wr) (fun v _ => n - (intOf v).toNat)
    case atStart => exact ⟨g, rfl, by omega, .inr (gl_start (by omega)), by rw [gl_start (by omega)]; exact h0, fun _ _ => rfl⟩
    case round =>
      obtain ⟨k, rfl, hfk, hor, hJk, hkk⟩ := hrel
      have hS := hk wr hkk
      by_cases hlt : k < n
      · have hcell := paint1 (n := n) (L := L) (i := k) (by omega)
        by_cases hg : L.getD k 0 = 1
        · have hgk : isGrey L g k = true := by simp only [isGrey, hg, hfk]; decide
          have hgl := Lib.hid (gl_yes hgk)
          rw [hg] at hcell
          clear hg
          obtain ⟨fn, tmps, assign, body, hy, hRd⟩ := hY (gl (isGrey L g) k) k wr hJk (by have := gl_len (isGrey L g) k; omega)
          gi_wp2_with (first | (refine wpListIn_is (.build _ _) rfl ?_; go_must (refine wpListIn_stp hF rfl rfl (stp_val (run_bd _ _ rfl) ?_))) | (refine wpListIn_is (.call { callee := .builtin .clear, args := #[_], argTypes := #[_] }) rfl ?_; go_must (refine wpListIn_stp hF rfl rfl (stp_cl _ _ rfl hS (by decide) ?_)); clear hS; intro w hS) | (refine wpListIn_is (.load _ _) rfl ?_; go_must (first | refine wpListIn_stp hF rfl rfl (stp_val (run_ld _ _ rfl hS) ?_) | refine wpListIn_stp hF rfl rfl (stp_val (run_lda _ _ rfl hS) ?_) | refine wpListIn_stp hF rfl rfl (stp_val (run_ld0 _ _ rfl hS) ?_) | refine wpListIn_stp hF rfl rfl (stp_val (run_lda0 _ _ rfl hS) ?_))) | (refine wpListIn_is (.store _ _ _) rfl ?_; go_must (first | refine wpListIn_stp hF rfl rfl (stp_st _ _ _ rfl hS ?_) | refine wpListIn_stp hF rfl rfl (stp_sta _ _ _ rfl hS ?_)); clear hS; intro w hS) | (refine wpListIn_is (.alloc _) rfl ?_; go_must (refine wpListIn_stp hF rfl rfl (stp_al _ rfl hS ?_)); clear hS; intro bN w hbN hS) | (refine wpListIn_is (.box _ _) rfl ?_; go_must (refine wpListIn_stp hF rfl rfl (stp_bx _ _ rfl hS ?_)); clear hS; intro bN w hbN hS))
          refine hRd.mono ?_
          rintro e W' (⟨rfl, hJ', hk'⟩ | ⟨rfl, hJx'⟩)
          · gi_wp2
            go_roundw
            case rel => exact ⟨k + 1, by go_num, by omega, .inl (by omega), by rw [hgl.out]; exact hJ', hkk.trans hk'⟩
            case measure => simp [intOf]; omega
          · gi_wp2
            refine bodyPost_ret (results_none rfl _ _ _) rfl ?_
            exact ⟨⟨_, rfl⟩, .inr ⟨_, ⟨k, hlt, hgk, rfl⟩, hJx'⟩⟩
        · have hgk : isGrey L g k = false := by simp only [isGrey, beq_eq_false_iff_ne.2 hg, Bool.and_false]
          have hgl := Lib.hid (gl_no hgk)
          have hne : (L.getD k 0 == 1) = false := by simpa using hg
          clear hg
          generalize L.getD k 0 = c at *
          gi_wp2_with (first | (refine wpListIn_is (.build _ _) rfl ?_; go_must (refine wpListIn_stp hF rfl rfl (stp_val (run_bd _ _ rfl) ?_))) | (refine wpListIn_is (.call { callee := .builtin .clear, args := #[_], argTypes := #[_] }) rfl ?_; go_must (refine wpListIn_stp hF rfl rfl (stp_cl _ _ rfl hS (by decide) ?_)); clear hS; intro w hS) | (refine wpListIn_is (.load _ _) rfl ?_; go_must (first | refine wpListIn_stp hF rfl rfl (stp_val (run_ld _ _ rfl hS) ?_) | refine wpListIn_stp hF rfl rfl (stp_val (run_lda _ _ rfl hS) ?_) | refine wpListIn_stp hF rfl rfl (stp_val (run_ld0 _ _ rfl hS) ?_) | refine wpListIn_stp hF rfl rfl (stp_val (run_lda0 _ _ rfl hS) ?_))) | (refine wpListIn_is (.store _ _ _) rfl ?_; go_must (first | refine wpListIn_stp hF rfl rfl (stp_st _ _ _ rfl hS ?_) | refine wpListIn_stp hF rfl rfl (stp_sta _ _ _ rfl hS ?_)); clear hS; intro w hS) | (refine wpListIn_is (.alloc _) rfl ?_; go_must (refine wpListIn_stp hF rfl rfl (stp_al _ rfl hS ?_)); clear hS; intro bN w hbN hS) | (refine wpListIn_is (.box _ _) rfl ?_; go_must (refine wpListIn_stp hF rfl rfl (stp_bx _ _ rfl hS ?_)); clear hS; intro bN w hbN hS))
          go_roundw
          case rel => exact ⟨k + 1, by go_num, by omega, .inl (by omega), by rw [hgl.out]; exact hJk, hkk⟩
          case measure => simp [intOf]; omega
      · have hd1 : n ≤ k := by omega
        gi_wp2_with (first | (refine wpListIn_is (.build _ _) rfl ?_; go_must (refine wpListIn_stp hF rfl rfl (stp_val (run_bd _ _ rfl) ?_))) | (refine wpListIn_is (.call { callee := .builtin .clear, args := #[_], argTypes := #[_] }) rfl ?_; go_must (refine wpListIn_stp hF rfl rfl (stp_cl _ _ rfl hS (by decide) ?_)); clear hS; intro w hS) | (refine wpListIn_is (.load _ _) rfl ?_; go_must (first | refine wpListIn_stp hF rfl rfl (stp_val (run_ld _ _ rfl hS) ?_) | refine wpListIn_stp hF rfl rfl (stp_val (run_lda _ _ rfl hS) ?_) | refine wpListIn_stp hF rfl rfl (stp_val (run_ld0 _ _ rfl hS) ?_) | refine wpListIn_stp hF rfl rfl (stp_val (run_lda0 _ _ rfl hS) ?_))) | (refine wpListIn_is (.store _ _ _) rfl ?_; go_must (first | refine wpListIn_stp hF rfl rfl (stp_st _ _ _ rfl hS ?_) | refine wpListIn_stp hF rfl rfl (stp_sta _ _ _ rfl hS ?_)); clear hS; intro w hS) | (refine wpListIn_is (.alloc _) rfl ?_; go_must (refine wpListIn_stp hF rfl rfl (stp_al _ rfl hS ?_)); clear hS; intro bN w hbN hS) | (refine wpListIn_is (.box _ _) rfl ?_; go_must (refine wpListIn_stp hF rfl rfl (stp_bx _ _ rfl hS ?_)); clear hS; intro bN w hbN hS))
        go_end0
        exact ⟨⟨_, rfl⟩, .inl ⟨gl (isGrey L g) k, gl_done hor hd1, hJk⟩⟩
  · have hf1 : f < 0 := by omega
    gi_wp2_with (first | (gi_at_call 105; refine made_in (hS.has inferInstance) ?_; unfold Ret) | (refine wpListIn_is (.build _ _) rfl ?_; go_must (refine wpListIn_stp hF rfl rfl (stp_val (run_bd _ _ rfl) ?_))) | (refine wpListIn_is (.call { callee := .builtin .clear, args := #[_], argTypes := #[_] }) rfl ?_; go_must (refine wpListIn_stp hF rfl rfl (stp_cl _ _ rfl hS (by decide) ?_)); clear hS; intro w hS) | (refine wpListIn_is (.load _ _) rfl ?_; go_must (first | refine wpListIn_stp hF rfl rfl (stp_val (run_ld _ _ rfl hS) ?_) | refine wpListIn_stp hF rfl rfl (stp_val (run_lda _ _ rfl hS) ?_) | refine wpListIn_stp hF rfl rfl (stp_val (run_ld0 _ _ rfl hS) ?_) | refine wpListIn_stp hF rfl rfl (stp_val (run_lda0 _ _ rfl hS) ?_))) | (refine wpListIn_is (.store _ _ _) rfl ?_; go_must (first | refine wpListIn_stp hF rfl rfl (stp_st _ _ _ rfl hS ?_) | refine wpListIn_stp hF rfl rfl (stp_sta _ _ _ rfl hS ?_)); clear hS; intro w hS) | (refine wpListIn_is (.alloc _) rfl ?_; go_must (refine wpListIn_stp hF rfl rfl (stp_al _ rfl hS ?_)); clear hS; intro bN w hbN hS) | (refine wpListIn_is (.box _ _) rfl ?_; go_must (refine wpListIn_stp hF rfl rfl (stp_bx _ _ rfl hS ?_)); clear hS; intro bN w hbN hS))
    gi_loopw [4] (fun v wr => ∃ k : Nat, v = .int .i64 k ∧ f ≤ (k : Int) ∧ (k ≤ n ∨ gl (isGrey L f) k = []) ∧ J (gl (isGrey L f) k) wr ∧ Kept [bp, bf, b] W1 wr) (fun v _ => n - (intOf v).toNat)
    case atStart => exact ⟨0, rfl, by omega, .inr (gl_start (by omega)), by rw [gl_start (by omega)]; exact h0, fun _ _ => rfl⟩
    case round =>
      obtain ⟨k, rfl, hfk, hor, hJk, hkk⟩ := hrel
      have hS := hk wr hkk
      by_cases hlt : k < n
      · have hcell := paint1 (n := n) (L := L) (i := k) (by omega)
        by_cases hg : L.getD k 0 = 1
        · have hgk : isGrey L f k = true := by simp only [isGrey, hg, hfk]; decide
          have hgl := Lib.hid (gl_yes hgk)
          rw [hg] at hcell
          clear hg
          obtain ⟨fn, tmps, assign, body, hy, hRd⟩ := hY (gl (isGrey L f) k) k wr hJk (by have := gl_len (isGrey L f) k; omega)
          gi_wp2_with (first | (refine wpListIn_is (.build _ _) rfl ?_; go_must (refine wpListIn_stp hF rfl rfl (stp_val (run_bd _ _ rfl) ?_))) | (refine wpListIn_is (.call { callee := .builtin .clear, args := #[_], argTypes := #[_] }) rfl ?_; go_must (refine wpListIn_stp hF rfl rfl (stp_cl _ _ rfl hS (by decide) ?_)); clear hS; intro w hS) | (refine wpListIn_is (.load _ _) rfl ?_; go_must (first | refine wpListIn_stp hF rfl rfl (stp_val (run_ld _ _ rfl hS) ?_) | refine wpListIn_stp hF rfl rfl (stp_val (run_lda _ _ rfl hS) ?_) | refine wpListIn_stp hF rfl rfl (stp_val (run_ld0 _ _ rfl hS) ?_) | refine wpListIn_stp hF rfl rfl (stp_val (run_lda0 _ _ rfl hS) ?_))) | (refine wpListIn_is (.store _ _ _) rfl ?_; go_must (first | refine wpListIn_stp hF rfl rfl (stp_st _ _ _ rfl hS ?_) | refine wpListIn_stp hF rfl rfl (stp_sta _ _ _ rfl hS ?_)); clear hS; intro w hS) | (refine wpListIn_is (.alloc _) rfl ?_; go_must (refine wpListIn_stp hF rfl rfl (stp_al _ rfl hS ?_)); clear hS; intro bN w hbN hS) | (refine wpListIn_is (.box _ _) rfl ?_; go_must (refine wpListIn_stp hF rfl rfl (stp_bx _ _ rfl hS ?_)); clear hS; intro bN w hbN hS))
          refine hRd.mono ?_
          rintro e W' (⟨rfl, hJ', hk'⟩ | ⟨rfl, hJx'⟩)
          · gi_wp2
            go_roundw
            case rel => exact ⟨k + 1, by go_num, by omega, .inl (by omega), by rw [hgl.out]; exact hJ', hkk.trans hk'⟩
            case measure => simp [intOf]; omega
          · gi_wp2
            refine bodyPost_ret (results_none rfl _ _ _) rfl ?_
            exact ⟨⟨_, rfl⟩, .inr ⟨_, ⟨k, hlt, hgk, rfl⟩, hJx'⟩⟩
        · have hgk : isGrey L f k = false := by simp only [isGrey, beq_eq_false_iff_ne.2 hg, Bool.and_false]
          have hgl := Lib.hid (gl_no hgk)
          have hne : (L.getD k 0 == 1) = false := by simpa using hg
          clear hg
          generalize L.getD k 0 = c at *
          gi_wp2_with (first | (refine wpListIn_is (.build _ _) rfl ?_; go_must (refine wpListIn_stp hF rfl rfl (stp_val (run_bd _ _ rfl) ?_))) | (refine wpListIn_is (.call { callee := .builtin .clear, args := #[_], argTypes := #[_] }) rfl ?_; go_must (refine wpListIn_stp hF rfl rfl (stp_cl _ _ rfl hS (by decide) ?_)); clear hS; intro w hS) | (refine wpListIn_is (.load _ _) rfl ?_; go_must (first | refine wpListIn_stp hF rfl rfl (stp_val (run_ld _ _ rfl hS) ?_) | refine wpListIn_stp hF rfl rfl (stp_val (run_lda _ _ rfl hS) ?_) | refine wpListIn_stp hF rfl rfl (stp_val (run_ld0 _ _ rfl hS) ?_) | refine wpListIn_stp hF rfl rfl (stp_val (run_lda0 _ _ rfl hS) ?_))) | (refine wpListIn_is (.store _ _ _) rfl ?_; go_must (first | refine wpListIn_stp hF rfl rfl (stp_st _ _ _ rfl hS ?_) | refine wpListIn_stp hF rfl rfl (stp_sta _ _ _ rfl hS ?_)); clear hS; intro w hS) | (refine wpListIn_is (.alloc _) rfl ?_; go_must (refine wpListIn_stp hF rfl rfl (stp_al _ rfl hS ?_)); clear hS; intro bN w hbN hS) | (refine wpListIn_is (.box _ _) rfl ?_; go_must (refine wpListIn_stp hF rfl rfl (stp_bx _ _ rfl hS ?_)); clear hS; intro bN w hbN hS))
          go_roundw
          case rel => exact ⟨k + 1, by go_num, by omega, .inl (by omega), by rw [hgl.out]; exact hJk, hkk⟩
          case measure => simp [intOf]; omega
      · have hd1 : n ≤ k := by omega
        gi_wp2_with (first | (refine wpListIn_is (.build _ _) rfl ?_; go_must (refine wpListIn_stp hF rfl rfl (stp_val (run_bd _ _ rfl) ?_))) | (refine wpListIn_is (.call { callee := .builtin .clear, args := #[_], argTypes := #[_] }) rfl ?_; go_must (refine wpListIn_stp hF rfl rfl (stp_cl _ _ rfl hS (by decide) ?_)); clear hS; intro w hS) | (refine wpListIn_is (.load _ _) rfl ?_; go_must (first | refine wpListIn_stp hF rfl rfl (stp_val (run_ld _ _ rfl hS) ?_) | refine wpListIn_stp hF rfl rfl (stp_val (run_lda _ _ rfl hS) ?_) | refine wpListIn_stp hF rfl rfl (stp_val (run_ld0 _ _ rfl hS) ?_) | refine wpListIn_stp hF rfl rfl (stp_val (run_lda0 _ _ rfl hS) ?_))) | (refine wpListIn_is (.store _ _ _) rfl ?_; go_must (first | refine wpListIn_stp hF rfl rfl (stp_st _ _ _ rfl hS ?_) | refine wpListIn_stp hF rfl rfl (stp_sta _ _ _ rfl hS ?_)); clear hS; intro w hS) | (refine wpListIn_is (.alloc _) rfl ?_; go_must (refine wpListIn_stp hF rfl rfl (stp_al _ rfl hS ?_)); clear hS; intro bN w hbN hS) | (refine wpListIn_is (.box _ _) rfl ?_; go_must (refine wpListIn_stp hF rfl rfl (stp_bx _ _ rfl hS ?_)); clear hS; intro bN w hbN hS))
        go_end0
        exact ⟨⟨_, rfl⟩, .inl ⟨gl (isGrey L f) k, gl_done hor hd1, hJk⟩⟩

theorem grey_clo {W : World} {f : Int} {p : Option Addr} (hO : St w0 bs W H)
    (hR : ∀ bp bf w', St w0 bs w' (⟨bf, #[.int .i64 f], 3, true⟩ :: ⟨bp, #[.pointer p], 29, true⟩ :: H) → Ret R (.func (.func 118) #[] #[.pointer (some ⟨bp, 0, none⟩), .pointer (some ⟨bf, 0, none⟩)]) w') :
    Calls Tryz.prog 104 #[.pointer p, .int .i64 f] W R := by
  have hS := hO
  go_enter Tryz.func104, Tryz.ntmps104
  go_wp2_with (first | go_skip | (refine wpList_is (.build _ _) rfl ?_; go_must (refine wpList_stp (by kernel_rfl) (stp_val (run_bd _ _ rfl) ?_))) | (refine wpList_is (.call { callee := .builtin .clear, args := #[_], argTypes := #[_] }) rfl ?_; go_must (refine wpList_stp (by kernel_rfl) (stp_cl _ _ rfl hS (by decide) ?_)); clear hS; intro w hS) | (refine wpList_is (.load _ _) rfl ?_; go_must (first | refine wpList_stp (by kernel_rfl) (stp_val (run_ld _ _ rfl hS) ?_) | refine wpList_stp (by kernel_rfl) (stp_val (run_lda _ _ rfl hS) ?_) | refine wpList_stp (by kernel_rfl) (stp_val (run_ld0 _ _ rfl hS) ?_) | refine wpList_stp (by kernel_rfl) (stp_val (run_lda0 _ _ rfl hS) ?_))) | (refine wpList_is (.store _ _ _) rfl ?_; go_must (first | refine wpList_stp (by kernel_rfl) (stp_st _ _ _ rfl hS ?_) | refine wpList_stp (by kernel_rfl) (stp_sta _ _ _ rfl hS ?_)); clear hS; intro w hS) | (refine wpList_is (.alloc _) rfl ?_; go_must (refine wpList_stp (by kernel_rfl) (stp_al _ rfl hS ?_)); clear hS; intro bN w hbN hS) | (refine wpList_is (.box _ _) rfl ?_; go_must (refine wpList_stp (by kernel_rfl) (stp_bx _ _ rfl hS ?_)); clear hS; intro bN w hbN hS) | (refine wpList_is (.binOp .eql _ _ (.const (.slice none _ _)) _) rfl ?_; refine wpList_stp (by kernel_rfl) (stp_val (run_nse _ _ _ rfl) ?_)) | (refine wpList_is (.binOp .neq _ _ (.const (.slice none _ _)) _) rfl ?_; refine wpList_stp (by kernel_rfl) (stp_val (run_nsn _ _ _ rfl) ?_)) | (refine region_quiet hS (by kernel_rfl) (by kernel_rfl) (fun hne => ?_); (repeat (first | go_big_quiet_skip | (go_big_quiet_want; first | (refine quiet_is (.load _ _) rfl ?_; go_must (first | refine quiet_at sw_st (fun w hS => run_ld _ _ rfl hS) ?_ | refine quiet_at sw_st (fun w hS => run_lda _ _ rfl hS) ?_ | refine quiet_at sw_st (fun w hS => run_ld0 _ _ rfl hS) ?_ | refine quiet_at sw_st (fun w hS => run_lda0 _ _ rfl hS) ?_); go_big_quiet_on) | (refine quiet_is (.binOp .eql _ _ (.const (.slice none _ _)) _) rfl ?_; refine quiet_val (fun w _ => run_nse _ _ _ rfl) ?_; go_big_quiet_on) | (refine quiet_is (.binOp .neq _ _ (.const (.slice none _ _)) _) rfl ?_; refine quiet_val (fun w _ => run_nsn _ _ _ rfl) ?_; go_big_quiet_on) | (refine quiet_is (.call { callee := .builtin .len, args := #[_], argTypes := #[_] }) rfl ?_; refine quiet_val (fun w _ => run_lenv _ _ rfl) ?_; go_big_quiet_on) | (refine quiet_is (.indexAddr _ _ _) rfl ?_; refine quiet_val (fun w _ => run_idxv _ _ _ rfl) ?_; go_big_quiet_on) | (refine quiet_is (.binOp .eql _ _ _ _) rfl ?_; refine quiet_val (fun w _ => run_aeq _ _ _ _ rfl) ?_; go_big_quiet_on) | (refine quiet_is (.binOp .neq _ _ _ _) rfl ?_; refine quiet_val (fun w _ => run_ane _ _ _ _ rfl) ?_; go_big_quiet_on) | (go_big_quiet_op; go_big_quiet_on)))); refine wpQuiet_nil ?_; clear hS hne; intro w hS))
  exact hR _ _ _ hS

/-- The first one below n. -/
def firstOf (p : Nat → Bool) (n : Nat) : Option Nat := (List.range n).find? p

theorem first_none {p : Nat → Bool} {n : Nat} (h : gl p n = []) : firstOf p n = none := by
  unfold firstOf gl at *
  rw [List.find?_eq_none]
  rw [List.filter_eq_nil_iff] at h
  exact h
theorem first_some {p : Nat → Bool} {n k y : Nat} (hk : k < n) (hp : p k = true) (h : [y] = gl p k ++ [k]) : firstOf p n = some y := by
  have h0 : gl p k = [] := by
    cases hg : gl p k with
    | nil => rfl
    | cons a l => rw [hg] at h; simp at h
  rw [h0] at h
  simp at h; subst h
  unfold firstOf
  obtain ⟨m, rfl⟩ : ∃ m, n = y + 1 + m := ⟨n - (y + 1), by omega⟩
  unfold gl at h0
  rw [List.filter_eq_nil_iff] at h0
  rw [List.range_add, List.find?_append, List.range_succ, List.find?_append, List.find?_eq_none.2 (by simpa using h0)]
  simp [hp]

theorem grey_ok {W : World} {n : Nat} {f : Int} (hO : St w0 bs W H) [hH : Has H b (paintCells n L) 86] (hn : 0 < n) (hn2 : n ≤ 256) (hl : L.length = 256)
    (hR : ∀ w', St w0 bs w' H → Ret R (.tuple #[.int .i64 ((firstOf (isGrey L f) n).getD 0 : Nat), .bool (firstOf (isGrey L f) n).isSome]) w') : Calls Tryz.prog 67 #[.pointer (some ⟨b, 0, none⟩), .int .i64 f] W R := by
  have hS : St W [] W [⟨b, paintCells n L, 86, false⟩] := St.start1 (hO.has hH) (by simp)
  refine (callsIn_wide (n := 3)).1 ?_
  have hF := wide_fn
  refine callsIn_of_wp_marks Tryz.func67 rfl trivial ?_ rfl
  simp only [Tryz.ntmps67, List.size_toArray, List.length_cons, List.length_nil, Nat.reduceAdd, Nat.reduceSub, Array.replicate_succ, Array.replicate_zero, List.push_toArray, List.append_toArray, List.nil_append, List.cons_append]
  gi_wp2_with (first | (gi_at_call 104; refine callsIn_wide.2 (grey_clo hS ?_); clear hS; intro bp bf w hS; unfold Ret) | (refine wpListIn_is (.build _ _) rfl ?_; go_must (refine wpListIn_stp hF rfl rfl (stp_val (run_bd _ _ rfl) ?_))) | (refine wpListIn_is (.call { callee := .builtin .clear, args := #[_], argTypes := #[_] }) rfl ?_; go_must (refine wpListIn_stp hF rfl rfl (stp_cl _ _ rfl hS (by decide) ?_)); clear hS; intro w hS) | (refine wpListIn_is (.load _ _) rfl ?_; go_must (first | refine wpListIn_stp hF rfl rfl (stp_val (run_ld _ _ rfl hS) ?_) | refine wpListIn_stp hF rfl rfl (stp_val (run_lda _ _ rfl hS) ?_) | refine wpListIn_stp hF rfl rfl (stp_val (run_ld0 _ _ rfl hS) ?_) | refine wpListIn_stp hF rfl rfl (stp_val (run_lda0 _ _ rfl hS) ?_))) | (refine wpListIn_is (.store _ _ _) rfl ?_; go_must (first | refine wpListIn_stp hF rfl rfl (stp_st _ _ _ rfl hS ?_) | refine wpListIn_stp hF rfl rfl (stp_sta _ _ _ rfl hS ?_)); clear hS; intro w hS) | (refine wpListIn_is (.alloc _) rfl ?_; go_must (refine wpListIn_stp hF rfl rfl (stp_al _ rfl hS ?_)); clear hS; intro bN w hbN hS) | (refine wpListIn_is (.box _ _) rfl ?_; go_must (refine wpListIn_stp hF rfl rfl (stp_bx _ _ rfl hS ?_)); clear hS; intro bN w hbN hS))
  rename_i c0 _ _ _ _ _
  have hnd := hS.nd
  simp only [List.pairwise_cons, List.mem_cons, List.not_mem_nil, or_false, forall_eq_or_imp, forall_eq, List.Pairwise.nil, and_true, false_implies, implies_true] at hnd
  obtain ⟨⟨n1, n2, n3, n4⟩, ⟨n5, n6, n7⟩, _⟩ := hnd
  refine range_st (w0 := W) (bs := []) (X := Unit) (Y := Nat) (by omega) (gf := 118) (lb := #[.pointer (some ⟨bp, 0, none⟩), .pointer (some ⟨bf, 0, none⟩)]) rfl (enters _ (by kernel_rfl))
    (K := [⟨bp, #[.pointer (some ⟨b, 0, none⟩)], 29, true⟩, ⟨bf, #[.int .i64 f], 3, true⟩, ⟨b, paintCells n L, 86, false⟩]) hS.chg.size ?_
    (grey_stops (by omega) bp bf (hS.has inferInstance) (hS.has inferInstance) (hS.has inferInstance) ⟨fun e => n1 e.symm, n7, n4⟩ hn hn2 hl) (fun _ => rfl)
    (fun pre _ => pre = []) (fun _ _ => [⟨bf, #[.int .i64 f], 3, true⟩, ⟨bp, #[.pointer (some ⟨b, 0, none⟩)], 29, true⟩, ⟨bN, #[.bool false], 4, true⟩, ⟨c0, #[.int .i64 0], 3, true⟩, ⟨b, paintCells n L, 86, false⟩]) ?_
    (fun c pre y => c = .ret ∧ pre = [y]) (fun _ _ y => [⟨bf, #[.int .i64 f], 3, true⟩, ⟨bp, #[.pointer (some ⟨b, 0, none⟩)], 29, true⟩, ⟨bN, #[.bool true], 4, true⟩, ⟨c0, #[.int .i64 (y : Nat)], 3, true⟩, ⟨b, paintCells n L, 86, false⟩])
    (x0 := ()) rfl hS
    (fun x => { tmps := #[.pointer (some ⟨b, 0, none⟩), .int .i64 f, undef, undef, .pointer (some ⟨c0, 0, none⟩), .pointer (some ⟨bN, 0, none⟩), .int .i64 x, .pointer (some ⟨b, 0, none⟩), .int .i64 f, .func (.func 118) #[] #[.pointer (some ⟨bp, 0, none⟩), .pointer (some ⟨bf, 0, none⟩)], .int .i64 x, undef], defers := [] }) ?assign ?body ?done ?stop
  · intro e he
    simp only [List.mem_cons, List.not_mem_nil, or_false] at he
    rcases he with rfl | rfl | rfl
    · exact hS.lt (e := ⟨bp, _, _, _⟩) (by simp)
    · exact hS.lt (e := ⟨bf, _, _, _⟩) (by simp)
    · exact hS.lt (e := ⟨b, _, _, _⟩) (by simp)
  · intro _ _ _ e he
    simp only [List.mem_cons, List.not_mem_nil, or_false] at he ⊢
    rcases he with rfl | rfl | rfl <;> simp
  case assign =>
    intro l x W K hK
    gi_wp2
    exact hK
  case body =>
    rintro l pre el ⟨⟩ w2 rfl _ hS
    have hF := wide_in l
    gi_wp2_with (first | (refine wpListIn_is (.build _ _) rfl ?_; go_must (refine wpListIn_stp hF rfl rfl (stp_val (run_bd _ _ rfl) ?_))) | (refine wpListIn_is (.call { callee := .builtin .clear, args := #[_], argTypes := #[_] }) rfl ?_; go_must (refine wpListIn_stp hF rfl rfl (stp_cl _ _ rfl hS (by decide) ?_)); clear hS; intro w hS) | (refine wpListIn_is (.load _ _) rfl ?_; go_must (first | refine wpListIn_stp hF rfl rfl (stp_val (run_ld _ _ rfl hS) ?_) | refine wpListIn_stp hF rfl rfl (stp_val (run_lda _ _ rfl hS) ?_) | refine wpListIn_stp hF rfl rfl (stp_val (run_ld0 _ _ rfl hS) ?_) | refine wpListIn_stp hF rfl rfl (stp_val (run_lda0 _ _ rfl hS) ?_))) | (refine wpListIn_is (.store _ _ _) rfl ?_; go_must (first | refine wpListIn_stp hF rfl rfl (stp_st _ _ _ rfl hS ?_) | refine wpListIn_stp hF rfl rfl (stp_sta _ _ _ rfl hS ?_)); clear hS; intro w hS) | (refine wpListIn_is (.alloc _) rfl ?_; go_must (refine wpListIn_stp hF rfl rfl (stp_al _ rfl hS ?_)); clear hS; intro bN w hbN hS) | (refine wpListIn_is (.box _ _) rfl ?_; go_must (refine wpListIn_stp hF rfl rfl (stp_bx _ _ rfl hS ?_)); clear hS; intro bN w hbN hS))
    exact ⟨el, ⟨rfl, rfl⟩, hS⟩
  case done =>
    rintro d xs ⟨⟩ w2 hxs hnil hS0 hd
    have hS := hS0.rebase
    gi_wp2_with (first | (refine wpListIn_is (.build _ _) rfl ?_; go_must (refine wpListIn_stp hF rfl rfl (stp_val (run_bd _ _ rfl) ?_))) | (refine wpListIn_is (.call { callee := .builtin .clear, args := #[_], argTypes := #[_] }) rfl ?_; go_must (refine wpListIn_stp hF rfl rfl (stp_cl _ _ rfl hS (by decide) ?_)); clear hS; intro w hS) | (refine wpListIn_is (.load _ _) rfl ?_; go_must (first | refine wpListIn_stp hF rfl rfl (stp_val (run_ld _ _ rfl hS) ?_) | refine wpListIn_stp hF rfl rfl (stp_val (run_lda _ _ rfl hS) ?_) | refine wpListIn_stp hF rfl rfl (stp_val (run_ld0 _ _ rfl hS) ?_) | refine wpListIn_stp hF rfl rfl (stp_val (run_lda0 _ _ rfl hS) ?_))) | (refine wpListIn_is (.store _ _ _) rfl ?_; go_must (first | refine wpListIn_stp hF rfl rfl (stp_st _ _ _ rfl hS ?_) | refine wpListIn_stp hF rfl rfl (stp_sta _ _ _ rfl hS ?_)); clear hS; intro w hS) | (refine wpListIn_is (.alloc _) rfl ?_; go_must (refine wpListIn_stp hF rfl rfl (stp_al _ rfl hS ?_)); clear hS; intro bN w hbN hS) | (refine wpListIn_is (.box _ _) rfl ?_; go_must (refine wpListIn_stp hF rfl rfl (stp_bx _ _ rfl hS ?_)); clear hS; intro bN w hbN hS))
    refine leave_st hd hS0 hS (fun W3 hS3 => ⟨_, res_cells2 rfl hS3, ?_⟩)
    have e : firstOf (isGrey L f) n = none := first_none (hxs.symm.trans hnil)
    rw [e] at hR
    exact hR _ (hO.nil hS3.chg)
  case stop =>
    rintro d c pre y w2 ⟨k, hk, hg, hpre⟩ ⟨rfl, rfl⟩ hS0 hd
    gi_wp2
    refine leave_st hd hS0 hS0.rebase (fun W3 hS3 => ⟨_, res_cells2 rfl hS3, ?_⟩)
    have e : firstOf (isGrey L f) n = some y := first_some hk hg hpre
    rw [e] at hR
    exact hR _ (hO.nil hS3.chg)

end Go.Proofs.YtgpjanfphgjbbaaGreat.Col
