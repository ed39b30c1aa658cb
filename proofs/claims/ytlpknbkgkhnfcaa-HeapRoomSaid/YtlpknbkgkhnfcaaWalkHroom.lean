/-
  The walk of HeapRoom.
-/
import Derived.Test.YtlpknbkgkhnfcaaHroom
import Derived.Test.YtlpknbkgkhnfcaaGen
set_option linter.unusedSimpArgs false
set_option linter.unusedVariables false
namespace Go.Proofs.Ytlpknbkgkhnfcaa
open Go.RowKit Go.Mm
variable {R : Ending → World → Prop}

/-- A model behind k turns, with what its heap has: the pointer, the free slots and the objects. -/
def MAl (W : World) (bm n : Nat) (f : Int) (k : Nat) (x : Option Addr × Int × Nat) (w : World) : Prop :=
  ∃ w0 bs M vi vg L ins gone ms E Ei Eg, Base W w0 bs M (ms.map meV) ∧ St w0 bs w (E ++ (moE bm x.1 M vi vg :: (Ei ++ (Eg ++ ms.map meE)))) ∧
    HA x.1 (HL L) E ∧ RS vi ins Ei ∧ RS vg gone Eg ∧ Mo n f k L ins gone ms ∧ lfH (HL L) = x.2.1 ∧ (alH (HL L)).length = x.2.2
theorem MA.al {W : World} {bm n : Nat} {f : Int} {k : Nat} {w : World} (h : MA W bm n f k [] w) : ∃ x, MAl W bm n f k x w := by
  obtain ⟨w0, bs, M, ph, vi, vg, L, ins, gone, ms, E, Ei, Eg, hB, hS, hT, hvi, hvg, hMo⟩ := h
  rw [List.append_nil] at hS
  exact ⟨(ph, _, _), w0, bs, M, vi, vg, L, ins, gone, ms, E, Ei, Eg, hB, hS.pick, hT, hvi, hvg, hMo, rfl, rfl⟩
theorem MAl.ma {W : World} {bm n : Nat} {f : Int} {k : Nat} {x : Option Addr × Int × Nat} {w : World} (h : MAl W bm n f k x w) : MA W bm n f k [] w := by
  obtain ⟨w0, bs, M, vi, vg, L, ins, gone, ms, E, Ei, Eg, hB, hS, hT, hvi, hvg, hMo, _⟩ := h
  exact ⟨w0, bs, M, x.1, vi, vg, L, ins, gone, ms, E, Ei, Eg, hB, by rw [List.append_nil]; exact hS.pick, hT, hvi, hvg, hMo⟩
/-- The region of a turn and of what is asked behind it. -/
def CR (W : World) (bm n : Nat) (f : Int) (k : Nat) (G : Gs) (χ : Nat → Option Addr × Int × Nat) (w : World) : Prop := if G 5 = true then MAl W bm n f (k + 1) (χ 5) w else MA W bm n f k [] w
theorem cr_st {W : World} {bm n : Nat} {f : Int} {k : Nat} {G : Gs} {χ : Nat → Option Addr × Int × Nat} {w : World} (h : CR W bm n f k G χ w) : St W [] w [] := by
  unfold CR at h
  split at h
  · exact h.ma.st
  · exact h.st
theorem cr_al {W : World} {bm n : Nat} {f : Int} {k : Nat} {G : Gs} {χ : Nat → Option Addr × Int × Nat} {w : World} (h : CR W bm n f k G χ w) (h5 : G 5 = true) : MAl W bm n f (k + 1) (χ 5) w := by
  unfold CR at h
  rw [if_pos h5] at h
  exact h

set_option maxHeartbeats 8000000 in
set_option maxRecDepth 100000 in
theorem walk_hroom {W : World} (z : Int) (wz : (Lit.int .u8 z).wf = true) (v : Value) {n sb so : Nat} {F : Nat → Nat → Value} (hv : Flat W [.i .u8, .i .u8, .i .u8] v n sb so F) (hR : ∀ w', Chg W w' [] → Ret R (.bool true) w') :
    Calls Try.prog 3 #[.int .u8 z, v] W R := by
  have hS : St W [] W [] := St.start0
  have hlen := hv.len (t := 22) Try.underlying22
  have hz := bounds_u8L wz
  obtain ⟨zn, rfl⟩ : ∃ q : Nat, z = q := ⟨z.toNat, by omega⟩
  clear wz
  by_cases hn : 120 < n
  · have q : decide (120 < (n : Int)) = true := decide_eq_true (by omega)
    go_enter Try.func3, Try.ntmps3
    go_wp2_with (first | go_skip | (go_at_call 11; refine works_ok hS ?_; clear hS; intro w hS; unfold Ret) | go_skip | (refine wpList_is (.call { callee := .builtin .len, args := #[_], argTypes := #[_] }) rfl ?_; refine wpList_stp (by kernel_rfl) (stp_val (run_lenv _ _ rfl) ?_)) | (refine wpList_is (.slice _ _ none (some _) none) rfl ?_; refine wpList_stp (by kernel_rfl) (stp_val (run_prev _ _ _ rfl) ?_)) | (refine wpList_is (.indexAddr _ _ _) rfl ?_; refine wpList_stp (by kernel_rfl) (stp_val (run_idxv _ _ _ rfl) ?_)) | go_skip | (refine wpList_is (.build _ _) rfl ?_; go_must (refine wpList_stp (by kernel_rfl) (stp_val (run_bd _ _ rfl) ?_))) | (refine wpList_is (.call { callee := .builtin .clear, args := #[_], argTypes := #[_] }) rfl ?_; go_must (refine wpList_stp (by kernel_rfl) (stp_cl _ _ rfl hS (by decide) ?_)); clear hS; intro w hS) | (refine wpList_is (.load _ _) rfl ?_; go_must (first | refine wpList_stp (by kernel_rfl) (stp_val (run_ld _ _ rfl hS) ?_) | refine wpList_stp (by kernel_rfl) (stp_val (run_lda _ _ rfl hS) ?_) | refine wpList_stp (by kernel_rfl) (stp_val (run_ld0 _ _ rfl hS) ?_) | refine wpList_stp (by kernel_rfl) (stp_val (run_lda0 _ _ rfl hS) ?_))) | (refine wpList_is (.store _ _ _) rfl ?_; go_must (first | refine wpList_stp (by kernel_rfl) (stp_st _ _ _ rfl hS ?_) | refine wpList_stp (by kernel_rfl) (stp_sta _ _ _ rfl hS ?_)); clear hS; intro w hS) | (refine wpList_is (.alloc _) rfl ?_; go_must (refine wpList_stp (by kernel_rfl) (stp_al _ rfl hS ?_)); clear hS; intro bN w hbN hS) | (refine wpList_is (.box _ _) rfl ?_; go_must (refine wpList_stp (by kernel_rfl) (stp_bx _ _ rfl hS ?_)); clear hS; intro bN w hbN hS) | (refine wpList_is (.binOp .eql _ _ (.const (.slice none _ _)) _) rfl ?_; refine wpList_stp (by kernel_rfl) (stp_val (run_nse _ _ _ rfl) ?_)) | (refine wpList_is (.binOp .neq _ _ (.const (.slice none _ _)) _) rfl ?_; refine wpList_stp (by kernel_rfl) (stp_val (run_nsn _ _ _ rfl) ?_)))
    exact hR _ hS.chg
  have q : decide (120 < (n : Int)) = false := decide_eq_false (by omega)
  go_enter Try.func3, Try.ntmps3
  go_wp2_with (first | go_skip | (go_at_call 12; go_must (refine begin_ok hS zn 1 (by omega) (by omega) 1 (by decide) ?_); clear hS; intro bm w hMA; have hS := hMA.st; unfold Ret) | go_skip | (refine wpList_is (.call { callee := .builtin .len, args := #[_], argTypes := #[_] }) rfl ?_; refine wpList_stp (by kernel_rfl) (stp_val (run_lenv _ _ rfl) ?_)) | (refine wpList_is (.slice _ _ none (some _) none) rfl ?_; refine wpList_stp (by kernel_rfl) (stp_val (run_prev _ _ _ rfl) ?_)) | (refine wpList_is (.indexAddr _ _ _) rfl ?_; refine wpList_stp (by kernel_rfl) (stp_val (run_idxv _ _ _ rfl) ?_)) | go_skip | (refine wpList_is (.build _ _) rfl ?_; go_must (refine wpList_stp (by kernel_rfl) (stp_val (run_bd _ _ rfl) ?_))) | (refine wpList_is (.call { callee := .builtin .clear, args := #[_], argTypes := #[_] }) rfl ?_; go_must (refine wpList_stp (by kernel_rfl) (stp_cl _ _ rfl hS (by decide) ?_)); clear hS; intro w hS) | (refine wpList_is (.load _ _) rfl ?_; go_must (first | refine wpList_stp (by kernel_rfl) (stp_val (run_ld _ _ rfl hS) ?_) | refine wpList_stp (by kernel_rfl) (stp_val (run_lda _ _ rfl hS) ?_) | refine wpList_stp (by kernel_rfl) (stp_val (run_ld0 _ _ rfl hS) ?_) | refine wpList_stp (by kernel_rfl) (stp_val (run_lda0 _ _ rfl hS) ?_))) | (refine wpList_is (.store _ _ _) rfl ?_; go_must (first | refine wpList_stp (by kernel_rfl) (stp_st _ _ _ rfl hS ?_) | refine wpList_stp (by kernel_rfl) (stp_sta _ _ _ rfl hS ?_)); clear hS; intro w hS) | (refine wpList_is (.alloc _) rfl ?_; go_must (refine wpList_stp (by kernel_rfl) (stp_al _ rfl hS ?_)); clear hS; intro bN w hbN hS) | (refine wpList_is (.box _ _) rfl ?_; go_must (refine wpList_stp (by kernel_rfl) (stp_bx _ _ rfl hS ?_)); clear hS; intro bN w hbN hS) | (refine wpList_is (.binOp .eql _ _ (.const (.slice none _ _)) _) rfl ?_; refine wpList_stp (by kernel_rfl) (stp_val (run_nse _ _ _ rfl) ?_)) | (refine wpList_is (.binOp .neq _ _ (.const (.slice none _ _)) _) rfl ?_; refine wpList_stp (by kernel_rfl) (stp_val (run_nsn _ _ _ rfl) ?_)))
  clear hS
  go_loopw [6] (fun s0 wr => ∃ (i : Nat) (_ : Unit), i ≤ n ∧ s0 = .int .i64 i ∧ MA W bm (1 + zn) ((1 : Nat) : Int) i [] wr) (fun s0 _ => n - (intOf s0).toNat)
  case atStart => exact ⟨0, (), Nat.zero_le _, rfl, hMA⟩
  case round =>
    clear hMA
    obtain ⟨i, _, hi, rfl, hMA⟩ := hrel
    have hS := hMA.st
    by_cases hlt : i < n
    · have hidx := hv.idxz (t := 22) (z := 3) (i := i) rfl Try.underlying22 (by kernel_rfl) hlt
      have hcell := hv.cellsz (z := 3) (i := i) rfl hlt
      obtain ⟨a, b, c, ha, hb, hc, f0, f1, f2⟩ := tr_cells hv hlt
      simp only [List.range_succ, List.range_zero, List.nil_append, List.map_append, List.map_cons, List.map_nil, List.cons_append, f0, f1, f2] at hcell
      have dlt : decide ((i : Int) < (n : Int)) = true := decide_eq_true (by omega)
      have dlt' : decide (i < n) = true := decide_eq_true hlt
      have sz : Small (zn : Int) := ⟨by omega, by omega⟩
      have s1 : SumIs 1 (zn : Int) ((1 + zn : Nat) : Int) := ⟨by omega, by omega, by omega⟩
      clear f0 f1 f2
      go_wp2_with (first | go_skip | go_skip | (refine wpList_is (.call { callee := .builtin .len, args := #[_], argTypes := #[_] }) rfl ?_; refine wpList_stp (by kernel_rfl) (stp_val (run_lenv _ _ rfl) ?_)) | (refine wpList_is (.slice _ _ none (some _) none) rfl ?_; refine wpList_stp (by kernel_rfl) (stp_val (run_prev _ _ _ rfl) ?_)) | (refine wpList_is (.indexAddr _ _ _) rfl ?_; refine wpList_stp (by kernel_rfl) (stp_val (run_idxv _ _ _ rfl) ?_)) | go_skip | (refine wpList_is (.build _ _) rfl ?_; go_must (refine wpList_stp (by kernel_rfl) (stp_val (run_bd _ _ rfl) ?_))) | (refine wpList_is (.call { callee := .builtin .clear, args := #[_], argTypes := #[_] }) rfl ?_; go_must (refine wpList_stp (by kernel_rfl) (stp_cl _ _ rfl hS (by decide) ?_)); clear hS; intro w hS) | (refine wpList_is (.load _ _) rfl ?_; go_must (first | refine wpList_stp (by kernel_rfl) (stp_val (run_ld _ _ rfl hS) ?_) | refine wpList_stp (by kernel_rfl) (stp_val (run_lda _ _ rfl hS) ?_) | refine wpList_stp (by kernel_rfl) (stp_val (run_ld0 _ _ rfl hS) ?_) | refine wpList_stp (by kernel_rfl) (stp_val (run_lda0 _ _ rfl hS) ?_))) | (refine wpList_is (.store _ _ _) rfl ?_; go_must (first | refine wpList_stp (by kernel_rfl) (stp_st _ _ _ rfl hS ?_) | refine wpList_stp (by kernel_rfl) (stp_sta _ _ _ rfl hS ?_)); clear hS; intro w hS) | (refine wpList_is (.alloc _) rfl ?_; go_must (refine wpList_stp (by kernel_rfl) (stp_al _ rfl hS ?_)); clear hS; intro bN w hbN hS) | (refine wpList_is (.box _ _) rfl ?_; go_must (refine wpList_stp (by kernel_rfl) (stp_bx _ _ rfl hS ?_)); clear hS; intro bN w hbN hS) | (refine wpList_is (.binOp .eql _ _ (.const (.slice none _ _)) _) rfl ?_; refine wpList_stp (by kernel_rfl) (stp_val (run_nse _ _ _ rfl) ?_)) | (refine wpList_is (.binOp .neq _ _ (.const (.slice none _ _)) _) rfl ?_; refine wpList_stp (by kernel_rfl) (stp_val (run_nsn _ _ _ rfl) ?_)))
      clear hS
      refine region_free (X := Option Addr × Int × Nat) (CR W bm (1 + zn) ((1 : Nat) : Int) i) (fun j => j == 5) (by kernel_rfl) (by kernel_rfl) ?_ ?_
      · unfold CR
        rw [if_neg (by simp)]
        obtain ⟨w0, bs, M, ph, vi, vg, L, ins, gone, ms, E, Ei, Eg, hB, hS, hT, hvi, hvg, hMo⟩ := hMA
        exact ⟨w0, bs, M, ph, vi, vg, L, ins, gone, ms, E, Ei, Eg, hB, hS.drawn _, hT, hvi, hvg, hMo⟩
      first | (refine gx_val (fun _ => rfl) rfl (fun G χ w hM hC => run_mv _ rfl) ?_) | (refine gx_val (fun _ => rfl) rfl (fun G χ w hM hC => run_as _ rfl) ?_) | (refine gx_val (fun _ => rfl) rfl (fun G χ w hM hC => run_nc _ rfl) ?_) | (refine gx_val (fun _ => rfl) rfl (fun G χ w hM hC => run_fa _ _ _ rfl) ?_) | (refine gx_val (fun _ => rfl) rfl (fun G χ w hM hC => run_idxv _ _ _ rfl) ?_) | (refine gx_val (fun _ => rfl) rfl (fun G χ w hM hC => run_lda0 _ _ rfl (cr_st hC)) ?_) | (refine gx_val (fun _ => rfl) rfl (fun G χ w hM hC => run_bnot _ _ rfl) ?_) | (refine gx_val (fun _ => rfl) rfl (fun G χ w hM hC => run_pk2 _ _ _ rfl) ?_) | (refine gx_val (fun _ => rfl) rfl (fun G χ w hM hC => run_cvn _ _ _ rfl) ?_) | (refine gx_val (fun _ => rfl) rfl (fun G χ w hM hC => run_sumv _ _ _ _ rfl) ?_) | (refine gx_val (fun _ => rfl) rfl (fun G χ w hM hC => run_ine _ _ _ _ rfl) ?_)
      first | (refine gx_val (fun _ => rfl) rfl (fun G χ w hM hC => run_mv _ rfl) ?_) | (refine gx_val (fun _ => rfl) rfl (fun G χ w hM hC => run_as _ rfl) ?_) | (refine gx_val (fun _ => rfl) rfl (fun G χ w hM hC => run_nc _ rfl) ?_) | (refine gx_val (fun _ => rfl) rfl (fun G χ w hM hC => run_fa _ _ _ rfl) ?_) | (refine gx_val (fun _ => rfl) rfl (fun G χ w hM hC => run_idxv _ _ _ rfl) ?_) | (refine gx_val (fun _ => rfl) rfl (fun G χ w hM hC => run_lda0 _ _ rfl (cr_st hC)) ?_) | (refine gx_val (fun _ => rfl) rfl (fun G χ w hM hC => run_bnot _ _ rfl) ?_) | (refine gx_val (fun _ => rfl) rfl (fun G χ w hM hC => run_pk2 _ _ _ rfl) ?_) | (refine gx_val (fun _ => rfl) rfl (fun G χ w hM hC => run_cvn _ _ _ rfl) ?_) | (refine gx_val (fun _ => rfl) rfl (fun G χ w hM hC => run_sumv _ _ _ _ rfl) ?_) | (refine gx_val (fun _ => rfl) rfl (fun G χ w hM hC => run_ine _ _ _ _ rfl) ?_)
      first | (refine gx_val (fun _ => rfl) rfl (fun G χ w hM hC => run_mv _ rfl) ?_) | (refine gx_val (fun _ => rfl) rfl (fun G χ w hM hC => run_as _ rfl) ?_) | (refine gx_val (fun _ => rfl) rfl (fun G χ w hM hC => run_nc _ rfl) ?_) | (refine gx_val (fun _ => rfl) rfl (fun G χ w hM hC => run_fa _ _ _ rfl) ?_) | (refine gx_val (fun _ => rfl) rfl (fun G χ w hM hC => run_idxv _ _ _ rfl) ?_) | (refine gx_val (fun _ => rfl) rfl (fun G χ w hM hC => run_lda0 _ _ rfl (cr_st hC)) ?_) | (refine gx_val (fun _ => rfl) rfl (fun G χ w hM hC => run_bnot _ _ rfl) ?_) | (refine gx_val (fun _ => rfl) rfl (fun G χ w hM hC => run_pk2 _ _ _ rfl) ?_) | (refine gx_val (fun _ => rfl) rfl (fun G χ w hM hC => run_cvn _ _ _ rfl) ?_) | (refine gx_val (fun _ => rfl) rfl (fun G χ w hM hC => run_sumv _ _ _ _ rfl) ?_) | (refine gx_val (fun _ => rfl) rfl (fun G χ w hM hC => run_ine _ _ _ _ rfl) ?_)
      first | (refine gx_val (fun _ => rfl) rfl (fun G χ w hM hC => run_mv _ rfl) ?_) | (refine gx_val (fun _ => rfl) rfl (fun G χ w hM hC => run_as _ rfl) ?_) | (refine gx_val (fun _ => rfl) rfl (fun G χ w hM hC => run_nc _ rfl) ?_) | (refine gx_val (fun _ => rfl) rfl (fun G χ w hM hC => run_fa _ _ _ rfl) ?_) | (refine gx_val (fun _ => rfl) rfl (fun G χ w hM hC => run_idxv _ _ _ rfl) ?_) | (refine gx_val (fun _ => rfl) rfl (fun G χ w hM hC => run_lda0 _ _ rfl (cr_st hC)) ?_) | (refine gx_val (fun _ => rfl) rfl (fun G χ w hM hC => run_bnot _ _ rfl) ?_) | (refine gx_val (fun _ => rfl) rfl (fun G χ w hM hC => run_pk2 _ _ _ rfl) ?_) | (refine gx_val (fun _ => rfl) rfl (fun G χ w hM hC => run_cvn _ _ _ rfl) ?_) | (refine gx_val (fun _ => rfl) rfl (fun G χ w hM hC => run_sumv _ _ _ _ rfl) ?_) | (refine gx_val (fun _ => rfl) rfl (fun G χ w hM hC => run_ine _ _ _ _ rfl) ?_)
      first | (refine gx_val (fun _ => rfl) rfl (fun G χ w hM hC => run_mv _ rfl) ?_) | (refine gx_val (fun _ => rfl) rfl (fun G χ w hM hC => run_as _ rfl) ?_) | (refine gx_val (fun _ => rfl) rfl (fun G χ w hM hC => run_nc _ rfl) ?_) | (refine gx_val (fun _ => rfl) rfl (fun G χ w hM hC => run_fa _ _ _ rfl) ?_) | (refine gx_val (fun _ => rfl) rfl (fun G χ w hM hC => run_idxv _ _ _ rfl) ?_) | (refine gx_val (fun _ => rfl) rfl (fun G χ w hM hC => run_lda0 _ _ rfl (cr_st hC)) ?_) | (refine gx_val (fun _ => rfl) rfl (fun G χ w hM hC => run_bnot _ _ rfl) ?_) | (refine gx_val (fun _ => rfl) rfl (fun G χ w hM hC => run_pk2 _ _ _ rfl) ?_) | (refine gx_val (fun _ => rfl) rfl (fun G χ w hM hC => run_cvn _ _ _ rfl) ?_) | (refine gx_val (fun _ => rfl) rfl (fun G χ w hM hC => run_sumv _ _ _ _ rfl) ?_) | (refine gx_val (fun _ => rfl) rfl (fun G χ w hM hC => run_ine _ _ _ _ rfl) ?_)
      refine gx_mark 13 [_, _] _ rfl (fun _ => rfl) rfl (enters _ (by kernel_rfl)) (.bool true) (fun G χ w hk _ _ hC => ?_) ?_
      · unfold CR at hC
        rw [if_neg (by rw [hk]; simp)] at hC
        refine turn_ok (by omega) hC a b c (by omega) (by omega) (by omega) (fun w' hMA' => ?_)
        obtain ⟨x, hx⟩ := hMA'.al
        refine ⟨x, rfl, ?_⟩
        unfold CR
        rw [up_same, if_pos rfl, up_same]
        exact hx
      first | (refine gx_val (fun _ => rfl) rfl (fun G χ w hM hC => run_mv _ rfl) ?_) | (refine gx_val (fun _ => rfl) rfl (fun G χ w hM hC => run_as _ rfl) ?_) | (refine gx_val (fun _ => rfl) rfl (fun G χ w hM hC => run_nc _ rfl) ?_) | (refine gx_val (fun _ => rfl) rfl (fun G χ w hM hC => run_fa _ _ _ rfl) ?_) | (refine gx_val (fun _ => rfl) rfl (fun G χ w hM hC => run_idxv _ _ _ rfl) ?_) | (refine gx_val (fun _ => rfl) rfl (fun G χ w hM hC => run_lda0 _ _ rfl (cr_st hC)) ?_) | (refine gx_val (fun _ => rfl) rfl (fun G χ w hM hC => run_bnot _ _ rfl) ?_) | (refine gx_val (fun _ => rfl) rfl (fun G χ w hM hC => run_pk2 _ _ _ rfl) ?_) | (refine gx_val (fun _ => rfl) rfl (fun G χ w hM hC => run_cvn _ _ _ rfl) ?_) | (refine gx_val (fun _ => rfl) rfl (fun G χ w hM hC => run_sumv _ _ _ _ rfl) ?_) | (refine gx_val (fun _ => rfl) rfl (fun G χ w hM hC => run_ine _ _ _ _ rfl) ?_)
      first | (refine gx_val (fun _ => rfl) rfl (fun G χ w hM hC => run_mv _ rfl) ?_) | (refine gx_val (fun _ => rfl) rfl (fun G χ w hM hC => run_as _ rfl) ?_) | (refine gx_val (fun _ => rfl) rfl (fun G χ w hM hC => run_nc _ rfl) ?_) | (refine gx_val (fun _ => rfl) rfl (fun G χ w hM hC => run_fa _ _ _ rfl) ?_) | (refine gx_val (fun _ => rfl) rfl (fun G χ w hM hC => run_idxv _ _ _ rfl) ?_) | (refine gx_val (fun _ => rfl) rfl (fun G χ w hM hC => run_lda0 _ _ rfl (cr_st hC)) ?_) | (refine gx_val (fun _ => rfl) rfl (fun G χ w hM hC => run_bnot _ _ rfl) ?_) | (refine gx_val (fun _ => rfl) rfl (fun G χ w hM hC => run_pk2 _ _ _ rfl) ?_) | (refine gx_val (fun _ => rfl) rfl (fun G χ w hM hC => run_cvn _ _ _ rfl) ?_) | (refine gx_val (fun _ => rfl) rfl (fun G χ w hM hC => run_sumv _ _ _ _ rfl) ?_) | (refine gx_val (fun _ => rfl) rfl (fun G χ w hM hC => run_ine _ _ _ _ rfl) ?_)
      first | (refine gx_val (fun _ => rfl) rfl (fun G χ w hM hC => run_mv _ rfl) ?_) | (refine gx_val (fun _ => rfl) rfl (fun G χ w hM hC => run_as _ rfl) ?_) | (refine gx_val (fun _ => rfl) rfl (fun G χ w hM hC => run_nc _ rfl) ?_) | (refine gx_val (fun _ => rfl) rfl (fun G χ w hM hC => run_fa _ _ _ rfl) ?_) | (refine gx_val (fun _ => rfl) rfl (fun G χ w hM hC => run_idxv _ _ _ rfl) ?_) | (refine gx_val (fun _ => rfl) rfl (fun G χ w hM hC => run_lda0 _ _ rfl (cr_st hC)) ?_) | (refine gx_val (fun _ => rfl) rfl (fun G χ w hM hC => run_bnot _ _ rfl) ?_) | (refine gx_val (fun _ => rfl) rfl (fun G χ w hM hC => run_pk2 _ _ _ rfl) ?_) | (refine gx_val (fun _ => rfl) rfl (fun G χ w hM hC => run_cvn _ _ _ rfl) ?_) | (refine gx_val (fun _ => rfl) rfl (fun G χ w hM hC => run_sumv _ _ _ _ rfl) ?_) | (refine gx_val (fun _ => rfl) rfl (fun G χ w hM hC => run_ine _ _ _ _ rfl) ?_)
      first | (refine gx_val (fun _ => rfl) rfl (fun G χ w hM hC => run_mv _ rfl) ?_) | (refine gx_val (fun _ => rfl) rfl (fun G χ w hM hC => run_as _ rfl) ?_) | (refine gx_val (fun _ => rfl) rfl (fun G χ w hM hC => run_nc _ rfl) ?_) | (refine gx_val (fun _ => rfl) rfl (fun G χ w hM hC => run_fa _ _ _ rfl) ?_) | (refine gx_val (fun _ => rfl) rfl (fun G χ w hM hC => run_idxv _ _ _ rfl) ?_) | (refine gx_val (fun _ => rfl) rfl (fun G χ w hM hC => run_lda0 _ _ rfl (cr_st hC)) ?_) | (refine gx_val (fun _ => rfl) rfl (fun G χ w hM hC => run_bnot _ _ rfl) ?_) | (refine gx_val (fun _ => rfl) rfl (fun G χ w hM hC => run_pk2 _ _ _ rfl) ?_) | (refine gx_val (fun _ => rfl) rfl (fun G χ w hM hC => run_cvn _ _ _ rfl) ?_) | (refine gx_val (fun _ => rfl) rfl (fun G χ w hM hC => run_sumv _ _ _ _ rfl) ?_) | (refine gx_val (fun _ => rfl) rfl (fun G χ w hM hC => run_ine _ _ _ _ rfl) ?_)
      first | (refine gx_val (fun _ => rfl) rfl (fun G χ w hM hC => run_mv _ rfl) ?_) | (refine gx_val (fun _ => rfl) rfl (fun G χ w hM hC => run_as _ rfl) ?_) | (refine gx_val (fun _ => rfl) rfl (fun G χ w hM hC => run_nc _ rfl) ?_) | (refine gx_val (fun _ => rfl) rfl (fun G χ w hM hC => run_fa _ _ _ rfl) ?_) | (refine gx_val (fun _ => rfl) rfl (fun G χ w hM hC => run_idxv _ _ _ rfl) ?_) | (refine gx_val (fun _ => rfl) rfl (fun G χ w hM hC => run_lda0 _ _ rfl (cr_st hC)) ?_) | (refine gx_val (fun _ => rfl) rfl (fun G χ w hM hC => run_bnot _ _ rfl) ?_) | (refine gx_val (fun _ => rfl) rfl (fun G χ w hM hC => run_pk2 _ _ _ rfl) ?_) | (refine gx_val (fun _ => rfl) rfl (fun G χ w hM hC => run_cvn _ _ _ rfl) ?_) | (refine gx_val (fun _ => rfl) rfl (fun G χ w hM hC => run_sumv _ _ _ _ rfl) ?_) | (refine gx_val (fun _ => rfl) rfl (fun G χ w hM hC => run_ine _ _ _ _ rfl) ?_)
      refine gx_gval (fun _ => rfl) rfl (fun χ => .pointer (χ 5).1) (gx_supp (j := 5) (by kernel_rfl) (fun x : Option Addr × Int × Nat => .pointer x.1)) (fun G χ w hM hC => ?_) ?_
      · obtain ⟨w0, bs, M, vi, vg, L, ins, gone, ms, E, Ei, Eg, hB, hS, hT, hvi, hvg, hMo, _⟩ := cr_al hC (hM 5 (by decide) (by kernel_rfl))
        exact run_ld _ _ rfl hS
      refine gx_ask 14 [_] _ rfl (fun _ => rfl) rfl (enters _ (by kernel_rfl)) (fun χ => .int .i64 (χ 5).2.1) (gx_supp (j := 5) (by kernel_rfl) (fun x : Option Addr × Int × Nat => .int .i64 x.2.1)) (fun G χ w hM hC => ?_) ?_
      · have h5 := hM 5 (by decide) (by kernel_rfl)
        obtain ⟨w0, bs, M, vi, vg, L, ins, gone, ms, E, Ei, Eg, hB, hS, hT, hvi, hvg, hMo, hl1, hl2⟩ := cr_al hC h5
        refine hp_left hS hT _ hl1 (fun w' hT' hS' => ⟨rfl, ?_⟩)
        unfold CR
        rw [if_pos h5]
        exact ⟨w0, bs, M, vi, vg, L, ins, gone, ms, E, Ei, Eg, hB, hS', hT', hvi, hvg, hMo, hl1, hl2⟩
      first | (refine gx_val (fun _ => rfl) rfl (fun G χ w hM hC => run_mv _ rfl) ?_) | (refine gx_val (fun _ => rfl) rfl (fun G χ w hM hC => run_as _ rfl) ?_) | (refine gx_val (fun _ => rfl) rfl (fun G χ w hM hC => run_nc _ rfl) ?_) | (refine gx_val (fun _ => rfl) rfl (fun G χ w hM hC => run_fa _ _ _ rfl) ?_) | (refine gx_val (fun _ => rfl) rfl (fun G χ w hM hC => run_idxv _ _ _ rfl) ?_) | (refine gx_val (fun _ => rfl) rfl (fun G χ w hM hC => run_lda0 _ _ rfl (cr_st hC)) ?_) | (refine gx_val (fun _ => rfl) rfl (fun G χ w hM hC => run_bnot _ _ rfl) ?_) | (refine gx_val (fun _ => rfl) rfl (fun G χ w hM hC => run_pk2 _ _ _ rfl) ?_) | (refine gx_val (fun _ => rfl) rfl (fun G χ w hM hC => run_cvn _ _ _ rfl) ?_) | (refine gx_val (fun _ => rfl) rfl (fun G χ w hM hC => run_sumv _ _ _ _ rfl) ?_) | (refine gx_val (fun _ => rfl) rfl (fun G χ w hM hC => run_ine _ _ _ _ rfl) ?_)
      first | (refine gx_val (fun _ => rfl) rfl (fun G χ w hM hC => run_mv _ rfl) ?_) | (refine gx_val (fun _ => rfl) rfl (fun G χ w hM hC => run_as _ rfl) ?_) | (refine gx_val (fun _ => rfl) rfl (fun G χ w hM hC => run_nc _ rfl) ?_) | (refine gx_val (fun _ => rfl) rfl (fun G χ w hM hC => run_fa _ _ _ rfl) ?_) | (refine gx_val (fun _ => rfl) rfl (fun G χ w hM hC => run_idxv _ _ _ rfl) ?_) | (refine gx_val (fun _ => rfl) rfl (fun G χ w hM hC => run_lda0 _ _ rfl (cr_st hC)) ?_) | (refine gx_val (fun _ => rfl) rfl (fun G χ w hM hC => run_bnot _ _ rfl) ?_) | (refine gx_val (fun _ => rfl) rfl (fun G χ w hM hC => run_pk2 _ _ _ rfl) ?_) | (refine gx_val (fun _ => rfl) rfl (fun G χ w hM hC => run_cvn _ _ _ rfl) ?_) | (refine gx_val (fun _ => rfl) rfl (fun G χ w hM hC => run_sumv _ _ _ _ rfl) ?_) | (refine gx_val (fun _ => rfl) rfl (fun G χ w hM hC => run_ine _ _ _ _ rfl) ?_)
      first | (refine gx_val (fun _ => rfl) rfl (fun G χ w hM hC => run_mv _ rfl) ?_) | (refine gx_val (fun _ => rfl) rfl (fun G χ w hM hC => run_as _ rfl) ?_) | (refine gx_val (fun _ => rfl) rfl (fun G χ w hM hC => run_nc _ rfl) ?_) | (refine gx_val (fun _ => rfl) rfl (fun G χ w hM hC => run_fa _ _ _ rfl) ?_) | (refine gx_val (fun _ => rfl) rfl (fun G χ w hM hC => run_idxv _ _ _ rfl) ?_) | (refine gx_val (fun _ => rfl) rfl (fun G χ w hM hC => run_lda0 _ _ rfl (cr_st hC)) ?_) | (refine gx_val (fun _ => rfl) rfl (fun G χ w hM hC => run_bnot _ _ rfl) ?_) | (refine gx_val (fun _ => rfl) rfl (fun G χ w hM hC => run_pk2 _ _ _ rfl) ?_) | (refine gx_val (fun _ => rfl) rfl (fun G χ w hM hC => run_cvn _ _ _ rfl) ?_) | (refine gx_val (fun _ => rfl) rfl (fun G χ w hM hC => run_sumv _ _ _ _ rfl) ?_) | (refine gx_val (fun _ => rfl) rfl (fun G χ w hM hC => run_ine _ _ _ _ rfl) ?_)
      refine gx_gval (fun _ => rfl) rfl (fun χ => .pointer (χ 5).1) (gx_supp (j := 5) (by kernel_rfl) (fun x : Option Addr × Int × Nat => .pointer x.1)) (fun G χ w hM hC => ?_) ?_
      · obtain ⟨w0, bs, M, vi, vg, L, ins, gone, ms, E, Ei, Eg, hB, hS, hT, hvi, hvg, hMo, _⟩ := cr_al hC (hM 5 (by decide) (by kernel_rfl))
        exact run_ld _ _ rfl hS
      refine gx_ask 15 [_] _ rfl (fun _ => rfl) rfl (enters _ (by kernel_rfl)) (fun χ => .int .i64 ((χ 5).2.2 : Int)) (gx_supp (j := 5) (by kernel_rfl) (fun x : Option Addr × Int × Nat => .int .i64 (x.2.2 : Int))) (fun G χ w hM hC => ?_) ?_
      · have h5 := hM 5 (by decide) (by kernel_rfl)
        obtain ⟨w0, bs, M, vi, vg, L, ins, gone, ms, E, Ei, Eg, hB, hS, hT, hvi, hvg, hMo, hl1, hl2⟩ := cr_al hC h5
        refine hp_len hS hT _ hl2 (fun w' hT' hS' => ⟨rfl, ?_⟩)
        unfold CR
        rw [if_pos h5]
        exact ⟨w0, bs, M, vi, vg, L, ins, gone, ms, E, Ei, Eg, hB, hS', hT', hvi, hvg, hMo, hl1, hl2⟩
      refine gx_val (fun _ => rfl) rfl (v := .int .i64 ((1 + zn : Nat) : Int)) (fun G χ w hM hC => ?_) ?_
      · obtain ⟨w0, bs, M, vi, vg, L, ins, gone, ms, E, Ei, Eg, hB, hS, hT, hvi, hvg, hMo, hl1, hl2⟩ := cr_al hC (hM 5 (by decide) (by kernel_rfl))
        have hroom := hMo.room (by omega)
        rw [hl1, hl2] at hroom
        have hsum : SumIs (χ 5).2.1 ((χ 5).2.2 : Int) ((1 + zn : Nat) : Int) := ⟨hroom, by omega, by omega⟩
        exact run_sumv _ _ _ _ rfl
      first | (refine gx_val (fun _ => rfl) rfl (fun G χ w hM hC => run_mv _ rfl) ?_) | (refine gx_val (fun _ => rfl) rfl (fun G χ w hM hC => run_as _ rfl) ?_) | (refine gx_val (fun _ => rfl) rfl (fun G χ w hM hC => run_nc _ rfl) ?_) | (refine gx_val (fun _ => rfl) rfl (fun G χ w hM hC => run_fa _ _ _ rfl) ?_) | (refine gx_val (fun _ => rfl) rfl (fun G χ w hM hC => run_idxv _ _ _ rfl) ?_) | (refine gx_val (fun _ => rfl) rfl (fun G χ w hM hC => run_lda0 _ _ rfl (cr_st hC)) ?_) | (refine gx_val (fun _ => rfl) rfl (fun G χ w hM hC => run_bnot _ _ rfl) ?_) | (refine gx_val (fun _ => rfl) rfl (fun G χ w hM hC => run_pk2 _ _ _ rfl) ?_) | (refine gx_val (fun _ => rfl) rfl (fun G χ w hM hC => run_cvn _ _ _ rfl) ?_) | (refine gx_val (fun _ => rfl) rfl (fun G χ w hM hC => run_sumv _ _ _ _ rfl) ?_) | (refine gx_val (fun _ => rfl) rfl (fun G χ w hM hC => run_ine _ _ _ _ rfl) ?_)
      first | (refine gx_val (fun _ => rfl) rfl (fun G χ w hM hC => run_mv _ rfl) ?_) | (refine gx_val (fun _ => rfl) rfl (fun G χ w hM hC => run_as _ rfl) ?_) | (refine gx_val (fun _ => rfl) rfl (fun G χ w hM hC => run_nc _ rfl) ?_) | (refine gx_val (fun _ => rfl) rfl (fun G χ w hM hC => run_fa _ _ _ rfl) ?_) | (refine gx_val (fun _ => rfl) rfl (fun G χ w hM hC => run_idxv _ _ _ rfl) ?_) | (refine gx_val (fun _ => rfl) rfl (fun G χ w hM hC => run_lda0 _ _ rfl (cr_st hC)) ?_) | (refine gx_val (fun _ => rfl) rfl (fun G χ w hM hC => run_bnot _ _ rfl) ?_) | (refine gx_val (fun _ => rfl) rfl (fun G χ w hM hC => run_pk2 _ _ _ rfl) ?_) | (refine gx_val (fun _ => rfl) rfl (fun G χ w hM hC => run_cvn _ _ _ rfl) ?_) | (refine gx_val (fun _ => rfl) rfl (fun G χ w hM hC => run_sumv _ _ _ _ rfl) ?_) | (refine gx_val (fun _ => rfl) rfl (fun G χ w hM hC => run_ine _ _ _ _ rfl) ?_)
      first | (refine gx_val (fun _ => rfl) rfl (fun G χ w hM hC => run_mv _ rfl) ?_) | (refine gx_val (fun _ => rfl) rfl (fun G χ w hM hC => run_as _ rfl) ?_) | (refine gx_val (fun _ => rfl) rfl (fun G χ w hM hC => run_nc _ rfl) ?_) | (refine gx_val (fun _ => rfl) rfl (fun G χ w hM hC => run_fa _ _ _ rfl) ?_) | (refine gx_val (fun _ => rfl) rfl (fun G χ w hM hC => run_idxv _ _ _ rfl) ?_) | (refine gx_val (fun _ => rfl) rfl (fun G χ w hM hC => run_lda0 _ _ rfl (cr_st hC)) ?_) | (refine gx_val (fun _ => rfl) rfl (fun G χ w hM hC => run_bnot _ _ rfl) ?_) | (refine gx_val (fun _ => rfl) rfl (fun G χ w hM hC => run_pk2 _ _ _ rfl) ?_) | (refine gx_val (fun _ => rfl) rfl (fun G χ w hM hC => run_cvn _ _ _ rfl) ?_) | (refine gx_val (fun _ => rfl) rfl (fun G χ w hM hC => run_sumv _ _ _ _ rfl) ?_) | (refine gx_val (fun _ => rfl) rfl (fun G χ w hM hC => run_ine _ _ _ _ rfl) ?_)
      first | (refine gx_val (fun _ => rfl) rfl (fun G χ w hM hC => run_mv _ rfl) ?_) | (refine gx_val (fun _ => rfl) rfl (fun G χ w hM hC => run_as _ rfl) ?_) | (refine gx_val (fun _ => rfl) rfl (fun G χ w hM hC => run_nc _ rfl) ?_) | (refine gx_val (fun _ => rfl) rfl (fun G χ w hM hC => run_fa _ _ _ rfl) ?_) | (refine gx_val (fun _ => rfl) rfl (fun G χ w hM hC => run_idxv _ _ _ rfl) ?_) | (refine gx_val (fun _ => rfl) rfl (fun G χ w hM hC => run_lda0 _ _ rfl (cr_st hC)) ?_) | (refine gx_val (fun _ => rfl) rfl (fun G χ w hM hC => run_bnot _ _ rfl) ?_) | (refine gx_val (fun _ => rfl) rfl (fun G χ w hM hC => run_pk2 _ _ _ rfl) ?_) | (refine gx_val (fun _ => rfl) rfl (fun G χ w hM hC => run_cvn _ _ _ rfl) ?_) | (refine gx_val (fun _ => rfl) rfl (fun G χ w hM hC => run_sumv _ _ _ _ rfl) ?_) | (refine gx_val (fun _ => rfl) rfl (fun G χ w hM hC => run_ine _ _ _ _ rfl) ?_)
      first | (refine gx_val (fun _ => rfl) rfl (fun G χ w hM hC => run_mv _ rfl) ?_) | (refine gx_val (fun _ => rfl) rfl (fun G χ w hM hC => run_as _ rfl) ?_) | (refine gx_val (fun _ => rfl) rfl (fun G χ w hM hC => run_nc _ rfl) ?_) | (refine gx_val (fun _ => rfl) rfl (fun G χ w hM hC => run_fa _ _ _ rfl) ?_) | (refine gx_val (fun _ => rfl) rfl (fun G χ w hM hC => run_idxv _ _ _ rfl) ?_) | (refine gx_val (fun _ => rfl) rfl (fun G χ w hM hC => run_lda0 _ _ rfl (cr_st hC)) ?_) | (refine gx_val (fun _ => rfl) rfl (fun G χ w hM hC => run_bnot _ _ rfl) ?_) | (refine gx_val (fun _ => rfl) rfl (fun G χ w hM hC => run_pk2 _ _ _ rfl) ?_) | (refine gx_val (fun _ => rfl) rfl (fun G χ w hM hC => run_cvn _ _ _ rfl) ?_) | (refine gx_val (fun _ => rfl) rfl (fun G χ w hM hC => run_sumv _ _ _ _ rfl) ?_) | (refine gx_val (fun _ => rfl) rfl (fun G χ w hM hC => run_ine _ _ _ _ rfl) ?_)
      intro χ G w hM hC
      have hMA2 := (cr_al hC (hM 5 (by decide))).ma
      clear hMA
      have hMA := hMA2
      clear hMA2 hC hM
      go_wp2_with (first | go_skip | go_skip | (refine wpList_is (.build _ _) rfl ?_; go_must (refine wpList_stp (by kernel_rfl) (stp_val (run_bd _ _ rfl) ?_))) | (refine wpList_is (.call { callee := .builtin .clear, args := #[_], argTypes := #[_] }) rfl ?_; go_must (refine wpList_stp (by kernel_rfl) (stp_cl _ _ rfl hS (by decide) ?_)); clear hS; intro w hS) | (refine wpList_is (.load _ _) rfl ?_; go_must (first | refine wpList_stp (by kernel_rfl) (stp_val (run_ld _ _ rfl hS) ?_) | refine wpList_stp (by kernel_rfl) (stp_val (run_lda _ _ rfl hS) ?_) | refine wpList_stp (by kernel_rfl) (stp_val (run_ld0 _ _ rfl hS) ?_) | refine wpList_stp (by kernel_rfl) (stp_val (run_lda0 _ _ rfl hS) ?_))) | (refine wpList_is (.store _ _ _) rfl ?_; go_must (first | refine wpList_stp (by kernel_rfl) (stp_st _ _ _ rfl hS ?_) | refine wpList_stp (by kernel_rfl) (stp_sta _ _ _ rfl hS ?_)); clear hS; intro w hS) | (refine wpList_is (.alloc _) rfl ?_; go_must (refine wpList_stp (by kernel_rfl) (stp_al _ rfl hS ?_)); clear hS; intro bN w hbN hS) | (refine wpList_is (.box _ _) rfl ?_; go_must (refine wpList_stp (by kernel_rfl) (stp_bx _ _ rfl hS ?_)); clear hS; intro bN w hbN hS) | (refine wpList_is (.binOp .eql _ _ (.const (.slice none _ _)) _) rfl ?_; refine wpList_stp (by kernel_rfl) (stp_val (run_nse _ _ _ rfl) ?_)) | (refine wpList_is (.binOp .neq _ _ (.const (.slice none _ _)) _) rfl ?_; refine wpList_stp (by kernel_rfl) (stp_val (run_nsn _ _ _ rfl) ?_)))
      go_roundw
      case rel => exact ⟨i + 1, (), by omega, by go_num, hMA⟩
      case measure => simp [intOf]; omega
    · obtain rfl : i = n := by omega
      clear hS
      obtain ⟨w0, bs, M, ph, vi, vg, L, ins, gone, ms, E, Ei, Eg, hB, hS, hT, hvi, hvg, hMo⟩ := hMA
      rw [List.append_nil] at hS
      have hone := hvi.one
      have hone2 := hvg.one
      have hst0 : ∀ i, i < (tbH L).length → ((tbH L).getD i (0, 0)).1 = 0 ∨ ((tbH L).getD i (0, 0)).1 = 1 := fun i hi => by
        rw [tbH_len] at hi
        have hin : i < 1 + zn := by have := hMo.len; omega
        rw [tbH_get]
        have h1 := (hMo.gn hin).2.2
        have h2 := hMo.live (by omega) i hin
        rcases h1 with h | h | h
        · exact .inl h
        · exact .inr h
        · exact absurd h h2
      obtain ⟨m, hm⟩ : ∃ m, (alH (HL L)).length = m := ⟨_, rfl⟩
      have hm' := Lib.hid hm
      have hmk : m ≤ 120 := by rw [← hm, hMo.cnt]; have := hMo.c1; omega
      clear hm hlt
      go_wp2_with (first | go_skip | (go_at_call 16; go_must (refine hp_all hS hT _ rfl ?_); clear hS; intro v7 E7 w hL hS; have hone7 := hL.one; have hln7 := hL.len hm'.out; unfold Ret) | go_skip | (refine wpList_is (.call { callee := .builtin .len, args := #[_], argTypes := #[_] }) rfl ?_; refine wpList_stp (by kernel_rfl) (stp_val (run_lenv _ _ rfl) ?_)) | (refine wpList_is (.slice _ _ none (some _) none) rfl ?_; refine wpList_stp (by kernel_rfl) (stp_val (run_prev _ _ _ rfl) ?_)) | (refine wpList_is (.indexAddr _ _ _) rfl ?_; refine wpList_stp (by kernel_rfl) (stp_val (run_idxv _ _ _ rfl) ?_)) | go_skip | (refine wpList_is (.build _ _) rfl ?_; go_must (refine wpList_stp (by kernel_rfl) (stp_val (run_bd _ _ rfl) ?_))) | (refine wpList_is (.call { callee := .builtin .clear, args := #[_], argTypes := #[_] }) rfl ?_; go_must (refine wpList_stp (by kernel_rfl) (stp_cl _ _ rfl hS (by decide) ?_)); clear hS; intro w hS) | (refine wpList_is (.load _ _) rfl ?_; go_must (first | refine wpList_stp (by kernel_rfl) (stp_val (run_ld _ _ rfl hS) ?_) | refine wpList_stp (by kernel_rfl) (stp_val (run_lda _ _ rfl hS) ?_) | refine wpList_stp (by kernel_rfl) (stp_val (run_ld0 _ _ rfl hS) ?_) | refine wpList_stp (by kernel_rfl) (stp_val (run_lda0 _ _ rfl hS) ?_))) | (refine wpList_is (.store _ _ _) rfl ?_; go_must (first | refine wpList_stp (by kernel_rfl) (stp_st _ _ _ rfl hS ?_) | refine wpList_stp (by kernel_rfl) (stp_sta _ _ _ rfl hS ?_)); clear hS; intro w hS) | (refine wpList_is (.alloc _) rfl ?_; go_must (refine wpList_stp (by kernel_rfl) (stp_al _ rfl hS ?_)); clear hS; intro bN w hbN hS) | (refine wpList_is (.box _ _) rfl ?_; go_must (refine wpList_stp (by kernel_rfl) (stp_bx _ _ rfl hS ?_)); clear hS; intro bN w hbN hS) | (refine wpList_is (.binOp .eql _ _ (.const (.slice none _ _)) _) rfl ?_; refine wpList_stp (by kernel_rfl) (stp_val (run_nse _ _ _ rfl) ?_)) | (refine wpList_is (.binOp .neq _ _ (.const (.slice none _ _)) _) rfl ?_; refine wpList_stp (by kernel_rfl) (stp_val (run_nsn _ _ _ rfl) ?_)))
      have hS : St w0 bs _ (E7 ++ (E ++ (moE bm ph M vi vg :: (Ei ++ (Eg ++ ms.map meE))))) := hS.pick
      obtain ⟨wo, hwo⟩ : ∃ wo : World, wo = w := ⟨_, rfl⟩
      clear hwo
      go_loopw [8] (fun s0 wz => ∃ (lo : Nat) (_ : Unit), lo ≤ m ∧ s0 = .int .i64 lo ∧ (∀ i, i < lo → ((tkL (some (tbH L))).getD i (0, 0)).1 = (i : Int)) ∧ St w0 bs wz (E7 ++ (E ++ (moE bm ph M vi vg :: (Ei ++ (Eg ++ ms.map meE)))))) (fun s0 _ => m - (intOf s0).toNat)
      case atStart => exact ⟨0, (), Nat.zero_le _, rfl, fun i hi => absurd hi (by omega), hS⟩
      case round =>
        clear hS
        obtain ⟨lo, _, hlo1, rfl, hpre, hS⟩ := hrel
        by_cases hlm : lo < m
        · have d1 : decide ((lo : Int) < (m : Int)) = true := decide_eq_true (by omega)
          have d1' : decide (lo < m) = true := decide_eq_true hlm
          obtain ⟨⟨s1, g1⟩, hx⟩ : ∃ x, (alH (HL L)).getD lo (0, 0) = x := ⟨_, rfl⟩
          have hql : lo < (alH (HL L)).length := by rw [hm'.out]; exact hlm
          obtain ⟨ga, spa, ia, hHa, hca⟩ := hL.at hql hx
          have ia := ia lo rfl
          simp only at hca
          have ca0 : CellAt (blk [] slf (alH (HL L)) spa) (lo * 2) (.int .i64 s1) := ⟨by have := hca.h 0 (by decide); simpa using this⟩
          have hx1 : ((tkL (some (tbH L))).getD lo (0, 0)).1 = s1 := by
            have : (tkL (some (tbH L))).getD lo (0, 0) = (s1, g1) := hx
            rw [this]
          have hx1' := Lib.hid hx1
          clear hx hx1
          by_cases hs : s1 = (lo : Int)
          · have d2 : (s1 == (lo : Int)) = true := by rw [beq_iff_eq]; exact hs
            have d2' : decide (s1 = (lo : Int)) = true := decide_eq_true hs
            have hs' := Lib.hid hs
            clear hs
            go_wp2_with (first | go_skip | go_skip | (refine wpList_is (.call { callee := .builtin .len, args := #[_], argTypes := #[_] }) rfl ?_; refine wpList_stp (by kernel_rfl) (stp_val (run_lenv _ _ rfl) ?_)) | (refine wpList_is (.slice _ _ none (some _) none) rfl ?_; refine wpList_stp (by kernel_rfl) (stp_val (run_prev _ _ _ rfl) ?_)) | (refine wpList_is (.indexAddr _ _ _) rfl ?_; refine wpList_stp (by kernel_rfl) (stp_val (run_idxv _ _ _ rfl) ?_)) | go_skip | (refine wpList_is (.build _ _) rfl ?_; go_must (refine wpList_stp (by kernel_rfl) (stp_val (run_bd _ _ rfl) ?_))) | (refine wpList_is (.call { callee := .builtin .clear, args := #[_], argTypes := #[_] }) rfl ?_; go_must (refine wpList_stp (by kernel_rfl) (stp_cl _ _ rfl hS (by decide) ?_)); clear hS; intro w hS) | (refine wpList_is (.load _ _) rfl ?_; go_must (first | refine wpList_stp (by kernel_rfl) (stp_val (run_ld _ _ rfl hS) ?_) | refine wpList_stp (by kernel_rfl) (stp_val (run_lda _ _ rfl hS) ?_) | refine wpList_stp (by kernel_rfl) (stp_val (run_ld0 _ _ rfl hS) ?_) | refine wpList_stp (by kernel_rfl) (stp_val (run_lda0 _ _ rfl hS) ?_))) | (refine wpList_is (.store _ _ _) rfl ?_; go_must (first | refine wpList_stp (by kernel_rfl) (stp_st _ _ _ rfl hS ?_) | refine wpList_stp (by kernel_rfl) (stp_sta _ _ _ rfl hS ?_)); clear hS; intro w hS) | (refine wpList_is (.alloc _) rfl ?_; go_must (refine wpList_stp (by kernel_rfl) (stp_al _ rfl hS ?_)); clear hS; intro bN w hbN hS) | (refine wpList_is (.box _ _) rfl ?_; go_must (refine wpList_stp (by kernel_rfl) (stp_bx _ _ rfl hS ?_)); clear hS; intro bN w hbN hS) | (refine wpList_is (.binOp .eql _ _ (.const (.slice none _ _)) _) rfl ?_; refine wpList_stp (by kernel_rfl) (stp_val (run_nse _ _ _ rfl) ?_)) | (refine wpList_is (.binOp .neq _ _ (.const (.slice none _ _)) _) rfl ?_; refine wpList_stp (by kernel_rfl) (stp_val (run_nsn _ _ _ rfl) ?_)))
            go_roundw
            case rel =>
              refine ⟨lo + 1, (), by omega, by go_num, fun i hi => ?_, hS.pick⟩
              by_cases e : i = lo
              · rw [e, hx1'.out]; exact hs'.out
              · exact hpre i (by omega)
            case measure => simp [intOf]; omega
          · have d2 : (s1 == (lo : Int)) = false := by rw [beq_eq_false_iff_ne]; exact hs
            have d2' : decide (s1 = (lo : Int)) = false := decide_eq_false hs
            have hex : lo = (tkL (some (tbH L))).length ∨ ((tkL (some (tbH L))).getD lo (0, 0)).1 ≠ (lo : Int) := .inr (by rw [hx1'.out]; exact hs)
            cases ht : tkI (some (tbH L)) with
            | none =>
              obtain ⟨h1, h2, h3, h5⟩ := hMo.full ht 1 false rfl
              have h1' := Lib.hid h1
              have h2' := Lib.hid h2
              have h3' := Lib.hid h3
              have h5' := Lib.hid h5
              clear ht h1 h2 h3 h5
              go_wp2_with (first | go_skip | (go_at_call 14; refine hp_left hS hT 0 h5'.out ?_; clear hS; intro w _ hS; unfold Ret) | (go_at_call 17; refine hp_make hS hT 1 false _ (0, 0) 4 h1'.out h2'.out h3'.out ?_; clear hS hT; intro E w hT hS; unfold Ret) | (go_at_call 11; refine works_ok hS ?_; clear hS; intro w hS; unfold Ret) | go_skip | (refine wpList_is (.call { callee := .builtin .len, args := #[_], argTypes := #[_] }) rfl ?_; refine wpList_stp (by kernel_rfl) (stp_val (run_lenv _ _ rfl) ?_)) | (refine wpList_is (.slice _ _ none (some _) none) rfl ?_; refine wpList_stp (by kernel_rfl) (stp_val (run_prev _ _ _ rfl) ?_)) | (refine wpList_is (.indexAddr _ _ _) rfl ?_; refine wpList_stp (by kernel_rfl) (stp_val (run_idxv _ _ _ rfl) ?_)) | go_skip | (refine wpList_is (.build _ _) rfl ?_; go_must (refine wpList_stp (by kernel_rfl) (stp_val (run_bd _ _ rfl) ?_))) | (refine wpList_is (.call { callee := .builtin .clear, args := #[_], argTypes := #[_] }) rfl ?_; go_must (refine wpList_stp (by kernel_rfl) (stp_cl _ _ rfl hS (by decide) ?_)); clear hS; intro w hS) | (refine wpList_is (.load _ _) rfl ?_; go_must (first | refine wpList_stp (by kernel_rfl) (stp_val (run_ld _ _ rfl hS) ?_) | refine wpList_stp (by kernel_rfl) (stp_val (run_lda _ _ rfl hS) ?_) | refine wpList_stp (by kernel_rfl) (stp_val (run_ld0 _ _ rfl hS) ?_) | refine wpList_stp (by kernel_rfl) (stp_val (run_lda0 _ _ rfl hS) ?_))) | (refine wpList_is (.store _ _ _) rfl ?_; go_must (first | refine wpList_stp (by kernel_rfl) (stp_st _ _ _ rfl hS ?_) | refine wpList_stp (by kernel_rfl) (stp_sta _ _ _ rfl hS ?_)); clear hS; intro w hS) | (refine wpList_is (.alloc _) rfl ?_; go_must (refine wpList_stp (by kernel_rfl) (stp_al _ rfl hS ?_)); clear hS; intro bN w hbN hS) | (refine wpList_is (.box _ _) rfl ?_; go_must (refine wpList_stp (by kernel_rfl) (stp_bx _ _ rfl hS ?_)); clear hS; intro bN w hbN hS) | (refine wpList_is (.binOp .eql _ _ (.const (.slice none _ _)) _) rfl ?_; refine wpList_stp (by kernel_rfl) (stp_val (run_nse _ _ _ rfl) ?_)) | (refine wpList_is (.binOp .neq _ _ (.const (.slice none _ _)) _) rfl ?_; refine wpList_stp (by kernel_rfl) (stp_val (run_nsn _ _ _ rfl) ?_)))
              exact hR _ (hB.all hS)
            | some j =>
              obtain rfl : lo = j := low_is (L := tbH L) hst0 ht hpre (by rw [show (tkL (some (tbH L))).length = m from hm'.out]; exact hlo1) hex
              obtain ⟨L1, L2, g, h1, h2, h3, h4, h5, h6, h7, h8⟩ := room_step hMo (by omega) ht
              obtain ⟨lf, hlf⟩ : ∃ q, lfH (HL L) = q := ⟨_, rfl⟩
              rw [hlf] at h4 h5 h8
              have hlf3 : 0 ≤ lf ∧ lf ≤ 256 := by
                have := ctN_bd hMo.w.tb 0
                rw [← hlf]; exact this
              have dl : (lf == 0) = false := by rw [beq_eq_false_iff_ne]; omega
              have dl' : decide (lf = 0) = false := decide_eq_false (by omega)
              have df : DifIs lf 1 (lf - 1) := ⟨rfl, by omega, by omega⟩
              have h1' := Lib.hid h1
              have h2' := Lib.hid h2
              have h3' := Lib.hid h3
              have h4' := Lib.hid h4
              have h6' := Lib.hid h6
              have h7' := Lib.hid h7
              have h8' := Lib.hid h8
              have hlf' := Lib.hid hlf
              clear ht h1 h2 h3 h4 h6 h7 h8 hlf
              go_wp2_with (first | go_skip | (go_at_call 14; refine hp_left hS hT lf hlf'.out ?_; clear hS; intro w _ hS; unfold Ret) | (go_at_call 17; refine hp_make hS hT 1 false _ ((lo : Int), g) 0 h1'.out h2'.out h3'.out ?_; clear hS hT; intro E w hT hS; unfold Ret) | (refine wpList_is (.alloc 38) rfl ?_; go_must (refine wpList_stp (by kernel_rfl) (stp_al _ rfl hS ?_)); clear hS; intro b10 w _ hS) | go_skip | (refine wpList_is (.call { callee := .builtin .len, args := #[_], argTypes := #[_] }) rfl ?_; refine wpList_stp (by kernel_rfl) (stp_val (run_lenv _ _ rfl) ?_)) | (refine wpList_is (.slice _ _ none (some _) none) rfl ?_; refine wpList_stp (by kernel_rfl) (stp_val (run_prev _ _ _ rfl) ?_)) | (refine wpList_is (.indexAddr _ _ _) rfl ?_; refine wpList_stp (by kernel_rfl) (stp_val (run_idxv _ _ _ rfl) ?_)) | go_skip | (refine wpList_is (.build _ _) rfl ?_; go_must (refine wpList_stp (by kernel_rfl) (stp_val (run_bd _ _ rfl) ?_))) | (refine wpList_is (.call { callee := .builtin .clear, args := #[_], argTypes := #[_] }) rfl ?_; go_must (refine wpList_stp (by kernel_rfl) (stp_cl _ _ rfl hS (by decide) ?_)); clear hS; intro w hS) | (refine wpList_is (.load _ _) rfl ?_; go_must (first | refine wpList_stp (by kernel_rfl) (stp_val (run_ld _ _ rfl hS) ?_) | refine wpList_stp (by kernel_rfl) (stp_val (run_lda _ _ rfl hS) ?_) | refine wpList_stp (by kernel_rfl) (stp_val (run_ld0 _ _ rfl hS) ?_) | refine wpList_stp (by kernel_rfl) (stp_val (run_lda0 _ _ rfl hS) ?_))) | (refine wpList_is (.store _ _ _) rfl ?_; go_must (first | refine wpList_stp (by kernel_rfl) (stp_st _ _ _ rfl hS ?_) | refine wpList_stp (by kernel_rfl) (stp_sta _ _ _ rfl hS ?_)); clear hS; intro w hS) | (refine wpList_is (.alloc _) rfl ?_; go_must (refine wpList_stp (by kernel_rfl) (stp_al _ rfl hS ?_)); clear hS; intro bN w hbN hS) | (refine wpList_is (.box _ _) rfl ?_; go_must (refine wpList_stp (by kernel_rfl) (stp_bx _ _ rfl hS ?_)); clear hS; intro bN w hbN hS) | (refine wpList_is (.binOp .eql _ _ (.const (.slice none _ _)) _) rfl ?_; refine wpList_stp (by kernel_rfl) (stp_val (run_nse _ _ _ rfl) ?_)) | (refine wpList_is (.binOp .neq _ _ (.const (.slice none _ _)) _) rfl ?_; refine wpList_stp (by kernel_rfl) (stp_val (run_nsn _ _ _ rfl) ?_)))
              have hS : St w0 bs _ (E ++ (⟨b10, #[.int .i64 lo, .int .u32 g], 38, true⟩ :: (moE bm ph M vi vg :: (Ei ++ (Eg ++ ms.map meE))))) := hS.pick
              refine region_itemsE [⟨(undef, E), [(13, fun _ x => HA ph (HL L1) x.2), (24, fun _ x => HA ph (HL L2) x.2), (32, fun _ x => HA ph (HL L2) x.2)]⟩] (⟨b10, #[.int .i64 lo, .int .u32 g], 38, true⟩ :: (moE bm ph M vi vg :: (Ei ++ (Eg ++ ms.map meE)))) (E ++ (⟨b10, #[.int .i64 lo, .int .u32 g], 38, true⟩ :: (moE bm ph M vi vg :: (Ei ++ (Eg ++ ms.map meE))))) (by simp) hS (by kernel_rfl) (by kernel_rfl) ?_
              refine fx_val (fun _ => rfl) rfl (fun χ w hw => run_mv _ rfl) ?_
              refine fx_val (fun _ => rfl) rfl (fun χ w hw => run_ieq _ _ _ _ rfl) ?_
              refine fx_val (fun _ => rfl) rfl (fun χ w hw => run_mv _ rfl) ?_
              refine fx_val (fun _ => rfl) rfl (fun χ w hw => run_fa _ _ _ rfl) ?_
              refine fx_val (fun _ => rfl) rfl (fun χ w hw => run_ld _ _ rfl hw) ?_
              refine fx_val (fun _ => rfl) rfl (fun χ w hw => run_mv _ rfl) ?_
              refine fx_val (fun _ => rfl) rfl (fun χ w hw => run_ieq _ _ _ _ rfl) ?_
              refine fx_val (fun _ => rfl) rfl (fun χ w hw => run_pk1 _ _ _ rfl) ?_
              refine fx_val (fun _ => rfl) rfl (fun χ w hw => run_mv _ rfl) ?_
              refine fx_val (fun _ => rfl) rfl (fun χ w hw => run_mv _ rfl) ?_
              refine fx_val (fun _ => rfl) rfl (fun χ w hw => run_nc _ rfl) ?_
              refine fx_val (fun _ => rfl) rfl (fun χ w hw => run_fa _ _ _ rfl) ?_
              refine fx_val (fun _ => rfl) rfl (fun χ w hw => run_ld _ _ rfl hw) ?_
              refine fx_turn 0 0 rfl rfl (by kernel_rfl) (by kernel_rfl) (by kernel_rfl) 14 [_] _ rfl (fun _ => rfl) (enters _ (by kernel_rfl)) (fun _ => .int .i64 (lf - 1)) ?_ ?_
              · intro χ X w _ hS
                exact hp_left (show St w0 bs w (E ++ (X ++ _)) from hS) hT _ h4'.out (fun w' hT' hS' => ⟨(undef, E), rfl, hT', show St w0 bs w' (E ++ (X ++ _)) from hS'.pick⟩)
              refine fx_val (fun _ => rfl) rfl (fun χ w hw => run_mv _ rfl) ?_
              first | (refine fx_val (fun _ => rfl) rfl (fun χ w hw => run_difv _ _ _ _ rfl) ?_) | (first | (refine fx_val (fun _ => rfl) rfl (fun χ w hw => run_mv _ rfl) ?_) | (refine fx_val (fun _ => rfl) rfl (fun χ w hw => run_as _ rfl) ?_) | (refine fx_val (fun _ => rfl) rfl (fun χ w hw => run_fa _ _ _ rfl) ?_) | (refine fx_val (fun _ => rfl) rfl (fun χ w hw => run_ld _ _ rfl hw) ?_) | (refine fx_val (fun _ => rfl) rfl (fun χ w hw => run_lda _ _ rfl hw) ?_) | (refine fx_val (fun _ => rfl) rfl (fun χ w hw => run_ld0 _ _ rfl hw) ?_) | (refine fx_val (fun _ => rfl) rfl (fun χ w hw => run_lda0 _ _ rfl hw) ?_) | (refine fx_val (fun _ => rfl) rfl (fun χ w hw => run_ine _ _ _ _ rfl) ?_) | (refine fx_val (fun _ => rfl) rfl (fun χ w hw => run_aeq _ _ _ _ rfl) ?_) | (refine fx_val (fun _ => rfl) rfl (fun χ w hw => run_ane _ _ _ _ rfl) ?_) | (refine fx_val (fun _ => rfl) rfl (fun χ w hw => run_lenv _ _ rfl) ?_) | (refine fx_val (fun _ => rfl) rfl (fun χ w hw => run_idxv _ _ _ rfl) ?_) | (refine fx_val (fun _ => rfl) rfl (fun χ w hw => run_pk1 _ _ _ rfl) ?_) | (refine fx_val (fun _ => rfl) rfl (fun χ w hw => run_pk2 _ _ _ rfl) ?_) | (refine fx_val (fun _ => rfl) rfl (fun χ w hw => run_nse _ _ _ rfl) ?_) | (refine fx_val (fun _ => rfl) rfl (fun χ w hw => run_nsn _ _ _ rfl) ?_) | (refine fx_val (fun _ => rfl) rfl (fun χ w hw => run_bd _ _ rfl) ?_) | (refine fx_val (fun _ => rfl) rfl (fun χ w hw => run_ieq _ _ _ _ rfl) ?_) | (refine fx_val (fun _ => rfl) rfl (fun χ w hw => run_beq _ _ _ _ rfl) ?_) | (refine fx_val (fun _ => rfl) rfl (fun χ w hw => run_bne _ _ _ _ rfl) ?_) | (refine fx_val (fun _ => rfl) rfl (fun χ w hw => run_bnot _ _ rfl) ?_) | (refine fx_val (fun _ => rfl) rfl (fun χ w hw => run_ext _ _ rfl) ?_) | (refine fx_val (fun _ => rfl) rfl (fun χ w hw => run_ilit _ _ _ _ rfl) ?_) | (refine fx_val (fun _ => rfl) rfl (fun χ w hw => run_cvn _ _ _ rfl) ?_) | (refine fx_val (fun _ => rfl) rfl (fun χ w hw => run_remn _ _ _ _ rfl (by decide)) ?_) | (refine fx_val (fun _ => rfl) rfl (fun χ w hw => run_nc _ rfl) ?_) | (refine fx_val (fun _ => rfl) rfl (fun χ w hw => run_inlit _ _ _ _ rfl) ?_) | (refine fx_skip (fun _ => rfl) ?_))
              refine fx_val (fun _ => rfl) rfl (fun χ w hw => run_ieq _ _ _ _ rfl) ?_
              refine fx_val (fun _ => rfl) rfl (fun χ w hw => run_pk1 _ _ _ rfl) ?_
              refine fx_val (fun _ => rfl) rfl (fun χ w hw => run_mv _ rfl) ?_
              refine fx_val (fun _ => rfl) rfl (fun χ w hw => run_mv _ rfl) ?_
              refine fx_val (fun _ => rfl) rfl (fun χ w hw => run_nc _ rfl) ?_
              refine fx_val (fun _ => rfl) rfl (fun χ w hw => run_fa _ _ _ rfl) ?_
              refine fx_val (fun _ => rfl) rfl (fun χ w hw => run_ld _ _ rfl hw) ?_
              refine fx_val (fun _ => rfl) rfl (fun χ w hw => run_lda _ _ rfl hw) ?_
              refine fx_turn 0 1 rfl rfl (by kernel_rfl) (by kernel_rfl) (by kernel_rfl) 18 [_, _] _ rfl (fun _ => rfl) (enters _ (by kernel_rfl)) (fun _ => .int .i64 0) ?_ ?_
              · rintro χ X w ⟨hT1, _⟩ hS
                have hT1 : HA ph (HL L1) (χ 13).2 := hT1
                exact hp_free (show St w0 bs w ((χ 13).2 ++ (X ++ _)) from hS) hT1 lo g _ 0 h6'.out h7'.out (fun E' w' hT' hS' => ⟨(undef, E'), rfl, hT', show St w0 bs w' (E' ++ (X ++ _)) from hS'.pick⟩)
              refine fx_val (fun _ => rfl) rfl (fun χ w hw => run_ieq _ _ _ _ rfl) ?_
              refine fx_val (fun _ => rfl) rfl (fun χ w hw => run_pk1 _ _ _ rfl) ?_
              refine fx_val (fun _ => rfl) rfl (fun χ w hw => run_mv _ rfl) ?_
              refine fx_val (fun _ => rfl) rfl (fun χ w hw => run_mv _ rfl) ?_
              refine fx_val (fun _ => rfl) rfl (fun χ w hw => run_nc _ rfl) ?_
              refine fx_val (fun _ => rfl) rfl (fun χ w hw => run_fa _ _ _ rfl) ?_
              refine fx_val (fun _ => rfl) rfl (fun χ w hw => run_ld _ _ rfl hw) ?_
              refine fx_turn 0 2 rfl rfl (by kernel_rfl) (by kernel_rfl) (by kernel_rfl) 14 [_] _ rfl (fun _ => rfl) (enters _ (by kernel_rfl)) (fun _ => .int .i64 lf) ?_ ?_
              · rintro χ X w ⟨_, hT1, _⟩ hS
                have hT1 : HA ph (HL L2) (χ 24).2 := hT1
                exact hp_left (show St w0 bs w ((χ 24).2 ++ (X ++ _)) from hS) hT1 _ h8'.out (fun w' hT' hS' => ⟨(undef, (χ 24).2), rfl, hT', show St w0 bs w' ((χ 24).2 ++ (X ++ _)) from hS'.pick⟩)
              refine fx_val (fun _ => rfl) rfl (fun χ w hw => run_mv _ rfl) ?_
              refine fx_val (fun _ => rfl) rfl (fun χ w hw => run_ieq _ _ _ _ rfl) ?_
              refine fx_val (fun _ => rfl) rfl (fun χ w hw => run_pk1 _ _ _ rfl) ?_
              refine fx_val (fun _ => rfl) rfl (fun χ w hw => run_mv _ rfl) ?_
              refine fx_ask 11 [] _ rfl (fun _ => rfl) rfl (enters _ (by kernel_rfl)) (.bool true) (fun X w hS => works_ok hS (fun w' hS' => ⟨rfl, hS'⟩)) ?_
              refine fx_val (fun _ => rfl) rfl (fun χ w hw => run_pk1 _ _ _ rfl) ?_
              refine fx_val (fun _ => rfl) rfl (fun χ w hw => run_as _ rfl) ?_
              refine fx_end rfl ?_
              intro χ w hok hS
              replace hS := st_drop hS
              clear hok
              go_wp2_with (first | go_skip | go_skip | (refine wpList_is (.build _ _) rfl ?_; go_must (refine wpList_stp (by kernel_rfl) (stp_val (run_bd _ _ rfl) ?_))) | (refine wpList_is (.call { callee := .builtin .clear, args := #[_], argTypes := #[_] }) rfl ?_; go_must (refine wpList_stp (by kernel_rfl) (stp_cl _ _ rfl hS (by decide) ?_)); clear hS; intro w hS) | (refine wpList_is (.load _ _) rfl ?_; go_must (first | refine wpList_stp (by kernel_rfl) (stp_val (run_ld _ _ rfl hS) ?_) | refine wpList_stp (by kernel_rfl) (stp_val (run_lda _ _ rfl hS) ?_) | refine wpList_stp (by kernel_rfl) (stp_val (run_ld0 _ _ rfl hS) ?_) | refine wpList_stp (by kernel_rfl) (stp_val (run_lda0 _ _ rfl hS) ?_))) | (refine wpList_is (.store _ _ _) rfl ?_; go_must (first | refine wpList_stp (by kernel_rfl) (stp_st _ _ _ rfl hS ?_) | refine wpList_stp (by kernel_rfl) (stp_sta _ _ _ rfl hS ?_)); clear hS; intro w hS) | (refine wpList_is (.alloc _) rfl ?_; go_must (refine wpList_stp (by kernel_rfl) (stp_al _ rfl hS ?_)); clear hS; intro bN w hbN hS) | (refine wpList_is (.box _ _) rfl ?_; go_must (refine wpList_stp (by kernel_rfl) (stp_bx _ _ rfl hS ?_)); clear hS; intro bN w hbN hS) | (refine wpList_is (.binOp .eql _ _ (.const (.slice none _ _)) _) rfl ?_; refine wpList_stp (by kernel_rfl) (stp_val (run_nse _ _ _ rfl) ?_)) | (refine wpList_is (.binOp .neq _ _ (.const (.slice none _ _)) _) rfl ?_; refine wpList_stp (by kernel_rfl) (stp_val (run_nsn _ _ _ rfl) ?_)))
              exact hR _ (hB.all hS)
        · have d1 : decide ((lo : Int) < (m : Int)) = false := decide_eq_false (by omega)
          have d1' : decide (lo < m) = false := decide_eq_false hlm
          have hex : lo = (tkL (some (tbH L))).length ∨ ((tkL (some (tbH L))).getD lo (0, 0)).1 ≠ (lo : Int) := .inl (by
            have : (tkL (some (tbH L))).length = m := hm'.out
            omega)
          cases ht : tkI (some (tbH L)) with
          | none =>
            obtain ⟨h1, h2, h3, h5⟩ := hMo.full ht 1 false rfl
            have h1' := Lib.hid h1
            have h2' := Lib.hid h2
            have h3' := Lib.hid h3
            have h5' := Lib.hid h5
            clear ht h1 h2 h3 h5
            go_wp2_with (first | go_skip | (go_at_call 14; refine hp_left hS hT 0 h5'.out ?_; clear hS; intro w _ hS; unfold Ret) | (go_at_call 17; refine hp_make hS hT 1 false _ (0, 0) 4 h1'.out h2'.out h3'.out ?_; clear hS hT; intro E w hT hS; unfold Ret) | (go_at_call 11; refine works_ok hS ?_; clear hS; intro w hS; unfold Ret) | go_skip | (refine wpList_is (.call { callee := .builtin .len, args := #[_], argTypes := #[_] }) rfl ?_; refine wpList_stp (by kernel_rfl) (stp_val (run_lenv _ _ rfl) ?_)) | (refine wpList_is (.slice _ _ none (some _) none) rfl ?_; refine wpList_stp (by kernel_rfl) (stp_val (run_prev _ _ _ rfl) ?_)) | (refine wpList_is (.indexAddr _ _ _) rfl ?_; refine wpList_stp (by kernel_rfl) (stp_val (run_idxv _ _ _ rfl) ?_)) | go_skip | (refine wpList_is (.build _ _) rfl ?_; go_must (refine wpList_stp (by kernel_rfl) (stp_val (run_bd _ _ rfl) ?_))) | (refine wpList_is (.call { callee := .builtin .clear, args := #[_], argTypes := #[_] }) rfl ?_; go_must (refine wpList_stp (by kernel_rfl) (stp_cl _ _ rfl hS (by decide) ?_)); clear hS; intro w hS) | (refine wpList_is (.load _ _) rfl ?_; go_must (first | refine wpList_stp (by kernel_rfl) (stp_val (run_ld _ _ rfl hS) ?_) | refine wpList_stp (by kernel_rfl) (stp_val (run_lda _ _ rfl hS) ?_) | refine wpList_stp (by kernel_rfl) (stp_val (run_ld0 _ _ rfl hS) ?_) | refine wpList_stp (by kernel_rfl) (stp_val (run_lda0 _ _ rfl hS) ?_))) | (refine wpList_is (.store _ _ _) rfl ?_; go_must (first | refine wpList_stp (by kernel_rfl) (stp_st _ _ _ rfl hS ?_) | refine wpList_stp (by kernel_rfl) (stp_sta _ _ _ rfl hS ?_)); clear hS; intro w hS) | (refine wpList_is (.alloc _) rfl ?_; go_must (refine wpList_stp (by kernel_rfl) (stp_al _ rfl hS ?_)); clear hS; intro bN w hbN hS) | (refine wpList_is (.box _ _) rfl ?_; go_must (refine wpList_stp (by kernel_rfl) (stp_bx _ _ rfl hS ?_)); clear hS; intro bN w hbN hS) | (refine wpList_is (.binOp .eql _ _ (.const (.slice none _ _)) _) rfl ?_; refine wpList_stp (by kernel_rfl) (stp_val (run_nse _ _ _ rfl) ?_)) | (refine wpList_is (.binOp .neq _ _ (.const (.slice none _ _)) _) rfl ?_; refine wpList_stp (by kernel_rfl) (stp_val (run_nsn _ _ _ rfl) ?_)))
            exact hR _ (hB.all hS)
          | some j =>
            obtain rfl : lo = j := low_is (L := tbH L) hst0 ht hpre (by rw [show (tkL (some (tbH L))).length = m from hm'.out]; exact hlo1) hex
            obtain ⟨L1, L2, g, h1, h2, h3, h4, h5, h6, h7, h8⟩ := room_step hMo (by omega) ht
            obtain ⟨lf, hlf⟩ : ∃ q, lfH (HL L) = q := ⟨_, rfl⟩
            rw [hlf] at h4 h5 h8
            have hlf3 : 0 ≤ lf ∧ lf ≤ 256 := by
              have := ctN_bd hMo.w.tb 0
              rw [← hlf]; exact this
            have dl : (lf == 0) = false := by rw [beq_eq_false_iff_ne]; omega
            have dl' : decide (lf = 0) = false := decide_eq_false (by omega)
            have df : DifIs lf 1 (lf - 1) := ⟨rfl, by omega, by omega⟩
            have h1' := Lib.hid h1
            have h2' := Lib.hid h2
            have h3' := Lib.hid h3
            have h4' := Lib.hid h4
            have h6' := Lib.hid h6
            have h7' := Lib.hid h7
            have h8' := Lib.hid h8
            have hlf' := Lib.hid hlf
            clear ht h1 h2 h3 h4 h6 h7 h8 hlf
            go_wp2_with (first | go_skip | (go_at_call 14; refine hp_left hS hT lf hlf'.out ?_; clear hS; intro w _ hS; unfold Ret) | (go_at_call 17; refine hp_make hS hT 1 false _ ((lo : Int), g) 0 h1'.out h2'.out h3'.out ?_; clear hS hT; intro E w hT hS; unfold Ret) | (refine wpList_is (.alloc 38) rfl ?_; go_must (refine wpList_stp (by kernel_rfl) (stp_al _ rfl hS ?_)); clear hS; intro b10 w _ hS) | go_skip | (refine wpList_is (.call { callee := .builtin .len, args := #[_], argTypes := #[_] }) rfl ?_; refine wpList_stp (by kernel_rfl) (stp_val (run_lenv _ _ rfl) ?_)) | (refine wpList_is (.slice _ _ none (some _) none) rfl ?_; refine wpList_stp (by kernel_rfl) (stp_val (run_prev _ _ _ rfl) ?_)) | (refine wpList_is (.indexAddr _ _ _) rfl ?_; refine wpList_stp (by kernel_rfl) (stp_val (run_idxv _ _ _ rfl) ?_)) | go_skip | (refine wpList_is (.build _ _) rfl ?_; go_must (refine wpList_stp (by kernel_rfl) (stp_val (run_bd _ _ rfl) ?_))) | (refine wpList_is (.call { callee := .builtin .clear, args := #[_], argTypes := #[_] }) rfl ?_; go_must (refine wpList_stp (by kernel_rfl) (stp_cl _ _ rfl hS (by decide) ?_)); clear hS; intro w hS) | (refine wpList_is (.load _ _) rfl ?_; go_must (first | refine wpList_stp (by kernel_rfl) (stp_val (run_ld _ _ rfl hS) ?_) | refine wpList_stp (by kernel_rfl) (stp_val (run_lda _ _ rfl hS) ?_) | refine wpList_stp (by kernel_rfl) (stp_val (run_ld0 _ _ rfl hS) ?_) | refine wpList_stp (by kernel_rfl) (stp_val (run_lda0 _ _ rfl hS) ?_))) | (refine wpList_is (.store _ _ _) rfl ?_; go_must (first | refine wpList_stp (by kernel_rfl) (stp_st _ _ _ rfl hS ?_) | refine wpList_stp (by kernel_rfl) (stp_sta _ _ _ rfl hS ?_)); clear hS; intro w hS) | (refine wpList_is (.alloc _) rfl ?_; go_must (refine wpList_stp (by kernel_rfl) (stp_al _ rfl hS ?_)); clear hS; intro bN w hbN hS) | (refine wpList_is (.box _ _) rfl ?_; go_must (refine wpList_stp (by kernel_rfl) (stp_bx _ _ rfl hS ?_)); clear hS; intro bN w hbN hS) | (refine wpList_is (.binOp .eql _ _ (.const (.slice none _ _)) _) rfl ?_; refine wpList_stp (by kernel_rfl) (stp_val (run_nse _ _ _ rfl) ?_)) | (refine wpList_is (.binOp .neq _ _ (.const (.slice none _ _)) _) rfl ?_; refine wpList_stp (by kernel_rfl) (stp_val (run_nsn _ _ _ rfl) ?_)))
            have hS : St w0 bs _ (E ++ (⟨b10, #[.int .i64 lo, .int .u32 g], 38, true⟩ :: (moE bm ph M vi vg :: (Ei ++ (Eg ++ ms.map meE))))) := hS.pick
            refine region_itemsE [⟨(undef, E), [(13, fun _ x => HA ph (HL L1) x.2), (24, fun _ x => HA ph (HL L2) x.2), (32, fun _ x => HA ph (HL L2) x.2)]⟩] (⟨b10, #[.int .i64 lo, .int .u32 g], 38, true⟩ :: (moE bm ph M vi vg :: (Ei ++ (Eg ++ ms.map meE)))) (E ++ (⟨b10, #[.int .i64 lo, .int .u32 g], 38, true⟩ :: (moE bm ph M vi vg :: (Ei ++ (Eg ++ ms.map meE))))) (by simp) hS (by kernel_rfl) (by kernel_rfl) ?_
            refine fx_val (fun _ => rfl) rfl (fun χ w hw => run_mv _ rfl) ?_
            refine fx_val (fun _ => rfl) rfl (fun χ w hw => run_ieq _ _ _ _ rfl) ?_
            refine fx_val (fun _ => rfl) rfl (fun χ w hw => run_mv _ rfl) ?_
            refine fx_val (fun _ => rfl) rfl (fun χ w hw => run_fa _ _ _ rfl) ?_
            refine fx_val (fun _ => rfl) rfl (fun χ w hw => run_ld _ _ rfl hw) ?_
            refine fx_val (fun _ => rfl) rfl (fun χ w hw => run_mv _ rfl) ?_
            refine fx_val (fun _ => rfl) rfl (fun χ w hw => run_ieq _ _ _ _ rfl) ?_
            refine fx_val (fun _ => rfl) rfl (fun χ w hw => run_pk1 _ _ _ rfl) ?_
            refine fx_val (fun _ => rfl) rfl (fun χ w hw => run_mv _ rfl) ?_
            refine fx_val (fun _ => rfl) rfl (fun χ w hw => run_mv _ rfl) ?_
            refine fx_val (fun _ => rfl) rfl (fun χ w hw => run_nc _ rfl) ?_
            refine fx_val (fun _ => rfl) rfl (fun χ w hw => run_fa _ _ _ rfl) ?_
            refine fx_val (fun _ => rfl) rfl (fun χ w hw => run_ld _ _ rfl hw) ?_
            refine fx_turn 0 0 rfl rfl (by kernel_rfl) (by kernel_rfl) (by kernel_rfl) 14 [_] _ rfl (fun _ => rfl) (enters _ (by kernel_rfl)) (fun _ => .int .i64 (lf - 1)) ?_ ?_
            · intro χ X w _ hS
              exact hp_left (show St w0 bs w (E ++ (X ++ _)) from hS) hT _ h4'.out (fun w' hT' hS' => ⟨(undef, E), rfl, hT', show St w0 bs w' (E ++ (X ++ _)) from hS'.pick⟩)
            refine fx_val (fun _ => rfl) rfl (fun χ w hw => run_mv _ rfl) ?_
            first | (refine fx_val (fun _ => rfl) rfl (fun χ w hw => run_difv _ _ _ _ rfl) ?_) | (first | (refine fx_val (fun _ => rfl) rfl (fun χ w hw => run_mv _ rfl) ?_) | (refine fx_val (fun _ => rfl) rfl (fun χ w hw => run_as _ rfl) ?_) | (refine fx_val (fun _ => rfl) rfl (fun χ w hw => run_fa _ _ _ rfl) ?_) | (refine fx_val (fun _ => rfl) rfl (fun χ w hw => run_ld _ _ rfl hw) ?_) | (refine fx_val (fun _ => rfl) rfl (fun χ w hw => run_lda _ _ rfl hw) ?_) | (refine fx_val (fun _ => rfl) rfl (fun χ w hw => run_ld0 _ _ rfl hw) ?_) | (refine fx_val (fun _ => rfl) rfl (fun χ w hw => run_lda0 _ _ rfl hw) ?_) | (refine fx_val (fun _ => rfl) rfl (fun χ w hw => run_ine _ _ _ _ rfl) ?_) | (refine fx_val (fun _ => rfl) rfl (fun χ w hw => run_aeq _ _ _ _ rfl) ?_) | (refine fx_val (fun _ => rfl) rfl (fun χ w hw => run_ane _ _ _ _ rfl) ?_) | (refine fx_val (fun _ => rfl) rfl (fun χ w hw => run_lenv _ _ rfl) ?_) | (refine fx_val (fun _ => rfl) rfl (fun χ w hw => run_idxv _ _ _ rfl) ?_) | (refine fx_val (fun _ => rfl) rfl (fun χ w hw => run_pk1 _ _ _ rfl) ?_) | (refine fx_val (fun _ => rfl) rfl (fun χ w hw => run_pk2 _ _ _ rfl) ?_) | (refine fx_val (fun _ => rfl) rfl (fun χ w hw => run_nse _ _ _ rfl) ?_) | (refine fx_val (fun _ => rfl) rfl (fun χ w hw => run_nsn _ _ _ rfl) ?_) | (refine fx_val (fun _ => rfl) rfl (fun χ w hw => run_bd _ _ rfl) ?_) | (refine fx_val (fun _ => rfl) rfl (fun χ w hw => run_ieq _ _ _ _ rfl) ?_) | (refine fx_val (fun _ => rfl) rfl (fun χ w hw => run_beq _ _ _ _ rfl) ?_) | (refine fx_val (fun _ => rfl) rfl (fun χ w hw => run_bne _ _ _ _ rfl) ?_) | (refine fx_val (fun _ => rfl) rfl (fun χ w hw => run_bnot _ _ rfl) ?_) | (refine fx_val (fun _ => rfl) rfl (fun χ w hw => run_ext _ _ rfl) ?_) | (refine fx_val (fun _ => rfl) rfl (fun χ w hw => run_ilit _ _ _ _ rfl) ?_) | (refine fx_val (fun _ => rfl) rfl (fun χ w hw => run_cvn _ _ _ rfl) ?_) | (refine fx_val (fun _ => rfl) rfl (fun χ w hw => run_remn _ _ _ _ rfl (by decide)) ?_) | (refine fx_val (fun _ => rfl) rfl (fun χ w hw => run_nc _ rfl) ?_) | (refine fx_val (fun _ => rfl) rfl (fun χ w hw => run_inlit _ _ _ _ rfl) ?_) | (refine fx_skip (fun _ => rfl) ?_))
            refine fx_val (fun _ => rfl) rfl (fun χ w hw => run_ieq _ _ _ _ rfl) ?_
            refine fx_val (fun _ => rfl) rfl (fun χ w hw => run_pk1 _ _ _ rfl) ?_
            refine fx_val (fun _ => rfl) rfl (fun χ w hw => run_mv _ rfl) ?_
            refine fx_val (fun _ => rfl) rfl (fun χ w hw => run_mv _ rfl) ?_
            refine fx_val (fun _ => rfl) rfl (fun χ w hw => run_nc _ rfl) ?_
            refine fx_val (fun _ => rfl) rfl (fun χ w hw => run_fa _ _ _ rfl) ?_
            refine fx_val (fun _ => rfl) rfl (fun χ w hw => run_ld _ _ rfl hw) ?_
            refine fx_val (fun _ => rfl) rfl (fun χ w hw => run_lda _ _ rfl hw) ?_
            refine fx_turn 0 1 rfl rfl (by kernel_rfl) (by kernel_rfl) (by kernel_rfl) 18 [_, _] _ rfl (fun _ => rfl) (enters _ (by kernel_rfl)) (fun _ => .int .i64 0) ?_ ?_
            · rintro χ X w ⟨hT1, _⟩ hS
              have hT1 : HA ph (HL L1) (χ 13).2 := hT1
              exact hp_free (show St w0 bs w ((χ 13).2 ++ (X ++ _)) from hS) hT1 lo g _ 0 h6'.out h7'.out (fun E' w' hT' hS' => ⟨(undef, E'), rfl, hT', show St w0 bs w' (E' ++ (X ++ _)) from hS'.pick⟩)
            refine fx_val (fun _ => rfl) rfl (fun χ w hw => run_ieq _ _ _ _ rfl) ?_
            refine fx_val (fun _ => rfl) rfl (fun χ w hw => run_pk1 _ _ _ rfl) ?_
            refine fx_val (fun _ => rfl) rfl (fun χ w hw => run_mv _ rfl) ?_
            refine fx_val (fun _ => rfl) rfl (fun χ w hw => run_mv _ rfl) ?_
            refine fx_val (fun _ => rfl) rfl (fun χ w hw => run_nc _ rfl) ?_
            refine fx_val (fun _ => rfl) rfl (fun χ w hw => run_fa _ _ _ rfl) ?_
            refine fx_val (fun _ => rfl) rfl (fun χ w hw => run_ld _ _ rfl hw) ?_
            refine fx_turn 0 2 rfl rfl (by kernel_rfl) (by kernel_rfl) (by kernel_rfl) 14 [_] _ rfl (fun _ => rfl) (enters _ (by kernel_rfl)) (fun _ => .int .i64 lf) ?_ ?_
            · rintro χ X w ⟨_, hT1, _⟩ hS
              have hT1 : HA ph (HL L2) (χ 24).2 := hT1
              exact hp_left (show St w0 bs w ((χ 24).2 ++ (X ++ _)) from hS) hT1 _ h8'.out (fun w' hT' hS' => ⟨(undef, (χ 24).2), rfl, hT', show St w0 bs w' ((χ 24).2 ++ (X ++ _)) from hS'.pick⟩)
            refine fx_val (fun _ => rfl) rfl (fun χ w hw => run_mv _ rfl) ?_
            refine fx_val (fun _ => rfl) rfl (fun χ w hw => run_ieq _ _ _ _ rfl) ?_
            refine fx_val (fun _ => rfl) rfl (fun χ w hw => run_pk1 _ _ _ rfl) ?_
            refine fx_val (fun _ => rfl) rfl (fun χ w hw => run_mv _ rfl) ?_
            refine fx_ask 11 [] _ rfl (fun _ => rfl) rfl (enters _ (by kernel_rfl)) (.bool true) (fun X w hS => works_ok hS (fun w' hS' => ⟨rfl, hS'⟩)) ?_
            refine fx_val (fun _ => rfl) rfl (fun χ w hw => run_pk1 _ _ _ rfl) ?_
            refine fx_val (fun _ => rfl) rfl (fun χ w hw => run_as _ rfl) ?_
            refine fx_end rfl ?_
            intro χ w hok hS
            replace hS := st_drop hS
            clear hok
            go_wp2_with (first | go_skip | go_skip | (refine wpList_is (.build _ _) rfl ?_; go_must (refine wpList_stp (by kernel_rfl) (stp_val (run_bd _ _ rfl) ?_))) | (refine wpList_is (.call { callee := .builtin .clear, args := #[_], argTypes := #[_] }) rfl ?_; go_must (refine wpList_stp (by kernel_rfl) (stp_cl _ _ rfl hS (by decide) ?_)); clear hS; intro w hS) | (refine wpList_is (.load _ _) rfl ?_; go_must (first | refine wpList_stp (by kernel_rfl) (stp_val (run_ld _ _ rfl hS) ?_) | refine wpList_stp (by kernel_rfl) (stp_val (run_lda _ _ rfl hS) ?_) | refine wpList_stp (by kernel_rfl) (stp_val (run_ld0 _ _ rfl hS) ?_) | refine wpList_stp (by kernel_rfl) (stp_val (run_lda0 _ _ rfl hS) ?_))) | (refine wpList_is (.store _ _ _) rfl ?_; go_must (first | refine wpList_stp (by kernel_rfl) (stp_st _ _ _ rfl hS ?_) | refine wpList_stp (by kernel_rfl) (stp_sta _ _ _ rfl hS ?_)); clear hS; intro w hS) | (refine wpList_is (.alloc _) rfl ?_; go_must (refine wpList_stp (by kernel_rfl) (stp_al _ rfl hS ?_)); clear hS; intro bN w hbN hS) | (refine wpList_is (.box _ _) rfl ?_; go_must (refine wpList_stp (by kernel_rfl) (stp_bx _ _ rfl hS ?_)); clear hS; intro bN w hbN hS) | (refine wpList_is (.binOp .eql _ _ (.const (.slice none _ _)) _) rfl ?_; refine wpList_stp (by kernel_rfl) (stp_val (run_nse _ _ _ rfl) ?_)) | (refine wpList_is (.binOp .neq _ _ (.const (.slice none _ _)) _) rfl ?_; refine wpList_stp (by kernel_rfl) (stp_val (run_nsn _ _ _ rfl) ?_)))
            exact hR _ (hB.all hS)
end Go.Proofs.Ytlpknbkgkhnfcaa
