/-
  Tables of slots: generations; giving back; counting.
-/
import Derived.Test.YtgpjanfphgjbbaaGreatSlots
import Derived.Test.YtgpjanfphgjbbaaGreatRfs
set_option linter.unusedSimpArgs false
set_option linter.unusedVariables false
namespace Go.Proofs.YtgpjanfphgjbbaaGreat
open Go.RowKit Go.Mm
variable {R : Ending → World → Prop} {w : World} {w0 : World} {bs : List Nat} {H H' H1 E : List Ent} {L X : List (Int × Int)} {b : Nat} {n : Int}

instance e_u32 : ElemT Tryz.prog 28 1 4 #[.int .u32 0] := ⟨by kernel_rfl⟩
instance sl_u32 : SliceT Tryz.prog 180 28 := ⟨by kernel_rfl⟩
theorem left1 {g : Int} {T : TypeId} (hO : St w0 bs w H) [hH : Has H b #[.int .u32 g] T] (h0 : 0 ≤ g) (h1 : g ≤ 4294967295) (hR : Ret R (.int .u32 (4294967295 - g)) w) : Calls Tryz.prog 123 #[.pointer (some ⟨b, 0, none⟩)] w R := by
  have hS := hO
  clear hO
  go_enter Tryz.func123, Tryz.ntmps123
  go_wp2_with ((refine wpList_is (.load _ _) rfl ?_; go_must ((refine wpList_stp (by kernel_rfl) (stp_val (run_ld _ _ rfl hS) ?_)))))
  exact hR
theorem of_ok {c : Nat} {g : Int} {T T' : TypeId} (hO : St w0 bs w H) [hH : Has H b #[.int .u32 g] T] [hC : Has H c #[.int .u32 g] T'] (h0 : 1 ≤ g) (h1 : g ≤ 4294967295) (hR : ∀ w', St w0 bs w' H → Ret R (.tuple #[.int .u32 (4294967295 - g), .int .i64 0]) w') :
    Calls Tryz.prog 122 #[.func (.func 123) #[] #[.pointer (some ⟨b, 0, none⟩)], .slice (some ⟨c, 0, none⟩) 1 1] w R := by
  have hS := hO
  clear hO
  go_enter Tryz.func122, Tryz.ntmps122
  go_wp2_with ((go_skip))
  go_loopw [12, 8, 9] (fun u _ _ wr => ∃ k : Nat, k ≤ 1 ∧ u = .int .i64 k ∧ St w0 bs wr H) (fun u _ _ _ => 1 - (intOf u).toNat)
  case atStart => exact ⟨0, by omega, rfl, hS⟩
  case round =>
    clear hS
    obtain ⟨k, hk, rfl, hS⟩ := hrel
    by_cases hk0 : k = 0
    · subst hk0
      go_wp2_with (first | (go_at_call 86; refine gcheck h0 h1 ?_; unfold Ret) | (refine wpList_is (.load _ _) rfl ?_; go_must ((refine wpList_stp (by kernel_rfl) (stp_val (run_ld _ _ rfl hS) ?_)))))
      go_roundw
      case rel => exact ⟨1, by omega, by go_num, hS⟩
      case measure => simp [intOf]
    · obtain rfl : k = 1 := by omega
      clear hk0
      go_wp2_with ((go_at_call 123; refine left1 hS (b := b) (by omega) h1 ?_; unfold Ret))
      exact hR _ hS
theorem left_ok {g : Int} (hO : St w0 bs w H) (h0 : 1 ≤ g) (h1 : g ≤ 4294967295) (hR : ∀ w', St w0 bs w' H → Ret R (.tuple #[.int .u32 (4294967295 - g), .int .i64 0]) w') : Calls Tryz.prog 121 #[.int .u32 g] w R := by
  have hS := hO
  clear hO
  go_enter Tryz.func121, Tryz.ntmps121
  go_wp2_with (first | (go_at_call 122; refine of_ok hS h0 h1 ?_; clear hS; intro w hS; unfold Ret) | (refine wpList_is (.buildSlice _ _ _) rfl ?_; go_must (refine wpList_stp (by kernel_rfl) (stp_bsl _ _ _ rfl hS (by decide) rfl (by decide) (by decide) ?_)); clear hS; intro bN w hbN hS) | (refine wpList_is (.load _ _) rfl ?_; go_must ((refine wpList_stp (by kernel_rfl) (stp_val (run_ld _ _ rfl hS) ?_)))) | (refine wpList_is (.box _ _) rfl ?_; go_must (refine wpList_stp (by kernel_rfl) (stp_bx _ _ rfl hS ?_)); clear hS; intro bN w hbN hS))
  exact hR _ hS.pick
theorem after1 {g v : Int} {d : Bool} (hO : St w0 bs w H) (h0 : 1 ≤ g) (h1 : g ≤ 4294967295) (hv : (if g < 4294967295 then g + 1 else 0) = v) (hd : decide (g < 4294967295) = d)
    (hR : ∀ w', St w0 bs w' H → Ret R (.tuple #[.int .u32 v, .bool d, .int .i64 0]) w') : Calls Tryz.prog 116 #[.int .u32 g, .int .u64 1] w R := by
  have hS := hO
  clear hO
  subst hv hd
  by_cases hg : g < 4294967295
  · simp only [if_pos hg, decide_eq_true hg] at hR
    have q1 : decide (4294967295 - g < 1) = false := by simp; omega
    go_enter Tryz.func116, Tryz.ntmps116
    go_wp2_with ((go_at_call 121; refine left_ok hS h0 h1 ?_; clear hS; intro w hS; unfold Ret))
    go_ret3
    exact hR _ hS
  · obtain rfl : g = 4294967295 := by omega
    simp only [Int.lt_irrefl, if_false, decide_false] at hR
    go_enter Tryz.func116, Tryz.ntmps116
    go_wp2_with ((go_at_call 121; refine left_ok hS h0 h1 ?_; clear hS; intro w hS; unfold Ret))
    go_ret3
    exact hR _ hS
theorem next_ok {g : Int} (v : Int) (d : Bool) (hO : St w0 bs w H) (h0 : 1 ≤ g) (h1 : g ≤ 4294967295) (hv : (if g < 4294967295 then g + 1 else 0) = v) (hd : decide (g < 4294967295) = d)
    (hR : ∀ w', St w0 bs w' H → Ret R (.tuple #[.int .u32 v, .bool d, .int .i64 0]) w') : Calls Tryz.prog 94 #[.int .u32 g] w R := by
  have hS := hO
  have hv' := Lib.hid hv
  have hd' := Lib.hid hd
  clear hO hv hd
  go_enter Tryz.func94, Tryz.ntmps94
  go_wp2_with ((go_at_call 116; refine after1 hS h0 h1 hv'.out hd'.out ?_; clear hS; intro w hS; unfold Ret))
  go_ret3
  exact hR _ hS

set_option maxRecDepth 100000 in
theorem sl_give {p : Option Addr} {T : Tb} (hO : St w0 bs w H) (hT : TA p T E) [hc : Cut H E H1] (s g : Int)
    (hR : ∀ E' w', TA p (gvT T s g) E' → St w0 bs w' (E' ++ H1) → Ret R (.int .i64 (ckE T s g)) w') : Calls Tryz.prog 50 #[.pointer p, .agg #[.int .i64 s, .int .u32 g]] w R := by
  have hS := hO.front (E := E) (H1 := H1)
  clear hO
  by_cases h0 : ckE T s g = 0
  · rcases T with _ | L
    · cases h0
    obtain ⟨i, rfl, hi, hx⟩ := ck_zero h0
    obtain ⟨hW, b, rfl, rfl⟩ := id hT
    have hgn := hW.gn _ (getD_mem hi)
    rw [hx] at hgn
    obtain ⟨g0, g1⟩ := hgn
    simp only at g0 g1
    have hl : i < (padL L).length := by rw [padL_len hW.hi]; have := hW.hi; omega
    have hget := padL_get hi
    rw [hx] at hget
    have h256 : (i : Int) < 256 := by have := hW.hi; omega
    by_cases hg : g < 4294967295
    · have e : gvN L i g = L.set i (0, g + 1) := by unfold gvN; rw [if_pos h0, if_pos hg, Int.toNat_natCast]
      simp only [gvT, e, h0] at hR
      have hset := tabBothSet (n := L.length) hl 0 (g + 1)
      rw [padL_set hi] at hset
      have hdg : decide (g < 4294967295) = true := by simpa using hg
      have h0' := Lib.hid h0
      clear hget hx e h0
      go_enter Tryz.func50, Tryz.ntmps50
      go_wp2_with (first | (go_at_call 91; refine sl_check hS hT _ _ ?_; clear hS; intro w _ hS; rw [h0'.out]; simp only [List.cons_append, List.nil_append] at hS; unfold Ret) | (go_at_call 94; refine next_ok (g + 1) true hS g0 g1 (if_pos hg) hdg ?_; clear hS; intro w hS; unfold Ret) | (refine region_tail 8 hS (by kernel_rfl) (by kernel_rfl) ?_; clear hS; intro w hS; simp only [List.take_succ_cons, List.take_zero, List.drop_succ_cons, List.drop_zero]; (repeat (first | (refine wpStill_is (.load _ _) rfl ?_; go_must ((refine wpStill_val rfl (run_ld _ _ rfl hS) ?_))) | still_step)); refine wpStill_nil ?_) | (refine wpList_is (.load _ _) rfl ?_; go_must (first | refine wpList_stp (by kernel_rfl) (stp_val (run_ld _ _ rfl hS) ?_) | refine wpList_stp (by kernel_rfl) (stp_val (run_lda _ _ rfl hS) ?_))) | (refine wpList_is (.store _ _ _) rfl ?_; go_must ((refine wpList_stp (by kernel_rfl) (stp_sta _ _ _ rfl hS ?_))); clear hS; intro w hS) | (refine wpList_is (.box _ _) rfl ?_; go_must (refine wpList_stp (by kernel_rfl) (stp_bx _ _ rfl hS ?_)); clear hS; intro bN w hbN hS))
      refine hR _ _ ⟨hW.set i (by simp) (by simp only; omega), b, rfl, rfl⟩ ?_
      rw [List.length_set]
      exact hS.pick
    · obtain rfl : g = 4294967295 := by omega
      have e : gvN L i 4294967295 = L.set i (2, 4294967295) := by unfold gvN; rw [if_pos h0, if_neg (by omega), Int.toNat_natCast]
      simp only [gvT, e, h0] at hR
      have hset := tabStateSet (n := L.length) hget 2
      rw [padL_set hi] at hset
      have h0' := Lib.hid h0
      clear hget hx e h0
      go_enter Tryz.func50, Tryz.ntmps50
      go_wp2_with (first | (go_at_call 91; refine sl_check hS hT _ _ ?_; clear hS; intro w _ hS; rw [h0'.out]; simp only [List.cons_append, List.nil_append] at hS; unfold Ret) | (go_at_call 94; refine next_ok 0 false hS g0 g1 rfl rfl ?_; clear hS; intro w hS; unfold Ret) | (refine region_tail 7 hS (by kernel_rfl) (by kernel_rfl) ?_; clear hS; intro w hS; simp only [List.take_succ_cons, List.take_zero, List.drop_succ_cons, List.drop_zero]; (repeat (first | (refine wpStill_is (.load _ _) rfl ?_; go_must ((refine wpStill_val rfl (run_ld _ _ rfl hS) ?_))) | still_step)); refine wpStill_nil ?_) | (refine wpList_is (.load _ _) rfl ?_; go_must (first | refine wpList_stp (by kernel_rfl) (stp_val (run_ld _ _ rfl hS) ?_) | refine wpList_stp (by kernel_rfl) (stp_val (run_lda _ _ rfl hS) ?_))) | (refine wpList_is (.store _ _ _) rfl ?_; go_must ((refine wpList_stp (by kernel_rfl) (stp_st _ _ _ rfl hS ?_))); clear hS; intro w hS) | (refine wpList_is (.box _ _) rfl ?_; go_must (refine wpList_stp (by kernel_rfl) (stp_bx _ _ rfl hS ?_)); clear hS; intro bN w hbN hS))
      refine hR _ _ ⟨hW.set i (by simp) (by simp), b, rfl, rfl⟩ ?_
      rw [List.length_set]
      exact hS.pick
  · have e : gvT T s g = T := by
      cases T with
      | none => rfl
      | some L => simp only [gvT, gvN, if_neg h0]
    rw [e] at hR
    have q : (ckE T s g != 0) = true := by simpa using h0
    clear e h0
    obtain ⟨c, hce⟩ : ∃ c, ckE T s g = c := ⟨_, rfl⟩
    rw [hce] at hR q
    have hce' := Lib.hid hce
    clear hce
    go_enter Tryz.func50, Tryz.ntmps50
    go_wp2_with (first | (go_at_call 91; refine sl_check hS hT _ _ ?_; clear hS; intro w _ hS; rw [hce'.out]; unfold Ret) | (refine wpList_is (.load _ _) rfl ?_; go_must ((refine wpList_stp (by kernel_rfl) (stp_val (run_lda _ _ rfl hS) ?_)))) | (refine wpList_is (.box _ _) rfl ?_; go_must (refine wpList_stp (by kernel_rfl) (stp_bx _ _ rfl hS ?_)); clear hS; intro bN w hbN hS))
    exact hR _ _ hT hS.pick

/-! Counting -/

end Go.Proofs.YtgpjanfphgjbbaaGreat
