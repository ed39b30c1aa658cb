/-
  Moves on a desk of leases: copies of times; how many times a move changes.
-/
import Derived.Test.YtbjcjbkgjnojmaaDmoveY
set_option linter.unusedSimpArgs false
set_option linter.unusedVariables false
namespace Go.Proofs.Ytbjcjbkgjnojmaa
open Go.RowKit Go.Mm
variable {R : Ending → World → Prop} {w : World} {w0 : World} {bs : List Nat} {H H' H1 E : List Ent}

theorem run_nse0 {P : Program} {o : Oper} {a : Act} (t t' : TypeId) (x : Operand) (ho : o.op = .binOp .eql t x (.const (.slice none 0 0)) t') {e : TypeId} [ht : SliceT P t e] [hx : Ev a x (.slice none 0 0)] : OpVal P o a w (.bool true) := by
  have hg : ∀ y, (eqGuard .eql t x y (.slice none 0 0) (.slice none 0 0)).run P w = .ok () w := fun y => by simp [eqGuard]
  have hc : a.eval (.const (.slice none 0 0)) = .slice none 0 0 := rfl
  have hb := Lib.run_eql_slice_nil (P := P) w t e none 0 0 0 0 ht.h
  unfold OpVal
  simp only [execOp, ho, hx.h, hc, Sem.run_bind, hg, hb, Result.andThen_ok, Sem.run_pure]
  rfl
set_option maxHeartbeats 1000000 in
set_option maxRecDepth 100000 in
theorem clone_ok {v : Value} {us : List Int} (hO : St w0 bs w H) (hU : US v us E) [hc : Cut H E H1] (hl : us.length ≤ 500)
    (hR : ∀ v' E' w', US v' us E' → St w0 bs w' (E' ++ (E ++ H1)) → Ret R v' w') : Calls Try.prog 20 #[v] w R := by
  have hS := hO.front (E := E) (H1 := H1)
  clear hO
  rcases hU.or with ⟨rfl, h0, rfl⟩ | ⟨g, cap, sp, rfl, rfl, h1, h2, h3⟩
  · obtain rfl := List.eq_nil_of_length_eq_zero h0
    go_enter Try.func20, Try.ntmps20
    go_wp2_with (first | go_skip | (refine wpList_is (.binOp .eql _ _ (.const (.slice none _ _)) _) rfl ?_; refine wpList_stp rfl (stp_val (run_nse0 _ _ _ rfl) ?_)) | go_skip | (refine wpList_is (.build _ _) rfl ?_; go_must (refine wpList_stp rfl (stp_val (run_bd _ _ rfl) ?_))) | (refine wpList_is (.call { callee := .builtin .clear, args := #[_], argTypes := #[_] }) rfl ?_; go_must (refine wpList_stp rfl (stp_cl _ _ rfl hS (by decide) ?_)); clear hS; intro w hS) | (refine wpList_is (.load _ _) rfl ?_; go_must (first | refine wpList_stp rfl (stp_val (run_ld _ _ rfl hS) ?_) | refine wpList_stp rfl (stp_val (run_lda _ _ rfl hS) ?_) | refine wpList_stp rfl (stp_val (run_ld0 _ _ rfl hS) ?_) | refine wpList_stp rfl (stp_val (run_lda0 _ _ rfl hS) ?_))) | (refine wpList_is (.store _ _ _) rfl ?_; go_must (first | refine wpList_stp rfl (stp_st _ _ _ rfl hS ?_) | refine wpList_stp rfl (stp_sta _ _ _ rfl hS ?_)); clear hS; intro w hS) | (refine wpList_is (.alloc _) rfl ?_; go_must (refine wpList_stp rfl (stp_al _ rfl hS ?_)); clear hS; intro bN w hbN hS) | (refine wpList_is (.box _ _) rfl ?_; go_must (refine wpList_stp rfl (stp_bx _ _ rfl hS ?_)); clear hS; intro bN w hbN hS) | (refine wpList_is (.binOp .eql _ _ (.const (.slice none _ _)) _) rfl ?_; refine wpList_stp rfl (stp_val (run_nse _ _ _ rfl) ?_)) | (refine wpList_is (.binOp .neq _ _ (.const (.slice none _ _)) _) rfl ?_; refine wpList_stp rfl (stp_val (run_nsn _ _ _ rfl) ?_)))
    exact hR _ [] _ US.nil hS.pick
  · have hfl : (us.flatMap j64f).length = us.length * 1 := by rw [flat_len j64f_len]
    have i1 : CellsAt ((us.flatMap j64f ++ sp).toArray) 0 (us.length * 1) (us.flatMap j64f).toArray := ⟨fun j hj => by
      rw [Nat.mul_one] at hj
      rw [Nat.mul_one] at hfl
      simp [List.getElem?_append_left, hfl, hj], by simp [hfl]⟩
    have i2 : OneCells (us.flatMap j64f).toArray := ⟨fun u hu => by
      simp only [List.mem_flatMap] at hu
      obtain ⟨x, _, hx⟩ := hu
      exact j64f_one x u hx⟩
    simp only [List.cons_append, List.nil_append] at hS
    go_enter Try.func20, Try.ntmps20
    go_wp2_with (first | go_skip | (refine wpList_is (.buildSlice _ 0 _) rfl ?_; go_must (refine wpList_stp rfl (stp_bs0 _ rfl hS ?_)); clear hS; intro bz w _ hS) | (refine wpList_is (.call { callee := .builtin .append, args := #[_, _], argTypes := #[_, _] }) rfl ?_; go_must (refine wpList_stp rfl (stp_ap _ _ _ _ rfl rfl hS (by rfl) sl_zero (by rfl) (by simp only [maxLen]; omega) (by omega) ?_)); clear hS; intro v' E' w hsl' hne hS) | go_skip | (refine wpList_is (.build _ _) rfl ?_; go_must (refine wpList_stp rfl (stp_val (run_bd _ _ rfl) ?_))) | (refine wpList_is (.call { callee := .builtin .clear, args := #[_], argTypes := #[_] }) rfl ?_; go_must (refine wpList_stp rfl (stp_cl _ _ rfl hS (by decide) ?_)); clear hS; intro w hS) | (refine wpList_is (.load _ _) rfl ?_; go_must (first | refine wpList_stp rfl (stp_val (run_ld _ _ rfl hS) ?_) | refine wpList_stp rfl (stp_val (run_lda _ _ rfl hS) ?_) | refine wpList_stp rfl (stp_val (run_ld0 _ _ rfl hS) ?_) | refine wpList_stp rfl (stp_val (run_lda0 _ _ rfl hS) ?_))) | (refine wpList_is (.store _ _ _) rfl ?_; go_must (first | refine wpList_stp rfl (stp_st _ _ _ rfl hS ?_) | refine wpList_stp rfl (stp_sta _ _ _ rfl hS ?_)); clear hS; intro w hS) | (refine wpList_is (.alloc _) rfl ?_; go_must (refine wpList_stp rfl (stp_al _ rfl hS ?_)); clear hS; intro bN w hbN hS) | (refine wpList_is (.box _ _) rfl ?_; go_must (refine wpList_stp rfl (stp_bx _ _ rfl hS ?_)); clear hS; intro bN w hbN hS) | (refine wpList_is (.binOp .eql _ _ (.const (.slice none _ _)) _) rfl ?_; refine wpList_stp rfl (stp_val (run_nse _ _ _ rfl) ?_)) | (refine wpList_is (.binOp .neq _ _ (.const (.slice none _ _)) _) rfl ?_; refine wpList_stp rfl (stp_val (run_nsn _ _ _ rfl) ?_)))
    have hU' : US v' us E' := by
      unfold US
      simpa using hsl'
    exact hR _ _ _ hU' hS.pick

/-- How many of the first k times have changed, or are new. -/
def chgN (us us' : List Int) : Nat → Nat
  | 0 => 0
  | k + 1 => chgN us us' k + (if k < us.length ∧ lgU us k = lgU us' k then 0 else 1)
theorem chgN_le (us us' : List Int) (j0 : Nat) : ∀ k, (∀ j, j < k → j ≠ j0 → j < us.length ∧ lgU us j = lgU us' j) → chgN us us' k ≤ if j0 < k then 1 else 0
  | 0, _ => by simp [chgN]
  | k + 1, h => by
    have ih := chgN_le us us' j0 k (fun j hj => h j (by omega))
    unfold chgN
    by_cases e : k = j0
    · subst e
      rw [if_neg (Nat.lt_irrefl k)] at ih
      rw [if_pos (Nat.lt_succ_self k)]
      split <;> omega
    · rw [if_pos (h k (by omega) e)]
      have : (j0 < k + 1) ↔ (j0 < k) := by omega
      simp only [this]
      exact ih
theorem chgN_nx {us us' : List Int} (h : Nx us us') : chgN us us' us'.length ≤ 1 := by
  have h1 : ∃ j0, ∀ j, j < us'.length → j ≠ j0 → j < us.length ∧ lgU us j = lgU us' j := by
    rcases h with rfl | ⟨u, rfl⟩ | ⟨k, u, rfl⟩
    · exact ⟨0, fun j hj _ => ⟨hj, rfl⟩⟩
    · refine ⟨us.length, fun j hj hne => ?_⟩
      rw [List.length_append, List.length_singleton] at hj
      exact ⟨by omega, by rw [lgU_snoc, if_neg hne]⟩
    · refine ⟨k, fun j hj hne => ?_⟩
      rw [List.length_set] at hj
      refine ⟨hj, ?_⟩
      by_cases hk : k < us.length
      · rw [lgU_set _ _ _ _ hk, if_neg hne]
      · rw [List.set_eq_of_length_le (show us.length ≤ k by omega)]
  obtain ⟨j0, h2⟩ := h1
  have := chgN_le us us' j0 us'.length h2
  split at this <;> omega
theorem chgN_bd (us us' : List Int) : ∀ k, chgN us us' k ≤ k
  | 0 => Nat.le_refl _
  | k + 1 => by have := chgN_bd us us' k; unfold chgN; split <;> omega
end Go.Proofs.Ytbjcjbkgjnojmaa
