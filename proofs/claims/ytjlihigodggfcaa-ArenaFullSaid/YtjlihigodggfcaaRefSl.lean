/-
  The library's slices at references: Equal, Index, Contains, Clone.
-/
import Derived.Test.YtjlihigodggfcaaRefs
import Derived.Test.YtjlihigodggfcaaTab
set_option linter.unusedSimpArgs false
set_option linter.unusedVariables false
namespace Go.Proofs.Ytjlihigodggfcaa
open Go.RowKit Go.Mm
variable {R : Ending → World → Prop} {w : World} {w0 : World} {bs : List Nat} {H H' H1 H2 E E1 E2 : List Ent} {l l1 l2 : List (Int × Int)} {v v1 v2 : Value}

/-- The place of a reference, or -1. -/
def idxR (l : List (Int × Int)) (x : Int × Int) : Int := match firstOf (fun i => refB x.1 x.2 (l.getD i (0, 0)).1 (l.getD i (0, 0)).2) l.length with
  | some i => i
  | none => -1
theorem idxR_mem {x : Int × Int} : decide (0 ≤ idxR l x) = decide (x ∈ l) := by
  unfold idxR
  cases h : firstOf (fun i => refB x.1 x.2 (l.getD i (0, 0)).1 (l.getD i (0, 0)).2) l.length with
  | some i =>
    obtain ⟨h1, h2, _⟩ := first_is h
    have e := refB_iff.1 h2
    rw [decide_eq_true (show (0 : Int) ≤ ((i : Nat) : Int) by omega)]
    symm
    rw [decide_eq_true_eq, e]
    exact getD_mem h1
  | none =>
    have : x ∉ l := by
      intro hm
      obtain ⟨i, hi, rfl⟩ := List.getElem_of_mem hm
      unfold firstOf at h
      rw [List.find?_eq_none] at h
      have := h i (List.mem_range.2 hi)
      simp [hi, refB_self] at this
    simp [this]

theorem ref_clone {b off m c : Nat} {cs : Array Value} {T : TypeId} (hO : St w0 bs w H) [hH : Has H b cs T] (hlm : l.length = m) (hc : CellsAt cs off (m * 2) (l.flatMap slf).toArray) (hm : m ≤ 1000)
    (hR : ∀ v' E' w', RS v' l E' → St w0 bs w' (E' ++ H) → Ret R v' w') : Calls Try.prog 80 #[.slice (some ⟨b, off, none⟩) m c] w R := by
  have hS := hO
  clear hO
  have hones : OneCells (l.flatMap slf).toArray := ⟨by
    intro u hu
    simp only [List.mem_flatMap] at hu
    obtain ⟨x, _, hx⟩ := hu
    exact slf_one x u hx⟩
  obtain ⟨k, hk⟩ : ∃ k, m * 2 = k := ⟨_, rfl⟩
  rw [hk] at hc
  go_enter Try.func80, Try.ntmps80
  go_wp2_with (first | go_skip | (refine wpList_is (.binOp .eql _ _ (.const (.slice none _ _)) _) rfl ?_; refine wpList_stp (by kernel_rfl) (stp_val (run_nse _ _ _ rfl) ?_)) | (refine wpList_is (.binOp .neq _ _ (.const (.slice none _ _)) _) rfl ?_; refine wpList_stp (by kernel_rfl) (stp_val (run_nsn _ _ _ rfl) ?_)) | (refine wpList_is (.buildSlice _ 0 _) rfl ?_; go_must (refine wpList_stp rfl (stp_bs0 _ rfl hS ?_)); clear hS; intro bz w hbz hS) | (refine wpList_is (.call { callee := .builtin .append, args := #[_, _], argTypes := #[_, _] }) rfl ?_; go_must (refine wpList_stp rfl (stp_ap _ _ _ _ rfl rfl hS (by rfl) sl_zero hk (by simp only [maxLen]; omega) (by omega) ?_)); clear hS; intro v' E' w hsl' hne hS; have hone := hsl'.one) | go_skip | (refine wpList_is (.call { callee := .builtin .len, args := #[_], argTypes := #[_] }) rfl ?_; refine wpList_stp (by kernel_rfl) (stp_val (run_lenv _ _ rfl) ?_)) | (refine wpList_is (.slice _ _ none (some _) none) rfl ?_; refine wpList_stp (by kernel_rfl) (stp_val (run_prev _ _ _ rfl) ?_)) | (refine wpList_is (.indexAddr _ _ _) rfl ?_; refine wpList_stp (by kernel_rfl) (stp_val (run_idxv _ _ _ rfl) ?_)) | go_skip | (refine wpList_is (.build _ _) rfl ?_; go_must (refine wpList_stp (by kernel_rfl) (stp_val (run_bd _ _ rfl) ?_))) | (refine wpList_is (.call { callee := .builtin .clear, args := #[_], argTypes := #[_] }) rfl ?_; go_must (refine wpList_stp (by kernel_rfl) (stp_cl _ _ rfl hS (by decide) ?_)); clear hS; intro w hS) | (refine wpList_is (.load _ _) rfl ?_; go_must (first | refine wpList_stp (by kernel_rfl) (stp_val (run_ld _ _ rfl hS) ?_) | refine wpList_stp (by kernel_rfl) (stp_val (run_lda _ _ rfl hS) ?_) | refine wpList_stp (by kernel_rfl) (stp_val (run_ld0 _ _ rfl hS) ?_) | refine wpList_stp (by kernel_rfl) (stp_val (run_lda0 _ _ rfl hS) ?_))) | (refine wpList_is (.store _ _ _) rfl ?_; go_must (first | refine wpList_stp (by kernel_rfl) (stp_st _ _ _ rfl hS ?_) | refine wpList_stp (by kernel_rfl) (stp_sta _ _ _ rfl hS ?_)); clear hS; intro w hS) | (refine wpList_is (.alloc _) rfl ?_; go_must (refine wpList_stp (by kernel_rfl) (stp_al _ rfl hS ?_)); clear hS; intro bN w hbN hS) | (refine wpList_is (.box _ _) rfl ?_; go_must (refine wpList_stp (by kernel_rfl) (stp_bx _ _ rfl hS ?_)); clear hS; intro bN w hbN hS) | (refine wpList_is (.binOp .eql _ _ (.const (.slice none _ _)) _) rfl ?_; refine wpList_stp (by kernel_rfl) (stp_val (run_nse _ _ _ rfl) ?_)) | (refine wpList_is (.binOp .neq _ _ (.const (.slice none _ _)) _) rfl ?_; refine wpList_stp (by kernel_rfl) (stp_val (run_nsn _ _ _ rfl) ?_)) | (refine region_quiet hS (by kernel_rfl) (by kernel_rfl) (fun hne => ?_); (repeat (first | go_big_quiet_skip | (go_big_quiet_want; first | (refine quiet_is (.load _ _) rfl ?_; go_must (first | refine quiet_at sw_st (fun w hS => run_ld _ _ rfl hS) ?_ | refine quiet_at sw_st (fun w hS => run_lda _ _ rfl hS) ?_ | refine quiet_at sw_st (fun w hS => run_ld0 _ _ rfl hS) ?_ | refine quiet_at sw_st (fun w hS => run_lda0 _ _ rfl hS) ?_); go_big_quiet_on) | (refine quiet_is (.binOp .eql _ _ (.const (.slice none _ _)) _) rfl ?_; refine quiet_val (fun w _ => run_nse _ _ _ rfl) ?_; go_big_quiet_on) | (refine quiet_is (.binOp .neq _ _ (.const (.slice none _ _)) _) rfl ?_; refine quiet_val (fun w _ => run_nsn _ _ _ rfl) ?_; go_big_quiet_on) | (refine quiet_is (.call { callee := .builtin .len, args := #[_], argTypes := #[_] }) rfl ?_; refine quiet_val (fun w _ => run_lenv _ _ rfl) ?_; go_big_quiet_on) | (refine quiet_is (.indexAddr _ _ _) rfl ?_; refine quiet_val (fun w _ => run_idxv _ _ _ rfl) ?_; go_big_quiet_on) | (refine quiet_is (.binOp .eql _ _ _ _) rfl ?_; refine quiet_val (fun w _ => run_aeq _ _ _ _ rfl) ?_; go_big_quiet_on) | (refine quiet_is (.binOp .neq _ _ _ _) rfl ?_; refine quiet_val (fun w _ => run_ane _ _ _ _ rfl) ?_; go_big_quiet_on) | (go_big_quiet_op; go_big_quiet_on)))); refine wpQuiet_nil ?_; clear hS hne; intro w hS))
  refine hR _ E' _ ?_ hS.pick
  unfold RS
  rw [hlm]
  simpa using hsl'
end Go.Proofs.Ytjlihigodggfcaa
