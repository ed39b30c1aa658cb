/-
  Tables of slots: slices of references; the examples of the chapter; a table behind turns.
-/
import Derived.Test.YtoihgmijogeilaaSlotsC
namespace Go.Proofs.Ytoihgmijogeilaa
open Go.RowKit Go.Mm
variable {R : Ending → World → Prop} {w : World} {w0 : World} {bs : List Nat} {H H' H1 E : List Ent} {L X : List (Int × Int)} {b : Nat} {n : Int}

/-- Two references are one. -/
def refB (s g s' g' : Int) : Bool := decide (s = s') && decide (g = g')
theorem refB_iff {x y : Int × Int} : refB x.1 x.2 y.1 y.2 = true ↔ x = y := by
  simp [refB, Prod.ext_iff]
theorem refB_self (s g : Int) : refB s g s g = true := by simp [refB]
theorem refB_no {x y : Int × Int} (h : x ≠ y) : refB x.1 x.2 y.1 y.2 = false := by
  rw [← Bool.not_eq_true, refB_iff]; exact h
instance c_int {a b : Int} : CellEq Try.prog 3 (.int .i64 a) (.int .i64 b) (decide (a = b)) := cellEq_int Try.underlying3 s_int
instance c_u32 {a b : Int} : CellEq Try.prog 29 (.int .u32 a) (.int .u32 b) (decide (a = b)) := cellEq_int Try.underlying29 s_u32
instance ref_eq {s g s' g' : Int} : AggEq Try.prog 31 #[.int .i64 s, .int .u32 g] #[.int .i64 s', .int .u32 g'] (refB s g s' g') := by
  have h := aggEq_of (P := Try.prog) (t := 31) [(3, 0), (29, 1)] (by kernel_rfl) (by kernel_rfl) (by kernel_rfl) (by kernel_rfl) (xs := #[.int .i64 s, .int .u32 g]) (ys := #[.int .i64 s', .int .u32 g'])
  simpa [refB] using h

theorem refE {s g s' g' : Int} {b : Bool} (h : refB s g s' g' = b) : AggEq Try.prog 31 #[.int .i64 s, .int .u32 g] #[.int .i64 s', .int .u32 g'] b := by subst h; exact ref_eq
/-! Slices of references -/
theorem RS.len {v : Value} {l : List (Int × Int)} (h : RS v l E) {n : Nat} (hn : l.length = n) : LenV Try.prog 25 v n := by
  subst hn
  refine ⟨?_, 31, Try.underlying25⟩
  rcases h.or with ⟨rfl, h0, _⟩ | ⟨g, cap, sp, rfl, _⟩
  · exact ⟨none, 0, by rw [h0]⟩
  · exact ⟨_, cap, rfl⟩
theorem RS.at {v : Value} {l : List (Int × Int)} (h : RS v l E) {i : Nat} (hi : i < l.length) {x : Int × Int} (hx : l.getD i (0, 0) = x) :
    ∃ g sp, (∀ j : Int, j = i → IdxV Try.prog 25 v j ⟨g, i * 2, none⟩) ∧ Has E g (blk [] slf l sp) 31 ∧ CellsAt (blk [] slf l sp) (i * 2) 2 #[.int .i64 x.1, .int .u32 x.2] := by
  subst hx
  obtain ⟨g, cap, sp, rfl, rfl, h1, h2, h3⟩ := Sl.some h (by omega)
  refine ⟨g, sp, fun j hj => ⟨fun w => ?_⟩, hasHead, ?_⟩
  · subst hj
    have h2 : 0 ≤ (i : Int) := by omega
    simp [Instr.indexAt, asIntOf, run_underlying Try.underlying25, hi, run_sizeOf' (P := Try.prog) (t := 31) (n := 2) (by kernel_rfl), Addr.add_lit]
  · refine blkCells (pre := []) slf_len (i := i) (a := l.getD i (0, 0)) ?_ (by simp)
    rw [List.getD_eq_getElem?_getD, List.getElem?_eq_getElem hi]; rfl
theorem RS.one {v : Value} {l : List (Int × Int)} (h : RS v l E) : OneCell v := Sl.one h

/-! Contracts with results by their numbers -/
theorem take_eq {p : Option Addr} {T : Tb} (T' : Tb) (s g e : Int) (hO : St w0 bs w H) (hT : TA p T E) [hc : Cut H E H1] (h1 : tkT T = T') (h2 : tkS T = s) (h3 : tkG T = g) (h4 : tkE T = e)
    (hR : ∀ E' w', TA p T' E' → St w0 bs w' (E' ++ H1) → Ret R (.tuple #[.agg #[.int .i64 s, .int .u32 g], .int .i64 e]) w') : Calls Try.prog 17 #[.pointer p] w R := by
  subst h1 h2 h3 h4; exact sl_take hO hT hR
theorem give_eq {p : Option Addr} {T : Tb} (T' : Tb) (s g e : Int) (hO : St w0 bs w H) (hT : TA p T E) [hc : Cut H E H1] (h1 : gvT T s g = T') (h2 : ckE T s g = e)
    (hR : ∀ E' w', TA p T' E' → St w0 bs w' (E' ++ H1) → Ret R (.int .i64 e) w') : Calls Try.prog 15 #[.pointer p, .agg #[.int .i64 s, .int .u32 g]] w R := by
  subst h1 h2; exact sl_give hO hT s g hR
theorem check_eq {p : Option Addr} {T : Tb} (s g e : Int) (hO : St w0 bs w H) (hT : TA p T E) [hc : Cut H E H1] (h2 : ckE T s g = e)
    (hR : ∀ w', TA p T E → St w0 bs w' (E ++ H1) → Ret R (.int .i64 e) w') : Calls Try.prog 14 #[.pointer p, .agg #[.int .i64 s, .int .u32 g]] w R := by
  subst h2; exact sl_check hO hT s g hR
theorem free_eq {p : Option Addr} {T : Tb} (e : Int) (hO : St w0 bs w H) (hT : TA p T E) [hc : Cut H E H1] (h : ctN 0 T = e)
    (hR : ∀ w', TA p T E → St w0 bs w' (E ++ H1) → Ret R (.int .i64 e) w') : Calls Try.prog 21 #[.pointer p] w R := by
  subst h; exact sl_free hO hT hR
theorem len_eq {p : Option Addr} {T : Tb} (e : Int) (hO : St w0 bs w H) (hT : TA p T E) [hc : Cut H E H1] (h : ctN 1 T = e)
    (hR : ∀ w', TA p T E → St w0 bs w' (E ++ H1) → Ret R (.int .i64 e) w') : Calls Try.prog 22 #[.pointer p] w R := by
  subst h; exact sl_len hO hT hR
theorem retired_eq {p : Option Addr} {T : Tb} (e : Int) (hO : St w0 bs w H) (hT : TA p T E) [hc : Cut H E H1] (h : ctN 2 T = e)
    (hR : ∀ w', TA p T E → St w0 bs w' (E ++ H1) → Ret R (.int .i64 e) w') : Calls Try.prog 19 #[.pointer p] w R := by
  subst h; exact sl_retired hO hT hR

set_option maxHeartbeats 4000000 in
theorem works_ok (hO : St w0 bs w H) (hR : ∀ w', St w0 bs w' H → Ret R (.bool true) w') : Calls Try.prog 11 #[] w R := by
  have hS := hO
  clear hO
  go_enter Try.func11, Try.ntmps11
  go_wp2_with (first
    | (go_at_call 16; refine sl_new hS 2 4294967294 (by decide) ?_; clear hS; intro p E1 w hT hS; have hpn := hT.nil; have e0 : nwE 2 4294967294 = 0 := (by rfl); have e1 : nwT 2 4294967294 = some [(0, 4294967294), (0, 4294967294)] := (by rfl); rw [e1] at hpn hT; rw [e0]; clear e0 e1; unfold Ret)
    | (go_at_call 17; refine take_eq (some [(1, 4294967294), (0, 4294967294)]) 0 4294967294 0 hS hT (by decide) (by decide) (by decide) (by decide) ?_; clear hS hT; intro E1 w hT hS; unfold Ret)
    | (go_at_call 17; refine take_eq (some [(1, 4294967294), (1, 4294967294)]) 1 4294967294 0 hS hT (by decide) (by decide) (by decide) (by decide) ?_; clear hS hT; intro E1 w hT hS; unfold Ret)
    | (go_at_call 17; refine take_eq (some [(1, 4294967294), (1, 4294967294)]) 0 0 4 hS hT (by decide) (by decide) (by decide) (by decide) ?_; clear hS hT; intro E1 w hT hS; unfold Ret)
    | (go_at_call 15; (with_reducible refine give_eq (some [(0, 4294967295), (1, 4294967294)]) 0 4294967294 0 hS hT (by decide) (by decide) ?_); clear hS hT; intro E1 w hT hS; unfold Ret)
    | (go_at_call 17; refine take_eq (some [(1, 4294967295), (1, 4294967294)]) 0 4294967295 0 hS hT (by decide) (by decide) (by decide) (by decide) ?_; clear hS hT; intro E1 w hT hS; unfold Ret)
    | (go_at_call 14; (with_reducible refine check_eq 0 4294967294 7 hS hT (by decide) ?_); clear hS hT; intro w hT hS; unfold Ret)
    | (go_at_call 15; (with_reducible refine give_eq (some [(2, 4294967295), (1, 4294967294)]) 0 4294967295 0 hS hT (by decide) (by decide) ?_); clear hS hT; intro E1 w hT hS; unfold Ret)
    | (go_at_call 19; refine retired_eq 1 hS hT (by decide) ?_; clear hS hT; intro w hT hS; unfold Ret)
    | (go_at_call 22; refine len_eq 1 hS hT (by decide) ?_; clear hS hT; intro w hT hS; unfold Ret)
    | (go_at_call 21; refine free_eq 0 hS hT (by decide) ?_; clear hS hT; intro w hT hS; unfold Ret)
    | go_skip | (refine wpList_is (.build _ _) rfl ?_; go_must (refine wpList_stp rfl (stp_val (run_bd _ _ rfl) ?_))) | (refine wpList_is (.call { callee := .builtin .clear, args := #[_], argTypes := #[_] }) rfl ?_; go_must (refine wpList_stp rfl (stp_cl _ _ rfl hS (by decide) ?_)); clear hS; intro w hS) | (refine wpList_is (.load _ _) rfl ?_; go_must (first | refine wpList_stp rfl (stp_val (run_ld _ _ rfl hS) ?_) | refine wpList_stp rfl (stp_val (run_lda _ _ rfl hS) ?_) | refine wpList_stp rfl (stp_val (run_ld0 _ _ rfl hS) ?_) | refine wpList_stp rfl (stp_val (run_lda0 _ _ rfl hS) ?_))) | (refine wpList_is (.store _ _ _) rfl ?_; go_must (first | refine wpList_stp rfl (stp_st _ _ _ rfl hS ?_) | refine wpList_stp rfl (stp_sta _ _ _ rfl hS ?_)); clear hS; intro w hS) | (refine wpList_is (.alloc _) rfl ?_; go_must (refine wpList_stp rfl (stp_al _ rfl hS ?_)); clear hS; intro bN w hbN hS) | (refine wpList_is (.box _ _) rfl ?_; go_must (refine wpList_stp rfl (stp_bx _ _ rfl hS ?_)); clear hS; intro bN w hbN hS) | (refine wpList_is (.binOp .eql _ _ (.const (.slice none _ _)) _) rfl ?_; refine wpList_stp rfl (stp_val (run_nse _ _ _ rfl) ?_)) | (refine wpList_is (.binOp .neq _ _ (.const (.slice none _ _)) _) rfl ?_; refine wpList_stp rfl (stp_val (run_nsn _ _ _ rfl) ?_)) | (refine region_quiet hS (by kernel_rfl) (by kernel_rfl) (fun hne => ?_); (repeat (first | go_big_quiet_skip | (go_big_quiet_want; first | (refine quiet_is (.load _ _) rfl ?_; go_must (first | refine quiet_at sw_st (fun w hS => run_ld _ _ rfl hS) ?_ | refine quiet_at sw_st (fun w hS => run_lda _ _ rfl hS) ?_ | refine quiet_at sw_st (fun w hS => run_ld0 _ _ rfl hS) ?_ | refine quiet_at sw_st (fun w hS => run_lda0 _ _ rfl hS) ?_); go_big_quiet_on) | (refine quiet_is (.binOp .eql _ _ (.const (.slice none _ _)) _) rfl ?_; refine quiet_val (fun w _ => run_nse _ _ _ rfl) ?_; go_big_quiet_on) | (refine quiet_is (.binOp .neq _ _ (.const (.slice none _ _)) _) rfl ?_; refine quiet_val (fun w _ => run_nsn _ _ _ rfl) ?_; go_big_quiet_on) | (refine quiet_is (.call { callee := .builtin .len, args := #[_], argTypes := #[_] }) rfl ?_; refine quiet_val (fun w _ => run_lenv _ _ rfl) ?_; go_big_quiet_on) | (refine quiet_is (.indexAddr _ _ _) rfl ?_; refine quiet_val (fun w _ => run_idxv _ _ _ rfl) ?_; go_big_quiet_on) | (refine quiet_is (.binOp .eql _ _ _ _) rfl ?_; refine quiet_val (fun w _ => run_aeq _ _ _ _ rfl) ?_; go_big_quiet_on) | (refine quiet_is (.binOp .neq _ _ _ _) rfl ?_; refine quiet_val (fun w _ => run_ane _ _ _ _ rfl) ?_; go_big_quiet_on) | (go_big_quiet_op; go_big_quiet_on)))); refine wpQuiet_nil ?_; clear hS hne; intro w hS))
  exact hR _ hS.pick
end Go.Proofs.Ytoihgmijogeilaa
