/-
  Global variables behind moves.
-/
import Derived.Test.YtkpfpaadkemedaaVarsD
set_option linter.unusedSimpArgs false
set_option linter.unusedVariables false
namespace Go.Proofs.Ytkpfpaadkemedaa
open Go.RowKit Go.Mm
variable {R : Ending → World → Prop} {w : World} {w0 : World} {bs : List Nat} {H H' H1 H2 E : List Ent} {L l : List (Int × Int)}

instance s_u8 : ScalarT Try.prog 5 := ⟨by kernel_rfl, by kernel_rfl⟩
instance s_u16 : ScalarT Try.prog 29 := ⟨by kernel_rfl, by kernel_rfl⟩
instance z_move : ZeroT Try.prog 31 #[.int .u8 0, .int .u8 0, .int .u16 0] := ⟨by kernel_rfl⟩
instance a_move : AggT Try.prog 31 3 := ⟨by kernel_rfl, by kernel_rfl⟩
instance cv_u8 : CvI Try.prog 5 3 .i64 := ⟨by kernel_rfl, by kernel_rfl, by kernel_rfl⟩
instance fa_move0 {b off : Nat} : FieldAt Try.prog 31 0 b off off := ⟨fun w => by kernel_rfl⟩
/-- The reference of a move. -/
def mrf (b c : Int) : Int × Int := if c = 0 then (0, 0) else (b, c)
theorem mrf_ok {b c : Int} (hb : 0 ≤ b ∧ b ≤ 255) (hc : 0 ≤ c ∧ c ≤ 65535) : wrR (mrf b c) = false := by
  unfold mrf
  by_cases h : c = 0
  · rw [if_pos h]; exact wrR_zero
  · rw [if_neg h]
    unfold wrR
    have q1 : decide (b < 0) = false := decide_eq_false (by omega)
    have q2 : decide (256 ≤ b) = false := decide_eq_false (by omega)
    have q3 : decide (c < 1) = false := decide_eq_false (by omega)
    simp only [q1, q2, q3, Bool.or_false, Bool.and_false]
theorem mrf_g {b c : Int} (hc : 0 ≤ c ∧ c ≤ 65535) : 0 ≤ (mrf b c).2 ∧ (mrf b c).2 ≤ 4294967295 := by
  unfold mrf; split <;> simp <;> omega
theorem mref_ok {a b c : Int} (hb : 0 ≤ b ∧ b ≤ 255) (hc : 0 ≤ c ∧ c ≤ 65535) (r : Int × Int) (hr : mrf b c = r) (hR : ∀ w', Chg w w' [] → Ret R (.agg #[.int .i64 r.1, .int .u32 r.2]) w') :
    Calls Try.prog 12 #[.agg #[.int .u8 a, .int .u8 b, .int .u16 c]] w R := by
  have hS : St w [] w [] := St.start0
  subst hr
  obtain ⟨b0, b1⟩ := hb
  obtain ⟨c0, c1⟩ := hc
  unfold mrf at hR
  by_cases h : c = 0
  · subst h
    go_enter Try.func12, Try.ntmps12
    go_wp2_with (first | go_skip | go_skip | (refine wpList_is (.build _ _) rfl ?_; go_must (refine wpList_stp (by kernel_rfl) (stp_val (run_bd _ _ rfl) ?_))) | (refine wpList_is (.call { callee := .builtin .clear, args := #[_], argTypes := #[_] }) rfl ?_; go_must (refine wpList_stp (by kernel_rfl) (stp_cl _ _ rfl hS (by decide) ?_)); clear hS; intro w hS) | (refine wpList_is (.load _ _) rfl ?_; go_must (first | refine wpList_stp (by kernel_rfl) (stp_val (run_ld _ _ rfl hS) ?_) | refine wpList_stp (by kernel_rfl) (stp_val (run_lda _ _ rfl hS) ?_) | refine wpList_stp (by kernel_rfl) (stp_val (run_ld0 _ _ rfl hS) ?_) | refine wpList_stp (by kernel_rfl) (stp_val (run_lda0 _ _ rfl hS) ?_))) | (refine wpList_is (.store _ _ _) rfl ?_; go_must (first | refine wpList_stp (by kernel_rfl) (stp_st _ _ _ rfl hS ?_) | refine wpList_stp (by kernel_rfl) (stp_sta _ _ _ rfl hS ?_)); clear hS; intro w hS) | (refine wpList_is (.alloc _) rfl ?_; go_must (refine wpList_stp (by kernel_rfl) (stp_al _ rfl hS ?_)); clear hS; intro bN w hbN hS) | (refine wpList_is (.box _ _) rfl ?_; go_must (refine wpList_stp (by kernel_rfl) (stp_bx _ _ rfl hS ?_)); clear hS; intro bN w hbN hS) | (refine wpList_is (.binOp .eql _ _ (.const (.slice none _ _)) _) rfl ?_; refine wpList_stp (by kernel_rfl) (stp_val (run_nse _ _ _ rfl) ?_)) | (refine wpList_is (.binOp .neq _ _ (.const (.slice none _ _)) _) rfl ?_; refine wpList_stp (by kernel_rfl) (stp_val (run_nsn _ _ _ rfl) ?_)) | (refine region_quiet hS (by kernel_rfl) (by kernel_rfl) (fun hne => ?_); (repeat (first | go_big_quiet_skip | (go_big_quiet_want; first | (refine quiet_is (.load _ _) rfl ?_; go_must (first | refine quiet_at sw_st (fun w hS => run_ld _ _ rfl hS) ?_ | refine quiet_at sw_st (fun w hS => run_lda _ _ rfl hS) ?_ | refine quiet_at sw_st (fun w hS => run_ld0 _ _ rfl hS) ?_ | refine quiet_at sw_st (fun w hS => run_lda0 _ _ rfl hS) ?_); go_big_quiet_on) | (refine quiet_is (.binOp .eql _ _ (.const (.slice none _ _)) _) rfl ?_; refine quiet_val (fun w _ => run_nse _ _ _ rfl) ?_; go_big_quiet_on) | (refine quiet_is (.binOp .neq _ _ (.const (.slice none _ _)) _) rfl ?_; refine quiet_val (fun w _ => run_nsn _ _ _ rfl) ?_; go_big_quiet_on) | (refine quiet_is (.call { callee := .builtin .len, args := #[_], argTypes := #[_] }) rfl ?_; refine quiet_val (fun w _ => run_lenv _ _ rfl) ?_; go_big_quiet_on) | (refine quiet_is (.indexAddr _ _ _) rfl ?_; refine quiet_val (fun w _ => run_idxv _ _ _ rfl) ?_; go_big_quiet_on) | (refine quiet_is (.binOp .eql _ _ _ _) rfl ?_; refine quiet_val (fun w _ => run_aeq _ _ _ _ rfl) ?_; go_big_quiet_on) | (refine quiet_is (.binOp .neq _ _ _ _) rfl ?_; refine quiet_val (fun w _ => run_ane _ _ _ _ rfl) ?_; go_big_quiet_on) | (go_big_quiet_op; go_big_quiet_on)))); refine wpQuiet_nil ?_; clear hS hne; intro w hS))
    refine bodyPost_ret (res_cells1 rfl hS) rfl ?_
    exact hR _ hS.chg
  · rw [if_neg h] at hR
    have q : (c == 0) = false := beq_eq_false_iff_ne.2 h
    go_enter Try.func12, Try.ntmps12
    go_wp2_with (first | go_skip | go_skip | (refine wpList_is (.build _ _) rfl ?_; go_must (refine wpList_stp (by kernel_rfl) (stp_val (run_bd _ _ rfl) ?_))) | (refine wpList_is (.call { callee := .builtin .clear, args := #[_], argTypes := #[_] }) rfl ?_; go_must (refine wpList_stp (by kernel_rfl) (stp_cl _ _ rfl hS (by decide) ?_)); clear hS; intro w hS) | (refine wpList_is (.load _ _) rfl ?_; go_must (first | refine wpList_stp (by kernel_rfl) (stp_val (run_ld _ _ rfl hS) ?_) | refine wpList_stp (by kernel_rfl) (stp_val (run_lda _ _ rfl hS) ?_) | refine wpList_stp (by kernel_rfl) (stp_val (run_ld0 _ _ rfl hS) ?_) | refine wpList_stp (by kernel_rfl) (stp_val (run_lda0 _ _ rfl hS) ?_))) | (refine wpList_is (.store _ _ _) rfl ?_; go_must (first | refine wpList_stp (by kernel_rfl) (stp_st _ _ _ rfl hS ?_) | refine wpList_stp (by kernel_rfl) (stp_sta _ _ _ rfl hS ?_)); clear hS; intro w hS) | (refine wpList_is (.alloc _) rfl ?_; go_must (refine wpList_stp (by kernel_rfl) (stp_al _ rfl hS ?_)); clear hS; intro bN w hbN hS) | (refine wpList_is (.box _ _) rfl ?_; go_must (refine wpList_stp (by kernel_rfl) (stp_bx _ _ rfl hS ?_)); clear hS; intro bN w hbN hS) | (refine wpList_is (.binOp .eql _ _ (.const (.slice none _ _)) _) rfl ?_; refine wpList_stp (by kernel_rfl) (stp_val (run_nse _ _ _ rfl) ?_)) | (refine wpList_is (.binOp .neq _ _ (.const (.slice none _ _)) _) rfl ?_; refine wpList_stp (by kernel_rfl) (stp_val (run_nsn _ _ _ rfl) ?_)) | (refine region_quiet hS (by kernel_rfl) (by kernel_rfl) (fun hne => ?_); (repeat (first | go_big_quiet_skip | (go_big_quiet_want; first | (refine quiet_is (.load _ _) rfl ?_; go_must (first | refine quiet_at sw_st (fun w hS => run_ld _ _ rfl hS) ?_ | refine quiet_at sw_st (fun w hS => run_lda _ _ rfl hS) ?_ | refine quiet_at sw_st (fun w hS => run_ld0 _ _ rfl hS) ?_ | refine quiet_at sw_st (fun w hS => run_lda0 _ _ rfl hS) ?_); go_big_quiet_on) | (refine quiet_is (.binOp .eql _ _ (.const (.slice none _ _)) _) rfl ?_; refine quiet_val (fun w _ => run_nse _ _ _ rfl) ?_; go_big_quiet_on) | (refine quiet_is (.binOp .neq _ _ (.const (.slice none _ _)) _) rfl ?_; refine quiet_val (fun w _ => run_nsn _ _ _ rfl) ?_; go_big_quiet_on) | (refine quiet_is (.call { callee := .builtin .len, args := #[_], argTypes := #[_] }) rfl ?_; refine quiet_val (fun w _ => run_lenv _ _ rfl) ?_; go_big_quiet_on) | (refine quiet_is (.indexAddr _ _ _) rfl ?_; refine quiet_val (fun w _ => run_idxv _ _ _ rfl) ?_; go_big_quiet_on) | (refine quiet_is (.binOp .eql _ _ _ _) rfl ?_; refine quiet_val (fun w _ => run_aeq _ _ _ _ rfl) ?_; go_big_quiet_on) | (refine quiet_is (.binOp .neq _ _ _ _) rfl ?_; refine quiet_val (fun w _ => run_ane _ _ _ _ rfl) ?_; go_big_quiet_on) | (go_big_quiet_op; go_big_quiet_on)))); refine wpQuiet_nil ?_; clear hS hne; intro w hS))
    refine bodyPost_ret (res_cells1 rfl hS) rfl ?_
    exact hR _ hS.chg

theorem put_ok {i : Nat} (hi : i < 8) {r : Int × Int} (hw : wrR r = false) : ptE (some (true, L)) i r = 0 ∧ ptR (some (true, L)) i r = L.getD i (0, 0) ∧ ptT (some (true, L)) i r = some (true, L.set i r) := by
  have hin : inV i = true := by simp [inV]; omega
  have e0 : ptE (some (true, L)) i r = 0 := by simp [ptE, vE, vOk, hw, hin]
  refine ⟨e0, ?_, ?_⟩
  · unfold ptR; rw [if_pos e0, Int.toNat_natCast]; rfl
  · unfold ptT; rw [if_pos e0, Int.toNat_natCast]; rfl

/-! The moves of a slice -/
def ixF (F : Nat → Nat → Value) (k : Nat) : Nat := match F k 0 with
  | .int _ n => n.toNat % 8
  | _ => 0
def rfF (F : Nat → Nat → Value) (k : Nat) : Int × Int := match F k 1, F k 2 with
  | .int _ b, .int _ c => mrf b c
  | _, _ => (0, 0)
def pths (L0 : List (Int × Int)) (F : Nat → Nat → Value) : Nat → List (Int × Int)
  | 0 => L0
  | k + 1 => (pths L0 F k).set (ixF F k) (rfF F k)
theorem pths_len {L0 : List (Int × Int)} {F : Nat → Nat → Value} : ∀ k, (pths L0 F k).length = L0.length
  | 0 => rfl
  | k + 1 => by unfold pths; rw [List.length_set]; exact pths_len k
theorem ixF_lt {F : Nat → Nat → Value} {k : Nat} : ixF F k < 8 := by
  unfold ixF; split <;> omega
theorem mv_cells {W : World} {v : Value} {n b off : Nat} {F : Nat → Nat → Value} (hv : Flat W [.i .u8, .i .u8, .i .u16] v n b off F) {k : Nat} (hk : k < n) :
    ∃ x y c : Int, F k 0 = .int .u8 x ∧ F k 1 = .int .u8 y ∧ F k 2 = .int .u16 c ∧ (0 ≤ x ∧ x ≤ 255) ∧ (0 ≤ y ∧ y ≤ 255) ∧ (0 ≤ c ∧ c ≤ 65535) ∧ x % 8 = ixF F k ∧ mrf y c = rfF F k := by
  obtain ⟨x, hx, wx⟩ := hv.int (i := k) (j := 0) hk rfl
  obtain ⟨y, hy, wy⟩ := hv.int (i := k) (j := 1) hk rfl
  obtain ⟨c, hc, wc⟩ := hv.int (i := k) (j := 2) hk rfl
  have bx := bounds_u8 wx
  refine ⟨x, y, c, hx, hy, hc, bx, bounds_u8 wy, bounds_u16 wc, ?_, ?_⟩
  · unfold ixF; rw [hx]; simp only; omega
  · unfold rfF; rw [hy, hc]
theorem mem_al {T : Gt} {r : Int × Int} : r ∈ alV T ↔ r ∈ vL T ∧ nzR r = true := by unfold alV; rw [List.mem_filter]
theorem zero_al {T : Gt} : decide ((0, 0) ∈ alV T) = false := by
  rw [decide_eq_false_iff_not, mem_al]
  rintro ⟨_, h⟩
  cases h
theorem set_has {L : List (Int × Int)} {i : Nat} {r : Int × Int} (hi : i < L.length) : decide (r ∈ alV (some (true, L.set i r))) = nzR r := by
  rw [Bool.eq_iff_iff, decide_eq_true_eq, mem_al]
  constructor
  · exact fun h => h.2
  · intro h
    refine ⟨?_, h⟩
    show r ∈ L.set i r
    rw [List.mem_iff_getElem]
    exact ⟨i, by rw [List.length_set]; exact hi, by rw [List.getElem_set_self]⟩
theorem ok_move {cs : List Value} (h : OkCells [.i .u8, .i .u8, .i .u16] cs) : ∃ x y c : Int, cs = [.int .u8 x, .int .u8 y, .int .u16 c] ∧ (0 ≤ x ∧ x ≤ 255) ∧ (0 ≤ y ∧ y ≤ 255) ∧ (0 ≤ c ∧ c ≤ 65535) := by
  cases h with
  | cons h1 h2 =>
    cases h2 with
    | cons h3 h4 =>
      cases h4 with
      | cons h5 h6 =>
        cases h6
        obtain ⟨x, rfl, wx⟩ := h1
        obtain ⟨y, rfl, wy⟩ := h3
        obtain ⟨c, rfl, wc⟩ := h5
        exact ⟨x, y, c, rfl, bounds_u8 wx, bounds_u8 wy, bounds_u16 wc⟩

end Go.Proofs.Ytkpfpaadkemedaa
