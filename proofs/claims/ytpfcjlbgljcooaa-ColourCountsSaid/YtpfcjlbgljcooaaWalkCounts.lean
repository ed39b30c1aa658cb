/-
  The walk of ColourCounts.
-/
import Derived.Test.YtpfcjlbgljcooaaPaint
namespace Go.Proofs.Ytpfcjlbgljcooaa
open Go.RowKit Go.Mm
variable {R : Ending → World → Prop}

theorem cnt_sum {L : List Int} (h : ∀ c ∈ L, c = 0 ∨ c = 1 ∨ c = 2) : ∀ k, k ≤ L.length → cnt 0 L k + cnt 1 L k + cnt 2 L k = k
  | 0, _ => by simp [cnt]
  | k + 1, hk => by
    have ih := cnt_sum h k (by omega)
    have hc := h (L.getD k 0) (by simp [List.getD_eq_getElem?_getD, List.getElem?_eq_getElem (show k < L.length by omega)])
    rw [cnt_succ _ _ _ (by omega), cnt_succ _ _ _ (by omega), cnt_succ _ _ _ (by omega)]
    rcases hc with e | e | e <;> rw [e] <;> simp <;> omega
theorem grey_has {L : List Int} : ∀ n, n ≤ L.length → (firstOf (isGrey L 0) n).isSome = decide (0 < cnt 1 L n)
  | 0, _ => by simp [firstOf, cnt]
  | n + 1, hn => by
    have ih := grey_has (L := L) n (by omega)
    rw [cnt_succ 1 L n (by omega)]
    unfold firstOf at *
    rw [List.range_succ, List.find?_append, Option.isSome_or, ih]
    unfold isGrey
    by_cases e : L.getD n 0 = 1
    · have e' : (L.getD n 0 == 1) = true := by rw [e]; rfl
      have z : decide ((0 : Int) ≤ n) = true := by simp
      simp only [List.find?_cons, e', z, Bool.and_self, Option.isSome_some, Bool.or_true, if_pos e]
      simp
    · have e' : (L.getD n 0 == 1) = false := by simpa using e
      simp only [List.find?_cons, e', Bool.and_false, List.find?_nil, Option.isSome_none, Bool.or_false, if_neg e, Nat.add_zero]
theorem first_at {p : Nat → Bool} {n i : Nat} (hi : i < n) (h0 : ∀ j, j < i → p j = false) (h1 : p i = true) : firstOf p n = some i := by
  refine first_some hi h1 ?_
  have : gl p i = [] := by
    unfold gl
    rw [List.filter_eq_nil_iff]
    intro j hj
    rw [h0 j (List.mem_range.1 hj)]
    simp
  rw [this]; rfl
theorem first_no {p : Nat → Bool} {n : Nat} (h0 : ∀ j, j < n → p j = false) : firstOf p n = none := by
  refine first_none ?_
  unfold gl
  rw [List.filter_eq_nil_iff]
  intro j hj
  rw [h0 j (List.mem_range.1 hj)]
  simp
theorem grey_eq {W : World} {n : Nat} {b : Nat} {L : List Int} {w0 : World} {bs : List Nat} {H : List Ent} {f : Int} (hO : St w0 bs W H) (z : Int) (hz : z = n) [hH : Has H b (paintCells z L) 59] (hn : 0 < n) (hn2 : n ≤ 256) (hl : L.length = 256)
    (r : Option Nat) (hr : firstOf (isGrey L f) n = r) (g : Int) (hg : ((r.getD 0 : Nat) : Int) = g) (s : Bool) (hs : r.isSome = s)
    (hR : ∀ w', St w0 bs w' H → Ret R (.tuple #[.int .i64 g, .bool s]) w') : Calls Try.prog 21 #[.pointer (some ⟨b, 0, none⟩), .int .i64 f] W R := by
  subst hz hg hs hr; exact grey_ok hO hn hn2 hl hR

set_option maxHeartbeats 4000000 in
set_option maxRecDepth 100000 in
theorem walk_counts {W : World} (a0 : Int) (w0 : (Lit.int .u8 a0).wf = true) (v : Value) {n b off : Nat} {F : Nat → Nat → Value} (hv : Flat W [.i .u8] v n b off F)
    (f : Int) (_wf : (Lit.int .i64 f).wf = true) (hR : ∀ w', Chg W w' [] → Ret R (.bool true) w') :
    Calls Try.prog 6 #[.int .u8 a0, v, .int .i64 f] W R := by
  have hS : St W [] W [] := St.start0
  obtain ⟨lo, hi⟩ := bounds_u8 w0
  obtain ⟨m, rfl⟩ := Int.eq_ofNat_of_zero_le lo
  have hn0 : 0 < 1 + (m : Int) := by omega
  have hn1 : 1 + (m : Int) ≤ 256 := by omega
  go_enter Try.func6, Try.ntmps6
  go_wp2_with (first | (go_at_call 14; refine painted_eq hS (n := 1 + m) _ (by omega) (by omega) (by omega) hv ?_; clear hS; intro pb L w hC hS; unfold Ret) | (go_at_call 15; refine colours_eq hS (m := 1 + m) _ (by omega) (by omega) (by omega) hC ?_; clear hS; intro c1 C w hT hS; unfold Ret) | (refine wpList_is (.build _ _) rfl ?_; go_must (refine wpList_stp rfl (stp_val (run_bd _ _ rfl) ?_))) | (refine wpList_is (.call { callee := .builtin .clear, args := #[_], argTypes := #[_] }) rfl ?_; go_must (refine wpList_stp rfl (stp_cl _ _ rfl hS (by decide) ?_)); clear hS; intro w hS) | (refine wpList_is (.load _ _) rfl ?_; go_must (first | refine wpList_stp rfl (stp_val (run_ld _ _ rfl hS) ?_) | refine wpList_stp rfl (stp_val (run_lda _ _ rfl hS) ?_) | refine wpList_stp rfl (stp_val (run_ld0 _ _ rfl hS) ?_) | refine wpList_stp rfl (stp_val (run_lda0 _ _ rfl hS) ?_))) | (refine wpList_is (.store _ _ _) rfl ?_; go_must (first | refine wpList_stp rfl (stp_st _ _ _ rfl hS ?_) | refine wpList_stp rfl (stp_sta _ _ _ rfl hS ?_)); clear hS; intro w hS) | (refine wpList_is (.alloc _) rfl ?_; go_must (refine wpList_stp rfl (stp_al _ rfl hS ?_)); clear hS; intro bN w hbN hS) | (refine wpList_is (.box _ _) rfl ?_; go_must (refine wpList_stp rfl (stp_bx _ _ rfl hS ?_)); clear hS; intro bN w hbN hS) | (refine wpList_is (.binOp .eql _ _ (.const (.slice none _ _)) _) rfl ?_; refine wpList_stp rfl (stp_val (run_nse _ _ _ rfl) ?_)) | (refine wpList_is (.binOp .neq _ _ (.const (.slice none _ _)) _) rfl ?_; refine wpList_stp rfl (stp_val (run_nsn _ _ _ rfl) ?_)) | (refine region_quiet hS (by kernel_rfl) (by kernel_rfl) (fun hne => ?_); (repeat (first | go_big_quiet_skip | (go_big_quiet_want; first | (refine quiet_is (.load _ _) rfl ?_; go_must (first | refine quiet_at sw_st (fun w hS => run_ld _ _ rfl hS) ?_ | refine quiet_at sw_st (fun w hS => run_lda _ _ rfl hS) ?_ | refine quiet_at sw_st (fun w hS => run_ld0 _ _ rfl hS) ?_ | refine quiet_at sw_st (fun w hS => run_lda0 _ _ rfl hS) ?_); go_big_quiet_on) | (refine quiet_is (.binOp .eql _ _ (.const (.slice none _ _)) _) rfl ?_; refine quiet_val (fun w _ => run_nse _ _ _ rfl) ?_; go_big_quiet_on) | (refine quiet_is (.binOp .neq _ _ (.const (.slice none _ _)) _) rfl ?_; refine quiet_val (fun w _ => run_nsn _ _ _ rfl) ?_; go_big_quiet_on) | (go_big_quiet_op; go_big_quiet_on)))); refine wpQuiet_nil ?_; clear hS hne; intro w hS))
  go_loopw [38] (fun u wr => ∃ k : Nat, k ≤ 1 + m ∧ u = .int .i64 k ∧ St W [] wr [⟨bN, cnt3 L k, 45, true⟩, ⟨c1, intsK .i64 C, 3, true⟩, ⟨pb, paintCells (1 + (m : Int)) L, 59, true⟩]) (fun u _ => 1 + m - (intOf u).toNat)
  case atStart => exact ⟨0, by omega, rfl, hS⟩
  case round =>
    clear hS
    obtain ⟨k, hk, rfl, hS⟩ := hrel
    by_cases hlt : k < 1 + m
    · have hkl : k < L.length := by rw [hC.l]; omega
      have hcell := intsAt (k := .i64) (L := C) (i := k) (by rw [hT.l]; exact hlt)
      rw [hT.eq k hlt] at hcell
      have h3 := hC.at (i := k) (by omega)
      have e0 := Lib.hid (cnt_succ 0 L k hkl)
      have e1 := Lib.hid (cnt_succ 1 L k hkl)
      have e2 := Lib.hid (cnt_succ 2 L k hkl)
      have l0 := cnt_le 0 L k
      have l1 := cnt_le 1 L k
      have l2 := cnt_le 2 L k
      unfold cnt3 at hS
      rcases h3 with h3 | h3 | h3
      all_goals
        have e0' := Lib.hid h3
        rw [h3] at hcell
        clear h3
        go_wp2_with (first | (refine wpList_is (.build _ _) rfl ?_; go_must (refine wpList_stp rfl (stp_val (run_bd _ _ rfl) ?_))) | (refine wpList_is (.call { callee := .builtin .clear, args := #[_], argTypes := #[_] }) rfl ?_; go_must (refine wpList_stp rfl (stp_cl _ _ rfl hS (by decide) ?_)); clear hS; intro w hS) | (refine wpList_is (.load _ _) rfl ?_; go_must (first | refine wpList_stp rfl (stp_val (run_ld _ _ rfl hS) ?_) | refine wpList_stp rfl (stp_val (run_lda _ _ rfl hS) ?_) | refine wpList_stp rfl (stp_val (run_ld0 _ _ rfl hS) ?_) | refine wpList_stp rfl (stp_val (run_lda0 _ _ rfl hS) ?_))) | (refine wpList_is (.store _ _ _) rfl ?_; go_must (first | refine wpList_stp rfl (stp_st _ _ _ rfl hS ?_) | refine wpList_stp rfl (stp_sta _ _ _ rfl hS ?_)); clear hS; intro w hS) | (refine wpList_is (.alloc _) rfl ?_; go_must (refine wpList_stp rfl (stp_al _ rfl hS ?_)); clear hS; intro bN w hbN hS) | (refine wpList_is (.box _ _) rfl ?_; go_must (refine wpList_stp rfl (stp_bx _ _ rfl hS ?_)); clear hS; intro bN w hbN hS) | (refine wpList_is (.binOp .eql _ _ (.const (.slice none _ _)) _) rfl ?_; refine wpList_stp rfl (stp_val (run_nse _ _ _ rfl) ?_)) | (refine wpList_is (.binOp .neq _ _ (.const (.slice none _ _)) _) rfl ?_; refine wpList_stp rfl (stp_val (run_nsn _ _ _ rfl) ?_)) | (refine region_quiet hS (by kernel_rfl) (by kernel_rfl) (fun hne => ?_); (repeat (first | go_big_quiet_skip | (go_big_quiet_want; first | (refine quiet_is (.load _ _) rfl ?_; go_must (first | refine quiet_at sw_st (fun w hS => run_ld _ _ rfl hS) ?_ | refine quiet_at sw_st (fun w hS => run_lda _ _ rfl hS) ?_ | refine quiet_at sw_st (fun w hS => run_ld0 _ _ rfl hS) ?_ | refine quiet_at sw_st (fun w hS => run_lda0 _ _ rfl hS) ?_); go_big_quiet_on) | (refine quiet_is (.binOp .eql _ _ (.const (.slice none _ _)) _) rfl ?_; refine quiet_val (fun w _ => run_nse _ _ _ rfl) ?_; go_big_quiet_on) | (refine quiet_is (.binOp .neq _ _ (.const (.slice none _ _)) _) rfl ?_; refine quiet_val (fun w _ => run_nsn _ _ _ rfl) ?_; go_big_quiet_on) | (go_big_quiet_op; go_big_quiet_on)))); refine wpQuiet_nil ?_; clear hS hne; intro w hS))
        go_roundw
        case rel =>
          refine ⟨k + 1, by omega, by go_num, ?_⟩
          unfold cnt3
          rw [e0.out, e1.out, e2.out, e0'.out]
          simpa using hS
        case measure => simp [intOf]; omega
    · obtain rfl : k = 1 + m := by omega
      unfold cnt3 at hS
      have hz := grey_has (L := L) (1 + m) (by rw [hC.l]; omega)
      have hsum := cnt_sum hC.c (1 + m) (by rw [hC.l]; omega)
      obtain ⟨x, ex⟩ : ∃ x, cnt 0 L (1 + m) = x := ⟨_, rfl⟩
      obtain ⟨y, ey⟩ : ∃ x, cnt 1 L (1 + m) = x := ⟨_, rfl⟩
      obtain ⟨z, ez⟩ : ∃ x, cnt 2 L (1 + m) = x := ⟨_, rfl⟩
      rw [ex, ey, ez] at hS hsum
      rw [ey] at hz
      have tn : (1 + (m : Int)).toNat = 1 + m := by omega
      have ex' := Lib.hid ((congrArg (cnt 0 L) tn).trans ex)
      have ey' := Lib.hid ((congrArg (cnt 1 L) tn).trans ey)
      have ez' := Lib.hid ((congrArg (cnt 2 L) tn).trans ez)
      have hz' := Lib.hid hz
      clear ex ey ez hz tn
      have q1 : ((x : Int) + y + z != 1 + m) = false := by simp; omega
      have q2 : (x : Int) + y + z = 1 + m := by omega
      obtain ⟨sy, hsy⟩ : ∃ s, decide (0 < (y : Int)) = s := ⟨_, rfl⟩
      have hsy' : decide (0 < y) = sy := by rw [← hsy]; simp
      obtain ⟨g0, hg0⟩ : ∃ g : Int, (((firstOf (isGrey L 0) (1 + m)).getD 0 : Nat) : Int) = g := ⟨_, rfl⟩
      have hg0' := Lib.hid hg0
      clear hg0
      go_wp2_with (first | (go_at_call 20; refine counts_eq hS hn0 hn1 hC.l hC.c x y z ex'.out ey'.out ez'.out ?_; clear hS; intro w hS; unfold Ret) | (go_at_call 21; refine grey_eq hS (n := 1 + m) _ (by omega) (by omega) (by omega) hC.l _ rfl g0 hg0'.out sy (hz'.out.trans hsy') ?_; clear hS; intro w hS; unfold Ret) | (refine wpList_is (.build _ _) rfl ?_; go_must (refine wpList_stp rfl (stp_val (run_bd _ _ rfl) ?_))) | (refine wpList_is (.call { callee := .builtin .clear, args := #[_], argTypes := #[_] }) rfl ?_; go_must (refine wpList_stp rfl (stp_cl _ _ rfl hS (by decide) ?_)); clear hS; intro w hS) | (refine wpList_is (.load _ _) rfl ?_; go_must (first | refine wpList_stp rfl (stp_val (run_ld _ _ rfl hS) ?_) | refine wpList_stp rfl (stp_val (run_lda _ _ rfl hS) ?_) | refine wpList_stp rfl (stp_val (run_ld0 _ _ rfl hS) ?_) | refine wpList_stp rfl (stp_val (run_lda0 _ _ rfl hS) ?_))) | (refine wpList_is (.store _ _ _) rfl ?_; go_must (first | refine wpList_stp rfl (stp_st _ _ _ rfl hS ?_) | refine wpList_stp rfl (stp_sta _ _ _ rfl hS ?_)); clear hS; intro w hS) | (refine wpList_is (.alloc _) rfl ?_; go_must (refine wpList_stp rfl (stp_al _ rfl hS ?_)); clear hS; intro bN w hbN hS) | (refine wpList_is (.box _ _) rfl ?_; go_must (refine wpList_stp rfl (stp_bx _ _ rfl hS ?_)); clear hS; intro bN w hbN hS) | (refine wpList_is (.binOp .eql _ _ (.const (.slice none _ _)) _) rfl ?_; refine wpList_stp rfl (stp_val (run_nse _ _ _ rfl) ?_)) | (refine wpList_is (.binOp .neq _ _ (.const (.slice none _ _)) _) rfl ?_; refine wpList_stp rfl (stp_val (run_nsn _ _ _ rfl) ?_)) | (refine region_quiet hS (by kernel_rfl) (by kernel_rfl) (fun hne => ?_); (repeat (first | go_big_quiet_skip | (go_big_quiet_want; first | (refine quiet_is (.load _ _) rfl ?_; go_must (first | refine quiet_at sw_st (fun w hS => run_ld _ _ rfl hS) ?_ | refine quiet_at sw_st (fun w hS => run_lda _ _ rfl hS) ?_ | refine quiet_at sw_st (fun w hS => run_ld0 _ _ rfl hS) ?_ | refine quiet_at sw_st (fun w hS => run_lda0 _ _ rfl hS) ?_); go_big_quiet_on) | (refine quiet_is (.binOp .eql _ _ (.const (.slice none _ _)) _) rfl ?_; refine quiet_val (fun w _ => run_nse _ _ _ rfl) ?_; go_big_quiet_on) | (refine quiet_is (.binOp .neq _ _ (.const (.slice none _ _)) _) rfl ?_; refine quiet_val (fun w _ => run_nsn _ _ _ rfl) ?_; go_big_quiet_on) | (go_big_quiet_op; go_big_quiet_on)))); refine wpQuiet_nil ?_; clear hS hne; intro w hS))
      go_loopw [92, 18] (fun u a wr => ∃ (i : Nat) (at' : Int), i ≤ 1 + m ∧ u = .int .i64 i ∧ a = .int .i64 at' ∧ (∀ j, j < 1 + m → isGrey L at' j = (decide (i ≤ j) && isGrey L f j)) ∧ St W [] wr [⟨bN, #[.int .i64 x, .int .i64 y, .int .i64 z], 45, true⟩, ⟨c1, intsK .i64 C, 3, true⟩, ⟨pb, paintCells (1 + (m : Int)) L, 59, true⟩]) (fun u _ _ => 1 + m - (intOf u).toNat)
      case atStart => exact ⟨0, f, Nat.zero_le _, rfl, rfl, fun j _ => by simp, hS⟩
      case round =>
        clear hS
        obtain ⟨i, at', hi, rfl, rfl, hat, hS⟩ := hrel
        by_cases hlt : i < 1 + m
        · have g1 := intsAt (k := .i64) (L := C) (i := i) (by rw [hT.l]; exact hlt)
          rw [hT.eq i hlt] at g1
          obtain ⟨c, hc⟩ : ∃ c, L.getD i 0 = c := ⟨_, rfl⟩
          rw [hc] at g1
          have hc' := Lib.hid hc
          have hat' := Lib.hid hat
          clear hc hat
          by_cases hf : (i : Int) < f
          · have r1 : decide ((i : Int) < f) = true := by simpa using hf
            go_wp2_with (first | (refine wpList_is (.build _ _) rfl ?_; go_must (refine wpList_stp rfl (stp_val (run_bd _ _ rfl) ?_))) | (refine wpList_is (.call { callee := .builtin .clear, args := #[_], argTypes := #[_] }) rfl ?_; go_must (refine wpList_stp rfl (stp_cl _ _ rfl hS (by decide) ?_)); clear hS; intro w hS) | (refine wpList_is (.load _ _) rfl ?_; go_must (first | refine wpList_stp rfl (stp_val (run_ld _ _ rfl hS) ?_) | refine wpList_stp rfl (stp_val (run_lda _ _ rfl hS) ?_) | refine wpList_stp rfl (stp_val (run_ld0 _ _ rfl hS) ?_) | refine wpList_stp rfl (stp_val (run_lda0 _ _ rfl hS) ?_))) | (refine wpList_is (.store _ _ _) rfl ?_; go_must (first | refine wpList_stp rfl (stp_st _ _ _ rfl hS ?_) | refine wpList_stp rfl (stp_sta _ _ _ rfl hS ?_)); clear hS; intro w hS) | (refine wpList_is (.alloc _) rfl ?_; go_must (refine wpList_stp rfl (stp_al _ rfl hS ?_)); clear hS; intro bN w hbN hS) | (refine wpList_is (.box _ _) rfl ?_; go_must (refine wpList_stp rfl (stp_bx _ _ rfl hS ?_)); clear hS; intro bN w hbN hS) | (refine wpList_is (.binOp .eql _ _ (.const (.slice none _ _)) _) rfl ?_; refine wpList_stp rfl (stp_val (run_nse _ _ _ rfl) ?_)) | (refine wpList_is (.binOp .neq _ _ (.const (.slice none _ _)) _) rfl ?_; refine wpList_stp rfl (stp_val (run_nsn _ _ _ rfl) ?_)) | (refine region_quiet hS (by kernel_rfl) (by kernel_rfl) (fun hne => ?_); (repeat (first | go_big_quiet_skip | (go_big_quiet_want; first | (refine quiet_is (.load _ _) rfl ?_; go_must (first | refine quiet_at sw_st (fun w hS => run_ld _ _ rfl hS) ?_ | refine quiet_at sw_st (fun w hS => run_lda _ _ rfl hS) ?_ | refine quiet_at sw_st (fun w hS => run_ld0 _ _ rfl hS) ?_ | refine quiet_at sw_st (fun w hS => run_lda0 _ _ rfl hS) ?_); go_big_quiet_on) | (refine quiet_is (.binOp .eql _ _ (.const (.slice none _ _)) _) rfl ?_; refine quiet_val (fun w _ => run_nse _ _ _ rfl) ?_; go_big_quiet_on) | (refine quiet_is (.binOp .neq _ _ (.const (.slice none _ _)) _) rfl ?_; refine quiet_val (fun w _ => run_nsn _ _ _ rfl) ?_; go_big_quiet_on) | (go_big_quiet_op; go_big_quiet_on)))); refine wpQuiet_nil ?_; clear hS hne; intro w hS))
            go_roundw
            case rel =>
              refine ⟨i + 1, at', by omega, by go_num, rfl, fun j hj => ?_, hS⟩
              rw [hat'.out j hj]
              by_cases e : j = i
              · subst e; unfold isGrey; simp; omega
              · congr 1; simp; omega
            case measure => simp [intOf]; omega
          · have r1 : decide ((i : Int) < f) = false := by simpa using hf
            by_cases hc1 : c = 1
            · subst hc1
              have hgi : isGrey L f i = true := by unfold isGrey; rw [hc'.out]; simp; omega
              have hfirst : firstOf (isGrey L at') (1 + m) = some i := by
                refine first_at hlt (fun j hj => ?_) ?_
                · rw [hat'.out j (by omega), decide_eq_false (by omega)]; rfl
                · rw [hat'.out i hlt, hgi, decide_eq_true (Nat.le_refl _)]; rfl
              have hfirst' := Lib.hid hfirst
              clear hfirst
              go_wp2_with (first | (go_at_call 21; refine grey_eq hS (n := 1 + m) _ (by omega) (by omega) (by omega) hC.l _ hfirst'.out (i : Int) rfl true rfl ?_; clear hS; intro w hS; unfold Ret) | (refine wpList_is (.build _ _) rfl ?_; go_must (refine wpList_stp rfl (stp_val (run_bd _ _ rfl) ?_))) | (refine wpList_is (.call { callee := .builtin .clear, args := #[_], argTypes := #[_] }) rfl ?_; go_must (refine wpList_stp rfl (stp_cl _ _ rfl hS (by decide) ?_)); clear hS; intro w hS) | (refine wpList_is (.load _ _) rfl ?_; go_must (first | refine wpList_stp rfl (stp_val (run_ld _ _ rfl hS) ?_) | refine wpList_stp rfl (stp_val (run_lda _ _ rfl hS) ?_) | refine wpList_stp rfl (stp_val (run_ld0 _ _ rfl hS) ?_) | refine wpList_stp rfl (stp_val (run_lda0 _ _ rfl hS) ?_))) | (refine wpList_is (.store _ _ _) rfl ?_; go_must (first | refine wpList_stp rfl (stp_st _ _ _ rfl hS ?_) | refine wpList_stp rfl (stp_sta _ _ _ rfl hS ?_)); clear hS; intro w hS) | (refine wpList_is (.alloc _) rfl ?_; go_must (refine wpList_stp rfl (stp_al _ rfl hS ?_)); clear hS; intro bN w hbN hS) | (refine wpList_is (.box _ _) rfl ?_; go_must (refine wpList_stp rfl (stp_bx _ _ rfl hS ?_)); clear hS; intro bN w hbN hS) | (refine wpList_is (.binOp .eql _ _ (.const (.slice none _ _)) _) rfl ?_; refine wpList_stp rfl (stp_val (run_nse _ _ _ rfl) ?_)) | (refine wpList_is (.binOp .neq _ _ (.const (.slice none _ _)) _) rfl ?_; refine wpList_stp rfl (stp_val (run_nsn _ _ _ rfl) ?_)) | (refine region_quiet hS (by kernel_rfl) (by kernel_rfl) (fun hne => ?_); (repeat (first | go_big_quiet_skip | (go_big_quiet_want; first | (refine quiet_is (.load _ _) rfl ?_; go_must (first | refine quiet_at sw_st (fun w hS => run_ld _ _ rfl hS) ?_ | refine quiet_at sw_st (fun w hS => run_lda _ _ rfl hS) ?_ | refine quiet_at sw_st (fun w hS => run_ld0 _ _ rfl hS) ?_ | refine quiet_at sw_st (fun w hS => run_lda0 _ _ rfl hS) ?_); go_big_quiet_on) | (refine quiet_is (.binOp .eql _ _ (.const (.slice none _ _)) _) rfl ?_; refine quiet_val (fun w _ => run_nse _ _ _ rfl) ?_; go_big_quiet_on) | (refine quiet_is (.binOp .neq _ _ (.const (.slice none _ _)) _) rfl ?_; refine quiet_val (fun w _ => run_nsn _ _ _ rfl) ?_; go_big_quiet_on) | (go_big_quiet_op; go_big_quiet_on)))); refine wpQuiet_nil ?_; clear hS hne; intro w hS))
              go_roundw
              case rel =>
                refine ⟨i + 1, (i : Int) + 1, by omega, by go_num, by go_num, fun j hj => ?_, hS⟩
                have hb : decide ((i : Int) + 1 ≤ j) = (decide (i + 1 ≤ j) && decide (f ≤ (j : Int))) := by
                  rw [Bool.eq_iff_iff]; simp only [Bool.and_eq_true, decide_eq_true_eq]; omega
                unfold isGrey
                rw [hb, Bool.and_assoc]
              case measure => simp [intOf]; omega
            · have r2 : (c != 1) = true := by simpa using hc1
              have r3 : (c == 1) = false := by simpa using hc1
              go_wp2_with (first | (refine wpList_is (.build _ _) rfl ?_; go_must (refine wpList_stp rfl (stp_val (run_bd _ _ rfl) ?_))) | (refine wpList_is (.call { callee := .builtin .clear, args := #[_], argTypes := #[_] }) rfl ?_; go_must (refine wpList_stp rfl (stp_cl _ _ rfl hS (by decide) ?_)); clear hS; intro w hS) | (refine wpList_is (.load _ _) rfl ?_; go_must (first | refine wpList_stp rfl (stp_val (run_ld _ _ rfl hS) ?_) | refine wpList_stp rfl (stp_val (run_lda _ _ rfl hS) ?_) | refine wpList_stp rfl (stp_val (run_ld0 _ _ rfl hS) ?_) | refine wpList_stp rfl (stp_val (run_lda0 _ _ rfl hS) ?_))) | (refine wpList_is (.store _ _ _) rfl ?_; go_must (first | refine wpList_stp rfl (stp_st _ _ _ rfl hS ?_) | refine wpList_stp rfl (stp_sta _ _ _ rfl hS ?_)); clear hS; intro w hS) | (refine wpList_is (.alloc _) rfl ?_; go_must (refine wpList_stp rfl (stp_al _ rfl hS ?_)); clear hS; intro bN w hbN hS) | (refine wpList_is (.box _ _) rfl ?_; go_must (refine wpList_stp rfl (stp_bx _ _ rfl hS ?_)); clear hS; intro bN w hbN hS) | (refine wpList_is (.binOp .eql _ _ (.const (.slice none _ _)) _) rfl ?_; refine wpList_stp rfl (stp_val (run_nse _ _ _ rfl) ?_)) | (refine wpList_is (.binOp .neq _ _ (.const (.slice none _ _)) _) rfl ?_; refine wpList_stp rfl (stp_val (run_nsn _ _ _ rfl) ?_)) | (refine region_quiet hS (by kernel_rfl) (by kernel_rfl) (fun hne => ?_); (repeat (first | go_big_quiet_skip | (go_big_quiet_want; first | (refine quiet_is (.load _ _) rfl ?_; go_must (first | refine quiet_at sw_st (fun w hS => run_ld _ _ rfl hS) ?_ | refine quiet_at sw_st (fun w hS => run_lda _ _ rfl hS) ?_ | refine quiet_at sw_st (fun w hS => run_ld0 _ _ rfl hS) ?_ | refine quiet_at sw_st (fun w hS => run_lda0 _ _ rfl hS) ?_); go_big_quiet_on) | (refine quiet_is (.binOp .eql _ _ (.const (.slice none _ _)) _) rfl ?_; refine quiet_val (fun w _ => run_nse _ _ _ rfl) ?_; go_big_quiet_on) | (refine quiet_is (.binOp .neq _ _ (.const (.slice none _ _)) _) rfl ?_; refine quiet_val (fun w _ => run_nsn _ _ _ rfl) ?_; go_big_quiet_on) | (go_big_quiet_op; go_big_quiet_on)))); refine wpQuiet_nil ?_; clear hS hne; intro w hS))
              go_roundw
              case rel =>
                refine ⟨i + 1, at', by omega, by go_num, rfl, fun j hj => ?_, hS⟩
                rw [hat'.out j hj]
                by_cases e : j = i
                · subst e; unfold isGrey; rw [hc'.out, r3]; simp
                · congr 1; simp; omega
              case measure => simp [intOf]; omega
        · obtain rfl : i = 1 + m := by omega
          have hfirst : firstOf (isGrey L at') (1 + m) = none := first_no fun j hj => by rw [hat j hj, decide_eq_false (by omega)]; rfl
          have hfirst' := Lib.hid hfirst
          clear hfirst hat
          go_wp2_with (first | (go_at_call 21; refine grey_eq hS (n := 1 + m) _ (by omega) (by omega) (by omega) hC.l _ hfirst'.out 0 rfl false rfl ?_; clear hS; intro w hS; unfold Ret) | (go_at_call 13; refine works_ok hS ?_; clear hS; intro w hS; unfold Ret) | (refine wpList_is (.build _ _) rfl ?_; go_must (refine wpList_stp rfl (stp_val (run_bd _ _ rfl) ?_))) | (refine wpList_is (.call { callee := .builtin .clear, args := #[_], argTypes := #[_] }) rfl ?_; go_must (refine wpList_stp rfl (stp_cl _ _ rfl hS (by decide) ?_)); clear hS; intro w hS) | (refine wpList_is (.load _ _) rfl ?_; go_must (first | refine wpList_stp rfl (stp_val (run_ld _ _ rfl hS) ?_) | refine wpList_stp rfl (stp_val (run_lda _ _ rfl hS) ?_) | refine wpList_stp rfl (stp_val (run_ld0 _ _ rfl hS) ?_) | refine wpList_stp rfl (stp_val (run_lda0 _ _ rfl hS) ?_))) | (refine wpList_is (.store _ _ _) rfl ?_; go_must (first | refine wpList_stp rfl (stp_st _ _ _ rfl hS ?_) | refine wpList_stp rfl (stp_sta _ _ _ rfl hS ?_)); clear hS; intro w hS) | (refine wpList_is (.alloc _) rfl ?_; go_must (refine wpList_stp rfl (stp_al _ rfl hS ?_)); clear hS; intro bN w hbN hS) | (refine wpList_is (.box _ _) rfl ?_; go_must (refine wpList_stp rfl (stp_bx _ _ rfl hS ?_)); clear hS; intro bN w hbN hS) | (refine wpList_is (.binOp .eql _ _ (.const (.slice none _ _)) _) rfl ?_; refine wpList_stp rfl (stp_val (run_nse _ _ _ rfl) ?_)) | (refine wpList_is (.binOp .neq _ _ (.const (.slice none _ _)) _) rfl ?_; refine wpList_stp rfl (stp_val (run_nsn _ _ _ rfl) ?_)) | (refine region_quiet hS (by kernel_rfl) (by kernel_rfl) (fun hne => ?_); (repeat (first | go_big_quiet_skip | (go_big_quiet_want; first | (refine quiet_is (.load _ _) rfl ?_; go_must (first | refine quiet_at sw_st (fun w hS => run_ld _ _ rfl hS) ?_ | refine quiet_at sw_st (fun w hS => run_lda _ _ rfl hS) ?_ | refine quiet_at sw_st (fun w hS => run_ld0 _ _ rfl hS) ?_ | refine quiet_at sw_st (fun w hS => run_lda0 _ _ rfl hS) ?_); go_big_quiet_on) | (refine quiet_is (.binOp .eql _ _ (.const (.slice none _ _)) _) rfl ?_; refine quiet_val (fun w _ => run_nse _ _ _ rfl) ?_; go_big_quiet_on) | (refine quiet_is (.binOp .neq _ _ (.const (.slice none _ _)) _) rfl ?_; refine quiet_val (fun w _ => run_nsn _ _ _ rfl) ?_; go_big_quiet_on) | (go_big_quiet_op; go_big_quiet_on)))); refine wpQuiet_nil ?_; clear hS hne; intro w hS))
          exact hR _ hS.chg
end Go.Proofs.Ytpfcjlbgljcooaa
