/-
  The walk of LeasesApart.
-/
import Derived.Test.YtbjcjbkgjnojmaaDmoveZ
set_option linter.unusedSimpArgs false
set_option linter.unusedVariables false
namespace Go.Proofs.Ytbjcjbkgjnojmaa
open Go.RowKit Go.Mm
variable {R : Ending → World → Prop}

set_option maxHeartbeats 2000000 in
set_option maxRecDepth 100000 in
theorem walk_lapart {W : World} (z : Int) (wz : (Lit.int .u8 z).wf = true) (v : Value) {n sb so : Nat} {F : Nat → Nat → Value} (hv : Flat W [.i .u8, .i .u8, .i .u8, .i .u8] v n sb so F) (cs : List Value) (hm : OkCells [.i .u8, .i .u8, .i .u8, .i .u8] cs) (hR : ∀ w', Chg W w' [] → Ret R (.bool true) w') :
    Calls Try.prog 5 #[.int .u8 z, v, .agg cs.toArray] W R := by
  have hS : St W [] W [] := St.start0
  have hz := bounds_u8m wz
  obtain ⟨xa, xb, xc, xd, rfl, wa, wb, wc, wd⟩ : ∃ xa xb xc xd : Int, cs = [.int .u8 xa, .int .u8 xb, .int .u8 xc, .int .u8 xd] ∧ (Lit.int .u8 xa).wf = true ∧ (Lit.int .u8 xb).wf = true ∧ (Lit.int .u8 xc).wf = true ∧ (Lit.int .u8 xd).wf = true := by
    cases hm with
    | cons h1 h2 => cases h2 with
      | cons h3 h4 => cases h4 with
        | cons h5 h6 => cases h6 with
          | cons h7 h8 =>
            cases h8
            obtain ⟨a, rfl, wa⟩ := h1
            obtain ⟨b, rfl, wb⟩ := h3
            obtain ⟨c, rfl, wc⟩ := h5
            obtain ⟨d, rfl, wd⟩ := h7
            exact ⟨a, b, c, d, rfl, wa, wb, wc, wd⟩
  have ba := bounds_u8m wa
  have bb := bounds_u8m wb
  have bc := bounds_u8m wc
  have bd := bounds_u8m wd
  clear hm wa wb wc wd
  go_enter Try.func5, Try.ntmps5
  go_wp2_with (first
    | go_skip
    | (refine wpList_is (.box 46 _) rfl ?_; go_must (refine wpList_stp rfl (stp_bx _ _ rfl hS ?_)); clear hS; intro bm w _ hS)
    | (go_at_call 19; refine played_ok hS z 1 hz (by omega) hv ?_; clear hS; intro b p L0 l0 us0 now0 E w hX hI0 hnow0 hl0 _ hS; obtain ⟨u1, u2, F1, F2, F3, hT0, hA0, hU0, rfl⟩ := hX; have ho1 := hA0.one; have ho2 := hU0.one; have hul0' := Lib.hid hI0.len; simp only [List.cons_append, List.append_nil, List.append_assoc] at hS; unfold Ret)
    | (go_at_call 20; refine clone_ok hS hU0 (by have := hul0'.out; omega) ?_; clear hS; intro vb Eb w hB hS; have hob := hB.one; unfold Ret)
    | (go_at_call 21; go_must (refine step_any (H1 := Eb ++ [⟨bm, #[.int .u8 xa, .int .u8 xb, .int .u8 xc, .int .u8 xd], 46, true⟩]) (show St W [] w ((⟨b, #[.pointer p, u1, u2, .int .i64 now0, .bool true], 52, true⟩ :: (F1 ++ (F2 ++ F3))) ++ (Eb ++ [⟨bm, #[.int .u8 xa, .int .u8 xb, .int .u8 xc, .int .u8 xd], 46, true⟩])) from by simp only [List.cons_append, List.append_assoc]; exact hS.pick) (show DX b p L0 l0 us0 now0 true (⟨b, #[.pointer p, u1, u2, .int .i64 now0, .bool true], 52, true⟩ :: (F1 ++ (F2 ++ F3))) from ⟨u1, u2, F1, F2, F3, hT0, hA0, hU0, rfl⟩) hI0 (by omega) (by omega) xa xb xc xd ba bb bc bd ?_); clear hS; intro L l us now E w hX hI hn1 hn2 hl2 hnx _ hS; obtain ⟨v1, v2, E1, E2, E3, hT, hA, hU, rfl⟩ := hX; have hnx' := Lib.hid hnx; have hul' := Lib.hid hI.len; have hI' := Lib.hid hI; have ho3 := hA.one; have ho4 := hU.one; obtain ⟨q, hq⟩ : ∃ q, l.length = q := ⟨_, rfl⟩; have hq' := Lib.hid hq; have hq100 : q ≤ 101 := (by rw [← hq]; omega); have hlA := hA.len hq; obtain ⟨q0, hq0⟩ : ∃ q0, us0.length = q0 := ⟨_, rfl⟩; have hq0' := Lib.hid hq0; have hlB := hB.len hq0; clear hq hq0 hnx hI hT0 hA0 hU0 hI0; simp only [List.cons_append, List.append_nil, List.append_assoc] at hS; unfold Ret)
    | go_skip | (refine wpList_is (.call { callee := .builtin .len, args := #[_], argTypes := #[_] }) rfl ?_; refine wpList_stp rfl (stp_val (run_lenv _ _ rfl) ?_)) | (refine wpList_is (.slice _ _ none (some _) none) rfl ?_; refine wpList_stp rfl (stp_val (run_prev _ _ _ rfl) ?_)) | (refine wpList_is (.indexAddr _ _ _) rfl ?_; refine wpList_stp rfl (stp_val (run_idxv _ _ _ rfl) ?_)) | go_skip | (refine wpList_is (.build _ _) rfl ?_; go_must (refine wpList_stp rfl (stp_val (run_bd _ _ rfl) ?_))) | (refine wpList_is (.call { callee := .builtin .clear, args := #[_], argTypes := #[_] }) rfl ?_; go_must (refine wpList_stp rfl (stp_cl _ _ rfl hS (by decide) ?_)); clear hS; intro w hS) | (refine wpList_is (.load _ _) rfl ?_; go_must (first | refine wpList_stp rfl (stp_val (run_ld _ _ rfl hS) ?_) | refine wpList_stp rfl (stp_val (run_lda _ _ rfl hS) ?_) | refine wpList_stp rfl (stp_val (run_ld0 _ _ rfl hS) ?_) | refine wpList_stp rfl (stp_val (run_lda0 _ _ rfl hS) ?_))) | (refine wpList_is (.store _ _ _) rfl ?_; go_must (first | refine wpList_stp rfl (stp_st _ _ _ rfl hS ?_) | refine wpList_stp rfl (stp_sta _ _ _ rfl hS ?_)); clear hS; intro w hS) | (refine wpList_is (.alloc _) rfl ?_; go_must (refine wpList_stp rfl (stp_al _ rfl hS ?_)); clear hS; intro bN w hbN hS) | (refine wpList_is (.box _ _) rfl ?_; go_must (refine wpList_stp rfl (stp_bx _ _ rfl hS ?_)); clear hS; intro bN w hbN hS) | (refine wpList_is (.binOp .eql _ _ (.const (.slice none _ _)) _) rfl ?_; refine wpList_stp rfl (stp_val (run_nse _ _ _ rfl) ?_)) | (refine wpList_is (.binOp .neq _ _ (.const (.slice none _ _)) _) rfl ?_; refine wpList_stp rfl (stp_val (run_nsn _ _ _ rfl) ?_)))
  have hq00 : q0 ≤ 100 := by rw [← hq0'.out, hul0'.out]; omega
  go_loopw [36, 9] (fun u c wr => ∃ (k : Nat) (d : Nat), k ≤ q ∧ u = .int .i64 k ∧ c = .int .i64 d ∧ d = chgN us0 us k ∧ St W [] wr (⟨b, #[.pointer p, v1, v2, .int .i64 now, .bool true], 52, true⟩ :: (E1 ++ (E2 ++ (E3 ++ Eb))))) (fun u _ _ => q - (intOf u).toNat)
  case atStart => exact ⟨0, 0, Nat.zero_le _, rfl, rfl, rfl, hS.pick⟩
  case round =>
    clear hS
    obtain ⟨k, d, hk, rfl, rfl, hd, hS⟩ := hrel
    have hdb : d ≤ k := by rw [hd]; exact chgN_bd _ _ _
    by_cases hlt : k < q
    · have hkl : k < l.length := by rw [hq'.out]; exact hlt
      have hku : k < us.length := by rw [hul'.out]; exact hkl
      obtain ⟨u, hu⟩ : ∃ u, us.getD k 0 = u := ⟨_, rfl⟩
      obtain ⟨g3, cap3, sp3, -, hE3, i3, c3, _, _⟩ := hU.at hku hu
      have i3 := i3 k rfl
      obtain ⟨⟨ko, oi, og⟩, ho⟩ : ∃ o, l.getD k (0, 0, 0) = o := ⟨_, rfl⟩
      obtain ⟨g2, sp2, i2, hh2, c2⟩ := hA.at hkl ho
      have i2 := i2 k rfl
      simp only at c2
      have hat := hI'.out.at' k hkl
      rw [show lgO l k = (ko, oi, og) from ho, show lgU us k = u from hu] at hat
      have hog : 0 ≤ og ∧ og ≤ 4294967295 := by
        obtain ⟨_, _, _, _, h3, h4, _⟩ := hat
        simp only at h3 h4
        omega
      obtain ⟨he1, hu1⟩ := wi_at hI'.out.w hat
      simp only at he1 hu1
      have hh3 : Has E3 g3 (blk [] j64f us sp3) 2 := by rw [hE3]; exact hasHead
      have hnext : chgN us0 us (k + 1) = d + (if k < q0 ∧ lgU us0 k = u then 0 else 1) := by
        rw [hd, ← hq0'.out, ← hu]; rfl
      have hu1' := Lib.hid hu1
      clear hkl hku hE3 hat hd hu1 hu ho
      by_cases hb : k < q0
      · have d1 : decide ((k : Int) < q0) = true := decide_eq_true (by omega)
        have d2 : decide (k < q0) = true := decide_eq_true hb
        have d3 : decide ((q0 : Int) ≤ k) = false := decide_eq_false (by omega)
        have d4 : decide (q0 ≤ k) = false := decide_eq_false (by omega)
        have hkb : k < us0.length := by rw [hq0'.out]; exact hb
        obtain ⟨a, ha⟩ : ∃ u, us0.getD k 0 = u := ⟨_, rfl⟩
        obtain ⟨g4, cap4, sp4, -, hE4, i4, c4, _, _⟩ := hB.at hkb ha
        have i4 := i4 k rfl
        have hh4 : Has Eb g4 (blk [] j64f us0 sp4) 2 := by rw [hE4]; exact hasHead
        rw [show lgU us0 k = a from ha] at hnext
        clear hkb ha hE4
        by_cases hau : a = u
        · subst hau
          rw [if_pos ⟨hb, rfl⟩, Nat.add_zero] at hnext
          have hnext' := Lib.hid hnext.symm
          clear hnext
          by_cases h0 : a = 0
          · subst h0
            simp only [if_true] at he1
            have he1' := Lib.hid he1
            clear he1
            go_wp2_with (first | go_skip | (refine wpList_is (.alloc 29) rfl ?_; go_must (refine wpList_stp rfl (stp_al _ rfl hS ?_)); clear hS; intro bo w _ hS) | go_skip | (refine wpList_is (.call { callee := .builtin .len, args := #[_], argTypes := #[_] }) rfl ?_; refine wpList_stp rfl (stp_val (run_lenv _ _ rfl) ?_)) | (refine wpList_is (.slice _ _ none (some _) none) rfl ?_; refine wpList_stp rfl (stp_val (run_prev _ _ _ rfl) ?_)) | (refine wpList_is (.indexAddr _ _ _) rfl ?_; refine wpList_stp rfl (stp_val (run_idxv _ _ _ rfl) ?_)) | go_skip | (refine wpList_is (.build _ _) rfl ?_; go_must (refine wpList_stp rfl (stp_val (run_bd _ _ rfl) ?_))) | (refine wpList_is (.call { callee := .builtin .clear, args := #[_], argTypes := #[_] }) rfl ?_; go_must (refine wpList_stp rfl (stp_cl _ _ rfl hS (by decide) ?_)); clear hS; intro w hS) | (refine wpList_is (.load _ _) rfl ?_; go_must (first | refine wpList_stp rfl (stp_val (run_ld _ _ rfl hS) ?_) | refine wpList_stp rfl (stp_val (run_lda _ _ rfl hS) ?_) | refine wpList_stp rfl (stp_val (run_ld0 _ _ rfl hS) ?_) | refine wpList_stp rfl (stp_val (run_lda0 _ _ rfl hS) ?_))) | (refine wpList_is (.store _ _ _) rfl ?_; go_must (first | refine wpList_stp rfl (stp_st _ _ _ rfl hS ?_) | refine wpList_stp rfl (stp_sta _ _ _ rfl hS ?_)); clear hS; intro w hS) | (refine wpList_is (.alloc _) rfl ?_; go_must (refine wpList_stp rfl (stp_al _ rfl hS ?_)); clear hS; intro bN w hbN hS) | (refine wpList_is (.box _ _) rfl ?_; go_must (refine wpList_stp rfl (stp_bx _ _ rfl hS ?_)); clear hS; intro bN w hbN hS) | (refine wpList_is (.binOp .eql _ _ (.const (.slice none _ _)) _) rfl ?_; refine wpList_stp rfl (stp_val (run_nse _ _ _ rfl) ?_)) | (refine wpList_is (.binOp .neq _ _ (.const (.slice none _ _)) _) rfl ?_; refine wpList_stp rfl (stp_val (run_nsn _ _ _ rfl) ?_)))
            refine region_new [] rfl hS _ (by kernel_rfl) (by kernel_rfl) (hpk := pickRefl) ?_
            refine fx_val (fun _ => rfl) rfl (fun χ w hw => run_mv _ rfl) ?_
            refine fx_val (fun _ => rfl) rfl (fun χ w hw => run_nc _ rfl) ?_
            refine fx_val (fun _ => rfl) rfl (fun χ w hw => run_fa _ _ _ rfl) ?_
            refine fx_val (fun _ => rfl) rfl (fun χ w hw => run_ld _ _ rfl hw) ?_
            refine fx_val (fun _ => rfl) rfl (fun χ w hw => run_lda _ _ rfl hw) ?_
            refine fx_ask 14 [_, _] _ rfl (fun _ => rfl) rfl (enters _ (by kernel_rfl)) (.tuple #[.int .i64 0, .int .i64 7]) (fun X w hS => dk_until hS hT ko oi og hog 0 7 hu1'.out he1'.out (fun w' _ hS' => ⟨rfl, hS'.pick⟩)) ?_
            refine fx_val (fun _ => rfl) rfl (fun χ w hw => run_mv _ rfl) ?_
            refine fx_val (fun _ => rfl) rfl (fun χ w hw => run_ext _ _ rfl) ?_
            refine fx_val (fun _ => rfl) rfl (fun χ w hw => run_ext _ _ rfl) ?_
            refine fx_val (fun _ => rfl) rfl (fun χ w hw => run_as _ rfl) ?_
            refine fx_val (fun _ => rfl) rfl (fun χ w hw => run_as _ rfl) ?_
            refine fx_end rfl ?_
            intro χ w hok hS
            replace hS := st_drop hS
            clear hok
            go_wp2_with (first | go_skip | go_skip | (refine wpList_is (.call { callee := .builtin .len, args := #[_], argTypes := #[_] }) rfl ?_; refine wpList_stp rfl (stp_val (run_lenv _ _ rfl) ?_)) | (refine wpList_is (.slice _ _ none (some _) none) rfl ?_; refine wpList_stp rfl (stp_val (run_prev _ _ _ rfl) ?_)) | (refine wpList_is (.indexAddr _ _ _) rfl ?_; refine wpList_stp rfl (stp_val (run_idxv _ _ _ rfl) ?_)) | go_skip | (refine wpList_is (.build _ _) rfl ?_; go_must (refine wpList_stp rfl (stp_val (run_bd _ _ rfl) ?_))) | (refine wpList_is (.call { callee := .builtin .clear, args := #[_], argTypes := #[_] }) rfl ?_; go_must (refine wpList_stp rfl (stp_cl _ _ rfl hS (by decide) ?_)); clear hS; intro w hS) | (refine wpList_is (.load _ _) rfl ?_; go_must (first | refine wpList_stp rfl (stp_val (run_ld _ _ rfl hS) ?_) | refine wpList_stp rfl (stp_val (run_lda _ _ rfl hS) ?_) | refine wpList_stp rfl (stp_val (run_ld0 _ _ rfl hS) ?_) | refine wpList_stp rfl (stp_val (run_lda0 _ _ rfl hS) ?_))) | (refine wpList_is (.store _ _ _) rfl ?_; go_must (first | refine wpList_stp rfl (stp_st _ _ _ rfl hS ?_) | refine wpList_stp rfl (stp_sta _ _ _ rfl hS ?_)); clear hS; intro w hS) | (refine wpList_is (.alloc _) rfl ?_; go_must (refine wpList_stp rfl (stp_al _ rfl hS ?_)); clear hS; intro bN w hbN hS) | (refine wpList_is (.box _ _) rfl ?_; go_must (refine wpList_stp rfl (stp_bx _ _ rfl hS ?_)); clear hS; intro bN w hbN hS) | (refine wpList_is (.binOp .eql _ _ (.const (.slice none _ _)) _) rfl ?_; refine wpList_stp rfl (stp_val (run_nse _ _ _ rfl) ?_)) | (refine wpList_is (.binOp .neq _ _ (.const (.slice none _ _)) _) rfl ?_; refine wpList_stp rfl (stp_val (run_nsn _ _ _ rfl) ?_)))
            go_roundw
            case rel => exact ⟨k + 1, d, by omega, by go_num, by first | rfl | go_num, hnext'.out, hS.pick⟩
            case measure => simp [intOf]; omega
          · rw [if_neg h0] at he1
            have he1' := Lib.hid he1
            clear he1
            go_wp2_with (first | go_skip | (refine wpList_is (.alloc 29) rfl ?_; go_must (refine wpList_stp rfl (stp_al _ rfl hS ?_)); clear hS; intro bo w _ hS) | go_skip | (refine wpList_is (.call { callee := .builtin .len, args := #[_], argTypes := #[_] }) rfl ?_; refine wpList_stp rfl (stp_val (run_lenv _ _ rfl) ?_)) | (refine wpList_is (.slice _ _ none (some _) none) rfl ?_; refine wpList_stp rfl (stp_val (run_prev _ _ _ rfl) ?_)) | (refine wpList_is (.indexAddr _ _ _) rfl ?_; refine wpList_stp rfl (stp_val (run_idxv _ _ _ rfl) ?_)) | go_skip | (refine wpList_is (.build _ _) rfl ?_; go_must (refine wpList_stp rfl (stp_val (run_bd _ _ rfl) ?_))) | (refine wpList_is (.call { callee := .builtin .clear, args := #[_], argTypes := #[_] }) rfl ?_; go_must (refine wpList_stp rfl (stp_cl _ _ rfl hS (by decide) ?_)); clear hS; intro w hS) | (refine wpList_is (.load _ _) rfl ?_; go_must (first | refine wpList_stp rfl (stp_val (run_ld _ _ rfl hS) ?_) | refine wpList_stp rfl (stp_val (run_lda _ _ rfl hS) ?_) | refine wpList_stp rfl (stp_val (run_ld0 _ _ rfl hS) ?_) | refine wpList_stp rfl (stp_val (run_lda0 _ _ rfl hS) ?_))) | (refine wpList_is (.store _ _ _) rfl ?_; go_must (first | refine wpList_stp rfl (stp_st _ _ _ rfl hS ?_) | refine wpList_stp rfl (stp_sta _ _ _ rfl hS ?_)); clear hS; intro w hS) | (refine wpList_is (.alloc _) rfl ?_; go_must (refine wpList_stp rfl (stp_al _ rfl hS ?_)); clear hS; intro bN w hbN hS) | (refine wpList_is (.box _ _) rfl ?_; go_must (refine wpList_stp rfl (stp_bx _ _ rfl hS ?_)); clear hS; intro bN w hbN hS) | (refine wpList_is (.binOp .eql _ _ (.const (.slice none _ _)) _) rfl ?_; refine wpList_stp rfl (stp_val (run_nse _ _ _ rfl) ?_)) | (refine wpList_is (.binOp .neq _ _ (.const (.slice none _ _)) _) rfl ?_; refine wpList_stp rfl (stp_val (run_nsn _ _ _ rfl) ?_)))
            refine region_new [] rfl hS _ (by kernel_rfl) (by kernel_rfl) (hpk := pickRefl) ?_
            refine fx_val (fun _ => rfl) rfl (fun χ w hw => run_mv _ rfl) ?_
            refine fx_val (fun _ => rfl) rfl (fun χ w hw => run_nc _ rfl) ?_
            refine fx_val (fun _ => rfl) rfl (fun χ w hw => run_fa _ _ _ rfl) ?_
            refine fx_val (fun _ => rfl) rfl (fun χ w hw => run_ld _ _ rfl hw) ?_
            refine fx_val (fun _ => rfl) rfl (fun χ w hw => run_lda _ _ rfl hw) ?_
            refine fx_ask 14 [_, _] _ rfl (fun _ => rfl) rfl (enters _ (by kernel_rfl)) (.tuple #[.int .i64 a, .int .i64 0]) (fun X w hS => dk_until hS hT ko oi og hog a 0 hu1'.out he1'.out (fun w' _ hS' => ⟨rfl, hS'.pick⟩)) ?_
            refine fx_val (fun _ => rfl) rfl (fun χ w hw => run_mv _ rfl) ?_
            refine fx_val (fun _ => rfl) rfl (fun χ w hw => run_ext _ _ rfl) ?_
            refine fx_val (fun _ => rfl) rfl (fun χ w hw => run_ext _ _ rfl) ?_
            refine fx_val (fun _ => rfl) rfl (fun χ w hw => run_as _ rfl) ?_
            refine fx_val (fun _ => rfl) rfl (fun χ w hw => run_as _ rfl) ?_
            refine fx_end rfl ?_
            intro χ w hok hS
            replace hS := st_drop hS
            clear hok
            go_wp2_with (first | go_skip | go_skip | (refine wpList_is (.call { callee := .builtin .len, args := #[_], argTypes := #[_] }) rfl ?_; refine wpList_stp rfl (stp_val (run_lenv _ _ rfl) ?_)) | (refine wpList_is (.slice _ _ none (some _) none) rfl ?_; refine wpList_stp rfl (stp_val (run_prev _ _ _ rfl) ?_)) | (refine wpList_is (.indexAddr _ _ _) rfl ?_; refine wpList_stp rfl (stp_val (run_idxv _ _ _ rfl) ?_)) | go_skip | (refine wpList_is (.build _ _) rfl ?_; go_must (refine wpList_stp rfl (stp_val (run_bd _ _ rfl) ?_))) | (refine wpList_is (.call { callee := .builtin .clear, args := #[_], argTypes := #[_] }) rfl ?_; go_must (refine wpList_stp rfl (stp_cl _ _ rfl hS (by decide) ?_)); clear hS; intro w hS) | (refine wpList_is (.load _ _) rfl ?_; go_must (first | refine wpList_stp rfl (stp_val (run_ld _ _ rfl hS) ?_) | refine wpList_stp rfl (stp_val (run_lda _ _ rfl hS) ?_) | refine wpList_stp rfl (stp_val (run_ld0 _ _ rfl hS) ?_) | refine wpList_stp rfl (stp_val (run_lda0 _ _ rfl hS) ?_))) | (refine wpList_is (.store _ _ _) rfl ?_; go_must (first | refine wpList_stp rfl (stp_st _ _ _ rfl hS ?_) | refine wpList_stp rfl (stp_sta _ _ _ rfl hS ?_)); clear hS; intro w hS) | (refine wpList_is (.alloc _) rfl ?_; go_must (refine wpList_stp rfl (stp_al _ rfl hS ?_)); clear hS; intro bN w hbN hS) | (refine wpList_is (.box _ _) rfl ?_; go_must (refine wpList_stp rfl (stp_bx _ _ rfl hS ?_)); clear hS; intro bN w hbN hS) | (refine wpList_is (.binOp .eql _ _ (.const (.slice none _ _)) _) rfl ?_; refine wpList_stp rfl (stp_val (run_nse _ _ _ rfl) ?_)) | (refine wpList_is (.binOp .neq _ _ (.const (.slice none _ _)) _) rfl ?_; refine wpList_stp rfl (stp_val (run_nsn _ _ _ rfl) ?_)))
            go_roundw
            case rel => exact ⟨k + 1, d, by omega, by go_num, by first | rfl | go_num, hnext'.out, hS.pick⟩
            case measure => simp [intOf]; omega
        · rw [if_neg (fun h => hau h.2)] at hnext
          have hnext' := Lib.hid hnext.symm
          have d5 : (a != u) = true := by simpa using hau
          have d6 : (a == u) = false := by simpa using hau
          have d7 : decide (a = u) = false := decide_eq_false hau
          clear hnext
          by_cases h0 : u = 0
          · subst h0
            simp only [if_true] at he1
            have he1' := Lib.hid he1
            clear he1
            go_wp2_with (first | go_skip | (refine wpList_is (.alloc 29) rfl ?_; go_must (refine wpList_stp rfl (stp_al _ rfl hS ?_)); clear hS; intro bo w _ hS) | go_skip | (refine wpList_is (.call { callee := .builtin .len, args := #[_], argTypes := #[_] }) rfl ?_; refine wpList_stp rfl (stp_val (run_lenv _ _ rfl) ?_)) | (refine wpList_is (.slice _ _ none (some _) none) rfl ?_; refine wpList_stp rfl (stp_val (run_prev _ _ _ rfl) ?_)) | (refine wpList_is (.indexAddr _ _ _) rfl ?_; refine wpList_stp rfl (stp_val (run_idxv _ _ _ rfl) ?_)) | go_skip | (refine wpList_is (.build _ _) rfl ?_; go_must (refine wpList_stp rfl (stp_val (run_bd _ _ rfl) ?_))) | (refine wpList_is (.call { callee := .builtin .clear, args := #[_], argTypes := #[_] }) rfl ?_; go_must (refine wpList_stp rfl (stp_cl _ _ rfl hS (by decide) ?_)); clear hS; intro w hS) | (refine wpList_is (.load _ _) rfl ?_; go_must (first | refine wpList_stp rfl (stp_val (run_ld _ _ rfl hS) ?_) | refine wpList_stp rfl (stp_val (run_lda _ _ rfl hS) ?_) | refine wpList_stp rfl (stp_val (run_ld0 _ _ rfl hS) ?_) | refine wpList_stp rfl (stp_val (run_lda0 _ _ rfl hS) ?_))) | (refine wpList_is (.store _ _ _) rfl ?_; go_must (first | refine wpList_stp rfl (stp_st _ _ _ rfl hS ?_) | refine wpList_stp rfl (stp_sta _ _ _ rfl hS ?_)); clear hS; intro w hS) | (refine wpList_is (.alloc _) rfl ?_; go_must (refine wpList_stp rfl (stp_al _ rfl hS ?_)); clear hS; intro bN w hbN hS) | (refine wpList_is (.box _ _) rfl ?_; go_must (refine wpList_stp rfl (stp_bx _ _ rfl hS ?_)); clear hS; intro bN w hbN hS) | (refine wpList_is (.binOp .eql _ _ (.const (.slice none _ _)) _) rfl ?_; refine wpList_stp rfl (stp_val (run_nse _ _ _ rfl) ?_)) | (refine wpList_is (.binOp .neq _ _ (.const (.slice none _ _)) _) rfl ?_; refine wpList_stp rfl (stp_val (run_nsn _ _ _ rfl) ?_)))
            refine region_new [] rfl hS _ (by kernel_rfl) (by kernel_rfl) (hpk := pickRefl) ?_
            refine fx_val (fun _ => rfl) rfl (fun χ w hw => run_mv _ rfl) ?_
            refine fx_val (fun _ => rfl) rfl (fun χ w hw => run_nc _ rfl) ?_
            refine fx_val (fun _ => rfl) rfl (fun χ w hw => run_fa _ _ _ rfl) ?_
            refine fx_val (fun _ => rfl) rfl (fun χ w hw => run_ld _ _ rfl hw) ?_
            refine fx_val (fun _ => rfl) rfl (fun χ w hw => run_lda _ _ rfl hw) ?_
            refine fx_ask 14 [_, _] _ rfl (fun _ => rfl) rfl (enters _ (by kernel_rfl)) (.tuple #[.int .i64 0, .int .i64 7]) (fun X w hS => dk_until hS hT ko oi og hog 0 7 hu1'.out he1'.out (fun w' _ hS' => ⟨rfl, hS'.pick⟩)) ?_
            refine fx_val (fun _ => rfl) rfl (fun χ w hw => run_mv _ rfl) ?_
            refine fx_val (fun _ => rfl) rfl (fun χ w hw => run_ext _ _ rfl) ?_
            refine fx_val (fun _ => rfl) rfl (fun χ w hw => run_ext _ _ rfl) ?_
            refine fx_val (fun _ => rfl) rfl (fun χ w hw => run_as _ rfl) ?_
            refine fx_val (fun _ => rfl) rfl (fun χ w hw => run_as _ rfl) ?_
            refine fx_end rfl ?_
            intro χ w hok hS
            replace hS := st_drop hS
            clear hok
            go_wp2_with (first | go_skip | go_skip | (refine wpList_is (.call { callee := .builtin .len, args := #[_], argTypes := #[_] }) rfl ?_; refine wpList_stp rfl (stp_val (run_lenv _ _ rfl) ?_)) | (refine wpList_is (.slice _ _ none (some _) none) rfl ?_; refine wpList_stp rfl (stp_val (run_prev _ _ _ rfl) ?_)) | (refine wpList_is (.indexAddr _ _ _) rfl ?_; refine wpList_stp rfl (stp_val (run_idxv _ _ _ rfl) ?_)) | go_skip | (refine wpList_is (.build _ _) rfl ?_; go_must (refine wpList_stp rfl (stp_val (run_bd _ _ rfl) ?_))) | (refine wpList_is (.call { callee := .builtin .clear, args := #[_], argTypes := #[_] }) rfl ?_; go_must (refine wpList_stp rfl (stp_cl _ _ rfl hS (by decide) ?_)); clear hS; intro w hS) | (refine wpList_is (.load _ _) rfl ?_; go_must (first | refine wpList_stp rfl (stp_val (run_ld _ _ rfl hS) ?_) | refine wpList_stp rfl (stp_val (run_lda _ _ rfl hS) ?_) | refine wpList_stp rfl (stp_val (run_ld0 _ _ rfl hS) ?_) | refine wpList_stp rfl (stp_val (run_lda0 _ _ rfl hS) ?_))) | (refine wpList_is (.store _ _ _) rfl ?_; go_must (first | refine wpList_stp rfl (stp_st _ _ _ rfl hS ?_) | refine wpList_stp rfl (stp_sta _ _ _ rfl hS ?_)); clear hS; intro w hS) | (refine wpList_is (.alloc _) rfl ?_; go_must (refine wpList_stp rfl (stp_al _ rfl hS ?_)); clear hS; intro bN w hbN hS) | (refine wpList_is (.box _ _) rfl ?_; go_must (refine wpList_stp rfl (stp_bx _ _ rfl hS ?_)); clear hS; intro bN w hbN hS) | (refine wpList_is (.binOp .eql _ _ (.const (.slice none _ _)) _) rfl ?_; refine wpList_stp rfl (stp_val (run_nse _ _ _ rfl) ?_)) | (refine wpList_is (.binOp .neq _ _ (.const (.slice none _ _)) _) rfl ?_; refine wpList_stp rfl (stp_val (run_nsn _ _ _ rfl) ?_)))
            go_roundw
            case rel => exact ⟨k + 1, (d + 1), by omega, by go_num, by first | rfl | go_num, hnext'.out, hS.pick⟩
            case measure => simp [intOf]; omega
          · rw [if_neg h0] at he1
            have he1' := Lib.hid he1
            clear he1
            go_wp2_with (first | go_skip | (refine wpList_is (.alloc 29) rfl ?_; go_must (refine wpList_stp rfl (stp_al _ rfl hS ?_)); clear hS; intro bo w _ hS) | go_skip | (refine wpList_is (.call { callee := .builtin .len, args := #[_], argTypes := #[_] }) rfl ?_; refine wpList_stp rfl (stp_val (run_lenv _ _ rfl) ?_)) | (refine wpList_is (.slice _ _ none (some _) none) rfl ?_; refine wpList_stp rfl (stp_val (run_prev _ _ _ rfl) ?_)) | (refine wpList_is (.indexAddr _ _ _) rfl ?_; refine wpList_stp rfl (stp_val (run_idxv _ _ _ rfl) ?_)) | go_skip | (refine wpList_is (.build _ _) rfl ?_; go_must (refine wpList_stp rfl (stp_val (run_bd _ _ rfl) ?_))) | (refine wpList_is (.call { callee := .builtin .clear, args := #[_], argTypes := #[_] }) rfl ?_; go_must (refine wpList_stp rfl (stp_cl _ _ rfl hS (by decide) ?_)); clear hS; intro w hS) | (refine wpList_is (.load _ _) rfl ?_; go_must (first | refine wpList_stp rfl (stp_val (run_ld _ _ rfl hS) ?_) | refine wpList_stp rfl (stp_val (run_lda _ _ rfl hS) ?_) | refine wpList_stp rfl (stp_val (run_ld0 _ _ rfl hS) ?_) | refine wpList_stp rfl (stp_val (run_lda0 _ _ rfl hS) ?_))) | (refine wpList_is (.store _ _ _) rfl ?_; go_must (first | refine wpList_stp rfl (stp_st _ _ _ rfl hS ?_) | refine wpList_stp rfl (stp_sta _ _ _ rfl hS ?_)); clear hS; intro w hS) | (refine wpList_is (.alloc _) rfl ?_; go_must (refine wpList_stp rfl (stp_al _ rfl hS ?_)); clear hS; intro bN w hbN hS) | (refine wpList_is (.box _ _) rfl ?_; go_must (refine wpList_stp rfl (stp_bx _ _ rfl hS ?_)); clear hS; intro bN w hbN hS) | (refine wpList_is (.binOp .eql _ _ (.const (.slice none _ _)) _) rfl ?_; refine wpList_stp rfl (stp_val (run_nse _ _ _ rfl) ?_)) | (refine wpList_is (.binOp .neq _ _ (.const (.slice none _ _)) _) rfl ?_; refine wpList_stp rfl (stp_val (run_nsn _ _ _ rfl) ?_)))
            refine region_new [] rfl hS _ (by kernel_rfl) (by kernel_rfl) (hpk := pickRefl) ?_
            refine fx_val (fun _ => rfl) rfl (fun χ w hw => run_mv _ rfl) ?_
            refine fx_val (fun _ => rfl) rfl (fun χ w hw => run_nc _ rfl) ?_
            refine fx_val (fun _ => rfl) rfl (fun χ w hw => run_fa _ _ _ rfl) ?_
            refine fx_val (fun _ => rfl) rfl (fun χ w hw => run_ld _ _ rfl hw) ?_
            refine fx_val (fun _ => rfl) rfl (fun χ w hw => run_lda _ _ rfl hw) ?_
            refine fx_ask 14 [_, _] _ rfl (fun _ => rfl) rfl (enters _ (by kernel_rfl)) (.tuple #[.int .i64 u, .int .i64 0]) (fun X w hS => dk_until hS hT ko oi og hog u 0 hu1'.out he1'.out (fun w' _ hS' => ⟨rfl, hS'.pick⟩)) ?_
            refine fx_val (fun _ => rfl) rfl (fun χ w hw => run_mv _ rfl) ?_
            refine fx_val (fun _ => rfl) rfl (fun χ w hw => run_ext _ _ rfl) ?_
            refine fx_val (fun _ => rfl) rfl (fun χ w hw => run_ext _ _ rfl) ?_
            refine fx_val (fun _ => rfl) rfl (fun χ w hw => run_as _ rfl) ?_
            refine fx_val (fun _ => rfl) rfl (fun χ w hw => run_as _ rfl) ?_
            refine fx_end rfl ?_
            intro χ w hok hS
            replace hS := st_drop hS
            clear hok
            go_wp2_with (first | go_skip | go_skip | (refine wpList_is (.call { callee := .builtin .len, args := #[_], argTypes := #[_] }) rfl ?_; refine wpList_stp rfl (stp_val (run_lenv _ _ rfl) ?_)) | (refine wpList_is (.slice _ _ none (some _) none) rfl ?_; refine wpList_stp rfl (stp_val (run_prev _ _ _ rfl) ?_)) | (refine wpList_is (.indexAddr _ _ _) rfl ?_; refine wpList_stp rfl (stp_val (run_idxv _ _ _ rfl) ?_)) | go_skip | (refine wpList_is (.build _ _) rfl ?_; go_must (refine wpList_stp rfl (stp_val (run_bd _ _ rfl) ?_))) | (refine wpList_is (.call { callee := .builtin .clear, args := #[_], argTypes := #[_] }) rfl ?_; go_must (refine wpList_stp rfl (stp_cl _ _ rfl hS (by decide) ?_)); clear hS; intro w hS) | (refine wpList_is (.load _ _) rfl ?_; go_must (first | refine wpList_stp rfl (stp_val (run_ld _ _ rfl hS) ?_) | refine wpList_stp rfl (stp_val (run_lda _ _ rfl hS) ?_) | refine wpList_stp rfl (stp_val (run_ld0 _ _ rfl hS) ?_) | refine wpList_stp rfl (stp_val (run_lda0 _ _ rfl hS) ?_))) | (refine wpList_is (.store _ _ _) rfl ?_; go_must (first | refine wpList_stp rfl (stp_st _ _ _ rfl hS ?_) | refine wpList_stp rfl (stp_sta _ _ _ rfl hS ?_)); clear hS; intro w hS) | (refine wpList_is (.alloc _) rfl ?_; go_must (refine wpList_stp rfl (stp_al _ rfl hS ?_)); clear hS; intro bN w hbN hS) | (refine wpList_is (.box _ _) rfl ?_; go_must (refine wpList_stp rfl (stp_bx _ _ rfl hS ?_)); clear hS; intro bN w hbN hS) | (refine wpList_is (.binOp .eql _ _ (.const (.slice none _ _)) _) rfl ?_; refine wpList_stp rfl (stp_val (run_nse _ _ _ rfl) ?_)) | (refine wpList_is (.binOp .neq _ _ (.const (.slice none _ _)) _) rfl ?_; refine wpList_stp rfl (stp_val (run_nsn _ _ _ rfl) ?_)))
            go_roundw
            case rel => exact ⟨k + 1, (d + 1), by omega, by go_num, by first | rfl | go_num, hnext'.out, hS.pick⟩
            case measure => simp [intOf]; omega
      · have d1 : decide ((k : Int) < q0) = false := decide_eq_false (by omega)
        have d2 : decide (k < q0) = false := decide_eq_false hb
        have d3 : decide ((q0 : Int) ≤ k) = true := decide_eq_true (by omega)
        have d4 : decide (q0 ≤ k) = true := decide_eq_true (by omega)
        rw [if_neg (fun h => hb h.1)] at hnext
        have hnext' := Lib.hid hnext.symm
        clear hnext
        by_cases h0 : u = 0
        · subst h0
          simp only [if_true] at he1
          have he1' := Lib.hid he1
          clear he1
          go_wp2_with (first | go_skip | (refine wpList_is (.alloc 29) rfl ?_; go_must (refine wpList_stp rfl (stp_al _ rfl hS ?_)); clear hS; intro bo w _ hS) | go_skip | (refine wpList_is (.call { callee := .builtin .len, args := #[_], argTypes := #[_] }) rfl ?_; refine wpList_stp rfl (stp_val (run_lenv _ _ rfl) ?_)) | (refine wpList_is (.slice _ _ none (some _) none) rfl ?_; refine wpList_stp rfl (stp_val (run_prev _ _ _ rfl) ?_)) | (refine wpList_is (.indexAddr _ _ _) rfl ?_; refine wpList_stp rfl (stp_val (run_idxv _ _ _ rfl) ?_)) | go_skip | (refine wpList_is (.build _ _) rfl ?_; go_must (refine wpList_stp rfl (stp_val (run_bd _ _ rfl) ?_))) | (refine wpList_is (.call { callee := .builtin .clear, args := #[_], argTypes := #[_] }) rfl ?_; go_must (refine wpList_stp rfl (stp_cl _ _ rfl hS (by decide) ?_)); clear hS; intro w hS) | (refine wpList_is (.load _ _) rfl ?_; go_must (first | refine wpList_stp rfl (stp_val (run_ld _ _ rfl hS) ?_) | refine wpList_stp rfl (stp_val (run_lda _ _ rfl hS) ?_) | refine wpList_stp rfl (stp_val (run_ld0 _ _ rfl hS) ?_) | refine wpList_stp rfl (stp_val (run_lda0 _ _ rfl hS) ?_))) | (refine wpList_is (.store _ _ _) rfl ?_; go_must (first | refine wpList_stp rfl (stp_st _ _ _ rfl hS ?_) | refine wpList_stp rfl (stp_sta _ _ _ rfl hS ?_)); clear hS; intro w hS) | (refine wpList_is (.alloc _) rfl ?_; go_must (refine wpList_stp rfl (stp_al _ rfl hS ?_)); clear hS; intro bN w hbN hS) | (refine wpList_is (.box _ _) rfl ?_; go_must (refine wpList_stp rfl (stp_bx _ _ rfl hS ?_)); clear hS; intro bN w hbN hS) | (refine wpList_is (.binOp .eql _ _ (.const (.slice none _ _)) _) rfl ?_; refine wpList_stp rfl (stp_val (run_nse _ _ _ rfl) ?_)) | (refine wpList_is (.binOp .neq _ _ (.const (.slice none _ _)) _) rfl ?_; refine wpList_stp rfl (stp_val (run_nsn _ _ _ rfl) ?_)))
          refine region_new [] rfl hS _ (by kernel_rfl) (by kernel_rfl) (hpk := pickRefl) ?_
          refine fx_val (fun _ => rfl) rfl (fun χ w hw => run_mv _ rfl) ?_
          refine fx_val (fun _ => rfl) rfl (fun χ w hw => run_nc _ rfl) ?_
          refine fx_val (fun _ => rfl) rfl (fun χ w hw => run_fa _ _ _ rfl) ?_
          refine fx_val (fun _ => rfl) rfl (fun χ w hw => run_ld _ _ rfl hw) ?_
          refine fx_val (fun _ => rfl) rfl (fun χ w hw => run_lda _ _ rfl hw) ?_
          refine fx_ask 14 [_, _] _ rfl (fun _ => rfl) rfl (enters _ (by kernel_rfl)) (.tuple #[.int .i64 0, .int .i64 7]) (fun X w hS => dk_until hS hT ko oi og hog 0 7 hu1'.out he1'.out (fun w' _ hS' => ⟨rfl, hS'.pick⟩)) ?_
          refine fx_val (fun _ => rfl) rfl (fun χ w hw => run_mv _ rfl) ?_
          refine fx_val (fun _ => rfl) rfl (fun χ w hw => run_ext _ _ rfl) ?_
          refine fx_val (fun _ => rfl) rfl (fun χ w hw => run_ext _ _ rfl) ?_
          refine fx_val (fun _ => rfl) rfl (fun χ w hw => run_as _ rfl) ?_
          refine fx_val (fun _ => rfl) rfl (fun χ w hw => run_as _ rfl) ?_
          refine fx_end rfl ?_
          intro χ w hok hS
          replace hS := st_drop hS
          clear hok
          go_wp2_with (first | go_skip | go_skip | (refine wpList_is (.call { callee := .builtin .len, args := #[_], argTypes := #[_] }) rfl ?_; refine wpList_stp rfl (stp_val (run_lenv _ _ rfl) ?_)) | (refine wpList_is (.slice _ _ none (some _) none) rfl ?_; refine wpList_stp rfl (stp_val (run_prev _ _ _ rfl) ?_)) | (refine wpList_is (.indexAddr _ _ _) rfl ?_; refine wpList_stp rfl (stp_val (run_idxv _ _ _ rfl) ?_)) | go_skip | (refine wpList_is (.build _ _) rfl ?_; go_must (refine wpList_stp rfl (stp_val (run_bd _ _ rfl) ?_))) | (refine wpList_is (.call { callee := .builtin .clear, args := #[_], argTypes := #[_] }) rfl ?_; go_must (refine wpList_stp rfl (stp_cl _ _ rfl hS (by decide) ?_)); clear hS; intro w hS) | (refine wpList_is (.load _ _) rfl ?_; go_must (first | refine wpList_stp rfl (stp_val (run_ld _ _ rfl hS) ?_) | refine wpList_stp rfl (stp_val (run_lda _ _ rfl hS) ?_) | refine wpList_stp rfl (stp_val (run_ld0 _ _ rfl hS) ?_) | refine wpList_stp rfl (stp_val (run_lda0 _ _ rfl hS) ?_))) | (refine wpList_is (.store _ _ _) rfl ?_; go_must (first | refine wpList_stp rfl (stp_st _ _ _ rfl hS ?_) | refine wpList_stp rfl (stp_sta _ _ _ rfl hS ?_)); clear hS; intro w hS) | (refine wpList_is (.alloc _) rfl ?_; go_must (refine wpList_stp rfl (stp_al _ rfl hS ?_)); clear hS; intro bN w hbN hS) | (refine wpList_is (.box _ _) rfl ?_; go_must (refine wpList_stp rfl (stp_bx _ _ rfl hS ?_)); clear hS; intro bN w hbN hS) | (refine wpList_is (.binOp .eql _ _ (.const (.slice none _ _)) _) rfl ?_; refine wpList_stp rfl (stp_val (run_nse _ _ _ rfl) ?_)) | (refine wpList_is (.binOp .neq _ _ (.const (.slice none _ _)) _) rfl ?_; refine wpList_stp rfl (stp_val (run_nsn _ _ _ rfl) ?_)))
          go_roundw
          case rel => exact ⟨k + 1, (d + 1), by omega, by go_num, by first | rfl | go_num, hnext'.out, hS.pick⟩
          case measure => simp [intOf]; omega
        · rw [if_neg h0] at he1
          have he1' := Lib.hid he1
          clear he1
          go_wp2_with (first | go_skip | (refine wpList_is (.alloc 29) rfl ?_; go_must (refine wpList_stp rfl (stp_al _ rfl hS ?_)); clear hS; intro bo w _ hS) | go_skip | (refine wpList_is (.call { callee := .builtin .len, args := #[_], argTypes := #[_] }) rfl ?_; refine wpList_stp rfl (stp_val (run_lenv _ _ rfl) ?_)) | (refine wpList_is (.slice _ _ none (some _) none) rfl ?_; refine wpList_stp rfl (stp_val (run_prev _ _ _ rfl) ?_)) | (refine wpList_is (.indexAddr _ _ _) rfl ?_; refine wpList_stp rfl (stp_val (run_idxv _ _ _ rfl) ?_)) | go_skip | (refine wpList_is (.build _ _) rfl ?_; go_must (refine wpList_stp rfl (stp_val (run_bd _ _ rfl) ?_))) | (refine wpList_is (.call { callee := .builtin .clear, args := #[_], argTypes := #[_] }) rfl ?_; go_must (refine wpList_stp rfl (stp_cl _ _ rfl hS (by decide) ?_)); clear hS; intro w hS) | (refine wpList_is (.load _ _) rfl ?_; go_must (first | refine wpList_stp rfl (stp_val (run_ld _ _ rfl hS) ?_) | refine wpList_stp rfl (stp_val (run_lda _ _ rfl hS) ?_) | refine wpList_stp rfl (stp_val (run_ld0 _ _ rfl hS) ?_) | refine wpList_stp rfl (stp_val (run_lda0 _ _ rfl hS) ?_))) | (refine wpList_is (.store _ _ _) rfl ?_; go_must (first | refine wpList_stp rfl (stp_st _ _ _ rfl hS ?_) | refine wpList_stp rfl (stp_sta _ _ _ rfl hS ?_)); clear hS; intro w hS) | (refine wpList_is (.alloc _) rfl ?_; go_must (refine wpList_stp rfl (stp_al _ rfl hS ?_)); clear hS; intro bN w hbN hS) | (refine wpList_is (.box _ _) rfl ?_; go_must (refine wpList_stp rfl (stp_bx _ _ rfl hS ?_)); clear hS; intro bN w hbN hS) | (refine wpList_is (.binOp .eql _ _ (.const (.slice none _ _)) _) rfl ?_; refine wpList_stp rfl (stp_val (run_nse _ _ _ rfl) ?_)) | (refine wpList_is (.binOp .neq _ _ (.const (.slice none _ _)) _) rfl ?_; refine wpList_stp rfl (stp_val (run_nsn _ _ _ rfl) ?_)))
          refine region_new [] rfl hS _ (by kernel_rfl) (by kernel_rfl) (hpk := pickRefl) ?_
          refine fx_val (fun _ => rfl) rfl (fun χ w hw => run_mv _ rfl) ?_
          refine fx_val (fun _ => rfl) rfl (fun χ w hw => run_nc _ rfl) ?_
          refine fx_val (fun _ => rfl) rfl (fun χ w hw => run_fa _ _ _ rfl) ?_
          refine fx_val (fun _ => rfl) rfl (fun χ w hw => run_ld _ _ rfl hw) ?_
          refine fx_val (fun _ => rfl) rfl (fun χ w hw => run_lda _ _ rfl hw) ?_
          refine fx_ask 14 [_, _] _ rfl (fun _ => rfl) rfl (enters _ (by kernel_rfl)) (.tuple #[.int .i64 u, .int .i64 0]) (fun X w hS => dk_until hS hT ko oi og hog u 0 hu1'.out he1'.out (fun w' _ hS' => ⟨rfl, hS'.pick⟩)) ?_
          refine fx_val (fun _ => rfl) rfl (fun χ w hw => run_mv _ rfl) ?_
          refine fx_val (fun _ => rfl) rfl (fun χ w hw => run_ext _ _ rfl) ?_
          refine fx_val (fun _ => rfl) rfl (fun χ w hw => run_ext _ _ rfl) ?_
          refine fx_val (fun _ => rfl) rfl (fun χ w hw => run_as _ rfl) ?_
          refine fx_val (fun _ => rfl) rfl (fun χ w hw => run_as _ rfl) ?_
          refine fx_end rfl ?_
          intro χ w hok hS
          replace hS := st_drop hS
          clear hok
          go_wp2_with (first | go_skip | go_skip | (refine wpList_is (.call { callee := .builtin .len, args := #[_], argTypes := #[_] }) rfl ?_; refine wpList_stp rfl (stp_val (run_lenv _ _ rfl) ?_)) | (refine wpList_is (.slice _ _ none (some _) none) rfl ?_; refine wpList_stp rfl (stp_val (run_prev _ _ _ rfl) ?_)) | (refine wpList_is (.indexAddr _ _ _) rfl ?_; refine wpList_stp rfl (stp_val (run_idxv _ _ _ rfl) ?_)) | go_skip | (refine wpList_is (.build _ _) rfl ?_; go_must (refine wpList_stp rfl (stp_val (run_bd _ _ rfl) ?_))) | (refine wpList_is (.call { callee := .builtin .clear, args := #[_], argTypes := #[_] }) rfl ?_; go_must (refine wpList_stp rfl (stp_cl _ _ rfl hS (by decide) ?_)); clear hS; intro w hS) | (refine wpList_is (.load _ _) rfl ?_; go_must (first | refine wpList_stp rfl (stp_val (run_ld _ _ rfl hS) ?_) | refine wpList_stp rfl (stp_val (run_lda _ _ rfl hS) ?_) | refine wpList_stp rfl (stp_val (run_ld0 _ _ rfl hS) ?_) | refine wpList_stp rfl (stp_val (run_lda0 _ _ rfl hS) ?_))) | (refine wpList_is (.store _ _ _) rfl ?_; go_must (first | refine wpList_stp rfl (stp_st _ _ _ rfl hS ?_) | refine wpList_stp rfl (stp_sta _ _ _ rfl hS ?_)); clear hS; intro w hS) | (refine wpList_is (.alloc _) rfl ?_; go_must (refine wpList_stp rfl (stp_al _ rfl hS ?_)); clear hS; intro bN w hbN hS) | (refine wpList_is (.box _ _) rfl ?_; go_must (refine wpList_stp rfl (stp_bx _ _ rfl hS ?_)); clear hS; intro bN w hbN hS) | (refine wpList_is (.binOp .eql _ _ (.const (.slice none _ _)) _) rfl ?_; refine wpList_stp rfl (stp_val (run_nse _ _ _ rfl) ?_)) | (refine wpList_is (.binOp .neq _ _ (.const (.slice none _ _)) _) rfl ?_; refine wpList_stp rfl (stp_val (run_nsn _ _ _ rfl) ?_)))
          go_roundw
          case rel => exact ⟨k + 1, (d + 1), by omega, by go_num, by first | rfl | go_num, hnext'.out, hS.pick⟩
          case measure => simp [intOf]; omega
    · obtain rfl : k = q := by omega
      have hc1 : d ≤ 1 := by
        rw [hd]
        have := chgN_nx hnx'.out
        rw [hul'.out, hq'.out] at this
        exact this
      have d1 : decide ((d : Int) ≤ 1) = true := decide_eq_true (by omega)
      have d2 : decide (d ≤ 1) = true := decide_eq_true hc1
      clear hk hlt hd
      go_wp2_with (first | go_skip | (go_at_call 16; refine works_ok hS ?_; clear hS; intro w hS; unfold Ret) | go_skip | (refine wpList_is (.call { callee := .builtin .len, args := #[_], argTypes := #[_] }) rfl ?_; refine wpList_stp rfl (stp_val (run_lenv _ _ rfl) ?_)) | (refine wpList_is (.slice _ _ none (some _) none) rfl ?_; refine wpList_stp rfl (stp_val (run_prev _ _ _ rfl) ?_)) | (refine wpList_is (.indexAddr _ _ _) rfl ?_; refine wpList_stp rfl (stp_val (run_idxv _ _ _ rfl) ?_)) | go_skip | (refine wpList_is (.build _ _) rfl ?_; go_must (refine wpList_stp rfl (stp_val (run_bd _ _ rfl) ?_))) | (refine wpList_is (.call { callee := .builtin .clear, args := #[_], argTypes := #[_] }) rfl ?_; go_must (refine wpList_stp rfl (stp_cl _ _ rfl hS (by decide) ?_)); clear hS; intro w hS) | (refine wpList_is (.load _ _) rfl ?_; go_must (first | refine wpList_stp rfl (stp_val (run_ld _ _ rfl hS) ?_) | refine wpList_stp rfl (stp_val (run_lda _ _ rfl hS) ?_) | refine wpList_stp rfl (stp_val (run_ld0 _ _ rfl hS) ?_) | refine wpList_stp rfl (stp_val (run_lda0 _ _ rfl hS) ?_))) | (refine wpList_is (.store _ _ _) rfl ?_; go_must (first | refine wpList_stp rfl (stp_st _ _ _ rfl hS ?_) | refine wpList_stp rfl (stp_sta _ _ _ rfl hS ?_)); clear hS; intro w hS) | (refine wpList_is (.alloc _) rfl ?_; go_must (refine wpList_stp rfl (stp_al _ rfl hS ?_)); clear hS; intro bN w hbN hS) | (refine wpList_is (.box _ _) rfl ?_; go_must (refine wpList_stp rfl (stp_bx _ _ rfl hS ?_)); clear hS; intro bN w hbN hS) | (refine wpList_is (.binOp .eql _ _ (.const (.slice none _ _)) _) rfl ?_; refine wpList_stp rfl (stp_val (run_nse _ _ _ rfl) ?_)) | (refine wpList_is (.binOp .neq _ _ (.const (.slice none _ _)) _) rfl ?_; refine wpList_stp rfl (stp_val (run_nsn _ _ _ rfl) ?_)))
      exact hR _ hS.chg
end Go.Proofs.Ytbjcjbkgjnojmaa
