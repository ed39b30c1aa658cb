/-
  The walk of LeasesNil.
-/
import Derived.Test.YtbjcjbkgjnojmaaDeskH
set_option linter.unusedSimpArgs false
set_option linter.unusedVariables false
namespace Go.Proofs.Ytbjcjbkgjnojmaa
open Go.RowKit Go.Mm
variable {R : Ending → World → Prop}

instance (priority := 500) cutNilB {H : List Ent} : Cut H [] H := ⟨[], H, rfl, rfl⟩
instance e_dp : ElemT Try.prog 24 1 8 #[.pointer none] := ⟨by kernel_rfl⟩
instance sl_dp : SliceT Try.prog 73 24 := ⟨by kernel_rfl⟩
instance b_desk0 : BuildT Try.prog 72 [] (deskC none zeroD) := ⟨fun w => by kernel_rfl⟩

theorem ok_out {cs : List Value} (h : OkCells [.i .i64, .i .i64, .i .u32] cs) : ∃ k i g : Int, cs = [.int .i64 k, .int .i64 i, .int .u32 g] ∧ (Lit.int .i64 k).wf = true ∧ (Lit.int .i64 i).wf = true ∧ (Lit.int .u32 g).wf = true := by
  cases h with
  | cons h1 h2 =>
    cases h2 with
    | cons h3 h4 =>
      cases h4 with
      | cons h5 h6 =>
        cases h6
        obtain ⟨k, rfl, wk⟩ := h1
        obtain ⟨i, rfl, wi⟩ := h3
        obtain ⟨g, rfl, wg⟩ := h5
        exact ⟨k, i, g, rfl, wk, wi, wg⟩
set_option maxHeartbeats 1000000 in
set_option maxRecDepth 100000 in
theorem walk_lnil {W : World} (cs : List Value) (wc : OkCells [.i .i64, .i .i64, .i .u32] cs) (t : Int) (wt : (Lit.int .i64 t).wf = true) (n : Int) (wn : (Lit.int .i64 n).wf = true) (hR : ∀ w', Chg W w' [] → Ret R (.bool true) w') :
    Calls Try.prog 8 #[.agg cs.toArray, .int .i64 t, .int .i64 n] W R := by
  obtain ⟨k, i, g, rfl, wk, wi, wg⟩ := ok_out wc
  have hS : St W [] W [] := St.start0
  have hg := bounds_u32 wg
  go_enter Try.func8, Try.ntmps8
  have i1 := deskAll (t := none) (B := zeroD) (by rfl)
  have i2 : OneCells (deskC none zeroD) := deskOnes
  go_wp2_with (first | go_skip | (refine wpList_is (.box 29 _) rfl ?_; go_must (refine wpList_stp rfl (stp_bx _ _ rfl hS ?_)); clear hS; intro br w _ hS) | (refine wpList_is (.box 72 _) rfl ?_; go_must (refine wpList_stp rfl (stp_bx _ _ rfl hS ?_)); clear hS; intro bz w _ hS) | (refine wpList_is (.buildSlice _ _ _) rfl ?_; go_must (refine wpList_stp rfl (stp_bsl _ _ _ rfl hS (by decide) rfl (by decide) (by decide) ?_)); clear hS; intro bc w hbN hS) | go_skip | (refine wpList_is (.build _ _) rfl ?_; go_must (refine wpList_stp rfl (stp_val (run_bd _ _ rfl) ?_))) | (refine wpList_is (.call { callee := .builtin .clear, args := #[_], argTypes := #[_] }) rfl ?_; go_must (refine wpList_stp rfl (stp_cl _ _ rfl hS (by decide) ?_)); clear hS; intro w hS) | (refine wpList_is (.load _ _) rfl ?_; go_must (first | refine wpList_stp rfl (stp_val (run_ld _ _ rfl hS) ?_) | refine wpList_stp rfl (stp_val (run_lda _ _ rfl hS) ?_) | refine wpList_stp rfl (stp_val (run_ld0 _ _ rfl hS) ?_) | refine wpList_stp rfl (stp_val (run_lda0 _ _ rfl hS) ?_))) | (refine wpList_is (.store _ _ _) rfl ?_; go_must (first | refine wpList_stp rfl (stp_st _ _ _ rfl hS ?_) | refine wpList_stp rfl (stp_sta _ _ _ rfl hS ?_)); clear hS; intro w hS) | (refine wpList_is (.alloc _) rfl ?_; go_must (refine wpList_stp rfl (stp_al _ rfl hS ?_)); clear hS; intro bN w hbN hS) | (refine wpList_is (.box _ _) rfl ?_; go_must (refine wpList_stp rfl (stp_bx _ _ rfl hS ?_)); clear hS; intro bN w hbN hS) | (refine wpList_is (.binOp .eql _ _ (.const (.slice none _ _)) _) rfl ?_; refine wpList_stp rfl (stp_val (run_nse _ _ _ rfl) ?_)) | (refine wpList_is (.binOp .neq _ _ (.const (.slice none _ _)) _) rfl ?_; refine wpList_stp rfl (stp_val (run_nsn _ _ _ rfl) ?_)))
  clear i1 i2
  have hT1 : DA (some ⟨bz, 0, none⟩) (some none) [⟨bz, deskC none zeroD, 72, true⟩] := ⟨bz, rfl, rfl⟩
  go_loopw [21, 9, 10, 11, 12, 13, 14, 15] (fun u _ _ _ _ _ _ _ wr => ∃ (j : Nat) (Ez : List Ent), j ≤ 2 ∧ u = .int .i64 j ∧ DA (some ⟨bz, 0, none⟩) (some none) Ez ∧ St W [] wr (⟨bc, #[.pointer none, .pointer (some ⟨bz, 0, none⟩)], 24, true⟩ :: (Ez ++ [⟨br, #[.int .i64 k, .int .i64 i, .int .u32 g], 29, true⟩]))) (fun u _ _ _ _ _ _ _ _ => 2 - (intOf u).toNat)
  case atStart => exact ⟨0, _, by omega, rfl, hT1, hS.pick⟩
  case round =>
    clear hS
    clear hT1
    obtain ⟨j, Ez, hk, rfl, hT1, hS⟩ := hrel
    have h012 : j = 0 ∨ j = 1 ∨ j = 2 := by omega
    rcases h012 with rfl | rfl | rfl
    · have hT0 := DA.none
      have hl' := Lib.hid (show allD none = [] from rfl)
      have hm' := Lib.hid (show (allD none).length = 0 from rfl)
      have q := outE (outB_self 0 0 0)
      have hg1 : grT none t n = none := rfl
      have hg2 : grE none t n = 1 := rfl
      have hg3 : grR none t n = (0, 0, 0) := rfl
      have hu1 : uqR none k i g = 0 := rfl
      have hu2 : wiE none true k i g = 1 := rfl
      have ho1 : ovR none k i g n = false := rfl
      have ho2 : wiE none (tmB n) k i g = 1 := rfl
      have hr1 : rnT none k i g t n = none := rfl
      have hr2 : rnE none k i g t n = 1 := rfl
      have ht1 : rtT none k i g = none := rfl
      have hg1' := Lib.hid hg1
      have hg2' := Lib.hid hg2
      have hg3' := Lib.hid hg3
      have hu1' := Lib.hid hu1
      have hu2' := Lib.hid hu2
      have ho1' := Lib.hid ho1
      have ho2' := Lib.hid ho2
      have hr1' := Lib.hid hr1
      have hr2' := Lib.hid hr2
      have ht1' := Lib.hid ht1
      clear hg1 hg2 hg3 hu1 hu2 ho1 ho2 hr1 hr2 ht1
      go_wp2_with (first
        | go_skip
        | (refine wpList_is (.alloc 29) rfl ?_; go_must (refine wpList_stp rfl (stp_al _ rfl hS ?_)); clear hS; intro bN w hbN hS)
        | (go_at_call 11; refine dk_grant hS hT0 t n none 1 (0, 0, 0) hg1'.out hg2'.out hg3'.out ?_; clear hS; intro Ex w hT0 hS; unfold Ret)
        | (go_at_call 14; refine dk_until hS hT0 k i g hg 0 1 hu1'.out hu2'.out ?_; clear hS; intro w _ hS; unfold Ret)
        | (go_at_call 12; refine dk_over hS hT0 k i g n hg false 1 ho1'.out ho2'.out ?_; clear hS; intro w _ hS; unfold Ret)
        | (go_at_call 13; refine dk_renew hS hT0 k i g t n hg none 1 hr1'.out hr2'.out ?_; clear hS; intro Ex w hT0 _ hS; unfold Ret)
        | (go_at_call 15; refine dk_return hS hT0 k i g hg none 1 ht1'.out hu2'.out ?_; clear hS; intro Ex w hT0 hS; unfold Ret)
        | (go_at_call 18; refine dk_len hS hT0 0 hm'.out ?_; clear hS; intro w _ hS; unfold Ret)
        | (go_at_call 23; refine dk_all hS hT0 [] hl'.out ?_; clear hS; intro v3 E4 w hL3 hS; have hl3 := hL3.len rfl; have hone3 := hL3.one; unfold Ret)
        | (go_at_call 31; refine dk_copy hS hT0 none rfl ?_; clear hS; intro p3 E5 w hT3 _ hS; have hn3 := hT3.nil; simp only [Option.isNone_none] at hn3; unfold Ret)
        | (refine wpList_is (.call { callee := .builtin .len, args := #[_], argTypes := #[_] }) rfl ?_; refine wpList_stp rfl (stp_val (run_lenv _ _ rfl) ?_))
        | (refine wpList_is (.binOp .eql _ _ _ _) rfl ?_; refine wpList_stp rfl (stp_val (run_aeq _ _ _ _ rfl) ?_)) | (refine wpList_is (.binOp .neq _ _ _ _) rfl ?_; refine wpList_stp rfl (stp_val (run_ane _ _ _ _ rfl) ?_)) | go_skip | (refine wpList_is (.call { callee := .builtin .len, args := #[_], argTypes := #[_] }) rfl ?_; refine wpList_stp rfl (stp_val (run_lenv _ _ rfl) ?_)) | (refine wpList_is (.slice _ _ none (some _) none) rfl ?_; refine wpList_stp rfl (stp_val (run_prev _ _ _ rfl) ?_)) | (refine wpList_is (.indexAddr _ _ _) rfl ?_; refine wpList_stp rfl (stp_val (run_idxv _ _ _ rfl) ?_)) | go_skip | (refine wpList_is (.build _ _) rfl ?_; go_must (refine wpList_stp rfl (stp_val (run_bd _ _ rfl) ?_))) | (refine wpList_is (.call { callee := .builtin .clear, args := #[_], argTypes := #[_] }) rfl ?_; go_must (refine wpList_stp rfl (stp_cl _ _ rfl hS (by decide) ?_)); clear hS; intro w hS) | (refine wpList_is (.load _ _) rfl ?_; go_must (first | refine wpList_stp rfl (stp_val (run_ld _ _ rfl hS) ?_) | refine wpList_stp rfl (stp_val (run_lda _ _ rfl hS) ?_) | refine wpList_stp rfl (stp_val (run_ld0 _ _ rfl hS) ?_) | refine wpList_stp rfl (stp_val (run_lda0 _ _ rfl hS) ?_))) | (refine wpList_is (.store _ _ _) rfl ?_; go_must (first | refine wpList_stp rfl (stp_st _ _ _ rfl hS ?_) | refine wpList_stp rfl (stp_sta _ _ _ rfl hS ?_)); clear hS; intro w hS) | (refine wpList_is (.alloc _) rfl ?_; go_must (refine wpList_stp rfl (stp_al _ rfl hS ?_)); clear hS; intro bN w hbN hS) | (refine wpList_is (.box _ _) rfl ?_; go_must (refine wpList_stp rfl (stp_bx _ _ rfl hS ?_)); clear hS; intro bN w hbN hS) | (refine wpList_is (.binOp .eql _ _ (.const (.slice none _ _)) _) rfl ?_; refine wpList_stp rfl (stp_val (run_nse _ _ _ rfl) ?_)) | (refine wpList_is (.binOp .neq _ _ (.const (.slice none _ _)) _) rfl ?_; refine wpList_stp rfl (stp_val (run_nsn _ _ _ rfl) ?_)))
      go_roundw
      case rel => exact ⟨1, _, by omega, rfl, hT1, hS.pick⟩
      case measure => simp [intOf]
    · have hl' := Lib.hid (show allD (some none) = [] from rfl)
      have hm' := Lib.hid (show (allD (some none)).length = 0 from rfl)
      have q := outE (outB_self 0 0 0)
      have hg1 : grT (some none) t n = (some none) := rfl
      have hg2 : grE (some none) t n = 1 := rfl
      have hg3 : grR (some none) t n = (0, 0, 0) := rfl
      have hu1 : uqR (some none) k i g = 0 := rfl
      have hu2 : wiE (some none) true k i g = 1 := rfl
      have ho1 : ovR (some none) k i g n = false := rfl
      have ho2 : wiE (some none) (tmB n) k i g = 1 := rfl
      have hr1 : rnT (some none) k i g t n = (some none) := rfl
      have hr2 : rnE (some none) k i g t n = 1 := rfl
      have ht1 : rtT (some none) k i g = (some none) := rfl
      have hg1' := Lib.hid hg1
      have hg2' := Lib.hid hg2
      have hg3' := Lib.hid hg3
      have hu1' := Lib.hid hu1
      have hu2' := Lib.hid hu2
      have ho1' := Lib.hid ho1
      have ho2' := Lib.hid ho2
      have hr1' := Lib.hid hr1
      have hr2' := Lib.hid hr2
      have ht1' := Lib.hid ht1
      clear hg1 hg2 hg3 hu1 hu2 ho1 ho2 hr1 hr2 ht1
      go_wp2_with (first
        | go_skip
        | (refine wpList_is (.alloc 29) rfl ?_; go_must (refine wpList_stp rfl (stp_al _ rfl hS ?_)); clear hS; intro bN w hbN hS)
        | (go_at_call 11; refine dk_grant hS hT1 t n (some none) 1 (0, 0, 0) hg1'.out hg2'.out hg3'.out ?_; clear hS; intro Ex w hT1 hS; unfold Ret)
        | (go_at_call 14; refine dk_until hS hT1 k i g hg 0 1 hu1'.out hu2'.out ?_; clear hS; intro w _ hS; unfold Ret)
        | (go_at_call 12; refine dk_over hS hT1 k i g n hg false 1 ho1'.out ho2'.out ?_; clear hS; intro w _ hS; unfold Ret)
        | (go_at_call 13; refine dk_renew hS hT1 k i g t n hg (some none) 1 hr1'.out hr2'.out ?_; clear hS; intro Ex w hT1 _ hS; unfold Ret)
        | (go_at_call 15; refine dk_return hS hT1 k i g hg (some none) 1 ht1'.out hu2'.out ?_; clear hS; intro Ex w hT1 hS; unfold Ret)
        | (go_at_call 18; refine dk_len hS hT1 0 hm'.out ?_; clear hS; intro w _ hS; unfold Ret)
        | (go_at_call 23; refine dk_all hS hT1 [] hl'.out ?_; clear hS; intro v3 E4 w hL3 hS; have hl3 := hL3.len rfl; have hone3 := hL3.one; unfold Ret)
        | (go_at_call 31; refine dk_copy hS hT1 none rfl ?_; clear hS; intro p3 E5 w hT3 _ hS; have hn3 := hT3.nil; simp only [Option.isNone_none] at hn3; unfold Ret)
        | (refine wpList_is (.call { callee := .builtin .len, args := #[_], argTypes := #[_] }) rfl ?_; refine wpList_stp rfl (stp_val (run_lenv _ _ rfl) ?_))
        | (refine wpList_is (.binOp .eql _ _ _ _) rfl ?_; refine wpList_stp rfl (stp_val (run_aeq _ _ _ _ rfl) ?_)) | (refine wpList_is (.binOp .neq _ _ _ _) rfl ?_; refine wpList_stp rfl (stp_val (run_ane _ _ _ _ rfl) ?_)) | go_skip | (refine wpList_is (.call { callee := .builtin .len, args := #[_], argTypes := #[_] }) rfl ?_; refine wpList_stp rfl (stp_val (run_lenv _ _ rfl) ?_)) | (refine wpList_is (.slice _ _ none (some _) none) rfl ?_; refine wpList_stp rfl (stp_val (run_prev _ _ _ rfl) ?_)) | (refine wpList_is (.indexAddr _ _ _) rfl ?_; refine wpList_stp rfl (stp_val (run_idxv _ _ _ rfl) ?_)) | go_skip | (refine wpList_is (.build _ _) rfl ?_; go_must (refine wpList_stp rfl (stp_val (run_bd _ _ rfl) ?_))) | (refine wpList_is (.call { callee := .builtin .clear, args := #[_], argTypes := #[_] }) rfl ?_; go_must (refine wpList_stp rfl (stp_cl _ _ rfl hS (by decide) ?_)); clear hS; intro w hS) | (refine wpList_is (.load _ _) rfl ?_; go_must (first | refine wpList_stp rfl (stp_val (run_ld _ _ rfl hS) ?_) | refine wpList_stp rfl (stp_val (run_lda _ _ rfl hS) ?_) | refine wpList_stp rfl (stp_val (run_ld0 _ _ rfl hS) ?_) | refine wpList_stp rfl (stp_val (run_lda0 _ _ rfl hS) ?_))) | (refine wpList_is (.store _ _ _) rfl ?_; go_must (first | refine wpList_stp rfl (stp_st _ _ _ rfl hS ?_) | refine wpList_stp rfl (stp_sta _ _ _ rfl hS ?_)); clear hS; intro w hS) | (refine wpList_is (.alloc _) rfl ?_; go_must (refine wpList_stp rfl (stp_al _ rfl hS ?_)); clear hS; intro bN w hbN hS) | (refine wpList_is (.box _ _) rfl ?_; go_must (refine wpList_stp rfl (stp_bx _ _ rfl hS ?_)); clear hS; intro bN w hbN hS) | (refine wpList_is (.binOp .eql _ _ (.const (.slice none _ _)) _) rfl ?_; refine wpList_stp rfl (stp_val (run_nse _ _ _ rfl) ?_)) | (refine wpList_is (.binOp .neq _ _ (.const (.slice none _ _)) _) rfl ?_; refine wpList_stp rfl (stp_val (run_nsn _ _ _ rfl) ?_)))
      go_roundw
      case rel => exact ⟨2, _, by omega, rfl, hT1, hS.pick⟩
      case measure => simp [intOf]
    · go_wp2_with (first | go_skip | (go_at_call 16; refine works_ok hS ?_; clear hS; intro w hS; unfold Ret) | go_skip | (refine wpList_is (.build _ _) rfl ?_; go_must (refine wpList_stp rfl (stp_val (run_bd _ _ rfl) ?_))) | (refine wpList_is (.call { callee := .builtin .clear, args := #[_], argTypes := #[_] }) rfl ?_; go_must (refine wpList_stp rfl (stp_cl _ _ rfl hS (by decide) ?_)); clear hS; intro w hS) | (refine wpList_is (.load _ _) rfl ?_; go_must (first | refine wpList_stp rfl (stp_val (run_ld _ _ rfl hS) ?_) | refine wpList_stp rfl (stp_val (run_lda _ _ rfl hS) ?_) | refine wpList_stp rfl (stp_val (run_ld0 _ _ rfl hS) ?_) | refine wpList_stp rfl (stp_val (run_lda0 _ _ rfl hS) ?_))) | (refine wpList_is (.store _ _ _) rfl ?_; go_must (first | refine wpList_stp rfl (stp_st _ _ _ rfl hS ?_) | refine wpList_stp rfl (stp_sta _ _ _ rfl hS ?_)); clear hS; intro w hS) | (refine wpList_is (.alloc _) rfl ?_; go_must (refine wpList_stp rfl (stp_al _ rfl hS ?_)); clear hS; intro bN w hbN hS) | (refine wpList_is (.box _ _) rfl ?_; go_must (refine wpList_stp rfl (stp_bx _ _ rfl hS ?_)); clear hS; intro bN w hbN hS) | (refine wpList_is (.binOp .eql _ _ (.const (.slice none _ _)) _) rfl ?_; refine wpList_stp rfl (stp_val (run_nse _ _ _ rfl) ?_)) | (refine wpList_is (.binOp .neq _ _ (.const (.slice none _ _)) _) rfl ?_; refine wpList_stp rfl (stp_val (run_nsn _ _ _ rfl) ?_)))
      exact hR _ hS.chg
end Go.Proofs.Ytbjcjbkgjnojmaa
