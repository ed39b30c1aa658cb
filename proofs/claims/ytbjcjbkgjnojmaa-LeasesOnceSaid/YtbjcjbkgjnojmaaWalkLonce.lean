/-
  The walk of LeasesOnce.
-/
import Derived.Test.YtbjcjbkgjnojmaaDmoveY
set_option linter.unusedSimpArgs false
set_option linter.unusedVariables false
namespace Go.Proofs.Ytbjcjbkgjnojmaa
open Go.RowKit Go.Mm
variable {R : Ending → World → Prop}

instance beq_bool {x : Bool} : BoolEq Try.prog 4 x x true := ⟨by simp, Try.underlying4⟩

set_option maxHeartbeats 2000000 in
set_option maxRecDepth 100000 in
theorem walk_lonce {W : World} (z : Int) (wz : (Lit.int .u8 z).wf = true) (f : Int) (wf : (Lit.int .u32 f).wf = true) (v : Value) {n sb so : Nat} {F : Nat → Nat → Value} (hv : Flat W [.i .u8, .i .u8, .i .u8, .i .u8] v n sb so F) (hR : ∀ w', Chg W w' [] → Ret R (.bool true) w') :
    Calls Try.prog 6 #[.int .u8 z, .int .u32 f, v] W R := by
  have hS : St W [] W [] := St.start0
  have hz := bounds_u8m wz
  have hf := bounds_u32 wf
  go_enter Try.func6, Try.ntmps6
  go_wp2_with (first
    | go_skip
    | (go_at_call 19; refine played_ok hS z f hz hf hv ?_; clear hS; intro b p L l us now E w hX hI hnow hl100 _ hS; obtain ⟨v1, v2, E1, E2, E3, hT, hA, hU, rfl⟩ := hX; obtain ⟨m, hm⟩ : ∃ m, posN us = m := ⟨_, rfl⟩; have hm' := Lib.hid hm; have hal' := Lib.hid (hI.all.trans hm); have hul' := Lib.hid hI.len; have hI' := Lib.hid hI; clear hm hI; have hm100 : m ≤ 100 := (by have h1 := hm'.out; have h2 := posN_le us; have h3 := hul'.out; omega); have ho1 := hA.one; have ho2 := hU.one; obtain ⟨q, hq⟩ : ∃ q, l.length = q := ⟨_, rfl⟩; have hq' := Lib.hid hq; have hq100 : q ≤ 100 := (by rw [← hq]; exact hl100); have hn0 := hI'.out.n0; have hlA := hA.len hq; clear hq; simp only [List.cons_append, List.append_nil] at hS; unfold Ret)
    | (go_at_call 18; refine dk_len hS hT m hal'.out ?_; clear hS; intro w _ hS; unfold Ret)
    | (go_at_call 22; refine there_ok (H1 := []) (show St W [] w ((⟨b, #[.pointer p, v1, v2, .int .i64 now, .bool true], 52, true⟩ :: (E1 ++ (E2 ++ E3))) ++ []) from by rw [List.append_nil]; exact hS.pick) (show DX b p L l us now true (⟨b, #[.pointer p, v1, v2, .int .i64 now, .bool true], 52, true⟩ :: (E1 ++ (E2 ++ E3))) from ⟨v1, v2, E1, E2, E3, hT, hA, hU, rfl⟩) (by have := hul'.out; omega) m hm'.out ?_; clear hS; intro w _ hS; simp only [List.append_nil] at hS; unfold Ret)
    | (go_at_call 23; refine dk_all hS hT _ rfl ?_; clear hS; intro va Ea w hVA hS; have hVl := hVA.len hal'.out; unfold Ret)
    | go_skip | (refine wpList_is (.call { callee := .builtin .len, args := #[_], argTypes := #[_] }) rfl ?_; refine wpList_stp rfl (stp_val (run_lenv _ _ rfl) ?_)) | (refine wpList_is (.slice _ _ none (some _) none) rfl ?_; refine wpList_stp rfl (stp_val (run_prev _ _ _ rfl) ?_)) | (refine wpList_is (.indexAddr _ _ _) rfl ?_; refine wpList_stp rfl (stp_val (run_idxv _ _ _ rfl) ?_)) | go_skip | (refine wpList_is (.build _ _) rfl ?_; go_must (refine wpList_stp rfl (stp_val (run_bd _ _ rfl) ?_))) | (refine wpList_is (.call { callee := .builtin .clear, args := #[_], argTypes := #[_] }) rfl ?_; go_must (refine wpList_stp rfl (stp_cl _ _ rfl hS (by decide) ?_)); clear hS; intro w hS) | (refine wpList_is (.load _ _) rfl ?_; go_must (first | refine wpList_stp rfl (stp_val (run_ld _ _ rfl hS) ?_) | refine wpList_stp rfl (stp_val (run_lda _ _ rfl hS) ?_) | refine wpList_stp rfl (stp_val (run_ld0 _ _ rfl hS) ?_) | refine wpList_stp rfl (stp_val (run_lda0 _ _ rfl hS) ?_))) | (refine wpList_is (.store _ _ _) rfl ?_; go_must (first | refine wpList_stp rfl (stp_st _ _ _ rfl hS ?_) | refine wpList_stp rfl (stp_sta _ _ _ rfl hS ?_)); clear hS; intro w hS) | (refine wpList_is (.alloc _) rfl ?_; go_must (refine wpList_stp rfl (stp_al _ rfl hS ?_)); clear hS; intro bN w hbN hS) | (refine wpList_is (.box _ _) rfl ?_; go_must (refine wpList_stp rfl (stp_bx _ _ rfl hS ?_)); clear hS; intro bN w hbN hS) | (refine wpList_is (.binOp .eql _ _ (.const (.slice none _ _)) _) rfl ?_; refine wpList_stp rfl (stp_val (run_nse _ _ _ rfl) ?_)) | (refine wpList_is (.binOp .neq _ _ (.const (.slice none _ _)) _) rfl ?_; refine wpList_stp rfl (stp_val (run_nsn _ _ _ rfl) ?_)))
  clear hVl hVA
  go_loopw [49] (fun u wr => ∃ (k : Nat) (E1 : List Ent), k ≤ q ∧ u = .int .i64 k ∧ DA p (some (some L)) E1 ∧ St W [] wr (⟨b, #[.pointer p, v1, v2, .int .i64 now, .bool true], 52, true⟩ :: (E1 ++ (E2 ++ E3)))) (fun u _ => q - (intOf u).toNat)
  case atStart => exact ⟨0, E1, Nat.zero_le _, rfl, hT, hS.pick⟩
  case round =>
    clear hS hT
    obtain ⟨k, E1, hk, rfl, hT, hS⟩ := hrel
    by_cases hlt : k < q
    · have hkl : k < l.length := by rw [hq'.out]; exact hlt
      have hku : k < us.length := by rw [hul'.out]; exact hkl
      obtain ⟨u, hu⟩ : ∃ u, us.getD k 0 = u := ⟨_, rfl⟩
      have hlb := hU.len (hul'.out.trans hq'.out)
      obtain ⟨g3, cap3, sp3, -, hE3, i3, c3, _, _⟩ := hU.at hku hu
      have i3 := i3 k rfl
      obtain ⟨⟨ko, oi, og⟩, ho⟩ : ∃ o, l.getD k (0, 0, 0) = o := ⟨_, rfl⟩
      obtain ⟨g2, sp2, i2, hh2, c2⟩ := hA.at hkl ho
      have i2 := i2 k rfl
      simp only at c2
      have hat := hI'.out.at' k hkl
      rw [show lgO l k = (ko, oi, og) from ho, show lgU us k = u from hu] at hat
      have hat' := Lib.hid hat
      have hu0 := hat.nn
      have hog : 0 ≤ og ∧ og ≤ 4294967295 := by
        obtain ⟨_, _, _, _, h3, h4, _⟩ := hat
        simp only at h3 h4
        omega
      obtain ⟨he1, hu1⟩ := wi_at hI'.out.w hat
      have htm : tmB now = true := by simp only [tmB, Bool.and_eq_true, decide_eq_true_eq]; omega
      obtain ⟨ho2, ho1⟩ := ov_at hI'.out.w hat htm
      simp only at he1 hu1 ho1 ho2
      have hh3 : Has E3 g3 (blk [] j64f us sp3) 2 := by rw [hE3]; exact hasHead
      clear hu ho hkl hku htm hE3
      by_cases h0 : u = 0
      · subst h0
        have hrt := rt_at hI'.out.w hat
        simp only at hrt
        simp only [if_true] at he1 ho1 ho2
        have hrt' := Lib.hid hrt
        have hu1' := Lib.hid hu1
        have he1' := Lib.hid he1
        have ho1' := Lib.hid ho1
        have ho2' := Lib.hid ho2
        clear hrt hu1 he1 ho1 ho2 hat
        go_wp2_with (first | go_skip | (refine wpList_is (.alloc 29) rfl ?_; go_must (refine wpList_stp rfl (stp_al _ rfl hS ?_)); clear hS; intro bo w _ hS) | go_skip | (refine wpList_is (.call { callee := .builtin .len, args := #[_], argTypes := #[_] }) rfl ?_; refine wpList_stp rfl (stp_val (run_lenv _ _ rfl) ?_)) | (refine wpList_is (.slice _ _ none (some _) none) rfl ?_; refine wpList_stp rfl (stp_val (run_prev _ _ _ rfl) ?_)) | (refine wpList_is (.indexAddr _ _ _) rfl ?_; refine wpList_stp rfl (stp_val (run_idxv _ _ _ rfl) ?_)) | go_skip | (refine wpList_is (.build _ _) rfl ?_; go_must (refine wpList_stp rfl (stp_val (run_bd _ _ rfl) ?_))) | (refine wpList_is (.call { callee := .builtin .clear, args := #[_], argTypes := #[_] }) rfl ?_; go_must (refine wpList_stp rfl (stp_cl _ _ rfl hS (by decide) ?_)); clear hS; intro w hS) | (refine wpList_is (.load _ _) rfl ?_; go_must (first | refine wpList_stp rfl (stp_val (run_ld _ _ rfl hS) ?_) | refine wpList_stp rfl (stp_val (run_lda _ _ rfl hS) ?_) | refine wpList_stp rfl (stp_val (run_ld0 _ _ rfl hS) ?_) | refine wpList_stp rfl (stp_val (run_lda0 _ _ rfl hS) ?_))) | (refine wpList_is (.store _ _ _) rfl ?_; go_must (first | refine wpList_stp rfl (stp_st _ _ _ rfl hS ?_) | refine wpList_stp rfl (stp_sta _ _ _ rfl hS ?_)); clear hS; intro w hS) | (refine wpList_is (.alloc _) rfl ?_; go_must (refine wpList_stp rfl (stp_al _ rfl hS ?_)); clear hS; intro bN w hbN hS) | (refine wpList_is (.box _ _) rfl ?_; go_must (refine wpList_stp rfl (stp_bx _ _ rfl hS ?_)); clear hS; intro bN w hbN hS) | (refine wpList_is (.binOp .eql _ _ (.const (.slice none _ _)) _) rfl ?_; refine wpList_stp rfl (stp_val (run_nse _ _ _ rfl) ?_)) | (refine wpList_is (.binOp .neq _ _ (.const (.slice none _ _)) _) rfl ?_; refine wpList_stp rfl (stp_val (run_nsn _ _ _ rfl) ?_)))
        refine region_new [] rfl hS _ (by kernel_rfl) (by kernel_rfl) (hpk := pickRefl) ?_
        refine fx_val (fun _ => rfl) rfl (fun χ w hw => run_mv _ rfl) ?_
        refine fx_val (fun _ => rfl) rfl (fun χ w hw => run_nc _ rfl) ?_
        refine fx_val (fun _ => rfl) rfl (fun χ w hw => run_fa _ _ _ rfl) ?_
        refine fx_val (fun _ => rfl) rfl (fun χ w hw => run_ld _ _ rfl hw) ?_
        refine fx_val (fun _ => rfl) rfl (fun χ w hw => run_lda _ _ rfl hw) ?_
        refine fx_ask 14 [_, _] _ rfl (fun _ => rfl) rfl (enters _ (by kernel_rfl)) (.tuple #[.int .i64 0, .int .i64 7]) (fun X w hS => dk_until hS hT ko oi og hog 0 7 hu1'.out he1'.out (fun w' _ hS' => ⟨rfl, hS'.pick⟩)) ?_
        refine fx_val (fun _ => rfl) rfl (fun χ w hw => run_mv _ rfl) ?_
        refine fx_val (fun _ => rfl) rfl (fun χ w hw => run_ext _ _ rfl) ?_
        refine fx_val (fun _ => rfl) rfl (fun χ w hw => run_ext _ _ rfl) ?_
        refine fx_val (fun _ => rfl) rfl (fun χ w hw => run_as _ rfl) ?_
        refine fx_val (fun _ => rfl) rfl (fun χ w hw => run_as _ rfl) ?_
        refine fx_end rfl ?_
        intro χ w hok hS
        replace hS := st_drop hS
        clear hok
        go_wp2_with (first | go_skip | go_skip | (refine wpList_is (.call { callee := .builtin .len, args := #[_], argTypes := #[_] }) rfl ?_; refine wpList_stp rfl (stp_val (run_lenv _ _ rfl) ?_)) | (refine wpList_is (.slice _ _ none (some _) none) rfl ?_; refine wpList_stp rfl (stp_val (run_prev _ _ _ rfl) ?_)) | (refine wpList_is (.indexAddr _ _ _) rfl ?_; refine wpList_stp rfl (stp_val (run_idxv _ _ _ rfl) ?_)) | go_skip | (refine wpList_is (.build _ _) rfl ?_; go_must (refine wpList_stp rfl (stp_val (run_bd _ _ rfl) ?_))) | (refine wpList_is (.call { callee := .builtin .clear, args := #[_], argTypes := #[_] }) rfl ?_; go_must (refine wpList_stp rfl (stp_cl _ _ rfl hS (by decide) ?_)); clear hS; intro w hS) | (refine wpList_is (.load _ _) rfl ?_; go_must (first | refine wpList_stp rfl (stp_val (run_ld _ _ rfl hS) ?_) | refine wpList_stp rfl (stp_val (run_lda _ _ rfl hS) ?_) | refine wpList_stp rfl (stp_val (run_ld0 _ _ rfl hS) ?_) | refine wpList_stp rfl (stp_val (run_lda0 _ _ rfl hS) ?_))) | (refine wpList_is (.store _ _ _) rfl ?_; go_must (first | refine wpList_stp rfl (stp_st _ _ _ rfl hS ?_) | refine wpList_stp rfl (stp_sta _ _ _ rfl hS ?_)); clear hS; intro w hS) | (refine wpList_is (.alloc _) rfl ?_; go_must (refine wpList_stp rfl (stp_al _ rfl hS ?_)); clear hS; intro bN w hbN hS) | (refine wpList_is (.box _ _) rfl ?_; go_must (refine wpList_stp rfl (stp_bx _ _ rfl hS ?_)); clear hS; intro bN w hbN hS) | (refine wpList_is (.binOp .eql _ _ (.const (.slice none _ _)) _) rfl ?_; refine wpList_stp rfl (stp_val (run_nse _ _ _ rfl) ?_)) | (refine wpList_is (.binOp .neq _ _ (.const (.slice none _ _)) _) rfl ?_; refine wpList_stp rfl (stp_val (run_nsn _ _ _ rfl) ?_)))
        refine region_new [] rfl hS _ (by kernel_rfl) (by kernel_rfl) (hpk := pickRefl) ?_
        refine fx_val (fun _ => rfl) rfl (fun χ w hw => run_mv _ rfl) ?_
        refine fx_val (fun _ => rfl) rfl (fun χ w hw => run_nc _ rfl) ?_
        refine fx_val (fun _ => rfl) rfl (fun χ w hw => run_fa _ _ _ rfl) ?_
        refine fx_val (fun _ => rfl) rfl (fun χ w hw => run_ld _ _ rfl hw) ?_
        refine fx_val (fun _ => rfl) rfl (fun χ w hw => run_lda _ _ rfl hw) ?_
        refine fx_val (fun _ => rfl) rfl (fun χ w hw => run_mv _ rfl) ?_
        refine fx_val (fun _ => rfl) rfl (fun χ w hw => run_nc _ rfl) ?_
        refine fx_val (fun _ => rfl) rfl (fun χ w hw => run_fa _ _ _ rfl) ?_
        refine fx_val (fun _ => rfl) rfl (fun χ w hw => run_ld _ _ rfl hw) ?_
        refine fx_ask 12 [_, _, _] _ rfl (fun _ => rfl) rfl (enters _ (by kernel_rfl)) (.tuple #[.bool false, .int .i64 7]) (fun X w hS => dk_over hS hT ko oi og now hog false 7 ho1'.out ho2'.out (fun w' _ hS' => ⟨rfl, hS'.pick⟩)) ?_
        refine fx_val (fun _ => rfl) rfl (fun χ w hw => run_mv _ rfl) ?_
        refine fx_val (fun _ => rfl) rfl (fun χ w hw => run_ext _ _ rfl) ?_
        refine fx_val (fun _ => rfl) rfl (fun χ w hw => run_ext _ _ rfl) ?_
        refine fx_val (fun _ => rfl) rfl (fun χ w hw => run_as _ rfl) ?_
        refine fx_val (fun _ => rfl) rfl (fun χ w hw => run_as _ rfl) ?_
        refine fx_end rfl ?_
        intro χ w hok hS
        replace hS := st_drop hS
        clear hok
        go_wp2_with (first | go_skip | go_skip | (refine wpList_is (.call { callee := .builtin .len, args := #[_], argTypes := #[_] }) rfl ?_; refine wpList_stp rfl (stp_val (run_lenv _ _ rfl) ?_)) | (refine wpList_is (.slice _ _ none (some _) none) rfl ?_; refine wpList_stp rfl (stp_val (run_prev _ _ _ rfl) ?_)) | (refine wpList_is (.indexAddr _ _ _) rfl ?_; refine wpList_stp rfl (stp_val (run_idxv _ _ _ rfl) ?_)) | go_skip | (refine wpList_is (.build _ _) rfl ?_; go_must (refine wpList_stp rfl (stp_val (run_bd _ _ rfl) ?_))) | (refine wpList_is (.call { callee := .builtin .clear, args := #[_], argTypes := #[_] }) rfl ?_; go_must (refine wpList_stp rfl (stp_cl _ _ rfl hS (by decide) ?_)); clear hS; intro w hS) | (refine wpList_is (.load _ _) rfl ?_; go_must (first | refine wpList_stp rfl (stp_val (run_ld _ _ rfl hS) ?_) | refine wpList_stp rfl (stp_val (run_lda _ _ rfl hS) ?_) | refine wpList_stp rfl (stp_val (run_ld0 _ _ rfl hS) ?_) | refine wpList_stp rfl (stp_val (run_lda0 _ _ rfl hS) ?_))) | (refine wpList_is (.store _ _ _) rfl ?_; go_must (first | refine wpList_stp rfl (stp_st _ _ _ rfl hS ?_) | refine wpList_stp rfl (stp_sta _ _ _ rfl hS ?_)); clear hS; intro w hS) | (refine wpList_is (.alloc _) rfl ?_; go_must (refine wpList_stp rfl (stp_al _ rfl hS ?_)); clear hS; intro bN w hbN hS) | (refine wpList_is (.box _ _) rfl ?_; go_must (refine wpList_stp rfl (stp_bx _ _ rfl hS ?_)); clear hS; intro bN w hbN hS) | (refine wpList_is (.binOp .eql _ _ (.const (.slice none _ _)) _) rfl ?_; refine wpList_stp rfl (stp_val (run_nse _ _ _ rfl) ?_)) | (refine wpList_is (.binOp .neq _ _ (.const (.slice none _ _)) _) rfl ?_; refine wpList_stp rfl (stp_val (run_nsn _ _ _ rfl) ?_)))
        refine region_itemsE [⟨(undef, E1), [(19, fun _ x => DA p (some (some L)) x.2)]⟩] (⟨bo, #[.int .i64 ko, .int .i64 oi, .int .u32 og], 29, true⟩ :: ⟨b, #[.pointer p, v1, v2, .int .i64 now, .bool true], 52, true⟩ :: (E2 ++ E3)) (E1 ++ (⟨bo, #[.int .i64 ko, .int .i64 oi, .int .u32 og], 29, true⟩ :: ⟨b, #[.pointer p, v1, v2, .int .i64 now, .bool true], 52, true⟩ :: (E2 ++ E3))) (by simp) hS.pick (by kernel_rfl) (by kernel_rfl) ?_
        refine fx_val (fun _ => rfl) rfl (fun χ w hw => run_mv _ rfl) ?_
        refine fx_val (fun _ => rfl) rfl (fun χ w hw => run_ine _ _ _ _ rfl) ?_
        refine fx_val (fun _ => rfl) rfl (fun χ w hw => run_mv _ rfl) ?_
        refine fx_val (fun _ => rfl) rfl (fun χ w hw => run_mv _ rfl) ?_
        refine fx_val (fun _ => rfl) rfl (fun χ w hw => run_ine _ _ _ _ rfl) ?_
        refine fx_val (fun _ => rfl) rfl (fun χ w hw => run_pk2 _ _ _ rfl) ?_
        refine fx_val (fun _ => rfl) rfl (fun χ w hw => run_mv _ rfl) ?_
        refine fx_val (fun _ => rfl) rfl (fun χ w hw => run_mv _ rfl) ?_
        refine fx_val (fun _ => rfl) rfl (fun χ w hw => run_ine _ _ _ _ rfl) ?_
        refine fx_val (fun _ => rfl) rfl (fun χ w hw => run_pk2 _ _ _ rfl) ?_
        refine fx_val (fun _ => rfl) rfl (fun χ w hw => run_mv _ rfl) ?_
        refine fx_val (fun _ => rfl) rfl (fun χ w hw => run_mv _ rfl) ?_
        refine fx_val (fun _ => rfl) rfl (fun χ w hw => run_pk2 _ _ _ rfl) ?_
        refine fx_val (fun _ => rfl) rfl (fun χ w hw => run_mv _ rfl) ?_
        refine fx_val (fun _ => rfl) rfl (fun χ w hw => run_mv _ rfl) ?_
        refine fx_val (fun _ => rfl) rfl (fun χ w hw => run_nc _ rfl) ?_
        refine fx_val (fun _ => rfl) rfl (fun χ w hw => run_fa _ _ _ rfl) ?_
        refine fx_val (fun _ => rfl) rfl (fun χ w hw => run_ld _ _ rfl hw) ?_
        refine fx_val (fun _ => rfl) rfl (fun χ w hw => run_lda _ _ rfl hw) ?_
        refine fx_turn 0 0 rfl rfl (by first | rfl | kernel_rfl) (by first | rfl | kernel_rfl) (by first | rfl | kernel_rfl) 15 [_, _] _ rfl (fun _ => rfl) (enters _ (by kernel_rfl)) (fun _ => .int .i64 7) ?_ ?_
        · intro χ X w _ hS
          exact dk_return (show St W [] w (E1 ++ (X ++ _)) from hS) hT ko oi og hog _ 7 hrt'.out he1'.out (fun E' w' hT' hS' => ⟨(undef, E'), rfl, hT', show St W [] w' (E' ++ (X ++ _)) from hS'.pick⟩)
        refine fx_val (fun _ => rfl) rfl (fun χ w hw => run_ine _ _ _ _ rfl) ?_
        refine fx_val (fun _ => rfl) rfl (fun χ w hw => run_pk2 _ _ _ rfl) ?_
        refine fx_end rfl ?_
        intro χ w hok hS
        obtain ⟨hT2, _⟩ := hok _ (.head _)
        have hS : St W [] w (((χ 19).2 ++ []) ++ (⟨bo, #[.int .i64 ko, .int .i64 oi, .int .u32 og], 29, true⟩ :: ⟨b, #[.pointer p, v1, v2, .int .i64 now, .bool true], 52, true⟩ :: (E2 ++ E3))) := hS
        rw [List.append_nil] at hS
        generalize (χ 19).2 = E4 at hS hT2
        clear hok
        go_wp2_with (first | go_skip | go_skip | (refine wpList_is (.call { callee := .builtin .len, args := #[_], argTypes := #[_] }) rfl ?_; refine wpList_stp rfl (stp_val (run_lenv _ _ rfl) ?_)) | (refine wpList_is (.slice _ _ none (some _) none) rfl ?_; refine wpList_stp rfl (stp_val (run_prev _ _ _ rfl) ?_)) | (refine wpList_is (.indexAddr _ _ _) rfl ?_; refine wpList_stp rfl (stp_val (run_idxv _ _ _ rfl) ?_)) | go_skip | (refine wpList_is (.build _ _) rfl ?_; go_must (refine wpList_stp rfl (stp_val (run_bd _ _ rfl) ?_))) | (refine wpList_is (.call { callee := .builtin .clear, args := #[_], argTypes := #[_] }) rfl ?_; go_must (refine wpList_stp rfl (stp_cl _ _ rfl hS (by decide) ?_)); clear hS; intro w hS) | (refine wpList_is (.load _ _) rfl ?_; go_must (first | refine wpList_stp rfl (stp_val (run_ld _ _ rfl hS) ?_) | refine wpList_stp rfl (stp_val (run_lda _ _ rfl hS) ?_) | refine wpList_stp rfl (stp_val (run_ld0 _ _ rfl hS) ?_) | refine wpList_stp rfl (stp_val (run_lda0 _ _ rfl hS) ?_))) | (refine wpList_is (.store _ _ _) rfl ?_; go_must (first | refine wpList_stp rfl (stp_st _ _ _ rfl hS ?_) | refine wpList_stp rfl (stp_sta _ _ _ rfl hS ?_)); clear hS; intro w hS) | (refine wpList_is (.alloc _) rfl ?_; go_must (refine wpList_stp rfl (stp_al _ rfl hS ?_)); clear hS; intro bN w hbN hS) | (refine wpList_is (.box _ _) rfl ?_; go_must (refine wpList_stp rfl (stp_bx _ _ rfl hS ?_)); clear hS; intro bN w hbN hS) | (refine wpList_is (.binOp .eql _ _ (.const (.slice none _ _)) _) rfl ?_; refine wpList_stp rfl (stp_val (run_nse _ _ _ rfl) ?_)) | (refine wpList_is (.binOp .neq _ _ (.const (.slice none _ _)) _) rfl ?_; refine wpList_stp rfl (stp_val (run_nsn _ _ _ rfl) ?_)))
        go_roundw
        case rel => exact ⟨k + 1, E4, by omega, by go_num, hT2, hS.pick⟩
        case measure => simp [intOf]; omega
      · have hin := all_at hat (by omega)
        have d7 : (u == 0) = false := beq_eq_false_iff_ne.2 h0
        have d8 : decide (u = 0) = false := decide_eq_false h0
        have hct' := Lib.hid (decide_eq_true hin)
        rw [if_neg h0] at he1 ho1 ho2
        obtain ⟨ov, hov⟩ : ∃ b, decide (u ≤ now) = b := ⟨_, rfl⟩
        rw [hov] at ho1
        have hle : LeIs u now ov := ⟨hov⟩
        have hu1' := Lib.hid hu1
        have he1' := Lib.hid he1
        have ho1' := Lib.hid ho1
        have ho2' := Lib.hid ho2
        clear hu1 he1 ho1 ho2 hat hin hov
        go_wp2_with (first | go_skip | (refine wpList_is (.alloc 29) rfl ?_; go_must (refine wpList_stp rfl (stp_al _ rfl hS ?_)); clear hS; intro bo w _ hS) | go_skip | (refine wpList_is (.call { callee := .builtin .len, args := #[_], argTypes := #[_] }) rfl ?_; refine wpList_stp rfl (stp_val (run_lenv _ _ rfl) ?_)) | (refine wpList_is (.slice _ _ none (some _) none) rfl ?_; refine wpList_stp rfl (stp_val (run_prev _ _ _ rfl) ?_)) | (refine wpList_is (.indexAddr _ _ _) rfl ?_; refine wpList_stp rfl (stp_val (run_idxv _ _ _ rfl) ?_)) | go_skip | (refine wpList_is (.build _ _) rfl ?_; go_must (refine wpList_stp rfl (stp_val (run_bd _ _ rfl) ?_))) | (refine wpList_is (.call { callee := .builtin .clear, args := #[_], argTypes := #[_] }) rfl ?_; go_must (refine wpList_stp rfl (stp_cl _ _ rfl hS (by decide) ?_)); clear hS; intro w hS) | (refine wpList_is (.load _ _) rfl ?_; go_must (first | refine wpList_stp rfl (stp_val (run_ld _ _ rfl hS) ?_) | refine wpList_stp rfl (stp_val (run_lda _ _ rfl hS) ?_) | refine wpList_stp rfl (stp_val (run_ld0 _ _ rfl hS) ?_) | refine wpList_stp rfl (stp_val (run_lda0 _ _ rfl hS) ?_))) | (refine wpList_is (.store _ _ _) rfl ?_; go_must (first | refine wpList_stp rfl (stp_st _ _ _ rfl hS ?_) | refine wpList_stp rfl (stp_sta _ _ _ rfl hS ?_)); clear hS; intro w hS) | (refine wpList_is (.alloc _) rfl ?_; go_must (refine wpList_stp rfl (stp_al _ rfl hS ?_)); clear hS; intro bN w hbN hS) | (refine wpList_is (.box _ _) rfl ?_; go_must (refine wpList_stp rfl (stp_bx _ _ rfl hS ?_)); clear hS; intro bN w hbN hS) | (refine wpList_is (.binOp .eql _ _ (.const (.slice none _ _)) _) rfl ?_; refine wpList_stp rfl (stp_val (run_nse _ _ _ rfl) ?_)) | (refine wpList_is (.binOp .neq _ _ (.const (.slice none _ _)) _) rfl ?_; refine wpList_stp rfl (stp_val (run_nsn _ _ _ rfl) ?_)))
        refine region_new [] rfl hS _ (by kernel_rfl) (by kernel_rfl) (hpk := pickRefl) ?_
        refine fx_val (fun _ => rfl) rfl (fun χ w hw => run_mv _ rfl) ?_
        refine fx_val (fun _ => rfl) rfl (fun χ w hw => run_nc _ rfl) ?_
        refine fx_val (fun _ => rfl) rfl (fun χ w hw => run_fa _ _ _ rfl) ?_
        refine fx_val (fun _ => rfl) rfl (fun χ w hw => run_ld _ _ rfl hw) ?_
        refine fx_val (fun _ => rfl) rfl (fun χ w hw => run_lda _ _ rfl hw) ?_
        refine fx_ask 14 [_, _] _ rfl (fun _ => rfl) rfl (enters _ (by kernel_rfl)) (.tuple #[.int .i64 u, .int .i64 0]) (fun X w hS => dk_until hS hT ko oi og hog u 0 hu1'.out he1'.out (fun w' _ hS' => ⟨rfl, hS'.pick⟩)) ?_
        refine fx_val (fun _ => rfl) rfl (fun χ w hw => run_mv _ rfl) ?_
        refine fx_val (fun _ => rfl) rfl (fun χ w hw => run_ext _ _ rfl) ?_
        refine fx_val (fun _ => rfl) rfl (fun χ w hw => run_ext _ _ rfl) ?_
        refine fx_val (fun _ => rfl) rfl (fun χ w hw => run_as _ rfl) ?_
        refine fx_val (fun _ => rfl) rfl (fun χ w hw => run_as _ rfl) ?_
        refine fx_end rfl ?_
        intro χ w hok hS
        replace hS := st_drop hS
        clear hok
        go_wp2_with (first | go_skip | go_skip | (refine wpList_is (.call { callee := .builtin .len, args := #[_], argTypes := #[_] }) rfl ?_; refine wpList_stp rfl (stp_val (run_lenv _ _ rfl) ?_)) | (refine wpList_is (.slice _ _ none (some _) none) rfl ?_; refine wpList_stp rfl (stp_val (run_prev _ _ _ rfl) ?_)) | (refine wpList_is (.indexAddr _ _ _) rfl ?_; refine wpList_stp rfl (stp_val (run_idxv _ _ _ rfl) ?_)) | go_skip | (refine wpList_is (.build _ _) rfl ?_; go_must (refine wpList_stp rfl (stp_val (run_bd _ _ rfl) ?_))) | (refine wpList_is (.call { callee := .builtin .clear, args := #[_], argTypes := #[_] }) rfl ?_; go_must (refine wpList_stp rfl (stp_cl _ _ rfl hS (by decide) ?_)); clear hS; intro w hS) | (refine wpList_is (.load _ _) rfl ?_; go_must (first | refine wpList_stp rfl (stp_val (run_ld _ _ rfl hS) ?_) | refine wpList_stp rfl (stp_val (run_lda _ _ rfl hS) ?_) | refine wpList_stp rfl (stp_val (run_ld0 _ _ rfl hS) ?_) | refine wpList_stp rfl (stp_val (run_lda0 _ _ rfl hS) ?_))) | (refine wpList_is (.store _ _ _) rfl ?_; go_must (first | refine wpList_stp rfl (stp_st _ _ _ rfl hS ?_) | refine wpList_stp rfl (stp_sta _ _ _ rfl hS ?_)); clear hS; intro w hS) | (refine wpList_is (.alloc _) rfl ?_; go_must (refine wpList_stp rfl (stp_al _ rfl hS ?_)); clear hS; intro bN w hbN hS) | (refine wpList_is (.box _ _) rfl ?_; go_must (refine wpList_stp rfl (stp_bx _ _ rfl hS ?_)); clear hS; intro bN w hbN hS) | (refine wpList_is (.binOp .eql _ _ (.const (.slice none _ _)) _) rfl ?_; refine wpList_stp rfl (stp_val (run_nse _ _ _ rfl) ?_)) | (refine wpList_is (.binOp .neq _ _ (.const (.slice none _ _)) _) rfl ?_; refine wpList_stp rfl (stp_val (run_nsn _ _ _ rfl) ?_)))
        refine region_new [] rfl hS _ (by kernel_rfl) (by kernel_rfl) (hpk := pickRefl) ?_
        refine fx_val (fun _ => rfl) rfl (fun χ w hw => run_mv _ rfl) ?_
        refine fx_val (fun _ => rfl) rfl (fun χ w hw => run_nc _ rfl) ?_
        refine fx_val (fun _ => rfl) rfl (fun χ w hw => run_fa _ _ _ rfl) ?_
        refine fx_val (fun _ => rfl) rfl (fun χ w hw => run_ld _ _ rfl hw) ?_
        refine fx_val (fun _ => rfl) rfl (fun χ w hw => run_lda _ _ rfl hw) ?_
        refine fx_val (fun _ => rfl) rfl (fun χ w hw => run_mv _ rfl) ?_
        refine fx_val (fun _ => rfl) rfl (fun χ w hw => run_nc _ rfl) ?_
        refine fx_val (fun _ => rfl) rfl (fun χ w hw => run_fa _ _ _ rfl) ?_
        refine fx_val (fun _ => rfl) rfl (fun χ w hw => run_ld _ _ rfl hw) ?_
        refine fx_ask 12 [_, _, _] _ rfl (fun _ => rfl) rfl (enters _ (by kernel_rfl)) (.tuple #[.bool ov, .int .i64 0]) (fun X w hS => dk_over hS hT ko oi og now hog ov 0 ho1'.out ho2'.out (fun w' _ hS' => ⟨rfl, hS'.pick⟩)) ?_
        refine fx_val (fun _ => rfl) rfl (fun χ w hw => run_mv _ rfl) ?_
        refine fx_val (fun _ => rfl) rfl (fun χ w hw => run_ext _ _ rfl) ?_
        refine fx_val (fun _ => rfl) rfl (fun χ w hw => run_ext _ _ rfl) ?_
        refine fx_val (fun _ => rfl) rfl (fun χ w hw => run_as _ rfl) ?_
        refine fx_val (fun _ => rfl) rfl (fun χ w hw => run_as _ rfl) ?_
        refine fx_end rfl ?_
        intro χ w hok hS
        replace hS := st_drop hS
        clear hok
        go_wp2_with (first | go_skip | go_skip | (refine wpList_is (.call { callee := .builtin .len, args := #[_], argTypes := #[_] }) rfl ?_; refine wpList_stp rfl (stp_val (run_lenv _ _ rfl) ?_)) | (refine wpList_is (.slice _ _ none (some _) none) rfl ?_; refine wpList_stp rfl (stp_val (run_prev _ _ _ rfl) ?_)) | (refine wpList_is (.indexAddr _ _ _) rfl ?_; refine wpList_stp rfl (stp_val (run_idxv _ _ _ rfl) ?_)) | go_skip | (refine wpList_is (.build _ _) rfl ?_; go_must (refine wpList_stp rfl (stp_val (run_bd _ _ rfl) ?_))) | (refine wpList_is (.call { callee := .builtin .clear, args := #[_], argTypes := #[_] }) rfl ?_; go_must (refine wpList_stp rfl (stp_cl _ _ rfl hS (by decide) ?_)); clear hS; intro w hS) | (refine wpList_is (.load _ _) rfl ?_; go_must (first | refine wpList_stp rfl (stp_val (run_ld _ _ rfl hS) ?_) | refine wpList_stp rfl (stp_val (run_lda _ _ rfl hS) ?_) | refine wpList_stp rfl (stp_val (run_ld0 _ _ rfl hS) ?_) | refine wpList_stp rfl (stp_val (run_lda0 _ _ rfl hS) ?_))) | (refine wpList_is (.store _ _ _) rfl ?_; go_must (first | refine wpList_stp rfl (stp_st _ _ _ rfl hS ?_) | refine wpList_stp rfl (stp_sta _ _ _ rfl hS ?_)); clear hS; intro w hS) | (refine wpList_is (.alloc _) rfl ?_; go_must (refine wpList_stp rfl (stp_al _ rfl hS ?_)); clear hS; intro bN w hbN hS) | (refine wpList_is (.box _ _) rfl ?_; go_must (refine wpList_stp rfl (stp_bx _ _ rfl hS ?_)); clear hS; intro bN w hbN hS) | (refine wpList_is (.binOp .eql _ _ (.const (.slice none _ _)) _) rfl ?_; refine wpList_stp rfl (stp_val (run_nse _ _ _ rfl) ?_)) | (refine wpList_is (.binOp .neq _ _ (.const (.slice none _ _)) _) rfl ?_; refine wpList_stp rfl (stp_val (run_nsn _ _ _ rfl) ?_)))
        refine region_itemsE [⟨(undef, []), [(32, fun _ x => OS x.1 (allD (some (some L))) x.2)]⟩] (⟨bo, #[.int .i64 ko, .int .i64 oi, .int .u32 og], 29, true⟩ :: ⟨b, #[.pointer p, v1, v2, .int .i64 now, .bool true], 52, true⟩ :: (E1 ++ (E2 ++ E3))) (⟨bo, #[.int .i64 ko, .int .i64 oi, .int .u32 og], 29, true⟩ :: ⟨b, #[.pointer p, v1, v2, .int .i64 now, .bool true], 52, true⟩ :: (E1 ++ (E2 ++ E3))) (by simp) hS.pick (by kernel_rfl) (by kernel_rfl) ?_
        refine fx_val (fun _ => rfl) rfl (fun χ w hw => run_mv _ rfl) ?_
        refine fx_val (fun _ => rfl) rfl (fun χ w hw => run_ine _ _ _ _ rfl) ?_
        refine fx_val (fun _ => rfl) rfl (fun χ w hw => run_mv _ rfl) ?_
        refine fx_val (fun _ => rfl) rfl (fun χ w hw => run_mv _ rfl) ?_
        refine fx_val (fun _ => rfl) rfl (fun χ w hw => run_ine _ _ _ _ rfl) ?_
        refine fx_val (fun _ => rfl) rfl (fun χ w hw => run_pk2 _ _ _ rfl) ?_
        refine fx_val (fun _ => rfl) rfl (fun χ w hw => run_mv _ rfl) ?_
        refine fx_val (fun _ => rfl) rfl (fun χ w hw => run_mv _ rfl) ?_
        refine fx_val (fun _ => rfl) rfl (fun χ w hw => run_mv _ rfl) ?_
        refine fx_val (fun _ => rfl) rfl (fun χ w hw => run_nc _ rfl) ?_
        refine fx_val (fun _ => rfl) rfl (fun χ w hw => run_fa _ _ _ rfl) ?_
        refine fx_val (fun _ => rfl) rfl (fun χ w hw => run_ld _ _ rfl hw) ?_
        refine fx_val (fun _ => rfl) rfl (fun χ w hw => run_mv _ rfl) ?_
        refine fx_val (fun _ => rfl) rfl (fun χ w hw => run_idxv _ _ _ rfl) ?_
        refine fx_val (fun _ => rfl) rfl (fun χ w hw => run_ld _ _ rfl hw) ?_
        refine fx_val (fun _ => rfl) rfl (fun χ w hw => run_ine _ _ _ _ rfl) ?_
        refine fx_val (fun _ => rfl) rfl (fun χ w hw => run_pk2 _ _ _ rfl) ?_
        refine fx_val (fun _ => rfl) rfl (fun χ w hw => run_mv _ rfl) ?_
        refine fx_val (fun _ => rfl) rfl (fun χ w hw => run_mv _ rfl) ?_
        refine fx_val (fun _ => rfl) rfl (fun χ w hw => run_mv _ rfl) ?_
        refine fx_val (fun _ => rfl) rfl (fun χ w hw => run_nc _ rfl) ?_
        refine fx_val (fun _ => rfl) rfl (fun χ w hw => run_fa _ _ _ rfl) ?_
        refine fx_val (fun _ => rfl) rfl (fun χ w hw => run_ld _ _ rfl hw) ?_
        refine fx_val (fun _ => rfl) rfl (fun χ w hw => run_mv _ rfl) ?_
        refine fx_val (fun _ => rfl) rfl (fun χ w hw => run_geqv _ _ _ _ rfl) ?_
        refine fx_val (fun _ => rfl) rfl (fun χ w hw => run_bne _ _ _ _ rfl) ?_
        refine fx_val (fun _ => rfl) rfl (fun χ w hw => run_pk2 _ _ _ rfl) ?_
        refine fx_val (fun _ => rfl) rfl (fun χ w hw => run_mv _ rfl) ?_
        refine fx_val (fun _ => rfl) rfl (fun χ w hw => run_mv _ rfl) ?_
        refine fx_val (fun _ => rfl) rfl (fun χ w hw => run_nc _ rfl) ?_
        refine fx_val (fun _ => rfl) rfl (fun χ w hw => run_fa _ _ _ rfl) ?_
        refine fx_val (fun _ => rfl) rfl (fun χ w hw => run_ld _ _ rfl hw) ?_
        refine fx_turn 0 0 rfl rfl (by first | rfl | kernel_rfl) (by first | rfl | kernel_rfl) (by first | rfl | kernel_rfl) 23 [_] _ rfl (fun _ => rfl) (enters _ (by kernel_rfl)) (fun x => x.1) ?_ ?_
        · intro χ X w _ hS
          exact dk_all (show St W [] w (X ++ _) from hS) hT _ rfl (fun v E' w' hA' hS' => ⟨(v, E'), rfl, hA', (show St W [] w' (E' ++ (X ++ _)) from hS'.pick)⟩)
        refine fx_val (fun _ => rfl) rfl (fun χ w hw => run_lda _ _ rfl hw) ?_
        refine fx_use 0 rfl (by kernel_rfl) 24 [_, _] _ rfl (fun _ => rfl) rfl (enters _ (by kernel_rfl)) (.bool true) ?_ ?_
        · rintro χ X w ⟨hA2, _⟩ hS
          exact contains_eq (show St W [] w ((χ 32).2 ++ (X ++ _)) from hS) hA2 (by have := hal'.out; omega) ko oi og true hct'.out (fun w' hS' => ⟨rfl, show St W [] w' ((χ 32).2 ++ (X ++ _)) from hS'.pick⟩)
        refine fx_val (fun _ => rfl) rfl (fun χ w hw => run_bnot _ _ rfl) ?_
        refine fx_val (fun _ => rfl) rfl (fun χ w hw => run_pk2 _ _ _ rfl) ?_
        refine fx_end rfl ?_
        intro χ w hok hS
        replace hS := st_drop hS
        clear hok
        go_wp2_with (first | go_skip | go_skip | (refine wpList_is (.call { callee := .builtin .len, args := #[_], argTypes := #[_] }) rfl ?_; refine wpList_stp rfl (stp_val (run_lenv _ _ rfl) ?_)) | (refine wpList_is (.slice _ _ none (some _) none) rfl ?_; refine wpList_stp rfl (stp_val (run_prev _ _ _ rfl) ?_)) | (refine wpList_is (.indexAddr _ _ _) rfl ?_; refine wpList_stp rfl (stp_val (run_idxv _ _ _ rfl) ?_)) | go_skip | (refine wpList_is (.build _ _) rfl ?_; go_must (refine wpList_stp rfl (stp_val (run_bd _ _ rfl) ?_))) | (refine wpList_is (.call { callee := .builtin .clear, args := #[_], argTypes := #[_] }) rfl ?_; go_must (refine wpList_stp rfl (stp_cl _ _ rfl hS (by decide) ?_)); clear hS; intro w hS) | (refine wpList_is (.load _ _) rfl ?_; go_must (first | refine wpList_stp rfl (stp_val (run_ld _ _ rfl hS) ?_) | refine wpList_stp rfl (stp_val (run_lda _ _ rfl hS) ?_) | refine wpList_stp rfl (stp_val (run_ld0 _ _ rfl hS) ?_) | refine wpList_stp rfl (stp_val (run_lda0 _ _ rfl hS) ?_))) | (refine wpList_is (.store _ _ _) rfl ?_; go_must (first | refine wpList_stp rfl (stp_st _ _ _ rfl hS ?_) | refine wpList_stp rfl (stp_sta _ _ _ rfl hS ?_)); clear hS; intro w hS) | (refine wpList_is (.alloc _) rfl ?_; go_must (refine wpList_stp rfl (stp_al _ rfl hS ?_)); clear hS; intro bN w hbN hS) | (refine wpList_is (.box _ _) rfl ?_; go_must (refine wpList_stp rfl (stp_bx _ _ rfl hS ?_)); clear hS; intro bN w hbN hS) | (refine wpList_is (.binOp .eql _ _ (.const (.slice none _ _)) _) rfl ?_; refine wpList_stp rfl (stp_val (run_nse _ _ _ rfl) ?_)) | (refine wpList_is (.binOp .neq _ _ (.const (.slice none _ _)) _) rfl ?_; refine wpList_stp rfl (stp_val (run_nsn _ _ _ rfl) ?_)))
        go_roundw
        case rel => exact ⟨k + 1, E1, by omega, by go_num, hT, hS.pick⟩
        case measure => simp [intOf]; omega
    · obtain rfl : k = q := by omega
      clear hk hlt
      go_wp2_with (first | go_skip | (go_at_call 16; refine works_ok hS ?_; clear hS; intro w hS; unfold Ret) | go_skip | (refine wpList_is (.call { callee := .builtin .len, args := #[_], argTypes := #[_] }) rfl ?_; refine wpList_stp rfl (stp_val (run_lenv _ _ rfl) ?_)) | (refine wpList_is (.slice _ _ none (some _) none) rfl ?_; refine wpList_stp rfl (stp_val (run_prev _ _ _ rfl) ?_)) | (refine wpList_is (.indexAddr _ _ _) rfl ?_; refine wpList_stp rfl (stp_val (run_idxv _ _ _ rfl) ?_)) | go_skip | (refine wpList_is (.build _ _) rfl ?_; go_must (refine wpList_stp rfl (stp_val (run_bd _ _ rfl) ?_))) | (refine wpList_is (.call { callee := .builtin .clear, args := #[_], argTypes := #[_] }) rfl ?_; go_must (refine wpList_stp rfl (stp_cl _ _ rfl hS (by decide) ?_)); clear hS; intro w hS) | (refine wpList_is (.load _ _) rfl ?_; go_must (first | refine wpList_stp rfl (stp_val (run_ld _ _ rfl hS) ?_) | refine wpList_stp rfl (stp_val (run_lda _ _ rfl hS) ?_) | refine wpList_stp rfl (stp_val (run_ld0 _ _ rfl hS) ?_) | refine wpList_stp rfl (stp_val (run_lda0 _ _ rfl hS) ?_))) | (refine wpList_is (.store _ _ _) rfl ?_; go_must (first | refine wpList_stp rfl (stp_st _ _ _ rfl hS ?_) | refine wpList_stp rfl (stp_sta _ _ _ rfl hS ?_)); clear hS; intro w hS) | (refine wpList_is (.alloc _) rfl ?_; go_must (refine wpList_stp rfl (stp_al _ rfl hS ?_)); clear hS; intro bN w hbN hS) | (refine wpList_is (.box _ _) rfl ?_; go_must (refine wpList_stp rfl (stp_bx _ _ rfl hS ?_)); clear hS; intro bN w hbN hS) | (refine wpList_is (.binOp .eql _ _ (.const (.slice none _ _)) _) rfl ?_; refine wpList_stp rfl (stp_val (run_nse _ _ _ rfl) ?_)) | (refine wpList_is (.binOp .neq _ _ (.const (.slice none _ _)) _) rfl ?_; refine wpList_stp rfl (stp_val (run_nsn _ _ _ rfl) ?_)))
      exact hR _ hS.chg
end Go.Proofs.Ytbjcjbkgjnojmaa
