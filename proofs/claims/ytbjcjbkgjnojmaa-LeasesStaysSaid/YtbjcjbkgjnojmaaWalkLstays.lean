/-
  The walk of LeasesStays.
-/
import Derived.Test.YtbjcjbkgjnojmaaDmoveZ
import Derived.Deep.DeepCutAuto
import Derived.Deep.CutBlock
set_option linter.unusedSimpArgs false
set_option linter.unusedVariables false
namespace Go.Proofs.Ytbjcjbkgjnojmaa
open Go.RowKit Go.Mm
variable {R : Ending → World → Prop}

instance ls_b {k g : Int} : BuildT Try.prog 29 [(0, .int .i64 k), (2, .int .u32 g)] #[.int .i64 k, .int .i64 0, .int .u32 g] := ⟨fun w => by kernel_rfl⟩
theorem gr_bad {L : List Ls} {t n : Int} (h : (spB t && tmB n) = false) : grT (some (some L)) t n = some (some L) ∧ grE (some (some L)) t n = 2 ∧ grR (some (some L)) t n = (0, 0, 0) := by
  have hI : grI L t n = none := by unfold grI; rw [h]; rfl
  simp [grT, grE, grR, hI, h]
theorem gr_over {L : List Ls} {t n : Int} (h : (spB t && tmB n) = true) (ho : ¬ n + t ≤ 1099511627776) : grT (some (some L)) t n = some (some L) ∧ grE (some (some L)) t n = 17 ∧ grR (some (some L)) t n = (0, 0, 0) := by
  have hI : grI L t n = none := by unfold grI; rw [h, decide_eq_false ho]; rfl
  simp [grT, grE, grR, hI, h, if_neg ho]
theorem rn_of {T : Dk} {k i g t n e : Int} (h : wiE T (spB t && tmB n) k i g = e) (h0 : e ≠ 0) : rnT T k i g t n = T ∧ rnE T k i g t n = e := by
  have hE : rnE T k i g t n = e := by unfold rnE; rw [h, if_neg h0]
  exact ⟨by unfold rnT; rw [hE, if_neg h0], hE⟩
theorem rt_of {T : Dk} {k i g e : Int} (h : wiE T true k i g = e) (h0 : e ≠ 0) : rtT T k i g = T := by unfold rtT; rw [h, if_neg h0]
theorem wi_900 {L : List Ls} (hW : DkW L) (hg : ∀ x ∈ L, x.2.1 ≤ 101) : wiE (some (some L)) true 3 63 900 = if L.length = 64 then 7 else 3 := by
  have e : wiE (some (some L)) true 3 63 900 = ckE (some (tbD L)) 63 900 := by simp [wiE]
  have hlo := hW.lo
  have hhi := hW.hi
  rw [e]
  by_cases h : L.length = 64
  · rw [if_pos h]
    have h63 : 63 < L.length := by omega
    have := ck_at (L := tbD L) (i := 63) (by rw [tbD_len]; exact h63) 900
    rw [show ((63 : Nat) : Int) = 63 from rfl] at this
    rw [this, if_neg]
    intro q
    rw [tbD_get] at q
    have q2 := (Prod.mk.inj q).2
    have hm : L.getD 63 (0, 0, 0) ∈ L := by rw [List.getD_eq_getElem?_getD, List.getElem?_eq_getElem h63]; exact List.getElem_mem h63
    have := hg _ hm
    omega
  · rw [if_neg h]
    exact ck_out (by rw [tbD_len]; omega) (.inr (by rw [tbD_len]; omega)) 900

set_option maxHeartbeats 4000000 in
set_option maxRecDepth 100000 in
theorem walk_lstays {W : World} (z : Int) (wz : (Lit.int .u8 z).wf = true) (v : Value) {n sb so : Nat} {F : Nat → Nat → Value} (hv : Flat W [.i .u8, .i .u8, .i .u8, .i .u8] v n sb so F) (wa : Int) (ww : (Lit.int .u8 wa).wf = true) (hR : ∀ w', Chg W w' [] → Ret R (.bool true) w') :
    Calls Try.prog 9 #[.int .u8 z, v, .int .u8 wa] W R := by
  have hS : St W [] W [] := St.start0
  have hz := bounds_u8m wz
  have hw := bounds_u8m ww
  obtain ⟨x, hx⟩ : ∃ x, wa.tmod 9 = x := ⟨_, rfl⟩
  have hxx : x = wa % 9 := by rw [← hx, Int.tmod_eq_emod_of_nonneg (by omega)]
  have hrem : RemIs wa 9 x := ⟨hx, by omega⟩
  have h9 : x = 0 ∨ x = 1 ∨ x = 2 ∨ x = 3 ∨ x = 4 ∨ x = 5 ∨ x = 6 ∨ x = 7 ∨ x = 8 := by omega
  clear hx hxx hw ww
  go_enter Try.func9, Try.ntmps9
  go_upto_block 0 with (first | go_skip | (go_at_call 19; refine played_ok hS z 1 hz (by omega) hv ?_; clear hS; intro b p L l us now E w hX hI hnow hl100 hLg hS; obtain ⟨v1, v2, E1, E2, E3, hT, hA, hU, rfl⟩ := hX; have hLg' := Lib.hid hLg; have hI' := Lib.hid hI; clear hI hLg; have ho1 := hA.one; have ho2 := hU.one; simp only [List.cons_append, List.append_nil] at hS; unfold Ret) | (go_at_call 23; refine dk_all hS hT _ rfl ?_; clear hS; intro va Ea w hVA hS; have hova := hVA.one; unfold Ret) | (go_at_call 17; refine lease_ok hS _ _ ?_; clear hS; intro w hS; unfold Ret) | (refine wpList_is (.alloc 29) rfl ?_; go_must (refine wpList_stp rfl (stp_al _ rfl hS ?_)); clear hS; intro b9 w _ hS) | (refine wpList_is (.binOp .rem _ _ _ _) rfl ?_; refine wpList_stp rfl (stp_val (run_remv _ _ _ _ rfl) ?_)) | go_skip | (refine wpList_is (.call { callee := .builtin .len, args := #[_], argTypes := #[_] }) rfl ?_; refine wpList_stp rfl (stp_val (run_lenv _ _ rfl) ?_)) | (refine wpList_is (.slice _ _ none (some _) none) rfl ?_; refine wpList_stp rfl (stp_val (run_prev _ _ _ rfl) ?_)) | (refine wpList_is (.indexAddr _ _ _) rfl ?_; refine wpList_stp rfl (stp_val (run_idxv _ _ _ rfl) ?_)) | go_skip | (refine wpList_is (.build _ _) rfl ?_; go_must (refine wpList_stp rfl (stp_val (run_bd _ _ rfl) ?_))) | (refine wpList_is (.call { callee := .builtin .clear, args := #[_], argTypes := #[_] }) rfl ?_; go_must (refine wpList_stp rfl (stp_cl _ _ rfl hS (by decide) ?_)); clear hS; intro w hS) | (refine wpList_is (.load _ _) rfl ?_; go_must (first | refine wpList_stp rfl (stp_val (run_ld _ _ rfl hS) ?_) | refine wpList_stp rfl (stp_val (run_lda _ _ rfl hS) ?_) | refine wpList_stp rfl (stp_val (run_ld0 _ _ rfl hS) ?_) | refine wpList_stp rfl (stp_val (run_lda0 _ _ rfl hS) ?_))) | (refine wpList_is (.store _ _ _) rfl ?_; go_must (first | refine wpList_stp rfl (stp_st _ _ _ rfl hS ?_) | refine wpList_stp rfl (stp_sta _ _ _ rfl hS ?_)); clear hS; intro w hS) | (refine wpList_is (.alloc _) rfl ?_; go_must (refine wpList_stp rfl (stp_al _ rfl hS ?_)); clear hS; intro bN w hbN hS) | (refine wpList_is (.box _ _) rfl ?_; go_must (refine wpList_stp rfl (stp_bx _ _ rfl hS ?_)); clear hS; intro bN w hbN hS) | (refine wpList_is (.binOp .eql _ _ (.const (.slice none _ _)) _) rfl ?_; refine wpList_stp rfl (stp_val (run_nse _ _ _ rfl) ?_)) | (refine wpList_is (.binOp .neq _ _ (.const (.slice none _ _)) _) rfl ?_; refine wpList_stp rfl (stp_val (run_nsn _ _ _ rfl) ?_)))
  go_cut [10, 11] (fun s10 s11 wx => ∃ (e : Int) (E4 : List Ent), s10 = .int .i64 e ∧ s11 = .int .i64 e ∧ DA p (some (some L)) E4 ∧ St W [] wx (E4 ++ (⟨b9, #[.int .i64 3, .int .i64 0, .int .u32 1], 29, true⟩ :: ⟨b, #[.pointer p, v1, v2, .int .i64 now, .bool true], 52, true⟩ :: (E2 ++ (E3 ++ Ea)))))
  case first =>
    have hn0 := hI'.out.n0
    have hW := hI'.out.w
    have tmt : tmB now = true := by simp only [tmB, Bool.and_eq_true, decide_eq_true_eq]; omega
    have hS : St W [] w (E1 ++ (⟨b9, #[.int .i64 3, .int .i64 0, .int .u32 1], 29, true⟩ :: ⟨b, #[.pointer p, v1, v2, .int .i64 now, .bool true], 52, true⟩ :: (E2 ++ (E3 ++ Ea)))) := hS.pick
    clear hR
    rcases h9 with rfl | rfl | rfl | rfl | rfl | rfl | rfl | rfl | rfl
    · have hg' := Lib.hid (gr_bad (L := L) (t := 0) (n := now) (by simp [spB]))
      clear hW tmt
      go_wp2_with (first | go_skip | go_skip | (refine wpList_is (.build _ _) rfl ?_; go_must (refine wpList_stp rfl (stp_val (run_bd _ _ rfl) ?_))) | (refine wpList_is (.call { callee := .builtin .clear, args := #[_], argTypes := #[_] }) rfl ?_; go_must (refine wpList_stp rfl (stp_cl _ _ rfl hS (by decide) ?_)); clear hS; intro w hS) | (refine wpList_is (.load _ _) rfl ?_; go_must (first | refine wpList_stp rfl (stp_val (run_ld _ _ rfl hS) ?_) | refine wpList_stp rfl (stp_val (run_lda _ _ rfl hS) ?_) | refine wpList_stp rfl (stp_val (run_ld0 _ _ rfl hS) ?_) | refine wpList_stp rfl (stp_val (run_lda0 _ _ rfl hS) ?_))) | (refine wpList_is (.store _ _ _) rfl ?_; go_must (first | refine wpList_stp rfl (stp_st _ _ _ rfl hS ?_) | refine wpList_stp rfl (stp_sta _ _ _ rfl hS ?_)); clear hS; intro w hS) | (refine wpList_is (.alloc _) rfl ?_; go_must (refine wpList_stp rfl (stp_al _ rfl hS ?_)); clear hS; intro bN w hbN hS) | (refine wpList_is (.box _ _) rfl ?_; go_must (refine wpList_stp rfl (stp_bx _ _ rfl hS ?_)); clear hS; intro bN w hbN hS) | (refine wpList_is (.binOp .eql _ _ (.const (.slice none _ _)) _) rfl ?_; refine wpList_stp rfl (stp_val (run_nse _ _ _ rfl) ?_)) | (refine wpList_is (.binOp .neq _ _ (.const (.slice none _ _)) _) rfl ?_; refine wpList_stp rfl (stp_val (run_nsn _ _ _ rfl) ?_)))
      refine region_itemsE [⟨(undef, E1), [(8, fun _ x => DA p (some (some L)) x.2)]⟩] (⟨b9, #[.int .i64 3, .int .i64 0, .int .u32 1], 29, true⟩ :: ⟨b, #[.pointer p, v1, v2, .int .i64 now, .bool true], 52, true⟩ :: (E2 ++ (E3 ++ Ea))) (E1 ++ (⟨b9, #[.int .i64 3, .int .i64 0, .int .u32 1], 29, true⟩ :: ⟨b, #[.pointer p, v1, v2, .int .i64 now, .bool true], 52, true⟩ :: (E2 ++ (E3 ++ Ea)))) (by simp) hS.pick (by kernel_rfl) (by kernel_rfl) ?_
      refine fx_val (fun _ => rfl) rfl (fun χ w hw => run_mv _ rfl) ?_
      refine fx_val (fun _ => rfl) rfl (fun χ w hw => run_nc _ rfl) ?_
      refine fx_val (fun _ => rfl) rfl (fun χ w hw => run_fa _ _ _ rfl) ?_
      refine fx_val (fun _ => rfl) rfl (fun χ w hw => run_ld _ _ rfl hw) ?_
      refine fx_val (fun _ => rfl) rfl (fun χ w hw => run_mv _ rfl) ?_
      refine fx_val (fun _ => rfl) rfl (fun χ w hw => run_nc _ rfl) ?_
      refine fx_val (fun _ => rfl) rfl (fun χ w hw => run_fa _ _ _ rfl) ?_
      refine fx_val (fun _ => rfl) rfl (fun χ w hw => run_ld _ _ rfl hw) ?_
      refine fx_turn 0 0 rfl rfl (by first | rfl | kernel_rfl) (by first | rfl | kernel_rfl) (by first | rfl | kernel_rfl) 11 [_, _, _] _ rfl (fun _ => rfl) (enters _ (by kernel_rfl)) (fun _ => .tuple #[.agg #[.int .i64 0, .int .i64 0, .int .u32 0], .int .i64 2]) ?_ ?_
      · intro χ X w _ hS
        exact dk_grant (show St W [] w (E1 ++ (X ++ _)) from hS) hT 0 now (some (some L)) 2 (0, 0, 0) hg'.out.1 hg'.out.2.1 hg'.out.2.2 (fun E' w' hT' hS' => ⟨(undef, E'), rfl, hT', show St W [] w' (E' ++ (X ++ _)) from hS'.pick⟩)
      refine fx_val (fun _ => rfl) rfl (fun χ w hw => run_mv _ rfl) ?_
      refine fx_val (fun _ => rfl) rfl (fun χ w hw => run_ext _ _ rfl) ?_
      refine fx_val (fun _ => rfl) rfl (fun χ w hw => run_ext _ _ rfl) ?_
      refine fx_val (fun _ => rfl) rfl (fun χ w hw => run_as _ rfl) ?_
      refine fx_end rfl ?_
      intro χ w hok hS
      obtain ⟨hT2, _⟩ := hok _ (.head _)
      have hS : St W [] w (((χ 8).2 ++ []) ++ (⟨b9, #[.int .i64 3, .int .i64 0, .int .u32 1], 29, true⟩ :: ⟨b, #[.pointer p, v1, v2, .int .i64 now, .bool true], 52, true⟩ :: (E2 ++ (E3 ++ Ea)))) := hS
      rw [List.append_nil] at hS
      generalize (χ 8).2 = E4 at hS hT2
      clear hok
      go_wp2_with (first | go_skip | go_skip | (refine wpList_is (.build _ _) rfl ?_; go_must (refine wpList_stp rfl (stp_val (run_bd _ _ rfl) ?_))) | (refine wpList_is (.call { callee := .builtin .clear, args := #[_], argTypes := #[_] }) rfl ?_; go_must (refine wpList_stp rfl (stp_cl _ _ rfl hS (by decide) ?_)); clear hS; intro w hS) | (refine wpList_is (.load _ _) rfl ?_; go_must (first | refine wpList_stp rfl (stp_val (run_ld _ _ rfl hS) ?_) | refine wpList_stp rfl (stp_val (run_lda _ _ rfl hS) ?_) | refine wpList_stp rfl (stp_val (run_ld0 _ _ rfl hS) ?_) | refine wpList_stp rfl (stp_val (run_lda0 _ _ rfl hS) ?_))) | (refine wpList_is (.store _ _ _) rfl ?_; go_must (first | refine wpList_stp rfl (stp_st _ _ _ rfl hS ?_) | refine wpList_stp rfl (stp_sta _ _ _ rfl hS ?_)); clear hS; intro w hS) | (refine wpList_is (.alloc _) rfl ?_; go_must (refine wpList_stp rfl (stp_al _ rfl hS ?_)); clear hS; intro bN w hbN hS) | (refine wpList_is (.box _ _) rfl ?_; go_must (refine wpList_stp rfl (stp_bx _ _ rfl hS ?_)); clear hS; intro bN w hbN hS) | (refine wpList_is (.binOp .eql _ _ (.const (.slice none _ _)) _) rfl ?_; refine wpList_stp rfl (stp_val (run_nse _ _ _ rfl) ?_)) | (refine wpList_is (.binOp .neq _ _ (.const (.slice none _ _)) _) rfl ?_; refine wpList_stp rfl (stp_val (run_nsn _ _ _ rfl) ?_)))
      go_meet
      exact ⟨2, E4, rfl, rfl, hT2, hS.pick⟩
    · have hg' := Lib.hid (gr_bad (L := L) (t := 1048577) (n := now) (by simp [spB]))
      clear hW tmt
      go_wp2_with (first | go_skip | go_skip | (refine wpList_is (.build _ _) rfl ?_; go_must (refine wpList_stp rfl (stp_val (run_bd _ _ rfl) ?_))) | (refine wpList_is (.call { callee := .builtin .clear, args := #[_], argTypes := #[_] }) rfl ?_; go_must (refine wpList_stp rfl (stp_cl _ _ rfl hS (by decide) ?_)); clear hS; intro w hS) | (refine wpList_is (.load _ _) rfl ?_; go_must (first | refine wpList_stp rfl (stp_val (run_ld _ _ rfl hS) ?_) | refine wpList_stp rfl (stp_val (run_lda _ _ rfl hS) ?_) | refine wpList_stp rfl (stp_val (run_ld0 _ _ rfl hS) ?_) | refine wpList_stp rfl (stp_val (run_lda0 _ _ rfl hS) ?_))) | (refine wpList_is (.store _ _ _) rfl ?_; go_must (first | refine wpList_stp rfl (stp_st _ _ _ rfl hS ?_) | refine wpList_stp rfl (stp_sta _ _ _ rfl hS ?_)); clear hS; intro w hS) | (refine wpList_is (.alloc _) rfl ?_; go_must (refine wpList_stp rfl (stp_al _ rfl hS ?_)); clear hS; intro bN w hbN hS) | (refine wpList_is (.box _ _) rfl ?_; go_must (refine wpList_stp rfl (stp_bx _ _ rfl hS ?_)); clear hS; intro bN w hbN hS) | (refine wpList_is (.binOp .eql _ _ (.const (.slice none _ _)) _) rfl ?_; refine wpList_stp rfl (stp_val (run_nse _ _ _ rfl) ?_)) | (refine wpList_is (.binOp .neq _ _ (.const (.slice none _ _)) _) rfl ?_; refine wpList_stp rfl (stp_val (run_nsn _ _ _ rfl) ?_)))
      refine region_itemsE [⟨(undef, E1), [(8, fun _ x => DA p (some (some L)) x.2)]⟩] (⟨b9, #[.int .i64 3, .int .i64 0, .int .u32 1], 29, true⟩ :: ⟨b, #[.pointer p, v1, v2, .int .i64 now, .bool true], 52, true⟩ :: (E2 ++ (E3 ++ Ea))) (E1 ++ (⟨b9, #[.int .i64 3, .int .i64 0, .int .u32 1], 29, true⟩ :: ⟨b, #[.pointer p, v1, v2, .int .i64 now, .bool true], 52, true⟩ :: (E2 ++ (E3 ++ Ea)))) (by simp) hS.pick (by kernel_rfl) (by kernel_rfl) ?_
      refine fx_val (fun _ => rfl) rfl (fun χ w hw => run_mv _ rfl) ?_
      refine fx_val (fun _ => rfl) rfl (fun χ w hw => run_nc _ rfl) ?_
      refine fx_val (fun _ => rfl) rfl (fun χ w hw => run_fa _ _ _ rfl) ?_
      refine fx_val (fun _ => rfl) rfl (fun χ w hw => run_ld _ _ rfl hw) ?_
      refine fx_val (fun _ => rfl) rfl (fun χ w hw => run_mv _ rfl) ?_
      refine fx_val (fun _ => rfl) rfl (fun χ w hw => run_nc _ rfl) ?_
      refine fx_val (fun _ => rfl) rfl (fun χ w hw => run_fa _ _ _ rfl) ?_
      refine fx_val (fun _ => rfl) rfl (fun χ w hw => run_ld _ _ rfl hw) ?_
      refine fx_turn 0 0 rfl rfl (by first | rfl | kernel_rfl) (by first | rfl | kernel_rfl) (by first | rfl | kernel_rfl) 11 [_, _, _] _ rfl (fun _ => rfl) (enters _ (by kernel_rfl)) (fun _ => .tuple #[.agg #[.int .i64 0, .int .i64 0, .int .u32 0], .int .i64 2]) ?_ ?_
      · intro χ X w _ hS
        exact dk_grant (show St W [] w (E1 ++ (X ++ _)) from hS) hT 1048577 now (some (some L)) 2 (0, 0, 0) hg'.out.1 hg'.out.2.1 hg'.out.2.2 (fun E' w' hT' hS' => ⟨(undef, E'), rfl, hT', show St W [] w' (E' ++ (X ++ _)) from hS'.pick⟩)
      refine fx_val (fun _ => rfl) rfl (fun χ w hw => run_mv _ rfl) ?_
      refine fx_val (fun _ => rfl) rfl (fun χ w hw => run_ext _ _ rfl) ?_
      refine fx_val (fun _ => rfl) rfl (fun χ w hw => run_ext _ _ rfl) ?_
      refine fx_val (fun _ => rfl) rfl (fun χ w hw => run_as _ rfl) ?_
      refine fx_end rfl ?_
      intro χ w hok hS
      obtain ⟨hT2, _⟩ := hok _ (.head _)
      have hS : St W [] w (((χ 8).2 ++ []) ++ (⟨b9, #[.int .i64 3, .int .i64 0, .int .u32 1], 29, true⟩ :: ⟨b, #[.pointer p, v1, v2, .int .i64 now, .bool true], 52, true⟩ :: (E2 ++ (E3 ++ Ea)))) := hS
      rw [List.append_nil] at hS
      generalize (χ 8).2 = E4 at hS hT2
      clear hok
      go_wp2_with (first | go_skip | go_skip | (refine wpList_is (.build _ _) rfl ?_; go_must (refine wpList_stp rfl (stp_val (run_bd _ _ rfl) ?_))) | (refine wpList_is (.call { callee := .builtin .clear, args := #[_], argTypes := #[_] }) rfl ?_; go_must (refine wpList_stp rfl (stp_cl _ _ rfl hS (by decide) ?_)); clear hS; intro w hS) | (refine wpList_is (.load _ _) rfl ?_; go_must (first | refine wpList_stp rfl (stp_val (run_ld _ _ rfl hS) ?_) | refine wpList_stp rfl (stp_val (run_lda _ _ rfl hS) ?_) | refine wpList_stp rfl (stp_val (run_ld0 _ _ rfl hS) ?_) | refine wpList_stp rfl (stp_val (run_lda0 _ _ rfl hS) ?_))) | (refine wpList_is (.store _ _ _) rfl ?_; go_must (first | refine wpList_stp rfl (stp_st _ _ _ rfl hS ?_) | refine wpList_stp rfl (stp_sta _ _ _ rfl hS ?_)); clear hS; intro w hS) | (refine wpList_is (.alloc _) rfl ?_; go_must (refine wpList_stp rfl (stp_al _ rfl hS ?_)); clear hS; intro bN w hbN hS) | (refine wpList_is (.box _ _) rfl ?_; go_must (refine wpList_stp rfl (stp_bx _ _ rfl hS ?_)); clear hS; intro bN w hbN hS) | (refine wpList_is (.binOp .eql _ _ (.const (.slice none _ _)) _) rfl ?_; refine wpList_stp rfl (stp_val (run_nse _ _ _ rfl) ?_)) | (refine wpList_is (.binOp .neq _ _ (.const (.slice none _ _)) _) rfl ?_; refine wpList_stp rfl (stp_val (run_nsn _ _ _ rfl) ?_)))
      go_meet
      exact ⟨2, E4, rfl, rfl, hT2, hS.pick⟩
    · have hg' := Lib.hid (gr_bad (L := L) (t := 1) (n := 1099511627777) (by simp [tmB]))
      clear hW tmt
      go_wp2_with (first | go_skip | (go_at_call 11; (refine dk_grant hS hT 1 1099511627777 (some (some L)) 2 (0, 0, 0) hg'.out.1 hg'.out.2.1 hg'.out.2.2 ?_); clear hS; intro E4 w hT2 hS; unfold Ret) | go_skip | (refine wpList_is (.build _ _) rfl ?_; go_must (refine wpList_stp rfl (stp_val (run_bd _ _ rfl) ?_))) | (refine wpList_is (.call { callee := .builtin .clear, args := #[_], argTypes := #[_] }) rfl ?_; go_must (refine wpList_stp rfl (stp_cl _ _ rfl hS (by decide) ?_)); clear hS; intro w hS) | (refine wpList_is (.load _ _) rfl ?_; go_must (first | refine wpList_stp rfl (stp_val (run_ld _ _ rfl hS) ?_) | refine wpList_stp rfl (stp_val (run_lda _ _ rfl hS) ?_) | refine wpList_stp rfl (stp_val (run_ld0 _ _ rfl hS) ?_) | refine wpList_stp rfl (stp_val (run_lda0 _ _ rfl hS) ?_))) | (refine wpList_is (.store _ _ _) rfl ?_; go_must (first | refine wpList_stp rfl (stp_st _ _ _ rfl hS ?_) | refine wpList_stp rfl (stp_sta _ _ _ rfl hS ?_)); clear hS; intro w hS) | (refine wpList_is (.alloc _) rfl ?_; go_must (refine wpList_stp rfl (stp_al _ rfl hS ?_)); clear hS; intro bN w hbN hS) | (refine wpList_is (.box _ _) rfl ?_; go_must (refine wpList_stp rfl (stp_bx _ _ rfl hS ?_)); clear hS; intro bN w hbN hS) | (refine wpList_is (.binOp .eql _ _ (.const (.slice none _ _)) _) rfl ?_; refine wpList_stp rfl (stp_val (run_nse _ _ _ rfl) ?_)) | (refine wpList_is (.binOp .neq _ _ (.const (.slice none _ _)) _) rfl ?_; refine wpList_stp rfl (stp_val (run_nsn _ _ _ rfl) ?_)))
      go_meet
      exact ⟨2, E4, rfl, rfl, hT2, hS.pick⟩
    · have hg' := Lib.hid (gr_over (L := L) (t := 1) (n := 1099511627776) (by simp [spB, tmB]) (by omega))
      clear hW tmt
      go_wp2_with (first | go_skip | (go_at_call 11; (refine dk_grant hS hT 1 1099511627776 (some (some L)) 17 (0, 0, 0) hg'.out.1 hg'.out.2.1 hg'.out.2.2 ?_); clear hS; intro E4 w hT2 hS; unfold Ret) | go_skip | (refine wpList_is (.build _ _) rfl ?_; go_must (refine wpList_stp rfl (stp_val (run_bd _ _ rfl) ?_))) | (refine wpList_is (.call { callee := .builtin .clear, args := #[_], argTypes := #[_] }) rfl ?_; go_must (refine wpList_stp rfl (stp_cl _ _ rfl hS (by decide) ?_)); clear hS; intro w hS) | (refine wpList_is (.load _ _) rfl ?_; go_must (first | refine wpList_stp rfl (stp_val (run_ld _ _ rfl hS) ?_) | refine wpList_stp rfl (stp_val (run_lda _ _ rfl hS) ?_) | refine wpList_stp rfl (stp_val (run_ld0 _ _ rfl hS) ?_) | refine wpList_stp rfl (stp_val (run_lda0 _ _ rfl hS) ?_))) | (refine wpList_is (.store _ _ _) rfl ?_; go_must (first | refine wpList_stp rfl (stp_st _ _ _ rfl hS ?_) | refine wpList_stp rfl (stp_sta _ _ _ rfl hS ?_)); clear hS; intro w hS) | (refine wpList_is (.alloc _) rfl ?_; go_must (refine wpList_stp rfl (stp_al _ rfl hS ?_)); clear hS; intro bN w hbN hS) | (refine wpList_is (.box _ _) rfl ?_; go_must (refine wpList_stp rfl (stp_bx _ _ rfl hS ?_)); clear hS; intro bN w hbN hS) | (refine wpList_is (.binOp .eql _ _ (.const (.slice none _ _)) _) rfl ?_; refine wpList_stp rfl (stp_val (run_nse _ _ _ rfl) ?_)) | (refine wpList_is (.binOp .neq _ _ (.const (.slice none _ _)) _) rfl ?_; refine wpList_stp rfl (stp_val (run_nsn _ _ _ rfl) ?_)))
      go_meet
      exact ⟨17, E4, rfl, rfl, hT2, hS.pick⟩
    · have hr' := Lib.hid (rn_of (T := some (some L)) (k := 3) (i := 0) (g := 1) (t := 5) (n := -1) (e := 2) (by simp [wiE, tmB]) (by decide))
      clear hW tmt
      go_wp2_with (first | go_skip | go_skip | (refine wpList_is (.build _ _) rfl ?_; go_must (refine wpList_stp rfl (stp_val (run_bd _ _ rfl) ?_))) | (refine wpList_is (.call { callee := .builtin .clear, args := #[_], argTypes := #[_] }) rfl ?_; go_must (refine wpList_stp rfl (stp_cl _ _ rfl hS (by decide) ?_)); clear hS; intro w hS) | (refine wpList_is (.load _ _) rfl ?_; go_must (first | refine wpList_stp rfl (stp_val (run_ld _ _ rfl hS) ?_) | refine wpList_stp rfl (stp_val (run_lda _ _ rfl hS) ?_) | refine wpList_stp rfl (stp_val (run_ld0 _ _ rfl hS) ?_) | refine wpList_stp rfl (stp_val (run_lda0 _ _ rfl hS) ?_))) | (refine wpList_is (.store _ _ _) rfl ?_; go_must (first | refine wpList_stp rfl (stp_st _ _ _ rfl hS ?_) | refine wpList_stp rfl (stp_sta _ _ _ rfl hS ?_)); clear hS; intro w hS) | (refine wpList_is (.alloc _) rfl ?_; go_must (refine wpList_stp rfl (stp_al _ rfl hS ?_)); clear hS; intro bN w hbN hS) | (refine wpList_is (.box _ _) rfl ?_; go_must (refine wpList_stp rfl (stp_bx _ _ rfl hS ?_)); clear hS; intro bN w hbN hS) | (refine wpList_is (.binOp .eql _ _ (.const (.slice none _ _)) _) rfl ?_; refine wpList_stp rfl (stp_val (run_nse _ _ _ rfl) ?_)) | (refine wpList_is (.binOp .neq _ _ (.const (.slice none _ _)) _) rfl ?_; refine wpList_stp rfl (stp_val (run_nsn _ _ _ rfl) ?_)))
      refine region_itemsE [⟨(undef, E1), [(5, fun _ x => DA p (some (some L)) x.2)]⟩] (⟨b9, #[.int .i64 3, .int .i64 0, .int .u32 1], 29, true⟩ :: ⟨b, #[.pointer p, v1, v2, .int .i64 now, .bool true], 52, true⟩ :: (E2 ++ (E3 ++ Ea))) (E1 ++ (⟨b9, #[.int .i64 3, .int .i64 0, .int .u32 1], 29, true⟩ :: ⟨b, #[.pointer p, v1, v2, .int .i64 now, .bool true], 52, true⟩ :: (E2 ++ (E3 ++ Ea)))) (by simp) hS.pick (by kernel_rfl) (by kernel_rfl) ?_
      refine fx_val (fun _ => rfl) rfl (fun χ w hw => run_mv _ rfl) ?_
      refine fx_val (fun _ => rfl) rfl (fun χ w hw => run_nc _ rfl) ?_
      refine fx_val (fun _ => rfl) rfl (fun χ w hw => run_fa _ _ _ rfl) ?_
      refine fx_val (fun _ => rfl) rfl (fun χ w hw => run_ld _ _ rfl hw) ?_
      refine fx_val (fun _ => rfl) rfl (fun χ w hw => run_lda _ _ rfl hw) ?_
      refine fx_turn 0 0 rfl rfl (by first | rfl | kernel_rfl) (by first | rfl | kernel_rfl) (by first | rfl | kernel_rfl) 13 [_, _, _, _] _ rfl (fun _ => rfl) (enters _ (by kernel_rfl)) (fun _ => .int .i64 2) ?_ ?_
      · intro χ X w _ hS
        exact dk_renew (show St W [] w (E1 ++ (X ++ _)) from hS) hT 3 0 1 5 (-1) (by decide) _ 2 hr'.out.1 hr'.out.2 (fun E' w' hT' _ hS' => ⟨(undef, E'), rfl, hT', show St W [] w' (E' ++ (X ++ _)) from hS'.pick⟩)
      refine fx_val (fun _ => rfl) rfl (fun χ w hw => run_as _ rfl) ?_
      refine fx_val (fun _ => rfl) rfl (fun χ w hw => run_as _ rfl) ?_
      refine fx_end rfl ?_
      intro χ w hok hS
      obtain ⟨hT2, _⟩ := hok _ (.head _)
      have hS : St W [] w (((χ 5).2 ++ []) ++ (⟨b9, #[.int .i64 3, .int .i64 0, .int .u32 1], 29, true⟩ :: ⟨b, #[.pointer p, v1, v2, .int .i64 now, .bool true], 52, true⟩ :: (E2 ++ (E3 ++ Ea)))) := hS
      rw [List.append_nil] at hS
      generalize (χ 5).2 = E4 at hS hT2
      clear hok
      go_wp2_with (first | go_skip | go_skip | (refine wpList_is (.build _ _) rfl ?_; go_must (refine wpList_stp rfl (stp_val (run_bd _ _ rfl) ?_))) | (refine wpList_is (.call { callee := .builtin .clear, args := #[_], argTypes := #[_] }) rfl ?_; go_must (refine wpList_stp rfl (stp_cl _ _ rfl hS (by decide) ?_)); clear hS; intro w hS) | (refine wpList_is (.load _ _) rfl ?_; go_must (first | refine wpList_stp rfl (stp_val (run_ld _ _ rfl hS) ?_) | refine wpList_stp rfl (stp_val (run_lda _ _ rfl hS) ?_) | refine wpList_stp rfl (stp_val (run_ld0 _ _ rfl hS) ?_) | refine wpList_stp rfl (stp_val (run_lda0 _ _ rfl hS) ?_))) | (refine wpList_is (.store _ _ _) rfl ?_; go_must (first | refine wpList_stp rfl (stp_st _ _ _ rfl hS ?_) | refine wpList_stp rfl (stp_sta _ _ _ rfl hS ?_)); clear hS; intro w hS) | (refine wpList_is (.alloc _) rfl ?_; go_must (refine wpList_stp rfl (stp_al _ rfl hS ?_)); clear hS; intro bN w hbN hS) | (refine wpList_is (.box _ _) rfl ?_; go_must (refine wpList_stp rfl (stp_bx _ _ rfl hS ?_)); clear hS; intro bN w hbN hS) | (refine wpList_is (.binOp .eql _ _ (.const (.slice none _ _)) _) rfl ?_; refine wpList_stp rfl (stp_val (run_nse _ _ _ rfl) ?_)) | (refine wpList_is (.binOp .neq _ _ (.const (.slice none _ _)) _) rfl ?_; refine wpList_stp rfl (stp_val (run_nsn _ _ _ rfl) ?_)))
      go_meet
      exact ⟨2, E4, rfl, rfl, hT2, hS.pick⟩
    · have hr' := Lib.hid (rn_of (T := some (some L)) (k := 1) (i := 0) (g := 1) (t := 5) (n := now) (e := 2) (by simp [wiE]) (by decide))
      clear hW tmt
      go_wp2_with (first | go_skip | go_skip | (refine wpList_is (.build _ _) rfl ?_; go_must (refine wpList_stp rfl (stp_val (run_bd _ _ rfl) ?_))) | (refine wpList_is (.call { callee := .builtin .clear, args := #[_], argTypes := #[_] }) rfl ?_; go_must (refine wpList_stp rfl (stp_cl _ _ rfl hS (by decide) ?_)); clear hS; intro w hS) | (refine wpList_is (.load _ _) rfl ?_; go_must (first | refine wpList_stp rfl (stp_val (run_ld _ _ rfl hS) ?_) | refine wpList_stp rfl (stp_val (run_lda _ _ rfl hS) ?_) | refine wpList_stp rfl (stp_val (run_ld0 _ _ rfl hS) ?_) | refine wpList_stp rfl (stp_val (run_lda0 _ _ rfl hS) ?_))) | (refine wpList_is (.store _ _ _) rfl ?_; go_must (first | refine wpList_stp rfl (stp_st _ _ _ rfl hS ?_) | refine wpList_stp rfl (stp_sta _ _ _ rfl hS ?_)); clear hS; intro w hS) | (refine wpList_is (.alloc _) rfl ?_; go_must (refine wpList_stp rfl (stp_al _ rfl hS ?_)); clear hS; intro bN w hbN hS) | (refine wpList_is (.box _ _) rfl ?_; go_must (refine wpList_stp rfl (stp_bx _ _ rfl hS ?_)); clear hS; intro bN w hbN hS) | (refine wpList_is (.binOp .eql _ _ (.const (.slice none _ _)) _) rfl ?_; refine wpList_stp rfl (stp_val (run_nse _ _ _ rfl) ?_)) | (refine wpList_is (.binOp .neq _ _ (.const (.slice none _ _)) _) rfl ?_; refine wpList_stp rfl (stp_val (run_nsn _ _ _ rfl) ?_)))
      refine region_itemsE [⟨(undef, E1), [(9, fun _ x => DA p (some (some L)) x.2)]⟩] (⟨b9, #[.int .i64 3, .int .i64 0, .int .u32 1], 29, true⟩ :: ⟨b, #[.pointer p, v1, v2, .int .i64 now, .bool true], 52, true⟩ :: (E2 ++ (E3 ++ Ea))) (E1 ++ (⟨b9, #[.int .i64 3, .int .i64 0, .int .u32 1], 29, true⟩ :: ⟨b, #[.pointer p, v1, v2, .int .i64 now, .bool true], 52, true⟩ :: (E2 ++ (E3 ++ Ea)))) (by simp) hS.pick (by kernel_rfl) (by kernel_rfl) ?_
      refine fx_val (fun _ => rfl) rfl (fun χ w hw => run_mv _ rfl) ?_
      refine fx_val (fun _ => rfl) rfl (fun χ w hw => run_nc _ rfl) ?_
      refine fx_val (fun _ => rfl) rfl (fun χ w hw => run_fa _ _ _ rfl) ?_
      refine fx_val (fun _ => rfl) rfl (fun χ w hw => run_ld _ _ rfl hw) ?_
      refine fx_val (fun _ => rfl) rfl (fun χ w hw => run_bd _ _ rfl) ?_
      refine fx_val (fun _ => rfl) rfl (fun χ w hw => run_mv _ rfl) ?_
      refine fx_val (fun _ => rfl) rfl (fun χ w hw => run_nc _ rfl) ?_
      refine fx_val (fun _ => rfl) rfl (fun χ w hw => run_fa _ _ _ rfl) ?_
      refine fx_val (fun _ => rfl) rfl (fun χ w hw => run_ld _ _ rfl hw) ?_
      refine fx_turn 0 0 rfl rfl (by first | rfl | kernel_rfl) (by first | rfl | kernel_rfl) (by first | rfl | kernel_rfl) 13 [_, _, _, _] _ rfl (fun _ => rfl) (enters _ (by kernel_rfl)) (fun _ => .int .i64 2) ?_ ?_
      · intro χ X w _ hS
        exact dk_renew (show St W [] w (E1 ++ (X ++ _)) from hS) hT 1 0 1 5 now (by decide) _ 2 hr'.out.1 hr'.out.2 (fun E' w' hT' _ hS' => ⟨(undef, E'), rfl, hT', show St W [] w' (E' ++ (X ++ _)) from hS'.pick⟩)
      refine fx_val (fun _ => rfl) rfl (fun χ w hw => run_as _ rfl) ?_
      refine fx_val (fun _ => rfl) rfl (fun χ w hw => run_as _ rfl) ?_
      refine fx_end rfl ?_
      intro χ w hok hS
      obtain ⟨hT2, _⟩ := hok _ (.head _)
      have hS : St W [] w (((χ 9).2 ++ []) ++ (⟨b9, #[.int .i64 3, .int .i64 0, .int .u32 1], 29, true⟩ :: ⟨b, #[.pointer p, v1, v2, .int .i64 now, .bool true], 52, true⟩ :: (E2 ++ (E3 ++ Ea)))) := hS
      rw [List.append_nil] at hS
      generalize (χ 9).2 = E4 at hS hT2
      clear hok
      go_wp2_with (first | go_skip | go_skip | (refine wpList_is (.build _ _) rfl ?_; go_must (refine wpList_stp rfl (stp_val (run_bd _ _ rfl) ?_))) | (refine wpList_is (.call { callee := .builtin .clear, args := #[_], argTypes := #[_] }) rfl ?_; go_must (refine wpList_stp rfl (stp_cl _ _ rfl hS (by decide) ?_)); clear hS; intro w hS) | (refine wpList_is (.load _ _) rfl ?_; go_must (first | refine wpList_stp rfl (stp_val (run_ld _ _ rfl hS) ?_) | refine wpList_stp rfl (stp_val (run_lda _ _ rfl hS) ?_) | refine wpList_stp rfl (stp_val (run_ld0 _ _ rfl hS) ?_) | refine wpList_stp rfl (stp_val (run_lda0 _ _ rfl hS) ?_))) | (refine wpList_is (.store _ _ _) rfl ?_; go_must (first | refine wpList_stp rfl (stp_st _ _ _ rfl hS ?_) | refine wpList_stp rfl (stp_sta _ _ _ rfl hS ?_)); clear hS; intro w hS) | (refine wpList_is (.alloc _) rfl ?_; go_must (refine wpList_stp rfl (stp_al _ rfl hS ?_)); clear hS; intro bN w hbN hS) | (refine wpList_is (.box _ _) rfl ?_; go_must (refine wpList_stp rfl (stp_bx _ _ rfl hS ?_)); clear hS; intro bN w hbN hS) | (refine wpList_is (.binOp .eql _ _ (.const (.slice none _ _)) _) rfl ?_; refine wpList_stp rfl (stp_val (run_nse _ _ _ rfl) ?_)) | (refine wpList_is (.binOp .neq _ _ (.const (.slice none _ _)) _) rfl ?_; refine wpList_stp rfl (stp_val (run_nsn _ _ _ rfl) ?_)))
      go_meet
      exact ⟨2, E4, rfl, rfl, hT2, hS.pick⟩
    · have hwi := wi_900 hW (fun x hx => by have := hLg'.out.2 x hx; simp at this; omega)
      have hlz := hLg'.out.1
      by_cases h63 : z % 64 = 63
      · have hl64 : L.length = 64 := by omega
        rw [if_pos hl64] at hwi
        have d1 : (z % 64 == 63) = true := by simp [h63]
        have d2 : decide (z % 64 = 63) = true := decide_eq_true h63
        have hw' := Lib.hid hwi
        have hrt' := Lib.hid (rt_of hwi (by decide))
        clear hW tmt hwi hl64 hlz h63
        go_wp2_with (first | go_skip | go_skip | (refine wpList_is (.build _ _) rfl ?_; go_must (refine wpList_stp rfl (stp_val (run_bd _ _ rfl) ?_))) | (refine wpList_is (.call { callee := .builtin .clear, args := #[_], argTypes := #[_] }) rfl ?_; go_must (refine wpList_stp rfl (stp_cl _ _ rfl hS (by decide) ?_)); clear hS; intro w hS) | (refine wpList_is (.load _ _) rfl ?_; go_must (first | refine wpList_stp rfl (stp_val (run_ld _ _ rfl hS) ?_) | refine wpList_stp rfl (stp_val (run_lda _ _ rfl hS) ?_) | refine wpList_stp rfl (stp_val (run_ld0 _ _ rfl hS) ?_) | refine wpList_stp rfl (stp_val (run_lda0 _ _ rfl hS) ?_))) | (refine wpList_is (.store _ _ _) rfl ?_; go_must (first | refine wpList_stp rfl (stp_st _ _ _ rfl hS ?_) | refine wpList_stp rfl (stp_sta _ _ _ rfl hS ?_)); clear hS; intro w hS) | (refine wpList_is (.alloc _) rfl ?_; go_must (refine wpList_stp rfl (stp_al _ rfl hS ?_)); clear hS; intro bN w hbN hS) | (refine wpList_is (.box _ _) rfl ?_; go_must (refine wpList_stp rfl (stp_bx _ _ rfl hS ?_)); clear hS; intro bN w hbN hS) | (refine wpList_is (.binOp .eql _ _ (.const (.slice none _ _)) _) rfl ?_; refine wpList_stp rfl (stp_val (run_nse _ _ _ rfl) ?_)) | (refine wpList_is (.binOp .neq _ _ (.const (.slice none _ _)) _) rfl ?_; refine wpList_stp rfl (stp_val (run_nsn _ _ _ rfl) ?_)))
        refine region_itemsE [⟨(undef, E1), [(5, fun _ x => DA p (some (some L)) x.2)]⟩] (⟨b9, #[.int .i64 3, .int .i64 0, .int .u32 1], 29, true⟩ :: ⟨b, #[.pointer p, v1, v2, .int .i64 now, .bool true], 52, true⟩ :: (E2 ++ (E3 ++ Ea))) (E1 ++ (⟨b9, #[.int .i64 3, .int .i64 0, .int .u32 1], 29, true⟩ :: ⟨b, #[.pointer p, v1, v2, .int .i64 now, .bool true], 52, true⟩ :: (E2 ++ (E3 ++ Ea)))) (by simp) hS.pick (by kernel_rfl) (by kernel_rfl) ?_
        refine fx_val (fun _ => rfl) rfl (fun χ w hw => run_mv _ rfl) ?_
        refine fx_val (fun _ => rfl) rfl (fun χ w hw => run_nc _ rfl) ?_
        refine fx_val (fun _ => rfl) rfl (fun χ w hw => run_fa _ _ _ rfl) ?_
        refine fx_val (fun _ => rfl) rfl (fun χ w hw => run_ld _ _ rfl hw) ?_
        refine fx_ask 17 [_, _] _ rfl (fun _ => rfl) rfl (enters _ (by kernel_rfl)) (.agg #[.int .i64 3, .int .i64 63, .int .u32 900]) (fun X w hS => lease_ok hS 63 900 (fun w' hS' => ⟨rfl, hS'⟩)) ?_
        refine fx_turn 0 0 rfl rfl (by first | rfl | kernel_rfl) (by first | rfl | kernel_rfl) (by first | rfl | kernel_rfl) 15 [_, _] _ rfl (fun _ => rfl) (enters _ (by kernel_rfl)) (fun _ => .int .i64 7) ?_ ?_
        · intro χ X w _ hS
          exact dk_return (show St W [] w (E1 ++ (X ++ _)) from hS) hT 3 63 900 (by decide) _ 7 hrt'.out hw'.out (fun E' w' hT' hS' => ⟨(undef, E'), rfl, hT', show St W [] w' (E' ++ (X ++ _)) from hS'.pick⟩)
        refine fx_val (fun _ => rfl) rfl (fun χ w hw => run_as _ rfl) ?_
        refine fx_val (fun _ => rfl) rfl (fun χ w hw => run_as _ rfl) ?_
        refine fx_end rfl ?_
        intro χ w hok hS
        obtain ⟨hT2, _⟩ := hok _ (.head _)
        have hS : St W [] w (((χ 5).2 ++ []) ++ (⟨b9, #[.int .i64 3, .int .i64 0, .int .u32 1], 29, true⟩ :: ⟨b, #[.pointer p, v1, v2, .int .i64 now, .bool true], 52, true⟩ :: (E2 ++ (E3 ++ Ea)))) := hS
        rw [List.append_nil] at hS
        generalize (χ 5).2 = E4 at hS hT2
        clear hok
        go_wp2_with (first | go_skip | go_skip | (refine wpList_is (.build _ _) rfl ?_; go_must (refine wpList_stp rfl (stp_val (run_bd _ _ rfl) ?_))) | (refine wpList_is (.call { callee := .builtin .clear, args := #[_], argTypes := #[_] }) rfl ?_; go_must (refine wpList_stp rfl (stp_cl _ _ rfl hS (by decide) ?_)); clear hS; intro w hS) | (refine wpList_is (.load _ _) rfl ?_; go_must (first | refine wpList_stp rfl (stp_val (run_ld _ _ rfl hS) ?_) | refine wpList_stp rfl (stp_val (run_lda _ _ rfl hS) ?_) | refine wpList_stp rfl (stp_val (run_ld0 _ _ rfl hS) ?_) | refine wpList_stp rfl (stp_val (run_lda0 _ _ rfl hS) ?_))) | (refine wpList_is (.store _ _ _) rfl ?_; go_must (first | refine wpList_stp rfl (stp_st _ _ _ rfl hS ?_) | refine wpList_stp rfl (stp_sta _ _ _ rfl hS ?_)); clear hS; intro w hS) | (refine wpList_is (.alloc _) rfl ?_; go_must (refine wpList_stp rfl (stp_al _ rfl hS ?_)); clear hS; intro bN w hbN hS) | (refine wpList_is (.box _ _) rfl ?_; go_must (refine wpList_stp rfl (stp_bx _ _ rfl hS ?_)); clear hS; intro bN w hbN hS) | (refine wpList_is (.binOp .eql _ _ (.const (.slice none _ _)) _) rfl ?_; refine wpList_stp rfl (stp_val (run_nse _ _ _ rfl) ?_)) | (refine wpList_is (.binOp .neq _ _ (.const (.slice none _ _)) _) rfl ?_; refine wpList_stp rfl (stp_val (run_nsn _ _ _ rfl) ?_)))
        go_meet
        exact ⟨7, E4, rfl, rfl, hT2, hS.pick⟩
      · have hl64 : ¬ L.length = 64 := by omega
        rw [if_neg hl64] at hwi
        have d1 : (z % 64 == 63) = false := by simp [h63]
        have d2 : decide (z % 64 = 63) = false := decide_eq_false h63
        have hw' := Lib.hid hwi
        have hrt' := Lib.hid (rt_of hwi (by decide))
        clear hW tmt hwi hl64 hlz h63
        go_wp2_with (first | go_skip | go_skip | (refine wpList_is (.build _ _) rfl ?_; go_must (refine wpList_stp rfl (stp_val (run_bd _ _ rfl) ?_))) | (refine wpList_is (.call { callee := .builtin .clear, args := #[_], argTypes := #[_] }) rfl ?_; go_must (refine wpList_stp rfl (stp_cl _ _ rfl hS (by decide) ?_)); clear hS; intro w hS) | (refine wpList_is (.load _ _) rfl ?_; go_must (first | refine wpList_stp rfl (stp_val (run_ld _ _ rfl hS) ?_) | refine wpList_stp rfl (stp_val (run_lda _ _ rfl hS) ?_) | refine wpList_stp rfl (stp_val (run_ld0 _ _ rfl hS) ?_) | refine wpList_stp rfl (stp_val (run_lda0 _ _ rfl hS) ?_))) | (refine wpList_is (.store _ _ _) rfl ?_; go_must (first | refine wpList_stp rfl (stp_st _ _ _ rfl hS ?_) | refine wpList_stp rfl (stp_sta _ _ _ rfl hS ?_)); clear hS; intro w hS) | (refine wpList_is (.alloc _) rfl ?_; go_must (refine wpList_stp rfl (stp_al _ rfl hS ?_)); clear hS; intro bN w hbN hS) | (refine wpList_is (.box _ _) rfl ?_; go_must (refine wpList_stp rfl (stp_bx _ _ rfl hS ?_)); clear hS; intro bN w hbN hS) | (refine wpList_is (.binOp .eql _ _ (.const (.slice none _ _)) _) rfl ?_; refine wpList_stp rfl (stp_val (run_nse _ _ _ rfl) ?_)) | (refine wpList_is (.binOp .neq _ _ (.const (.slice none _ _)) _) rfl ?_; refine wpList_stp rfl (stp_val (run_nsn _ _ _ rfl) ?_)))
        refine region_itemsE [⟨(undef, E1), [(5, fun _ x => DA p (some (some L)) x.2)]⟩] (⟨b9, #[.int .i64 3, .int .i64 0, .int .u32 1], 29, true⟩ :: ⟨b, #[.pointer p, v1, v2, .int .i64 now, .bool true], 52, true⟩ :: (E2 ++ (E3 ++ Ea))) (E1 ++ (⟨b9, #[.int .i64 3, .int .i64 0, .int .u32 1], 29, true⟩ :: ⟨b, #[.pointer p, v1, v2, .int .i64 now, .bool true], 52, true⟩ :: (E2 ++ (E3 ++ Ea)))) (by simp) hS.pick (by kernel_rfl) (by kernel_rfl) ?_
        refine fx_val (fun _ => rfl) rfl (fun χ w hw => run_mv _ rfl) ?_
        refine fx_val (fun _ => rfl) rfl (fun χ w hw => run_nc _ rfl) ?_
        refine fx_val (fun _ => rfl) rfl (fun χ w hw => run_fa _ _ _ rfl) ?_
        refine fx_val (fun _ => rfl) rfl (fun χ w hw => run_ld _ _ rfl hw) ?_
        refine fx_ask 17 [_, _] _ rfl (fun _ => rfl) rfl (enters _ (by kernel_rfl)) (.agg #[.int .i64 3, .int .i64 63, .int .u32 900]) (fun X w hS => lease_ok hS 63 900 (fun w' hS' => ⟨rfl, hS'⟩)) ?_
        refine fx_turn 0 0 rfl rfl (by first | rfl | kernel_rfl) (by first | rfl | kernel_rfl) (by first | rfl | kernel_rfl) 15 [_, _] _ rfl (fun _ => rfl) (enters _ (by kernel_rfl)) (fun _ => .int .i64 3) ?_ ?_
        · intro χ X w _ hS
          exact dk_return (show St W [] w (E1 ++ (X ++ _)) from hS) hT 3 63 900 (by decide) _ 3 hrt'.out hw'.out (fun E' w' hT' hS' => ⟨(undef, E'), rfl, hT', show St W [] w' (E' ++ (X ++ _)) from hS'.pick⟩)
        refine fx_val (fun _ => rfl) rfl (fun χ w hw => run_as _ rfl) ?_
        refine fx_val (fun _ => rfl) rfl (fun χ w hw => run_as _ rfl) ?_
        refine fx_end rfl ?_
        intro χ w hok hS
        obtain ⟨hT2, _⟩ := hok _ (.head _)
        have hS : St W [] w (((χ 5).2 ++ []) ++ (⟨b9, #[.int .i64 3, .int .i64 0, .int .u32 1], 29, true⟩ :: ⟨b, #[.pointer p, v1, v2, .int .i64 now, .bool true], 52, true⟩ :: (E2 ++ (E3 ++ Ea)))) := hS
        rw [List.append_nil] at hS
        generalize (χ 5).2 = E4 at hS hT2
        clear hok
        go_wp2_with (first | go_skip | go_skip | (refine wpList_is (.build _ _) rfl ?_; go_must (refine wpList_stp rfl (stp_val (run_bd _ _ rfl) ?_))) | (refine wpList_is (.call { callee := .builtin .clear, args := #[_], argTypes := #[_] }) rfl ?_; go_must (refine wpList_stp rfl (stp_cl _ _ rfl hS (by decide) ?_)); clear hS; intro w hS) | (refine wpList_is (.load _ _) rfl ?_; go_must (first | refine wpList_stp rfl (stp_val (run_ld _ _ rfl hS) ?_) | refine wpList_stp rfl (stp_val (run_lda _ _ rfl hS) ?_) | refine wpList_stp rfl (stp_val (run_ld0 _ _ rfl hS) ?_) | refine wpList_stp rfl (stp_val (run_lda0 _ _ rfl hS) ?_))) | (refine wpList_is (.store _ _ _) rfl ?_; go_must (first | refine wpList_stp rfl (stp_st _ _ _ rfl hS ?_) | refine wpList_stp rfl (stp_sta _ _ _ rfl hS ?_)); clear hS; intro w hS) | (refine wpList_is (.alloc _) rfl ?_; go_must (refine wpList_stp rfl (stp_al _ rfl hS ?_)); clear hS; intro bN w hbN hS) | (refine wpList_is (.box _ _) rfl ?_; go_must (refine wpList_stp rfl (stp_bx _ _ rfl hS ?_)); clear hS; intro bN w hbN hS) | (refine wpList_is (.binOp .eql _ _ (.const (.slice none _ _)) _) rfl ?_; refine wpList_stp rfl (stp_val (run_nse _ _ _ rfl) ?_)) | (refine wpList_is (.binOp .neq _ _ (.const (.slice none _ _)) _) rfl ?_; refine wpList_stp rfl (stp_val (run_nsn _ _ _ rfl) ?_)))
        go_meet
        exact ⟨3, E4, rfl, rfl, hT2, hS.pick⟩
    · have hwi : wiE (some (some L)) true 3 64 1 = 2 := by simp [wiE]
      have hw' := Lib.hid hwi
      have hrt' := Lib.hid (rt_of hwi (by decide))
      clear hW tmt hwi
      go_wp2_with (first | go_skip | go_skip | (refine wpList_is (.build _ _) rfl ?_; go_must (refine wpList_stp rfl (stp_val (run_bd _ _ rfl) ?_))) | (refine wpList_is (.call { callee := .builtin .clear, args := #[_], argTypes := #[_] }) rfl ?_; go_must (refine wpList_stp rfl (stp_cl _ _ rfl hS (by decide) ?_)); clear hS; intro w hS) | (refine wpList_is (.load _ _) rfl ?_; go_must (first | refine wpList_stp rfl (stp_val (run_ld _ _ rfl hS) ?_) | refine wpList_stp rfl (stp_val (run_lda _ _ rfl hS) ?_) | refine wpList_stp rfl (stp_val (run_ld0 _ _ rfl hS) ?_) | refine wpList_stp rfl (stp_val (run_lda0 _ _ rfl hS) ?_))) | (refine wpList_is (.store _ _ _) rfl ?_; go_must (first | refine wpList_stp rfl (stp_st _ _ _ rfl hS ?_) | refine wpList_stp rfl (stp_sta _ _ _ rfl hS ?_)); clear hS; intro w hS) | (refine wpList_is (.alloc _) rfl ?_; go_must (refine wpList_stp rfl (stp_al _ rfl hS ?_)); clear hS; intro bN w hbN hS) | (refine wpList_is (.box _ _) rfl ?_; go_must (refine wpList_stp rfl (stp_bx _ _ rfl hS ?_)); clear hS; intro bN w hbN hS) | (refine wpList_is (.binOp .eql _ _ (.const (.slice none _ _)) _) rfl ?_; refine wpList_stp rfl (stp_val (run_nse _ _ _ rfl) ?_)) | (refine wpList_is (.binOp .neq _ _ (.const (.slice none _ _)) _) rfl ?_; refine wpList_stp rfl (stp_val (run_nsn _ _ _ rfl) ?_)))
      refine region_itemsE [⟨(undef, E1), [(5, fun _ x => DA p (some (some L)) x.2)]⟩] (⟨b9, #[.int .i64 3, .int .i64 0, .int .u32 1], 29, true⟩ :: ⟨b, #[.pointer p, v1, v2, .int .i64 now, .bool true], 52, true⟩ :: (E2 ++ (E3 ++ Ea))) (E1 ++ (⟨b9, #[.int .i64 3, .int .i64 0, .int .u32 1], 29, true⟩ :: ⟨b, #[.pointer p, v1, v2, .int .i64 now, .bool true], 52, true⟩ :: (E2 ++ (E3 ++ Ea)))) (by simp) hS.pick (by kernel_rfl) (by kernel_rfl) ?_
      refine fx_val (fun _ => rfl) rfl (fun χ w hw => run_mv _ rfl) ?_
      refine fx_val (fun _ => rfl) rfl (fun χ w hw => run_nc _ rfl) ?_
      refine fx_val (fun _ => rfl) rfl (fun χ w hw => run_fa _ _ _ rfl) ?_
      refine fx_val (fun _ => rfl) rfl (fun χ w hw => run_ld _ _ rfl hw) ?_
      refine fx_ask 17 [_, _] _ rfl (fun _ => rfl) rfl (enters _ (by kernel_rfl)) (.agg #[.int .i64 3, .int .i64 64, .int .u32 1]) (fun X w hS => lease_ok hS 64 1 (fun w' hS' => ⟨rfl, hS'⟩)) ?_
      refine fx_turn 0 0 rfl rfl (by first | rfl | kernel_rfl) (by first | rfl | kernel_rfl) (by first | rfl | kernel_rfl) 15 [_, _] _ rfl (fun _ => rfl) (enters _ (by kernel_rfl)) (fun _ => .int .i64 2) ?_ ?_
      · intro χ X w _ hS
        exact dk_return (show St W [] w (E1 ++ (X ++ _)) from hS) hT 3 64 1 (by decide) _ 2 hrt'.out hw'.out (fun E' w' hT' hS' => ⟨(undef, E'), rfl, hT', show St W [] w' (E' ++ (X ++ _)) from hS'.pick⟩)
      refine fx_val (fun _ => rfl) rfl (fun χ w hw => run_as _ rfl) ?_
      refine fx_val (fun _ => rfl) rfl (fun χ w hw => run_as _ rfl) ?_
      refine fx_end rfl ?_
      intro χ w hok hS
      obtain ⟨hT2, _⟩ := hok _ (.head _)
      have hS : St W [] w (((χ 5).2 ++ []) ++ (⟨b9, #[.int .i64 3, .int .i64 0, .int .u32 1], 29, true⟩ :: ⟨b, #[.pointer p, v1, v2, .int .i64 now, .bool true], 52, true⟩ :: (E2 ++ (E3 ++ Ea)))) := hS
      rw [List.append_nil] at hS
      generalize (χ 5).2 = E4 at hS hT2
      clear hok
      go_wp2_with (first | go_skip | go_skip | (refine wpList_is (.build _ _) rfl ?_; go_must (refine wpList_stp rfl (stp_val (run_bd _ _ rfl) ?_))) | (refine wpList_is (.call { callee := .builtin .clear, args := #[_], argTypes := #[_] }) rfl ?_; go_must (refine wpList_stp rfl (stp_cl _ _ rfl hS (by decide) ?_)); clear hS; intro w hS) | (refine wpList_is (.load _ _) rfl ?_; go_must (first | refine wpList_stp rfl (stp_val (run_ld _ _ rfl hS) ?_) | refine wpList_stp rfl (stp_val (run_lda _ _ rfl hS) ?_) | refine wpList_stp rfl (stp_val (run_ld0 _ _ rfl hS) ?_) | refine wpList_stp rfl (stp_val (run_lda0 _ _ rfl hS) ?_))) | (refine wpList_is (.store _ _ _) rfl ?_; go_must (first | refine wpList_stp rfl (stp_st _ _ _ rfl hS ?_) | refine wpList_stp rfl (stp_sta _ _ _ rfl hS ?_)); clear hS; intro w hS) | (refine wpList_is (.alloc _) rfl ?_; go_must (refine wpList_stp rfl (stp_al _ rfl hS ?_)); clear hS; intro bN w hbN hS) | (refine wpList_is (.box _ _) rfl ?_; go_must (refine wpList_stp rfl (stp_bx _ _ rfl hS ?_)); clear hS; intro bN w hbN hS) | (refine wpList_is (.binOp .eql _ _ (.const (.slice none _ _)) _) rfl ?_; refine wpList_stp rfl (stp_val (run_nse _ _ _ rfl) ?_)) | (refine wpList_is (.binOp .neq _ _ (.const (.slice none _ _)) _) rfl ?_; refine wpList_stp rfl (stp_val (run_nsn _ _ _ rfl) ?_)))
      go_meet
      exact ⟨2, E4, rfl, rfl, hT2, hS.pick⟩
    · have hwi : wiE (some (some L)) (tmB 1099511627777) 3 0 1 = 2 := by simp [wiE, tmB]
      have hov : ovR (some (some L)) 3 0 1 1099511627777 = false := by unfold ovR; rw [hwi]; rfl
      have hw' := Lib.hid hwi
      have ho' := Lib.hid hov
      clear hW tmt hwi hov
      go_wp2_with (first | go_skip | go_skip | (refine wpList_is (.build _ _) rfl ?_; go_must (refine wpList_stp rfl (stp_val (run_bd _ _ rfl) ?_))) | (refine wpList_is (.call { callee := .builtin .clear, args := #[_], argTypes := #[_] }) rfl ?_; go_must (refine wpList_stp rfl (stp_cl _ _ rfl hS (by decide) ?_)); clear hS; intro w hS) | (refine wpList_is (.load _ _) rfl ?_; go_must (first | refine wpList_stp rfl (stp_val (run_ld _ _ rfl hS) ?_) | refine wpList_stp rfl (stp_val (run_lda _ _ rfl hS) ?_) | refine wpList_stp rfl (stp_val (run_ld0 _ _ rfl hS) ?_) | refine wpList_stp rfl (stp_val (run_lda0 _ _ rfl hS) ?_))) | (refine wpList_is (.store _ _ _) rfl ?_; go_must (first | refine wpList_stp rfl (stp_st _ _ _ rfl hS ?_) | refine wpList_stp rfl (stp_sta _ _ _ rfl hS ?_)); clear hS; intro w hS) | (refine wpList_is (.alloc _) rfl ?_; go_must (refine wpList_stp rfl (stp_al _ rfl hS ?_)); clear hS; intro bN w hbN hS) | (refine wpList_is (.box _ _) rfl ?_; go_must (refine wpList_stp rfl (stp_bx _ _ rfl hS ?_)); clear hS; intro bN w hbN hS) | (refine wpList_is (.binOp .eql _ _ (.const (.slice none _ _)) _) rfl ?_; refine wpList_stp rfl (stp_val (run_nse _ _ _ rfl) ?_)) | (refine wpList_is (.binOp .neq _ _ (.const (.slice none _ _)) _) rfl ?_; refine wpList_stp rfl (stp_val (run_nsn _ _ _ rfl) ?_)))
      refine region_new [] rfl hS _ (by kernel_rfl) (by kernel_rfl) (hpk := pickRefl) ?_
      refine fx_val (fun _ => rfl) rfl (fun χ w hw => run_mv _ rfl) ?_
      refine fx_val (fun _ => rfl) rfl (fun χ w hw => run_nc _ rfl) ?_
      refine fx_val (fun _ => rfl) rfl (fun χ w hw => run_fa _ _ _ rfl) ?_
      refine fx_val (fun _ => rfl) rfl (fun χ w hw => run_ld _ _ rfl hw) ?_
      refine fx_ask 17 [_, _] _ rfl (fun _ => rfl) rfl (enters _ (by kernel_rfl)) (.agg #[.int .i64 3, .int .i64 0, .int .u32 1]) (fun X w hS => lease_ok hS 0 1 (fun w' hS' => ⟨rfl, hS'⟩)) ?_
      refine fx_ask 12 [_, _, _] _ rfl (fun _ => rfl) rfl (enters _ (by kernel_rfl)) (.tuple #[.bool false, .int .i64 2]) (fun X w hS => dk_over hS hT 3 0 1 1099511627777 (by decide) false 2 ho'.out hw'.out (fun w' _ hS' => ⟨rfl, hS'.pick⟩)) ?_
      refine fx_val (fun _ => rfl) rfl (fun χ w hw => run_mv _ rfl) ?_
      refine fx_val (fun _ => rfl) rfl (fun χ w hw => run_ext _ _ rfl) ?_
      refine fx_val (fun _ => rfl) rfl (fun χ w hw => run_ext _ _ rfl) ?_
      refine fx_val (fun _ => rfl) rfl (fun χ w hw => run_as _ rfl) ?_
      refine fx_end rfl ?_
      intro χ w hok hS
      replace hS := st_drop hS
      clear hok
      have hT2 := hT
      go_wp2_with (first | go_skip | go_skip | (refine wpList_is (.build _ _) rfl ?_; go_must (refine wpList_stp rfl (stp_val (run_bd _ _ rfl) ?_))) | (refine wpList_is (.call { callee := .builtin .clear, args := #[_], argTypes := #[_] }) rfl ?_; go_must (refine wpList_stp rfl (stp_cl _ _ rfl hS (by decide) ?_)); clear hS; intro w hS) | (refine wpList_is (.load _ _) rfl ?_; go_must (first | refine wpList_stp rfl (stp_val (run_ld _ _ rfl hS) ?_) | refine wpList_stp rfl (stp_val (run_lda _ _ rfl hS) ?_) | refine wpList_stp rfl (stp_val (run_ld0 _ _ rfl hS) ?_) | refine wpList_stp rfl (stp_val (run_lda0 _ _ rfl hS) ?_))) | (refine wpList_is (.store _ _ _) rfl ?_; go_must (first | refine wpList_stp rfl (stp_st _ _ _ rfl hS ?_) | refine wpList_stp rfl (stp_sta _ _ _ rfl hS ?_)); clear hS; intro w hS) | (refine wpList_is (.alloc _) rfl ?_; go_must (refine wpList_stp rfl (stp_al _ rfl hS ?_)); clear hS; intro bN w hbN hS) | (refine wpList_is (.box _ _) rfl ?_; go_must (refine wpList_stp rfl (stp_bx _ _ rfl hS ?_)); clear hS; intro bN w hbN hS) | (refine wpList_is (.binOp .eql _ _ (.const (.slice none _ _)) _) rfl ?_; refine wpList_stp rfl (stp_val (run_nse _ _ _ rfl) ?_)) | (refine wpList_is (.binOp .neq _ _ (.const (.slice none _ _)) _) rfl ?_; refine wpList_stp rfl (stp_val (run_nsn _ _ _ rfl) ?_)))
      go_meet
      exact ⟨2, E1, rfl, rfl, hT2, hS.pick⟩
  case rest =>
    obtain ⟨e, E4, rfl, rfl, hT2, hS⟩ := hcut
    clear hT
    have hT := hT2
    clear hT2
    obtain ⟨al, hal⟩ : ∃ al, allD (some (some L)) = al := ⟨_, rfl⟩
    have hal' := Lib.hid hal
    rw [hal] at hVA
    obtain ⟨m, hm⟩ : ∃ m, al.length = m := ⟨_, rfl⟩
    have hm' := Lib.hid hm
    have hm64 : m ≤ 64 := by rw [← hm, ← hal]; exact allD_64 hT
    have hW' := Lib.hid hI'.out.w
    have hul' := Lib.hid hI'.out.len
    obtain ⟨q, hq⟩ : ∃ q, l.length = q := ⟨_, rfl⟩
    have hq' := Lib.hid hq
    have hq100 : q ≤ 100 := by rw [← hq]; exact hl100
    have hlA := hA.len hq
    have hcp' := Lib.hid (show cpD (some (some L)) = some (some L) from rfl)
    have hz1 : OneCells #[Value.int .i64 0, .int .i64 0, .int .u32 0] := inferInstance
    clear hal hm hq h9
    go_wp2_with (first | go_skip | (go_at_call 23; (with_reducible refine dk_all hS hT al hal'.out ?_); clear hS; intro vz Ez w hVz hS; have hoz := hVz.one; have hlz := hVz.len hm'.out; unfold Ret) | (refine wpList_is (.call { callee := .builtin .clear, args := #[_], argTypes := #[_] }) rfl ?_; go_must (refine wpList_stp rfl (stp_clr (e := 29) (size := 3) _ _ rfl hz1 rfl hVz hS ?_)); clear hS; intro w hS) | (go_at_call 31; refine dk_copy hS hT _ hcp'.out ?_; clear hS; intro pc Ec w hTc _ hS; have hpn := hTc.nil; simp only [Option.isNone_some] at hpn; unfold Ret) | (go_at_call 23; (with_reducible refine dk_all hS hTc al hal'.out ?_); clear hS; intro vc Ex w hVc hS; have hoc := hVc.one; have hlc := hVc.len hm'.out; unfold Ret) | go_skip | (refine wpList_is (.call { callee := .builtin .len, args := #[_], argTypes := #[_] }) rfl ?_; refine wpList_stp rfl (stp_val (run_lenv _ _ rfl) ?_)) | (refine wpList_is (.slice _ _ none (some _) none) rfl ?_; refine wpList_stp rfl (stp_val (run_prev _ _ _ rfl) ?_)) | (refine wpList_is (.indexAddr _ _ _) rfl ?_; refine wpList_stp rfl (stp_val (run_idxv _ _ _ rfl) ?_)) | go_skip | (refine wpList_is (.build _ _) rfl ?_; go_must (refine wpList_stp rfl (stp_val (run_bd _ _ rfl) ?_))) | (refine wpList_is (.call { callee := .builtin .clear, args := #[_], argTypes := #[_] }) rfl ?_; go_must (refine wpList_stp rfl (stp_cl _ _ rfl hS (by decide) ?_)); clear hS; intro w hS) | (refine wpList_is (.load _ _) rfl ?_; go_must (first | refine wpList_stp rfl (stp_val (run_ld _ _ rfl hS) ?_) | refine wpList_stp rfl (stp_val (run_lda _ _ rfl hS) ?_) | refine wpList_stp rfl (stp_val (run_ld0 _ _ rfl hS) ?_) | refine wpList_stp rfl (stp_val (run_lda0 _ _ rfl hS) ?_))) | (refine wpList_is (.store _ _ _) rfl ?_; go_must (first | refine wpList_stp rfl (stp_st _ _ _ rfl hS ?_) | refine wpList_stp rfl (stp_sta _ _ _ rfl hS ?_)); clear hS; intro w hS) | (refine wpList_is (.alloc _) rfl ?_; go_must (refine wpList_stp rfl (stp_al _ rfl hS ?_)); clear hS; intro bN w hbN hS) | (refine wpList_is (.box _ _) rfl ?_; go_must (refine wpList_stp rfl (stp_bx _ _ rfl hS ?_)); clear hS; intro bN w hbN hS) | (refine wpList_is (.binOp .eql _ _ (.const (.slice none _ _)) _) rfl ?_; refine wpList_stp rfl (stp_val (run_nse _ _ _ rfl) ?_)) | (refine wpList_is (.binOp .neq _ _ (.const (.slice none _ _)) _) rfl ?_; refine wpList_stp rfl (stp_val (run_nsn _ _ _ rfl) ?_)))
    go_loopw [150] (fun u wr => ∃ (k : Nat) (Lk : List Ls) (Ec : List Ent), k ≤ m ∧ u = .int .i64 k ∧ DA pc (some (some Lk)) Ec ∧ allD (some (some Lk)) = al.drop k ∧ St W [] wr (Ec ++ (Ex ++ (E4 ++ (⟨b9, #[.int .i64 3, .int .i64 0, .int .u32 1], 29, true⟩ :: ⟨b, #[.pointer p, v1, v2, .int .i64 now, .bool true], 52, true⟩ :: (E2 ++ (E3 ++ Ea))))))) (fun u _ => m - (intOf u).toNat)
    case atStart => exact ⟨0, L, Ec, Nat.zero_le _, rfl, hTc, hal'.out, hS.pick⟩
    case round =>
      clear hS hTc
      obtain ⟨k, Lk, Ec, hk, rfl, hTc, hdr, hS⟩ := hrel
      by_cases hlt : k < m
      · have hkl : k < al.length := by rw [hm'.out]; exact hlt
        obtain ⟨⟨ko, oi, og⟩, ho⟩ : ∃ o, al.getD k (0, 0, 0) = o := ⟨_, rfl⟩
        obtain ⟨g2, sp2, i2, hh2, c2⟩ := hVc.at hkl ho
        have i2 := i2 k rfl
        simp only at c2
        have hdr2 : allD (some (some Lk)) = (ko, oi, og) :: al.drop (k + 1) := by
          rw [hdr, List.drop_eq_getElem_cons hkl]
          congr 1
          rw [← ho, List.getD_eq_getElem?_getD, List.getElem?_eq_getElem hkl]; rfl
        obtain ⟨L', hr1, hr2, hr3, hr4, hr5, hr6⟩ := allD_ret hTc.1 hdr2
        simp only at hr1 hr2 hr5 hr6
        have hr1' := Lib.hid hr1
        have hr2' := Lib.hid hr2
        have hr3' := Lib.hid hr3
        clear hdr hdr2 hkl ho hr1 hr2 hr3 hr4
        go_wp2_with (first | go_skip | (refine wpList_is (.alloc 29) rfl ?_; go_must (refine wpList_stp rfl (stp_al _ rfl hS ?_)); clear hS; intro bo w _ hS) | go_skip | (refine wpList_is (.call { callee := .builtin .len, args := #[_], argTypes := #[_] }) rfl ?_; refine wpList_stp rfl (stp_val (run_lenv _ _ rfl) ?_)) | (refine wpList_is (.slice _ _ none (some _) none) rfl ?_; refine wpList_stp rfl (stp_val (run_prev _ _ _ rfl) ?_)) | (refine wpList_is (.indexAddr _ _ _) rfl ?_; refine wpList_stp rfl (stp_val (run_idxv _ _ _ rfl) ?_)) | go_skip | (refine wpList_is (.build _ _) rfl ?_; go_must (refine wpList_stp rfl (stp_val (run_bd _ _ rfl) ?_))) | (refine wpList_is (.call { callee := .builtin .clear, args := #[_], argTypes := #[_] }) rfl ?_; go_must (refine wpList_stp rfl (stp_cl _ _ rfl hS (by decide) ?_)); clear hS; intro w hS) | (refine wpList_is (.load _ _) rfl ?_; go_must (first | refine wpList_stp rfl (stp_val (run_ld _ _ rfl hS) ?_) | refine wpList_stp rfl (stp_val (run_lda _ _ rfl hS) ?_) | refine wpList_stp rfl (stp_val (run_ld0 _ _ rfl hS) ?_) | refine wpList_stp rfl (stp_val (run_lda0 _ _ rfl hS) ?_))) | (refine wpList_is (.store _ _ _) rfl ?_; go_must (first | refine wpList_stp rfl (stp_st _ _ _ rfl hS ?_) | refine wpList_stp rfl (stp_sta _ _ _ rfl hS ?_)); clear hS; intro w hS) | (refine wpList_is (.alloc _) rfl ?_; go_must (refine wpList_stp rfl (stp_al _ rfl hS ?_)); clear hS; intro bN w hbN hS) | (refine wpList_is (.box _ _) rfl ?_; go_must (refine wpList_stp rfl (stp_bx _ _ rfl hS ?_)); clear hS; intro bN w hbN hS) | (refine wpList_is (.binOp .eql _ _ (.const (.slice none _ _)) _) rfl ?_; refine wpList_stp rfl (stp_val (run_nse _ _ _ rfl) ?_)) | (refine wpList_is (.binOp .neq _ _ (.const (.slice none _ _)) _) rfl ?_; refine wpList_stp rfl (stp_val (run_nsn _ _ _ rfl) ?_)))
        have hS : St W [] w (Ec ++ (⟨bo, #[.int .i64 ko, .int .i64 oi, .int .u32 og], 29, true⟩ :: (Ex ++ (E4 ++ (⟨b9, #[.int .i64 3, .int .i64 0, .int .u32 1], 29, true⟩ :: ⟨b, #[.pointer p, v1, v2, .int .i64 now, .bool true], 52, true⟩ :: (E2 ++ (E3 ++ Ea))))))) := hS.pick
        go_wp2_with (first | go_skip | (go_at_call 15; refine dk_return hS hTc ko oi og ⟨hr5, hr6⟩ _ 0 hr1'.out hr2'.out ?_; clear hS hTc; intro Ec w hTc hS; unfold Ret) | go_skip | (refine wpList_is (.call { callee := .builtin .len, args := #[_], argTypes := #[_] }) rfl ?_; refine wpList_stp rfl (stp_val (run_lenv _ _ rfl) ?_)) | (refine wpList_is (.slice _ _ none (some _) none) rfl ?_; refine wpList_stp rfl (stp_val (run_prev _ _ _ rfl) ?_)) | (refine wpList_is (.indexAddr _ _ _) rfl ?_; refine wpList_stp rfl (stp_val (run_idxv _ _ _ rfl) ?_)) | go_skip | (refine wpList_is (.build _ _) rfl ?_; go_must (refine wpList_stp rfl (stp_val (run_bd _ _ rfl) ?_))) | (refine wpList_is (.call { callee := .builtin .clear, args := #[_], argTypes := #[_] }) rfl ?_; go_must (refine wpList_stp rfl (stp_cl _ _ rfl hS (by decide) ?_)); clear hS; intro w hS) | (refine wpList_is (.load _ _) rfl ?_; go_must (first | refine wpList_stp rfl (stp_val (run_ld _ _ rfl hS) ?_) | refine wpList_stp rfl (stp_val (run_lda _ _ rfl hS) ?_) | refine wpList_stp rfl (stp_val (run_ld0 _ _ rfl hS) ?_) | refine wpList_stp rfl (stp_val (run_lda0 _ _ rfl hS) ?_))) | (refine wpList_is (.store _ _ _) rfl ?_; go_must (first | refine wpList_stp rfl (stp_st _ _ _ rfl hS ?_) | refine wpList_stp rfl (stp_sta _ _ _ rfl hS ?_)); clear hS; intro w hS) | (refine wpList_is (.alloc _) rfl ?_; go_must (refine wpList_stp rfl (stp_al _ rfl hS ?_)); clear hS; intro bN w hbN hS) | (refine wpList_is (.box _ _) rfl ?_; go_must (refine wpList_stp rfl (stp_bx _ _ rfl hS ?_)); clear hS; intro bN w hbN hS) | (refine wpList_is (.binOp .eql _ _ (.const (.slice none _ _)) _) rfl ?_; refine wpList_stp rfl (stp_val (run_nse _ _ _ rfl) ?_)) | (refine wpList_is (.binOp .neq _ _ (.const (.slice none _ _)) _) rfl ?_; refine wpList_stp rfl (stp_val (run_nsn _ _ _ rfl) ?_)))
        go_roundw
        case rel => exact ⟨k + 1, L', Ec, by omega, by go_num, hTc, hr3'.out, hS.pick⟩
        case measure => simp [intOf]; omega
      · obtain rfl : k = m := by omega
        have hnil : allD (some (some Lk)) = [] := by rw [hdr, List.drop_eq_nil_iff, hm'.out]; exact Nat.le_refl _
        have hcl' := Lib.hid (show (allD (some (some Lk))).length = 0 by rw [hnil]; rfl)
        clear hk hlt hdr hnil
        obtain ⟨wo, rfl⟩ : ∃ wo : World, wo = wr := ⟨_, rfl⟩
        go_wp2_with (first | go_skip | go_skip | (refine wpList_is (.call { callee := .builtin .len, args := #[_], argTypes := #[_] }) rfl ?_; refine wpList_stp rfl (stp_val (run_lenv _ _ rfl) ?_)) | (refine wpList_is (.slice _ _ none (some _) none) rfl ?_; refine wpList_stp rfl (stp_val (run_prev _ _ _ rfl) ?_)) | (refine wpList_is (.indexAddr _ _ _) rfl ?_; refine wpList_stp rfl (stp_val (run_idxv _ _ _ rfl) ?_)) | go_skip | (refine wpList_is (.build _ _) rfl ?_; go_must (refine wpList_stp rfl (stp_val (run_bd _ _ rfl) ?_))) | (refine wpList_is (.call { callee := .builtin .clear, args := #[_], argTypes := #[_] }) rfl ?_; go_must (refine wpList_stp rfl (stp_cl _ _ rfl hS (by decide) ?_)); clear hS; intro w hS) | (refine wpList_is (.load _ _) rfl ?_; go_must (first | refine wpList_stp rfl (stp_val (run_ld _ _ rfl hS) ?_) | refine wpList_stp rfl (stp_val (run_lda _ _ rfl hS) ?_) | refine wpList_stp rfl (stp_val (run_ld0 _ _ rfl hS) ?_) | refine wpList_stp rfl (stp_val (run_lda0 _ _ rfl hS) ?_))) | (refine wpList_is (.store _ _ _) rfl ?_; go_must (first | refine wpList_stp rfl (stp_st _ _ _ rfl hS ?_) | refine wpList_stp rfl (stp_sta _ _ _ rfl hS ?_)); clear hS; intro w hS) | (refine wpList_is (.alloc _) rfl ?_; go_must (refine wpList_stp rfl (stp_al _ rfl hS ?_)); clear hS; intro bN w hbN hS) | (refine wpList_is (.box _ _) rfl ?_; go_must (refine wpList_stp rfl (stp_bx _ _ rfl hS ?_)); clear hS; intro bN w hbN hS) | (refine wpList_is (.binOp .eql _ _ (.const (.slice none _ _)) _) rfl ?_; refine wpList_stp rfl (stp_val (run_nse _ _ _ rfl) ?_)) | (refine wpList_is (.binOp .neq _ _ (.const (.slice none _ _)) _) rfl ?_; refine wpList_stp rfl (stp_val (run_nsn _ _ _ rfl) ?_)))
        go_loopw [164] (fun u wr => ∃ (k : Nat), k ≤ q ∧ u = .int .i64 k ∧ St W [] wr (E4 ++ (Ec ++ (Ex ++ (⟨b9, #[.int .i64 3, .int .i64 0, .int .u32 1], 29, true⟩ :: ⟨b, #[.pointer p, v1, v2, .int .i64 now, .bool true], 52, true⟩ :: (E2 ++ (E3 ++ Ea))))))) (fun u _ => q - (intOf u).toNat)
        case atStart => exact ⟨0, Nat.zero_le _, rfl, hS.pick⟩
        case round =>
          clear hS
          obtain ⟨k, hk, rfl, hS⟩ := hrel
          by_cases hlt : k < q
          · have hkl : k < l.length := by rw [hq'.out]; exact hlt
            have hku : k < us.length := by rw [hul'.out]; exact hkl
            obtain ⟨u, hu⟩ : ∃ u, us.getD k 0 = u := ⟨_, rfl⟩
            have hlb := hU.len (hul'.out.trans hq'.out)
            obtain ⟨g3, cap3, sp3, -, hE3, i3, c3, _, _⟩ := hU.at hku hu
            have i3 := i3 k rfl
            obtain ⟨⟨ko, oi, og⟩, ho⟩ : ∃ o, l.getD k (0, 0, 0) = o := ⟨_, rfl⟩
            obtain ⟨g2, sp2, i2, hh2, c2⟩ := hA.at hkl ho
            have i2 := i2 k rfl
            simp only at c2
            have hat := hI'.out.at' k hkl
            rw [show lgO l k = (ko, oi, og) from ho, show lgU us k = u from hu] at hat
            have hog : 0 ≤ og ∧ og ≤ 4294967295 := by
              obtain ⟨_, _, _, _, h3, h4, _⟩ := hat
              simp only at h3 h4
              omega
            obtain ⟨he1, hu1⟩ := wi_at hI'.out.w hat
            simp only at he1 hu1
            have hh3 : Has E3 g3 (blk [] j64f us sp3) 2 := by rw [hE3]; exact hasHead
            have hu1' := Lib.hid hu1
            clear hu ho hkl hku hE3 hat hu1
            by_cases h0 : u = 0
            · subst h0
              simp only [if_true] at he1
              have he1' := Lib.hid he1
              clear he1
              go_wp2_with (first | go_skip | (refine wpList_is (.alloc 29) rfl ?_; go_must (refine wpList_stp rfl (stp_al _ rfl hS ?_)); clear hS; intro bo w _ hS) | go_skip | (refine wpList_is (.call { callee := .builtin .len, args := #[_], argTypes := #[_] }) rfl ?_; refine wpList_stp rfl (stp_val (run_lenv _ _ rfl) ?_)) | (refine wpList_is (.slice _ _ none (some _) none) rfl ?_; refine wpList_stp rfl (stp_val (run_prev _ _ _ rfl) ?_)) | (refine wpList_is (.indexAddr _ _ _) rfl ?_; refine wpList_stp rfl (stp_val (run_idxv _ _ _ rfl) ?_)) | go_skip | (refine wpList_is (.build _ _) rfl ?_; go_must (refine wpList_stp rfl (stp_val (run_bd _ _ rfl) ?_))) | (refine wpList_is (.call { callee := .builtin .clear, args := #[_], argTypes := #[_] }) rfl ?_; go_must (refine wpList_stp rfl (stp_cl _ _ rfl hS (by decide) ?_)); clear hS; intro w hS) | (refine wpList_is (.load _ _) rfl ?_; go_must (first | refine wpList_stp rfl (stp_val (run_ld _ _ rfl hS) ?_) | refine wpList_stp rfl (stp_val (run_lda _ _ rfl hS) ?_) | refine wpList_stp rfl (stp_val (run_ld0 _ _ rfl hS) ?_) | refine wpList_stp rfl (stp_val (run_lda0 _ _ rfl hS) ?_))) | (refine wpList_is (.store _ _ _) rfl ?_; go_must (first | refine wpList_stp rfl (stp_st _ _ _ rfl hS ?_) | refine wpList_stp rfl (stp_sta _ _ _ rfl hS ?_)); clear hS; intro w hS) | (refine wpList_is (.alloc _) rfl ?_; go_must (refine wpList_stp rfl (stp_al _ rfl hS ?_)); clear hS; intro bN w hbN hS) | (refine wpList_is (.box _ _) rfl ?_; go_must (refine wpList_stp rfl (stp_bx _ _ rfl hS ?_)); clear hS; intro bN w hbN hS) | (refine wpList_is (.binOp .eql _ _ (.const (.slice none _ _)) _) rfl ?_; refine wpList_stp rfl (stp_val (run_nse _ _ _ rfl) ?_)) | (refine wpList_is (.binOp .neq _ _ (.const (.slice none _ _)) _) rfl ?_; refine wpList_stp rfl (stp_val (run_nsn _ _ _ rfl) ?_)))
              refine region_new [] rfl hS _ (by kernel_rfl) (by kernel_rfl) (hpk := pickRefl) ?_
              refine fx_val (fun _ => rfl) rfl (fun χ w hw => run_mv _ rfl) ?_
              refine fx_val (fun _ => rfl) rfl (fun χ w hw => run_nc _ rfl) ?_
              refine fx_val (fun _ => rfl) rfl (fun χ w hw => run_fa _ _ _ rfl) ?_
              refine fx_val (fun _ => rfl) rfl (fun χ w hw => run_ld _ _ rfl hw) ?_
              refine fx_val (fun _ => rfl) rfl (fun χ w hw => run_lda _ _ rfl hw) ?_
              refine fx_ask 14 [_, _] _ rfl (fun _ => rfl) rfl (enters _ (by kernel_rfl)) (.tuple #[.int .i64 0, .int .i64 7]) (fun X w hS => dk_until hS hT ko oi og hog 0 7 hu1'.out he1'.out (fun w' _ hS' => ⟨rfl, hS'.pick⟩)) ?_
              refine fx_val (fun _ => rfl) rfl (fun χ w hw => run_mv _ rfl) ?_
              refine fx_val (fun _ => rfl) rfl (fun χ w hw => run_ext _ _ rfl) ?_
              refine fx_val (fun _ => rfl) rfl (fun χ w hw => run_ext _ _ rfl) ?_
              refine fx_val (fun _ => rfl) rfl (fun χ w hw => run_as _ rfl) ?_
              refine fx_val (fun _ => rfl) rfl (fun χ w hw => run_as _ rfl) ?_
              refine fx_end rfl ?_
              intro χ w hok hS
              replace hS := st_drop hS
              clear hok
              go_wp2_with (first | go_skip | go_skip | (refine wpList_is (.call { callee := .builtin .len, args := #[_], argTypes := #[_] }) rfl ?_; refine wpList_stp rfl (stp_val (run_lenv _ _ rfl) ?_)) | (refine wpList_is (.slice _ _ none (some _) none) rfl ?_; refine wpList_stp rfl (stp_val (run_prev _ _ _ rfl) ?_)) | (refine wpList_is (.indexAddr _ _ _) rfl ?_; refine wpList_stp rfl (stp_val (run_idxv _ _ _ rfl) ?_)) | go_skip | (refine wpList_is (.build _ _) rfl ?_; go_must (refine wpList_stp rfl (stp_val (run_bd _ _ rfl) ?_))) | (refine wpList_is (.call { callee := .builtin .clear, args := #[_], argTypes := #[_] }) rfl ?_; go_must (refine wpList_stp rfl (stp_cl _ _ rfl hS (by decide) ?_)); clear hS; intro w hS) | (refine wpList_is (.load _ _) rfl ?_; go_must (first | refine wpList_stp rfl (stp_val (run_ld _ _ rfl hS) ?_) | refine wpList_stp rfl (stp_val (run_lda _ _ rfl hS) ?_) | refine wpList_stp rfl (stp_val (run_ld0 _ _ rfl hS) ?_) | refine wpList_stp rfl (stp_val (run_lda0 _ _ rfl hS) ?_))) | (refine wpList_is (.store _ _ _) rfl ?_; go_must (first | refine wpList_stp rfl (stp_st _ _ _ rfl hS ?_) | refine wpList_stp rfl (stp_sta _ _ _ rfl hS ?_)); clear hS; intro w hS) | (refine wpList_is (.alloc _) rfl ?_; go_must (refine wpList_stp rfl (stp_al _ rfl hS ?_)); clear hS; intro bN w hbN hS) | (refine wpList_is (.box _ _) rfl ?_; go_must (refine wpList_stp rfl (stp_bx _ _ rfl hS ?_)); clear hS; intro bN w hbN hS) | (refine wpList_is (.binOp .eql _ _ (.const (.slice none _ _)) _) rfl ?_; refine wpList_stp rfl (stp_val (run_nse _ _ _ rfl) ?_)) | (refine wpList_is (.binOp .neq _ _ (.const (.slice none _ _)) _) rfl ?_; refine wpList_stp rfl (stp_val (run_nsn _ _ _ rfl) ?_)))
              go_roundw
              case rel => exact ⟨k + 1, by omega, by go_num, hS.pick⟩
              case measure => simp [intOf]; omega
            · rw [if_neg h0] at he1
              have he1' := Lib.hid he1
              clear he1
              go_wp2_with (first | go_skip | (refine wpList_is (.alloc 29) rfl ?_; go_must (refine wpList_stp rfl (stp_al _ rfl hS ?_)); clear hS; intro bo w _ hS) | go_skip | (refine wpList_is (.call { callee := .builtin .len, args := #[_], argTypes := #[_] }) rfl ?_; refine wpList_stp rfl (stp_val (run_lenv _ _ rfl) ?_)) | (refine wpList_is (.slice _ _ none (some _) none) rfl ?_; refine wpList_stp rfl (stp_val (run_prev _ _ _ rfl) ?_)) | (refine wpList_is (.indexAddr _ _ _) rfl ?_; refine wpList_stp rfl (stp_val (run_idxv _ _ _ rfl) ?_)) | go_skip | (refine wpList_is (.build _ _) rfl ?_; go_must (refine wpList_stp rfl (stp_val (run_bd _ _ rfl) ?_))) | (refine wpList_is (.call { callee := .builtin .clear, args := #[_], argTypes := #[_] }) rfl ?_; go_must (refine wpList_stp rfl (stp_cl _ _ rfl hS (by decide) ?_)); clear hS; intro w hS) | (refine wpList_is (.load _ _) rfl ?_; go_must (first | refine wpList_stp rfl (stp_val (run_ld _ _ rfl hS) ?_) | refine wpList_stp rfl (stp_val (run_lda _ _ rfl hS) ?_) | refine wpList_stp rfl (stp_val (run_ld0 _ _ rfl hS) ?_) | refine wpList_stp rfl (stp_val (run_lda0 _ _ rfl hS) ?_))) | (refine wpList_is (.store _ _ _) rfl ?_; go_must (first | refine wpList_stp rfl (stp_st _ _ _ rfl hS ?_) | refine wpList_stp rfl (stp_sta _ _ _ rfl hS ?_)); clear hS; intro w hS) | (refine wpList_is (.alloc _) rfl ?_; go_must (refine wpList_stp rfl (stp_al _ rfl hS ?_)); clear hS; intro bN w hbN hS) | (refine wpList_is (.box _ _) rfl ?_; go_must (refine wpList_stp rfl (stp_bx _ _ rfl hS ?_)); clear hS; intro bN w hbN hS) | (refine wpList_is (.binOp .eql _ _ (.const (.slice none _ _)) _) rfl ?_; refine wpList_stp rfl (stp_val (run_nse _ _ _ rfl) ?_)) | (refine wpList_is (.binOp .neq _ _ (.const (.slice none _ _)) _) rfl ?_; refine wpList_stp rfl (stp_val (run_nsn _ _ _ rfl) ?_)))
              refine region_new [] rfl hS _ (by kernel_rfl) (by kernel_rfl) (hpk := pickRefl) ?_
              refine fx_val (fun _ => rfl) rfl (fun χ w hw => run_mv _ rfl) ?_
              refine fx_val (fun _ => rfl) rfl (fun χ w hw => run_nc _ rfl) ?_
              refine fx_val (fun _ => rfl) rfl (fun χ w hw => run_fa _ _ _ rfl) ?_
              refine fx_val (fun _ => rfl) rfl (fun χ w hw => run_ld _ _ rfl hw) ?_
              refine fx_val (fun _ => rfl) rfl (fun χ w hw => run_lda _ _ rfl hw) ?_
              refine fx_ask 14 [_, _] _ rfl (fun _ => rfl) rfl (enters _ (by kernel_rfl)) (.tuple #[.int .i64 u, .int .i64 0]) (fun X w hS => dk_until hS hT ko oi og hog u 0 hu1'.out he1'.out (fun w' _ hS' => ⟨rfl, hS'.pick⟩)) ?_
              refine fx_val (fun _ => rfl) rfl (fun χ w hw => run_mv _ rfl) ?_
              refine fx_val (fun _ => rfl) rfl (fun χ w hw => run_ext _ _ rfl) ?_
              refine fx_val (fun _ => rfl) rfl (fun χ w hw => run_ext _ _ rfl) ?_
              refine fx_val (fun _ => rfl) rfl (fun χ w hw => run_as _ rfl) ?_
              refine fx_val (fun _ => rfl) rfl (fun χ w hw => run_as _ rfl) ?_
              refine fx_end rfl ?_
              intro χ w hok hS
              replace hS := st_drop hS
              clear hok
              go_wp2_with (first | go_skip | go_skip | (refine wpList_is (.call { callee := .builtin .len, args := #[_], argTypes := #[_] }) rfl ?_; refine wpList_stp rfl (stp_val (run_lenv _ _ rfl) ?_)) | (refine wpList_is (.slice _ _ none (some _) none) rfl ?_; refine wpList_stp rfl (stp_val (run_prev _ _ _ rfl) ?_)) | (refine wpList_is (.indexAddr _ _ _) rfl ?_; refine wpList_stp rfl (stp_val (run_idxv _ _ _ rfl) ?_)) | go_skip | (refine wpList_is (.build _ _) rfl ?_; go_must (refine wpList_stp rfl (stp_val (run_bd _ _ rfl) ?_))) | (refine wpList_is (.call { callee := .builtin .clear, args := #[_], argTypes := #[_] }) rfl ?_; go_must (refine wpList_stp rfl (stp_cl _ _ rfl hS (by decide) ?_)); clear hS; intro w hS) | (refine wpList_is (.load _ _) rfl ?_; go_must (first | refine wpList_stp rfl (stp_val (run_ld _ _ rfl hS) ?_) | refine wpList_stp rfl (stp_val (run_lda _ _ rfl hS) ?_) | refine wpList_stp rfl (stp_val (run_ld0 _ _ rfl hS) ?_) | refine wpList_stp rfl (stp_val (run_lda0 _ _ rfl hS) ?_))) | (refine wpList_is (.store _ _ _) rfl ?_; go_must (first | refine wpList_stp rfl (stp_st _ _ _ rfl hS ?_) | refine wpList_stp rfl (stp_sta _ _ _ rfl hS ?_)); clear hS; intro w hS) | (refine wpList_is (.alloc _) rfl ?_; go_must (refine wpList_stp rfl (stp_al _ rfl hS ?_)); clear hS; intro bN w hbN hS) | (refine wpList_is (.box _ _) rfl ?_; go_must (refine wpList_stp rfl (stp_bx _ _ rfl hS ?_)); clear hS; intro bN w hbN hS) | (refine wpList_is (.binOp .eql _ _ (.const (.slice none _ _)) _) rfl ?_; refine wpList_stp rfl (stp_val (run_nse _ _ _ rfl) ?_)) | (refine wpList_is (.binOp .neq _ _ (.const (.slice none _ _)) _) rfl ?_; refine wpList_stp rfl (stp_val (run_nsn _ _ _ rfl) ?_)))
              go_roundw
              case rel => exact ⟨k + 1, by omega, by go_num, hS.pick⟩
              case measure => simp [intOf]; omega
          · obtain rfl : k = q := by omega
            clear hk hlt


            have ham : al.length ≤ 1000 := by rw [hm'.out]; omega
            go_wp2_with (first | go_skip | (go_at_call 18; refine dk_len hS hTc 0 hcl'.out ?_; clear hS; intro w _ hS; unfold Ret) | (go_at_call 23; refine dk_all hS hT al hal'.out ?_; clear hS; intro vf Ef w hVf hS; have hof := hVf.one; unfold Ret) | (go_at_call 34; refine out_equal hS hVf hVA ham ham true (by simp) ?_; clear hS; intro w hS; unfold Ret) | (go_at_call 16; refine works_ok hS ?_; clear hS; intro w hS; unfold Ret) | go_skip | (refine wpList_is (.call { callee := .builtin .len, args := #[_], argTypes := #[_] }) rfl ?_; refine wpList_stp rfl (stp_val (run_lenv _ _ rfl) ?_)) | (refine wpList_is (.slice _ _ none (some _) none) rfl ?_; refine wpList_stp rfl (stp_val (run_prev _ _ _ rfl) ?_)) | (refine wpList_is (.indexAddr _ _ _) rfl ?_; refine wpList_stp rfl (stp_val (run_idxv _ _ _ rfl) ?_)) | go_skip | (refine wpList_is (.build _ _) rfl ?_; go_must (refine wpList_stp rfl (stp_val (run_bd _ _ rfl) ?_))) | (refine wpList_is (.call { callee := .builtin .clear, args := #[_], argTypes := #[_] }) rfl ?_; go_must (refine wpList_stp rfl (stp_cl _ _ rfl hS (by decide) ?_)); clear hS; intro w hS) | (refine wpList_is (.load _ _) rfl ?_; go_must (first | refine wpList_stp rfl (stp_val (run_ld _ _ rfl hS) ?_) | refine wpList_stp rfl (stp_val (run_lda _ _ rfl hS) ?_) | refine wpList_stp rfl (stp_val (run_ld0 _ _ rfl hS) ?_) | refine wpList_stp rfl (stp_val (run_lda0 _ _ rfl hS) ?_))) | (refine wpList_is (.store _ _ _) rfl ?_; go_must (first | refine wpList_stp rfl (stp_st _ _ _ rfl hS ?_) | refine wpList_stp rfl (stp_sta _ _ _ rfl hS ?_)); clear hS; intro w hS) | (refine wpList_is (.alloc _) rfl ?_; go_must (refine wpList_stp rfl (stp_al _ rfl hS ?_)); clear hS; intro bN w hbN hS) | (refine wpList_is (.box _ _) rfl ?_; go_must (refine wpList_stp rfl (stp_bx _ _ rfl hS ?_)); clear hS; intro bN w hbN hS) | (refine wpList_is (.binOp .eql _ _ (.const (.slice none _ _)) _) rfl ?_; refine wpList_stp rfl (stp_val (run_nse _ _ _ rfl) ?_)) | (refine wpList_is (.binOp .neq _ _ (.const (.slice none _ _)) _) rfl ?_; refine wpList_stp rfl (stp_val (run_nsn _ _ _ rfl) ?_)))
            exact hR _ hS.chg
end Go.Proofs.Ytbjcjbkgjnojmaa
