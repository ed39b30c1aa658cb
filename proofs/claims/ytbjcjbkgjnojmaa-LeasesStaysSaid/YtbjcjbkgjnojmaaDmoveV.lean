/-
  Moves on a desk of leases: a lease is renewed.
-/
import Derived.Test.YtbjcjbkgjnojmaaDmoveX
set_option linter.unusedSimpArgs false
set_option linter.unusedVariables false
namespace Go.Proofs.Ytbjcjbkgjnojmaa
open Go.RowKit Go.Mm
variable {R : Ending → World → Prop} {w : World} {w0 : World} {bs : List Nat} {H H' H1 E : List Ent}

set_option maxHeartbeats 2000000 in
set_option maxRecDepth 100000 in
/-- One of the leases is renewed. -/
theorem step_rn {b : Nat} {p : Option Addr} {L : List Ls} {l : List Ot} {us : List Int} {now : Int} {ok : Bool} (hO : St w0 bs w H) (hX : DX b p L l us now ok E) [hc : Cut H E H1] (hI : DInv L l us now) (hb : now ≤ 1000000) (hl : l.length ≤ 500) (x y t : Int) (wh : Nat)
    (hx : 0 ≤ x ∧ x ≤ 255) (hy : 0 ≤ y ∧ y ≤ 255) (hz : wh ≤ 255) (ht : 0 ≤ t ∧ t ≤ 255) (hg : ¬ y % 4 < 2) (hy2 : ¬ y % 4 = 2) (hln : l ≠ [])
    (hR : ∀ L' l' us' now' E' w', DX b p L' l' us' now' ok E' → DInv L' l' us' now' → now ≤ now' → now' ≤ now + 7 → l'.length ≤ l.length + 1 → Nx us us' → Kin L L' → St w0 bs w' (E' ++ H1) → Ret R (.bool true) w') :
    Calls Try.prog 21 #[.pointer (some ⟨b, 0, none⟩), .agg #[.int .u8 x, .int .u8 y, .int .u8 wh, .int .u8 t]] w R := by
  have hS := hO.front (E := E) (H1 := H1)
  clear hO
  obtain ⟨v1, v2, E1, E2, E3, hT, hA, hU, rfl⟩ := hX
  simp only [List.cons_append, List.append_assoc] at hS
  obtain ⟨x0, x1⟩ := hx
  obtain ⟨y0, y1⟩ := hy
  obtain ⟨t0, t1⟩ := ht
  have hn0 := hI.n0
  obtain ⟨nw, hnw⟩ : ∃ nw, now + x % 8 = nw := ⟨_, rfl⟩
  have hnb : now ≤ nw ∧ nw ≤ now + 7 := by omega
  obtain ⟨tk, htk⟩ : ∃ tk, 1 + t % 16 = tk := ⟨_, rfl⟩
  have htb : 1 ≤ tk ∧ tk ≤ 16 := by omega
  have hI' : DInv L l us nw := by rw [← hnw]; exact hI.wait (by omega)
  have hwn : IntKind.i64.wrap (now + IntKind.i64.wrap (x.tmod 8)) = nw := by rw [Int.tmod_eq_emod_of_nonneg x0, IntWalk.i64_in (x % 8) (by omega), IntWalk.i64_in _ (by omega), hnw]
  have hwn' := Lib.hid hwn
  obtain ⟨n, hn⟩ : ∃ n, l.length = n := ⟨_, rfl⟩
  have hnp : 0 < n := by
    rw [← hn]
    exact List.length_pos_iff.2 hln
  have hl1 := hA.len hn
  have ho1 := hA.one
  have ho2 := hU.one
  obtain ⟨k, hk⟩ : ∃ k, wh % n = k := ⟨_, rfl⟩
  have hkn : k < n := by rw [← hk]; exact Nat.mod_lt _ hnp
  have hrem : RemIs wh n k := ⟨by rw [← hk]; rfl, by omega⟩
  have hsz : Small (wh : Int) := ⟨by omega, by omega⟩
  have hul := hI.len
  have hl8 := hU.len (hul.trans hn)
  have hkl : k < l.length := by rw [hn]; exact hkn
  have hku : k < us.length := by rw [hul, hn]; exact hkn
  obtain ⟨u, hu⟩ : ∃ u, us.getD k 0 = u := ⟨_, rfl⟩
  have hu0 : 0 ≤ u ∧ u ≤ nw + 16 := by rw [← hu]; exact hI'.ub _ (lgU_mem hku)
  obtain ⟨g3, cap3, sp3, -, rfl, i3, c3, hset3, hus3⟩ := hU.at hku hu
  have i3 := i3 k rfl
  simp only [List.cons_append, List.nil_append] at hS
  have hat := hI'.at' k hkl
  have hrt := hI'.ret hkl
  obtain ⟨hn1, hn2, hn3⟩ := hI'.ren hkl htb (by omega) hu
  have hu2 : lgU us k = u := hu
  rw [hu2] at hrt
  obtain ⟨⟨ko, oi, og⟩, ho⟩ : ∃ o, l.getD k (0, 0, 0) = o := ⟨_, rfl⟩
  obtain ⟨g2, sp2, i2, hh2, c2⟩ := hA.at hkl ho
  have i2 := i2 k rfl
  have ho' : lgO l k = (ko, oi, og) := ho
  rw [ho'] at hrt hn1 hn2 hn3 hat
  simp only at hrt hn1 hn2 hn3 c2
  have hog : 0 ≤ og ∧ og ≤ 4294967295 := by
    obtain ⟨_, _, _, _, h3, h4, _⟩ := hat
    simp only at h3 h4
    omega
  have d1 : decide (y % 4 < 2) = false := decide_eq_false hg
  have d2 : ((n : Int) == 0) = false := by simp; omega
  have d3 : decide (n = 0) = false := decide_eq_false (by omega)
  have d4 : (n == 0) = false := by simp; omega
  have d5 : decide ((n : Int) = 0) = false := decide_eq_false (by omega)
  have hn500 : n ≤ 500 := by rw [← hn]; exact hl
  have hlen' := Lib.hid hn
  clear hnw hwn hat ho ho' hu hu2 hk hn hkl hku hln hul
  have hy3 : y % 4 = 3 := by omega
  have d6 : (y % 4 == 2) = false := by simp [hy3]
  have d10 : decide (y % 4 = 2) = false := decide_eq_false hy2
  clear hrt
  by_cases h0 : u = 0
  · subst h0
    obtain ⟨h1, h2⟩ := hn1 rfl
    have h1' := Lib.hid h1
    have h2' := Lib.hid h2
    clear h1 h2 hy2 hy3 hn1 hn2 hn3
    go_enter Try.func21, Try.ntmps21
    go_wp2_with (first | go_skip | (refine wpList_is (.box 46 _) rfl ?_; go_must (refine wpList_stp rfl (stp_bx _ _ rfl hS ?_)); clear hS; intro bm w _ hS) | (refine region_tail 11 hS (by kernel_rfl) (by kernel_rfl) ?_; clear hS; intro w hS; simp only [List.take_succ_cons, List.take_zero, List.drop_succ_cons, List.drop_zero]; (repeat (first | (refine wpStill_is (.load _ _) rfl ?_; go_must (first | refine wpStill_val rfl (run_ld _ _ rfl hS) ?_ | refine wpStill_val rfl (run_lda _ _ rfl hS) ?_ | refine wpStill_val rfl (run_ld0 _ _ rfl hS) ?_ | refine wpStill_val rfl (run_lda0 _ _ rfl hS) ?_)) | still_step)); refine wpStill_nil ?_) | go_skip | (refine wpList_is (.call { callee := .builtin .len, args := #[_], argTypes := #[_] }) rfl ?_; refine wpList_stp rfl (stp_val (run_lenv _ _ rfl) ?_)) | (refine wpList_is (.slice _ _ none (some _) none) rfl ?_; refine wpList_stp rfl (stp_val (run_prev _ _ _ rfl) ?_)) | (refine wpList_is (.indexAddr _ _ _) rfl ?_; refine wpList_stp rfl (stp_val (run_idxv _ _ _ rfl) ?_)) | go_skip | (refine wpList_is (.build _ _) rfl ?_; go_must (refine wpList_stp rfl (stp_val (run_bd _ _ rfl) ?_))) | (refine wpList_is (.call { callee := .builtin .clear, args := #[_], argTypes := #[_] }) rfl ?_; go_must (refine wpList_stp rfl (stp_cl _ _ rfl hS (by decide) ?_)); clear hS; intro w hS) | (refine wpList_is (.load _ _) rfl ?_; go_must (first | refine wpList_stp rfl (stp_val (run_ld _ _ rfl hS) ?_) | refine wpList_stp rfl (stp_val (run_lda _ _ rfl hS) ?_) | refine wpList_stp rfl (stp_val (run_ld0 _ _ rfl hS) ?_) | refine wpList_stp rfl (stp_val (run_lda0 _ _ rfl hS) ?_))) | (refine wpList_is (.store _ _ _) rfl ?_; go_must (first | refine wpList_stp rfl (stp_st _ _ _ rfl hS ?_) | refine wpList_stp rfl (stp_sta _ _ _ rfl hS ?_)); clear hS; intro w hS) | (refine wpList_is (.alloc _) rfl ?_; go_must (refine wpList_stp rfl (stp_al _ rfl hS ?_)); clear hS; intro bN w hbN hS) | (refine wpList_is (.box _ _) rfl ?_; go_must (refine wpList_stp rfl (stp_bx _ _ rfl hS ?_)); clear hS; intro bN w hbN hS) | (refine wpList_is (.binOp .eql _ _ (.const (.slice none _ _)) _) rfl ?_; refine wpList_stp rfl (stp_val (run_nse _ _ _ rfl) ?_)) | (refine wpList_is (.binOp .neq _ _ (.const (.slice none _ _)) _) rfl ?_; refine wpList_stp rfl (stp_val (run_nsn _ _ _ rfl) ?_)))
    simp only [hwn'.out] at hS
    refine region_new [] rfl hS _ (by kernel_rfl) (by kernel_rfl) (hpk := pickRefl) ?_
    refine fx_val (fun _ => rfl) rfl (fun χ w hw => run_fa _ _ _ rfl) ?_
    refine fx_val (fun _ => rfl) rfl (fun χ w hw => run_ld _ _ rfl hw) ?_
    refine fx_val (fun _ => rfl) rfl (fun χ w hw => run_cvn _ _ _ rfl) ?_
    refine fx_val (fun _ => rfl) rfl (fun χ w hw => run_mv _ rfl) ?_
    refine fx_val (fun _ => rfl) rfl (fun χ w hw => run_nc _ rfl) ?_
    refine fx_val (fun _ => rfl) rfl (fun χ w hw => run_fa _ _ _ rfl) ?_
    refine fx_val (fun _ => rfl) rfl (fun χ w hw => run_ld _ _ rfl hw) ?_
    refine fx_val (fun _ => rfl) rfl (fun χ w hw => run_lenv _ _ rfl) ?_
    refine fx_val (fun _ => rfl) rfl (fun χ w hw => run_remv _ _ _ _ rfl) ?_
    refine fx_val (fun _ => rfl) rfl (fun χ w hw => run_as _ rfl) ?_
    refine fx_end rfl ?_
    intro χ w hok hS
    replace hS := st_drop hS
    clear hok
    go_wp2_with (first | go_skip | (refine region_quiet hS (by kernel_rfl) (by kernel_rfl) (fun hne => ?_); (repeat (first | go_big_quiet_skip | (go_big_quiet_want; first | (refine quiet_is (.load _ _) rfl ?_; go_must (first | refine quiet_at sw_st (fun w hS => run_ld _ _ rfl hS) ?_ | refine quiet_at sw_st (fun w hS => run_lda _ _ rfl hS) ?_ | refine quiet_at sw_st (fun w hS => run_ld0 _ _ rfl hS) ?_ | refine quiet_at sw_st (fun w hS => run_lda0 _ _ rfl hS) ?_); go_big_quiet_on) | (refine quiet_is (.binOp .eql _ _ (.const (.slice none _ _)) _) rfl ?_; refine quiet_val (fun w _ => run_nse _ _ _ rfl) ?_; go_big_quiet_on) | (refine quiet_is (.binOp .neq _ _ (.const (.slice none _ _)) _) rfl ?_; refine quiet_val (fun w _ => run_nsn _ _ _ rfl) ?_; go_big_quiet_on) | (refine quiet_is (.call { callee := .builtin .len, args := #[_], argTypes := #[_] }) rfl ?_; refine quiet_val (fun w _ => run_lenv _ _ rfl) ?_; go_big_quiet_on) | (refine quiet_is (.indexAddr _ _ _) rfl ?_; refine quiet_val (fun w _ => run_idxv _ _ _ rfl) ?_; go_big_quiet_on) | (refine quiet_is (.binOp .eql _ _ _ _) rfl ?_; refine quiet_val (fun w _ => run_aeq _ _ _ _ rfl) ?_; go_big_quiet_on) | (refine quiet_is (.binOp .neq _ _ _ _) rfl ?_; refine quiet_val (fun w _ => run_ane _ _ _ _ rfl) ?_; go_big_quiet_on) | (go_big_quiet_op; go_big_quiet_on)))); refine wpQuiet_nil ?_; clear hS hne; intro w hS) | go_skip | (refine wpList_is (.call { callee := .builtin .len, args := #[_], argTypes := #[_] }) rfl ?_; refine wpList_stp rfl (stp_val (run_lenv _ _ rfl) ?_)) | (refine wpList_is (.slice _ _ none (some _) none) rfl ?_; refine wpList_stp rfl (stp_val (run_prev _ _ _ rfl) ?_)) | (refine wpList_is (.indexAddr _ _ _) rfl ?_; refine wpList_stp rfl (stp_val (run_idxv _ _ _ rfl) ?_)) | go_skip | (refine wpList_is (.build _ _) rfl ?_; go_must (refine wpList_stp rfl (stp_val (run_bd _ _ rfl) ?_))) | (refine wpList_is (.call { callee := .builtin .clear, args := #[_], argTypes := #[_] }) rfl ?_; go_must (refine wpList_stp rfl (stp_cl _ _ rfl hS (by decide) ?_)); clear hS; intro w hS) | (refine wpList_is (.load _ _) rfl ?_; go_must (first | refine wpList_stp rfl (stp_val (run_ld _ _ rfl hS) ?_) | refine wpList_stp rfl (stp_val (run_lda _ _ rfl hS) ?_) | refine wpList_stp rfl (stp_val (run_ld0 _ _ rfl hS) ?_) | refine wpList_stp rfl (stp_val (run_lda0 _ _ rfl hS) ?_))) | (refine wpList_is (.store _ _ _) rfl ?_; go_must (first | refine wpList_stp rfl (stp_st _ _ _ rfl hS ?_) | refine wpList_stp rfl (stp_sta _ _ _ rfl hS ?_)); clear hS; intro w hS) | (refine wpList_is (.alloc _) rfl ?_; go_must (refine wpList_stp rfl (stp_al _ rfl hS ?_)); clear hS; intro bN w hbN hS) | (refine wpList_is (.box _ _) rfl ?_; go_must (refine wpList_stp rfl (stp_bx _ _ rfl hS ?_)); clear hS; intro bN w hbN hS) | (refine wpList_is (.binOp .eql _ _ (.const (.slice none _ _)) _) rfl ?_; refine wpList_stp rfl (stp_val (run_nse _ _ _ rfl) ?_)) | (refine wpList_is (.binOp .neq _ _ (.const (.slice none _ _)) _) rfl ?_; refine wpList_stp rfl (stp_val (run_nsn _ _ _ rfl) ?_)))
    have hS : St w0 bs w (E1 ++ (⟨b, #[.pointer p, v1, v2, .int .i64 nw, .bool ok], 52, true⟩ :: (E2 ++ (⟨g3, blk [] j64f us sp3, 2, true⟩ :: (⟨bm, #[.int .u8 x, .int .u8 y, .int .u8 wh, .int .u8 t], 46, true⟩ :: H1))))) := hS.pick
    refine region_itemsE [⟨(undef, E1), [(16, fun _ x => DA p (some (some L)) x.2)]⟩] (⟨b, #[.pointer p, v1, v2, .int .i64 nw, .bool ok], 52, true⟩ :: (E2 ++ (⟨g3, blk [] j64f us sp3, 2, true⟩ :: (⟨bm, #[.int .u8 x, .int .u8 y, .int .u8 wh, .int .u8 t], 46, true⟩ :: H1)))) (E1 ++ (⟨b, #[.pointer p, v1, v2, .int .i64 nw, .bool ok], 52, true⟩ :: (E2 ++ (⟨g3, blk [] j64f us sp3, 2, true⟩ :: (⟨bm, #[.int .u8 x, .int .u8 y, .int .u8 wh, .int .u8 t], 46, true⟩ :: H1))))) (by simp) hS (by kernel_rfl) (by kernel_rfl) ?_
    refine fx_val (fun _ => rfl) rfl (fun χ w hw => run_mv _ rfl) ?_
    refine fx_val (fun _ => rfl) rfl (fun χ w hw => run_nc _ rfl) ?_
    refine fx_val (fun _ => rfl) rfl (fun χ w hw => run_fa _ _ _ rfl) ?_
    refine fx_val (fun _ => rfl) rfl (fun χ w hw => run_ld _ _ rfl hw) ?_
    refine fx_val (fun _ => rfl) rfl (fun χ w hw => run_mv _ rfl) ?_
    refine fx_val (fun _ => rfl) rfl (fun χ w hw => run_nc _ rfl) ?_
    refine fx_val (fun _ => rfl) rfl (fun χ w hw => run_fa _ _ _ rfl) ?_
    refine fx_val (fun _ => rfl) rfl (fun χ w hw => run_ld _ _ rfl hw) ?_
    refine fx_val (fun _ => rfl) rfl (fun χ w hw => run_mv _ rfl) ?_
    refine fx_val (fun _ => rfl) rfl (fun χ w hw => run_idxv _ _ _ rfl) ?_
    refine fx_val (fun _ => rfl) rfl (fun χ w hw => run_lda _ _ rfl hw) ?_
    refine fx_val (fun _ => rfl) rfl (fun χ w hw => run_mv _ rfl) ?_
    refine fx_val (fun _ => rfl) rfl (fun χ w hw => run_mv _ rfl) ?_
    refine fx_val (fun _ => rfl) rfl (fun χ w hw => run_nc _ rfl) ?_
    refine fx_val (fun _ => rfl) rfl (fun χ w hw => run_fa _ _ _ rfl) ?_
    refine fx_val (fun _ => rfl) rfl (fun χ w hw => run_ld _ _ rfl hw) ?_
    refine fx_turn 0 0 rfl rfl (by first | rfl | kernel_rfl) (by first | rfl | kernel_rfl) (by first | rfl | kernel_rfl) 13 [_, _, _, _] _ rfl (fun _ => rfl) (enters _ (by kernel_rfl)) (fun _ => .int .i64 7) ?_ ?_
    · intro χ X w _ hS
      exact dk_renew (show St w0 bs w (E1 ++ (X ++ _)) from hS) hT ko oi og tk nw hog _ 7 h1'.out h2'.out (fun E' w' hT' _ hS' => ⟨(undef, E'), rfl, hT', show St w0 bs w' (E' ++ (X ++ _)) from hS'.pick⟩)
    refine fx_val (fun _ => rfl) rfl (fun χ w hw => run_mv _ rfl) ?_
    refine fx_val (fun _ => rfl) rfl (fun χ w hw => run_ieq _ _ _ _ rfl) ?_
    refine fx_val (fun _ => rfl) rfl (fun χ w hw => run_as _ rfl) ?_
    refine fx_end rfl ?_
    intro χ w hok hS
    obtain ⟨hT2, _⟩ := hok _ (.head _)
    have hS : St w0 bs w (((χ 16).2 ++ []) ++ (⟨b, #[.pointer p, v1, v2, .int .i64 nw, .bool ok], 52, true⟩ :: (E2 ++ (⟨g3, blk [] j64f us sp3, 2, true⟩ :: (⟨bm, #[.int .u8 x, .int .u8 y, .int .u8 wh, .int .u8 t], 46, true⟩ :: H1))))) := hS
    rw [List.append_nil] at hS
    generalize (χ 16).2 = E4 at hS hT2
    clear hok
    go_wp2_with (first | go_skip | go_skip | (refine wpList_is (.call { callee := .builtin .len, args := #[_], argTypes := #[_] }) rfl ?_; refine wpList_stp rfl (stp_val (run_lenv _ _ rfl) ?_)) | (refine wpList_is (.slice _ _ none (some _) none) rfl ?_; refine wpList_stp rfl (stp_val (run_prev _ _ _ rfl) ?_)) | (refine wpList_is (.indexAddr _ _ _) rfl ?_; refine wpList_stp rfl (stp_val (run_idxv _ _ _ rfl) ?_)) | go_skip | (refine wpList_is (.build _ _) rfl ?_; go_must (refine wpList_stp rfl (stp_val (run_bd _ _ rfl) ?_))) | (refine wpList_is (.call { callee := .builtin .clear, args := #[_], argTypes := #[_] }) rfl ?_; go_must (refine wpList_stp rfl (stp_cl _ _ rfl hS (by decide) ?_)); clear hS; intro w hS) | (refine wpList_is (.load _ _) rfl ?_; go_must (first | refine wpList_stp rfl (stp_val (run_ld _ _ rfl hS) ?_) | refine wpList_stp rfl (stp_val (run_lda _ _ rfl hS) ?_) | refine wpList_stp rfl (stp_val (run_ld0 _ _ rfl hS) ?_) | refine wpList_stp rfl (stp_val (run_lda0 _ _ rfl hS) ?_))) | (refine wpList_is (.store _ _ _) rfl ?_; go_must (first | refine wpList_stp rfl (stp_st _ _ _ rfl hS ?_) | refine wpList_stp rfl (stp_sta _ _ _ rfl hS ?_)); clear hS; intro w hS) | (refine wpList_is (.alloc _) rfl ?_; go_must (refine wpList_stp rfl (stp_al _ rfl hS ?_)); clear hS; intro bN w hbN hS) | (refine wpList_is (.box _ _) rfl ?_; go_must (refine wpList_stp rfl (stp_bx _ _ rfl hS ?_)); clear hS; intro bN w hbN hS) | (refine wpList_is (.binOp .eql _ _ (.const (.slice none _ _)) _) rfl ?_; refine wpList_stp rfl (stp_val (run_nse _ _ _ rfl) ?_)) | (refine wpList_is (.binOp .neq _ _ (.const (.slice none _ _)) _) rfl ?_; refine wpList_stp rfl (stp_val (run_nsn _ _ _ rfl) ?_)))
    refine hR _ _ _ _ (⟨b, #[.pointer p, v1, v2, .int .i64 nw, .bool ok], 52, true⟩ :: (E4 ++ (E2 ++ [⟨g3, blk [] j64f us sp3, 2, true⟩]))) _ ⟨v1, v2, E4, E2, _, hT2, hA, hU, rfl⟩ hI' hnb.1 hnb.2 (by omega) (.inl rfl) Kin.refl ?_
    simp only [List.cons_append, List.append_assoc, List.nil_append]
    exact hS.pick
  · have d7 : (u == 0) = false := beq_eq_false_iff_ne.2 h0
    have d8 : decide (u = 0) = false := decide_eq_false h0
    by_cases hle : u ≤ nw
    · have d9 : decide (u ≤ nw) = true := decide_eq_true hle
      obtain ⟨h1, h2⟩ := hn2 h0 hle
      have h1' := Lib.hid h1
      have h2' := Lib.hid h2
      clear h1 h2 hy2 hy3 hn1 hn2 hn3
      go_enter Try.func21, Try.ntmps21
      go_wp2_with (first | go_skip | (refine wpList_is (.box 46 _) rfl ?_; go_must (refine wpList_stp rfl (stp_bx _ _ rfl hS ?_)); clear hS; intro bm w _ hS) | (refine region_tail 11 hS (by kernel_rfl) (by kernel_rfl) ?_; clear hS; intro w hS; simp only [List.take_succ_cons, List.take_zero, List.drop_succ_cons, List.drop_zero]; (repeat (first | (refine wpStill_is (.load _ _) rfl ?_; go_must (first | refine wpStill_val rfl (run_ld _ _ rfl hS) ?_ | refine wpStill_val rfl (run_lda _ _ rfl hS) ?_ | refine wpStill_val rfl (run_ld0 _ _ rfl hS) ?_ | refine wpStill_val rfl (run_lda0 _ _ rfl hS) ?_)) | still_step)); refine wpStill_nil ?_) | go_skip | (refine wpList_is (.call { callee := .builtin .len, args := #[_], argTypes := #[_] }) rfl ?_; refine wpList_stp rfl (stp_val (run_lenv _ _ rfl) ?_)) | (refine wpList_is (.slice _ _ none (some _) none) rfl ?_; refine wpList_stp rfl (stp_val (run_prev _ _ _ rfl) ?_)) | (refine wpList_is (.indexAddr _ _ _) rfl ?_; refine wpList_stp rfl (stp_val (run_idxv _ _ _ rfl) ?_)) | go_skip | (refine wpList_is (.build _ _) rfl ?_; go_must (refine wpList_stp rfl (stp_val (run_bd _ _ rfl) ?_))) | (refine wpList_is (.call { callee := .builtin .clear, args := #[_], argTypes := #[_] }) rfl ?_; go_must (refine wpList_stp rfl (stp_cl _ _ rfl hS (by decide) ?_)); clear hS; intro w hS) | (refine wpList_is (.load _ _) rfl ?_; go_must (first | refine wpList_stp rfl (stp_val (run_ld _ _ rfl hS) ?_) | refine wpList_stp rfl (stp_val (run_lda _ _ rfl hS) ?_) | refine wpList_stp rfl (stp_val (run_ld0 _ _ rfl hS) ?_) | refine wpList_stp rfl (stp_val (run_lda0 _ _ rfl hS) ?_))) | (refine wpList_is (.store _ _ _) rfl ?_; go_must (first | refine wpList_stp rfl (stp_st _ _ _ rfl hS ?_) | refine wpList_stp rfl (stp_sta _ _ _ rfl hS ?_)); clear hS; intro w hS) | (refine wpList_is (.alloc _) rfl ?_; go_must (refine wpList_stp rfl (stp_al _ rfl hS ?_)); clear hS; intro bN w hbN hS) | (refine wpList_is (.box _ _) rfl ?_; go_must (refine wpList_stp rfl (stp_bx _ _ rfl hS ?_)); clear hS; intro bN w hbN hS) | (refine wpList_is (.binOp .eql _ _ (.const (.slice none _ _)) _) rfl ?_; refine wpList_stp rfl (stp_val (run_nse _ _ _ rfl) ?_)) | (refine wpList_is (.binOp .neq _ _ (.const (.slice none _ _)) _) rfl ?_; refine wpList_stp rfl (stp_val (run_nsn _ _ _ rfl) ?_)))
      simp only [hwn'.out] at hS
      refine region_new [] rfl hS _ (by kernel_rfl) (by kernel_rfl) (hpk := pickRefl) ?_
      refine fx_val (fun _ => rfl) rfl (fun χ w hw => run_fa _ _ _ rfl) ?_
      refine fx_val (fun _ => rfl) rfl (fun χ w hw => run_ld _ _ rfl hw) ?_
      refine fx_val (fun _ => rfl) rfl (fun χ w hw => run_cvn _ _ _ rfl) ?_
      refine fx_val (fun _ => rfl) rfl (fun χ w hw => run_mv _ rfl) ?_
      refine fx_val (fun _ => rfl) rfl (fun χ w hw => run_nc _ rfl) ?_
      refine fx_val (fun _ => rfl) rfl (fun χ w hw => run_fa _ _ _ rfl) ?_
      refine fx_val (fun _ => rfl) rfl (fun χ w hw => run_ld _ _ rfl hw) ?_
      refine fx_val (fun _ => rfl) rfl (fun χ w hw => run_lenv _ _ rfl) ?_
      refine fx_val (fun _ => rfl) rfl (fun χ w hw => run_remv _ _ _ _ rfl) ?_
      refine fx_val (fun _ => rfl) rfl (fun χ w hw => run_as _ rfl) ?_
      refine fx_end rfl ?_
      intro χ w hok hS
      replace hS := st_drop hS
      clear hok
      go_wp2_with (first | go_skip | (refine region_quiet hS (by kernel_rfl) (by kernel_rfl) (fun hne => ?_); (repeat (first | go_big_quiet_skip | (go_big_quiet_want; first | (refine quiet_is (.load _ _) rfl ?_; go_must (first | refine quiet_at sw_st (fun w hS => run_ld _ _ rfl hS) ?_ | refine quiet_at sw_st (fun w hS => run_lda _ _ rfl hS) ?_ | refine quiet_at sw_st (fun w hS => run_ld0 _ _ rfl hS) ?_ | refine quiet_at sw_st (fun w hS => run_lda0 _ _ rfl hS) ?_); go_big_quiet_on) | (refine quiet_is (.binOp .eql _ _ (.const (.slice none _ _)) _) rfl ?_; refine quiet_val (fun w _ => run_nse _ _ _ rfl) ?_; go_big_quiet_on) | (refine quiet_is (.binOp .neq _ _ (.const (.slice none _ _)) _) rfl ?_; refine quiet_val (fun w _ => run_nsn _ _ _ rfl) ?_; go_big_quiet_on) | (refine quiet_is (.call { callee := .builtin .len, args := #[_], argTypes := #[_] }) rfl ?_; refine quiet_val (fun w _ => run_lenv _ _ rfl) ?_; go_big_quiet_on) | (refine quiet_is (.indexAddr _ _ _) rfl ?_; refine quiet_val (fun w _ => run_idxv _ _ _ rfl) ?_; go_big_quiet_on) | (refine quiet_is (.binOp .eql _ _ _ _) rfl ?_; refine quiet_val (fun w _ => run_aeq _ _ _ _ rfl) ?_; go_big_quiet_on) | (refine quiet_is (.binOp .neq _ _ _ _) rfl ?_; refine quiet_val (fun w _ => run_ane _ _ _ _ rfl) ?_; go_big_quiet_on) | (go_big_quiet_op; go_big_quiet_on)))); refine wpQuiet_nil ?_; clear hS hne; intro w hS) | go_skip | (refine wpList_is (.call { callee := .builtin .len, args := #[_], argTypes := #[_] }) rfl ?_; refine wpList_stp rfl (stp_val (run_lenv _ _ rfl) ?_)) | (refine wpList_is (.slice _ _ none (some _) none) rfl ?_; refine wpList_stp rfl (stp_val (run_prev _ _ _ rfl) ?_)) | (refine wpList_is (.indexAddr _ _ _) rfl ?_; refine wpList_stp rfl (stp_val (run_idxv _ _ _ rfl) ?_)) | go_skip | (refine wpList_is (.build _ _) rfl ?_; go_must (refine wpList_stp rfl (stp_val (run_bd _ _ rfl) ?_))) | (refine wpList_is (.call { callee := .builtin .clear, args := #[_], argTypes := #[_] }) rfl ?_; go_must (refine wpList_stp rfl (stp_cl _ _ rfl hS (by decide) ?_)); clear hS; intro w hS) | (refine wpList_is (.load _ _) rfl ?_; go_must (first | refine wpList_stp rfl (stp_val (run_ld _ _ rfl hS) ?_) | refine wpList_stp rfl (stp_val (run_lda _ _ rfl hS) ?_) | refine wpList_stp rfl (stp_val (run_ld0 _ _ rfl hS) ?_) | refine wpList_stp rfl (stp_val (run_lda0 _ _ rfl hS) ?_))) | (refine wpList_is (.store _ _ _) rfl ?_; go_must (first | refine wpList_stp rfl (stp_st _ _ _ rfl hS ?_) | refine wpList_stp rfl (stp_sta _ _ _ rfl hS ?_)); clear hS; intro w hS) | (refine wpList_is (.alloc _) rfl ?_; go_must (refine wpList_stp rfl (stp_al _ rfl hS ?_)); clear hS; intro bN w hbN hS) | (refine wpList_is (.box _ _) rfl ?_; go_must (refine wpList_stp rfl (stp_bx _ _ rfl hS ?_)); clear hS; intro bN w hbN hS) | (refine wpList_is (.binOp .eql _ _ (.const (.slice none _ _)) _) rfl ?_; refine wpList_stp rfl (stp_val (run_nse _ _ _ rfl) ?_)) | (refine wpList_is (.binOp .neq _ _ (.const (.slice none _ _)) _) rfl ?_; refine wpList_stp rfl (stp_val (run_nsn _ _ _ rfl) ?_)))
      have hS : St w0 bs w (E1 ++ (⟨b, #[.pointer p, v1, v2, .int .i64 nw, .bool ok], 52, true⟩ :: (E2 ++ (⟨g3, blk [] j64f us sp3, 2, true⟩ :: (⟨bm, #[.int .u8 x, .int .u8 y, .int .u8 wh, .int .u8 t], 46, true⟩ :: H1))))) := hS.pick
      refine region_itemsE [⟨(undef, E1), [(16, fun _ x => DA p (some (some L)) x.2)]⟩] (⟨b, #[.pointer p, v1, v2, .int .i64 nw, .bool ok], 52, true⟩ :: (E2 ++ (⟨g3, blk [] j64f us sp3, 2, true⟩ :: (⟨bm, #[.int .u8 x, .int .u8 y, .int .u8 wh, .int .u8 t], 46, true⟩ :: H1)))) (E1 ++ (⟨b, #[.pointer p, v1, v2, .int .i64 nw, .bool ok], 52, true⟩ :: (E2 ++ (⟨g3, blk [] j64f us sp3, 2, true⟩ :: (⟨bm, #[.int .u8 x, .int .u8 y, .int .u8 wh, .int .u8 t], 46, true⟩ :: H1))))) (by simp) hS (by kernel_rfl) (by kernel_rfl) ?_
      refine fx_val (fun _ => rfl) rfl (fun χ w hw => run_mv _ rfl) ?_
      refine fx_val (fun _ => rfl) rfl (fun χ w hw => run_nc _ rfl) ?_
      refine fx_val (fun _ => rfl) rfl (fun χ w hw => run_fa _ _ _ rfl) ?_
      refine fx_val (fun _ => rfl) rfl (fun χ w hw => run_ld _ _ rfl hw) ?_
      refine fx_val (fun _ => rfl) rfl (fun χ w hw => run_mv _ rfl) ?_
      refine fx_val (fun _ => rfl) rfl (fun χ w hw => run_nc _ rfl) ?_
      refine fx_val (fun _ => rfl) rfl (fun χ w hw => run_fa _ _ _ rfl) ?_
      refine fx_val (fun _ => rfl) rfl (fun χ w hw => run_ld _ _ rfl hw) ?_
      refine fx_val (fun _ => rfl) rfl (fun χ w hw => run_mv _ rfl) ?_
      refine fx_val (fun _ => rfl) rfl (fun χ w hw => run_idxv _ _ _ rfl) ?_
      refine fx_val (fun _ => rfl) rfl (fun χ w hw => run_lda _ _ rfl hw) ?_
      refine fx_val (fun _ => rfl) rfl (fun χ w hw => run_mv _ rfl) ?_
      refine fx_val (fun _ => rfl) rfl (fun χ w hw => run_mv _ rfl) ?_
      refine fx_val (fun _ => rfl) rfl (fun χ w hw => run_nc _ rfl) ?_
      refine fx_val (fun _ => rfl) rfl (fun χ w hw => run_fa _ _ _ rfl) ?_
      refine fx_val (fun _ => rfl) rfl (fun χ w hw => run_ld _ _ rfl hw) ?_
      refine fx_turn 0 0 rfl rfl (by first | rfl | kernel_rfl) (by first | rfl | kernel_rfl) (by first | rfl | kernel_rfl) 13 [_, _, _, _] _ rfl (fun _ => rfl) (enters _ (by kernel_rfl)) (fun _ => .int .i64 8) ?_ ?_
      · intro χ X w _ hS
        exact dk_renew (show St w0 bs w (E1 ++ (X ++ _)) from hS) hT ko oi og tk nw hog _ 8 h1'.out h2'.out (fun E' w' hT' _ hS' => ⟨(undef, E'), rfl, hT', show St w0 bs w' (E' ++ (X ++ _)) from hS'.pick⟩)
      refine fx_val (fun _ => rfl) rfl (fun χ w hw => run_mv _ rfl) ?_
      refine fx_val (fun _ => rfl) rfl (fun χ w hw => run_ieq _ _ _ _ rfl) ?_
      refine fx_val (fun _ => rfl) rfl (fun χ w hw => run_as _ rfl) ?_
      refine fx_end rfl ?_
      intro χ w hok hS
      obtain ⟨hT2, _⟩ := hok _ (.head _)
      have hS : St w0 bs w (((χ 16).2 ++ []) ++ (⟨b, #[.pointer p, v1, v2, .int .i64 nw, .bool ok], 52, true⟩ :: (E2 ++ (⟨g3, blk [] j64f us sp3, 2, true⟩ :: (⟨bm, #[.int .u8 x, .int .u8 y, .int .u8 wh, .int .u8 t], 46, true⟩ :: H1))))) := hS
      rw [List.append_nil] at hS
      generalize (χ 16).2 = E4 at hS hT2
      clear hok
      go_wp2_with (first | go_skip | go_skip | (refine wpList_is (.call { callee := .builtin .len, args := #[_], argTypes := #[_] }) rfl ?_; refine wpList_stp rfl (stp_val (run_lenv _ _ rfl) ?_)) | (refine wpList_is (.slice _ _ none (some _) none) rfl ?_; refine wpList_stp rfl (stp_val (run_prev _ _ _ rfl) ?_)) | (refine wpList_is (.indexAddr _ _ _) rfl ?_; refine wpList_stp rfl (stp_val (run_idxv _ _ _ rfl) ?_)) | go_skip | (refine wpList_is (.build _ _) rfl ?_; go_must (refine wpList_stp rfl (stp_val (run_bd _ _ rfl) ?_))) | (refine wpList_is (.call { callee := .builtin .clear, args := #[_], argTypes := #[_] }) rfl ?_; go_must (refine wpList_stp rfl (stp_cl _ _ rfl hS (by decide) ?_)); clear hS; intro w hS) | (refine wpList_is (.load _ _) rfl ?_; go_must (first | refine wpList_stp rfl (stp_val (run_ld _ _ rfl hS) ?_) | refine wpList_stp rfl (stp_val (run_lda _ _ rfl hS) ?_) | refine wpList_stp rfl (stp_val (run_ld0 _ _ rfl hS) ?_) | refine wpList_stp rfl (stp_val (run_lda0 _ _ rfl hS) ?_))) | (refine wpList_is (.store _ _ _) rfl ?_; go_must (first | refine wpList_stp rfl (stp_st _ _ _ rfl hS ?_) | refine wpList_stp rfl (stp_sta _ _ _ rfl hS ?_)); clear hS; intro w hS) | (refine wpList_is (.alloc _) rfl ?_; go_must (refine wpList_stp rfl (stp_al _ rfl hS ?_)); clear hS; intro bN w hbN hS) | (refine wpList_is (.box _ _) rfl ?_; go_must (refine wpList_stp rfl (stp_bx _ _ rfl hS ?_)); clear hS; intro bN w hbN hS) | (refine wpList_is (.binOp .eql _ _ (.const (.slice none _ _)) _) rfl ?_; refine wpList_stp rfl (stp_val (run_nse _ _ _ rfl) ?_)) | (refine wpList_is (.binOp .neq _ _ (.const (.slice none _ _)) _) rfl ?_; refine wpList_stp rfl (stp_val (run_nsn _ _ _ rfl) ?_)))
      refine hR _ _ _ _ (⟨b, #[.pointer p, v1, v2, .int .i64 nw, .bool ok], 52, true⟩ :: (E4 ++ (E2 ++ [⟨g3, blk [] j64f us sp3, 2, true⟩]))) _ ⟨v1, v2, E4, E2, _, hT2, hA, hU, rfl⟩ hI' hnb.1 hnb.2 (by omega) (.inl rfl) Kin.refl ?_
      simp only [List.cons_append, List.append_assoc, List.nil_append]
      exact hS.pick
    · have d9 : decide (u ≤ nw) = false := decide_eq_false hle
      obtain ⟨L', h1, h2, hIn, hLl⟩ := hn3 h0 hle
      have hLl' := Lib.hid hLl
      clear hLl
      have h1' := Lib.hid h1
      have h2' := Lib.hid h2
      have hIn' := Lib.hid hIn
      have hst := hset3 (nw + tk)
      have hsum : SumIs nw tk (nw + tk) := ⟨rfl, by omega, by omega⟩
      clear h1 h2 hy2 hy3 hn1 hn2 hn3 hIn
      go_enter Try.func21, Try.ntmps21
      go_wp2_with (first | go_skip | (refine wpList_is (.box 46 _) rfl ?_; go_must (refine wpList_stp rfl (stp_bx _ _ rfl hS ?_)); clear hS; intro bm w _ hS) | (refine region_tail 11 hS (by kernel_rfl) (by kernel_rfl) ?_; clear hS; intro w hS; simp only [List.take_succ_cons, List.take_zero, List.drop_succ_cons, List.drop_zero]; (repeat (first | (refine wpStill_is (.load _ _) rfl ?_; go_must (first | refine wpStill_val rfl (run_ld _ _ rfl hS) ?_ | refine wpStill_val rfl (run_lda _ _ rfl hS) ?_ | refine wpStill_val rfl (run_ld0 _ _ rfl hS) ?_ | refine wpStill_val rfl (run_lda0 _ _ rfl hS) ?_)) | still_step)); refine wpStill_nil ?_) | go_skip | (refine wpList_is (.call { callee := .builtin .len, args := #[_], argTypes := #[_] }) rfl ?_; refine wpList_stp rfl (stp_val (run_lenv _ _ rfl) ?_)) | (refine wpList_is (.slice _ _ none (some _) none) rfl ?_; refine wpList_stp rfl (stp_val (run_prev _ _ _ rfl) ?_)) | (refine wpList_is (.indexAddr _ _ _) rfl ?_; refine wpList_stp rfl (stp_val (run_idxv _ _ _ rfl) ?_)) | go_skip | (refine wpList_is (.build _ _) rfl ?_; go_must (refine wpList_stp rfl (stp_val (run_bd _ _ rfl) ?_))) | (refine wpList_is (.call { callee := .builtin .clear, args := #[_], argTypes := #[_] }) rfl ?_; go_must (refine wpList_stp rfl (stp_cl _ _ rfl hS (by decide) ?_)); clear hS; intro w hS) | (refine wpList_is (.load _ _) rfl ?_; go_must (first | refine wpList_stp rfl (stp_val (run_ld _ _ rfl hS) ?_) | refine wpList_stp rfl (stp_val (run_lda _ _ rfl hS) ?_) | refine wpList_stp rfl (stp_val (run_ld0 _ _ rfl hS) ?_) | refine wpList_stp rfl (stp_val (run_lda0 _ _ rfl hS) ?_))) | (refine wpList_is (.store _ _ _) rfl ?_; go_must (first | refine wpList_stp rfl (stp_st _ _ _ rfl hS ?_) | refine wpList_stp rfl (stp_sta _ _ _ rfl hS ?_)); clear hS; intro w hS) | (refine wpList_is (.alloc _) rfl ?_; go_must (refine wpList_stp rfl (stp_al _ rfl hS ?_)); clear hS; intro bN w hbN hS) | (refine wpList_is (.box _ _) rfl ?_; go_must (refine wpList_stp rfl (stp_bx _ _ rfl hS ?_)); clear hS; intro bN w hbN hS) | (refine wpList_is (.binOp .eql _ _ (.const (.slice none _ _)) _) rfl ?_; refine wpList_stp rfl (stp_val (run_nse _ _ _ rfl) ?_)) | (refine wpList_is (.binOp .neq _ _ (.const (.slice none _ _)) _) rfl ?_; refine wpList_stp rfl (stp_val (run_nsn _ _ _ rfl) ?_)))
      simp only [hwn'.out] at hS
      refine region_new [] rfl hS _ (by kernel_rfl) (by kernel_rfl) (hpk := pickRefl) ?_
      refine fx_val (fun _ => rfl) rfl (fun χ w hw => run_fa _ _ _ rfl) ?_
      refine fx_val (fun _ => rfl) rfl (fun χ w hw => run_ld _ _ rfl hw) ?_
      refine fx_val (fun _ => rfl) rfl (fun χ w hw => run_cvn _ _ _ rfl) ?_
      refine fx_val (fun _ => rfl) rfl (fun χ w hw => run_mv _ rfl) ?_
      refine fx_val (fun _ => rfl) rfl (fun χ w hw => run_nc _ rfl) ?_
      refine fx_val (fun _ => rfl) rfl (fun χ w hw => run_fa _ _ _ rfl) ?_
      refine fx_val (fun _ => rfl) rfl (fun χ w hw => run_ld _ _ rfl hw) ?_
      refine fx_val (fun _ => rfl) rfl (fun χ w hw => run_lenv _ _ rfl) ?_
      refine fx_val (fun _ => rfl) rfl (fun χ w hw => run_remv _ _ _ _ rfl) ?_
      refine fx_val (fun _ => rfl) rfl (fun χ w hw => run_as _ rfl) ?_
      refine fx_end rfl ?_
      intro χ w hok hS
      replace hS := st_drop hS
      clear hok
      go_wp2_with (first | go_skip | (refine region_quiet hS (by kernel_rfl) (by kernel_rfl) (fun hne => ?_); (repeat (first | go_big_quiet_skip | (go_big_quiet_want; first | (refine quiet_is (.load _ _) rfl ?_; go_must (first | refine quiet_at sw_st (fun w hS => run_ld _ _ rfl hS) ?_ | refine quiet_at sw_st (fun w hS => run_lda _ _ rfl hS) ?_ | refine quiet_at sw_st (fun w hS => run_ld0 _ _ rfl hS) ?_ | refine quiet_at sw_st (fun w hS => run_lda0 _ _ rfl hS) ?_); go_big_quiet_on) | (refine quiet_is (.binOp .eql _ _ (.const (.slice none _ _)) _) rfl ?_; refine quiet_val (fun w _ => run_nse _ _ _ rfl) ?_; go_big_quiet_on) | (refine quiet_is (.binOp .neq _ _ (.const (.slice none _ _)) _) rfl ?_; refine quiet_val (fun w _ => run_nsn _ _ _ rfl) ?_; go_big_quiet_on) | (refine quiet_is (.call { callee := .builtin .len, args := #[_], argTypes := #[_] }) rfl ?_; refine quiet_val (fun w _ => run_lenv _ _ rfl) ?_; go_big_quiet_on) | (refine quiet_is (.indexAddr _ _ _) rfl ?_; refine quiet_val (fun w _ => run_idxv _ _ _ rfl) ?_; go_big_quiet_on) | (refine quiet_is (.binOp .eql _ _ _ _) rfl ?_; refine quiet_val (fun w _ => run_aeq _ _ _ _ rfl) ?_; go_big_quiet_on) | (refine quiet_is (.binOp .neq _ _ _ _) rfl ?_; refine quiet_val (fun w _ => run_ane _ _ _ _ rfl) ?_; go_big_quiet_on) | (go_big_quiet_op; go_big_quiet_on)))); refine wpQuiet_nil ?_; clear hS hne; intro w hS) | go_skip | (refine wpList_is (.call { callee := .builtin .len, args := #[_], argTypes := #[_] }) rfl ?_; refine wpList_stp rfl (stp_val (run_lenv _ _ rfl) ?_)) | (refine wpList_is (.slice _ _ none (some _) none) rfl ?_; refine wpList_stp rfl (stp_val (run_prev _ _ _ rfl) ?_)) | (refine wpList_is (.indexAddr _ _ _) rfl ?_; refine wpList_stp rfl (stp_val (run_idxv _ _ _ rfl) ?_)) | go_skip | (refine wpList_is (.build _ _) rfl ?_; go_must (refine wpList_stp rfl (stp_val (run_bd _ _ rfl) ?_))) | (refine wpList_is (.call { callee := .builtin .clear, args := #[_], argTypes := #[_] }) rfl ?_; go_must (refine wpList_stp rfl (stp_cl _ _ rfl hS (by decide) ?_)); clear hS; intro w hS) | (refine wpList_is (.load _ _) rfl ?_; go_must (first | refine wpList_stp rfl (stp_val (run_ld _ _ rfl hS) ?_) | refine wpList_stp rfl (stp_val (run_lda _ _ rfl hS) ?_) | refine wpList_stp rfl (stp_val (run_ld0 _ _ rfl hS) ?_) | refine wpList_stp rfl (stp_val (run_lda0 _ _ rfl hS) ?_))) | (refine wpList_is (.store _ _ _) rfl ?_; go_must (first | refine wpList_stp rfl (stp_st _ _ _ rfl hS ?_) | refine wpList_stp rfl (stp_sta _ _ _ rfl hS ?_)); clear hS; intro w hS) | (refine wpList_is (.alloc _) rfl ?_; go_must (refine wpList_stp rfl (stp_al _ rfl hS ?_)); clear hS; intro bN w hbN hS) | (refine wpList_is (.box _ _) rfl ?_; go_must (refine wpList_stp rfl (stp_bx _ _ rfl hS ?_)); clear hS; intro bN w hbN hS) | (refine wpList_is (.binOp .eql _ _ (.const (.slice none _ _)) _) rfl ?_; refine wpList_stp rfl (stp_val (run_nse _ _ _ rfl) ?_)) | (refine wpList_is (.binOp .neq _ _ (.const (.slice none _ _)) _) rfl ?_; refine wpList_stp rfl (stp_val (run_nsn _ _ _ rfl) ?_)))
      refine region_itemsE [⟨(undef, [⟨g3, blk [] j64f us sp3, 2, true⟩]), [(12, fun _ x => x.2 = [⟨g3, blk [] j64f (us.set k (nw + tk)) sp3, 2, true⟩])]⟩] (⟨b, #[.pointer p, v1, v2, .int .i64 nw, .bool ok], 52, true⟩ :: (E1 ++ (E2 ++ (⟨bm, #[.int .u8 x, .int .u8 y, .int .u8 wh, .int .u8 t], 46, true⟩ :: H1)))) (⟨g3, blk [] j64f us sp3, 2, true⟩ :: (⟨b, #[.pointer p, v1, v2, .int .i64 nw, .bool ok], 52, true⟩ :: (E1 ++ (E2 ++ (⟨bm, #[.int .u8 x, .int .u8 y, .int .u8 wh, .int .u8 t], 46, true⟩ :: H1))))) (by simp) hS.pick (by kernel_rfl) (by kernel_rfl) ?_
      refine fx_val (fun _ => rfl) rfl (fun χ w hw => run_mv _ rfl) ?_
      refine fx_val (fun _ => rfl) rfl (fun χ w hw => run_nc _ rfl) ?_
      refine fx_val (fun _ => rfl) rfl (fun χ w hw => run_fa _ _ _ rfl) ?_
      refine fx_val (fun _ => rfl) rfl (fun χ w hw => run_ld _ _ rfl hw) ?_
      refine fx_val (fun _ => rfl) rfl (fun χ w hw => run_mv _ rfl) ?_
      refine fx_val (fun _ => rfl) rfl (fun χ w hw => run_mv _ rfl) ?_
      refine fx_val (fun _ => rfl) rfl (fun χ w hw => run_nc _ rfl) ?_
      refine fx_val (fun _ => rfl) rfl (fun χ w hw => run_fa _ _ _ rfl) ?_
      refine fx_val (fun _ => rfl) rfl (fun χ w hw => run_ld _ _ rfl hw) ?_
      refine fx_val (fun _ => rfl) rfl (fun χ w hw => run_mv _ rfl) ?_
      refine fx_val (fun _ => rfl) rfl (fun χ w hw => run_sumv _ _ _ _ rfl) ?_
      refine fx_val (fun _ => rfl) rfl (fun χ w hw => run_idxv _ _ _ rfl) ?_
      refine fx_turn0 0 0 rfl rfl (by first | rfl | kernel_rfl) (by first | rfl | kernel_rfl) (by first | rfl | kernel_rfl) (fun _ => rfl) (fun _ => undef) ?_ ?_
      · intro χ X w _ hS
        exact stepX_st _ _ _ rfl (show St w0 bs w (⟨g3, blk [] j64f us sp3, 2, true⟩ :: (X ++ _)) from hS) (fun w' hS' => ⟨(undef, [⟨g3, blk [] j64f (us.set k (nw + tk)) sp3, 2, true⟩]), rfl, rfl, hS'⟩)
      refine fx_end rfl ?_
      intro χ w hok hS
      obtain ⟨hD, _⟩ := hok _ (.head _)
      have hS : St w0 bs w (((χ 12).2 ++ []) ++ (⟨b, #[.pointer p, v1, v2, .int .i64 nw, .bool ok], 52, true⟩ :: (E1 ++ (E2 ++ (⟨bm, #[.int .u8 x, .int .u8 y, .int .u8 wh, .int .u8 t], 46, true⟩ :: H1))))) := hS
      have hD : (χ 12).2 = [⟨g3, blk [] j64f (us.set k (nw + tk)) sp3, 2, true⟩] := hD
      rw [hD] at hS
      simp only [List.cons_append, List.nil_append, List.append_nil] at hS
      clear hok hD
      go_wp2_with (first | go_skip | go_skip | (refine wpList_is (.call { callee := .builtin .len, args := #[_], argTypes := #[_] }) rfl ?_; refine wpList_stp rfl (stp_val (run_lenv _ _ rfl) ?_)) | (refine wpList_is (.slice _ _ none (some _) none) rfl ?_; refine wpList_stp rfl (stp_val (run_prev _ _ _ rfl) ?_)) | (refine wpList_is (.indexAddr _ _ _) rfl ?_; refine wpList_stp rfl (stp_val (run_idxv _ _ _ rfl) ?_)) | go_skip | (refine wpList_is (.build _ _) rfl ?_; go_must (refine wpList_stp rfl (stp_val (run_bd _ _ rfl) ?_))) | (refine wpList_is (.call { callee := .builtin .clear, args := #[_], argTypes := #[_] }) rfl ?_; go_must (refine wpList_stp rfl (stp_cl _ _ rfl hS (by decide) ?_)); clear hS; intro w hS) | (refine wpList_is (.load _ _) rfl ?_; go_must (first | refine wpList_stp rfl (stp_val (run_ld _ _ rfl hS) ?_) | refine wpList_stp rfl (stp_val (run_lda _ _ rfl hS) ?_) | refine wpList_stp rfl (stp_val (run_ld0 _ _ rfl hS) ?_) | refine wpList_stp rfl (stp_val (run_lda0 _ _ rfl hS) ?_))) | (refine wpList_is (.store _ _ _) rfl ?_; go_must (first | refine wpList_stp rfl (stp_st _ _ _ rfl hS ?_) | refine wpList_stp rfl (stp_sta _ _ _ rfl hS ?_)); clear hS; intro w hS) | (refine wpList_is (.alloc _) rfl ?_; go_must (refine wpList_stp rfl (stp_al _ rfl hS ?_)); clear hS; intro bN w hbN hS) | (refine wpList_is (.box _ _) rfl ?_; go_must (refine wpList_stp rfl (stp_bx _ _ rfl hS ?_)); clear hS; intro bN w hbN hS) | (refine wpList_is (.binOp .eql _ _ (.const (.slice none _ _)) _) rfl ?_; refine wpList_stp rfl (stp_val (run_nse _ _ _ rfl) ?_)) | (refine wpList_is (.binOp .neq _ _ (.const (.slice none _ _)) _) rfl ?_; refine wpList_stp rfl (stp_val (run_nsn _ _ _ rfl) ?_)))
      have hS : St w0 bs w (E1 ++ (⟨b, #[.pointer p, v1, v2, .int .i64 nw, .bool ok], 52, true⟩ :: (E2 ++ (⟨g3, blk [] j64f (us.set k (nw + tk)) sp3, 2, true⟩ :: (⟨bm, #[.int .u8 x, .int .u8 y, .int .u8 wh, .int .u8 t], 46, true⟩ :: H1))))) := hS.pick
      refine region_itemsE [⟨(undef, E1), [(16, fun _ x => DA p (some (some L')) x.2)]⟩] (⟨b, #[.pointer p, v1, v2, .int .i64 nw, .bool ok], 52, true⟩ :: (E2 ++ (⟨g3, blk [] j64f (us.set k (nw + tk)) sp3, 2, true⟩ :: (⟨bm, #[.int .u8 x, .int .u8 y, .int .u8 wh, .int .u8 t], 46, true⟩ :: H1)))) (E1 ++ (⟨b, #[.pointer p, v1, v2, .int .i64 nw, .bool ok], 52, true⟩ :: (E2 ++ (⟨g3, blk [] j64f (us.set k (nw + tk)) sp3, 2, true⟩ :: (⟨bm, #[.int .u8 x, .int .u8 y, .int .u8 wh, .int .u8 t], 46, true⟩ :: H1))))) (by simp) hS (by kernel_rfl) (by kernel_rfl) ?_
      refine fx_val (fun _ => rfl) rfl (fun χ w hw => run_mv _ rfl) ?_
      refine fx_val (fun _ => rfl) rfl (fun χ w hw => run_nc _ rfl) ?_
      refine fx_val (fun _ => rfl) rfl (fun χ w hw => run_fa _ _ _ rfl) ?_
      refine fx_val (fun _ => rfl) rfl (fun χ w hw => run_ld _ _ rfl hw) ?_
      refine fx_val (fun _ => rfl) rfl (fun χ w hw => run_mv _ rfl) ?_
      refine fx_val (fun _ => rfl) rfl (fun χ w hw => run_nc _ rfl) ?_
      refine fx_val (fun _ => rfl) rfl (fun χ w hw => run_fa _ _ _ rfl) ?_
      refine fx_val (fun _ => rfl) rfl (fun χ w hw => run_ld _ _ rfl hw) ?_
      refine fx_val (fun _ => rfl) rfl (fun χ w hw => run_mv _ rfl) ?_
      refine fx_val (fun _ => rfl) rfl (fun χ w hw => run_idxv _ _ _ rfl) ?_
      refine fx_val (fun _ => rfl) rfl (fun χ w hw => run_lda _ _ rfl hw) ?_
      refine fx_val (fun _ => rfl) rfl (fun χ w hw => run_mv _ rfl) ?_
      refine fx_val (fun _ => rfl) rfl (fun χ w hw => run_mv _ rfl) ?_
      refine fx_val (fun _ => rfl) rfl (fun χ w hw => run_nc _ rfl) ?_
      refine fx_val (fun _ => rfl) rfl (fun χ w hw => run_fa _ _ _ rfl) ?_
      refine fx_val (fun _ => rfl) rfl (fun χ w hw => run_ld _ _ rfl hw) ?_
      refine fx_turn 0 0 rfl rfl (by first | rfl | kernel_rfl) (by first | rfl | kernel_rfl) (by first | rfl | kernel_rfl) 13 [_, _, _, _] _ rfl (fun _ => rfl) (enters _ (by kernel_rfl)) (fun _ => .int .i64 0) ?_ ?_
      · intro χ X w _ hS
        exact dk_renew (show St w0 bs w (E1 ++ (X ++ _)) from hS) hT ko oi og tk nw hog _ 0 h1'.out h2'.out (fun E' w' hT' _ hS' => ⟨(undef, E'), rfl, hT', show St w0 bs w' (E' ++ (X ++ _)) from hS'.pick⟩)
      refine fx_val (fun _ => rfl) rfl (fun χ w hw => run_mv _ rfl) ?_
      refine fx_val (fun _ => rfl) rfl (fun χ w hw => run_ieq _ _ _ _ rfl) ?_
      refine fx_val (fun _ => rfl) rfl (fun χ w hw => run_as _ rfl) ?_
      refine fx_end rfl ?_
      intro χ w hok hS
      obtain ⟨hT2, _⟩ := hok _ (.head _)
      have hS : St w0 bs w (((χ 16).2 ++ []) ++ (⟨b, #[.pointer p, v1, v2, .int .i64 nw, .bool ok], 52, true⟩ :: (E2 ++ (⟨g3, blk [] j64f (us.set k (nw + tk)) sp3, 2, true⟩ :: (⟨bm, #[.int .u8 x, .int .u8 y, .int .u8 wh, .int .u8 t], 46, true⟩ :: H1))))) := hS
      rw [List.append_nil] at hS
      generalize (χ 16).2 = E4 at hS hT2
      clear hok
      go_wp2_with (first | go_skip | go_skip | (refine wpList_is (.call { callee := .builtin .len, args := #[_], argTypes := #[_] }) rfl ?_; refine wpList_stp rfl (stp_val (run_lenv _ _ rfl) ?_)) | (refine wpList_is (.slice _ _ none (some _) none) rfl ?_; refine wpList_stp rfl (stp_val (run_prev _ _ _ rfl) ?_)) | (refine wpList_is (.indexAddr _ _ _) rfl ?_; refine wpList_stp rfl (stp_val (run_idxv _ _ _ rfl) ?_)) | go_skip | (refine wpList_is (.build _ _) rfl ?_; go_must (refine wpList_stp rfl (stp_val (run_bd _ _ rfl) ?_))) | (refine wpList_is (.call { callee := .builtin .clear, args := #[_], argTypes := #[_] }) rfl ?_; go_must (refine wpList_stp rfl (stp_cl _ _ rfl hS (by decide) ?_)); clear hS; intro w hS) | (refine wpList_is (.load _ _) rfl ?_; go_must (first | refine wpList_stp rfl (stp_val (run_ld _ _ rfl hS) ?_) | refine wpList_stp rfl (stp_val (run_lda _ _ rfl hS) ?_) | refine wpList_stp rfl (stp_val (run_ld0 _ _ rfl hS) ?_) | refine wpList_stp rfl (stp_val (run_lda0 _ _ rfl hS) ?_))) | (refine wpList_is (.store _ _ _) rfl ?_; go_must (first | refine wpList_stp rfl (stp_st _ _ _ rfl hS ?_) | refine wpList_stp rfl (stp_sta _ _ _ rfl hS ?_)); clear hS; intro w hS) | (refine wpList_is (.alloc _) rfl ?_; go_must (refine wpList_stp rfl (stp_al _ rfl hS ?_)); clear hS; intro bN w hbN hS) | (refine wpList_is (.box _ _) rfl ?_; go_must (refine wpList_stp rfl (stp_bx _ _ rfl hS ?_)); clear hS; intro bN w hbN hS) | (refine wpList_is (.binOp .eql _ _ (.const (.slice none _ _)) _) rfl ?_; refine wpList_stp rfl (stp_val (run_nse _ _ _ rfl) ?_)) | (refine wpList_is (.binOp .neq _ _ (.const (.slice none _ _)) _) rfl ?_; refine wpList_stp rfl (stp_val (run_nsn _ _ _ rfl) ?_)))
      refine hR _ _ _ _ (⟨b, #[.pointer p, v1, v2, .int .i64 nw, .bool ok], 52, true⟩ :: (E4 ++ (E2 ++ [⟨g3, blk [] j64f (us.set k (nw + tk)) sp3, 2, true⟩]))) _ ⟨v1, v2, E4, E2, _, hT2, hA, hus3 _, rfl⟩ hIn'.out hnb.1 hnb.2 (by omega) (.inr (.inr ⟨k, _, rfl⟩)) hLl'.out ?_
      simp only [List.cons_append, List.append_assoc, List.nil_append]
      exact hS.pick
end Go.Proofs.Ytbjcjbkgjnojmaa
