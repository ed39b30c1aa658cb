/-
  The document's arenas: roots, sizes, lists.
-/
import Derived.Test.YtjlihigodggfcaaGreatRar
set_option linter.unusedSimpArgs false
set_option linter.unusedVariables false
namespace Go.Proofs.YtjlihigodggfcaaGreat
open Go Go.RowKit Go.Mm
variable {R : Ending → World → Prop} {w : World} {w0 : World} {bs : List Nat} {H H' H1 H2 E Z : List Ent}
set_option maxRecDepth 100000 in
theorem rr_full {p : Option Addr} {T : Ar} (hO : St w0 bs w H) (hT : AR p T E Z) [hc : Cut H E H1] [hz : Cut H1 Z H2] (m : Int) (hm : inM T m = true) (x : Bool) (hx : decide (32 ≤ (rtL T m).length) = x) (hR : ∀ w', St w0 bs w' (E ++ (Z ++ H2)) → Ret R (.bool x) w') : Calls Tryz.prog 77 #[.pointer p, .int .i64 m] w R := by
  have hS := hO.front (E := E) (H1 := H1)
  have hS : St w0 bs w (E ++ (Z ++ H2)) := hS.pick
  clear hO
  obtain ⟨L, ks, G⟩ := T
  obtain ⟨b, ph, Eh, g, cap, vs, sp, rfl, hH, hvl, hvz, h1, h4, hcap, hG8, h32, hE⟩ := id hT
  have hE' := Lib.hid hE
  clear hE
  simp only at hvl hvz hG8 h32 hH
  obtain ⟨j, rfl, hjk⟩ := inM_nat hm
  simp only at hjk
  obtain ⟨v, hv⟩ : ∃ v, vs[j]? = some v := ⟨_, List.getElem?_eq_getElem (show j < vs.length by omega)⟩
  have hjv : j < vs.length := by omega
  have cv := ovAt (sp := sp) hv
  have ix := ov_idx (g := g) (n := vs.length) (cap := cap) hjv
  obtain ⟨l, hl⟩ : ∃ l, ks.getD j [] = l := ⟨_, rfl⟩
  have hrz := hvz j v hv
  rw [hl] at hrz
  obtain ⟨e0, Z1, hrs, hcz⟩ := hrz
  have hone := hrs.one
  have hln := hrs.len rfl
  have hl32 : l.length ≤ 32 := by rw [← hl]; exact h32 _ (ks_mem hjk)
  rw [hE'.out] at hS
  simp only [List.cons_append] at hS
  have e : rtL (L, ks, G) (j : Int) = l := by rw [rtL, Int.toNat_natCast, hl]
  rw [e] at hx
  subst hx
  by_cases h : 32 ≤ l.length
  · have d1 : decide ((32 : Int) ≤ (l.length : Int)) = true := decide_eq_true (by omega)
    have d2 : decide (32 ≤ l.length) = true := decide_eq_true h
    rw [d2] at hR
    clear hl e h hl32
    go_enter Tryz.func77, Tryz.ntmps77
    go_wp2_with (first | (refine wpList_is (.call { callee := .builtin .len, args := #[_], argTypes := #[_] }) rfl ?_; refine wpList_stp (by kernel_rfl) (stp_val (run_lenv _ _ rfl) ?_)) | (refine wpList_is (.indexAddr _ _ _) rfl ?_; refine wpList_stp (by kernel_rfl) (stp_val (run_idxv _ _ _ rfl) ?_)) | (refine wpList_is (.load _ _) rfl ?_; go_must ((refine wpList_stp (by kernel_rfl) (stp_val (run_ld _ _ rfl hS) ?_)))))
    exact hR _ (by rw [hE'.out]; simp only [List.cons_append]; exact hS.pick)
  · have d1 : decide ((32 : Int) ≤ (l.length : Int)) = false := decide_eq_false (by omega)
    have d2 : decide (32 ≤ l.length) = false := decide_eq_false h
    rw [d2] at hR
    clear hl e h hl32
    go_enter Tryz.func77, Tryz.ntmps77
    go_wp2_with (first | (refine wpList_is (.call { callee := .builtin .len, args := #[_], argTypes := #[_] }) rfl ?_; refine wpList_stp (by kernel_rfl) (stp_val (run_lenv _ _ rfl) ?_)) | (refine wpList_is (.indexAddr _ _ _) rfl ?_; refine wpList_stp (by kernel_rfl) (stp_val (run_idxv _ _ _ rfl) ?_)) | (refine wpList_is (.load _ _) rfl ?_; go_must ((refine wpList_stp (by kernel_rfl) (stp_val (run_ld _ _ rfl hS) ?_)))))
    exact hR _ (by rw [hE'.out]; simp only [List.cons_append]; exact hS.pick)
set_option maxRecDepth 100000 in
theorem rr_root {p : Option Addr} {T : Ar} (hO : St w0 bs w H) (hT : AR p T E Z) [hc : Cut H E H1] [hz : Cut H1 Z H2] (m i : Int) (x : Rf) (e : Int) (hx : rtR T m i = x) (he : rtE T m i = e)
    (hR : ∀ w', St w0 bs w' (E ++ (Z ++ H2)) → Ret R (.tuple #[.agg #[.int .i64 x.1, .int .u32 x.2], .int .i64 e]) w') : Calls Tryz.prog 33 #[.pointer p, .int .i64 m, .int .i64 i] w R := by
  subst hx he
  cases hm : inM T m with
  | false =>
    rw [no_rtE hm, no_rtR hm] at hR
    have hmu : muE T m = 3 := by unfold muE; rw [hm]; rfl
    have hS := hO.front (E := E) (H1 := H1)
    have hS : St w0 bs w (E ++ (Z ++ H2)) := hS.pick
    clear hO
    go_enter Tryz.func33, Tryz.ntmps33
    go_wp2_with (first | (refine wpList_is (.alloc 25) rfl ?_; go_must (refine wpList_stp (by kernel_rfl) (stp_al _ rfl hS ?_)); clear hS; intro b6 w _ hS) | (go_at_call 75; refine rr_mutator hS hT m _ hmu ?_; clear hS; intro w hS; unfold Ret) | (refine wpList_is (.build _ _) rfl ?_; go_must (refine wpList_stp (by kernel_rfl) (stp_val (run_bd _ _ rfl) ?_))) | (refine wpList_is (.store _ _ _) rfl ?_; go_must ((refine wpList_stp (by kernel_rfl) (stp_sta _ _ _ rfl hS ?_))); clear hS; intro w hS))
    refine bodyPost_ret (res_ct rfl hS) rfl ?_
    exact hR _ hS.pick
  | true =>
    have hmu : muE T m = 0 := by unfold muE; rw [hm]; rfl
    have hS := hO.front (E := E) (H1 := H1)
    have hS : St w0 bs w (E ++ (Z ++ H2)) := hS.pick
    clear hO
    obtain ⟨L, ks, G⟩ := T
    obtain ⟨b, ph, Eh, g, cap, vs, sp, rfl, hH, hvl, hvz, h1, h4, hcap, hG8, h32, hE⟩ := id hT
    have hE' := Lib.hid hE
    clear hE
    simp only at hvl hvz hG8 h32 hH
    obtain ⟨j, rfl, hjk⟩ := inM_nat hm
    simp only at hjk
    obtain ⟨v, hv⟩ : ∃ v, vs[j]? = some v := ⟨_, List.getElem?_eq_getElem (show j < vs.length by omega)⟩
    have hjv : j < vs.length := by omega
    have cv := ovAt (sp := sp) hv
    have ix := ov_idx (g := g) (n := vs.length) (cap := cap) hjv
    obtain ⟨l, hl⟩ : ∃ l, ks.getD j [] = l := ⟨_, rfl⟩
    have hrz := hvz j v hv
    rw [hl] at hrz
    obtain ⟨e0, Z1, hrs, hcz⟩ := hrz
    have hone := hrs.one
    have hln := hrs.len rfl
    have hl32 : l.length ≤ 32 := by rw [← hl]; exact h32 _ (ks_mem hjk)
    have e : rtL (L, ks, G) (j : Int) = l := by rw [rtL, Int.toNat_natCast, hl]
    unfold rtR rtE at hR
    simp only [hm, e, if_true] at hR
    by_cases h0 : 0 ≤ i ∧ i < l.length
    · obtain ⟨q, rfl⟩ : ∃ q : Nat, i = q := ⟨i.toNat, by omega⟩
      have hq : q < l.length := by omega
      have d1 : decide ((l.length : Int) ≤ (q : Int)) = false := decide_eq_false (by omega)
      have d2 : decide (l.length ≤ q) = false := decide_eq_false (by omega)
      simp only [h0, and_self, if_true, Int.toNat_natCast] at hR
      obtain ⟨⟨xs, xg⟩, hx⟩ : ∃ x, l.getD q (0, 0) = x := ⟨_, rfl⟩
      rw [hx] at hR
      obtain ⟨gx, sx, ix2, hh, hcx⟩ := hrs.at hq hx
      have ix2 := ix2 q rfl
      have hh2 : Has Z gx (blk [] slf l sx) 25 := by
        obtain ⟨A, B, e1, _⟩ := hcz.h
        rw [e1]; infer_instance
      simp only at hcx
      clear hl e h0 hl32 hx
      go_enter Tryz.func33, Tryz.ntmps33
      go_wp2_with (first | (refine wpList_is (.alloc 25) rfl ?_; go_must (refine wpList_stp (by kernel_rfl) (stp_al _ rfl hS ?_)); clear hS; intro b6 w _ hS) | (go_at_call 75; refine rr_mutator hS hT j _ hmu ?_; clear hS; intro w hS; rw [hE'.out] at hS; simp only [List.cons_append] at hS; unfold Ret) | (refine wpList_is (.call { callee := .builtin .len, args := #[_], argTypes := #[_] }) rfl ?_; refine wpList_stp (by kernel_rfl) (stp_val (run_lenv _ _ rfl) ?_)) | (refine wpList_is (.indexAddr _ _ _) rfl ?_; refine wpList_stp (by kernel_rfl) (stp_val (run_idxv _ _ _ rfl) ?_)) | (refine wpList_is (.load _ _) rfl ?_; go_must (first | refine wpList_stp (by kernel_rfl) (stp_val (run_ld _ _ rfl hS) ?_) | refine wpList_stp (by kernel_rfl) (stp_val (run_lda _ _ rfl hS) ?_))) | (refine wpList_is (.store _ _ _) rfl ?_; go_must ((refine wpList_stp (by kernel_rfl) (stp_sta _ _ _ rfl hS ?_))); clear hS; intro w hS))
      refine bodyPost_ret (res_ct rfl hS) rfl ?_
      exact hR _ (by rw [hE'.out]; simp only [List.cons_append]; exact hS.pick)
    · simp only [if_neg h0, show ¬ (3 : Int) = 0 from by decide, if_false] at hR
      by_cases h1' : i < 0
      · have d1 : decide (i < 0) = true := decide_eq_true h1'
        clear hl e h0 hl32 h1'
        go_enter Tryz.func33, Tryz.ntmps33
        go_wp2_with (first | (refine wpList_is (.alloc 25) rfl ?_; go_must (refine wpList_stp (by kernel_rfl) (stp_al _ rfl hS ?_)); clear hS; intro b6 w _ hS) | (go_at_call 75; refine rr_mutator hS hT j _ hmu ?_; clear hS; intro w hS; rw [hE'.out] at hS; simp only [List.cons_append] at hS; unfold Ret) | (refine wpList_is (.build _ _) rfl ?_; go_must (refine wpList_stp (by kernel_rfl) (stp_val (run_bd _ _ rfl) ?_))) | (refine wpList_is (.store _ _ _) rfl ?_; go_must ((refine wpList_stp (by kernel_rfl) (stp_sta _ _ _ rfl hS ?_))); clear hS; intro w hS))
        refine bodyPost_ret (res_ct rfl hS) rfl ?_
        exact hR _ (by rw [hE'.out]; simp only [List.cons_append]; exact hS.pick)
      · have d1 : decide (i < 0) = false := decide_eq_false h1'
        have d2 : decide ((l.length : Int) ≤ i) = true := decide_eq_true (by omega)
        clear hl e h0 hl32 h1'
        go_enter Tryz.func33, Tryz.ntmps33
        go_wp2_with (first | (refine wpList_is (.alloc 25) rfl ?_; go_must (refine wpList_stp (by kernel_rfl) (stp_al _ rfl hS ?_)); clear hS; intro b6 w _ hS) | (go_at_call 75; refine rr_mutator hS hT j _ hmu ?_; clear hS; intro w hS; rw [hE'.out] at hS; simp only [List.cons_append] at hS; unfold Ret) | (refine wpList_is (.call { callee := .builtin .len, args := #[_], argTypes := #[_] }) rfl ?_; refine wpList_stp (by kernel_rfl) (stp_val (run_lenv _ _ rfl) ?_)) | (refine wpList_is (.indexAddr _ _ _) rfl ?_; refine wpList_stp (by kernel_rfl) (stp_val (run_idxv _ _ _ rfl) ?_)) | (refine wpList_is (.build _ _) rfl ?_; go_must (refine wpList_stp (by kernel_rfl) (stp_val (run_bd _ _ rfl) ?_))) | (refine wpList_is (.load _ _) rfl ?_; go_must ((refine wpList_stp (by kernel_rfl) (stp_val (run_ld _ _ rfl hS) ?_)))) | (refine wpList_is (.store _ _ _) rfl ?_; go_must ((refine wpList_stp (by kernel_rfl) (stp_sta _ _ _ rfl hS ?_))); clear hS; intro w hS))
        refine bodyPost_ret (res_ct rfl hS) rfl ?_
        exact hR _ (by rw [hE'.out]; simp only [List.cons_append]; exact hS.pick)
set_option maxRecDepth 100000 in
theorem rr_value {p : Option Addr} {T : Ar} (hO : St w0 bs w H) (hT : AR p T E Z) [hc : Cut H E H1] [hz : Cut H1 Z H2] (m i : Int) (x : Rf) (e : Int) (hx : vaR T m i = x) (he : vaE T m i = e)
    (hR : ∀ w', St w0 bs w' (E ++ (Z ++ H2)) → Ret R (.tuple #[.agg #[.int .i64 x.1, .int .u32 x.2], .int .i64 e]) w') : Calls Tryz.prog 81 #[.pointer p, .int .i64 m, .int .i64 i] w R := by
  have hS := hO.front (E := E) (H1 := H1)
  have hS : St w0 bs w (E ++ (Z ++ H2)) := hS.pick
  clear hO
  obtain ⟨x1, x2⟩ := x
  simp only at hR
  by_cases h1 : i = -1
  · subst h1
    cases hm : inM T m with
    | true =>
      have hmu : muE T m = 0 := by unfold muE; rw [hm]; rfl
      unfold vaE at he
      rw [hm] at he
      obtain rfl : 0 = e := he
      obtain ⟨rfl, rfl⟩ : 0 = x1 ∧ 0 = x2 := by have := Prod.mk.inj hx; exact ⟨this.1, this.2⟩
      clear hx
      go_enter Tryz.func81, Tryz.ntmps81
      go_wp2_with (first | (refine wpList_is (.alloc 25) rfl ?_; go_must (refine wpList_stp (by kernel_rfl) (stp_al _ rfl hS ?_)); clear hS; intro b6 w _ hS) | (go_at_call 75; refine rr_mutator hS hT m _ hmu ?_; clear hS; intro w hS; unfold Ret) | (refine wpList_is (.build _ _) rfl ?_; go_must (refine wpList_stp (by kernel_rfl) (stp_val (run_bd _ _ rfl) ?_))) | (refine wpList_is (.store _ _ _) rfl ?_; go_must ((refine wpList_stp (by kernel_rfl) (stp_sta _ _ _ rfl hS ?_))); clear hS; intro w hS))
      refine bodyPost_ret (res_ct rfl hS) rfl ?_
      exact hR _ hS.pick
    | false =>
      have hmu : muE T m = 3 := by unfold muE; rw [hm]; rfl
      obtain rfl : 3 = e := by rw [← he, no_vaE hm]
      obtain ⟨rfl, rfl⟩ : 0 = x1 ∧ 0 = x2 := by have := Prod.mk.inj hx; exact ⟨this.1, this.2⟩
      have hrt := no_rtR hm (-1)
      have hre := no_rtE hm (-1)
      clear hx he
      go_enter Tryz.func81, Tryz.ntmps81
      go_wp2_with (first | (refine wpList_is (.alloc 25) rfl ?_; go_must (refine wpList_stp (by kernel_rfl) (stp_al _ rfl hS ?_)); clear hS; intro b6 w _ hS) | (go_at_call 75; refine rr_mutator hS hT m _ hmu ?_; clear hS; intro w hS; unfold Ret) | (go_at_call 33; refine rr_root hS hT m (-1) _ _ hrt hre ?_; clear hS; intro w hS; unfold Ret) | (refine wpList_is (.store _ _ _) rfl ?_; go_must ((refine wpList_stp (by kernel_rfl) (stp_sta _ _ _ rfl hS ?_))); clear hS; intro w hS))
      refine bodyPost_ret (res_ct rfl hS) rfl ?_
      exact hR _ hS.pick
  · have hrt : rtR T m i = (x1, x2) := by unfold vaR at hx; rwa [if_neg h1] at hx
    have hre : rtE T m i = e := by
      unfold vaE at he
      rw [decide_eq_false h1, Bool.and_false] at he
      exact he
    have d1 : decide (i = -1) = false := decide_eq_false h1
    have d2 : (i == -1) = false := beq_eq_false_iff_ne.2 h1
    obtain ⟨mu, hmu⟩ : ∃ q, muE T m = q := ⟨_, rfl⟩
    have hmq : mu = 0 ∨ mu = 3 := by rw [← hmu]; unfold muE; split <;> simp
    clear hx he
    rcases hmq with rfl | rfl
    · go_enter Tryz.func81, Tryz.ntmps81
      go_wp2_with (first | (refine wpList_is (.alloc 25) rfl ?_; go_must (refine wpList_stp (by kernel_rfl) (stp_al _ rfl hS ?_)); clear hS; intro b6 w _ hS) | (go_at_call 75; refine rr_mutator hS hT m _ hmu ?_; clear hS; intro w hS; unfold Ret) | (go_at_call 33; refine rr_root hS hT m i _ _ hrt hre ?_; clear hS; intro w hS; unfold Ret) | (refine wpList_is (.store _ _ _) rfl ?_; go_must ((refine wpList_stp (by kernel_rfl) (stp_sta _ _ _ rfl hS ?_))); clear hS; intro w hS))
      refine bodyPost_ret (res_ct rfl hS) rfl ?_
      exact hR _ hS.pick
    · go_enter Tryz.func81, Tryz.ntmps81
      go_wp2_with (first | (refine wpList_is (.alloc 25) rfl ?_; go_must (refine wpList_stp (by kernel_rfl) (stp_al _ rfl hS ?_)); clear hS; intro b6 w _ hS) | (go_at_call 75; refine rr_mutator hS hT m _ hmu ?_; clear hS; intro w hS; unfold Ret) | (go_at_call 33; refine rr_root hS hT m i _ _ hrt hre ?_; clear hS; intro w hS; unfold Ret) | (refine wpList_is (.store _ _ _) rfl ?_; go_must ((refine wpList_stp (by kernel_rfl) (stp_sta _ _ _ rfl hS ?_))); clear hS; intro w hS))
      refine bodyPost_ret (res_ct rfl hS) rfl ?_
      exact hR _ hS.pick
set_option maxRecDepth 100000 in
theorem rr_sizes {p : Option Addr} {T : Ar} (hO : St w0 bs w H) (hT : AR p T E Z) [hc : Cut H E H1] [hz : Cut H1 Z H2] (z k : Nat) (hzz : T.1.length = z) (hk : T.2.1.length = k)
    (hR : ∀ w', St w0 bs w' (E ++ (Z ++ H2)) → Ret R (.tuple #[.int .i64 z, .int .i64 k]) w') : Calls Tryz.prog 41 #[.pointer p] w R := by
  have hS := hO.front (E := E) (H1 := H1)
  have hS : St w0 bs w (E ++ (Z ++ H2)) := hS.pick
  clear hO
  obtain ⟨L, ks, G⟩ := T
  obtain ⟨b, ph, Eh, g, cap, vs, sp, rfl, hH, hvl, hvz, h1, h4, hcap, hG8, h32, hE⟩ := id hT
  have hE' := Lib.hid hE
  clear hE
  simp only at hvl hvz hG8 h32 hH
  rw [hE'.out] at hS
  simp only [List.cons_append] at hS
  simp only at hzz hk
  subst hzz hk
  rw [← hvl] at hR
  go_enter Tryz.func41, Tryz.ntmps41
  go_wp2_with ((go_at_call 36; refine rr_valid hS ?_; clear hS; intro w hS; unfold Ret))
  refine region_quiet hS (by kernel_rfl) (by kernel_rfl) (fun hne => ?_)
  go_big_quiet_want; (refine quiet_is (.move _) rfl ?_; refine quiet_val (fun w _ => run_mv _ rfl) ?_; go_big_quiet_on)
  go_big_quiet_want; (refine quiet_is (.nilCheck _) rfl ?_; refine quiet_val (fun w _ => run_nc _ rfl) ?_; go_big_quiet_on)
  go_big_quiet_want; (refine quiet_is (.fieldAddr _ _ _) rfl ?_; refine quiet_val (fun w _ => run_fa _ _ _ rfl) ?_; go_big_quiet_on)
  go_big_quiet_want; ((refine quiet_is (.load _ _) rfl ?_; refine quiet_at sw_st (fun w hS => run_ld _ _ rfl hS) ?_; go_big_quiet_on))
  go_big_quiet_want; (refine quiet_is (.move _) rfl ?_; refine quiet_val (fun w _ => run_mv _ rfl) ?_; go_big_quiet_on)
  go_big_quiet_want; (refine quiet_is (.nilCheck _) rfl ?_; refine quiet_val (fun w _ => run_nc _ rfl) ?_; go_big_quiet_on)
  go_big_quiet_want; (refine quiet_is (.fieldAddr _ _ _) rfl ?_; refine quiet_val (fun w _ => run_fa _ _ _ rfl) ?_; go_big_quiet_on)
  go_big_quiet_want; ((refine quiet_is (.load _ _) rfl ?_; refine quiet_at sw_st (fun w hS => run_ld _ _ rfl hS) ?_; go_big_quiet_on))
  go_big_quiet_want; (refine quiet_is (.call { callee := .builtin .len, args := #[_], argTypes := #[_] }) rfl ?_; refine quiet_val (fun w _ => run_lenv _ _ rfl) ?_; go_big_quiet_on)
  go_big_quiet_want; (refine quiet_is (.assign _) rfl ?_; refine quiet_val (fun w _ => run_as _ rfl) ?_; go_big_quiet_on)
  go_big_quiet_want; (refine quiet_is (.assign _) rfl ?_; refine quiet_val (fun w _ => run_as _ rfl) ?_; go_big_quiet_on)
  refine wpQuiet_nil ?_
  clear hS hne
  intro w hS
  go_wp2_with ((go_skip))
  exact hR _ (by rw [hE'.out]; simp only [List.cons_append]; exact hS.pick)
set_option maxRecDepth 100000 in
theorem rr_stack {p : Option Addr} {T : Ar} (hO : St w0 bs w H) (hT : AR p T E Z) [hc : Cut H E H1] [hz : Cut H1 Z H2] (m : Int) (l : List Rf) (e : Int) (hl : (if inM T m then rtL T m else []) = l) (he : muE T m = e)
    (hR : ∀ v E' w', RS v l E' → St w0 bs w' (E' ++ (E ++ (Z ++ H2))) → Ret R (.tuple #[v, .int .i64 e]) w') : Calls Tryz.prog 46 #[.pointer p, .int .i64 m] w R := by
  cases hm : inM T m with
  | false =>
    have hmu : muE T m = 3 := by unfold muE; rw [hm]; rfl
    rw [hm] at hl
    obtain rfl : [] = l := hl
    obtain rfl : 3 = e := by rw [← he, hmu]
    have hS := hO.front (E := E) (H1 := H1)
    have hS : St w0 bs w (E ++ (Z ++ H2)) := hS.pick
    clear hO
    go_enter Tryz.func46, Tryz.ntmps46
    go_wp2_with ((go_at_call 75; refine rr_mutator hS hT m _ hmu ?_; clear hS; intro w hS; unfold Ret))
    exact hR _ _ _ RS.nil hS.pick
  | true =>
    have hmu : muE T m = 0 := by unfold muE; rw [hm]; rfl
    obtain rfl : 0 = e := by rw [← he, hmu]
    rw [hm, if_pos rfl] at hl
    clear he
    subst hl
    have hS := hO.front (E := E) (H1 := H1)
    have hS : St w0 bs w (E ++ (Z ++ H2)) := hS.pick
    clear hO
    obtain ⟨L, ks, G⟩ := T
    obtain ⟨b, ph, Eh, g, cap, vs, sp, rfl, hH, hvl, hvz, h1, h4, hcap, hG8, h32, hE⟩ := id hT
    have hE' := Lib.hid hE
    clear hE
    simp only at hvl hvz hG8 h32 hH
    obtain ⟨j, rfl, hjk⟩ := inM_nat hm
    simp only at hjk
    obtain ⟨v, hv⟩ : ∃ v, vs[j]? = some v := ⟨_, List.getElem?_eq_getElem (show j < vs.length by omega)⟩
    have hjv : j < vs.length := by omega
    have cv := ovAt (sp := sp) hv
    have ix := ov_idx (g := g) (n := vs.length) (cap := cap) hjv
    obtain ⟨l, hl⟩ : ∃ l, ks.getD j [] = l := ⟨_, rfl⟩
    have hrz := hvz j v hv
    rw [hl] at hrz
    obtain ⟨e0, Z1, hrs, hcz⟩ := hrz
    have hone := hrs.one
    have hln := hrs.len rfl
    have hl32 : l.length ≤ 32 := by rw [← hl]; exact h32 _ (ks_mem hjk)
    have e : rtL (L, ks, G) (j : Int) = l := by rw [rtL, Int.toNat_natCast, hl]
    rw [e] at hR
    have hl64 : ([] : List Rf).length + l.length ≤ 1000 := by simp; omega
    clear hl e hl32
    go_enter Tryz.func46, Tryz.ntmps46
    go_wp2_with (first | (go_at_call 75; refine rr_mutator hS hT j _ hmu ?_; clear hS; intro w hS; rw [hE'.out] at hS; simp only [List.cons_append] at hS; unfold Ret) | (refine wpList_is (.buildSlice _ 0 _) rfl ?_; go_must (refine wpList_stp rfl (stp_bs0 _ rfl hS ?_)); clear hS; intro bz w _ hS) | (refine wpList_is (.call { callee := .builtin .append, args := #[_, _], argTypes := #[_, _] }) rfl ?_; refine wpList_stp rfl (stp_apR _ _ _ _ rfl rfl rfl hS (show RS _ [] [_] from sl_zero) hrs hl64 ?_); clear hS; intro v2 E2 w hI2 hS; rw [List.nil_append] at hI2; have hone2 := hI2.one) | (refine wpList_is (.indexAddr _ _ _) rfl ?_; refine wpList_stp (by kernel_rfl) (stp_val (run_idxv _ _ _ rfl) ?_)) | (refine wpList_is (.load _ _) rfl ?_; go_must ((refine wpList_stp (by kernel_rfl) (stp_val (run_ld _ _ rfl hS) ?_)))))
    exact hR _ _ _ hI2 (by rw [hE'.out]; simp only [List.cons_append]; exact hS.pick)
set_option maxRecDepth 100000 in
theorem rr_heap {p : Option Addr} {T : Ar} (hO : St w0 bs w H) (hT : AR p T E Z) [hc : Cut H E H1] [hz : Cut H1 Z H2]
    (hR : ∀ q E' w', RH q (some (some T.1)) E' → St w0 bs w' (E' ++ (E ++ (Z ++ H2))) → Ret R (.pointer q) w') : Calls Tryz.prog 47 #[.pointer p] w R := by
  have hS := hO.front (E := E) (H1 := H1)
  have hS : St w0 bs w (E ++ (Z ++ H2)) := hS.pick
  clear hO
  obtain ⟨L, ks, G⟩ := T
  obtain ⟨b, ph, Eh, g, cap, vs, sp, rfl, hH, hvl, hvz, h1, h4, hcap, hG8, h32, hE⟩ := id hT
  have hE' := Lib.hid hE
  clear hE
  simp only at hvl hvz hG8 h32 hH
  rw [hE'.out] at hS
  simp only [List.cons_append] at hS
  go_enter Tryz.func47, Tryz.ntmps47
  go_wp2_with (first | (go_at_call 36; refine rr_valid hS ?_; clear hS; intro w hS; unfold Ret) | (go_at_call 56; refine rh_copy hS hH ?_; clear hS; intro p9 E9 w hT9 _ hS; unfold Ret) | (refine wpList_is (.load _ _) rfl ?_; go_must ((refine wpList_stp (by kernel_rfl) (stp_val (run_ld _ _ rfl hS) ?_)))))
  exact hR _ _ _ hT9 (by rw [hE'.out]; simp only [List.cons_append]; exact hS.pick)
set_option maxHeartbeats 1000000 in
set_option maxRecDepth 100000 in
theorem rr_globals {p : Option Addr} {T : Ar} (hO : St w0 bs w H) (hT : AR p T E Z) [hc : Cut H E H1] [hz : Cut H1 Z H2] (l : List Rf) (hl : alV (some (true, T.2.2)) = l)
    (hR : ∀ v E' w', RS v l E' → St w0 bs w' (E' ++ (E ++ (Z ++ H2))) → Ret R v w') : Calls Tryz.prog 44 #[.pointer p] w R := by
  have hS := hO.front (E := E) (H1 := H1)
  have hS : St w0 bs w (E ++ (Z ++ H2)) := hS.pick
  clear hO
  obtain ⟨L, ks, G⟩ := T
  obtain ⟨b, ph, Eh, g, cap, vs, sp, rfl, hH, hvl, hvz, h1, h4, hcap, hG8, h32, hE⟩ := id hT
  have hE' := Lib.hid hE
  clear hE
  simp only at hvl hvz hG8 h32 hH
  rw [hE'.out] at hS
  simp only [List.cons_append] at hS
  simp only at hl
  go_enter Tryz.func44, Tryz.ntmps44
  go_wp2_with ((go_skip))
  go_loopw [4, 3] (fun u a3 wr => ∃ (k : Nat) (E' : List Ent), k ≤ 8 ∧ u = .int .i64 k ∧ RS a3 ((G.take k).filter nzR) E' ∧ St w0 bs wr (E' ++ (⟨b, arR L.length ph (.slice (some ⟨g, 0, none⟩) vs.length cap) G, 77, true⟩ :: ⟨g, ovB vs sp, 81, true⟩ :: (Eh ++ (Z ++ H2))))) (fun u _ _ => 8 - (intOf u).toNat)
  case atStart => exact ⟨0, [], by omega, rfl, RS.nil, hS⟩
  case round =>
    clear hS
    obtain ⟨k, E', hk, rfl, hA, hS⟩ := hrel
    by_cases hlt : k < 8
    · obtain ⟨⟨s, gg⟩, hx⟩ : ∃ x, G.getD k (0, 0) = x := ⟨_, rfl⟩
      have hkl : k < G.length := by omega
      have hx2 : G[k]? = some (s, gg) := by rw [← hx, List.getD_eq_getElem?_getD, List.getElem?_eq_getElem hkl]; rfl
      have hb := arRG (z := L.length) (ph := ph) (v := .slice (some ⟨g, 0, none⟩) vs.length cap) hx2
      have hgi := rr_gi (b := b) hlt
      have h8I : (k : Int) < 8 := by omega
      obtain ⟨A, hAe⟩ : ∃ A, (G.take k).filter nzR = A := ⟨_, rfl⟩
      have hAl : A.length ≤ 8 := by
        rw [← hAe]
        exact Nat.le_trans (List.length_filter_le _ _) (by rw [List.length_take]; omega)
      rw [hAe] at hA
      have hone := hA.one
      have hsl : Sl 25 2 u3 A.length (A.flatMap slf) E' := hA
      simp only at hb
      cases hz : refB s gg 0 0 with
      | true =>
        have q := refE hz
        have e := flt_snoc_no hkl hx (by simp only [nzR, hz]; rfl)
        rw [hAe] at e
        have e' := Lib.hid e
        clear hx hz e hAe hx2
        go_wp2_with (first | (go_at_call 36; refine rr_valid hS ?_; clear hS; intro w hS; unfold Ret) | (refine wpList_is (.binOp .neq _ _ _ _) rfl ?_; refine wpList_stp (by kernel_rfl) (stp_val (run_ane _ _ _ _ rfl) ?_)) | (refine wpList_is (.indexAddr _ _ _) rfl ?_; refine wpList_stp (by kernel_rfl) (stp_val (run_idxv _ _ _ rfl) ?_)) | (refine wpList_is (.build _ _) rfl ?_; go_must (refine wpList_stp (by kernel_rfl) (stp_val (run_bd _ _ rfl) ?_))) | (refine wpList_is (.load _ _) rfl ?_; go_must ((refine wpList_stp (by kernel_rfl) (stp_val (run_lda _ _ rfl hS) ?_)))))
        go_roundw
        case rel => exact ⟨k + 1, E', by omega, by go_num, by rw [e'.out]; exact hA, hS.pick⟩
        case measure => simp [intOf]; omega
      | false =>
        have q := refE hz
        have e := flt_snoc_yes hkl hx (by simp only [nzR, hz]; rfl)
        rw [hAe] at e
        have e' := Lib.hid e
        clear hx hz e hAe hx2
        go_wp2_with (first | (go_at_call 36; refine rr_valid hS ?_; clear hS; intro w hS; unfold Ret) | (refine wpList_is (.binOp .neq _ _ _ _) rfl ?_; refine wpList_stp (by kernel_rfl) (stp_val (run_ane _ _ _ _ rfl) ?_)) | (refine wpList_is (.buildSlice _ _ _) rfl ?_; go_must (refine wpList_stp (by kernel_rfl) (stp_bsl _ _ _ rfl hS (by decide) rfl (by decide) (by decide) ?_)); clear hS; intro bN w hbN hS) | (refine wpList_is (.call { callee := .builtin .append, args := #[_, _], argTypes := #[_, _] }) rfl ?_; go_must (refine wpList_stp (by kernel_rfl) (stp_ap _ _ _ _ rfl rfl hS (by rfl) hsl (by rfl) (by simp only [maxLen]; omega) (by omega) ?_)); clear hS; intro v' E' w hsl' hne hS; have hone := hsl'.one) | (refine wpList_is (.indexAddr _ _ _) rfl ?_; refine wpList_stp (by kernel_rfl) (stp_val (run_idxv _ _ _ rfl) ?_)) | (refine wpList_is (.build _ _) rfl ?_; go_must (refine wpList_stp (by kernel_rfl) (stp_val (run_bd _ _ rfl) ?_))) | (refine wpList_is (.load _ _) rfl ?_; go_must ((refine wpList_stp (by kernel_rfl) (stp_val (run_lda _ _ rfl hS) ?_)))))
        go_roundw
        case rel => exact ⟨k + 1, _, by omega, by go_num, by rw [e'.out]; exact RS.snoc hsl', hS.pick⟩
        case measure => simp [intOf]; omega
    · obtain rfl : k = 8 := by omega
      have e : (G.take 8).filter nzR = l := by
        rw [← hl]
        show _ = G.filter nzR
        rw [List.take_of_length_le (by omega)]
      rw [e] at hA
      clear e
      go_wp2_with ((go_at_call 36; refine rr_valid hS ?_; clear hS; intro w hS; unfold Ret))
      exact hR _ _ _ hA (by rw [hE'.out]; simp only [List.cons_append]; exact hS.pick)
end Go.Proofs.YtjlihigodggfcaaGreat
