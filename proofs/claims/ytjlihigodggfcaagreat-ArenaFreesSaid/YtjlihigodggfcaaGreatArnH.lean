/-
  Arenas: what Load and Get look at.
-/
import Derived.Test.YtjlihigodggfcaaGreatArnF
set_option linter.unusedSimpArgs false
set_option linter.unusedVariables false
namespace Go.Proofs.YtjlihigodggfcaaGreat
open Go Go.RowKit Go.Mm
variable {R : Ending → World → Prop} {w : World} {w0 : World} {bs : List Nat} {H H' H1 E : List Ent}

/-- The error of what is there: none is one, too. -/
def ldxE (e : Int) (v : Rf) : Int := if e = 0 then (if refB v.1 v.2 0 0 then 5 else 0) else e

set_option maxHeartbeats 1000000 in
set_option maxRecDepth 100000 in
theorem fetch2 {bv : Nat} {v1 v2 : Int} (hO : St w0 bs w H) [hv : Has H bv #[.int .i64 v1, .int .u32 v2] 25] (hR : ∀ w', St w0 bs w' H → Ret R (.tuple #[.agg #[.int .i64 v1, .int .u32 v2], .int .i64 0]) w') : Calls Tryz.prog 66 #[.pointer (some ⟨bv, 0, none⟩)] w R := by
  have hS := hO
  clear hO
  go_enter Tryz.func66, Tryz.ntmps66
  go_wp2_with (first | (refine wpList_is (.alloc 25) rfl ?_; go_must (refine wpList_stp (by kernel_rfl) (stp_al _ rfl hS ?_)); clear hS; intro b3 w _ hS) | (refine wpList_is (.load _ _) rfl ?_; go_must ((refine wpList_stp (by kernel_rfl) (stp_val (run_lda _ _ rfl hS) ?_)))) | (refine wpList_is (.store _ _ _) rfl ?_; go_must ((refine wpList_stp (by kernel_rfl) (stp_sta _ _ _ rfl hS ?_))); clear hS; intro w hS))
  refine bodyPost_ret (res_ct rfl hS) rfl ?_
  exact hR _ hS.pick
set_option maxHeartbeats 1000000 in
set_option maxRecDepth 100000 in
theorem get2 {bv : Nat} {v1 v2 : Int} (hO : St w0 bs w H) [hv : Has H bv #[.int .i64 v1, .int .u32 v2] 25] (hR : ∀ w', St w0 bs w' H → Ret R (.tuple #[.agg #[.int .i64 v1, .int .u32 v2], .int .i64 0]) w') : Calls Tryz.prog 70 #[.pointer (some ⟨bv, 0, none⟩)] w R := by
  have hS := hO
  clear hO
  go_enter Tryz.func70, Tryz.ntmps70
  go_wp2_with (first | (refine wpList_is (.alloc 25) rfl ?_; go_must (refine wpList_stp (by kernel_rfl) (stp_al _ rfl hS ?_)); clear hS; intro b3 w _ hS) | (refine wpList_is (.load _ _) rfl ?_; go_must ((refine wpList_stp (by kernel_rfl) (stp_val (run_lda _ _ rfl hS) ?_)))) | (refine wpList_is (.store _ _ _) rfl ?_; go_must ((refine wpList_stp (by kernel_rfl) (stp_sta _ _ _ rfl hS ?_))); clear hS; intro w hS))
  refine bodyPost_ret (res_ct rfl hS) rfl ?_
  exact hR _ hS.pick

set_option maxHeartbeats 1000000 in
set_option maxRecDepth 100000 in
theorem get1 {ba b bo b4 b5 bv : Nat} {z k : Int} {ps : List (Option Addr)} {pg : Option Addr} {G : List Rf} {Eg Z : List Ent} {gi : Int} (hps : ps.length = 4) (hG : GA pg (some (true, G)) Eg) (v1 v2 : Int) (e : Int) (hv : gtR (some (true, G)) gi = (v1, v2)) (he : vE (some (true, G)) gi = e)
    (hO : St w0 bs w (⟨bv, #[.int .i64 0, .int .u32 0], 25, true⟩ :: ⟨b5, #[.int .i64 gi], 3, true⟩ :: ⟨b4, #[.pointer (some ⟨b, 0, none⟩)], 27, true⟩ :: ⟨b, arC (some ⟨bo, 0, none⟩) z k ps pg, 69, true⟩ :: (Eg ++ Z)))
    (hR : ∀ w', St w0 bs w' (⟨bv, #[.int .i64 v1, .int .u32 v2], 25, true⟩ :: ⟨b5, #[.int .i64 gi], 3, true⟩ :: ⟨b4, #[.pointer (some ⟨b, 0, none⟩)], 27, true⟩ :: ⟨b, arC (some ⟨bo, 0, none⟩) z k ps pg, 69, true⟩ :: (Eg ++ Z)) → Ret R (.int .i64 (ldxE e (v1, v2))) w') :
    Calls Tryz.prog 68 #[.pointer (some ⟨b4, 0, none⟩), .pointer (some ⟨b5, 0, none⟩), .pointer (some ⟨bv, 0, none⟩)] w R := by
  have hS := hO
  clear hO
  have hv' := Lib.hid hv
  have he' := Lib.hid he
  have hcg := arG (po := some ⟨bo, 0, none⟩) (z := z) (k := k) (pg := pg) hps
  have hcg' : CellAt (arC (some ⟨bo, 0, none⟩) z k ps pg) (0 + 7) (.pointer pg) := hcg
  clear hv he hps
  go_enter Tryz.func68, Tryz.ntmps68
  go_wp2_with ((go_skip))
  refine region_itemsE [⟨(undef, [⟨bv, #[.int .i64 0, .int .u32 0], 25, true⟩]), [(9, fun _ x => x.2 = [⟨bv, #[.int .i64 v1, .int .u32 v2], 25, true⟩])]⟩]
    (⟨b5, #[.int .i64 gi], 3, true⟩ :: ⟨b4, #[.pointer (some ⟨b, 0, none⟩)], 27, true⟩ :: ⟨b, arC (some ⟨bo, 0, none⟩) z k ps pg, 69, true⟩ :: (Eg ++ Z)) (⟨bv, #[.int .i64 0, .int .u32 0], 25, true⟩ :: ⟨b5, #[.int .i64 gi], 3, true⟩ :: ⟨b4, #[.pointer (some ⟨b, 0, none⟩)], 27, true⟩ :: ⟨b, arC (some ⟨bo, 0, none⟩) z k ps pg, 69, true⟩ :: (Eg ++ Z)) (by simp) hS (by kernel_rfl) (by kernel_rfl) ?_
  (refine fx_val (fun _ => rfl) rfl (fun χ w hw => run_ld _ _ rfl hw) ?_)
  refine fx_val (fun _ => rfl) rfl (fun χ w hw => run_nc _ rfl) ?_
  refine fx_val (fun _ => rfl) rfl (fun χ w hw => run_fa _ _ _ rfl) ?_
  (refine fx_val (fun _ => rfl) rfl (fun χ w hw => run_ld _ _ rfl hw) ?_)
  (refine fx_val (fun _ => rfl) rfl (fun χ w hw => run_ld _ _ rfl hw) ?_)
  refine fx_ask 69 [_, _] _ rfl (fun _ => rfl) rfl (enters _ (by kernel_rfl)) (.tuple #[.agg #[.int .i64 v1, .int .u32 v2], .int .i64 e]) (fun X w hS => gv_get hS hG gi (v1, v2) e hv'.out he'.out (fun w' _ hS' => ⟨rfl, hS'.pick⟩)) ?_
  refine fx_val (fun _ => rfl) rfl (fun χ w hw => run_mv _ rfl) ?_
  refine fx_val (fun _ => rfl) rfl (fun χ w hw => run_ext _ _ rfl) ?_
  refine fx_val (fun _ => rfl) rfl (fun χ w hw => run_ext _ _ rfl) ?_
  refine fx_turn0 0 0 rfl rfl (by kernel_rfl) (by kernel_rfl) (by kernel_rfl) (fun _ => rfl) (fun _ => undef) ?_ ?_
  · rintro χ X w _ hS
    exact stepX_sta _ _ _ rfl (show St w0 bs w (⟨bv, #[.int .i64 0, .int .u32 0], 25, true⟩ :: (X ++ _)) from hS) (fun w' hS' => ⟨(undef, [⟨bv, #[.int .i64 v1, .int .u32 v2], 25, true⟩]), rfl, rfl, hS'⟩)
  refine fx_val (fun _ => rfl) rfl (fun χ w hw => run_as _ rfl) ?_
  refine fx_end rfl ?_
  intro χ w hok hS
  obtain ⟨hD, _⟩ := hok _ (.head _)
  have hD : (χ 9).2 = [⟨bv, #[.int .i64 v1, .int .u32 v2], 25, true⟩] := hD
  have hS : St w0 bs w (((χ 9).2 ++ []) ++ (⟨b5, #[.int .i64 gi], 3, true⟩ :: ⟨b4, #[.pointer (some ⟨b, 0, none⟩)], 27, true⟩ :: ⟨b, arC (some ⟨bo, 0, none⟩) z k ps pg, 69, true⟩ :: (Eg ++ Z))) := hS
  rw [hD, List.append_nil] at hS
  simp only [List.cons_append, List.nil_append] at hS
  clear hok hD
  by_cases h0 : e = 0
  · subst h0
    have q5 := refE (show refB v1 v2 0 0 = refB v1 v2 0 0 from rfl)
    have hxx : ldxE 0 (v1, v2) = if refB v1 v2 0 0 then 5 else 0 := by simp [ldxE]
    rw [hxx] at hR
    cases hb : refB v1 v2 0 0 with
    | true =>
      rw [hb] at hR q5
      go_wp2_with (first | (refine wpList_is (.binOp .eql 25 _ _ _) rfl ?_; refine wpList_stp (by kernel_rfl) (stp_val (run_aeq _ _ _ _ rfl) ?_)) | (refine wpList_is (.build _ _) rfl ?_; go_must (refine wpList_stp (by kernel_rfl) (stp_val (run_bd _ _ rfl) ?_))) | (refine wpList_is (.load _ _) rfl ?_; go_must ((refine wpList_stp (by kernel_rfl) (stp_val (run_lda _ _ rfl hS) ?_)))))
      exact hR _ hS.pick
    | false =>
      rw [hb] at hR q5
      go_wp2_with (first | (refine wpList_is (.binOp .eql 25 _ _ _) rfl ?_; refine wpList_stp (by kernel_rfl) (stp_val (run_aeq _ _ _ _ rfl) ?_)) | (refine wpList_is (.build _ _) rfl ?_; go_must (refine wpList_stp (by kernel_rfl) (stp_val (run_bd _ _ rfl) ?_))) | (refine wpList_is (.load _ _) rfl ?_; go_must ((refine wpList_stp (by kernel_rfl) (stp_val (run_lda _ _ rfl hS) ?_)))))
      exact hR _ hS.pick
  · have q7 : (e == 0) = false := beq_eq_false_iff_ne.2 h0
    have q8 : decide (e = 0) = false := decide_eq_false h0
    have hxx : ldxE e (v1, v2) = e := by unfold ldxE; rw [if_neg h0]
    rw [hxx] at hR
    go_wp2_with ((go_skip))
    exact hR _ hS.pick

def ldV (T : Ar) (m i f : Int) : Rf := if rtE T m i = 0 then ldR (some (some T.1)) (rtR T m i).1 (rtR T m i).2 f else (0, 0)
def ldX (T : Ar) (m i f : Int) : Int := if rtE T m i = 0 then ldxE (ldE (some (some T.1)) (rtR T m i).1 (rtR T m i).2 f) (ldV T m i f) else rtE T m i

set_option maxHeartbeats 2000000 in
set_option maxRecDepth 100000 in
theorem load1 {b b4 b5 b6 b7 bv : Nat} {T : Ar} {Z : List Ent} {m i f : Int} (hT : AA (some ⟨b, 0, none⟩) T E) (v1 v2 : Int) (x : Int) (hv : ldV T m i f = (v1, v2)) (hx : ldX T m i f = x)
    (hO : St w0 bs w (⟨bv, #[.int .i64 0, .int .u32 0], 25, true⟩ :: ⟨b7, #[.int .i64 f], 3, true⟩ :: ⟨b6, #[.int .i64 i], 3, true⟩ :: ⟨b5, #[.int .i64 m], 3, true⟩ :: ⟨b4, #[.pointer (some ⟨b, 0, none⟩)], 27, true⟩ :: (E ++ Z)))
    (hR : ∀ w', St w0 bs w' (⟨bv, #[.int .i64 v1, .int .u32 v2], 25, true⟩ :: ⟨b7, #[.int .i64 f], 3, true⟩ :: ⟨b6, #[.int .i64 i], 3, true⟩ :: ⟨b5, #[.int .i64 m], 3, true⟩ :: ⟨b4, #[.pointer (some ⟨b, 0, none⟩)], 27, true⟩ :: (E ++ Z)) → Ret R (.int .i64 x) w') :
    Calls Tryz.prog 64 #[.pointer (some ⟨b4, 0, none⟩), .pointer (some ⟨b5, 0, none⟩), .pointer (some ⟨b6, 0, none⟩), .pointer (some ⟨b7, 0, none⟩), .pointer (some ⟨bv, 0, none⟩)] w R := by
  have hS := hO
  clear hO
  subst hx
  obtain ⟨e1, he1⟩ : ∃ e, rtE T m i = e := ⟨_, rfl⟩
  obtain ⟨⟨x1, x2⟩, hx1⟩ : ∃ x, rtR T m i = x := ⟨_, rfl⟩
  have he1' := Lib.hid he1
  have hx1' := Lib.hid hx1
  unfold ldX at hR
  unfold ldV at hR hv
  rw [he1, hx1] at hR hv
  by_cases h1 : e1 = 0
  case neg =>
    rw [if_neg h1] at hv
    rw [if_neg h1] at hR
    obtain ⟨rfl, rfl⟩ := Prod.mk.inj hv
    have q7 : (e1 != 0) = true := by simpa using h1
    clear he1 hx1 hv
    go_enter Tryz.func64, Tryz.ntmps64
    go_wp2_with (first | (go_at_call 22; go_must (refine ar_root hS hT m i (x1, x2) e1 hx1'.out he1'.out ?_); clear hS; intro w _ hS; unfold Ret) | (refine wpList_is (.alloc 25) rfl ?_; go_must (refine wpList_stp (by kernel_rfl) (stp_al _ rfl hS ?_)); clear hS; intro br w _ hS) | (refine wpList_is (.load _ _) rfl ?_; go_must ((refine wpList_stp (by kernel_rfl) (stp_val (run_ld _ _ rfl hS) ?_)))) | (refine wpList_is (.store _ _ _) rfl ?_; go_must ((refine wpList_stp (by kernel_rfl) (stp_sta _ _ _ rfl hS ?_))); clear hS; intro w hS))
    exact hR _ hS.pick
  case pos =>
  subst h1
  rw [if_pos rfl] at hv
  rw [if_pos rfl, if_pos rfl] at hR
  rw [hv] at hR
  obtain ⟨e, he⟩ : ∃ e, ldE (some (some T.1)) x1 x2 f = e := ⟨_, rfl⟩
  simp only [he] at hR
  have hv' := Lib.hid hv
  have he' := Lib.hid he
  clear he1 hx1 hv he
  go_enter Tryz.func64, Tryz.ntmps64
  go_wp2_with (first | (go_at_call 22; go_must (refine ar_root hS hT m i (x1, x2) 0 hx1'.out he1'.out ?_); clear hS; intro w _ hS; unfold Ret) | (refine wpList_is (.alloc 25) rfl ?_; go_must (refine wpList_stp (by kernel_rfl) (stp_al _ rfl hS ?_)); clear hS; intro br w _ hS) | (refine wpList_is (.load _ _) rfl ?_; go_must ((refine wpList_stp (by kernel_rfl) (stp_val (run_ld _ _ rfl hS) ?_)))) | (refine wpList_is (.store _ _ _) rfl ?_; go_must ((refine wpList_stp (by kernel_rfl) (stp_sta _ _ _ rfl hS ?_))); clear hS; intro w hS))
  obtain ⟨L, ks, G⟩ := T
  obtain ⟨b', bo, ph, Eh, pg, Eg, sts, hbb, hH, hG, hks, hW, hGw, h1, h4, rfl⟩ := id hT
  obtain ⟨⟩ := hbb
  have hS : St w0 bs w (⟨bv, #[.int .i64 0, .int .u32 0], 25, true⟩ :: (⟨br, #[.int .i64 x1, .int .u32 x2], 25, true⟩ :: ⟨b7, #[.int .i64 f], 3, true⟩ :: ⟨b6, #[.int .i64 i], 3, true⟩ :: ⟨b5, #[.int .i64 m], 3, true⟩ :: ⟨b4, #[.pointer (some ⟨b, 0, none⟩)], 27, true⟩ :: ⟨b, arC (some ⟨bo, 0, none⟩) L.length sts.length (spL sts) pg, 69, true⟩ :: ⟨bo, #[.pointer ph], 63, true⟩ :: (Eh ++ (Eg ++ (sts.map skE ++ Z))))) := by
    simp only [List.cons_append, List.append_assoc] at hS
    exact hS.pick
  have hR : ∀ w', St w0 bs w' (⟨bv, #[.int .i64 v1, .int .u32 v2], 25, true⟩ :: (⟨br, #[.int .i64 x1, .int .u32 x2], 25, true⟩ :: ⟨b7, #[.int .i64 f], 3, true⟩ :: ⟨b6, #[.int .i64 i], 3, true⟩ :: ⟨b5, #[.int .i64 m], 3, true⟩ :: ⟨b4, #[.pointer (some ⟨b, 0, none⟩)], 27, true⟩ :: ⟨b, arC (some ⟨bo, 0, none⟩) L.length sts.length (spL sts) pg, 69, true⟩ :: ⟨bo, #[.pointer ph], 63, true⟩ :: (Eh ++ (Eg ++ (sts.map skE ++ Z))))) → Ret R (.int .i64 (ldxE e (v1, v2))) w' := fun w' hS' => hR w' (by simp only [List.cons_append, List.append_assoc]; exact hS'.pick)
  obtain ⟨Y, hY⟩ : ∃ Y, (⟨br, #[.int .i64 x1, .int .u32 x2], 25, true⟩ :: ⟨b7, #[.int .i64 f], 3, true⟩ :: ⟨b6, #[.int .i64 i], 3, true⟩ :: ⟨b5, #[.int .i64 m], 3, true⟩ :: ⟨b4, #[.pointer (some ⟨b, 0, none⟩)], 27, true⟩ :: ⟨b, arC (some ⟨bo, 0, none⟩) L.length sts.length (spL sts) pg, 69, true⟩ :: ⟨bo, #[.pointer ph], 63, true⟩ :: (Eh ++ (Eg ++ (sts.map skE ++ Z)))) = Y := ⟨_, rfl⟩
  have y4 : Has Y b4 #[.pointer (some ⟨b, 0, none⟩)] 27 := by rw [← hY]; infer_instance
  have y7 : Has Y b7 #[.int .i64 f] 3 := by rw [← hY]; infer_instance
  have yr : Has Y br #[.int .i64 x1, .int .u32 x2] 25 := by rw [← hY]; infer_instance
  have yb : Has Y b (arC (some ⟨bo, 0, none⟩) L.length sts.length (spL sts) pg) 69 := by rw [← hY]; infer_instance
  have yo : Has Y bo #[.pointer ph] 63 := by rw [← hY]; infer_instance
  have yc : ∃ Y1, Cut Y Eh Y1 := ⟨_, by rw [← hY]; infer_instance⟩
  obtain ⟨Y1, yc⟩ := yc
  have hback : ∀ X w', St w0 bs w' (Eh ++ (X ++ Y1)) → St w0 bs w' (X ++ Y) := by
    obtain ⟨A, B, e1, e2⟩ := yc.h
    intro X w' h
    rw [e1]
    rw [e2] at h
    exact h.pick
  rw [hY] at hS hR
  clear hY hks hW hGw hG hT
  refine region_itemsE [⟨(undef, [⟨bv, #[.int .i64 0, .int .u32 0], 25, true⟩]), [(13, fun _ x => x.2 = [⟨bv, #[.int .i64 v1, .int .u32 v2], 25, true⟩])]⟩] Y (⟨bv, #[.int .i64 0, .int .u32 0], 25, true⟩ :: Y) (by simp) hS (by kernel_rfl) (by kernel_rfl) ?_
  (refine fx_val (fun _ => rfl) rfl (fun χ w hw => run_ld _ _ rfl hw) ?_)
  refine fx_val (fun _ => rfl) rfl (fun χ w hw => run_nc _ rfl) ?_
  refine fx_val (fun _ => rfl) rfl (fun χ w hw => run_fa _ _ _ rfl) ?_
  (refine fx_val (fun _ => rfl) rfl (fun χ w hw => run_ld _ _ rfl hw) ?_)
  refine fx_val (fun _ => rfl) rfl (fun χ w hw => run_nc _ rfl) ?_
  refine fx_val (fun _ => rfl) rfl (fun χ w hw => run_fa _ _ _ rfl) ?_
  (refine fx_val (fun _ => rfl) rfl (fun χ w hw => run_ld _ _ rfl hw) ?_)
  (refine fx_val (fun _ => rfl) rfl (fun χ w hw => run_lda _ _ rfl hw) ?_)
  (refine fx_val (fun _ => rfl) rfl (fun χ w hw => run_ld _ _ rfl hw) ?_)
  refine fx_ask 65 [_, _, _] _ rfl (fun _ => rfl) rfl (enters _ (by kernel_rfl)) (.tuple #[.agg #[.int .i64 v1, .int .u32 v2], .int .i64 e]) (fun X w hS => hp_load hS hH x1 x2 f (v1, v2) e hv'.out he'.out (fun w' _ hS' => ⟨rfl, hback _ _ hS'⟩)) ?_
  refine fx_val (fun _ => rfl) rfl (fun χ w hw => run_mv _ rfl) ?_
  refine fx_val (fun _ => rfl) rfl (fun χ w hw => run_ext _ _ rfl) ?_
  refine fx_val (fun _ => rfl) rfl (fun χ w hw => run_ext _ _ rfl) ?_
  refine fx_turn0 0 0 rfl rfl (by kernel_rfl) (by kernel_rfl) (by kernel_rfl) (fun _ => rfl) (fun _ => undef) ?_ ?_
  · rintro χ X w _ hS
    exact stepX_sta _ _ _ rfl (show St w0 bs w (⟨bv, #[.int .i64 0, .int .u32 0], 25, true⟩ :: (X ++ _)) from hS) (fun w' hS' => ⟨(undef, [⟨bv, #[.int .i64 v1, .int .u32 v2], 25, true⟩]), rfl, rfl, hS'⟩)
  refine fx_val (fun _ => rfl) rfl (fun χ w hw => run_as _ rfl) ?_
  refine fx_end rfl ?_
  intro χ w hok hS
  obtain ⟨hD, _⟩ := hok _ (.head _)
  have hD : (χ 13).2 = [⟨bv, #[.int .i64 v1, .int .u32 v2], 25, true⟩] := hD
  have hS : St w0 bs w (((χ 13).2 ++ []) ++ Y) := hS
  rw [hD, List.append_nil] at hS
  simp only [List.cons_append, List.nil_append] at hS
  clear hok hD
  by_cases h0 : e = 0
  · subst h0
    have q5 := refE (show refB v1 v2 0 0 = refB v1 v2 0 0 from rfl)
    have hxx : ldxE 0 (v1, v2) = if refB v1 v2 0 0 then 5 else 0 := by simp [ldxE]
    rw [hxx] at hR
    cases hb : refB v1 v2 0 0 with
    | true =>
      rw [hb] at hR q5
      go_wp2_with (first | (refine wpList_is (.binOp .eql 25 _ _ _) rfl ?_; refine wpList_stp (by kernel_rfl) (stp_val (run_aeq _ _ _ _ rfl) ?_)) | (refine wpList_is (.build _ _) rfl ?_; go_must (refine wpList_stp (by kernel_rfl) (stp_val (run_bd _ _ rfl) ?_))) | (refine wpList_is (.load _ _) rfl ?_; go_must ((refine wpList_stp (by kernel_rfl) (stp_val (run_lda _ _ rfl hS) ?_)))))
      exact hR _ hS.pick
    | false =>
      rw [hb] at hR q5
      go_wp2_with (first | (refine wpList_is (.binOp .eql 25 _ _ _) rfl ?_; refine wpList_stp (by kernel_rfl) (stp_val (run_aeq _ _ _ _ rfl) ?_)) | (refine wpList_is (.build _ _) rfl ?_; go_must (refine wpList_stp (by kernel_rfl) (stp_val (run_bd _ _ rfl) ?_))) | (refine wpList_is (.load _ _) rfl ?_; go_must ((refine wpList_stp (by kernel_rfl) (stp_val (run_lda _ _ rfl hS) ?_)))))
      exact hR _ hS.pick
  · have q7 : (e == 0) = false := beq_eq_false_iff_ne.2 h0
    have q8 : decide (e = 0) = false := decide_eq_false h0
    have hxx : ldxE e (v1, v2) = e := by unfold ldxE; rw [if_neg h0]
    rw [hxx] at hR
    go_wp2_with ((go_skip))
    exact hR _ hS.pick

theorem gtO_wr {o : Ob} (hW : ObW o) (i : Int) : wrR (gtO o i) = false ∧ 0 ≤ (gtO o i).2 ∧ (gtO o i).2 ≤ 4294967295 := by
  unfold gtO
  split
  · next hin =>
    simp only [inF, Bool.and_eq_true, decide_eq_true_eq] at hin
    obtain ⟨k, rfl⟩ := Int.eq_ofNat_of_zero_le hin.1
    rw [Int.toNat_natCast]
    have hok := hW.ok
    simp only [okO, Bool.and_eq_true, decide_eq_true_eq, List.all_eq_true] at hok
    have hk4 : k < 4 := by omega
    have hkl : k < o.2.1.length := by rw [hW.len]; exact hk4
    refine ⟨?_, hW.gn _ (by rw [List.getD_eq_getElem?_getD, List.getElem?_eq_getElem hkl]; exact List.getElem_mem hkl)⟩
    cases hz : nzR (o.2.1.getD k (0, 0)) with
    | false => unfold wrR; rw [hz]; rfl
    | true =>
      have := hok.2 k (by unfold gl; rw [List.mem_filter, List.mem_range]; exact ⟨hk4, hz⟩)
      simp only [badF, Bool.not_eq_true', Bool.or_eq_false_iff] at this
      exact this.2
  · exact ⟨by decide, by decide, by decide⟩
theorem ldR_wr {p : Option Addr} {L : List Hs} {Eh : List Ent} (hT : HA p (some (some L)) Eh) (s g i : Int) : wrR (ldR (some (some L)) s g i) = false ∧ 0 ≤ (ldR (some (some L)) s g i).2 ∧ (ldR (some (some L)) s g i).2 ≤ 4294967295 := by
  unfold ldR
  split
  · next h =>
    obtain ⟨L2, j, hL2, rfl, hj, _, _, _, ho⟩ := wi_zero h
    obtain ⟨⟩ := hL2
    rw [ho]
    exact gtO_wr (hT.1.at hj) i
  · exact ⟨by decide, by decide, by decide⟩
theorem wr_bd {r : Rf} (h : wrR r = false) (hz : refB r.1 r.2 0 0 = false) : (0 ≤ r.1 ∧ r.1 < 256) ∧ 1 ≤ r.2 := by
  unfold wrR nzR at h
  rw [hz] at h
  simp only [Bool.not_false, Bool.true_and, Bool.or_eq_false_iff, decide_eq_false_iff_not] at h
  omega
theorem ldV_wr {p : Option Addr} {T : Ar} {Eh : List Ent} (hT : HA p (some (some T.1)) Eh) (m i f : Int) : wrR (ldV T m i f) = false ∧ 0 ≤ (ldV T m i f).2 ∧ (ldV T m i f).2 ≤ 4294967295 := by
  unfold ldV
  split
  · exact ldR_wr hT _ _ _
  · exact ⟨by decide, by decide, by decide⟩
end Go.Proofs.YtjlihigodggfcaaGreat
