/-
  The document's arenas: Load, Get, Make.
-/
import Derived.Test.YtjlihigodggfcaaGreatRarC
set_option linter.unusedSimpArgs false
set_option linter.unusedVariables false
namespace Go.Proofs.YtjlihigodggfcaaGreat
open Go Go.RowKit Go.Mm
variable {R : Ending → World → Prop} {w : World} {w0 : World} {bs : List Nat} {H H' H1 H2 E Z : List Ent}
theorem inM_of {T : Ar} {m i : Int} (h : rtE T m i = 0) : inM T m = true := by
  cases hm : inM T m with
  | true => rfl
  | false => rw [no_rtE hm] at h; cases h
theorem ld_no {T : Ar} {m i : Int} (h : rtE T m i ≠ 0) (f : Int) : ldAT T m i f = T ∧ ldAR T m i f = (0, 0) ∧ ldAE T m i f = rtE T m i := by
  have e : ldAE T m i f = rtE T m i := by
    unfold ldAE
    cases hm : inM T m with
    | true => rw [if_pos rfl]; unfold ldX; rw [if_neg h, if_pos h]
    | false => rw [no_rtE hm]; rfl
  exact ⟨by unfold ldAT; rw [e, if_neg h], by unfold ldAR; rw [e, if_neg h], e⟩
theorem ld_x {T : Ar} {m i f : Int} (h0 : rtE T m i = 0) {x v : Rf} {e : Int} (hx : rtR T m i = x) (hv : ldR (some (some T.1)) x.1 x.2 f = v) (he : ldE (some (some T.1)) x.1 x.2 f = e) : ldV T m i f = v ∧ ldX T m i f = ldxE e v := by
  have hV : ldV T m i f = v := by unfold ldV; rw [if_pos h0, hx, hv]
  refine ⟨hV, ?_⟩
  unfold ldX
  rw [if_pos h0, hx, he, hV]
theorem ld_er {T : Ar} {m i f : Int} (h0 : rtE T m i = 0) {q : Int} (hX : ldX T m i f = q) (hq : q ≠ 0) : ldAT T m i f = T ∧ ldAR T m i f = (0, 0) ∧ ldAE T m i f = q := by
  have e : ldAE T m i f = q := by unfold ldAE; rw [inM_of h0, if_pos rfl, hX, if_pos hq]
  exact ⟨by unfold ldAT; rw [e, if_neg hq], by unfold ldAR; rw [e, if_neg hq], e⟩
theorem ld_fl {T : Ar} {m i f : Int} (h0 : rtE T m i = 0) (hX : ldX T m i f = 0) (hl : 32 ≤ (rtL T m).length) : ldAT T m i f = T ∧ ldAR T m i f = (0, 0) ∧ ldAE T m i f = 4 := by
  have e : ldAE T m i f = 4 := by unfold ldAE; rw [inM_of h0, if_pos rfl, hX, if_neg (by decide), if_pos hl]
  exact ⟨by unfold ldAT; rw [e, if_neg (by decide)], by unfold ldAR; rw [e, if_neg (by decide)], e⟩
theorem ld_ok {T : Ar} {m i f : Int} (h0 : rtE T m i = 0) (hX : ldX T m i f = 0) (hl : ¬ 32 ≤ (rtL T m).length) {v : Rf} (hv : ldV T m i f = v) : ldAT T m i f = giT T m v ∧ ldAR T m i f = v ∧ ldAE T m i f = 0 := by
  have e : ldAE T m i f = 0 := by unfold ldAE; rw [inM_of h0, if_pos rfl, hX, if_neg (by decide), if_neg hl]
  exact ⟨by unfold ldAT; rw [e, if_pos rfl, hv], by unfold ldAR; rw [e, if_pos rfl, hv], e⟩
set_option maxHeartbeats 1000000 in
set_option maxRecDepth 100000 in
theorem rr_load {p : Option Addr} {T : Ar} (hO : St w0 bs w H) (hT : AR p T E Z) [hc : Cut H E H1] [hz : Cut H1 Z H2] (m i f : Int) (T' : Ar) (r : Rf) (e : Int) (hT' : ldAT T m i f = T') (hr : ldAR T m i f = r) (he : ldAE T m i f = e)
    (hR : ∀ E' X w', AR p T' E' (X ++ Z) → St w0 bs w' (E' ++ (X ++ (Z ++ H2))) → Ret R (.tuple #[.agg #[.int .i64 r.1, .int .u32 r.2], .int .i64 e]) w') : Calls Tryz.prog 28 #[.pointer p, .int .i64 m, .int .i64 i, .int .i64 f] w R := by
  subst hT' hr he
  obtain ⟨⟨x1, x2⟩, hx⟩ : ∃ x, rtR T m i = x := ⟨_, rfl⟩
  obtain ⟨e1, h0e⟩ : ∃ e, rtE T m i = e := ⟨_, rfl⟩
  by_cases h0 : e1 = 0
  case neg =>
    have hS := hO.front (E := E) (H1 := H1)
    have hS : St w0 bs w (E ++ (Z ++ H2)) := hS.pick
    clear hO
    obtain ⟨a1, a2, a3⟩ := ld_no (f := f) (show rtE T m i ≠ 0 by rw [h0e]; exact h0)
    rw [a1, a2, a3, h0e] at hR
    have d : decide (e1 = 0) = false := decide_eq_false h0
    have q : (e1 != 0) = true := by simpa using h0
    clear a1 a2 a3
    go_enter Tryz.func28, Tryz.ntmps28
    go_wp2_with (first | (refine wpList_is (o := ⟨some 8, _, _, _, _, _⟩) (.alloc _) rfl ?_; go_must (refine wpList_stp rfl (stp_al _ rfl hS ?_)); clear hS; intro b8 w _ hS) | (refine wpList_is (o := ⟨some 10, _, _, _, _, _⟩) (.alloc _) rfl ?_; go_must (refine wpList_stp rfl (stp_al _ rfl hS ?_)); clear hS; intro b10 w _ hS) | (go_at_call 33; refine rr_root hS hT m i _ _ hx h0e ?_; clear hS; intro w hS; unfold Ret) | (refine wpList_is (.build _ _) rfl ?_; go_must (refine wpList_stp (by kernel_rfl) (stp_val (run_bd _ _ rfl) ?_))) | (refine wpList_is (.store _ _ _) rfl ?_; go_must ((refine wpList_stp (by kernel_rfl) (stp_sta _ _ _ rfl hS ?_))); clear hS; intro w hS))
    refine bodyPost_ret (res_ct rfl hS) rfl ?_
    refine hR E [] _ hT ?_
    simp only [List.nil_append]
    exact hS.pick
  subst h0
  have hm := inM_of h0e
  obtain ⟨⟨v1, v2⟩, hv⟩ : ∃ v, ldR (some (some T.1)) x1 x2 f = v := ⟨_, rfl⟩
  obtain ⟨e2, he2⟩ : ∃ e, ldE (some (some T.1)) x1 x2 f = e := ⟨_, rfl⟩
  obtain ⟨hV, hX⟩ := ld_x h0e hx hv he2
  have hV' := Lib.hid hV
  have hX' := Lib.hid hX
  have hR' := Lib.hid hR
  have hv' := Lib.hid hv
  have he2' := Lib.hid he2
  have hx' := Lib.hid hx
  have hm' := Lib.hid hm
  clear hV hX hR hv he2
  have hS := hO.front (E := E) (H1 := H1)
  have hS : St w0 bs w (E ++ (Z ++ H2)) := hS.pick
  clear hO
  obtain ⟨L, ks, G⟩ := T
  obtain ⟨b, ph, Eh, g, cap, vs, sp, rfl, hH, hvl, hvz, h1, h4, hcap, hG8, h32, hE⟩ := id hT
  have hE' := Lib.hid hE
  clear hE
  simp only at hvl hvz hG8 h32 hH
  clear hvz h32 hm
  go_enter Tryz.func28, Tryz.ntmps28
  go_wp2_with (first | (refine wpList_is (o := ⟨some 8, _, _, _, _, _⟩) (.alloc _) rfl ?_; go_must (refine wpList_stp rfl (stp_al _ rfl hS ?_)); clear hS; intro b8 w _ hS) | (refine wpList_is (o := ⟨some 10, _, _, _, _, _⟩) (.alloc _) rfl ?_; go_must (refine wpList_stp rfl (stp_al _ rfl hS ?_)); clear hS; intro b10 w _ hS) | (go_at_call 33; refine rr_root hS hT m i _ _ hx h0e ?_; clear hS; intro w hS; unfold Ret) | (refine wpList_is (.store _ _ _) rfl ?_; go_must ((refine wpList_stp (by kernel_rfl) (stp_sta _ _ _ rfl hS ?_))); clear hS; intro w hS))
  rw [hE'.out] at hS
  simp only [List.cons_append] at hS
  refine region_itemsE [⟨(undef, []), [(10, fun _ x => ∃ b', x = (.pointer (some ⟨b', 0, none⟩), [⟨b', #[.int .i64 0, .int .u32 0], 25, true⟩])), (11, fun y x => ∃ b', y.1 = .pointer (some ⟨b', 0, none⟩) ∧ x.2 = [⟨b', #[.int .i64 v1, .int .u32 v2], 25, true⟩])]⟩] (⟨b10, #[.int .i64 x1, .int .u32 x2], 25, true⟩ :: ⟨b8, #[.int .i64 0, .int .u32 0], 25, true⟩ :: ⟨b, arR L.length ph (.slice (some ⟨g, 0, none⟩) vs.length cap) G, 77, true⟩ :: ⟨g, ovB vs sp, 81, true⟩ :: (Eh ++ (Z ++ H2))) (⟨b10, #[.int .i64 x1, .int .u32 x2], 25, true⟩ :: ⟨b8, #[.int .i64 0, .int .u32 0], 25, true⟩ :: ⟨b, arR L.length ph (.slice (some ⟨g, 0, none⟩) vs.length cap) G, 77, true⟩ :: ⟨g, ovB vs sp, 81, true⟩ :: (Eh ++ (Z ++ H2))) (by simp) hS.pick (by kernel_rfl) (by kernel_rfl) ?_
  refine fx_val (fun _ => rfl) rfl (fun χ w hw => run_mv _ rfl) ?_
  refine fx_val (fun _ => rfl) rfl (fun χ w hw => run_nc _ rfl) ?_
  refine fx_val (fun _ => rfl) rfl (fun χ w hw => run_fa _ _ _ rfl) ?_
  (refine fx_val (fun _ => rfl) rfl (fun χ w hw => run_ld _ _ rfl hw) ?_)
  (refine fx_val (fun _ => rfl) rfl (fun χ w hw => run_lda _ _ rfl hw) ?_)
  refine fx_val (fun _ => rfl) rfl (fun χ w hw => run_mv _ rfl) ?_
  refine fx_ask 80 [_, _, _] _ rfl (fun _ => rfl) rfl (enters _ (by kernel_rfl)) (.tuple #[.agg #[.int .i64 v1, .int .u32 v2], .int .i64 e2]) (fun X w hS => rh_load (show St w0 bs w (X ++ (_ :: _ :: _ :: _ :: (Eh ++ _))) from hS) hH x1 x2 f (v1, v2) e2 hv'.out he2'.out (fun w' _ hS' => ⟨rfl, hS'.pick⟩)) ?_
  refine fx_val (fun _ => rfl) rfl (fun χ w hw => run_mv _ rfl) ?_
  refine fx_val (fun _ => rfl) rfl (fun χ w hw => run_ext _ _ rfl) ?_
  refine fx_val (fun _ => rfl) rfl (fun χ w hw => run_ext _ _ rfl) ?_
  refine fx_turn0 0 0 rfl rfl (by kernel_rfl) (by kernel_rfl) (by kernel_rfl) (fun _ => rfl) (fun x => x.1) ?_ ?_
  · intro χ X w _ hS
    exact stepX_al _ rfl (show St w0 bs w (X ++ _) from hS) (fun b' w' _ hS' => ⟨(_, [_]), rfl, ⟨b', rfl⟩, hS'⟩)
  refine fx_turn0 0 1 rfl rfl (by kernel_rfl) (by kernel_rfl) (by kernel_rfl) (fun _ => rfl) (fun _ => undef) ?_ ?_
  · rintro χ X w ⟨⟨b', hb⟩, _⟩ hS
    have hS : St w0 bs w ((χ 10).2 ++ (X ++ _)) := hS
    rw [hb] at hS
    have hS : St w0 bs w (⟨b', #[.int .i64 0, .int .u32 0], 25, true⟩ :: (X ++ _)) := hS
    have hb1 : (χ 10).1 = .pointer (some ⟨b', 0, none⟩) := by rw [hb]
    exact stepX_stb _ _ _ rfl hS hb1 (fun w' hS' => ⟨(undef, [⟨b', #[.int .i64 v1, .int .u32 v2], 25, true⟩]), rfl, ⟨b', hb1, rfl⟩, hS'⟩)
  refine fx_val (fun _ => rfl) rfl (fun χ w hw => run_as _ rfl) ?_
  refine fx_end rfl ?_
  intro χ w hok hS
  obtain ⟨⟨bo, hb⟩, ⟨bo', hb1, hb2⟩, _⟩ := hok _ (.head _)
  rw [hb] at hb1
  obtain ⟨⟩ := hb1
  have hS : St w0 bs w (((χ 11).2 ++ []) ++ (⟨b10, #[.int .i64 x1, .int .u32 x2], 25, true⟩ :: ⟨b8, #[.int .i64 0, .int .u32 0], 25, true⟩ :: ⟨b, arR L.length ph (.slice (some ⟨g, 0, none⟩) vs.length cap) G, 77, true⟩ :: ⟨g, ovB vs sp, 81, true⟩ :: (Eh ++ (Z ++ H2)))) := hS
  rw [hb2] at hS
  simp only [List.cons_append, List.nil_append] at hS
  simp only [hb]
  clear hok hb2 hb
  have hS : St w0 bs w (E ++ (Z ++ (⟨bo, #[.int .i64 v1, .int .u32 v2], 25, true⟩ :: ⟨b10, #[.int .i64 x1, .int .u32 x2], 25, true⟩ :: ⟨b8, #[.int .i64 0, .int .u32 0], 25, true⟩ :: H2))) := by rw [hE'.out]; simp only [List.cons_append]; exact hS.pick

  have hX := hX'.out
  have hm := hm'.out
  by_cases h2 : e2 = 0
  case neg =>
    have d : decide (e2 = 0) = false := decide_eq_false h2
    have q : (e2 != 0) = true := by simpa using h2
    have hX2 : ldX (L, ks, G) m i f = e2 := by rw [hX]; unfold ldxE; rw [if_neg h2]
    obtain ⟨a1, a2, a3⟩ := ld_er h0e hX2 h2
    have hR := hR'.out
    rw [a1, a2, a3] at hR
    clear a1 a2 a3 hX hX2 hm
    go_wp2_with (first | (refine wpList_is (.build _ _) rfl ?_; go_must (refine wpList_stp (by kernel_rfl) (stp_val (run_bd _ _ rfl) ?_))) | (refine wpList_is (.store _ _ _) rfl ?_; go_must ((refine wpList_stp (by kernel_rfl) (stp_sta _ _ _ rfl hS ?_))); clear hS; intro w hS))
    refine bodyPost_ret (res_ct rfl hS) rfl ?_
    refine hR E [] _ hT ?_
    simp only [List.nil_append]
    exact hS.pick
  subst h2
  cases hz0 : refB v1 v2 0 0 with
  | true =>
    have q := refE hz0
    have hX2 : ldX (L, ks, G) m i f = 5 := by rw [hX]; unfold ldxE; rw [if_pos rfl, if_pos hz0]
    obtain ⟨a1, a2, a3⟩ := ld_er h0e hX2 (by decide)
    have hR := hR'.out
    rw [a1, a2, a3] at hR
    clear a1 a2 a3 hX hX2 hm hz0
    go_wp2_with (first | (refine wpList_is (.binOp .eql _ _ _ _) rfl ?_; refine wpList_stp (by kernel_rfl) (stp_val (run_aeq _ _ _ _ rfl) ?_)) | (refine wpList_is (.build _ _) rfl ?_; go_must (refine wpList_stp (by kernel_rfl) (stp_val (run_bd _ _ rfl) ?_))) | (refine wpList_is (.load _ _) rfl ?_; go_must ((refine wpList_stp (by kernel_rfl) (stp_val (run_lda _ _ rfl hS) ?_)))) | (refine wpList_is (.store _ _ _) rfl ?_; go_must ((refine wpList_stp (by kernel_rfl) (stp_sta _ _ _ rfl hS ?_))); clear hS; intro w hS))
    refine bodyPost_ret (res_ct rfl hS) rfl ?_
    refine hR E [] _ hT ?_
    simp only [List.nil_append]
    exact hS.pick
  | false =>
    have q := refE hz0
    have hX2 : ldX (L, ks, G) m i f = 0 := by rw [hX]; unfold ldxE; rw [if_pos rfl, if_neg (by rw [hz0]; decide)]
    by_cases hl : 32 ≤ (rtL (L, ks, G) m).length
    · have hfl : decide (32 ≤ (rtL (L, ks, G) m).length) = true := decide_eq_true hl
      obtain ⟨a1, a2, a3⟩ := ld_fl h0e hX2 hl
      have hR := hR'.out
      rw [a1, a2, a3] at hR
      clear a1 a2 a3 hX hX2 hz0 hl
      go_wp2_with (first | (go_at_call 77; refine rr_full hS hT m hm _ hfl ?_; clear hS; intro w hS; unfold Ret) | (refine wpList_is (.binOp .eql _ _ _ _) rfl ?_; refine wpList_stp (by kernel_rfl) (stp_val (run_aeq _ _ _ _ rfl) ?_)) | (refine wpList_is (.build _ _) rfl ?_; go_must (refine wpList_stp (by kernel_rfl) (stp_val (run_bd _ _ rfl) ?_))) | (refine wpList_is (.load _ _) rfl ?_; go_must ((refine wpList_stp (by kernel_rfl) (stp_val (run_lda _ _ rfl hS) ?_)))) | (refine wpList_is (.store _ _ _) rfl ?_; go_must ((refine wpList_stp (by kernel_rfl) (stp_sta _ _ _ rfl hS ?_))); clear hS; intro w hS))
      refine bodyPost_ret (res_ct rfl hS) rfl ?_
      refine hR E [] _ hT ?_
      simp only [List.nil_append]
      exact hS.pick
    · have hfl : decide (32 ≤ (rtL (L, ks, G) m).length) = false := decide_eq_false hl
      have hlt : (rtL (L, ks, G) m).length < 32 := by omega
      obtain ⟨a1, a2, a3⟩ := ld_ok h0e hX2 hl hV'.out
      have hR := hR'.out
      rw [a1, a2, a3] at hR
      clear a1 a2 a3 hX hX2 hz0 hl
      go_wp2_with (first | (go_at_call 77; refine rr_full hS hT m hm _ hfl ?_; clear hS; intro w hS; unfold Ret) | (go_at_call 79; refine rr_give hS hT m hm hlt (v1, v2) _ rfl ?_; clear hS; intro E2 X2 w hT2 hS; unfold Ret) | (refine wpList_is (.binOp .eql _ _ _ _) rfl ?_; refine wpList_stp (by kernel_rfl) (stp_val (run_aeq _ _ _ _ rfl) ?_)) | (refine wpList_is (.build _ _) rfl ?_; go_must (refine wpList_stp (by kernel_rfl) (stp_val (run_bd _ _ rfl) ?_))) | (refine wpList_is (.load _ _) rfl ?_; go_must ((refine wpList_stp (by kernel_rfl) (stp_val (run_lda _ _ rfl hS) ?_)))) | (refine wpList_is (.store _ _ _) rfl ?_; go_must ((refine wpList_stp (by kernel_rfl) (stp_sta _ _ _ rfl hS ?_))); clear hS; intro w hS))
      refine bodyPost_ret (res_ct rfl hS) rfl ?_
      exact hR E2 X2 _ hT2 hS.pick
theorem gt_er {T : Ar} {m f : Int} (hm : inM T m = true) {q : Int} (hX : gtX T f = q) (hq : q ≠ 0) : gtAT T m f = T ∧ gtAR T m f = (0, 0) ∧ gtAE T m f = q := by
  have e : gtAE T m f = q := by unfold gtAE; rw [hm, if_pos rfl, hX, if_pos hq]
  exact ⟨by unfold gtAT; rw [e, if_neg hq], by unfold gtAR; rw [e, if_neg hq], e⟩
theorem gt_fl {T : Ar} {m f : Int} (hm : inM T m = true) (hX : gtX T f = 0) (hl : 32 ≤ (rtL T m).length) : gtAT T m f = T ∧ gtAR T m f = (0, 0) ∧ gtAE T m f = 4 := by
  have e : gtAE T m f = 4 := by unfold gtAE; rw [hm, if_pos rfl, hX, if_neg (by decide), if_pos hl]
  exact ⟨by unfold gtAT; rw [e, if_neg (by decide)], by unfold gtAR; rw [e, if_neg (by decide)], e⟩
theorem gt_ok {T : Ar} {m f : Int} (hm : inM T m = true) (hX : gtX T f = 0) (hl : ¬ 32 ≤ (rtL T m).length) {v : Rf} (hv : gtR (some (true, T.2.2)) f = v) : gtAT T m f = giT T m v ∧ gtAR T m f = v ∧ gtAE T m f = 0 := by
  have e : gtAE T m f = 0 := by unfold gtAE; rw [hm, if_pos rfl, hX, if_neg (by decide), if_neg hl]
  exact ⟨by unfold gtAT; rw [e, if_pos rfl, hv], by unfold gtAR; rw [e, if_pos rfl, hv], e⟩
set_option maxHeartbeats 1000000 in
set_option maxRecDepth 100000 in
theorem rr_get {p : Option Addr} {T : Ar} (hO : St w0 bs w H) (hT : AR p T E Z) [hc : Cut H E H1] [hz : Cut H1 Z H2] (m f : Int) (T' : Ar) (r : Rf) (e : Int) (hT' : gtAT T m f = T') (hr : gtAR T m f = r) (he : gtAE T m f = e)
    (hR : ∀ E' X w', AR p T' E' (X ++ Z) → St w0 bs w' (E' ++ (X ++ (Z ++ H2))) → Ret R (.tuple #[.agg #[.int .i64 r.1, .int .u32 r.2], .int .i64 e]) w') : Calls Tryz.prog 32 #[.pointer p, .int .i64 m, .int .i64 f] w R := by
  subst hT' hr he
  cases hm : inM T m with
  | false =>
    have hmu : muE T m = 3 := by unfold muE; rw [hm]; rfl
    have hS := hO.front (E := E) (H1 := H1)
    have hS : St w0 bs w (E ++ (Z ++ H2)) := hS.pick
    clear hO
    obtain ⟨a1, a2, a3⟩ := no_gt hm f
    rw [a1, a2, a3] at hR
    clear a1 a2 a3
    go_enter Tryz.func32, Tryz.ntmps32
    go_wp2_with (first | (refine wpList_is (o := ⟨some 6, _, _, _, _, _⟩) (.alloc _) rfl ?_; go_must (refine wpList_stp rfl (stp_al _ rfl hS ?_)); clear hS; intro b6 w _ hS) | (go_at_call 75; refine rr_mutator hS hT m _ hmu ?_; clear hS; intro w hS; unfold Ret) | (refine wpList_is (.build _ _) rfl ?_; go_must (refine wpList_stp (by kernel_rfl) (stp_val (run_bd _ _ rfl) ?_))) | (refine wpList_is (.store _ _ _) rfl ?_; go_must ((refine wpList_stp (by kernel_rfl) (stp_sta _ _ _ rfl hS ?_))); clear hS; intro w hS))
    refine bodyPost_ret (res_ct rfl hS) rfl ?_
    refine hR E [] _ hT ?_
    simp only [List.nil_append]
    exact hS.pick
  | true =>
    have hmu : muE T m = 0 := by unfold muE; rw [hm]; rfl
    have hS := hO.front (E := E) (H1 := H1)
    have hS : St w0 bs w (E ++ (Z ++ H2)) := hS.pick
    clear hO
    obtain ⟨L, ks, G⟩ := T
    obtain ⟨b, ph, Eh, g, cap, vs, sp, rfl, hH, hvl, hvz, h1, h4, hcap, hG8, h32, hE⟩ := id hT
    have hE' := Lib.hid hE
    clear hE
    simp only at hvl hvz hG8 h32 hH
    cases hf : inV f with
    | false =>
      have hX : gtX (L, ks, G) f = 3 := by unfold gtX; simp [vE, hf, ldxE, vOk]
      obtain ⟨a1, a2, a3⟩ := gt_er hm hX (by decide)
      rw [a1, a2, a3] at hR
      have hf2 : f < 0 ∨ 8 ≤ f := by
        unfold inV at hf
        simp only [Bool.and_eq_false_iff, decide_eq_false_iff_not] at hf
        omega
      clear a1 a2 a3 hX hf hvz h32 hm
      rcases hf2 with hf2 | hf2
      · have d : decide (f < 0) = true := decide_eq_true hf2
        go_enter Tryz.func32, Tryz.ntmps32
        go_wp2_with (first | (refine wpList_is (o := ⟨some 6, _, _, _, _, _⟩) (.alloc _) rfl ?_; go_must (refine wpList_stp rfl (stp_al _ rfl hS ?_)); clear hS; intro b6 w _ hS) | (go_at_call 75; refine rr_mutator hS hT m _ hmu ?_; clear hS; intro w hS; unfold Ret) | (refine wpList_is (.build _ _) rfl ?_; go_must (refine wpList_stp (by kernel_rfl) (stp_val (run_bd _ _ rfl) ?_))) | (refine wpList_is (.store _ _ _) rfl ?_; go_must ((refine wpList_stp (by kernel_rfl) (stp_sta _ _ _ rfl hS ?_))); clear hS; intro w hS))
        refine bodyPost_ret (res_ct rfl hS) rfl ?_
        refine hR E [] _ hT ?_
        simp only [List.nil_append]
        exact hS.pick
      · have d : decide (f < 0) = false := decide_eq_false (by omega)
        have d2 : decide (8 ≤ f) = true := decide_eq_true hf2
        go_enter Tryz.func32, Tryz.ntmps32
        go_wp2_with (first | (refine wpList_is (o := ⟨some 6, _, _, _, _, _⟩) (.alloc _) rfl ?_; go_must (refine wpList_stp rfl (stp_al _ rfl hS ?_)); clear hS; intro b6 w _ hS) | (go_at_call 75; refine rr_mutator hS hT m _ hmu ?_; clear hS; intro w hS; unfold Ret) | (refine wpList_is (.build _ _) rfl ?_; go_must (refine wpList_stp (by kernel_rfl) (stp_val (run_bd _ _ rfl) ?_))) | (refine wpList_is (.store _ _ _) rfl ?_; go_must ((refine wpList_stp (by kernel_rfl) (stp_sta _ _ _ rfl hS ?_))); clear hS; intro w hS))
        refine bodyPost_ret (res_ct rfl hS) rfl ?_
        refine hR E [] _ hT ?_
        simp only [List.nil_append]
        exact hS.pick
    | true =>
      obtain ⟨k, rfl, hk8, hkn⟩ := inV_yes hf
      obtain ⟨⟨v1, v2⟩, hv⟩ : ∃ x, G.getD k (0, 0) = x := ⟨_, rfl⟩
      have hx2 : G[k]? = some (v1, v2) := by rw [← hv, List.getD_eq_getElem?_getD, List.getElem?_eq_getElem (show k < G.length by omega)]; rfl
      have hb := arRG (z := L.length) (ph := ph) (v := .slice (some ⟨g, 0, none⟩) vs.length cap) hx2
      have hgi := rr_gi (b := b) hk8
      have d2 : decide ((8 : Int) ≤ (k : Int)) = false := decide_eq_false (by omega)
      have d3 : decide (8 ≤ k) = false := decide_eq_false (by omega)
      have hE0 : vE (some (true, G)) (k : Int) = 0 := by simp [vE, hf, vOk]
      have hV : gtR (some (true, G)) (k : Int) = (v1, v2) := by rw [← hv]; unfold gtR; rw [hE0, if_pos rfl]; rfl
      simp only at hb
      clear hx2 hv hf
      cases hz0 : refB v1 v2 0 0 with
      | true =>
        have q := refE hz0
        have hX2 : gtX (L, ks, G) k = 5 := by unfold gtX; simp only; rw [hE0, hV]; unfold ldxE; rw [if_pos rfl, if_pos hz0]
        obtain ⟨a1, a2, a3⟩ := gt_er hm hX2 (by decide)
        rw [a1, a2, a3] at hR
        clear a1 a2 a3 hX2 hz0 hvz h32 hm hE0 hV
        go_enter Tryz.func32, Tryz.ntmps32
        go_wp2_with (first | (refine wpList_is (o := ⟨some 6, _, _, _, _, _⟩) (.alloc _) rfl ?_; go_must (refine wpList_stp rfl (stp_al _ rfl hS ?_)); clear hS; intro b6 w _ hS) | (refine wpList_is (o := ⟨some 9, _, _, _, _, _⟩) (.alloc _) rfl ?_; go_must (refine wpList_stp rfl (stp_al _ rfl hS ?_)); clear hS; intro b9 w _ hS) | (go_at_call 75; refine rr_mutator hS hT m _ hmu ?_; clear hS; intro w hS; rw [hE'.out] at hS; simp only [List.cons_append] at hS; unfold Ret) | (refine wpList_is (.binOp .eql _ _ _ _) rfl ?_; refine wpList_stp (by kernel_rfl) (stp_val (run_aeq _ _ _ _ rfl) ?_)) | (refine wpList_is (.indexAddr _ _ _) rfl ?_; refine wpList_stp (by kernel_rfl) (stp_val (run_idxv _ _ _ rfl) ?_)) | (refine wpList_is (.build _ _) rfl ?_; go_must (refine wpList_stp (by kernel_rfl) (stp_val (run_bd _ _ rfl) ?_))) | (refine wpList_is (.load _ _) rfl ?_; go_must ((refine wpList_stp (by kernel_rfl) (stp_val (run_lda _ _ rfl hS) ?_)))) | (refine wpList_is (.store _ _ _) rfl ?_; go_must ((refine wpList_stp (by kernel_rfl) (stp_sta _ _ _ rfl hS ?_))); clear hS; intro w hS))
        refine bodyPost_ret (res_ct rfl hS) rfl ?_
        refine hR E [] _ hT ?_
        rw [hE'.out]
        simp only [List.nil_append, List.cons_append]
        exact hS.pick
      | false =>
        have q := refE hz0
        have hX2 : gtX (L, ks, G) k = 0 := by unfold gtX; simp only; rw [hE0, hV]; unfold ldxE; rw [if_pos rfl, if_neg (by rw [hz0]; decide)]
        by_cases hl : 32 ≤ (rtL (L, ks, G) m).length
        · have hfl : decide (32 ≤ (rtL (L, ks, G) m).length) = true := decide_eq_true hl
          obtain ⟨a1, a2, a3⟩ := gt_fl hm hX2 hl
          rw [a1, a2, a3] at hR
          clear a1 a2 a3 hX2 hz0 hl hvz h32 hE0 hV
          go_enter Tryz.func32, Tryz.ntmps32
          go_wp2_with (first | (refine wpList_is (o := ⟨some 6, _, _, _, _, _⟩) (.alloc _) rfl ?_; go_must (refine wpList_stp rfl (stp_al _ rfl hS ?_)); clear hS; intro b6 w _ hS) | (refine wpList_is (o := ⟨some 9, _, _, _, _, _⟩) (.alloc _) rfl ?_; go_must (refine wpList_stp rfl (stp_al _ rfl hS ?_)); clear hS; intro b9 w _ hS) | (go_at_call 75; refine rr_mutator hS hT m _ hmu ?_; clear hS; intro w hS; rw [hE'.out] at hS; simp only [List.cons_append] at hS; unfold Ret) | (go_at_call 77; have hS : St w0 bs w (E ++ (Z ++ (⟨b9, #[.int .i64 v1, .int .u32 v2], 25, true⟩ :: ⟨b6, #[.int .i64 0, .int .u32 0], 25, true⟩ :: H2))) := (by rw [hE'.out]; simp only [List.cons_append]; exact hS.pick); refine rr_full hS hT m hm _ hfl ?_; clear hS; intro w hS; unfold Ret) | (refine wpList_is (.binOp .eql _ _ _ _) rfl ?_; refine wpList_stp (by kernel_rfl) (stp_val (run_aeq _ _ _ _ rfl) ?_)) | (refine wpList_is (.indexAddr _ _ _) rfl ?_; refine wpList_stp (by kernel_rfl) (stp_val (run_idxv _ _ _ rfl) ?_)) | (refine wpList_is (.build _ _) rfl ?_; go_must (refine wpList_stp (by kernel_rfl) (stp_val (run_bd _ _ rfl) ?_))) | (refine wpList_is (.load _ _) rfl ?_; go_must ((refine wpList_stp (by kernel_rfl) (stp_val (run_lda _ _ rfl hS) ?_)))) | (refine wpList_is (.store _ _ _) rfl ?_; go_must ((refine wpList_stp (by kernel_rfl) (stp_sta _ _ _ rfl hS ?_))); clear hS; intro w hS))
          refine bodyPost_ret (res_ct rfl hS) rfl ?_
          refine hR E [] _ hT ?_
          simp only [List.nil_append]
          exact hS.pick
        · have hfl : decide (32 ≤ (rtL (L, ks, G) m).length) = false := decide_eq_false hl
          have hlt : (rtL (L, ks, G) m).length < 32 := by omega
          obtain ⟨a1, a2, a3⟩ := gt_ok hm hX2 hl hV
          rw [a1, a2, a3] at hR
          clear a1 a2 a3 hX2 hz0 hl hvz h32 hE0 hV
          go_enter Tryz.func32, Tryz.ntmps32
          go_wp2_with (first | (refine wpList_is (o := ⟨some 6, _, _, _, _, _⟩) (.alloc _) rfl ?_; go_must (refine wpList_stp rfl (stp_al _ rfl hS ?_)); clear hS; intro b6 w _ hS) | (refine wpList_is (o := ⟨some 9, _, _, _, _, _⟩) (.alloc _) rfl ?_; go_must (refine wpList_stp rfl (stp_al _ rfl hS ?_)); clear hS; intro b9 w _ hS) | (go_at_call 75; refine rr_mutator hS hT m _ hmu ?_; clear hS; intro w hS; rw [hE'.out] at hS; simp only [List.cons_append] at hS; unfold Ret) | (go_at_call 77; have hS : St w0 bs w (E ++ (Z ++ (⟨b9, #[.int .i64 v1, .int .u32 v2], 25, true⟩ :: ⟨b6, #[.int .i64 0, .int .u32 0], 25, true⟩ :: H2))) := (by rw [hE'.out]; simp only [List.cons_append]; exact hS.pick); refine rr_full hS hT m hm _ hfl ?_; clear hS; intro w hS; unfold Ret) | (go_at_call 79; refine rr_give hS hT m hm hlt (v1, v2) _ rfl ?_; clear hS; intro E2 X2 w hT2 hS; unfold Ret) | (refine wpList_is (.binOp .eql _ _ _ _) rfl ?_; refine wpList_stp (by kernel_rfl) (stp_val (run_aeq _ _ _ _ rfl) ?_)) | (refine wpList_is (.indexAddr _ _ _) rfl ?_; refine wpList_stp (by kernel_rfl) (stp_val (run_idxv _ _ _ rfl) ?_)) | (refine wpList_is (.build _ _) rfl ?_; go_must (refine wpList_stp (by kernel_rfl) (stp_val (run_bd _ _ rfl) ?_))) | (refine wpList_is (.load _ _) rfl ?_; go_must ((refine wpList_stp (by kernel_rfl) (stp_val (run_lda _ _ rfl hS) ?_)))) | (refine wpList_is (.store _ _ _) rfl ?_; go_must ((refine wpList_stp (by kernel_rfl) (stp_sta _ _ _ rfl hS ?_))); clear hS; intro w hS))
          refine bodyPost_ret (res_ct rfl hS) rfl ?_
          exact hR E2 X2 _ hT2 hS.pick
theorem mk_er {T : Ar} {m n : Int} {h : Bool} (hm : inM T m = true) (hn : nwOE n h ≠ 0) : mkAT T m n h = T ∧ mkAR T m n h = (0, 0) ∧ mkAE T m n h = nwOE n h := by
  have e : mkAE T m n h = nwOE n h := by unfold mkAE; rw [hm, if_pos rfl, if_pos hn]
  exact ⟨by unfold mkAT; rw [e, if_neg hn], by unfold mkAR; rw [e, if_neg hn], e⟩
theorem mk_fl {T : Ar} {m n : Int} {h : Bool} (hm : inM T m = true) (hn : nwOE n h = 0) (hl : 32 ≤ (rtL T m).length) : mkAT T m n h = T ∧ mkAR T m n h = (0, 0) ∧ mkAE T m n h = 4 := by
  have e : mkAE T m n h = 4 := by unfold mkAE; rw [hm, if_pos rfl, hn, if_neg (by decide), if_pos hl]
  exact ⟨by unfold mkAT; rw [e, if_neg (by decide)], by unfold mkAR; rw [e, if_neg (by decide)], e⟩
theorem mk_hp {T : Ar} {m n : Int} {h : Bool} (hm : inM T m = true) (hn : nwOE n h = 0) (hl : ¬ 32 ≤ (rtL T m).length) {q : Int} (hq : mkE (some (some T.1)) n h = q) : mkAE T m n h = q := by unfold mkAE; rw [hm, if_pos rfl, hn, if_neg (by decide), if_neg hl, hq]
theorem lf_no {L : List Hs} {n : Int} {h : Bool} (hn : nwB n h = true) (hI : mkI L n h = none) : lfH (some (some L)) = 0 := by
  unfold mkI at hI
  rw [hn, if_pos rfl] at hI
  exact free_zero hI
theorem lf_yes {L : List Hs} {n : Int} {h : Bool} (hn : nwB n h = true) {i : Nat} (hI : mkI L n h = some i) : 0 < lfH (some (some L)) := by
  unfold mkI at hI
  rw [hn, if_pos rfl] at hI
  exact (take_cnt hI).2.1
set_option maxHeartbeats 2000000 in
set_option maxRecDepth 100000 in
theorem rr_make {p : Option Addr} {T : Ar} (hO : St w0 bs w H) (hT : AR p T E Z) [hc : Cut H E H1] [hz : Cut H1 Z H2] (m n : Int) (h : Bool) (T' : Ar) (r : Rf) (e : Int) (hT' : mkAT T m n h = T') (hr : mkAR T m n h = r) (he : mkAE T m n h = e)
    (hR : ∀ E' X w', AR p T' E' (X ++ Z) → St w0 bs w' (E' ++ (X ++ (Z ++ H2))) → Ret R (.tuple #[.agg #[.int .i64 r.1, .int .u32 r.2], .int .i64 e]) w') : Calls Tryz.prog 27 #[.pointer p, .int .i64 m, .int .i64 n, .bool h] w R := by
  subst hT' hr he
  cases hm : inM T m with
  | false =>
    have hmu : muE T m = 3 := by unfold muE; rw [hm]; rfl
    have hS := hO.front (E := E) (H1 := H1)
    have hS : St w0 bs w (E ++ (Z ++ H2)) := hS.pick
    clear hO
    obtain ⟨a1, a2, a3⟩ := no_mk hm n h
    rw [a1, a2, a3] at hR
    clear a1 a2 a3
    go_enter Tryz.func27, Tryz.ntmps27
    go_wp2_with (first | (refine wpList_is (o := ⟨some 8, _, _, _, _, _⟩) (.alloc _) rfl ?_; go_must (refine wpList_stp rfl (stp_al _ rfl hS ?_)); clear hS; intro b8 w _ hS) | (go_at_call 75; refine rr_mutator hS hT m _ hmu ?_; clear hS; intro w hS; unfold Ret) | (refine wpList_is (.build _ _) rfl ?_; go_must (refine wpList_stp (by kernel_rfl) (stp_val (run_bd _ _ rfl) ?_))) | (refine wpList_is (.store _ _ _) rfl ?_; go_must ((refine wpList_stp (by kernel_rfl) (stp_sta _ _ _ rfl hS ?_))); clear hS; intro w hS))
    refine bodyPost_ret (res_ct rfl hS) rfl ?_
    refine hR E [] _ hT ?_
    simp only [List.nil_append]
    exact hS.pick
  | true =>
    have hmu : muE T m = 0 := by unfold muE; rw [hm]; rfl
    have hS := hO.front (E := E) (H1 := H1)
    have hS : St w0 bs w (E ++ (Z ++ H2)) := hS.pick
    clear hO
    obtain ⟨L, ks, G⟩ := T
    obtain ⟨b, ph, Eh, g, cap, vs, sp, rfl, hH, hvl, hvz, h1, h4, hcap, hG8, h32, hE⟩ := id hT
    have hE' := Lib.hid hE
    clear hE
    simp only at hvl hvz hG8 h32 hH
    obtain ⟨⟨on, oF, oh⟩, ho⟩ : ∃ o, nwO n h = o := ⟨_, rfl⟩
    have hF4 : oF.length = 4 := by
      have : (nwO n h).2.1.length = 4 := by unfold nwO; split <;> rfl
      rw [ho] at this; exact this
    have hA := objAll (n := on) (h := oh) hF4
    have hZ := objSize (n := on) (h := oh) hF4
    have hO2 := objOver (n := 0) (n' := on) (h := false) (h' := oh) (F := zero4) rfl hF4
    cases hB : nwB n h with
    | false =>
      have hne : nwOE n h = 2 := by unfold nwOE; rw [hB]; rfl
      obtain ⟨a1, a2, a3⟩ := mk_er hm (n := n) (h := h) (by rw [hne]; decide)
      rw [a1, a2, a3, hne] at hR
      clear a1 a2 a3 hvz h32 hm hB
      go_enter Tryz.func27, Tryz.ntmps27
      go_wp2_with (first | (refine wpList_is (o := ⟨some 8, _, _, _, _, _⟩) (.alloc _) rfl ?_; go_must (refine wpList_stp rfl (stp_al _ rfl hS ?_)); clear hS; intro b8 w _ hS) | (refine wpList_is (o := ⟨some 11, _, _, _, _, _⟩) (.alloc _) rfl ?_; go_must (refine wpList_stp rfl (stp_al _ rfl hS ?_)); clear hS; intro b11 w _ hS) | (go_at_call 75; refine rr_mutator hS hT m _ hmu ?_; clear hS; intro w hS; unfold Ret) | (go_at_call 76; refine rob_new hS n h _ 2 ho hne ?_; clear hS; intro w hS; have hz3 : obC (on, oF, oh) = objC on oF oh := rfl; rw [hz3]; unfold Ret) | (refine wpList_is (.build _ _) rfl ?_; go_must (refine wpList_stp (by kernel_rfl) (stp_val (run_bd _ _ rfl) ?_))) | (refine wpList_is (.store _ _ _) rfl ?_; go_must ((refine wpList_stp (by kernel_rfl) (stp_sta _ _ _ rfl hS ?_))); clear hS; intro w hS))
      refine bodyPost_ret (res_ct rfl hS) rfl ?_
      refine hR E [] _ hT ?_
      simp only [List.nil_append]
      exact hS.pick
    | true =>
      have hne : nwOE n h = 0 := by unfold nwOE; rw [hB]; rfl
      by_cases hl : 32 ≤ (rtL (L, ks, G) m).length
      · have hfl : decide (32 ≤ (rtL (L, ks, G) m).length) = true := decide_eq_true hl
        obtain ⟨a1, a2, a3⟩ := mk_fl hm hne hl
        rw [a1, a2, a3] at hR
        clear a1 a2 a3 hvz h32 hB hl
        go_enter Tryz.func27, Tryz.ntmps27
        go_wp2_with (first | (refine wpList_is (o := ⟨some 8, _, _, _, _, _⟩) (.alloc _) rfl ?_; go_must (refine wpList_stp rfl (stp_al _ rfl hS ?_)); clear hS; intro b8 w _ hS) | (refine wpList_is (o := ⟨some 11, _, _, _, _, _⟩) (.alloc _) rfl ?_; go_must (refine wpList_stp rfl (stp_al _ rfl hS ?_)); clear hS; intro b11 w _ hS) | (go_at_call 75; refine rr_mutator hS hT m _ hmu ?_; clear hS; intro w hS; unfold Ret) | (go_at_call 76; refine rob_new hS n h _ 0 ho hne ?_; clear hS; intro w hS; have hz3 : obC (on, oF, oh) = objC on oF oh := rfl; rw [hz3]; unfold Ret) | (go_at_call 77; refine rr_full hS hT m hm _ hfl ?_; clear hS; intro w hS; unfold Ret) | (refine wpList_is (.build _ _) rfl ?_; go_must (refine wpList_stp (by kernel_rfl) (stp_val (run_bd _ _ rfl) ?_))) | (refine wpList_is (.store _ _ _) rfl ?_; go_must ((refine wpList_stp (by kernel_rfl) (stp_sta _ _ _ rfl hS ?_))); clear hS; intro w hS))
        refine bodyPost_ret (res_ct rfl hS) rfl ?_
        refine hR E [] _ hT ?_
        simp only [List.nil_append]
        exact hS.pick
      · have hfl : decide (32 ≤ (rtL (L, ks, G) m).length) = false := decide_eq_false hl
        have hlt : (rtL (L, ks, G) m).length < 32 := by omega
        obtain ⟨lf, hlf⟩ : ∃ x, lfH (some (some L)) = x := ⟨_, rfl⟩
        have hlf' := Lib.hid hlf
        cases hI : mkI L n h with
        | none =>
          have hmE : mkE (some (some L)) n h = 4 := by simp [mkE, hB, hI]
          have hAE := mk_hp (T := (L, ks, G)) hm hne hl hmE
          have b1 : mkAT (L, ks, G) m n h = (L, ks, G) := by unfold mkAT; rw [hAE, if_neg (by decide)]
          have b2 : mkAR (L, ks, G) m n h = (0, 0) := by unfold mkAR; rw [hAE, if_neg (by decide)]
          rw [b1, b2, hAE] at hR
          obtain rfl : lf = 0 := by rw [← hlf, lf_no hB hI]
          clear b1 b2 hAE hmE hvz h32 hB hl hI hlf
          go_enter Tryz.func27, Tryz.ntmps27
          go_wp2_with (first | (refine wpList_is (o := ⟨some 8, _, _, _, _, _⟩) (.alloc _) rfl ?_; go_must (refine wpList_stp rfl (stp_al _ rfl hS ?_)); clear hS; intro b8 w _ hS) | (refine wpList_is (o := ⟨some 11, _, _, _, _, _⟩) (.alloc _) rfl ?_; go_must (refine wpList_stp rfl (stp_al _ rfl hS ?_)); clear hS; intro b11 w _ hS) | (go_at_call 75; refine rr_mutator hS hT m _ hmu ?_; clear hS; intro w hS; unfold Ret) | (go_at_call 76; refine rob_new hS n h _ 0 ho hne ?_; clear hS; intro w hS; have hz3 : obC (on, oF, oh) = objC on oF oh := rfl; rw [hz3]; unfold Ret) | (go_at_call 77; refine rr_full hS hT m hm _ hfl ?_; clear hS; intro w hS; rw [hE'.out] at hS; simp only [List.cons_append] at hS; unfold Ret) | (go_at_call 52; refine rh_left hS hH _ hlf'.out ?_; clear hS; intro w _ hS; unfold Ret) | (refine wpList_is (.build _ _) rfl ?_; go_must (refine wpList_stp (by kernel_rfl) (stp_val (run_bd _ _ rfl) ?_))) | (refine wpList_is (.load _ _) rfl ?_; go_must ((refine wpList_stp (by kernel_rfl) (stp_val (run_ld _ _ rfl hS) ?_)))) | (refine wpList_is (.store _ _ _) rfl ?_; go_must ((refine wpList_stp (by kernel_rfl) (stp_sta _ _ _ rfl hS ?_))); clear hS; intro w hS))
          refine bodyPost_ret (res_ct rfl hS) rfl ?_
          refine hR E [] _ hT ?_
          rw [hE'.out]
          simp only [List.nil_append, List.cons_append]
          exact hS.pick
        | some i =>
          have hmE : mkE (some (some L)) n h = 0 := by simp [mkE, hB, hI]
          have hAE := mk_hp (T := (L, ks, G)) hm hne hl hmE
          obtain ⟨⟨r1, r2⟩, hmr⟩ : ∃ r, mkR (some (some L)) n h = r := ⟨_, rfl⟩
          obtain ⟨L', hmT, hll⟩ : ∃ L', mkT (some (some L)) n h = some (some L') ∧ L'.length = L.length := by
            simp only [mkT, hI]
            exact ⟨_, rfl, by simp [mkN]⟩
          have b1 : mkAT (L, ks, G) m n h = giT (L', ks, G) m (r1, r2) := by
            unfold mkAT; rw [hAE, if_pos rfl]
            simp only [mkAr, hmT, hmr, hpL, giT]; rfl
          have b2 : mkAR (L, ks, G) m n h = (r1, r2) := by unfold mkAR; rw [hAE, if_pos rfl]; exact hmr
          rw [b1, b2, hAE] at hR
          have hpos : 0 < lf := by rw [← hlf]; exact lf_yes hB hI
          have d : decide (lf = 0) = false := decide_eq_false (by omega)
          have d2 : (lf == 0) = false := beq_eq_false_iff_ne.2 (by omega)
          have hm1 : inM (L', ks, G) m = true := hm
          have hlt1 : (rtL (L', ks, G) m).length < 32 := hlt
          have hTn : ∀ Eh2, RH ph (some (some L')) Eh2 → AR (some ⟨b, 0, none⟩) (L', ks, G) (⟨b, arR L.length ph (.slice (some ⟨g, 0, none⟩) vs.length cap) G, 77, true⟩ :: ⟨g, ovB vs sp, 81, true⟩ :: Eh2) Z := by
            intro Eh2 hH2
            exact ⟨b, ph, Eh2, g, cap, vs, sp, rfl, hH2, hvl, hvz, h1, h4, hcap, hG8, h32, by rw [hll]⟩
          have hTn' := Lib.hid hTn
          have hmT' := Lib.hid hmT
          have hmr' := Lib.hid hmr
          have hmE' := Lib.hid hmE
          clear b1 b2 hAE hmE hvz h32 hB hl hI hlf hTn hmT hmr hll hpos
          go_enter Tryz.func27, Tryz.ntmps27
          go_wp2_with (first | (refine wpList_is (o := ⟨some 8, _, _, _, _, _⟩) (.alloc _) rfl ?_; go_must (refine wpList_stp rfl (stp_al _ rfl hS ?_)); clear hS; intro b8 w _ hS) | (refine wpList_is (o := ⟨some 11, _, _, _, _, _⟩) (.alloc _) rfl ?_; go_must (refine wpList_stp rfl (stp_al _ rfl hS ?_)); clear hS; intro b11 w _ hS) | (refine wpList_is (o := ⟨some 13, _, _, _, _, _⟩) (.alloc _) rfl ?_; go_must (refine wpList_stp rfl (stp_al _ rfl hS ?_)); clear hS; intro b13 w _ hS) | (go_at_call 75; refine rr_mutator hS hT m _ hmu ?_; clear hS; intro w hS; unfold Ret) | (go_at_call 76; refine rob_new hS n h _ 0 ho hne ?_; clear hS; intro w hS; have hz3 : obC (on, oF, oh) = objC on oF oh := rfl; rw [hz3]; unfold Ret) | (go_at_call 77; refine rr_full hS hT m hm _ hfl ?_; clear hS; intro w hS; rw [hE'.out] at hS; simp only [List.cons_append] at hS; unfold Ret) | (go_at_call 52; refine rh_left hS hH _ hlf'.out ?_; clear hS; intro w _ hS; unfold Ret) | (go_at_call 78; refine rh_make hS hH n h _ (r1, r2) 0 hmT'.out hmr'.out hmE'.out ?_; clear hS; intro Eh2 w hH2 hS; unfold Ret) | (go_at_call 79; obtain ⟨E1, hE1⟩ : ∃ E1, ⟨b, arR L.length ph (.slice (some ⟨g, 0, none⟩) vs.length cap) G, 77, true⟩ :: ⟨g, ovB vs sp, 81, true⟩ :: Eh2 = E1 := ⟨_, rfl⟩; have hT1 := hTn'.out Eh2 hH2; rw [hE1] at hT1; have hS : St w0 bs w (E1 ++ (Z ++ (⟨b13, #[.int .i64 r1, .int .u32 r2], 25, true⟩ :: ⟨b11, objC on oF oh, 42, true⟩ :: ⟨b8, #[.int .i64 0, .int .u32 0], 25, true⟩ :: H2))) := (by rw [← hE1]; simp only [List.cons_append]; exact hS.pick); refine rr_give hS hT1 m hm1 hlt1 (r1, r2) _ rfl ?_; clear hS hT1 hE1; intro E2 X2 w hT2 hS; unfold Ret) | (refine wpList_is (.load _ _) rfl ?_; go_must (first | refine wpList_stp (by kernel_rfl) (stp_val (run_ld _ _ rfl hS) ?_) | refine wpList_stp (by kernel_rfl) (stp_val (run_lda _ _ rfl hS) ?_))) | (refine wpList_is (.store _ _ _) rfl ?_; go_must ((refine wpList_stp (by kernel_rfl) (stp_sta _ _ _ rfl hS ?_))); clear hS; intro w hS))
          refine bodyPost_ret (res_ct rfl hS) rfl ?_
          exact hR E2 X2 _ hT2 hS.pick
end Go.Proofs.YtjlihigodggfcaaGreat
