/-
  The document's heap: what a store does.
-/
import Derived.Test.YtjlihigodggfcaaGreatRheapD
set_option linter.unusedSimpArgs false
set_option linter.unusedVariables false
namespace Go.Proofs.YtjlihigodggfcaaGreat
open Go.RowKit Go.Mm
variable {R : Ending → World → Prop} {w : World} {w0 : World} {bs : List Nat} {H H' H1 E : List Ent}

set_option maxHeartbeats 2000000 in
set_option maxRecDepth 100000 in
theorem rh_store {p : Option Addr} {T : Hp} (hO : St w0 bs w H) (hT : RH p T E) [hc : Cut H E H1] (s g i vs vg : Int) (hvg : 0 ≤ vg ∧ vg ≤ 4294967295) (T' : Hp) (r : Int × Int) (e : Int) (hT' : stT T s g i (vs, vg) = T') (hr : stR T s g i (vs, vg) = r) (he : stE T s g i (vs, vg) = e)
    (hR : ∀ E' w', RH p T' E' → St w0 bs w' (E' ++ H1) → Ret R (.tuple #[.agg #[.int .i64 r.1, .int .u32 r.2], .int .i64 e]) w') : Calls Tryz.prog 82 #[.pointer p, .agg #[.int .i64 s, .int .u32 g], .int .i64 i, .agg #[.int .i64 vs, .int .u32 vg]] w R := by
  have hS := hO.front (E := E) (H1 := H1)
  clear hO
  obtain ⟨e0, he0⟩ : ∃ e, wiH T s g = e := ⟨_, rfl⟩
  by_cases h0 : e0 = 0
  case neg =>
    have hE1 : stE T s g i (vs, vg) = e0 := by unfold stE; rw [he0, if_neg h0]
    have hE2 : stR T s g i (vs, vg) = (0, 0) := by unfold stR; rw [hE1, if_neg h0]
    have hE3 : stT T s g i (vs, vg) = T := by unfold stT; rw [hE1, if_neg h0]
    obtain ⟨o, ho⟩ : ∃ o, obR T s g = o := ⟨_, rfl⟩
    have hoz : o = zOb := by rw [← ho]; unfold obR; rw [he0, if_neg h0]
    rw [hE1] at he
    rw [hE2] at hr
    rw [hE3] at hT'
    subst he hr hT'
    have he' := Lib.hid he0
    have ho' := Lib.hid ho
    have hO2 := objOver (n := 0) (n' := o.1) (h := false) (h' := o.2.2) (F := zero4) rfl (hoz ▸ zOb_w.len)
    have hA := objAll (n := o.1) (h := o.2.2) (hoz ▸ zOb_w.len)
    have hZ := objSize (n := o.1) (h := o.2.2) (hoz ▸ zOb_w.len)
    have q : (e0 != 0) = true := by simpa using h0
    clear he0 hE1 hE2 hE3 ho hoz
    go_enter Tryz.func82, Tryz.ntmps82
    go_wp2_with (first | (refine wpList_is (.box 25 _) rfl ?_; go_must (refine wpList_stp (by kernel_rfl) (stp_bx _ _ rfl hS ?_)); clear hS; intro bo w _ hS) | (go_at_call 37; refine rh_object hS hT s g o e0 ho'.out he'.out ?_; clear hS; intro w _ hS; (try simp only [List.cons_append, List.nil_append] at hS); unfold Ret) | (refine wpList_is (.build _ _) rfl ?_; go_must (refine wpList_stp (by kernel_rfl) (stp_val (run_bd _ _ rfl) ?_))) | (refine wpList_is (.load _ _) rfl ?_; go_must ((refine wpList_stp (by kernel_rfl) (stp_val (run_lda _ _ rfl hS) ?_)))) | (refine wpList_is (.store _ _ _) rfl ?_; go_must ((refine wpList_stp (by kernel_rfl) (stp_sta _ _ _ rfl hS ?_))); clear hS; intro w hS) | (refine wpList_is (.alloc _) rfl ?_; go_must (refine wpList_stp (by kernel_rfl) (stp_al _ rfl hS ?_)); clear hS; intro bN w hbN hS))
    refine bodyPost_ret (res_ct rfl hS) rfl ?_
    exact hR _ _ hT hS.pick
  case pos =>
  subst h0
  obtain ⟨L, j, rfl, hs, hj, hck, _, _, hob0⟩ := wi_zero he0
  obtain ⟨hW, b, bl, cap, sp, rfl, rfl⟩ := id hT
  obtain ⟨o, ho⟩ : ∃ o, (L.getD j zHs).2.2 = o := ⟨_, rfl⟩
  have hob : obAt (some (some L)) s = o := by rw [hob0]; exact ho
  have hobR : obR (some (some L)) s g = o := by unfold obR; rw [he0, if_pos rfl]; exact hob
  have hoW : ObW o := by rw [← ho]; exact hW.at hj
  have hO2 := objOver (n := 0) (n' := o.1) (h := false) (h' := o.2.2) (F := zero4) rfl hoW.len
  have hA := objAll (n := o.1) (h := o.2.2) hoW.len
  have hZ := objSize (n := o.1) (h := o.2.2) hoW.len
  obtain ⟨r0, hr0⟩ : ∃ r, gtO o i = r := ⟨_, rfl⟩
  have hr' := Lib.hid hr0
  have he' := Lib.hid he0
  have ho' := Lib.hid hobR
  have hs' := Lib.hid hs
  have hW' := Lib.hid hW
  cases hin : inF o i with
  | false =>
    have hg : gtOE o i = 3 := by unfold gtOE; rw [hin]; rfl
    have hr00 : gtO o i = (0, 0) := by unfold gtO; rw [hin]; rfl
    have hE : stE (some (some L)) s g i (vs, vg) = 3 := by unfold stE; rw [he0, if_pos rfl, hob, hg, if_neg (by decide)]
    have hR2 : stR (some (some L)) s g i (vs, vg) = (0, 0) := by unfold stR; rw [hE, if_neg (by decide)]
    have hT2 : stT (some (some L)) s g i (vs, vg) = some (some L) := by unfold stT; rw [hE, if_neg (by decide)]
    rw [hE] at he
    rw [hR2] at hr
    rw [hT2] at hT'
    rw [hr00] at hr0
    subst he hr hT' hr0
    have hg' := Lib.hid hg
    clear hg hr00 hE hR2 hT2 hin ho hob he0 hobR hob0 hs hW hck
    go_enter Tryz.func82, Tryz.ntmps82
    go_wp2_with (first | (refine wpList_is (o := ⟨some 5, _, _, _, _, _⟩) (.box _ _) rfl ?_; go_must (refine wpList_stp rfl (stp_bx _ _ rfl hS ?_)); clear hS; intro bo w _ hS) | (refine wpList_is (o := ⟨some 7, _, _, _, _, _⟩) (.box _ _) rfl ?_; go_must (refine wpList_stp rfl (stp_bx _ _ rfl hS ?_)); clear hS; intro bv w _ hS) | (refine wpList_is (o := ⟨some 8, _, _, _, _, _⟩) (.alloc _) rfl ?_; go_must (refine wpList_stp rfl (stp_al _ rfl hS ?_)); clear hS; intro b8 w _ hS) | (refine wpList_is (o := ⟨some 10, _, _, _, _, _⟩) (.alloc _) rfl ?_; go_must (refine wpList_stp rfl (stp_al _ rfl hS ?_)); clear hS; intro b10 w _ hS) | (refine wpList_is (o := ⟨some 12, _, _, _, _, _⟩) (.alloc _) rfl ?_; go_must (refine wpList_stp rfl (stp_al _ rfl hS ?_)); clear hS; intro b12 w _ hS) | (go_at_call 37; refine rh_object hS hT s g o 0 ho'.out he'.out ?_; clear hS; intro w _ hS; (try simp only [List.cons_append, List.nil_append] at hS); unfold Ret) | (go_at_call 110; refine rob_get hS hoW i (0, 0) 3 hr'.out hg'.out ?_; clear hS; intro w hS; unfold Ret) | (refine wpList_is (.build _ _) rfl ?_; go_must (refine wpList_stp (by kernel_rfl) (stp_val (run_bd _ _ rfl) ?_))) | (refine wpList_is (.load _ _) rfl ?_; go_must ((refine wpList_stp (by kernel_rfl) (stp_val (run_lda _ _ rfl hS) ?_)))) | (refine wpList_is (.store _ _ _) rfl ?_; go_must ((refine wpList_stp (by kernel_rfl) (stp_sta _ _ _ rfl hS ?_))); clear hS; intro w hS))
    refine bodyPost_ret (res_ct rfl hS) rfl ?_
    exact hR _ _ hT (by simp only [List.cons_append, List.nil_append]; exact hS.pick)
  | true =>
    have hg : gtOE o i = 0 := by unfold gtOE; rw [hin]; rfl
    obtain ⟨ev, hev⟩ : ∃ ev, wiH (some (some L)) vs vg = ev := ⟨_, rfl⟩
    by_cases hbad : refB vs vg 0 0 = false ∧ ev ≠ 0
    · obtain ⟨hv0, hv1⟩ := hbad
      have hE : stE (some (some L)) s g i (vs, vg) = ev := by unfold stE; rw [he0, if_pos rfl, hob, hg, if_pos rfl, hv0, if_neg (by decide)]; exact hev
      have hR2 : stR (some (some L)) s g i (vs, vg) = (0, 0) := by unfold stR; rw [hE, if_neg hv1]
      have hT2 : stT (some (some L)) s g i (vs, vg) = some (some L) := by unfold stT; rw [hE, if_neg hv1]
      rw [hE] at he
      rw [hR2] at hr
      rw [hT2] at hT'
      subst he hr hT'
      have hz := refE hv0
      have hg' := Lib.hid hg
      have hev' := Lib.hid hev
      have q : (ev != 0) = true := by simpa using hv1
      clear hg hE hR2 hT2 hin ho hob he0 hobR hob0 hs hW hck hv0 hev hr0
      go_enter Tryz.func82, Tryz.ntmps82
      go_wp2_with (first | (refine wpList_is (o := ⟨some 5, _, _, _, _, _⟩) (.box _ _) rfl ?_; go_must (refine wpList_stp rfl (stp_bx _ _ rfl hS ?_)); clear hS; intro bo w _ hS) | (refine wpList_is (o := ⟨some 7, _, _, _, _, _⟩) (.box _ _) rfl ?_; go_must (refine wpList_stp rfl (stp_bx _ _ rfl hS ?_)); clear hS; intro bv w _ hS) | (refine wpList_is (o := ⟨some 8, _, _, _, _, _⟩) (.alloc _) rfl ?_; go_must (refine wpList_stp rfl (stp_al _ rfl hS ?_)); clear hS; intro b8 w _ hS) | (refine wpList_is (o := ⟨some 10, _, _, _, _, _⟩) (.alloc _) rfl ?_; go_must (refine wpList_stp rfl (stp_al _ rfl hS ?_)); clear hS; intro b10 w _ hS) | (refine wpList_is (o := ⟨some 12, _, _, _, _, _⟩) (.alloc _) rfl ?_; go_must (refine wpList_stp rfl (stp_al _ rfl hS ?_)); clear hS; intro b12 w _ hS) | (go_at_call 37; refine rh_object hS hT s g o 0 ho'.out he'.out ?_; clear hS; intro w _ hS; (try simp only [List.cons_append, List.nil_append] at hS); unfold Ret) | (go_at_call 110; refine rob_get hS hoW i r0 0 hr'.out hg'.out ?_; clear hS; intro w hS; unfold Ret) | (go_at_call 86; refine rh_check (E := [⟨b, #[.bool true, .slice (some ⟨bl, 0, none⟩) L.length cap], 113, true⟩, ⟨bl, blk [] hsf L sp, 115, true⟩]) (show St w0 bs w ([⟨b, #[.bool true, .slice (some ⟨bl, 0, none⟩) L.length cap], 113, true⟩, ⟨bl, blk [] hsf L sp, 115, true⟩] ++ (⟨b12, #[.int .i64 r0.1, .int .u32 r0.2], 25, true⟩ :: ⟨b10, obC o, 42, true⟩ :: ⟨b8, #[.int .i64 0, .int .u32 0], 25, true⟩ :: ⟨bv, #[.int .i64 vs, .int .u32 vg], 25, true⟩ :: ⟨bo, #[.int .i64 s, .int .u32 g], 25, true⟩ :: H1)) from by simp only [List.cons_append, List.nil_append]; exact hS.pick) hT vs vg ev hev'.out ?_; clear hS; intro w _ hS; simp only [List.cons_append, List.nil_append] at hS; unfold Ret) | (refine wpList_is (.binOp .neq _ _ _ _) rfl ?_; refine wpList_stp (by kernel_rfl) (stp_val (run_ane _ _ _ _ rfl) ?_)) | (refine wpList_is (.build _ _) rfl ?_; go_must (refine wpList_stp (by kernel_rfl) (stp_val (run_bd _ _ rfl) ?_))) | (refine wpList_is (.load _ _) rfl ?_; go_must ((refine wpList_stp (by kernel_rfl) (stp_val (run_lda _ _ rfl hS) ?_)))) | (refine wpList_is (.store _ _ _) rfl ?_; go_must ((refine wpList_stp (by kernel_rfl) (stp_sta _ _ _ rfl hS ?_))); clear hS; intro w hS))
      refine bodyPost_ret (res_ct rfl hS) rfl ?_
      exact hR _ _ hT (by simp only [List.cons_append, List.nil_append]; exact hS.pick)
    · have hE : stE (some (some L)) s g i (vs, vg) = 0 := by
        unfold stE
        rw [he0, if_pos rfl, hob, hg, if_pos rfl]
        cases hv0 : refB vs vg 0 0 with
        | true => rfl
        | false =>
          rw [if_neg (by decide)]
          show wiH (some (some L)) vs vg = 0
          rw [hev]
          exact Decidable.byContradiction fun h => hbad ⟨hv0, h⟩
      have hev0 : refB vs vg 0 0 = false → wiH (some (some L)) vs vg = 0 := fun h => by rw [hev]; exact Decidable.byContradiction fun q => hbad ⟨h, q⟩
      have hw : wrR (vs, vg) = false := by
        cases hv0 : refB vs vg 0 0 with
        | true =>
          unfold wrR nzR
          rw [hv0]; rfl
        | false =>
          obtain ⟨L2, k, hL2, hk, hkl, hckk, _, h2, _⟩ := wi_zero (hev0 hv0)
          obtain ⟨⟩ := hL2
          have hgn := hW.tb.gn _ (getD_mem (L := tbH L) (i := k) (by rw [tbH_len]; exact hkl))
          rw [tbH_get, h2] at hgn
          have := hW.hi
          unfold wrR
          have d1 : decide (vs < 0) = false := decide_eq_false (by omega)
          have d2 : decide ((256 : Int) ≤ vs) = false := decide_eq_false (by omega)
          have d3 : decide (vg < 1) = false := decide_eq_false (by simp only at hgn; omega)
          simp [d1, d2, d3]
      obtain ⟨o', hoo⟩ : ∃ o', stO o i (vs, vg) = o' := ⟨_, rfl⟩
      have ho'W : ObW o' := by rw [← hoo]; exact hoW.set hin hw hvg
      have hst1 : st1 o i (vs, vg) = o' := by unfold st1; rw [hin]; exact hoo
      have hR2 : stR (some (some L)) s g i (vs, vg) = r0 := by unfold stR; rw [hE, if_pos rfl, hob]; exact hr0
      have hT2 : stT (some (some L)) s g i (vs, vg) = some (some (seN L j g o')) := by unfold stT; rw [hE, if_pos rfl, hob, hs, Int.toNat_natCast, hoo]; rfl
      have hWN := seN_w hW hj hck ho'W
      rw [hE] at he
      rw [hR2] at hr
      rw [hT2] at hT'
      subst he hr hT'
      have hst1' := Lib.hid hst1
      have hg' := Lib.hid hg
      have hWN' := Lib.hid hWN
      have hO3 := objOver (n := 0) (n' := o'.1) (h := false) (h' := o'.2.2) (F := zero4) rfl ho'W.len
      have hA3 := objAll (n := o'.1) (h := o'.2.2) ho'W.len
      have hZ3 := objSize (n := o'.1) (h := o'.2.2) ho'W.len
      have hbb := rh_b2 (n := o'.1) (h := o'.2.2) ho'W.len g
      clear hg hE hR2 hT2 hin ho hob he0 hobR hob0 hs hW hck hbad hev hoo hst1 hWN hr0
      cases hv0 : refB vs vg 0 0 with
      | true =>
        have hz := refE hv0
        clear hv0 hev0
        go_enter Tryz.func82, Tryz.ntmps82
        go_wp2_with (first | (refine wpList_is (o := ⟨some 5, _, _, _, _, _⟩) (.box _ _) rfl ?_; go_must (refine wpList_stp rfl (stp_bx _ _ rfl hS ?_)); clear hS; intro bo w _ hS) | (refine wpList_is (o := ⟨some 7, _, _, _, _, _⟩) (.box _ _) rfl ?_; go_must (refine wpList_stp rfl (stp_bx _ _ rfl hS ?_)); clear hS; intro bv w _ hS) | (refine wpList_is (o := ⟨some 8, _, _, _, _, _⟩) (.alloc _) rfl ?_; go_must (refine wpList_stp rfl (stp_al _ rfl hS ?_)); clear hS; intro b8 w _ hS) | (refine wpList_is (o := ⟨some 10, _, _, _, _, _⟩) (.alloc _) rfl ?_; go_must (refine wpList_stp rfl (stp_al _ rfl hS ?_)); clear hS; intro b10 w _ hS) | (refine wpList_is (o := ⟨some 12, _, _, _, _, _⟩) (.alloc _) rfl ?_; go_must (refine wpList_stp rfl (stp_al _ rfl hS ?_)); clear hS; intro b12 w _ hS) | (refine wpList_is (o := ⟨some 15, _, _, _, _, _⟩) (.alloc _) rfl ?_; go_must (refine wpList_stp rfl (stp_al _ rfl hS ?_)); clear hS; intro b15 w _ hS) | (refine wpList_is (o := ⟨some 16, _, _, _, _, _⟩) (.alloc _) rfl ?_; go_must (refine wpList_stp rfl (stp_al _ rfl hS ?_)); clear hS; intro b16 w _ hS) | (go_at_call 37; refine rh_object hS hT s g o 0 ho'.out he'.out ?_; clear hS; intro w _ hS; (try simp only [List.cons_append, List.nil_append] at hS); unfold Ret) | (go_at_call 110; refine rob_get hS hoW i r0 0 hr'.out hg'.out ?_; clear hS; intro w hS; unfold Ret) | (refine wpList_is (.binOp .neq _ _ _ _) rfl ?_; refine wpList_stp (by kernel_rfl) (stp_val (run_ane _ _ _ _ rfl) ?_)) | (go_at_call 111; refine rob_set hS hoW i vs vg hw hvg o' r0 0 hst1'.out hr'.out hg'.out ?_; clear hS; intro w hS; unfold Ret) | (go_at_call 89; go_must (refine set_at (i := j) (bl := bl) (cap := cap) (sp := sp) (H1 := ⟨b15, obC o', 42, true⟩ :: ⟨b16, #[.int .i64 r0.1, .int .u32 r0.2], 25, true⟩ :: ⟨b12, #[.int .i64 r0.1, .int .u32 r0.2], 25, true⟩ :: ⟨b10, obC o, 42, true⟩ :: ⟨b8, #[.int .i64 0, .int .u32 0], 25, true⟩ :: ⟨bv, #[.int .i64 vs, .int .u32 vg], 25, true⟩ :: ⟨bo, #[.int .i64 s, .int .u32 g], 25, true⟩ :: H1) (show St w0 bs w ([⟨b, #[.bool true, .slice (some ⟨bl, 0, none⟩) L.length cap], 113, true⟩, ⟨bl, blk [] hsf L sp, 115, true⟩] ++ (⟨b15, obC o', 42, true⟩ :: ⟨b16, #[.int .i64 r0.1, .int .u32 r0.2], 25, true⟩ :: ⟨b12, #[.int .i64 r0.1, .int .u32 r0.2], 25, true⟩ :: ⟨b10, obC o, 42, true⟩ :: ⟨b8, #[.int .i64 0, .int .u32 0], 25, true⟩ :: ⟨bv, #[.int .i64 vs, .int .u32 vg], 25, true⟩ :: ⟨bo, #[.int .i64 s, .int .u32 g], 25, true⟩ :: H1)) from by simp only [List.cons_append, List.nil_append]; exact hS.pick) hW'.out hj hs'.out (1, g, o') ?_); clear hS; intro bl2 cap2 sp2 w hS; simp only [List.cons_append, List.nil_append] at hS) | (refine wpList_is (.build _ _) rfl ?_; go_must (refine wpList_stp (by kernel_rfl) (stp_val (run_bd _ _ rfl) ?_))) | (refine wpList_is (.load _ _) rfl ?_; go_must (first | refine wpList_stp (by kernel_rfl) (stp_val (run_ld _ _ rfl hS) ?_) | refine wpList_stp (by kernel_rfl) (stp_val (run_lda _ _ rfl hS) ?_))) | (refine wpList_is (.store _ _ _) rfl ?_; go_must ((refine wpList_stp (by kernel_rfl) (stp_sta _ _ _ rfl hS ?_))); clear hS; intro w hS))
        refine bodyPost_ret (res_ct rfl hS) rfl ?_
        refine hR [⟨b, #[.bool true, .slice (some ⟨bl2, 0, none⟩) L.length cap2], 113, true⟩, ⟨bl2, blk [] hsf (L.set j (1, g, o')) sp2, 115, true⟩] _ ⟨hWN'.out.1, b, bl2, cap2, sp2, rfl, ?_⟩ (by simp only [List.cons_append, List.nil_append]; exact hS.pick)
        rw [hWN'.out.2.2.2]; rfl
      | false =>
        have hz := refE hv0
        have hev' := Lib.hid (hev0 hv0)
        clear hv0 hev0
        go_enter Tryz.func82, Tryz.ntmps82
        go_wp2_with (first | (refine wpList_is (o := ⟨some 5, _, _, _, _, _⟩) (.box _ _) rfl ?_; go_must (refine wpList_stp rfl (stp_bx _ _ rfl hS ?_)); clear hS; intro bo w _ hS) | (refine wpList_is (o := ⟨some 7, _, _, _, _, _⟩) (.box _ _) rfl ?_; go_must (refine wpList_stp rfl (stp_bx _ _ rfl hS ?_)); clear hS; intro bv w _ hS) | (refine wpList_is (o := ⟨some 8, _, _, _, _, _⟩) (.alloc _) rfl ?_; go_must (refine wpList_stp rfl (stp_al _ rfl hS ?_)); clear hS; intro b8 w _ hS) | (refine wpList_is (o := ⟨some 10, _, _, _, _, _⟩) (.alloc _) rfl ?_; go_must (refine wpList_stp rfl (stp_al _ rfl hS ?_)); clear hS; intro b10 w _ hS) | (refine wpList_is (o := ⟨some 12, _, _, _, _, _⟩) (.alloc _) rfl ?_; go_must (refine wpList_stp rfl (stp_al _ rfl hS ?_)); clear hS; intro b12 w _ hS) | (refine wpList_is (o := ⟨some 15, _, _, _, _, _⟩) (.alloc _) rfl ?_; go_must (refine wpList_stp rfl (stp_al _ rfl hS ?_)); clear hS; intro b15 w _ hS) | (refine wpList_is (o := ⟨some 16, _, _, _, _, _⟩) (.alloc _) rfl ?_; go_must (refine wpList_stp rfl (stp_al _ rfl hS ?_)); clear hS; intro b16 w _ hS) | (go_at_call 37; refine rh_object hS hT s g o 0 ho'.out he'.out ?_; clear hS; intro w _ hS; (try simp only [List.cons_append, List.nil_append] at hS); unfold Ret) | (go_at_call 110; refine rob_get hS hoW i r0 0 hr'.out hg'.out ?_; clear hS; intro w hS; unfold Ret) | (go_at_call 86; refine rh_check (E := [⟨b, #[.bool true, .slice (some ⟨bl, 0, none⟩) L.length cap], 113, true⟩, ⟨bl, blk [] hsf L sp, 115, true⟩]) (show St w0 bs w ([⟨b, #[.bool true, .slice (some ⟨bl, 0, none⟩) L.length cap], 113, true⟩, ⟨bl, blk [] hsf L sp, 115, true⟩] ++ (⟨b12, #[.int .i64 r0.1, .int .u32 r0.2], 25, true⟩ :: ⟨b10, obC o, 42, true⟩ :: ⟨b8, #[.int .i64 0, .int .u32 0], 25, true⟩ :: ⟨bv, #[.int .i64 vs, .int .u32 vg], 25, true⟩ :: ⟨bo, #[.int .i64 s, .int .u32 g], 25, true⟩ :: H1)) from by simp only [List.cons_append, List.nil_append]; exact hS.pick) hT vs vg 0 hev'.out ?_; clear hS; intro w _ hS; simp only [List.cons_append, List.nil_append] at hS; unfold Ret) | (refine wpList_is (.binOp .neq _ _ _ _) rfl ?_; refine wpList_stp (by kernel_rfl) (stp_val (run_ane _ _ _ _ rfl) ?_)) | (go_at_call 111; refine rob_set hS hoW i vs vg hw hvg o' r0 0 hst1'.out hr'.out hg'.out ?_; clear hS; intro w hS; unfold Ret) | (go_at_call 89; go_must (refine set_at (i := j) (bl := bl) (cap := cap) (sp := sp) (H1 := ⟨b15, obC o', 42, true⟩ :: ⟨b16, #[.int .i64 r0.1, .int .u32 r0.2], 25, true⟩ :: ⟨b12, #[.int .i64 r0.1, .int .u32 r0.2], 25, true⟩ :: ⟨b10, obC o, 42, true⟩ :: ⟨b8, #[.int .i64 0, .int .u32 0], 25, true⟩ :: ⟨bv, #[.int .i64 vs, .int .u32 vg], 25, true⟩ :: ⟨bo, #[.int .i64 s, .int .u32 g], 25, true⟩ :: H1) (show St w0 bs w ([⟨b, #[.bool true, .slice (some ⟨bl, 0, none⟩) L.length cap], 113, true⟩, ⟨bl, blk [] hsf L sp, 115, true⟩] ++ (⟨b15, obC o', 42, true⟩ :: ⟨b16, #[.int .i64 r0.1, .int .u32 r0.2], 25, true⟩ :: ⟨b12, #[.int .i64 r0.1, .int .u32 r0.2], 25, true⟩ :: ⟨b10, obC o, 42, true⟩ :: ⟨b8, #[.int .i64 0, .int .u32 0], 25, true⟩ :: ⟨bv, #[.int .i64 vs, .int .u32 vg], 25, true⟩ :: ⟨bo, #[.int .i64 s, .int .u32 g], 25, true⟩ :: H1)) from by simp only [List.cons_append, List.nil_append]; exact hS.pick) hW'.out hj hs'.out (1, g, o') ?_); clear hS; intro bl2 cap2 sp2 w hS; simp only [List.cons_append, List.nil_append] at hS) | (refine wpList_is (.build _ _) rfl ?_; go_must (refine wpList_stp (by kernel_rfl) (stp_val (run_bd _ _ rfl) ?_))) | (refine wpList_is (.load _ _) rfl ?_; go_must (first | refine wpList_stp (by kernel_rfl) (stp_val (run_ld _ _ rfl hS) ?_) | refine wpList_stp (by kernel_rfl) (stp_val (run_lda _ _ rfl hS) ?_))) | (refine wpList_is (.store _ _ _) rfl ?_; go_must ((refine wpList_stp (by kernel_rfl) (stp_sta _ _ _ rfl hS ?_))); clear hS; intro w hS))
        refine bodyPost_ret (res_ct rfl hS) rfl ?_
        refine hR [⟨b, #[.bool true, .slice (some ⟨bl2, 0, none⟩) L.length cap2], 113, true⟩, ⟨bl2, blk [] hsf (L.set j (1, g, o')) sp2, 115, true⟩] _ ⟨hWN'.out.1, b, bl2, cap2, sp2, rfl, ?_⟩ (by simp only [List.cons_append, List.nil_append]; exact hS.pick)
        rw [hWN'.out.2.2.2]; rfl
end Go.Proofs.YtjlihigodggfcaaGreat
