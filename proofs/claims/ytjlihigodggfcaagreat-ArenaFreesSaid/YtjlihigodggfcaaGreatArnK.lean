/-
  Arenas: Put.
-/
import Derived.Test.YtjlihigodggfcaaGreatArnI
set_option linter.unusedSimpArgs false
set_option linter.unusedVariables false
namespace Go.Proofs.YtjlihigodggfcaaGreat
open Go Go.RowKit Go.Mm
variable {R : Ending → World → Prop} {w : World} {w0 : World} {bs : List Nat} {H H' H1 E : List Ent}

theorem put_okA {L : List Rf} {i : Nat} (hi : i < 8) {r : Rf} (hw : wrR r = false) : ptE (some (true, L)) i r = 0 ∧ ptR (some (true, L)) i r = L.getD i (0, 0) ∧ ptT (some (true, L)) i r = some (true, L.set i r) := by
  have hin : inV i = true := by simp [inV]; omega
  have e0 : ptE (some (true, L)) i r = 0 := by simp [ptE, vE, vOk, hw, hin]
  refine ⟨e0, ?_, ?_⟩
  · unfold ptR; rw [if_pos e0, Int.toNat_natCast]; rfl
  · unfold ptT; rw [if_pos e0, Int.toNat_natCast]; rfl
theorem ok_wr {r : Rf} (h : (0 ≤ r.1 ∧ r.1 < 256) ∧ 1 ≤ r.2 ∧ r.2 ≤ 4294967295) : wrR r = false ∧ 0 ≤ r.2 ∧ r.2 ≤ 4294967295 := by
  refine ⟨?_, by omega, h.2.2⟩
  unfold wrR
  have q1 : decide (r.1 < 0) = false := decide_eq_false (by omega)
  have q2 : decide (256 ≤ r.1) = false := decide_eq_false (by omega)
  have q3 : decide (r.2 < 1) = false := decide_eq_false (by omega)
  simp only [q1, q2, q3, Bool.or_false, Bool.and_false]
theorem rtR_wr {p : Option Addr} {T : Ar} (hT : AA p T E) (m i : Int) : wrR (rtR T m i) = false ∧ 0 ≤ (rtR T m i).2 ∧ (rtR T m i).2 ≤ 4294967295 := by
  obtain ⟨b, bo, ph, Eh, pg, Eg, sts, _, _, _, hks, hW, _⟩ := hT
  unfold rtR
  split
  · next h0 =>
    unfold rtE at h0
    cases hm : inM T m with
    | false => rw [hm] at h0; cases h0
    | true =>
      rw [hm, if_pos rfl] at h0
      obtain ⟨j, sk, rfl, hj, hsk, hrt⟩ := inM_yes hm hks
      split at h0
      · next hi =>
        rw [← hrt] at hi ⊢
        have hil : i.toNat < sk.2.1.length := by omega
        exact ok_wr ((hW sk (List.mem_of_getElem? hsk)).ok _ (by rw [List.getD_eq_getElem?_getD, List.getElem?_eq_getElem hil]; exact List.getElem_mem hil))
      · cases h0
  · exact ⟨by decide, by decide, by decide⟩
theorem vaR_wr {p : Option Addr} {T : Ar} (hT : AA p T E) (m i : Int) : wrR (vaR T m i) = false ∧ 0 ≤ (vaR T m i).2 ∧ (vaR T m i).2 ≤ 4294967295 := by
  unfold vaR
  split
  · exact ⟨by decide, by decide, by decide⟩
  · exact rtR_wr hT m i
def ptA (T : Ar) (g : Int) (v : Rf) : Ar := (T.1, T.2.1, T.2.2.set g.toNat v)

set_option maxHeartbeats 2000000 in
set_option maxRecDepth 100000 in
theorem ar_put_ok {p : Option Addr} {T : Ar} (hO : St w0 bs w H) (hT : AA p T E) [hc : Cut H E H1] (m i g : Int) (he : vaE T m i = 0) (hg : inV g = true) (T' : Ar) (v u : Rf) (hv : vaR T m i = v) (hu : T.2.2.getD g.toNat (0, 0) = u) (hT' : ptA T g v = T')
    (hR : ∀ E' w', AA p T' E' → St w0 bs w' (E' ++ H1) → Ret R (.tuple #[.agg #[.int .i64 u.1, .int .u32 u.2], .agg #[.int .i64 v.1, .int .u32 v.2], .int .i64 0]) w') : Calls Tryz.prog 19 #[.pointer p, .int .i64 m, .int .i64 i, .int .i64 g] w R := by
  have hS := hO.front (E := E) (H1 := H1)
  clear hO
  subst hT'
  have hvw := vaR_wr hT m i
  rw [hv] at hvw
  obtain ⟨v1, v2⟩ := v
  obtain ⟨u1, u2⟩ := u
  have hv' := Lib.hid hv
  have he' := Lib.hid he
  obtain ⟨gk, rfl, hgk, _⟩ := inV_yes hg
  rw [Int.toNat_natCast] at hu
  clear hv he hg
  go_enter Tryz.func19, Tryz.ntmps19
  go_wp2_with (first | (refine wpList_is (o := ⟨some 8, _, _, _, _, _⟩) (.alloc _) rfl ?_; go_must (refine wpList_stp (by kernel_rfl) (stp_al _ rfl hS ?_)); clear hS; intro b8 w _ hS) | (refine wpList_is (o := ⟨some 9, _, _, _, _, _⟩) (.alloc _) rfl ?_; go_must (refine wpList_stp (by kernel_rfl) (stp_al _ rfl hS ?_)); clear hS; intro b9 w _ hS) | (go_at_call 62; go_must (refine ar_value hS hT m i (v1, v2) 0 hv'.out he'.out ?_); clear hS; intro w _ hS; unfold Ret) | (refine wpList_is (o := ⟨some 11, _, _, _, _, _⟩) (.alloc _) rfl ?_; go_must (refine wpList_stp (by kernel_rfl) (stp_al _ rfl hS ?_)); clear hS; intro b11 w _ hS) | (refine wpList_is (.store _ _ _) rfl ?_; go_must ((refine wpList_stp (by kernel_rfl) (stp_sta _ _ _ rfl hS ?_))); clear hS; intro w hS))
  obtain ⟨L, ks, G⟩ := T
  obtain ⟨b, bo, ph, Eh, pg, Eg, sts, rfl, hH, hG, hks, hW, hGw, h1, h4, rfl⟩ := id hT
  have hlp := spL_len h4
  obtain ⟨p1, p2, p3⟩ := put_okA (L := G) hgk hvw.1
  have hu2 : G.getD gk (0, 0) = (u1, u2) := hu
  rw [hu2] at p2
  have p1' := Lib.hid p1
  have p2' := Lib.hid p2
  have p3' := Lib.hid p3
  have hvg' := Lib.hid hvw.2
  have hcg' : CellAt (arC (some ⟨bo, 0, none⟩) L.length sts.length (spL sts) pg) (0 + 7) (.pointer pg) := arG hlp
  have hS : St w0 bs w (Eg ++ (⟨b11, #[.int .i64 v1, .int .u32 v2], 25, true⟩ :: ⟨b9, #[.int .i64 0, .int .u32 0], 25, true⟩ :: ⟨b8, #[.int .i64 0, .int .u32 0], 25, true⟩ :: ⟨b, arC (some ⟨bo, 0, none⟩) L.length sts.length (spL sts) pg, 69, true⟩ :: ⟨bo, #[.pointer ph], 63, true⟩ :: (Eh ++ (sts.map skE ++ H1)))) := by
    simp only [List.cons_append, List.append_assoc] at hS
    exact hS.pick
  have hTn : ∀ Eg' Z, GA pg (some (true, G.set gk (v1, v2))) Eg' → Z = ⟨b, arC (some ⟨bo, 0, none⟩) L.length sts.length (spL sts) pg, 69, true⟩ :: ⟨bo, #[.pointer ph], 63, true⟩ :: (Eh ++ (Eg' ++ sts.map skE)) → AA (some ⟨b, 0, none⟩) (ptA (L, ks, G) gk (v1, v2)) Z := by
    rintro Eg' Z hG' rfl
    have e : ptA (L, ks, G) gk (v1, v2) = (L, ks, G.set gk (v1, v2)) := by simp only [ptA, Int.toNat_natCast]
    rw [e]
    refine ⟨b, bo, ph, Eh, pg, Eg', sts, rfl, hH, hG', hks, hW, fun y hy => ?_, h1, h4, rfl⟩
    rcases List.mem_or_eq_of_mem_set hy with hy | rfl
    · exact hGw y hy
    · exact hvw
  have hTn' := Lib.hid hTn
  obtain ⟨Y, hY⟩ : ∃ Y, ⟨b11, #[.int .i64 v1, .int .u32 v2], 25, true⟩ :: ⟨b9, #[.int .i64 0, .int .u32 0], 25, true⟩ :: ⟨b8, #[.int .i64 0, .int .u32 0], 25, true⟩ :: ⟨b, arC (some ⟨bo, 0, none⟩) L.length sts.length (spL sts) pg, 69, true⟩ :: ⟨bo, #[.pointer ph], 63, true⟩ :: (Eh ++ (sts.map skE ++ H1)) = Y := ⟨_, rfl⟩
  have y1 : Has Y b11 #[.int .i64 v1, .int .u32 v2] 25 := by rw [← hY]; infer_instance
  have y2 : Has Y b (arC (some ⟨bo, 0, none⟩) L.length sts.length (spL sts) pg) 69 := by rw [← hY]; infer_instance
  rw [hY] at hS
  clear hT hu hu2 p1 p2 p3 hvw hTn hks hW hGw hH
  refine region_itemsE [⟨(undef, Eg), [(6, fun _ x => GA pg (some (true, G.set gk (v1, v2))) x.2)]⟩, ⟨(undef, []), [(10, fun _ x => ∃ b, x = (.pointer (some ⟨b, 0, none⟩), [⟨b, #[.int .i64 0, .int .u32 0], 25, true⟩])), (11, fun y x => ∃ b, y.1 = .pointer (some ⟨b, 0, none⟩) ∧ x.2 = [⟨b, #[.int .i64 u1, .int .u32 u2], 25, true⟩])]⟩]
    Y (Eg ++ Y) (by simp) hS (by kernel_rfl) (by kernel_rfl) ?_
  refine fx_val (fun _ => rfl) rfl (fun χ w hw => run_mv _ rfl) ?_
  refine fx_val (fun _ => rfl) rfl (fun χ w hw => run_nc _ rfl) ?_
  refine fx_val (fun _ => rfl) rfl (fun χ w hw => run_fa _ _ _ rfl) ?_
  (refine fx_val (fun _ => rfl) rfl (fun χ w hw => run_ld _ _ rfl hw) ?_)
  refine fx_val (fun _ => rfl) rfl (fun χ w hw => run_mv _ rfl) ?_
  (refine fx_val (fun _ => rfl) rfl (fun χ w hw => run_lda _ _ rfl hw) ?_)
  refine fx_turn 0 0 rfl rfl (by kernel_rfl) (by kernel_rfl) (by kernel_rfl) 67 [_, _, _] _ rfl (fun _ => rfl) (enters _ (by kernel_rfl)) (fun _ => .tuple #[.agg #[.int .i64 u1, .int .u32 u2], .int .i64 0]) ?_ ?_
  · intro χ X w _ hS
    exact gv_put (show St w0 bs w (Eg ++ (X ++ _)) from hS) hG gk v1 v2 hvg'.out _ (u1, u2) 0 p3'.out p2'.out p1'.out (fun E' w' hT' hS' => ⟨(undef, E'), rfl, hT', show St w0 bs w' (E' ++ (X ++ _)) from hS'.pick⟩)
  refine fx_val (fun _ => rfl) rfl (fun χ w hw => run_mv _ rfl) ?_
  refine fx_val (fun _ => rfl) rfl (fun χ w hw => run_ext _ _ rfl) ?_
  refine fx_val (fun _ => rfl) rfl (fun χ w hw => run_ext _ _ rfl) ?_
  refine fx_turn0 1 0 rfl rfl (by kernel_rfl) (by kernel_rfl) (by kernel_rfl) (fun _ => rfl) (fun x => x.1) ?_ ?_
  · intro χ X w _ hS
    exact stepX_al _ rfl (show St w0 bs w (X ++ _) from hS) (fun b w' _ hS' => ⟨(_, [_]), rfl, ⟨b, rfl⟩, hS'⟩)
  refine fx_turn0 1 1 rfl rfl (by kernel_rfl) (by kernel_rfl) (by kernel_rfl) (fun _ => rfl) (fun _ => undef) ?_ ?_
  · rintro χ X w ⟨⟨b, hb⟩, _⟩ hS
    have hS : St w0 bs w ((χ 10).2 ++ (X ++ _)) := hS
    rw [hb] at hS
    have hS : St w0 bs w (⟨b, #[.int .i64 0, .int .u32 0], 25, true⟩ :: (X ++ _)) := hS
    have hb1 : (χ 10).1 = .pointer (some ⟨b, 0, none⟩) := by rw [hb]
    exact stepX_stb _ _ _ rfl hS hb1 (fun w' hS' => ⟨(undef, [⟨b, #[.int .i64 u1, .int .u32 u2], 25, true⟩]), rfl, ⟨b, hb1, rfl⟩, hS'⟩)
  refine fx_val (fun _ => rfl) rfl (fun χ w hw => run_as _ rfl) ?_
  refine fx_end rfl ?_
  intro χ w hok hS
  obtain ⟨hT2, _⟩ := hok _ (.head _)
  have hT2 : GA pg (some (true, G.set gk (v1, v2))) (χ 6).2 := hT2
  obtain ⟨⟨b13, hb⟩, ⟨bo', hb1, hb2⟩, _⟩ := hok _ (.tail _ (.head _))
  rw [hb] at hb1
  obtain ⟨⟩ := hb1
  have hS : St w0 bs w (((χ 6).2 ++ ((χ 11).2 ++ [])) ++ Y) := hS
  rw [hb2, List.append_nil, List.append_assoc] at hS
  generalize (χ 6).2 = E2 at hS hT2
  simp only [hb]
  simp only [List.cons_append, List.nil_append] at hS
  clear hok hb2 hb
  rw [← hY] at hS
  go_wp2_with ((go_skip))
  have hS : St w0 bs w (⟨b8, #[.int .i64 0, .int .u32 0], 25, true⟩ :: ⟨b9, #[.int .i64 0, .int .u32 0], 25, true⟩ :: (⟨b13, #[.int .i64 u1, .int .u32 u2], 25, true⟩ :: ⟨b11, #[.int .i64 v1, .int .u32 v2], 25, true⟩ :: ⟨b, arC (some ⟨bo, 0, none⟩) L.length sts.length (spL sts) pg, 69, true⟩ :: ⟨bo, #[.pointer ph], 63, true⟩ :: (Eh ++ (E2 ++ (sts.map skE ++ H1))))) := hS.pick
  obtain ⟨Y2, hY2⟩ : ∃ Y2, (⟨b13, #[.int .i64 u1, .int .u32 u2], 25, true⟩ :: ⟨b11, #[.int .i64 v1, .int .u32 v2], 25, true⟩ :: ⟨b, arC (some ⟨bo, 0, none⟩) L.length sts.length (spL sts) pg, 69, true⟩ :: ⟨bo, #[.pointer ph], 63, true⟩ :: (Eh ++ (E2 ++ (sts.map skE ++ H1)))) = Y2 := ⟨_, rfl⟩
  have z1 : Has Y2 b13 #[.int .i64 u1, .int .u32 u2] 25 := by rw [← hY2]; infer_instance
  have z2 : Has Y2 b11 #[.int .i64 v1, .int .u32 v2] 25 := by rw [← hY2]; infer_instance
  rw [hY2] at hS
  refine region_itemsE [⟨(undef, [⟨b8, #[.int .i64 0, .int .u32 0], 25, true⟩]), [(2, fun _ x => x.2 = [⟨b8, #[.int .i64 u1, .int .u32 u2], 25, true⟩])]⟩, ⟨(undef, [⟨b9, #[.int .i64 0, .int .u32 0], 25, true⟩]), [(3, fun _ x => x.2 = [⟨b9, #[.int .i64 v1, .int .u32 v2], 25, true⟩])]⟩] Y2 (⟨b8, #[.int .i64 0, .int .u32 0], 25, true⟩ :: ⟨b9, #[.int .i64 0, .int .u32 0], 25, true⟩ :: Y2) (by simp) hS (by kernel_rfl) (by kernel_rfl) ?_
  refine fx_val (fun _ => rfl) rfl (fun χ w hw => run_lda _ _ rfl hw) ?_
  refine fx_val (fun _ => rfl) rfl (fun χ w hw => run_lda _ _ rfl hw) ?_
  refine fx_turn0 0 0 rfl rfl (by kernel_rfl) (by kernel_rfl) (by kernel_rfl) (fun _ => rfl) (fun _ => undef) ?_ ?_
  · rintro χ X w _ hS
    exact stepX_sta _ _ _ rfl (show St w0 bs w (⟨b8, #[.int .i64 0, .int .u32 0], 25, true⟩ :: (X ++ _)) from hS) (fun w' hS' => ⟨(undef, [⟨b8, #[.int .i64 u1, .int .u32 u2], 25, true⟩]), rfl, rfl, hS'⟩)
  refine fx_turn0 1 0 rfl rfl (by kernel_rfl) (by kernel_rfl) (by kernel_rfl) (fun _ => rfl) (fun _ => undef) ?_ ?_
  · rintro χ X w _ hS
    exact stepX_sta _ _ _ rfl (show St w0 bs w (⟨b9, #[.int .i64 0, .int .u32 0], 25, true⟩ :: (X ++ _)) from hS) (fun w' hS' => ⟨(undef, [⟨b9, #[.int .i64 v1, .int .u32 v2], 25, true⟩]), rfl, rfl, hS'⟩)
  refine fx_val (fun _ => rfl) rfl (fun χ w hw => run_as _ rfl) ?_
  refine fx_end rfl ?_
  intro χ w hok hS
  obtain ⟨hD1, _⟩ := hok _ (.head _)
  obtain ⟨hD2, _⟩ := hok _ (.tail _ (.head _))
  have hD1 : (χ 2).2 = [⟨b8, #[.int .i64 u1, .int .u32 u2], 25, true⟩] := hD1
  have hD2 : (χ 3).2 = [⟨b9, #[.int .i64 v1, .int .u32 v2], 25, true⟩] := hD2
  have hS : St w0 bs w (((χ 2).2 ++ ((χ 3).2 ++ [])) ++ Y2) := hS
  rw [hD1, hD2] at hS
  clear hok hD1 hD2
  simp only [List.cons_append, List.nil_append] at hS
  go_wp2_with ((go_skip))
  refine bodyPost_ret (res_cct rfl hS) rfl ?_
  rw [← hY2] at hS
  exact hR _ _ (hTn'.out _ _ hT2 rfl) (by simp only [List.cons_append, List.append_assoc]; exact hS.pick)

def stA (T : Ar) (m i f c : Int) : Ar := (hpL (stT (some (some T.1)) (rtR T m i).1 (rtR T m i).2 f (vaR T m c)), T.2.1, T.2.2)
set_option maxHeartbeats 2000000 in
set_option maxRecDepth 100000 in
theorem ar_store_ok {p : Option Addr} {T : Ar} (hO : St w0 bs w H) (hT : AA p T E) [hc : Cut H E H1] (m i f c : Int) (her : rtE T m i = 0) (hev : vaE T m c = 0) (r v u : Rf) (hr : rtR T m i = r) (hv : vaR T m c = v) (hes : stE (some (some T.1)) r.1 r.2 f v = 0) (hu : stR (some (some T.1)) r.1 r.2 f v = u) (T' : Ar) (hT' : stA T m i f c = T')
    (hR : ∀ E' w', AA p T' E' → St w0 bs w' (E' ++ H1) → Ret R (.tuple #[.agg #[.int .i64 u.1, .int .u32 u.2], .agg #[.int .i64 v.1, .int .u32 v.2], .int .i64 0]) w') : Calls Tryz.prog 17 #[.pointer p, .int .i64 m, .int .i64 i, .int .i64 f, .int .i64 c] w R := by
  have hS := hO.front (E := E) (H1 := H1)
  clear hO
  subst hT'
  have hvw := vaR_wr hT m c
  rw [hv] at hvw
  obtain ⟨v1, v2⟩ := v
  obtain ⟨u1, u2⟩ := u
  obtain ⟨r1, r2⟩ := r
  have hv' := Lib.hid hv
  have hev' := Lib.hid hev
  have hr' := Lib.hid hr
  have her' := Lib.hid her
  have hTe : stA T m i f c = (hpL (stT (some (some T.1)) r1 r2 f (v1, v2)), T.2.1, T.2.2) := by unfold stA; rw [hr, hv]
  rw [hTe] at hR
  clear hv hev hr her hTe
  go_enter Tryz.func17, Tryz.ntmps17
  go_wp2_with (first | (refine wpList_is (o := ⟨some 10, _, _, _, _, _⟩) (.alloc _) rfl ?_; go_must (refine wpList_stp (by kernel_rfl) (stp_al _ rfl hS ?_)); clear hS; intro b10 w _ hS) | (refine wpList_is (o := ⟨some 11, _, _, _, _, _⟩) (.alloc _) rfl ?_; go_must (refine wpList_stp (by kernel_rfl) (stp_al _ rfl hS ?_)); clear hS; intro b11 w _ hS) | (go_at_call 22; go_must (refine ar_root hS hT m i (r1, r2) 0 hr'.out her'.out ?_); clear hS; intro w _ hS; unfold Ret) | (go_at_call 62; go_must (refine ar_value hS hT m c (v1, v2) 0 hv'.out hev'.out ?_); clear hS; intro w _ hS; unfold Ret) | (refine wpList_is (o := ⟨some 13, _, _, _, _, _⟩) (.alloc _) rfl ?_; go_must (refine wpList_stp (by kernel_rfl) (stp_al _ rfl hS ?_)); clear hS; intro b13 w _ hS) | (refine wpList_is (o := ⟨some 15, _, _, _, _, _⟩) (.alloc _) rfl ?_; go_must (refine wpList_stp (by kernel_rfl) (stp_al _ rfl hS ?_)); clear hS; intro b15 w _ hS) | (refine wpList_is (.store _ _ _) rfl ?_; go_must ((refine wpList_stp (by kernel_rfl) (stp_sta _ _ _ rfl hS ?_))); clear hS; intro w hS))
  obtain ⟨L, ks, G⟩ := T
  obtain ⟨b, bo, ph, Eh, pg, Eg, sts, rfl, hH, hG, hks, hW, hGw, h1, h4, rfl⟩ := id hT
  have hes2 : stE (some (some L)) r1 r2 f (v1, v2) = 0 := hes
  have hu2 : stR (some (some L)) r1 r2 f (v1, v2) = (u1, u2) := hu
  obtain ⟨L', hL', hll⟩ : ∃ L', stT (some (some L)) r1 r2 f (v1, v2) = some (some L') ∧ L'.length = L.length := by
    unfold stT
    rw [if_pos hes2]
    exact ⟨_, rfl, by simp [seN, hpL]⟩
  have hes' := Lib.hid hes2
  have hu' := Lib.hid hu2
  have hL2' := Lib.hid hL'
  have hvg' := Lib.hid hvw.2
  have hR : ∀ E' w', AA (some ⟨b, 0, none⟩) (L', ks, G) E' → St w0 bs w' (E' ++ H1) → Ret R (.tuple #[.agg #[.int .i64 u1, .int .u32 u2], .agg #[.int .i64 v1, .int .u32 v2], .int .i64 0]) w' := fun E' w' h => hR E' w' (by simp only [hL', hpL]; exact h)
  have hS : St w0 bs w (Eh ++ (⟨b15, #[.int .i64 v1, .int .u32 v2], 25, true⟩ :: ⟨b13, #[.int .i64 r1, .int .u32 r2], 25, true⟩ :: ⟨b11, #[.int .i64 0, .int .u32 0], 25, true⟩ :: ⟨b10, #[.int .i64 0, .int .u32 0], 25, true⟩ :: ⟨b, arC (some ⟨bo, 0, none⟩) L.length sts.length (spL sts) pg, 69, true⟩ :: ⟨bo, #[.pointer ph], 63, true⟩ :: (Eg ++ (sts.map skE ++ H1)))) := by
    simp only [List.cons_append, List.append_assoc] at hS
    exact hS.pick
  have hTn : ∀ Eh' Z, HA ph (some (some L')) Eh' → Z = ⟨b, arC (some ⟨bo, 0, none⟩) L.length sts.length (spL sts) pg, 69, true⟩ :: ⟨bo, #[.pointer ph], 63, true⟩ :: (Eh' ++ (Eg ++ sts.map skE)) → AA (some ⟨b, 0, none⟩) (L', ks, G) Z := by
    rintro Eh' Z hH' rfl
    exact ⟨b, bo, ph, Eh', pg, Eg, sts, rfl, hH', hG, hks, hW, hGw, h1, h4, by rw [hll]⟩
  have hTn' := Lib.hid hTn
  obtain ⟨Y, hY⟩ : ∃ Y, ⟨b15, #[.int .i64 v1, .int .u32 v2], 25, true⟩ :: ⟨b13, #[.int .i64 r1, .int .u32 r2], 25, true⟩ :: ⟨b11, #[.int .i64 0, .int .u32 0], 25, true⟩ :: ⟨b10, #[.int .i64 0, .int .u32 0], 25, true⟩ :: ⟨b, arC (some ⟨bo, 0, none⟩) L.length sts.length (spL sts) pg, 69, true⟩ :: ⟨bo, #[.pointer ph], 63, true⟩ :: (Eg ++ (sts.map skE ++ H1)) = Y := ⟨_, rfl⟩
  have y1 : Has Y b15 #[.int .i64 v1, .int .u32 v2] 25 := by rw [← hY]; infer_instance
  have y3 : Has Y b13 #[.int .i64 r1, .int .u32 r2] 25 := by rw [← hY]; infer_instance
  have y2 : Has Y b (arC (some ⟨bo, 0, none⟩) L.length sts.length (spL sts) pg) 69 := by rw [← hY]; infer_instance
  have y4 : Has Y bo #[.pointer ph] 63 := by rw [← hY]; infer_instance
  rw [hY] at hS
  clear hT hu hu2 hes hes2 hL' hvw hTn hks hW hGw hG hll
  refine region_itemsE [⟨(undef, Eh), [(10, fun _ x => HA ph (some (some L')) x.2)]⟩, ⟨(undef, []), [(14, fun _ x => ∃ b, x = (.pointer (some ⟨b, 0, none⟩), [⟨b, #[.int .i64 0, .int .u32 0], 25, true⟩])), (15, fun y x => ∃ b, y.1 = .pointer (some ⟨b, 0, none⟩) ∧ x.2 = [⟨b, #[.int .i64 u1, .int .u32 u2], 25, true⟩])]⟩]
    Y (Eh ++ Y) (by simp) hS (by kernel_rfl) (by kernel_rfl) ?_
  refine fx_val (fun _ => rfl) rfl (fun χ w hw => run_mv _ rfl) ?_
  refine fx_val (fun _ => rfl) rfl (fun χ w hw => run_nc _ rfl) ?_
  refine fx_val (fun _ => rfl) rfl (fun χ w hw => run_fa _ _ _ rfl) ?_
  (refine fx_val (fun _ => rfl) rfl (fun χ w hw => run_ld _ _ rfl hw) ?_)
  refine fx_val (fun _ => rfl) rfl (fun χ w hw => run_nc _ rfl) ?_
  refine fx_val (fun _ => rfl) rfl (fun χ w hw => run_fa _ _ _ rfl) ?_
  (refine fx_val (fun _ => rfl) rfl (fun χ w hw => run_ld _ _ rfl hw) ?_)
  (refine fx_val (fun _ => rfl) rfl (fun χ w hw => run_lda _ _ rfl hw) ?_)
  refine fx_val (fun _ => rfl) rfl (fun χ w hw => run_mv _ rfl) ?_
  (refine fx_val (fun _ => rfl) rfl (fun χ w hw => run_lda _ _ rfl hw) ?_)
  refine fx_turn 0 0 rfl rfl (by kernel_rfl) (by kernel_rfl) (by kernel_rfl) 63 [_, _, _, _] _ rfl (fun _ => rfl) (enters _ (by kernel_rfl)) (fun _ => .tuple #[.agg #[.int .i64 u1, .int .u32 u2], .int .i64 0]) ?_ ?_
  · intro χ X w _ hS
    exact hp_store (show St w0 bs w (Eh ++ (X ++ _)) from hS) hH r1 r2 f v1 v2 hvg'.out _ (u1, u2) 0 hL2'.out hu'.out hes'.out (fun E' w' hT' hS' => ⟨(undef, E'), rfl, hT', show St w0 bs w' (E' ++ (X ++ _)) from hS'.pick⟩)
  refine fx_val (fun _ => rfl) rfl (fun χ w hw => run_mv _ rfl) ?_
  refine fx_val (fun _ => rfl) rfl (fun χ w hw => run_ext _ _ rfl) ?_
  refine fx_val (fun _ => rfl) rfl (fun χ w hw => run_ext _ _ rfl) ?_
  refine fx_turn0 1 0 rfl rfl (by kernel_rfl) (by kernel_rfl) (by kernel_rfl) (fun _ => rfl) (fun x => x.1) ?_ ?_
  · intro χ X w _ hS
    exact stepX_al _ rfl (show St w0 bs w (X ++ _) from hS) (fun b w' _ hS' => ⟨(_, [_]), rfl, ⟨b, rfl⟩, hS'⟩)
  refine fx_turn0 1 1 rfl rfl (by kernel_rfl) (by kernel_rfl) (by kernel_rfl) (fun _ => rfl) (fun _ => undef) ?_ ?_
  · rintro χ X w ⟨⟨b, hb⟩, _⟩ hS
    have hS : St w0 bs w ((χ 14).2 ++ (X ++ _)) := hS
    rw [hb] at hS
    have hS : St w0 bs w (⟨b, #[.int .i64 0, .int .u32 0], 25, true⟩ :: (X ++ _)) := hS
    have hb1 : (χ 14).1 = .pointer (some ⟨b, 0, none⟩) := by rw [hb]
    exact stepX_stb _ _ _ rfl hS hb1 (fun w' hS' => ⟨(undef, [⟨b, #[.int .i64 u1, .int .u32 u2], 25, true⟩]), rfl, ⟨b, hb1, rfl⟩, hS'⟩)
  refine fx_val (fun _ => rfl) rfl (fun χ w hw => run_as _ rfl) ?_
  refine fx_end rfl ?_
  intro χ w hok hS
  obtain ⟨hT2, _⟩ := hok _ (.head _)
  have hT2 : HA ph (some (some L')) (χ 10).2 := hT2
  obtain ⟨⟨b16, hb⟩, ⟨bo', hb1, hb2⟩, _⟩ := hok _ (.tail _ (.head _))
  rw [hb] at hb1
  obtain ⟨⟩ := hb1
  have hS : St w0 bs w (((χ 10).2 ++ ((χ 15).2 ++ [])) ++ Y) := hS
  rw [hb2, List.append_nil, List.append_assoc] at hS
  generalize (χ 10).2 = E2 at hS hT2
  simp only [hb]
  simp only [List.cons_append, List.nil_append] at hS
  clear hok hb2 hb
  rw [← hY] at hS
  go_wp2_with ((go_skip))
  have hS : St w0 bs w (⟨b10, #[.int .i64 0, .int .u32 0], 25, true⟩ :: ⟨b11, #[.int .i64 0, .int .u32 0], 25, true⟩ :: (⟨b16, #[.int .i64 u1, .int .u32 u2], 25, true⟩ :: ⟨b15, #[.int .i64 v1, .int .u32 v2], 25, true⟩ :: ⟨b13, #[.int .i64 r1, .int .u32 r2], 25, true⟩ :: ⟨b, arC (some ⟨bo, 0, none⟩) L.length sts.length (spL sts) pg, 69, true⟩ :: ⟨bo, #[.pointer ph], 63, true⟩ :: (E2 ++ (Eg ++ (sts.map skE ++ H1))))) := hS.pick
  obtain ⟨Y2, hY2⟩ : ∃ Y2, (⟨b16, #[.int .i64 u1, .int .u32 u2], 25, true⟩ :: ⟨b15, #[.int .i64 v1, .int .u32 v2], 25, true⟩ :: ⟨b13, #[.int .i64 r1, .int .u32 r2], 25, true⟩ :: ⟨b, arC (some ⟨bo, 0, none⟩) L.length sts.length (spL sts) pg, 69, true⟩ :: ⟨bo, #[.pointer ph], 63, true⟩ :: (E2 ++ (Eg ++ (sts.map skE ++ H1)))) = Y2 := ⟨_, rfl⟩
  have z1 : Has Y2 b16 #[.int .i64 u1, .int .u32 u2] 25 := by rw [← hY2]; infer_instance
  have z2 : Has Y2 b15 #[.int .i64 v1, .int .u32 v2] 25 := by rw [← hY2]; infer_instance
  rw [hY2] at hS
  refine region_itemsE [⟨(undef, [⟨b10, #[.int .i64 0, .int .u32 0], 25, true⟩]), [(2, fun _ x => x.2 = [⟨b10, #[.int .i64 u1, .int .u32 u2], 25, true⟩])]⟩, ⟨(undef, [⟨b11, #[.int .i64 0, .int .u32 0], 25, true⟩]), [(3, fun _ x => x.2 = [⟨b11, #[.int .i64 v1, .int .u32 v2], 25, true⟩])]⟩] Y2 (⟨b10, #[.int .i64 0, .int .u32 0], 25, true⟩ :: ⟨b11, #[.int .i64 0, .int .u32 0], 25, true⟩ :: Y2) (by simp) hS (by kernel_rfl) (by kernel_rfl) ?_
  refine fx_val (fun _ => rfl) rfl (fun χ w hw => run_lda _ _ rfl hw) ?_
  refine fx_val (fun _ => rfl) rfl (fun χ w hw => run_lda _ _ rfl hw) ?_
  refine fx_turn0 0 0 rfl rfl (by kernel_rfl) (by kernel_rfl) (by kernel_rfl) (fun _ => rfl) (fun _ => undef) ?_ ?_
  · rintro χ X w _ hS
    exact stepX_sta _ _ _ rfl (show St w0 bs w (⟨b10, #[.int .i64 0, .int .u32 0], 25, true⟩ :: (X ++ _)) from hS) (fun w' hS' => ⟨(undef, [⟨b10, #[.int .i64 u1, .int .u32 u2], 25, true⟩]), rfl, rfl, hS'⟩)
  refine fx_turn0 1 0 rfl rfl (by kernel_rfl) (by kernel_rfl) (by kernel_rfl) (fun _ => rfl) (fun _ => undef) ?_ ?_
  · rintro χ X w _ hS
    exact stepX_sta _ _ _ rfl (show St w0 bs w (⟨b11, #[.int .i64 0, .int .u32 0], 25, true⟩ :: (X ++ _)) from hS) (fun w' hS' => ⟨(undef, [⟨b11, #[.int .i64 v1, .int .u32 v2], 25, true⟩]), rfl, rfl, hS'⟩)
  refine fx_val (fun _ => rfl) rfl (fun χ w hw => run_as _ rfl) ?_
  refine fx_end rfl ?_
  intro χ w hok hS
  obtain ⟨hD1, _⟩ := hok _ (.head _)
  obtain ⟨hD2, _⟩ := hok _ (.tail _ (.head _))
  have hD1 : (χ 2).2 = [⟨b10, #[.int .i64 u1, .int .u32 u2], 25, true⟩] := hD1
  have hD2 : (χ 3).2 = [⟨b11, #[.int .i64 v1, .int .u32 v2], 25, true⟩] := hD2
  have hS : St w0 bs w (((χ 2).2 ++ ((χ 3).2 ++ [])) ++ Y2) := hS
  rw [hD1, hD2] at hS
  clear hok hD1 hD2
  simp only [List.cons_append, List.nil_append] at hS
  go_wp2_with ((go_skip))
  refine bodyPost_ret (res_cct rfl hS) rfl ?_
  rw [← hY2] at hS
  exact hR _ _ (hTn'.out _ _ hT2 rfl) (by simp only [List.cons_append, List.append_assoc]; exact hS.pick)

end Go.Proofs.YtjlihigodggfcaaGreat
