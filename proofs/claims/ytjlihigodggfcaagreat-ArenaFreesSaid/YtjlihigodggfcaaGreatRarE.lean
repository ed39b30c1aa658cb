/-
  The document's arenas: Store, Put.
-/
import Derived.Test.YtjlihigodggfcaaGreatRarD
set_option linter.unusedSimpArgs false
set_option linter.unusedVariables false
namespace Go.Proofs.YtjlihigodggfcaaGreat
open Go Go.RowKit Go.Mm
variable {R : Ending → World → Prop} {w : World} {w0 : World} {bs : List Nat} {H H' H1 H2 E Z : List Ent}
theorem st_no {T : Ar} {m i f c q : Int} (hq : q ≠ 0) (he : stAE T m i f c = q) : stAT T m i f c = T ∧ stAW T m i f c = (0, 0) ∧ stAV T m i f c = (0, 0) ∧ stAE T m i f c = q :=
  ⟨by unfold stAT; rw [he, if_neg hq], by unfold stAW; rw [he, if_neg hq], by unfold stAV; rw [he, if_neg hq], he⟩
theorem st_e {T : Ar} {m i f c q : Int} (h0 : rtE T m i = 0) (h1 : vaE T m c = 0) {r v : Rf} (hr : rtR T m i = r) (hv : vaR T m c = v) (hq : stE (some (some T.1)) r.1 r.2 f v = q) : stAE T m i f c = q := by
  unfold stAE
  rw [h0, h1, hr, hv, if_neg (by decide), if_neg (by decide), hq]
theorem st_yes {T : Ar} {m i f c : Int} (h0 : rtE T m i = 0) (h1 : vaE T m c = 0) {r v y : Rf} (hr : rtR T m i = r) (hv : vaR T m c = v) (hq : stE (some (some T.1)) r.1 r.2 f v = 0) (hy : stR (some (some T.1)) r.1 r.2 f v = y) {L' : List Hs} (hL : stT (some (some T.1)) r.1 r.2 f v = some (some L')) :
    stAT T m i f c = (L', T.2.1, T.2.2) ∧ stAW T m i f c = y ∧ stAV T m i f c = v ∧ stAE T m i f c = 0 := by
  have he := st_e h0 h1 hr hv hq
  refine ⟨by unfold stAT stA; rw [he, if_pos rfl, hr, hv, hL]; rfl, by unfold stAW; rw [he, if_pos rfl, hr, hv, hy], by unfold stAV; rw [he, if_pos rfl, hv], he⟩
set_option maxHeartbeats 1000000 in
set_option maxRecDepth 100000 in
theorem rr_store {p : Option Addr} {T : Ar} (hO : St w0 bs w H) (hT : AR p T E Z) [hc : Cut H E H1] [hz : Cut H1 Z H2] (m i f c : Int) (hvg : 0 ≤ (vaR T m c).2 ∧ (vaR T m c).2 ≤ 4294967295) (T' : Ar) (u v : Rf) (e : Int) (hT' : stAT T m i f c = T') (hu : stAW T m i f c = u) (hv : stAV T m i f c = v) (he : stAE T m i f c = e)
    (hR : ∀ E' X w', AR p T' E' (X ++ Z) → St w0 bs w' (E' ++ (X ++ (Z ++ H2))) → Ret R (.tuple #[.agg #[.int .i64 u.1, .int .u32 u.2], .agg #[.int .i64 v.1, .int .u32 v.2], .int .i64 e]) w') : Calls Tryz.prog 29 #[.pointer p, .int .i64 m, .int .i64 i, .int .i64 f, .int .i64 c] w R := by
  subst hT' hu hv he
  obtain ⟨⟨r1, r2⟩, hx⟩ : ∃ x, rtR T m i = x := ⟨_, rfl⟩
  obtain ⟨e1, h0e⟩ : ∃ e, rtE T m i = e := ⟨_, rfl⟩
  obtain ⟨⟨v1, v2⟩, hw⟩ : ∃ x, vaR T m c = x := ⟨_, rfl⟩
  obtain ⟨e2, hwe⟩ : ∃ e, vaE T m c = e := ⟨_, rfl⟩
  rw [hw] at hvg
  by_cases h0 : e1 = 0
  case neg =>
    have hS := hO.front (E := E) (H1 := H1)
    have hS : St w0 bs w (E ++ (Z ++ H2)) := hS.pick
    clear hO
    obtain ⟨a1, a2, a3, a4⟩ := st_no (m := m) (i := i) (f := f) (c := c) h0 (show stAE T m i f c = e1 by unfold stAE; rw [h0e, if_pos h0])
    rw [a1, a2, a3, a4] at hR
    have d : decide (e1 = 0) = false := decide_eq_false h0
    have q : (e1 != 0) = true := by simpa using h0
    clear a1 a2 a3 a4 hvg
    go_enter Tryz.func29, Tryz.ntmps29
    go_wp2_with (first | (refine wpList_is (o := ⟨some 10, _, _, _, _, _⟩) (.alloc _) rfl ?_; go_must (refine wpList_stp rfl (stp_al _ rfl hS ?_)); clear hS; intro b10 w _ hS) | (refine wpList_is (o := ⟨some 11, _, _, _, _, _⟩) (.alloc _) rfl ?_; go_must (refine wpList_stp rfl (stp_al _ rfl hS ?_)); clear hS; intro b11 w _ hS) | (refine wpList_is (o := ⟨some 13, _, _, _, _, _⟩) (.alloc _) rfl ?_; go_must (refine wpList_stp rfl (stp_al _ rfl hS ?_)); clear hS; intro b13 w _ hS) | (go_at_call 33; refine rr_root hS hT _ _ _ _ hx h0e ?_; clear hS; intro w hS; unfold Ret) | (refine wpList_is (.build _ _) rfl ?_; go_must (refine wpList_stp (by kernel_rfl) (stp_val (run_bd _ _ rfl) ?_))) | (refine wpList_is (.store _ _ _) rfl ?_; go_must ((refine wpList_stp (by kernel_rfl) (stp_sta _ _ _ rfl hS ?_))); clear hS; intro w hS))
    refine bodyPost_ret (res_cct rfl hS) rfl ?_
    refine hR E [] _ hT ?_
    simp only [List.nil_append]
    exact hS.pick
  subst h0
  by_cases h1 : e2 = 0
  case neg =>
    have hS := hO.front (E := E) (H1 := H1)
    have hS : St w0 bs w (E ++ (Z ++ H2)) := hS.pick
    clear hO
    obtain ⟨a1, a2, a3, a4⟩ := st_no (m := m) (i := i) (f := f) (c := c) h1 (show stAE T m i f c = e2 by unfold stAE; rw [h0e, hwe, if_neg (by decide), if_pos h1])
    rw [a1, a2, a3, a4] at hR
    have d : decide (e2 = 0) = false := decide_eq_false h1
    have q : (e2 != 0) = true := by simpa using h1
    clear a1 a2 a3 a4 hvg
    go_enter Tryz.func29, Tryz.ntmps29
    go_wp2_with (first | (refine wpList_is (o := ⟨some 10, _, _, _, _, _⟩) (.alloc _) rfl ?_; go_must (refine wpList_stp rfl (stp_al _ rfl hS ?_)); clear hS; intro b10 w _ hS) | (refine wpList_is (o := ⟨some 11, _, _, _, _, _⟩) (.alloc _) rfl ?_; go_must (refine wpList_stp rfl (stp_al _ rfl hS ?_)); clear hS; intro b11 w _ hS) | (refine wpList_is (o := ⟨some 13, _, _, _, _, _⟩) (.alloc _) rfl ?_; go_must (refine wpList_stp rfl (stp_al _ rfl hS ?_)); clear hS; intro b13 w _ hS) | (refine wpList_is (o := ⟨some 15, _, _, _, _, _⟩) (.alloc _) rfl ?_; go_must (refine wpList_stp rfl (stp_al _ rfl hS ?_)); clear hS; intro b15 w _ hS) | (go_at_call 33; refine rr_root hS hT _ _ _ _ hx h0e ?_; clear hS; intro w hS; unfold Ret) | (go_at_call 81; refine rr_value hS hT m c _ _ hw hwe ?_; clear hS; intro w hS; unfold Ret) | (refine wpList_is (.build _ _) rfl ?_; go_must (refine wpList_stp (by kernel_rfl) (stp_val (run_bd _ _ rfl) ?_))) | (refine wpList_is (.store _ _ _) rfl ?_; go_must ((refine wpList_stp (by kernel_rfl) (stp_sta _ _ _ rfl hS ?_))); clear hS; intro w hS))
    refine bodyPost_ret (res_cct rfl hS) rfl ?_
    refine hR E [] _ hT ?_
    simp only [List.nil_append]
    exact hS.pick
  subst h1
  obtain ⟨q, hq⟩ : ∃ q, stE (some (some T.1)) r1 r2 f (v1, v2) = q := ⟨_, rfl⟩
  obtain ⟨⟨y1, y2⟩, hy⟩ : ∃ y, stR (some (some T.1)) r1 r2 f (v1, v2) = y := ⟨_, rfl⟩
  have hA := st_e (m := m) (i := i) (c := c) (T := T) (f := f) h0e hwe hx hw hq
  have hB : ∀ L', stT (some (some T.1)) r1 r2 f (v1, v2) = some (some L') → q = 0 → stAT T m i f c = (L', T.2.1, T.2.2) ∧ stAW T m i f c = (y1, y2) ∧ stAV T m i f c = (v1, v2) ∧ stAE T m i f c = 0 := fun L' h1 h2 => st_yes h0e hwe hx hw (by rw [hq, h2]) hy h1
  have hA' := Lib.hid hA
  have hB' := Lib.hid hB
  have hx' := Lib.hid hx
  have hw' := Lib.hid hw
  have hq' := Lib.hid hq
  have hy' := Lib.hid hy
  have hvg' := Lib.hid hvg
  have hR' := Lib.hid hR
  clear hA hB hq hy hvg hR
  have hS := hO.front (E := E) (H1 := H1)
  have hS : St w0 bs w (E ++ (Z ++ H2)) := hS.pick
  clear hO
  obtain ⟨L, ks, G⟩ := T
  obtain ⟨b, ph, Eh, g, cap, vs, sp, rfl, hH, hvl, hvz, h1, h4, hcap, hG8, h32, hE⟩ := id hT
  have hE' := Lib.hid hE
  clear hE
  simp only at hvl hvz hG8 h32 hH
  obtain ⟨L', hL', hll, hLe⟩ : ∃ L', stT (some (some L)) r1 r2 f (v1, v2) = some (some L') ∧ L'.length = L.length ∧ (q ≠ 0 → L' = L) := by
    have hq := hq'.out
    simp only at hq
    unfold stT
    by_cases h : q = 0
    · rw [if_pos (by rw [hq]; exact h)]; exact ⟨_, rfl, by simp [seN, hpL], fun h2 => absurd h h2⟩
    · rw [if_neg (by rw [hq]; exact h)]; exact ⟨_, rfl, rfl, fun _ => rfl⟩
  have hTn : ∀ Eh', RH ph (some (some L')) Eh' → AR (some ⟨b, 0, none⟩) (L', ks, G) (⟨b, arR L.length ph (.slice (some ⟨g, 0, none⟩) vs.length cap) G, 77, true⟩ :: ⟨g, ovB vs sp, 81, true⟩ :: Eh') ([] ++ Z) := by
    intro Eh' hH'
    exact ⟨b, ph, Eh', g, cap, vs, sp, rfl, hH', hvl, hvz, h1, h4, hcap, hG8, h32, by rw [hll]⟩
  have hTn' := Lib.hid hTn
  have hL2' := Lib.hid hL'
  have hLe' := Lib.hid hLe
  clear hTn hL' hLe hll hvz h32
  go_enter Tryz.func29, Tryz.ntmps29
  go_wp2_with (first | (refine wpList_is (o := ⟨some 10, _, _, _, _, _⟩) (.alloc _) rfl ?_; go_must (refine wpList_stp rfl (stp_al _ rfl hS ?_)); clear hS; intro b10 w _ hS) | (refine wpList_is (o := ⟨some 11, _, _, _, _, _⟩) (.alloc _) rfl ?_; go_must (refine wpList_stp rfl (stp_al _ rfl hS ?_)); clear hS; intro b11 w _ hS) | (refine wpList_is (o := ⟨some 13, _, _, _, _, _⟩) (.alloc _) rfl ?_; go_must (refine wpList_stp rfl (stp_al _ rfl hS ?_)); clear hS; intro b13 w _ hS) | (refine wpList_is (o := ⟨some 15, _, _, _, _, _⟩) (.alloc _) rfl ?_; go_must (refine wpList_stp rfl (stp_al _ rfl hS ?_)); clear hS; intro b15 w _ hS) | (go_at_call 33; refine rr_root hS hT _ _ _ _ hx h0e ?_; clear hS; intro w hS; unfold Ret) | (go_at_call 81; refine rr_value hS hT m c _ _ hw hwe ?_; clear hS; intro w hS; unfold Ret) | (refine wpList_is (.store _ _ _) rfl ?_; go_must ((refine wpList_stp (by kernel_rfl) (stp_sta _ _ _ rfl hS ?_))); clear hS; intro w hS))
  rw [hE'.out] at hS
  simp only [List.cons_append] at hS
  have hS : St w0 bs _ (Eh ++ (⟨b15, #[.int .i64 v1, .int .u32 v2], 25, true⟩ :: ⟨b13, #[.int .i64 r1, .int .u32 r2], 25, true⟩ :: ⟨b11, #[.int .i64 0, .int .u32 0], 25, true⟩ :: ⟨b10, #[.int .i64 0, .int .u32 0], 25, true⟩ :: ⟨b, arR L.length ph (.slice (some ⟨g, 0, none⟩) vs.length cap) G, 77, true⟩ :: ⟨g, ovB vs sp, 81, true⟩ :: (Z ++ H2))) := hS.pick
  refine region_itemsE [⟨(undef, Eh), [(7, fun _ x => RH ph (some (some L')) x.2)]⟩, ⟨(undef, []), [(11, fun _ x => ∃ b, x = (.pointer (some ⟨b, 0, none⟩), [⟨b, #[.int .i64 0, .int .u32 0], 25, true⟩])), (12, fun y x => ∃ b, y.1 = .pointer (some ⟨b, 0, none⟩) ∧ x.2 = [⟨b, #[.int .i64 y1, .int .u32 y2], 25, true⟩])]⟩]
    (⟨b15, #[.int .i64 v1, .int .u32 v2], 25, true⟩ :: ⟨b13, #[.int .i64 r1, .int .u32 r2], 25, true⟩ :: ⟨b11, #[.int .i64 0, .int .u32 0], 25, true⟩ :: ⟨b10, #[.int .i64 0, .int .u32 0], 25, true⟩ :: ⟨b, arR L.length ph (.slice (some ⟨g, 0, none⟩) vs.length cap) G, 77, true⟩ :: ⟨g, ovB vs sp, 81, true⟩ :: (Z ++ H2)) (Eh ++ (⟨b15, #[.int .i64 v1, .int .u32 v2], 25, true⟩ :: ⟨b13, #[.int .i64 r1, .int .u32 r2], 25, true⟩ :: ⟨b11, #[.int .i64 0, .int .u32 0], 25, true⟩ :: ⟨b10, #[.int .i64 0, .int .u32 0], 25, true⟩ :: ⟨b, arR L.length ph (.slice (some ⟨g, 0, none⟩) vs.length cap) G, 77, true⟩ :: ⟨g, ovB vs sp, 81, true⟩ :: (Z ++ H2))) (by simp) hS (by kernel_rfl) (by kernel_rfl) ?_
  refine fx_val (fun _ => rfl) rfl (fun χ w hw => run_mv _ rfl) ?_
  refine fx_val (fun _ => rfl) rfl (fun χ w hw => run_nc _ rfl) ?_
  refine fx_val (fun _ => rfl) rfl (fun χ w hw => run_fa _ _ _ rfl) ?_
  (refine fx_val (fun _ => rfl) rfl (fun χ w hw => run_ld _ _ rfl hw) ?_)
  (refine fx_val (fun _ => rfl) rfl (fun χ w hw => run_lda _ _ rfl hw) ?_)
  refine fx_val (fun _ => rfl) rfl (fun χ w hw => run_mv _ rfl) ?_
  (refine fx_val (fun _ => rfl) rfl (fun χ w hw => run_lda _ _ rfl hw) ?_)
  refine fx_turn 0 0 rfl rfl (by kernel_rfl) (by kernel_rfl) (by kernel_rfl) 82 [_, _, _, _] _ rfl (fun _ => rfl) (enters _ (by kernel_rfl)) (fun _ => .tuple #[.agg #[.int .i64 y1, .int .u32 y2], .int .i64 q]) ?_ ?_
  · intro χ X w _ hS
    exact rh_store (show St w0 bs w (Eh ++ (X ++ _)) from hS) hH r1 r2 f v1 v2 hvg'.out _ (y1, y2) q hL2'.out hy'.out hq'.out (fun E' w' hT' hS' => ⟨(undef, E'), rfl, hT', show St w0 bs w' (E' ++ (X ++ _)) from hS'.pick⟩)
  refine fx_val (fun _ => rfl) rfl (fun χ w hw => run_mv _ rfl) ?_
  refine fx_val (fun _ => rfl) rfl (fun χ w hw => run_ext _ _ rfl) ?_
  refine fx_val (fun _ => rfl) rfl (fun χ w hw => run_ext _ _ rfl) ?_
  refine fx_turn0 1 0 rfl rfl (by kernel_rfl) (by kernel_rfl) (by kernel_rfl) (fun _ => rfl) (fun x => x.1) ?_ ?_
  · intro χ X w _ hS
    exact stepX_al _ rfl (show St w0 bs w (X ++ _) from hS) (fun b w' _ hS' => ⟨(_, [_]), rfl, ⟨b, rfl⟩, hS'⟩)
  refine fx_turn0 1 1 rfl rfl (by kernel_rfl) (by kernel_rfl) (by kernel_rfl) (fun _ => rfl) (fun _ => undef) ?_ ?_
  · rintro χ X w ⟨⟨b, hb⟩, _⟩ hS
    have hS : St w0 bs w ((χ 11).2 ++ (X ++ _)) := hS
    rw [hb] at hS
    have hS : St w0 bs w (⟨b, #[.int .i64 0, .int .u32 0], 25, true⟩ :: (X ++ _)) := hS
    have hb1 : (χ 11).1 = .pointer (some ⟨b, 0, none⟩) := by rw [hb]
    exact stepX_stb _ _ _ rfl hS hb1 (fun w' hS' => ⟨(undef, [⟨b, #[.int .i64 y1, .int .u32 y2], 25, true⟩]), rfl, ⟨b, hb1, rfl⟩, hS'⟩)
  refine fx_val (fun _ => rfl) rfl (fun χ w hw => run_as _ rfl) ?_
  refine fx_end rfl ?_
  intro χ w hok hS
  obtain ⟨hD, _⟩ := hok _ (.head _)
  have hD : RH ph (some (some L')) (χ 7).2 := hD
  obtain ⟨⟨b17, hb0⟩, ⟨_, hbx, hc0⟩, _⟩ := hok _ (.tail _ (.head _))
  rw [hb0] at hbx
  obtain ⟨⟩ := hbx
  have hS : St w0 bs w (((χ 7).2 ++ ((χ 12).2 ++ [])) ++ (⟨b15, #[.int .i64 v1, .int .u32 v2], 25, true⟩ :: ⟨b13, #[.int .i64 r1, .int .u32 r2], 25, true⟩ :: ⟨b11, #[.int .i64 0, .int .u32 0], 25, true⟩ :: ⟨b10, #[.int .i64 0, .int .u32 0], 25, true⟩ :: ⟨b, arR L.length ph (.slice (some ⟨g, 0, none⟩) vs.length cap) G, 77, true⟩ :: ⟨g, ovB vs sp, 81, true⟩ :: (Z ++ H2))) := hS
  rw [hc0, List.append_nil, List.append_assoc] at hS
  generalize (χ 7).2 = E2 at hS hD
  simp only [hb0]
  simp only [List.cons_append, List.nil_append, List.append_assoc] at hS
  clear hok hb0 hc0
  by_cases h2 : q = 0
  case neg =>
    obtain rfl := hLe'.out h2
    have d : decide (q = 0) = false := decide_eq_false h2
    have qq : (q != 0) = true := by simpa using h2
    have hA := hA'.out
    obtain ⟨a1, a2, a3, a4⟩ := st_no h2 hA
    have hR := hR'.out
    rw [a1, a2, a3, a4] at hR
    clear a1 a2 a3 a4 hA
    go_wp2_with (first | (refine wpList_is (.build _ _) rfl ?_; go_must (refine wpList_stp (by kernel_rfl) (stp_val (run_bd _ _ rfl) ?_))) | (refine wpList_is (.store _ _ _) rfl ?_; go_must ((refine wpList_stp (by kernel_rfl) (stp_sta _ _ _ rfl hS ?_))); clear hS; intro w hS))
    refine bodyPost_ret (res_cct rfl hS) rfl ?_
    exact hR _ [] _ (hTn'.out _ hD) (by simp only [List.cons_append, List.nil_append]; exact hS.pick)
  subst h2
  obtain ⟨a1, a2, a3, a4⟩ := hB'.out L' hL2'.out rfl
  have hR := hR'.out
  rw [a1, a2, a3, a4] at hR
  clear a1 a2 a3 a4
  go_wp2_with ((go_skip))
  have hS : St w0 bs _ (⟨b10, #[.int .i64 0, .int .u32 0], 25, true⟩ :: ⟨b11, #[.int .i64 0, .int .u32 0], 25, true⟩ :: (⟨b17, #[.int .i64 y1, .int .u32 y2], 25, true⟩ :: ⟨b15, #[.int .i64 v1, .int .u32 v2], 25, true⟩ :: ⟨b13, #[.int .i64 r1, .int .u32 r2], 25, true⟩ :: ⟨b, arR L.length ph (.slice (some ⟨g, 0, none⟩) vs.length cap) G, 77, true⟩ :: ⟨g, ovB vs sp, 81, true⟩ :: (E2 ++ (Z ++ H2)))) := hS.pick
  refine region_itemsE [⟨(undef, [⟨b10, #[.int .i64 0, .int .u32 0], 25, true⟩]), [(2, fun _ x => x.2 = [⟨b10, #[.int .i64 y1, .int .u32 y2], 25, true⟩])]⟩, ⟨(undef, [⟨b11, #[.int .i64 0, .int .u32 0], 25, true⟩]), [(3, fun _ x => x.2 = [⟨b11, #[.int .i64 v1, .int .u32 v2], 25, true⟩])]⟩] (⟨b17, #[.int .i64 y1, .int .u32 y2], 25, true⟩ :: ⟨b15, #[.int .i64 v1, .int .u32 v2], 25, true⟩ :: ⟨b13, #[.int .i64 r1, .int .u32 r2], 25, true⟩ :: ⟨b, arR L.length ph (.slice (some ⟨g, 0, none⟩) vs.length cap) G, 77, true⟩ :: ⟨g, ovB vs sp, 81, true⟩ :: (E2 ++ (Z ++ H2))) (⟨b10, #[.int .i64 0, .int .u32 0], 25, true⟩ :: ⟨b11, #[.int .i64 0, .int .u32 0], 25, true⟩ :: (⟨b17, #[.int .i64 y1, .int .u32 y2], 25, true⟩ :: ⟨b15, #[.int .i64 v1, .int .u32 v2], 25, true⟩ :: ⟨b13, #[.int .i64 r1, .int .u32 r2], 25, true⟩ :: ⟨b, arR L.length ph (.slice (some ⟨g, 0, none⟩) vs.length cap) G, 77, true⟩ :: ⟨g, ovB vs sp, 81, true⟩ :: (E2 ++ (Z ++ H2)))) (by simp) hS (by kernel_rfl) (by kernel_rfl) ?_
  (refine fx_val (fun _ => rfl) rfl (fun χ w hw => run_lda _ _ rfl hw) ?_)
  (refine fx_val (fun _ => rfl) rfl (fun χ w hw => run_lda _ _ rfl hw) ?_)
  refine fx_turn0 0 0 rfl rfl (by kernel_rfl) (by kernel_rfl) (by kernel_rfl) (fun _ => rfl) (fun _ => undef) ?_ ?_
  · intro χ X w _ hS
    exact stepX_sta _ _ _ rfl (show St w0 bs w (⟨b10, #[.int .i64 0, .int .u32 0], 25, true⟩ :: (X ++ _)) from hS) (fun w' hS' => ⟨(undef, [⟨b10, #[.int .i64 y1, .int .u32 y2], 25, true⟩]), rfl, rfl, hS'⟩)
  refine fx_turn0 1 0 rfl rfl (by kernel_rfl) (by kernel_rfl) (by kernel_rfl) (fun _ => rfl) (fun _ => undef) ?_ ?_
  · intro χ X w _ hS
    exact stepX_sta _ _ _ rfl (show St w0 bs w (⟨b11, #[.int .i64 0, .int .u32 0], 25, true⟩ :: (X ++ _)) from hS) (fun w' hS' => ⟨(undef, [⟨b11, #[.int .i64 v1, .int .u32 v2], 25, true⟩]), rfl, rfl, hS'⟩)
  refine fx_val (fun _ => rfl) rfl (fun χ w hw => run_as _ rfl) ?_
  refine fx_end rfl ?_
  intro χ w hok hS
  obtain ⟨hD1, _⟩ := hok _ (.head _)
  obtain ⟨hD2, _⟩ := hok _ (.tail _ (.head _))
  have hD1 : (χ 2).2 = [⟨b10, #[.int .i64 y1, .int .u32 y2], 25, true⟩] := hD1
  have hD2 : (χ 3).2 = [⟨b11, #[.int .i64 v1, .int .u32 v2], 25, true⟩] := hD2
  have hS : St w0 bs w (((χ 2).2 ++ ((χ 3).2 ++ [])) ++ (⟨b17, #[.int .i64 y1, .int .u32 y2], 25, true⟩ :: ⟨b15, #[.int .i64 v1, .int .u32 v2], 25, true⟩ :: ⟨b13, #[.int .i64 r1, .int .u32 r2], 25, true⟩ :: ⟨b, arR L.length ph (.slice (some ⟨g, 0, none⟩) vs.length cap) G, 77, true⟩ :: ⟨g, ovB vs sp, 81, true⟩ :: (E2 ++ (Z ++ H2)))) := hS
  rw [hD1, hD2] at hS
  clear hok hD1 hD2
  simp only [List.cons_append, List.nil_append] at hS
  go_wp2_with ((go_skip))
  refine bodyPost_ret (res_cct rfl hS) rfl ?_
  exact hR _ [] _ (hTn'.out _ hD) (by simp only [List.cons_append, List.nil_append]; exact hS.pick)
theorem pt_no {T : Ar} {m i f q : Int} (hq : q ≠ 0) (he : ptAE T m i f = q) : ptAT T m i f = T ∧ ptAW T m i f = (0, 0) ∧ ptAV T m i f = (0, 0) ∧ ptAE T m i f = q :=
  ⟨by unfold ptAT; rw [he, if_neg hq], by unfold ptAW; rw [he, if_neg hq], by unfold ptAV; rw [he, if_neg hq], he⟩
theorem pt_yes {T : Ar} {m i : Int} {k : Nat} (h1 : vaE T m i = 0) (hf : inV k = true) {v u : Rf} (hv : vaR T m i = v) (hu : T.2.2.getD k (0, 0) = u) :
    ptAT T m i k = (T.1, T.2.1, T.2.2.set k v) ∧ ptAW T m i k = u ∧ ptAV T m i k = v ∧ ptAE T m i k = 0 := by
  have he : ptAE T m i k = 0 := by unfold ptAE; rw [h1, hf, if_neg (by decide)]; rfl
  refine ⟨by unfold ptAT ptA; rw [he, if_pos rfl, hv, Int.toNat_natCast], by unfold ptAW; rw [he, if_pos rfl, Int.toNat_natCast, hu], by unfold ptAV; rw [he, if_pos rfl, hv], he⟩
set_option maxHeartbeats 1000000 in
set_option maxRecDepth 100000 in
theorem rr_put {p : Option Addr} {T : Ar} (hO : St w0 bs w H) (hT : AR p T E Z) [hc : Cut H E H1] [hz : Cut H1 Z H2] (m i f : Int) (T' : Ar) (u v : Rf) (e : Int) (hT' : ptAT T m i f = T') (hu : ptAW T m i f = u) (hv : ptAV T m i f = v) (he : ptAE T m i f = e)
    (hR : ∀ E' X w', AR p T' E' (X ++ Z) → St w0 bs w' (E' ++ (X ++ (Z ++ H2))) → Ret R (.tuple #[.agg #[.int .i64 u.1, .int .u32 u.2], .agg #[.int .i64 v.1, .int .u32 v.2], .int .i64 e]) w') : Calls Tryz.prog 31 #[.pointer p, .int .i64 m, .int .i64 i, .int .i64 f] w R := by
  subst hT' hu hv he
  obtain ⟨⟨v1, v2⟩, hw⟩ : ∃ x, vaR T m i = x := ⟨_, rfl⟩
  obtain ⟨e2, hwe⟩ : ∃ e, vaE T m i = e := ⟨_, rfl⟩
  by_cases h1 : e2 = 0
  case neg =>
    have hS := hO.front (E := E) (H1 := H1)
    have hS : St w0 bs w (E ++ (Z ++ H2)) := hS.pick
    clear hO
    obtain ⟨a1, a2, a3, a4⟩ := pt_no (m := m) (i := i) (f := f) h1 (show ptAE T m i f = e2 by unfold ptAE; rw [hwe, if_pos h1])
    rw [a1, a2, a3, a4] at hR
    have d : decide (e2 = 0) = false := decide_eq_false h1
    have q : (e2 != 0) = true := by simpa using h1
    clear a1 a2 a3 a4
    go_enter Tryz.func31, Tryz.ntmps31
    go_wp2_with (first | (refine wpList_is (o := ⟨some 8, _, _, _, _, _⟩) (.alloc _) rfl ?_; go_must (refine wpList_stp rfl (stp_al _ rfl hS ?_)); clear hS; intro b8 w _ hS) | (refine wpList_is (o := ⟨some 9, _, _, _, _, _⟩) (.alloc _) rfl ?_; go_must (refine wpList_stp rfl (stp_al _ rfl hS ?_)); clear hS; intro b9 w _ hS) | (refine wpList_is (o := ⟨some 11, _, _, _, _, _⟩) (.alloc _) rfl ?_; go_must (refine wpList_stp rfl (stp_al _ rfl hS ?_)); clear hS; intro b11 w _ hS) | (go_at_call 81; refine rr_value hS hT m i _ _ hw hwe ?_; clear hS; intro w hS; unfold Ret) | (refine wpList_is (.build _ _) rfl ?_; go_must (refine wpList_stp (by kernel_rfl) (stp_val (run_bd _ _ rfl) ?_))) | (refine wpList_is (.store _ _ _) rfl ?_; go_must ((refine wpList_stp (by kernel_rfl) (stp_sta _ _ _ rfl hS ?_))); clear hS; intro w hS))
    refine bodyPost_ret (res_cct rfl hS) rfl ?_
    refine hR E [] _ hT ?_
    simp only [List.nil_append]
    exact hS.pick
  subst h1
  cases hf : inV f with
  | false =>
    have hS := hO.front (E := E) (H1 := H1)
    have hS : St w0 bs w (E ++ (Z ++ H2)) := hS.pick
    clear hO
    obtain ⟨a1, a2, a3, a4⟩ := pt_no (m := m) (i := i) (f := f) (q := 3) (by decide) (show ptAE T m i f = 3 by unfold ptAE; rw [hwe, hf, if_neg (by decide)]; rfl)
    rw [a1, a2, a3, a4] at hR
    have hf2 : f < 0 ∨ 8 ≤ f := by
      unfold inV at hf
      simp only [Bool.and_eq_false_iff, decide_eq_false_iff_not] at hf
      omega
    clear a1 a2 a3 a4 hf
    rcases hf2 with hf2 | hf2
    · have d : decide (f < 0) = true := decide_eq_true hf2
      go_enter Tryz.func31, Tryz.ntmps31
      go_wp2_with (first | (refine wpList_is (o := ⟨some 8, _, _, _, _, _⟩) (.alloc _) rfl ?_; go_must (refine wpList_stp rfl (stp_al _ rfl hS ?_)); clear hS; intro b8 w _ hS) | (refine wpList_is (o := ⟨some 9, _, _, _, _, _⟩) (.alloc _) rfl ?_; go_must (refine wpList_stp rfl (stp_al _ rfl hS ?_)); clear hS; intro b9 w _ hS) | (refine wpList_is (o := ⟨some 11, _, _, _, _, _⟩) (.alloc _) rfl ?_; go_must (refine wpList_stp rfl (stp_al _ rfl hS ?_)); clear hS; intro b11 w _ hS) | (go_at_call 81; refine rr_value hS hT m i _ _ hw hwe ?_; clear hS; intro w hS; unfold Ret) | (refine wpList_is (.build _ _) rfl ?_; go_must (refine wpList_stp (by kernel_rfl) (stp_val (run_bd _ _ rfl) ?_))) | (refine wpList_is (.store _ _ _) rfl ?_; go_must ((refine wpList_stp (by kernel_rfl) (stp_sta _ _ _ rfl hS ?_))); clear hS; intro w hS))
      refine bodyPost_ret (res_cct rfl hS) rfl ?_
      refine hR E [] _ hT ?_
      simp only [List.nil_append]
      exact hS.pick
    · have d : decide (f < 0) = false := decide_eq_false (by omega)
      have d2 : decide (8 ≤ f) = true := decide_eq_true hf2
      go_enter Tryz.func31, Tryz.ntmps31
      go_wp2_with (first | (refine wpList_is (o := ⟨some 8, _, _, _, _, _⟩) (.alloc _) rfl ?_; go_must (refine wpList_stp rfl (stp_al _ rfl hS ?_)); clear hS; intro b8 w _ hS) | (refine wpList_is (o := ⟨some 9, _, _, _, _, _⟩) (.alloc _) rfl ?_; go_must (refine wpList_stp rfl (stp_al _ rfl hS ?_)); clear hS; intro b9 w _ hS) | (refine wpList_is (o := ⟨some 11, _, _, _, _, _⟩) (.alloc _) rfl ?_; go_must (refine wpList_stp rfl (stp_al _ rfl hS ?_)); clear hS; intro b11 w _ hS) | (go_at_call 81; refine rr_value hS hT m i _ _ hw hwe ?_; clear hS; intro w hS; unfold Ret) | (refine wpList_is (.build _ _) rfl ?_; go_must (refine wpList_stp (by kernel_rfl) (stp_val (run_bd _ _ rfl) ?_))) | (refine wpList_is (.store _ _ _) rfl ?_; go_must ((refine wpList_stp (by kernel_rfl) (stp_sta _ _ _ rfl hS ?_))); clear hS; intro w hS))
      refine bodyPost_ret (res_cct rfl hS) rfl ?_
      refine hR E [] _ hT ?_
      simp only [List.nil_append]
      exact hS.pick
  | true =>
    obtain ⟨k, rfl, hk8, hkn⟩ := inV_yes hf
    obtain ⟨⟨u1, u2⟩, hu⟩ : ∃ x, T.2.2.getD k (0, 0) = x := ⟨_, rfl⟩
    obtain ⟨a1, a2, a3, a4⟩ := pt_yes hwe hf hw hu
    rw [a1, a2, a3, a4] at hR
    clear a1 a2 a3 a4
    have hS := hO.front (E := E) (H1 := H1)
    have hS : St w0 bs w (E ++ (Z ++ H2)) := hS.pick
    clear hO
    obtain ⟨L, ks, G⟩ := T
    obtain ⟨b, ph, Eh, g, cap, vs, sp, rfl, hH, hvl, hvz, h1, h4, hcap, hG8, h32, hE⟩ := id hT
    have hE' := Lib.hid hE
    clear hE
    simp only at hvl hvz hG8 h32 hH
    simp only at hu hR
    have hx2 : G[k]? = some (u1, u2) := by rw [← hu, List.getD_eq_getElem?_getD, List.getElem?_eq_getElem (show k < G.length by omega)]; rfl
    have hb := arRG (z := L.length) (ph := ph) (v := .slice (some ⟨g, 0, none⟩) vs.length cap) hx2
    have hb2 := arRGS (z := L.length) (ph := ph) (v := .slice (some ⟨g, 0, none⟩) vs.length cap) (G := G) (show k < G.length by omega) v1 v2
    have hgi := rr_gi (b := b) hk8
    have d0 : decide ((k : Int) < 0) = false := decide_eq_false (by omega)
    have d2 : decide ((8 : Int) ≤ (k : Int)) = false := decide_eq_false (by omega)
    have d3 : decide (8 ≤ k) = false := decide_eq_false (by omega)
    have hTn : AR (some ⟨b, 0, none⟩) (L, ks, G.set k (v1, v2)) (⟨b, arR L.length ph (.slice (some ⟨g, 0, none⟩) vs.length cap) (G.set k (v1, v2)), 77, true⟩ :: ⟨g, ovB vs sp, 81, true⟩ :: Eh) ([] ++ Z) := ⟨b, ph, Eh, g, cap, vs, sp, rfl, hH, hvl, hvz, h1, h4, hcap, by rw [List.length_set]; exact hG8, h32, rfl⟩
    have hTn' := Lib.hid hTn
    simp only at hb
    have hR' := Lib.hid hR
    clear hx2 hu hf hTn hvz h32 hR
    go_enter Tryz.func31, Tryz.ntmps31
    go_wp2_with (first | (refine wpList_is (o := ⟨some 8, _, _, _, _, _⟩) (.alloc _) rfl ?_; go_must (refine wpList_stp rfl (stp_al _ rfl hS ?_)); clear hS; intro b8 w _ hS) | (refine wpList_is (o := ⟨some 9, _, _, _, _, _⟩) (.alloc _) rfl ?_; go_must (refine wpList_stp rfl (stp_al _ rfl hS ?_)); clear hS; intro b9 w _ hS) | (refine wpList_is (o := ⟨some 11, _, _, _, _, _⟩) (.alloc _) rfl ?_; go_must (refine wpList_stp rfl (stp_al _ rfl hS ?_)); clear hS; intro b11 w _ hS) | (refine wpList_is (o := ⟨some 13, _, _, _, _, _⟩) (.alloc _) rfl ?_; go_must (refine wpList_stp rfl (stp_al _ rfl hS ?_)); clear hS; intro b13 w _ hS) | (go_at_call 81; refine rr_value hS hT m i _ _ hw hwe ?_; clear hS; intro w hS; rw [hE'.out] at hS; simp only [List.cons_append] at hS; unfold Ret) | (refine wpList_is (.load _ _) rfl ?_; go_must ((refine wpList_stp (by kernel_rfl) (stp_val (run_lda _ _ rfl hS) ?_)))) | (refine wpList_is (.store _ _ _) rfl ?_; go_must ((refine wpList_stp (by kernel_rfl) (stp_sta _ _ _ rfl hS ?_))); clear hS; intro w hS))
    have hS : St w0 bs _ (⟨b, arR L.length ph (.slice (some ⟨g, 0, none⟩) vs.length cap) G, 77, true⟩ :: (⟨b13, #[.int .i64 u1, .int .u32 u2], 25, true⟩ :: ⟨b11, #[.int .i64 v1, .int .u32 v2], 25, true⟩ :: ⟨b9, #[.int .i64 0, .int .u32 0], 25, true⟩ :: ⟨b8, #[.int .i64 0, .int .u32 0], 25, true⟩ :: ⟨g, ovB vs sp, 81, true⟩ :: (Eh ++ (Z ++ H2)))) := hS.pick
    refine region_itemsE [⟨(undef, [⟨b, arR L.length ph (.slice (some ⟨g, 0, none⟩) vs.length cap) G, 77, true⟩]), [(6, fun _ x => x.2 = [⟨b, arR L.length ph (.slice (some ⟨g, 0, none⟩) vs.length cap) (G.set k (v1, v2)), 77, true⟩])]⟩]
      (⟨b13, #[.int .i64 u1, .int .u32 u2], 25, true⟩ :: ⟨b11, #[.int .i64 v1, .int .u32 v2], 25, true⟩ :: ⟨b9, #[.int .i64 0, .int .u32 0], 25, true⟩ :: ⟨b8, #[.int .i64 0, .int .u32 0], 25, true⟩ :: ⟨g, ovB vs sp, 81, true⟩ :: (Eh ++ (Z ++ H2))) (⟨b, arR L.length ph (.slice (some ⟨g, 0, none⟩) vs.length cap) G, 77, true⟩ :: (⟨b13, #[.int .i64 u1, .int .u32 u2], 25, true⟩ :: ⟨b11, #[.int .i64 v1, .int .u32 v2], 25, true⟩ :: ⟨b9, #[.int .i64 0, .int .u32 0], 25, true⟩ :: ⟨b8, #[.int .i64 0, .int .u32 0], 25, true⟩ :: ⟨g, ovB vs sp, 81, true⟩ :: (Eh ++ (Z ++ H2)))) (by simp) hS (by kernel_rfl) (by kernel_rfl) ?_
    refine fx_val (fun _ => rfl) rfl (fun χ w hw => run_mv _ rfl) ?_
    refine fx_val (fun _ => rfl) rfl (fun χ w hw => run_mv _ rfl) ?_
    (refine fx_val (fun _ => rfl) rfl (fun χ w hw => run_lda _ _ rfl hw) ?_)
    refine fx_val (fun _ => rfl) rfl (fun χ w hw => run_nc _ rfl) ?_
    refine fx_val (fun _ => rfl) rfl (fun χ w hw => run_fa _ _ _ rfl) ?_
    refine fx_val (fun _ => rfl) rfl (fun χ w hw => run_idxv _ _ _ rfl) ?_
    refine fx_turn0 0 0 rfl rfl (by kernel_rfl) (by kernel_rfl) (by kernel_rfl) (fun _ => rfl) (fun _ => undef) ?_ ?_
    · intro χ X w _ hS
      exact stepX_sta _ _ _ rfl (show St w0 bs w (⟨b, arR L.length ph (.slice (some ⟨g, 0, none⟩) vs.length cap) G, 77, true⟩ :: (X ++ _)) from hS) (fun w' hS' => ⟨(undef, [⟨b, arR L.length ph (.slice (some ⟨g, 0, none⟩) vs.length cap) (G.set k (v1, v2)), 77, true⟩]), rfl, rfl, hS'⟩)
    refine fx_end rfl ?_
    intro χ w hok hS
    obtain ⟨hD, _⟩ := hok _ (.head _)
    have hD : (χ 6).2 = [⟨b, arR L.length ph (.slice (some ⟨g, 0, none⟩) vs.length cap) (G.set k (v1, v2)), 77, true⟩] := hD
    have hS : St w0 bs w (((χ 6).2 ++ []) ++ (⟨b13, #[.int .i64 u1, .int .u32 u2], 25, true⟩ :: ⟨b11, #[.int .i64 v1, .int .u32 v2], 25, true⟩ :: ⟨b9, #[.int .i64 0, .int .u32 0], 25, true⟩ :: ⟨b8, #[.int .i64 0, .int .u32 0], 25, true⟩ :: ⟨g, ovB vs sp, 81, true⟩ :: (Eh ++ (Z ++ H2)))) := hS
    rw [hD] at hS
    simp only [List.cons_append, List.nil_append, List.append_assoc] at hS
    clear hok hD
    go_wp2_with ((go_skip))
    have hS : St w0 bs _ (⟨b8, #[.int .i64 0, .int .u32 0], 25, true⟩ :: ⟨b9, #[.int .i64 0, .int .u32 0], 25, true⟩ :: (⟨b13, #[.int .i64 u1, .int .u32 u2], 25, true⟩ :: ⟨b11, #[.int .i64 v1, .int .u32 v2], 25, true⟩ :: ⟨b, arR L.length ph (.slice (some ⟨g, 0, none⟩) vs.length cap) (G.set k (v1, v2)), 77, true⟩ :: ⟨g, ovB vs sp, 81, true⟩ :: (Eh ++ (Z ++ H2)))) := hS.pick
    refine region_itemsE [⟨(undef, [⟨b8, #[.int .i64 0, .int .u32 0], 25, true⟩]), [(2, fun _ x => x.2 = [⟨b8, #[.int .i64 u1, .int .u32 u2], 25, true⟩])]⟩, ⟨(undef, [⟨b9, #[.int .i64 0, .int .u32 0], 25, true⟩]), [(3, fun _ x => x.2 = [⟨b9, #[.int .i64 v1, .int .u32 v2], 25, true⟩])]⟩] (⟨b13, #[.int .i64 u1, .int .u32 u2], 25, true⟩ :: ⟨b11, #[.int .i64 v1, .int .u32 v2], 25, true⟩ :: ⟨b, arR L.length ph (.slice (some ⟨g, 0, none⟩) vs.length cap) (G.set k (v1, v2)), 77, true⟩ :: ⟨g, ovB vs sp, 81, true⟩ :: (Eh ++ (Z ++ H2))) (⟨b8, #[.int .i64 0, .int .u32 0], 25, true⟩ :: ⟨b9, #[.int .i64 0, .int .u32 0], 25, true⟩ :: (⟨b13, #[.int .i64 u1, .int .u32 u2], 25, true⟩ :: ⟨b11, #[.int .i64 v1, .int .u32 v2], 25, true⟩ :: ⟨b, arR L.length ph (.slice (some ⟨g, 0, none⟩) vs.length cap) (G.set k (v1, v2)), 77, true⟩ :: ⟨g, ovB vs sp, 81, true⟩ :: (Eh ++ (Z ++ H2)))) (by simp) hS (by kernel_rfl) (by kernel_rfl) ?_
    (refine fx_val (fun _ => rfl) rfl (fun χ w hw => run_lda _ _ rfl hw) ?_)
    (refine fx_val (fun _ => rfl) rfl (fun χ w hw => run_lda _ _ rfl hw) ?_)
    refine fx_turn0 0 0 rfl rfl (by kernel_rfl) (by kernel_rfl) (by kernel_rfl) (fun _ => rfl) (fun _ => undef) ?_ ?_
    · intro χ X w _ hS
      exact stepX_sta _ _ _ rfl (show St w0 bs w (⟨b8, #[.int .i64 0, .int .u32 0], 25, true⟩ :: (X ++ _)) from hS) (fun w' hS' => ⟨(undef, [⟨b8, #[.int .i64 u1, .int .u32 u2], 25, true⟩]), rfl, rfl, hS'⟩)
    refine fx_turn0 1 0 rfl rfl (by kernel_rfl) (by kernel_rfl) (by kernel_rfl) (fun _ => rfl) (fun _ => undef) ?_ ?_
    · intro χ X w _ hS
      exact stepX_sta _ _ _ rfl (show St w0 bs w (⟨b9, #[.int .i64 0, .int .u32 0], 25, true⟩ :: (X ++ _)) from hS) (fun w' hS' => ⟨(undef, [⟨b9, #[.int .i64 v1, .int .u32 v2], 25, true⟩]), rfl, rfl, hS'⟩)
    refine fx_val (fun _ => rfl) rfl (fun χ w hw => run_as _ rfl) ?_
    refine fx_end rfl ?_
    intro χ w hok hS
    obtain ⟨hD1, _⟩ := hok _ (.head _)
    obtain ⟨hD2, _⟩ := hok _ (.tail _ (.head _))
    have hD1 : (χ 2).2 = [⟨b8, #[.int .i64 u1, .int .u32 u2], 25, true⟩] := hD1
    have hD2 : (χ 3).2 = [⟨b9, #[.int .i64 v1, .int .u32 v2], 25, true⟩] := hD2
    have hS : St w0 bs w (((χ 2).2 ++ ((χ 3).2 ++ [])) ++ (⟨b13, #[.int .i64 u1, .int .u32 u2], 25, true⟩ :: ⟨b11, #[.int .i64 v1, .int .u32 v2], 25, true⟩ :: ⟨b, arR L.length ph (.slice (some ⟨g, 0, none⟩) vs.length cap) (G.set k (v1, v2)), 77, true⟩ :: ⟨g, ovB vs sp, 81, true⟩ :: (Eh ++ (Z ++ H2)))) := hS
    rw [hD1, hD2] at hS
    clear hok hD1 hD2
    simp only [List.cons_append, List.nil_append] at hS
    go_wp2_with ((go_skip))
    refine bodyPost_ret (res_cct rfl hS) rfl ?_
    exact hR'.out _ [] _ hTn'.out (by simp only [List.cons_append, List.nil_append]; exact hS.pick)
theorem pre_ofR {P : Program} {t e : TypeId} {z g n cap m : Nat} (ht : P.underlying t = some (.slice e)) (hs : (P.info? e).map (·.size) = some z) (hm : m ≤ cap) (hz : 0 < cap) : PreV P t (.slice (some ⟨g, 0, none⟩) n cap) m (.slice (some ⟨g, 0, none⟩) m cap) := ⟨fun w => by
  have h2 : 0 ≤ (m : Int) := by omega
  have h3 : cap ≠ 0 := by omega
  simp [Instr.sliceAt, run_underlying ht, Instr.slice, Instr.sliceBounds, Instr.sliceBound, asIntOf, hm, run_sizeOf' hs, Addr.add]⟩
theorem rt_q {T : Ar} {m i : Int} (h : rtE T m i = 0) : ∃ q : Nat, i = q ∧ q < (rtL T m).length := by
  unfold rtE at h
  split at h
  · split at h
    · next h2 => exact ⟨i.toNat, by omega, by omega⟩
    · cases h
  · cases h
set_option maxHeartbeats 1000000 in
set_option maxRecDepth 100000 in
theorem rr_drop {p : Option Addr} {T : Ar} (hO : St w0 bs w H) (hT : AR p T E Z) [hc : Cut H E H1] [hz : Cut H1 Z H2] (m i : Int) (T' : Ar) (x : Rf) (e : Int) (hT' : drT T m i = T') (hx : rtR T m i = x) (he : rtE T m i = e)
    (hR : ∀ E' X w', AR p T' E' (X ++ Z) → St w0 bs w' (E' ++ (X ++ (Z ++ H2))) → Ret R (.tuple #[.agg #[.int .i64 x.1, .int .u32 x.2], .int .i64 e]) w') : Calls Tryz.prog 30 #[.pointer p, .int .i64 m, .int .i64 i] w R := by
  subst hT'
  obtain ⟨x1, x2⟩ := x
  have h0e := he
  by_cases h0 : e = 0
  case neg =>
    have hS := hO.front (E := E) (H1 := H1)
    have hS : St w0 bs w (E ++ (Z ++ H2)) := hS.pick
    clear hO
    have a1 : drT T m i = T := by unfold drT; rw [he, if_neg h0]
    have a2 : (x1, x2) = (0, 0) := by rw [← hx]; unfold rtR; rw [he, if_neg h0]
    obtain ⟨rfl, rfl⟩ := Prod.mk.inj a2
    rw [a1] at hR
    have d : decide (e = 0) = false := decide_eq_false h0
    have q : (e != 0) = true := by simpa using h0
    clear a1 a2
    go_enter Tryz.func30, Tryz.ntmps30
    go_wp2_with (first | (refine wpList_is (o := ⟨some 6, _, _, _, _, _⟩) (.alloc _) rfl ?_; go_must (refine wpList_stp rfl (stp_al _ rfl hS ?_)); clear hS; intro b6 w _ hS) | (refine wpList_is (o := ⟨some 8, _, _, _, _, _⟩) (.alloc _) rfl ?_; go_must (refine wpList_stp rfl (stp_al _ rfl hS ?_)); clear hS; intro b8 w _ hS) | (go_at_call 33; refine rr_root hS hT _ _ _ _ hx h0e ?_; clear hS; intro w hS; unfold Ret) | (refine wpList_is (.build _ _) rfl ?_; go_must (refine wpList_stp (by kernel_rfl) (stp_val (run_bd _ _ rfl) ?_))) | (refine wpList_is (.store _ _ _) rfl ?_; go_must ((refine wpList_stp (by kernel_rfl) (stp_sta _ _ _ rfl hS ?_))); clear hS; intro w hS))
    refine bodyPost_ret (res_ct rfl hS) rfl ?_
    refine hR E [] _ hT ?_
    simp only [List.nil_append]
    exact hS.pick
  subst h0
  have hm := inM_of h0e
  obtain ⟨q, rfl, hql⟩ := rt_q h0e
  have hS := hO.front (E := E) (H1 := H1)
  have hS : St w0 bs w (E ++ (Z ++ H2)) := hS.pick
  clear hO
  obtain ⟨L, ks, G⟩ := T
  obtain ⟨b, ph, Eh, g, cap, vs, sp, rfl, hH, hvl, hvz, h1, h4, hcap, hG8, h32, hE⟩ := id hT
  have hE' := Lib.hid hE
  clear hE
  simp only at hvl hvz hG8 h32 hH
  obtain ⟨j, rfl, hjk⟩ := inM_nat hm
  simp only at hjk
  obtain ⟨v, hv⟩ : ∃ v, vs[j]? = some v := ⟨_, List.getElem?_eq_getElem (show j < vs.length by omega)⟩
  have hjv : j < vs.length := by omega
  have cv := ovAt (sp := sp) hv
  have ix := ov_idx (g := g) (n := vs.length) (cap := cap) hjv
  obtain ⟨l, hl⟩ : ∃ l, ks.getD j [] = l := ⟨_, rfl⟩
  have hrz := hvz j v hv
  rw [hl] at hrz
  obtain ⟨e0, Z1, hrs, hcz⟩ := hrz
  have hone := hrs.one
  have hln := hrs.len rfl
  have hl32 : l.length ≤ 32 := by rw [← hl]; exact h32 _ (ks_mem hjk)
  have e : rtL (L, ks, G) (j : Int) = l := by rw [rtL, Int.toNat_natCast, hl]
  rw [e] at hql
  have hall : ∀ v ∈ vs, v.oneCell' = true := fun v hv => by
    obtain ⟨i, hi, rfl⟩ := List.mem_iff_getElem.1 hv
    obtain ⟨_, _, h, _⟩ := hvz i _ (List.getElem?_eq_getElem hi)
    exact h.one.h
  have hTn : ∀ v5 E5 g' cap' sp', (vs.length ≤ cap' ∧ cap' ≤ maxLen ∧ vs.length + sp'.length = cap') → RS v5 (l.take q ++ l.drop (q + 1)) E5 → AR (some ⟨b, 0, none⟩) (drT (L, ks, G) j q) (⟨b, arR L.length ph (.slice (some ⟨g', 0, none⟩) vs.length cap') G, 77, true⟩ :: ⟨g', ovB (vs.set j v5) sp', 81, true⟩ :: Eh) (E5 ++ Z) := by
    intro v5 E5 g' cap' sp' hb hA
    have e2 : drT (L, ks, G) j q = (L, ks.set j (l.take q ++ l.drop (q + 1)), G) := by rw [drT, if_pos h0e, Int.toNat_natCast, Int.toNat_natCast, e]
    rw [e2]
    exact rar_put hH hvl hvz h1 h4 hb hG8 h32 hjv hA (by rw [List.length_append, List.length_take, List.length_drop]; omega)
  have hTn' := Lib.hid hTn
  have hR' := Lib.hid hR
  obtain ⟨g1, cap1, sp1, rfl, rfl, hc1, hc2, hc3⟩ := Sl.some hrs (by omega)
  have hh2 : Has Z g1 ((l.flatMap slf ++ sp1).toArray) 25 := by
    obtain ⟨A, B, e1, _⟩ := hcz.h
    rw [e1]; infer_instance
  have c2 := preCells (l := l) (sp := sp1) (q := q) (by omega)
  have c3 := sufCells' (l := l) (sp := sp1) (q := q + 1) (cap := cap1) (by omega) hc1
  have o2 := flatOnes (l.take q)
  have o3 := flatOnes (l.drop (q + 1))
  have y2 := pre_ofR (P := Tryz.prog) (t := 81) (g := g1) (n := l.length) (cap := cap1) (m := q) Tryz.underlying81 (z := 2) (by kernel_rfl) (by omega) (by omega)
  have y3 := suf_of2 (P := Tryz.prog) (t := 81) (g := g1) (n := l.length) (cap := cap1) (m := q + 1) Tryz.underlying81 (z := 2) (by kernel_rfl) (by omega) hc1
  obtain ⟨of, hof⟩ : ∃ of, (if q + 1 = cap1 then 0 else (q + 1) * 2) = of := ⟨_, rfl⟩
  rw [hof] at y3 c3
  clear hof
  have s1 : SumIs (q : Int) 1 ((q + 1 : Nat) : Int) := ⟨by omega, by omega, by omega⟩
  have lt : (l.take q).length = q := by rw [List.length_take]; omega
  have lt' := Lib.hid lt
  have ld : (l.drop (q + 1)).length = l.length - (q + 1) := by rw [List.length_drop]
  have ld' := Lib.hid ld
  clear hTn hl e hvz h32 lt ld hR he
  go_enter Tryz.func30, Tryz.ntmps30
  go_wp2_with (first | (refine wpList_is (o := ⟨some 6, _, _, _, _, _⟩) (.alloc _) rfl ?_; go_must (refine wpList_stp rfl (stp_al _ rfl hS ?_)); clear hS; intro b6 w _ hS) | (refine wpList_is (o := ⟨some 8, _, _, _, _, _⟩) (.alloc _) rfl ?_; go_must (refine wpList_stp rfl (stp_al _ rfl hS ?_)); clear hS; intro b8 w _ hS) | (go_at_call 33; refine rr_root hS hT _ _ _ _ hx h0e ?_; clear hS; intro w hS; unfold Ret) | (refine wpList_is (.store _ _ _) rfl ?_; go_must ((refine wpList_stp (by kernel_rfl) (stp_sta _ _ _ rfl hS ?_))); clear hS; intro w hS))
  rw [hE'.out] at hS
  simp only [List.cons_append] at hS
  have hS : St w0 bs w (⟨b, arR L.length ph (.slice (some ⟨g, 0, none⟩) vs.length cap) G, 77, true⟩ :: ⟨g, ovB vs sp, 81, true⟩ :: (⟨b8, #[.int .i64 x1, .int .u32 x2], 25, true⟩ :: ⟨b6, #[.int .i64 0, .int .u32 0], 25, true⟩ :: (Eh ++ (Z ++ H2)))) := hS.pick
  refine region_depsE [⟨(undef, []), [(2, [], fun _ _ x => ∃ b', x = (.slice (some ⟨b', 0, none⟩) 0 0, [⟨b', #[], 25, true⟩])), (12, [], fun _ _ x => RS x.1 (l.take q) x.2), (23, [], fun _ _ x => RS x.1 (l.take q ++ l.drop (q + 1)) x.2)]⟩,
      ⟨(undef, [⟨b, arR L.length ph (.slice (some ⟨g, 0, none⟩) vs.length cap) G, 77, true⟩, ⟨g, ovB vs sp, 81, true⟩]), [(24, [23], fun q _ x => ∃ g' cap' sp', (vs.length ≤ cap' ∧ cap' ≤ maxLen ∧ vs.length + sp'.length = cap') ∧ x.2 = [⟨b, arR L.length ph (.slice (some ⟨g', 0, none⟩) vs.length cap') G, 77, true⟩, ⟨g', ovB (vs.set j (q.getD 0 default).1) sp', 81, true⟩])]⟩]
    (⟨b8, #[.int .i64 x1, .int .u32 x2], 25, true⟩ :: ⟨b6, #[.int .i64 0, .int .u32 0], 25, true⟩ :: (Eh ++ (Z ++ H2))) (⟨b, arR L.length ph (.slice (some ⟨g, 0, none⟩) vs.length cap) G, 77, true⟩ :: ⟨g, ovB vs sp, 81, true⟩ :: (⟨b8, #[.int .i64 x1, .int .u32 x2], 25, true⟩ :: ⟨b6, #[.int .i64 0, .int .u32 0], 25, true⟩ :: (Eh ++ (Z ++ H2)))) (by simp) hS (by kernel_rfl) (by kernel_rfl) ?_
  refine dx_val (fun _ => rfl) rfl (fun χ w hw => run_mv _ rfl) ?_
  refine dx_val (fun _ => rfl) rfl (fun χ w hw => run_mv _ rfl) ?_
  refine dx_turn0 0 0 rfl rfl (by kernel_rfl) (by kernel_rfl) (by kernel_rfl) (by kernel_rfl) (fun _ => rfl) (fun x => x.1) ?_ ?_
  · intro χ X w _ hS
    exact stepX_to 23 rfl (by simp) (stp_bs0 _ rfl (show St w0 bs w (X ++ _) from hS) (fun b' w' _ hS' => ⟨_, rfl, (.slice (some ⟨b', 0, none⟩) 0 0, [⟨b', #[], 25, true⟩]), rfl, ⟨b', rfl⟩, hS'⟩))
  refine dx_val (fun _ => rfl) rfl (fun χ w hw => run_mv _ rfl) ?_
  refine dx_val (fun _ => rfl) rfl (fun χ w hw => run_nc _ rfl) ?_
  refine dx_val (fun _ => rfl) rfl (fun χ w hw => run_fa _ _ _ rfl) ?_
  refine dx_valS 1 0 rfl (by kernel_rfl) (fun _ => rfl) rfl (fun _ => .slice (some ⟨g, 0, none⟩) vs.length cap) (fun _ _ _ => rfl) (fun χ X w _ hS => run_ld _ _ rfl (show St w0 bs w (⟨b, arR L.length ph (.slice (some ⟨g, 0, none⟩) vs.length cap) G, 77, true⟩ :: ⟨g, ovB vs sp, 81, true⟩ :: (X ++ _)) from hS)) ?_
  refine dx_val (fun _ => rfl) rfl (fun χ w hw => run_mv _ rfl) ?_
  refine dx_val (fun _ => rfl) rfl (fun χ w hw => run_idxv _ _ _ rfl) ?_
  refine dx_valS 1 0 rfl (by kernel_rfl) (fun _ => rfl) rfl (fun _ => (.slice (some ⟨g1, 0, none⟩) l.length cap1)) (fun _ _ _ => rfl) (fun χ X w _ hS => run_ld _ _ rfl (show St w0 bs w (⟨b, arR L.length ph (.slice (some ⟨g, 0, none⟩) vs.length cap) G, 77, true⟩ :: ⟨g, ovB vs sp, 81, true⟩ :: (X ++ _)) from hS)) ?_
  refine dx_val (fun _ => rfl) rfl (fun χ w hw => run_mv _ rfl) ?_
  refine dx_val (fun _ => rfl) rfl (fun χ w hw => run_prev _ _ _ rfl) ?_
  refine dx_turn0 0 1 rfl rfl (by kernel_rfl) (by kernel_rfl) (by kernel_rfl) (by kernel_rfl) (fun _ => rfl) (fun x => x.1) ?_ ?_
  · rintro χ X w ⟨⟨b', hb'⟩, _⟩ hS
    have hS : St w0 bs w ((χ 2).2 ++ (X ++ (⟨b8, #[.int .i64 x1, .int .u32 x2], 25, true⟩ :: ⟨b6, #[.int .i64 0, .int .u32 0], 25, true⟩ :: (Eh ++ (Z ++ H2))))) := hS
    rw [hb'] at hS
    simp only [List.cons_append, List.nil_append] at hS
    simp only [hb']
    refine stepX_to 33 rfl (by simp) (stp_ap _ _ _ _ rfl rfl hS (by rfl) sl_zero (by rfl) (by simp only [maxLen]; omega) (by omega) ?_)
    intro v' E' w' hsl' _ hS'
    exact ⟨_, rfl, (v', E'), rfl, RS.of hsl' (by rw [lt'.out]; omega) (by simp), hS'.pick⟩
  refine dx_val (fun _ => rfl) rfl (fun χ w hw => run_mv _ rfl) ?_
  refine dx_val (fun _ => rfl) rfl (fun χ w hw => run_nc _ rfl) ?_
  refine dx_val (fun _ => rfl) rfl (fun χ w hw => run_fa _ _ _ rfl) ?_
  refine dx_valS 1 0 rfl (by kernel_rfl) (fun _ => rfl) rfl (fun _ => .slice (some ⟨g, 0, none⟩) vs.length cap) (fun _ _ _ => rfl) (fun χ X w _ hS => run_ld _ _ rfl (show St w0 bs w (⟨b, arR L.length ph (.slice (some ⟨g, 0, none⟩) vs.length cap) G, 77, true⟩ :: ⟨g, ovB vs sp, 81, true⟩ :: (X ++ _)) from hS)) ?_
  refine dx_val (fun _ => rfl) rfl (fun χ w hw => run_mv _ rfl) ?_
  refine dx_val (fun _ => rfl) rfl (fun χ w hw => run_idxv _ _ _ rfl) ?_
  refine dx_valS 1 0 rfl (by kernel_rfl) (fun _ => rfl) rfl (fun _ => (.slice (some ⟨g1, 0, none⟩) l.length cap1)) (fun _ _ _ => rfl) (fun χ X w _ hS => run_ld _ _ rfl (show St w0 bs w (⟨b, arR L.length ph (.slice (some ⟨g, 0, none⟩) vs.length cap) G, 77, true⟩ :: ⟨g, ovB vs sp, 81, true⟩ :: (X ++ _)) from hS)) ?_
  refine dx_val (fun _ => rfl) rfl (fun χ w hw => run_mv _ rfl) ?_
  refine dx_val (fun _ => rfl) rfl (fun χ w hw => run_sumv _ _ _ _ rfl) ?_
  refine dx_val (fun _ => rfl) rfl (fun χ w hw => run_sufw _ _ _ rfl) ?_
  refine dx_turn0 0 2 rfl rfl (by kernel_rfl) (by kernel_rfl) (by kernel_rfl) (by kernel_rfl) (fun _ => rfl) (fun x => x.1) ?_ ?_
  · rintro χ X w ⟨_, hA1, _⟩ hS
    have hS : St w0 bs w ((χ 12).2 ++ (X ++ (⟨b8, #[.int .i64 x1, .int .u32 x2], 25, true⟩ :: ⟨b6, #[.int .i64 0, .int .u32 0], 25, true⟩ :: (Eh ++ (Z ++ H2))))) := hS
    have hA1 : RS (χ 12).1 (l.take q) (χ 12).2 := hA1
    generalize χ 12 = y at hS hA1 ⊢
    have ho8 := hA1.one
    refine stepX_to 44 rfl (by simp) (stp_ap _ _ _ _ rfl rfl hS (by rfl) (show Sl 25 2 y.1 (l.take q).length ((l.take q).flatMap slf) y.2 from hA1) (by rfl) (by rw [lt'.out]; simp only [maxLen]; omega) (by rw [lt'.out]; omega) ?_)
    intro v' E' w' hsl' _ hS'
    exact ⟨_, rfl, (v', E'), rfl, RS.of hsl' (by rw [List.length_append, ld'.out]) (by rw [List.flatMap_append]), hS'.pick⟩
  refine dx_turnWc 1 0 0 3 rfl rfl rfl (by kernel_rfl) (by kernel_rfl) (by kernel_rfl) (by kernel_rfl) (by kernel_rfl) 83 [_, _, _] _ rfl (fun _ => rfl) (enters _ (by kernel_rfl)) (fun _ => .tuple #[]) ?_ ?_
  · rintro χ X w _ ⟨_, _, hA2, _⟩ hS
    have hA2 : RS (χ 23).1 (l.take q ++ l.drop (q + 1)) (χ 23).2 := hA2
    have ho8 := hA2.one
    exact rr_set (show St w0 bs w (⟨b, arR L.length ph (.slice (some ⟨g, 0, none⟩) vs.length cap) G, 77, true⟩ :: ⟨g, ovB vs sp, 81, true⟩ :: ((χ 23).2 ++ (X ++ _))) from hS) hjv h4 hall (fun g' cap' sp' w' hb hS' => ⟨(undef, [_, _]), rfl, ⟨g', cap', sp', hb, rfl⟩, hS'⟩)
  refine dx_end rfl ?_
  intro χ w hok hS
  obtain ⟨_, _, hA2, _⟩ := hok _ (.head _)
  obtain ⟨⟨g', cap', sp', hb', hD⟩, _⟩ := hok _ (.tail _ (.head _))
  have hD : (χ 24).2 = [⟨b, arR L.length ph (.slice (some ⟨g', 0, none⟩) vs.length cap') G, 77, true⟩, ⟨g', ovB (vs.set j (χ 23).1) sp', 81, true⟩] := hD
  have hS : St w0 bs w (((χ 23).2 ++ ((χ 24).2 ++ [])) ++ (⟨b8, #[.int .i64 x1, .int .u32 x2], 25, true⟩ :: ⟨b6, #[.int .i64 0, .int .u32 0], 25, true⟩ :: (Eh ++ (Z ++ H2)))) := hS
  rw [hD] at hS
  clear hok hD c2 c3
  have hA2 : RS (χ 23).1 (l.take q ++ l.drop (q + 1)) (χ 23).2 := hA2
  generalize (χ 23).1 = v5 at hS hA2
  generalize (χ 23).2 = E5 at hS hA2
  simp only [List.cons_append, List.nil_append, List.append_assoc] at hS
  go_wp2_with (first | (refine wpList_is (.load _ _) rfl ?_; go_must ((refine wpList_stp (by kernel_rfl) (stp_val (run_lda _ _ rfl hS) ?_)))) | (refine wpList_is (.store _ _ _) rfl ?_; go_must ((refine wpList_stp (by kernel_rfl) (stp_sta _ _ _ rfl hS ?_))); clear hS; intro w hS))
  refine bodyPost_ret (res_ct rfl hS) rfl ?_
  exact hR'.out _ _ _ (hTn'.out v5 E5 g' cap' sp' hb' hA2) (by simp only [List.cons_append]; exact hS.pick)
end Go.Proofs.YtjlihigodggfcaaGreat
