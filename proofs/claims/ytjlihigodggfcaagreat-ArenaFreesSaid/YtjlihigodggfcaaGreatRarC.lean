/-
  The document's arenas: Free, Object, set, give.
-/
import Derived.Test.YtjlihigodggfcaaGreatRarB
set_option linter.unusedSimpArgs false
set_option linter.unusedVariables false
namespace Go.Proofs.YtjlihigodggfcaaGreat
open Go Go.RowKit Go.Mm
variable {R : Ending → World → Prop} {w : World} {w0 : World} {bs : List Nat} {H H' H1 H2 E Z : List Ent}
instance rr_ss : SliceT Tryz.prog 74 81 := ⟨by kernel_rfl⟩
instance rr_se : ElemT Tryz.prog 81 1 24 #[.slice none 0 0] := ⟨by kernel_rfl⟩
theorem RH.obw {p : Option Addr} {T : Hp} (hT : RH p T E) (s g : Int) : ObW (obR T s g) := by
  unfold obR
  split
  · next h =>
    obtain ⟨L, j, rfl, rfl, hj, _, _, _, ho⟩ := wi_zero h
    rw [ho]
    exact hT.1.at hj
  · exact ⟨rfl, rfl, fun x hx => by simp [zOb, zero4] at hx; subst hx; decide⟩
set_option maxHeartbeats 1000000 in
set_option maxRecDepth 100000 in
theorem rr_free {p : Option Addr} {T : Ar} (hO : St w0 bs w H) (hT : AR p T E Z) [hc : Cut H E H1] [hz : Cut H1 Z H2] (s gn : Int) (hg : 0 ≤ gn ∧ gn ≤ 4294967295) (T' : Ar) (e : Int) (hT' : frA T s gn = T') (he : wiH (some (some T.1)) s gn = e)
    (hR : ∀ E' X w', AR p T' E' (X ++ Z) → St w0 bs w' (E' ++ (X ++ (Z ++ H2))) → Ret R (.int .i64 e) w') : Calls Tryz.prog 12 #[.pointer p, .agg #[.int .i64 s, .int .u32 gn]] w R := by
  subst hT'
  have hS := hO.front (E := E) (H1 := H1)
  have hS : St w0 bs w (E ++ (Z ++ H2)) := hS.pick
  clear hO
  obtain ⟨L, ks, G⟩ := T
  obtain ⟨b, ph, Eh, g, cap, vs, sp, rfl, hH, hvl, hvz, h1, h4, hcap, hG8, h32, hE⟩ := id hT
  have hE' := Lib.hid hE
  clear hE
  simp only at hvl hvz hG8 h32 hH
  simp only at he
  obtain ⟨L', hL', hll⟩ : ∃ L', frT (some (some L)) s gn = some (some L') ∧ L'.length = L.length := by
    unfold frT
    split
    · exact ⟨_, rfl, by simp [frN, hpL]⟩
    · exact ⟨_, rfl, rfl⟩
  have hTn : ∀ Eh', RH ph (some (some L')) Eh' → AR (some ⟨b, 0, none⟩) (frA (L, ks, G) s gn) (⟨b, arR L.length ph (.slice (some ⟨g, 0, none⟩) vs.length cap) G, 77, true⟩ :: ⟨g, ovB vs sp, 81, true⟩ :: Eh') ([] ++ Z) := by
    intro Eh' hH'
    have e : frA (L, ks, G) s gn = (L', ks, G) := by simp only [frA, hL', hpL]
    rw [e]
    exact ⟨b, ph, Eh', g, cap, vs, sp, rfl, hH', hvl, hvz, h1, h4, hcap, hG8, h32, by rw [hll]⟩
  have hTn' := Lib.hid hTn
  have hL2' := Lib.hid hL'
  have he' := Lib.hid he
  rw [hE'.out] at hS
  simp only [List.cons_append] at hS
  clear hTn hL' he hll hvz h32
  go_enter Tryz.func12, Tryz.ntmps12
  go_wp2_with (first | (refine wpList_is (.box 25 _) rfl ?_; go_must (refine wpList_stp (by kernel_rfl) (stp_bx _ _ rfl hS ?_)); clear hS; intro b3 w _ hS) | (go_at_call 36; refine rr_valid hS ?_; clear hS; intro w hS; unfold Ret))
  refine region_itemsE [⟨(undef, Eh), [(5, fun _ x => RH ph (some (some L')) x.2)]⟩] (⟨b3, #[.int .i64 s, .int .u32 gn], 25, true⟩ :: ⟨b, arR L.length ph (.slice (some ⟨g, 0, none⟩) vs.length cap) G, 77, true⟩ :: ⟨g, ovB vs sp, 81, true⟩ :: (Z ++ H2)) (Eh ++ (⟨b3, #[.int .i64 s, .int .u32 gn], 25, true⟩ :: ⟨b, arR L.length ph (.slice (some ⟨g, 0, none⟩) vs.length cap) G, 77, true⟩ :: ⟨g, ovB vs sp, 81, true⟩ :: (Z ++ H2))) (by simp) hS.pick (by kernel_rfl) (by kernel_rfl) ?_
  refine fx_val (fun _ => rfl) rfl (fun χ w hw => run_mv _ rfl) ?_
  refine fx_val (fun _ => rfl) rfl (fun χ w hw => run_nc _ rfl) ?_
  refine fx_val (fun _ => rfl) rfl (fun χ w hw => run_fa _ _ _ rfl) ?_
  (refine fx_val (fun _ => rfl) rfl (fun χ w hw => run_ld _ _ rfl hw) ?_)
  (refine fx_val (fun _ => rfl) rfl (fun χ w hw => run_lda _ _ rfl hw) ?_)
  refine fx_turn 0 0 rfl rfl (by kernel_rfl) (by kernel_rfl) (by kernel_rfl) 39 [_, _] _ rfl (fun _ => rfl) (enters _ (by kernel_rfl)) (fun _ => .int .i64 e) ?_ ?_
  · intro χ X w _ hS
    exact rh_free (show St w0 bs w (Eh ++ (X ++ _)) from hS) hH s gn hg _ e hL2'.out he'.out (fun E' w' hT' hS' => ⟨(undef, E'), rfl, hT', show St w0 bs w' (E' ++ (X ++ _)) from hS'.pick⟩)
  refine fx_val (fun _ => rfl) rfl (fun χ w hw => run_as _ rfl) ?_
  refine fx_end rfl ?_
  intro χ w hok hS
  obtain ⟨hD, _⟩ := hok _ (.head _)
  have hD : RH ph (some (some L')) (χ 5).2 := hD
  have hS : St w0 bs w (((χ 5).2 ++ []) ++ (⟨b3, #[.int .i64 s, .int .u32 gn], 25, true⟩ :: ⟨b, arR L.length ph (.slice (some ⟨g, 0, none⟩) vs.length cap) G, 77, true⟩ :: ⟨g, ovB vs sp, 81, true⟩ :: (Z ++ H2))) := hS
  rw [List.append_nil] at hS
  generalize (χ 5).2 = Eh' at hS hD
  clear hok
  go_wp2_with ((go_skip))
  exact hR _ [] _ (hTn'.out _ hD) (by simp only [List.cons_append, List.nil_append]; exact hS.pick)
set_option maxHeartbeats 1000000 in
set_option maxRecDepth 100000 in
theorem rr_object {p : Option Addr} {T : Ar} (hO : St w0 bs w H) (hT : AR p T E Z) [hc : Cut H E H1] [hz : Cut H1 Z H2] (s gn : Int) (o : Ob) (e : Int) (ho : obR (some (some T.1)) s gn = o) (he : wiH (some (some T.1)) s gn = e)
    (hR : ∀ w', St w0 bs w' (E ++ (Z ++ H2)) → Ret R (.tuple #[.agg (obC o), .int .i64 e]) w') : Calls Tryz.prog 10 #[.pointer p, .agg #[.int .i64 s, .int .u32 gn]] w R := by
  have hS := hO.front (E := E) (H1 := H1)
  have hS : St w0 bs w (E ++ (Z ++ H2)) := hS.pick
  clear hO
  obtain ⟨L, ks, G⟩ := T
  obtain ⟨b, ph, Eh, g, cap, vs, sp, rfl, hH, hvl, hvz, h1, h4, hcap, hG8, h32, hE⟩ := id hT
  have hE' := Lib.hid hE
  clear hE
  simp only at hvl hvz hG8 h32 hH
  simp only at ho he
  have hoW : ObW o := by rw [← ho]; exact hH.obw s gn
  have ho' := Lib.hid ho
  have he' := Lib.hid he
  obtain ⟨on, oF, oh⟩ := o
  have hF4 : oF.length = 4 := hoW.len
  have hA := objAll (n := on) (h := oh) hF4
  have hZ := objSize (n := on) (h := oh) hF4
  have hO2 := objOver (n := 0) (n' := on) (h := false) (h' := oh) (F := zero4) rfl hF4
  rw [hE'.out] at hS
  simp only [List.cons_append] at hS
  clear ho he hoW hvz h32
  go_enter Tryz.func10, Tryz.ntmps10
  go_wp2_with (first | (refine wpList_is (.box 25 _) rfl ?_; go_must (refine wpList_stp (by kernel_rfl) (stp_bx _ _ rfl hS ?_)); clear hS; intro b3 w _ hS) | (refine wpList_is (.alloc 42) rfl ?_; go_must (refine wpList_stp (by kernel_rfl) (stp_al _ rfl hS ?_)); clear hS; intro b4 w _ hS) | (go_at_call 36; refine rr_valid hS ?_; clear hS; intro w hS; unfold Ret))
  refine region_itemsE [⟨(undef, [⟨b4, objC 0 zero4 false, 42, true⟩]), [(8, fun _ x => x.2 = [⟨b4, objC on oF oh, 42, true⟩])]⟩] (⟨b3, #[.int .i64 s, .int .u32 gn], 25, true⟩ :: ⟨b, arR L.length ph (.slice (some ⟨g, 0, none⟩) vs.length cap) G, 77, true⟩ :: ⟨g, ovB vs sp, 81, true⟩ :: (Eh ++ (Z ++ H2))) (⟨b4, objC 0 zero4 false, 42, true⟩ :: (⟨b3, #[.int .i64 s, .int .u32 gn], 25, true⟩ :: ⟨b, arR L.length ph (.slice (some ⟨g, 0, none⟩) vs.length cap) G, 77, true⟩ :: ⟨g, ovB vs sp, 81, true⟩ :: (Eh ++ (Z ++ H2)))) (by simp) hS.pick (by kernel_rfl) (by kernel_rfl) ?_
  refine fx_val (fun _ => rfl) rfl (fun χ w hw => run_mv _ rfl) ?_
  refine fx_val (fun _ => rfl) rfl (fun χ w hw => run_nc _ rfl) ?_
  refine fx_val (fun _ => rfl) rfl (fun χ w hw => run_fa _ _ _ rfl) ?_
  (refine fx_val (fun _ => rfl) rfl (fun χ w hw => run_ld _ _ rfl hw) ?_)
  (refine fx_val (fun _ => rfl) rfl (fun χ w hw => run_lda _ _ rfl hw) ?_)
  refine fx_ask 37 [_, _] _ rfl (fun _ => rfl) rfl (enters _ (by kernel_rfl)) (.tuple #[.agg (objC on oF oh), .int .i64 e]) (fun X w hS => rh_object (show St w0 bs w (X ++ (_ :: _ :: _ :: (Eh ++ _))) from hS) hH s gn (on, oF, oh) e ho'.out he'.out (fun w' _ hS' => ⟨rfl, hS'.pick⟩)) ?_
  refine fx_val (fun _ => rfl) rfl (fun χ w hw => run_ext _ _ rfl) ?_
  refine fx_val (fun _ => rfl) rfl (fun χ w hw => run_ext _ _ rfl) ?_
  refine fx_turn0 0 0 rfl rfl (by kernel_rfl) (by kernel_rfl) (by kernel_rfl) (fun _ => rfl) (fun _ => undef) ?_ ?_
  · intro χ X w _ hS
    exact stepX_sta _ _ _ rfl (show St w0 bs w (⟨b4, objC 0 zero4 false, 42, true⟩ :: (X ++ _)) from hS) (fun w' hS' => ⟨(undef, [⟨b4, objC on oF oh, 42, true⟩]), rfl, rfl, hS'⟩)
  refine fx_val (fun _ => rfl) rfl (fun χ w hw => run_as _ rfl) ?_
  refine fx_end rfl ?_
  intro χ w hok hS
  obtain ⟨hD, _⟩ := hok _ (.head _)
  have hD : (χ 8).2 = [⟨b4, objC on oF oh, 42, true⟩] := hD
  have hS : St w0 bs w (((χ 8).2 ++ []) ++ (⟨b3, #[.int .i64 s, .int .u32 gn], 25, true⟩ :: ⟨b, arR L.length ph (.slice (some ⟨g, 0, none⟩) vs.length cap) G, 77, true⟩ :: ⟨g, ovB vs sp, 81, true⟩ :: (Eh ++ (Z ++ H2)))) := hS
  rw [hD] at hS
  simp only [List.cons_append, List.nil_append] at hS
  clear hok hD
  go_wp2_with ((go_skip))
  refine bodyPost_ret (res_ct rfl hS) rfl ?_
  exact hR _ (by rw [hE'.out]; simp only [List.cons_append]; exact hS.pick)
set_option maxHeartbeats 1000000 in
set_option maxRecDepth 100000 in
theorem rr_set {b g cap j : Nat} {L : List Hs} {ph : Option Addr} {vs sp : List Value} {G : List Rf} {x : Value} [hx : OneCell x] (hO : St w0 bs w (⟨b, arR L.length ph (.slice (some ⟨g, 0, none⟩) vs.length cap) G, 77, true⟩ :: ⟨g, ovB vs sp, 81, true⟩ :: H)) (hj : j < vs.length) (hn4 : vs.length ≤ 4) (hone : ∀ v ∈ vs, v.oneCell' = true)
    (hR : ∀ g' cap' sp' w', (vs.length ≤ cap' ∧ cap' ≤ maxLen ∧ vs.length + sp'.length = cap') → St w0 bs w' (⟨b, arR L.length ph (.slice (some ⟨g', 0, none⟩) vs.length cap') G, 77, true⟩ :: ⟨g', ovB (vs.set j x) sp', 81, true⟩ :: H) → Ret R (.tuple #[]) w') :
    Calls Tryz.prog 83 #[.pointer (some ⟨b, 0, none⟩), .int .i64 j, x] w R := by
  have hS := hO
  clear hO
  obtain ⟨k, hk⟩ : ∃ k, vs.length = k := ⟨_, rfl⟩
  have hone2 : OneCells vs.toArray := ⟨by intro v hv; exact hone v (by simpa using hv)⟩
  have call : CellsAt (ovB vs sp) 0 (k * 1) vs.toArray := ⟨fun i hi => by rw [ovB, Nat.zero_add, List.getElem?_toArray, List.getElem?_toArray, List.getElem?_append_left (by omega)], by rw [List.size_toArray]; omega⟩
  have sv : ∀ sp2, SetAt (ovB vs sp2) j x (ovB (vs.set j x) sp2) := fun sp2 => ovSet hj x
  have ix : ∀ g2 cap2, IdxV Tryz.prog 74 (.slice (some ⟨g2, 0, none⟩) k cap2) j ⟨g2, j, none⟩ := fun g2 cap2 => ov_idx (by omega)
  have s3 : ∀ v v', SetAt (arR L.length ph v G) (0 + 3) v' (arR L.length ph v' G) := fun v v' => arRS v'
  have s3' : ∀ v v', SetAt (arR L.length ph v G) 3 v' (arR L.length ph v' G) := fun v v' => arRS v'
  rw [hk] at hj hn4 hS
  have hk' := Lib.hid hk
  have hR' := Lib.hid hR
  clear hone hk hR
  go_enter Tryz.func83, Tryz.ntmps83
  go_wp2_with (first | (refine wpList_is (.buildSlice _ 0 _) rfl ?_; go_must (refine wpList_stp rfl (stp_bs0 _ rfl hS ?_)); clear hS; intro bz w _ hS) | (refine wpList_is (.call { callee := .builtin .append, args := #[_, _], argTypes := #[_, _] }) rfl ?_; refine wpList_stp rfl (stp_ap (size := 1) (n := 0) (m := k) _ _ _ _ rfl rfl hS (by rfl) (show Sl 81 1 _ 0 [] [_] from sl_zero) (by rfl) (by simp only [maxLen]; omega) (by omega) ?_); clear hS; intro v2 E2 w hsl2 _ hS; rw [Nat.zero_add, List.nil_append] at hsl2; obtain ⟨g2, cap2, sp2, rfl, rfl, hc1, hc2, hc3⟩ := Sl.some hsl2 (by omega); have hS : St w0 bs w (⟨g2, ovB vs sp2, 81, true⟩ :: ⟨b, arR L.length ph (.slice (some ⟨g, 0, none⟩) k cap) G, 77, true⟩ :: ⟨g, ovB vs sp, 81, true⟩ :: H) := hS) | (refine wpList_is (.indexAddr _ _ _) rfl ?_; refine wpList_stp (by kernel_rfl) (stp_val (run_idxv _ _ _ rfl) ?_)) | (refine wpList_is (.load _ _) rfl ?_; go_must ((refine wpList_stp (by kernel_rfl) (stp_val (run_ld _ _ rfl hS) ?_)))) | (refine wpList_is (.store _ _ _) rfl ?_; go_must ((refine wpList_stp (by kernel_rfl) (stp_st _ _ _ rfl hS ?_))); clear hS; intro w hS))
  refine bodyPost_end (results_none rfl _ _ _) rfl ?_
  have hR := hR'.out
  rw [hk'.out] at hR
  exact hR g2 cap2 sp2 _ ⟨hc1, hc2, by have := hk'.out; omega⟩ hS.pick
theorem rar_put {b g cap j : Nat} {L : List Hs} {ks : List (List Rf)} {G : List Rf} {ph : Option Addr} {Eh : List Ent} {vs sp : List Value} {v : Value} {l : List Rf} {X : List Ent} (hH : RH ph (some (some L)) Eh) (hvl : vs.length = ks.length) (hvz : ∀ j v, vs[j]? = some v → RZ v (ks.getD j []) Z) (h1 : 1 ≤ vs.length) (h4 : vs.length ≤ 4)
    (hcap : vs.length ≤ cap ∧ cap ≤ maxLen ∧ vs.length + sp.length = cap) (hG8 : G.length = 8) (h32 : ∀ l ∈ ks, l.length ≤ 32) (hj : j < vs.length) (hv : RS v l X) (hl : l.length ≤ 32) :
    AR (some ⟨b, 0, none⟩) (L, ks.set j l, G) (⟨b, arR L.length ph (.slice (some ⟨g, 0, none⟩) vs.length cap) G, 77, true⟩ :: ⟨g, ovB (vs.set j v) sp, 81, true⟩ :: Eh) (X ++ Z) := by
  refine ⟨b, ph, Eh, g, cap, vs.set j v, sp, rfl, hH, by rw [List.length_set, List.length_set, hvl], fun i u hu => ?_, by rw [List.length_set]; exact h1, by rw [List.length_set]; exact h4, by rw [List.length_set]; exact hcap, hG8, fun y hy => ?_, by rw [List.length_set]⟩
  · rw [List.getElem?_set] at hu
    by_cases e : j = i
    · subst e
      rw [if_pos rfl, if_pos hj] at hu
      obtain rfl := Option.some.inj hu
      have : (ks.set j l).getD j [] = l := by rw [List.getD_eq_getElem?_getD, List.getElem?_set, if_pos rfl, if_pos (by omega)]; rfl
      show RZ v ((ks.set j l).getD j []) (X ++ Z)
      rw [this]
      exact RZ.new hv
    · rw [if_neg e] at hu
      have : (ks.set j l).getD i [] = ks.getD i [] := by rw [List.getD_eq_getElem?_getD, List.getElem?_set, if_neg e, List.getD_eq_getElem?_getD]
      show RZ u ((ks.set j l).getD i []) (X ++ Z)
      rw [this]
      exact (hvz i u hu).mono X
  · rcases List.mem_or_eq_of_mem_set hy with hy | rfl
    · exact h32 y hy
    · exact hl
set_option maxHeartbeats 1000000 in
set_option maxRecDepth 100000 in
theorem rr_give {p : Option Addr} {T : Ar} (hO : St w0 bs w H) (hT : AR p T E Z) [hc : Cut H E H1] [hz : Cut H1 Z H2] (m : Int) (hm : inM T m = true) (hlt : (rtL T m).length < 32) (r : Rf) (T' : Ar) (hT' : giT T m r = T')
    (hR : ∀ E' X w', AR p T' E' (X ++ Z) → St w0 bs w' (E' ++ (X ++ (Z ++ H2))) → Ret R (.tuple #[]) w') : Calls Tryz.prog 79 #[.pointer p, .int .i64 m, .agg #[.int .i64 r.1, .int .u32 r.2]] w R := by
  subst hT'
  have hS := hO.front (E := E) (H1 := H1)
  have hS : St w0 bs w (E ++ (Z ++ H2)) := hS.pick
  clear hO
  obtain ⟨L, ks, G⟩ := T
  obtain ⟨b, ph, Eh, g, cap, vs, sp, rfl, hH, hvl, hvz, h1, h4, hcap, hG8, h32, hE⟩ := id hT
  have hE' := Lib.hid hE
  clear hE
  simp only at hvl hvz hG8 h32 hH
  obtain ⟨j, rfl, hjk⟩ := inM_nat hm
  simp only at hjk
  obtain ⟨v, hv⟩ : ∃ v, vs[j]? = some v := ⟨_, List.getElem?_eq_getElem (show j < vs.length by omega)⟩
  have hjv : j < vs.length := by omega
  have cv := ovAt (sp := sp) hv
  have ix := ov_idx (g := g) (n := vs.length) (cap := cap) hjv
  obtain ⟨l, hl⟩ : ∃ l, ks.getD j [] = l := ⟨_, rfl⟩
  have hrz := hvz j v hv
  rw [hl] at hrz
  obtain ⟨e0, Z1, hrs, hcz⟩ := hrz
  have hone := hrs.one
  have hln := hrs.len rfl
  have hl32 : l.length ≤ 32 := by rw [← hl]; exact h32 _ (ks_mem hjk)
  have e : rtL (L, ks, G) (j : Int) = l := by rw [rtL, Int.toNat_natCast, hl]
  rw [e] at hlt
  obtain ⟨r1, r2⟩ := r
  have hall : ∀ v ∈ vs, v.oneCell' = true := fun v hv => by
    obtain ⟨i, hi, rfl⟩ := List.mem_iff_getElem.1 hv
    obtain ⟨_, _, h, _⟩ := hvz i _ (List.getElem?_eq_getElem hi)
    exact h.one.h
  have hTn : ∀ v5 E5 g' cap' sp', (vs.length ≤ cap' ∧ cap' ≤ maxLen ∧ vs.length + sp'.length = cap') → RS v5 (l ++ [(r1, r2)]) E5 → AR (some ⟨b, 0, none⟩) (giT (L, ks, G) j (r1, r2)) (⟨b, arR L.length ph (.slice (some ⟨g', 0, none⟩) vs.length cap') G, 77, true⟩ :: ⟨g', ovB (vs.set j v5) sp', 81, true⟩ :: Eh) (E5 ++ Z) := by
    intro v5 E5 g' cap' sp' hb hA
    have e2 : giT (L, ks, G) j (r1, r2) = (L, ks.set j (l ++ [(r1, r2)]), G) := by rw [giT, Int.toNat_natCast, e]
    rw [e2]
    exact rar_put hH hvl hvz h1 h4 hb hG8 h32 hjv hA (by rw [List.length_append]; simp; omega)
  have hTn' := Lib.hid hTn
  have hl64 : ([] : List Rf).length + l.length ≤ 1000 := by simp; omega
  rw [hE'.out] at hS
  simp only [List.cons_append] at hS
  clear hTn hl e hvz h32 hlt
  go_enter Tryz.func79, Tryz.ntmps79
  go_wp2_with ((refine wpList_is (.box 25 _) rfl ?_; go_must (refine wpList_stp (by kernel_rfl) (stp_bx _ _ rfl hS ?_)); clear hS; intro b5 w _ hS))
  have hS : St w0 bs w (⟨b, arR L.length ph (.slice (some ⟨g, 0, none⟩) vs.length cap) G, 77, true⟩ :: ⟨g, ovB vs sp, 81, true⟩ :: (⟨b5, #[.int .i64 r1, .int .u32 r2], 25, true⟩ :: (Eh ++ (Z ++ H2)))) := hS.pick
  refine region_depsE [⟨(undef, []), [(2, [], fun _ _ x => ∃ b', x = (.slice (some ⟨b', 0, none⟩) 0 0, [⟨b', #[], 25, true⟩])), (10, [], fun _ _ x => RS x.1 l x.2), (13, [], fun _ _ x => RS x.1 (l ++ [(r1, r2)]) x.2)]⟩,
      ⟨(undef, []), [(12, [], fun _ _ x => ∃ b', x = (.slice (some ⟨b', 0, none⟩) 1 1, [⟨b', #[.int .i64 r1, .int .u32 r2], 25, true⟩]))]⟩,
      ⟨(undef, [⟨b, arR L.length ph (.slice (some ⟨g, 0, none⟩) vs.length cap) G, 77, true⟩, ⟨g, ovB vs sp, 81, true⟩]), [(14, [13], fun q _ x => ∃ g' cap' sp', (vs.length ≤ cap' ∧ cap' ≤ maxLen ∧ vs.length + sp'.length = cap') ∧ x.2 = [⟨b, arR L.length ph (.slice (some ⟨g', 0, none⟩) vs.length cap') G, 77, true⟩, ⟨g', ovB (vs.set j (q.getD 0 default).1) sp', 81, true⟩])]⟩]
    (⟨b5, #[.int .i64 r1, .int .u32 r2], 25, true⟩ :: (Eh ++ (Z ++ H2))) (⟨b, arR L.length ph (.slice (some ⟨g, 0, none⟩) vs.length cap) G, 77, true⟩ :: ⟨g, ovB vs sp, 81, true⟩ :: (⟨b5, #[.int .i64 r1, .int .u32 r2], 25, true⟩ :: (Eh ++ (Z ++ H2)))) (by simp) hS (by kernel_rfl) (by kernel_rfl) ?_
  refine dx_val (fun _ => rfl) rfl (fun χ w hw => run_mv _ rfl) ?_
  refine dx_val (fun _ => rfl) rfl (fun χ w hw => run_mv _ rfl) ?_
  refine dx_turn0 0 0 rfl rfl (by kernel_rfl) (by kernel_rfl) (by kernel_rfl) (by kernel_rfl) (fun _ => rfl) (fun x => x.1) ?_ ?_
  · intro χ X w _ hS
    exact stepX_to 8 rfl (by simp) (stp_bs0 _ rfl (show St w0 bs w (X ++ _) from hS) (fun b' w' _ hS' => ⟨_, rfl, (.slice (some ⟨b', 0, none⟩) 0 0, [⟨b', #[], 25, true⟩]), rfl, ⟨b', rfl⟩, hS'⟩))
  refine dx_val (fun _ => rfl) rfl (fun χ w hw => run_mv _ rfl) ?_
  refine dx_val (fun _ => rfl) rfl (fun χ w hw => run_nc _ rfl) ?_
  refine dx_val (fun _ => rfl) rfl (fun χ w hw => run_fa _ _ _ rfl) ?_
  refine dx_valS 2 0 rfl (by kernel_rfl) (fun _ => rfl) rfl (fun _ => .slice (some ⟨g, 0, none⟩) vs.length cap) (fun _ _ _ => rfl) (fun χ X w _ hS => run_ld _ _ rfl (show St w0 bs w (⟨b, arR L.length ph (.slice (some ⟨g, 0, none⟩) vs.length cap) G, 77, true⟩ :: ⟨g, ovB vs sp, 81, true⟩ :: (X ++ _)) from hS)) ?_
  refine dx_val (fun _ => rfl) rfl (fun χ w hw => run_mv _ rfl) ?_
  refine dx_val (fun _ => rfl) rfl (fun χ w hw => run_idxv _ _ _ rfl) ?_
  refine dx_valS 2 0 rfl (by kernel_rfl) (fun _ => rfl) rfl (fun _ => v) (fun _ _ _ => rfl) (fun χ X w _ hS => run_ld _ _ rfl (show St w0 bs w (⟨b, arR L.length ph (.slice (some ⟨g, 0, none⟩) vs.length cap) G, 77, true⟩ :: ⟨g, ovB vs sp, 81, true⟩ :: (X ++ _)) from hS)) ?_
  refine dx_turn0 0 1 rfl rfl (by kernel_rfl) (by kernel_rfl) (by kernel_rfl) (by kernel_rfl) (fun _ => rfl) (fun x => x.1) ?_ ?_
  · rintro χ X w ⟨⟨b', hb'⟩, _⟩ hS
    have hS : St w0 bs w ((χ 2).2 ++ (X ++ (⟨b5, #[.int .i64 r1, .int .u32 r2], 25, true⟩ :: (Eh ++ (Z ++ H2))))) := hS
    rw [hb'] at hS
    simp only [List.cons_append, List.nil_append] at hS
    simp only [hb']
    refine stepX_to 16 rfl (by simp) (stp_apR _ _ _ _ rfl rfl rfl hS (show RS _ [] [_] from sl_zero) hrs hl64 ?_)
    intro v' E' w' hsl' hS'
    exact ⟨_, rfl, (v', E'), rfl, by simpa using hsl', hS'.pick⟩
  (refine dx_val (fun _ => rfl) rfl (fun χ w hw => run_lda _ _ rfl hw) ?_)
  refine dx_turn0 1 0 rfl rfl (by kernel_rfl) (by kernel_rfl) (by kernel_rfl) (by kernel_rfl) (fun _ => rfl) (fun x => x.1) ?_ ?_
  · intro χ X w _ hS
    exact stepX_to 18 rfl (by simp) (stp_bsl (size := 2) (e := 25) _ 1 [(0, _)] rfl (show St w0 bs w (X ++ _) from hS) (by decide) rfl (by decide) (by decide) (fun b' w' _ hS' => ⟨_, rfl, (.slice (some ⟨b', 0, none⟩) 1 1, [⟨b', #[.int .i64 r1, .int .u32 r2], 25, true⟩]), rfl, ⟨b', rfl⟩, hS'⟩))
  refine dx_turnW 0 2 0 1 rfl rfl rfl (by kernel_rfl) (by kernel_rfl) (by kernel_rfl) (by kernel_rfl) (by kernel_rfl) (fun _ => rfl) (fun x => x.1) ?_ ?_
  · rintro χ X w ⟨_, hA1, _⟩ ⟨⟨b', hb'⟩, _⟩ hS
    have hS : St w0 bs w ((χ 10).2 ++ ((χ 12).2 ++ (X ++ (⟨b5, #[.int .i64 r1, .int .u32 r2], 25, true⟩ :: (Eh ++ (Z ++ H2)))))) := hS
    have hA1 : RS (χ 10).1 l (χ 10).2 := hA1
    rw [hb'] at hS
    simp only [List.cons_append, List.nil_append] at hS
    simp only [hb']
    generalize χ 10 = y at hS hA1 ⊢
    have ho8 := hA1.one
    refine stepX_to 19 rfl (by simp) (stp_ap _ _ _ _ rfl rfl hS (by rfl) (show Sl 25 2 y.1 l.length (l.flatMap slf) y.2 from hA1) (by rfl) (by simp only [maxLen]; omega) (by omega) ?_)
    intro v' E' w' hsl' _ hS'
    refine ⟨_, rfl, (v', E'), rfl, RS.snoc (x := (r1, r2)) hsl', ?_⟩
    show St w0 bs w' (E' ++ ((χ 12).2 ++ (X ++ _)))
    rw [hb']
    exact hS'.pick
  refine dx_turnWc 2 0 0 3 rfl rfl rfl (by kernel_rfl) (by kernel_rfl) (by kernel_rfl) (by kernel_rfl) (by kernel_rfl) 83 [_, _, _] _ rfl (fun _ => rfl) (enters _ (by kernel_rfl)) (fun _ => .tuple #[]) ?_ ?_
  · rintro χ X w _ ⟨_, _, hA2, _⟩ hS
    have hA2 : RS (χ 13).1 (l ++ [(r1, r2)]) (χ 13).2 := hA2
    have ho8 := hA2.one
    exact rr_set (show St w0 bs w (⟨b, arR L.length ph (.slice (some ⟨g, 0, none⟩) vs.length cap) G, 77, true⟩ :: ⟨g, ovB vs sp, 81, true⟩ :: ((χ 13).2 ++ (X ++ _))) from hS) hjv h4 hall (fun g' cap' sp' w' hb hS' => ⟨(undef, [_, _]), rfl, ⟨g', cap', sp', hb, rfl⟩, hS'⟩)
  refine dx_end rfl ?_
  intro χ w hok hS
  obtain ⟨_, _, hA2, _⟩ := hok _ (.head _)
  obtain ⟨⟨g', cap', sp', hb', hD⟩, _⟩ := hok _ (.tail _ (.tail _ (.head _)))
  have hD : (χ 14).2 = [⟨b, arR L.length ph (.slice (some ⟨g', 0, none⟩) vs.length cap') G, 77, true⟩, ⟨g', ovB (vs.set j (χ 13).1) sp', 81, true⟩] := hD
  have hS : St w0 bs w (((χ 13).2 ++ ((χ 12).2 ++ ((χ 14).2 ++ []))) ++ (⟨b5, #[.int .i64 r1, .int .u32 r2], 25, true⟩ :: (Eh ++ (Z ++ H2)))) := hS
  rw [hD] at hS
  clear hok hD
  have hA2 : RS (χ 13).1 (l ++ [(r1, r2)]) (χ 13).2 := hA2
  generalize (χ 13).1 = v5 at hS hA2
  generalize (χ 13).2 = E5 at hS hA2
  generalize (χ 12).2 = E6 at hS
  simp only [List.cons_append, List.nil_append, List.append_assoc] at hS
  go_wp2_with ((go_skip))
  refine bodyPost_end (results_none rfl _ _ _) rfl ?_
  exact hR _ _ _ (hTn'.out v5 E5 g' cap' sp' hb' hA2) (by simp only [List.cons_append]; exact hS.pick)
end Go.Proofs.YtjlihigodggfcaaGreat
