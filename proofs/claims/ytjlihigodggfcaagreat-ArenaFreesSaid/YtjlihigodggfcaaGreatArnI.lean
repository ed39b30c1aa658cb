/-
  Arenas: Load and Get.
-/
import Derived.Test.YtjlihigodggfcaaGreatArnH
set_option linter.unusedSimpArgs false
set_option linter.unusedVariables false
namespace Go.Proofs.YtjlihigodggfcaaGreat
open Go Go.RowKit Go.Mm
variable {R : Ending → World → Prop} {w : World} {w0 : World} {bs : List Nat} {H H' H1 E : List Ent}

def giT (T : Ar) (m : Int) (v : Rf) : Ar := (T.1, T.2.1.set m.toNat (rtL T m ++ [v]), T.2.2)
def gtX (T : Ar) (g : Int) : Int := ldxE (vE (some (true, T.2.2)) g) (gtR (some (true, T.2.2)) g)

theorem gtR_wr {p : Option Addr} {G : List Rf} {Eg : List Ent} (hG : GA p (some (true, G)) Eg) (hGw : ∀ x ∈ G, wrR x = false ∧ 0 ≤ x.2 ∧ x.2 ≤ 4294967295) (f : Int) : wrR (gtR (some (true, G)) f) = false ∧ 0 ≤ (gtR (some (true, G)) f).2 ∧ (gtR (some (true, G)) f).2 ≤ 4294967295 := by
  unfold gtR
  split
  · next h0 =>
    obtain ⟨L2, k2, hL2, hk2, hk8, hk3⟩ := vE_zero h0
    obtain ⟨⟩ := hL2
    rw [hk3]
    have h8 : G.length = 8 := hG.1
    have hmem : G.getD k2 (0, 0) ∈ G := by rw [List.getD_eq_getElem?_getD, List.getElem?_eq_getElem (by omega)]; exact List.getElem_mem (by omega)
    exact hGw _ hmem
  · exact ⟨by decide, by decide, by decide⟩

set_option maxHeartbeats 2000000 in
set_option maxRecDepth 100000 in
theorem ar_load_ok {p : Option Addr} {T : Ar} (hO : St w0 bs w H) (hT : AA p T E) [hc : Cut H E H1] (m i f : Int) (hm : inM T m = true) (hx : ldX T m i f = 0) (hlt : (rtL T m).length < 32) (r : Rf) (hr : ldV T m i f = r)
    (hR : ∀ E' w', AA p (giT T m r) E' → St w0 bs w' (E' ++ H1) → Ret R (.tuple #[.agg #[.int .i64 r.1, .int .u32 r.2], .int .i64 0]) w') : Calls Tryz.prog 18 #[.pointer p, .int .i64 m, .int .i64 i, .int .i64 f] w R := by
  have hS := hO.front (E := E) (H1 := H1)
  clear hO
  obtain ⟨L, ks, G⟩ := T
  obtain ⟨b, bo, ph, Eh, pg, Eg, sts, rfl, hH, hG, hks, hW, hGw, h1, h4, rfl⟩ := id hT
  simp only [List.cons_append, List.append_assoc] at hS
  have hlp := spL_len h4
  obtain ⟨j, sk, rfl, hj, hsk, hrt⟩ := inM_yes hm hks
  have hWs := hW sk (List.mem_of_getElem? hsk)
  have hlen := hWs.len
  have hp := spL_at hsk
  have hq' := Lib.hid (show (if (0 : Int) ≤ (j : Int) ∧ (j : Int) < (sts.length : Int) then (spL sts).getD (j : Int).toNat none else none) = some ⟨sk.1, 0, none⟩ by rw [if_pos (by omega), Int.toNat_natCast]; exact hp)
  have he' := Lib.hid (show (if (0 : Int) ≤ (j : Int) ∧ (j : Int) < (sts.length : Int) then (0 : Int) else 3) = 0 by rw [if_pos (by omega)])
  have hspl := sk_split hsk
  have hL32 : (sk.2.1 ++ sk.2.2).length = 32 := by rw [List.length_append]; exact hlen
  have hn32 : sk.2.1.length ≤ 32 := by omega
  rw [hspl] at hS
  simp only [List.cons_append, List.append_assoc] at hS
  obtain ⟨⟨v1, v2⟩, hv⟩ : ∃ v, ldV (L, ks, G) j i f = v := ⟨_, rfl⟩
  have hvw : wrR (v1, v2) = false ∧ 0 ≤ v2 ∧ v2 ≤ 4294967295 := by
    have h := ldV_wr (T := (L, ks, G)) hH j i f
    rw [hv] at h
    exact h
  obtain rfl : r = (v1, v2) := by rw [← hr]; exact hv
  have hz : refB v1 v2 0 0 = false := by
    have h0 : ldX (L, ks, G) j i f = 0 := hx
    have h5 : rtE (L, ks, G) j i = 0 := by
      by_cases h : rtE (L, ks, G) j i = 0
      · exact h
      · unfold ldX at h0; rw [if_neg h] at h0; exact absurd h0 h
    unfold ldX ldxE at h0
    rw [if_pos h5, hv] at h0
    cases hb : refB v1 v2 0 0 with
    | false => rfl
    | true =>
      simp only [hb, if_true] at h0
      split at h0
      · cases h0
      · next h => exact absurd h0 h
  have hbd := wr_bd hvw.1 hz
  have hTn : ∀ Y, Y = ⟨b, arC (some ⟨bo, 0, none⟩) L.length sts.length (spL sts) pg, 69, true⟩ :: ⟨bo, #[.pointer ph], 63, true⟩ :: (Eh ++ (Eg ++ ((sts.take j).map skE ++ (skE (skP sk (v1, v2)) :: (sts.drop (j + 1)).map skE)))) → AA (some ⟨b, 0, none⟩) (giT (L, ks, G) j (v1, v2)) Y := by
    rintro Y rfl
    have e : giT (L, ks, G) j (v1, v2) = (L, ks.set j (skP sk (v1, v2)).2.1, G) := by simp only [giT, Int.toNat_natCast, ← hrt]; rfl
    rw [e]
    refine ⟨b, bo, ph, Eh, pg, Eg, sts.set j (skP sk (v1, v2)), rfl, hH, hG, by rw [List.map_set, hks], fun y hy => ?_, hGw, by rw [List.length_set]; exact h1, by rw [List.length_set]; exact h4, by rw [List.length_set, spL_set (sk' := skP sk (v1, v2)) hsk rfl, sk_set hsk]⟩
    rcases List.mem_or_eq_of_mem_set hy with hy | rfl
    · exact hW y hy
    · exact skP_w hWs (by rw [hrt]; exact hlt) ⟨hbd.1, hbd.2, hvw.2.2⟩
  have hTn' := Lib.hid hTn
  have hlt2 : sk.2.1.length < 32 := by rw [hrt]; exact hlt
  have hv' := Lib.hid hv
  have hx' := Lib.hid hx
  have hp' := Lib.hid hp
  have hWs' := Lib.hid hWs
  have hbd' := Lib.hid hbd
  clear hm hks hW hGw hWs hlen hp hL32 hrt hr hv hx hlt hTn hz hbd hvw
  go_enter Tryz.func18, Tryz.ntmps18
  go_wp2_with (first | (refine wpList_is (o := ⟨some 4, _, _, _, _, _⟩) (.box _ _) rfl ?_; go_must (refine wpList_stp (by kernel_rfl) (stp_bx _ _ rfl hS ?_)); clear hS; intro b4 w _ hS) | (refine wpList_is (o := ⟨some 5, _, _, _, _, _⟩) (.box _ _) rfl ?_; go_must (refine wpList_stp (by kernel_rfl) (stp_bx _ _ rfl hS ?_)); clear hS; intro b5 w _ hS) | (refine wpList_is (o := ⟨some 6, _, _, _, _, _⟩) (.box _ _) rfl ?_; go_must (refine wpList_stp (by kernel_rfl) (stp_bx _ _ rfl hS ?_)); clear hS; intro b6 w _ hS) | (refine wpList_is (o := ⟨some 7, _, _, _, _, _⟩) (.box _ _) rfl ?_; go_must (refine wpList_stp (by kernel_rfl) (stp_bx _ _ rfl hS ?_)); clear hS; intro b7 w _ hS) | (refine wpList_is (o := ⟨some 8, _, _, _, _, _⟩) (.alloc _) rfl ?_; go_must (refine wpList_stp (by kernel_rfl) (stp_al _ rfl hS ?_)); clear hS; intro b8 w _ hS) | (refine wpList_is (o := ⟨some 10, _, _, _, _, _⟩) (.alloc _) rfl ?_; go_must (refine wpList_stp (by kernel_rfl) (stp_al _ rfl hS ?_)); clear hS; intro bv w _ hS) | (refine wpList_is (.load _ _) rfl ?_; go_must ((refine wpList_stp (by kernel_rfl) (stp_val (run_ld _ _ rfl hS) ?_)))))
  refine gi_ok (fl := 64) (ff := 66) (capl := [_, _, _, _, _]) (capf := [_]) (sk := sk) (Hl := ⟨bv, #[.int .i64 v1, .int .u32 v2], 25, true⟩ :: ⟨b8, #[.int .i64 0, .int .u32 0], 25, true⟩ :: ⟨b7, #[.int .i64 f], 3, true⟩ :: ⟨b6, #[.int .i64 i], 3, true⟩ :: ⟨b5, #[.int .i64 (j : Int)], 3, true⟩ :: ⟨b4, #[.pointer (some ⟨b, 0, none⟩)], 27, true⟩ :: ⟨b, arC (some ⟨bo, 0, none⟩) L.length sts.length (spL sts) pg, 69, true⟩ :: ⟨bo, #[.pointer ph], 63, true⟩ :: (Eh ++ (Eg ++ ((sts.take j).map skE ++ (skE sk :: ((sts.drop (j + 1)).map skE ++ H1)))))) hS h4 hlp hj hp'.out hWs'.out hlt2 (enters _ (by kernel_rfl)) (enters _ (by kernel_rfl)) (v1, v2) hbd'.out
    (fun Y => Y = ⟨bv, #[.int .i64 v1, .int .u32 v2], 25, true⟩ :: ⟨b8, #[.int .i64 0, .int .u32 0], 25, true⟩ :: ⟨b7, #[.int .i64 f], 3, true⟩ :: ⟨b6, #[.int .i64 i], 3, true⟩ :: ⟨b5, #[.int .i64 (j : Int)], 3, true⟩ :: ⟨b4, #[.pointer (some ⟨b, 0, none⟩)], 27, true⟩ :: ⟨b, arC (some ⟨bo, 0, none⟩) L.length sts.length (spL sts) pg, 69, true⟩ :: ⟨bo, #[.pointer ph], 63, true⟩ :: (Eh ++ (Eg ++ ((sts.take j).map skE ++ ((sts.drop (j + 1)).map skE ++ H1))))) ?_ ?_ ?_
  · intro X w' hS'
    refine load1 (bs := bs) (w0 := w0) (T := (L, ks, G)) (Z := ⟨b8, #[.int .i64 0, .int .u32 0], 25, true⟩ :: (H1 ++ X)) hT v1 v2 _ hv'.out hx'.out ?_ (fun w'' hS'' => ⟨rfl, ?_⟩)
    · simp only [List.cons_append, List.append_assoc, hspl] at hS' ⊢
      exact hS'.pick
    · simp only [List.cons_append, List.append_assoc, hspl] at hS'' ⊢
      exact hS''.pick
  · intro X w' hS'
    refine fetch2 (bs := bs) (w0 := w0) (H := (⟨bv, #[.int .i64 v1, .int .u32 v2], 25, true⟩ :: ⟨b8, #[.int .i64 0, .int .u32 0], 25, true⟩ :: ⟨b7, #[.int .i64 f], 3, true⟩ :: ⟨b6, #[.int .i64 i], 3, true⟩ :: ⟨b5, #[.int .i64 (j : Int)], 3, true⟩ :: ⟨b4, #[.pointer (some ⟨b, 0, none⟩)], 27, true⟩ :: ⟨b, arC (some ⟨bo, 0, none⟩) L.length sts.length (spL sts) pg, 69, true⟩ :: ⟨bo, #[.pointer ph], 63, true⟩ :: (Eh ++ (Eg ++ ((sts.take j).map skE ++ (skE sk :: ((sts.drop (j + 1)).map skE ++ H1)))))) ++ X) hS' (fun w'' hS'' => ⟨_, rfl, rfl, ?_⟩)
    simp only [List.cons_append, List.append_assoc] at hS'' ⊢
    exact hS''.pick
  · rintro Y w rfl hS
    unfold Ret
    go_wp2_with ((refine wpList_is (.store _ _ _) rfl ?_; go_must ((refine wpList_stp (by kernel_rfl) (stp_sta _ _ _ rfl hS ?_))); clear hS; intro w hS))
    refine bodyPost_ret (res_ct rfl hS) rfl ?_
    exact hR _ _ (hTn'.out _ rfl) (by simp only [List.cons_append, List.append_assoc]; exact hS.pick)

set_option maxHeartbeats 2000000 in
set_option maxRecDepth 100000 in
theorem ar_load_err {p : Option Addr} {T : Ar} (hO : St w0 bs w H) (hT : AA p T E) [hc : Cut H E H1] (m i f : Int) (hm : inM T m = true) (x : Int) (hx : ldX T m i f = x) (hex : x ≠ 0 ∨ (rtL T m).length = 32) (e : Int) (he : e = if x = 0 then 4 else x)
    (hR : ∀ w', AA p T E → St w0 bs w' (E ++ H1) → Ret R (.tuple #[.agg #[.int .i64 0, .int .u32 0], .int .i64 e]) w') : Calls Tryz.prog 18 #[.pointer p, .int .i64 m, .int .i64 i, .int .i64 f] w R := by
  have hS := hO.front (E := E) (H1 := H1)
  clear hO
  obtain ⟨L, ks, G⟩ := T
  obtain ⟨b, bo, ph, Eh, pg, Eg, sts, rfl, hH, hG, hks, hW, hGw, h1, h4, rfl⟩ := id hT
  simp only [List.cons_append, List.append_assoc] at hS
  have hlp := spL_len h4
  obtain ⟨j, sk, rfl, hj, hsk, hrt⟩ := inM_yes hm hks
  have hWs := hW sk (List.mem_of_getElem? hsk)
  have hlen := hWs.len
  have hp := spL_at hsk
  have hq' := Lib.hid (show (if (0 : Int) ≤ (j : Int) ∧ (j : Int) < (sts.length : Int) then (spL sts).getD (j : Int).toNat none else none) = some ⟨sk.1, 0, none⟩ by rw [if_pos (by omega), Int.toNat_natCast]; exact hp)
  have he' := Lib.hid (show (if (0 : Int) ≤ (j : Int) ∧ (j : Int) < (sts.length : Int) then (0 : Int) else 3) = 0 by rw [if_pos (by omega)])
  have hspl := sk_split hsk
  have hL32 : (sk.2.1 ++ sk.2.2).length = 32 := by rw [List.length_append]; exact hlen
  have hn32 : sk.2.1.length ≤ 32 := by omega
  rw [hspl] at hS
  simp only [List.cons_append, List.append_assoc] at hS
  obtain ⟨⟨v1, v2⟩, hv⟩ : ∃ v, ldV (L, ks, G) j i f = v := ⟨_, rfl⟩
  have hvw : wrR (v1, v2) = false ∧ 0 ≤ v2 ∧ v2 ≤ 4294967295 := by
    have h := ldV_wr (T := (L, ks, G)) hH j i f
    rw [hv] at h
    exact h
  have hex2 : x ≠ 0 ∨ sk.2.1.length = 32 := by rw [hrt]; exact hex
  have hex' := Lib.hid hex2
  have he2' := Lib.hid he
  have hv' := Lib.hid hv
  have hx' := Lib.hid hx
  have hp' := Lib.hid hp
  have hWs' := Lib.hid hWs
  clear hm hks hW hGw hWs hlen hp hL32 hrt hv hx hvw hex hex2 he
  go_enter Tryz.func18, Tryz.ntmps18
  go_wp2_with (first | (refine wpList_is (o := ⟨some 4, _, _, _, _, _⟩) (.box _ _) rfl ?_; go_must (refine wpList_stp (by kernel_rfl) (stp_bx _ _ rfl hS ?_)); clear hS; intro b4 w _ hS) | (refine wpList_is (o := ⟨some 5, _, _, _, _, _⟩) (.box _ _) rfl ?_; go_must (refine wpList_stp (by kernel_rfl) (stp_bx _ _ rfl hS ?_)); clear hS; intro b5 w _ hS) | (refine wpList_is (o := ⟨some 6, _, _, _, _, _⟩) (.box _ _) rfl ?_; go_must (refine wpList_stp (by kernel_rfl) (stp_bx _ _ rfl hS ?_)); clear hS; intro b6 w _ hS) | (refine wpList_is (o := ⟨some 7, _, _, _, _, _⟩) (.box _ _) rfl ?_; go_must (refine wpList_stp (by kernel_rfl) (stp_bx _ _ rfl hS ?_)); clear hS; intro b7 w _ hS) | (refine wpList_is (o := ⟨some 8, _, _, _, _, _⟩) (.alloc _) rfl ?_; go_must (refine wpList_stp (by kernel_rfl) (stp_al _ rfl hS ?_)); clear hS; intro b8 w _ hS) | (refine wpList_is (o := ⟨some 10, _, _, _, _, _⟩) (.alloc _) rfl ?_; go_must (refine wpList_stp (by kernel_rfl) (stp_al _ rfl hS ?_)); clear hS; intro bv w _ hS) | (refine wpList_is (.load _ _) rfl ?_; go_must ((refine wpList_stp (by kernel_rfl) (stp_val (run_ld _ _ rfl hS) ?_)))))
  refine gi_err (fl := 64) (capl := [_, _, _, _, _]) (sk := sk) (el := x) (Hl := ⟨bv, #[.int .i64 v1, .int .u32 v2], 25, true⟩ :: ⟨b8, #[.int .i64 0, .int .u32 0], 25, true⟩ :: ⟨b7, #[.int .i64 f], 3, true⟩ :: ⟨b6, #[.int .i64 i], 3, true⟩ :: ⟨b5, #[.int .i64 (j : Int)], 3, true⟩ :: ⟨b4, #[.pointer (some ⟨b, 0, none⟩)], 27, true⟩ :: ⟨b, arC (some ⟨bo, 0, none⟩) L.length sts.length (spL sts) pg, 69, true⟩ :: ⟨bo, #[.pointer ph], 63, true⟩ :: (Eh ++ (Eg ++ ((sts.take j).map skE ++ (skE sk :: ((sts.drop (j + 1)).map skE ++ H1)))))) hS h4 hlp hj hp'.out hWs'.out (enters _ (by kernel_rfl)) hex'.out e he2'.out ?_ ?_
  · intro X w' hS'
    refine load1 (bs := bs) (w0 := w0) (T := (L, ks, G)) (Z := ⟨b8, #[.int .i64 0, .int .u32 0], 25, true⟩ :: (H1 ++ X)) hT v1 v2 _ hv'.out hx'.out ?_ (fun w'' hS'' => ⟨rfl, ?_⟩)
    · simp only [List.cons_append, List.append_assoc, hspl] at hS' ⊢
      exact hS'.pick
    · simp only [List.cons_append, List.append_assoc, hspl] at hS'' ⊢
      exact hS''.pick
  · intro w hS
    unfold Ret
    go_wp2_with ((refine wpList_is (.store _ _ _) rfl ?_; go_must ((refine wpList_stp (by kernel_rfl) (stp_sta _ _ _ rfl hS ?_))); clear hS; intro w hS))
    refine bodyPost_ret (res_ct rfl hS) rfl ?_
    exact hR _ hT (by simp only [List.cons_append, List.append_assoc, hspl]; exact hS.pick)

set_option maxHeartbeats 2000000 in
set_option maxRecDepth 100000 in
theorem ar_get_ok {p : Option Addr} {T : Ar} (hO : St w0 bs w H) (hT : AA p T E) [hc : Cut H E H1] (m f : Int) (hm : inM T m = true) (hx : gtX T f = 0) (hlt : (rtL T m).length < 32) (r : Rf) (hr : gtR (some (true, T.2.2)) f = r)
    (hR : ∀ E' w', AA p (giT T m r) E' → St w0 bs w' (E' ++ H1) → Ret R (.tuple #[.agg #[.int .i64 r.1, .int .u32 r.2], .int .i64 0]) w') : Calls Tryz.prog 20 #[.pointer p, .int .i64 m, .int .i64 f] w R := by
  have hS := hO.front (E := E) (H1 := H1)
  clear hO
  obtain ⟨L, ks, G⟩ := T
  obtain ⟨b, bo, ph, Eh, pg, Eg, sts, rfl, hH, hG, hks, hW, hGw, h1, h4, rfl⟩ := id hT
  simp only [List.cons_append, List.append_assoc] at hS
  have hlp := spL_len h4
  obtain ⟨j, sk, rfl, hj, hsk, hrt⟩ := inM_yes hm hks
  have hWs := hW sk (List.mem_of_getElem? hsk)
  have hlen := hWs.len
  have hp := spL_at hsk
  have hq' := Lib.hid (show (if (0 : Int) ≤ (j : Int) ∧ (j : Int) < (sts.length : Int) then (spL sts).getD (j : Int).toNat none else none) = some ⟨sk.1, 0, none⟩ by rw [if_pos (by omega), Int.toNat_natCast]; exact hp)
  have he' := Lib.hid (show (if (0 : Int) ≤ (j : Int) ∧ (j : Int) < (sts.length : Int) then (0 : Int) else 3) = 0 by rw [if_pos (by omega)])
  have hspl := sk_split hsk
  have hL32 : (sk.2.1 ++ sk.2.2).length = 32 := by rw [List.length_append]; exact hlen
  have hn32 : sk.2.1.length ≤ 32 := by omega
  rw [hspl] at hS
  simp only [List.cons_append, List.append_assoc] at hS
  obtain ⟨⟨v1, v2⟩, hv⟩ : ∃ v, gtR (some (true, G)) f = v := ⟨_, rfl⟩
  have hvw : wrR (v1, v2) = false ∧ 0 ≤ v2 ∧ v2 ≤ 4294967295 := by
    have h := gtR_wr hG hGw f
    rw [hv] at h
    exact h
  obtain rfl : r = (v1, v2) := by rw [← hr]; exact hv
  have hz : refB v1 v2 0 0 = false := by
    have h0 : gtX (L, ks, G) f = 0 := hx
    unfold gtX ldxE at h0
    rw [hv] at h0
    cases hb : refB v1 v2 0 0 with
    | false => rfl
    | true =>
      simp only [hb, if_true] at h0
      split at h0
      · cases h0
      · next h => exact absurd h0 h
  have hbd := wr_bd hvw.1 hz
  have hTn : ∀ Y, Y = ⟨b, arC (some ⟨bo, 0, none⟩) L.length sts.length (spL sts) pg, 69, true⟩ :: ⟨bo, #[.pointer ph], 63, true⟩ :: (Eh ++ (Eg ++ ((sts.take j).map skE ++ (skE (skP sk (v1, v2)) :: (sts.drop (j + 1)).map skE)))) → AA (some ⟨b, 0, none⟩) (giT (L, ks, G) j (v1, v2)) Y := by
    rintro Y rfl
    have e : giT (L, ks, G) j (v1, v2) = (L, ks.set j (skP sk (v1, v2)).2.1, G) := by simp only [giT, Int.toNat_natCast, ← hrt]; rfl
    rw [e]
    refine ⟨b, bo, ph, Eh, pg, Eg, sts.set j (skP sk (v1, v2)), rfl, hH, hG, by rw [List.map_set, hks], fun y hy => ?_, hGw, by rw [List.length_set]; exact h1, by rw [List.length_set]; exact h4, by rw [List.length_set, spL_set (sk' := skP sk (v1, v2)) hsk rfl, sk_set hsk]⟩
    rcases List.mem_or_eq_of_mem_set hy with hy | rfl
    · exact hW y hy
    · exact skP_w hWs (by rw [hrt]; exact hlt) ⟨hbd.1, hbd.2, hvw.2.2⟩
  have hTn' := Lib.hid hTn
  have hlt2 : sk.2.1.length < 32 := by rw [hrt]; exact hlt
  have hv' := Lib.hid hv
  have hx' := Lib.hid hx
  have hp' := Lib.hid hp
  have hWs' := Lib.hid hWs
  have hbd' := Lib.hid hbd
  clear hm hks hW hGw hWs hlen hp hL32 hrt hr hv hx hlt hTn hz hbd hvw
  go_enter Tryz.func20, Tryz.ntmps20
  go_wp2_with (first | (refine wpList_is (o := ⟨some 3, _, _, _, _, _⟩) (.box _ _) rfl ?_; go_must (refine wpList_stp (by kernel_rfl) (stp_bx _ _ rfl hS ?_)); clear hS; intro b4 w _ hS) | (refine wpList_is (o := ⟨some 5, _, _, _, _, _⟩) (.box _ _) rfl ?_; go_must (refine wpList_stp (by kernel_rfl) (stp_bx _ _ rfl hS ?_)); clear hS; intro b5 w _ hS) | (refine wpList_is (o := ⟨some 6, _, _, _, _, _⟩) (.alloc _) rfl ?_; go_must (refine wpList_stp (by kernel_rfl) (stp_al _ rfl hS ?_)); clear hS; intro b8 w _ hS) | (refine wpList_is (o := ⟨some 8, _, _, _, _, _⟩) (.alloc _) rfl ?_; go_must (refine wpList_stp (by kernel_rfl) (stp_al _ rfl hS ?_)); clear hS; intro bv w _ hS) | (refine wpList_is (.load _ _) rfl ?_; go_must ((refine wpList_stp (by kernel_rfl) (stp_val (run_ld _ _ rfl hS) ?_)))))
  refine gi_ok (fl := 68) (ff := 70) (capl := [_, _, _]) (capf := [_]) (sk := sk) (Hl := ⟨bv, #[.int .i64 v1, .int .u32 v2], 25, true⟩ :: ⟨b8, #[.int .i64 0, .int .u32 0], 25, true⟩ :: ⟨b5, #[.int .i64 f], 3, true⟩ :: ⟨b4, #[.pointer (some ⟨b, 0, none⟩)], 27, true⟩ :: ⟨b, arC (some ⟨bo, 0, none⟩) L.length sts.length (spL sts) pg, 69, true⟩ :: ⟨bo, #[.pointer ph], 63, true⟩ :: (Eh ++ (Eg ++ ((sts.take j).map skE ++ (skE sk :: ((sts.drop (j + 1)).map skE ++ H1)))))) hS h4 hlp hj hp'.out hWs'.out hlt2 (enters _ (by kernel_rfl)) (enters _ (by kernel_rfl)) (v1, v2) hbd'.out
    (fun Y => Y = ⟨bv, #[.int .i64 v1, .int .u32 v2], 25, true⟩ :: ⟨b8, #[.int .i64 0, .int .u32 0], 25, true⟩ :: ⟨b5, #[.int .i64 f], 3, true⟩ :: ⟨b4, #[.pointer (some ⟨b, 0, none⟩)], 27, true⟩ :: ⟨b, arC (some ⟨bo, 0, none⟩) L.length sts.length (spL sts) pg, 69, true⟩ :: ⟨bo, #[.pointer ph], 63, true⟩ :: (Eh ++ (Eg ++ ((sts.take j).map skE ++ ((sts.drop (j + 1)).map skE ++ H1))))) ?_ ?_ ?_
  · intro X w' hS'
    refine get1 (bs := bs) (w0 := w0) (b := b) (ba := 0) (bo := bo) (z := L.length) (k := sts.length) (Z := ⟨b8, #[.int .i64 0, .int .u32 0], 25, true⟩ :: ⟨bo, #[.pointer ph], 63, true⟩ :: (Eh ++ ((sts.take j).map skE ++ (skE sk :: ((sts.drop (j + 1)).map skE ++ (H1 ++ X)))))) hlp hG v1 v2 _ hv'.out rfl ?_ (fun w'' hS'' => ⟨by rw [← hx'.out, ← hv'.out]; rfl, ?_⟩)
    · simp only [List.cons_append, List.append_assoc] at hS' ⊢
      exact hS'.pick
    · simp only [List.cons_append, List.append_assoc] at hS'' ⊢
      exact hS''.pick
  · intro X w' hS'
    refine get2 (bs := bs) (w0 := w0) (H := (⟨bv, #[.int .i64 v1, .int .u32 v2], 25, true⟩ :: ⟨b8, #[.int .i64 0, .int .u32 0], 25, true⟩ :: ⟨b5, #[.int .i64 f], 3, true⟩ :: ⟨b4, #[.pointer (some ⟨b, 0, none⟩)], 27, true⟩ :: ⟨b, arC (some ⟨bo, 0, none⟩) L.length sts.length (spL sts) pg, 69, true⟩ :: ⟨bo, #[.pointer ph], 63, true⟩ :: (Eh ++ (Eg ++ ((sts.take j).map skE ++ (skE sk :: ((sts.drop (j + 1)).map skE ++ H1)))))) ++ X) hS' (fun w'' hS'' => ⟨_, rfl, rfl, ?_⟩)
    simp only [List.cons_append, List.append_assoc] at hS'' ⊢
    exact hS''.pick
  · rintro Y w rfl hS
    unfold Ret
    go_wp2_with ((refine wpList_is (.store _ _ _) rfl ?_; go_must ((refine wpList_stp (by kernel_rfl) (stp_sta _ _ _ rfl hS ?_))); clear hS; intro w hS))
    refine bodyPost_ret (res_ct rfl hS) rfl ?_
    exact hR _ _ (hTn'.out _ rfl) (by simp only [List.cons_append, List.append_assoc]; exact hS.pick)

set_option maxHeartbeats 2000000 in
set_option maxRecDepth 100000 in
theorem ar_get_err {p : Option Addr} {T : Ar} (hO : St w0 bs w H) (hT : AA p T E) [hc : Cut H E H1] (m f : Int) (hm : inM T m = true) (x : Int) (hx : gtX T f = x) (hex : x ≠ 0 ∨ (rtL T m).length = 32) (e : Int) (he : e = if x = 0 then 4 else x)
    (hR : ∀ w', AA p T E → St w0 bs w' (E ++ H1) → Ret R (.tuple #[.agg #[.int .i64 0, .int .u32 0], .int .i64 e]) w') : Calls Tryz.prog 20 #[.pointer p, .int .i64 m, .int .i64 f] w R := by
  have hS := hO.front (E := E) (H1 := H1)
  clear hO
  obtain ⟨L, ks, G⟩ := T
  obtain ⟨b, bo, ph, Eh, pg, Eg, sts, rfl, hH, hG, hks, hW, hGw, h1, h4, rfl⟩ := id hT
  simp only [List.cons_append, List.append_assoc] at hS
  have hlp := spL_len h4
  obtain ⟨j, sk, rfl, hj, hsk, hrt⟩ := inM_yes hm hks
  have hWs := hW sk (List.mem_of_getElem? hsk)
  have hlen := hWs.len
  have hp := spL_at hsk
  have hq' := Lib.hid (show (if (0 : Int) ≤ (j : Int) ∧ (j : Int) < (sts.length : Int) then (spL sts).getD (j : Int).toNat none else none) = some ⟨sk.1, 0, none⟩ by rw [if_pos (by omega), Int.toNat_natCast]; exact hp)
  have he' := Lib.hid (show (if (0 : Int) ≤ (j : Int) ∧ (j : Int) < (sts.length : Int) then (0 : Int) else 3) = 0 by rw [if_pos (by omega)])
  have hspl := sk_split hsk
  have hL32 : (sk.2.1 ++ sk.2.2).length = 32 := by rw [List.length_append]; exact hlen
  have hn32 : sk.2.1.length ≤ 32 := by omega
  rw [hspl] at hS
  simp only [List.cons_append, List.append_assoc] at hS
  obtain ⟨⟨v1, v2⟩, hv⟩ : ∃ v, gtR (some (true, G)) f = v := ⟨_, rfl⟩
  have hvw : wrR (v1, v2) = false ∧ 0 ≤ v2 ∧ v2 ≤ 4294967295 := by
    have h := gtR_wr hG hGw f
    rw [hv] at h
    exact h
  have hex2 : x ≠ 0 ∨ sk.2.1.length = 32 := by rw [hrt]; exact hex
  have hex' := Lib.hid hex2
  have he2' := Lib.hid he
  have hv' := Lib.hid hv
  have hx' := Lib.hid hx
  have hp' := Lib.hid hp
  have hWs' := Lib.hid hWs
  clear hm hks hW hGw hWs hlen hp hL32 hrt hv hx hvw hex hex2 he
  go_enter Tryz.func20, Tryz.ntmps20
  go_wp2_with (first | (refine wpList_is (o := ⟨some 3, _, _, _, _, _⟩) (.box _ _) rfl ?_; go_must (refine wpList_stp (by kernel_rfl) (stp_bx _ _ rfl hS ?_)); clear hS; intro b4 w _ hS) | (refine wpList_is (o := ⟨some 5, _, _, _, _, _⟩) (.box _ _) rfl ?_; go_must (refine wpList_stp (by kernel_rfl) (stp_bx _ _ rfl hS ?_)); clear hS; intro b5 w _ hS) | (refine wpList_is (o := ⟨some 6, _, _, _, _, _⟩) (.alloc _) rfl ?_; go_must (refine wpList_stp (by kernel_rfl) (stp_al _ rfl hS ?_)); clear hS; intro b8 w _ hS) | (refine wpList_is (o := ⟨some 8, _, _, _, _, _⟩) (.alloc _) rfl ?_; go_must (refine wpList_stp (by kernel_rfl) (stp_al _ rfl hS ?_)); clear hS; intro bv w _ hS) | (refine wpList_is (.load _ _) rfl ?_; go_must ((refine wpList_stp (by kernel_rfl) (stp_val (run_ld _ _ rfl hS) ?_)))))
  refine gi_err (fl := 68) (capl := [_, _, _]) (sk := sk) (el := x) (Hl := ⟨bv, #[.int .i64 v1, .int .u32 v2], 25, true⟩ :: ⟨b8, #[.int .i64 0, .int .u32 0], 25, true⟩ :: ⟨b5, #[.int .i64 f], 3, true⟩ :: ⟨b4, #[.pointer (some ⟨b, 0, none⟩)], 27, true⟩ :: ⟨b, arC (some ⟨bo, 0, none⟩) L.length sts.length (spL sts) pg, 69, true⟩ :: ⟨bo, #[.pointer ph], 63, true⟩ :: (Eh ++ (Eg ++ ((sts.take j).map skE ++ (skE sk :: ((sts.drop (j + 1)).map skE ++ H1)))))) hS h4 hlp hj hp'.out hWs'.out (enters _ (by kernel_rfl)) hex'.out e he2'.out ?_ ?_
  · intro X w' hS'
    refine get1 (bs := bs) (w0 := w0) (b := b) (ba := 0) (bo := bo) (z := L.length) (k := sts.length) (Z := ⟨b8, #[.int .i64 0, .int .u32 0], 25, true⟩ :: ⟨bo, #[.pointer ph], 63, true⟩ :: (Eh ++ ((sts.take j).map skE ++ (skE sk :: ((sts.drop (j + 1)).map skE ++ (H1 ++ X)))))) hlp hG v1 v2 _ hv'.out rfl ?_ (fun w'' hS'' => ⟨by rw [← hx'.out, ← hv'.out]; rfl, ?_⟩)
    · simp only [List.cons_append, List.append_assoc] at hS' ⊢
      exact hS'.pick
    · simp only [List.cons_append, List.append_assoc] at hS'' ⊢
      exact hS''.pick
  · intro w hS
    unfold Ret
    go_wp2_with ((refine wpList_is (.store _ _ _) rfl ?_; go_must ((refine wpList_stp (by kernel_rfl) (stp_sta _ _ _ rfl hS ?_))); clear hS; intro w hS))
    refine bodyPost_ret (res_ct rfl hS) rfl ?_
    exact hR _ hT (by simp only [List.cons_append, List.append_assoc, hspl]; exact hS.pick)

end Go.Proofs.YtjlihigodggfcaaGreat
