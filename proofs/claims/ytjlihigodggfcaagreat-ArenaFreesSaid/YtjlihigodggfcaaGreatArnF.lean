/-
  Arenas: making an object.
-/
import Derived.Test.YtjlihigodggfcaaGreatArnD
set_option linter.unusedSimpArgs false
set_option linter.unusedVariables false
namespace Go.Proofs.YtjlihigodggfcaaGreat
open Go Go.RowKit Go.Mm
variable {R : Ending → World → Prop} {w : World} {w0 : World} {bs : List Nat} {H H' H1 E : List Ent}

theorem mk_fact {p : Option Addr} {L : List Hs} (hT : HA p (some (some L)) E) {n : Int} {h : Bool} (he : mkE (some (some L)) n h = 0) :
    ∃ (L' : List Hs) (i : Nat) (g : Int), mkT (some (some L)) n h = some (some L') ∧ L'.length = L.length ∧ mkR (some (some L)) n h = ((i : Int), g) ∧ (i : Int) < 256 ∧ 1 ≤ g ∧ g ≤ 4294967295 := by
  obtain ⟨hW, _⟩ := hT
  simp only [mkE, mkT, mkR] at he ⊢
  cases hI : mkI L n h with
  | none => rw [hI] at he; split at he <;> simp at he
  | some i =>
    have hI' := hI
    unfold mkI at hI
    split at hI
    · obtain ⟨_, _, _, _, hi, _⟩ := tk_some hI
      rw [tbH_len] at hi
      have hg := hW.tb.gn _ (getD_mem (L := tbH L) (i := i) (by rw [tbH_len]; exact hi))
      rw [tbH_get] at hg
      have := hW.hi
      exact ⟨_, i, (L.getD i zHs).2.1, rfl, by simp [mkN], rfl, by omega, hg.1, hg.2⟩
    · cases hI

instance s_pb : ScalarT Tryz.prog 4 := ⟨by kernel_rfl, by kernel_rfl⟩
set_option maxHeartbeats 1000000 in
set_option maxRecDepth 100000 in
theorem make1 {b6 b7 : Nat} {n : Int} {h : Bool} (hO : St w0 bs w H) [h6 : Has H b6 #[.int .i64 n] 3] [h7 : Has H b7 #[.bool h] 4] (hR : ∀ w', St w0 bs w' H → Ret R (.int .i64 (nwOE n h)) w') : Calls Tryz.prog 58 #[.pointer (some ⟨b6, 0, none⟩), .pointer (some ⟨b7, 0, none⟩)] w R := by
  have hS := hO
  clear hO
  obtain ⟨e, he⟩ : ∃ e, nwOE n h = e := ⟨_, rfl⟩
  obtain ⟨o, ho⟩ : ∃ o, nwO n h = o := ⟨_, rfl⟩
  rw [he] at hR
  have he' := Lib.hid he
  have ho' := Lib.hid ho
  have hW := nwO_w n h
  rw [ho] at hW
  obtain ⟨on, oF, oh⟩ := o
  have hF4 : oF.length = 4 := hW.len
  have hA := objAll (n := on) (h := oh) hF4
  have hZ := objSize (n := on) (h := oh) hF4
  have hO2 := objOver (n := 0) (n' := on) (h := false) (h' := oh) (F := zero4) rfl hF4
  clear he ho hW
  go_enter Tryz.func58, Tryz.ntmps58
  go_wp2_with (first | (refine wpList_is (.alloc 39) rfl ?_; go_must (refine wpList_stp (by kernel_rfl) (stp_al _ rfl hS ?_)); clear hS; intro bx w _ hS) | (go_at_call 59; refine ob_new hS n h (on, oF, oh) e ho'.out he'.out ?_; clear hS; intro w hS; unfold Ret) | (refine wpList_is (.load _ _) rfl ?_; go_must ((refine wpList_stp (by kernel_rfl) (stp_val (run_ld _ _ rfl hS) ?_)))) | (refine wpList_is (.store _ _ _) rfl ?_; go_must ((refine wpList_stp (by kernel_rfl) (stp_sta _ _ _ rfl hS ?_))); clear hS; intro w hS))
  exact hR _ hS.pick

set_option maxHeartbeats 1000000 in
set_option maxRecDepth 100000 in
theorem make2 {b bo b4 b6 b7 : Nat} {z k : Int} {ps : List (Option Addr)} {pg ph : Option Addr} {L : List Hs} {n : Int} {h : Bool} {Eh Z : List Ent} (hH : HA ph (some (some L)) Eh) (T' : Hp) (r : Rf) (e : Int) (hT' : mkT (some (some L)) n h = T') (hr : mkR (some (some L)) n h = r) (he : mkE (some (some L)) n h = e)
    (hO : St w0 bs w (Eh ++ (⟨b7, #[.bool h], 4, true⟩ :: ⟨b6, #[.int .i64 n], 3, true⟩ :: ⟨b4, #[.pointer (some ⟨b, 0, none⟩)], 27, true⟩ :: ⟨b, arC (some ⟨bo, 0, none⟩) z k ps pg, 69, true⟩ :: ⟨bo, #[.pointer ph], 63, true⟩ :: Z)))
    (hR : ∀ Eh' w', HA ph T' Eh' → St w0 bs w' (Eh' ++ (⟨b7, #[.bool h], 4, true⟩ :: ⟨b6, #[.int .i64 n], 3, true⟩ :: ⟨b4, #[.pointer (some ⟨b, 0, none⟩)], 27, true⟩ :: ⟨b, arC (some ⟨bo, 0, none⟩) z k ps pg, 69, true⟩ :: ⟨bo, #[.pointer ph], 63, true⟩ :: Z)) → Ret R (.tuple #[.agg #[.int .i64 r.1, .int .u32 r.2], .int .i64 e]) w') :
    Calls Tryz.prog 60 #[.pointer (some ⟨b4, 0, none⟩), .pointer (some ⟨b6, 0, none⟩), .pointer (some ⟨b7, 0, none⟩)] w R := by
  have hS := hO
  clear hO
  obtain ⟨r1, r2⟩ := r
  have hT'' := Lib.hid hT'
  have hr' := Lib.hid hr
  have he' := Lib.hid he
  clear hT' hr he
  obtain ⟨Y, hY⟩ : ∃ Y, (⟨b7, #[.bool h], 4, true⟩ :: ⟨b6, #[.int .i64 n], 3, true⟩ :: ⟨b4, #[.pointer (some ⟨b, 0, none⟩)], 27, true⟩ :: ⟨b, arC (some ⟨bo, 0, none⟩) z k ps pg, 69, true⟩ :: ⟨bo, #[.pointer ph], 63, true⟩ :: Z) = Y := ⟨_, rfl⟩
  have y4 : Has Y b4 #[.pointer (some ⟨b, 0, none⟩)] 27 := by rw [← hY]; infer_instance
  have y6 : Has Y b6 #[.int .i64 n] 3 := by rw [← hY]; infer_instance
  have y7 : Has Y b7 #[.bool h] 4 := by rw [← hY]; infer_instance
  have yb : Has Y b (arC (some ⟨bo, 0, none⟩) z k ps pg) 69 := by rw [← hY]; infer_instance
  have yo : Has Y bo #[.pointer ph] 63 := by rw [← hY]; infer_instance
  rw [hY] at hS hR
  clear hY
  go_enter Tryz.func60, Tryz.ntmps60
  go_wp2_with ((refine wpList_is (.alloc 25) rfl ?_; go_must (refine wpList_stp (by kernel_rfl) (stp_al _ rfl hS ?_)); clear hS; intro b3 w _ hS))
  have hS : St w0 bs w (Eh ++ (⟨b3, #[.int .i64 0, .int .u32 0], 25, true⟩ :: Y)) := hS.pick
  refine region_itemsE [⟨(undef, Eh), [(9, fun _ x => HA ph T' x.2)]⟩, ⟨(undef, [⟨b3, #[.int .i64 0, .int .u32 0], 25, true⟩]), [(12, fun _ x => x.2 = [⟨b3, #[.int .i64 r1, .int .u32 r2], 25, true⟩])]⟩]
    Y (Eh ++ (⟨b3, #[.int .i64 0, .int .u32 0], 25, true⟩ :: Y)) (by simp) hS (by kernel_rfl) (by kernel_rfl) ?_
  (refine fx_val (fun _ => rfl) rfl (fun χ w hw => run_ld _ _ rfl hw) ?_)
  refine fx_val (fun _ => rfl) rfl (fun χ w hw => run_nc _ rfl) ?_
  refine fx_val (fun _ => rfl) rfl (fun χ w hw => run_fa _ _ _ rfl) ?_
  (refine fx_val (fun _ => rfl) rfl (fun χ w hw => run_ld _ _ rfl hw) ?_)
  refine fx_val (fun _ => rfl) rfl (fun χ w hw => run_nc _ rfl) ?_
  refine fx_val (fun _ => rfl) rfl (fun χ w hw => run_fa _ _ _ rfl) ?_
  (refine fx_val (fun _ => rfl) rfl (fun χ w hw => run_ld _ _ rfl hw) ?_)
  (refine fx_val (fun _ => rfl) rfl (fun χ w hw => run_ld _ _ rfl hw) ?_)
  (refine fx_val (fun _ => rfl) rfl (fun χ w hw => run_ld _ _ rfl hw) ?_)
  refine fx_turn 0 0 rfl rfl (by kernel_rfl) (by kernel_rfl) (by kernel_rfl) 61 [_, _, _] _ rfl (fun _ => rfl) (enters _ (by kernel_rfl)) (fun _ => .tuple #[.agg #[.int .i64 r1, .int .u32 r2], .int .i64 e]) ?_ ?_
  · intro χ X w _ hS
    exact hp_make (show St w0 bs w (Eh ++ (X ++ _)) from hS) hH n h _ (r1, r2) e hT''.out hr'.out he'.out (fun E' w' hT' hS' => ⟨(undef, E'), rfl, hT', show St w0 bs w' (E' ++ (X ++ _)) from hS'.pick⟩)
  refine fx_val (fun _ => rfl) rfl (fun χ w hw => run_ext _ _ rfl) ?_
  refine fx_val (fun _ => rfl) rfl (fun χ w hw => run_ext _ _ rfl) ?_
  refine fx_turn0 1 0 rfl rfl (by kernel_rfl) (by kernel_rfl) (by kernel_rfl) (fun _ => rfl) (fun _ => undef) ?_ ?_
  · rintro χ X w _ hS
    exact stepX_sta _ _ _ rfl (show St w0 bs w (⟨b3, #[.int .i64 0, .int .u32 0], 25, true⟩ :: (X ++ _)) from hS) (fun w' hS' => ⟨(undef, [⟨b3, #[.int .i64 r1, .int .u32 r2], 25, true⟩]), rfl, rfl, hS'⟩)
  refine fx_val (fun _ => rfl) rfl (fun χ w hw => run_as _ rfl) ?_
  refine fx_end rfl ?_
  intro χ w hok hS
  obtain ⟨hT2, _⟩ := hok _ (.head _)
  have hT2 : HA ph T' (χ 9).2 := hT2
  obtain ⟨hD, _⟩ := hok _ (.tail _ (.head _))
  have hD : (χ 12).2 = [⟨b3, #[.int .i64 r1, .int .u32 r2], 25, true⟩] := hD
  have hS : St w0 bs w (((χ 9).2 ++ ((χ 12).2 ++ [])) ++ Y) := hS
  rw [hD, List.append_nil, List.append_assoc] at hS
  generalize (χ 9).2 = E' at hS hT2
  simp only [List.cons_append, List.nil_append] at hS
  clear hok hD
  go_wp2_with ((go_skip))
  refine bodyPost_ret (res_ct rfl hS) rfl ?_
  exact hR _ _ hT2 hS.pick

def mkAr (T : Ar) (m n : Int) (h : Bool) : Ar := (hpL (mkT (some (some T.1)) n h), T.2.1.set m.toNat (rtL T m ++ [mkR (some (some T.1)) n h]), T.2.2)

set_option maxHeartbeats 2000000 in
set_option maxRecDepth 100000 in
theorem ar_make_ok {p : Option Addr} {T : Ar} (hO : St w0 bs w H) (hT : AA p T E) [hc : Cut H E H1] (m n : Int) (h : Bool) (hm : inM T m = true) (hn : nwOE n h = 0) (hlt : (rtL T m).length < 32) (he : mkE (some (some T.1)) n h = 0) (T' : Ar) (r : Rf) (hT' : mkAr T m n h = T') (hr : mkR (some (some T.1)) n h = r)
    (hR : ∀ E' w', AA p T' E' → St w0 bs w' (E' ++ H1) → Ret R (.tuple #[.agg #[.int .i64 r.1, .int .u32 r.2], .int .i64 0]) w') : Calls Tryz.prog 16 #[.pointer p, .int .i64 m, .int .i64 n, .bool h] w R := by
  have hS := hO.front (E := E) (H1 := H1)
  clear hO
  obtain ⟨L, ks, G⟩ := T
  obtain ⟨b, bo, ph, Eh, pg, Eg, sts, rfl, hH, hG, hks, hW, hGw, h1, h4, rfl⟩ := id hT
  simp only [List.cons_append, List.append_assoc] at hS
  have hlp := spL_len h4
  obtain ⟨j, sk, rfl, hj, hsk, hrt⟩ := inM_yes hm hks
  have hWs := hW sk (List.mem_of_getElem? hsk)
  have hlen := hWs.len
  have hp := spL_at hsk
  have hq' := Lib.hid (show (if (0 : Int) ≤ (j : Int) ∧ (j : Int) < (sts.length : Int) then (spL sts).getD (j : Int).toNat none else none) = some ⟨sk.1, 0, none⟩ by rw [if_pos (by omega), Int.toNat_natCast]; exact hp)
  have he' := Lib.hid (show (if (0 : Int) ≤ (j : Int) ∧ (j : Int) < (sts.length : Int) then (0 : Int) else 3) = 0 by rw [if_pos (by omega)])
  have hspl := sk_split hsk
  have hL32 : (sk.2.1 ++ sk.2.2).length = 32 := by rw [List.length_append]; exact hlen
  have hn32 : sk.2.1.length ≤ 32 := by omega
  rw [hspl] at hS
  simp only [List.cons_append, List.append_assoc] at hS
  obtain ⟨L', i, g, hT2, hL2, hr2, hib, hg1, hg2⟩ := mk_fact hH he
  have hr3 : r = ((i : Int), g) := by rw [← hr, ← hr2]
  have hTn : ∀ Eh' Y, HA ph (some (some L')) Eh' → Y = ⟨b, arC (some ⟨bo, 0, none⟩) L.length sts.length (spL sts) pg, 69, true⟩ :: ⟨bo, #[.pointer ph], 63, true⟩ :: (Eh' ++ (Eg ++ ((sts.take j).map skE ++ (skE (skP sk r) :: (sts.drop (j + 1)).map skE)))) → AA (some ⟨b, 0, none⟩) T' Y := by
    rintro Eh' Y hH' rfl
    have e : T' = (L', ks.set j (skP sk r).2.1, G) := by
      rw [← hT']
      simp only [mkAr, hT2, hpL, Int.toNat_natCast, ← hrt, hr]
      rfl
    subst e
    refine ⟨b, bo, ph, Eh', pg, Eg, sts.set j (skP sk r), rfl, hH', hG, by rw [List.map_set, hks], fun y hy => ?_, hGw, by rw [List.length_set]; exact h1, by rw [List.length_set]; exact h4, by rw [List.length_set, spL_set (sk' := skP sk r) hsk rfl, sk_set hsk, hL2]⟩
    rcases List.mem_or_eq_of_mem_set hy with hy | rfl
    · exact hW y hy
    · exact skP_w hWs (by rw [hrt]; exact hlt) (by rw [hr3]; exact ⟨⟨by omega, hib⟩, hg1, hg2⟩)
  have hTn' := Lib.hid hTn
  have hlt2 : sk.2.1.length < 32 := by rw [hrt]; exact hlt
  have hrb : (0 ≤ r.1 ∧ r.1 < 256) ∧ 1 ≤ r.2 := by rw [hr3]; exact ⟨⟨by omega, hib⟩, hg1⟩
  have hn' := Lib.hid hn
  have hm2' := Lib.hid hT2
  have hr' := Lib.hid hr
  have hme' := Lib.hid he
  have hp' := Lib.hid hp
  have hWs' := Lib.hid hWs
  have hrb' := Lib.hid hrb
  clear hm hks hW hGw hWs hlen hp hL32 hrt hn hr he hlt hTn hT' hT2 hL2 hr2 hib hg1 hg2 hr3 hrb
  go_enter Tryz.func16, Tryz.ntmps16
  go_wp2_with (first | (refine wpList_is (.box 27 _) rfl ?_; go_must (refine wpList_stp (by kernel_rfl) (stp_bx _ _ rfl hS ?_)); clear hS; intro b4 w _ hS) | (refine wpList_is (.box 3 _) rfl ?_; go_must (refine wpList_stp (by kernel_rfl) (stp_bx _ _ rfl hS ?_)); clear hS; intro b6 w _ hS) | (refine wpList_is (.box 4 _) rfl ?_; go_must (refine wpList_stp (by kernel_rfl) (stp_bx _ _ rfl hS ?_)); clear hS; intro b7 w _ hS) | (refine wpList_is (.alloc 25) rfl ?_; go_must (refine wpList_stp (by kernel_rfl) (stp_al _ rfl hS ?_)); clear hS; intro b8 w _ hS) | (refine wpList_is (.load _ _) rfl ?_; go_must ((refine wpList_stp (by kernel_rfl) (stp_val (run_ld _ _ rfl hS) ?_)))))
  refine gi_ok (fl := 58) (ff := 60) (capl := [_, _]) (capf := [_, _, _]) (sk := sk) (Hl := ⟨b8, #[.int .i64 0, .int .u32 0], 25, true⟩ :: ⟨b7, #[.bool h], 4, true⟩ :: ⟨b6, #[.int .i64 n], 3, true⟩ :: ⟨b4, #[.pointer (some ⟨b, 0, none⟩)], 27, true⟩ :: ⟨b, arC (some ⟨bo, 0, none⟩) L.length sts.length (spL sts) pg, 69, true⟩ :: ⟨bo, #[.pointer ph], 63, true⟩ :: (Eh ++ (Eg ++ ((sts.take j).map skE ++ (skE sk :: ((sts.drop (j + 1)).map skE ++ H1)))))) hS h4 hlp hj hp'.out hWs'.out hlt2 (enters _ (by kernel_rfl)) (enters _ (by kernel_rfl)) r hrb'.out
    (fun Y => ∃ Eh', HA ph (some (some L')) Eh' ∧ Y = ⟨b8, #[.int .i64 0, .int .u32 0], 25, true⟩ :: ⟨b7, #[.bool h], 4, true⟩ :: ⟨b6, #[.int .i64 n], 3, true⟩ :: ⟨b4, #[.pointer (some ⟨b, 0, none⟩)], 27, true⟩ :: ⟨b, arC (some ⟨bo, 0, none⟩) L.length sts.length (spL sts) pg, 69, true⟩ :: ⟨bo, #[.pointer ph], 63, true⟩ :: (Eh' ++ (Eg ++ ((sts.take j).map skE ++ ((sts.drop (j + 1)).map skE ++ H1))))) ?_ ?_ ?_
  · intro X w' hS'
    exact make1 (n := n) (h := h) hS' (fun w'' hS'' => ⟨by rw [hn'.out], hS''⟩)
  · intro X w' hS'
    refine make2 (b := b) (bo := bo) (bs := bs) (w0 := w0) (z := L.length) (k := sts.length) (ps := spL sts) (pg := pg) (Z := ⟨b8, #[.int .i64 0, .int .u32 0], 25, true⟩ :: (Eg ++ ((sts.take j).map skE ++ (skE sk :: ((sts.drop (j + 1)).map skE ++ (H1 ++ X)))))) hH (some (some L')) r 0 hm2'.out hr'.out hme'.out ?_ (fun Eh' w'' hH' hS'' => ⟨_, rfl, ⟨Eh', hH', rfl⟩, ?_⟩)
    · simp only [List.cons_append, List.append_assoc] at hS'
      exact hS'.pick
    · simp only [List.cons_append, List.append_assoc]
      exact hS''.pick
  · rintro Y w ⟨Eh', hH', rfl⟩ hS
    unfold Ret
    go_wp2_with ((refine wpList_is (.store _ _ _) rfl ?_; go_must ((refine wpList_stp (by kernel_rfl) (stp_sta _ _ _ rfl hS ?_))); clear hS; intro w hS))
    refine bodyPost_ret (res_ct rfl hS) rfl ?_
    exact hR _ _ (hTn'.out _ _ hH' rfl) (by simp only [List.cons_append, List.append_assoc]; exact hS.pick)

set_option maxHeartbeats 2000000 in
set_option maxRecDepth 100000 in
theorem ar_make_err {p : Option Addr} {T : Ar} (hO : St w0 bs w H) (hT : AA p T E) [hc : Cut H E H1] (m n : Int) (h : Bool) (hm : inM T m = true) (hex : nwOE n h ≠ 0 ∨ (rtL T m).length = 32) (e : Int) (he : e = if nwOE n h = 0 then 4 else nwOE n h)
    (hR : ∀ w', AA p T E → St w0 bs w' (E ++ H1) → Ret R (.tuple #[.agg #[.int .i64 0, .int .u32 0], .int .i64 e]) w') : Calls Tryz.prog 16 #[.pointer p, .int .i64 m, .int .i64 n, .bool h] w R := by
  have hS := hO.front (E := E) (H1 := H1)
  clear hO
  obtain ⟨L, ks, G⟩ := T
  obtain ⟨b, bo, ph, Eh, pg, Eg, sts, rfl, hH, hG, hks, hW, hGw, h1, h4, rfl⟩ := id hT
  simp only [List.cons_append, List.append_assoc] at hS
  have hlp := spL_len h4
  obtain ⟨j, sk, rfl, hj, hsk, hrt⟩ := inM_yes hm hks
  have hWs := hW sk (List.mem_of_getElem? hsk)
  have hlen := hWs.len
  have hp := spL_at hsk
  have hq' := Lib.hid (show (if (0 : Int) ≤ (j : Int) ∧ (j : Int) < (sts.length : Int) then (spL sts).getD (j : Int).toNat none else none) = some ⟨sk.1, 0, none⟩ by rw [if_pos (by omega), Int.toNat_natCast]; exact hp)
  have he' := Lib.hid (show (if (0 : Int) ≤ (j : Int) ∧ (j : Int) < (sts.length : Int) then (0 : Int) else 3) = 0 by rw [if_pos (by omega)])
  have hspl := sk_split hsk
  have hL32 : (sk.2.1 ++ sk.2.2).length = 32 := by rw [List.length_append]; exact hlen
  have hn32 : sk.2.1.length ≤ 32 := by omega
  rw [hspl] at hS
  simp only [List.cons_append, List.append_assoc] at hS
  have hex2 : nwOE n h ≠ 0 ∨ sk.2.1.length = 32 := by rw [hrt]; exact hex
  have he' := Lib.hid he
  have hex' := Lib.hid hex2
  have hp' := Lib.hid hp
  have hWs' := Lib.hid hWs
  clear hm hks hW hGw hWs hlen hp hL32 hrt he hex hex2
  go_enter Tryz.func16, Tryz.ntmps16
  go_wp2_with (first | (refine wpList_is (.box 27 _) rfl ?_; go_must (refine wpList_stp (by kernel_rfl) (stp_bx _ _ rfl hS ?_)); clear hS; intro b4 w _ hS) | (refine wpList_is (.box 3 _) rfl ?_; go_must (refine wpList_stp (by kernel_rfl) (stp_bx _ _ rfl hS ?_)); clear hS; intro b6 w _ hS) | (refine wpList_is (.box 4 _) rfl ?_; go_must (refine wpList_stp (by kernel_rfl) (stp_bx _ _ rfl hS ?_)); clear hS; intro b7 w _ hS) | (refine wpList_is (.alloc 25) rfl ?_; go_must (refine wpList_stp (by kernel_rfl) (stp_al _ rfl hS ?_)); clear hS; intro b8 w _ hS) | (refine wpList_is (.load _ _) rfl ?_; go_must ((refine wpList_stp (by kernel_rfl) (stp_val (run_ld _ _ rfl hS) ?_)))))
  refine gi_err (fl := 58) (capl := [_, _]) (sk := sk) (el := nwOE n h) (Hl := ⟨b8, #[.int .i64 0, .int .u32 0], 25, true⟩ :: ⟨b7, #[.bool h], 4, true⟩ :: ⟨b6, #[.int .i64 n], 3, true⟩ :: ⟨b4, #[.pointer (some ⟨b, 0, none⟩)], 27, true⟩ :: ⟨b, arC (some ⟨bo, 0, none⟩) L.length sts.length (spL sts) pg, 69, true⟩ :: ⟨bo, #[.pointer ph], 63, true⟩ :: (Eh ++ (Eg ++ ((sts.take j).map skE ++ (skE sk :: ((sts.drop (j + 1)).map skE ++ H1)))))) hS h4 hlp hj hp'.out hWs'.out (enters _ (by kernel_rfl)) hex'.out e he'.out ?_ ?_
  · intro X w' hS'
    exact make1 (n := n) (h := h) hS' (fun w'' hS'' => ⟨rfl, hS''⟩)
  · intro w hS
    unfold Ret
    go_wp2_with ((refine wpList_is (.store _ _ _) rfl ?_; go_must ((refine wpList_stp (by kernel_rfl) (stp_sta _ _ _ rfl hS ?_))); clear hS; intro w hS))
    refine bodyPost_ret (res_ct rfl hS) rfl ?_
    exact hR _ hT (by simp only [List.cons_append, List.append_assoc, hspl]; exact hS.pick)
set_option maxHeartbeats 2000000 in
set_option maxRecDepth 100000 in
theorem ar_make_no {p : Option Addr} (hO : St w0 bs w H) (hN : NoA p H) (m n : Int) (h : Bool)
    (hR : ∀ w', St w0 bs w' H → Ret R (.tuple #[.agg #[.int .i64 0, .int .u32 0], .int .i64 1]) w') : Calls Tryz.prog 16 #[.pointer p, .int .i64 m, .int .i64 n, .bool h] w R := by
  have hS := hO
  clear hO
  go_enter Tryz.func16, Tryz.ntmps16
  go_wp2_with (first | (refine wpList_is (.box 27 _) rfl ?_; go_must (refine wpList_stp (by kernel_rfl) (stp_bx _ _ rfl hS ?_)); clear hS; intro b4 w _ hS) | (refine wpList_is (.box 3 _) rfl ?_; go_must (refine wpList_stp (by kernel_rfl) (stp_bx _ _ rfl hS ?_)); clear hS; intro b6 w _ hS) | (refine wpList_is (.box 4 _) rfl ?_; go_must (refine wpList_stp (by kernel_rfl) (stp_bx _ _ rfl hS ?_)); clear hS; intro b7 w _ hS) | (refine wpList_is (.alloc 25) rfl ?_; go_must (refine wpList_stp (by kernel_rfl) (stp_al _ rfl hS ?_)); clear hS; intro b8 w _ hS) | (refine wpList_is (.load _ _) rfl ?_; go_must ((refine wpList_stp (by kernel_rfl) (stp_val (run_ld _ _ rfl hS) ?_)))))
  refine gi_no hS hN.cons.cons.cons.cons m ?_
  intro w hS
  unfold Ret
  go_wp2_with ((refine wpList_is (.store _ _ _) rfl ?_; go_must ((refine wpList_stp (by kernel_rfl) (stp_sta _ _ _ rfl hS ?_))); clear hS; intro w hS))
  refine bodyPost_ret (res_ct rfl hS) rfl ?_
  exact hR _ hS.pick
end Go.Proofs.YtjlihigodggfcaaGreat
