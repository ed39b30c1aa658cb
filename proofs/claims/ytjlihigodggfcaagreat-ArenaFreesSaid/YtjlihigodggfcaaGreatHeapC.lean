/-
  Heaps: asking.
-/
import Derived.Test.YtjlihigodggfcaaGreatHeapB
set_option linter.unusedSimpArgs false
set_option linter.unusedVariables false
namespace Go.Proofs.YtjlihigodggfcaaGreat
open Go.RowKit Go.Mm
variable {R : Ending → World → Prop} {w : World} {w0 : World} {bs : List Nat} {H H' H1 E : List Ent}

def hasH (T : Hp) (s g : Int) : Bool := decide (wiH T s g = 0)
def obR (T : Hp) (s g : Int) : Ob := if wiH T s g = 0 then obAt T s else zOb
def ldR (T : Hp) (s g i : Int) : Int × Int := if wiH T s g = 0 then gtO (obAt T s) i else (0, 0)
def ldE (T : Hp) (s g i : Int) : Int := if wiH T s g = 0 then gtOE (obAt T s) i else wiH T s g
theorem wi_zero {T : Hp} {s g : Int} (h : wiH T s g = 0) : ∃ (L : List Hs) (j : Nat), T = some (some L) ∧ s = j ∧ j < L.length ∧ ckE (some (tbH L)) j g = 0 ∧ (L.getD j zHs).1 = 1 ∧ (L.getD j zHs).2.1 = g ∧ obAt T s = (L.getD j zHs).2.2 := by
  rcases T with _ | _ | L
  · cases h
  · cases h
  obtain ⟨j, rfl, hj, hx⟩ := ck_zero h
  rw [tbH_len] at hj
  rw [tbH_get] at hx
  obtain ⟨h1, h2⟩ := Prod.mk.inj hx
  exact ⟨L, j, rfl, rfl, hj, h, h1, h2, by unfold obAt; rw [Int.toNat_natCast]; rfl⟩
theorem getHm {L : List Hs} {i : Nat} (h : i < L.length) : L.getD i zHs ∈ L := by
  rw [List.getD_eq_getElem?_getD, List.getElem?_eq_getElem h]; exact List.getElem_mem h
theorem HpW.at {L : List Hs} (hW : HpW L) {i : Nat} (h : i < L.length) : ObW (L.getD i zHs).2.2 := hW.ob _ (getHm h)
theorem HA.obw {p : Option Addr} {T : Hp} (hT : HA p T E) (s g : Int) : ObW (obR T s g) := by
  unfold obR
  split
  · next h =>
    obtain ⟨L, j, rfl, rfl, hj, _, _, _, ho⟩ := wi_zero h
    rw [ho]
    exact hT.1.at hj
  · exact zOb_w

set_option maxHeartbeats 1000000 in
set_option maxRecDepth 100000 in
theorem hp_object {p : Option Addr} {T : Hp} (hO : St w0 bs w H) (hT : HA p T E) [hc : Cut H E H1] (s g : Int) (o : Ob) (e : Int) (ho : obR T s g = o) (he : wiH T s g = e)
    (hR : ∀ w', HA p T E → St w0 bs w' (E ++ H1) → Ret R (.tuple #[.agg (obC o), .int .i64 e]) w') : Calls Tryz.prog 35 #[.pointer p, .agg #[.int .i64 s, .int .u32 g]] w R := by
  have hS := hO.front (E := E) (H1 := H1)
  clear hO
  by_cases h0 : e = 0
  case neg =>
    have hE2 : obR T s g = zOb := by unfold obR; rw [he, if_neg h0]
    rw [hE2] at ho
    subst ho
    have hR' : ∀ w', HA p T E → St w0 bs w' (E ++ H1) → Ret R (.tuple #[.agg (objC 0 zero4 false), .int .i64 e]) w' := hR
    have he' := Lib.hid he
    clear he hE2 hR
    go_enter Tryz.func35, Tryz.ntmps35
    go_wp2_with (first | (refine wpList_is (.box 25 _) rfl ?_; go_must (refine wpList_stp (by kernel_rfl) (stp_bx _ _ rfl hS ?_)); clear hS; intro bo w _ hS) | (go_at_call 84; refine wh_err hS hT s g _ e he'.out h0 ?_; clear hS; intro w _ hS; unfold Ret) | (refine wpList_is (.load _ _) rfl ?_; go_must ((refine wpList_stp (by kernel_rfl) (stp_val (run_lda _ _ rfl hS) ?_)))) | (refine wpList_is (.store _ _ _) rfl ?_; go_must ((refine wpList_stp (by kernel_rfl) (stp_sta _ _ _ rfl hS ?_))); clear hS; intro w hS) | (refine wpList_is (.alloc _) rfl ?_; go_must (refine wpList_stp (by kernel_rfl) (stp_al _ rfl hS ?_)); clear hS; intro bN w hbN hS))
    refine bodyPost_ret (res_ct rfl hS) rfl ?_
    exact hR' _ hT hS.pick
  case pos =>
  subst h0
  obtain ⟨L, j, rfl, rfl, hj, hck, _, _, hob⟩ := wi_zero he
  obtain ⟨hW, b, bt, Et, rfl, hTt, rfl⟩ := id hT
  have hoo : (L.getD j zHs).2.2 = o := by rw [← ho, ← hob]; unfold obR; rw [if_pos he]
  have hoW : ObW o := by rw [← hoo]; exact hW.at hj
  have hcell := hpOb (t := some ⟨bt, 0, none⟩) (z := L.length) (padH_get hj rfl) (show ObW (L.getD j zHs).2.2 by rw [hoo]; exact hoW)
  rw [hoo] at hcell
  obtain ⟨n, F, h⟩ := o
  have hF4 : F.length = 4 := hoW.len
  have hA := objAll (n := n) (h := h) hF4
  have hZ := objSize (n := n) (h := h) hF4
  have hO2 := objOver (n := 0) (n' := n) (h := false) (h' := h) (F := zero4) rfl hF4
  have hcell : CellsAt (hpC (some ⟨bt, 0, none⟩) L.length (padH L)) (2 + j * 10) 10 (objC n F h) := hcell
  have hR' : ∀ w', HA (some ⟨b, 0, none⟩) (some (some L)) (⟨b, hpC (some ⟨bt, 0, none⟩) L.length (padH L), 104, true⟩ :: Et) → St w0 bs w' ((⟨b, hpC (some ⟨bt, 0, none⟩) L.length (padH L), 104, true⟩ :: Et) ++ H1) → Ret R (.tuple #[.agg (objC n F h), .int .i64 0]) w' := hR
  clear ho he hob hoo hoW hR
  have hdo : ∀ (bu : Nat) (Z Y : List Ent) w', St w0 bs w' ((⟨b, hpC (some ⟨bt, 0, none⟩) L.length (padH L), 104, true⟩ :: (Et ++ (⟨bu, objC 0 zero4 false, 39, true⟩ :: Z))) ++ Y) →
      Calls Tryz.prog 85 #[.pointer (some ⟨b, 2 + j * 10, none⟩), .pointer (some ⟨bu, 0, none⟩)] w' (fun e' w'' => ∃ x, e' = .returned (.int .i64 0) ∧ x = ⟨b, hpC (some ⟨bt, 0, none⟩) L.length (padH L), 104, true⟩ :: (Et ++ (⟨bu, objC n F h, 39, true⟩ :: Z)) ∧ St w0 bs w'' (x ++ Y)) := by
    intro bu Z Y w hS
    simp only [List.cons_append, List.append_assoc] at hS
    go_enter Tryz.func85, Tryz.ntmps85
    go_wp2_with (first | (refine wpList_is (.load _ _) rfl ?_; go_must ((refine wpList_stp (by kernel_rfl) (stp_val (run_lda _ _ rfl hS) ?_)))) | (refine wpList_is (.store _ _ _) rfl ?_; go_must ((refine wpList_stp (by kernel_rfl) (stp_sta _ _ _ rfl hS ?_))); clear hS; intro w hS))
    refine bodyPost_ret (res_tmp1 rfl) rfl ?_
    (exact ⟨_, rfl, rfl, by simp only [List.cons_append, List.append_assoc]; exact hS.pick⟩)
  simp only [List.cons_append] at hS
  clear hcell
  go_enter Tryz.func35, Tryz.ntmps35
  go_wp2_with (first | (refine wpList_is (.box 25 _) rfl ?_; go_must (refine wpList_stp (by kernel_rfl) (stp_bx _ _ rfl hS ?_)); clear hS; intro bo w _ hS) | (refine wpList_is (o := ⟨some 4, _, _, _, _, _⟩) (.alloc _) rfl ?_; go_must (refine wpList_stp rfl (stp_al _ rfl hS ?_)); clear hS; intro b4 w _ hS) | (refine wpList_is (.alloc 39) rfl ?_; go_must (refine wpList_stp (by kernel_rfl) (stp_al _ rfl hS ?_)); clear hS; intro bu w _ hS) | (go_at_call 84; go_must (refine wh_do (H1 := ⟨bu, objC 0 zero4 false, 39, true⟩ :: ⟨b4, objC 0 zero4 false, 39, true⟩ :: ⟨bo, #[.int .i64 j, .int .u32 g], 25, true⟩ :: H1) (show St w0 bs w ((⟨b, hpC (some ⟨bt, 0, none⟩) L.length (padH L), 104, true⟩ :: Et) ++ (⟨bu, objC 0 zero4 false, 39, true⟩ :: ⟨b4, objC 0 zero4 false, 39, true⟩ :: ⟨bo, #[.int .i64 j, .int .u32 g], 25, true⟩ :: H1)) from by simp only [List.cons_append]; exact hS.pick) hW hTt hj hck 85 [.pointer (some ⟨bu, 0, none⟩)] 0 _ (enters _ (by kernel_rfl)) (fun Y w' hS => hdo bu _ Y w' hS) ?_); clear hS; rintro x w rfl hS; unfold Ret) | (refine wpList_is (.load _ _) rfl ?_; go_must ((refine wpList_stp (by kernel_rfl) (stp_val (run_lda _ _ rfl hS) ?_)))) | (refine wpList_is (.store _ _ _) rfl ?_; go_must ((refine wpList_stp (by kernel_rfl) (stp_sta _ _ _ rfl hS ?_))); clear hS; intro w hS))
  refine bodyPost_ret (res_ct rfl hS) rfl ?_
  exact hR' _ hT (by simp only [List.cons_append]; exact hS.pick)

set_option maxHeartbeats 1000000 in
set_option maxRecDepth 100000 in
theorem hp_load {p : Option Addr} {T : Hp} (hO : St w0 bs w H) (hT : HA p T E) [hc : Cut H E H1] (s g i : Int) (r : Int × Int) (e : Int) (hr : ldR T s g i = r) (he : ldE T s g i = e)
    (hR : ∀ w', HA p T E → St w0 bs w' (E ++ H1) → Ret R (.tuple #[.agg #[.int .i64 r.1, .int .u32 r.2], .int .i64 e]) w') : Calls Tryz.prog 65 #[.pointer p, .agg #[.int .i64 s, .int .u32 g], .int .i64 i] w R := by
  have hS := hO.front (E := E) (H1 := H1)
  clear hO
  obtain ⟨e0, he0⟩ : ∃ e, wiH T s g = e := ⟨_, rfl⟩
  by_cases h0 : e0 = 0
  case neg =>
    have hE1 : ldE T s g i = e0 := by unfold ldE; rw [he0, if_neg h0]
    have hE2 : ldR T s g i = (0, 0) := by unfold ldR; rw [he0, if_neg h0]
    rw [hE1] at he
    rw [hE2] at hr
    subst he hr
    have he' := Lib.hid he0
    clear he0 hE1 hE2
    go_enter Tryz.func65, Tryz.ntmps65
    go_wp2_with (first | (refine wpList_is (.box 25 _) rfl ?_; go_must (refine wpList_stp (by kernel_rfl) (stp_bx _ _ rfl hS ?_)); clear hS; intro bo w _ hS) | (go_at_call 84; refine wh_err hS hT s g _ e0 he'.out h0 ?_; clear hS; intro w _ hS; unfold Ret) | (refine wpList_is (.load _ _) rfl ?_; go_must ((refine wpList_stp (by kernel_rfl) (stp_val (run_lda _ _ rfl hS) ?_)))) | (refine wpList_is (.store _ _ _) rfl ?_; go_must ((refine wpList_stp (by kernel_rfl) (stp_sta _ _ _ rfl hS ?_))); clear hS; intro w hS) | (refine wpList_is (.alloc _) rfl ?_; go_must (refine wpList_stp (by kernel_rfl) (stp_al _ rfl hS ?_)); clear hS; intro bN w hbN hS) | (refine wpList_is (.box _ _) rfl ?_; go_must (refine wpList_stp (by kernel_rfl) (stp_bx _ _ rfl hS ?_)); clear hS; intro bN w hbN hS))
    refine bodyPost_ret (res_ct rfl hS) rfl ?_
    exact hR _ hT hS.pick
  case pos =>
  subst h0
  obtain ⟨L, j, rfl, rfl, hj, hck, _, _, hob⟩ := wi_zero he0
  obtain ⟨hW, b, bt, Et, rfl, hTt, rfl⟩ := id hT
  obtain ⟨o, ho⟩ : ∃ o, (L.getD j zHs).2.2 = o := ⟨_, rfl⟩
  have hoW : ObW o := by rw [← ho]; exact hW.at hj
  have hcell := hpOb (t := some ⟨bt, 0, none⟩) (z := L.length) (padH_get hj rfl) (show ObW (L.getD j zHs).2.2 by rw [ho]; exact hoW)
  unfold ldR at hr
  unfold ldE at he
  rw [he0, if_pos rfl, hob, ho] at hr he
  rw [ho] at hcell
  have hr' := Lib.hid hr
  have he' := Lib.hid he
  clear he0 hob ho hr he
  have hdo : ∀ (bi bu : Nat) (Z Y : List Ent) w', St w0 bs w' ((⟨b, hpC (some ⟨bt, 0, none⟩) L.length (padH L), 104, true⟩ :: (Et ++ (⟨bu, #[.int .i64 0, .int .u32 0], 25, true⟩ :: ⟨bi, #[.int .i64 i], 3, true⟩ :: Z))) ++ Y) →
      Calls Tryz.prog 106 #[.pointer (some ⟨b, 2 + j * 10, none⟩), .pointer (some ⟨bi, 0, none⟩), .pointer (some ⟨bu, 0, none⟩)] w' (fun e' w'' => ∃ x, e' = .returned (.int .i64 e) ∧ x = ⟨b, hpC (some ⟨bt, 0, none⟩) L.length (padH L), 104, true⟩ :: (Et ++ (⟨bu, #[.int .i64 r.1, .int .u32 r.2], 25, true⟩ :: ⟨bi, #[.int .i64 i], 3, true⟩ :: Z)) ∧ St w0 bs w'' (x ++ Y)) := by
    intro bi bu Z Y w hS
    simp only [List.cons_append, List.append_assoc] at hS
    go_enter Tryz.func106, Tryz.ntmps106
    go_wp2_with ((go_skip))
    refine region_itemsE [⟨(undef, [⟨bu, #[.int .i64 0, .int .u32 0], 25, true⟩]), [(8, fun _ y => y.2 = [⟨bu, #[.int .i64 r.1, .int .u32 r.2], 25, true⟩])]⟩] (⟨b, hpC (some ⟨bt, 0, none⟩) L.length (padH L), 104, true⟩ :: (Et ++ (⟨bi, #[.int .i64 i], 3, true⟩ :: (Z ++ Y)))) (⟨bu, #[.int .i64 0, .int .u32 0], 25, true⟩ :: ⟨b, hpC (some ⟨bt, 0, none⟩) L.length (padH L), 104, true⟩ :: (Et ++ (⟨bi, #[.int .i64 i], 3, true⟩ :: (Z ++ Y)))) (by simp) hS.pick (by kernel_rfl) (by kernel_rfl) ?_
    (refine fx_val (fun _ => rfl) rfl (fun χ w hw => run_mv _ rfl) ?_)
    (refine fx_val (fun _ => rfl) rfl (fun χ w hw => run_nc _ rfl) ?_)
    (refine fx_val (fun _ => rfl) rfl (fun χ w hw => run_lda _ _ rfl hw) ?_)
    (refine fx_val (fun _ => rfl) rfl (fun χ w hw => run_ld _ _ rfl hw) ?_)
    refine fx_ask 103 [_, _] _ rfl (fun _ => rfl) rfl (enters _ (by kernel_rfl)) (.tuple #[.agg #[.int .i64 r.1, .int .u32 r.2], .int .i64 e]) (fun X w hS => ob_get hS hoW i r e hr'.out he'.out (fun w' hS' => ⟨rfl, hS'⟩)) ?_
    (refine fx_val (fun _ => rfl) rfl (fun χ w hw => run_mv _ rfl) ?_)
    (refine fx_val (fun _ => rfl) rfl (fun χ w hw => run_ext _ _ rfl) ?_)
    (refine fx_val (fun _ => rfl) rfl (fun χ w hw => run_ext _ _ rfl) ?_)
    refine fx_turn0 0 0 rfl rfl (by (rfl)) (by (rfl)) (by (rfl)) (fun _ => rfl) (fun _ => undef) ?_ ?_
    · intro χ X w _ hS
      exact stepX_sta _ _ _ rfl (show St w0 bs w (⟨bu, #[.int .i64 0, .int .u32 0], 25, true⟩ :: (X ++ _)) from hS) (fun w' hS' => ⟨(undef, [⟨bu, #[.int .i64 r.1, .int .u32 r.2], 25, true⟩]), rfl, rfl, hS'⟩)
    (refine fx_val (fun _ => rfl) rfl (fun χ w hw => run_as _ rfl) ?_)
    refine fx_end rfl ?_
    intro χ w hok hS
    obtain ⟨h1, _⟩ := hok _ (.head _)
    have hS : St w0 bs w (((χ 8).2 ++ []) ++ (⟨b, hpC (some ⟨bt, 0, none⟩) L.length (padH L), 104, true⟩ :: (Et ++ (⟨bi, #[.int .i64 i], 3, true⟩ :: (Z ++ Y))))) := hS
    rw [h1] at hS
    simp only [List.cons_append, List.nil_append, List.append_nil] at hS
    clear hok h1
    go_wp2_with ((go_skip))
    refine bodyPost_ret (res_tmp1 rfl) rfl ?_
    refine ⟨_, rfl, rfl, ?_⟩
    simp only [List.cons_append, List.append_assoc]
    exact hS.pick
  simp only [List.cons_append] at hS
  clear hcell
  go_enter Tryz.func65, Tryz.ntmps65
  go_wp2_with (first | (refine wpList_is (.box 25 _) rfl ?_; go_must (refine wpList_stp (by kernel_rfl) (stp_bx _ _ rfl hS ?_)); clear hS; intro bo w _ hS) | (refine wpList_is (.box 3 _) rfl ?_; go_must (refine wpList_stp (by kernel_rfl) (stp_bx _ _ rfl hS ?_)); clear hS; intro bi w _ hS) | (refine wpList_is (o := ⟨some 6, _, _, _, _, _⟩) (.alloc _) rfl ?_; go_must (refine wpList_stp rfl (stp_al _ rfl hS ?_)); clear hS; intro b6 w _ hS) | (refine wpList_is (.alloc 25) rfl ?_; go_must (refine wpList_stp (by kernel_rfl) (stp_al _ rfl hS ?_)); clear hS; intro bu w _ hS) | (go_at_call 84; go_must (refine wh_do (H1 := ⟨bu, #[.int .i64 0, .int .u32 0], 25, true⟩ :: ⟨bi, #[.int .i64 i], 3, true⟩ :: ⟨b6, #[.int .i64 0, .int .u32 0], 25, true⟩ :: ⟨bo, #[.int .i64 j, .int .u32 g], 25, true⟩ :: H1) (show St w0 bs w ((⟨b, hpC (some ⟨bt, 0, none⟩) L.length (padH L), 104, true⟩ :: Et) ++ (⟨bu, #[.int .i64 0, .int .u32 0], 25, true⟩ :: ⟨bi, #[.int .i64 i], 3, true⟩ :: ⟨b6, #[.int .i64 0, .int .u32 0], 25, true⟩ :: ⟨bo, #[.int .i64 j, .int .u32 g], 25, true⟩ :: H1)) from by simp only [List.cons_append]; exact hS.pick) hW hTt hj hck 106 [.pointer (some ⟨bi, 0, none⟩), .pointer (some ⟨bu, 0, none⟩)] e _ (enters _ (by kernel_rfl)) (fun Y w' hS => hdo bi bu _ Y w' hS) ?_); clear hS; rintro x w rfl hS; unfold Ret) | (refine wpList_is (.load _ _) rfl ?_; go_must ((refine wpList_stp (by kernel_rfl) (stp_val (run_lda _ _ rfl hS) ?_)))) | (refine wpList_is (.store _ _ _) rfl ?_; go_must ((refine wpList_stp (by kernel_rfl) (stp_sta _ _ _ rfl hS ?_))); clear hS; intro w hS))
  refine bodyPost_ret (res_ct rfl hS) rfl ?_
  exact hR _ hT (by simp only [List.cons_append]; exact hS.pick)
end Go.Proofs.YtjlihigodggfcaaGreat
