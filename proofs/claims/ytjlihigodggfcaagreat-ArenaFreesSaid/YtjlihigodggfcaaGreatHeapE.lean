/-
  Heaps: making objects.
-/
import Derived.Test.YtjlihigodggfcaaGreatHeapD
set_option linter.unusedSimpArgs false
set_option linter.unusedVariables false
namespace Go.Proofs.YtjlihigodggfcaaGreat
open Go.RowKit Go.Mm
variable {R : Ending → World → Prop} {w : World} {w0 : World} {bs : List Nat} {H H' H1 E : List Ent}

def mkI (L : List Hs) (n : Int) (h : Bool) : Option Nat := if nwB n h then tkI (some (tbH L)) else none
def mkN (L : List Hs) (i : Nat) (o : Ob) : List Hs := L.set i (1, (L.getD i zHs).2.1, o)
def mkT (T : Hp) (n : Int) (h : Bool) : Hp :=
  match T with
  | some (some L) => match mkI L n h with
    | some i => some (some (mkN L i (nwO n h)))
    | none => some (some L)
  | T => T
def mkE (T : Hp) (n : Int) (h : Bool) : Int :=
  match T with
  | some (some L) => if nwB n h then (if (mkI L n h).isSome then 0 else 4) else 2
  | _ => 1
def mkR (T : Hp) (n : Int) (h : Bool) : Int × Int :=
  match T with
  | some (some L) => match mkI L n h with
    | some i => ((i : Int), (L.getD i zHs).2.1)
    | none => (0, 0)
  | _ => (0, 0)
theorem mkN_w {L : List Hs} (hW : HpW L) {i : Nat} {o : Ob} (hi : i < L.length) (ho : ObW o) : HpW (mkN L i o) := by
  have hg := hW.tb.gn _ (getD_mem (L := tbH L) (i := i) (by rw [tbH_len]; exact hi))
  rw [tbH_get] at hg
  exact hW.set (.inr (.inl rfl)) hg ho

set_option maxHeartbeats 2000000 in
set_option maxRecDepth 100000 in
theorem hp_make {p : Option Addr} {T : Hp} (hO : St w0 bs w H) (hT : HA p T E) [hc : Cut H E H1] (n : Int) (h : Bool) (T' : Hp) (r : Int × Int) (e : Int) (hT' : mkT T n h = T') (hr : mkR T n h = r) (he : mkE T n h = e)
    (hR : ∀ E' w', HA p T' E' → St w0 bs w' (E' ++ H1) → Ret R (.tuple #[.agg #[.int .i64 r.1, .int .u32 r.2], .int .i64 e]) w') : Calls Tryz.prog 61 #[.pointer p, .int .i64 n, .bool h] w R := by
  have hS := hO.front (E := E) (H1 := H1)
  clear hO
  subst hT' he hr
  rcases T with _ | _ | L
  · simp only [mkT, mkE, mkR] at hR
    go_enter Tryz.func61, Tryz.ntmps61
    go_wp2_with (first | (refine wpList_is (.alloc 25) rfl ?_; go_must (refine wpList_stp (by kernel_rfl) (stp_al _ rfl hS ?_)); clear hS; intro br w _ hS) | (go_at_call 93; refine hp_valid hS hT false rfl ?_; clear hS; intro w hS; unfold Ret) | (refine wpList_is (.build _ _) rfl ?_; go_must (refine wpList_stp (by kernel_rfl) (stp_val (run_bd _ _ rfl) ?_))) | (refine wpList_is (.store _ _ _) rfl ?_; go_must ((refine wpList_stp (by kernel_rfl) (stp_sta _ _ _ rfl hS ?_))); clear hS; intro w hS))
    refine bodyPost_ret (res_ct rfl hS) rfl ?_
    exact hR _ _ hT hS.pick
  · simp only [mkT, mkE, mkR] at hR
    go_enter Tryz.func61, Tryz.ntmps61
    go_wp2_with (first | (refine wpList_is (.alloc 25) rfl ?_; go_must (refine wpList_stp (by kernel_rfl) (stp_al _ rfl hS ?_)); clear hS; intro br w _ hS) | (go_at_call 93; refine hp_valid hS hT false rfl ?_; clear hS; intro w hS; unfold Ret) | (refine wpList_is (.build _ _) rfl ?_; go_must (refine wpList_stp (by kernel_rfl) (stp_val (run_bd _ _ rfl) ?_))) | (refine wpList_is (.store _ _ _) rfl ?_; go_must ((refine wpList_stp (by kernel_rfl) (stp_sta _ _ _ rfl hS ?_))); clear hS; intro w hS))
    refine bodyPost_ret (res_ct rfl hS) rfl ?_
    exact hR _ _ hT hS.pick
  obtain ⟨hW, b, bt, Et, rfl, hTt, rfl⟩ := id hT
  cases hb : nwB n h with
  | false =>
    have e1 : nwO n h = zOb := by unfold nwO; rw [hb]; rfl
    have e2 : nwOE n h = 2 := by unfold nwOE; rw [hb]; rfl
    simp only [mkT, mkE, mkR, mkI, hb, Bool.false_eq_true, if_false] at hR
    have e1' := Lib.hid e1
    have e2' := Lib.hid e2
    clear e1 e2 hW hb
    go_enter Tryz.func61, Tryz.ntmps61
    go_wp2_with (first | (refine wpList_is (.alloc 25) rfl ?_; go_must (refine wpList_stp (by kernel_rfl) (stp_al _ rfl hS ?_)); clear hS; intro br w _ hS) | (go_at_call 93; refine hp_valid hS hT true rfl ?_; clear hS; intro w hS; (try simp only [List.cons_append, List.nil_append] at hS); unfold Ret) | (go_at_call 59; refine ob_new hS n h _ 2 e1'.out e2'.out ?_; clear hS; intro w hS; have hz : obC zOb = objC 0 zero4 false := rfl; rw [hz]; unfold Ret) | (refine wpList_is (.build _ _) rfl ?_; go_must (refine wpList_stp (by kernel_rfl) (stp_val (run_bd _ _ rfl) ?_))) | (refine wpList_is (.store _ _ _) rfl ?_; go_must ((refine wpList_stp (by kernel_rfl) (stp_sta _ _ _ rfl hS ?_))); clear hS; intro w hS) | (refine wpList_is (.alloc _) rfl ?_; go_must (refine wpList_stp (by kernel_rfl) (stp_al _ rfl hS ?_)); clear hS; intro bN w hbN hS))
    refine bodyPost_ret (res_ct rfl hS) rfl ?_
    exact hR _ _ hT hS.pick
  | true =>
    have e1 : nwO n h = (n, zero4, h) := by unfold nwO; rw [hb]; rfl
    have e2 : nwOE n h = 0 := by unfold nwOE; rw [hb]; rfl
    have hoW := nwB_w hb
    simp only [mkT, mkE, mkR, mkI, hb, if_true, e1] at hR
    have e1' := Lib.hid e1
    have e2' := Lib.hid e2
    clear e1 e2 hb
    cases htk : tkI (some (tbH L)) with
    | none =>
      obtain ⟨g1, g2, g3, g4⟩ := tk_none (L := tbH L) (by rw [tbH_len]; exact hW.lo) htk
      rw [htk] at hR
      simp only [Option.isSome_none, Bool.false_eq_true, if_false] at hR
      have g4' : tkT (some (tbH L)) = some (tbH L) := by simp only [tkT, g4]
      have hW' := Lib.hid hW
      have g1' := Lib.hid g1
      have g2' := Lib.hid g2
      have g3' := Lib.hid g3
      have g5' := Lib.hid g4'
      clear htk g1 g2 g3 g4 g4' hW
      go_enter Tryz.func61, Tryz.ntmps61
      go_wp2_with (first | (refine wpList_is (.alloc 25) rfl ?_; go_must (refine wpList_stp (by kernel_rfl) (stp_al _ rfl hS ?_)); clear hS; intro br w _ hS) | (go_at_call 93; refine hp_valid hS hT true rfl ?_; clear hS; intro w hS; (try simp only [List.cons_append, List.nil_append] at hS); unfold Ret) | (go_at_call 59; refine ob_new hS n h _ 0 e1'.out e2'.out ?_; clear hS; intro w hS; have hz : obC (n, zero4, h) = objC n zero4 h := rfl; rw [hz]; unfold Ret) | (go_at_call 101; refine sl_take hS hTt ?_; rw [g1'.out, g2'.out, g3'.out, g5'.out]; clear hS; intro E2 w hT2 hS; (try simp only [List.cons_append, List.nil_append] at hS); unfold Ret) | (refine wpList_is (.build _ _) rfl ?_; go_must (refine wpList_stp (by kernel_rfl) (stp_val (run_bd _ _ rfl) ?_))) | (refine wpList_is (.load _ _) rfl ?_; go_must ((refine wpList_stp (by kernel_rfl) (stp_val (run_ld _ _ rfl hS) ?_)))) | (refine wpList_is (.store _ _ _) rfl ?_; go_must ((refine wpList_stp (by kernel_rfl) (stp_sta _ _ _ rfl hS ?_))); clear hS; intro w hS) | (refine wpList_is (.alloc _) rfl ?_; go_must (refine wpList_stp (by kernel_rfl) (stp_al _ rfl hS ?_)); clear hS; intro bN w hbN hS))
      refine bodyPost_ret (res_ct rfl hS) rfl ?_
      exact hR (⟨b, hpC (some ⟨bt, 0, none⟩) L.length (padH L), 104, true⟩ :: E2) _ ⟨hW'.out, b, bt, E2, rfl, hT2, rfl⟩ hS.pick
    | some i =>
      obtain ⟨g1, g2, g3, g4, hi, _⟩ := tk_some htk
      rw [htk] at hR
      simp only [Option.isSome_some, if_true] at hR
      rw [tbH_len] at hi
      obtain ⟨g, hg⟩ : ∃ g, (L.getD i zHs).2.1 = g := ⟨_, rfl⟩
      have g3g : tkG (some (tbH L)) = g := by rw [g3, tbH_get]; exact hg
      have g4' : tkT (some (tbH L)) = some (tbH (mkN L i (n, zero4, h))) := by
        simp only [tkT, g4]
        unfold mkN
        rw [tbH_set, tbH_get]
      have hWN := mkN_w hW hi hoW
      have hpad : (padH L).set i (n, zero4, h) = padH (mkN L i (n, zero4, h)) := padH_set hi (x := (1, (L.getD i zHs).2.1, (n, zero4, h)))
      have hset := hpObSet (t := some ⟨bt, 0, none⟩) (z := L.length) (O := padH L) (i := i) (by rw [padH_len hW.hi]; have := hW.hi; omega) hoW
      rw [hpad] at hset
      have hset : SetsAt (hpC (some ⟨bt, 0, none⟩) L.length (padH L)) (2 + i * 10) (objC n zero4 h) (hpC (some ⟨bt, 0, none⟩) L.length (padH (mkN L i (n, zero4, h)))) := hset
      have hix := obIdx (b := b) (i := i) (by have := hW.hi; omega)
      have hlN : (mkN L i (n, zero4, h)).length = L.length := by unfold mkN; rw [List.length_set]
      rw [hg] at hR
      have hWN' := Lib.hid hWN
      have hlN' := Lib.hid hlN
      have g1' := Lib.hid g1
      have g2' := Lib.hid g2
      have g3' := Lib.hid g3g
      have g5' := Lib.hid g4'
      clear htk g1 g2 g3 g3g g4 g4' hW hg hpad hWN hlN
      go_enter Tryz.func61, Tryz.ntmps61
      go_wp2_with (first | (refine wpList_is (o := ⟨some 6, _, _, _, _, _⟩) (.alloc _) rfl ?_; go_must (refine wpList_stp rfl (stp_al _ rfl hS ?_)); clear hS; intro b6 w _ hS) | (refine wpList_is (.alloc 39) rfl ?_; go_must (refine wpList_stp (by kernel_rfl) (stp_al _ rfl hS ?_)); clear hS; intro b8 w _ hS) | (refine wpList_is (o := ⟨some 10, _, _, _, _, _⟩) (.alloc _) rfl ?_; go_must (refine wpList_stp rfl (stp_al _ rfl hS ?_)); clear hS; intro b10 w _ hS) | (go_at_call 93; refine hp_valid hS hT true rfl ?_; clear hS; intro w hS; (try simp only [List.cons_append, List.nil_append] at hS); unfold Ret) | (go_at_call 59; refine ob_new hS n h _ 0 e1'.out e2'.out ?_; clear hS; intro w hS; have hz : obC (n, zero4, h) = objC n zero4 h := rfl; rw [hz]; unfold Ret) | (go_at_call 101; refine sl_take hS hTt ?_; rw [g1'.out, g2'.out, g3'.out, g5'.out]; clear hS; intro E2 w hT2 hS; (try simp only [List.cons_append, List.nil_append] at hS); unfold Ret) | (refine wpList_is (.load _ _) rfl ?_; go_must ((refine wpList_stp (by kernel_rfl) (stp_val (run_ld _ _ rfl hS) ?_)))) | (refine wpList_is (.store _ _ _) rfl ?_; go_must ((refine wpList_stp (by kernel_rfl) (stp_sta _ _ _ rfl hS ?_))); clear hS; intro w hS))
      refine region_itemsE [⟨(undef, [⟨b, hpC (some ⟨bt, 0, none⟩) L.length (padH L), 104, true⟩]), [(7, fun _ y => y.2 = [⟨b, hpC (some ⟨bt, 0, none⟩) L.length (padH (mkN L i (n, zero4, h))), 104, true⟩])]⟩] (⟨b10, #[.int .i64 i, .int .u32 g], 25, true⟩ :: ⟨b8, objC n zero4 h, 39, true⟩ :: ⟨b6, #[.int .i64 0, .int .u32 0], 25, true⟩ :: (E2 ++ H1)) (⟨b, hpC (some ⟨bt, 0, none⟩) L.length (padH L), 104, true⟩ :: ⟨b10, #[.int .i64 i, .int .u32 g], 25, true⟩ :: ⟨b8, objC n zero4 h, 39, true⟩ :: ⟨b6, #[.int .i64 0, .int .u32 0], 25, true⟩ :: (E2 ++ H1)) (by simp) hS.pick (by kernel_rfl) (by kernel_rfl) ?_
      (refine fx_val (fun _ => rfl) rfl (fun χ w hw => run_mv _ rfl) ?_)
      (refine fx_val (fun _ => rfl) rfl (fun χ w hw => run_fa _ _ _ rfl) ?_)
      (refine fx_val (fun _ => rfl) rfl (fun χ w hw => run_ld _ _ rfl hw) ?_)
      (refine fx_val (fun _ => rfl) rfl (fun χ w hw => run_lda _ _ rfl hw) ?_)
      (refine fx_val (fun _ => rfl) rfl (fun χ w hw => run_nc _ rfl) ?_)
      (refine fx_val (fun _ => rfl) rfl (fun χ w hw => run_fa _ _ _ rfl) ?_)
      (refine fx_val (fun _ => rfl) rfl (fun χ w hw => run_idxv _ _ _ rfl) ?_)
      refine fx_turn0 0 0 rfl rfl (by (rfl)) (by (rfl)) (by (rfl)) (fun _ => rfl) (fun _ => undef) ?_ ?_
      · intro χ X w _ hS
        exact stepX_sta _ _ _ rfl (show St w0 bs w (⟨b, hpC (some ⟨bt, 0, none⟩) L.length (padH L), 104, true⟩ :: (X ++ _)) from hS) (fun w' hS' => ⟨(undef, [⟨b, hpC (some ⟨bt, 0, none⟩) L.length (padH (mkN L i (n, zero4, h))), 104, true⟩]), rfl, rfl, hS'⟩)
      refine fx_end rfl ?_
      intro χ w hok hS
      obtain ⟨h1, _⟩ := hok _ (.head _)
      have hS : St w0 bs w (((χ 7).2 ++ []) ++ (⟨b10, #[.int .i64 i, .int .u32 g], 25, true⟩ :: ⟨b8, objC n zero4 h, 39, true⟩ :: ⟨b6, #[.int .i64 0, .int .u32 0], 25, true⟩ :: (E2 ++ H1))) := hS
      rw [h1] at hS
      simp only [List.cons_append, List.nil_append, List.append_nil] at hS
      clear hok h1
      go_wp2_with (first | (refine wpList_is (.load _ _) rfl ?_; go_must ((refine wpList_stp (by kernel_rfl) (stp_val (run_lda _ _ rfl hS) ?_)))) | (refine wpList_is (.store _ _ _) rfl ?_; go_must ((refine wpList_stp (by kernel_rfl) (stp_sta _ _ _ rfl hS ?_))); clear hS; intro w hS))
      refine bodyPost_ret (res_ct rfl hS) rfl ?_
      exact hR (⟨b, hpC (some ⟨bt, 0, none⟩) L.length (padH (mkN L i (n, zero4, h))), 104, true⟩ :: E2) _ ⟨hWN'.out, b, bt, E2, rfl, hT2, by rw [hlN'.out]⟩ hS.pick
end Go.Proofs.YtjlihigodggfcaaGreat
