/-
  Heaps: freeing; all objects; how many; copies.
-/
import Derived.Test.YtjlihigodggfcaaGreatHeapC
set_option linter.unusedSimpArgs false
set_option linter.unusedVariables false
namespace Go.Proofs.YtjlihigodggfcaaGreat
open Go.RowKit Go.Mm
variable {R : Ending → World → Prop} {w : World} {w0 : World} {bs : List Nat} {H H' H1 E : List Ent}

def frN (L : List Hs) (i : Nat) (g : Int) : List Hs := L.set i (if g < 4294967295 then (0, g + 1, zOb) else (2, g, zOb))
def frT (T : Hp) (s g : Int) : Hp := if wiH T s g = 0 then some (some (frN (hpL T) s.toNat g)) else T
def alH (T : Hp) : List (Int × Int) := tkL (some (tbH (hpL T)))
def lfH (T : Hp) : Int := ctN 0 (some (tbH (hpL T)))
theorem HpW.set {L : List Hs} (hW : HpW L) {i : Nat} {x : Hs} (h1 : x.1 = 0 ∨ x.1 = 1 ∨ x.1 = 2) (h2 : 1 ≤ x.2.1 ∧ x.2.1 ≤ 4294967295) (h3 : ObW x.2.2) : HpW (L.set i x) :=
  ⟨by rw [List.length_set]; exact hW.lo, by rw [List.length_set]; exact hW.hi, by rw [tbH_set]; exact hW.tb.set i h1 h2, fun y hy => by
    rcases List.mem_or_eq_of_mem_set hy with h | h
    · exact hW.ob y h
    · rw [h]; exact h3⟩
theorem frN_w {L : List Hs} (hW : HpW L) {i : Nat} {g : Int} (hi : i < L.length) (hck : ckE (some (tbH L)) i g = 0) : HpW (frN L i g) ∧ tbH (frN L i g) = gvN (tbH L) i g ∧ padH (frN L i g) = (padH L).set i zOb ∧ (frN L i g).length = L.length := by
  have hx : (tbH L).getD i (0, 0) = (1, g) := by
    obtain ⟨j, hj, _, h⟩ := ck_zero hck
    rw [show i = j by omega]; exact h
  have hg := hW.tb.gn _ (getD_mem (L := tbH L) (i := i) (by rw [tbH_len]; exact hi))
  rw [hx] at hg
  simp only at hg
  refine ⟨?_, ?_, ?_, by unfold frN; rw [List.length_set]⟩
  · unfold frN
    split
    · exact hW.set (.inl rfl) (by simp only; omega) zOb_w
    · exact hW.set (.inr (.inr rfl)) hg zOb_w
  · unfold frN gvN
    rw [if_pos hck, Int.toNat_natCast, tbH_set]
    split <;> rfl
  · unfold frN
    rw [← padH_set hi]
    split <;> rfl

set_option maxHeartbeats 1000000 in
set_option maxRecDepth 100000 in
theorem hp_free {p : Option Addr} {T : Hp} (hO : St w0 bs w H) (hT : HA p T E) [hc : Cut H E H1] (s g : Int) (T' : Hp) (e : Int) (hT' : frT T s g = T') (he : wiH T s g = e)
    (hR : ∀ E' w', HA p T' E' → St w0 bs w' (E' ++ H1) → Ret R (.int .i64 e) w') : Calls Tryz.prog 38 #[.pointer p, .agg #[.int .i64 s, .int .u32 g]] w R := by
  have hS := hO.front (E := E) (H1 := H1)
  clear hO
  by_cases h0 : e = 0
  case neg =>
    have hE2 : frT T s g = T := by unfold frT; rw [he, if_neg h0]
    rw [hE2] at hT'
    subst hT'
    have he' := Lib.hid he
    clear he hE2
    go_enter Tryz.func38, Tryz.ntmps38
    go_wp2_with (first | (refine wpList_is (.box 25 _) rfl ?_; go_must (refine wpList_stp (by kernel_rfl) (stp_bx _ _ rfl hS ?_)); clear hS; intro bo w _ hS) | (refine wpList_is (.box 58 _) rfl ?_; go_must (refine wpList_stp (by kernel_rfl) (stp_bx _ _ rfl hS ?_)); clear hS; intro bd w _ hS) | (go_at_call 84; refine wh_err hS hT s g _ e he'.out h0 ?_; clear hS; intro w _ hS; unfold Ret) | (refine wpList_is (.load _ _) rfl ?_; go_must (first | refine wpList_stp (by kernel_rfl) (stp_val (run_ld _ _ rfl hS) ?_) | refine wpList_stp (by kernel_rfl) (stp_val (run_lda _ _ rfl hS) ?_))))
    exact hR _ _ hT hS.pick
  case pos =>
  subst h0
  obtain ⟨L, j, rfl, rfl, hj, hck, _, _, _⟩ := wi_zero he
  obtain ⟨hW, b, bt, Et, rfl, hTt, rfl⟩ := id hT
  obtain ⟨hW2, hb2, hp2, hl2⟩ := frN_w hW hj hck
  have hT2 : T' = some (some (frN L j g)) := by rw [← hT']; unfold frT; rw [if_pos he, Int.toNat_natCast]; rfl
  have hgv : gvT (some (tbH L)) j g = some (tbH (frN L j g)) := by rw [hb2]; rfl
  have hset := hpObSet (t := some ⟨bt, 0, none⟩) (z := L.length) (O := padH L) (i := j) (by rw [padH_len hW.hi]; have := hW.hi; omega) zOb_w
  rw [← hp2] at hset
  have hset : SetsAt (hpC (some ⟨bt, 0, none⟩) L.length (padH L)) (2 + j * 10) (objC 0 zero4 false) (hpC (some ⟨bt, 0, none⟩) L.length (padH (frN L j g))) := hset
  subst hT2
  have hgv' := Lib.hid hgv
  have hck' := Lib.hid hck
  have hW2' := Lib.hid hW2
  have hl2' := Lib.hid hl2
  have hdo : ∀ (bo bd : Nat) (Y : List Ent) w', St w0 bs w' ((⟨b, hpC (some ⟨bt, 0, none⟩) L.length (padH L), 104, true⟩ :: (Et ++ (⟨bo, #[.int .i64 j, .int .u32 g], 25, true⟩ :: ⟨bd, #[.pointer (some ⟨b, 0, none⟩)], 58, true⟩ :: H1))) ++ Y) →
      Calls Tryz.prog 87 #[.pointer (some ⟨b, 2 + j * 10, none⟩), .pointer (some ⟨bd, 0, none⟩), .pointer (some ⟨bo, 0, none⟩)] w' (fun e' w'' => ∃ x, e' = .returned (.int .i64 0) ∧ (∃ E', HA (some ⟨b, 0, none⟩) (some (some (frN L j g))) E' ∧ x = E' ++ (⟨bo, #[.int .i64 j, .int .u32 g], 25, true⟩ :: ⟨bd, #[.pointer (some ⟨b, 0, none⟩)], 58, true⟩ :: H1)) ∧ St w0 bs w'' (x ++ Y)) := by
    intro bo bd Y w hS
    simp only [List.cons_append, List.append_assoc] at hS
    clear hT' he hgv hck hW2 hp2 hb2 hl2
    go_enter Tryz.func87, Tryz.ntmps87
    go_wp2_with (first | (refine wpList_is (.build _ _) rfl ?_; go_must (refine wpList_stp (by kernel_rfl) (stp_val (run_bd _ _ rfl) ?_))) | (refine wpList_is (.store _ _ _) rfl ?_; go_must ((refine wpList_stp (by kernel_rfl) (stp_sta _ _ _ rfl hS ?_))); clear hS; intro w hS))
    have hS : St w0 bs w (Et ++ (⟨b, hpC (some ⟨bt, 0, none⟩) L.length (padH (frN L j g)), 104, true⟩ :: ⟨bo, #[.int .i64 j, .int .u32 g], 25, true⟩ :: ⟨bd, #[.pointer (some ⟨b, 0, none⟩)], 58, true⟩ :: (H1 ++ Y))) := hS.pick
    refine region_itemsE [⟨(undef, Et), [(5, fun _ x => TA (some ⟨bt, 0, none⟩) (some (tbH (frN L j g))) x.2)]⟩] (⟨b, hpC (some ⟨bt, 0, none⟩) L.length (padH (frN L j g)), 104, true⟩ :: ⟨bo, #[.int .i64 j, .int .u32 g], 25, true⟩ :: ⟨bd, #[.pointer (some ⟨b, 0, none⟩)], 58, true⟩ :: (H1 ++ Y)) (Et ++ (⟨b, hpC (some ⟨bt, 0, none⟩) L.length (padH (frN L j g)), 104, true⟩ :: ⟨bo, #[.int .i64 j, .int .u32 g], 25, true⟩ :: ⟨bd, #[.pointer (some ⟨b, 0, none⟩)], 58, true⟩ :: (H1 ++ Y))) (by simp) hS (by kernel_rfl) (by kernel_rfl) ?_
    (refine fx_val (fun _ => rfl) rfl (fun χ w hw => run_ld _ _ rfl hw) ?_)
    (refine fx_val (fun _ => rfl) rfl (fun χ w hw => run_nc _ rfl) ?_)
    (refine fx_val (fun _ => rfl) rfl (fun χ w hw => run_fa _ _ _ rfl) ?_)
    (refine fx_val (fun _ => rfl) rfl (fun χ w hw => run_ld _ _ rfl hw) ?_)
    (refine fx_val (fun _ => rfl) rfl (fun χ w hw => run_lda _ _ rfl hw) ?_)
    refine fx_turn 0 0 rfl rfl (by (rfl)) (by (rfl)) (by (rfl)) 88 [_, _] _ rfl (fun _ => rfl) (enters _ (by kernel_rfl)) (fun _ => .int .i64 0) ?_ ?_
    · intro χ X w _ hS
      exact sl_give (show St w0 bs w (Et ++ (X ++ _)) from hS) hTt j g (fun E' w' hT2 hS' => ⟨(undef, E'), by rw [hck'.out], by rw [← hgv'.out]; exact hT2, show St w0 bs w' (E' ++ (X ++ _)) from hS'.pick⟩)
    (refine fx_val (fun _ => rfl) rfl (fun χ w hw => run_as _ rfl) ?_)
    refine fx_end rfl ?_
    intro χ w hok hS
    obtain ⟨hT2, _⟩ := hok _ (.head _)
    have hS : St w0 bs w (((χ 5).2 ++ []) ++ (⟨b, hpC (some ⟨bt, 0, none⟩) L.length (padH (frN L j g)), 104, true⟩ :: ⟨bo, #[.int .i64 j, .int .u32 g], 25, true⟩ :: ⟨bd, #[.pointer (some ⟨b, 0, none⟩)], 58, true⟩ :: (H1 ++ Y))) := hS
    rw [List.append_nil] at hS
    generalize (χ 5).2 = E2 at hS hT2
    clear hok
    go_wp2_with ((go_skip))
    refine bodyPost_ret (res_tmp1 rfl) rfl ?_
    refine ⟨_, rfl, ⟨⟨b, hpC (some ⟨bt, 0, none⟩) L.length (padH (frN L j g)), 104, true⟩ :: E2, ⟨hW2'.out, b, bt, E2, rfl, hT2, by rw [hl2'.out]⟩, rfl⟩, ?_⟩
    simp only [List.cons_append, List.append_assoc]
    exact hS.pick
  clear hT' he hgv hW2 hb2 hp2 hset hl2
  simp only [List.cons_append] at hS
  go_enter Tryz.func38, Tryz.ntmps38
  go_wp2_with (first | (refine wpList_is (.box 25 _) rfl ?_; go_must (refine wpList_stp (by kernel_rfl) (stp_bx _ _ rfl hS ?_)); clear hS; intro bo w _ hS) | (refine wpList_is (.box 58 _) rfl ?_; go_must (refine wpList_stp (by kernel_rfl) (stp_bx _ _ rfl hS ?_)); clear hS; intro bd w _ hS) | (go_at_call 84; go_must (refine wh_do (H1 := ⟨bo, #[.int .i64 j, .int .u32 g], 25, true⟩ :: ⟨bd, #[.pointer (some ⟨b, 0, none⟩)], 58, true⟩ :: H1) (show St w0 bs w ((⟨b, hpC (some ⟨bt, 0, none⟩) L.length (padH L), 104, true⟩ :: Et) ++ (⟨bo, #[.int .i64 j, .int .u32 g], 25, true⟩ :: ⟨bd, #[.pointer (some ⟨b, 0, none⟩)], 58, true⟩ :: H1)) from by simp only [List.cons_append]; exact hS.pick) hW hTt hj hck 87 [.pointer (some ⟨bd, 0, none⟩), .pointer (some ⟨bo, 0, none⟩)] 0 _ (enters _ (by kernel_rfl)) (fun Y w' hS => hdo bo bd Y w' hS) ?_); clear hS; rintro x w ⟨E2, hT2, rfl⟩ hS; unfold Ret) | (refine wpList_is (.load _ _) rfl ?_; go_must (first | refine wpList_stp (by kernel_rfl) (stp_val (run_ld _ _ rfl hS) ?_) | refine wpList_stp (by kernel_rfl) (stp_val (run_lda _ _ rfl hS) ?_))))
  exact hR _ _ hT2 hS.pick

set_option maxHeartbeats 1000000 in
set_option maxRecDepth 100000 in
theorem hp_all {p : Option Addr} {T : Hp} (hO : St w0 bs w H) (hT : HA p T E) [hc : Cut H E H1] (l : List (Int × Int)) (hl : alH T = l)
    (hR : ∀ v E' w', RS v l E' → St w0 bs w' (E' ++ (E ++ H1)) → Ret R v w') : Calls Tryz.prog 50 #[.pointer p] w R := by
  have hS := hO.front (E := E) (H1 := H1)
  clear hO hc
  subst hl
  rcases T with _ | _ | L
  · go_enter Tryz.func50, Tryz.ntmps50
    go_wp2_with ((go_at_call 93; refine hp_valid hS hT false rfl ?_; clear hS; intro w hS; unfold Ret))
    exact hR _ _ _ RS.nil hS.pick
  · go_enter Tryz.func50, Tryz.ntmps50
    go_wp2_with ((go_at_call 93; refine hp_valid hS hT false rfl ?_; clear hS; intro w hS; unfold Ret))
    exact hR _ _ _ RS.nil hS.pick
  obtain ⟨hW, b, bt, Et, rfl, hTt, rfl⟩ := id hT
  clear hW
  go_enter Tryz.func50, Tryz.ntmps50
  go_wp2_with (first | (go_at_call 93; refine hp_valid hS hT true rfl ?_; clear hS; intro w hS; (try simp only [List.cons_append, List.nil_append] at hS); unfold Ret) | (go_at_call 94; refine sl_taken hS hTt ?_; clear hS; intro v2 E3 w hL _ hS; have hone2 := hL.one; unfold Ret) | (refine wpList_is (.load _ _) rfl ?_; go_must ((refine wpList_stp (by kernel_rfl) (stp_val (run_ld _ _ rfl hS) ?_)))))
  exact hR _ _ _ hL (by simp only [List.cons_append]; exact hS.pick)
theorem hp_left {p : Option Addr} {T : Hp} (hO : St w0 bs w H) (hT : HA p T E) [hc : Cut H E H1] (m : Int) (hm : lfH T = m)
    (hR : ∀ w', HA p T E → St w0 bs w' (E ++ H1) → Ret R (.int .i64 m) w') : Calls Tryz.prog 51 #[.pointer p] w R := by
  have hS := hO.front (E := E) (H1 := H1)
  clear hO hc
  rcases T with _ | _ | L
  · obtain rfl : 0 = m := hm
    go_enter Tryz.func51, Tryz.ntmps51
    go_wp2_with ((go_at_call 93; refine hp_valid hS hT false rfl ?_; clear hS; intro w hS; unfold Ret))
    exact hR _ hT hS.pick
  · obtain rfl : 0 = m := hm
    go_enter Tryz.func51, Tryz.ntmps51
    go_wp2_with ((go_at_call 93; refine hp_valid hS hT false rfl ?_; clear hS; intro w hS; unfold Ret))
    exact hR _ hT hS.pick
  obtain ⟨hW, b, bt, Et, rfl, hTt, rfl⟩ := id hT
  have hm2 : ctN 0 (some (tbH L)) = m := hm
  have hm' := Lib.hid hm2
  clear hW hm hm2
  go_enter Tryz.func51, Tryz.ntmps51
  go_wp2_with (first | (go_at_call 93; refine hp_valid hS hT true rfl ?_; clear hS; intro w hS; (try simp only [List.cons_append, List.nil_append] at hS); unfold Ret) | (go_at_call 95; refine sl_free hS hTt ?_; clear hS; intro w _ hS; rw [hm'.out]; unfold Ret) | (refine wpList_is (.load _ _) rfl ?_; go_must ((refine wpList_stp (by kernel_rfl) (stp_val (run_ld _ _ rfl hS) ?_)))))
  exact hR _ hT (by simp only [List.cons_append]; exact hS.pick)

set_option maxHeartbeats 1000000 in
set_option maxRecDepth 100000 in
theorem hp_copy {p : Option Addr} {T : Hp} (hO : St w0 bs w H) (hT : HA p T E) [hc : Cut H E H1] (T' : Hp) (hT' : cpH T = T')
    (hR : ∀ p' E' w', HA p' T' E' → HA p T E → St w0 bs w' (E' ++ (E ++ H1)) → Ret R (.pointer p') w') : Calls Tryz.prog 53 #[.pointer p] w R := by
  have hS := hO.front (E := E) (H1 := H1)
  clear hO
  subst hT'
  rcases T with _ | _ | L
  · go_enter Tryz.func53, Tryz.ntmps53
    go_wp2_with ((go_at_call 93; refine hp_valid hS hT false rfl ?_; clear hS; intro w hS; unfold Ret))
    exact hR _ _ _ HA.none hT hS.pick
  · go_enter Tryz.func53, Tryz.ntmps53
    go_wp2_with ((go_at_call 93; refine hp_valid hS hT false rfl ?_; clear hS; intro w hS; unfold Ret))
    exact hR _ _ _ HA.none hT hS.pick
  obtain ⟨hW, b, bt, Et, rfl, hTt, rfl⟩ := id hT
  have hl := padH_len hW.hi
  have hcp : cpT (some (tbH L)) = some (tbH L) := by
    have := hW.lo
    simp [cpT, tbOk, tbH_len, this]
  have hcp' := Lib.hid hcp
  obtain ⟨O, hO2⟩ : ∃ O, padH L = O := ⟨_, rfl⟩
  rw [hO2] at hl
  have i1 := hpAll (t := some ⟨bt, 0, none⟩) (z := L.length) hl
  have i2 := hpSize (t := some ⟨bt, 0, none⟩) (z := L.length) hl
  have i3 := hpOver (t := some ⟨bt, 0, none⟩) (z := L.length) (cs := hpC none 0 zero256) (by rw [hpC, blk_size obf_len]; rfl) hl
  have i4 := hpOnes (t := some ⟨bt, 0, none⟩) (z := L.length) (O := O)
  have i5 := fun t' => hpPtr (t := some ⟨bt, 0, none⟩) (z := L.length) (O := O) t'
  have hO2' := Lib.hid hO2
  rw [hO2] at hS
  clear hcp hl
  go_enter Tryz.func53, Tryz.ntmps53
  go_wp2_with (first | (go_at_call 93; refine hp_valid hS (show HA (some ⟨b, 0, none⟩) (some (some L)) (⟨b, hpC (some ⟨bt, 0, none⟩) L.length O, 104, true⟩ :: Et) from ⟨hW, b, bt, Et, rfl, hTt, by rw [hO2]⟩) true rfl ?_; clear hS; intro w hS; simp only [List.cons_append] at hS; unfold Ret) | (refine wpList_is (.alloc 104) rfl ?_; go_must (refine wpList_stp (by kernel_rfl) (stp_al _ rfl hS ?_)); clear hS; intro bc w _ hS) | (go_at_call 96; refine sl_copy hS hTt ?_; clear hS; intro q E2 w h2 _ hS; rw [hcp'.out] at h2; unfold Ret) | (refine wpList_is (.load _ _) rfl ?_; go_must (first | refine wpList_stp (by kernel_rfl) (stp_val (run_ld _ _ rfl hS) ?_) | refine wpList_stp (by kernel_rfl) (stp_val (run_lda _ _ rfl hS) ?_))) | (refine wpList_is (.store _ _ _) rfl ?_; go_must (first | refine wpList_stp (by kernel_rfl) (stp_st _ _ _ rfl hS ?_) | refine wpList_stp (by kernel_rfl) (stp_sta _ _ _ rfl hS ?_)); clear hS; intro w hS))
  obtain ⟨bq, rfl⟩ : ∃ bq, q = some ⟨bq, 0, none⟩ := by obtain ⟨_, bq, h, _⟩ := id h2; exact ⟨bq, h⟩
  refine hR _ (⟨bc, hpC (some ⟨bq, 0, none⟩) L.length O, 104, true⟩ :: E2) _ ⟨hW, bc, bq, E2, rfl, h2, by rw [hO2]⟩ hT ?_
  rw [hO2]
  simp only [List.cons_append]
  exact hS.pick
end Go.Proofs.YtjlihigodggfcaaGreat
