/-
  Arenas: Copy.
-/
import Derived.Test.YtjlihigodggfcaaGreatArnP
set_option linter.unusedSimpArgs false
set_option linter.unusedVariables false
namespace Go.Proofs.YtjlihigodggfcaaGreat
open Go Go.RowKit Go.Mm
variable {R : Ending → World → Prop} {w : World} {w0 : World} {bs : List Nat} {H H' H1 E : List Ent}

section
variable {po pg : Option Addr} {z k : Int} {ps : List (Option Addr)}
theorem arSet0 (y : Option Addr) : SetAt (arC po z k ps pg) 0 (.pointer y) (arC y z k ps pg) := blkPreSet (by simp) rfl
theorem arSetG (h : ps.length = 4) (y : Option Addr) : SetAt (arC po z k ps pg) (0 + 7) (.pointer y) (arC po z k ps y) := by
  have h1 : (ps.flatMap ptf).length = 4 := by rw [flat_len ptf_len, h]
  refine ⟨?_, by simp [arC, blk, h1]⟩
  simp only [arC, blk]
  rw [List.setIfInBounds_toArray]
  congr 1
  simp only [List.cons_append, List.nil_append, Nat.zero_add, List.set_cons_succ]
  rw [List.set_append_right _ _ (by omega)]
  simp [h1]
theorem arAll (h : ps.length = 4) : CellsAt (arC po z k ps pg) 0 8 (arC po z k ps pg) := blkAll ptf_len (by simp [h])
theorem arSize (h : ps.length = 4) : SizeIs (arC po z k ps pg) 8 := blkSize ptf_len (by simp [h])
theorem arOver {cs : Array Value} (hn : cs.size = 8) (h : ps.length = 4) : SetsAt cs 0 (arC po z k ps pg) (arC po z k ps pg) := blkOver ptf_len (by simp [hn, h])
theorem arOnes : OneCells (arC po z k ps pg) := blkOnes (by intro v hv; simp only [List.mem_cons, List.not_mem_nil, or_false] at hv; rcases hv with rfl | rfl | rfl <;> rfl) ptf_one (by intro v hv; simp only [List.mem_cons, List.not_mem_nil, or_false] at hv; rw [hv]; rfl)
end
section
variable {n : Int} {L : List Rf}
theorem rkAll (h : L.length = 32) : CellsAt (rkB n L) 0 66 (rkB n L) := blkAll slf_len (by simp [h])
theorem rkSize (h : L.length = 32) : SizeIs (rkB n L) 66 := blkSize slf_len (by simp [h])
theorem rkOver {cs : Array Value} (hn : cs.size = 66) (h : L.length = 32) : SetsAt cs 0 (rkB n L) (rkB n L) := blkOver slf_len (by simp [hn, h])
theorem rkOnes : OneCells (rkB n L) := blkOnes (by intro v hv; simp only [List.mem_cons, List.not_mem_nil, or_false] at hv; rcases hv with rfl | rfl <;> rfl) slf_one (by intro v hv; cases hv)
end
set_option maxHeartbeats 1000000 in
set_option maxRecDepth 100000 in
theorem rk_copy {sk : Sk} (hO : St w0 bs w H) (hW : SkW sk) [hH : Has H sk.1 (rkB sk.2.1.length (sk.2.1 ++ sk.2.2)) 110] (hR : ∀ nb w', St w0 bs w' (skE (nb, sk.2) :: H) → Ret R (.pointer (some ⟨nb, 0, none⟩)) w') :
    Calls Tryz.prog 55 #[.pointer (some ⟨sk.1, 0, none⟩)] w R := by
  have hS := hO
  clear hO
  have h32 : (sk.2.1 ++ sk.2.2).length = 32 := by rw [List.length_append]; exact hW.len
  have i1 := rkAll (n := sk.2.1.length) h32
  have i2 := rkSize (n := sk.2.1.length) h32
  have i3 : SetsAt (blk [.bool false, .int .i64 0] slf zero32 []) 0 (rkB sk.2.1.length (sk.2.1 ++ sk.2.2)) (rkB sk.2.1.length (sk.2.1 ++ sk.2.2)) := rkOver (by rw [blk_size slf_len]; rfl) h32
  have i4 := rkOnes (n := sk.2.1.length) (L := sk.2.1 ++ sk.2.2)
  have hv : ∀ (R : Ending → World → Prop) (w : World), St w0 bs w H → (∀ w', St w0 bs w' H → Ret R (.bool true) w') → Calls Tryz.prog 97 #[.pointer (some ⟨sk.1, 0, none⟩)] w R := fun R w hS hR => rk_valid hS hR
  clear h32 hW
  go_enter Tryz.func55, Tryz.ntmps55
  go_wp2_with (first | (go_at_call 97; refine hv _ _ hS ?_; clear hS; intro w hS; unfold Ret) | (refine wpList_is (.load _ _) rfl ?_; go_must ((refine wpList_stp (by kernel_rfl) (stp_val (run_lda _ _ rfl hS) ?_)))) | (refine wpList_is (.store _ _ _) rfl ?_; go_must ((refine wpList_stp (by kernel_rfl) (stp_sta _ _ _ rfl hS ?_))); clear hS; intro w hS) | (refine wpList_is (.alloc _) rfl ?_; go_must (refine wpList_stp (by kernel_rfl) (stp_al _ rfl hS ?_)); clear hS; intro bN w hbN hS))
  exact hR _ _ hS
def spq (x : Sk) : Option Addr := some ⟨x.1, 0, none⟩
theorem spL_eq (sts : List Sk) : spL sts = sts.map spq ++ List.replicate (4 - sts.length) none := rfl
theorem cps_set {A : List (Option Addr)} {D : List (Option Addr)} {i : Nat} (hA : A.length = i) (hi : i < D.length) (y : Option Addr) : (A ++ D.drop i).set i y = (A ++ [y]) ++ D.drop (i + 1) := by
  rw [List.set_append_right _ _ (by omega), hA, Nat.sub_self, List.drop_eq_getElem_cons hi, List.set_cons_zero]
  simp

set_option maxHeartbeats 4000000 in
set_option maxRecDepth 100000 in
theorem ar_copy {p : Option Addr} {T : Ar} (hO : St w0 bs w H) (hT : AA p T E) [hc : Cut H E H1]
    (hR : ∀ p' E' w', AA p' T E' → St w0 bs w' (E' ++ (E ++ H1)) → Ret R (.pointer p') w') : Calls Tryz.prog 14 #[.pointer p] w R := by
  have hS := hO.front (E := E) (H1 := H1)
  clear hO
  obtain ⟨L, ks, G⟩ := T
  obtain ⟨b, bo, ph, Eh, pg, Eg, sts, rfl, hH, hG, hks, hW, hGw, h1, h4, rfl⟩ := id hT
  simp only [List.cons_append, List.append_assoc] at hS
  have hlp := spL_len h4
  have hH : HA ph (some (some L)) Eh := hH
  have hG : GA pg (some (true, G)) Eg := hG
  have i1 := arAll (po := some ⟨bo, 0, none⟩) (z := L.length) (k := sts.length) (pg := pg) hlp
  have i2 := arSize (po := some ⟨bo, 0, none⟩) (z := L.length) (k := sts.length) (pg := pg) hlp
  have i3 : SetsAt (arC none 0 0 [none, none, none, none] none) 0 (arC (some ⟨bo, 0, none⟩) L.length sts.length (spL sts) pg) (arC (some ⟨bo, 0, none⟩) L.length sts.length (spL sts) pg) := arOver rfl hlp
  have i4 := arOnes (po := some ⟨bo, 0, none⟩) (z := L.length) (k := sts.length) (ps := spL sts) (pg := pg)
  have cg : CellAt (arC (some ⟨bo, 0, none⟩) L.length sts.length (spL sts) pg) (0 + 7) (.pointer pg) := arG hlp
  have cg0 : CellAt (arC (some ⟨bo, 0, none⟩) L.length sts.length (spL sts) pg) (0 + 2) (.int .i64 sts.length) := ar2
  have hks' := Lib.hid hks
  have hW' := Lib.hid hW
  have hGw' := Lib.hid hGw
  clear hT hks hW hGw
  go_enter Tryz.func14, Tryz.ntmps14
  go_wp2_with (first | (go_at_call 34; refine ar_yes hS ?_; clear hS; intro w hS; unfold Ret) | (refine wpList_is (.alloc 69) rfl ?_; go_must (refine wpList_stp (by kernel_rfl) (stp_al _ rfl hS ?_)); clear hS; intro bc w _ hS) | (refine wpList_is (.load _ _) rfl ?_; go_must ((refine wpList_stp (by kernel_rfl) (stp_val (run_lda _ _ rfl hS) ?_)))) | (refine wpList_is (.store _ _ _) rfl ?_; go_must ((refine wpList_stp (by kernel_rfl) (stp_sta _ _ _ rfl hS ?_))); clear hS; intro w hS))
  have hS : St w0 bs _ (⟨bc, arC (some ⟨bo, 0, none⟩) L.length sts.length (spL sts) pg, 69, true⟩ :: (Eh ++ (Eg ++ (⟨b, arC (some ⟨bo, 0, none⟩) L.length sts.length (spL sts) pg, 69, true⟩ :: ⟨bo, #[.pointer ph], 63, true⟩ :: (sts.map skE ++ H1))))) := hS.pick
  refine region_depsE [⟨(undef, []), [(7, [], fun _ _ x => ∃ q, x.1 = .pointer q ∧ HA q (some (some L)) x.2), (9, [], fun _ y x => ∃ q bo2, y.1 = .pointer q ∧ x.1 = .pointer (some ⟨bo2, 0, none⟩) ∧ x.2 = ⟨bo2, #[.pointer q], 63, true⟩ :: y.2)]⟩, ⟨(undef, []), [(14, [], fun _ _ x => ∃ q, x.1 = .pointer q ∧ GA q (some (true, G)) x.2)]⟩,
      ⟨(undef, [⟨bc, arC (some ⟨bo, 0, none⟩) L.length sts.length (spL sts) pg, 69, true⟩]), [(16, [9], fun z _ x => ∃ a, (z.getD 0 default).1 = .pointer a ∧ x.2 = [⟨bc, arC a L.length sts.length (spL sts) pg, 69, true⟩]), (18, [9, 14], fun z _ x => ∃ a c, (z.getD 0 default).1 = .pointer a ∧ (z.getD 1 default).1 = .pointer c ∧ x.2 = [⟨bc, arC a L.length sts.length (spL sts) c, 69, true⟩])]⟩]
    (Eh ++ (Eg ++ (⟨b, arC (some ⟨bo, 0, none⟩) L.length sts.length (spL sts) pg, 69, true⟩ :: ⟨bo, #[.pointer ph], 63, true⟩ :: (sts.map skE ++ H1)))) (⟨bc, arC (some ⟨bo, 0, none⟩) L.length sts.length (spL sts) pg, 69, true⟩ :: (Eh ++ (Eg ++ (⟨b, arC (some ⟨bo, 0, none⟩) L.length sts.length (spL sts) pg, 69, true⟩ :: ⟨bo, #[.pointer ph], 63, true⟩ :: (sts.map skE ++ H1))))) (by simp) hS (by kernel_rfl) (by kernel_rfl) ?_
  refine dx_val (fun _ => rfl) rfl (fun χ w hw => run_mv _ rfl) ?_
  refine dx_val (fun _ => rfl) rfl (fun χ w hw => run_nc _ rfl) ?_
  refine dx_val (fun _ => rfl) rfl (fun χ w hw => run_fa _ _ _ rfl) ?_
  (refine dx_val (fun _ => rfl) rfl (fun χ w hw => run_ld _ _ rfl hw) ?_)
  refine dx_val (fun _ => rfl) rfl (fun χ w hw => run_nc _ rfl) ?_
  refine dx_val (fun _ => rfl) rfl (fun χ w hw => run_fa _ _ _ rfl) ?_
  (refine dx_val (fun _ => rfl) rfl (fun χ w hw => run_ld _ _ rfl hw) ?_)
  refine dx_turn 0 0 rfl rfl (by kernel_rfl) (by kernel_rfl) (by kernel_rfl) (by kernel_rfl) 53 [_] _ rfl (fun _ => rfl) (enters _ (by kernel_rfl)) (fun x => x.1) ?_ ?_
  · intro χ X w _ hS
    exact hp_copy (show St w0 bs w (X ++ (Eh ++ _)) from hS) hH (some (some L)) rfl (fun q E' w' hH1 _ hS' => ⟨(.pointer q, E'), rfl, ⟨q, rfl, hH1⟩, show St w0 bs w' (E' ++ (X ++ (Eh ++ (Eg ++ (⟨b, arC (some ⟨bo, 0, none⟩) L.length sts.length (spL sts) pg, 69, true⟩ :: ⟨bo, #[.pointer ph], 63, true⟩ :: (sts.map skE ++ H1)))))) from hS'.pick⟩)
  refine dx_valS 0 1 rfl (by kernel_rfl) (fun _ => rfl) rfl (fun χ => .agg #[(χ 7).1]) (supp_of (j := 7) (by kernel_rfl) (fun x => .agg #[x.1])) (fun χ X w hok hS => ?_) ?_
  · obtain ⟨⟨q, hq, _⟩, _⟩ := hok
    have hq : (χ 7).1 = .pointer q := hq
    simp only [hq]
    exact run_bd _ _ rfl
  refine dx_turn0 0 1 rfl rfl (by kernel_rfl) (by kernel_rfl) (by kernel_rfl) (by kernel_rfl) (fun _ => rfl) (fun x => x.1) ?_ ?_
  · rintro χ X w ⟨⟨q, hq, hH1⟩, _⟩ hS
    have hS : St w0 bs w ((χ 7).2 ++ (X ++ _)) := hS
    have hq : (χ 7).1 = .pointer q := hq
    simp only [hq]
    exact stepX_to 20 rfl (by simp) (stp_bx _ _ rfl hS (fun bo2 w' _ hS' => ⟨_, rfl, (.pointer (some ⟨bo2, 0, none⟩), ⟨bo2, #[.pointer q], 63, true⟩ :: (χ 7).2), rfl, ⟨q, bo2, hq, rfl, rfl⟩, hS'⟩))
  refine dx_val (fun _ => rfl) rfl (fun χ w hw => run_mv _ rfl) ?_
  refine dx_val (fun _ => rfl) rfl (fun χ w hw => run_nc _ rfl) ?_
  refine dx_val (fun _ => rfl) rfl (fun χ w hw => run_fa _ _ _ rfl) ?_
  (refine dx_val (fun _ => rfl) rfl (fun χ w hw => run_ld _ _ rfl hw) ?_)
  refine dx_turn 1 0 rfl rfl (by kernel_rfl) (by kernel_rfl) (by kernel_rfl) (by kernel_rfl) 54 [_] _ rfl (fun _ => rfl) (enters _ (by kernel_rfl)) (fun x => x.1) ?_ ?_
  · intro χ X w _ hS
    exact gv_copy (show St w0 bs w (X ++ (Eh ++ (Eg ++ _))) from hS) hG (some (true, G)) rfl (fun q E' w' hG1 _ hS' => ⟨(.pointer q, E'), rfl, ⟨q, rfl, hG1⟩, show St w0 bs w' (E' ++ (X ++ (Eh ++ (Eg ++ (⟨b, arC (some ⟨bo, 0, none⟩) L.length sts.length (spL sts) pg, 69, true⟩ :: ⟨bo, #[.pointer ph], 63, true⟩ :: (sts.map skE ++ H1)))))) from hS'.pick⟩)
  refine dx_val (fun _ => rfl) rfl (fun χ w hw => run_fa _ _ _ rfl) ?_
  refine dx_turnW 2 0 0 2 rfl rfl rfl (by kernel_rfl) (by kernel_rfl) (by kernel_rfl) (by kernel_rfl) (by kernel_rfl) (fun _ => rfl) (fun _ => undef) ?_ ?_
  · rintro χ X w _ ⟨_, ⟨q, bo2, hq, hb, hE⟩, _⟩ hS
    have hb : (χ 9).1 = .pointer (some ⟨bo2, 0, none⟩) := hb
    have hset : SetAt (arC (some ⟨bo, 0, none⟩) L.length sts.length (spL sts) pg) 0 (χ 9).1 (arC (some ⟨bo2, 0, none⟩) L.length sts.length (spL sts) pg) := by rw [hb]; exact arSet0 _
    have hone : OneCell (χ 9).1 := by rw [hb]; infer_instance
    exact stepX_st _ _ _ rfl (show St w0 bs w (⟨bc, arC (some ⟨bo, 0, none⟩) L.length sts.length (spL sts) pg, 69, true⟩ :: ((χ 9).2 ++ (X ++ _))) from hS) (fun w' hS' => ⟨(undef, [⟨bc, arC (some ⟨bo2, 0, none⟩) L.length sts.length (spL sts) pg, 69, true⟩]), rfl, ⟨_, hb, rfl⟩, hS'⟩)
  refine dx_val (fun _ => rfl) rfl (fun χ w hw => run_fa _ _ _ rfl) ?_
  refine dx_turnW 2 1 1 1 rfl rfl rfl (by kernel_rfl) (by kernel_rfl) (by kernel_rfl) (by kernel_rfl) (by kernel_rfl) (fun _ => rfl) (fun _ => undef) ?_ ?_
  · rintro χ X w ⟨⟨a, ha, hD⟩, _⟩ ⟨⟨q, hq, hG1⟩, _⟩ hS
    have ha : (χ 9).1 = .pointer a := ha
    have hq : (χ 14).1 = .pointer q := hq
    have hD : (χ 16).2 = [⟨bc, arC a L.length sts.length (spL sts) pg, 69, true⟩] := hD
    have hS : St w0 bs w ((χ 16).2 ++ ((χ 14).2 ++ (X ++ _))) := hS
    rw [hD] at hS
    have hset : SetAt (arC a L.length sts.length (spL sts) pg) (0 + 7) (χ 14).1 (arC a L.length sts.length (spL sts) q) := by rw [hq]; exact arSetG hlp _
    have hone : OneCell (χ 14).1 := by rw [hq]; infer_instance
    exact stepX_st _ _ _ rfl (show St w0 bs w (⟨bc, arC a L.length sts.length (spL sts) pg, 69, true⟩ :: ((χ 14).2 ++ (X ++ _))) from hS) (fun w' hS' => ⟨(undef, [⟨bc, arC a L.length sts.length (spL sts) q, 69, true⟩]), rfl, ⟨_, _, ha, hq, rfl⟩, hS'⟩)
  refine dx_end rfl ?_
  intro χ w hok hS
  obtain ⟨⟨q1, hq1, hH1⟩, ⟨q1', bo2, hq1', hb, hE⟩, _⟩ := hok _ (.head _)
  obtain ⟨⟨pg2, hq2, hG2⟩, _⟩ := hok _ (.tail _ (.head _))
  obtain ⟨_, ⟨a, c, ha, hc, hD⟩, _⟩ := hok _ (.tail _ (.tail _ (.head _)))
  have hb : (χ 9).1 = .pointer (some ⟨bo2, 0, none⟩) := hb
  have ha : (χ 9).1 = .pointer a := ha
  have hq2 : (χ 14).1 = .pointer pg2 := hq2
  have hc : (χ 14).1 = .pointer c := hc
  have hq1 : (χ 7).1 = .pointer q1 := hq1
  have hq1' : (χ 7).1 = .pointer q1' := hq1'
  rw [hb] at ha
  rw [hq2] at hc
  rw [hq1] at hq1'
  obtain ⟨⟩ := ha
  obtain ⟨⟩ := hc
  obtain ⟨⟩ := hq1'
  have hH1 : HA q1 (some (some L)) (χ 7).2 := hH1
  have hG2 : GA pg2 (some (true, G)) (χ 14).2 := hG2
  have hE : (χ 9).2 = ⟨bo2, #[.pointer q1], 63, true⟩ :: (χ 7).2 := hE
  have hD : (χ 18).2 = [⟨bc, arC (some ⟨bo2, 0, none⟩) L.length sts.length (spL sts) pg2, 69, true⟩] := hD
  have hS : St w0 bs w (((χ 9).2 ++ ((χ 14).2 ++ ((χ 18).2 ++ []))) ++ (Eh ++ (Eg ++ (⟨b, arC (some ⟨bo, 0, none⟩) L.length sts.length (spL sts) pg, 69, true⟩ :: ⟨bo, #[.pointer ph], 63, true⟩ :: (sts.map skE ++ H1))))) := hS
  rw [hD, hE] at hS
  generalize (χ 7).2 = Eh2 at hS hH1
  generalize (χ 14).2 = Eg2 at hS hG2
  simp only [hb, hq1, hq2]
  simp only [List.cons_append, List.nil_append, List.append_assoc] at hS
  clear hok hD hE hb hq1 hq2
  go_wp2_with ((refine wpList_is (.load _ _) rfl ?_; go_must ((refine wpList_stp (by kernel_rfl) (stp_val (run_ld _ _ rfl hS) ?_)))))
  have hS0 : St w0 bs _ (⟨bc, arC (some ⟨bo2, 0, none⟩) L.length sts.length (([] : List Sk).map spq ++ (spL sts).drop 0) pg2, 69, true⟩ :: (([] : List Sk).map skE ++ (⟨bo2, #[.pointer q1], 63, true⟩ :: (Eh2 ++ (Eg2 ++ (Eh ++ (Eg ++ (⟨b, arC (some ⟨bo, 0, none⟩) L.length sts.length (spL sts) pg, 69, true⟩ :: ⟨bo, #[.pointer ph], 63, true⟩ :: (sts.map skE ++ H1))))))))) := (show St w0 bs _ (⟨bc, arC (some ⟨bo2, 0, none⟩) L.length sts.length (spL sts) pg2, 69, true⟩ :: (⟨bo2, #[.pointer q1], 63, true⟩ :: (Eh2 ++ (Eg2 ++ (Eh ++ (Eg ++ (⟨b, arC (some ⟨bo, 0, none⟩) L.length sts.length (spL sts) pg, 69, true⟩ :: ⟨bo, #[.pointer ph], 63, true⟩ :: (sts.map skE ++ H1)))))))) from hS.pick)
  clear hS
  simp only [Nat.zero_add]
  go_loopw [32] (fun u wr => ∃ (i : Nat) (st2 : List Sk), i ≤ sts.length ∧ u = .int .i64 i ∧ st2.length = i ∧ st2.map (·.2) = (sts.take i).map (·.2) ∧ St w0 bs wr (⟨bc, arC (some ⟨bo2, 0, none⟩) L.length sts.length (st2.map spq ++ (spL sts).drop i) pg2, 69, true⟩ :: (st2.map skE ++ (⟨bo2, #[.pointer q1], 63, true⟩ :: (Eh2 ++ (Eg2 ++ (Eh ++ (Eg ++ (⟨b, arC (some ⟨bo, 0, none⟩) L.length sts.length (spL sts) pg, 69, true⟩ :: ⟨bo, #[.pointer ph], 63, true⟩ :: (sts.map skE ++ H1)))))))))) (fun u _ => sts.length - (intOf u).toNat)
  case atStart => exact ⟨0, [], Nat.zero_le _, rfl, rfl, rfl, hS0⟩
  case round =>
    clear hS0
    obtain ⟨i, st2, hi, rfl, hl, hm2, hS⟩ := hrel
    by_cases hlt : i < sts.length
    · have dk : decide ((i : Int) < (sts.length : Int)) = true := decide_eq_true (by omega)
      have dk' : decide (i < sts.length) = true := decide_eq_true hlt
      have ixa := idxArr (P := Tryz.prog) (t := 67) (b := b) (off := 0 + 3) (i := i) Tryz.underlying67 (z := 1) (by kernel_rfl) (by omega)
      have ixc := idxArr (P := Tryz.prog) (t := 67) (b := bc) (off := 0 + 3) (i := i) Tryz.underlying67 (z := 1) (by kernel_rfl) (by omega)
      rw [Nat.zero_add, Nat.mul_one] at ixa ixc
      obtain ⟨sk, hsk⟩ : ∃ sk, sts[i]? = some sk := ⟨_, List.getElem?_eq_getElem hlt⟩
      have hWs := hW'.out sk (List.mem_of_getElem? hsk)
      have hpa : (spL sts)[i]? = some (some ⟨sk.1, 0, none⟩) := by
        have h := spL_at hsk
        rw [List.getD_eq_getElem?_getD, List.getElem?_eq_getElem (by omega)] at h
        rw [List.getElem?_eq_getElem (by omega)]
        exact congrArg some h
      have cai : CellAt (arC (some ⟨bo, 0, none⟩) L.length sts.length (spL sts) pg) (3 + i) (.pointer (some ⟨sk.1, 0, none⟩)) := arAt hpa
      have hAl : (st2.map spq).length = i := by rw [List.length_map, hl]
      have sci : ∀ y, SetAt (arC (some ⟨bo2, 0, none⟩) L.length sts.length (st2.map spq ++ (spL sts).drop i) pg2) (3 + i) (.pointer y) (arC (some ⟨bo2, 0, none⟩) L.length sts.length ((st2.map spq ++ [y]) ++ (spL sts).drop (i + 1)) pg2) := fun y => by
        rw [← cps_set hAl (by omega) y]
        exact arSet (x := (st2.map spq ++ (spL sts).drop i)[i]'(by simp; omega)) (List.getElem?_eq_getElem _) y
      have hspl := sk_split hsk
      have hwd : (sts.take (i + 1)).map (·.2) = (sts.take i).map (·.2) ++ [sk.2] := by
        rw [List.take_succ_eq_append_getElem hlt, List.map_append]
        congr 1
        have := (List.getElem?_eq_some_iff.1 hsk).2
        simp [this]
      rw [hspl] at hS
      simp only [List.cons_append, List.append_assoc] at hS
      have hspl' := Lib.hid hspl
      have hwd' := Lib.hid hwd
      have hm2' := Lib.hid hm2
      have hl' := Lib.hid hl
      clear hspl hwd hm2 hpa hsk hAl hl
      go_wp2_with (first | (go_at_call 55; refine rk_copy hS hWs ?_; clear hS; intro nb w hS; unfold Ret) | (refine wpList_is (.indexAddr _ _ _) rfl ?_; refine wpList_stp (by kernel_rfl) (stp_val (run_idxv _ _ _ rfl) ?_)) | (refine wpList_is (.load _ _) rfl ?_; go_must ((refine wpList_stp (by kernel_rfl) (stp_val (run_ld _ _ rfl hS) ?_)))) | (refine wpList_is (.store _ _ _) rfl ?_; go_must ((refine wpList_stp (by kernel_rfl) (stp_st _ _ _ rfl hS ?_))); clear hS; intro w hS))
      go_roundw
      case rel =>
        refine ⟨i + 1, st2 ++ [(nb, sk.2)], by omega, by go_num, by simp [hl'.out], by rw [List.map_append, hm2'.out, hwd'.out]; rfl, ?_⟩
        rw [List.map_append, List.map_append, hspl'.out]
        simp only [List.map_cons, List.map_nil, List.append_assoc, List.cons_append, List.nil_append, spq] at hS ⊢
        exact hS.pick
      case measure => simp [intOf]; omega
    · obtain ⟨rfl⟩ : i = sts.length := by omega
      have dk : decide ((sts.length : Int) < (sts.length : Int)) = false := decide_eq_false (by omega)
      have dk' : decide (sts.length < sts.length) = false := decide_eq_false (by omega)
      have hcp : st2.map spq ++ (spL sts).drop sts.length = spL st2 := by
        rw [spL_eq sts, List.drop_left' (by simp), spL_eq st2, hl]
      rw [hcp] at hS
      rw [List.take_length] at hm2
      have hm2' := Lib.hid hm2
      have hl' := Lib.hid hl
      clear hm2 hcp
      go_wp2_with ((go_skip))
      have hk2 : st2.map (·.2.1) = sts.map (·.2.1) := by
        have := congrArg (List.map Prod.fst) hm2'.out
        rw [List.map_map, List.map_map] at this
        exact this
      refine hR (some ⟨bc, 0, none⟩) _ _ ⟨bc, bo2, q1, Eh2, pg2, Eg2, st2, rfl, hH1, hG2, by rw [hk2]; exact hks'.out, fun x hx => ?_, hGw'.out, by omega, by omega, rfl⟩ ?_
      · obtain ⟨j, hj⟩ := List.getElem?_of_mem hx
        have hjl := (List.getElem?_eq_some_iff.1 hj).1
        have h2 : (sts.map (·.2))[j]? = some x.2 := by rw [← hm2'.out, List.getElem?_map, hj]; rfl
        rw [List.getElem?_map] at h2
        cases hy : sts[j]? with
        | none => rw [hy] at h2; cases h2
        | some y =>
          rw [hy] at h2
          have e : y.2 = x.2 := Option.some.inj h2
          have := hW'.out y (List.mem_of_getElem? hy)
          exact ⟨by rw [← e]; exact this.len, by rw [← e]; exact this.ok⟩
      · rw [hl'.out]
        simp only [List.cons_append, List.append_assoc]
        exact hS.pick
end Go.Proofs.YtjlihigodggfcaaGreat
