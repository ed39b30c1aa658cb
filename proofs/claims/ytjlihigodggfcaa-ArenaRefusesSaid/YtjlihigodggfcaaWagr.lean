/-
  Arenas with what the statements know of them: agrees.
-/
import Derived.Test.YtjlihigodggfcaaWturn
set_option linter.unusedSimpArgs false
set_option linter.unusedVariables false
namespace Go.Proofs.Ytjlihigodggfcaa
open Go Go.RowKit Go.Mm
variable {R : Ending → World → Prop} {w : World} {H1 : List Ent}
theorem Wo.alm {n mu k : Nat} {T : Ar} {ms : List Me} (h : Wo n mu k T ms) {r : Rf} (hr : r ∈ alH (HL T.1)) : r ∈ kyM ms := by
  refine h.mo.all r ?_
  have hr : r ∈ tkL (some (tbH T.1)) := hr
  rwa [tkL_ck (by rw [tbH_len]; exact h.mo.w.lo)] at hr

set_option maxHeartbeats 8000000 in
set_option maxRecDepth 100000 in
theorem wagrees {W : World} {bm n mu k : Nat} {H : List Ent} (hk : k ≤ 400) (hA : WA W bm n mu k H w) (hmu : 1 ≤ mu ∧ mu ≤ 4) (hR : ∀ w', WA W bm n mu k H w' → Ret R (.bool true) w') :
    Calls Try.prog 24 #[.pointer (some ⟨bm, 0, none⟩)] w R := by
  obtain ⟨T, ms, w0, bs, M, p, bv, vs, us, E, Er, Em, hB, hS, hT, hvs, hus, hWo⟩ := hA
  have hn1 := Lib.hid hWo.len
  have hmu1 := Lib.hid hWo.mu
  have hlv : vs.length = mu := by rw [hvs.len]; exact hWo.mu
  have hlu : us.length = ms.length := by rw [hus.len]; simp
  obtain ⟨cn, hcn⟩ : ∃ c, ms.length = c := ⟨_, rfl⟩
  have hcn0 : cn ≤ n := by rw [← hcn]; exact hWo.ms_le hk
  have hn256 : n ≤ 256 := by have := hWo.mo.w.hi; rw [← hWo.len]; exact this
  have hcn1 : Hid ((alH (HL T.1)).length = cn) := Lib.hid (by rw [(hWo.cnt hk).1]; exact hcn)
  obtain ⟨lf, hlf⟩ : ∃ c, lfH (HL T.1) = c := ⟨_, rfl⟩
  have hlf1 := Lib.hid hlf
  have hlfn : lf + cn = n := by rw [← hlf, ← hcn]; exact (hWo.cnt hk).2
  have hml2 : (mpV ms us).length = cn := by rw [mpV_len hlu]; exact hcn
  have lx := rv_len (bv := bv) (mu := mu)
  have lt1 : LtIs (n : Int) (cn : Int) false := ⟨decide_eq_false (by omega)⟩
  have df1 : DifIs (n : Int) (cn : Int) lf := ⟨by omega, by omega, by omega⟩
  have hlv' := Lib.hid hlv
  have hvs' := Lib.hid hvs
  have hus' := Lib.hid hus
  have hWo' := Lib.hid hWo
  clear hlv hlu hcn hlf hlfn hvs hus hWo
  go_enter Try.func24, Try.ntmps24
  go_wp2_with (first | (go_at_call 28; go_must (refine ar_sizes hS hT n mu hn1.out hmu1.out ?_); clear hS; intro w _ hS; unfold Ret) | (refine wpList_is (.load _ _) rfl ?_; go_must ((refine wpList_stp (by kernel_rfl) (stp_val (run_ld _ _ rfl hS) ?_)))))
  have hS : St w0 bs _ (wdE bm p M bv mu T.2.2 :: rvE bv vs :: (E ++ (Er ++ (Em ++ H)))) := hS.pick
  refine region_itemsE [⟨(undef, []), [(21, fun _ x => ∃ q, x.1 = .pointer q ∧ HA q (HL T.1) x.2)]⟩, ⟨(undef, []), [(35, fun _ x => ∃ q, x.1 = .pointer q ∧ HA q (HL T.1) x.2)]⟩] (wdE bm p M bv mu T.2.2 :: rvE bv vs :: (E ++ (Er ++ (Em ++ H)))) (wdE bm p M bv mu T.2.2 :: rvE bv vs :: (E ++ (Er ++ (Em ++ H)))) (by simp) hS (by kernel_rfl) (by kernel_rfl) ?_
  refine fx_val (fun _ => rfl) rfl (fun χ w hw => run_mv _ rfl) ?_
  refine fx_val (fun _ => rfl) rfl (fun χ w hw => run_mv _ rfl) ?_
  refine fx_val (fun _ => rfl) rfl (fun χ w hw => run_nc _ rfl) ?_
  refine fx_val (fun _ => rfl) rfl (fun χ w hw => run_fa _ _ _ rfl) ?_
  (refine fx_val (fun _ => rfl) rfl (fun χ w hw => run_ld _ _ rfl hw) ?_)
  refine fx_val (fun _ => rfl) rfl (fun χ w hw => run_lenv _ _ rfl) ?_
  (refine fx_val (fun _ => rfl) rfl (fun χ w hw => run_ine _ _ _ _ rfl) ?_)
  refine fx_val (fun _ => rfl) rfl (fun χ w hw => run_mv _ rfl) ?_
  (refine fx_val (fun _ => rfl) rfl (fun χ w hw => run_mv _ rfl) ?_)
  (refine fx_val (fun _ => rfl) rfl (fun χ w hw => run_mv _ rfl) ?_)
  (refine fx_val (fun _ => rfl) rfl (fun χ w hw => run_nc _ rfl) ?_)
  (refine fx_val (fun _ => rfl) rfl (fun χ w hw => run_fa _ _ _ rfl) ?_)
  (refine fx_val (fun _ => rfl) rfl (fun χ w hw => run_ld _ _ rfl hw) ?_)
  refine fx_val (fun _ => rfl) rfl (fun χ w hw => run_mlen _ _ rfl (hB.now hw) hml2) ?_
  (refine fx_val (fun _ => rfl) rfl (fun χ w hw => run_lssv _ _ _ _ rfl) ?_)
  (refine fx_val (fun _ => rfl) rfl (fun χ w hw => run_pk2 _ _ _ rfl) ?_)
  refine fx_val (fun _ => rfl) rfl (fun χ w hw => run_mv _ rfl) ?_
  (refine fx_val (fun _ => rfl) rfl (fun χ w hw => run_mv _ rfl) ?_)
  (refine fx_val (fun _ => rfl) rfl (fun χ w hw => run_nc _ rfl) ?_)
  (refine fx_val (fun _ => rfl) rfl (fun χ w hw => run_fa _ _ _ rfl) ?_)
  (refine fx_val (fun _ => rfl) rfl (fun χ w hw => run_ld _ _ rfl hw) ?_)
  refine fx_turn 0 0 rfl rfl (by kernel_rfl) (by kernel_rfl) (by kernel_rfl) 14 [_] _ rfl (fun _ => rfl) (enters _ (by kernel_rfl)) (fun x => x.1) ?_ ?_
  · intro χ X w _ hS
    exact ar_heap (show St w0 bs w (X ++ (wdE bm p M bv mu T.2.2 :: rvE bv vs :: (E ++ _))) from hS) hT (fun q E' w' _ hH hS' => ⟨(.pointer q, E'), rfl, ⟨q, rfl, hH⟩, show St w0 bs w' (E' ++ (X ++ (wdE bm p M bv mu T.2.2 :: rvE bv vs :: (E ++ (Er ++ (Em ++ H)))))) from hS'.pick⟩)
  refine fx_use 0 rfl (by kernel_rfl) 15 [_] _ rfl (fun _ => rfl) rfl (enters _ (by kernel_rfl)) (.int .i64 cn) (fun χ X w hok hS => ?_) ?_
  · obtain ⟨⟨q, hq, hH⟩, _⟩ := hok
    have hH : HA q (HL T.1) (χ 21).2 := hH
    have hq : (χ 21).1 = .pointer q := hq
    simp only [hq]
    exact hp_len (show St w0 bs w ((χ 21).2 ++ (X ++ _)) from hS) hH cn hcn1.out (fun w' _ hS' => ⟨rfl, show St w0 bs w' ((χ 21).2 ++ (X ++ _)) from hS'.pick⟩)
  (refine fx_val (fun _ => rfl) rfl (fun χ w hw => run_mv _ rfl) ?_)
  (refine fx_val (fun _ => rfl) rfl (fun χ w hw => run_nc _ rfl) ?_)
  (refine fx_val (fun _ => rfl) rfl (fun χ w hw => run_fa _ _ _ rfl) ?_)
  (refine fx_val (fun _ => rfl) rfl (fun χ w hw => run_ld _ _ rfl hw) ?_)
  refine fx_val (fun _ => rfl) rfl (fun χ w hw => run_mlen _ _ rfl (hB.now hw) hml2) ?_
  (refine fx_val (fun _ => rfl) rfl (fun χ w hw => run_ine _ _ _ _ rfl) ?_)
  (refine fx_val (fun _ => rfl) rfl (fun χ w hw => run_pk2 _ _ _ rfl) ?_)
  refine fx_val (fun _ => rfl) rfl (fun χ w hw => run_mv _ rfl) ?_
  (refine fx_val (fun _ => rfl) rfl (fun χ w hw => run_mv _ rfl) ?_)
  (refine fx_val (fun _ => rfl) rfl (fun χ w hw => run_nc _ rfl) ?_)
  (refine fx_val (fun _ => rfl) rfl (fun χ w hw => run_fa _ _ _ rfl) ?_)
  (refine fx_val (fun _ => rfl) rfl (fun χ w hw => run_ld _ _ rfl hw) ?_)
  refine fx_turn 1 0 rfl rfl (by kernel_rfl) (by kernel_rfl) (by kernel_rfl) 14 [_] _ rfl (fun _ => rfl) (enters _ (by kernel_rfl)) (fun x => x.1) ?_ ?_
  · intro χ X w _ hS
    exact ar_heap (show St w0 bs w (X ++ (wdE bm p M bv mu T.2.2 :: rvE bv vs :: (E ++ _))) from hS) hT (fun q E' w' _ hH hS' => ⟨(.pointer q, E'), rfl, ⟨q, rfl, hH⟩, show St w0 bs w' (E' ++ (X ++ (wdE bm p M bv mu T.2.2 :: rvE bv vs :: (E ++ (Er ++ (Em ++ H)))))) from hS'.pick⟩)
  refine fx_use 1 rfl (by kernel_rfl) 57 [_] _ rfl (fun _ => rfl) rfl (enters _ (by kernel_rfl)) (.int .i64 lf) (fun χ X w hok hS => ?_) ?_
  · obtain ⟨⟨q, hq, hH⟩, _⟩ := hok
    have hH : HA q (HL T.1) (χ 35).2 := hH
    have hq : (χ 35).1 = .pointer q := hq
    simp only [hq]
    exact hp_left (show St w0 bs w ((χ 35).2 ++ (X ++ _)) from hS) hH lf hlf1.out (fun w' _ hS' => ⟨rfl, show St w0 bs w' ((χ 35).2 ++ (X ++ _)) from hS'.pick⟩)
  (refine fx_val (fun _ => rfl) rfl (fun χ w hw => run_mv _ rfl) ?_)
  (refine fx_val (fun _ => rfl) rfl (fun χ w hw => run_mv _ rfl) ?_)
  (refine fx_val (fun _ => rfl) rfl (fun χ w hw => run_nc _ rfl) ?_)
  (refine fx_val (fun _ => rfl) rfl (fun χ w hw => run_fa _ _ _ rfl) ?_)
  (refine fx_val (fun _ => rfl) rfl (fun χ w hw => run_ld _ _ rfl hw) ?_)
  refine fx_val (fun _ => rfl) rfl (fun χ w hw => run_mlen _ _ rfl (hB.now hw) hml2) ?_
  (refine fx_val (fun _ => rfl) rfl (fun χ w hw => run_difv _ _ _ _ rfl) ?_)
  (refine fx_val (fun _ => rfl) rfl (fun χ w hw => run_ine _ _ _ _ rfl) ?_)
  (refine fx_val (fun _ => rfl) rfl (fun χ w hw => run_pk2 _ _ _ rfl) ?_)
  refine fx_end rfl ?_
  intro χ w hok hS
  replace hS := st_drop hS
  obtain ⟨⟨q1, hq1, _⟩, _⟩ := hok _ (.head _)
  obtain ⟨⟨q2, hq2, _⟩, _⟩ := hok _ (.tail _ (.head _))
  have hq1 : (χ 21).1 = .pointer q1 := hq1
  have hq2 : (χ 35).1 = .pointer q2 := hq2
  simp only [hq1, hq2]
  clear hok hq1 hq2
  go_wp2_with ((go_skip))
  simp only [Nat.zero_add]
  go_loopw [5] (fun u wr => ∃ (i : Nat) (_ : Unit), i ≤ mu ∧ u = .int .i64 i ∧ St w0 bs wr (wdE bm p M bv mu T.2.2 :: rvE bv vs :: (E ++ (Er ++ (Em ++ H))))) (fun u _ => mu - (intOf u).toNat)
  case atStart => exact ⟨0, (), Nat.zero_le _, rfl, hS.pick⟩
  case round =>
    clear hS
    obtain ⟨i, _, hi, rfl, hS⟩ := hrel
    by_cases hlt : i < mu
    · have dlt : decide ((i : Int) < (mu : Int)) = true := decide_eq_true (by omega)
      have dlt' : decide (i < mu) = true := decide_eq_true hlt
      have hWo := hWo'.out
      obtain ⟨v, E1, e, E2, hv1, rfl, hv, _⟩ := hvs'.out.at i _ (hWo.rtq hlt)
      simp only [List.append_assoc] at hS
      obtain ⟨nr, hnr⟩ : ∃ q, (rtL T i).length = q := ⟨_, rfl⟩
      have hn32 : nr ≤ 32 := hnr ▸ hWo.r32 _ (hWo.rtl hlt)
      have hln : LenV Try.prog 44 v nr := hv.len hnr
      have hone := hv.one
      have cv := cellV hv1
      have ix := rv_idx (bv := bv) hlt
      have d33 : decide ((32 : Int) < (nr : Int)) = false := decide_eq_false (by omega)
      have d33' : decide (32 < nr) = false := decide_eq_false (by omega)
      have hst : (if inM T i then rtL T i else []) = rtL T i := by rw [hWo.inM hlt]; rfl
      have hme : muE T i = 0 := by unfold muE; rw [hWo.inM hlt]; rfl
      have hst' := Lib.hid hst
      have hme' := Lib.hid hme
      have hnr' := Lib.hid hnr
      clear hst hme hv1 hnr hWo
      go_wp2_with (first | (go_at_call 17; go_must (refine ar_stack hS hT i (rtL T i) 0 hst'.out hme'.out ?_); clear hS; intro vl El w _ hvl hS; have hone2 := hvl.one; have hln2 := hvl.len hnr'.out; unfold Ret) | (refine wpList_is (.call { callee := .builtin .len, args := #[_], argTypes := #[_] }) rfl ?_; refine wpList_stp (by kernel_rfl) (stp_val (run_lenv _ _ rfl) ?_)) | (refine wpList_is (.indexAddr _ _ _) rfl ?_; refine wpList_stp (by kernel_rfl) (stp_val (run_idxv _ _ _ rfl) ?_)) | (refine wpList_is (.load _ _) rfl ?_; go_must ((refine wpList_stp (by kernel_rfl) (stp_val (run_ld _ _ rfl hS) ?_)))))
      obtain ⟨wo, rfl⟩ : ∃ wo : World, wo = w := ⟨_, rfl⟩
      go_loopw [8] (fun u wz => ∃ (q : Nat) (_ : Unit), q ≤ nr ∧ u = .int .i64 q ∧ St w0 bs wz (El ++ (wdE bm p M bv mu T.2.2 :: rvE bv vs :: (E ++ (E1 ++ (e ++ (E2 ++ (Em ++ H)))))))) (fun u _ => nr - (intOf u).toNat)
      case atStart => exact ⟨0, (), Nat.zero_le _, rfl, hS.pick⟩
      case round =>
        clear hS
        obtain ⟨q, _, hq, rfl, hS⟩ := hrel
        by_cases hqt : q < nr
        · have dqt : decide ((q : Int) < (nr : Int)) = true := decide_eq_true (by omega)
          have dqt' : decide (q < nr) = true := decide_eq_true hqt
          have hql : q < (rtL T i).length := by rw [hnr'.out]; exact hqt
          obtain ⟨⟨x1, x2⟩, hx⟩ : ∃ x, (rtL T i).getD q (0, 0) = x := ⟨_, rfl⟩
          obtain ⟨gq, sq, iq, hHq, cq⟩ := hv.at hql hx
          have iq := iq q rfl
          obtain ⟨gl, sl, il, hHl, cl⟩ := hvl.at hql hx
          have il := il q rfl
          simp only at cq cl
          obtain ⟨r1, r2, _⟩ := hWo'.out.rt hlt hql
          rw [hx] at r2
          have r1' := Lib.hid r1
          have r2' := Lib.hid r2
          have qx := refE (refB_self x1 x2)
          clear r1 r2 hx hql
          go_wp2_with (first | (refine wpList_is (o := ⟨some 9, _, _, _, _, _⟩) (.alloc _) rfl ?_; go_must (refine wpList_stp (by kernel_rfl) (stp_al _ rfl hS ?_)); clear hS; intro bx w _ hS) | (go_at_call 27; go_must (refine ar_root hS hT i q (x1, x2) 0 r2'.out r1'.out ?_); clear hS; intro w _ hS; unfold Ret) | (refine wpList_is (.call { callee := .builtin .len, args := #[_], argTypes := #[_] }) rfl ?_; refine wpList_stp (by kernel_rfl) (stp_val (run_lenv _ _ rfl) ?_)) | (refine wpList_is (.load _ _) rfl ?_; go_must ((refine wpList_stp (by kernel_rfl) (stp_val (run_ld _ _ rfl hS) ?_)))) | (refine wpList_is (.store _ _ _) rfl ?_; go_must ((refine wpList_stp (by kernel_rfl) (stp_sta _ _ _ rfl hS ?_))); clear hS; intro w hS))
          refine region_quiet hS (by kernel_rfl) (by kernel_rfl) (fun hne => ?_)
          go_big_quiet_want; (refine quiet_is (.move _) rfl ?_; refine quiet_val (fun w _ => run_mv _ rfl) ?_; go_big_quiet_on)
          go_big_quiet_want; (refine quiet_is (.move _) rfl ?_; refine quiet_val (fun w _ => run_mv _ rfl) ?_; go_big_quiet_on)
          go_big_quiet_want; (refine quiet_is (.indexAddr _ _ _) rfl ?_; refine quiet_val (fun w _ => run_idxv _ _ _ rfl) ?_; go_big_quiet_on)
          go_big_quiet_want; ((refine quiet_is (.load _ _) rfl ?_; refine quiet_at sw_st (fun w hS => run_lda _ _ rfl hS) ?_; go_big_quiet_on))
          go_big_quiet_want; (refine quiet_is (.move _) rfl ?_; refine quiet_val (fun w _ => run_mv _ rfl) ?_; go_big_quiet_on)
          go_big_quiet_want; (refine quiet_is (.nilCheck _) rfl ?_; refine quiet_val (fun w _ => run_nc _ rfl) ?_; go_big_quiet_on)
          go_big_quiet_want; (refine quiet_is (.fieldAddr _ _ _) rfl ?_; refine quiet_val (fun w _ => run_fa _ _ _ rfl) ?_; go_big_quiet_on)
          go_big_quiet_want; ((refine quiet_is (.load _ _) rfl ?_; refine quiet_at sw_st (fun w hS => run_ld _ _ rfl hS) ?_; go_big_quiet_on))
          go_big_quiet_want; (refine quiet_is (.move _) rfl ?_; refine quiet_val (fun w _ => run_mv _ rfl) ?_; go_big_quiet_on)
          go_big_quiet_want; (refine quiet_is (.indexAddr _ _ _) rfl ?_; refine quiet_val (fun w _ => run_idxv _ _ _ rfl) ?_; go_big_quiet_on)
          go_big_quiet_want; ((refine quiet_is (.load _ _) rfl ?_; refine quiet_at sw_st (fun w hS => run_ld _ _ rfl hS) ?_; go_big_quiet_on))
          go_big_quiet_want; (refine quiet_is (.move _) rfl ?_; refine quiet_val (fun w _ => run_mv _ rfl) ?_; go_big_quiet_on)
          go_big_quiet_want; (refine quiet_is (.indexAddr _ _ _) rfl ?_; refine quiet_val (fun w _ => run_idxv _ _ _ rfl) ?_; go_big_quiet_on)
          go_big_quiet_want; ((refine quiet_is (.load _ _) rfl ?_; refine quiet_at sw_st (fun w hS => run_lda _ _ rfl hS) ?_; go_big_quiet_on))
          go_big_quiet_want; (refine quiet_is (.binOp .neq _ _ _ _) rfl ?_; refine quiet_val (fun w _ => run_ane _ _ _ _ rfl) ?_; go_big_quiet_on)
          go_big_quiet_want; (refine quiet_is (.move _) rfl ?_; refine quiet_val (fun w _ => run_mv _ rfl) ?_; go_big_quiet_on)
          (go_big_quiet_want; refine quiet_is (.move _) rfl ?_; refine quiet_val (fun w _ => run_mv _ rfl) ?_; go_big_quiet_on)
          (go_big_quiet_want; go_big_quiet_op; go_big_quiet_on)
          go_big_quiet_want; ((refine quiet_is (.pick _ _ _) rfl ?_; refine quiet_val (fun w _ => run_pk2 _ _ _ rfl) ?_; go_big_quiet_on))
          go_big_quiet_want; (refine quiet_is (.move _) rfl ?_; refine quiet_val (fun w _ => run_mv _ rfl) ?_; go_big_quiet_on)
          (go_big_quiet_want; (refine quiet_is (.load _ _) rfl ?_; refine quiet_at sw_st (fun w hS => run_lda _ _ rfl hS) ?_; go_big_quiet_on))
          (go_big_quiet_want; refine quiet_is (.move _) rfl ?_; refine quiet_val (fun w _ => run_mv _ rfl) ?_; go_big_quiet_on)
          (go_big_quiet_want; refine quiet_is (.move _) rfl ?_; refine quiet_val (fun w _ => run_mv _ rfl) ?_; go_big_quiet_on)
          (go_big_quiet_want; refine quiet_is (.indexAddr _ _ _) rfl ?_; refine quiet_val (fun w _ => run_idxv _ _ _ rfl) ?_; go_big_quiet_on)
          (go_big_quiet_want; (refine quiet_is (.load _ _) rfl ?_; refine quiet_at sw_st (fun w hS => run_lda _ _ rfl hS) ?_; go_big_quiet_on))
          (go_big_quiet_want; refine quiet_is (.binOp .neq _ _ _ _) rfl ?_; refine quiet_val (fun w _ => run_ane _ _ _ _ rfl) ?_; go_big_quiet_on)
          go_big_quiet_want; ((refine quiet_is (.pick _ _ _) rfl ?_; refine quiet_val (fun w _ => run_pk2 _ _ _ rfl) ?_; go_big_quiet_on))
          refine wpQuiet_nil ?_
          clear hS hne
          intro w hS
          go_wp2_with ((go_skip))
          go_roundw
          case rel => exact ⟨q + 1, (), by omega, by go_num, hS.pick⟩
          case measure => simp [intOf]; omega
        · have dqt : decide ((q : Int) < (nr : Int)) = false := decide_eq_false (by omega)
          have dqt' : decide (q < nr) = false := decide_eq_false hqt
          go_wp2_with ((refine wpList_is (.call { callee := .builtin .len, args := #[_], argTypes := #[_] }) rfl ?_; refine wpList_stp (by kernel_rfl) (stp_val (run_lenv _ _ rfl) ?_)))
          go_roundw
          case rel => exact ⟨i + 1, (), by omega, by go_num, by simp only [List.append_assoc]; exact hS.pick⟩
          case measure => simp [intOf]; omega
    · have dlt : decide ((i : Int) < (mu : Int)) = false := decide_eq_false (by omega)
      have dlt' : decide (i < mu) = false := decide_eq_false hlt
      go_wp2_with ((go_skip))
      obtain ⟨wo, hwo⟩ : ∃ wo : World, wo = wr := ⟨_, rfl⟩
      clear hwo
      go_loopw [11, 12] (fun s1 u wz => ∃ (q : Nat) (vi : Value) (Ei : List Ent), q ≤ 8 ∧ s1 = vi ∧ u = .int .i64 q ∧ RS vi ((T.2.2.take q).filter nzR) Ei ∧ St w0 bs wz (Ei ++ (wdE bm p M bv mu T.2.2 :: rvE bv vs :: (E ++ (Er ++ (Em ++ H)))))) (fun s1 u _ => 8 - (intOf u).toNat)
      case atStart => exact ⟨0, _, [], Nat.zero_le _, rfl, rfl, RS.nil, by simpa using hS⟩
      case round =>
        clear hS
        obtain ⟨q, vi, Ei, hq, hvi0, rfl, hvi, hS⟩ := hrel
        replace hvi0 := hvi0.symm; subst hvi0
        have hsl : Sl 29 2 vi ((T.2.2.take q).filter nzR).length (((T.2.2.take q).filter nzR).flatMap slf) Ei := hvi
        have hone := hvi.one
        have hfl : ((T.2.2.take q).filter nzR).length ≤ 8 := by
          refine Nat.le_trans (List.length_filter_le _ _) ?_
          rw [List.length_take]
          omega
        by_cases hqt : q < 8
        · have dqt : decide ((q : Int) < 8) = true := decide_eq_true (by omega)
          have dqt' : decide (q < 8) = true := decide_eq_true hqt
          have hgl : q < T.2.2.length := by rw [hWo'.out.g8]; exact hqt
          obtain ⟨⟨g1, g2⟩, hgv⟩ : ∃ x, T.2.2.getD q (0, 0) = x := ⟨_, rfl⟩
          have hgg : T.2.2[q]? = some (g1, g2) := by rw [List.getElem?_eq_getElem hgl, ← hgv, List.getD_eq_getElem?_getD, List.getElem?_eq_getElem hgl]; rfl
          have cg : CellsAt (wrC p M (.slice (some ⟨bv, 0, none⟩) mu mu) T.2.2) (0 + 3 + q * 2) 2 #[.int .i64 g1, .int .u32 g2] := blkCells slf_len (i := q) (a := (g1, g2)) hgg (by simp)
          have ixg := idxArr (P := Try.prog) (t := 30) (m := 8) (z := 2) (e := 29) (b := bm) (off := 0 + 3) (by kernel_rfl) (by kernel_rfl) hqt
          cases hb0 : refB g1 g2 0 0 with
          | true =>
            have qg := refE hb0
            have hnx := flt_snoc_no hgl hgv (by simp [nzR, hb0])
            have hnx' := Lib.hid hnx
            clear hnx hgv hgg hb0
            go_wp2_with (first | (refine wpList_is (.load 29 _) rfl ?_; refine wpList_stp (by kernel_rfl) (stp_val (run_lda _ _ rfl hS) ?_)) | (refine wpList_is (.binOp .neq 29 _ _ _) rfl ?_; refine wpList_stp (by kernel_rfl) (stp_val (run_ane _ _ _ _ rfl) ?_)) | (refine wpList_is (.indexAddr _ _ _) rfl ?_; refine wpList_stp (by kernel_rfl) (stp_val (run_idxv _ _ _ rfl) ?_)) | (refine wpList_is (.build _ _) rfl ?_; go_must (refine wpList_stp (by kernel_rfl) (stp_val (run_bd _ _ rfl) ?_))))
            go_roundw
            case rel => exact ⟨q + 1, vi, Ei, by omega, rfl, by go_num, by rw [hnx'.out]; exact hvi, hS.pick⟩
            case measure => simp [intOf]; omega
          | false =>
            have qg := refE hb0
            have hnx := flt_snoc_yes hgl hgv (by simp [nzR, hb0])
            have hnx' := Lib.hid hnx
            clear hnx hgv hgg hb0
            go_wp2_with (first | (refine wpList_is (.buildSlice _ _ _) rfl ?_; go_must (refine wpList_stp (by kernel_rfl) (stp_bsl (size := 2) (e := 29) _ 1 [(0, _)] rfl hS (by decide) rfl (by decide) (by decide) ?_)); clear hS; intro bN w hbN hS) | (refine wpList_is (.call { callee := .builtin .append, args := #[_, _], argTypes := #[_, _] }) rfl ?_; go_must (refine wpList_stp (by kernel_rfl) (stp_ap _ _ _ _ rfl rfl hS (by rfl) hsl (by rfl) (by simp only [maxLen]; omega) (by omega) ?_)); clear hS; intro v' E' w hsl' hne hS; have hone := hsl'.one) | (refine wpList_is (.load 29 _) rfl ?_; refine wpList_stp (by kernel_rfl) (stp_val (run_lda _ _ rfl hS) ?_)) | (refine wpList_is (.binOp .neq 29 _ _ _) rfl ?_; refine wpList_stp (by kernel_rfl) (stp_val (run_ane _ _ _ _ rfl) ?_)) | (refine wpList_is (.indexAddr _ _ _) rfl ?_; refine wpList_stp (by kernel_rfl) (stp_val (run_idxv _ _ _ rfl) ?_)) | (refine wpList_is (.build _ _) rfl ?_; go_must (refine wpList_stp (by kernel_rfl) (stp_val (run_bd _ _ rfl) ?_))))
            go_roundw
            case rel => exact ⟨q + 1, v', E', by omega, rfl, by go_num, by rw [hnx'.out]; exact RS.snoc (x := (g1, g2)) hsl', hS.pick⟩
            case measure => simp [intOf]; omega
        · obtain rfl : q = 8 := by omega
          have dqt : decide ((8 : Int) < 8) = false := rfl
          have htk : T.2.2.take 8 = T.2.2 := List.take_of_length_le (by rw [hWo'.out.g8]; exact Nat.le_refl _)
          rw [htk] at hvi
          obtain ⟨gN, hgN⟩ : ∃ q, (T.2.2.filter nzR).length = q := ⟨_, rfl⟩
          have hgN' := Lib.hid hgN
          have hgN8 : gN ≤ 8 := by rw [← hgN]; exact Nat.le_trans (List.length_filter_le _ _) (by rw [hWo'.out.g8]; exact Nat.le_refl _)
          have hln := hvi.len hgN
          clear hsl hfl htk hgN
          go_wp2_with (first | (go_at_call 20; go_must (refine ar_globals hS hT (T.2.2.filter nzR) rfl ?_); clear hS; intro vg Eg w _ hvg hS; have hone3 := hvg.one; have hln3 := hvg.len hgN'.out; unfold Ret) | (refine wpList_is (.call { callee := .builtin .len, args := #[_], argTypes := #[_] }) rfl ?_; refine wpList_stp (by kernel_rfl) (stp_val (run_lenv _ _ rfl) ?_)) | (refine wpList_is (.load _ _) rfl ?_; go_must ((refine wpList_stp (by kernel_rfl) (stp_val (run_ld _ _ rfl hS) ?_)))))
          obtain ⟨wo, hwo⟩ : ∃ wo : World, wo = w := ⟨_, rfl⟩
          clear hwo
          go_loopw [14] (fun u wy => ∃ (q : Nat) (_ : Unit), q ≤ gN ∧ u = .int .i64 q ∧ St w0 bs wy (Eg ++ (Ei ++ (wdE bm p M bv mu T.2.2 :: rvE bv vs :: (E ++ (Er ++ (Em ++ H))))))) (fun u _ => gN - (intOf u).toNat)
          case atStart => exact ⟨0, (), Nat.zero_le _, rfl, hS.pick⟩
          case round =>
            clear hS
            obtain ⟨q, _, hq, rfl, hS⟩ := hrel
            by_cases hqt : q < gN
            · have dqt : decide ((q : Int) < (gN : Int)) = true := decide_eq_true (by omega)
              have dqt' : decide (q < gN) = true := decide_eq_true hqt
              have hql : q < (T.2.2.filter nzR).length := by rw [hgN'.out]; exact hqt
              obtain ⟨⟨x1, x2⟩, hx⟩ : ∃ x, (T.2.2.filter nzR).getD q (0, 0) = x := ⟨_, rfl⟩
              obtain ⟨gq, sq, iq, hHq, cq⟩ := hvi.at hql hx
              have iq := iq q rfl
              obtain ⟨gl, sl, il, hHl, cl⟩ := hvg.at hql hx
              have il := il q rfl
              simp only at cq cl
              have qx := refE (refB_self x1 x2)
              clear hx hql
              go_wp2_with ((refine wpList_is (.call { callee := .builtin .len, args := #[_], argTypes := #[_] }) rfl ?_; refine wpList_stp (by kernel_rfl) (stp_val (run_lenv _ _ rfl) ?_)))
              refine region_quiet hS (by kernel_rfl) (by kernel_rfl) (fun hne => ?_)
              go_big_quiet_want; (refine quiet_is (.move _) rfl ?_; refine quiet_val (fun w _ => run_mv _ rfl) ?_; go_big_quiet_on)
              go_big_quiet_want; (refine quiet_is (.move _) rfl ?_; refine quiet_val (fun w _ => run_mv _ rfl) ?_; go_big_quiet_on)
              go_big_quiet_want; (refine quiet_is (.indexAddr _ _ _) rfl ?_; refine quiet_val (fun w _ => run_idxv _ _ _ rfl) ?_; go_big_quiet_on)
              go_big_quiet_want; ((refine quiet_is (.load _ _) rfl ?_; refine quiet_at sw_st (fun w hS => run_lda _ _ rfl hS) ?_; go_big_quiet_on))
              go_big_quiet_want; (refine quiet_is (.move _) rfl ?_; refine quiet_val (fun w _ => run_mv _ rfl) ?_; go_big_quiet_on)
              go_big_quiet_want; (refine quiet_is (.move _) rfl ?_; refine quiet_val (fun w _ => run_mv _ rfl) ?_; go_big_quiet_on)
              go_big_quiet_want; (refine quiet_is (.indexAddr _ _ _) rfl ?_; refine quiet_val (fun w _ => run_idxv _ _ _ rfl) ?_; go_big_quiet_on)
              go_big_quiet_want; ((refine quiet_is (.load _ _) rfl ?_; refine quiet_at sw_st (fun w hS => run_lda _ _ rfl hS) ?_; go_big_quiet_on))
              go_big_quiet_want; (refine quiet_is (.binOp .neq _ _ _ _) rfl ?_; refine quiet_val (fun w _ => run_ane _ _ _ _ rfl) ?_; go_big_quiet_on)
              refine wpQuiet_nil ?_
              clear hS hne
              intro w hS
              go_wp2_with ((go_skip))
              go_roundw
              case rel => exact ⟨q + 1, (), by omega, by go_num, hS.pick⟩
              case measure => simp [intOf]; omega
            · have dqt : decide ((q : Int) < (gN : Int)) = false := decide_eq_false (by omega)
              have dqt' : decide (q < gN) = false := decide_eq_false hqt
              go_wp2_with (first | (go_at_call 14; go_must (refine ar_heap hS hT ?_); clear hS; intro ph Eh w _ hH hS; unfold Ret) | (go_at_call 21; go_must (refine hp_all hS hH _ rfl ?_); clear hS; intro va Ea w hva hS; have hone5 := hva.one; have hln5 := hva.len hcn1.out; unfold Ret) | (refine wpList_is (.call { callee := .builtin .len, args := #[_], argTypes := #[_] }) rfl ?_; refine wpList_stp (by kernel_rfl) (stp_val (run_lenv _ _ rfl) ?_)) | (refine wpList_is (.load _ _) rfl ?_; go_must ((refine wpList_stp (by kernel_rfl) (stp_val (run_ld _ _ rfl hS) ?_)))))
              obtain ⟨wo, hwo⟩ : ∃ wo : World, wo = w := ⟨_, rfl⟩
              clear hwo
              go_loopw [16] (fun u wx => ∃ (q : Nat) (_ : Unit), q ≤ cn ∧ u = .int .i64 q ∧ St w0 bs wx (wdE bm p M bv mu T.2.2 :: rvE bv vs :: (E ++ (Ea ++ (Er ++ (Em ++ H)))))) (fun u _ => cn - (intOf u).toNat)
              case atStart => exact ⟨0, (), Nat.zero_le _, rfl, hS.pick⟩
              case round =>
                clear hS
                obtain ⟨q, _, hq, rfl, hS⟩ := hrel
                by_cases hqt : q < cn
                · have dqt : decide ((q : Int) < (cn : Int)) = true := decide_eq_true (by omega)
                  have dqt' : decide (q < cn) = true := decide_eq_true hqt
                  have hql : q < (alH (HL T.1)).length := by rw [hcn1.out]; exact hqt
                  obtain ⟨⟨rs, rg⟩, hx⟩ : ∃ x, (alH (HL T.1)).getD q (0, 0) = x := ⟨_, rfl⟩
                  obtain ⟨gl, sl, il, hHl, cl⟩ := hva.at hql hx
                  have il := il q rfl
                  simp only at cl
                  have hrm : (rs, rg) ∈ kyM ms := hWo'.out.alm (by rw [← hx, List.getD_eq_getElem?_getD, List.getElem?_eq_getElem hql]; exact List.getElem_mem hql)
                  obtain ⟨j, b0, l, hj, hob, hl4⟩ := hWo'.out.ent hrm
                  obtain ⟨u, Em1, eu, Em2, hu1, rfl, hu, _⟩ := hus'.out.at j l (by simp [mpF, hj])
                  simp only [List.append_assoc] at hS
                  have honeu := hu.one
                  have hlnu := hu.len rfl
                  have hlk : ∀ w H, St w0 bs w H → LookIs Try.prog w 25 M #[.int .i64 rs, .int .u32 rg] true (.tuple #[u, .bool true]) := fun w H hS => look_mp (hB.now hS) hWo'.out.mo.ks hj hu1 rfl true
                  have hck := hob.ck
                  have hon := hob.n
                  have hfd := hob.fd
                  have hobW : ObW (obAt (HL T.1) rs) := by
                    obtain ⟨z, q1, q2, _⟩ := hWo'.out.mo.rg hrm
                    have hl := hWo'.out.len
                    simp only at q1
                    rw [q1, obAt_at, List.getD_eq_getElem?_getD, List.getElem?_eq_getElem (by omega)]
                    exact hWo'.out.mo.w.ob _ (List.getElem_mem _)
                  simp only at hck hon hfd
                  have hobr : obR (HL T.1) rs rg = obAt (HL T.1) rs := by unfold obR; rw [if_pos hck]
                  obtain ⟨o, ho⟩ : ∃ o, obAt (HL T.1) rs = o := ⟨_, rfl⟩
                  rw [ho] at hon hfd hobW hobr
                  obtain ⟨oN, oF, oH⟩ := o
                  simp only at hon hfd
                  subst hon
                  have hF4 : oF.length = 4 := hobW.len
                  have hcO := objOver (n := 0) (n' := l.length) (h := false) (h' := oH) (F := zero4) rfl hF4
                  have hcZ := objSize (n := l.length) (h := oH) hF4
                  have hck' := Lib.hid hck
                  have ho' := Lib.hid hobr
                  have hfd' := Lib.hid hfd
                  have hF4' := Lib.hid hF4
                  clear hck hfd hobW hobr ho hj hF4 hx hql hrm hob
                  go_wp2_with ((refine wpList_is (.call { callee := .builtin .len, args := #[_], argTypes := #[_] }) rfl ?_; refine wpList_stp (by kernel_rfl) (stp_val (run_lenv _ _ rfl) ?_)))
                  refine region_quiet hS (by kernel_rfl) (by kernel_rfl) (fun hne => ?_)
                  go_big_quiet_want; (refine quiet_is (.move _) rfl ?_; refine quiet_val (fun w _ => run_mv _ rfl) ?_; go_big_quiet_on)
                  go_big_quiet_want; (refine quiet_is (.nilCheck _) rfl ?_; refine quiet_val (fun w _ => run_nc _ rfl) ?_; go_big_quiet_on)
                  go_big_quiet_want; (refine quiet_is (.fieldAddr _ _ _) rfl ?_; refine quiet_val (fun w _ => run_fa _ _ _ rfl) ?_; go_big_quiet_on)
                  go_big_quiet_want; ((refine quiet_is (.load _ _) rfl ?_; refine quiet_at sw_st (fun w hS => run_ld _ _ rfl hS) ?_; go_big_quiet_on))
                  go_big_quiet_want; (refine quiet_is (.move _) rfl ?_; refine quiet_val (fun w _ => run_mv _ rfl) ?_; go_big_quiet_on)
                  go_big_quiet_want; (refine quiet_is (.move _) rfl ?_; refine quiet_val (fun w _ => run_mv _ rfl) ?_; go_big_quiet_on)
                  go_big_quiet_want; (refine quiet_is (.indexAddr _ _ _) rfl ?_; refine quiet_val (fun w _ => run_idxv _ _ _ rfl) ?_; go_big_quiet_on)
                  go_big_quiet_want; ((refine quiet_is (.load _ _) rfl ?_; refine quiet_at sw_st (fun w hS => run_lda _ _ rfl hS) ?_; go_big_quiet_on))
                  go_big_quiet_want; (refine quiet_is (.lookup _ _ _ _) rfl ?_; refine quiet_at sw_st (fun w hS => run_look _ _ _ rfl (hlk _ _ hS)) ?_; go_big_quiet_on)
                  go_big_quiet_want; (refine quiet_is (.move _) rfl ?_; refine quiet_val (fun w _ => run_mv _ rfl) ?_; go_big_quiet_on)
                  go_big_quiet_want; (refine quiet_is (.extract _ _) rfl ?_; refine quiet_val (fun w _ => run_ext _ _ rfl) ?_; go_big_quiet_on)
                  go_big_quiet_want; (refine quiet_is (.extract _ _) rfl ?_; refine quiet_val (fun w _ => run_ext _ _ rfl) ?_; go_big_quiet_on)
                  go_big_quiet_want; (refine quiet_is (.assign _) rfl ?_; refine quiet_val (fun w _ => run_as _ rfl) ?_; go_big_quiet_on)
                  go_big_quiet_want; (refine quiet_is (.assign _) rfl ?_; refine quiet_val (fun w _ => run_as _ rfl) ?_; go_big_quiet_on)
                  refine wpQuiet_nil ?_
                  clear hS hne
                  intro w hS
                  go_wp2_with ((go_skip))
                  have hS : St w0 bs _ (E ++ (wdE bm p M bv mu T.2.2 :: rvE bv vs :: (Ea ++ (Er ++ (Em1 ++ (eu ++ (Em2 ++ H))))))) := hS.pick
                  refine region_itemsE [⟨(undef, []), [(12, fun _ x => ∃ b, x = (.pointer (some ⟨b, 0, none⟩), [⟨b, objC 0 zero4 false, 54, true⟩])), (13, fun y x => ∃ b, y.1 = .pointer (some ⟨b, 0, none⟩) ∧ x.2 = [⟨b, objC l.length oF oH, 54, true⟩])]⟩]
                    (E ++ (wdE bm p M bv mu T.2.2 :: rvE bv vs :: (Ea ++ (Er ++ (Em1 ++ (eu ++ (Em2 ++ H))))))) (E ++ (wdE bm p M bv mu T.2.2 :: rvE bv vs :: (Ea ++ (Er ++ (Em1 ++ (eu ++ (Em2 ++ H))))))) (by simp) hS (by kernel_rfl) (by kernel_rfl) ?_
                  refine fx_val (fun _ => rfl) rfl (fun χ w hw => run_mv _ rfl) ?_
                  refine fx_val (fun _ => rfl) rfl (fun χ w hw => run_nc _ rfl) ?_
                  refine fx_val (fun _ => rfl) rfl (fun χ w hw => run_fa _ _ _ rfl) ?_
                  (refine fx_val (fun _ => rfl) rfl (fun χ w hw => run_ld _ _ rfl hw) ?_)
                  refine fx_val (fun _ => rfl) rfl (fun χ w hw => run_mv _ rfl) ?_
                  refine fx_val (fun _ => rfl) rfl (fun χ w hw => run_mv _ rfl) ?_
                  refine fx_val (fun _ => rfl) rfl (fun χ w hw => run_idxv _ _ _ rfl) ?_
                  (refine fx_val (fun _ => rfl) rfl (fun χ w hw => run_lda _ _ rfl hw) ?_)
                  refine fx_ask 22 [_, _] _ rfl (fun _ => rfl) rfl (enters _ (by kernel_rfl)) (.tuple #[.agg (objC l.length oF oH), .int .i64 0]) (fun X w hS => ar_object hS hT rs rg (l.length, oF, oH) 0 ho'.out hck'.out (fun w' _ hS' => ⟨rfl, hS'.pick⟩)) ?_
                  refine fx_val (fun _ => rfl) rfl (fun χ w hw => run_mv _ rfl) ?_
                  refine fx_val (fun _ => rfl) rfl (fun χ w hw => run_ext _ _ rfl) ?_
                  refine fx_val (fun _ => rfl) rfl (fun χ w hw => run_ext _ _ rfl) ?_
                  refine fx_turn0 0 0 rfl rfl (by kernel_rfl) (by kernel_rfl) (by kernel_rfl) (fun _ => rfl) (fun x => x.1) ?_ ?_
                  · intro χ X w _ hS
                    exact stepX_al _ rfl (show St w0 bs w (X ++ _) from hS) (fun b w' _ hS' => ⟨(_, [_]), rfl, ⟨b, rfl⟩, hS'⟩)
                  refine fx_turn0 0 1 rfl rfl (by kernel_rfl) (by kernel_rfl) (by kernel_rfl) (fun _ => rfl) (fun _ => undef) ?_ ?_
                  · rintro χ X w ⟨⟨b, hb⟩, _⟩ hS
                    have hS : St w0 bs w ((χ 12).2 ++ (X ++ _)) := hS
                    rw [hb] at hS
                    have hS : St w0 bs w (⟨b, objC 0 zero4 false, 54, true⟩ :: (X ++ _)) := hS
                    have hb1 : (χ 12).1 = .pointer (some ⟨b, 0, none⟩) := by rw [hb]
                    exact stepX_stb _ _ _ rfl hS hb1 (fun w' hS' => ⟨(undef, [⟨b, objC l.length oF oH, 54, true⟩]), rfl, ⟨b, hb1, rfl⟩, hS'⟩)
                  refine fx_val (fun _ => rfl) rfl (fun χ w hw => run_as _ rfl) ?_
                  refine fx_end rfl ?_
                  intro χ w hok hS
                  obtain ⟨⟨bo, hb⟩, ⟨bo', hb1, hb2⟩, _⟩ := hok _ (.head _)
                  rw [hb] at hb1
                  obtain ⟨⟩ := hb1
                  have hS : St w0 bs w (((χ 13).2 ++ []) ++ (E ++ (wdE bm p M bv mu T.2.2 :: rvE bv vs :: (Ea ++ (Er ++ (Em1 ++ (eu ++ (Em2 ++ H)))))))) := hS
                  rw [hb2, List.append_nil] at hS
                  simp only [hb]
                  simp only [List.cons_append, List.nil_append] at hS
                  clear hok hb2 hb
                  go_wp2_with (first | (refine wpList_is (.call { callee := .builtin .len, args := #[_], argTypes := #[_] }) rfl ?_; refine wpList_stp (by kernel_rfl) (stp_val (run_lenv _ _ rfl) ?_)) | (refine wpList_is (.load _ _) rfl ?_; go_must ((refine wpList_stp (by kernel_rfl) (stp_val (run_ld _ _ rfl hS) ?_)))))
                  obtain ⟨wo, hwo⟩ : ∃ wo : World, wo = w := ⟨_, rfl⟩
                  clear hwo
                  go_loopw [21] (fun u wv => ∃ (kk : Nat) (_ : Unit), kk ≤ l.length ∧ u = .int .i64 kk ∧ St w0 bs wv (⟨bo, objC l.length oF oH, 54, true⟩ :: (E ++ (wdE bm p M bv mu T.2.2 :: rvE bv vs :: (Ea ++ (Er ++ (Em1 ++ (eu ++ (Em2 ++ H))))))))) (fun u _ => l.length - (intOf u).toNat)
                  case atStart => exact ⟨0, (), Nat.zero_le _, rfl, hS.pick⟩
                  case round =>
                    clear hS hcO
                    obtain ⟨kk, _, hkk, rfl, hS⟩ := hrel
                    by_cases hkl : kk < l.length
                    · have e1 : decide ((kk : Int) < (l.length : Int)) = true := decide_eq_true (by omega)
                      have e1' : decide (kk < l.length) = true := decide_eq_true hkl
                      have hix := idxArr (P := Try.prog) (t := 52) (m := 4) (z := 2) (e := 29) (b := bo) (off := 0 + 1) (by kernel_rfl) (by kernel_rfl) (show kk < 4 by omega)
                      obtain ⟨⟨y1, y2⟩, hy⟩ : ∃ y, l.getD kk (0, 0) = y := ⟨_, rfl⟩
                      have hyF : oF.getD kk (0, 0) = (y1, y2) := by rw [hfd'.out kk hkl]; exact hy
                      have hyF2 : oF[kk]? = some (y1, y2) := by
                        have h := hF4'.out
                        rw [← hyF, List.getD_eq_getElem?_getD, List.getElem?_eq_getElem (by omega)]; rfl
                      have c1 : CellsAt (objC l.length oF oH) (0 + 1 + kk * 2) 2 #[.int .i64 y1, .int .u32 y2] := by simpa using objFd hyF2
                      obtain ⟨gy, sy, iy, hHy, cy⟩ := hu.at hkl hy
                      have iy := iy kk rfl
                      simp only at cy
                      have q5 := refE (refB_self y1 y2)
                      clear hyF hyF2 hy
                      go_wp2_with ((refine wpList_is (.call { callee := .builtin .len, args := #[_], argTypes := #[_] }) rfl ?_; refine wpList_stp (by kernel_rfl) (stp_val (run_lenv _ _ rfl) ?_)))
                      refine region_quiet hS (by kernel_rfl) (by kernel_rfl) (fun hne => ?_)
                      go_big_quiet_want; (refine quiet_is (.move _) rfl ?_; refine quiet_val (fun w _ => run_mv _ rfl) ?_; go_big_quiet_on)
                      go_big_quiet_want; (refine quiet_is (.fieldAddr _ _ _) rfl ?_; refine quiet_val (fun w _ => run_fa _ _ _ rfl) ?_; go_big_quiet_on)
                      go_big_quiet_want; (refine quiet_is (.indexAddr _ _ _) rfl ?_; refine quiet_val (fun w _ => run_idxv _ _ _ rfl) ?_; go_big_quiet_on)
                      go_big_quiet_want; ((refine quiet_is (.load _ _) rfl ?_; refine quiet_at sw_st (fun w hS => run_lda _ _ rfl hS) ?_; go_big_quiet_on))
                      go_big_quiet_want; (refine quiet_is (.move _) rfl ?_; refine quiet_val (fun w _ => run_mv _ rfl) ?_; go_big_quiet_on)
                      go_big_quiet_want; (refine quiet_is (.move _) rfl ?_; refine quiet_val (fun w _ => run_mv _ rfl) ?_; go_big_quiet_on)
                      go_big_quiet_want; (refine quiet_is (.indexAddr _ _ _) rfl ?_; refine quiet_val (fun w _ => run_idxv _ _ _ rfl) ?_; go_big_quiet_on)
                      go_big_quiet_want; ((refine quiet_is (.load _ _) rfl ?_; refine quiet_at sw_st (fun w hS => run_lda _ _ rfl hS) ?_; go_big_quiet_on))
                      go_big_quiet_want; (refine quiet_is (.binOp .neq _ _ _ _) rfl ?_; refine quiet_val (fun w _ => run_ane _ _ _ _ rfl) ?_; go_big_quiet_on)
                      refine wpQuiet_nil ?_
                      clear hS hne
                      intro w hS
                      go_wp2_with ((go_skip))
                      go_roundw
                      case rel => exact ⟨kk + 1, (), by omega, by go_num, hS.pick⟩
                      case measure => simp [intOf]; omega
                    · have e1 : decide ((kk : Int) < (l.length : Int)) = false := decide_eq_false (by omega)
                      have e1' : decide (kk < l.length) = false := decide_eq_false hkl
                      go_wp2_with ((refine wpList_is (.call { callee := .builtin .len, args := #[_], argTypes := #[_] }) rfl ?_; refine wpList_stp (by kernel_rfl) (stp_val (run_lenv _ _ rfl) ?_)))
                      go_roundw
                      case rel => exact ⟨q + 1, (), by omega, by go_num, by simp only [List.append_assoc]; exact hS.pick⟩
                      case measure => simp [intOf]; omega
                · have dqt : decide ((q : Int) < (cn : Int)) = false := decide_eq_false (by omega)
                  have dqt' : decide (q < cn) = false := decide_eq_false hqt
                  go_wp2_with ((refine wpList_is (.call { callee := .builtin .len, args := #[_], argTypes := #[_] }) rfl ?_; refine wpList_stp (by kernel_rfl) (stp_val (run_lenv _ _ rfl) ?_)))
                  exact hR _ ⟨T, ms, w0, bs, M, p, bv, vs, us, E, Er, Em, hB, hS.pick, hT, hvs'.out, hus'.out, hWo'.out⟩
end Go.Proofs.Ytjlihigodggfcaa
