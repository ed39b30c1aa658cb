/-
  The walk of ArenaThere.
-/
import Derived.Test.YtjlihigodggfcaaWplay
import Derived.Test.YtjlihigodggfcaaWagr
set_option linter.unusedSimpArgs false
set_option linter.unusedVariables false
namespace Go.Proofs.Ytjlihigodggfcaa
open Go Go.RowKit Go.Mm
variable {R : Ending → World → Prop}

set_option maxHeartbeats 8000000 in
set_option maxRecDepth 100000 in
theorem walk_athere {W : World} (z : Int) (wz : (Lit.int .u8 z).wf = true) (y : Int) (wy : (Lit.int .u8 y).wf = true) (v : Value) {n sb so : Nat} {F : Nat → Nat → Value} (hv : Flat W [.i .u8, .i .u8, .i .u8, .i .u8, .i .u8] v n sb so F) (hR : ∀ w', Chg W w' [] → Ret R (.bool true) w') :
    Calls Try.prog 4 #[.int .u8 z, .int .u8 y, v] W R := by
  have hS : St W [] W [] := St.start0
  have hlen := hv.len (t := 49) Try.underlying49
  have hz := bounds_u8L wz
  have hy := bounds_u8L wy
  obtain ⟨zn, rfl⟩ : ∃ q : Nat, z = q := ⟨z.toNat, by omega⟩
  obtain ⟨yn, rfl⟩ : ∃ q : Nat, y = q := ⟨y.toNat, by omega⟩
  clear wz wy
  obtain ⟨mu, hmu⟩ : ∃ q, 1 + yn % 4 = q := ⟨_, rfl⟩
  have hmu4 : 1 ≤ mu ∧ mu ≤ 4 := by omega
  have hmu' := Lib.hid hmu
  clear hmu
  by_cases hn : 120 < n
  · have q : decide (120 < (n : Int)) = true := decide_eq_true (by omega)
    have q' : decide (120 < n) = true := decide_eq_true hn
    go_enter Try.func4, Try.ntmps4
    go_wp2_with (first | (go_at_call 18; refine works_ok hS ?_; clear hS; intro w hS; unfold Ret) | (refine wpList_is (.call { callee := .builtin .len, args := #[_], argTypes := #[_] }) rfl ?_; refine wpList_stp (by kernel_rfl) (stp_val (run_lenv _ _ rfl) ?_)))
    exact hR _ hS.chg
  have q : decide (120 < (n : Int)) = false := decide_eq_false (by omega)
  have q' : decide (120 < n) = false := decide_eq_false hn
  go_enter Try.func4, Try.ntmps4
  go_wp2_with (first | (go_at_call 19; go_must (refine wplay hS zn yn (by omega) (by omega) v hv (by omega) ?_); clear hS; intro bm w hMA; rw [hmu'.out] at hMA; obtain ⟨T, ms, w0, bs, M, p, bv, vs, us, E, Er, Em, hB, hS, hT, hvs, hus, hWo⟩ := hMA; unfold Ret) | (go_at_call 14; go_must (refine ar_heap hS hT ?_); clear hS; intro ph Eh w _ hH hS; unfold Ret) | (go_at_call 20; go_must (refine ar_globals hS hT (T.2.2.filter nzR) rfl ?_); clear hS; intro vg Eg w _ hvg hS; have hone3 := hvg.one; unfold Ret) | (refine wpList_is (.call { callee := .builtin .len, args := #[_], argTypes := #[_] }) rfl ?_; refine wpList_stp (by kernel_rfl) (stp_val (run_lenv _ _ rfl) ?_)) | (refine wpList_is (.load _ _) rfl ?_; go_must ((refine wpList_stp (by kernel_rfl) (stp_val (run_ld _ _ rfl hS) ?_)))))
  obtain ⟨cn, hcn⟩ : ∃ c, ms.length = c := ⟨_, rfl⟩
  have hcn0 : cn ≤ 256 := by have := hWo.ms_le (by omega); have h2 := hWo.mo.w.hi; have h3 := hWo.len; omega
  have hcn1 : Hid ((alH (HL T.1)).length = cn) := Lib.hid (by rw [(hWo.cnt (by omega)).1]; exact hcn)
  have lx := rv_len (bv := bv) (mu := mu)
  have hgk : ∀ r ∈ T.2.2.filter nzR, r ∈ kyM ms := fun r hr => by
    obtain ⟨h1, h2⟩ := List.mem_filter.1 hr
    rcases hWo.gin r h1 with e | e
    · rw [e] at h2; cases h2
    · exact e
  have hg8 : (T.2.2.filter nzR).length ≤ 8 := Nat.le_trans (List.length_filter_le _ _) (by rw [hWo.g8]; exact Nat.le_refl _)
  have hWo' := Lib.hid hWo
  have hgk' := Lib.hid hgk
  have hB0 := hB
  clear hcn hWo hgk hvs hus
  go_loopw [9, 10] (fun s1 u wr => ∃ (i : Nat) (vn : Value) (ln : List Rf) (En : List Ent), i ≤ mu ∧ s1 = vn ∧ u = .int .i64 i ∧ RS vn ln En ∧ (∀ r ∈ ln, r ∈ kyM ms) ∧ ln.length ≤ 8 + 32 * i ∧ St w0 bs wr (En ++ (wdE bm p M bv mu T.2.2 :: rvE bv vs :: (Eh ++ (E ++ (Er ++ (Em ++ []))))))) (fun _ u _ => mu - (intOf u).toNat)
  case atStart => exact ⟨0, vg, _, Eg, Nat.zero_le _, rfl, rfl, hvg, hgk'.out, by omega, hS.pick⟩
  case round =>
    clear hS
    obtain ⟨i, vn, ln, En, hi, hvn0, rfl, hvn, hky, hlb, hS⟩ := hrel
    replace hvn0 := hvn0.symm; subst hvn0
    have hone := hvn.one
    by_cases hlt : i < mu
    · have dlt : decide ((i : Int) < (mu : Int)) = true := decide_eq_true (by omega)
      have dlt' : decide (i < mu) = true := decide_eq_true hlt
      have hst : (if inM T i then rtL T i else []) = rtL T i := by rw [hWo'.out.inM hlt]; rfl
      have hme : muE T i = 0 := by unfold muE; rw [hWo'.out.inM hlt]; rfl
      have h32 : (rtL T i).length ≤ 32 := hWo'.out.r32 _ (hWo'.out.rtl hlt)
      have hst' := Lib.hid hst
      have hme' := Lib.hid hme
      clear hst hme
      go_wp2_with (first | (go_at_call 17; go_must (refine ar_stack hS hT i (rtL T i) 0 hst'.out hme'.out ?_); clear hS; intro vl El w _ hvl hS; have hone2 := hvl.one; unfold Ret) | (refine wpList_is (.call { callee := .builtin .append, args := #[_, _], argTypes := #[_, _] }) rfl ?_; go_must (refine wpList_stp (by kernel_rfl) (stp_apR _ _ _ _ rfl rfl rfl hS hvn hvl (by omega) ?_)); clear hS; intro v2 E2 w hv2 hS; have hone4 := hv2.one) | (refine wpList_is (.call { callee := .builtin .len, args := #[_], argTypes := #[_] }) rfl ?_; refine wpList_stp (by kernel_rfl) (stp_val (run_lenv _ _ rfl) ?_)) | (refine wpList_is (.load _ _) rfl ?_; go_must ((refine wpList_stp (by kernel_rfl) (stp_val (run_ld _ _ rfl hS) ?_)))))
      go_roundw
      case rel =>
        refine ⟨i + 1, v2, ln ++ rtL T i, E2, by omega, rfl, by go_num, hv2, fun r hr => ?_, by rw [List.length_append]; omega, hS.pick⟩
        rcases List.mem_append.1 hr with hr | hr
        · exact hky r hr
        · exact hWo'.out.rin _ (hWo'.out.rtl hlt) r hr
      case measure => simp [intOf]; omega
    · have dlt : decide ((i : Int) < (mu : Int)) = false := decide_eq_false (by omega)
      have dlt' : decide (i < mu) = false := decide_eq_false hlt
      go_wp2_with (first | (go_at_call 21; go_must (refine hp_all hS hH _ rfl ?_); clear hS; intro va Ea w hva hS; have hone5 := hva.one; have hln5 := hva.len hcn1.out; unfold Ret) | (refine wpList_is (.call { callee := .builtin .len, args := #[_], argTypes := #[_] }) rfl ?_; refine wpList_stp (by kernel_rfl) (stp_val (run_lenv _ _ rfl) ?_)) | (refine wpList_is (.load _ _) rfl ?_; go_must ((refine wpList_stp (by kernel_rfl) (stp_val (run_ld _ _ rfl hS) ?_)))))
      have hlb4 : ln.length ≤ 136 := by omega
      obtain ⟨ln0, hln0⟩ : ∃ q, ln = q := ⟨_, rfl⟩
      rw [hln0] at hvn hky hlb4
      clear hlb hln0
      obtain ⟨wo, hwo⟩ : ∃ wo : World, wo = w := ⟨_, rfl⟩
      clear hwo
      go_loopw [9, 14] (fun s1 u wr => ∃ (q : Nat) (vn : Value) (ln : List Rf) (En : List Ent), q ≤ cn ∧ s1 = vn ∧ u = .int .i64 q ∧ RS vn ln En ∧ (∀ r ∈ ln, r ∈ kyM ms) ∧ ln.length ≤ 136 + 4 * q ∧ St w0 bs wr (En ++ (wdE bm p M bv mu T.2.2 :: rvE bv vs :: (Eh ++ (Ea ++ (E ++ (Er ++ (Em ++ [])))))))) (fun _ u _ => cn - (intOf u).toNat)
      case atStart => exact ⟨0, _, ln0, En, Nat.zero_le _, rfl, rfl, hvn, hky, by omega, hS.pick⟩
      case round =>
        clear hS hvn hky hlb4 hone
        obtain ⟨q, vn, ln, En, hq, hvn0, rfl, hvn, hky, hlb, hS⟩ := hrel
        replace hvn0 := hvn0.symm; subst hvn0
        have hone := hvn.one
        by_cases hqt : q < cn
        · have dqt : decide ((q : Int) < (cn : Int)) = true := decide_eq_true (by omega)
          have dqt' : decide (q < cn) = true := decide_eq_true hqt
          have hql : q < (alH (HL T.1)).length := by rw [hcn1.out]; exact hqt
          obtain ⟨⟨rs, rg⟩, hx⟩ : ∃ x, (alH (HL T.1)).getD q (0, 0) = x := ⟨_, rfl⟩
          obtain ⟨gl, sl, il, hHl, cl⟩ := hva.at hql hx
          have il := il q rfl
          simp only at cl
          have hrm : (rs, rg) ∈ kyM ms := hWo'.out.alm (by rw [← hx, List.getD_eq_getElem?_getD, List.getElem?_eq_getElem hql]; exact List.getElem_mem hql)
          obtain ⟨j, b0, l, hj, hob, hl4⟩ := hWo'.out.ent hrm
          have hck := hob.ck
          have hon := hob.n
          have hfd := hob.fd
          have hobW : ObW (obAt (HL T.1) rs) := by
            obtain ⟨z, q1, q2, _⟩ := hWo'.out.mo.rg hrm
            have hl := hWo'.out.len
            simp only at q1
            rw [q1, obAt_at, List.getD_eq_getElem?_getD, List.getElem?_eq_getElem (by omega)]
            exact hWo'.out.mo.w.ob _ (List.getElem_mem _)
          simp only at hck hon hfd
          have hobr : obR (HL T.1) rs rg = obAt (HL T.1) rs := by unfold obR; rw [if_pos hck]
          obtain ⟨o, ho⟩ : ∃ o, obAt (HL T.1) rs = o := ⟨_, rfl⟩
          rw [ho] at hon hfd hobW hobr
          obtain ⟨oN, oF, oH⟩ := o
          simp only at hon hfd
          subst hon
          have hF4 : oF.length = 4 := hobW.len
          have hcO := objOver (n := 0) (n' := l.length) (h := false) (h' := oH) (F := zero4) rfl hF4
          have hcZ := objSize (n := l.length) (h := oH) hF4
          have hck' := Lib.hid hck
          have ho' := Lib.hid hobr
          have hfd' := Lib.hid hfd
          have hF4' := Lib.hid hF4
          have hj' := Lib.hid hj
          clear hck hfd hobW hobr ho hj hF4 hx hql hrm hob
          go_wp2_with ((refine wpList_is (.call { callee := .builtin .len, args := #[_], argTypes := #[_] }) rfl ?_; refine wpList_stp (by kernel_rfl) (stp_val (run_lenv _ _ rfl) ?_)))
          have hS : St w0 bs _ (En ++ (wdE bm p M bv mu T.2.2 :: rvE bv vs :: (Eh ++ (Ea ++ (E ++ (Er ++ (Em ++ []))))))) := hS.pick
          refine region_itemsE [⟨(undef, []), [(12, fun _ x => ∃ b, x = (.pointer (some ⟨b, 0, none⟩), [⟨b, objC 0 zero4 false, 54, true⟩])), (13, fun y x => ∃ b, y.1 = .pointer (some ⟨b, 0, none⟩) ∧ x.2 = [⟨b, objC l.length oF oH, 54, true⟩])]⟩]
            (En ++ (wdE bm p M bv mu T.2.2 :: rvE bv vs :: (Eh ++ (Ea ++ (E ++ (Er ++ (Em ++ []))))))) (En ++ (wdE bm p M bv mu T.2.2 :: rvE bv vs :: (Eh ++ (Ea ++ (E ++ (Er ++ (Em ++ []))))))) (by simp) hS (by kernel_rfl) (by kernel_rfl) ?_
          refine fx_val (fun _ => rfl) rfl (fun χ w hw => run_mv _ rfl) ?_
          refine fx_val (fun _ => rfl) rfl (fun χ w hw => run_nc _ rfl) ?_
          refine fx_val (fun _ => rfl) rfl (fun χ w hw => run_fa _ _ _ rfl) ?_
          (refine fx_val (fun _ => rfl) rfl (fun χ w hw => run_ld _ _ rfl hw) ?_)
          refine fx_val (fun _ => rfl) rfl (fun χ w hw => run_mv _ rfl) ?_
          refine fx_val (fun _ => rfl) rfl (fun χ w hw => run_mv _ rfl) ?_
          refine fx_val (fun _ => rfl) rfl (fun χ w hw => run_idxv _ _ _ rfl) ?_
          (refine fx_val (fun _ => rfl) rfl (fun χ w hw => run_lda _ _ rfl hw) ?_)
          refine fx_ask 22 [_, _] _ rfl (fun _ => rfl) rfl (enters _ (by kernel_rfl)) (.tuple #[.agg (objC l.length oF oH), .int .i64 0]) (fun X w hS => ar_object hS hT rs rg (l.length, oF, oH) 0 ho'.out hck'.out (fun w' _ hS' => ⟨rfl, hS'.pick⟩)) ?_
          refine fx_val (fun _ => rfl) rfl (fun χ w hw => run_mv _ rfl) ?_
          refine fx_val (fun _ => rfl) rfl (fun χ w hw => run_ext _ _ rfl) ?_
          refine fx_val (fun _ => rfl) rfl (fun χ w hw => run_ext _ _ rfl) ?_
          refine fx_turn0 0 0 rfl rfl (by kernel_rfl) (by kernel_rfl) (by kernel_rfl) (fun _ => rfl) (fun x => x.1) ?_ ?_
          · intro χ X w _ hS
            exact stepX_al _ rfl (show St w0 bs w (X ++ _) from hS) (fun b w' _ hS' => ⟨(_, [_]), rfl, ⟨b, rfl⟩, hS'⟩)
          refine fx_turn0 0 1 rfl rfl (by kernel_rfl) (by kernel_rfl) (by kernel_rfl) (fun _ => rfl) (fun _ => undef) ?_ ?_
          · rintro χ X w ⟨⟨b, hb⟩, _⟩ hS
            have hS : St w0 bs w ((χ 12).2 ++ (X ++ _)) := hS
            rw [hb] at hS
            have hS : St w0 bs w (⟨b, objC 0 zero4 false, 54, true⟩ :: (X ++ _)) := hS
            have hb1 : (χ 12).1 = .pointer (some ⟨b, 0, none⟩) := by rw [hb]
            exact stepX_stb _ _ _ rfl hS hb1 (fun w' hS' => ⟨(undef, [⟨b, objC l.length oF oH, 54, true⟩]), rfl, ⟨b, hb1, rfl⟩, hS'⟩)
          refine fx_val (fun _ => rfl) rfl (fun χ w hw => run_as _ rfl) ?_
          refine fx_end rfl ?_
          intro χ w hok hS
          obtain ⟨⟨bo, hb⟩, ⟨bo', hb1, hb2⟩, _⟩ := hok _ (.head _)
          rw [hb] at hb1
          obtain ⟨⟩ := hb1
          have hS : St w0 bs w (((χ 13).2 ++ []) ++ (En ++ (wdE bm p M bv mu T.2.2 :: rvE bv vs :: (Eh ++ (Ea ++ (E ++ (Er ++ (Em ++ [])))))))) := hS
          rw [hb2, List.append_nil] at hS
          simp only [hb]
          simp only [List.cons_append, List.nil_append] at hS
          clear hok hb2 hb
          go_wp2_with ((go_skip))
          obtain ⟨ln0, hln0⟩ : ∃ q, ln = q := ⟨_, rfl⟩
          rw [hln0] at hvn hky hlb
          clear hln0
          obtain ⟨wo, hwo⟩ : ∃ wo : World, wo = w := ⟨_, rfl⟩
          clear hwo
          go_loopw [9, 17] (fun s1 u wr => ∃ (kk : Nat) (vn : Value) (ln : List Rf) (En : List Ent), kk ≤ l.length ∧ s1 = vn ∧ u = .int .i64 kk ∧ RS vn ln En ∧ (∀ r ∈ ln, r ∈ kyM ms) ∧ ln.length ≤ 136 + 4 * q + kk ∧ St w0 bs wr (En ++ (⟨bo, objC l.length oF oH, 54, true⟩ :: (wdE bm p M bv mu T.2.2 :: rvE bv vs :: (Eh ++ (Ea ++ (E ++ (Er ++ (Em ++ []))))))))) (fun _ u _ => l.length - (intOf u).toNat)
          case atStart => exact ⟨0, _, ln0, En, Nat.zero_le _, rfl, rfl, hvn, hky, by omega, hS.pick⟩
          case round =>
            clear hS hvn hky hlb hone hcO
            obtain ⟨kk, vn, ln, En, hkk, hvn0, rfl, hvn, hky, hlb, hS⟩ := hrel
            replace hvn0 := hvn0.symm; subst hvn0
            have hone := hvn.one
            by_cases hkl : kk < l.length
            · have e1 : decide ((kk : Int) < (l.length : Int)) = true := decide_eq_true (by omega)
              have e1' : decide (kk < l.length) = true := decide_eq_true hkl
              have hix := idxArr (P := Try.prog) (t := 52) (m := 4) (z := 2) (e := 29) (b := bo) (off := 0 + 1) (by kernel_rfl) (by kernel_rfl) (show kk < 4 by omega)
              obtain ⟨⟨y1, y2⟩, hy⟩ : ∃ y, l.getD kk (0, 0) = y := ⟨_, rfl⟩
              have hyF : oF.getD kk (0, 0) = (y1, y2) := by rw [hfd'.out kk hkl]; exact hy
              have hyF2 : oF[kk]? = some (y1, y2) := by
                have h := hF4'.out
                rw [← hyF, List.getD_eq_getElem?_getD, List.getElem?_eq_getElem (by omega)]; rfl
              have c1 : CellsAt (objC l.length oF oH) (0 + 1 + kk * 2) 2 #[.int .i64 y1, .int .u32 y2] := by simpa using objFd hyF2
              have hyk := hWo'.out.fd hj'.out hkl
              rw [hy] at hyk
              have hyk' := Lib.hid hyk
              clear hyF hyF2 hy hyk
              have hsl : Sl 29 2 vn ln.length (ln.flatMap slf) En := hvn
              cases hb0 : refB y1 y2 0 0 with
              | true =>
                have qg := refE hb0
                clear hb0
                go_wp2_with (first | (refine wpList_is (.load 29 _) rfl ?_; refine wpList_stp (by kernel_rfl) (stp_val (run_lda _ _ rfl hS) ?_)) | (refine wpList_is (.binOp .neq 29 _ _ _) rfl ?_; refine wpList_stp (by kernel_rfl) (stp_val (run_ane _ _ _ _ rfl) ?_)) | (refine wpList_is (.indexAddr _ _ _) rfl ?_; refine wpList_stp (by kernel_rfl) (stp_val (run_idxv _ _ _ rfl) ?_)) | (refine wpList_is (.build _ _) rfl ?_; go_must (refine wpList_stp (by kernel_rfl) (stp_val (run_bd _ _ rfl) ?_))) | (refine wpList_is (.load _ _) rfl ?_; go_must ((refine wpList_stp (by kernel_rfl) (stp_val (run_ld _ _ rfl hS) ?_)))))
                go_roundw
                case rel => exact ⟨kk + 1, _, ln, En, by omega, rfl, by go_num, hvn, hky, by omega, hS.pick⟩
                case measure => simp [intOf]; omega
              | false =>
                have qg := refE hb0
                have hyk2 : (y1, y2) ∈ kyM ms := by
                  rcases hyk'.out with e | e
                  · rw [Prod.mk.injEq] at e
                    rw [e.1, e.2] at hb0
                    cases hb0
                  · exact e
                have hyk2' := Lib.hid hyk2
                clear hb0 hyk2
                go_wp2_with (first | (refine wpList_is (.buildSlice _ _ _) rfl ?_; go_must (refine wpList_stp (by kernel_rfl) (stp_bsl (size := 2) (e := 29) _ 1 [(0, _)] rfl hS (by decide) rfl (by decide) (by decide) ?_)); clear hS; intro bN w hbN hS) | (refine wpList_is (.call { callee := .builtin .append, args := #[_, _], argTypes := #[_, _] }) rfl ?_; go_must (refine wpList_stp (by kernel_rfl) (stp_ap _ _ _ _ rfl rfl hS (by rfl) hsl (by rfl) (by simp only [maxLen]; omega) (by omega) ?_)); clear hS; intro v' E' w hsl' hne hS; have hone := hsl'.one) | (refine wpList_is (.load 29 _) rfl ?_; refine wpList_stp (by kernel_rfl) (stp_val (run_lda _ _ rfl hS) ?_)) | (refine wpList_is (.binOp .neq 29 _ _ _) rfl ?_; refine wpList_stp (by kernel_rfl) (stp_val (run_ane _ _ _ _ rfl) ?_)) | (refine wpList_is (.indexAddr _ _ _) rfl ?_; refine wpList_stp (by kernel_rfl) (stp_val (run_idxv _ _ _ rfl) ?_)) | (refine wpList_is (.build _ _) rfl ?_; go_must (refine wpList_stp (by kernel_rfl) (stp_val (run_bd _ _ rfl) ?_))) | (refine wpList_is (.load _ _) rfl ?_; go_must ((refine wpList_stp (by kernel_rfl) (stp_val (run_ld _ _ rfl hS) ?_)))))
                go_roundw
                case rel =>
                  refine ⟨kk + 1, v', ln ++ [(y1, y2)], E', by omega, rfl, by go_num, RS.snoc (x := (y1, y2)) hsl', fun r hr => ?_, by simp; omega, hS.pick⟩
                  rcases List.mem_append.1 hr with hr | hr
                  · exact hky r hr
                  · rw [List.mem_singleton] at hr; subst hr; exact hyk2'.out
                case measure => simp [intOf]; omega
            · have e1 : decide ((kk : Int) < (l.length : Int)) = false := decide_eq_false (by omega)
              have e1' : decide (kk < l.length) = false := decide_eq_false hkl
              go_wp2_with ((refine wpList_is (.load _ _) rfl ?_; go_must ((refine wpList_stp (by kernel_rfl) (stp_val (run_ld _ _ rfl hS) ?_)))))
              go_roundw
              case rel => exact ⟨q + 1, _, ln, En, by omega, rfl, by go_num, hvn, hky, by omega, hS.pick⟩
              case measure => simp [intOf]; omega
        · have dqt : decide ((q : Int) < (cn : Int)) = false := decide_eq_false (by omega)
          have dqt' : decide (q < cn) = false := decide_eq_false hqt
          obtain ⟨nn, hnn⟩ : ∃ q, ln.length = q := ⟨_, rfl⟩
          have hln := hvn.len hnn
          have hnn' := Lib.hid hnn
          have hnb : nn ≤ 2000 := by omega
          clear hnn hlb
          go_wp2_with ((refine wpList_is (.call { callee := .builtin .len, args := #[_], argTypes := #[_] }) rfl ?_; refine wpList_stp (by kernel_rfl) (stp_val (run_lenv _ _ rfl) ?_)))
          obtain ⟨wo, hwo⟩ : ∃ wo : World, wo = wr := ⟨_, rfl⟩
          clear hwo
          go_loopw [18] (fun u wr => ∃ (x : Nat) (_ : Unit), x ≤ nn ∧ u = .int .i64 x ∧ St w0 bs wr (En ++ (wdE bm p M bv mu T.2.2 :: rvE bv vs :: (Eh ++ (Ea ++ (E ++ (Er ++ (Em ++ [])))))))) (fun u _ => nn - (intOf u).toNat)
          case atStart => exact ⟨0, (), Nat.zero_le _, rfl, hS.pick⟩
          case round =>
            clear hS
            obtain ⟨x, _, hx, rfl, hS⟩ := hrel
            by_cases hxt : x < nn
            · have dqt : decide ((x : Int) < (nn : Int)) = true := decide_eq_true (by omega)
              have dqt' : decide (x < nn) = true := decide_eq_true hxt
              have hxl : x < ln.length := by rw [hnn'.out]; exact hxt
              obtain ⟨⟨x1, x2⟩, hxx⟩ : ∃ y, ln.getD x (0, 0) = y := ⟨_, rfl⟩
              obtain ⟨gq, sq, iq, hHq, cq⟩ := hvn.at hxl hxx
              have iq := iq x rfl
              simp only at cq
              have hxm : (x1, x2) ∈ kyM ms := hky _ (by rw [← hxx, List.getD_eq_getElem?_getD, List.getElem?_eq_getElem hxl]; exact List.getElem_mem hxl)
              have hhs : hasH (HL T.1) x1 x2 = true := by
                obtain ⟨_, _, _, _, hob, _⟩ := hWo'.out.ent hxm
                have := hob.ck
                unfold hasH
                simp only at this
                rw [this]; rfl
              have hhs' := Lib.hid hhs
              clear hxx hxl hxm hhs
              go_wp2_with (first | (go_at_call 23; go_must (refine hp_has hS hH x1 x2 true hhs'.out ?_); clear hS; intro w _ hS; unfold Ret) | (refine wpList_is (.load 29 _) rfl ?_; refine wpList_stp (by kernel_rfl) (stp_val (run_lda _ _ rfl hS) ?_)) | (refine wpList_is (.call { callee := .builtin .len, args := #[_], argTypes := #[_] }) rfl ?_; refine wpList_stp (by kernel_rfl) (stp_val (run_lenv _ _ rfl) ?_)) | (refine wpList_is (.indexAddr _ _ _) rfl ?_; refine wpList_stp (by kernel_rfl) (stp_val (run_idxv _ _ _ rfl) ?_)))
              go_roundw
              case rel => exact ⟨x + 1, (), by omega, by go_num, hS.pick⟩
              case measure => simp [intOf]; omega
            · have dqt : decide ((x : Int) < (nn : Int)) = false := decide_eq_false (by omega)
              have dqt' : decide (x < nn) = false := decide_eq_false hxt
              have hS2 := hB0.stw hS
              clear hS
              have hS := hS2
              clear hS2
              go_wp2_with (first | (go_at_call 18; refine works_ok hS ?_; clear hS; intro w hS; unfold Ret) | (refine wpList_is (.call { callee := .builtin .len, args := #[_], argTypes := #[_] }) rfl ?_; refine wpList_stp (by kernel_rfl) (stp_val (run_lenv _ _ rfl) ?_)))
              exact hR _ hS.chg
end Go.Proofs.Ytjlihigodggfcaa
