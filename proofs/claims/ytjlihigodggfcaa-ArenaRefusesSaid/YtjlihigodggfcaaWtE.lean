/-
  Arenas with what the statements know of them: the turns that store in a field.
-/
import Derived.Test.YtjlihigodggfcaaWnx
set_option linter.unusedSimpArgs false
set_option linter.unusedVariables false
namespace Go.Proofs.Ytjlihigodggfcaa
open Go Go.RowKit Go.Mm
variable {R : Ending → World → Prop} {w : World} {H1 : List Ent}
set_option maxHeartbeats 4000000 in
set_option maxRecDepth 100000 in
theorem wt_stR2 {W : World} {bm n mu k : Nat} {H : List Ent} {T : Ar} {ms : List Me} (hk : k ≤ 400) (hX : WX W bm n mu k H w T ms) (hmu : 1 ≤ mu ∧ mu ≤ 4) (a mb i b c : Nat) (ha : a ≤ 255) (hmb : mb ≤ 255) (hi : i ≤ 255) (hb : b ≤ 255) (hc : c ≤ 255) (h0 : a % 8 = 2) (hpos : 0 < (rtL T (mb % mu : Nat)).length) (hcase : ∀ (j b0 : Nat) (l : List Rf), ms[j]? = some ((rtL T (mb % mu : Nat)).getD (i % (rtL T (mb % mu : Nat)).length) (0, 0), b0, l) → l.length ≤ b % 4)
    (hR : ∀ w', WX W bm n mu (k + 1) H w' (nxT n mu T ms a mb i b c).1 (nxT n mu T ms a mb i b c).2 → Ret R (.bool true) w') : Calls Try.prog 31 #[.pointer (some ⟨bm, 0, none⟩), .agg #[.int .u8 a, .int .u8 mb, .int .u8 i, .int .u8 b, .int .u8 c]] w R := by
  obtain ⟨w0, bs, M, p, bv, vs, us, E, Er, Em, hB, hS, hT, hvs, hus, hWo⟩ := hX
  have hlv : vs.length = mu := by rw [hvs.len]; exact hWo.mu
  have hlu : us.length = ms.length := by rw [hus.len]; simp
  obtain ⟨m, hm⟩ : ∃ q, mb % mu = q := ⟨_, rfl⟩
  have hml : m < mu := by rw [← hm]; exact Nat.mod_lt _ (by omega)
  have rm : RemIs (mb : Int) (mu : Int) (m : Int) := ⟨by rw [Int.tmod_eq_emod_of_nonneg (by omega)]; omega, by omega⟩
  have smb : Small (mb : Int) := ⟨by omega, by omega⟩
  have si : Small (i : Int) := ⟨by omega, by omega⟩
  have sb : Small (b : Int) := ⟨by omega, by omega⟩
  have sc : Small (c : Int) := ⟨by omega, by omega⟩
  have ix := rv_idx (bv := bv) hml
  have lx := rv_len (bv := bv) (mu := mu)
  obtain ⟨v, E1, e, E2, hv1, rfl, hv, hset⟩ := hvs.at m _ (hWo.rtq hml)
  simp only [List.append_assoc] at hS
  obtain ⟨nr, hnr⟩ : ∃ q, (rtL T m).length = q := ⟨_, rfl⟩
  have hn32 : nr ≤ 32 := hnr ▸ hWo.r32 _ (hWo.rtl hml)
  have hln : LenV Try.prog 44 v nr := hv.len hnr
  have hone := hv.one
  have cv := cellV hv1
  obtain ⟨g, hg⟩ : ∃ q, b % 8 = q := ⟨_, rfl⟩
  have hg8 : g < 8 := by omega
  have rg : RemIs (b : Int) 8 (g : Int) := ⟨by rw [Int.tmod_eq_emod_of_nonneg (by omega)]; omega, by decide⟩
  obtain ⟨a8, ha8⟩ : ∃ q, a % 8 = q := ⟨_, rfl⟩
  have ra : RemIs (a : Int) 8 (a8 : Int) := ⟨by rw [Int.tmod_eq_emod_of_nonneg (by omega)]; omega, by decide⟩
  have qz := refE (refB_self 0 0)
  have hWo' := Lib.hid hWo
  have hvs' := Lib.hid hvs
  have hus' := Lib.hid hus
  have hset' := Lib.hid hset
  have hv1' := Lib.hid hv1
  have hlv' := Lib.hid hlv
  have hlu' := Lib.hid hlu
  have hnr' := Lib.hid hnr
  obtain rfl : a8 = 2 := by omega
  have hn0 : 0 < nr := by rw [hm] at hpos; omega
  have z0 : ((nr : Int) == 0) = false := beq_eq_false_iff_ne.2 (by omega)
  have z0' : decide ((nr : Int) = 0) = false := decide_eq_false (by omega)
  have z0'' : decide (nr = 0) = false := decide_eq_false (by omega)
  obtain ⟨q, hq⟩ : ∃ q, i % nr = q := ⟨_, rfl⟩
  have hqn : q < nr := by rw [← hq]; exact Nat.mod_lt _ hn0
  have rq : RemIs (i : Int) (nr : Int) (q : Int) := ⟨by rw [Int.tmod_eq_emod_of_nonneg (by omega)]; omega, by omega⟩
  have hql : q < (rtL T m).length := by rw [hnr]; exact hqn
  obtain ⟨⟨x1, x2⟩, hx⟩ : ∃ x, (rtL T m).getD q (0, 0) = x := ⟨_, rfl⟩
  obtain ⟨gq, sq, iq, hHq, cq⟩ := hv.at hql hx
  have iq := iq q rfl
  simp only at cq
  have hmem : (x1, x2) ∈ kyM ms := hx ▸ (hWo.rt hml hql).2.2
  obtain ⟨j, b0, l, hj, hob, hl4⟩ := hWo.ent hmem
  obtain ⟨u, Em1, eu, Em2, hu1, rfl, hu, huset⟩ := hus.at j l (by simp [mpF, hj])
  simp only [List.append_assoc] at hS
  obtain ⟨nl, hnl⟩ : ∃ q, l.length = q := ⟨_, rfl⟩
  have hlnu : LenV Try.prog 44 u nl := hu.len hnl
  have honeu := hu.one
  have hlk : ∀ w H, St w0 bs w H → LookIs Try.prog w 25 M #[.int .i64 x1, .int .u32 x2] false u := fun w H hS => look_mp (hB.now hS) hWo.mo.ks hj hu1 rfl false
  obtain ⟨f, hfb⟩ : ∃ q, b % 4 = q := ⟨_, rfl⟩
  have rf : RemIs (b : Int) 4 (f : Int) := ⟨by rw [Int.tmod_eq_emod_of_nonneg (by omega)]; omega, by decide⟩
  have hj' := Lib.hid hj
  have hu1' := Lib.hid hu1
  have huset' := Lib.hid huset
  have hql' := Lib.hid hql
  have hnl' := Lib.hid hnl
  have hl4' := Lib.hid hl4
  have hks' := Lib.hid hWo.mo.ks
  have hle' := Lib.hid (hWo.r32 _ (hWo.rtl hml))
  have hcs := hcase j b0 l (by rw [hm, hnr, hq, hx]; exact hj)
  rw [hfb] at hcs
  have hfo : nl ≤ f := by omega
  have df : decide ((f : Int) < (nl : Int)) = false := decide_eq_false (by omega)
  have df' : decide (f < nl) = false := decide_eq_false (by omega)
  obtain ⟨q2, hq2⟩ : ∃ q, c % nr = q := ⟨_, rfl⟩
  have hq2n : q2 < nr := by rw [← hq2]; exact Nat.mod_lt _ hn0
  have rq2 : RemIs (c : Int) (nr : Int) (q2 : Int) := ⟨by rw [Int.tmod_eq_emod_of_nonneg (by omega)]; omega, by omega⟩
  have hq2l : q2 < (rtL T m).length := by rw [hnr]; exact hq2n
  obtain ⟨⟨d1, d2⟩, hd⟩ : ∃ x, (rtL T m).getD q2 (0, 0) = x := ⟨_, rfl⟩
  obtain ⟨gd, sd, id', hHd, cd⟩ := hv.at hq2l hd
  have id' := id' q2 rfl
  simp only at cd
  obtain ⟨h1, h2, h3, h4⟩ := (hWo.store hml hql hx hj hob f (c := (q2 : Int)) (v := (d1, d2)) (.inr ⟨q2, rfl, hq2l, hd⟩)).1 (by omega)
  have h1' := Lib.hid h1
  have h2' := Lib.hid h2
  have h3' := Lib.hid h3
  have h4' := Lib.hid h4
  have hnx := Lib.hid (show nxT n mu T ms a mb i b c = (T, ms) from by rw [nxT, if_neg (by omega), if_neg (by omega), if_neg (by omega), if_neg (by omega), if_neg (by omega), if_neg (by omega), if_neg (by omega), hm, hnr, hq, hfb, if_pos (by omega), hq2, h1, stM_out hWo.mo.ks hj hx (by omega)])
  clear h1 h2 h3 h4 hcs hcase
  clear hq2 hd hq2l
  clear hq hx hmem hj hob hl4 hu1 huset hnl hfb hpos hql
  clear hm hg hWo hvs hus hset hv1 hlv hlu hnr
  go_enter Try.func31, Try.ntmps31
  go_wp2_with ((refine wpList_is (.box 80 _) rfl ?_; go_must (refine wpList_stp (by kernel_rfl) (stp_bx _ _ rfl hS ?_)); clear hS; intro bt w _ hS))
  refine region_quiet hS (by kernel_rfl) (by kernel_rfl) (fun hne => ?_)
  go_big_quiet_want; (refine quiet_is (.fieldAddr _ _ _) rfl ?_; refine quiet_val (fun w _ => run_fa _ _ _ rfl) ?_; go_big_quiet_on)
  go_big_quiet_want; ((refine quiet_is (.load _ _) rfl ?_; refine quiet_at sw_st (fun w hS => run_ld _ _ rfl hS) ?_; go_big_quiet_on))
  go_big_quiet_want; (refine quiet_is (.convert _ _ _) rfl ?_; refine quiet_val (fun w _ => run_cvn _ _ _ rfl) ?_; go_big_quiet_on)
  go_big_quiet_want; (refine quiet_is (.move _) rfl ?_; refine quiet_val (fun w _ => run_mv _ rfl) ?_; go_big_quiet_on)
  go_big_quiet_want; (refine quiet_is (.nilCheck _) rfl ?_; refine quiet_val (fun w _ => run_nc _ rfl) ?_; go_big_quiet_on)
  go_big_quiet_want; (refine quiet_is (.fieldAddr _ _ _) rfl ?_; refine quiet_val (fun w _ => run_fa _ _ _ rfl) ?_; go_big_quiet_on)
  go_big_quiet_want; ((refine quiet_is (.load _ _) rfl ?_; refine quiet_at sw_st (fun w hS => run_ld _ _ rfl hS) ?_; go_big_quiet_on))
  go_big_quiet_want; (refine quiet_is (.call { callee := .builtin .len, args := #[_], argTypes := #[_] }) rfl ?_; refine quiet_val (fun w _ => run_lenv _ _ rfl) ?_; go_big_quiet_on)
  go_big_quiet_want; (refine quiet_is (.binOp .rem _ _ _ _) rfl ?_; refine quiet_val (fun w _ => run_remv _ _ _ _ rfl) ?_; go_big_quiet_on)
  go_big_quiet_want; (refine quiet_is (.assign _) rfl ?_; refine quiet_val (fun w _ => run_as _ rfl) ?_; go_big_quiet_on)
  refine wpQuiet_nil ?_
  clear hS hne
  intro w hS
  go_wp2_with (first | (refine wpList_is (o := ⟨some 9, _, _, _, _, _⟩) (.alloc _) rfl ?_; go_must (refine wpList_stp (by kernel_rfl) (stp_al _ rfl hS ?_)); clear hS; intro bz w _ hS) | (refine wpList_is (o := ⟨some 23, _, _, _, _, _⟩) (.alloc _) rfl ?_; go_must (refine wpList_stp (by kernel_rfl) (stp_al _ rfl hS ?_)); clear hS; intro b23 w _ hS) | (refine wpList_is (.load 29 _) rfl ?_; refine wpList_stp (by kernel_rfl) (stp_val (run_lda _ _ rfl hS) ?_)) | (refine wpList_is (.convert _ _ _) rfl ?_; refine wpList_stp (by kernel_rfl) (stp_val (run_cvn _ _ _ rfl) ?_)) | (refine wpList_is (.binOp .rem _ _ _ _) rfl ?_; refine wpList_stp (by kernel_rfl) (stp_val (run_remv _ _ _ _ rfl) ?_)) | (refine wpList_is (.call { callee := .builtin .len, args := #[_], argTypes := #[_] }) rfl ?_; refine wpList_stp (by kernel_rfl) (stp_val (run_lenv _ _ rfl) ?_)) | (refine wpList_is (.indexAddr _ _ _) rfl ?_; refine wpList_stp (by kernel_rfl) (stp_val (run_idxv _ _ _ rfl) ?_)) | (refine wpList_is (.build _ _) rfl ?_; go_must (refine wpList_stp (by kernel_rfl) (stp_val (run_bd _ _ rfl) ?_))) | (refine wpList_is (.load _ _) rfl ?_; go_must ((refine wpList_stp (by kernel_rfl) (stp_val (run_ld _ _ rfl hS) ?_)))) | (refine wpList_is (.store _ _ _) rfl ?_; go_must ((refine wpList_stp (by kernel_rfl) (stp_sta _ _ _ rfl hS ?_))); clear hS; intro w hS))
  go_wp2_with ((go_skip))
  refine region_quiet hS (by kernel_rfl) (by kernel_rfl) (fun hne => ?_)
  go_big_quiet_want; (refine quiet_is (.move _) rfl ?_; refine quiet_val (fun w _ => run_mv _ rfl) ?_; go_big_quiet_on)
  go_big_quiet_want; (refine quiet_is (.move _) rfl ?_; refine quiet_val (fun w _ => run_mv _ rfl) ?_; go_big_quiet_on)
  go_big_quiet_want; (refine quiet_is (.nilCheck _) rfl ?_; refine quiet_val (fun w _ => run_nc _ rfl) ?_; go_big_quiet_on)
  go_big_quiet_want; (refine quiet_is (.fieldAddr _ _ _) rfl ?_; refine quiet_val (fun w _ => run_fa _ _ _ rfl) ?_; go_big_quiet_on)
  go_big_quiet_want; ((refine quiet_is (.load _ _) rfl ?_; refine quiet_at sw_st (fun w hS => run_ld _ _ rfl hS) ?_; go_big_quiet_on))
  go_big_quiet_want; ((refine quiet_is (.load _ _) rfl ?_; refine quiet_at sw_st (fun w hS => run_lda _ _ rfl hS) ?_; go_big_quiet_on))
  go_big_quiet_want; (refine quiet_is (.lookup _ _ _ _) rfl ?_; refine quiet_at sw_st (fun w hS => run_look _ _ _ rfl (hlk _ _ hS)) ?_; go_big_quiet_on)
  go_big_quiet_want; (refine quiet_is (.call { callee := .builtin .len, args := #[_], argTypes := #[_] }) rfl ?_; refine quiet_val (fun w _ => run_lenv _ _ rfl) ?_; go_big_quiet_on)
  go_big_quiet_want; ((go_big_quiet_op; go_big_quiet_on))
  go_big_quiet_want; (refine quiet_is (.assign _) rfl ?_; refine quiet_val (fun w _ => run_as _ rfl) ?_; go_big_quiet_on)
  refine wpQuiet_nil ?_
  clear hS hne
  intro w hS
  go_wp2_with (first | (refine wpList_is (.binOp .rem _ _ _ _) rfl ?_; refine wpList_stp (by kernel_rfl) (stp_val (run_remv _ _ _ _ rfl) ?_)) | (refine wpList_is (.load _ _) rfl ?_; go_must ((refine wpList_stp (by kernel_rfl) (stp_val (run_ld _ _ rfl hS) ?_)))))
  have hS : St w0 bs _ (⟨bt, #[.int .u8 a, .int .u8 mb, .int .u8 i, .int .u8 b, .int .u8 c], 80, true⟩ :: ⟨b23, #[.int .i64 x1, .int .u32 x2], 29, true⟩ :: ⟨bz, #[.int .i64 0, .int .u32 0], 29, true⟩ :: wdE bm p M bv mu T.2.2 :: rvE bv vs :: (E ++ (E1 ++ (e ++ (E2 ++ (Em1 ++ (eu ++ (Em2 ++ H)))))))) := hS.pick
  refine region_itemsE [⟨(undef, []), [(19, fun _ x => ∃ b, x = (.pointer (some ⟨b, 0, none⟩), [⟨b, #[.int .i64 0, .int .u32 0], 29, true⟩])), (21, fun y x => ∃ b, y.1 = .pointer (some ⟨b, 0, none⟩) ∧ x.2 = [⟨b, #[.int .i64 d1, .int .u32 d2], 29, true⟩])]⟩]
    (⟨bt, #[.int .u8 a, .int .u8 mb, .int .u8 i, .int .u8 b, .int .u8 c], 80, true⟩ :: ⟨b23, #[.int .i64 x1, .int .u32 x2], 29, true⟩ :: ⟨bz, #[.int .i64 0, .int .u32 0], 29, true⟩ :: wdE bm p M bv mu T.2.2 :: rvE bv vs :: (E ++ (E1 ++ (e ++ (E2 ++ (Em1 ++ (eu ++ (Em2 ++ H)))))))) (⟨bt, #[.int .u8 a, .int .u8 mb, .int .u8 i, .int .u8 b, .int .u8 c], 80, true⟩ :: ⟨b23, #[.int .i64 x1, .int .u32 x2], 29, true⟩ :: ⟨bz, #[.int .i64 0, .int .u32 0], 29, true⟩ :: wdE bm p M bv mu T.2.2 :: rvE bv vs :: (E ++ (E1 ++ (e ++ (E2 ++ (Em1 ++ (eu ++ (Em2 ++ H)))))))) (by simp) hS (by kernel_rfl) (by kernel_rfl) ?_
  refine fx_val (fun _ => rfl) rfl (fun χ w hw => run_fa _ _ _ rfl) ?_
  (refine fx_val (fun _ => rfl) rfl (fun χ w hw => run_ld _ _ rfl hw) ?_)
  refine fx_val (fun _ => rfl) rfl (fun χ w hw => run_cvn _ _ _ rfl) ?_
  refine fx_val (fun _ => rfl) rfl (fun χ w hw => run_mv _ rfl) ?_
  (refine fx_val (fun _ => rfl) rfl (fun χ w hw => run_remv _ _ _ _ rfl) ?_)
  refine fx_val (fun _ => rfl) rfl (fun χ w hw => run_mv _ rfl) ?_
  refine fx_val (fun _ => rfl) rfl (fun χ w hw => run_nc _ rfl) ?_
  refine fx_val (fun _ => rfl) rfl (fun χ w hw => run_fa _ _ _ rfl) ?_
  (refine fx_val (fun _ => rfl) rfl (fun χ w hw => run_ld _ _ rfl hw) ?_)
  refine fx_val (fun _ => rfl) rfl (fun χ w hw => run_mv _ rfl) ?_
  refine fx_val (fun _ => rfl) rfl (fun χ w hw => run_idxv _ _ _ rfl) ?_
  (refine fx_val (fun _ => rfl) rfl (fun χ w hw => run_ld _ _ rfl hw) ?_)
  refine fx_val (fun _ => rfl) rfl (fun χ w hw => run_fa _ _ _ rfl) ?_
  (refine fx_val (fun _ => rfl) rfl (fun χ w hw => run_ld _ _ rfl hw) ?_)
  refine fx_val (fun _ => rfl) rfl (fun χ w hw => run_cvn _ _ _ rfl) ?_
  refine fx_val (fun _ => rfl) rfl (fun χ w hw => run_mv _ rfl) ?_
  (refine fx_val (fun _ => rfl) rfl (fun χ w hw => run_remv _ _ _ _ rfl) ?_)
  refine fx_val (fun _ => rfl) rfl (fun χ w hw => run_idxv _ _ _ rfl) ?_
  (refine fx_val (fun _ => rfl) rfl (fun χ w hw => run_lda _ _ rfl hw) ?_)
  refine fx_turn0 0 0 rfl rfl (by kernel_rfl) (by kernel_rfl) (by kernel_rfl) (fun _ => rfl) (fun x => x.1) ?_ ?_
  · intro χ X w _ hS
    exact stepX_al _ rfl (show St w0 bs w (X ++ _) from hS) (fun b w' _ hS' => ⟨(_, [_]), rfl, ⟨b, rfl⟩, hS'⟩)
  refine fx_val (fun _ => rfl) rfl (fun χ w hw => run_as _ rfl) ?_
  refine fx_turn0 0 1 rfl rfl (by kernel_rfl) (by kernel_rfl) (by kernel_rfl) (fun _ => rfl) (fun _ => undef) ?_ ?_
  · rintro χ X w ⟨⟨b, hb⟩, _⟩ hS
    have hS : St w0 bs w ((χ 19).2 ++ (X ++ _)) := hS
    rw [hb] at hS
    have hS : St w0 bs w (⟨b, #[.int .i64 0, .int .u32 0], 29, true⟩ :: (X ++ _)) := hS
    have hb1 : (χ 19).1 = .pointer (some ⟨b, 0, none⟩) := by rw [hb]
    exact stepX_stb _ _ _ rfl hS hb1 (fun w' hS' => ⟨(undef, [⟨b, #[.int .i64 d1, .int .u32 d2], 29, true⟩]), rfl, ⟨b, hb1, rfl⟩, hS'⟩)
  refine fx_end rfl ?_
  intro χ w hok hS
  obtain ⟨⟨b29, hb0⟩, ⟨_, hbx, hc0⟩, _⟩ := hok _ (.head _)
  rw [hb0] at hbx
  obtain ⟨⟩ := hbx
  have hS : St w0 bs w (((χ 21).2 ++ []) ++ (⟨bt, #[.int .u8 a, .int .u8 mb, .int .u8 i, .int .u8 b, .int .u8 c], 80, true⟩ :: ⟨b23, #[.int .i64 x1, .int .u32 x2], 29, true⟩ :: ⟨bz, #[.int .i64 0, .int .u32 0], 29, true⟩ :: wdE bm p M bv mu T.2.2 :: rvE bv vs :: (E ++ (E1 ++ (e ++ (E2 ++ (Em1 ++ (eu ++ (Em2 ++ H))))))))) := hS
  rw [hc0, List.append_nil] at hS
  simp only [hb0]
  simp only [List.cons_append, List.nil_append, List.append_assoc] at hS
  clear hok hb0 hc0
  go_wp2_with (first | (refine wpList_is (o := ⟨some 30, _, _, _, _, _⟩) (.alloc _) rfl ?_; go_must (refine wpList_stp (by kernel_rfl) (stp_al _ rfl hS ?_)); clear hS; intro bx1 w _ hS) | (refine wpList_is (o := ⟨some 31, _, _, _, _, _⟩) (.alloc _) rfl ?_; go_must (refine wpList_stp (by kernel_rfl) (stp_al _ rfl hS ?_)); clear hS; intro bx2 w _ hS) | (go_at_call 11; go_must (refine ar_store hS hT m q f (q2 : Int) T (0, 0) (0, 0) 3 h1'.out h2'.out h3'.out h4'.out ?_); clear hS; intro E3 w hT2 hS; unfold Ret) | (refine wpList_is (.binOp .eql 29 _ _ _) rfl ?_; refine wpList_stp (by kernel_rfl) (stp_val (run_aeq _ _ _ _ rfl) ?_)) | (refine wpList_is (.load 29 _) rfl ?_; refine wpList_stp (by kernel_rfl) (stp_val (run_lda _ _ rfl hS) ?_)) | (refine wpList_is (.binOp .rem _ _ _ _) rfl ?_; refine wpList_stp (by kernel_rfl) (stp_val (run_remv _ _ _ _ rfl) ?_)) | (refine wpList_is (.load _ _) rfl ?_; go_must ((refine wpList_stp (by kernel_rfl) (stp_val (run_ld _ _ rfl hS) ?_)))) | (refine wpList_is (.store _ _ _) rfl ?_; go_must ((refine wpList_stp (by kernel_rfl) (stp_sta _ _ _ rfl hS ?_))); clear hS; intro w hS))
  exact hR _ (by rw [hnx.out]; exact (show WX W bm n mu (k + 1) H _ T ms from ⟨w0, bs, M, p, bv, vs, us, E3, _, _, hB, by simp only [List.append_assoc]; exact hS.pick, hT2, hvs'.out, hus'.out, hWo'.out.more⟩))
set_option maxHeartbeats 4000000 in
set_option maxRecDepth 100000 in
theorem wt_st2 {W : World} {bm n mu k : Nat} {H : List Ent} {T : Ar} {ms : List Me} (hk : k ≤ 400) (hX : WX W bm n mu k H w T ms) (hmu : 1 ≤ mu ∧ mu ≤ 4) (a mb i b c : Nat) (ha : a ≤ 255) (hmb : mb ≤ 255) (hi : i ≤ 255) (hb : b ≤ 255) (hc : c ≤ 255) (h0 : a % 8 = 2) (hpos : 0 < (rtL T (mb % mu : Nat)).length) (hcase : ∀ (j b0 : Nat) (l : List Rf), ms[j]? = some ((rtL T (mb % mu : Nat)).getD (i % (rtL T (mb % mu : Nat)).length) (0, 0), b0, l) → b % 4 < l.length)
    (hR : ∀ w', WX W bm n mu (k + 1) H w' (nxT n mu T ms a mb i b c).1 (nxT n mu T ms a mb i b c).2 → Ret R (.bool true) w') : Calls Try.prog 31 #[.pointer (some ⟨bm, 0, none⟩), .agg #[.int .u8 a, .int .u8 mb, .int .u8 i, .int .u8 b, .int .u8 c]] w R := by
  obtain ⟨w0, bs, M, p, bv, vs, us, E, Er, Em, hB, hS, hT, hvs, hus, hWo⟩ := hX
  have hlv : vs.length = mu := by rw [hvs.len]; exact hWo.mu
  have hlu : us.length = ms.length := by rw [hus.len]; simp
  obtain ⟨m, hm⟩ : ∃ q, mb % mu = q := ⟨_, rfl⟩
  have hml : m < mu := by rw [← hm]; exact Nat.mod_lt _ (by omega)
  have rm : RemIs (mb : Int) (mu : Int) (m : Int) := ⟨by rw [Int.tmod_eq_emod_of_nonneg (by omega)]; omega, by omega⟩
  have smb : Small (mb : Int) := ⟨by omega, by omega⟩
  have si : Small (i : Int) := ⟨by omega, by omega⟩
  have sb : Small (b : Int) := ⟨by omega, by omega⟩
  have sc : Small (c : Int) := ⟨by omega, by omega⟩
  have ix := rv_idx (bv := bv) hml
  have lx := rv_len (bv := bv) (mu := mu)
  obtain ⟨v, E1, e, E2, hv1, rfl, hv, hset⟩ := hvs.at m _ (hWo.rtq hml)
  simp only [List.append_assoc] at hS
  obtain ⟨nr, hnr⟩ : ∃ q, (rtL T m).length = q := ⟨_, rfl⟩
  have hn32 : nr ≤ 32 := hnr ▸ hWo.r32 _ (hWo.rtl hml)
  have hln : LenV Try.prog 44 v nr := hv.len hnr
  have hone := hv.one
  have cv := cellV hv1
  obtain ⟨g, hg⟩ : ∃ q, b % 8 = q := ⟨_, rfl⟩
  have hg8 : g < 8 := by omega
  have rg : RemIs (b : Int) 8 (g : Int) := ⟨by rw [Int.tmod_eq_emod_of_nonneg (by omega)]; omega, by decide⟩
  obtain ⟨a8, ha8⟩ : ∃ q, a % 8 = q := ⟨_, rfl⟩
  have ra : RemIs (a : Int) 8 (a8 : Int) := ⟨by rw [Int.tmod_eq_emod_of_nonneg (by omega)]; omega, by decide⟩
  have qz := refE (refB_self 0 0)
  have hWo' := Lib.hid hWo
  have hvs' := Lib.hid hvs
  have hus' := Lib.hid hus
  have hset' := Lib.hid hset
  have hv1' := Lib.hid hv1
  have hlv' := Lib.hid hlv
  have hlu' := Lib.hid hlu
  have hnr' := Lib.hid hnr
  obtain rfl : a8 = 2 := by omega
  have hn0 : 0 < nr := by rw [hm] at hpos; omega
  have z0 : ((nr : Int) == 0) = false := beq_eq_false_iff_ne.2 (by omega)
  have z0' : decide ((nr : Int) = 0) = false := decide_eq_false (by omega)
  have z0'' : decide (nr = 0) = false := decide_eq_false (by omega)
  obtain ⟨q, hq⟩ : ∃ q, i % nr = q := ⟨_, rfl⟩
  have hqn : q < nr := by rw [← hq]; exact Nat.mod_lt _ hn0
  have rq : RemIs (i : Int) (nr : Int) (q : Int) := ⟨by rw [Int.tmod_eq_emod_of_nonneg (by omega)]; omega, by omega⟩
  have hql : q < (rtL T m).length := by rw [hnr]; exact hqn
  obtain ⟨⟨x1, x2⟩, hx⟩ : ∃ x, (rtL T m).getD q (0, 0) = x := ⟨_, rfl⟩
  obtain ⟨gq, sq, iq, hHq, cq⟩ := hv.at hql hx
  have iq := iq q rfl
  simp only at cq
  have hmem : (x1, x2) ∈ kyM ms := hx ▸ (hWo.rt hml hql).2.2
  obtain ⟨j, b0, l, hj, hob, hl4⟩ := hWo.ent hmem
  obtain ⟨u, Em1, eu, Em2, hu1, rfl, hu, huset⟩ := hus.at j l (by simp [mpF, hj])
  simp only [List.append_assoc] at hS
  obtain ⟨nl, hnl⟩ : ∃ q, l.length = q := ⟨_, rfl⟩
  have hlnu : LenV Try.prog 44 u nl := hu.len hnl
  have honeu := hu.one
  have hlk : ∀ w H, St w0 bs w H → LookIs Try.prog w 25 M #[.int .i64 x1, .int .u32 x2] false u := fun w H hS => look_mp (hB.now hS) hWo.mo.ks hj hu1 rfl false
  obtain ⟨f, hfb⟩ : ∃ q, b % 4 = q := ⟨_, rfl⟩
  have rf : RemIs (b : Int) 4 (f : Int) := ⟨by rw [Int.tmod_eq_emod_of_nonneg (by omega)]; omega, by decide⟩
  have hj' := Lib.hid hj
  have hu1' := Lib.hid hu1
  have huset' := Lib.hid huset
  have hql' := Lib.hid hql
  have hnl' := Lib.hid hnl
  have hl4' := Lib.hid hl4
  have hks' := Lib.hid hWo.mo.ks
  have hle' := Lib.hid (hWo.r32 _ (hWo.rtl hml))
  have hcs := hcase j b0 l (by rw [hm, hnr, hq, hx]; exact hj)
  rw [hfb] at hcs
  have hfi : f < nl := by omega
  have df : decide ((f : Int) < (nl : Int)) = true := decide_eq_true (by omega)
  have df' : decide (f < nl) = true := decide_eq_true (by omega)
  obtain ⟨q2, hq2⟩ : ∃ q, c % nr = q := ⟨_, rfl⟩
  have hq2n : q2 < nr := by rw [← hq2]; exact Nat.mod_lt _ hn0
  have rq2 : RemIs (c : Int) (nr : Int) (q2 : Int) := ⟨by rw [Int.tmod_eq_emod_of_nonneg (by omega)]; omega, by omega⟩
  have hq2l : q2 < (rtL T m).length := by rw [hnr]; exact hq2n
  obtain ⟨⟨d1, d2⟩, hd⟩ : ∃ x, (rtL T m).getD q2 (0, 0) = x := ⟨_, rfl⟩
  obtain ⟨gd, sd, id', hHd, cd⟩ := hv.at hq2l hd
  have id' := id' q2 rfl
  simp only at cd
  have hfl : f < l.length := by omega
  obtain ⟨⟨y1, y2⟩, hy⟩ : ∃ y, l.getD f (0, 0) = y := ⟨_, rfl⟩
  obtain ⟨gu, su, iu, hHu, cu⟩ := hu.at hfl hy
  have iu := iu f rfl
  simp only at cu
  have qy := refE (refB_self y1 y2)
  have qv := refE (refB_self d1 d2)
  obtain ⟨L', h1, h2, h3, h4, _, hWn⟩ := (hWo.store hml hql hx hj hob f (c := (q2 : Int)) (v := (d1, d2)) (.inr ⟨q2, rfl, hq2l, hd⟩)).2 hfl
  rw [hy] at h2
  have hWn' := Lib.hid hWn
  have hfl' := Lib.hid hfl
  have h1' := Lib.hid h1
  have h2' := Lib.hid h2
  have h3' := Lib.hid h3
  have h4' := Lib.hid h4
  have hnx := Lib.hid (show nxT n mu T ms a mb i b c = ((L', T.2.1, T.2.2), (ms.set j ((x1, x2), 0, l.set f (d1, d2)))) from by rw [nxT, if_neg (by omega), if_neg (by omega), if_neg (by omega), if_neg (by omega), if_neg (by omega), if_neg (by omega), if_neg (by omega), hm, hnr, hq, hfb, if_pos (by omega), hq2, h1, stM_in hWo.mo.ks hj hx hfl ((hWo.va hml hq2l).2.trans hd)])
  clear h1 h2 h3 h4 hcs hcase hy hfl hWn
  clear hq2 hd hq2l
  clear hq hx hmem hj hob hl4 hu1 huset hnl hfb hpos hql
  clear hm hg hWo hvs hus hset hv1 hlv hlu hnr
  go_enter Try.func31, Try.ntmps31
  go_wp2_with ((refine wpList_is (.box 80 _) rfl ?_; go_must (refine wpList_stp (by kernel_rfl) (stp_bx _ _ rfl hS ?_)); clear hS; intro bt w _ hS))
  refine region_quiet hS (by kernel_rfl) (by kernel_rfl) (fun hne => ?_)
  go_big_quiet_want; (refine quiet_is (.fieldAddr _ _ _) rfl ?_; refine quiet_val (fun w _ => run_fa _ _ _ rfl) ?_; go_big_quiet_on)
  go_big_quiet_want; ((refine quiet_is (.load _ _) rfl ?_; refine quiet_at sw_st (fun w hS => run_ld _ _ rfl hS) ?_; go_big_quiet_on))
  go_big_quiet_want; (refine quiet_is (.convert _ _ _) rfl ?_; refine quiet_val (fun w _ => run_cvn _ _ _ rfl) ?_; go_big_quiet_on)
  go_big_quiet_want; (refine quiet_is (.move _) rfl ?_; refine quiet_val (fun w _ => run_mv _ rfl) ?_; go_big_quiet_on)
  go_big_quiet_want; (refine quiet_is (.nilCheck _) rfl ?_; refine quiet_val (fun w _ => run_nc _ rfl) ?_; go_big_quiet_on)
  go_big_quiet_want; (refine quiet_is (.fieldAddr _ _ _) rfl ?_; refine quiet_val (fun w _ => run_fa _ _ _ rfl) ?_; go_big_quiet_on)
  go_big_quiet_want; ((refine quiet_is (.load _ _) rfl ?_; refine quiet_at sw_st (fun w hS => run_ld _ _ rfl hS) ?_; go_big_quiet_on))
  go_big_quiet_want; (refine quiet_is (.call { callee := .builtin .len, args := #[_], argTypes := #[_] }) rfl ?_; refine quiet_val (fun w _ => run_lenv _ _ rfl) ?_; go_big_quiet_on)
  go_big_quiet_want; (refine quiet_is (.binOp .rem _ _ _ _) rfl ?_; refine quiet_val (fun w _ => run_remv _ _ _ _ rfl) ?_; go_big_quiet_on)
  go_big_quiet_want; (refine quiet_is (.assign _) rfl ?_; refine quiet_val (fun w _ => run_as _ rfl) ?_; go_big_quiet_on)
  refine wpQuiet_nil ?_
  clear hS hne
  intro w hS
  go_wp2_with (first | (refine wpList_is (o := ⟨some 9, _, _, _, _, _⟩) (.alloc _) rfl ?_; go_must (refine wpList_stp (by kernel_rfl) (stp_al _ rfl hS ?_)); clear hS; intro bz w _ hS) | (refine wpList_is (o := ⟨some 23, _, _, _, _, _⟩) (.alloc _) rfl ?_; go_must (refine wpList_stp (by kernel_rfl) (stp_al _ rfl hS ?_)); clear hS; intro b23 w _ hS) | (refine wpList_is (.load 29 _) rfl ?_; refine wpList_stp (by kernel_rfl) (stp_val (run_lda _ _ rfl hS) ?_)) | (refine wpList_is (.convert _ _ _) rfl ?_; refine wpList_stp (by kernel_rfl) (stp_val (run_cvn _ _ _ rfl) ?_)) | (refine wpList_is (.binOp .rem _ _ _ _) rfl ?_; refine wpList_stp (by kernel_rfl) (stp_val (run_remv _ _ _ _ rfl) ?_)) | (refine wpList_is (.call { callee := .builtin .len, args := #[_], argTypes := #[_] }) rfl ?_; refine wpList_stp (by kernel_rfl) (stp_val (run_lenv _ _ rfl) ?_)) | (refine wpList_is (.indexAddr _ _ _) rfl ?_; refine wpList_stp (by kernel_rfl) (stp_val (run_idxv _ _ _ rfl) ?_)) | (refine wpList_is (.build _ _) rfl ?_; go_must (refine wpList_stp (by kernel_rfl) (stp_val (run_bd _ _ rfl) ?_))) | (refine wpList_is (.load _ _) rfl ?_; go_must ((refine wpList_stp (by kernel_rfl) (stp_val (run_ld _ _ rfl hS) ?_)))) | (refine wpList_is (.store _ _ _) rfl ?_; go_must ((refine wpList_stp (by kernel_rfl) (stp_sta _ _ _ rfl hS ?_))); clear hS; intro w hS))
  go_wp2_with ((go_skip))
  refine region_quiet hS (by kernel_rfl) (by kernel_rfl) (fun hne => ?_)
  go_big_quiet_want; (refine quiet_is (.move _) rfl ?_; refine quiet_val (fun w _ => run_mv _ rfl) ?_; go_big_quiet_on)
  go_big_quiet_want; (refine quiet_is (.move _) rfl ?_; refine quiet_val (fun w _ => run_mv _ rfl) ?_; go_big_quiet_on)
  go_big_quiet_want; (refine quiet_is (.nilCheck _) rfl ?_; refine quiet_val (fun w _ => run_nc _ rfl) ?_; go_big_quiet_on)
  go_big_quiet_want; (refine quiet_is (.fieldAddr _ _ _) rfl ?_; refine quiet_val (fun w _ => run_fa _ _ _ rfl) ?_; go_big_quiet_on)
  go_big_quiet_want; ((refine quiet_is (.load _ _) rfl ?_; refine quiet_at sw_st (fun w hS => run_ld _ _ rfl hS) ?_; go_big_quiet_on))
  go_big_quiet_want; ((refine quiet_is (.load _ _) rfl ?_; refine quiet_at sw_st (fun w hS => run_lda _ _ rfl hS) ?_; go_big_quiet_on))
  go_big_quiet_want; (refine quiet_is (.lookup _ _ _ _) rfl ?_; refine quiet_at sw_st (fun w hS => run_look _ _ _ rfl (hlk _ _ hS)) ?_; go_big_quiet_on)
  go_big_quiet_want; (refine quiet_is (.call { callee := .builtin .len, args := #[_], argTypes := #[_] }) rfl ?_; refine quiet_val (fun w _ => run_lenv _ _ rfl) ?_; go_big_quiet_on)
  go_big_quiet_want; ((go_big_quiet_op; go_big_quiet_on))
  go_big_quiet_want; (refine quiet_is (.assign _) rfl ?_; refine quiet_val (fun w _ => run_as _ rfl) ?_; go_big_quiet_on)
  refine wpQuiet_nil ?_
  clear hS hne
  intro w hS
  go_wp2_with (first | (refine wpList_is (.binOp .rem _ _ _ _) rfl ?_; refine wpList_stp (by kernel_rfl) (stp_val (run_remv _ _ _ _ rfl) ?_)) | (refine wpList_is (.load _ _) rfl ?_; go_must ((refine wpList_stp (by kernel_rfl) (stp_val (run_ld _ _ rfl hS) ?_)))))
  have hS : St w0 bs _ (⟨bt, #[.int .u8 a, .int .u8 mb, .int .u8 i, .int .u8 b, .int .u8 c], 80, true⟩ :: ⟨b23, #[.int .i64 x1, .int .u32 x2], 29, true⟩ :: ⟨bz, #[.int .i64 0, .int .u32 0], 29, true⟩ :: wdE bm p M bv mu T.2.2 :: rvE bv vs :: (E ++ (E1 ++ (e ++ (E2 ++ (Em1 ++ (eu ++ (Em2 ++ H)))))))) := hS.pick
  refine region_itemsE [⟨(undef, []), [(19, fun _ x => ∃ b, x = (.pointer (some ⟨b, 0, none⟩), [⟨b, #[.int .i64 0, .int .u32 0], 29, true⟩])), (21, fun y x => ∃ b, y.1 = .pointer (some ⟨b, 0, none⟩) ∧ x.2 = [⟨b, #[.int .i64 d1, .int .u32 d2], 29, true⟩])]⟩]
    (⟨bt, #[.int .u8 a, .int .u8 mb, .int .u8 i, .int .u8 b, .int .u8 c], 80, true⟩ :: ⟨b23, #[.int .i64 x1, .int .u32 x2], 29, true⟩ :: ⟨bz, #[.int .i64 0, .int .u32 0], 29, true⟩ :: wdE bm p M bv mu T.2.2 :: rvE bv vs :: (E ++ (E1 ++ (e ++ (E2 ++ (Em1 ++ (eu ++ (Em2 ++ H)))))))) (⟨bt, #[.int .u8 a, .int .u8 mb, .int .u8 i, .int .u8 b, .int .u8 c], 80, true⟩ :: ⟨b23, #[.int .i64 x1, .int .u32 x2], 29, true⟩ :: ⟨bz, #[.int .i64 0, .int .u32 0], 29, true⟩ :: wdE bm p M bv mu T.2.2 :: rvE bv vs :: (E ++ (E1 ++ (e ++ (E2 ++ (Em1 ++ (eu ++ (Em2 ++ H)))))))) (by simp) hS (by kernel_rfl) (by kernel_rfl) ?_
  refine fx_val (fun _ => rfl) rfl (fun χ w hw => run_fa _ _ _ rfl) ?_
  (refine fx_val (fun _ => rfl) rfl (fun χ w hw => run_ld _ _ rfl hw) ?_)
  refine fx_val (fun _ => rfl) rfl (fun χ w hw => run_cvn _ _ _ rfl) ?_
  refine fx_val (fun _ => rfl) rfl (fun χ w hw => run_mv _ rfl) ?_
  (refine fx_val (fun _ => rfl) rfl (fun χ w hw => run_remv _ _ _ _ rfl) ?_)
  refine fx_val (fun _ => rfl) rfl (fun χ w hw => run_mv _ rfl) ?_
  refine fx_val (fun _ => rfl) rfl (fun χ w hw => run_nc _ rfl) ?_
  refine fx_val (fun _ => rfl) rfl (fun χ w hw => run_fa _ _ _ rfl) ?_
  (refine fx_val (fun _ => rfl) rfl (fun χ w hw => run_ld _ _ rfl hw) ?_)
  refine fx_val (fun _ => rfl) rfl (fun χ w hw => run_mv _ rfl) ?_
  refine fx_val (fun _ => rfl) rfl (fun χ w hw => run_idxv _ _ _ rfl) ?_
  (refine fx_val (fun _ => rfl) rfl (fun χ w hw => run_ld _ _ rfl hw) ?_)
  refine fx_val (fun _ => rfl) rfl (fun χ w hw => run_fa _ _ _ rfl) ?_
  (refine fx_val (fun _ => rfl) rfl (fun χ w hw => run_ld _ _ rfl hw) ?_)
  refine fx_val (fun _ => rfl) rfl (fun χ w hw => run_cvn _ _ _ rfl) ?_
  refine fx_val (fun _ => rfl) rfl (fun χ w hw => run_mv _ rfl) ?_
  (refine fx_val (fun _ => rfl) rfl (fun χ w hw => run_remv _ _ _ _ rfl) ?_)
  refine fx_val (fun _ => rfl) rfl (fun χ w hw => run_idxv _ _ _ rfl) ?_
  (refine fx_val (fun _ => rfl) rfl (fun χ w hw => run_lda _ _ rfl hw) ?_)
  refine fx_turn0 0 0 rfl rfl (by kernel_rfl) (by kernel_rfl) (by kernel_rfl) (fun _ => rfl) (fun x => x.1) ?_ ?_
  · intro χ X w _ hS
    exact stepX_al _ rfl (show St w0 bs w (X ++ _) from hS) (fun b w' _ hS' => ⟨(_, [_]), rfl, ⟨b, rfl⟩, hS'⟩)
  refine fx_val (fun _ => rfl) rfl (fun χ w hw => run_as _ rfl) ?_
  refine fx_turn0 0 1 rfl rfl (by kernel_rfl) (by kernel_rfl) (by kernel_rfl) (fun _ => rfl) (fun _ => undef) ?_ ?_
  · rintro χ X w ⟨⟨b, hb⟩, _⟩ hS
    have hS : St w0 bs w ((χ 19).2 ++ (X ++ _)) := hS
    rw [hb] at hS
    have hS : St w0 bs w (⟨b, #[.int .i64 0, .int .u32 0], 29, true⟩ :: (X ++ _)) := hS
    have hb1 : (χ 19).1 = .pointer (some ⟨b, 0, none⟩) := by rw [hb]
    exact stepX_stb _ _ _ rfl hS hb1 (fun w' hS' => ⟨(undef, [⟨b, #[.int .i64 d1, .int .u32 d2], 29, true⟩]), rfl, ⟨b, hb1, rfl⟩, hS'⟩)
  refine fx_end rfl ?_
  intro χ w hok hS
  obtain ⟨⟨b29, hb0⟩, ⟨_, hbx, hc0⟩, _⟩ := hok _ (.head _)
  rw [hb0] at hbx
  obtain ⟨⟩ := hbx
  have hS : St w0 bs w (((χ 21).2 ++ []) ++ (⟨bt, #[.int .u8 a, .int .u8 mb, .int .u8 i, .int .u8 b, .int .u8 c], 80, true⟩ :: ⟨b23, #[.int .i64 x1, .int .u32 x2], 29, true⟩ :: ⟨bz, #[.int .i64 0, .int .u32 0], 29, true⟩ :: wdE bm p M bv mu T.2.2 :: rvE bv vs :: (E ++ (E1 ++ (e ++ (E2 ++ (Em1 ++ (eu ++ (Em2 ++ H))))))))) := hS
  rw [hc0, List.append_nil] at hS
  simp only [hb0]
  simp only [List.cons_append, List.nil_append, List.append_assoc] at hS
  clear hok hb0 hc0
  go_wp2_with (first | (refine wpList_is (o := ⟨some 30, _, _, _, _, _⟩) (.alloc _) rfl ?_; go_must (refine wpList_stp (by kernel_rfl) (stp_al _ rfl hS ?_)); clear hS; intro bx1 w _ hS) | (refine wpList_is (o := ⟨some 31, _, _, _, _, _⟩) (.alloc _) rfl ?_; go_must (refine wpList_stp (by kernel_rfl) (stp_al _ rfl hS ?_)); clear hS; intro bx2 w _ hS) | (go_at_call 11; go_must (refine ar_store hS hT m q f (q2 : Int) (L', T.2.1, T.2.2) (y1, y2) (d1, d2) 0 h1'.out h2'.out h3'.out h4'.out ?_); clear hS; intro E3 w hT2 hS; unfold Ret) | (refine wpList_is (.binOp .rem _ _ _ _) rfl ?_; refine wpList_stp (by kernel_rfl) (stp_val (run_remv _ _ _ _ rfl) ?_)) | (refine wpList_is (.load _ _) rfl ?_; go_must ((refine wpList_stp (by kernel_rfl) (stp_val (run_ld _ _ rfl hS) ?_)))) | (refine wpList_is (.store _ _ _) rfl ?_; go_must ((refine wpList_stp (by kernel_rfl) (stp_sta _ _ _ rfl hS ?_))); clear hS; intro w hS))
  refine region_quiet hS (by kernel_rfl) (by kernel_rfl) (fun hne => ?_)
  go_big_quiet_want; (refine quiet_is (.move _) rfl ?_; refine quiet_val (fun w _ => run_mv _ rfl) ?_; go_big_quiet_on)
  go_big_quiet_want; (go_big_quiet_op; go_big_quiet_on)
  go_big_quiet_want; (refine quiet_is (.move _) rfl ?_; refine quiet_val (fun w _ => run_mv _ rfl) ?_; go_big_quiet_on)
  (go_big_quiet_want; (refine quiet_is (.load _ _) rfl ?_; refine quiet_at sw_st (fun w hS => run_lda _ _ rfl hS) ?_; go_big_quiet_on))
  (go_big_quiet_want; refine quiet_is (.move _) rfl ?_; refine quiet_val (fun w _ => run_mv _ rfl) ?_; go_big_quiet_on)
  (go_big_quiet_want; refine quiet_is (.nilCheck _) rfl ?_; refine quiet_val (fun w _ => run_nc _ rfl) ?_; go_big_quiet_on)
  (go_big_quiet_want; refine quiet_is (.fieldAddr _ _ _) rfl ?_; refine quiet_val (fun w _ => run_fa _ _ _ rfl) ?_; go_big_quiet_on)
  (go_big_quiet_want; (refine quiet_is (.load _ _) rfl ?_; refine quiet_at sw_st (fun w hS => run_ld _ _ rfl hS) ?_; go_big_quiet_on))
  (go_big_quiet_want; (refine quiet_is (.load _ _) rfl ?_; refine quiet_at sw_st (fun w hS => run_lda _ _ rfl hS) ?_; go_big_quiet_on))
  (go_big_quiet_want; refine quiet_is (.lookup _ _ _ _) rfl ?_; refine quiet_at sw_st (fun w hS => run_look _ _ _ rfl (hlk _ _ hS)) ?_; go_big_quiet_on)
  (go_big_quiet_want; refine quiet_is (.move _) rfl ?_; refine quiet_val (fun w _ => run_mv _ rfl) ?_; go_big_quiet_on)
  (go_big_quiet_want; refine quiet_is (.indexAddr _ _ _) rfl ?_; refine quiet_val (fun w _ => run_idxv _ _ _ rfl) ?_; go_big_quiet_on)
  (go_big_quiet_want; (refine quiet_is (.load _ _) rfl ?_; refine quiet_at sw_st (fun w hS => run_lda _ _ rfl hS) ?_; go_big_quiet_on))
  (go_big_quiet_want; refine quiet_is (.binOp .eql _ _ _ _) rfl ?_; refine quiet_val (fun w _ => run_aeq _ _ _ _ rfl) ?_; go_big_quiet_on)
  go_big_quiet_want; ((refine quiet_is (.pick _ _ _) rfl ?_; refine quiet_val (fun w _ => run_pk1 _ _ _ rfl) ?_; go_big_quiet_on))
  go_big_quiet_want; (refine quiet_is (.move _) rfl ?_; refine quiet_val (fun w _ => run_mv _ rfl) ?_; go_big_quiet_on)
  (go_big_quiet_want; (refine quiet_is (.load _ _) rfl ?_; refine quiet_at sw_st (fun w hS => run_lda _ _ rfl hS) ?_; go_big_quiet_on))
  (go_big_quiet_want; (refine quiet_is (.load _ _) rfl ?_; refine quiet_at sw_st (fun w hS => run_lda _ _ rfl hS) ?_; go_big_quiet_on))
  (go_big_quiet_want; refine quiet_is (.binOp .eql _ _ _ _) rfl ?_; refine quiet_val (fun w _ => run_aeq _ _ _ _ rfl) ?_; go_big_quiet_on)
  go_big_quiet_want; ((refine quiet_is (.pick _ _ _) rfl ?_; refine quiet_val (fun w _ => run_pk1 _ _ _ rfl) ?_; go_big_quiet_on))
  go_big_quiet_want; (refine quiet_is (.assign _) rfl ?_; refine quiet_val (fun w _ => run_as _ rfl) ?_; go_big_quiet_on)
  refine wpQuiet_nil ?_
  clear hS hne
  intro w hS
  go_wp2_with ((go_skip))
  have hS : St w0 bs w (⟨bt, #[.int .u8 a, .int .u8 mb, .int .u8 i, .int .u8 b, .int .u8 c], 80, true⟩ :: ⟨b23, #[.int .i64 x1, .int .u32 x2], 29, true⟩ :: ⟨b29, #[.int .i64 d1, .int .u32 d2], 29, true⟩ :: ⟨bx1, #[.int .i64 y1, .int .u32 y2], 29, true⟩ :: ⟨bx2, #[.int .i64 d1, .int .u32 d2], 29, true⟩ :: ⟨bz, #[.int .i64 0, .int .u32 0], 29, true⟩ :: wdE bm p M bv mu T.2.2 :: rvE bv vs :: (E3 ++ (E1 ++ (e ++ (E2 ++ (Em1 ++ (eu ++ (Em2 ++ H)))))))) := hS.pick
  have hcom := c54_com (W := W) (w0 := w0) (bs := bs) (M := M) (X := (⟨bt, #[.int .u8 a, .int .u8 mb, .int .u8 i, .int .u8 b, .int .u8 c], 80, true⟩ :: ⟨b23, #[.int .i64 x1, .int .u32 x2], 29, true⟩ :: ⟨b29, #[.int .i64 d1, .int .u32 d2], 29, true⟩ :: ⟨bx1, #[.int .i64 y1, .int .u32 y2], 29, true⟩ :: ⟨bx2, #[.int .i64 d1, .int .u32 d2], 29, true⟩ :: ⟨bz, #[.int .i64 0, .int .u32 0], 29, true⟩ :: wdE bm p M bv mu T.2.2 :: rvE bv vs :: (E3 ++ (E1 ++ (e ++ (E2 ++ (Em1 ++ (eu ++ (Em2 ++ H))))))))) (l := l) (K := (fun v => mpV ms (us.set j v)))
  refine region_free (X := Gx) (C54 W w0 bs M (⟨bt, #[.int .u8 a, .int .u8 mb, .int .u8 i, .int .u8 b, .int .u8 c], 80, true⟩ :: ⟨b23, #[.int .i64 x1, .int .u32 x2], 29, true⟩ :: ⟨b29, #[.int .i64 d1, .int .u32 d2], 29, true⟩ :: ⟨bx1, #[.int .i64 y1, .int .u32 y2], 29, true⟩ :: ⟨bx2, #[.int .i64 d1, .int .u32 d2], 29, true⟩ :: ⟨bz, #[.int .i64 0, .int .u32 0], 29, true⟩ :: wdE bm p M bv mu T.2.2 :: rvE bv vs :: (E3 ++ (E1 ++ (e ++ (E2 ++ (Em1 ++ (eu ++ (Em2 ++ H)))))))) l (fun v => mpV ms (us.set j v))) (fun i => i == 5 || i == 12 || i == 13) (by kernel_rfl) (by kernel_rfl) (hS.drawn _) ?_
  refine gx_val (fun _ => rfl) rfl (fun G χ w hg hC => run_mv _ rfl) ?_
  refine gx_val (fun _ => rfl) rfl (fun G χ w hg hC => run_nc _ rfl) ?_
  refine gx_val (fun _ => rfl) rfl (fun G χ w hg hC => run_fa _ _ _ rfl) ?_
  refine gx_val (fun _ => rfl) rfl (fun G χ w hg hC => run_ld _ _ rfl (hcom G χ w hC)) ?_
  refine gx_val (fun _ => rfl) rfl (fun G χ w hg hC => run_lda _ _ rfl (hcom G χ w hC)) ?_
  refine gx_do (fun _ => rfl) rfl (fun x => x.1) ?_ ?_
  · intro G χ w hk hM hF hC
    have g12 := hF 12 (by kernel_rfl)
    have g13 := hF 13 (by kernel_rfl)
    unfold C54 at hC
    rw [if_neg (by rw [g13]; decide), if_neg (by rw [g12]; decide), if_neg (by rw [hk]; decide)] at hC
    refine stepX_to 431 rfl (by simp) (stp_bs0 _ rfl hC (fun b' w' _ hS' => ⟨_, rfl, (.slice (some ⟨b', 0, none⟩) 0 0, [⟨b', #[], 29, true⟩]), rfl, ?_⟩))
    unfold C54
    rw [if_neg (by rw [up_other _ _ (by decide), g13]; decide), if_neg (by rw [up_other _ _ (by decide), g12]; decide), if_pos (up_same _ _ _), up_same]
    exact ⟨⟨b', rfl⟩, hS'⟩
  refine gx_val (fun _ => rfl) rfl (fun G χ w hg hC => run_mv _ rfl) ?_
  refine gx_val (fun _ => rfl) rfl (fun G χ w hg hC => run_nc _ rfl) ?_
  refine gx_val (fun _ => rfl) rfl (fun G χ w hg hC => run_fa _ _ _ rfl) ?_
  refine gx_val (fun _ => rfl) rfl (fun G χ w hg hC => run_ld _ _ rfl (hcom G χ w hC)) ?_
  refine gx_val (fun _ => rfl) rfl (fun G χ w hg hC => run_lda _ _ rfl (hcom G χ w hC)) ?_
  refine gx_valF (v := u) (fun _ => rfl) rfl (fun G χ w hg hF hC => ?_) ?_
  · have g13 := hF 13 (by kernel_rfl)
    unfold C54 at hC
    rw [if_neg (by rw [g13]; decide)] at hC
    refine run_look _ _ _ rfl ?_
    split at hC
    · exact hlk w _ hC.2
    · split at hC
      · exact hlk w _ hC.2
      · exact hlk w _ hC
  refine gx_do (fun _ => rfl) rfl (fun x => x.1) ?_ ?_
  · intro G χ w hk hM hF hC
    have g5 := hM 5 (by simp) (by kernel_rfl)
    have g13 := hF 13 (by kernel_rfl)
    unfold C54 at hC
    rw [if_neg (by rw [g13]; decide), if_neg (by rw [hk]; decide), if_pos g5] at hC
    obtain ⟨⟨b', hb'⟩, hS⟩ := hC
    rw [hb'] at hS
    simp only [List.cons_append, List.nil_append] at hS
    simp only [hb']
    refine stepX_to 438 rfl (by simp) (stp_apR _ _ _ _ rfl rfl rfl hS (show RS _ [] [_] from sl_zero) hu (by have := hl4'.out; simp; omega) ?_)
    intro v' E' w' hsl' hS'
    refine ⟨_, rfl, (v', E'), rfl, ?_⟩
    unfold C54
    rw [if_neg (by rw [up_other _ _ (by decide), g13]; decide), if_pos (up_same _ _ _), up_same]
    exact ⟨by simpa using hsl', hS'⟩
  refine gx_do (fun _ => rfl) rfl (fun _ => undef) ?_ ?_
  · intro G χ w hk hM hF hC
    have g12 := hM 12 (by simp) (by kernel_rfl)
    unfold C54 at hC
    rw [if_neg (by rw [hk]; decide), if_pos g12] at hC
    obtain ⟨hA, hS⟩ := hC
    obtain ⟨es, ck, hr, he⟩ := put_mpo (hB.now hS) hks'.out hj'.out hu1'.out (χ 12).1
    refine stepX_upd _ _ _ _ rfl ⟨_, hr, ?_⟩
    refine ⟨(undef, []), rfl, ?_⟩
    unfold C54
    rw [if_pos (up_same _ _ _), up_other _ _ (by decide)]
    exact ⟨hA, _, _, hB.turn hS he⟩
  intro χ G w hM hC
  have g13 := hM 13 (by simp)
  unfold C54 at hC
  rw [if_pos g13] at hC
  obtain ⟨hA, w1, bs1, hB1, hS1⟩ := hC
  have hA : RS (χ 12).1 l (χ 12).2 := hA
  generalize (χ 12).1 = u5 at hA hB1
  generalize (χ 12).2 = e5 at hA hS1
  clear hS hcom hlk hB g13 hM
  have hB := hB1
  have hS := hS1
  clear hB1 hS1
  obtain ⟨w0, rfl⟩ : ∃ q, q = w1 := ⟨_, rfl⟩
  obtain ⟨bs, rfl⟩ : ∃ q, q = bs1 := ⟨_, rfl⟩
  obtain ⟨gn, cap, sp, rfl, rfl, hcap, hset5⟩ := hA.cell (by have := hfl'.out; omega)
  have hset5' := Lib.hid hset5
  simp only [List.cons_append, List.nil_append] at hS
  have hul : j < us.length := (List.getElem?_eq_some_iff.1 hu1'.out).1
  have hlk : ∀ w H, St w0 bs w H → LookIs Try.prog w 25 M #[.int .i64 x1, .int .u32 x2] false (.slice (some ⟨gn, 0, none⟩) l.length cap) := fun w H hS => look_mp (hB.now hS) hks'.out hj'.out (by rw [List.getElem?_set_self hul]) rfl false
  have iu5 := idx_of (P := Try.prog) (t := 44) (g := gn) (n := l.length) (cap := cap) Try.underlying44 (z := 2) (by kernel_rfl) hfl'.out
  have su5 : SetsAt (blk [] slf l sp) (f * 2) #[.int .i64 d1, .int .u32 d2] (blk [] slf (l.set f (d1, d2)) sp) := blkSets (pre := []) slf_len (i := f) (a' := (d1, d2)) hfl'.out (by simp)
  clear hset5 hul
  go_wp2_with ((go_skip))
  have hS : St w0 bs _ (⟨gn, blk [] slf l sp, 29, true⟩ :: (⟨bt, #[.int .u8 a, .int .u8 mb, .int .u8 i, .int .u8 b, .int .u8 c], 80, true⟩ :: ⟨b23, #[.int .i64 x1, .int .u32 x2], 29, true⟩ :: ⟨b29, #[.int .i64 d1, .int .u32 d2], 29, true⟩ :: ⟨bx1, #[.int .i64 y1, .int .u32 y2], 29, true⟩ :: ⟨bx2, #[.int .i64 d1, .int .u32 d2], 29, true⟩ :: ⟨bz, #[.int .i64 0, .int .u32 0], 29, true⟩ :: wdE bm p M bv mu T.2.2 :: rvE bv vs :: (E3 ++ (E1 ++ (e ++ (E2 ++ (Em1 ++ (eu ++ (Em2 ++ H))))))))) := hS.pick
  refine region_itemsE [⟨(undef, [⟨gn, blk [] slf l sp, 29, true⟩]), [(9, fun _ x => x.2 = [⟨gn, blk [] slf (l.set f (d1, d2)) sp, 29, true⟩])]⟩]
    (⟨bt, #[.int .u8 a, .int .u8 mb, .int .u8 i, .int .u8 b, .int .u8 c], 80, true⟩ :: ⟨b23, #[.int .i64 x1, .int .u32 x2], 29, true⟩ :: ⟨b29, #[.int .i64 d1, .int .u32 d2], 29, true⟩ :: ⟨bx1, #[.int .i64 y1, .int .u32 y2], 29, true⟩ :: ⟨bx2, #[.int .i64 d1, .int .u32 d2], 29, true⟩ :: ⟨bz, #[.int .i64 0, .int .u32 0], 29, true⟩ :: wdE bm p M bv mu T.2.2 :: rvE bv vs :: (E3 ++ (E1 ++ (e ++ (E2 ++ (Em1 ++ (eu ++ (Em2 ++ H)))))))) (⟨gn, blk [] slf l sp, 29, true⟩ :: (⟨bt, #[.int .u8 a, .int .u8 mb, .int .u8 i, .int .u8 b, .int .u8 c], 80, true⟩ :: ⟨b23, #[.int .i64 x1, .int .u32 x2], 29, true⟩ :: ⟨b29, #[.int .i64 d1, .int .u32 d2], 29, true⟩ :: ⟨bx1, #[.int .i64 y1, .int .u32 y2], 29, true⟩ :: ⟨bx2, #[.int .i64 d1, .int .u32 d2], 29, true⟩ :: ⟨bz, #[.int .i64 0, .int .u32 0], 29, true⟩ :: wdE bm p M bv mu T.2.2 :: rvE bv vs :: (E3 ++ (E1 ++ (e ++ (E2 ++ (Em1 ++ (eu ++ (Em2 ++ H))))))))) (by simp) hS (by kernel_rfl) (by kernel_rfl) ?_
  refine fx_val (fun _ => rfl) rfl (fun χ w hw => run_mv _ rfl) ?_
  refine fx_val (fun _ => rfl) rfl (fun χ w hw => run_nc _ rfl) ?_
  refine fx_val (fun _ => rfl) rfl (fun χ w hw => run_fa _ _ _ rfl) ?_
  (refine fx_val (fun _ => rfl) rfl (fun χ w hw => run_ld _ _ rfl hw) ?_)
  (refine fx_val (fun _ => rfl) rfl (fun χ w hw => run_lda _ _ rfl hw) ?_)
  refine fx_val (fun _ => rfl) rfl (fun χ w hw => run_look _ _ _ rfl (hlk _ _ hw)) ?_
  refine fx_val (fun _ => rfl) rfl (fun χ w hw => run_mv _ rfl) ?_
  (refine fx_val (fun _ => rfl) rfl (fun χ w hw => run_lda _ _ rfl hw) ?_)
  refine fx_val (fun _ => rfl) rfl (fun χ w hw => run_idxv _ _ _ rfl) ?_
  refine fx_turn0 0 0 rfl rfl (by kernel_rfl) (by kernel_rfl) (by kernel_rfl) (fun _ => rfl) (fun _ => undef) ?_ ?_
  · intro χ X w _ hS
    exact stepX_sta _ _ _ rfl (show St w0 bs w (⟨gn, blk [] slf l sp, 29, true⟩ :: (X ++ _)) from hS) (fun w' hS' => ⟨(undef, [⟨gn, blk [] slf (l.set f (d1, d2)) sp, 29, true⟩]), rfl, rfl, hS'⟩)
  refine fx_end rfl ?_
  intro χ w hok hS
  obtain ⟨hD, _⟩ := hok _ (.head _)
  have hD : (χ 9).2 = [⟨gn, blk [] slf (l.set f (d1, d2)) sp, 29, true⟩] := hD
  have hS : St w0 bs w (((χ 9).2 ++ []) ++ (⟨bt, #[.int .u8 a, .int .u8 mb, .int .u8 i, .int .u8 b, .int .u8 c], 80, true⟩ :: ⟨b23, #[.int .i64 x1, .int .u32 x2], 29, true⟩ :: ⟨b29, #[.int .i64 d1, .int .u32 d2], 29, true⟩ :: ⟨bx1, #[.int .i64 y1, .int .u32 y2], 29, true⟩ :: ⟨bx2, #[.int .i64 d1, .int .u32 d2], 29, true⟩ :: ⟨bz, #[.int .i64 0, .int .u32 0], 29, true⟩ :: wdE bm p M bv mu T.2.2 :: rvE bv vs :: (E3 ++ (E1 ++ (e ++ (E2 ++ (Em1 ++ (eu ++ (Em2 ++ H))))))))) := hS
  rw [hD] at hS
  simp only [List.cons_append, List.nil_append, List.append_assoc] at hS
  clear hok hD
  go_wp2_with ((go_skip))
  have hus2 : RL (us.set j (.slice (some ⟨gn, 0, none⟩) l.length cap)) (mpF (ms.set j ((x1, x2), 0, (l.set f (d1, d2))))) (Em1 ++ ([⟨gn, blk [] slf (l.set f (d1, d2)) sp, 29, true⟩] ++ Em2)) := by
    rw [mpF_set]
    exact huset'.out _ _ _ (hset5'.out (l.set f (d1, d2)) (by simp))
  have hB2 : Base W w0 bs M (mpV (ms.set j ((x1, x2), 0, (l.set f (d1, d2)))) (us.set j (.slice (some ⟨gn, 0, none⟩) l.length cap))) := by rw [mpV_set (m' := ((x1, x2), 0, (l.set f (d1, d2)))) hj'.out rfl]; exact hB
  exact hR _ (by rw [hnx.out]; exact (show WX W bm n mu (k + 1) H _ (L', T.2.1, T.2.2) (ms.set j ((x1, x2), 0, l.set f (d1, d2))) from ⟨w0, bs, M, p, bv, vs, _, E3, _, _, hB2, by show St w0 bs w (wdE bm p M bv mu T.2.2 :: _); simp only [List.append_assoc, List.cons_append, List.nil_append]; exact hS.pick, hT2, hvs'.out, hus2, hWn'.out 0⟩))
set_option maxHeartbeats 4000000 in
set_option maxRecDepth 100000 in
theorem wt_stR6 {W : World} {bm n mu k : Nat} {H : List Ent} {T : Ar} {ms : List Me} (hk : k ≤ 400) (hX : WX W bm n mu k H w T ms) (hmu : 1 ≤ mu ∧ mu ≤ 4) (a mb i b c : Nat) (ha : a ≤ 255) (hmb : mb ≤ 255) (hi : i ≤ 255) (hb : b ≤ 255) (hc : c ≤ 255) (h0 : a % 8 = 6) (hpos : 0 < (rtL T (mb % mu : Nat)).length) (hcase : ∀ (j b0 : Nat) (l : List Rf), ms[j]? = some ((rtL T (mb % mu : Nat)).getD (i % (rtL T (mb % mu : Nat)).length) (0, 0), b0, l) → l.length ≤ b % 4)
    (hR : ∀ w', WX W bm n mu (k + 1) H w' (nxT n mu T ms a mb i b c).1 (nxT n mu T ms a mb i b c).2 → Ret R (.bool true) w') : Calls Try.prog 31 #[.pointer (some ⟨bm, 0, none⟩), .agg #[.int .u8 a, .int .u8 mb, .int .u8 i, .int .u8 b, .int .u8 c]] w R := by
  obtain ⟨w0, bs, M, p, bv, vs, us, E, Er, Em, hB, hS, hT, hvs, hus, hWo⟩ := hX
  have hlv : vs.length = mu := by rw [hvs.len]; exact hWo.mu
  have hlu : us.length = ms.length := by rw [hus.len]; simp
  obtain ⟨m, hm⟩ : ∃ q, mb % mu = q := ⟨_, rfl⟩
  have hml : m < mu := by rw [← hm]; exact Nat.mod_lt _ (by omega)
  have rm : RemIs (mb : Int) (mu : Int) (m : Int) := ⟨by rw [Int.tmod_eq_emod_of_nonneg (by omega)]; omega, by omega⟩
  have smb : Small (mb : Int) := ⟨by omega, by omega⟩
  have si : Small (i : Int) := ⟨by omega, by omega⟩
  have sb : Small (b : Int) := ⟨by omega, by omega⟩
  have sc : Small (c : Int) := ⟨by omega, by omega⟩
  have ix := rv_idx (bv := bv) hml
  have lx := rv_len (bv := bv) (mu := mu)
  obtain ⟨v, E1, e, E2, hv1, rfl, hv, hset⟩ := hvs.at m _ (hWo.rtq hml)
  simp only [List.append_assoc] at hS
  obtain ⟨nr, hnr⟩ : ∃ q, (rtL T m).length = q := ⟨_, rfl⟩
  have hn32 : nr ≤ 32 := hnr ▸ hWo.r32 _ (hWo.rtl hml)
  have hln : LenV Try.prog 44 v nr := hv.len hnr
  have hone := hv.one
  have cv := cellV hv1
  obtain ⟨g, hg⟩ : ∃ q, b % 8 = q := ⟨_, rfl⟩
  have hg8 : g < 8 := by omega
  have rg : RemIs (b : Int) 8 (g : Int) := ⟨by rw [Int.tmod_eq_emod_of_nonneg (by omega)]; omega, by decide⟩
  obtain ⟨a8, ha8⟩ : ∃ q, a % 8 = q := ⟨_, rfl⟩
  have ra : RemIs (a : Int) 8 (a8 : Int) := ⟨by rw [Int.tmod_eq_emod_of_nonneg (by omega)]; omega, by decide⟩
  have qz := refE (refB_self 0 0)
  have hWo' := Lib.hid hWo
  have hvs' := Lib.hid hvs
  have hus' := Lib.hid hus
  have hset' := Lib.hid hset
  have hv1' := Lib.hid hv1
  have hlv' := Lib.hid hlv
  have hlu' := Lib.hid hlu
  have hnr' := Lib.hid hnr
  obtain rfl : a8 = 6 := by omega
  have hn0 : 0 < nr := by rw [hm] at hpos; omega
  have z0 : ((nr : Int) == 0) = false := beq_eq_false_iff_ne.2 (by omega)
  have z0' : decide ((nr : Int) = 0) = false := decide_eq_false (by omega)
  have z0'' : decide (nr = 0) = false := decide_eq_false (by omega)
  obtain ⟨q, hq⟩ : ∃ q, i % nr = q := ⟨_, rfl⟩
  have hqn : q < nr := by rw [← hq]; exact Nat.mod_lt _ hn0
  have rq : RemIs (i : Int) (nr : Int) (q : Int) := ⟨by rw [Int.tmod_eq_emod_of_nonneg (by omega)]; omega, by omega⟩
  have hql : q < (rtL T m).length := by rw [hnr]; exact hqn
  obtain ⟨⟨x1, x2⟩, hx⟩ : ∃ x, (rtL T m).getD q (0, 0) = x := ⟨_, rfl⟩
  obtain ⟨gq, sq, iq, hHq, cq⟩ := hv.at hql hx
  have iq := iq q rfl
  simp only at cq
  have hmem : (x1, x2) ∈ kyM ms := hx ▸ (hWo.rt hml hql).2.2
  obtain ⟨j, b0, l, hj, hob, hl4⟩ := hWo.ent hmem
  obtain ⟨u, Em1, eu, Em2, hu1, rfl, hu, huset⟩ := hus.at j l (by simp [mpF, hj])
  simp only [List.append_assoc] at hS
  obtain ⟨nl, hnl⟩ : ∃ q, l.length = q := ⟨_, rfl⟩
  have hlnu : LenV Try.prog 44 u nl := hu.len hnl
  have honeu := hu.one
  have hlk : ∀ w H, St w0 bs w H → LookIs Try.prog w 25 M #[.int .i64 x1, .int .u32 x2] false u := fun w H hS => look_mp (hB.now hS) hWo.mo.ks hj hu1 rfl false
  obtain ⟨f, hfb⟩ : ∃ q, b % 4 = q := ⟨_, rfl⟩
  have rf : RemIs (b : Int) 4 (f : Int) := ⟨by rw [Int.tmod_eq_emod_of_nonneg (by omega)]; omega, by decide⟩
  have hj' := Lib.hid hj
  have hu1' := Lib.hid hu1
  have huset' := Lib.hid huset
  have hql' := Lib.hid hql
  have hnl' := Lib.hid hnl
  have hl4' := Lib.hid hl4
  have hks' := Lib.hid hWo.mo.ks
  have hle' := Lib.hid (hWo.r32 _ (hWo.rtl hml))
  have hcs := hcase j b0 l (by rw [hm, hnr, hq, hx]; exact hj)
  rw [hfb] at hcs
  have hfo : nl ≤ f := by omega
  have df : decide ((f : Int) < (nl : Int)) = false := decide_eq_false (by omega)
  have df' : decide (f < nl) = false := decide_eq_false (by omega)
  obtain ⟨q2, hq2⟩ : ∃ q, c % nr = q := ⟨_, rfl⟩
  have hq2n : q2 < nr := by rw [← hq2]; exact Nat.mod_lt _ hn0
  have rq2 : RemIs (c : Int) (nr : Int) (q2 : Int) := ⟨by rw [Int.tmod_eq_emod_of_nonneg (by omega)]; omega, by omega⟩
  have hq2l : q2 < (rtL T m).length := by rw [hnr]; exact hq2n
  obtain ⟨⟨d1, d2⟩, hd⟩ : ∃ x, (rtL T m).getD q2 (0, 0) = x := ⟨_, rfl⟩
  obtain ⟨gd, sd, id', hHd, cd⟩ := hv.at hq2l hd
  have id' := id' q2 rfl
  simp only at cd
  obtain ⟨h1, h2, h3, h4⟩ := (hWo.store hml hql hx hj hob f (c := (-1 : Int)) (v := (0, 0)) (.inl ⟨rfl, rfl⟩)).1 (by omega)
  have h1' := Lib.hid h1
  have h2' := Lib.hid h2
  have h3' := Lib.hid h3
  have h4' := Lib.hid h4
  have hnx := Lib.hid (show nxT n mu T ms a mb i b c = (T, ms) from by rw [nxT, if_neg (by omega), if_neg (by omega), if_neg (by omega), if_neg (by omega), if_neg (by omega), if_neg (by omega), if_neg (by omega), hm, hnr, hq, hfb, if_neg (by omega), h1, stM_out hWo.mo.ks hj hx (by omega)])
  clear h1 h2 h3 h4 hcs hcase
  clear hq2 hd hq2l
  clear hq hx hmem hj hob hl4 hu1 huset hnl hfb hpos hql
  clear hm hg hWo hvs hus hset hv1 hlv hlu hnr
  go_enter Try.func31, Try.ntmps31
  go_wp2_with ((refine wpList_is (.box 80 _) rfl ?_; go_must (refine wpList_stp (by kernel_rfl) (stp_bx _ _ rfl hS ?_)); clear hS; intro bt w _ hS))
  refine region_quiet hS (by kernel_rfl) (by kernel_rfl) (fun hne => ?_)
  go_big_quiet_want; (refine quiet_is (.fieldAddr _ _ _) rfl ?_; refine quiet_val (fun w _ => run_fa _ _ _ rfl) ?_; go_big_quiet_on)
  go_big_quiet_want; ((refine quiet_is (.load _ _) rfl ?_; refine quiet_at sw_st (fun w hS => run_ld _ _ rfl hS) ?_; go_big_quiet_on))
  go_big_quiet_want; (refine quiet_is (.convert _ _ _) rfl ?_; refine quiet_val (fun w _ => run_cvn _ _ _ rfl) ?_; go_big_quiet_on)
  go_big_quiet_want; (refine quiet_is (.move _) rfl ?_; refine quiet_val (fun w _ => run_mv _ rfl) ?_; go_big_quiet_on)
  go_big_quiet_want; (refine quiet_is (.nilCheck _) rfl ?_; refine quiet_val (fun w _ => run_nc _ rfl) ?_; go_big_quiet_on)
  go_big_quiet_want; (refine quiet_is (.fieldAddr _ _ _) rfl ?_; refine quiet_val (fun w _ => run_fa _ _ _ rfl) ?_; go_big_quiet_on)
  go_big_quiet_want; ((refine quiet_is (.load _ _) rfl ?_; refine quiet_at sw_st (fun w hS => run_ld _ _ rfl hS) ?_; go_big_quiet_on))
  go_big_quiet_want; (refine quiet_is (.call { callee := .builtin .len, args := #[_], argTypes := #[_] }) rfl ?_; refine quiet_val (fun w _ => run_lenv _ _ rfl) ?_; go_big_quiet_on)
  go_big_quiet_want; (refine quiet_is (.binOp .rem _ _ _ _) rfl ?_; refine quiet_val (fun w _ => run_remv _ _ _ _ rfl) ?_; go_big_quiet_on)
  go_big_quiet_want; (refine quiet_is (.assign _) rfl ?_; refine quiet_val (fun w _ => run_as _ rfl) ?_; go_big_quiet_on)
  refine wpQuiet_nil ?_
  clear hS hne
  intro w hS
  go_wp2_with (first | (refine wpList_is (o := ⟨some 9, _, _, _, _, _⟩) (.alloc _) rfl ?_; go_must (refine wpList_stp (by kernel_rfl) (stp_al _ rfl hS ?_)); clear hS; intro bz w _ hS) | (refine wpList_is (o := ⟨some 23, _, _, _, _, _⟩) (.alloc _) rfl ?_; go_must (refine wpList_stp (by kernel_rfl) (stp_al _ rfl hS ?_)); clear hS; intro b23 w _ hS) | (refine wpList_is (.load 29 _) rfl ?_; refine wpList_stp (by kernel_rfl) (stp_val (run_lda _ _ rfl hS) ?_)) | (refine wpList_is (.convert _ _ _) rfl ?_; refine wpList_stp (by kernel_rfl) (stp_val (run_cvn _ _ _ rfl) ?_)) | (refine wpList_is (.binOp .rem _ _ _ _) rfl ?_; refine wpList_stp (by kernel_rfl) (stp_val (run_remv _ _ _ _ rfl) ?_)) | (refine wpList_is (.call { callee := .builtin .len, args := #[_], argTypes := #[_] }) rfl ?_; refine wpList_stp (by kernel_rfl) (stp_val (run_lenv _ _ rfl) ?_)) | (refine wpList_is (.indexAddr _ _ _) rfl ?_; refine wpList_stp (by kernel_rfl) (stp_val (run_idxv _ _ _ rfl) ?_)) | (refine wpList_is (.build _ _) rfl ?_; go_must (refine wpList_stp (by kernel_rfl) (stp_val (run_bd _ _ rfl) ?_))) | (refine wpList_is (.load _ _) rfl ?_; go_must ((refine wpList_stp (by kernel_rfl) (stp_val (run_ld _ _ rfl hS) ?_)))) | (refine wpList_is (.store _ _ _) rfl ?_; go_must ((refine wpList_stp (by kernel_rfl) (stp_sta _ _ _ rfl hS ?_))); clear hS; intro w hS))
  go_wp2_with ((go_skip))
  refine region_quiet hS (by kernel_rfl) (by kernel_rfl) (fun hne => ?_)
  go_big_quiet_want; (refine quiet_is (.move _) rfl ?_; refine quiet_val (fun w _ => run_mv _ rfl) ?_; go_big_quiet_on)
  go_big_quiet_want; (refine quiet_is (.move _) rfl ?_; refine quiet_val (fun w _ => run_mv _ rfl) ?_; go_big_quiet_on)
  go_big_quiet_want; (refine quiet_is (.nilCheck _) rfl ?_; refine quiet_val (fun w _ => run_nc _ rfl) ?_; go_big_quiet_on)
  go_big_quiet_want; (refine quiet_is (.fieldAddr _ _ _) rfl ?_; refine quiet_val (fun w _ => run_fa _ _ _ rfl) ?_; go_big_quiet_on)
  go_big_quiet_want; ((refine quiet_is (.load _ _) rfl ?_; refine quiet_at sw_st (fun w hS => run_ld _ _ rfl hS) ?_; go_big_quiet_on))
  go_big_quiet_want; ((refine quiet_is (.load _ _) rfl ?_; refine quiet_at sw_st (fun w hS => run_lda _ _ rfl hS) ?_; go_big_quiet_on))
  go_big_quiet_want; (refine quiet_is (.lookup _ _ _ _) rfl ?_; refine quiet_at sw_st (fun w hS => run_look _ _ _ rfl (hlk _ _ hS)) ?_; go_big_quiet_on)
  go_big_quiet_want; (refine quiet_is (.call { callee := .builtin .len, args := #[_], argTypes := #[_] }) rfl ?_; refine quiet_val (fun w _ => run_lenv _ _ rfl) ?_; go_big_quiet_on)
  go_big_quiet_want; ((go_big_quiet_op; go_big_quiet_on))
  go_big_quiet_want; (refine quiet_is (.assign _) rfl ?_; refine quiet_val (fun w _ => run_as _ rfl) ?_; go_big_quiet_on)
  refine wpQuiet_nil ?_
  clear hS hne
  intro w hS
  go_wp2_with (first | (refine wpList_is (.binOp .rem _ _ _ _) rfl ?_; refine wpList_stp (by kernel_rfl) (stp_val (run_remv _ _ _ _ rfl) ?_)) | (refine wpList_is (.load _ _) rfl ?_; go_must ((refine wpList_stp (by kernel_rfl) (stp_val (run_ld _ _ rfl hS) ?_)))))
  have hS : St w0 bs _ (⟨bt, #[.int .u8 a, .int .u8 mb, .int .u8 i, .int .u8 b, .int .u8 c], 80, true⟩ :: ⟨b23, #[.int .i64 x1, .int .u32 x2], 29, true⟩ :: ⟨bz, #[.int .i64 0, .int .u32 0], 29, true⟩ :: wdE bm p M bv mu T.2.2 :: rvE bv vs :: (E ++ (E1 ++ (e ++ (E2 ++ (Em1 ++ (eu ++ (Em2 ++ H)))))))) := hS.pick
  refine region_itemsE [⟨(undef, []), [(19, fun _ x => ∃ b, x = (.pointer (some ⟨b, 0, none⟩), [⟨b, #[.int .i64 0, .int .u32 0], 29, true⟩])), (21, fun y x => ∃ b, y.1 = .pointer (some ⟨b, 0, none⟩) ∧ x.2 = [⟨b, #[.int .i64 d1, .int .u32 d2], 29, true⟩])]⟩]
    (⟨bt, #[.int .u8 a, .int .u8 mb, .int .u8 i, .int .u8 b, .int .u8 c], 80, true⟩ :: ⟨b23, #[.int .i64 x1, .int .u32 x2], 29, true⟩ :: ⟨bz, #[.int .i64 0, .int .u32 0], 29, true⟩ :: wdE bm p M bv mu T.2.2 :: rvE bv vs :: (E ++ (E1 ++ (e ++ (E2 ++ (Em1 ++ (eu ++ (Em2 ++ H)))))))) (⟨bt, #[.int .u8 a, .int .u8 mb, .int .u8 i, .int .u8 b, .int .u8 c], 80, true⟩ :: ⟨b23, #[.int .i64 x1, .int .u32 x2], 29, true⟩ :: ⟨bz, #[.int .i64 0, .int .u32 0], 29, true⟩ :: wdE bm p M bv mu T.2.2 :: rvE bv vs :: (E ++ (E1 ++ (e ++ (E2 ++ (Em1 ++ (eu ++ (Em2 ++ H)))))))) (by simp) hS (by kernel_rfl) (by kernel_rfl) ?_
  refine fx_val (fun _ => rfl) rfl (fun χ w hw => run_fa _ _ _ rfl) ?_
  (refine fx_val (fun _ => rfl) rfl (fun χ w hw => run_ld _ _ rfl hw) ?_)
  refine fx_val (fun _ => rfl) rfl (fun χ w hw => run_cvn _ _ _ rfl) ?_
  refine fx_val (fun _ => rfl) rfl (fun χ w hw => run_mv _ rfl) ?_
  (refine fx_val (fun _ => rfl) rfl (fun χ w hw => run_remv _ _ _ _ rfl) ?_)
  refine fx_val (fun _ => rfl) rfl (fun χ w hw => run_mv _ rfl) ?_
  refine fx_val (fun _ => rfl) rfl (fun χ w hw => run_nc _ rfl) ?_
  refine fx_val (fun _ => rfl) rfl (fun χ w hw => run_fa _ _ _ rfl) ?_
  (refine fx_val (fun _ => rfl) rfl (fun χ w hw => run_ld _ _ rfl hw) ?_)
  refine fx_val (fun _ => rfl) rfl (fun χ w hw => run_mv _ rfl) ?_
  refine fx_val (fun _ => rfl) rfl (fun χ w hw => run_idxv _ _ _ rfl) ?_
  (refine fx_val (fun _ => rfl) rfl (fun χ w hw => run_ld _ _ rfl hw) ?_)
  refine fx_val (fun _ => rfl) rfl (fun χ w hw => run_fa _ _ _ rfl) ?_
  (refine fx_val (fun _ => rfl) rfl (fun χ w hw => run_ld _ _ rfl hw) ?_)
  refine fx_val (fun _ => rfl) rfl (fun χ w hw => run_cvn _ _ _ rfl) ?_
  refine fx_val (fun _ => rfl) rfl (fun χ w hw => run_mv _ rfl) ?_
  (refine fx_val (fun _ => rfl) rfl (fun χ w hw => run_remv _ _ _ _ rfl) ?_)
  refine fx_val (fun _ => rfl) rfl (fun χ w hw => run_idxv _ _ _ rfl) ?_
  (refine fx_val (fun _ => rfl) rfl (fun χ w hw => run_lda _ _ rfl hw) ?_)
  refine fx_turn0 0 0 rfl rfl (by kernel_rfl) (by kernel_rfl) (by kernel_rfl) (fun _ => rfl) (fun x => x.1) ?_ ?_
  · intro χ X w _ hS
    exact stepX_al _ rfl (show St w0 bs w (X ++ _) from hS) (fun b w' _ hS' => ⟨(_, [_]), rfl, ⟨b, rfl⟩, hS'⟩)
  refine fx_val (fun _ => rfl) rfl (fun χ w hw => run_as _ rfl) ?_
  refine fx_turn0 0 1 rfl rfl (by kernel_rfl) (by kernel_rfl) (by kernel_rfl) (fun _ => rfl) (fun _ => undef) ?_ ?_
  · rintro χ X w ⟨⟨b, hb⟩, _⟩ hS
    have hS : St w0 bs w ((χ 19).2 ++ (X ++ _)) := hS
    rw [hb] at hS
    have hS : St w0 bs w (⟨b, #[.int .i64 0, .int .u32 0], 29, true⟩ :: (X ++ _)) := hS
    have hb1 : (χ 19).1 = .pointer (some ⟨b, 0, none⟩) := by rw [hb]
    exact stepX_stb _ _ _ rfl hS hb1 (fun w' hS' => ⟨(undef, [⟨b, #[.int .i64 d1, .int .u32 d2], 29, true⟩]), rfl, ⟨b, hb1, rfl⟩, hS'⟩)
  refine fx_end rfl ?_
  intro χ w hok hS
  obtain ⟨⟨b29, hb0⟩, ⟨_, hbx, hc0⟩, _⟩ := hok _ (.head _)
  rw [hb0] at hbx
  obtain ⟨⟩ := hbx
  have hS : St w0 bs w (((χ 21).2 ++ []) ++ (⟨bt, #[.int .u8 a, .int .u8 mb, .int .u8 i, .int .u8 b, .int .u8 c], 80, true⟩ :: ⟨b23, #[.int .i64 x1, .int .u32 x2], 29, true⟩ :: ⟨bz, #[.int .i64 0, .int .u32 0], 29, true⟩ :: wdE bm p M bv mu T.2.2 :: rvE bv vs :: (E ++ (E1 ++ (e ++ (E2 ++ (Em1 ++ (eu ++ (Em2 ++ H))))))))) := hS
  rw [hc0, List.append_nil] at hS
  simp only [hb0]
  simp only [List.cons_append, List.nil_append, List.append_assoc] at hS
  clear hok hb0 hc0
  go_wp2_with (first | (refine wpList_is (.binOp .rem _ _ _ _) rfl ?_; refine wpList_stp (by kernel_rfl) (stp_val (run_remv _ _ _ _ rfl) ?_)) | (refine wpList_is (.load _ _) rfl ?_; go_must ((refine wpList_stp (by kernel_rfl) (stp_val (run_ld _ _ rfl hS) ?_)))))
  have hS : St w0 bs _ (⟨b29, #[.int .i64 d1, .int .u32 d2], 29, true⟩ :: (⟨bt, #[.int .u8 a, .int .u8 mb, .int .u8 i, .int .u8 b, .int .u8 c], 80, true⟩ :: ⟨b23, #[.int .i64 x1, .int .u32 x2], 29, true⟩ :: ⟨bz, #[.int .i64 0, .int .u32 0], 29, true⟩ :: wdE bm p M bv mu T.2.2 :: rvE bv vs :: (E ++ (E1 ++ (e ++ (E2 ++ (Em1 ++ (eu ++ (Em2 ++ H))))))))) := hS.pick
  refine region_itemsE [⟨(undef, [⟨b29, #[.int .i64 d1, .int .u32 d2], 29, true⟩]), [(2, fun _ x => x.2 = [⟨b29, #[.int .i64 0, .int .u32 0], 29, true⟩])]⟩]
    (⟨bt, #[.int .u8 a, .int .u8 mb, .int .u8 i, .int .u8 b, .int .u8 c], 80, true⟩ :: ⟨b23, #[.int .i64 x1, .int .u32 x2], 29, true⟩ :: ⟨bz, #[.int .i64 0, .int .u32 0], 29, true⟩ :: wdE bm p M bv mu T.2.2 :: rvE bv vs :: (E ++ (E1 ++ (e ++ (E2 ++ (Em1 ++ (eu ++ (Em2 ++ H)))))))) (⟨b29, #[.int .i64 d1, .int .u32 d2], 29, true⟩ :: (⟨bt, #[.int .u8 a, .int .u8 mb, .int .u8 i, .int .u8 b, .int .u8 c], 80, true⟩ :: ⟨b23, #[.int .i64 x1, .int .u32 x2], 29, true⟩ :: ⟨bz, #[.int .i64 0, .int .u32 0], 29, true⟩ :: wdE bm p M bv mu T.2.2 :: rvE bv vs :: (E ++ (E1 ++ (e ++ (E2 ++ (Em1 ++ (eu ++ (Em2 ++ H))))))))) (by simp) hS (by kernel_rfl) (by kernel_rfl) ?_
  (refine fx_val (fun _ => rfl) rfl (fun χ w hw => run_lda _ _ rfl hw) ?_)
  refine fx_val (fun _ => rfl) rfl (fun χ w hw => run_as _ rfl) ?_
  refine fx_turn0 0 0 rfl rfl (by kernel_rfl) (by kernel_rfl) (by kernel_rfl) (fun _ => rfl) (fun _ => undef) ?_ ?_
  · intro χ X w _ hS
    exact stepX_sta _ _ _ rfl (show St w0 bs w (⟨b29, #[.int .i64 d1, .int .u32 d2], 29, true⟩ :: (X ++ _)) from hS) (fun w' hS' => ⟨(undef, [⟨b29, #[.int .i64 0, .int .u32 0], 29, true⟩]), rfl, rfl, hS'⟩)
  refine fx_end rfl ?_
  intro χ w hok hS
  obtain ⟨hD, _⟩ := hok _ (.head _)
  have hD : (χ 2).2 = [⟨b29, #[.int .i64 0, .int .u32 0], 29, true⟩] := hD
  have hS : St w0 bs w (((χ 2).2 ++ []) ++ (⟨bt, #[.int .u8 a, .int .u8 mb, .int .u8 i, .int .u8 b, .int .u8 c], 80, true⟩ :: ⟨b23, #[.int .i64 x1, .int .u32 x2], 29, true⟩ :: ⟨bz, #[.int .i64 0, .int .u32 0], 29, true⟩ :: wdE bm p M bv mu T.2.2 :: rvE bv vs :: (E ++ (E1 ++ (e ++ (E2 ++ (Em1 ++ (eu ++ (Em2 ++ H))))))))) := hS
  rw [hD] at hS
  simp only [List.cons_append, List.nil_append, List.append_assoc] at hS
  clear hok hD
  go_wp2_with (first | (refine wpList_is (o := ⟨some 30, _, _, _, _, _⟩) (.alloc _) rfl ?_; go_must (refine wpList_stp (by kernel_rfl) (stp_al _ rfl hS ?_)); clear hS; intro bx1 w _ hS) | (refine wpList_is (o := ⟨some 31, _, _, _, _, _⟩) (.alloc _) rfl ?_; go_must (refine wpList_stp (by kernel_rfl) (stp_al _ rfl hS ?_)); clear hS; intro bx2 w _ hS) | (go_at_call 11; go_must (refine ar_store hS hT m q f (-1 : Int) T (0, 0) (0, 0) 3 h1'.out h2'.out h3'.out h4'.out ?_); clear hS; intro E3 w hT2 hS; unfold Ret) | (refine wpList_is (.binOp .eql 29 _ _ _) rfl ?_; refine wpList_stp (by kernel_rfl) (stp_val (run_aeq _ _ _ _ rfl) ?_)) | (refine wpList_is (.load 29 _) rfl ?_; refine wpList_stp (by kernel_rfl) (stp_val (run_lda _ _ rfl hS) ?_)) | (refine wpList_is (.load _ _) rfl ?_; go_must ((refine wpList_stp (by kernel_rfl) (stp_val (run_ld _ _ rfl hS) ?_)))) | (refine wpList_is (.store _ _ _) rfl ?_; go_must ((refine wpList_stp (by kernel_rfl) (stp_sta _ _ _ rfl hS ?_))); clear hS; intro w hS))
  exact hR _ (by rw [hnx.out]; exact (show WX W bm n mu (k + 1) H _ T ms from ⟨w0, bs, M, p, bv, vs, us, E3, _, _, hB, by simp only [List.append_assoc]; exact hS.pick, hT2, hvs'.out, hus'.out, hWo'.out.more⟩))
set_option maxHeartbeats 4000000 in
set_option maxRecDepth 100000 in
theorem wt_st6 {W : World} {bm n mu k : Nat} {H : List Ent} {T : Ar} {ms : List Me} (hk : k ≤ 400) (hX : WX W bm n mu k H w T ms) (hmu : 1 ≤ mu ∧ mu ≤ 4) (a mb i b c : Nat) (ha : a ≤ 255) (hmb : mb ≤ 255) (hi : i ≤ 255) (hb : b ≤ 255) (hc : c ≤ 255) (h0 : a % 8 = 6) (hpos : 0 < (rtL T (mb % mu : Nat)).length) (hcase : ∀ (j b0 : Nat) (l : List Rf), ms[j]? = some ((rtL T (mb % mu : Nat)).getD (i % (rtL T (mb % mu : Nat)).length) (0, 0), b0, l) → b % 4 < l.length)
    (hR : ∀ w', WX W bm n mu (k + 1) H w' (nxT n mu T ms a mb i b c).1 (nxT n mu T ms a mb i b c).2 → Ret R (.bool true) w') : Calls Try.prog 31 #[.pointer (some ⟨bm, 0, none⟩), .agg #[.int .u8 a, .int .u8 mb, .int .u8 i, .int .u8 b, .int .u8 c]] w R := by
  obtain ⟨w0, bs, M, p, bv, vs, us, E, Er, Em, hB, hS, hT, hvs, hus, hWo⟩ := hX
  have hlv : vs.length = mu := by rw [hvs.len]; exact hWo.mu
  have hlu : us.length = ms.length := by rw [hus.len]; simp
  obtain ⟨m, hm⟩ : ∃ q, mb % mu = q := ⟨_, rfl⟩
  have hml : m < mu := by rw [← hm]; exact Nat.mod_lt _ (by omega)
  have rm : RemIs (mb : Int) (mu : Int) (m : Int) := ⟨by rw [Int.tmod_eq_emod_of_nonneg (by omega)]; omega, by omega⟩
  have smb : Small (mb : Int) := ⟨by omega, by omega⟩
  have si : Small (i : Int) := ⟨by omega, by omega⟩
  have sb : Small (b : Int) := ⟨by omega, by omega⟩
  have sc : Small (c : Int) := ⟨by omega, by omega⟩
  have ix := rv_idx (bv := bv) hml
  have lx := rv_len (bv := bv) (mu := mu)
  obtain ⟨v, E1, e, E2, hv1, rfl, hv, hset⟩ := hvs.at m _ (hWo.rtq hml)
  simp only [List.append_assoc] at hS
  obtain ⟨nr, hnr⟩ : ∃ q, (rtL T m).length = q := ⟨_, rfl⟩
  have hn32 : nr ≤ 32 := hnr ▸ hWo.r32 _ (hWo.rtl hml)
  have hln : LenV Try.prog 44 v nr := hv.len hnr
  have hone := hv.one
  have cv := cellV hv1
  obtain ⟨g, hg⟩ : ∃ q, b % 8 = q := ⟨_, rfl⟩
  have hg8 : g < 8 := by omega
  have rg : RemIs (b : Int) 8 (g : Int) := ⟨by rw [Int.tmod_eq_emod_of_nonneg (by omega)]; omega, by decide⟩
  obtain ⟨a8, ha8⟩ : ∃ q, a % 8 = q := ⟨_, rfl⟩
  have ra : RemIs (a : Int) 8 (a8 : Int) := ⟨by rw [Int.tmod_eq_emod_of_nonneg (by omega)]; omega, by decide⟩
  have qz := refE (refB_self 0 0)
  have hWo' := Lib.hid hWo
  have hvs' := Lib.hid hvs
  have hus' := Lib.hid hus
  have hset' := Lib.hid hset
  have hv1' := Lib.hid hv1
  have hlv' := Lib.hid hlv
  have hlu' := Lib.hid hlu
  have hnr' := Lib.hid hnr
  obtain rfl : a8 = 6 := by omega
  have hn0 : 0 < nr := by rw [hm] at hpos; omega
  have z0 : ((nr : Int) == 0) = false := beq_eq_false_iff_ne.2 (by omega)
  have z0' : decide ((nr : Int) = 0) = false := decide_eq_false (by omega)
  have z0'' : decide (nr = 0) = false := decide_eq_false (by omega)
  obtain ⟨q, hq⟩ : ∃ q, i % nr = q := ⟨_, rfl⟩
  have hqn : q < nr := by rw [← hq]; exact Nat.mod_lt _ hn0
  have rq : RemIs (i : Int) (nr : Int) (q : Int) := ⟨by rw [Int.tmod_eq_emod_of_nonneg (by omega)]; omega, by omega⟩
  have hql : q < (rtL T m).length := by rw [hnr]; exact hqn
  obtain ⟨⟨x1, x2⟩, hx⟩ : ∃ x, (rtL T m).getD q (0, 0) = x := ⟨_, rfl⟩
  obtain ⟨gq, sq, iq, hHq, cq⟩ := hv.at hql hx
  have iq := iq q rfl
  simp only at cq
  have hmem : (x1, x2) ∈ kyM ms := hx ▸ (hWo.rt hml hql).2.2
  obtain ⟨j, b0, l, hj, hob, hl4⟩ := hWo.ent hmem
  obtain ⟨u, Em1, eu, Em2, hu1, rfl, hu, huset⟩ := hus.at j l (by simp [mpF, hj])
  simp only [List.append_assoc] at hS
  obtain ⟨nl, hnl⟩ : ∃ q, l.length = q := ⟨_, rfl⟩
  have hlnu : LenV Try.prog 44 u nl := hu.len hnl
  have honeu := hu.one
  have hlk : ∀ w H, St w0 bs w H → LookIs Try.prog w 25 M #[.int .i64 x1, .int .u32 x2] false u := fun w H hS => look_mp (hB.now hS) hWo.mo.ks hj hu1 rfl false
  obtain ⟨f, hfb⟩ : ∃ q, b % 4 = q := ⟨_, rfl⟩
  have rf : RemIs (b : Int) 4 (f : Int) := ⟨by rw [Int.tmod_eq_emod_of_nonneg (by omega)]; omega, by decide⟩
  have hj' := Lib.hid hj
  have hu1' := Lib.hid hu1
  have huset' := Lib.hid huset
  have hql' := Lib.hid hql
  have hnl' := Lib.hid hnl
  have hl4' := Lib.hid hl4
  have hks' := Lib.hid hWo.mo.ks
  have hle' := Lib.hid (hWo.r32 _ (hWo.rtl hml))
  have hcs := hcase j b0 l (by rw [hm, hnr, hq, hx]; exact hj)
  rw [hfb] at hcs
  have hfi : f < nl := by omega
  have df : decide ((f : Int) < (nl : Int)) = true := decide_eq_true (by omega)
  have df' : decide (f < nl) = true := decide_eq_true (by omega)
  obtain ⟨q2, hq2⟩ : ∃ q, c % nr = q := ⟨_, rfl⟩
  have hq2n : q2 < nr := by rw [← hq2]; exact Nat.mod_lt _ hn0
  have rq2 : RemIs (c : Int) (nr : Int) (q2 : Int) := ⟨by rw [Int.tmod_eq_emod_of_nonneg (by omega)]; omega, by omega⟩
  have hq2l : q2 < (rtL T m).length := by rw [hnr]; exact hq2n
  obtain ⟨⟨d1, d2⟩, hd⟩ : ∃ x, (rtL T m).getD q2 (0, 0) = x := ⟨_, rfl⟩
  obtain ⟨gd, sd, id', hHd, cd⟩ := hv.at hq2l hd
  have id' := id' q2 rfl
  simp only at cd
  have hfl : f < l.length := by omega
  obtain ⟨⟨y1, y2⟩, hy⟩ : ∃ y, l.getD f (0, 0) = y := ⟨_, rfl⟩
  obtain ⟨gu, su, iu, hHu, cu⟩ := hu.at hfl hy
  have iu := iu f rfl
  simp only at cu
  have qy := refE (refB_self y1 y2)
  have qv := refE (refB_self 0 0)
  obtain ⟨L', h1, h2, h3, h4, _, hWn⟩ := (hWo.store hml hql hx hj hob f (c := (-1 : Int)) (v := (0, 0)) (.inl ⟨rfl, rfl⟩)).2 hfl
  rw [hy] at h2
  have hWn' := Lib.hid hWn
  have hfl' := Lib.hid hfl
  have h1' := Lib.hid h1
  have h2' := Lib.hid h2
  have h3' := Lib.hid h3
  have h4' := Lib.hid h4
  have hnx := Lib.hid (show nxT n mu T ms a mb i b c = ((L', T.2.1, T.2.2), (ms.set j ((x1, x2), 0, l.set f (0, 0)))) from by rw [nxT, if_neg (by omega), if_neg (by omega), if_neg (by omega), if_neg (by omega), if_neg (by omega), if_neg (by omega), if_neg (by omega), hm, hnr, hq, hfb, if_neg (by omega), h1, stM_in hWo.mo.ks hj hx hfl (hWo.va1 hml).2])
  clear h1 h2 h3 h4 hcs hcase hy hfl hWn
  clear hq2 hd hq2l
  clear hq hx hmem hj hob hl4 hu1 huset hnl hfb hpos hql
  clear hm hg hWo hvs hus hset hv1 hlv hlu hnr
  go_enter Try.func31, Try.ntmps31
  go_wp2_with ((refine wpList_is (.box 80 _) rfl ?_; go_must (refine wpList_stp (by kernel_rfl) (stp_bx _ _ rfl hS ?_)); clear hS; intro bt w _ hS))
  refine region_quiet hS (by kernel_rfl) (by kernel_rfl) (fun hne => ?_)
  go_big_quiet_want; (refine quiet_is (.fieldAddr _ _ _) rfl ?_; refine quiet_val (fun w _ => run_fa _ _ _ rfl) ?_; go_big_quiet_on)
  go_big_quiet_want; ((refine quiet_is (.load _ _) rfl ?_; refine quiet_at sw_st (fun w hS => run_ld _ _ rfl hS) ?_; go_big_quiet_on))
  go_big_quiet_want; (refine quiet_is (.convert _ _ _) rfl ?_; refine quiet_val (fun w _ => run_cvn _ _ _ rfl) ?_; go_big_quiet_on)
  go_big_quiet_want; (refine quiet_is (.move _) rfl ?_; refine quiet_val (fun w _ => run_mv _ rfl) ?_; go_big_quiet_on)
  go_big_quiet_want; (refine quiet_is (.nilCheck _) rfl ?_; refine quiet_val (fun w _ => run_nc _ rfl) ?_; go_big_quiet_on)
  go_big_quiet_want; (refine quiet_is (.fieldAddr _ _ _) rfl ?_; refine quiet_val (fun w _ => run_fa _ _ _ rfl) ?_; go_big_quiet_on)
  go_big_quiet_want; ((refine quiet_is (.load _ _) rfl ?_; refine quiet_at sw_st (fun w hS => run_ld _ _ rfl hS) ?_; go_big_quiet_on))
  go_big_quiet_want; (refine quiet_is (.call { callee := .builtin .len, args := #[_], argTypes := #[_] }) rfl ?_; refine quiet_val (fun w _ => run_lenv _ _ rfl) ?_; go_big_quiet_on)
  go_big_quiet_want; (refine quiet_is (.binOp .rem _ _ _ _) rfl ?_; refine quiet_val (fun w _ => run_remv _ _ _ _ rfl) ?_; go_big_quiet_on)
  go_big_quiet_want; (refine quiet_is (.assign _) rfl ?_; refine quiet_val (fun w _ => run_as _ rfl) ?_; go_big_quiet_on)
  refine wpQuiet_nil ?_
  clear hS hne
  intro w hS
  go_wp2_with (first | (refine wpList_is (o := ⟨some 9, _, _, _, _, _⟩) (.alloc _) rfl ?_; go_must (refine wpList_stp (by kernel_rfl) (stp_al _ rfl hS ?_)); clear hS; intro bz w _ hS) | (refine wpList_is (o := ⟨some 23, _, _, _, _, _⟩) (.alloc _) rfl ?_; go_must (refine wpList_stp (by kernel_rfl) (stp_al _ rfl hS ?_)); clear hS; intro b23 w _ hS) | (refine wpList_is (.load 29 _) rfl ?_; refine wpList_stp (by kernel_rfl) (stp_val (run_lda _ _ rfl hS) ?_)) | (refine wpList_is (.convert _ _ _) rfl ?_; refine wpList_stp (by kernel_rfl) (stp_val (run_cvn _ _ _ rfl) ?_)) | (refine wpList_is (.binOp .rem _ _ _ _) rfl ?_; refine wpList_stp (by kernel_rfl) (stp_val (run_remv _ _ _ _ rfl) ?_)) | (refine wpList_is (.call { callee := .builtin .len, args := #[_], argTypes := #[_] }) rfl ?_; refine wpList_stp (by kernel_rfl) (stp_val (run_lenv _ _ rfl) ?_)) | (refine wpList_is (.indexAddr _ _ _) rfl ?_; refine wpList_stp (by kernel_rfl) (stp_val (run_idxv _ _ _ rfl) ?_)) | (refine wpList_is (.build _ _) rfl ?_; go_must (refine wpList_stp (by kernel_rfl) (stp_val (run_bd _ _ rfl) ?_))) | (refine wpList_is (.load _ _) rfl ?_; go_must ((refine wpList_stp (by kernel_rfl) (stp_val (run_ld _ _ rfl hS) ?_)))) | (refine wpList_is (.store _ _ _) rfl ?_; go_must ((refine wpList_stp (by kernel_rfl) (stp_sta _ _ _ rfl hS ?_))); clear hS; intro w hS))
  go_wp2_with ((go_skip))
  refine region_quiet hS (by kernel_rfl) (by kernel_rfl) (fun hne => ?_)
  go_big_quiet_want; (refine quiet_is (.move _) rfl ?_; refine quiet_val (fun w _ => run_mv _ rfl) ?_; go_big_quiet_on)
  go_big_quiet_want; (refine quiet_is (.move _) rfl ?_; refine quiet_val (fun w _ => run_mv _ rfl) ?_; go_big_quiet_on)
  go_big_quiet_want; (refine quiet_is (.nilCheck _) rfl ?_; refine quiet_val (fun w _ => run_nc _ rfl) ?_; go_big_quiet_on)
  go_big_quiet_want; (refine quiet_is (.fieldAddr _ _ _) rfl ?_; refine quiet_val (fun w _ => run_fa _ _ _ rfl) ?_; go_big_quiet_on)
  go_big_quiet_want; ((refine quiet_is (.load _ _) rfl ?_; refine quiet_at sw_st (fun w hS => run_ld _ _ rfl hS) ?_; go_big_quiet_on))
  go_big_quiet_want; ((refine quiet_is (.load _ _) rfl ?_; refine quiet_at sw_st (fun w hS => run_lda _ _ rfl hS) ?_; go_big_quiet_on))
  go_big_quiet_want; (refine quiet_is (.lookup _ _ _ _) rfl ?_; refine quiet_at sw_st (fun w hS => run_look _ _ _ rfl (hlk _ _ hS)) ?_; go_big_quiet_on)
  go_big_quiet_want; (refine quiet_is (.call { callee := .builtin .len, args := #[_], argTypes := #[_] }) rfl ?_; refine quiet_val (fun w _ => run_lenv _ _ rfl) ?_; go_big_quiet_on)
  go_big_quiet_want; ((go_big_quiet_op; go_big_quiet_on))
  go_big_quiet_want; (refine quiet_is (.assign _) rfl ?_; refine quiet_val (fun w _ => run_as _ rfl) ?_; go_big_quiet_on)
  refine wpQuiet_nil ?_
  clear hS hne
  intro w hS
  go_wp2_with (first | (refine wpList_is (.binOp .rem _ _ _ _) rfl ?_; refine wpList_stp (by kernel_rfl) (stp_val (run_remv _ _ _ _ rfl) ?_)) | (refine wpList_is (.load _ _) rfl ?_; go_must ((refine wpList_stp (by kernel_rfl) (stp_val (run_ld _ _ rfl hS) ?_)))))
  have hS : St w0 bs _ (⟨bt, #[.int .u8 a, .int .u8 mb, .int .u8 i, .int .u8 b, .int .u8 c], 80, true⟩ :: ⟨b23, #[.int .i64 x1, .int .u32 x2], 29, true⟩ :: ⟨bz, #[.int .i64 0, .int .u32 0], 29, true⟩ :: wdE bm p M bv mu T.2.2 :: rvE bv vs :: (E ++ (E1 ++ (e ++ (E2 ++ (Em1 ++ (eu ++ (Em2 ++ H)))))))) := hS.pick
  refine region_itemsE [⟨(undef, []), [(19, fun _ x => ∃ b, x = (.pointer (some ⟨b, 0, none⟩), [⟨b, #[.int .i64 0, .int .u32 0], 29, true⟩])), (21, fun y x => ∃ b, y.1 = .pointer (some ⟨b, 0, none⟩) ∧ x.2 = [⟨b, #[.int .i64 d1, .int .u32 d2], 29, true⟩])]⟩]
    (⟨bt, #[.int .u8 a, .int .u8 mb, .int .u8 i, .int .u8 b, .int .u8 c], 80, true⟩ :: ⟨b23, #[.int .i64 x1, .int .u32 x2], 29, true⟩ :: ⟨bz, #[.int .i64 0, .int .u32 0], 29, true⟩ :: wdE bm p M bv mu T.2.2 :: rvE bv vs :: (E ++ (E1 ++ (e ++ (E2 ++ (Em1 ++ (eu ++ (Em2 ++ H)))))))) (⟨bt, #[.int .u8 a, .int .u8 mb, .int .u8 i, .int .u8 b, .int .u8 c], 80, true⟩ :: ⟨b23, #[.int .i64 x1, .int .u32 x2], 29, true⟩ :: ⟨bz, #[.int .i64 0, .int .u32 0], 29, true⟩ :: wdE bm p M bv mu T.2.2 :: rvE bv vs :: (E ++ (E1 ++ (e ++ (E2 ++ (Em1 ++ (eu ++ (Em2 ++ H)))))))) (by simp) hS (by kernel_rfl) (by kernel_rfl) ?_
  refine fx_val (fun _ => rfl) rfl (fun χ w hw => run_fa _ _ _ rfl) ?_
  (refine fx_val (fun _ => rfl) rfl (fun χ w hw => run_ld _ _ rfl hw) ?_)
  refine fx_val (fun _ => rfl) rfl (fun χ w hw => run_cvn _ _ _ rfl) ?_
  refine fx_val (fun _ => rfl) rfl (fun χ w hw => run_mv _ rfl) ?_
  (refine fx_val (fun _ => rfl) rfl (fun χ w hw => run_remv _ _ _ _ rfl) ?_)
  refine fx_val (fun _ => rfl) rfl (fun χ w hw => run_mv _ rfl) ?_
  refine fx_val (fun _ => rfl) rfl (fun χ w hw => run_nc _ rfl) ?_
  refine fx_val (fun _ => rfl) rfl (fun χ w hw => run_fa _ _ _ rfl) ?_
  (refine fx_val (fun _ => rfl) rfl (fun χ w hw => run_ld _ _ rfl hw) ?_)
  refine fx_val (fun _ => rfl) rfl (fun χ w hw => run_mv _ rfl) ?_
  refine fx_val (fun _ => rfl) rfl (fun χ w hw => run_idxv _ _ _ rfl) ?_
  (refine fx_val (fun _ => rfl) rfl (fun χ w hw => run_ld _ _ rfl hw) ?_)
  refine fx_val (fun _ => rfl) rfl (fun χ w hw => run_fa _ _ _ rfl) ?_
  (refine fx_val (fun _ => rfl) rfl (fun χ w hw => run_ld _ _ rfl hw) ?_)
  refine fx_val (fun _ => rfl) rfl (fun χ w hw => run_cvn _ _ _ rfl) ?_
  refine fx_val (fun _ => rfl) rfl (fun χ w hw => run_mv _ rfl) ?_
  (refine fx_val (fun _ => rfl) rfl (fun χ w hw => run_remv _ _ _ _ rfl) ?_)
  refine fx_val (fun _ => rfl) rfl (fun χ w hw => run_idxv _ _ _ rfl) ?_
  (refine fx_val (fun _ => rfl) rfl (fun χ w hw => run_lda _ _ rfl hw) ?_)
  refine fx_turn0 0 0 rfl rfl (by kernel_rfl) (by kernel_rfl) (by kernel_rfl) (fun _ => rfl) (fun x => x.1) ?_ ?_
  · intro χ X w _ hS
    exact stepX_al _ rfl (show St w0 bs w (X ++ _) from hS) (fun b w' _ hS' => ⟨(_, [_]), rfl, ⟨b, rfl⟩, hS'⟩)
  refine fx_val (fun _ => rfl) rfl (fun χ w hw => run_as _ rfl) ?_
  refine fx_turn0 0 1 rfl rfl (by kernel_rfl) (by kernel_rfl) (by kernel_rfl) (fun _ => rfl) (fun _ => undef) ?_ ?_
  · rintro χ X w ⟨⟨b, hb⟩, _⟩ hS
    have hS : St w0 bs w ((χ 19).2 ++ (X ++ _)) := hS
    rw [hb] at hS
    have hS : St w0 bs w (⟨b, #[.int .i64 0, .int .u32 0], 29, true⟩ :: (X ++ _)) := hS
    have hb1 : (χ 19).1 = .pointer (some ⟨b, 0, none⟩) := by rw [hb]
    exact stepX_stb _ _ _ rfl hS hb1 (fun w' hS' => ⟨(undef, [⟨b, #[.int .i64 d1, .int .u32 d2], 29, true⟩]), rfl, ⟨b, hb1, rfl⟩, hS'⟩)
  refine fx_end rfl ?_
  intro χ w hok hS
  obtain ⟨⟨b29, hb0⟩, ⟨_, hbx, hc0⟩, _⟩ := hok _ (.head _)
  rw [hb0] at hbx
  obtain ⟨⟩ := hbx
  have hS : St w0 bs w (((χ 21).2 ++ []) ++ (⟨bt, #[.int .u8 a, .int .u8 mb, .int .u8 i, .int .u8 b, .int .u8 c], 80, true⟩ :: ⟨b23, #[.int .i64 x1, .int .u32 x2], 29, true⟩ :: ⟨bz, #[.int .i64 0, .int .u32 0], 29, true⟩ :: wdE bm p M bv mu T.2.2 :: rvE bv vs :: (E ++ (E1 ++ (e ++ (E2 ++ (Em1 ++ (eu ++ (Em2 ++ H))))))))) := hS
  rw [hc0, List.append_nil] at hS
  simp only [hb0]
  simp only [List.cons_append, List.nil_append, List.append_assoc] at hS
  clear hok hb0 hc0
  go_wp2_with (first | (refine wpList_is (.binOp .rem _ _ _ _) rfl ?_; refine wpList_stp (by kernel_rfl) (stp_val (run_remv _ _ _ _ rfl) ?_)) | (refine wpList_is (.load _ _) rfl ?_; go_must ((refine wpList_stp (by kernel_rfl) (stp_val (run_ld _ _ rfl hS) ?_)))))
  have hS : St w0 bs _ (⟨b29, #[.int .i64 d1, .int .u32 d2], 29, true⟩ :: (⟨bt, #[.int .u8 a, .int .u8 mb, .int .u8 i, .int .u8 b, .int .u8 c], 80, true⟩ :: ⟨b23, #[.int .i64 x1, .int .u32 x2], 29, true⟩ :: ⟨bz, #[.int .i64 0, .int .u32 0], 29, true⟩ :: wdE bm p M bv mu T.2.2 :: rvE bv vs :: (E ++ (E1 ++ (e ++ (E2 ++ (Em1 ++ (eu ++ (Em2 ++ H))))))))) := hS.pick
  refine region_itemsE [⟨(undef, [⟨b29, #[.int .i64 d1, .int .u32 d2], 29, true⟩]), [(2, fun _ x => x.2 = [⟨b29, #[.int .i64 0, .int .u32 0], 29, true⟩])]⟩]
    (⟨bt, #[.int .u8 a, .int .u8 mb, .int .u8 i, .int .u8 b, .int .u8 c], 80, true⟩ :: ⟨b23, #[.int .i64 x1, .int .u32 x2], 29, true⟩ :: ⟨bz, #[.int .i64 0, .int .u32 0], 29, true⟩ :: wdE bm p M bv mu T.2.2 :: rvE bv vs :: (E ++ (E1 ++ (e ++ (E2 ++ (Em1 ++ (eu ++ (Em2 ++ H)))))))) (⟨b29, #[.int .i64 d1, .int .u32 d2], 29, true⟩ :: (⟨bt, #[.int .u8 a, .int .u8 mb, .int .u8 i, .int .u8 b, .int .u8 c], 80, true⟩ :: ⟨b23, #[.int .i64 x1, .int .u32 x2], 29, true⟩ :: ⟨bz, #[.int .i64 0, .int .u32 0], 29, true⟩ :: wdE bm p M bv mu T.2.2 :: rvE bv vs :: (E ++ (E1 ++ (e ++ (E2 ++ (Em1 ++ (eu ++ (Em2 ++ H))))))))) (by simp) hS (by kernel_rfl) (by kernel_rfl) ?_
  (refine fx_val (fun _ => rfl) rfl (fun χ w hw => run_lda _ _ rfl hw) ?_)
  refine fx_val (fun _ => rfl) rfl (fun χ w hw => run_as _ rfl) ?_
  refine fx_turn0 0 0 rfl rfl (by kernel_rfl) (by kernel_rfl) (by kernel_rfl) (fun _ => rfl) (fun _ => undef) ?_ ?_
  · intro χ X w _ hS
    exact stepX_sta _ _ _ rfl (show St w0 bs w (⟨b29, #[.int .i64 d1, .int .u32 d2], 29, true⟩ :: (X ++ _)) from hS) (fun w' hS' => ⟨(undef, [⟨b29, #[.int .i64 0, .int .u32 0], 29, true⟩]), rfl, rfl, hS'⟩)
  refine fx_end rfl ?_
  intro χ w hok hS
  obtain ⟨hD, _⟩ := hok _ (.head _)
  have hD : (χ 2).2 = [⟨b29, #[.int .i64 0, .int .u32 0], 29, true⟩] := hD
  have hS : St w0 bs w (((χ 2).2 ++ []) ++ (⟨bt, #[.int .u8 a, .int .u8 mb, .int .u8 i, .int .u8 b, .int .u8 c], 80, true⟩ :: ⟨b23, #[.int .i64 x1, .int .u32 x2], 29, true⟩ :: ⟨bz, #[.int .i64 0, .int .u32 0], 29, true⟩ :: wdE bm p M bv mu T.2.2 :: rvE bv vs :: (E ++ (E1 ++ (e ++ (E2 ++ (Em1 ++ (eu ++ (Em2 ++ H))))))))) := hS
  rw [hD] at hS
  simp only [List.cons_append, List.nil_append, List.append_assoc] at hS
  clear hok hD
  go_wp2_with (first | (refine wpList_is (o := ⟨some 30, _, _, _, _, _⟩) (.alloc _) rfl ?_; go_must (refine wpList_stp (by kernel_rfl) (stp_al _ rfl hS ?_)); clear hS; intro bx1 w _ hS) | (refine wpList_is (o := ⟨some 31, _, _, _, _, _⟩) (.alloc _) rfl ?_; go_must (refine wpList_stp (by kernel_rfl) (stp_al _ rfl hS ?_)); clear hS; intro bx2 w _ hS) | (go_at_call 11; go_must (refine ar_store hS hT m q f (-1 : Int) (L', T.2.1, T.2.2) (y1, y2) (0, 0) 0 h1'.out h2'.out h3'.out h4'.out ?_); clear hS; intro E3 w hT2 hS; unfold Ret) | (refine wpList_is (.load _ _) rfl ?_; go_must ((refine wpList_stp (by kernel_rfl) (stp_val (run_ld _ _ rfl hS) ?_)))) | (refine wpList_is (.store _ _ _) rfl ?_; go_must ((refine wpList_stp (by kernel_rfl) (stp_sta _ _ _ rfl hS ?_))); clear hS; intro w hS))
  refine region_quiet hS (by kernel_rfl) (by kernel_rfl) (fun hne => ?_)
  go_big_quiet_want; (refine quiet_is (.move _) rfl ?_; refine quiet_val (fun w _ => run_mv _ rfl) ?_; go_big_quiet_on)
  go_big_quiet_want; (go_big_quiet_op; go_big_quiet_on)
  go_big_quiet_want; (refine quiet_is (.move _) rfl ?_; refine quiet_val (fun w _ => run_mv _ rfl) ?_; go_big_quiet_on)
  (go_big_quiet_want; (refine quiet_is (.load _ _) rfl ?_; refine quiet_at sw_st (fun w hS => run_lda _ _ rfl hS) ?_; go_big_quiet_on))
  (go_big_quiet_want; refine quiet_is (.move _) rfl ?_; refine quiet_val (fun w _ => run_mv _ rfl) ?_; go_big_quiet_on)
  (go_big_quiet_want; refine quiet_is (.nilCheck _) rfl ?_; refine quiet_val (fun w _ => run_nc _ rfl) ?_; go_big_quiet_on)
  (go_big_quiet_want; refine quiet_is (.fieldAddr _ _ _) rfl ?_; refine quiet_val (fun w _ => run_fa _ _ _ rfl) ?_; go_big_quiet_on)
  (go_big_quiet_want; (refine quiet_is (.load _ _) rfl ?_; refine quiet_at sw_st (fun w hS => run_ld _ _ rfl hS) ?_; go_big_quiet_on))
  (go_big_quiet_want; (refine quiet_is (.load _ _) rfl ?_; refine quiet_at sw_st (fun w hS => run_lda _ _ rfl hS) ?_; go_big_quiet_on))
  (go_big_quiet_want; refine quiet_is (.lookup _ _ _ _) rfl ?_; refine quiet_at sw_st (fun w hS => run_look _ _ _ rfl (hlk _ _ hS)) ?_; go_big_quiet_on)
  (go_big_quiet_want; refine quiet_is (.move _) rfl ?_; refine quiet_val (fun w _ => run_mv _ rfl) ?_; go_big_quiet_on)
  (go_big_quiet_want; refine quiet_is (.indexAddr _ _ _) rfl ?_; refine quiet_val (fun w _ => run_idxv _ _ _ rfl) ?_; go_big_quiet_on)
  (go_big_quiet_want; (refine quiet_is (.load _ _) rfl ?_; refine quiet_at sw_st (fun w hS => run_lda _ _ rfl hS) ?_; go_big_quiet_on))
  (go_big_quiet_want; refine quiet_is (.binOp .eql _ _ _ _) rfl ?_; refine quiet_val (fun w _ => run_aeq _ _ _ _ rfl) ?_; go_big_quiet_on)
  go_big_quiet_want; ((refine quiet_is (.pick _ _ _) rfl ?_; refine quiet_val (fun w _ => run_pk1 _ _ _ rfl) ?_; go_big_quiet_on))
  go_big_quiet_want; (refine quiet_is (.move _) rfl ?_; refine quiet_val (fun w _ => run_mv _ rfl) ?_; go_big_quiet_on)
  (go_big_quiet_want; (refine quiet_is (.load _ _) rfl ?_; refine quiet_at sw_st (fun w hS => run_lda _ _ rfl hS) ?_; go_big_quiet_on))
  (go_big_quiet_want; (refine quiet_is (.load _ _) rfl ?_; refine quiet_at sw_st (fun w hS => run_lda _ _ rfl hS) ?_; go_big_quiet_on))
  (go_big_quiet_want; refine quiet_is (.binOp .eql _ _ _ _) rfl ?_; refine quiet_val (fun w _ => run_aeq _ _ _ _ rfl) ?_; go_big_quiet_on)
  go_big_quiet_want; ((refine quiet_is (.pick _ _ _) rfl ?_; refine quiet_val (fun w _ => run_pk1 _ _ _ rfl) ?_; go_big_quiet_on))
  go_big_quiet_want; (refine quiet_is (.assign _) rfl ?_; refine quiet_val (fun w _ => run_as _ rfl) ?_; go_big_quiet_on)
  refine wpQuiet_nil ?_
  clear hS hne
  intro w hS
  go_wp2_with ((go_skip))
  have hS : St w0 bs w (⟨bt, #[.int .u8 a, .int .u8 mb, .int .u8 i, .int .u8 b, .int .u8 c], 80, true⟩ :: ⟨b23, #[.int .i64 x1, .int .u32 x2], 29, true⟩ :: ⟨b29, #[.int .i64 0, .int .u32 0], 29, true⟩ :: ⟨bx1, #[.int .i64 y1, .int .u32 y2], 29, true⟩ :: ⟨bx2, #[.int .i64 0, .int .u32 0], 29, true⟩ :: ⟨bz, #[.int .i64 0, .int .u32 0], 29, true⟩ :: wdE bm p M bv mu T.2.2 :: rvE bv vs :: (E3 ++ (E1 ++ (e ++ (E2 ++ (Em1 ++ (eu ++ (Em2 ++ H)))))))) := hS.pick
  have hcom := c54_com (W := W) (w0 := w0) (bs := bs) (M := M) (X := (⟨bt, #[.int .u8 a, .int .u8 mb, .int .u8 i, .int .u8 b, .int .u8 c], 80, true⟩ :: ⟨b23, #[.int .i64 x1, .int .u32 x2], 29, true⟩ :: ⟨b29, #[.int .i64 0, .int .u32 0], 29, true⟩ :: ⟨bx1, #[.int .i64 y1, .int .u32 y2], 29, true⟩ :: ⟨bx2, #[.int .i64 0, .int .u32 0], 29, true⟩ :: ⟨bz, #[.int .i64 0, .int .u32 0], 29, true⟩ :: wdE bm p M bv mu T.2.2 :: rvE bv vs :: (E3 ++ (E1 ++ (e ++ (E2 ++ (Em1 ++ (eu ++ (Em2 ++ H))))))))) (l := l) (K := (fun v => mpV ms (us.set j v)))
  refine region_free (X := Gx) (C54 W w0 bs M (⟨bt, #[.int .u8 a, .int .u8 mb, .int .u8 i, .int .u8 b, .int .u8 c], 80, true⟩ :: ⟨b23, #[.int .i64 x1, .int .u32 x2], 29, true⟩ :: ⟨b29, #[.int .i64 0, .int .u32 0], 29, true⟩ :: ⟨bx1, #[.int .i64 y1, .int .u32 y2], 29, true⟩ :: ⟨bx2, #[.int .i64 0, .int .u32 0], 29, true⟩ :: ⟨bz, #[.int .i64 0, .int .u32 0], 29, true⟩ :: wdE bm p M bv mu T.2.2 :: rvE bv vs :: (E3 ++ (E1 ++ (e ++ (E2 ++ (Em1 ++ (eu ++ (Em2 ++ H)))))))) l (fun v => mpV ms (us.set j v))) (fun i => i == 5 || i == 12 || i == 13) (by kernel_rfl) (by kernel_rfl) (hS.drawn _) ?_
  refine gx_val (fun _ => rfl) rfl (fun G χ w hg hC => run_mv _ rfl) ?_
  refine gx_val (fun _ => rfl) rfl (fun G χ w hg hC => run_nc _ rfl) ?_
  refine gx_val (fun _ => rfl) rfl (fun G χ w hg hC => run_fa _ _ _ rfl) ?_
  refine gx_val (fun _ => rfl) rfl (fun G χ w hg hC => run_ld _ _ rfl (hcom G χ w hC)) ?_
  refine gx_val (fun _ => rfl) rfl (fun G χ w hg hC => run_lda _ _ rfl (hcom G χ w hC)) ?_
  refine gx_do (fun _ => rfl) rfl (fun x => x.1) ?_ ?_
  · intro G χ w hk hM hF hC
    have g12 := hF 12 (by kernel_rfl)
    have g13 := hF 13 (by kernel_rfl)
    unfold C54 at hC
    rw [if_neg (by rw [g13]; decide), if_neg (by rw [g12]; decide), if_neg (by rw [hk]; decide)] at hC
    refine stepX_to 431 rfl (by simp) (stp_bs0 _ rfl hC (fun b' w' _ hS' => ⟨_, rfl, (.slice (some ⟨b', 0, none⟩) 0 0, [⟨b', #[], 29, true⟩]), rfl, ?_⟩))
    unfold C54
    rw [if_neg (by rw [up_other _ _ (by decide), g13]; decide), if_neg (by rw [up_other _ _ (by decide), g12]; decide), if_pos (up_same _ _ _), up_same]
    exact ⟨⟨b', rfl⟩, hS'⟩
  refine gx_val (fun _ => rfl) rfl (fun G χ w hg hC => run_mv _ rfl) ?_
  refine gx_val (fun _ => rfl) rfl (fun G χ w hg hC => run_nc _ rfl) ?_
  refine gx_val (fun _ => rfl) rfl (fun G χ w hg hC => run_fa _ _ _ rfl) ?_
  refine gx_val (fun _ => rfl) rfl (fun G χ w hg hC => run_ld _ _ rfl (hcom G χ w hC)) ?_
  refine gx_val (fun _ => rfl) rfl (fun G χ w hg hC => run_lda _ _ rfl (hcom G χ w hC)) ?_
  refine gx_valF (v := u) (fun _ => rfl) rfl (fun G χ w hg hF hC => ?_) ?_
  · have g13 := hF 13 (by kernel_rfl)
    unfold C54 at hC
    rw [if_neg (by rw [g13]; decide)] at hC
    refine run_look _ _ _ rfl ?_
    split at hC
    · exact hlk w _ hC.2
    · split at hC
      · exact hlk w _ hC.2
      · exact hlk w _ hC
  refine gx_do (fun _ => rfl) rfl (fun x => x.1) ?_ ?_
  · intro G χ w hk hM hF hC
    have g5 := hM 5 (by simp) (by kernel_rfl)
    have g13 := hF 13 (by kernel_rfl)
    unfold C54 at hC
    rw [if_neg (by rw [g13]; decide), if_neg (by rw [hk]; decide), if_pos g5] at hC
    obtain ⟨⟨b', hb'⟩, hS⟩ := hC
    rw [hb'] at hS
    simp only [List.cons_append, List.nil_append] at hS
    simp only [hb']
    refine stepX_to 438 rfl (by simp) (stp_apR _ _ _ _ rfl rfl rfl hS (show RS _ [] [_] from sl_zero) hu (by have := hl4'.out; simp; omega) ?_)
    intro v' E' w' hsl' hS'
    refine ⟨_, rfl, (v', E'), rfl, ?_⟩
    unfold C54
    rw [if_neg (by rw [up_other _ _ (by decide), g13]; decide), if_pos (up_same _ _ _), up_same]
    exact ⟨by simpa using hsl', hS'⟩
  refine gx_do (fun _ => rfl) rfl (fun _ => undef) ?_ ?_
  · intro G χ w hk hM hF hC
    have g12 := hM 12 (by simp) (by kernel_rfl)
    unfold C54 at hC
    rw [if_neg (by rw [hk]; decide), if_pos g12] at hC
    obtain ⟨hA, hS⟩ := hC
    obtain ⟨es, ck, hr, he⟩ := put_mpo (hB.now hS) hks'.out hj'.out hu1'.out (χ 12).1
    refine stepX_upd _ _ _ _ rfl ⟨_, hr, ?_⟩
    refine ⟨(undef, []), rfl, ?_⟩
    unfold C54
    rw [if_pos (up_same _ _ _), up_other _ _ (by decide)]
    exact ⟨hA, _, _, hB.turn hS he⟩
  intro χ G w hM hC
  have g13 := hM 13 (by simp)
  unfold C54 at hC
  rw [if_pos g13] at hC
  obtain ⟨hA, w1, bs1, hB1, hS1⟩ := hC
  have hA : RS (χ 12).1 l (χ 12).2 := hA
  generalize (χ 12).1 = u5 at hA hB1
  generalize (χ 12).2 = e5 at hA hS1
  clear hS hcom hlk hB g13 hM
  have hB := hB1
  have hS := hS1
  clear hB1 hS1
  obtain ⟨w0, rfl⟩ : ∃ q, q = w1 := ⟨_, rfl⟩
  obtain ⟨bs, rfl⟩ : ∃ q, q = bs1 := ⟨_, rfl⟩
  obtain ⟨gn, cap, sp, rfl, rfl, hcap, hset5⟩ := hA.cell (by have := hfl'.out; omega)
  have hset5' := Lib.hid hset5
  simp only [List.cons_append, List.nil_append] at hS
  have hul : j < us.length := (List.getElem?_eq_some_iff.1 hu1'.out).1
  have hlk : ∀ w H, St w0 bs w H → LookIs Try.prog w 25 M #[.int .i64 x1, .int .u32 x2] false (.slice (some ⟨gn, 0, none⟩) l.length cap) := fun w H hS => look_mp (hB.now hS) hks'.out hj'.out (by rw [List.getElem?_set_self hul]) rfl false
  have iu5 := idx_of (P := Try.prog) (t := 44) (g := gn) (n := l.length) (cap := cap) Try.underlying44 (z := 2) (by kernel_rfl) hfl'.out
  have su5 : SetsAt (blk [] slf l sp) (f * 2) #[.int .i64 0, .int .u32 0] (blk [] slf (l.set f (0, 0)) sp) := blkSets (pre := []) slf_len (i := f) (a' := (0, 0)) hfl'.out (by simp)
  clear hset5 hul
  go_wp2_with ((go_skip))
  have hS : St w0 bs _ (⟨gn, blk [] slf l sp, 29, true⟩ :: (⟨bt, #[.int .u8 a, .int .u8 mb, .int .u8 i, .int .u8 b, .int .u8 c], 80, true⟩ :: ⟨b23, #[.int .i64 x1, .int .u32 x2], 29, true⟩ :: ⟨b29, #[.int .i64 0, .int .u32 0], 29, true⟩ :: ⟨bx1, #[.int .i64 y1, .int .u32 y2], 29, true⟩ :: ⟨bx2, #[.int .i64 0, .int .u32 0], 29, true⟩ :: ⟨bz, #[.int .i64 0, .int .u32 0], 29, true⟩ :: wdE bm p M bv mu T.2.2 :: rvE bv vs :: (E3 ++ (E1 ++ (e ++ (E2 ++ (Em1 ++ (eu ++ (Em2 ++ H))))))))) := hS.pick
  refine region_itemsE [⟨(undef, [⟨gn, blk [] slf l sp, 29, true⟩]), [(9, fun _ x => x.2 = [⟨gn, blk [] slf (l.set f (0, 0)) sp, 29, true⟩])]⟩]
    (⟨bt, #[.int .u8 a, .int .u8 mb, .int .u8 i, .int .u8 b, .int .u8 c], 80, true⟩ :: ⟨b23, #[.int .i64 x1, .int .u32 x2], 29, true⟩ :: ⟨b29, #[.int .i64 0, .int .u32 0], 29, true⟩ :: ⟨bx1, #[.int .i64 y1, .int .u32 y2], 29, true⟩ :: ⟨bx2, #[.int .i64 0, .int .u32 0], 29, true⟩ :: ⟨bz, #[.int .i64 0, .int .u32 0], 29, true⟩ :: wdE bm p M bv mu T.2.2 :: rvE bv vs :: (E3 ++ (E1 ++ (e ++ (E2 ++ (Em1 ++ (eu ++ (Em2 ++ H)))))))) (⟨gn, blk [] slf l sp, 29, true⟩ :: (⟨bt, #[.int .u8 a, .int .u8 mb, .int .u8 i, .int .u8 b, .int .u8 c], 80, true⟩ :: ⟨b23, #[.int .i64 x1, .int .u32 x2], 29, true⟩ :: ⟨b29, #[.int .i64 0, .int .u32 0], 29, true⟩ :: ⟨bx1, #[.int .i64 y1, .int .u32 y2], 29, true⟩ :: ⟨bx2, #[.int .i64 0, .int .u32 0], 29, true⟩ :: ⟨bz, #[.int .i64 0, .int .u32 0], 29, true⟩ :: wdE bm p M bv mu T.2.2 :: rvE bv vs :: (E3 ++ (E1 ++ (e ++ (E2 ++ (Em1 ++ (eu ++ (Em2 ++ H))))))))) (by simp) hS (by kernel_rfl) (by kernel_rfl) ?_
  refine fx_val (fun _ => rfl) rfl (fun χ w hw => run_mv _ rfl) ?_
  refine fx_val (fun _ => rfl) rfl (fun χ w hw => run_nc _ rfl) ?_
  refine fx_val (fun _ => rfl) rfl (fun χ w hw => run_fa _ _ _ rfl) ?_
  (refine fx_val (fun _ => rfl) rfl (fun χ w hw => run_ld _ _ rfl hw) ?_)
  (refine fx_val (fun _ => rfl) rfl (fun χ w hw => run_lda _ _ rfl hw) ?_)
  refine fx_val (fun _ => rfl) rfl (fun χ w hw => run_look _ _ _ rfl (hlk _ _ hw)) ?_
  refine fx_val (fun _ => rfl) rfl (fun χ w hw => run_mv _ rfl) ?_
  (refine fx_val (fun _ => rfl) rfl (fun χ w hw => run_lda _ _ rfl hw) ?_)
  refine fx_val (fun _ => rfl) rfl (fun χ w hw => run_idxv _ _ _ rfl) ?_
  refine fx_turn0 0 0 rfl rfl (by kernel_rfl) (by kernel_rfl) (by kernel_rfl) (fun _ => rfl) (fun _ => undef) ?_ ?_
  · intro χ X w _ hS
    exact stepX_sta _ _ _ rfl (show St w0 bs w (⟨gn, blk [] slf l sp, 29, true⟩ :: (X ++ _)) from hS) (fun w' hS' => ⟨(undef, [⟨gn, blk [] slf (l.set f (0, 0)) sp, 29, true⟩]), rfl, rfl, hS'⟩)
  refine fx_end rfl ?_
  intro χ w hok hS
  obtain ⟨hD, _⟩ := hok _ (.head _)
  have hD : (χ 9).2 = [⟨gn, blk [] slf (l.set f (0, 0)) sp, 29, true⟩] := hD
  have hS : St w0 bs w (((χ 9).2 ++ []) ++ (⟨bt, #[.int .u8 a, .int .u8 mb, .int .u8 i, .int .u8 b, .int .u8 c], 80, true⟩ :: ⟨b23, #[.int .i64 x1, .int .u32 x2], 29, true⟩ :: ⟨b29, #[.int .i64 0, .int .u32 0], 29, true⟩ :: ⟨bx1, #[.int .i64 y1, .int .u32 y2], 29, true⟩ :: ⟨bx2, #[.int .i64 0, .int .u32 0], 29, true⟩ :: ⟨bz, #[.int .i64 0, .int .u32 0], 29, true⟩ :: wdE bm p M bv mu T.2.2 :: rvE bv vs :: (E3 ++ (E1 ++ (e ++ (E2 ++ (Em1 ++ (eu ++ (Em2 ++ H))))))))) := hS
  rw [hD] at hS
  simp only [List.cons_append, List.nil_append, List.append_assoc] at hS
  clear hok hD
  go_wp2_with ((go_skip))
  have hus2 : RL (us.set j (.slice (some ⟨gn, 0, none⟩) l.length cap)) (mpF (ms.set j ((x1, x2), 0, (l.set f (0, 0))))) (Em1 ++ ([⟨gn, blk [] slf (l.set f (0, 0)) sp, 29, true⟩] ++ Em2)) := by
    rw [mpF_set]
    exact huset'.out _ _ _ (hset5'.out (l.set f (0, 0)) (by simp))
  have hB2 : Base W w0 bs M (mpV (ms.set j ((x1, x2), 0, (l.set f (0, 0)))) (us.set j (.slice (some ⟨gn, 0, none⟩) l.length cap))) := by rw [mpV_set (m' := ((x1, x2), 0, (l.set f (0, 0)))) hj'.out rfl]; exact hB
  exact hR _ (by rw [hnx.out]; exact (show WX W bm n mu (k + 1) H _ (L', T.2.1, T.2.2) (ms.set j ((x1, x2), 0, l.set f (0, 0))) from ⟨w0, bs, M, p, bv, vs, _, E3, _, _, hB2, by show St w0 bs w (wdE bm p M bv mu T.2.2 :: _); simp only [List.append_assoc, List.cons_append, List.nil_append]; exact hS.pick, hT2, hvs'.out, hus2, hWn'.out 0⟩))
end Go.Proofs.Ytjlihigodggfcaa
