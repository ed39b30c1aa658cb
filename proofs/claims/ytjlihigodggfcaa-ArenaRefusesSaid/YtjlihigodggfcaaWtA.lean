/-
  Arenas with what the statements know of them: the turns that make an object.
-/
import Derived.Test.YtjlihigodggfcaaWnx
set_option linter.unusedSimpArgs false
set_option linter.unusedVariables false
namespace Go.Proofs.Ytjlihigodggfcaa
open Go Go.RowKit Go.Mm
variable {R : Ending → World → Prop} {w : World} {H1 : List Ent}
set_option maxHeartbeats 4000000 in
set_option maxRecDepth 100000 in
theorem wt_mkF1 {W : World} {bm n mu k : Nat} {H : List Ent} {T : Ar} {ms : List Me} (hk : k ≤ 400) (hX : WX W bm n mu k H w T ms) (hmu : 1 ≤ mu ∧ mu ≤ 4) (a mb i b c : Nat) (ha : a ≤ 255) (hmb : mb ≤ 255) (hi : i ≤ 255) (hb : b ≤ 255) (hc : c ≤ 255) (h0 : a % 8 = 0) (hf : (rtL T (mb % mu : Nat)).length = 32)
    (hR : ∀ w', WX W bm n mu (k + 1) H w' (nxT n mu T ms a mb i b c).1 (nxT n mu T ms a mb i b c).2 → Ret R (.bool true) w') : Calls Try.prog 31 #[.pointer (some ⟨bm, 0, none⟩), .agg #[.int .u8 a, .int .u8 mb, .int .u8 i, .int .u8 b, .int .u8 c]] w R := by
  obtain ⟨w0, bs, M, p, bv, vs, us, E, Er, Em, hB, hS, hT, hvs, hus, hWo⟩ := hX
  have hlv : vs.length = mu := by rw [hvs.len]; exact hWo.mu
  have hlu : us.length = ms.length := by rw [hus.len]; simp
  obtain ⟨m, hm⟩ : ∃ q, mb % mu = q := ⟨_, rfl⟩
  have hml : m < mu := by rw [← hm]; exact Nat.mod_lt _ (by omega)
  have rm : RemIs (mb : Int) (mu : Int) (m : Int) := ⟨by rw [Int.tmod_eq_emod_of_nonneg (by omega)]; omega, by omega⟩
  have smb : Small (mb : Int) := ⟨by omega, by omega⟩
  have si : Small (i : Int) := ⟨by omega, by omega⟩
  have sb : Small (b : Int) := ⟨by omega, by omega⟩
  have sc : Small (c : Int) := ⟨by omega, by omega⟩
  have ix := rv_idx (bv := bv) hml
  have lx := rv_len (bv := bv) (mu := mu)
  obtain ⟨v, E1, e, E2, hv1, rfl, hv, hset⟩ := hvs.at m _ (hWo.rtq hml)
  simp only [List.append_assoc] at hS
  obtain ⟨nr, hnr⟩ : ∃ q, (rtL T m).length = q := ⟨_, rfl⟩
  have hn32 : nr ≤ 32 := hnr ▸ hWo.r32 _ (hWo.rtl hml)
  have hln : LenV Try.prog 44 v nr := hv.len hnr
  have hone := hv.one
  have cv := cellV hv1
  obtain ⟨g, hg⟩ : ∃ q, b % 8 = q := ⟨_, rfl⟩
  have hg8 : g < 8 := by omega
  have rg : RemIs (b : Int) 8 (g : Int) := ⟨by rw [Int.tmod_eq_emod_of_nonneg (by omega)]; omega, by decide⟩
  obtain ⟨a8, ha8⟩ : ∃ q, a % 8 = q := ⟨_, rfl⟩
  have ra : RemIs (a : Int) 8 (a8 : Int) := ⟨by rw [Int.tmod_eq_emod_of_nonneg (by omega)]; omega, by decide⟩
  have qz := refE (refB_self 0 0)
  have hWo' := Lib.hid hWo
  have hvs' := Lib.hid hvs
  have hus' := Lib.hid hus
  have hset' := Lib.hid hset
  have hv1' := Lib.hid hv1
  have hlv' := Lib.hid hlv
  have hlu' := Lib.hid hlu
  have hnr' := Lib.hid hnr
  obtain rfl : a8 = 0 := by omega
  obtain ⟨z, hz⟩ : ∃ q, i % 5 = q := ⟨_, rfl⟩
  have hz4 : z ≤ 4 := by omega
  have rz : RemIs (i : Int) 5 (z : Int) := ⟨by rw [Int.tmod_eq_emod_of_nonneg (by omega)]; omega, by decide⟩
  have sz : Small (z : Int) := ⟨by omega, by omega⟩
  have d32 : decide (32 ≤ nr) = true := decide_eq_true (by rw [hm] at hf; omega)
  have d32' : decide (32 ≤ (nr : Int)) = true := decide_eq_true (by rw [hm] at hf; omega)
  obtain ⟨h1, h2, h3⟩ := hWo.makeF hk hml hz4 (.inl (by rw [hm] at hf; exact hf))
  have h1' := Lib.hid h1
  have h2' := Lib.hid h2
  have h3' := Lib.hid h3
  have hn1 := Lib.hid hWo.len
  have hnx := Lib.hid (show nxT n mu T ms a mb i b c = (T, ms) from by rw [nxT, if_pos (by omega), if_pos (.inl hf)])
  clear hz
  clear h1 h2 h3
  clear hf
  clear hm hg hWo hvs hus hset hv1 hlv hlu hnr
  go_enter Try.func31, Try.ntmps31
  go_wp2_with ((refine wpList_is (.box 80 _) rfl ?_; go_must (refine wpList_stp (by kernel_rfl) (stp_bx _ _ rfl hS ?_)); clear hS; intro bt w _ hS))
  refine region_quiet hS (by kernel_rfl) (by kernel_rfl) (fun hne => ?_)
  go_big_quiet_want; (refine quiet_is (.fieldAddr _ _ _) rfl ?_; refine quiet_val (fun w _ => run_fa _ _ _ rfl) ?_; go_big_quiet_on)
  go_big_quiet_want; ((refine quiet_is (.load _ _) rfl ?_; refine quiet_at sw_st (fun w hS => run_ld _ _ rfl hS) ?_; go_big_quiet_on))
  go_big_quiet_want; (refine quiet_is (.convert _ _ _) rfl ?_; refine quiet_val (fun w _ => run_cvn _ _ _ rfl) ?_; go_big_quiet_on)
  go_big_quiet_want; (refine quiet_is (.move _) rfl ?_; refine quiet_val (fun w _ => run_mv _ rfl) ?_; go_big_quiet_on)
  go_big_quiet_want; (refine quiet_is (.nilCheck _) rfl ?_; refine quiet_val (fun w _ => run_nc _ rfl) ?_; go_big_quiet_on)
  go_big_quiet_want; (refine quiet_is (.fieldAddr _ _ _) rfl ?_; refine quiet_val (fun w _ => run_fa _ _ _ rfl) ?_; go_big_quiet_on)
  go_big_quiet_want; ((refine quiet_is (.load _ _) rfl ?_; refine quiet_at sw_st (fun w hS => run_ld _ _ rfl hS) ?_; go_big_quiet_on))
  go_big_quiet_want; (refine quiet_is (.call { callee := .builtin .len, args := #[_], argTypes := #[_] }) rfl ?_; refine quiet_val (fun w _ => run_lenv _ _ rfl) ?_; go_big_quiet_on)
  go_big_quiet_want; (refine quiet_is (.binOp .rem _ _ _ _) rfl ?_; refine quiet_val (fun w _ => run_remv _ _ _ _ rfl) ?_; go_big_quiet_on)
  go_big_quiet_want; (refine quiet_is (.assign _) rfl ?_; refine quiet_val (fun w _ => run_as _ rfl) ?_; go_big_quiet_on)
  refine wpQuiet_nil ?_
  clear hS hne
  intro w hS
  go_wp2_with (first | (refine wpList_is (o := ⟨some 9, _, _, _, _, _⟩) (.alloc _) rfl ?_; go_must (refine wpList_stp (by kernel_rfl) (stp_al _ rfl hS ?_)); clear hS; intro bz w _ hS) | (refine wpList_is (.convert _ _ _) rfl ?_; refine wpList_stp (by kernel_rfl) (stp_val (run_cvn _ _ _ rfl) ?_)) | (refine wpList_is (.binOp .rem _ _ _ _) rfl ?_; refine wpList_stp (by kernel_rfl) (stp_val (run_remv _ _ _ _ rfl) ?_)) | (refine wpList_is (.call { callee := .builtin .len, args := #[_], argTypes := #[_] }) rfl ?_; refine wpList_stp (by kernel_rfl) (stp_val (run_lenv _ _ rfl) ?_)) | (refine wpList_is (.indexAddr _ _ _) rfl ?_; refine wpList_stp (by kernel_rfl) (stp_val (run_idxv _ _ _ rfl) ?_)) | (refine wpList_is (.build _ _) rfl ?_; go_must (refine wpList_stp (by kernel_rfl) (stp_val (run_bd _ _ rfl) ?_))) | (refine wpList_is (.load _ _) rfl ?_; go_must ((refine wpList_stp (by kernel_rfl) (stp_val (run_ld _ _ rfl hS) ?_)))) | (refine wpList_is (.store _ _ _) rfl ?_; go_must ((refine wpList_stp (by kernel_rfl) (stp_sta _ _ _ rfl hS ?_))); clear hS; intro w hS))
  have hS : St w0 bs _ (E ++ (⟨bt, #[.int .u8 a, .int .u8 mb, .int .u8 i, .int .u8 b, .int .u8 c], 80, true⟩ :: ⟨bz, #[.int .i64 0, .int .u32 0], 29, true⟩ :: wdE bm p M bv mu T.2.2 :: rvE bv vs :: (E1 ++ (e ++ (E2 ++ (Em ++ H)))))) := hS.pick
  refine region_itemsE [⟨(undef, E), [(9, fun _ x => AA p T x.2)]⟩, ⟨(undef, []), [(13, fun _ x => ∃ b, x = (.pointer (some ⟨b, 0, none⟩), [⟨b, #[.int .i64 0, .int .u32 0], 29, true⟩])), (14, fun y x => ∃ b, y.1 = .pointer (some ⟨b, 0, none⟩) ∧ x.2 = [⟨b, #[.int .i64 0, .int .u32 0], 29, true⟩])]⟩]
    (⟨bt, #[.int .u8 a, .int .u8 mb, .int .u8 i, .int .u8 b, .int .u8 c], 80, true⟩ :: ⟨bz, #[.int .i64 0, .int .u32 0], 29, true⟩ :: wdE bm p M bv mu T.2.2 :: rvE bv vs :: (E1 ++ (e ++ (E2 ++ (Em ++ H))))) (E ++ (⟨bt, #[.int .u8 a, .int .u8 mb, .int .u8 i, .int .u8 b, .int .u8 c], 80, true⟩ :: ⟨bz, #[.int .i64 0, .int .u32 0], 29, true⟩ :: wdE bm p M bv mu T.2.2 :: rvE bv vs :: (E1 ++ (e ++ (E2 ++ (Em ++ H)))))) (by simp) hS (by kernel_rfl) (by kernel_rfl) ?_
  refine fx_val (fun _ => rfl) rfl (fun χ w hw => run_mv _ rfl) ?_
  refine fx_val (fun _ => rfl) rfl (fun χ w hw => run_nc _ rfl) ?_
  refine fx_val (fun _ => rfl) rfl (fun χ w hw => run_fa _ _ _ rfl) ?_
  (refine fx_val (fun _ => rfl) rfl (fun χ w hw => run_ld _ _ rfl hw) ?_)
  refine fx_val (fun _ => rfl) rfl (fun χ w hw => run_mv _ rfl) ?_
  refine fx_val (fun _ => rfl) rfl (fun χ w hw => run_fa _ _ _ rfl) ?_
  (refine fx_val (fun _ => rfl) rfl (fun χ w hw => run_ld _ _ rfl hw) ?_)
  (refine fx_val (fun _ => rfl) rfl (fun χ w hw => run_remv _ _ _ _ rfl) ?_)
  refine fx_val (fun _ => rfl) rfl (fun χ w hw => run_cvn _ _ _ rfl) ?_
  refine fx_turn 0 0 rfl rfl (by kernel_rfl) (by kernel_rfl) (by kernel_rfl) 10 [_, _, _, _] _ rfl (fun _ => rfl) (enters _ (by kernel_rfl)) (fun _ => .tuple #[.agg #[.int .i64 0, .int .u32 0], .int .i64 4]) ?_ ?_
  · intro χ X w _ hS
    exact ar_make (show St w0 bs w (E ++ (X ++ _)) from hS) hT _ _ _ T (0, 0) 4 h1'.out h2'.out h3'.out (fun E' w' hT' hS' => ⟨(undef, E'), rfl, hT', show St w0 bs w' (E' ++ (X ++ _)) from hS'.pick⟩)
  refine fx_val (fun _ => rfl) rfl (fun χ w hw => run_mv _ rfl) ?_
  refine fx_val (fun _ => rfl) rfl (fun χ w hw => run_ext _ _ rfl) ?_
  refine fx_val (fun _ => rfl) rfl (fun χ w hw => run_ext _ _ rfl) ?_
  refine fx_turn0 1 0 rfl rfl (by kernel_rfl) (by kernel_rfl) (by kernel_rfl) (fun _ => rfl) (fun x => x.1) ?_ ?_
  · intro χ X w _ hS
    exact stepX_al _ rfl (show St w0 bs w (X ++ _) from hS) (fun b w' _ hS' => ⟨(_, [_]), rfl, ⟨b, rfl⟩, hS'⟩)
  refine fx_turn0 1 1 rfl rfl (by kernel_rfl) (by kernel_rfl) (by kernel_rfl) (fun _ => rfl) (fun _ => undef) ?_ ?_
  · rintro χ X w ⟨⟨b, hb⟩, _⟩ hS
    have hS : St w0 bs w ((χ 13).2 ++ (X ++ _)) := hS
    rw [hb] at hS
    have hS : St w0 bs w (⟨b, #[.int .i64 0, .int .u32 0], 29, true⟩ :: (X ++ _)) := hS
    have hb1 : (χ 13).1 = .pointer (some ⟨b, 0, none⟩) := by rw [hb]
    exact stepX_stb _ _ _ rfl hS hb1 (fun w' hS' => ⟨(undef, [⟨b, #[.int .i64 0, .int .u32 0], 29, true⟩]), rfl, ⟨b, hb1, rfl⟩, hS'⟩)
  refine fx_val (fun _ => rfl) rfl (fun χ w hw => run_as _ rfl) ?_
  refine fx_end rfl ?_
  intro χ w hok hS
  obtain ⟨hT2, _⟩ := hok _ (.head _)
  have hT2 : AA p T (χ 9).2 := hT2
  obtain ⟨⟨br, hb0⟩, ⟨_, hbx, hc0⟩, _⟩ := hok _ (.tail _ (.head _))
  rw [hb0] at hbx
  obtain ⟨⟩ := hbx
  have hS : St w0 bs w (((χ 9).2 ++ ((χ 14).2 ++ [])) ++ (⟨bt, #[.int .u8 a, .int .u8 mb, .int .u8 i, .int .u8 b, .int .u8 c], 80, true⟩ :: ⟨bz, #[.int .i64 0, .int .u32 0], 29, true⟩ :: wdE bm p M bv mu T.2.2 :: rvE bv vs :: (E1 ++ (e ++ (E2 ++ (Em ++ H)))))) := hS
  rw [hc0, List.append_nil, List.append_assoc] at hS
  generalize (χ 9).2 = E3 at hS hT2
  simp only [hb0]
  simp only [List.cons_append, List.nil_append, List.append_assoc] at hS
  clear hok hb0 hc0
  go_wp2_with (first | (refine wpList_is (.binOp .eql 29 _ _ _) rfl ?_; refine wpList_stp (by kernel_rfl) (stp_val (run_aeq _ _ _ _ rfl) ?_)) | (refine wpList_is (.load 29 _) rfl ?_; refine wpList_stp (by kernel_rfl) (stp_val (run_lda _ _ rfl hS) ?_)))
  exact hR _ (by rw [hnx.out]; exact (show WX W bm n mu (k + 1) H _ T ms from ⟨w0, bs, M, p, bv, vs, us, E3, _, Em, hB, by simp only [List.append_assoc]; exact hS.pick, hT2, hvs'.out, hus'.out, hWo'.out.more⟩))
set_option maxHeartbeats 4000000 in
set_option maxRecDepth 100000 in
theorem wt_mkF2 {W : World} {bm n mu k : Nat} {H : List Ent} {T : Ar} {ms : List Me} (hk : k ≤ 400) (hX : WX W bm n mu k H w T ms) (hmu : 1 ≤ mu ∧ mu ≤ 4) (a mb i b c : Nat) (ha : a ≤ 255) (hmb : mb ≤ 255) (hi : i ≤ 255) (hb : b ≤ 255) (hc : c ≤ 255) (h0 : a % 8 = 0) (hf : (rtL T (mb % mu : Nat)).length < 32) (hf2 : ms.length = n)
    (hR : ∀ w', WX W bm n mu (k + 1) H w' (nxT n mu T ms a mb i b c).1 (nxT n mu T ms a mb i b c).2 → Ret R (.bool true) w') : Calls Try.prog 31 #[.pointer (some ⟨bm, 0, none⟩), .agg #[.int .u8 a, .int .u8 mb, .int .u8 i, .int .u8 b, .int .u8 c]] w R := by
  obtain ⟨w0, bs, M, p, bv, vs, us, E, Er, Em, hB, hS, hT, hvs, hus, hWo⟩ := hX
  have hlv : vs.length = mu := by rw [hvs.len]; exact hWo.mu
  have hlu : us.length = ms.length := by rw [hus.len]; simp
  obtain ⟨m, hm⟩ : ∃ q, mb % mu = q := ⟨_, rfl⟩
  have hml : m < mu := by rw [← hm]; exact Nat.mod_lt _ (by omega)
  have rm : RemIs (mb : Int) (mu : Int) (m : Int) := ⟨by rw [Int.tmod_eq_emod_of_nonneg (by omega)]; omega, by omega⟩
  have smb : Small (mb : Int) := ⟨by omega, by omega⟩
  have si : Small (i : Int) := ⟨by omega, by omega⟩
  have sb : Small (b : Int) := ⟨by omega, by omega⟩
  have sc : Small (c : Int) := ⟨by omega, by omega⟩
  have ix := rv_idx (bv := bv) hml
  have lx := rv_len (bv := bv) (mu := mu)
  obtain ⟨v, E1, e, E2, hv1, rfl, hv, hset⟩ := hvs.at m _ (hWo.rtq hml)
  simp only [List.append_assoc] at hS
  obtain ⟨nr, hnr⟩ : ∃ q, (rtL T m).length = q := ⟨_, rfl⟩
  have hn32 : nr ≤ 32 := hnr ▸ hWo.r32 _ (hWo.rtl hml)
  have hln : LenV Try.prog 44 v nr := hv.len hnr
  have hone := hv.one
  have cv := cellV hv1
  obtain ⟨g, hg⟩ : ∃ q, b % 8 = q := ⟨_, rfl⟩
  have hg8 : g < 8 := by omega
  have rg : RemIs (b : Int) 8 (g : Int) := ⟨by rw [Int.tmod_eq_emod_of_nonneg (by omega)]; omega, by decide⟩
  obtain ⟨a8, ha8⟩ : ∃ q, a % 8 = q := ⟨_, rfl⟩
  have ra : RemIs (a : Int) 8 (a8 : Int) := ⟨by rw [Int.tmod_eq_emod_of_nonneg (by omega)]; omega, by decide⟩
  have qz := refE (refB_self 0 0)
  have hWo' := Lib.hid hWo
  have hvs' := Lib.hid hvs
  have hus' := Lib.hid hus
  have hset' := Lib.hid hset
  have hv1' := Lib.hid hv1
  have hlv' := Lib.hid hlv
  have hlu' := Lib.hid hlu
  have hnr' := Lib.hid hnr
  obtain rfl : a8 = 0 := by omega
  obtain ⟨z, hz⟩ : ∃ q, i % 5 = q := ⟨_, rfl⟩
  have hz4 : z ≤ 4 := by omega
  have rz : RemIs (i : Int) 5 (z : Int) := ⟨by rw [Int.tmod_eq_emod_of_nonneg (by omega)]; omega, by decide⟩
  have sz : Small (z : Int) := ⟨by omega, by omega⟩
  have d32 : decide (32 ≤ nr) = false := decide_eq_false (by rw [hm] at hf; omega)
  have d32' : decide (32 ≤ (nr : Int)) = false := decide_eq_false (by rw [hm] at hf; omega)
  obtain ⟨h1, h2, h3⟩ := hWo.makeF hk hml hz4 (.inr hf2)
  have h1' := Lib.hid h1
  have h2' := Lib.hid h2
  have h3' := Lib.hid h3
  have hn1 := Lib.hid hWo.len
  have hnx := Lib.hid (show nxT n mu T ms a mb i b c = (T, ms) from by rw [nxT, if_pos (by omega), if_pos (.inr hf2)])
  clear hz
  clear h1 h2 h3
  have hml2 : (mpV ms us).length = n := by rw [mpV_len hlu]; exact hf2
  have dn : decide (n ≤ n) = true := decide_eq_true (by omega)
  have dn' : decide ((n : Int) ≤ (n : Int)) = true := decide_eq_true (by omega)
  clear hf hf2
  clear hm hg hWo hvs hus hset hv1 hlv hlu hnr
  go_enter Try.func31, Try.ntmps31
  go_wp2_with ((refine wpList_is (.box 80 _) rfl ?_; go_must (refine wpList_stp (by kernel_rfl) (stp_bx _ _ rfl hS ?_)); clear hS; intro bt w _ hS))
  refine region_quiet hS (by kernel_rfl) (by kernel_rfl) (fun hne => ?_)
  go_big_quiet_want; (refine quiet_is (.fieldAddr _ _ _) rfl ?_; refine quiet_val (fun w _ => run_fa _ _ _ rfl) ?_; go_big_quiet_on)
  go_big_quiet_want; ((refine quiet_is (.load _ _) rfl ?_; refine quiet_at sw_st (fun w hS => run_ld _ _ rfl hS) ?_; go_big_quiet_on))
  go_big_quiet_want; (refine quiet_is (.convert _ _ _) rfl ?_; refine quiet_val (fun w _ => run_cvn _ _ _ rfl) ?_; go_big_quiet_on)
  go_big_quiet_want; (refine quiet_is (.move _) rfl ?_; refine quiet_val (fun w _ => run_mv _ rfl) ?_; go_big_quiet_on)
  go_big_quiet_want; (refine quiet_is (.nilCheck _) rfl ?_; refine quiet_val (fun w _ => run_nc _ rfl) ?_; go_big_quiet_on)
  go_big_quiet_want; (refine quiet_is (.fieldAddr _ _ _) rfl ?_; refine quiet_val (fun w _ => run_fa _ _ _ rfl) ?_; go_big_quiet_on)
  go_big_quiet_want; ((refine quiet_is (.load _ _) rfl ?_; refine quiet_at sw_st (fun w hS => run_ld _ _ rfl hS) ?_; go_big_quiet_on))
  go_big_quiet_want; (refine quiet_is (.call { callee := .builtin .len, args := #[_], argTypes := #[_] }) rfl ?_; refine quiet_val (fun w _ => run_lenv _ _ rfl) ?_; go_big_quiet_on)
  go_big_quiet_want; (refine quiet_is (.binOp .rem _ _ _ _) rfl ?_; refine quiet_val (fun w _ => run_remv _ _ _ _ rfl) ?_; go_big_quiet_on)
  go_big_quiet_want; (refine quiet_is (.assign _) rfl ?_; refine quiet_val (fun w _ => run_as _ rfl) ?_; go_big_quiet_on)
  refine wpQuiet_nil ?_
  clear hS hne
  intro w hS
  go_wp2_with (first | (refine wpList_is (o := ⟨some 9, _, _, _, _, _⟩) (.alloc _) rfl ?_; go_must (refine wpList_stp (by kernel_rfl) (stp_al _ rfl hS ?_)); clear hS; intro bz w _ hS) | (refine wpList_is (.convert _ _ _) rfl ?_; refine wpList_stp (by kernel_rfl) (stp_val (run_cvn _ _ _ rfl) ?_)) | (refine wpList_is (.binOp .rem _ _ _ _) rfl ?_; refine wpList_stp (by kernel_rfl) (stp_val (run_remv _ _ _ _ rfl) ?_)) | (refine wpList_is (.call { callee := .builtin .len, args := #[_], argTypes := #[_] }) rfl ?_; refine wpList_stp (by kernel_rfl) (stp_val (run_lenv _ _ rfl) ?_)) | (refine wpList_is (.indexAddr _ _ _) rfl ?_; refine wpList_stp (by kernel_rfl) (stp_val (run_idxv _ _ _ rfl) ?_)) | (refine wpList_is (.build _ _) rfl ?_; go_must (refine wpList_stp (by kernel_rfl) (stp_val (run_bd _ _ rfl) ?_))) | (refine wpList_is (.load _ _) rfl ?_; go_must ((refine wpList_stp (by kernel_rfl) (stp_val (run_ld _ _ rfl hS) ?_)))) | (refine wpList_is (.store _ _ _) rfl ?_; go_must ((refine wpList_stp (by kernel_rfl) (stp_sta _ _ _ rfl hS ?_))); clear hS; intro w hS))
  have hS : St w0 bs _ (E ++ (⟨bt, #[.int .u8 a, .int .u8 mb, .int .u8 i, .int .u8 b, .int .u8 c], 80, true⟩ :: ⟨bz, #[.int .i64 0, .int .u32 0], 29, true⟩ :: wdE bm p M bv mu T.2.2 :: rvE bv vs :: (E1 ++ (e ++ (E2 ++ (Em ++ H)))))) := hS.pick
  refine region_itemsE [⟨(undef, E), [(9, fun _ x => AA p T x.2)]⟩, ⟨(undef, []), [(13, fun _ x => ∃ b, x = (.pointer (some ⟨b, 0, none⟩), [⟨b, #[.int .i64 0, .int .u32 0], 29, true⟩])), (14, fun y x => ∃ b, y.1 = .pointer (some ⟨b, 0, none⟩) ∧ x.2 = [⟨b, #[.int .i64 0, .int .u32 0], 29, true⟩])]⟩]
    (⟨bt, #[.int .u8 a, .int .u8 mb, .int .u8 i, .int .u8 b, .int .u8 c], 80, true⟩ :: ⟨bz, #[.int .i64 0, .int .u32 0], 29, true⟩ :: wdE bm p M bv mu T.2.2 :: rvE bv vs :: (E1 ++ (e ++ (E2 ++ (Em ++ H))))) (E ++ (⟨bt, #[.int .u8 a, .int .u8 mb, .int .u8 i, .int .u8 b, .int .u8 c], 80, true⟩ :: ⟨bz, #[.int .i64 0, .int .u32 0], 29, true⟩ :: wdE bm p M bv mu T.2.2 :: rvE bv vs :: (E1 ++ (e ++ (E2 ++ (Em ++ H)))))) (by simp) hS (by kernel_rfl) (by kernel_rfl) ?_
  refine fx_val (fun _ => rfl) rfl (fun χ w hw => run_mv _ rfl) ?_
  refine fx_val (fun _ => rfl) rfl (fun χ w hw => run_nc _ rfl) ?_
  refine fx_val (fun _ => rfl) rfl (fun χ w hw => run_fa _ _ _ rfl) ?_
  (refine fx_val (fun _ => rfl) rfl (fun χ w hw => run_ld _ _ rfl hw) ?_)
  refine fx_val (fun _ => rfl) rfl (fun χ w hw => run_mv _ rfl) ?_
  refine fx_val (fun _ => rfl) rfl (fun χ w hw => run_fa _ _ _ rfl) ?_
  (refine fx_val (fun _ => rfl) rfl (fun χ w hw => run_ld _ _ rfl hw) ?_)
  (refine fx_val (fun _ => rfl) rfl (fun χ w hw => run_remv _ _ _ _ rfl) ?_)
  refine fx_val (fun _ => rfl) rfl (fun χ w hw => run_cvn _ _ _ rfl) ?_
  refine fx_turn 0 0 rfl rfl (by kernel_rfl) (by kernel_rfl) (by kernel_rfl) 10 [_, _, _, _] _ rfl (fun _ => rfl) (enters _ (by kernel_rfl)) (fun _ => .tuple #[.agg #[.int .i64 0, .int .u32 0], .int .i64 4]) ?_ ?_
  · intro χ X w _ hS
    exact ar_make (show St w0 bs w (E ++ (X ++ _)) from hS) hT _ _ _ T (0, 0) 4 h1'.out h2'.out h3'.out (fun E' w' hT' hS' => ⟨(undef, E'), rfl, hT', show St w0 bs w' (E' ++ (X ++ _)) from hS'.pick⟩)
  refine fx_val (fun _ => rfl) rfl (fun χ w hw => run_mv _ rfl) ?_
  refine fx_val (fun _ => rfl) rfl (fun χ w hw => run_ext _ _ rfl) ?_
  refine fx_val (fun _ => rfl) rfl (fun χ w hw => run_ext _ _ rfl) ?_
  refine fx_turn0 1 0 rfl rfl (by kernel_rfl) (by kernel_rfl) (by kernel_rfl) (fun _ => rfl) (fun x => x.1) ?_ ?_
  · intro χ X w _ hS
    exact stepX_al _ rfl (show St w0 bs w (X ++ _) from hS) (fun b w' _ hS' => ⟨(_, [_]), rfl, ⟨b, rfl⟩, hS'⟩)
  refine fx_turn0 1 1 rfl rfl (by kernel_rfl) (by kernel_rfl) (by kernel_rfl) (fun _ => rfl) (fun _ => undef) ?_ ?_
  · rintro χ X w ⟨⟨b, hb⟩, _⟩ hS
    have hS : St w0 bs w ((χ 13).2 ++ (X ++ _)) := hS
    rw [hb] at hS
    have hS : St w0 bs w (⟨b, #[.int .i64 0, .int .u32 0], 29, true⟩ :: (X ++ _)) := hS
    have hb1 : (χ 13).1 = .pointer (some ⟨b, 0, none⟩) := by rw [hb]
    exact stepX_stb _ _ _ rfl hS hb1 (fun w' hS' => ⟨(undef, [⟨b, #[.int .i64 0, .int .u32 0], 29, true⟩]), rfl, ⟨b, hb1, rfl⟩, hS'⟩)
  refine fx_val (fun _ => rfl) rfl (fun χ w hw => run_as _ rfl) ?_
  refine fx_end rfl ?_
  intro χ w hok hS
  obtain ⟨hT2, _⟩ := hok _ (.head _)
  have hT2 : AA p T (χ 9).2 := hT2
  obtain ⟨⟨br, hb0⟩, ⟨_, hbx, hc0⟩, _⟩ := hok _ (.tail _ (.head _))
  rw [hb0] at hbx
  obtain ⟨⟩ := hbx
  have hS : St w0 bs w (((χ 9).2 ++ ((χ 14).2 ++ [])) ++ (⟨bt, #[.int .u8 a, .int .u8 mb, .int .u8 i, .int .u8 b, .int .u8 c], 80, true⟩ :: ⟨bz, #[.int .i64 0, .int .u32 0], 29, true⟩ :: wdE bm p M bv mu T.2.2 :: rvE bv vs :: (E1 ++ (e ++ (E2 ++ (Em ++ H)))))) := hS
  rw [hc0, List.append_nil, List.append_assoc] at hS
  generalize (χ 9).2 = E3 at hS hT2
  simp only [hb0]
  simp only [List.cons_append, List.nil_append, List.append_assoc] at hS
  clear hok hb0 hc0
  go_wp2_with (first | (go_at_call 65; refine wsize (H1 := ⟨bt, #[.int .u8 a, .int .u8 mb, .int .u8 i, .int .u8 b, .int .u8 c], 80, true⟩ :: ⟨br, #[.int .i64 0, .int .u32 0], 29, true⟩ :: ⟨bz, #[.int .i64 0, .int .u32 0], 29, true⟩ :: rvE bv vs :: (E1 ++ (e ++ (E2 ++ (Em ++ H))))) (show St w0 bs w (wdE bm p M bv mu T.2.2 :: (E3 ++ _)) from hS.pick) hT2 n hn1.out ?_; clear hS; intro w hS; unfold Ret) | (refine wpList_is (.binOp .eql 29 _ _ _) rfl ?_; refine wpList_stp (by kernel_rfl) (stp_val (run_aeq _ _ _ _ rfl) ?_)) | (refine wpList_is (.load 29 _) rfl ?_; refine wpList_stp (by kernel_rfl) (stp_val (run_lda _ _ rfl hS) ?_)) | (refine wpList_is (.call { callee := .builtin .len, args := #[_], argTypes := #[25] }) rfl ?_; refine wpList_stp (by kernel_rfl) (stp_val (run_mlen _ _ rfl (hB.now hS) hml2) ?_)) | (refine wpList_is (.load _ _) rfl ?_; go_must ((refine wpList_stp (by kernel_rfl) (stp_val (run_ld _ _ rfl hS) ?_)))))
  exact hR _ (by rw [hnx.out]; exact (show WX W bm n mu (k + 1) H _ T ms from ⟨w0, bs, M, p, bv, vs, us, E3, _, Em, hB, by simp only [List.append_assoc]; exact hS.pick, hT2, hvs'.out, hus'.out, hWo'.out.more⟩))
set_option maxHeartbeats 4000000 in
set_option maxRecDepth 100000 in
theorem wt_mk {W : World} {bm n mu k : Nat} {H : List Ent} {T : Ar} {ms : List Me} (hk : k ≤ 400) (hX : WX W bm n mu k H w T ms) (hmu : 1 ≤ mu ∧ mu ≤ 4) (a mb i b c : Nat) (ha : a ≤ 255) (hmb : mb ≤ 255) (hi : i ≤ 255) (hb : b ≤ 255) (hc : c ≤ 255) (h0 : a % 8 = 0) (hf : (rtL T (mb % mu : Nat)).length < 32) (hf2 : ms.length < n)
    (hR : ∀ w', WX W bm n mu (k + 1) H w' (nxT n mu T ms a mb i b c).1 (nxT n mu T ms a mb i b c).2 → Ret R (.bool true) w') : Calls Try.prog 31 #[.pointer (some ⟨bm, 0, none⟩), .agg #[.int .u8 a, .int .u8 mb, .int .u8 i, .int .u8 b, .int .u8 c]] w R := by
  obtain ⟨w0, bs, M, p, bv, vs, us, E, Er, Em, hB, hS, hT, hvs, hus, hWo⟩ := hX
  have hlv : vs.length = mu := by rw [hvs.len]; exact hWo.mu
  have hlu : us.length = ms.length := by rw [hus.len]; simp
  obtain ⟨m, hm⟩ : ∃ q, mb % mu = q := ⟨_, rfl⟩
  have hml : m < mu := by rw [← hm]; exact Nat.mod_lt _ (by omega)
  have rm : RemIs (mb : Int) (mu : Int) (m : Int) := ⟨by rw [Int.tmod_eq_emod_of_nonneg (by omega)]; omega, by omega⟩
  have smb : Small (mb : Int) := ⟨by omega, by omega⟩
  have si : Small (i : Int) := ⟨by omega, by omega⟩
  have sb : Small (b : Int) := ⟨by omega, by omega⟩
  have sc : Small (c : Int) := ⟨by omega, by omega⟩
  have ix := rv_idx (bv := bv) hml
  have lx := rv_len (bv := bv) (mu := mu)
  obtain ⟨v, E1, e, E2, hv1, rfl, hv, hset⟩ := hvs.at m _ (hWo.rtq hml)
  simp only [List.append_assoc] at hS
  obtain ⟨nr, hnr⟩ : ∃ q, (rtL T m).length = q := ⟨_, rfl⟩
  have hn32 : nr ≤ 32 := hnr ▸ hWo.r32 _ (hWo.rtl hml)
  have hln : LenV Try.prog 44 v nr := hv.len hnr
  have hone := hv.one
  have cv := cellV hv1
  obtain ⟨g, hg⟩ : ∃ q, b % 8 = q := ⟨_, rfl⟩
  have hg8 : g < 8 := by omega
  have rg : RemIs (b : Int) 8 (g : Int) := ⟨by rw [Int.tmod_eq_emod_of_nonneg (by omega)]; omega, by decide⟩
  obtain ⟨a8, ha8⟩ : ∃ q, a % 8 = q := ⟨_, rfl⟩
  have ra : RemIs (a : Int) 8 (a8 : Int) := ⟨by rw [Int.tmod_eq_emod_of_nonneg (by omega)]; omega, by decide⟩
  have qz := refE (refB_self 0 0)
  have hWo' := Lib.hid hWo
  have hvs' := Lib.hid hvs
  have hus' := Lib.hid hus
  have hset' := Lib.hid hset
  have hv1' := Lib.hid hv1
  have hlv' := Lib.hid hlv
  have hlu' := Lib.hid hlu
  have hnr' := Lib.hid hnr
  obtain rfl : a8 = 0 := by omega
  obtain ⟨z, hz⟩ : ∃ q, i % 5 = q := ⟨_, rfl⟩
  have hz4 : z ≤ 4 := by omega
  have rz : RemIs (i : Int) 5 (z : Int) := ⟨by rw [Int.tmod_eq_emod_of_nonneg (by omega)]; omega, by decide⟩
  have sz : Small (z : Int) := ⟨by omega, by omega⟩
  have d32 : decide (32 ≤ nr) = false := decide_eq_false (by rw [hm] at hf; omega)
  have d32' : decide (32 ≤ (nr : Int)) = false := decide_eq_false (by rw [hm] at hf; omega)
  obtain ⟨L', r, h1, h2, h3, g0, g1, hfr, hnz, hWn⟩ := hWo.make hk hml hz4 (by rw [hm] at hf; exact hf) hf2
  obtain ⟨q, hml2⟩ : ∃ q, (mpV ms us).length = q := ⟨_, rfl⟩
  have hq : q = ms.length := by rw [← hml2, mpV_len hlu]
  have dn : decide (n ≤ q) = false := decide_eq_false (by omega)
  have dn' : decide ((n : Int) ≤ (q : Int)) = false := decide_eq_false (by omega)
  have h1' := Lib.hid h1
  have h2' := Lib.hid h2
  have h3' := Lib.hid h3
  have hWn' := Lib.hid hWn
  have hnT : (L', T.2.1.set m (rtL T m ++ [r]), T.2.2).1.length = n := (hWn 0).len
  have hn1 := Lib.hid hnT
  have hle' := Lib.hid (hWo.r32 _ (hWo.rtl hml))
  have hlk : ∀ w H, St w0 bs w H → LookIs Try.prog w 25 M #[.int .i64 r.1, .int .u32 r.2] true (.tuple #[.slice none 0 0, .bool false]) := fun w H hS => look_mpn (hB.now hS) hfr true
  have hnx := Lib.hid (show nxT n mu T ms a mb i b c = ((L', T.2.1.set m (rtL T m ++ [r]), T.2.2), (ms ++ [(r, 0, List.replicate z (0, 0))])) from by rw [nxT, if_pos (by omega), if_neg (by omega), hm, hz, h1, h2])
  clear hz
  clear h1 h2 h3 hf hf2 hWn hq hnT
  clear hm hg hWo hvs hus hset hv1 hlv hlu hnr
  go_enter Try.func31, Try.ntmps31
  go_wp2_with ((refine wpList_is (.box 80 _) rfl ?_; go_must (refine wpList_stp (by kernel_rfl) (stp_bx _ _ rfl hS ?_)); clear hS; intro bt w _ hS))
  refine region_quiet hS (by kernel_rfl) (by kernel_rfl) (fun hne => ?_)
  go_big_quiet_want; (refine quiet_is (.fieldAddr _ _ _) rfl ?_; refine quiet_val (fun w _ => run_fa _ _ _ rfl) ?_; go_big_quiet_on)
  go_big_quiet_want; ((refine quiet_is (.load _ _) rfl ?_; refine quiet_at sw_st (fun w hS => run_ld _ _ rfl hS) ?_; go_big_quiet_on))
  go_big_quiet_want; (refine quiet_is (.convert _ _ _) rfl ?_; refine quiet_val (fun w _ => run_cvn _ _ _ rfl) ?_; go_big_quiet_on)
  go_big_quiet_want; (refine quiet_is (.move _) rfl ?_; refine quiet_val (fun w _ => run_mv _ rfl) ?_; go_big_quiet_on)
  go_big_quiet_want; (refine quiet_is (.nilCheck _) rfl ?_; refine quiet_val (fun w _ => run_nc _ rfl) ?_; go_big_quiet_on)
  go_big_quiet_want; (refine quiet_is (.fieldAddr _ _ _) rfl ?_; refine quiet_val (fun w _ => run_fa _ _ _ rfl) ?_; go_big_quiet_on)
  go_big_quiet_want; ((refine quiet_is (.load _ _) rfl ?_; refine quiet_at sw_st (fun w hS => run_ld _ _ rfl hS) ?_; go_big_quiet_on))
  go_big_quiet_want; (refine quiet_is (.call { callee := .builtin .len, args := #[_], argTypes := #[_] }) rfl ?_; refine quiet_val (fun w _ => run_lenv _ _ rfl) ?_; go_big_quiet_on)
  go_big_quiet_want; (refine quiet_is (.binOp .rem _ _ _ _) rfl ?_; refine quiet_val (fun w _ => run_remv _ _ _ _ rfl) ?_; go_big_quiet_on)
  go_big_quiet_want; (refine quiet_is (.assign _) rfl ?_; refine quiet_val (fun w _ => run_as _ rfl) ?_; go_big_quiet_on)
  refine wpQuiet_nil ?_
  clear hS hne
  intro w hS
  go_wp2_with (first | (refine wpList_is (o := ⟨some 9, _, _, _, _, _⟩) (.alloc _) rfl ?_; go_must (refine wpList_stp (by kernel_rfl) (stp_al _ rfl hS ?_)); clear hS; intro bz w _ hS) | (refine wpList_is (.convert _ _ _) rfl ?_; refine wpList_stp (by kernel_rfl) (stp_val (run_cvn _ _ _ rfl) ?_)) | (refine wpList_is (.binOp .rem _ _ _ _) rfl ?_; refine wpList_stp (by kernel_rfl) (stp_val (run_remv _ _ _ _ rfl) ?_)) | (refine wpList_is (.call { callee := .builtin .len, args := #[_], argTypes := #[_] }) rfl ?_; refine wpList_stp (by kernel_rfl) (stp_val (run_lenv _ _ rfl) ?_)) | (refine wpList_is (.indexAddr _ _ _) rfl ?_; refine wpList_stp (by kernel_rfl) (stp_val (run_idxv _ _ _ rfl) ?_)) | (refine wpList_is (.build _ _) rfl ?_; go_must (refine wpList_stp (by kernel_rfl) (stp_val (run_bd _ _ rfl) ?_))) | (refine wpList_is (.load _ _) rfl ?_; go_must ((refine wpList_stp (by kernel_rfl) (stp_val (run_ld _ _ rfl hS) ?_)))) | (refine wpList_is (.store _ _ _) rfl ?_; go_must ((refine wpList_stp (by kernel_rfl) (stp_sta _ _ _ rfl hS ?_))); clear hS; intro w hS))
  have hS : St w0 bs _ (E ++ (⟨bt, #[.int .u8 a, .int .u8 mb, .int .u8 i, .int .u8 b, .int .u8 c], 80, true⟩ :: ⟨bz, #[.int .i64 0, .int .u32 0], 29, true⟩ :: wdE bm p M bv mu T.2.2 :: rvE bv vs :: (E1 ++ (e ++ (E2 ++ (Em ++ H)))))) := hS.pick
  refine region_itemsE [⟨(undef, E), [(9, fun _ x => AA p (L', T.2.1.set m (rtL T m ++ [r]), T.2.2) x.2)]⟩, ⟨(undef, []), [(13, fun _ x => ∃ b, x = (.pointer (some ⟨b, 0, none⟩), [⟨b, #[.int .i64 0, .int .u32 0], 29, true⟩])), (14, fun y x => ∃ b, y.1 = .pointer (some ⟨b, 0, none⟩) ∧ x.2 = [⟨b, #[.int .i64 r.1, .int .u32 r.2], 29, true⟩])]⟩]
    (⟨bt, #[.int .u8 a, .int .u8 mb, .int .u8 i, .int .u8 b, .int .u8 c], 80, true⟩ :: ⟨bz, #[.int .i64 0, .int .u32 0], 29, true⟩ :: wdE bm p M bv mu T.2.2 :: rvE bv vs :: (E1 ++ (e ++ (E2 ++ (Em ++ H))))) (E ++ (⟨bt, #[.int .u8 a, .int .u8 mb, .int .u8 i, .int .u8 b, .int .u8 c], 80, true⟩ :: ⟨bz, #[.int .i64 0, .int .u32 0], 29, true⟩ :: wdE bm p M bv mu T.2.2 :: rvE bv vs :: (E1 ++ (e ++ (E2 ++ (Em ++ H)))))) (by simp) hS (by kernel_rfl) (by kernel_rfl) ?_
  refine fx_val (fun _ => rfl) rfl (fun χ w hw => run_mv _ rfl) ?_
  refine fx_val (fun _ => rfl) rfl (fun χ w hw => run_nc _ rfl) ?_
  refine fx_val (fun _ => rfl) rfl (fun χ w hw => run_fa _ _ _ rfl) ?_
  (refine fx_val (fun _ => rfl) rfl (fun χ w hw => run_ld _ _ rfl hw) ?_)
  refine fx_val (fun _ => rfl) rfl (fun χ w hw => run_mv _ rfl) ?_
  refine fx_val (fun _ => rfl) rfl (fun χ w hw => run_fa _ _ _ rfl) ?_
  (refine fx_val (fun _ => rfl) rfl (fun χ w hw => run_ld _ _ rfl hw) ?_)
  (refine fx_val (fun _ => rfl) rfl (fun χ w hw => run_remv _ _ _ _ rfl) ?_)
  refine fx_val (fun _ => rfl) rfl (fun χ w hw => run_cvn _ _ _ rfl) ?_
  refine fx_turn 0 0 rfl rfl (by kernel_rfl) (by kernel_rfl) (by kernel_rfl) 10 [_, _, _, _] _ rfl (fun _ => rfl) (enters _ (by kernel_rfl)) (fun _ => .tuple #[.agg #[.int .i64 r.1, .int .u32 r.2], .int .i64 0]) ?_ ?_
  · intro χ X w _ hS
    exact ar_make (show St w0 bs w (E ++ (X ++ _)) from hS) hT _ _ _ (L', T.2.1.set m (rtL T m ++ [r]), T.2.2) r 0 h1'.out h2'.out h3'.out (fun E' w' hT' hS' => ⟨(undef, E'), rfl, hT', show St w0 bs w' (E' ++ (X ++ _)) from hS'.pick⟩)
  refine fx_val (fun _ => rfl) rfl (fun χ w hw => run_mv _ rfl) ?_
  refine fx_val (fun _ => rfl) rfl (fun χ w hw => run_ext _ _ rfl) ?_
  refine fx_val (fun _ => rfl) rfl (fun χ w hw => run_ext _ _ rfl) ?_
  refine fx_turn0 1 0 rfl rfl (by kernel_rfl) (by kernel_rfl) (by kernel_rfl) (fun _ => rfl) (fun x => x.1) ?_ ?_
  · intro χ X w _ hS
    exact stepX_al _ rfl (show St w0 bs w (X ++ _) from hS) (fun b w' _ hS' => ⟨(_, [_]), rfl, ⟨b, rfl⟩, hS'⟩)
  refine fx_turn0 1 1 rfl rfl (by kernel_rfl) (by kernel_rfl) (by kernel_rfl) (fun _ => rfl) (fun _ => undef) ?_ ?_
  · rintro χ X w ⟨⟨b, hb⟩, _⟩ hS
    have hS : St w0 bs w ((χ 13).2 ++ (X ++ _)) := hS
    rw [hb] at hS
    have hS : St w0 bs w (⟨b, #[.int .i64 0, .int .u32 0], 29, true⟩ :: (X ++ _)) := hS
    have hb1 : (χ 13).1 = .pointer (some ⟨b, 0, none⟩) := by rw [hb]
    exact stepX_stb _ _ _ rfl hS hb1 (fun w' hS' => ⟨(undef, [⟨b, #[.int .i64 r.1, .int .u32 r.2], 29, true⟩]), rfl, ⟨b, hb1, rfl⟩, hS'⟩)
  refine fx_val (fun _ => rfl) rfl (fun χ w hw => run_as _ rfl) ?_
  refine fx_end rfl ?_
  intro χ w hok hS
  obtain ⟨hT2, _⟩ := hok _ (.head _)
  have hT2 : AA p (L', T.2.1.set m (rtL T m ++ [r]), T.2.2) (χ 9).2 := hT2
  obtain ⟨⟨br, hb0⟩, ⟨_, hbx, hc0⟩, _⟩ := hok _ (.tail _ (.head _))
  rw [hb0] at hbx
  obtain ⟨⟩ := hbx
  have hS : St w0 bs w (((χ 9).2 ++ ((χ 14).2 ++ [])) ++ (⟨bt, #[.int .u8 a, .int .u8 mb, .int .u8 i, .int .u8 b, .int .u8 c], 80, true⟩ :: ⟨bz, #[.int .i64 0, .int .u32 0], 29, true⟩ :: wdE bm p M bv mu T.2.2 :: rvE bv vs :: (E1 ++ (e ++ (E2 ++ (Em ++ H)))))) := hS
  rw [hc0, List.append_nil, List.append_assoc] at hS
  generalize (χ 9).2 = E3 at hS hT2
  simp only [hb0]
  simp only [List.cons_append, List.nil_append, List.append_assoc] at hS
  clear hok hb0 hc0
  go_wp2_with (first | (go_at_call 65; refine wsize (H1 := ⟨bt, #[.int .u8 a, .int .u8 mb, .int .u8 i, .int .u8 b, .int .u8 c], 80, true⟩ :: ⟨br, #[.int .i64 r.1, .int .u32 r.2], 29, true⟩ :: ⟨bz, #[.int .i64 0, .int .u32 0], 29, true⟩ :: rvE bv vs :: (E1 ++ (e ++ (E2 ++ (Em ++ H))))) (show St w0 bs w (wdE bm p M bv mu T.2.2 :: (E3 ++ _)) from hS.pick) hT2 n hn1.out ?_; clear hS; intro w hS; unfold Ret) | (refine wpList_is (.call { callee := .builtin .len, args := #[_], argTypes := #[25] }) rfl ?_; refine wpList_stp (by kernel_rfl) (stp_val (run_mlen _ _ rfl (hB.now hS) hml2) ?_)) | (refine wpList_is (.load _ _) rfl ?_; go_must ((refine wpList_stp (by kernel_rfl) (stp_val (run_ld _ _ rfl hS) ?_)))))
  refine region_quiet hS (by kernel_rfl) (by kernel_rfl) (fun hne => ?_)
  go_big_quiet_want; (refine quiet_is (.move _) rfl ?_; refine quiet_val (fun w _ => run_mv _ rfl) ?_; go_big_quiet_on)
  go_big_quiet_want; (refine quiet_is (.nilCheck _) rfl ?_; refine quiet_val (fun w _ => run_nc _ rfl) ?_; go_big_quiet_on)
  go_big_quiet_want; (refine quiet_is (.fieldAddr _ _ _) rfl ?_; refine quiet_val (fun w _ => run_fa _ _ _ rfl) ?_; go_big_quiet_on)
  go_big_quiet_want; ((refine quiet_is (.load _ _) rfl ?_; refine quiet_at sw_st (fun w hS => run_ld _ _ rfl hS) ?_; go_big_quiet_on))
  go_big_quiet_want; ((refine quiet_is (.load _ _) rfl ?_; refine quiet_at sw_st (fun w hS => run_lda _ _ rfl hS) ?_; go_big_quiet_on))
  go_big_quiet_want; (refine quiet_is (.lookup _ _ _ _) rfl ?_; refine quiet_at sw_st (fun w hS => run_look _ _ _ rfl (hlk _ _ hS)) ?_; go_big_quiet_on)
  go_big_quiet_want; (refine quiet_is (.move _) rfl ?_; refine quiet_val (fun w _ => run_mv _ rfl) ?_; go_big_quiet_on)
  go_big_quiet_want; (refine quiet_is (.extract _ _) rfl ?_; refine quiet_val (fun w _ => run_ext _ _ rfl) ?_; go_big_quiet_on)
  go_big_quiet_want; (refine quiet_is (.extract _ _) rfl ?_; refine quiet_val (fun w _ => run_ext _ _ rfl) ?_; go_big_quiet_on)
  go_big_quiet_want; (refine quiet_is (.assign _) rfl ?_; refine quiet_val (fun w _ => run_as _ rfl) ?_; go_big_quiet_on)
  go_big_quiet_want; (refine quiet_is (.assign _) rfl ?_; refine quiet_val (fun w _ => run_as _ rfl) ?_; go_big_quiet_on)
  refine wpQuiet_nil ?_
  clear hS hne
  intro w hS
  go_wp2_with ((go_skip))
  have hS : St w0 bs w (⟨bt, #[.int .u8 a, .int .u8 mb, .int .u8 i, .int .u8 b, .int .u8 c], 80, true⟩ :: ⟨br, #[.int .i64 r.1, .int .u32 r.2], 29, true⟩ :: ⟨bz, #[.int .i64 0, .int .u32 0], 29, true⟩ :: wdE bm p M bv mu T.2.2 :: rvE bv vs :: (E3 ++ (E1 ++ (e ++ (E2 ++ (Em ++ H)))))) := hS.pick
  obtain ⟨N, hN⟩ : ∃ N, w.heap.size = N := ⟨_, rfl⟩
  obtain ⟨ne, hne⟩ : ∃ ne : Ent, ne = ⟨N, madeCells #[.int .i64 0, .int .u32 0] (z * 2), 29, true⟩ := ⟨_, rfl⟩
  have hcom := ph7_com (W := W) (w0 := w0) (bs := bs) (M := M) (N := N) (X := (⟨bt, #[.int .u8 a, .int .u8 mb, .int .u8 i, .int .u8 b, .int .u8 c], 80, true⟩ :: ⟨br, #[.int .i64 r.1, .int .u32 r.2], 29, true⟩ :: ⟨bz, #[.int .i64 0, .int .u32 0], 29, true⟩ :: wdE bm p M bv mu T.2.2 :: rvE bv vs :: (E3 ++ (E1 ++ (e ++ (E2 ++ (Em ++ H))))))) (e := ne) (ms := mpV (ms ++ [(r, 0, List.replicate z (0, 0))]) (us ++ [.slice (some ⟨N, 0, none⟩) z z]))
  refine region_step (Ph7 W w0 bs M N (⟨bt, #[.int .u8 a, .int .u8 mb, .int .u8 i, .int .u8 b, .int .u8 c], 80, true⟩ :: ⟨br, #[.int .i64 r.1, .int .u32 r.2], 29, true⟩ :: ⟨bz, #[.int .i64 0, .int .u32 0], 29, true⟩ :: wdE bm p M bv mu T.2.2 :: rvE bv vs :: (E3 ++ (E1 ++ (e ++ (E2 ++ (Em ++ H)))))) ne (mpV (ms ++ [(r, 0, List.replicate z (0, 0))]) (us ++ [.slice (some ⟨N, 0, none⟩) z z]))) (fun i => i == 9 || i == 10) (by kernel_rfl) (by kernel_rfl) (by kernel_rfl) ⟨hS.drawn _, hN⟩ ?_
  refine lex_val rfl rfl (fun q w hw => run_mv _ rfl) ?_
  refine lex_val rfl rfl (fun q w hw => run_nc _ rfl) ?_
  refine lex_val rfl rfl (fun q w hw => run_fa _ _ _ rfl) ?_
  (refine lex_val rfl rfl (fun q w hw => run_ld _ _ rfl (hcom q w hw)) ?_)
  (refine lex_val rfl rfl (fun q w hw => run_lda _ _ rfl (hcom q w hw)) ?_)
  refine lex_val rfl rfl (fun q w hw => run_fa _ _ _ rfl) ?_
  (refine lex_val rfl rfl (fun q w hw => run_ld _ _ rfl (hcom q w hw)) ?_)
  (refine lex_val rfl rfl (fun q w hw => run_remv _ _ _ _ rfl) ?_)
  refine lex_val rfl rfl (fun q w hw => run_cvn _ _ _ rfl) ?_
  refine lex_mark rfl rfl (.slice (some ⟨N, 0, none⟩) z z) ?_ ?_
  · rintro w ⟨hS, hN⟩
    rw [← hN]
    exact stepAt_mk (z := z) _ _ _ rfl hS (by omega) (by omega) (fun w' hS' => by
      rw [hN] at hS'
      show St w0 bs w' (ne :: _)
      rw [hne]; exact hS')
  refine lex_mark rfl rfl undef ?_ ?_
  · intro w hS
    have hS : St w0 bs w (ne :: (⟨bt, #[.int .u8 a, .int .u8 mb, .int .u8 i, .int .u8 b, .int .u8 c], 80, true⟩ :: ⟨br, #[.int .i64 r.1, .int .u32 r.2], 29, true⟩ :: ⟨bz, #[.int .i64 0, .int .u32 0], 29, true⟩ :: wdE bm p M bv mu T.2.2 :: rvE bv vs :: (E3 ++ (E1 ++ (e ++ (E2 ++ (Em ++ H))))))) := hS
    obtain ⟨es, ck, hr, he⟩ := put_mp (hB.now hS) hlu'.out hfr (.slice (some ⟨N, 0, none⟩) z z) (List.replicate z (0, 0))
    exact stepAt_upd _ _ _ _ rfl ⟨_, hr, _, _, hB.turn hS he⟩
  refine lex_nil ?_
  clear hS hcom hlk
  rintro w ⟨w1, bs1, hB1, hS1⟩
  clear hB
  have hB := hB1
  have hS := hS1
  clear hB1 hS1
  obtain ⟨w0, rfl⟩ : ∃ q, q = w1 := ⟨_, rfl⟩
  obtain ⟨bs, rfl⟩ : ∃ q, q = bs1 := ⟨_, rfl⟩
  go_wp2_with ((refine wpList_is (.load 29 _) rfl ?_; refine wpList_stp (by kernel_rfl) (stp_val (run_lda _ _ rfl hS) ?_)))

  have hS : St w0 bs w (wdE bm p M bv mu T.2.2 :: rvE bv vs :: (e ++ (⟨bt, #[.int .u8 a, .int .u8 mb, .int .u8 i, .int .u8 b, .int .u8 c], 80, true⟩ :: ⟨br, #[.int .i64 r.1, .int .u32 r.2], 29, true⟩ :: ⟨bz, #[.int .i64 0, .int .u32 0], 29, true⟩ :: ne :: (E3 ++ (E1 ++ (E2 ++ (Em ++ H))))))) := hS.pick
  go_wp2_with ((go_at_call 66; refine wgive hS hml hlv'.out hv1'.out hv hle'.out r ?_; clear hS; intro v5 e5 w hv5 hS; unfold Ret))
  have hne2 : RS (.slice (some ⟨N, 0, none⟩) z z) (List.replicate z (0, 0)) [ne] := by
    have h := RS.lit (g := N) (cs := madeCells #[.int .i64 0, .int .u32 0] (z * 2)) (List.replicate z ((0, 0) : Rf)) (made_cells hz4).symm (by simp; omega)
    rw [List.length_replicate] at h
    rw [hne]; exact h
  have hus2 : RL (us ++ [.slice (some ⟨N, 0, none⟩) z z]) (mpF (ms ++ [(r, 0, List.replicate z (0, 0))])) (Em ++ [ne]) := by
    rw [show mpF (ms ++ [(r, 0, List.replicate z (0, 0))]) = mpF ms ++ [List.replicate z (0, 0)] by simp [mpF]]
    exact hus'.out.snoc hne2
  exact hR _ (by rw [hnx.out]; exact (show WX W bm n mu (k + 1) H _ (L', T.2.1.set m (rtL T m ++ [r]), T.2.2) (ms ++ [(r, 0, List.replicate z (0, 0))]) from ⟨w0, bs, M, p, bv, _, _, E3, _, _, hB, by simp only [List.append_assoc, List.cons_append, List.nil_append]; exact hS.pick, hT2, hset'.out v5 _ e5 hv5, hus2, hWn'.out 0⟩))
end Go.Proofs.Ytjlihigodggfcaa
