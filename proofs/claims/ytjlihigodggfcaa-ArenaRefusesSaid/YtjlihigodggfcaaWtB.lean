/-
  Arenas with what the statements know of them: the turns with variables, and those without roots.
-/
import Derived.Test.YtjlihigodggfcaaWnx
set_option linter.unusedSimpArgs false
set_option linter.unusedVariables false
namespace Go.Proofs.Ytjlihigodggfcaa
open Go Go.RowKit Go.Mm
variable {R : Ending → World → Prop} {w : World} {H1 : List Ent}
set_option maxHeartbeats 4000000 in
set_option maxRecDepth 100000 in
theorem wt_getN {W : World} {bm n mu k : Nat} {H : List Ent} {T : Ar} {ms : List Me} (hk : k ≤ 400) (hX : WX W bm n mu k H w T ms) (hmu : 1 ≤ mu ∧ mu ≤ 4) (a mb i b c : Nat) (ha : a ≤ 255) (hmb : mb ≤ 255) (hi : i ≤ 255) (hb : b ≤ 255) (hc : c ≤ 255) (h0 : a % 8 = 5) (hgn : T.2.2.getD (b % 8) (0, 0) = (0, 0))
    (hR : ∀ w', WX W bm n mu (k + 1) H w' (nxT n mu T ms a mb i b c).1 (nxT n mu T ms a mb i b c).2 → Ret R (.bool true) w') : Calls Try.prog 31 #[.pointer (some ⟨bm, 0, none⟩), .agg #[.int .u8 a, .int .u8 mb, .int .u8 i, .int .u8 b, .int .u8 c]] w R := by
  obtain ⟨w0, bs, M, p, bv, vs, us, E, Er, Em, hB, hS, hT, hvs, hus, hWo⟩ := hX
  have hlv : vs.length = mu := by rw [hvs.len]; exact hWo.mu
  have hlu : us.length = ms.length := by rw [hus.len]; simp
  obtain ⟨m, hm⟩ : ∃ q, mb % mu = q := ⟨_, rfl⟩
  have hml : m < mu := by rw [← hm]; exact Nat.mod_lt _ (by omega)
  have rm : RemIs (mb : Int) (mu : Int) (m : Int) := ⟨by rw [Int.tmod_eq_emod_of_nonneg (by omega)]; omega, by omega⟩
  have smb : Small (mb : Int) := ⟨by omega, by omega⟩
  have si : Small (i : Int) := ⟨by omega, by omega⟩
  have sb : Small (b : Int) := ⟨by omega, by omega⟩
  have sc : Small (c : Int) := ⟨by omega, by omega⟩
  have ix := rv_idx (bv := bv) hml
  have lx := rv_len (bv := bv) (mu := mu)
  obtain ⟨v, E1, e, E2, hv1, rfl, hv, hset⟩ := hvs.at m _ (hWo.rtq hml)
  simp only [List.append_assoc] at hS
  obtain ⟨nr, hnr⟩ : ∃ q, (rtL T m).length = q := ⟨_, rfl⟩
  have hn32 : nr ≤ 32 := hnr ▸ hWo.r32 _ (hWo.rtl hml)
  have hln : LenV Try.prog 44 v nr := hv.len hnr
  have hone := hv.one
  have cv := cellV hv1
  obtain ⟨g, hg⟩ : ∃ q, b % 8 = q := ⟨_, rfl⟩
  have hg8 : g < 8 := by omega
  have rg : RemIs (b : Int) 8 (g : Int) := ⟨by rw [Int.tmod_eq_emod_of_nonneg (by omega)]; omega, by decide⟩
  obtain ⟨a8, ha8⟩ : ∃ q, a % 8 = q := ⟨_, rfl⟩
  have ra : RemIs (a : Int) 8 (a8 : Int) := ⟨by rw [Int.tmod_eq_emod_of_nonneg (by omega)]; omega, by decide⟩
  have qz := refE (refB_self 0 0)
  have hWo' := Lib.hid hWo
  have hvs' := Lib.hid hvs
  have hus' := Lib.hid hus
  have hset' := Lib.hid hset
  have hv1' := Lib.hid hv1
  have hlv' := Lib.hid hlv
  have hlu' := Lib.hid hlu
  have hnr' := Lib.hid hnr
  obtain rfl : a8 = 5 := by omega
  obtain ⟨g1, hg1⟩ : ∃ q : Int, q = 0 := ⟨_, rfl⟩
  obtain ⟨g2, hg2⟩ : ∃ q : Int, q = 0 := ⟨_, rfl⟩
  have hgv : T.2.2.getD g (0, 0) = (g1, g2) := by rw [hg] at hgn; rw [hgn, hg1, hg2]
  have hgl : g < T.2.2.length := by rw [hWo.g8]; exact hg8
  have hgg : T.2.2[g]? = some (g1, g2) := by rw [List.getElem?_eq_getElem hgl, ← hgv, List.getD_eq_getElem?_getD, List.getElem?_eq_getElem hgl]; rfl
  have cg : CellsAt (wrC p M (.slice (some ⟨bv, 0, none⟩) mu mu) T.2.2) (0 + 3 + g * 2) 2 #[.int .i64 g1, .int .u32 g2] := blkCells slf_len (i := g) (a := (g1, g2)) hgg (by simp)
  have ixg := idxArr (P := Try.prog) (t := 30) (m := 8) (z := 2) (e := 29) (b := bm) (off := 0 + 3) (by kernel_rfl) (by kernel_rfl) hg8
  subst hg1 hg2
  obtain ⟨h1, h2, h3⟩ := (hWo.get hml hg8 hgv).1 (refB_self 0 0)
  have h1' := Lib.hid h1
  have h2' := Lib.hid h2
  have h3' := Lib.hid h3
  have hnx := Lib.hid (show nxT n mu T ms a mb i b c = (T, ms) from by rw [nxT, if_neg (by omega), if_pos (by omega), hm, hg, h1])
  clear h1 h2 h3 hgn hgv hgg
  clear hm hg hWo hvs hus hset hv1 hlv hlu hnr
  go_enter Try.func31, Try.ntmps31
  go_wp2_with ((refine wpList_is (.box 80 _) rfl ?_; go_must (refine wpList_stp (by kernel_rfl) (stp_bx _ _ rfl hS ?_)); clear hS; intro bt w _ hS))
  refine region_quiet hS (by kernel_rfl) (by kernel_rfl) (fun hne => ?_)
  go_big_quiet_want; (refine quiet_is (.fieldAddr _ _ _) rfl ?_; refine quiet_val (fun w _ => run_fa _ _ _ rfl) ?_; go_big_quiet_on)
  go_big_quiet_want; ((refine quiet_is (.load _ _) rfl ?_; refine quiet_at sw_st (fun w hS => run_ld _ _ rfl hS) ?_; go_big_quiet_on))
  go_big_quiet_want; (refine quiet_is (.convert _ _ _) rfl ?_; refine quiet_val (fun w _ => run_cvn _ _ _ rfl) ?_; go_big_quiet_on)
  go_big_quiet_want; (refine quiet_is (.move _) rfl ?_; refine quiet_val (fun w _ => run_mv _ rfl) ?_; go_big_quiet_on)
  go_big_quiet_want; (refine quiet_is (.nilCheck _) rfl ?_; refine quiet_val (fun w _ => run_nc _ rfl) ?_; go_big_quiet_on)
  go_big_quiet_want; (refine quiet_is (.fieldAddr _ _ _) rfl ?_; refine quiet_val (fun w _ => run_fa _ _ _ rfl) ?_; go_big_quiet_on)
  go_big_quiet_want; ((refine quiet_is (.load _ _) rfl ?_; refine quiet_at sw_st (fun w hS => run_ld _ _ rfl hS) ?_; go_big_quiet_on))
  go_big_quiet_want; (refine quiet_is (.call { callee := .builtin .len, args := #[_], argTypes := #[_] }) rfl ?_; refine quiet_val (fun w _ => run_lenv _ _ rfl) ?_; go_big_quiet_on)
  go_big_quiet_want; (refine quiet_is (.binOp .rem _ _ _ _) rfl ?_; refine quiet_val (fun w _ => run_remv _ _ _ _ rfl) ?_; go_big_quiet_on)
  go_big_quiet_want; (refine quiet_is (.assign _) rfl ?_; refine quiet_val (fun w _ => run_as _ rfl) ?_; go_big_quiet_on)
  refine wpQuiet_nil ?_
  clear hS hne
  intro w hS
  go_wp2_with (first | (refine wpList_is (o := ⟨some 9, _, _, _, _, _⟩) (.alloc _) rfl ?_; go_must (refine wpList_stp (by kernel_rfl) (stp_al _ rfl hS ?_)); clear hS; intro bz w _ hS) | (refine wpList_is (.convert _ _ _) rfl ?_; refine wpList_stp (by kernel_rfl) (stp_val (run_cvn _ _ _ rfl) ?_)) | (refine wpList_is (.binOp .rem _ _ _ _) rfl ?_; refine wpList_stp (by kernel_rfl) (stp_val (run_remv _ _ _ _ rfl) ?_)) | (refine wpList_is (.call { callee := .builtin .len, args := #[_], argTypes := #[_] }) rfl ?_; refine wpList_stp (by kernel_rfl) (stp_val (run_lenv _ _ rfl) ?_)) | (refine wpList_is (.indexAddr _ _ _) rfl ?_; refine wpList_stp (by kernel_rfl) (stp_val (run_idxv _ _ _ rfl) ?_)) | (refine wpList_is (.build _ _) rfl ?_; go_must (refine wpList_stp (by kernel_rfl) (stp_val (run_bd _ _ rfl) ?_))) | (refine wpList_is (.load _ _) rfl ?_; go_must ((refine wpList_stp (by kernel_rfl) (stp_val (run_ld _ _ rfl hS) ?_)))) | (refine wpList_is (.store _ _ _) rfl ?_; go_must ((refine wpList_stp (by kernel_rfl) (stp_sta _ _ _ rfl hS ?_))); clear hS; intro w hS))
  go_wp2_with (first | (refine wpList_is (o := ⟨some 14, _, _, _, _, _⟩) (.alloc _) rfl ?_; go_must (refine wpList_stp (by kernel_rfl) (stp_al _ rfl hS ?_)); clear hS; intro br w _ hS) | (go_at_call 16; go_must (refine ar_get hS hT m g T (0, 0) 5 h1'.out h2'.out h3'.out ?_); clear hS; intro E3 w hT2 hS; unfold Ret) | (refine wpList_is (.store _ _ _) rfl ?_; go_must ((refine wpList_stp (by kernel_rfl) (stp_sta _ _ _ rfl hS ?_))); clear hS; intro w hS))
  refine region_quiet hS (by kernel_rfl) (by kernel_rfl) (fun hne => ?_)
  go_big_quiet_want; (refine quiet_is (.move _) rfl ?_; refine quiet_val (fun w _ => run_mv _ rfl) ?_; go_big_quiet_on)
  go_big_quiet_want; (refine quiet_is (.move _) rfl ?_; refine quiet_val (fun w _ => run_mv _ rfl) ?_; go_big_quiet_on)
  go_big_quiet_want; (refine quiet_is (.nilCheck _) rfl ?_; refine quiet_val (fun w _ => run_nc _ rfl) ?_; go_big_quiet_on)
  go_big_quiet_want; (refine quiet_is (.fieldAddr _ _ _) rfl ?_; refine quiet_val (fun w _ => run_fa _ _ _ rfl) ?_; go_big_quiet_on)
  go_big_quiet_want; (refine quiet_is (.indexAddr _ _ _) rfl ?_; refine quiet_val (fun w _ => run_idxv _ _ _ rfl) ?_; go_big_quiet_on)
  go_big_quiet_want; ((refine quiet_is (.load _ _) rfl ?_; refine quiet_at sw_st (fun w hS => run_lda _ _ rfl hS) ?_; go_big_quiet_on))
  go_big_quiet_want; ((refine quiet_is (.load _ _) rfl ?_; refine quiet_at sw_st (fun w hS => run_lda _ _ rfl hS) ?_; go_big_quiet_on))
  go_big_quiet_want; (refine quiet_is (.binOp .eql _ _ _ _) rfl ?_; refine quiet_val (fun w _ => run_aeq _ _ _ _ rfl) ?_; go_big_quiet_on)
  go_big_quiet_want; (refine quiet_is (.assign _) rfl ?_; refine quiet_val (fun w _ => run_as _ rfl) ?_; go_big_quiet_on)
  refine wpQuiet_nil ?_
  clear hS hne
  intro w hS
  go_wp2_with (first | (refine wpList_is (.binOp .eql 29 _ _ _) rfl ?_; refine wpList_stp (by kernel_rfl) (stp_val (run_aeq _ _ _ _ rfl) ?_)) | (refine wpList_is (.load 29 _) rfl ?_; refine wpList_stp (by kernel_rfl) (stp_val (run_lda _ _ rfl hS) ?_)))
  exact hR _ (by rw [hnx.out]; exact (show WX W bm n mu (k + 1) H _ T ms from ⟨w0, bs, M, p, bv, vs, us, E3, _, Em, hB, by simp only [List.append_assoc]; exact hS.pick, hT2, hvs'.out, hus'.out, hWo'.out.more⟩))
set_option maxHeartbeats 4000000 in
set_option maxRecDepth 100000 in
theorem wt_getF {W : World} {bm n mu k : Nat} {H : List Ent} {T : Ar} {ms : List Me} (hk : k ≤ 400) (hX : WX W bm n mu k H w T ms) (hmu : 1 ≤ mu ∧ mu ≤ 4) (a mb i b c : Nat) (ha : a ≤ 255) (hmb : mb ≤ 255) (hi : i ≤ 255) (hb : b ≤ 255) (hc : c ≤ 255) (h0 : a % 8 = 5) (hgn : T.2.2.getD (b % 8) (0, 0) ≠ (0, 0)) (hf : (rtL T (mb % mu : Nat)).length = 32)
    (hR : ∀ w', WX W bm n mu (k + 1) H w' (nxT n mu T ms a mb i b c).1 (nxT n mu T ms a mb i b c).2 → Ret R (.bool true) w') : Calls Try.prog 31 #[.pointer (some ⟨bm, 0, none⟩), .agg #[.int .u8 a, .int .u8 mb, .int .u8 i, .int .u8 b, .int .u8 c]] w R := by
  obtain ⟨w0, bs, M, p, bv, vs, us, E, Er, Em, hB, hS, hT, hvs, hus, hWo⟩ := hX
  have hlv : vs.length = mu := by rw [hvs.len]; exact hWo.mu
  have hlu : us.length = ms.length := by rw [hus.len]; simp
  obtain ⟨m, hm⟩ : ∃ q, mb % mu = q := ⟨_, rfl⟩
  have hml : m < mu := by rw [← hm]; exact Nat.mod_lt _ (by omega)
  have rm : RemIs (mb : Int) (mu : Int) (m : Int) := ⟨by rw [Int.tmod_eq_emod_of_nonneg (by omega)]; omega, by omega⟩
  have smb : Small (mb : Int) := ⟨by omega, by omega⟩
  have si : Small (i : Int) := ⟨by omega, by omega⟩
  have sb : Small (b : Int) := ⟨by omega, by omega⟩
  have sc : Small (c : Int) := ⟨by omega, by omega⟩
  have ix := rv_idx (bv := bv) hml
  have lx := rv_len (bv := bv) (mu := mu)
  obtain ⟨v, E1, e, E2, hv1, rfl, hv, hset⟩ := hvs.at m _ (hWo.rtq hml)
  simp only [List.append_assoc] at hS
  obtain ⟨nr, hnr⟩ : ∃ q, (rtL T m).length = q := ⟨_, rfl⟩
  have hn32 : nr ≤ 32 := hnr ▸ hWo.r32 _ (hWo.rtl hml)
  have hln : LenV Try.prog 44 v nr := hv.len hnr
  have hone := hv.one
  have cv := cellV hv1
  obtain ⟨g, hg⟩ : ∃ q, b % 8 = q := ⟨_, rfl⟩
  have hg8 : g < 8 := by omega
  have rg : RemIs (b : Int) 8 (g : Int) := ⟨by rw [Int.tmod_eq_emod_of_nonneg (by omega)]; omega, by decide⟩
  obtain ⟨a8, ha8⟩ : ∃ q, a % 8 = q := ⟨_, rfl⟩
  have ra : RemIs (a : Int) 8 (a8 : Int) := ⟨by rw [Int.tmod_eq_emod_of_nonneg (by omega)]; omega, by decide⟩
  have qz := refE (refB_self 0 0)
  have hWo' := Lib.hid hWo
  have hvs' := Lib.hid hvs
  have hus' := Lib.hid hus
  have hset' := Lib.hid hset
  have hv1' := Lib.hid hv1
  have hlv' := Lib.hid hlv
  have hlu' := Lib.hid hlu
  have hnr' := Lib.hid hnr
  obtain rfl : a8 = 5 := by omega
  obtain ⟨⟨g1, g2⟩, hgv⟩ : ∃ q, T.2.2.getD g (0, 0) = q := ⟨_, rfl⟩
  have hgl : g < T.2.2.length := by rw [hWo.g8]; exact hg8
  have hgg : T.2.2[g]? = some (g1, g2) := by rw [List.getElem?_eq_getElem hgl, ← hgv, List.getD_eq_getElem?_getD, List.getElem?_eq_getElem hgl]; rfl
  have cg : CellsAt (wrC p M (.slice (some ⟨bv, 0, none⟩) mu mu) T.2.2) (0 + 3 + g * 2) 2 #[.int .i64 g1, .int .u32 g2] := blkCells slf_len (i := g) (a := (g1, g2)) hgg (by simp)
  have ixg := idxArr (P := Try.prog) (t := 30) (m := 8) (z := 2) (e := 29) (b := bm) (off := 0 + 3) (by kernel_rfl) (by kernel_rfl) hg8
  have hb0 : refB g1 g2 0 0 = false := refB_no (x := (g1, g2)) (y := (0, 0)) (by rw [hg] at hgn; rw [← hgv]; exact hgn)
  have qg := refE hb0
  obtain ⟨h1, h2, h3⟩ := ((hWo.get hml hg8 hgv).2 hb0).2.1 (by rw [hm] at hf; exact hf)
  have h1' := Lib.hid h1
  have h2' := Lib.hid h2
  have h3' := Lib.hid h3
  have d32 : decide (32 ≤ nr) = true := decide_eq_true (by rw [hm] at hf; omega)
  have d32' : decide (32 ≤ (nr : Int)) = true := decide_eq_true (by rw [hm] at hf; omega)
  have hnx := Lib.hid (show nxT n mu T ms a mb i b c = (T, ms) from by rw [nxT, if_neg (by omega), if_pos (by omega), hm, hg, h1])
  clear h1 h2 h3 hgn hgv hgg hb0 hf
  clear hm hg hWo hvs hus hset hv1 hlv hlu hnr
  go_enter Try.func31, Try.ntmps31
  go_wp2_with ((refine wpList_is (.box 80 _) rfl ?_; go_must (refine wpList_stp (by kernel_rfl) (stp_bx _ _ rfl hS ?_)); clear hS; intro bt w _ hS))
  refine region_quiet hS (by kernel_rfl) (by kernel_rfl) (fun hne => ?_)
  go_big_quiet_want; (refine quiet_is (.fieldAddr _ _ _) rfl ?_; refine quiet_val (fun w _ => run_fa _ _ _ rfl) ?_; go_big_quiet_on)
  go_big_quiet_want; ((refine quiet_is (.load _ _) rfl ?_; refine quiet_at sw_st (fun w hS => run_ld _ _ rfl hS) ?_; go_big_quiet_on))
  go_big_quiet_want; (refine quiet_is (.convert _ _ _) rfl ?_; refine quiet_val (fun w _ => run_cvn _ _ _ rfl) ?_; go_big_quiet_on)
  go_big_quiet_want; (refine quiet_is (.move _) rfl ?_; refine quiet_val (fun w _ => run_mv _ rfl) ?_; go_big_quiet_on)
  go_big_quiet_want; (refine quiet_is (.nilCheck _) rfl ?_; refine quiet_val (fun w _ => run_nc _ rfl) ?_; go_big_quiet_on)
  go_big_quiet_want; (refine quiet_is (.fieldAddr _ _ _) rfl ?_; refine quiet_val (fun w _ => run_fa _ _ _ rfl) ?_; go_big_quiet_on)
  go_big_quiet_want; ((refine quiet_is (.load _ _) rfl ?_; refine quiet_at sw_st (fun w hS => run_ld _ _ rfl hS) ?_; go_big_quiet_on))
  go_big_quiet_want; (refine quiet_is (.call { callee := .builtin .len, args := #[_], argTypes := #[_] }) rfl ?_; refine quiet_val (fun w _ => run_lenv _ _ rfl) ?_; go_big_quiet_on)
  go_big_quiet_want; (refine quiet_is (.binOp .rem _ _ _ _) rfl ?_; refine quiet_val (fun w _ => run_remv _ _ _ _ rfl) ?_; go_big_quiet_on)
  go_big_quiet_want; (refine quiet_is (.assign _) rfl ?_; refine quiet_val (fun w _ => run_as _ rfl) ?_; go_big_quiet_on)
  refine wpQuiet_nil ?_
  clear hS hne
  intro w hS
  go_wp2_with (first | (refine wpList_is (o := ⟨some 9, _, _, _, _, _⟩) (.alloc _) rfl ?_; go_must (refine wpList_stp (by kernel_rfl) (stp_al _ rfl hS ?_)); clear hS; intro bz w _ hS) | (refine wpList_is (.convert _ _ _) rfl ?_; refine wpList_stp (by kernel_rfl) (stp_val (run_cvn _ _ _ rfl) ?_)) | (refine wpList_is (.binOp .rem _ _ _ _) rfl ?_; refine wpList_stp (by kernel_rfl) (stp_val (run_remv _ _ _ _ rfl) ?_)) | (refine wpList_is (.call { callee := .builtin .len, args := #[_], argTypes := #[_] }) rfl ?_; refine wpList_stp (by kernel_rfl) (stp_val (run_lenv _ _ rfl) ?_)) | (refine wpList_is (.indexAddr _ _ _) rfl ?_; refine wpList_stp (by kernel_rfl) (stp_val (run_idxv _ _ _ rfl) ?_)) | (refine wpList_is (.build _ _) rfl ?_; go_must (refine wpList_stp (by kernel_rfl) (stp_val (run_bd _ _ rfl) ?_))) | (refine wpList_is (.load _ _) rfl ?_; go_must ((refine wpList_stp (by kernel_rfl) (stp_val (run_ld _ _ rfl hS) ?_)))) | (refine wpList_is (.store _ _ _) rfl ?_; go_must ((refine wpList_stp (by kernel_rfl) (stp_sta _ _ _ rfl hS ?_))); clear hS; intro w hS))
  go_wp2_with (first | (refine wpList_is (o := ⟨some 14, _, _, _, _, _⟩) (.alloc _) rfl ?_; go_must (refine wpList_stp (by kernel_rfl) (stp_al _ rfl hS ?_)); clear hS; intro br w _ hS) | (go_at_call 16; go_must (refine ar_get hS hT m g T (0, 0) 4 h1'.out h2'.out h3'.out ?_); clear hS; intro E3 w hT2 hS; unfold Ret) | (refine wpList_is (.store _ _ _) rfl ?_; go_must ((refine wpList_stp (by kernel_rfl) (stp_sta _ _ _ rfl hS ?_))); clear hS; intro w hS))
  refine region_quiet hS (by kernel_rfl) (by kernel_rfl) (fun hne => ?_)
  go_big_quiet_want; (refine quiet_is (.move _) rfl ?_; refine quiet_val (fun w _ => run_mv _ rfl) ?_; go_big_quiet_on)
  go_big_quiet_want; (refine quiet_is (.move _) rfl ?_; refine quiet_val (fun w _ => run_mv _ rfl) ?_; go_big_quiet_on)
  go_big_quiet_want; (refine quiet_is (.nilCheck _) rfl ?_; refine quiet_val (fun w _ => run_nc _ rfl) ?_; go_big_quiet_on)
  go_big_quiet_want; (refine quiet_is (.fieldAddr _ _ _) rfl ?_; refine quiet_val (fun w _ => run_fa _ _ _ rfl) ?_; go_big_quiet_on)
  go_big_quiet_want; (refine quiet_is (.indexAddr _ _ _) rfl ?_; refine quiet_val (fun w _ => run_idxv _ _ _ rfl) ?_; go_big_quiet_on)
  go_big_quiet_want; ((refine quiet_is (.load _ _) rfl ?_; refine quiet_at sw_st (fun w hS => run_lda _ _ rfl hS) ?_; go_big_quiet_on))
  go_big_quiet_want; ((refine quiet_is (.load _ _) rfl ?_; refine quiet_at sw_st (fun w hS => run_lda _ _ rfl hS) ?_; go_big_quiet_on))
  go_big_quiet_want; (refine quiet_is (.binOp .eql _ _ _ _) rfl ?_; refine quiet_val (fun w _ => run_aeq _ _ _ _ rfl) ?_; go_big_quiet_on)
  go_big_quiet_want; (refine quiet_is (.assign _) rfl ?_; refine quiet_val (fun w _ => run_as _ rfl) ?_; go_big_quiet_on)
  refine wpQuiet_nil ?_
  clear hS hne
  intro w hS
  go_wp2_with (first | (refine wpList_is (.binOp .eql 29 _ _ _) rfl ?_; refine wpList_stp (by kernel_rfl) (stp_val (run_aeq _ _ _ _ rfl) ?_)) | (refine wpList_is (.load 29 _) rfl ?_; refine wpList_stp (by kernel_rfl) (stp_val (run_lda _ _ rfl hS) ?_)))
  exact hR _ (by rw [hnx.out]; exact (show WX W bm n mu (k + 1) H _ T ms from ⟨w0, bs, M, p, bv, vs, us, E3, _, Em, hB, by simp only [List.append_assoc]; exact hS.pick, hT2, hvs'.out, hus'.out, hWo'.out.more⟩))
set_option maxHeartbeats 4000000 in
set_option maxRecDepth 100000 in
theorem wt_get {W : World} {bm n mu k : Nat} {H : List Ent} {T : Ar} {ms : List Me} (hk : k ≤ 400) (hX : WX W bm n mu k H w T ms) (hmu : 1 ≤ mu ∧ mu ≤ 4) (a mb i b c : Nat) (ha : a ≤ 255) (hmb : mb ≤ 255) (hi : i ≤ 255) (hb : b ≤ 255) (hc : c ≤ 255) (h0 : a % 8 = 5) (hgn : T.2.2.getD (b % 8) (0, 0) ≠ (0, 0)) (hf : (rtL T (mb % mu : Nat)).length < 32)
    (hR : ∀ w', WX W bm n mu (k + 1) H w' (nxT n mu T ms a mb i b c).1 (nxT n mu T ms a mb i b c).2 → Ret R (.bool true) w') : Calls Try.prog 31 #[.pointer (some ⟨bm, 0, none⟩), .agg #[.int .u8 a, .int .u8 mb, .int .u8 i, .int .u8 b, .int .u8 c]] w R := by
  obtain ⟨w0, bs, M, p, bv, vs, us, E, Er, Em, hB, hS, hT, hvs, hus, hWo⟩ := hX
  have hlv : vs.length = mu := by rw [hvs.len]; exact hWo.mu
  have hlu : us.length = ms.length := by rw [hus.len]; simp
  obtain ⟨m, hm⟩ : ∃ q, mb % mu = q := ⟨_, rfl⟩
  have hml : m < mu := by rw [← hm]; exact Nat.mod_lt _ (by omega)
  have rm : RemIs (mb : Int) (mu : Int) (m : Int) := ⟨by rw [Int.tmod_eq_emod_of_nonneg (by omega)]; omega, by omega⟩
  have smb : Small (mb : Int) := ⟨by omega, by omega⟩
  have si : Small (i : Int) := ⟨by omega, by omega⟩
  have sb : Small (b : Int) := ⟨by omega, by omega⟩
  have sc : Small (c : Int) := ⟨by omega, by omega⟩
  have ix := rv_idx (bv := bv) hml
  have lx := rv_len (bv := bv) (mu := mu)
  obtain ⟨v, E1, e, E2, hv1, rfl, hv, hset⟩ := hvs.at m _ (hWo.rtq hml)
  simp only [List.append_assoc] at hS
  obtain ⟨nr, hnr⟩ : ∃ q, (rtL T m).length = q := ⟨_, rfl⟩
  have hn32 : nr ≤ 32 := hnr ▸ hWo.r32 _ (hWo.rtl hml)
  have hln : LenV Try.prog 44 v nr := hv.len hnr
  have hone := hv.one
  have cv := cellV hv1
  obtain ⟨g, hg⟩ : ∃ q, b % 8 = q := ⟨_, rfl⟩
  have hg8 : g < 8 := by omega
  have rg : RemIs (b : Int) 8 (g : Int) := ⟨by rw [Int.tmod_eq_emod_of_nonneg (by omega)]; omega, by decide⟩
  obtain ⟨a8, ha8⟩ : ∃ q, a % 8 = q := ⟨_, rfl⟩
  have ra : RemIs (a : Int) 8 (a8 : Int) := ⟨by rw [Int.tmod_eq_emod_of_nonneg (by omega)]; omega, by decide⟩
  have qz := refE (refB_self 0 0)
  have hWo' := Lib.hid hWo
  have hvs' := Lib.hid hvs
  have hus' := Lib.hid hus
  have hset' := Lib.hid hset
  have hv1' := Lib.hid hv1
  have hlv' := Lib.hid hlv
  have hlu' := Lib.hid hlu
  have hnr' := Lib.hid hnr
  obtain rfl : a8 = 5 := by omega
  obtain ⟨⟨g1, g2⟩, hgv⟩ : ∃ q, T.2.2.getD g (0, 0) = q := ⟨_, rfl⟩
  have hgl : g < T.2.2.length := by rw [hWo.g8]; exact hg8
  have hgg : T.2.2[g]? = some (g1, g2) := by rw [List.getElem?_eq_getElem hgl, ← hgv, List.getD_eq_getElem?_getD, List.getElem?_eq_getElem hgl]; rfl
  have cg : CellsAt (wrC p M (.slice (some ⟨bv, 0, none⟩) mu mu) T.2.2) (0 + 3 + g * 2) 2 #[.int .i64 g1, .int .u32 g2] := blkCells slf_len (i := g) (a := (g1, g2)) hgg (by simp)
  have ixg := idxArr (P := Try.prog) (t := 30) (m := 8) (z := 2) (e := 29) (b := bm) (off := 0 + 3) (by kernel_rfl) (by kernel_rfl) hg8
  have hb0 : refB g1 g2 0 0 = false := refB_no (x := (g1, g2)) (y := (0, 0)) (by rw [hg] at hgn; rw [← hgv]; exact hgn)
  have qg := refE hb0
  have qr := refE (refB_self g1 g2)
  obtain ⟨h1, h2, h3⟩ := ((hWo.get hml hg8 hgv).2 hb0).2.2 (by rw [hm] at hf; exact hf)
  have hWn := hWo.give hml (by rw [hm] at hf; exact hf) ((hWo.get hml hg8 hgv).2 hb0).1
  have hWn' := Lib.hid hWn
  have hle' := Lib.hid (hWo.r32 _ (hWo.rtl hml))
  have h1' := Lib.hid h1
  have h2' := Lib.hid h2
  have h3' := Lib.hid h3
  have d32 : decide (32 ≤ nr) = false := decide_eq_false (by rw [hm] at hf; omega)
  have d32' : decide (32 ≤ (nr : Int)) = false := decide_eq_false (by rw [hm] at hf; omega)
  have hnx := Lib.hid (show nxT n mu T ms a mb i b c = ((giT T m (g1, g2)), ms) from by rw [nxT, if_neg (by omega), if_pos (by omega), hm, hg, h1])
  clear h1 h2 h3 hgn hgv hgg hb0 hf hWn
  clear hm hg hWo hvs hus hset hv1 hlv hlu hnr
  go_enter Try.func31, Try.ntmps31
  go_wp2_with ((refine wpList_is (.box 80 _) rfl ?_; go_must (refine wpList_stp (by kernel_rfl) (stp_bx _ _ rfl hS ?_)); clear hS; intro bt w _ hS))
  refine region_quiet hS (by kernel_rfl) (by kernel_rfl) (fun hne => ?_)
  go_big_quiet_want; (refine quiet_is (.fieldAddr _ _ _) rfl ?_; refine quiet_val (fun w _ => run_fa _ _ _ rfl) ?_; go_big_quiet_on)
  go_big_quiet_want; ((refine quiet_is (.load _ _) rfl ?_; refine quiet_at sw_st (fun w hS => run_ld _ _ rfl hS) ?_; go_big_quiet_on))
  go_big_quiet_want; (refine quiet_is (.convert _ _ _) rfl ?_; refine quiet_val (fun w _ => run_cvn _ _ _ rfl) ?_; go_big_quiet_on)
  go_big_quiet_want; (refine quiet_is (.move _) rfl ?_; refine quiet_val (fun w _ => run_mv _ rfl) ?_; go_big_quiet_on)
  go_big_quiet_want; (refine quiet_is (.nilCheck _) rfl ?_; refine quiet_val (fun w _ => run_nc _ rfl) ?_; go_big_quiet_on)
  go_big_quiet_want; (refine quiet_is (.fieldAddr _ _ _) rfl ?_; refine quiet_val (fun w _ => run_fa _ _ _ rfl) ?_; go_big_quiet_on)
  go_big_quiet_want; ((refine quiet_is (.load _ _) rfl ?_; refine quiet_at sw_st (fun w hS => run_ld _ _ rfl hS) ?_; go_big_quiet_on))
  go_big_quiet_want; (refine quiet_is (.call { callee := .builtin .len, args := #[_], argTypes := #[_] }) rfl ?_; refine quiet_val (fun w _ => run_lenv _ _ rfl) ?_; go_big_quiet_on)
  go_big_quiet_want; (refine quiet_is (.binOp .rem _ _ _ _) rfl ?_; refine quiet_val (fun w _ => run_remv _ _ _ _ rfl) ?_; go_big_quiet_on)
  go_big_quiet_want; (refine quiet_is (.assign _) rfl ?_; refine quiet_val (fun w _ => run_as _ rfl) ?_; go_big_quiet_on)
  refine wpQuiet_nil ?_
  clear hS hne
  intro w hS
  go_wp2_with (first | (refine wpList_is (o := ⟨some 9, _, _, _, _, _⟩) (.alloc _) rfl ?_; go_must (refine wpList_stp (by kernel_rfl) (stp_al _ rfl hS ?_)); clear hS; intro bz w _ hS) | (refine wpList_is (.convert _ _ _) rfl ?_; refine wpList_stp (by kernel_rfl) (stp_val (run_cvn _ _ _ rfl) ?_)) | (refine wpList_is (.binOp .rem _ _ _ _) rfl ?_; refine wpList_stp (by kernel_rfl) (stp_val (run_remv _ _ _ _ rfl) ?_)) | (refine wpList_is (.call { callee := .builtin .len, args := #[_], argTypes := #[_] }) rfl ?_; refine wpList_stp (by kernel_rfl) (stp_val (run_lenv _ _ rfl) ?_)) | (refine wpList_is (.indexAddr _ _ _) rfl ?_; refine wpList_stp (by kernel_rfl) (stp_val (run_idxv _ _ _ rfl) ?_)) | (refine wpList_is (.build _ _) rfl ?_; go_must (refine wpList_stp (by kernel_rfl) (stp_val (run_bd _ _ rfl) ?_))) | (refine wpList_is (.load _ _) rfl ?_; go_must ((refine wpList_stp (by kernel_rfl) (stp_val (run_ld _ _ rfl hS) ?_)))) | (refine wpList_is (.store _ _ _) rfl ?_; go_must ((refine wpList_stp (by kernel_rfl) (stp_sta _ _ _ rfl hS ?_))); clear hS; intro w hS))
  go_wp2_with (first | (refine wpList_is (o := ⟨some 14, _, _, _, _, _⟩) (.alloc _) rfl ?_; go_must (refine wpList_stp (by kernel_rfl) (stp_al _ rfl hS ?_)); clear hS; intro br w _ hS) | (go_at_call 16; go_must (refine ar_get hS hT m g (giT T m (g1, g2)) (g1, g2) 0 h1'.out h2'.out h3'.out ?_); clear hS; intro E3 w hT2 hS; unfold Ret) | (refine wpList_is (.store _ _ _) rfl ?_; go_must ((refine wpList_stp (by kernel_rfl) (stp_sta _ _ _ rfl hS ?_))); clear hS; intro w hS))
  refine region_quiet hS (by kernel_rfl) (by kernel_rfl) (fun hne => ?_)
  go_big_quiet_want; (refine quiet_is (.move _) rfl ?_; refine quiet_val (fun w _ => run_mv _ rfl) ?_; go_big_quiet_on)
  go_big_quiet_want; (refine quiet_is (.move _) rfl ?_; refine quiet_val (fun w _ => run_mv _ rfl) ?_; go_big_quiet_on)
  go_big_quiet_want; (refine quiet_is (.nilCheck _) rfl ?_; refine quiet_val (fun w _ => run_nc _ rfl) ?_; go_big_quiet_on)
  go_big_quiet_want; (refine quiet_is (.fieldAddr _ _ _) rfl ?_; refine quiet_val (fun w _ => run_fa _ _ _ rfl) ?_; go_big_quiet_on)
  go_big_quiet_want; (refine quiet_is (.indexAddr _ _ _) rfl ?_; refine quiet_val (fun w _ => run_idxv _ _ _ rfl) ?_; go_big_quiet_on)
  go_big_quiet_want; ((refine quiet_is (.load _ _) rfl ?_; refine quiet_at sw_st (fun w hS => run_lda _ _ rfl hS) ?_; go_big_quiet_on))
  go_big_quiet_want; ((refine quiet_is (.load _ _) rfl ?_; refine quiet_at sw_st (fun w hS => run_lda _ _ rfl hS) ?_; go_big_quiet_on))
  go_big_quiet_want; (refine quiet_is (.binOp .eql _ _ _ _) rfl ?_; refine quiet_val (fun w _ => run_aeq _ _ _ _ rfl) ?_; go_big_quiet_on)
  go_big_quiet_want; (refine quiet_is (.assign _) rfl ?_; refine quiet_val (fun w _ => run_as _ rfl) ?_; go_big_quiet_on)
  refine wpQuiet_nil ?_
  clear hS hne
  intro w hS
  have hS : St w0 bs w (wdE bm p M bv mu T.2.2 :: rvE bv vs :: (e ++ (⟨bt, #[.int .u8 a, .int .u8 mb, .int .u8 i, .int .u8 b, .int .u8 c], 80, true⟩ :: ⟨br, #[.int .i64 g1, .int .u32 g2], 29, true⟩ :: ⟨bz, #[.int .i64 0, .int .u32 0], 29, true⟩ :: (E3 ++ (E1 ++ (E2 ++ (Em ++ H))))))) := hS.pick
  go_wp2_with (first | (go_at_call 66; refine wgive hS hml hlv'.out hv1'.out hv hle'.out (g1, g2) ?_; clear hS; intro v5 e5 w hv5 hS; unfold Ret) | (refine wpList_is (.load 29 _) rfl ?_; refine wpList_stp (by kernel_rfl) (stp_val (run_lda _ _ rfl hS) ?_)) | (refine wpList_is (.indexAddr _ _ _) rfl ?_; refine wpList_stp (by kernel_rfl) (stp_val (run_idxv _ _ _ rfl) ?_)))
  refine region_quiet hS (by kernel_rfl) (by kernel_rfl) (fun hne => ?_)
  go_big_quiet_want; (refine quiet_is (.move _) rfl ?_; refine quiet_val (fun w _ => run_mv _ rfl) ?_; go_big_quiet_on)
  go_big_quiet_want; (go_big_quiet_op; go_big_quiet_on)
  go_big_quiet_want; (refine quiet_is (.move _) rfl ?_; refine quiet_val (fun w _ => run_mv _ rfl) ?_; go_big_quiet_on)
  (go_big_quiet_want; (refine quiet_is (.load _ _) rfl ?_; refine quiet_at sw_st (fun w hS => run_lda _ _ rfl hS) ?_; go_big_quiet_on))
  (go_big_quiet_want; refine quiet_is (.move _) rfl ?_; refine quiet_val (fun w _ => run_mv _ rfl) ?_; go_big_quiet_on)
  (go_big_quiet_want; refine quiet_is (.move _) rfl ?_; refine quiet_val (fun w _ => run_mv _ rfl) ?_; go_big_quiet_on)
  (go_big_quiet_want; refine quiet_is (.nilCheck _) rfl ?_; refine quiet_val (fun w _ => run_nc _ rfl) ?_; go_big_quiet_on)
  (go_big_quiet_want; refine quiet_is (.fieldAddr _ _ _) rfl ?_; refine quiet_val (fun w _ => run_fa _ _ _ rfl) ?_; go_big_quiet_on)
  (go_big_quiet_want; refine quiet_is (.indexAddr _ _ _) rfl ?_; refine quiet_val (fun w _ => run_idxv _ _ _ rfl) ?_; go_big_quiet_on)
  (go_big_quiet_want; (refine quiet_is (.load _ _) rfl ?_; refine quiet_at sw_st (fun w hS => run_lda _ _ rfl hS) ?_; go_big_quiet_on))
  (go_big_quiet_want; refine quiet_is (.binOp .eql _ _ _ _) rfl ?_; refine quiet_val (fun w _ => run_aeq _ _ _ _ rfl) ?_; go_big_quiet_on)
  go_big_quiet_want; ((refine quiet_is (.pick _ _ _) rfl ?_; refine quiet_val (fun w _ => run_pk1 _ _ _ rfl) ?_; go_big_quiet_on))
  go_big_quiet_want; (refine quiet_is (.assign _) rfl ?_; refine quiet_val (fun w _ => run_as _ rfl) ?_; go_big_quiet_on)
  refine wpQuiet_nil ?_
  clear hS hne
  intro w hS
  go_wp2_with ((go_skip))
  exact hR _ (by rw [hnx.out]; exact (show WX W bm n mu (k + 1) H _ (giT T m (g1, g2)) ms from ⟨w0, bs, M, p, bv, _, us, E3, _, Em, hB, by show St w0 bs w (wdE bm p M bv mu T.2.2 :: _); simp only [List.append_assoc]; exact hS.pick, hT2, hset'.out v5 _ e5 hv5, hus'.out, hWn'.out⟩))
set_option maxHeartbeats 4000000 in
set_option maxRecDepth 100000 in
theorem wt_put0 {W : World} {bm n mu k : Nat} {H : List Ent} {T : Ar} {ms : List Me} (hk : k ≤ 400) (hX : WX W bm n mu k H w T ms) (hmu : 1 ≤ mu ∧ mu ≤ 4) (a mb i b c : Nat) (ha : a ≤ 255) (hmb : mb ≤ 255) (hi : i ≤ 255) (hb : b ≤ 255) (hc : c ≤ 255) (h0 : a % 8 = 7)
    (hR : ∀ w', WX W bm n mu (k + 1) H w' (nxT n mu T ms a mb i b c).1 (nxT n mu T ms a mb i b c).2 → Ret R (.bool true) w') : Calls Try.prog 31 #[.pointer (some ⟨bm, 0, none⟩), .agg #[.int .u8 a, .int .u8 mb, .int .u8 i, .int .u8 b, .int .u8 c]] w R := by
  obtain ⟨w0, bs, M, p, bv, vs, us, E, Er, Em, hB, hS, hT, hvs, hus, hWo⟩ := hX
  have hlv : vs.length = mu := by rw [hvs.len]; exact hWo.mu
  have hlu : us.length = ms.length := by rw [hus.len]; simp
  obtain ⟨m, hm⟩ : ∃ q, mb % mu = q := ⟨_, rfl⟩
  have hml : m < mu := by rw [← hm]; exact Nat.mod_lt _ (by omega)
  have rm : RemIs (mb : Int) (mu : Int) (m : Int) := ⟨by rw [Int.tmod_eq_emod_of_nonneg (by omega)]; omega, by omega⟩
  have smb : Small (mb : Int) := ⟨by omega, by omega⟩
  have si : Small (i : Int) := ⟨by omega, by omega⟩
  have sb : Small (b : Int) := ⟨by omega, by omega⟩
  have sc : Small (c : Int) := ⟨by omega, by omega⟩
  have ix := rv_idx (bv := bv) hml
  have lx := rv_len (bv := bv) (mu := mu)
  obtain ⟨v, E1, e, E2, hv1, rfl, hv, hset⟩ := hvs.at m _ (hWo.rtq hml)
  simp only [List.append_assoc] at hS
  obtain ⟨nr, hnr⟩ : ∃ q, (rtL T m).length = q := ⟨_, rfl⟩
  have hn32 : nr ≤ 32 := hnr ▸ hWo.r32 _ (hWo.rtl hml)
  have hln : LenV Try.prog 44 v nr := hv.len hnr
  have hone := hv.one
  have cv := cellV hv1
  obtain ⟨g, hg⟩ : ∃ q, b % 8 = q := ⟨_, rfl⟩
  have hg8 : g < 8 := by omega
  have rg : RemIs (b : Int) 8 (g : Int) := ⟨by rw [Int.tmod_eq_emod_of_nonneg (by omega)]; omega, by decide⟩
  obtain ⟨a8, ha8⟩ : ∃ q, a % 8 = q := ⟨_, rfl⟩
  have ra : RemIs (a : Int) 8 (a8 : Int) := ⟨by rw [Int.tmod_eq_emod_of_nonneg (by omega)]; omega, by decide⟩
  have qz := refE (refB_self 0 0)
  have hWo' := Lib.hid hWo
  have hvs' := Lib.hid hvs
  have hus' := Lib.hid hus
  have hset' := Lib.hid hset
  have hv1' := Lib.hid hv1
  have hlv' := Lib.hid hlv
  have hlu' := Lib.hid hlu
  have hnr' := Lib.hid hnr
  obtain rfl : a8 = 7 := by omega
  obtain ⟨⟨g1, g2⟩, hgv⟩ : ∃ q, T.2.2.getD g (0, 0) = q := ⟨_, rfl⟩
  have hgl : g < T.2.2.length := by rw [hWo.g8]; exact hg8
  have hgg : T.2.2[g]? = some (g1, g2) := by rw [List.getElem?_eq_getElem hgl, ← hgv, List.getD_eq_getElem?_getD, List.getElem?_eq_getElem hgl]; rfl
  have cg : CellsAt (wrC p M (.slice (some ⟨bv, 0, none⟩) mu mu) T.2.2) (0 + 3 + g * 2) 2 #[.int .i64 g1, .int .u32 g2] := blkCells slf_len (i := g) (a := (g1, g2)) hgg (by simp)
  have ixg := idxArr (P := Try.prog) (t := 30) (m := 8) (z := 2) (e := 29) (b := bm) (off := 0 + 3) (by kernel_rfl) (by kernel_rfl) hg8
  have sg : SetsAt (wrC p M (.slice (some ⟨bv, 0, none⟩) mu mu) T.2.2) (0 + 3 + g * 2) #[.int .i64 0, .int .u32 0] (wrC p M (.slice (some ⟨bv, 0, none⟩) mu mu) (T.2.2.set g (0, 0))) := blkSets slf_len (i := g) (a' := (0, 0)) hgl (by simp)
  have qr := refE (refB_self g1 g2)
  obtain ⟨h1, h2, h3, h4, hWn, _⟩ := hWo.putG hml hg8 (i := -1) (r := (0, 0)) (.inl ⟨rfl, rfl⟩)
  rw [hgv] at h2
  have h4' := Lib.hid h4
  have hWn' := Lib.hid hWn
  have h1' := Lib.hid h1
  have h2' := Lib.hid h2
  have h3' := Lib.hid h3
  have hnx := Lib.hid (show nxT n mu T ms a mb i b c = ((T.1, T.2.1, T.2.2.set g (0, 0)), ms) from by rw [nxT, if_neg (by omega), if_neg (by omega), if_pos (by omega), hm, hg, h1])
  clear h1 h2 h3 h4 hgv hgg hgl hWn
  clear hm hg hWo hvs hus hset hv1 hlv hlu hnr
  go_enter Try.func31, Try.ntmps31
  go_wp2_with ((refine wpList_is (.box 80 _) rfl ?_; go_must (refine wpList_stp (by kernel_rfl) (stp_bx _ _ rfl hS ?_)); clear hS; intro bt w _ hS))
  refine region_quiet hS (by kernel_rfl) (by kernel_rfl) (fun hne => ?_)
  go_big_quiet_want; (refine quiet_is (.fieldAddr _ _ _) rfl ?_; refine quiet_val (fun w _ => run_fa _ _ _ rfl) ?_; go_big_quiet_on)
  go_big_quiet_want; ((refine quiet_is (.load _ _) rfl ?_; refine quiet_at sw_st (fun w hS => run_ld _ _ rfl hS) ?_; go_big_quiet_on))
  go_big_quiet_want; (refine quiet_is (.convert _ _ _) rfl ?_; refine quiet_val (fun w _ => run_cvn _ _ _ rfl) ?_; go_big_quiet_on)
  go_big_quiet_want; (refine quiet_is (.move _) rfl ?_; refine quiet_val (fun w _ => run_mv _ rfl) ?_; go_big_quiet_on)
  go_big_quiet_want; (refine quiet_is (.nilCheck _) rfl ?_; refine quiet_val (fun w _ => run_nc _ rfl) ?_; go_big_quiet_on)
  go_big_quiet_want; (refine quiet_is (.fieldAddr _ _ _) rfl ?_; refine quiet_val (fun w _ => run_fa _ _ _ rfl) ?_; go_big_quiet_on)
  go_big_quiet_want; ((refine quiet_is (.load _ _) rfl ?_; refine quiet_at sw_st (fun w hS => run_ld _ _ rfl hS) ?_; go_big_quiet_on))
  go_big_quiet_want; (refine quiet_is (.call { callee := .builtin .len, args := #[_], argTypes := #[_] }) rfl ?_; refine quiet_val (fun w _ => run_lenv _ _ rfl) ?_; go_big_quiet_on)
  go_big_quiet_want; (refine quiet_is (.binOp .rem _ _ _ _) rfl ?_; refine quiet_val (fun w _ => run_remv _ _ _ _ rfl) ?_; go_big_quiet_on)
  go_big_quiet_want; (refine quiet_is (.assign _) rfl ?_; refine quiet_val (fun w _ => run_as _ rfl) ?_; go_big_quiet_on)
  refine wpQuiet_nil ?_
  clear hS hne
  intro w hS
  go_wp2_with (first | (refine wpList_is (o := ⟨some 9, _, _, _, _, _⟩) (.alloc _) rfl ?_; go_must (refine wpList_stp (by kernel_rfl) (stp_al _ rfl hS ?_)); clear hS; intro bz w _ hS) | (refine wpList_is (.convert _ _ _) rfl ?_; refine wpList_stp (by kernel_rfl) (stp_val (run_cvn _ _ _ rfl) ?_)) | (refine wpList_is (.binOp .rem _ _ _ _) rfl ?_; refine wpList_stp (by kernel_rfl) (stp_val (run_remv _ _ _ _ rfl) ?_)) | (refine wpList_is (.call { callee := .builtin .len, args := #[_], argTypes := #[_] }) rfl ?_; refine wpList_stp (by kernel_rfl) (stp_val (run_lenv _ _ rfl) ?_)) | (refine wpList_is (.indexAddr _ _ _) rfl ?_; refine wpList_stp (by kernel_rfl) (stp_val (run_idxv _ _ _ rfl) ?_)) | (refine wpList_is (.build _ _) rfl ?_; go_must (refine wpList_stp (by kernel_rfl) (stp_val (run_bd _ _ rfl) ?_))) | (refine wpList_is (.load _ _) rfl ?_; go_must ((refine wpList_stp (by kernel_rfl) (stp_val (run_ld _ _ rfl hS) ?_)))) | (refine wpList_is (.store _ _ _) rfl ?_; go_must ((refine wpList_stp (by kernel_rfl) (stp_sta _ _ _ rfl hS ?_))); clear hS; intro w hS))
  go_wp2_with (first | (refine wpList_is (o := ⟨some 16, _, _, _, _, _⟩) (.alloc _) rfl ?_; go_must (refine wpList_stp (by kernel_rfl) (stp_al _ rfl hS ?_)); clear hS; intro bx1 w _ hS) | (refine wpList_is (o := ⟨some 17, _, _, _, _, _⟩) (.alloc _) rfl ?_; go_must (refine wpList_stp (by kernel_rfl) (stp_al _ rfl hS ?_)); clear hS; intro bx2 w _ hS) | (go_at_call 12; go_must (refine ar_put hS hT m (-1) g (T.1, T.2.1, T.2.2.set g (0, 0)) (g1, g2) (0, 0) 0 h1'.out h2'.out h3'.out h4'.out ?_); clear hS; intro E3 w hT2 hS; unfold Ret) | (refine wpList_is (.store _ _ _) rfl ?_; go_must ((refine wpList_stp (by kernel_rfl) (stp_sta _ _ _ rfl hS ?_))); clear hS; intro w hS))
  refine region_quiet hS (by kernel_rfl) (by kernel_rfl) (fun hne => ?_)
  go_big_quiet_want; (refine quiet_is (.move _) rfl ?_; refine quiet_val (fun w _ => run_mv _ rfl) ?_; go_big_quiet_on)
  go_big_quiet_want; (go_big_quiet_op; go_big_quiet_on)
  go_big_quiet_want; (refine quiet_is (.move _) rfl ?_; refine quiet_val (fun w _ => run_mv _ rfl) ?_; go_big_quiet_on)
  (go_big_quiet_want; (refine quiet_is (.load _ _) rfl ?_; refine quiet_at sw_st (fun w hS => run_lda _ _ rfl hS) ?_; go_big_quiet_on))
  (go_big_quiet_want; refine quiet_is (.move _) rfl ?_; refine quiet_val (fun w _ => run_mv _ rfl) ?_; go_big_quiet_on)
  (go_big_quiet_want; refine quiet_is (.move _) rfl ?_; refine quiet_val (fun w _ => run_mv _ rfl) ?_; go_big_quiet_on)
  (go_big_quiet_want; refine quiet_is (.nilCheck _) rfl ?_; refine quiet_val (fun w _ => run_nc _ rfl) ?_; go_big_quiet_on)
  (go_big_quiet_want; refine quiet_is (.fieldAddr _ _ _) rfl ?_; refine quiet_val (fun w _ => run_fa _ _ _ rfl) ?_; go_big_quiet_on)
  (go_big_quiet_want; refine quiet_is (.indexAddr _ _ _) rfl ?_; refine quiet_val (fun w _ => run_idxv _ _ _ rfl) ?_; go_big_quiet_on)
  (go_big_quiet_want; (refine quiet_is (.load _ _) rfl ?_; refine quiet_at sw_st (fun w hS => run_lda _ _ rfl hS) ?_; go_big_quiet_on))
  (go_big_quiet_want; refine quiet_is (.binOp .eql _ _ _ _) rfl ?_; refine quiet_val (fun w _ => run_aeq _ _ _ _ rfl) ?_; go_big_quiet_on)
  go_big_quiet_want; ((refine quiet_is (.pick _ _ _) rfl ?_; refine quiet_val (fun w _ => run_pk1 _ _ _ rfl) ?_; go_big_quiet_on))
  go_big_quiet_want; (refine quiet_is (.move _) rfl ?_; refine quiet_val (fun w _ => run_mv _ rfl) ?_; go_big_quiet_on)
  (go_big_quiet_want; (refine quiet_is (.load _ _) rfl ?_; refine quiet_at sw_st (fun w hS => run_lda _ _ rfl hS) ?_; go_big_quiet_on))
  (go_big_quiet_want; (refine quiet_is (.load _ _) rfl ?_; refine quiet_at sw_st (fun w hS => run_lda _ _ rfl hS) ?_; go_big_quiet_on))
  (go_big_quiet_want; refine quiet_is (.binOp .eql _ _ _ _) rfl ?_; refine quiet_val (fun w _ => run_aeq _ _ _ _ rfl) ?_; go_big_quiet_on)
  go_big_quiet_want; ((refine quiet_is (.pick _ _ _) rfl ?_; refine quiet_val (fun w _ => run_pk1 _ _ _ rfl) ?_; go_big_quiet_on))
  go_big_quiet_want; (refine quiet_is (.assign _) rfl ?_; refine quiet_val (fun w _ => run_as _ rfl) ?_; go_big_quiet_on)
  refine wpQuiet_nil ?_
  clear hS hne
  intro w hS
  go_wp2_with ((go_skip))
  have hS : St w0 bs _ (wdE bm p M bv mu T.2.2 :: (⟨bt, #[.int .u8 a, .int .u8 mb, .int .u8 i, .int .u8 b, .int .u8 c], 80, true⟩ :: ⟨bx1, #[.int .i64 g1, .int .u32 g2], 29, true⟩ :: ⟨bx2, #[.int .i64 0, .int .u32 0], 29, true⟩ :: ⟨bz, #[.int .i64 0, .int .u32 0], 29, true⟩ :: rvE bv vs :: (E3 ++ (E1 ++ (e ++ (E2 ++ (Em ++ H))))))) := hS.pick
  refine region_itemsE [⟨(undef, [wdE bm p M bv mu T.2.2]), [(6, fun _ x => x.2 = [wdE bm p M bv mu (T.2.2.set g (0, 0))])]⟩]
    (⟨bt, #[.int .u8 a, .int .u8 mb, .int .u8 i, .int .u8 b, .int .u8 c], 80, true⟩ :: ⟨bx1, #[.int .i64 g1, .int .u32 g2], 29, true⟩ :: ⟨bx2, #[.int .i64 0, .int .u32 0], 29, true⟩ :: ⟨bz, #[.int .i64 0, .int .u32 0], 29, true⟩ :: rvE bv vs :: (E3 ++ (E1 ++ (e ++ (E2 ++ (Em ++ H)))))) (wdE bm p M bv mu T.2.2 :: (⟨bt, #[.int .u8 a, .int .u8 mb, .int .u8 i, .int .u8 b, .int .u8 c], 80, true⟩ :: ⟨bx1, #[.int .i64 g1, .int .u32 g2], 29, true⟩ :: ⟨bx2, #[.int .i64 0, .int .u32 0], 29, true⟩ :: ⟨bz, #[.int .i64 0, .int .u32 0], 29, true⟩ :: rvE bv vs :: (E3 ++ (E1 ++ (e ++ (E2 ++ (Em ++ H))))))) (by simp) hS (by kernel_rfl) (by kernel_rfl) ?_
  refine fx_val (fun _ => rfl) rfl (fun χ w hw => run_mv _ rfl) ?_
  refine fx_val (fun _ => rfl) rfl (fun χ w hw => run_mv _ rfl) ?_
  (refine fx_val (fun _ => rfl) rfl (fun χ w hw => run_lda _ _ rfl hw) ?_)
  refine fx_val (fun _ => rfl) rfl (fun χ w hw => run_nc _ rfl) ?_
  refine fx_val (fun _ => rfl) rfl (fun χ w hw => run_fa _ _ _ rfl) ?_
  refine fx_val (fun _ => rfl) rfl (fun χ w hw => run_idxv _ _ _ rfl) ?_
  refine fx_turn0 0 0 rfl rfl (by kernel_rfl) (by kernel_rfl) (by kernel_rfl) (fun _ => rfl) (fun _ => undef) ?_ ?_
  · intro χ X w _ hS
    exact stepX_sta _ _ _ rfl (show St w0 bs w (wdE bm p M bv mu T.2.2 :: (X ++ _)) from hS) (fun w' hS' => ⟨(undef, [wdE bm p M bv mu (T.2.2.set g (0, 0))]), rfl, rfl, hS'⟩)
  refine fx_end rfl ?_
  intro χ w hok hS
  obtain ⟨hD, _⟩ := hok _ (.head _)
  have hD : (χ 6).2 = [wdE bm p M bv mu (T.2.2.set g (0, 0))] := hD
  have hS : St w0 bs w (((χ 6).2 ++ []) ++ (⟨bt, #[.int .u8 a, .int .u8 mb, .int .u8 i, .int .u8 b, .int .u8 c], 80, true⟩ :: ⟨bx1, #[.int .i64 g1, .int .u32 g2], 29, true⟩ :: ⟨bx2, #[.int .i64 0, .int .u32 0], 29, true⟩ :: ⟨bz, #[.int .i64 0, .int .u32 0], 29, true⟩ :: rvE bv vs :: (E3 ++ (E1 ++ (e ++ (E2 ++ (Em ++ H))))))) := hS
  rw [hD] at hS
  simp only [List.cons_append, List.nil_append, List.append_assoc] at hS
  clear hok hD
  go_wp2_with ((go_skip))
  exact hR _ (by rw [hnx.out]; exact (show WX W bm n mu (k + 1) H _ (T.1, T.2.1, T.2.2.set g (0, 0)) ms from ⟨w0, bs, M, p, bv, vs, us, E3, _, Em, hB, by simp only [List.append_assoc]; exact hS.pick, hT2, hvs'.out, hus'.out, hWn'.out⟩))
set_option maxHeartbeats 4000000 in
set_option maxRecDepth 100000 in
theorem wt_none {W : World} {bm n mu k : Nat} {H : List Ent} {T : Ar} {ms : List Me} (hk : k ≤ 400) (hX : WX W bm n mu k H w T ms) (hmu : 1 ≤ mu ∧ mu ≤ 4) (a mb i b c : Nat) (ha : a ≤ 255) (hmb : mb ≤ 255) (hi : i ≤ 255) (hb : b ≤ 255) (hc : c ≤ 255) (h0 : a % 8 ≠ 0) (h5 : a % 8 ≠ 5) (h7 : a % 8 ≠ 7) (hf : (rtL T (mb % mu : Nat)).length = 0)
    (hR : ∀ w', WX W bm n mu (k + 1) H w' (nxT n mu T ms a mb i b c).1 (nxT n mu T ms a mb i b c).2 → Ret R (.bool true) w') : Calls Try.prog 31 #[.pointer (some ⟨bm, 0, none⟩), .agg #[.int .u8 a, .int .u8 mb, .int .u8 i, .int .u8 b, .int .u8 c]] w R := by
  obtain ⟨w0, bs, M, p, bv, vs, us, E, Er, Em, hB, hS, hT, hvs, hus, hWo⟩ := hX
  have hlv : vs.length = mu := by rw [hvs.len]; exact hWo.mu
  have hlu : us.length = ms.length := by rw [hus.len]; simp
  obtain ⟨m, hm⟩ : ∃ q, mb % mu = q := ⟨_, rfl⟩
  have hml : m < mu := by rw [← hm]; exact Nat.mod_lt _ (by omega)
  have rm : RemIs (mb : Int) (mu : Int) (m : Int) := ⟨by rw [Int.tmod_eq_emod_of_nonneg (by omega)]; omega, by omega⟩
  have smb : Small (mb : Int) := ⟨by omega, by omega⟩
  have si : Small (i : Int) := ⟨by omega, by omega⟩
  have sb : Small (b : Int) := ⟨by omega, by omega⟩
  have sc : Small (c : Int) := ⟨by omega, by omega⟩
  have ix := rv_idx (bv := bv) hml
  have lx := rv_len (bv := bv) (mu := mu)
  obtain ⟨v, E1, e, E2, hv1, rfl, hv, hset⟩ := hvs.at m _ (hWo.rtq hml)
  simp only [List.append_assoc] at hS
  obtain ⟨nr, hnr⟩ : ∃ q, (rtL T m).length = q := ⟨_, rfl⟩
  have hn32 : nr ≤ 32 := hnr ▸ hWo.r32 _ (hWo.rtl hml)
  have hln : LenV Try.prog 44 v nr := hv.len hnr
  have hone := hv.one
  have cv := cellV hv1
  obtain ⟨g, hg⟩ : ∃ q, b % 8 = q := ⟨_, rfl⟩
  have hg8 : g < 8 := by omega
  have rg : RemIs (b : Int) 8 (g : Int) := ⟨by rw [Int.tmod_eq_emod_of_nonneg (by omega)]; omega, by decide⟩
  obtain ⟨a8, ha8⟩ : ∃ q, a % 8 = q := ⟨_, rfl⟩
  have ra : RemIs (a : Int) 8 (a8 : Int) := ⟨by rw [Int.tmod_eq_emod_of_nonneg (by omega)]; omega, by decide⟩
  have qz := refE (refB_self 0 0)
  have hWo' := Lib.hid hWo
  have hvs' := Lib.hid hvs
  have hus' := Lib.hid hus
  have hset' := Lib.hid hset
  have hv1' := Lib.hid hv1
  have hlv' := Lib.hid hlv
  have hlu' := Lib.hid hlu
  have hnr' := Lib.hid hnr
  have hnr0 : nr = 0 := by rw [hm] at hf; omega
  subst hnr0
  obtain ⟨h1, h2⟩ := hWo.rtNo hml (i := (i : Int)) (by rw [hnr]; omega)
  have h1' := Lib.hid h1
  have h2' := Lib.hid h2
  have f0 : ((a8 : Int) == 0) = false := beq_eq_false_iff_ne.2 (by omega)
  have f5 : ((a8 : Int) == 5) = false := beq_eq_false_iff_ne.2 (by omega)
  have f7 : ((a8 : Int) == 7) = false := beq_eq_false_iff_ne.2 (by omega)
  have e0 : decide ((a8 : Int) = 0) = false := decide_eq_false (by omega)
  have e5 : decide ((a8 : Int) = 5) = false := decide_eq_false (by omega)
  have e7 : decide ((a8 : Int) = 7) = false := decide_eq_false (by omega)
  have e0' : decide (a8 = 0) = false := decide_eq_false (by omega)
  have e5' : decide (a8 = 5) = false := decide_eq_false (by omega)
  have e7' : decide (a8 = 7) = false := decide_eq_false (by omega)
  have hnx := Lib.hid (show nxT n mu T ms a mb i b c = (T, ms) from by rw [nxT, if_neg h0, if_neg h5, if_neg h7, if_pos hf])
  clear h1 h2 hf h0 h5 h7 ha8
  clear hm hg hWo hvs hus hset hv1 hlv hlu hnr
  go_enter Try.func31, Try.ntmps31
  go_wp2_with ((refine wpList_is (.box 80 _) rfl ?_; go_must (refine wpList_stp (by kernel_rfl) (stp_bx _ _ rfl hS ?_)); clear hS; intro bt w _ hS))
  refine region_quiet hS (by kernel_rfl) (by kernel_rfl) (fun hne => ?_)
  go_big_quiet_want; (refine quiet_is (.fieldAddr _ _ _) rfl ?_; refine quiet_val (fun w _ => run_fa _ _ _ rfl) ?_; go_big_quiet_on)
  go_big_quiet_want; ((refine quiet_is (.load _ _) rfl ?_; refine quiet_at sw_st (fun w hS => run_ld _ _ rfl hS) ?_; go_big_quiet_on))
  go_big_quiet_want; (refine quiet_is (.convert _ _ _) rfl ?_; refine quiet_val (fun w _ => run_cvn _ _ _ rfl) ?_; go_big_quiet_on)
  go_big_quiet_want; (refine quiet_is (.move _) rfl ?_; refine quiet_val (fun w _ => run_mv _ rfl) ?_; go_big_quiet_on)
  go_big_quiet_want; (refine quiet_is (.nilCheck _) rfl ?_; refine quiet_val (fun w _ => run_nc _ rfl) ?_; go_big_quiet_on)
  go_big_quiet_want; (refine quiet_is (.fieldAddr _ _ _) rfl ?_; refine quiet_val (fun w _ => run_fa _ _ _ rfl) ?_; go_big_quiet_on)
  go_big_quiet_want; ((refine quiet_is (.load _ _) rfl ?_; refine quiet_at sw_st (fun w hS => run_ld _ _ rfl hS) ?_; go_big_quiet_on))
  go_big_quiet_want; (refine quiet_is (.call { callee := .builtin .len, args := #[_], argTypes := #[_] }) rfl ?_; refine quiet_val (fun w _ => run_lenv _ _ rfl) ?_; go_big_quiet_on)
  go_big_quiet_want; (refine quiet_is (.binOp .rem _ _ _ _) rfl ?_; refine quiet_val (fun w _ => run_remv _ _ _ _ rfl) ?_; go_big_quiet_on)
  go_big_quiet_want; (refine quiet_is (.assign _) rfl ?_; refine quiet_val (fun w _ => run_as _ rfl) ?_; go_big_quiet_on)
  refine wpQuiet_nil ?_
  clear hS hne
  intro w hS
  go_wp2_with (first | (refine wpList_is (o := ⟨some 9, _, _, _, _, _⟩) (.alloc _) rfl ?_; go_must (refine wpList_stp (by kernel_rfl) (stp_al _ rfl hS ?_)); clear hS; intro bz w _ hS) | (refine wpList_is (.convert _ _ _) rfl ?_; refine wpList_stp (by kernel_rfl) (stp_val (run_cvn _ _ _ rfl) ?_)) | (refine wpList_is (.binOp .rem _ _ _ _) rfl ?_; refine wpList_stp (by kernel_rfl) (stp_val (run_remv _ _ _ _ rfl) ?_)) | (refine wpList_is (.call { callee := .builtin .len, args := #[_], argTypes := #[_] }) rfl ?_; refine wpList_stp (by kernel_rfl) (stp_val (run_lenv _ _ rfl) ?_)) | (refine wpList_is (.indexAddr _ _ _) rfl ?_; refine wpList_stp (by kernel_rfl) (stp_val (run_idxv _ _ _ rfl) ?_)) | (refine wpList_is (.build _ _) rfl ?_; go_must (refine wpList_stp (by kernel_rfl) (stp_val (run_bd _ _ rfl) ?_))) | (refine wpList_is (.load _ _) rfl ?_; go_must ((refine wpList_stp (by kernel_rfl) (stp_val (run_ld _ _ rfl hS) ?_)))) | (refine wpList_is (.store _ _ _) rfl ?_; go_must ((refine wpList_stp (by kernel_rfl) (stp_sta _ _ _ rfl hS ?_))); clear hS; intro w hS))
  have hS : St w0 bs _ (E ++ (⟨bt, #[.int .u8 a, .int .u8 mb, .int .u8 i, .int .u8 b, .int .u8 c], 80, true⟩ :: ⟨bz, #[.int .i64 0, .int .u32 0], 29, true⟩ :: wdE bm p M bv mu T.2.2 :: rvE bv vs :: (E1 ++ (e ++ (E2 ++ (Em ++ H)))))) := hS.pick
  refine region_itemsE [⟨(undef, E), [(8, fun _ x => AA p T x.2)]⟩, ⟨(undef, []), [(12, fun _ x => ∃ b, x = (.pointer (some ⟨b, 0, none⟩), [⟨b, #[.int .i64 0, .int .u32 0], 29, true⟩])), (13, fun y x => ∃ b, y.1 = .pointer (some ⟨b, 0, none⟩) ∧ x.2 = [⟨b, #[.int .i64 0, .int .u32 0], 29, true⟩])]⟩]
    (⟨bt, #[.int .u8 a, .int .u8 mb, .int .u8 i, .int .u8 b, .int .u8 c], 80, true⟩ :: ⟨bz, #[.int .i64 0, .int .u32 0], 29, true⟩ :: wdE bm p M bv mu T.2.2 :: rvE bv vs :: (E1 ++ (e ++ (E2 ++ (Em ++ H))))) (E ++ (⟨bt, #[.int .u8 a, .int .u8 mb, .int .u8 i, .int .u8 b, .int .u8 c], 80, true⟩ :: ⟨bz, #[.int .i64 0, .int .u32 0], 29, true⟩ :: wdE bm p M bv mu T.2.2 :: rvE bv vs :: (E1 ++ (e ++ (E2 ++ (Em ++ H)))))) (by simp) hS (by kernel_rfl) (by kernel_rfl) ?_
  refine fx_val (fun _ => rfl) rfl (fun χ w hw => run_mv _ rfl) ?_
  refine fx_val (fun _ => rfl) rfl (fun χ w hw => run_nc _ rfl) ?_
  refine fx_val (fun _ => rfl) rfl (fun χ w hw => run_fa _ _ _ rfl) ?_
  (refine fx_val (fun _ => rfl) rfl (fun χ w hw => run_ld _ _ rfl hw) ?_)
  refine fx_val (fun _ => rfl) rfl (fun χ w hw => run_mv _ rfl) ?_
  refine fx_val (fun _ => rfl) rfl (fun χ w hw => run_fa _ _ _ rfl) ?_
  (refine fx_val (fun _ => rfl) rfl (fun χ w hw => run_ld _ _ rfl hw) ?_)
  refine fx_val (fun _ => rfl) rfl (fun χ w hw => run_cvn _ _ _ rfl) ?_
  refine fx_turn 0 0 rfl rfl (by kernel_rfl) (by kernel_rfl) (by kernel_rfl) 27 [_, _, _] _ rfl (fun _ => rfl) (enters _ (by kernel_rfl)) (fun _ => .tuple #[.agg #[.int .i64 0, .int .u32 0], .int .i64 3]) ?_ ?_
  · intro χ X w _ hS
    exact ar_root (show St w0 bs w (E ++ (X ++ _)) from hS) hT _ _ (0, 0) 3 h2'.out h1'.out (fun w' hT' hS' => ⟨(undef, E), rfl, hT', show St w0 bs w' (E ++ (X ++ _)) from hS'.pick⟩)
  refine fx_val (fun _ => rfl) rfl (fun χ w hw => run_mv _ rfl) ?_
  refine fx_val (fun _ => rfl) rfl (fun χ w hw => run_ext _ _ rfl) ?_
  refine fx_val (fun _ => rfl) rfl (fun χ w hw => run_ext _ _ rfl) ?_
  refine fx_turn0 1 0 rfl rfl (by kernel_rfl) (by kernel_rfl) (by kernel_rfl) (fun _ => rfl) (fun x => x.1) ?_ ?_
  · intro χ X w _ hS
    exact stepX_al _ rfl (show St w0 bs w (X ++ _) from hS) (fun b w' _ hS' => ⟨(_, [_]), rfl, ⟨b, rfl⟩, hS'⟩)
  refine fx_turn0 1 1 rfl rfl (by kernel_rfl) (by kernel_rfl) (by kernel_rfl) (fun _ => rfl) (fun _ => undef) ?_ ?_
  · rintro χ X w ⟨⟨b, hb⟩, _⟩ hS
    have hS : St w0 bs w ((χ 12).2 ++ (X ++ _)) := hS
    rw [hb] at hS
    have hS : St w0 bs w (⟨b, #[.int .i64 0, .int .u32 0], 29, true⟩ :: (X ++ _)) := hS
    have hb1 : (χ 12).1 = .pointer (some ⟨b, 0, none⟩) := by rw [hb]
    exact stepX_stb _ _ _ rfl hS hb1 (fun w' hS' => ⟨(undef, [⟨b, #[.int .i64 0, .int .u32 0], 29, true⟩]), rfl, ⟨b, hb1, rfl⟩, hS'⟩)
  refine fx_val (fun _ => rfl) rfl (fun χ w hw => run_as _ rfl) ?_
  refine fx_end rfl ?_
  intro χ w hok hS
  obtain ⟨hT2, _⟩ := hok _ (.head _)
  have hT2 : AA p T (χ 8).2 := hT2
  obtain ⟨⟨br, hb0⟩, ⟨_, hbx, hc0⟩, _⟩ := hok _ (.tail _ (.head _))
  rw [hb0] at hbx
  obtain ⟨⟩ := hbx
  have hS : St w0 bs w (((χ 8).2 ++ ((χ 13).2 ++ [])) ++ (⟨bt, #[.int .u8 a, .int .u8 mb, .int .u8 i, .int .u8 b, .int .u8 c], 80, true⟩ :: ⟨bz, #[.int .i64 0, .int .u32 0], 29, true⟩ :: wdE bm p M bv mu T.2.2 :: rvE bv vs :: (E1 ++ (e ++ (E2 ++ (Em ++ H)))))) := hS
  rw [hc0, List.append_nil, List.append_assoc] at hS
  generalize (χ 8).2 = E3 at hS hT2
  simp only [hb0]
  simp only [List.cons_append, List.nil_append, List.append_assoc] at hS
  clear hok hb0 hc0
  go_wp2_with ((go_skip))
  exact hR _ (by rw [hnx.out]; exact (show WX W bm n mu (k + 1) H _ T ms from ⟨w0, bs, M, p, bv, vs, us, E3, _, Em, hB, by simp only [List.append_assoc]; exact hS.pick, hT2, hvs'.out, hus'.out, hWo'.out.more⟩))
end Go.Proofs.Ytjlihigodggfcaa
