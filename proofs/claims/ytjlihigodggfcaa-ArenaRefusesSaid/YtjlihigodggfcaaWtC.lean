/-
  Arenas with what the statements know of them: the turns that load a field.
-/
import Derived.Test.YtjlihigodggfcaaWnx
set_option linter.unusedSimpArgs false
set_option linter.unusedVariables false
namespace Go.Proofs.Ytjlihigodggfcaa
open Go Go.RowKit Go.Mm
variable {R : Ending → World → Prop} {w : World} {H1 : List Ent}
set_option maxHeartbeats 4000000 in
set_option maxRecDepth 100000 in
theorem wt_ldR {W : World} {bm n mu k : Nat} {H : List Ent} {T : Ar} {ms : List Me} (hk : k ≤ 400) (hX : WX W bm n mu k H w T ms) (hmu : 1 ≤ mu ∧ mu ≤ 4) (a mb i b c : Nat) (ha : a ≤ 255) (hmb : mb ≤ 255) (hi : i ≤ 255) (hb : b ≤ 255) (hc : c ≤ 255) (h0 : a % 8 = 1) (hpos : 0 < (rtL T (mb % mu : Nat)).length) (hcase : ∀ (j b0 : Nat) (l : List Rf), ms[j]? = some ((rtL T (mb % mu : Nat)).getD (i % (rtL T (mb % mu : Nat)).length) (0, 0), b0, l) → l.length ≤ b % 4)
    (hR : ∀ w', WX W bm n mu (k + 1) H w' (nxT n mu T ms a mb i b c).1 (nxT n mu T ms a mb i b c).2 → Ret R (.bool true) w') : Calls Try.prog 31 #[.pointer (some ⟨bm, 0, none⟩), .agg #[.int .u8 a, .int .u8 mb, .int .u8 i, .int .u8 b, .int .u8 c]] w R := by
  obtain ⟨w0, bs, M, p, bv, vs, us, E, Er, Em, hB, hS, hT, hvs, hus, hWo⟩ := hX
  have hlv : vs.length = mu := by rw [hvs.len]; exact hWo.mu
  have hlu : us.length = ms.length := by rw [hus.len]; simp
  obtain ⟨m, hm⟩ : ∃ q, mb % mu = q := ⟨_, rfl⟩
  have hml : m < mu := by rw [← hm]; exact Nat.mod_lt _ (by omega)
  have rm : RemIs (mb : Int) (mu : Int) (m : Int) := ⟨by rw [Int.tmod_eq_emod_of_nonneg (by omega)]; omega, by omega⟩
  have smb : Small (mb : Int) := ⟨by omega, by omega⟩
  have si : Small (i : Int) := ⟨by omega, by omega⟩
  have sb : Small (b : Int) := ⟨by omega, by omega⟩
  have sc : Small (c : Int) := ⟨by omega, by omega⟩
  have ix := rv_idx (bv := bv) hml
  have lx := rv_len (bv := bv) (mu := mu)
  obtain ⟨v, E1, e, E2, hv1, rfl, hv, hset⟩ := hvs.at m _ (hWo.rtq hml)
  simp only [List.append_assoc] at hS
  obtain ⟨nr, hnr⟩ : ∃ q, (rtL T m).length = q := ⟨_, rfl⟩
  have hn32 : nr ≤ 32 := hnr ▸ hWo.r32 _ (hWo.rtl hml)
  have hln : LenV Try.prog 44 v nr := hv.len hnr
  have hone := hv.one
  have cv := cellV hv1
  obtain ⟨g, hg⟩ : ∃ q, b % 8 = q := ⟨_, rfl⟩
  have hg8 : g < 8 := by omega
  have rg : RemIs (b : Int) 8 (g : Int) := ⟨by rw [Int.tmod_eq_emod_of_nonneg (by omega)]; omega, by decide⟩
  obtain ⟨a8, ha8⟩ : ∃ q, a % 8 = q := ⟨_, rfl⟩
  have ra : RemIs (a : Int) 8 (a8 : Int) := ⟨by rw [Int.tmod_eq_emod_of_nonneg (by omega)]; omega, by decide⟩
  have qz := refE (refB_self 0 0)
  have hWo' := Lib.hid hWo
  have hvs' := Lib.hid hvs
  have hus' := Lib.hid hus
  have hset' := Lib.hid hset
  have hv1' := Lib.hid hv1
  have hlv' := Lib.hid hlv
  have hlu' := Lib.hid hlu
  have hnr' := Lib.hid hnr
  obtain rfl : a8 = 1 := by omega
  have hn0 : 0 < nr := by rw [hm] at hpos; omega
  have z0 : ((nr : Int) == 0) = false := beq_eq_false_iff_ne.2 (by omega)
  have z0' : decide ((nr : Int) = 0) = false := decide_eq_false (by omega)
  have z0'' : decide (nr = 0) = false := decide_eq_false (by omega)
  obtain ⟨q, hq⟩ : ∃ q, i % nr = q := ⟨_, rfl⟩
  have hqn : q < nr := by rw [← hq]; exact Nat.mod_lt _ hn0
  have rq : RemIs (i : Int) (nr : Int) (q : Int) := ⟨by rw [Int.tmod_eq_emod_of_nonneg (by omega)]; omega, by omega⟩
  have hql : q < (rtL T m).length := by rw [hnr]; exact hqn
  obtain ⟨⟨x1, x2⟩, hx⟩ : ∃ x, (rtL T m).getD q (0, 0) = x := ⟨_, rfl⟩
  obtain ⟨gq, sq, iq, hHq, cq⟩ := hv.at hql hx
  have iq := iq q rfl
  simp only at cq
  have hmem : (x1, x2) ∈ kyM ms := hx ▸ (hWo.rt hml hql).2.2
  obtain ⟨j, b0, l, hj, hob, hl4⟩ := hWo.ent hmem
  obtain ⟨u, Em1, eu, Em2, hu1, rfl, hu, huset⟩ := hus.at j l (by simp [mpF, hj])
  simp only [List.append_assoc] at hS
  obtain ⟨nl, hnl⟩ : ∃ q, l.length = q := ⟨_, rfl⟩
  have hlnu : LenV Try.prog 44 u nl := hu.len hnl
  have honeu := hu.one
  have hlk : ∀ w H, St w0 bs w H → LookIs Try.prog w 25 M #[.int .i64 x1, .int .u32 x2] false u := fun w H hS => look_mp (hB.now hS) hWo.mo.ks hj hu1 rfl false
  obtain ⟨f, hfb⟩ : ∃ q, b % 4 = q := ⟨_, rfl⟩
  have rf : RemIs (b : Int) 4 (f : Int) := ⟨by rw [Int.tmod_eq_emod_of_nonneg (by omega)]; omega, by decide⟩
  have hj' := Lib.hid hj
  have hu1' := Lib.hid hu1
  have huset' := Lib.hid huset
  have hql' := Lib.hid hql
  have hnl' := Lib.hid hnl
  have hl4' := Lib.hid hl4
  have hks' := Lib.hid hWo.mo.ks
  have hle' := Lib.hid (hWo.r32 _ (hWo.rtl hml))
  have hcs := hcase j b0 l (by rw [hm, hnr, hq, hx]; exact hj)
  rw [hfb] at hcs
  have hfo : nl ≤ f := by omega
  have df : decide ((f : Int) < (nl : Int)) = false := decide_eq_false (by omega)
  have df' : decide (f < nl) = false := decide_eq_false (by omega)
  obtain ⟨h1, h2, h3⟩ := (hWo.load hml hql hx hob f).1 (by omega)
  have h1' := Lib.hid h1
  have h2' := Lib.hid h2
  have h3' := Lib.hid h3
  have hnx := Lib.hid (show nxT n mu T ms a mb i b c = (T, ms) from by rw [nxT, if_neg (by omega), if_neg (by omega), if_neg (by omega), if_neg (by omega), if_neg (by omega), if_neg (by omega), if_pos (by omega), hm, hnr, hq, hfb, h1])
  clear h1 h2 h3 hcs hcase
  clear hq hx hmem hj hob hl4 hu1 huset hnl hfb hpos hql
  clear hm hg hWo hvs hus hset hv1 hlv hlu hnr
  go_enter Try.func31, Try.ntmps31
  go_wp2_with ((refine wpList_is (.box 80 _) rfl ?_; go_must (refine wpList_stp (by kernel_rfl) (stp_bx _ _ rfl hS ?_)); clear hS; intro bt w _ hS))
  refine region_quiet hS (by kernel_rfl) (by kernel_rfl) (fun hne => ?_)
  go_big_quiet_want; (refine quiet_is (.fieldAddr _ _ _) rfl ?_; refine quiet_val (fun w _ => run_fa _ _ _ rfl) ?_; go_big_quiet_on)
  go_big_quiet_want; ((refine quiet_is (.load _ _) rfl ?_; refine quiet_at sw_st (fun w hS => run_ld _ _ rfl hS) ?_; go_big_quiet_on))
  go_big_quiet_want; (refine quiet_is (.convert _ _ _) rfl ?_; refine quiet_val (fun w _ => run_cvn _ _ _ rfl) ?_; go_big_quiet_on)
  go_big_quiet_want; (refine quiet_is (.move _) rfl ?_; refine quiet_val (fun w _ => run_mv _ rfl) ?_; go_big_quiet_on)
  go_big_quiet_want; (refine quiet_is (.nilCheck _) rfl ?_; refine quiet_val (fun w _ => run_nc _ rfl) ?_; go_big_quiet_on)
  go_big_quiet_want; (refine quiet_is (.fieldAddr _ _ _) rfl ?_; refine quiet_val (fun w _ => run_fa _ _ _ rfl) ?_; go_big_quiet_on)
  go_big_quiet_want; ((refine quiet_is (.load _ _) rfl ?_; refine quiet_at sw_st (fun w hS => run_ld _ _ rfl hS) ?_; go_big_quiet_on))
  go_big_quiet_want; (refine quiet_is (.call { callee := .builtin .len, args := #[_], argTypes := #[_] }) rfl ?_; refine quiet_val (fun w _ => run_lenv _ _ rfl) ?_; go_big_quiet_on)
  go_big_quiet_want; (refine quiet_is (.binOp .rem _ _ _ _) rfl ?_; refine quiet_val (fun w _ => run_remv _ _ _ _ rfl) ?_; go_big_quiet_on)
  go_big_quiet_want; (refine quiet_is (.assign _) rfl ?_; refine quiet_val (fun w _ => run_as _ rfl) ?_; go_big_quiet_on)
  refine wpQuiet_nil ?_
  clear hS hne
  intro w hS
  go_wp2_with (first | (refine wpList_is (o := ⟨some 9, _, _, _, _, _⟩) (.alloc _) rfl ?_; go_must (refine wpList_stp (by kernel_rfl) (stp_al _ rfl hS ?_)); clear hS; intro bz w _ hS) | (refine wpList_is (o := ⟨some 23, _, _, _, _, _⟩) (.alloc _) rfl ?_; go_must (refine wpList_stp (by kernel_rfl) (stp_al _ rfl hS ?_)); clear hS; intro b23 w _ hS) | (refine wpList_is (.load 29 _) rfl ?_; refine wpList_stp (by kernel_rfl) (stp_val (run_lda _ _ rfl hS) ?_)) | (refine wpList_is (.convert _ _ _) rfl ?_; refine wpList_stp (by kernel_rfl) (stp_val (run_cvn _ _ _ rfl) ?_)) | (refine wpList_is (.binOp .rem _ _ _ _) rfl ?_; refine wpList_stp (by kernel_rfl) (stp_val (run_remv _ _ _ _ rfl) ?_)) | (refine wpList_is (.call { callee := .builtin .len, args := #[_], argTypes := #[_] }) rfl ?_; refine wpList_stp (by kernel_rfl) (stp_val (run_lenv _ _ rfl) ?_)) | (refine wpList_is (.indexAddr _ _ _) rfl ?_; refine wpList_stp (by kernel_rfl) (stp_val (run_idxv _ _ _ rfl) ?_)) | (refine wpList_is (.build _ _) rfl ?_; go_must (refine wpList_stp (by kernel_rfl) (stp_val (run_bd _ _ rfl) ?_))) | (refine wpList_is (.load _ _) rfl ?_; go_must ((refine wpList_stp (by kernel_rfl) (stp_val (run_ld _ _ rfl hS) ?_)))) | (refine wpList_is (.store _ _ _) rfl ?_; go_must ((refine wpList_stp (by kernel_rfl) (stp_sta _ _ _ rfl hS ?_))); clear hS; intro w hS))
  go_wp2_with ((go_skip))
  refine region_quiet hS (by kernel_rfl) (by kernel_rfl) (fun hne => ?_)
  go_big_quiet_want; (refine quiet_is (.move _) rfl ?_; refine quiet_val (fun w _ => run_mv _ rfl) ?_; go_big_quiet_on)
  go_big_quiet_want; (refine quiet_is (.move _) rfl ?_; refine quiet_val (fun w _ => run_mv _ rfl) ?_; go_big_quiet_on)
  go_big_quiet_want; (refine quiet_is (.nilCheck _) rfl ?_; refine quiet_val (fun w _ => run_nc _ rfl) ?_; go_big_quiet_on)
  go_big_quiet_want; (refine quiet_is (.fieldAddr _ _ _) rfl ?_; refine quiet_val (fun w _ => run_fa _ _ _ rfl) ?_; go_big_quiet_on)
  go_big_quiet_want; ((refine quiet_is (.load _ _) rfl ?_; refine quiet_at sw_st (fun w hS => run_ld _ _ rfl hS) ?_; go_big_quiet_on))
  go_big_quiet_want; ((refine quiet_is (.load _ _) rfl ?_; refine quiet_at sw_st (fun w hS => run_lda _ _ rfl hS) ?_; go_big_quiet_on))
  go_big_quiet_want; (refine quiet_is (.lookup _ _ _ _) rfl ?_; refine quiet_at sw_st (fun w hS => run_look _ _ _ rfl (hlk _ _ hS)) ?_; go_big_quiet_on)
  go_big_quiet_want; (refine quiet_is (.call { callee := .builtin .len, args := #[_], argTypes := #[_] }) rfl ?_; refine quiet_val (fun w _ => run_lenv _ _ rfl) ?_; go_big_quiet_on)
  go_big_quiet_want; ((go_big_quiet_op; go_big_quiet_on))
  go_big_quiet_want; (refine quiet_is (.assign _) rfl ?_; refine quiet_val (fun w _ => run_as _ rfl) ?_; go_big_quiet_on)
  refine wpQuiet_nil ?_
  clear hS hne
  intro w hS
  go_wp2_with (first | (refine wpList_is (o := ⟨some 26, _, _, _, _, _⟩) (.alloc _) rfl ?_; go_must (refine wpList_stp (by kernel_rfl) (stp_al _ rfl hS ?_)); clear hS; intro br w _ hS) | (go_at_call 13; go_must (refine ar_load hS hT m q f T (0, 0) 3 h1'.out h2'.out h3'.out ?_); clear hS; intro E3 w hT2 hS; unfold Ret) | (refine wpList_is (.binOp .eql 29 _ _ _) rfl ?_; refine wpList_stp (by kernel_rfl) (stp_val (run_aeq _ _ _ _ rfl) ?_)) | (refine wpList_is (.load 29 _) rfl ?_; refine wpList_stp (by kernel_rfl) (stp_val (run_lda _ _ rfl hS) ?_)) | (refine wpList_is (.binOp .rem _ _ _ _) rfl ?_; refine wpList_stp (by kernel_rfl) (stp_val (run_remv _ _ _ _ rfl) ?_)) | (refine wpList_is (.load _ _) rfl ?_; go_must ((refine wpList_stp (by kernel_rfl) (stp_val (run_ld _ _ rfl hS) ?_)))) | (refine wpList_is (.store _ _ _) rfl ?_; go_must ((refine wpList_stp (by kernel_rfl) (stp_sta _ _ _ rfl hS ?_))); clear hS; intro w hS))
  exact hR _ (by rw [hnx.out]; exact (show WX W bm n mu (k + 1) H _ T ms from ⟨w0, bs, M, p, bv, vs, us, E3, _, _, hB, by simp only [List.append_assoc]; exact hS.pick, hT2, hvs'.out, hus'.out, hWo'.out.more⟩))
set_option maxHeartbeats 4000000 in
set_option maxRecDepth 100000 in
theorem wt_ldN {W : World} {bm n mu k : Nat} {H : List Ent} {T : Ar} {ms : List Me} (hk : k ≤ 400) (hX : WX W bm n mu k H w T ms) (hmu : 1 ≤ mu ∧ mu ≤ 4) (a mb i b c : Nat) (ha : a ≤ 255) (hmb : mb ≤ 255) (hi : i ≤ 255) (hb : b ≤ 255) (hc : c ≤ 255) (h0 : a % 8 = 1) (hpos : 0 < (rtL T (mb % mu : Nat)).length) (hcase : ∀ (j b0 : Nat) (l : List Rf), ms[j]? = some ((rtL T (mb % mu : Nat)).getD (i % (rtL T (mb % mu : Nat)).length) (0, 0), b0, l) → b % 4 < l.length ∧ l.getD (b % 4) (0, 0) = (0, 0))
    (hR : ∀ w', WX W bm n mu (k + 1) H w' (nxT n mu T ms a mb i b c).1 (nxT n mu T ms a mb i b c).2 → Ret R (.bool true) w') : Calls Try.prog 31 #[.pointer (some ⟨bm, 0, none⟩), .agg #[.int .u8 a, .int .u8 mb, .int .u8 i, .int .u8 b, .int .u8 c]] w R := by
  obtain ⟨w0, bs, M, p, bv, vs, us, E, Er, Em, hB, hS, hT, hvs, hus, hWo⟩ := hX
  have hlv : vs.length = mu := by rw [hvs.len]; exact hWo.mu
  have hlu : us.length = ms.length := by rw [hus.len]; simp
  obtain ⟨m, hm⟩ : ∃ q, mb % mu = q := ⟨_, rfl⟩
  have hml : m < mu := by rw [← hm]; exact Nat.mod_lt _ (by omega)
  have rm : RemIs (mb : Int) (mu : Int) (m : Int) := ⟨by rw [Int.tmod_eq_emod_of_nonneg (by omega)]; omega, by omega⟩
  have smb : Small (mb : Int) := ⟨by omega, by omega⟩
  have si : Small (i : Int) := ⟨by omega, by omega⟩
  have sb : Small (b : Int) := ⟨by omega, by omega⟩
  have sc : Small (c : Int) := ⟨by omega, by omega⟩
  have ix := rv_idx (bv := bv) hml
  have lx := rv_len (bv := bv) (mu := mu)
  obtain ⟨v, E1, e, E2, hv1, rfl, hv, hset⟩ := hvs.at m _ (hWo.rtq hml)
  simp only [List.append_assoc] at hS
  obtain ⟨nr, hnr⟩ : ∃ q, (rtL T m).length = q := ⟨_, rfl⟩
  have hn32 : nr ≤ 32 := hnr ▸ hWo.r32 _ (hWo.rtl hml)
  have hln : LenV Try.prog 44 v nr := hv.len hnr
  have hone := hv.one
  have cv := cellV hv1
  obtain ⟨g, hg⟩ : ∃ q, b % 8 = q := ⟨_, rfl⟩
  have hg8 : g < 8 := by omega
  have rg : RemIs (b : Int) 8 (g : Int) := ⟨by rw [Int.tmod_eq_emod_of_nonneg (by omega)]; omega, by decide⟩
  obtain ⟨a8, ha8⟩ : ∃ q, a % 8 = q := ⟨_, rfl⟩
  have ra : RemIs (a : Int) 8 (a8 : Int) := ⟨by rw [Int.tmod_eq_emod_of_nonneg (by omega)]; omega, by decide⟩
  have qz := refE (refB_self 0 0)
  have hWo' := Lib.hid hWo
  have hvs' := Lib.hid hvs
  have hus' := Lib.hid hus
  have hset' := Lib.hid hset
  have hv1' := Lib.hid hv1
  have hlv' := Lib.hid hlv
  have hlu' := Lib.hid hlu
  have hnr' := Lib.hid hnr
  obtain rfl : a8 = 1 := by omega
  have hn0 : 0 < nr := by rw [hm] at hpos; omega
  have z0 : ((nr : Int) == 0) = false := beq_eq_false_iff_ne.2 (by omega)
  have z0' : decide ((nr : Int) = 0) = false := decide_eq_false (by omega)
  have z0'' : decide (nr = 0) = false := decide_eq_false (by omega)
  obtain ⟨q, hq⟩ : ∃ q, i % nr = q := ⟨_, rfl⟩
  have hqn : q < nr := by rw [← hq]; exact Nat.mod_lt _ hn0
  have rq : RemIs (i : Int) (nr : Int) (q : Int) := ⟨by rw [Int.tmod_eq_emod_of_nonneg (by omega)]; omega, by omega⟩
  have hql : q < (rtL T m).length := by rw [hnr]; exact hqn
  obtain ⟨⟨x1, x2⟩, hx⟩ : ∃ x, (rtL T m).getD q (0, 0) = x := ⟨_, rfl⟩
  obtain ⟨gq, sq, iq, hHq, cq⟩ := hv.at hql hx
  have iq := iq q rfl
  simp only at cq
  have hmem : (x1, x2) ∈ kyM ms := hx ▸ (hWo.rt hml hql).2.2
  obtain ⟨j, b0, l, hj, hob, hl4⟩ := hWo.ent hmem
  obtain ⟨u, Em1, eu, Em2, hu1, rfl, hu, huset⟩ := hus.at j l (by simp [mpF, hj])
  simp only [List.append_assoc] at hS
  obtain ⟨nl, hnl⟩ : ∃ q, l.length = q := ⟨_, rfl⟩
  have hlnu : LenV Try.prog 44 u nl := hu.len hnl
  have honeu := hu.one
  have hlk : ∀ w H, St w0 bs w H → LookIs Try.prog w 25 M #[.int .i64 x1, .int .u32 x2] false u := fun w H hS => look_mp (hB.now hS) hWo.mo.ks hj hu1 rfl false
  obtain ⟨f, hfb⟩ : ∃ q, b % 4 = q := ⟨_, rfl⟩
  have rf : RemIs (b : Int) 4 (f : Int) := ⟨by rw [Int.tmod_eq_emod_of_nonneg (by omega)]; omega, by decide⟩
  have hj' := Lib.hid hj
  have hu1' := Lib.hid hu1
  have huset' := Lib.hid huset
  have hql' := Lib.hid hql
  have hnl' := Lib.hid hnl
  have hl4' := Lib.hid hl4
  have hks' := Lib.hid hWo.mo.ks
  have hle' := Lib.hid (hWo.r32 _ (hWo.rtl hml))
  have hcs := hcase j b0 l (by rw [hm, hnr, hq, hx]; exact hj)
  rw [hfb] at hcs
  have hfi : f < nl := by omega
  have df : decide ((f : Int) < (nl : Int)) = true := decide_eq_true (by omega)
  have df' : decide (f < nl) = true := decide_eq_true (by omega)
  obtain ⟨y1, hy1⟩ : ∃ q : Int, q = 0 := ⟨_, rfl⟩
  obtain ⟨y2, hy2⟩ : ∃ q : Int, q = 0 := ⟨_, rfl⟩
  have hfl : f < l.length := by omega
  have hy : l.getD f (0, 0) = (y1, y2) := by rw [hcs.2, hy1, hy2]
  obtain ⟨gu, su, iu, hHu, cu⟩ := hu.at hfl hy
  have iu := iu f rfl
  simp only at cu
  subst hy1 hy2
  obtain ⟨h1, h2, h3⟩ := ((hWo.load hml hql hx hob f).2 hfl).1 (by rw [hy]; exact refB_self 0 0)
  have h1' := Lib.hid h1
  have h2' := Lib.hid h2
  have h3' := Lib.hid h3
  have hnx := Lib.hid (show nxT n mu T ms a mb i b c = (T, ms) from by rw [nxT, if_neg (by omega), if_neg (by omega), if_neg (by omega), if_neg (by omega), if_neg (by omega), if_neg (by omega), if_pos (by omega), hm, hnr, hq, hfb, h1])
  clear h1 h2 h3 hcs hcase hy hfl
  clear hq hx hmem hj hob hl4 hu1 huset hnl hfb hpos hql
  clear hm hg hWo hvs hus hset hv1 hlv hlu hnr
  go_enter Try.func31, Try.ntmps31
  go_wp2_with ((refine wpList_is (.box 80 _) rfl ?_; go_must (refine wpList_stp (by kernel_rfl) (stp_bx _ _ rfl hS ?_)); clear hS; intro bt w _ hS))
  refine region_quiet hS (by kernel_rfl) (by kernel_rfl) (fun hne => ?_)
  go_big_quiet_want; (refine quiet_is (.fieldAddr _ _ _) rfl ?_; refine quiet_val (fun w _ => run_fa _ _ _ rfl) ?_; go_big_quiet_on)
  go_big_quiet_want; ((refine quiet_is (.load _ _) rfl ?_; refine quiet_at sw_st (fun w hS => run_ld _ _ rfl hS) ?_; go_big_quiet_on))
  go_big_quiet_want; (refine quiet_is (.convert _ _ _) rfl ?_; refine quiet_val (fun w _ => run_cvn _ _ _ rfl) ?_; go_big_quiet_on)
  go_big_quiet_want; (refine quiet_is (.move _) rfl ?_; refine quiet_val (fun w _ => run_mv _ rfl) ?_; go_big_quiet_on)
  go_big_quiet_want; (refine quiet_is (.nilCheck _) rfl ?_; refine quiet_val (fun w _ => run_nc _ rfl) ?_; go_big_quiet_on)
  go_big_quiet_want; (refine quiet_is (.fieldAddr _ _ _) rfl ?_; refine quiet_val (fun w _ => run_fa _ _ _ rfl) ?_; go_big_quiet_on)
  go_big_quiet_want; ((refine quiet_is (.load _ _) rfl ?_; refine quiet_at sw_st (fun w hS => run_ld _ _ rfl hS) ?_; go_big_quiet_on))
  go_big_quiet_want; (refine quiet_is (.call { callee := .builtin .len, args := #[_], argTypes := #[_] }) rfl ?_; refine quiet_val (fun w _ => run_lenv _ _ rfl) ?_; go_big_quiet_on)
  go_big_quiet_want; (refine quiet_is (.binOp .rem _ _ _ _) rfl ?_; refine quiet_val (fun w _ => run_remv _ _ _ _ rfl) ?_; go_big_quiet_on)
  go_big_quiet_want; (refine quiet_is (.assign _) rfl ?_; refine quiet_val (fun w _ => run_as _ rfl) ?_; go_big_quiet_on)
  refine wpQuiet_nil ?_
  clear hS hne
  intro w hS
  go_wp2_with (first | (refine wpList_is (o := ⟨some 9, _, _, _, _, _⟩) (.alloc _) rfl ?_; go_must (refine wpList_stp (by kernel_rfl) (stp_al _ rfl hS ?_)); clear hS; intro bz w _ hS) | (refine wpList_is (o := ⟨some 23, _, _, _, _, _⟩) (.alloc _) rfl ?_; go_must (refine wpList_stp (by kernel_rfl) (stp_al _ rfl hS ?_)); clear hS; intro b23 w _ hS) | (refine wpList_is (.load 29 _) rfl ?_; refine wpList_stp (by kernel_rfl) (stp_val (run_lda _ _ rfl hS) ?_)) | (refine wpList_is (.convert _ _ _) rfl ?_; refine wpList_stp (by kernel_rfl) (stp_val (run_cvn _ _ _ rfl) ?_)) | (refine wpList_is (.binOp .rem _ _ _ _) rfl ?_; refine wpList_stp (by kernel_rfl) (stp_val (run_remv _ _ _ _ rfl) ?_)) | (refine wpList_is (.call { callee := .builtin .len, args := #[_], argTypes := #[_] }) rfl ?_; refine wpList_stp (by kernel_rfl) (stp_val (run_lenv _ _ rfl) ?_)) | (refine wpList_is (.indexAddr _ _ _) rfl ?_; refine wpList_stp (by kernel_rfl) (stp_val (run_idxv _ _ _ rfl) ?_)) | (refine wpList_is (.build _ _) rfl ?_; go_must (refine wpList_stp (by kernel_rfl) (stp_val (run_bd _ _ rfl) ?_))) | (refine wpList_is (.load _ _) rfl ?_; go_must ((refine wpList_stp (by kernel_rfl) (stp_val (run_ld _ _ rfl hS) ?_)))) | (refine wpList_is (.store _ _ _) rfl ?_; go_must ((refine wpList_stp (by kernel_rfl) (stp_sta _ _ _ rfl hS ?_))); clear hS; intro w hS))
  go_wp2_with ((go_skip))
  refine region_quiet hS (by kernel_rfl) (by kernel_rfl) (fun hne => ?_)
  go_big_quiet_want; (refine quiet_is (.move _) rfl ?_; refine quiet_val (fun w _ => run_mv _ rfl) ?_; go_big_quiet_on)
  go_big_quiet_want; (refine quiet_is (.move _) rfl ?_; refine quiet_val (fun w _ => run_mv _ rfl) ?_; go_big_quiet_on)
  go_big_quiet_want; (refine quiet_is (.nilCheck _) rfl ?_; refine quiet_val (fun w _ => run_nc _ rfl) ?_; go_big_quiet_on)
  go_big_quiet_want; (refine quiet_is (.fieldAddr _ _ _) rfl ?_; refine quiet_val (fun w _ => run_fa _ _ _ rfl) ?_; go_big_quiet_on)
  go_big_quiet_want; ((refine quiet_is (.load _ _) rfl ?_; refine quiet_at sw_st (fun w hS => run_ld _ _ rfl hS) ?_; go_big_quiet_on))
  go_big_quiet_want; ((refine quiet_is (.load _ _) rfl ?_; refine quiet_at sw_st (fun w hS => run_lda _ _ rfl hS) ?_; go_big_quiet_on))
  go_big_quiet_want; (refine quiet_is (.lookup _ _ _ _) rfl ?_; refine quiet_at sw_st (fun w hS => run_look _ _ _ rfl (hlk _ _ hS)) ?_; go_big_quiet_on)
  go_big_quiet_want; (refine quiet_is (.call { callee := .builtin .len, args := #[_], argTypes := #[_] }) rfl ?_; refine quiet_val (fun w _ => run_lenv _ _ rfl) ?_; go_big_quiet_on)
  go_big_quiet_want; ((go_big_quiet_op; go_big_quiet_on))
  go_big_quiet_want; (refine quiet_is (.assign _) rfl ?_; refine quiet_val (fun w _ => run_as _ rfl) ?_; go_big_quiet_on)
  refine wpQuiet_nil ?_
  clear hS hne
  intro w hS
  go_wp2_with (first | (refine wpList_is (o := ⟨some 26, _, _, _, _, _⟩) (.alloc _) rfl ?_; go_must (refine wpList_stp (by kernel_rfl) (stp_al _ rfl hS ?_)); clear hS; intro br w _ hS) | (go_at_call 13; go_must (refine ar_load hS hT m q f T (0, 0) 5 h1'.out h2'.out h3'.out ?_); clear hS; intro E3 w hT2 hS; unfold Ret) | (refine wpList_is (.binOp .rem _ _ _ _) rfl ?_; refine wpList_stp (by kernel_rfl) (stp_val (run_remv _ _ _ _ rfl) ?_)) | (refine wpList_is (.load _ _) rfl ?_; go_must ((refine wpList_stp (by kernel_rfl) (stp_val (run_ld _ _ rfl hS) ?_)))) | (refine wpList_is (.store _ _ _) rfl ?_; go_must ((refine wpList_stp (by kernel_rfl) (stp_sta _ _ _ rfl hS ?_))); clear hS; intro w hS))
  refine region_quiet hS (by kernel_rfl) (by kernel_rfl) (fun hne => ?_)
  go_big_quiet_want; (refine quiet_is (.move _) rfl ?_; refine quiet_val (fun w _ => run_mv _ rfl) ?_; go_big_quiet_on)
  go_big_quiet_want; (refine quiet_is (.nilCheck _) rfl ?_; refine quiet_val (fun w _ => run_nc _ rfl) ?_; go_big_quiet_on)
  go_big_quiet_want; (refine quiet_is (.fieldAddr _ _ _) rfl ?_; refine quiet_val (fun w _ => run_fa _ _ _ rfl) ?_; go_big_quiet_on)
  go_big_quiet_want; ((refine quiet_is (.load _ _) rfl ?_; refine quiet_at sw_st (fun w hS => run_ld _ _ rfl hS) ?_; go_big_quiet_on))
  go_big_quiet_want; ((refine quiet_is (.load _ _) rfl ?_; refine quiet_at sw_st (fun w hS => run_lda _ _ rfl hS) ?_; go_big_quiet_on))
  go_big_quiet_want; (refine quiet_is (.lookup _ _ _ _) rfl ?_; refine quiet_at sw_st (fun w hS => run_look _ _ _ rfl (hlk _ _ hS)) ?_; go_big_quiet_on)
  go_big_quiet_want; (refine quiet_is (.move _) rfl ?_; refine quiet_val (fun w _ => run_mv _ rfl) ?_; go_big_quiet_on)
  go_big_quiet_want; (refine quiet_is (.indexAddr _ _ _) rfl ?_; refine quiet_val (fun w _ => run_idxv _ _ _ rfl) ?_; go_big_quiet_on)
  go_big_quiet_want; ((refine quiet_is (.load _ _) rfl ?_; refine quiet_at sw_st (fun w hS => run_lda _ _ rfl hS) ?_; go_big_quiet_on))
  go_big_quiet_want; ((refine quiet_is (.load _ _) rfl ?_; refine quiet_at sw_st (fun w hS => run_lda _ _ rfl hS) ?_; go_big_quiet_on))
  go_big_quiet_want; (refine quiet_is (.binOp .eql _ _ _ _) rfl ?_; refine quiet_val (fun w _ => run_aeq _ _ _ _ rfl) ?_; go_big_quiet_on)
  go_big_quiet_want; (refine quiet_is (.assign _) rfl ?_; refine quiet_val (fun w _ => run_as _ rfl) ?_; go_big_quiet_on)
  refine wpQuiet_nil ?_
  clear hS hne
  intro w hS
  go_wp2_with (first | (refine wpList_is (.binOp .eql 29 _ _ _) rfl ?_; refine wpList_stp (by kernel_rfl) (stp_val (run_aeq _ _ _ _ rfl) ?_)) | (refine wpList_is (.load 29 _) rfl ?_; refine wpList_stp (by kernel_rfl) (stp_val (run_lda _ _ rfl hS) ?_)))
  exact hR _ (by rw [hnx.out]; exact (show WX W bm n mu (k + 1) H _ T ms from ⟨w0, bs, M, p, bv, vs, us, E3, _, _, hB, by simp only [List.append_assoc]; exact hS.pick, hT2, hvs'.out, hus'.out, hWo'.out.more⟩))
set_option maxHeartbeats 4000000 in
set_option maxRecDepth 100000 in
theorem wt_ldF {W : World} {bm n mu k : Nat} {H : List Ent} {T : Ar} {ms : List Me} (hk : k ≤ 400) (hX : WX W bm n mu k H w T ms) (hmu : 1 ≤ mu ∧ mu ≤ 4) (a mb i b c : Nat) (ha : a ≤ 255) (hmb : mb ≤ 255) (hi : i ≤ 255) (hb : b ≤ 255) (hc : c ≤ 255) (h0 : a % 8 = 1) (hpos : 0 < (rtL T (mb % mu : Nat)).length) (hf32 : (rtL T (mb % mu : Nat)).length = 32) (hcase : ∀ (j b0 : Nat) (l : List Rf), ms[j]? = some ((rtL T (mb % mu : Nat)).getD (i % (rtL T (mb % mu : Nat)).length) (0, 0), b0, l) → b % 4 < l.length ∧ l.getD (b % 4) (0, 0) ≠ (0, 0))
    (hR : ∀ w', WX W bm n mu (k + 1) H w' (nxT n mu T ms a mb i b c).1 (nxT n mu T ms a mb i b c).2 → Ret R (.bool true) w') : Calls Try.prog 31 #[.pointer (some ⟨bm, 0, none⟩), .agg #[.int .u8 a, .int .u8 mb, .int .u8 i, .int .u8 b, .int .u8 c]] w R := by
  obtain ⟨w0, bs, M, p, bv, vs, us, E, Er, Em, hB, hS, hT, hvs, hus, hWo⟩ := hX
  have hlv : vs.length = mu := by rw [hvs.len]; exact hWo.mu
  have hlu : us.length = ms.length := by rw [hus.len]; simp
  obtain ⟨m, hm⟩ : ∃ q, mb % mu = q := ⟨_, rfl⟩
  have hml : m < mu := by rw [← hm]; exact Nat.mod_lt _ (by omega)
  have rm : RemIs (mb : Int) (mu : Int) (m : Int) := ⟨by rw [Int.tmod_eq_emod_of_nonneg (by omega)]; omega, by omega⟩
  have smb : Small (mb : Int) := ⟨by omega, by omega⟩
  have si : Small (i : Int) := ⟨by omega, by omega⟩
  have sb : Small (b : Int) := ⟨by omega, by omega⟩
  have sc : Small (c : Int) := ⟨by omega, by omega⟩
  have ix := rv_idx (bv := bv) hml
  have lx := rv_len (bv := bv) (mu := mu)
  obtain ⟨v, E1, e, E2, hv1, rfl, hv, hset⟩ := hvs.at m _ (hWo.rtq hml)
  simp only [List.append_assoc] at hS
  obtain ⟨nr, hnr⟩ : ∃ q, (rtL T m).length = q := ⟨_, rfl⟩
  have hn32 : nr ≤ 32 := hnr ▸ hWo.r32 _ (hWo.rtl hml)
  have hln : LenV Try.prog 44 v nr := hv.len hnr
  have hone := hv.one
  have cv := cellV hv1
  obtain ⟨g, hg⟩ : ∃ q, b % 8 = q := ⟨_, rfl⟩
  have hg8 : g < 8 := by omega
  have rg : RemIs (b : Int) 8 (g : Int) := ⟨by rw [Int.tmod_eq_emod_of_nonneg (by omega)]; omega, by decide⟩
  obtain ⟨a8, ha8⟩ : ∃ q, a % 8 = q := ⟨_, rfl⟩
  have ra : RemIs (a : Int) 8 (a8 : Int) := ⟨by rw [Int.tmod_eq_emod_of_nonneg (by omega)]; omega, by decide⟩
  have qz := refE (refB_self 0 0)
  have hWo' := Lib.hid hWo
  have hvs' := Lib.hid hvs
  have hus' := Lib.hid hus
  have hset' := Lib.hid hset
  have hv1' := Lib.hid hv1
  have hlv' := Lib.hid hlv
  have hlu' := Lib.hid hlu
  have hnr' := Lib.hid hnr
  obtain rfl : a8 = 1 := by omega
  have hn0 : 0 < nr := by rw [hm] at hpos; omega
  have z0 : ((nr : Int) == 0) = false := beq_eq_false_iff_ne.2 (by omega)
  have z0' : decide ((nr : Int) = 0) = false := decide_eq_false (by omega)
  have z0'' : decide (nr = 0) = false := decide_eq_false (by omega)
  obtain ⟨q, hq⟩ : ∃ q, i % nr = q := ⟨_, rfl⟩
  have hqn : q < nr := by rw [← hq]; exact Nat.mod_lt _ hn0
  have rq : RemIs (i : Int) (nr : Int) (q : Int) := ⟨by rw [Int.tmod_eq_emod_of_nonneg (by omega)]; omega, by omega⟩
  have hql : q < (rtL T m).length := by rw [hnr]; exact hqn
  obtain ⟨⟨x1, x2⟩, hx⟩ : ∃ x, (rtL T m).getD q (0, 0) = x := ⟨_, rfl⟩
  obtain ⟨gq, sq, iq, hHq, cq⟩ := hv.at hql hx
  have iq := iq q rfl
  simp only at cq
  have hmem : (x1, x2) ∈ kyM ms := hx ▸ (hWo.rt hml hql).2.2
  obtain ⟨j, b0, l, hj, hob, hl4⟩ := hWo.ent hmem
  obtain ⟨u, Em1, eu, Em2, hu1, rfl, hu, huset⟩ := hus.at j l (by simp [mpF, hj])
  simp only [List.append_assoc] at hS
  obtain ⟨nl, hnl⟩ : ∃ q, l.length = q := ⟨_, rfl⟩
  have hlnu : LenV Try.prog 44 u nl := hu.len hnl
  have honeu := hu.one
  have hlk : ∀ w H, St w0 bs w H → LookIs Try.prog w 25 M #[.int .i64 x1, .int .u32 x2] false u := fun w H hS => look_mp (hB.now hS) hWo.mo.ks hj hu1 rfl false
  obtain ⟨f, hfb⟩ : ∃ q, b % 4 = q := ⟨_, rfl⟩
  have rf : RemIs (b : Int) 4 (f : Int) := ⟨by rw [Int.tmod_eq_emod_of_nonneg (by omega)]; omega, by decide⟩
  have hj' := Lib.hid hj
  have hu1' := Lib.hid hu1
  have huset' := Lib.hid huset
  have hql' := Lib.hid hql
  have hnl' := Lib.hid hnl
  have hl4' := Lib.hid hl4
  have hks' := Lib.hid hWo.mo.ks
  have hle' := Lib.hid (hWo.r32 _ (hWo.rtl hml))
  have hcs := hcase j b0 l (by rw [hm, hnr, hq, hx]; exact hj)
  rw [hfb] at hcs
  have hfi : f < nl := by omega
  have df : decide ((f : Int) < (nl : Int)) = true := decide_eq_true (by omega)
  have df' : decide (f < nl) = true := decide_eq_true (by omega)
  have hfl : f < l.length := by omega
  obtain ⟨⟨y1, y2⟩, hy⟩ : ∃ y, l.getD f (0, 0) = y := ⟨_, rfl⟩
  obtain ⟨gu, su, iu, hHu, cu⟩ := hu.at hfl hy
  have iu := iu f rfl
  simp only at cu
  rw [hy] at hcs
  have hb0 : refB y1 y2 0 0 = false := refB_no (x := (y1, y2)) (y := (0, 0)) hcs.2
  have qy := refE hb0
  have qr := refE (refB_self y1 y2)
  obtain ⟨h1, h2, h3⟩ := (((hWo.load hml hql hx hob f).2 hfl).2 (by rw [hy]; exact hb0)).1 (by rw [hm] at hf32; exact hf32)
  have h1' := Lib.hid h1
  have h2' := Lib.hid h2
  have h3' := Lib.hid h3
  have d32 : decide (32 ≤ nr) = true := decide_eq_true (by rw [hm] at hf32; omega)
  have d32' : decide (32 ≤ (nr : Int)) = true := decide_eq_true (by rw [hm] at hf32; omega)
  have hnx := Lib.hid (show nxT n mu T ms a mb i b c = (T, ms) from by rw [nxT, if_neg (by omega), if_neg (by omega), if_neg (by omega), if_neg (by omega), if_neg (by omega), if_neg (by omega), if_pos (by omega), hm, hnr, hq, hfb, h1])
  clear h1 h2 h3 hcs hcase hy hb0 hfl hf32
  clear hq hx hmem hj hob hl4 hu1 huset hnl hfb hpos hql
  clear hm hg hWo hvs hus hset hv1 hlv hlu hnr
  go_enter Try.func31, Try.ntmps31
  go_wp2_with ((refine wpList_is (.box 80 _) rfl ?_; go_must (refine wpList_stp (by kernel_rfl) (stp_bx _ _ rfl hS ?_)); clear hS; intro bt w _ hS))
  refine region_quiet hS (by kernel_rfl) (by kernel_rfl) (fun hne => ?_)
  go_big_quiet_want; (refine quiet_is (.fieldAddr _ _ _) rfl ?_; refine quiet_val (fun w _ => run_fa _ _ _ rfl) ?_; go_big_quiet_on)
  go_big_quiet_want; ((refine quiet_is (.load _ _) rfl ?_; refine quiet_at sw_st (fun w hS => run_ld _ _ rfl hS) ?_; go_big_quiet_on))
  go_big_quiet_want; (refine quiet_is (.convert _ _ _) rfl ?_; refine quiet_val (fun w _ => run_cvn _ _ _ rfl) ?_; go_big_quiet_on)
  go_big_quiet_want; (refine quiet_is (.move _) rfl ?_; refine quiet_val (fun w _ => run_mv _ rfl) ?_; go_big_quiet_on)
  go_big_quiet_want; (refine quiet_is (.nilCheck _) rfl ?_; refine quiet_val (fun w _ => run_nc _ rfl) ?_; go_big_quiet_on)
  go_big_quiet_want; (refine quiet_is (.fieldAddr _ _ _) rfl ?_; refine quiet_val (fun w _ => run_fa _ _ _ rfl) ?_; go_big_quiet_on)
  go_big_quiet_want; ((refine quiet_is (.load _ _) rfl ?_; refine quiet_at sw_st (fun w hS => run_ld _ _ rfl hS) ?_; go_big_quiet_on))
  go_big_quiet_want; (refine quiet_is (.call { callee := .builtin .len, args := #[_], argTypes := #[_] }) rfl ?_; refine quiet_val (fun w _ => run_lenv _ _ rfl) ?_; go_big_quiet_on)
  go_big_quiet_want; (refine quiet_is (.binOp .rem _ _ _ _) rfl ?_; refine quiet_val (fun w _ => run_remv _ _ _ _ rfl) ?_; go_big_quiet_on)
  go_big_quiet_want; (refine quiet_is (.assign _) rfl ?_; refine quiet_val (fun w _ => run_as _ rfl) ?_; go_big_quiet_on)
  refine wpQuiet_nil ?_
  clear hS hne
  intro w hS
  go_wp2_with (first | (refine wpList_is (o := ⟨some 9, _, _, _, _, _⟩) (.alloc _) rfl ?_; go_must (refine wpList_stp (by kernel_rfl) (stp_al _ rfl hS ?_)); clear hS; intro bz w _ hS) | (refine wpList_is (o := ⟨some 23, _, _, _, _, _⟩) (.alloc _) rfl ?_; go_must (refine wpList_stp (by kernel_rfl) (stp_al _ rfl hS ?_)); clear hS; intro b23 w _ hS) | (refine wpList_is (.load 29 _) rfl ?_; refine wpList_stp (by kernel_rfl) (stp_val (run_lda _ _ rfl hS) ?_)) | (refine wpList_is (.convert _ _ _) rfl ?_; refine wpList_stp (by kernel_rfl) (stp_val (run_cvn _ _ _ rfl) ?_)) | (refine wpList_is (.binOp .rem _ _ _ _) rfl ?_; refine wpList_stp (by kernel_rfl) (stp_val (run_remv _ _ _ _ rfl) ?_)) | (refine wpList_is (.call { callee := .builtin .len, args := #[_], argTypes := #[_] }) rfl ?_; refine wpList_stp (by kernel_rfl) (stp_val (run_lenv _ _ rfl) ?_)) | (refine wpList_is (.indexAddr _ _ _) rfl ?_; refine wpList_stp (by kernel_rfl) (stp_val (run_idxv _ _ _ rfl) ?_)) | (refine wpList_is (.build _ _) rfl ?_; go_must (refine wpList_stp (by kernel_rfl) (stp_val (run_bd _ _ rfl) ?_))) | (refine wpList_is (.load _ _) rfl ?_; go_must ((refine wpList_stp (by kernel_rfl) (stp_val (run_ld _ _ rfl hS) ?_)))) | (refine wpList_is (.store _ _ _) rfl ?_; go_must ((refine wpList_stp (by kernel_rfl) (stp_sta _ _ _ rfl hS ?_))); clear hS; intro w hS))
  go_wp2_with ((go_skip))
  refine region_quiet hS (by kernel_rfl) (by kernel_rfl) (fun hne => ?_)
  go_big_quiet_want; (refine quiet_is (.move _) rfl ?_; refine quiet_val (fun w _ => run_mv _ rfl) ?_; go_big_quiet_on)
  go_big_quiet_want; (refine quiet_is (.move _) rfl ?_; refine quiet_val (fun w _ => run_mv _ rfl) ?_; go_big_quiet_on)
  go_big_quiet_want; (refine quiet_is (.nilCheck _) rfl ?_; refine quiet_val (fun w _ => run_nc _ rfl) ?_; go_big_quiet_on)
  go_big_quiet_want; (refine quiet_is (.fieldAddr _ _ _) rfl ?_; refine quiet_val (fun w _ => run_fa _ _ _ rfl) ?_; go_big_quiet_on)
  go_big_quiet_want; ((refine quiet_is (.load _ _) rfl ?_; refine quiet_at sw_st (fun w hS => run_ld _ _ rfl hS) ?_; go_big_quiet_on))
  go_big_quiet_want; ((refine quiet_is (.load _ _) rfl ?_; refine quiet_at sw_st (fun w hS => run_lda _ _ rfl hS) ?_; go_big_quiet_on))
  go_big_quiet_want; (refine quiet_is (.lookup _ _ _ _) rfl ?_; refine quiet_at sw_st (fun w hS => run_look _ _ _ rfl (hlk _ _ hS)) ?_; go_big_quiet_on)
  go_big_quiet_want; (refine quiet_is (.call { callee := .builtin .len, args := #[_], argTypes := #[_] }) rfl ?_; refine quiet_val (fun w _ => run_lenv _ _ rfl) ?_; go_big_quiet_on)
  go_big_quiet_want; ((go_big_quiet_op; go_big_quiet_on))
  go_big_quiet_want; (refine quiet_is (.assign _) rfl ?_; refine quiet_val (fun w _ => run_as _ rfl) ?_; go_big_quiet_on)
  refine wpQuiet_nil ?_
  clear hS hne
  intro w hS
  go_wp2_with (first | (refine wpList_is (o := ⟨some 26, _, _, _, _, _⟩) (.alloc _) rfl ?_; go_must (refine wpList_stp (by kernel_rfl) (stp_al _ rfl hS ?_)); clear hS; intro br w _ hS) | (go_at_call 13; go_must (refine ar_load hS hT m q f T (0, 0) 4 h1'.out h2'.out h3'.out ?_); clear hS; intro E3 w hT2 hS; unfold Ret) | (refine wpList_is (.binOp .rem _ _ _ _) rfl ?_; refine wpList_stp (by kernel_rfl) (stp_val (run_remv _ _ _ _ rfl) ?_)) | (refine wpList_is (.load _ _) rfl ?_; go_must ((refine wpList_stp (by kernel_rfl) (stp_val (run_ld _ _ rfl hS) ?_)))) | (refine wpList_is (.store _ _ _) rfl ?_; go_must ((refine wpList_stp (by kernel_rfl) (stp_sta _ _ _ rfl hS ?_))); clear hS; intro w hS))
  refine region_quiet hS (by kernel_rfl) (by kernel_rfl) (fun hne => ?_)
  go_big_quiet_want; (refine quiet_is (.move _) rfl ?_; refine quiet_val (fun w _ => run_mv _ rfl) ?_; go_big_quiet_on)
  go_big_quiet_want; (refine quiet_is (.nilCheck _) rfl ?_; refine quiet_val (fun w _ => run_nc _ rfl) ?_; go_big_quiet_on)
  go_big_quiet_want; (refine quiet_is (.fieldAddr _ _ _) rfl ?_; refine quiet_val (fun w _ => run_fa _ _ _ rfl) ?_; go_big_quiet_on)
  go_big_quiet_want; ((refine quiet_is (.load _ _) rfl ?_; refine quiet_at sw_st (fun w hS => run_ld _ _ rfl hS) ?_; go_big_quiet_on))
  go_big_quiet_want; ((refine quiet_is (.load _ _) rfl ?_; refine quiet_at sw_st (fun w hS => run_lda _ _ rfl hS) ?_; go_big_quiet_on))
  go_big_quiet_want; (refine quiet_is (.lookup _ _ _ _) rfl ?_; refine quiet_at sw_st (fun w hS => run_look _ _ _ rfl (hlk _ _ hS)) ?_; go_big_quiet_on)
  go_big_quiet_want; (refine quiet_is (.move _) rfl ?_; refine quiet_val (fun w _ => run_mv _ rfl) ?_; go_big_quiet_on)
  go_big_quiet_want; (refine quiet_is (.indexAddr _ _ _) rfl ?_; refine quiet_val (fun w _ => run_idxv _ _ _ rfl) ?_; go_big_quiet_on)
  go_big_quiet_want; ((refine quiet_is (.load _ _) rfl ?_; refine quiet_at sw_st (fun w hS => run_lda _ _ rfl hS) ?_; go_big_quiet_on))
  go_big_quiet_want; ((refine quiet_is (.load _ _) rfl ?_; refine quiet_at sw_st (fun w hS => run_lda _ _ rfl hS) ?_; go_big_quiet_on))
  go_big_quiet_want; (refine quiet_is (.binOp .eql _ _ _ _) rfl ?_; refine quiet_val (fun w _ => run_aeq _ _ _ _ rfl) ?_; go_big_quiet_on)
  go_big_quiet_want; (refine quiet_is (.assign _) rfl ?_; refine quiet_val (fun w _ => run_as _ rfl) ?_; go_big_quiet_on)
  refine wpQuiet_nil ?_
  clear hS hne
  intro w hS
  go_wp2_with (first | (refine wpList_is (.binOp .eql 29 _ _ _) rfl ?_; refine wpList_stp (by kernel_rfl) (stp_val (run_aeq _ _ _ _ rfl) ?_)) | (refine wpList_is (.load 29 _) rfl ?_; refine wpList_stp (by kernel_rfl) (stp_val (run_lda _ _ rfl hS) ?_)))
  exact hR _ (by rw [hnx.out]; exact (show WX W bm n mu (k + 1) H _ T ms from ⟨w0, bs, M, p, bv, vs, us, E3, _, _, hB, by simp only [List.append_assoc]; exact hS.pick, hT2, hvs'.out, hus'.out, hWo'.out.more⟩))
set_option maxHeartbeats 4000000 in
set_option maxRecDepth 100000 in
theorem wt_ld {W : World} {bm n mu k : Nat} {H : List Ent} {T : Ar} {ms : List Me} (hk : k ≤ 400) (hX : WX W bm n mu k H w T ms) (hmu : 1 ≤ mu ∧ mu ≤ 4) (a mb i b c : Nat) (ha : a ≤ 255) (hmb : mb ≤ 255) (hi : i ≤ 255) (hb : b ≤ 255) (hc : c ≤ 255) (h0 : a % 8 = 1) (hpos : 0 < (rtL T (mb % mu : Nat)).length) (hf32 : (rtL T (mb % mu : Nat)).length < 32) (hcase : ∀ (j b0 : Nat) (l : List Rf), ms[j]? = some ((rtL T (mb % mu : Nat)).getD (i % (rtL T (mb % mu : Nat)).length) (0, 0), b0, l) → b % 4 < l.length ∧ l.getD (b % 4) (0, 0) ≠ (0, 0))
    (hR : ∀ w', WX W bm n mu (k + 1) H w' (nxT n mu T ms a mb i b c).1 (nxT n mu T ms a mb i b c).2 → Ret R (.bool true) w') : Calls Try.prog 31 #[.pointer (some ⟨bm, 0, none⟩), .agg #[.int .u8 a, .int .u8 mb, .int .u8 i, .int .u8 b, .int .u8 c]] w R := by
  obtain ⟨w0, bs, M, p, bv, vs, us, E, Er, Em, hB, hS, hT, hvs, hus, hWo⟩ := hX
  have hlv : vs.length = mu := by rw [hvs.len]; exact hWo.mu
  have hlu : us.length = ms.length := by rw [hus.len]; simp
  obtain ⟨m, hm⟩ : ∃ q, mb % mu = q := ⟨_, rfl⟩
  have hml : m < mu := by rw [← hm]; exact Nat.mod_lt _ (by omega)
  have rm : RemIs (mb : Int) (mu : Int) (m : Int) := ⟨by rw [Int.tmod_eq_emod_of_nonneg (by omega)]; omega, by omega⟩
  have smb : Small (mb : Int) := ⟨by omega, by omega⟩
  have si : Small (i : Int) := ⟨by omega, by omega⟩
  have sb : Small (b : Int) := ⟨by omega, by omega⟩
  have sc : Small (c : Int) := ⟨by omega, by omega⟩
  have ix := rv_idx (bv := bv) hml
  have lx := rv_len (bv := bv) (mu := mu)
  obtain ⟨v, E1, e, E2, hv1, rfl, hv, hset⟩ := hvs.at m _ (hWo.rtq hml)
  simp only [List.append_assoc] at hS
  obtain ⟨nr, hnr⟩ : ∃ q, (rtL T m).length = q := ⟨_, rfl⟩
  have hn32 : nr ≤ 32 := hnr ▸ hWo.r32 _ (hWo.rtl hml)
  have hln : LenV Try.prog 44 v nr := hv.len hnr
  have hone := hv.one
  have cv := cellV hv1
  obtain ⟨g, hg⟩ : ∃ q, b % 8 = q := ⟨_, rfl⟩
  have hg8 : g < 8 := by omega
  have rg : RemIs (b : Int) 8 (g : Int) := ⟨by rw [Int.tmod_eq_emod_of_nonneg (by omega)]; omega, by decide⟩
  obtain ⟨a8, ha8⟩ : ∃ q, a % 8 = q := ⟨_, rfl⟩
  have ra : RemIs (a : Int) 8 (a8 : Int) := ⟨by rw [Int.tmod_eq_emod_of_nonneg (by omega)]; omega, by decide⟩
  have qz := refE (refB_self 0 0)
  have hWo' := Lib.hid hWo
  have hvs' := Lib.hid hvs
  have hus' := Lib.hid hus
  have hset' := Lib.hid hset
  have hv1' := Lib.hid hv1
  have hlv' := Lib.hid hlv
  have hlu' := Lib.hid hlu
  have hnr' := Lib.hid hnr
  obtain rfl : a8 = 1 := by omega
  have hn0 : 0 < nr := by rw [hm] at hpos; omega
  have z0 : ((nr : Int) == 0) = false := beq_eq_false_iff_ne.2 (by omega)
  have z0' : decide ((nr : Int) = 0) = false := decide_eq_false (by omega)
  have z0'' : decide (nr = 0) = false := decide_eq_false (by omega)
  obtain ⟨q, hq⟩ : ∃ q, i % nr = q := ⟨_, rfl⟩
  have hqn : q < nr := by rw [← hq]; exact Nat.mod_lt _ hn0
  have rq : RemIs (i : Int) (nr : Int) (q : Int) := ⟨by rw [Int.tmod_eq_emod_of_nonneg (by omega)]; omega, by omega⟩
  have hql : q < (rtL T m).length := by rw [hnr]; exact hqn
  obtain ⟨⟨x1, x2⟩, hx⟩ : ∃ x, (rtL T m).getD q (0, 0) = x := ⟨_, rfl⟩
  obtain ⟨gq, sq, iq, hHq, cq⟩ := hv.at hql hx
  have iq := iq q rfl
  simp only at cq
  have hmem : (x1, x2) ∈ kyM ms := hx ▸ (hWo.rt hml hql).2.2
  obtain ⟨j, b0, l, hj, hob, hl4⟩ := hWo.ent hmem
  obtain ⟨u, Em1, eu, Em2, hu1, rfl, hu, huset⟩ := hus.at j l (by simp [mpF, hj])
  simp only [List.append_assoc] at hS
  obtain ⟨nl, hnl⟩ : ∃ q, l.length = q := ⟨_, rfl⟩
  have hlnu : LenV Try.prog 44 u nl := hu.len hnl
  have honeu := hu.one
  have hlk : ∀ w H, St w0 bs w H → LookIs Try.prog w 25 M #[.int .i64 x1, .int .u32 x2] false u := fun w H hS => look_mp (hB.now hS) hWo.mo.ks hj hu1 rfl false
  obtain ⟨f, hfb⟩ : ∃ q, b % 4 = q := ⟨_, rfl⟩
  have rf : RemIs (b : Int) 4 (f : Int) := ⟨by rw [Int.tmod_eq_emod_of_nonneg (by omega)]; omega, by decide⟩
  have hj' := Lib.hid hj
  have hu1' := Lib.hid hu1
  have huset' := Lib.hid huset
  have hql' := Lib.hid hql
  have hnl' := Lib.hid hnl
  have hl4' := Lib.hid hl4
  have hks' := Lib.hid hWo.mo.ks
  have hle' := Lib.hid (hWo.r32 _ (hWo.rtl hml))
  have hcs := hcase j b0 l (by rw [hm, hnr, hq, hx]; exact hj)
  rw [hfb] at hcs
  have hfi : f < nl := by omega
  have df : decide ((f : Int) < (nl : Int)) = true := decide_eq_true (by omega)
  have df' : decide (f < nl) = true := decide_eq_true (by omega)
  have hfl : f < l.length := by omega
  obtain ⟨⟨y1, y2⟩, hy⟩ : ∃ y, l.getD f (0, 0) = y := ⟨_, rfl⟩
  obtain ⟨gu, su, iu, hHu, cu⟩ := hu.at hfl hy
  have iu := iu f rfl
  simp only at cu
  rw [hy] at hcs
  have hb0 : refB y1 y2 0 0 = false := refB_no (x := (y1, y2)) (y := (0, 0)) hcs.2
  have qy := refE hb0
  have qr := refE (refB_self y1 y2)
  obtain ⟨h1, h2, h3⟩ := (((hWo.load hml hql hx hob f).2 hfl).2 (by rw [hy]; exact hb0)).2 (by rw [hm] at hf32; exact hf32)
  rw [hy] at h1 h2
  have hyk : (y1, y2) ∈ kyM ms := by
    rcases hWo.fd hj hfl with e | e
    · rw [hy] at e; exact absurd e hcs.2
    · rw [hy] at e; exact e
  have hWn := hWo.give hml (by rw [hm] at hf32; exact hf32) hyk
  have hWn' := Lib.hid hWn
  have h1' := Lib.hid h1
  have h2' := Lib.hid h2
  have h3' := Lib.hid h3
  have d32 : decide (32 ≤ nr) = false := decide_eq_false (by rw [hm] at hf32; omega)
  have d32' : decide (32 ≤ (nr : Int)) = false := decide_eq_false (by rw [hm] at hf32; omega)
  have hnx := Lib.hid (show nxT n mu T ms a mb i b c = ((giT T m (y1, y2)), ms) from by rw [nxT, if_neg (by omega), if_neg (by omega), if_neg (by omega), if_neg (by omega), if_neg (by omega), if_neg (by omega), if_pos (by omega), hm, hnr, hq, hfb, h1])
  clear h1 h2 h3 hcs hcase hy hb0 hfl hf32 hyk hWn
  clear hq hx hmem hj hob hl4 hu1 huset hnl hfb hpos hql
  clear hm hg hWo hvs hus hset hv1 hlv hlu hnr
  go_enter Try.func31, Try.ntmps31
  go_wp2_with ((refine wpList_is (.box 80 _) rfl ?_; go_must (refine wpList_stp (by kernel_rfl) (stp_bx _ _ rfl hS ?_)); clear hS; intro bt w _ hS))
  refine region_quiet hS (by kernel_rfl) (by kernel_rfl) (fun hne => ?_)
  go_big_quiet_want; (refine quiet_is (.fieldAddr _ _ _) rfl ?_; refine quiet_val (fun w _ => run_fa _ _ _ rfl) ?_; go_big_quiet_on)
  go_big_quiet_want; ((refine quiet_is (.load _ _) rfl ?_; refine quiet_at sw_st (fun w hS => run_ld _ _ rfl hS) ?_; go_big_quiet_on))
  go_big_quiet_want; (refine quiet_is (.convert _ _ _) rfl ?_; refine quiet_val (fun w _ => run_cvn _ _ _ rfl) ?_; go_big_quiet_on)
  go_big_quiet_want; (refine quiet_is (.move _) rfl ?_; refine quiet_val (fun w _ => run_mv _ rfl) ?_; go_big_quiet_on)
  go_big_quiet_want; (refine quiet_is (.nilCheck _) rfl ?_; refine quiet_val (fun w _ => run_nc _ rfl) ?_; go_big_quiet_on)
  go_big_quiet_want; (refine quiet_is (.fieldAddr _ _ _) rfl ?_; refine quiet_val (fun w _ => run_fa _ _ _ rfl) ?_; go_big_quiet_on)
  go_big_quiet_want; ((refine quiet_is (.load _ _) rfl ?_; refine quiet_at sw_st (fun w hS => run_ld _ _ rfl hS) ?_; go_big_quiet_on))
  go_big_quiet_want; (refine quiet_is (.call { callee := .builtin .len, args := #[_], argTypes := #[_] }) rfl ?_; refine quiet_val (fun w _ => run_lenv _ _ rfl) ?_; go_big_quiet_on)
  go_big_quiet_want; (refine quiet_is (.binOp .rem _ _ _ _) rfl ?_; refine quiet_val (fun w _ => run_remv _ _ _ _ rfl) ?_; go_big_quiet_on)
  go_big_quiet_want; (refine quiet_is (.assign _) rfl ?_; refine quiet_val (fun w _ => run_as _ rfl) ?_; go_big_quiet_on)
  refine wpQuiet_nil ?_
  clear hS hne
  intro w hS
  go_wp2_with (first | (refine wpList_is (o := ⟨some 9, _, _, _, _, _⟩) (.alloc _) rfl ?_; go_must (refine wpList_stp (by kernel_rfl) (stp_al _ rfl hS ?_)); clear hS; intro bz w _ hS) | (refine wpList_is (o := ⟨some 23, _, _, _, _, _⟩) (.alloc _) rfl ?_; go_must (refine wpList_stp (by kernel_rfl) (stp_al _ rfl hS ?_)); clear hS; intro b23 w _ hS) | (refine wpList_is (.load 29 _) rfl ?_; refine wpList_stp (by kernel_rfl) (stp_val (run_lda _ _ rfl hS) ?_)) | (refine wpList_is (.convert _ _ _) rfl ?_; refine wpList_stp (by kernel_rfl) (stp_val (run_cvn _ _ _ rfl) ?_)) | (refine wpList_is (.binOp .rem _ _ _ _) rfl ?_; refine wpList_stp (by kernel_rfl) (stp_val (run_remv _ _ _ _ rfl) ?_)) | (refine wpList_is (.call { callee := .builtin .len, args := #[_], argTypes := #[_] }) rfl ?_; refine wpList_stp (by kernel_rfl) (stp_val (run_lenv _ _ rfl) ?_)) | (refine wpList_is (.indexAddr _ _ _) rfl ?_; refine wpList_stp (by kernel_rfl) (stp_val (run_idxv _ _ _ rfl) ?_)) | (refine wpList_is (.build _ _) rfl ?_; go_must (refine wpList_stp (by kernel_rfl) (stp_val (run_bd _ _ rfl) ?_))) | (refine wpList_is (.load _ _) rfl ?_; go_must ((refine wpList_stp (by kernel_rfl) (stp_val (run_ld _ _ rfl hS) ?_)))) | (refine wpList_is (.store _ _ _) rfl ?_; go_must ((refine wpList_stp (by kernel_rfl) (stp_sta _ _ _ rfl hS ?_))); clear hS; intro w hS))
  go_wp2_with ((go_skip))
  refine region_quiet hS (by kernel_rfl) (by kernel_rfl) (fun hne => ?_)
  go_big_quiet_want; (refine quiet_is (.move _) rfl ?_; refine quiet_val (fun w _ => run_mv _ rfl) ?_; go_big_quiet_on)
  go_big_quiet_want; (refine quiet_is (.move _) rfl ?_; refine quiet_val (fun w _ => run_mv _ rfl) ?_; go_big_quiet_on)
  go_big_quiet_want; (refine quiet_is (.nilCheck _) rfl ?_; refine quiet_val (fun w _ => run_nc _ rfl) ?_; go_big_quiet_on)
  go_big_quiet_want; (refine quiet_is (.fieldAddr _ _ _) rfl ?_; refine quiet_val (fun w _ => run_fa _ _ _ rfl) ?_; go_big_quiet_on)
  go_big_quiet_want; ((refine quiet_is (.load _ _) rfl ?_; refine quiet_at sw_st (fun w hS => run_ld _ _ rfl hS) ?_; go_big_quiet_on))
  go_big_quiet_want; ((refine quiet_is (.load _ _) rfl ?_; refine quiet_at sw_st (fun w hS => run_lda _ _ rfl hS) ?_; go_big_quiet_on))
  go_big_quiet_want; (refine quiet_is (.lookup _ _ _ _) rfl ?_; refine quiet_at sw_st (fun w hS => run_look _ _ _ rfl (hlk _ _ hS)) ?_; go_big_quiet_on)
  go_big_quiet_want; (refine quiet_is (.call { callee := .builtin .len, args := #[_], argTypes := #[_] }) rfl ?_; refine quiet_val (fun w _ => run_lenv _ _ rfl) ?_; go_big_quiet_on)
  go_big_quiet_want; ((go_big_quiet_op; go_big_quiet_on))
  go_big_quiet_want; (refine quiet_is (.assign _) rfl ?_; refine quiet_val (fun w _ => run_as _ rfl) ?_; go_big_quiet_on)
  refine wpQuiet_nil ?_
  clear hS hne
  intro w hS
  go_wp2_with (first | (refine wpList_is (o := ⟨some 26, _, _, _, _, _⟩) (.alloc _) rfl ?_; go_must (refine wpList_stp (by kernel_rfl) (stp_al _ rfl hS ?_)); clear hS; intro br w _ hS) | (go_at_call 13; go_must (refine ar_load hS hT m q f (giT T m (y1, y2)) (y1, y2) 0 h1'.out h2'.out h3'.out ?_); clear hS; intro E3 w hT2 hS; unfold Ret) | (refine wpList_is (.binOp .rem _ _ _ _) rfl ?_; refine wpList_stp (by kernel_rfl) (stp_val (run_remv _ _ _ _ rfl) ?_)) | (refine wpList_is (.load _ _) rfl ?_; go_must ((refine wpList_stp (by kernel_rfl) (stp_val (run_ld _ _ rfl hS) ?_)))) | (refine wpList_is (.store _ _ _) rfl ?_; go_must ((refine wpList_stp (by kernel_rfl) (stp_sta _ _ _ rfl hS ?_))); clear hS; intro w hS))
  refine region_quiet hS (by kernel_rfl) (by kernel_rfl) (fun hne => ?_)
  go_big_quiet_want; (refine quiet_is (.move _) rfl ?_; refine quiet_val (fun w _ => run_mv _ rfl) ?_; go_big_quiet_on)
  go_big_quiet_want; (refine quiet_is (.nilCheck _) rfl ?_; refine quiet_val (fun w _ => run_nc _ rfl) ?_; go_big_quiet_on)
  go_big_quiet_want; (refine quiet_is (.fieldAddr _ _ _) rfl ?_; refine quiet_val (fun w _ => run_fa _ _ _ rfl) ?_; go_big_quiet_on)
  go_big_quiet_want; ((refine quiet_is (.load _ _) rfl ?_; refine quiet_at sw_st (fun w hS => run_ld _ _ rfl hS) ?_; go_big_quiet_on))
  go_big_quiet_want; ((refine quiet_is (.load _ _) rfl ?_; refine quiet_at sw_st (fun w hS => run_lda _ _ rfl hS) ?_; go_big_quiet_on))
  go_big_quiet_want; (refine quiet_is (.lookup _ _ _ _) rfl ?_; refine quiet_at sw_st (fun w hS => run_look _ _ _ rfl (hlk _ _ hS)) ?_; go_big_quiet_on)
  go_big_quiet_want; (refine quiet_is (.move _) rfl ?_; refine quiet_val (fun w _ => run_mv _ rfl) ?_; go_big_quiet_on)
  go_big_quiet_want; (refine quiet_is (.indexAddr _ _ _) rfl ?_; refine quiet_val (fun w _ => run_idxv _ _ _ rfl) ?_; go_big_quiet_on)
  go_big_quiet_want; ((refine quiet_is (.load _ _) rfl ?_; refine quiet_at sw_st (fun w hS => run_lda _ _ rfl hS) ?_; go_big_quiet_on))
  go_big_quiet_want; ((refine quiet_is (.load _ _) rfl ?_; refine quiet_at sw_st (fun w hS => run_lda _ _ rfl hS) ?_; go_big_quiet_on))
  go_big_quiet_want; (refine quiet_is (.binOp .eql _ _ _ _) rfl ?_; refine quiet_val (fun w _ => run_aeq _ _ _ _ rfl) ?_; go_big_quiet_on)
  go_big_quiet_want; (refine quiet_is (.assign _) rfl ?_; refine quiet_val (fun w _ => run_as _ rfl) ?_; go_big_quiet_on)
  refine wpQuiet_nil ?_
  clear hS hne
  intro w hS
  go_wp2_with ((go_skip))
  have hS : St w0 bs _ (rvE bv vs :: (e ++ (wdE bm p M bv mu T.2.2 :: (⟨bt, #[.int .u8 a, .int .u8 mb, .int .u8 i, .int .u8 b, .int .u8 c], 80, true⟩ :: ⟨b23, #[.int .i64 x1, .int .u32 x2], 29, true⟩ :: ⟨br, #[.int .i64 y1, .int .u32 y2], 29, true⟩ :: ⟨bz, #[.int .i64 0, .int .u32 0], 29, true⟩ :: (E3 ++ (E1 ++ (E2 ++ (Em1 ++ (eu ++ (Em2 ++ H)))))))))) := hS.pick
  refine region_itemsE [⟨(undef, rvE bv vs :: e), [(11, fun _ x => ∃ v5 e5, RS v5 (rtL T m ++ [(y1, y2)]) e5 ∧ x.2 = rvE bv (vs.set m v5) :: e5)]⟩]
    (wdE bm p M bv mu T.2.2 :: (⟨bt, #[.int .u8 a, .int .u8 mb, .int .u8 i, .int .u8 b, .int .u8 c], 80, true⟩ :: ⟨b23, #[.int .i64 x1, .int .u32 x2], 29, true⟩ :: ⟨br, #[.int .i64 y1, .int .u32 y2], 29, true⟩ :: ⟨bz, #[.int .i64 0, .int .u32 0], 29, true⟩ :: (E3 ++ (E1 ++ (E2 ++ (Em1 ++ (eu ++ (Em2 ++ H)))))))) (rvE bv vs :: (e ++ (wdE bm p M bv mu T.2.2 :: (⟨bt, #[.int .u8 a, .int .u8 mb, .int .u8 i, .int .u8 b, .int .u8 c], 80, true⟩ :: ⟨b23, #[.int .i64 x1, .int .u32 x2], 29, true⟩ :: ⟨br, #[.int .i64 y1, .int .u32 y2], 29, true⟩ :: ⟨bz, #[.int .i64 0, .int .u32 0], 29, true⟩ :: (E3 ++ (E1 ++ (E2 ++ (Em1 ++ (eu ++ (Em2 ++ H)))))))))) (by simp) hS (by kernel_rfl) (by kernel_rfl) ?_
  refine fx_val (fun _ => rfl) rfl (fun χ w hw => run_mv _ rfl) ?_
  refine fx_val (fun _ => rfl) rfl (fun χ w hw => run_mv _ rfl) ?_
  refine fx_val (fun _ => rfl) rfl (fun χ w hw => run_mv _ rfl) ?_
  refine fx_val (fun _ => rfl) rfl (fun χ w hw => run_nc _ rfl) ?_
  refine fx_val (fun _ => rfl) rfl (fun χ w hw => run_fa _ _ _ rfl) ?_
  (refine fx_val (fun _ => rfl) rfl (fun χ w hw => run_ld _ _ rfl hw) ?_)
  (refine fx_val (fun _ => rfl) rfl (fun χ w hw => run_lda _ _ rfl hw) ?_)
  refine fx_val (fun _ => rfl) rfl (fun χ w hw => run_look _ _ _ rfl (hlk _ _ hw)) ?_
  refine fx_val (fun _ => rfl) rfl (fun χ w hw => run_mv _ rfl) ?_
  refine fx_val (fun _ => rfl) rfl (fun χ w hw => run_idxv _ _ _ rfl) ?_
  (refine fx_val (fun _ => rfl) rfl (fun χ w hw => run_lda _ _ rfl hw) ?_)
  refine fx_turn 0 0 rfl rfl (by kernel_rfl) (by kernel_rfl) (by kernel_rfl) 66 [_, _, _] _ rfl (fun _ => rfl) (enters _ (by kernel_rfl)) (fun _ => .tuple #[]) ?_ ?_
  · intro χ X w _ hS
    have hS : St w0 bs w (rvE bv vs :: (e ++ (X ++ (wdE bm p M bv mu T.2.2 :: (⟨bt, #[.int .u8 a, .int .u8 mb, .int .u8 i, .int .u8 b, .int .u8 c], 80, true⟩ :: ⟨b23, #[.int .i64 x1, .int .u32 x2], 29, true⟩ :: ⟨br, #[.int .i64 y1, .int .u32 y2], 29, true⟩ :: ⟨bz, #[.int .i64 0, .int .u32 0], 29, true⟩ :: (E3 ++ (E1 ++ (E2 ++ (Em1 ++ (eu ++ (Em2 ++ H))))))))))) := hS
    refine wgive (H1 := X ++ (⟨bt, #[.int .u8 a, .int .u8 mb, .int .u8 i, .int .u8 b, .int .u8 c], 80, true⟩ :: ⟨b23, #[.int .i64 x1, .int .u32 x2], 29, true⟩ :: ⟨br, #[.int .i64 y1, .int .u32 y2], 29, true⟩ :: ⟨bz, #[.int .i64 0, .int .u32 0], 29, true⟩ :: (E3 ++ (E1 ++ (E2 ++ (Em1 ++ (eu ++ (Em2 ++ H)))))))) (show St w0 bs w (wdE bm p M bv mu T.2.2 :: rvE bv vs :: (e ++ (X ++ (⟨bt, #[.int .u8 a, .int .u8 mb, .int .u8 i, .int .u8 b, .int .u8 c], 80, true⟩ :: ⟨b23, #[.int .i64 x1, .int .u32 x2], 29, true⟩ :: ⟨br, #[.int .i64 y1, .int .u32 y2], 29, true⟩ :: ⟨bz, #[.int .i64 0, .int .u32 0], 29, true⟩ :: (E3 ++ (E1 ++ (E2 ++ (Em1 ++ (eu ++ (Em2 ++ H)))))))))) from hS.pick) hml hlv'.out hv1'.out hv hle'.out (y1, y2) ?_
    intro v5 e5 w' hv5 hS'
    refine ⟨(undef, rvE bv (vs.set m v5) :: e5), rfl, ⟨v5, e5, hv5, rfl⟩, ?_⟩
    show St w0 bs w' (rvE bv (vs.set m v5) :: (e5 ++ (X ++ (wdE bm p M bv mu T.2.2 :: (⟨bt, #[.int .u8 a, .int .u8 mb, .int .u8 i, .int .u8 b, .int .u8 c], 80, true⟩ :: ⟨b23, #[.int .i64 x1, .int .u32 x2], 29, true⟩ :: ⟨br, #[.int .i64 y1, .int .u32 y2], 29, true⟩ :: ⟨bz, #[.int .i64 0, .int .u32 0], 29, true⟩ :: (E3 ++ (E1 ++ (E2 ++ (Em1 ++ (eu ++ (Em2 ++ H)))))))))))
    exact hS'.pick
  refine fx_end rfl ?_
  intro χ w hok hS
  obtain ⟨⟨v5, e5, hv5, hD⟩, _⟩ := hok _ (.head _)
  have hS : St w0 bs w (((χ 11).2 ++ []) ++ (wdE bm p M bv mu T.2.2 :: (⟨bt, #[.int .u8 a, .int .u8 mb, .int .u8 i, .int .u8 b, .int .u8 c], 80, true⟩ :: ⟨b23, #[.int .i64 x1, .int .u32 x2], 29, true⟩ :: ⟨br, #[.int .i64 y1, .int .u32 y2], 29, true⟩ :: ⟨bz, #[.int .i64 0, .int .u32 0], 29, true⟩ :: (E3 ++ (E1 ++ (E2 ++ (Em1 ++ (eu ++ (Em2 ++ H))))))))) := hS
  rw [hD] at hS
  simp only [List.cons_append, List.nil_append, List.append_assoc] at hS
  clear hok hD
  go_wp2_with ((go_skip))
  refine region_quiet hS (by kernel_rfl) (by kernel_rfl) (fun hne => ?_)
  go_big_quiet_want; (refine quiet_is (.move _) rfl ?_; refine quiet_val (fun w _ => run_mv _ rfl) ?_; go_big_quiet_on)
  go_big_quiet_want; (go_big_quiet_op; go_big_quiet_on)
  go_big_quiet_want; (refine quiet_is (.move _) rfl ?_; refine quiet_val (fun w _ => run_mv _ rfl) ?_; go_big_quiet_on)
  (go_big_quiet_want; (refine quiet_is (.load _ _) rfl ?_; refine quiet_at sw_st (fun w hS => run_lda _ _ rfl hS) ?_; go_big_quiet_on))
  (go_big_quiet_want; refine quiet_is (.move _) rfl ?_; refine quiet_val (fun w _ => run_mv _ rfl) ?_; go_big_quiet_on)
  (go_big_quiet_want; refine quiet_is (.nilCheck _) rfl ?_; refine quiet_val (fun w _ => run_nc _ rfl) ?_; go_big_quiet_on)
  (go_big_quiet_want; refine quiet_is (.fieldAddr _ _ _) rfl ?_; refine quiet_val (fun w _ => run_fa _ _ _ rfl) ?_; go_big_quiet_on)
  (go_big_quiet_want; (refine quiet_is (.load _ _) rfl ?_; refine quiet_at sw_st (fun w hS => run_ld _ _ rfl hS) ?_; go_big_quiet_on))
  (go_big_quiet_want; (refine quiet_is (.load _ _) rfl ?_; refine quiet_at sw_st (fun w hS => run_lda _ _ rfl hS) ?_; go_big_quiet_on))
  (go_big_quiet_want; refine quiet_is (.lookup _ _ _ _) rfl ?_; refine quiet_at sw_st (fun w hS => run_look _ _ _ rfl (hlk _ _ hS)) ?_; go_big_quiet_on)
  (go_big_quiet_want; refine quiet_is (.move _) rfl ?_; refine quiet_val (fun w _ => run_mv _ rfl) ?_; go_big_quiet_on)
  (go_big_quiet_want; refine quiet_is (.indexAddr _ _ _) rfl ?_; refine quiet_val (fun w _ => run_idxv _ _ _ rfl) ?_; go_big_quiet_on)
  (go_big_quiet_want; (refine quiet_is (.load _ _) rfl ?_; refine quiet_at sw_st (fun w hS => run_lda _ _ rfl hS) ?_; go_big_quiet_on))
  (go_big_quiet_want; refine quiet_is (.binOp .eql _ _ _ _) rfl ?_; refine quiet_val (fun w _ => run_aeq _ _ _ _ rfl) ?_; go_big_quiet_on)
  go_big_quiet_want; ((refine quiet_is (.pick _ _ _) rfl ?_; refine quiet_val (fun w _ => run_pk1 _ _ _ rfl) ?_; go_big_quiet_on))
  go_big_quiet_want; (refine quiet_is (.assign _) rfl ?_; refine quiet_val (fun w _ => run_as _ rfl) ?_; go_big_quiet_on)
  refine wpQuiet_nil ?_
  clear hS hne
  intro w hS
  go_wp2_with ((go_skip))
  exact hR _ (by rw [hnx.out]; exact (show WX W bm n mu (k + 1) H _ (giT T m (y1, y2)) ms from ⟨w0, bs, M, p, bv, _, us, E3, _, _, hB, by show St w0 bs w (wdE bm p M bv mu T.2.2 :: _); simp only [List.append_assoc]; exact hS.pick, hT2, hset'.out v5 _ e5 hv5, hus'.out, hWn'.out⟩))
end Go.Proofs.Ytjlihigodggfcaa
