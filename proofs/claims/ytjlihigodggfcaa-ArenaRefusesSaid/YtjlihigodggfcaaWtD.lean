/-
  Arenas with what the statements know of them: the turns that drop a root, or put it into a variable.
-/
import Derived.Test.YtjlihigodggfcaaWnx
set_option linter.unusedSimpArgs false
set_option linter.unusedVariables false
namespace Go.Proofs.Ytjlihigodggfcaa
open Go Go.RowKit Go.Mm
variable {R : Ending → World → Prop} {w : World} {H1 : List Ent}
set_option maxHeartbeats 4000000 in
set_option maxRecDepth 100000 in
theorem wt_drop {W : World} {bm n mu k : Nat} {H : List Ent} {T : Ar} {ms : List Me} (hk : k ≤ 400) (hX : WX W bm n mu k H w T ms) (hmu : 1 ≤ mu ∧ mu ≤ 4) (a mb i b c : Nat) (ha : a ≤ 255) (hmb : mb ≤ 255) (hi : i ≤ 255) (hb : b ≤ 255) (hc : c ≤ 255) (h0 : a % 8 = 3) (hpos : 0 < (rtL T (mb % mu : Nat)).length)
    (hR : ∀ w', WX W bm n mu (k + 1) H w' (nxT n mu T ms a mb i b c).1 (nxT n mu T ms a mb i b c).2 → Ret R (.bool true) w') : Calls Try.prog 31 #[.pointer (some ⟨bm, 0, none⟩), .agg #[.int .u8 a, .int .u8 mb, .int .u8 i, .int .u8 b, .int .u8 c]] w R := by
  obtain ⟨w0, bs, M, p, bv, vs, us, E, Er, Em, hB, hS, hT, hvs, hus, hWo⟩ := hX
  have hlv : vs.length = mu := by rw [hvs.len]; exact hWo.mu
  have hlu : us.length = ms.length := by rw [hus.len]; simp
  obtain ⟨m, hm⟩ : ∃ q, mb % mu = q := ⟨_, rfl⟩
  have hml : m < mu := by rw [← hm]; exact Nat.mod_lt _ (by omega)
  have rm : RemIs (mb : Int) (mu : Int) (m : Int) := ⟨by rw [Int.tmod_eq_emod_of_nonneg (by omega)]; omega, by omega⟩
  have smb : Small (mb : Int) := ⟨by omega, by omega⟩
  have si : Small (i : Int) := ⟨by omega, by omega⟩
  have sb : Small (b : Int) := ⟨by omega, by omega⟩
  have sc : Small (c : Int) := ⟨by omega, by omega⟩
  have ix := rv_idx (bv := bv) hml
  have lx := rv_len (bv := bv) (mu := mu)
  obtain ⟨v, E1, e, E2, hv1, rfl, hv, hset⟩ := hvs.at m _ (hWo.rtq hml)
  simp only [List.append_assoc] at hS
  obtain ⟨nr, hnr⟩ : ∃ q, (rtL T m).length = q := ⟨_, rfl⟩
  have hn32 : nr ≤ 32 := hnr ▸ hWo.r32 _ (hWo.rtl hml)
  have hln : LenV Try.prog 44 v nr := hv.len hnr
  have hone := hv.one
  have cv := cellV hv1
  obtain ⟨g, hg⟩ : ∃ q, b % 8 = q := ⟨_, rfl⟩
  have hg8 : g < 8 := by omega
  have rg : RemIs (b : Int) 8 (g : Int) := ⟨by rw [Int.tmod_eq_emod_of_nonneg (by omega)]; omega, by decide⟩
  obtain ⟨a8, ha8⟩ : ∃ q, a % 8 = q := ⟨_, rfl⟩
  have ra : RemIs (a : Int) 8 (a8 : Int) := ⟨by rw [Int.tmod_eq_emod_of_nonneg (by omega)]; omega, by decide⟩
  have qz := refE (refB_self 0 0)
  have hWo' := Lib.hid hWo
  have hvs' := Lib.hid hvs
  have hus' := Lib.hid hus
  have hset' := Lib.hid hset
  have hv1' := Lib.hid hv1
  have hlv' := Lib.hid hlv
  have hlu' := Lib.hid hlu
  have hnr' := Lib.hid hnr
  obtain rfl : a8 = 3 := by omega
  have hn0 : 0 < nr := by rw [hm] at hpos; omega
  have z0 : ((nr : Int) == 0) = false := beq_eq_false_iff_ne.2 (by omega)
  have z0' : decide ((nr : Int) = 0) = false := decide_eq_false (by omega)
  have z0'' : decide (nr = 0) = false := decide_eq_false (by omega)
  obtain ⟨q, hq⟩ : ∃ q, i % nr = q := ⟨_, rfl⟩
  have hqn : q < nr := by rw [← hq]; exact Nat.mod_lt _ hn0
  have rq : RemIs (i : Int) (nr : Int) (q : Int) := ⟨by rw [Int.tmod_eq_emod_of_nonneg (by omega)]; omega, by omega⟩
  have hql : q < (rtL T m).length := by rw [hnr]; exact hqn
  obtain ⟨⟨x1, x2⟩, hx⟩ : ∃ x, (rtL T m).getD q (0, 0) = x := ⟨_, rfl⟩
  have hmem : (x1, x2) ∈ kyM ms := hx ▸ (hWo.rt hml hql).2.2
  obtain ⟨j, b0, l, hj, hob, hl4⟩ := hWo.ent hmem
  obtain ⟨u, Em1, eu, Em2, hu1, rfl, hu, huset⟩ := hus.at j l (by simp [mpF, hj])
  simp only [List.append_assoc] at hS
  obtain ⟨nl, hnl⟩ : ∃ q, l.length = q := ⟨_, rfl⟩
  have hlnu : LenV Try.prog 44 u nl := hu.len hnl
  have honeu := hu.one
  have hlk : ∀ w H, St w0 bs w H → LookIs Try.prog w 25 M #[.int .i64 x1, .int .u32 x2] false u := fun w H hS => look_mp (hB.now hS) hWo.mo.ks hj hu1 rfl false
  obtain ⟨f, hfb⟩ : ∃ q, b % 4 = q := ⟨_, rfl⟩
  have rf : RemIs (b : Int) 4 (f : Int) := ⟨by rw [Int.tmod_eq_emod_of_nonneg (by omega)]; omega, by decide⟩
  have hj' := Lib.hid hj
  have hu1' := Lib.hid hu1
  have huset' := Lib.hid huset
  have hql' := Lib.hid hql
  have hnl' := Lib.hid hnl
  have hl4' := Lib.hid hl4
  have hks' := Lib.hid hWo.mo.ks
  have hle' := Lib.hid (hWo.r32 _ (hWo.rtl hml))
  obtain ⟨hasb, hhb⟩ : ∃ b, decide ((f : Int) < (nl : Int)) = b := ⟨_, rfl⟩
  have ltf : LtIs (f : Int) (nl : Int) hasb := ⟨hhb⟩
  clear hhb
  obtain ⟨h1, hWn⟩ := hWo.drop hml hql
  obtain ⟨h3, h2, _⟩ := hWo.rt hml hql
  rw [hx] at h2
  have hWn' := Lib.hid hWn
  have qr := refE (refB_self x1 x2)
  have h1' := Lib.hid h1
  have h2' := Lib.hid h2
  have h3' := Lib.hid h3
  have sv : ∀ x, SetAt vs.toArray m x (vs.set m x).toArray := fun x => setV (by omega) x
  obtain ⟨gi, cap, spi, rfl, rfl, hc1, hc2, hc3⟩ := Sl.some hv (by omega)
  rw [hnr] at hc1
  have c1 : CellsAt (((rtL T m).flatMap slf ++ spi).toArray) (q * 2) 2 #[.int .i64 x1, .int .u32 x2] := oneCells' (sp := spi) hql hx
  have c2 := preCells (l := rtL T m) (sp := spi) (q := q) (by omega)
  have c3 := sufCells' (l := rtL T m) (sp := spi) (q := q + 1) (cap := cap) (by omega) (by rw [hnr]; exact hc1)
  have o2 := flatOnes ((rtL T m).take q)
  have o3 := flatOnes ((rtL T m).drop (q + 1))
  rw [hnr] at hone hln cv c3
  have ln1 : (((rtL T m).length : Nat) : Int) = nr := by rw [hnr]
  have y1 := idx_of (P := Try.prog) (t := 44) (g := gi) (n := nr) (cap := cap) Try.underlying44 (z := 2) (by kernel_rfl) hqn
  have y2 := pre_of (P := Try.prog) (t := 44) (g := gi) (n := nr) (cap := cap) (m := q) Try.underlying44 (z := 2) (by kernel_rfl) (by omega) (by omega)
  have y3 := suf_of2 (P := Try.prog) (t := 44) (g := gi) (n := nr) (cap := cap) (m := q + 1) Try.underlying44 (z := 2) (by kernel_rfl) (by omega) (by omega)
  obtain ⟨of, hof⟩ : ∃ of, (if q + 1 = cap then 0 else (q + 1) * 2) = of := ⟨_, rfl⟩
  rw [hof] at y3 c3
  clear hof
  have s1 : SumIs (q : Int) 1 ((q + 1 : Nat) : Int) := ⟨by omega, by omega, by omega⟩
  have lt : ((rtL T m).take q).length = q := by rw [List.length_take]; omega
  have lt' := Lib.hid lt
  have ld : ((rtL T m).drop (q + 1)).length = nr - (q + 1) := by rw [List.length_drop, hnr]
  have ld' := Lib.hid ld
  have hc2' := Lib.hid c2
  have hc3' := Lib.hid c3
  clear hc3 c2 c3 lt ld ln1
  have hnx := Lib.hid (show nxT n mu T ms a mb i b c = ((T.1, T.2.1.set m ((rtL T m).take q ++ (rtL T m).drop (q + 1)), T.2.2), ms) from by rw [nxT, if_neg (by omega), if_neg (by omega), if_neg (by omega), if_neg (by omega), if_pos (by omega), hm, hnr, hq, h1])
  clear h1 h2 h3 hWn
  clear hq hx hmem hj hob hl4 hu1 huset hnl hfb hpos hql
  clear hm hg hWo hvs hus hset hv1 hlv hlu hnr
  go_enter Try.func31, Try.ntmps31
  go_wp2_with ((refine wpList_is (.box 80 _) rfl ?_; go_must (refine wpList_stp (by kernel_rfl) (stp_bx _ _ rfl hS ?_)); clear hS; intro bt w _ hS))
  refine region_quiet hS (by kernel_rfl) (by kernel_rfl) (fun hne => ?_)
  go_big_quiet_want; (refine quiet_is (.fieldAddr _ _ _) rfl ?_; refine quiet_val (fun w _ => run_fa _ _ _ rfl) ?_; go_big_quiet_on)
  go_big_quiet_want; ((refine quiet_is (.load _ _) rfl ?_; refine quiet_at sw_st (fun w hS => run_ld _ _ rfl hS) ?_; go_big_quiet_on))
  go_big_quiet_want; (refine quiet_is (.convert _ _ _) rfl ?_; refine quiet_val (fun w _ => run_cvn _ _ _ rfl) ?_; go_big_quiet_on)
  go_big_quiet_want; (refine quiet_is (.move _) rfl ?_; refine quiet_val (fun w _ => run_mv _ rfl) ?_; go_big_quiet_on)
  go_big_quiet_want; (refine quiet_is (.nilCheck _) rfl ?_; refine quiet_val (fun w _ => run_nc _ rfl) ?_; go_big_quiet_on)
  go_big_quiet_want; (refine quiet_is (.fieldAddr _ _ _) rfl ?_; refine quiet_val (fun w _ => run_fa _ _ _ rfl) ?_; go_big_quiet_on)
  go_big_quiet_want; ((refine quiet_is (.load _ _) rfl ?_; refine quiet_at sw_st (fun w hS => run_ld _ _ rfl hS) ?_; go_big_quiet_on))
  go_big_quiet_want; (refine quiet_is (.call { callee := .builtin .len, args := #[_], argTypes := #[_] }) rfl ?_; refine quiet_val (fun w _ => run_lenv _ _ rfl) ?_; go_big_quiet_on)
  go_big_quiet_want; (refine quiet_is (.binOp .rem _ _ _ _) rfl ?_; refine quiet_val (fun w _ => run_remv _ _ _ _ rfl) ?_; go_big_quiet_on)
  go_big_quiet_want; (refine quiet_is (.assign _) rfl ?_; refine quiet_val (fun w _ => run_as _ rfl) ?_; go_big_quiet_on)
  refine wpQuiet_nil ?_
  clear hS hne
  intro w hS
  go_wp2_with (first | (refine wpList_is (o := ⟨some 9, _, _, _, _, _⟩) (.alloc _) rfl ?_; go_must (refine wpList_stp (by kernel_rfl) (stp_al _ rfl hS ?_)); clear hS; intro bz w _ hS) | (refine wpList_is (o := ⟨some 23, _, _, _, _, _⟩) (.alloc _) rfl ?_; go_must (refine wpList_stp (by kernel_rfl) (stp_al _ rfl hS ?_)); clear hS; intro b23 w _ hS) | (refine wpList_is (.load 29 _) rfl ?_; refine wpList_stp (by kernel_rfl) (stp_val (run_lda _ _ rfl hS) ?_)) | (refine wpList_is (.convert _ _ _) rfl ?_; refine wpList_stp (by kernel_rfl) (stp_val (run_cvn _ _ _ rfl) ?_)) | (refine wpList_is (.binOp .rem _ _ _ _) rfl ?_; refine wpList_stp (by kernel_rfl) (stp_val (run_remv _ _ _ _ rfl) ?_)) | (refine wpList_is (.call { callee := .builtin .len, args := #[_], argTypes := #[_] }) rfl ?_; refine wpList_stp (by kernel_rfl) (stp_val (run_lenv _ _ rfl) ?_)) | (refine wpList_is (.indexAddr _ _ _) rfl ?_; refine wpList_stp (by kernel_rfl) (stp_val (run_idxv _ _ _ rfl) ?_)) | (refine wpList_is (.build _ _) rfl ?_; go_must (refine wpList_stp (by kernel_rfl) (stp_val (run_bd _ _ rfl) ?_))) | (refine wpList_is (.load _ _) rfl ?_; go_must ((refine wpList_stp (by kernel_rfl) (stp_val (run_ld _ _ rfl hS) ?_)))) | (refine wpList_is (.store _ _ _) rfl ?_; go_must ((refine wpList_stp (by kernel_rfl) (stp_sta _ _ _ rfl hS ?_))); clear hS; intro w hS))
  go_wp2_with ((go_skip))
  refine region_quiet hS (by kernel_rfl) (by kernel_rfl) (fun hne => ?_)
  go_big_quiet_want; (refine quiet_is (.move _) rfl ?_; refine quiet_val (fun w _ => run_mv _ rfl) ?_; go_big_quiet_on)
  go_big_quiet_want; (refine quiet_is (.move _) rfl ?_; refine quiet_val (fun w _ => run_mv _ rfl) ?_; go_big_quiet_on)
  go_big_quiet_want; (refine quiet_is (.nilCheck _) rfl ?_; refine quiet_val (fun w _ => run_nc _ rfl) ?_; go_big_quiet_on)
  go_big_quiet_want; (refine quiet_is (.fieldAddr _ _ _) rfl ?_; refine quiet_val (fun w _ => run_fa _ _ _ rfl) ?_; go_big_quiet_on)
  go_big_quiet_want; ((refine quiet_is (.load _ _) rfl ?_; refine quiet_at sw_st (fun w hS => run_ld _ _ rfl hS) ?_; go_big_quiet_on))
  go_big_quiet_want; ((refine quiet_is (.load _ _) rfl ?_; refine quiet_at sw_st (fun w hS => run_lda _ _ rfl hS) ?_; go_big_quiet_on))
  go_big_quiet_want; (refine quiet_is (.lookup _ _ _ _) rfl ?_; refine quiet_at sw_st (fun w hS => run_look _ _ _ rfl (hlk _ _ hS)) ?_; go_big_quiet_on)
  go_big_quiet_want; (refine quiet_is (.call { callee := .builtin .len, args := #[_], argTypes := #[_] }) rfl ?_; refine quiet_val (fun w _ => run_lenv _ _ rfl) ?_; go_big_quiet_on)
  go_big_quiet_want; ((refine quiet_is (.binOp .lss _ _ _ _) rfl ?_; refine quiet_val (fun w _ => run_lssv _ _ _ _ rfl) ?_; go_big_quiet_on))
  go_big_quiet_want; (refine quiet_is (.assign _) rfl ?_; refine quiet_val (fun w _ => run_as _ rfl) ?_; go_big_quiet_on)
  refine wpQuiet_nil ?_
  clear hS hne
  intro w hS
  go_wp2_with (first | (refine wpList_is (o := ⟨some 34, _, _, _, _, _⟩) (.alloc _) rfl ?_; go_must (refine wpList_stp (by kernel_rfl) (stp_al _ rfl hS ?_)); clear hS; intro br w _ hS) | (go_at_call 25; go_must (refine ar_drop hS hT m q (T.1, T.2.1.set m ((rtL T m).take q ++ (rtL T m).drop (q + 1)), T.2.2) (x1, x2) 0 h1'.out h2'.out h3'.out ?_); clear hS; intro E3 w hT2 hS; unfold Ret) | (refine wpList_is (.binOp .rem _ _ _ _) rfl ?_; refine wpList_stp (by kernel_rfl) (stp_val (run_remv _ _ _ _ rfl) ?_)) | (refine wpList_is (.load _ _) rfl ?_; go_must ((refine wpList_stp (by kernel_rfl) (stp_val (run_ld _ _ rfl hS) ?_)))) | (refine wpList_is (.store _ _ _) rfl ?_; go_must ((refine wpList_stp (by kernel_rfl) (stp_sta _ _ _ rfl hS ?_))); clear hS; intro w hS))
  have c2 := hc2'.out
  have c3 := hc3'.out
  simp only [List.cons_append, List.nil_append] at hS
  have hS : St w0 bs _ (rvE bv vs :: (⟨gi, ((rtL T m).flatMap slf ++ spi).toArray, 29, true⟩ :: ⟨bt, #[.int .u8 a, .int .u8 mb, .int .u8 i, .int .u8 b, .int .u8 c], 80, true⟩ :: ⟨b23, #[.int .i64 x1, .int .u32 x2], 29, true⟩ :: ⟨br, #[.int .i64 x1, .int .u32 x2], 29, true⟩ :: ⟨bz, #[.int .i64 0, .int .u32 0], 29, true⟩ :: wdE bm p M bv mu T.2.2 :: (E3 ++ (E1 ++ (E2 ++ (Em1 ++ (eu ++ (Em2 ++ H)))))))) := hS.pick
  refine region_depsE [⟨(undef, []), [(5, [], fun _ _ x => ∃ b', x = (.slice (some ⟨b', 0, none⟩) 0 0, [⟨b', #[], 29, true⟩])), (15, [], fun _ _ x => RS x.1 ((rtL T m).take q) x.2), (26, [], fun _ _ x => RS x.1 ((rtL T m).take q ++ (rtL T m).drop (q + 1)) x.2)]⟩,
      ⟨(undef, [rvE bv vs]), [(28, [26], fun z _ x => x.2 = [rvE bv (vs.set m (z.getD 0 default).1)])]⟩]
    (⟨gi, ((rtL T m).flatMap slf ++ spi).toArray, 29, true⟩ :: ⟨bt, #[.int .u8 a, .int .u8 mb, .int .u8 i, .int .u8 b, .int .u8 c], 80, true⟩ :: ⟨b23, #[.int .i64 x1, .int .u32 x2], 29, true⟩ :: ⟨br, #[.int .i64 x1, .int .u32 x2], 29, true⟩ :: ⟨bz, #[.int .i64 0, .int .u32 0], 29, true⟩ :: wdE bm p M bv mu T.2.2 :: (E3 ++ (E1 ++ (E2 ++ (Em1 ++ (eu ++ (Em2 ++ H))))))) (rvE bv vs :: (⟨gi, ((rtL T m).flatMap slf ++ spi).toArray, 29, true⟩ :: ⟨bt, #[.int .u8 a, .int .u8 mb, .int .u8 i, .int .u8 b, .int .u8 c], 80, true⟩ :: ⟨b23, #[.int .i64 x1, .int .u32 x2], 29, true⟩ :: ⟨br, #[.int .i64 x1, .int .u32 x2], 29, true⟩ :: ⟨bz, #[.int .i64 0, .int .u32 0], 29, true⟩ :: wdE bm p M bv mu T.2.2 :: (E3 ++ (E1 ++ (E2 ++ (Em1 ++ (eu ++ (Em2 ++ H)))))))) (by simp) hS (by kernel_rfl) (by kernel_rfl) ?_
  refine dx_val (fun _ => rfl) rfl (fun χ w hw => run_mv _ rfl) ?_
  refine dx_val (fun _ => rfl) rfl (fun χ w hw => run_nc _ rfl) ?_
  refine dx_val (fun _ => rfl) rfl (fun χ w hw => run_fa _ _ _ rfl) ?_
  (refine dx_val (fun _ => rfl) rfl (fun χ w hw => run_ld _ _ rfl hw) ?_)
  refine dx_val (fun _ => rfl) rfl (fun χ w hw => run_mv _ rfl) ?_
  refine dx_turn0 0 0 rfl rfl (by kernel_rfl) (by kernel_rfl) (by kernel_rfl) (by kernel_rfl) (fun _ => rfl) (fun x => x.1) ?_ ?_
  · intro χ X w _ hS
    exact stepX_to 466 rfl (by simp) (stp_bs0 _ rfl (show St w0 bs w (X ++ _) from hS) (fun b' w' _ hS' => ⟨_, rfl, (.slice (some ⟨b', 0, none⟩) 0 0, [⟨b', #[], 29, true⟩]), rfl, ⟨b', rfl⟩, hS'⟩))
  refine dx_val (fun _ => rfl) rfl (fun χ w hw => run_mv _ rfl) ?_
  refine dx_val (fun _ => rfl) rfl (fun χ w hw => run_nc _ rfl) ?_
  refine dx_val (fun _ => rfl) rfl (fun χ w hw => run_fa _ _ _ rfl) ?_
  (refine dx_val (fun _ => rfl) rfl (fun χ w hw => run_ld _ _ rfl hw) ?_)
  refine dx_val (fun _ => rfl) rfl (fun χ w hw => run_mv _ rfl) ?_
  refine dx_val (fun _ => rfl) rfl (fun χ w hw => run_idxv _ _ _ rfl) ?_
  refine dx_valS 1 0 rfl (by kernel_rfl) (fun _ => rfl) rfl (fun _ => (.slice (some ⟨gi, 0, none⟩) nr cap)) (fun _ _ _ => rfl) (fun χ X w _ hS => run_ld _ _ rfl (show St w0 bs w (rvE bv vs :: (X ++ _)) from hS)) ?_
  refine dx_val (fun _ => rfl) rfl (fun χ w hw => run_mv _ rfl) ?_
  refine dx_val (fun _ => rfl) rfl (fun χ w hw => run_prev _ _ _ rfl) ?_
  refine dx_turn0 0 1 rfl rfl (by kernel_rfl) (by kernel_rfl) (by kernel_rfl) (by kernel_rfl) (fun _ => rfl) (fun x => x.1) ?_ ?_
  · rintro χ X w ⟨⟨b', hb'⟩, _⟩ hS
    have hS : St w0 bs w ((χ 5).2 ++ (X ++ (⟨gi, ((rtL T m).flatMap slf ++ spi).toArray, 29, true⟩ :: ⟨bt, #[.int .u8 a, .int .u8 mb, .int .u8 i, .int .u8 b, .int .u8 c], 80, true⟩ :: ⟨b23, #[.int .i64 x1, .int .u32 x2], 29, true⟩ :: ⟨br, #[.int .i64 x1, .int .u32 x2], 29, true⟩ :: ⟨bz, #[.int .i64 0, .int .u32 0], 29, true⟩ :: wdE bm p M bv mu T.2.2 :: (E3 ++ (E1 ++ (E2 ++ (Em1 ++ (eu ++ (Em2 ++ H))))))))) := hS
    rw [hb'] at hS
    simp only [List.cons_append, List.nil_append] at hS
    simp only [hb']
    refine stepX_to 476 rfl (by simp) (stp_ap _ _ _ _ rfl rfl hS (by rfl) sl_zero (by rfl) (by simp only [maxLen]; omega) (by omega) ?_)
    intro v' E' w' hsl' _ hS'
    exact ⟨_, rfl, (v', E'), rfl, RS.of hsl' (by rw [lt'.out]; omega) (by simp), hS'.pick⟩
  refine dx_val (fun _ => rfl) rfl (fun χ w hw => run_mv _ rfl) ?_
  refine dx_val (fun _ => rfl) rfl (fun χ w hw => run_nc _ rfl) ?_
  refine dx_val (fun _ => rfl) rfl (fun χ w hw => run_fa _ _ _ rfl) ?_
  (refine dx_val (fun _ => rfl) rfl (fun χ w hw => run_ld _ _ rfl hw) ?_)
  refine dx_val (fun _ => rfl) rfl (fun χ w hw => run_mv _ rfl) ?_
  refine dx_val (fun _ => rfl) rfl (fun χ w hw => run_idxv _ _ _ rfl) ?_
  refine dx_valS 1 0 rfl (by kernel_rfl) (fun _ => rfl) rfl (fun _ => (.slice (some ⟨gi, 0, none⟩) nr cap)) (fun _ _ _ => rfl) (fun χ X w _ hS => run_ld _ _ rfl (show St w0 bs w (rvE bv vs :: (X ++ _)) from hS)) ?_
  refine dx_val (fun _ => rfl) rfl (fun χ w hw => run_mv _ rfl) ?_
  refine dx_val (fun _ => rfl) rfl (fun χ w hw => run_sumv _ _ _ _ rfl) ?_
  refine dx_val (fun _ => rfl) rfl (fun χ w hw => run_sufw _ _ _ rfl) ?_
  refine dx_turn0 0 2 rfl rfl (by kernel_rfl) (by kernel_rfl) (by kernel_rfl) (by kernel_rfl) (fun _ => rfl) (fun x => x.1) ?_ ?_
  · rintro χ X w ⟨_, hA1, _⟩ hS
    have hS : St w0 bs w ((χ 15).2 ++ (X ++ (⟨gi, ((rtL T m).flatMap slf ++ spi).toArray, 29, true⟩ :: ⟨bt, #[.int .u8 a, .int .u8 mb, .int .u8 i, .int .u8 b, .int .u8 c], 80, true⟩ :: ⟨b23, #[.int .i64 x1, .int .u32 x2], 29, true⟩ :: ⟨br, #[.int .i64 x1, .int .u32 x2], 29, true⟩ :: ⟨bz, #[.int .i64 0, .int .u32 0], 29, true⟩ :: wdE bm p M bv mu T.2.2 :: (E3 ++ (E1 ++ (E2 ++ (Em1 ++ (eu ++ (Em2 ++ H))))))))) := hS
    have hA1 : RS (χ 15).1 ((rtL T m).take q) (χ 15).2 := hA1
    generalize χ 15 = y at hS hA1 ⊢
    have ho8 := hA1.one
    refine stepX_to 487 rfl (by simp) (stp_ap _ _ _ _ rfl rfl hS (by rfl) (show Sl 29 2 y.1 ((rtL T m).take q).length (((rtL T m).take q).flatMap slf) y.2 from hA1) (by rfl) (by rw [lt'.out]; simp only [maxLen]; omega) (by rw [lt'.out]; omega) ?_)
    intro v' E' w' hsl' _ hS'
    exact ⟨_, rfl, (v', E'), rfl, RS.of hsl' (by rw [List.length_append, ld'.out]) (by rw [List.flatMap_append]), hS'.pick⟩
  refine dx_val (fun _ => rfl) rfl (fun χ w hw => run_idxv _ _ _ rfl) ?_
  refine dx_turnW 1 0 0 3 rfl rfl rfl (by kernel_rfl) (by kernel_rfl) (by kernel_rfl) (by kernel_rfl) (by kernel_rfl) (fun _ => rfl) (fun _ => undef) ?_ ?_
  · rintro χ X w _ ⟨_, _, hA2, _⟩ hS
    have ho8 := hA2.one
    exact stepX_st _ _ _ rfl (show St w0 bs w (rvE bv vs :: ((χ 26).2 ++ (X ++ _))) from hS) (fun w' hS' => ⟨(undef, [rvE bv (vs.set m (χ 26).1)]), rfl, rfl, hS'⟩)
  refine dx_end rfl ?_
  intro χ w hok hS
  obtain ⟨_, _, hA2, _⟩ := hok _ (.head _)
  obtain ⟨hD, _⟩ := hok _ (.tail _ (.head _))
  have hD : (χ 28).2 = [rvE bv (vs.set m (χ 26).1)] := hD
  have hS : St w0 bs w (((χ 26).2 ++ ((χ 28).2 ++ [])) ++ (⟨gi, ((rtL T m).flatMap slf ++ spi).toArray, 29, true⟩ :: ⟨bt, #[.int .u8 a, .int .u8 mb, .int .u8 i, .int .u8 b, .int .u8 c], 80, true⟩ :: ⟨b23, #[.int .i64 x1, .int .u32 x2], 29, true⟩ :: ⟨br, #[.int .i64 x1, .int .u32 x2], 29, true⟩ :: ⟨bz, #[.int .i64 0, .int .u32 0], 29, true⟩ :: wdE bm p M bv mu T.2.2 :: (E3 ++ (E1 ++ (E2 ++ (Em1 ++ (eu ++ (Em2 ++ H)))))))) := hS
  rw [hD] at hS
  clear hok hD c2 c3
  have hA2 : RS (χ 26).1 ((rtL T m).take q ++ (rtL T m).drop (q + 1)) (χ 26).2 := hA2
  generalize (χ 26).1 = v5 at hS hA2
  generalize (χ 26).2 = e5 at hS hA2
  simp only [List.cons_append, List.nil_append, List.append_assoc] at hS
  go_wp2_with (first | (refine wpList_is (.binOp .eql 29 _ _ _) rfl ?_; refine wpList_stp (by kernel_rfl) (stp_val (run_aeq _ _ _ _ rfl) ?_)) | (refine wpList_is (.load 29 _) rfl ?_; refine wpList_stp (by kernel_rfl) (stp_val (run_lda _ _ rfl hS) ?_)))
  exact hR _ (by rw [hnx.out]; exact (show WX W bm n mu (k + 1) H _ (T.1, T.2.1.set m ((rtL T m).take q ++ (rtL T m).drop (q + 1)), T.2.2) ms from ⟨w0, bs, M, p, bv, _, us, E3, _, _, hB, by simp only [List.append_assoc]; exact hS.pick, hT2, hset'.out v5 _ e5 hA2, hus'.out, hWn'.out⟩))
set_option maxHeartbeats 4000000 in
set_option maxRecDepth 100000 in
theorem wt_put {W : World} {bm n mu k : Nat} {H : List Ent} {T : Ar} {ms : List Me} (hk : k ≤ 400) (hX : WX W bm n mu k H w T ms) (hmu : 1 ≤ mu ∧ mu ≤ 4) (a mb i b c : Nat) (ha : a ≤ 255) (hmb : mb ≤ 255) (hi : i ≤ 255) (hb : b ≤ 255) (hc : c ≤ 255) (h0 : a % 8 = 4) (hpos : 0 < (rtL T (mb % mu : Nat)).length)
    (hR : ∀ w', WX W bm n mu (k + 1) H w' (nxT n mu T ms a mb i b c).1 (nxT n mu T ms a mb i b c).2 → Ret R (.bool true) w') : Calls Try.prog 31 #[.pointer (some ⟨bm, 0, none⟩), .agg #[.int .u8 a, .int .u8 mb, .int .u8 i, .int .u8 b, .int .u8 c]] w R := by
  obtain ⟨w0, bs, M, p, bv, vs, us, E, Er, Em, hB, hS, hT, hvs, hus, hWo⟩ := hX
  have hlv : vs.length = mu := by rw [hvs.len]; exact hWo.mu
  have hlu : us.length = ms.length := by rw [hus.len]; simp
  obtain ⟨m, hm⟩ : ∃ q, mb % mu = q := ⟨_, rfl⟩
  have hml : m < mu := by rw [← hm]; exact Nat.mod_lt _ (by omega)
  have rm : RemIs (mb : Int) (mu : Int) (m : Int) := ⟨by rw [Int.tmod_eq_emod_of_nonneg (by omega)]; omega, by omega⟩
  have smb : Small (mb : Int) := ⟨by omega, by omega⟩
  have si : Small (i : Int) := ⟨by omega, by omega⟩
  have sb : Small (b : Int) := ⟨by omega, by omega⟩
  have sc : Small (c : Int) := ⟨by omega, by omega⟩
  have ix := rv_idx (bv := bv) hml
  have lx := rv_len (bv := bv) (mu := mu)
  obtain ⟨v, E1, e, E2, hv1, rfl, hv, hset⟩ := hvs.at m _ (hWo.rtq hml)
  simp only [List.append_assoc] at hS
  obtain ⟨nr, hnr⟩ : ∃ q, (rtL T m).length = q := ⟨_, rfl⟩
  have hn32 : nr ≤ 32 := hnr ▸ hWo.r32 _ (hWo.rtl hml)
  have hln : LenV Try.prog 44 v nr := hv.len hnr
  have hone := hv.one
  have cv := cellV hv1
  obtain ⟨g, hg⟩ : ∃ q, b % 8 = q := ⟨_, rfl⟩
  have hg8 : g < 8 := by omega
  have rg : RemIs (b : Int) 8 (g : Int) := ⟨by rw [Int.tmod_eq_emod_of_nonneg (by omega)]; omega, by decide⟩
  obtain ⟨a8, ha8⟩ : ∃ q, a % 8 = q := ⟨_, rfl⟩
  have ra : RemIs (a : Int) 8 (a8 : Int) := ⟨by rw [Int.tmod_eq_emod_of_nonneg (by omega)]; omega, by decide⟩
  have qz := refE (refB_self 0 0)
  have hWo' := Lib.hid hWo
  have hvs' := Lib.hid hvs
  have hus' := Lib.hid hus
  have hset' := Lib.hid hset
  have hv1' := Lib.hid hv1
  have hlv' := Lib.hid hlv
  have hlu' := Lib.hid hlu
  have hnr' := Lib.hid hnr
  obtain rfl : a8 = 4 := by omega
  obtain ⟨⟨g1, g2⟩, hgv⟩ : ∃ q, T.2.2.getD g (0, 0) = q := ⟨_, rfl⟩
  have hgl : g < T.2.2.length := by rw [hWo.g8]; exact hg8
  have hgg : T.2.2[g]? = some (g1, g2) := by rw [List.getElem?_eq_getElem hgl, ← hgv, List.getD_eq_getElem?_getD, List.getElem?_eq_getElem hgl]; rfl
  have cg : CellsAt (wrC p M (.slice (some ⟨bv, 0, none⟩) mu mu) T.2.2) (0 + 3 + g * 2) 2 #[.int .i64 g1, .int .u32 g2] := blkCells slf_len (i := g) (a := (g1, g2)) hgg (by simp)
  have ixg := idxArr (P := Try.prog) (t := 30) (m := 8) (z := 2) (e := 29) (b := bm) (off := 0 + 3) (by kernel_rfl) (by kernel_rfl) hg8
  have hn0 : 0 < nr := by rw [hm] at hpos; omega
  have z0 : ((nr : Int) == 0) = false := beq_eq_false_iff_ne.2 (by omega)
  have z0' : decide ((nr : Int) = 0) = false := decide_eq_false (by omega)
  have z0'' : decide (nr = 0) = false := decide_eq_false (by omega)
  obtain ⟨q, hq⟩ : ∃ q, i % nr = q := ⟨_, rfl⟩
  have hqn : q < nr := by rw [← hq]; exact Nat.mod_lt _ hn0
  have rq : RemIs (i : Int) (nr : Int) (q : Int) := ⟨by rw [Int.tmod_eq_emod_of_nonneg (by omega)]; omega, by omega⟩
  have hql : q < (rtL T m).length := by rw [hnr]; exact hqn
  obtain ⟨⟨x1, x2⟩, hx⟩ : ∃ x, (rtL T m).getD q (0, 0) = x := ⟨_, rfl⟩
  obtain ⟨gq, sq, iq, hHq, cq⟩ := hv.at hql hx
  have iq := iq q rfl
  simp only at cq
  have hmem : (x1, x2) ∈ kyM ms := hx ▸ (hWo.rt hml hql).2.2
  obtain ⟨j, b0, l, hj, hob, hl4⟩ := hWo.ent hmem
  obtain ⟨u, Em1, eu, Em2, hu1, rfl, hu, huset⟩ := hus.at j l (by simp [mpF, hj])
  simp only [List.append_assoc] at hS
  obtain ⟨nl, hnl⟩ : ∃ q, l.length = q := ⟨_, rfl⟩
  have hlnu : LenV Try.prog 44 u nl := hu.len hnl
  have honeu := hu.one
  have hlk : ∀ w H, St w0 bs w H → LookIs Try.prog w 25 M #[.int .i64 x1, .int .u32 x2] false u := fun w H hS => look_mp (hB.now hS) hWo.mo.ks hj hu1 rfl false
  obtain ⟨f, hfb⟩ : ∃ q, b % 4 = q := ⟨_, rfl⟩
  have rf : RemIs (b : Int) 4 (f : Int) := ⟨by rw [Int.tmod_eq_emod_of_nonneg (by omega)]; omega, by decide⟩
  have hj' := Lib.hid hj
  have hu1' := Lib.hid hu1
  have huset' := Lib.hid huset
  have hql' := Lib.hid hql
  have hnl' := Lib.hid hnl
  have hl4' := Lib.hid hl4
  have hks' := Lib.hid hWo.mo.ks
  have hle' := Lib.hid (hWo.r32 _ (hWo.rtl hml))
  obtain ⟨hasb, hhb⟩ : ∃ b, decide ((f : Int) < (nl : Int)) = b := ⟨_, rfl⟩
  have ltf : LtIs (f : Int) (nl : Int) hasb := ⟨hhb⟩
  clear hhb
  have sg : SetsAt (wrC p M (.slice (some ⟨bv, 0, none⟩) mu mu) T.2.2) (0 + 3 + g * 2) #[.int .i64 x1, .int .u32 x2] (wrC p M (.slice (some ⟨bv, 0, none⟩) mu mu) (T.2.2.set g (x1, x2))) := blkSets slf_len (i := g) (a' := (x1, x2)) hgl (by simp)
  have qr := refE (refB_self g1 g2)
  have qx := refE (refB_self x1 x2)
  obtain ⟨h1, h2, h3, h4, hWn, _⟩ := hWo.putG hml hg8 (i := (q : Int)) (r := (x1, x2)) (.inr ⟨q, rfl, hql, hx⟩)
  rw [hgv] at h2
  have h4' := Lib.hid h4
  have hWn' := Lib.hid hWn
  have h1' := Lib.hid h1
  have h2' := Lib.hid h2
  have h3' := Lib.hid h3
  have hnx := Lib.hid (show nxT n mu T ms a mb i b c = ((T.1, T.2.1, T.2.2.set g (x1, x2)), ms) from by rw [nxT, if_neg (by omega), if_neg (by omega), if_neg (by omega), if_neg (by omega), if_neg (by omega), if_pos (by omega), hm, hnr, hq, hg, h1])
  clear h1 h2 h3 h4 hgv hgg hgl hWn
  clear hq hx hmem hj hob hl4 hu1 huset hnl hfb hpos hql
  clear hm hg hWo hvs hus hset hv1 hlv hlu hnr
  go_enter Try.func31, Try.ntmps31
  go_wp2_with ((refine wpList_is (.box 80 _) rfl ?_; go_must (refine wpList_stp (by kernel_rfl) (stp_bx _ _ rfl hS ?_)); clear hS; intro bt w _ hS))
  refine region_quiet hS (by kernel_rfl) (by kernel_rfl) (fun hne => ?_)
  go_big_quiet_want; (refine quiet_is (.fieldAddr _ _ _) rfl ?_; refine quiet_val (fun w _ => run_fa _ _ _ rfl) ?_; go_big_quiet_on)
  go_big_quiet_want; ((refine quiet_is (.load _ _) rfl ?_; refine quiet_at sw_st (fun w hS => run_ld _ _ rfl hS) ?_; go_big_quiet_on))
  go_big_quiet_want; (refine quiet_is (.convert _ _ _) rfl ?_; refine quiet_val (fun w _ => run_cvn _ _ _ rfl) ?_; go_big_quiet_on)
  go_big_quiet_want; (refine quiet_is (.move _) rfl ?_; refine quiet_val (fun w _ => run_mv _ rfl) ?_; go_big_quiet_on)
  go_big_quiet_want; (refine quiet_is (.nilCheck _) rfl ?_; refine quiet_val (fun w _ => run_nc _ rfl) ?_; go_big_quiet_on)
  go_big_quiet_want; (refine quiet_is (.fieldAddr _ _ _) rfl ?_; refine quiet_val (fun w _ => run_fa _ _ _ rfl) ?_; go_big_quiet_on)
  go_big_quiet_want; ((refine quiet_is (.load _ _) rfl ?_; refine quiet_at sw_st (fun w hS => run_ld _ _ rfl hS) ?_; go_big_quiet_on))
  go_big_quiet_want; (refine quiet_is (.call { callee := .builtin .len, args := #[_], argTypes := #[_] }) rfl ?_; refine quiet_val (fun w _ => run_lenv _ _ rfl) ?_; go_big_quiet_on)
  go_big_quiet_want; (refine quiet_is (.binOp .rem _ _ _ _) rfl ?_; refine quiet_val (fun w _ => run_remv _ _ _ _ rfl) ?_; go_big_quiet_on)
  go_big_quiet_want; (refine quiet_is (.assign _) rfl ?_; refine quiet_val (fun w _ => run_as _ rfl) ?_; go_big_quiet_on)
  refine wpQuiet_nil ?_
  clear hS hne
  intro w hS
  go_wp2_with (first | (refine wpList_is (o := ⟨some 9, _, _, _, _, _⟩) (.alloc _) rfl ?_; go_must (refine wpList_stp (by kernel_rfl) (stp_al _ rfl hS ?_)); clear hS; intro bz w _ hS) | (refine wpList_is (o := ⟨some 23, _, _, _, _, _⟩) (.alloc _) rfl ?_; go_must (refine wpList_stp (by kernel_rfl) (stp_al _ rfl hS ?_)); clear hS; intro b23 w _ hS) | (refine wpList_is (.load 29 _) rfl ?_; refine wpList_stp (by kernel_rfl) (stp_val (run_lda _ _ rfl hS) ?_)) | (refine wpList_is (.convert _ _ _) rfl ?_; refine wpList_stp (by kernel_rfl) (stp_val (run_cvn _ _ _ rfl) ?_)) | (refine wpList_is (.binOp .rem _ _ _ _) rfl ?_; refine wpList_stp (by kernel_rfl) (stp_val (run_remv _ _ _ _ rfl) ?_)) | (refine wpList_is (.call { callee := .builtin .len, args := #[_], argTypes := #[_] }) rfl ?_; refine wpList_stp (by kernel_rfl) (stp_val (run_lenv _ _ rfl) ?_)) | (refine wpList_is (.indexAddr _ _ _) rfl ?_; refine wpList_stp (by kernel_rfl) (stp_val (run_idxv _ _ _ rfl) ?_)) | (refine wpList_is (.build _ _) rfl ?_; go_must (refine wpList_stp (by kernel_rfl) (stp_val (run_bd _ _ rfl) ?_))) | (refine wpList_is (.load _ _) rfl ?_; go_must ((refine wpList_stp (by kernel_rfl) (stp_val (run_ld _ _ rfl hS) ?_)))) | (refine wpList_is (.store _ _ _) rfl ?_; go_must ((refine wpList_stp (by kernel_rfl) (stp_sta _ _ _ rfl hS ?_))); clear hS; intro w hS))
  go_wp2_with ((go_skip))
  refine region_quiet hS (by kernel_rfl) (by kernel_rfl) (fun hne => ?_)
  go_big_quiet_want; (refine quiet_is (.move _) rfl ?_; refine quiet_val (fun w _ => run_mv _ rfl) ?_; go_big_quiet_on)
  go_big_quiet_want; (refine quiet_is (.move _) rfl ?_; refine quiet_val (fun w _ => run_mv _ rfl) ?_; go_big_quiet_on)
  go_big_quiet_want; (refine quiet_is (.nilCheck _) rfl ?_; refine quiet_val (fun w _ => run_nc _ rfl) ?_; go_big_quiet_on)
  go_big_quiet_want; (refine quiet_is (.fieldAddr _ _ _) rfl ?_; refine quiet_val (fun w _ => run_fa _ _ _ rfl) ?_; go_big_quiet_on)
  go_big_quiet_want; ((refine quiet_is (.load _ _) rfl ?_; refine quiet_at sw_st (fun w hS => run_ld _ _ rfl hS) ?_; go_big_quiet_on))
  go_big_quiet_want; ((refine quiet_is (.load _ _) rfl ?_; refine quiet_at sw_st (fun w hS => run_lda _ _ rfl hS) ?_; go_big_quiet_on))
  go_big_quiet_want; (refine quiet_is (.lookup _ _ _ _) rfl ?_; refine quiet_at sw_st (fun w hS => run_look _ _ _ rfl (hlk _ _ hS)) ?_; go_big_quiet_on)
  go_big_quiet_want; (refine quiet_is (.call { callee := .builtin .len, args := #[_], argTypes := #[_] }) rfl ?_; refine quiet_val (fun w _ => run_lenv _ _ rfl) ?_; go_big_quiet_on)
  go_big_quiet_want; ((refine quiet_is (.binOp .lss _ _ _ _) rfl ?_; refine quiet_val (fun w _ => run_lssv _ _ _ _ rfl) ?_; go_big_quiet_on))
  go_big_quiet_want; (refine quiet_is (.assign _) rfl ?_; refine quiet_val (fun w _ => run_as _ rfl) ?_; go_big_quiet_on)
  refine wpQuiet_nil ?_
  clear hS hne
  intro w hS
  go_wp2_with (first | (refine wpList_is (o := ⟨some 36, _, _, _, _, _⟩) (.alloc _) rfl ?_; go_must (refine wpList_stp (by kernel_rfl) (stp_al _ rfl hS ?_)); clear hS; intro bx1 w _ hS) | (refine wpList_is (o := ⟨some 37, _, _, _, _, _⟩) (.alloc _) rfl ?_; go_must (refine wpList_stp (by kernel_rfl) (stp_al _ rfl hS ?_)); clear hS; intro bx2 w _ hS) | (go_at_call 12; go_must (refine ar_put hS hT m q g (T.1, T.2.1, T.2.2.set g (x1, x2)) (g1, g2) (x1, x2) 0 h1'.out h2'.out h3'.out h4'.out ?_); clear hS; intro E3 w hT2 hS; unfold Ret) | (refine wpList_is (.binOp .rem _ _ _ _) rfl ?_; refine wpList_stp (by kernel_rfl) (stp_val (run_remv _ _ _ _ rfl) ?_)) | (refine wpList_is (.load _ _) rfl ?_; go_must ((refine wpList_stp (by kernel_rfl) (stp_val (run_ld _ _ rfl hS) ?_)))) | (refine wpList_is (.store _ _ _) rfl ?_; go_must ((refine wpList_stp (by kernel_rfl) (stp_sta _ _ _ rfl hS ?_))); clear hS; intro w hS))
  refine region_quiet hS (by kernel_rfl) (by kernel_rfl) (fun hne => ?_)
  go_big_quiet_want; (refine quiet_is (.move _) rfl ?_; refine quiet_val (fun w _ => run_mv _ rfl) ?_; go_big_quiet_on)
  go_big_quiet_want; (go_big_quiet_op; go_big_quiet_on)
  go_big_quiet_want; (refine quiet_is (.move _) rfl ?_; refine quiet_val (fun w _ => run_mv _ rfl) ?_; go_big_quiet_on)
  (go_big_quiet_want; (refine quiet_is (.load _ _) rfl ?_; refine quiet_at sw_st (fun w hS => run_lda _ _ rfl hS) ?_; go_big_quiet_on))
  (go_big_quiet_want; refine quiet_is (.move _) rfl ?_; refine quiet_val (fun w _ => run_mv _ rfl) ?_; go_big_quiet_on)
  (go_big_quiet_want; refine quiet_is (.move _) rfl ?_; refine quiet_val (fun w _ => run_mv _ rfl) ?_; go_big_quiet_on)
  (go_big_quiet_want; refine quiet_is (.nilCheck _) rfl ?_; refine quiet_val (fun w _ => run_nc _ rfl) ?_; go_big_quiet_on)
  (go_big_quiet_want; refine quiet_is (.fieldAddr _ _ _) rfl ?_; refine quiet_val (fun w _ => run_fa _ _ _ rfl) ?_; go_big_quiet_on)
  (go_big_quiet_want; refine quiet_is (.indexAddr _ _ _) rfl ?_; refine quiet_val (fun w _ => run_idxv _ _ _ rfl) ?_; go_big_quiet_on)
  (go_big_quiet_want; (refine quiet_is (.load _ _) rfl ?_; refine quiet_at sw_st (fun w hS => run_lda _ _ rfl hS) ?_; go_big_quiet_on))
  (go_big_quiet_want; refine quiet_is (.binOp .eql _ _ _ _) rfl ?_; refine quiet_val (fun w _ => run_aeq _ _ _ _ rfl) ?_; go_big_quiet_on)
  go_big_quiet_want; ((refine quiet_is (.pick _ _ _) rfl ?_; refine quiet_val (fun w _ => run_pk1 _ _ _ rfl) ?_; go_big_quiet_on))
  go_big_quiet_want; (refine quiet_is (.move _) rfl ?_; refine quiet_val (fun w _ => run_mv _ rfl) ?_; go_big_quiet_on)
  (go_big_quiet_want; (refine quiet_is (.load _ _) rfl ?_; refine quiet_at sw_st (fun w hS => run_lda _ _ rfl hS) ?_; go_big_quiet_on))
  (go_big_quiet_want; (refine quiet_is (.load _ _) rfl ?_; refine quiet_at sw_st (fun w hS => run_lda _ _ rfl hS) ?_; go_big_quiet_on))
  (go_big_quiet_want; refine quiet_is (.binOp .eql _ _ _ _) rfl ?_; refine quiet_val (fun w _ => run_aeq _ _ _ _ rfl) ?_; go_big_quiet_on)
  go_big_quiet_want; ((refine quiet_is (.pick _ _ _) rfl ?_; refine quiet_val (fun w _ => run_pk1 _ _ _ rfl) ?_; go_big_quiet_on))
  go_big_quiet_want; (refine quiet_is (.assign _) rfl ?_; refine quiet_val (fun w _ => run_as _ rfl) ?_; go_big_quiet_on)
  refine wpQuiet_nil ?_
  clear hS hne
  intro w hS
  go_wp2_with ((go_skip))
  have hS : St w0 bs _ (wdE bm p M bv mu T.2.2 :: (⟨bt, #[.int .u8 a, .int .u8 mb, .int .u8 i, .int .u8 b, .int .u8 c], 80, true⟩ :: ⟨bx1, #[.int .i64 g1, .int .u32 g2], 29, true⟩ :: ⟨bx2, #[.int .i64 x1, .int .u32 x2], 29, true⟩ :: ⟨bz, #[.int .i64 0, .int .u32 0], 29, true⟩ :: ⟨b23, #[.int .i64 x1, .int .u32 x2], 29, true⟩ :: rvE bv vs :: (E3 ++ (E1 ++ (e ++ (E2 ++ (Em1 ++ (eu ++ (Em2 ++ H))))))))) := hS.pick
  refine region_itemsE [⟨(undef, [wdE bm p M bv mu T.2.2]), [(6, fun _ x => x.2 = [wdE bm p M bv mu (T.2.2.set g (x1, x2))])]⟩]
    (⟨bt, #[.int .u8 a, .int .u8 mb, .int .u8 i, .int .u8 b, .int .u8 c], 80, true⟩ :: ⟨bx1, #[.int .i64 g1, .int .u32 g2], 29, true⟩ :: ⟨bx2, #[.int .i64 x1, .int .u32 x2], 29, true⟩ :: ⟨bz, #[.int .i64 0, .int .u32 0], 29, true⟩ :: ⟨b23, #[.int .i64 x1, .int .u32 x2], 29, true⟩ :: rvE bv vs :: (E3 ++ (E1 ++ (e ++ (E2 ++ (Em1 ++ (eu ++ (Em2 ++ H)))))))) (wdE bm p M bv mu T.2.2 :: (⟨bt, #[.int .u8 a, .int .u8 mb, .int .u8 i, .int .u8 b, .int .u8 c], 80, true⟩ :: ⟨bx1, #[.int .i64 g1, .int .u32 g2], 29, true⟩ :: ⟨bx2, #[.int .i64 x1, .int .u32 x2], 29, true⟩ :: ⟨bz, #[.int .i64 0, .int .u32 0], 29, true⟩ :: ⟨b23, #[.int .i64 x1, .int .u32 x2], 29, true⟩ :: rvE bv vs :: (E3 ++ (E1 ++ (e ++ (E2 ++ (Em1 ++ (eu ++ (Em2 ++ H))))))))) (by simp) hS (by kernel_rfl) (by kernel_rfl) ?_
  refine fx_val (fun _ => rfl) rfl (fun χ w hw => run_mv _ rfl) ?_
  refine fx_val (fun _ => rfl) rfl (fun χ w hw => run_mv _ rfl) ?_
  (refine fx_val (fun _ => rfl) rfl (fun χ w hw => run_lda _ _ rfl hw) ?_)
  refine fx_val (fun _ => rfl) rfl (fun χ w hw => run_nc _ rfl) ?_
  refine fx_val (fun _ => rfl) rfl (fun χ w hw => run_fa _ _ _ rfl) ?_
  refine fx_val (fun _ => rfl) rfl (fun χ w hw => run_idxv _ _ _ rfl) ?_
  refine fx_turn0 0 0 rfl rfl (by kernel_rfl) (by kernel_rfl) (by kernel_rfl) (fun _ => rfl) (fun _ => undef) ?_ ?_
  · intro χ X w _ hS
    exact stepX_sta _ _ _ rfl (show St w0 bs w (wdE bm p M bv mu T.2.2 :: (X ++ _)) from hS) (fun w' hS' => ⟨(undef, [wdE bm p M bv mu (T.2.2.set g (x1, x2))]), rfl, rfl, hS'⟩)
  refine fx_end rfl ?_
  intro χ w hok hS
  obtain ⟨hD, _⟩ := hok _ (.head _)
  have hD : (χ 6).2 = [wdE bm p M bv mu (T.2.2.set g (x1, x2))] := hD
  have hS : St w0 bs w (((χ 6).2 ++ []) ++ (⟨bt, #[.int .u8 a, .int .u8 mb, .int .u8 i, .int .u8 b, .int .u8 c], 80, true⟩ :: ⟨bx1, #[.int .i64 g1, .int .u32 g2], 29, true⟩ :: ⟨bx2, #[.int .i64 x1, .int .u32 x2], 29, true⟩ :: ⟨bz, #[.int .i64 0, .int .u32 0], 29, true⟩ :: ⟨b23, #[.int .i64 x1, .int .u32 x2], 29, true⟩ :: rvE bv vs :: (E3 ++ (E1 ++ (e ++ (E2 ++ (Em1 ++ (eu ++ (Em2 ++ H))))))))) := hS
  rw [hD] at hS
  simp only [List.cons_append, List.nil_append, List.append_assoc] at hS
  clear hok hD
  go_wp2_with ((go_skip))
  exact hR _ (by rw [hnx.out]; exact (show WX W bm n mu (k + 1) H _ (T.1, T.2.1, T.2.2.set g (x1, x2)) ms from ⟨w0, bs, M, p, bv, vs, us, E3, _, _, hB, by simp only [List.append_assoc]; exact hS.pick, hT2, hvs'.out, hus'.out, hWn'.out⟩))
end Go.Proofs.Ytjlihigodggfcaa
