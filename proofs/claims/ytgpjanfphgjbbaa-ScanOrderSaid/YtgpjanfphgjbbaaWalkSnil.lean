/-
  The walk of ScanNil.
-/
import Derived.Test.YtgpjanfphgjbbaaWks
set_option linter.unusedSimpArgs false
set_option linter.unusedVariables false
namespace Go.Proofs.Ytgpjanfphgjbbaa
open Go Go.RowKit Go.Mm
variable {R : Ending → World → Prop}
instance sn_bh : BuildT Try.prog 41 [] (hpC none 0 zero256) := ⟨fun w => by kernel_rfl⟩
instance sn_bc : BuildT Try.prog 44 [] (Col.paintCells 0 Col.zerosL) := ⟨fun w => by kernel_rfl⟩
instance sn_bs : BuildT Try.prog 49 [] (sqC false 0 0 0 zeroS) := ⟨fun w => by kernel_rfl⟩
def nH : Hp := nwH 3 1
def nT : Cq := nwC 3
def nU : Sq := nwS 3
theorem wi_ne {T : Hp} (h : hpOk T = true) {p : Option Addr} {E : List Ent} (hT : HA p T E) (s g : Int) : wiH T s g ≠ 1 := by
  rcases T with _ | _ | L
  · cases h
  · cases h
  have h0 : 0 < (tbH L).length := by rw [tbH_len]; exact hT.1.lo
  simp only [wiH, ckE, if_pos h0]
  split
  · split <;> decide
  · decide
theorem pu_ne {S : Sq} (h : okS S = true) (x : Int) : puE S x ≠ 1 := by
  rcases S with _ | _ | ⟨z, o, l⟩
  · cases h
  · cases h
  simp only [puE]
  split <;> decide
theorem of_ne {T : Cq} (h : okC T = true) (x : Int) : ofE T x ≠ 1 := by
  rcases T with _ | _ | ⟨n, l⟩
  · cases h
  · cases h
  simp only [ofE]
  split <;> decide
theorem sk_ne {T : Cq} {S : Sq} (h1 : okC T = true) (h2 : okS S = true) (x : Int) : skE T S x ≠ 1 := by
  have hv : vlE T S = true := by simp [vlE, h1, h2]
  rw [skE, if_pos hv]
  split
  · exact pu_ne h2 x
  · exact of_ne h1 x
theorem rs_ne {T : Cq} {S : Sq} (h1 : okC T = true) (h2 : okS S = true) (x : Int) : rsE T S x ≠ 1 := by
  have hv : vlE T S = true := by simp [vlE, h1, h2]
  rw [rsE, if_pos hv]
  split
  · split
    · exact pu_ne h2 _
    · decide
  · decide
theorem ne_d {e : Int} (h : e ≠ 1) : decide (e = 1) = false ∧ (e == 1) = false := ⟨decide_eq_false h, beq_eq_false_iff_ne.2 h⟩
theorem ok_ref {cs : List Value} (h : OkCells [.i .i64, .i .u32] cs) : ∃ (s g : Int), cs = [.int .i64 s, .int .u32 g] ∧ (Lit.int .u32 g).wf = true := by
  cases h with
  | cons h1 h => cases h with
    | cons h2 h =>
      cases h
      obtain ⟨s, rfl, _⟩ := h1
      obtain ⟨g, rfl, w2⟩ := h2
      exact ⟨s, g, rfl, w2⟩
theorem okC_sk (n : Int) : okC (skT nT nU n) = true := by
  rw [skT, if_pos (show vlE nT nU = true from by decide)]
  unfold nT nwC shC
  rw [if_pos (by decide)]
  split <;> (split <;> rfl)
theorem okS_pu {S : Sq} (h : okS S = true) (x : Int) : okS (puT S x) = true := by
  rcases S with _ | _ | ⟨z, o, l⟩
  · cases h
  · cases h
  simp only [puT]
  split
  · rfl
  · split <;> rfl
theorem okS_sk (n : Int) : okS (skS nT nU n) = true := by
  rw [skS]
  split
  · exact okS_pu rfl n
  · rfl
theorem okS_rs {T : Cq} {S : Sq} (h : okS S = true) (n : Int) : okS (rsS T S n) = true := by
  rw [rsS]
  split
  · exact okS_pu h _
  · exact h
theorem sc_no {Hh : Hp} {T : Cq} {S : Sq} {s g : Int} (h : scV Hh T S = false) : scT Hh T S s g = T ∧ scS Hh T S s g = S ∧ scN Hh T S s g = 0 ∧ scE Hh T S s g = 1 := by
  have hg : scG Hh T S s g = false := by rw [scG, h]; rfl
  simp only [scT, scS, scN, scE, hg, h]
  exact ⟨rfl, rfl, rfl, rfl⟩
theorem nSound : soR nH nT = (true, 0) := by decide +kernel
set_option maxHeartbeats 8000000 in
set_option maxRecDepth 100000 in
theorem snil_0 {W : World} {wh s g n : Int} (hk : wh % 6 = 0) (h0 : 0 ≤ wh) (hR : ∀ w', Chg W w' [] → Ret R (.bool true) w') :
    Calls Try.prog 3 #[.int .u8 wh, .agg #[.int .i64 s, .int .u32 g], .int .i64 n] W R := by
  have hS : St W [] W [] := St.start0
  have rm : RemIs wh 6 0 := ⟨by rw [Int.tmod_eq_emod_of_nonneg h0]; exact hk, by decide⟩
  clear hk
  go_enter Try.func3, Try.ntmps3
  go_wp2_with (first | (refine wpList_is (.binOp .rem _ _ _ _) rfl ?_; refine wpList_stp (by kernel_rfl) (stp_val (run_remv _ _ _ _ rfl) ?_)) | (refine wpList_is (.box 24 _) rfl ?_; go_must (refine wpList_stp (by kernel_rfl) (stp_bx _ _ rfl hS ?_)); clear hS; intro b4 w _ hS) | (go_at_call 7; (with_reducible refine hp_new hS 3 1 (by decide) nH 0 rfl (by decide) ?_); clear hS; intro ph E0 w hH0 hS; unfold Ret) | (go_at_call 8; (with_reducible refine pn_new hS 3 nT 0 rfl (by decide) ?_); clear hS; intro pq E1 w hT0 hS; unfold Ret) | (go_at_call 9; (with_reducible refine sq_new hS 3 nU 0 rfl (by decide) ?_); clear hS; intro pr E2 w hU0 hS; unfold Ret) | (refine wpList_is (.load _ _) rfl ?_; go_must ((refine wpList_stp (by kernel_rfl) (stp_val (run_lda _ _ rfl hS) ?_)))))
  have hH : HA none (none : Hp) [] := ⟨rfl, rfl⟩
  obtain ⟨Eb, hEb⟩ : ∃ E, ([] : List Ent) = E := ⟨_, rfl⟩
  rw [hEb] at hH
  have hSb : St W [] w (Eb ++ (E1 ++ (E2 ++ [⟨b4, #[.int .i64 s, .int .u32 g], 24, true⟩]))) := by
    rw [← hEb]; simp only [List.cons_append, List.nil_append]; exact hS.pick
  clear hS hEb
  have hS := hSb
  clear hSb
  have hT := hT0
  have hU := hU0
  obtain ⟨l, hl⟩ : ∃ l, chdR (none) s g = l := ⟨_, rfl⟩
  obtain rfl : [] = l := hl
  have hln0 : ([] : List Int).length = 0 := rfl
  obtain ⟨f, hf⟩ : ∃ f, skE nT nU n = f := ⟨_, rfl⟩
  obtain ⟨d3, d4⟩ := ne_d (hf ▸ sk_ne (T := nT) (S := nU) rfl rfl n)
  obtain ⟨T1, hT1⟩ : ∃ q, skT nT nU n = q := ⟨_, rfl⟩
  obtain ⟨U1, hU1⟩ : ∃ q, skS nT nU n = q := ⟨_, rfl⟩
  have k1 : okC T1 = true := by rw [← hT1]; exact okC_sk n
  have k2 : okS U1 = true := by rw [← hU1]; exact okS_sk n
  obtain ⟨i, hi⟩ : ∃ i, rsE T1 U1 n = i := ⟨_, rfl⟩
  obtain ⟨d5, d6⟩ := ne_d (hi ▸ rs_ne k1 k2 n)
  have hdn : ∀ S, okS S = true → dnE T1 S = 0 := fun S hS => by rw [dnE, if_pos (by simp [vlE, k1, hS])]
  have k3 : okS (rsS T1 U1 n) = true := okS_rs k2 n
  go_wp2_with (first | (go_at_call 10; (with_reducible refine sc_children hS hH s g _ 1 rfl rfl ?_); clear hS; intro v Ev w hI _ hS; have hone := hI.one; have hln := hI.len (n := 0) rfl; unfold Ret) | (go_at_call 11; (with_reducible refine sc_shade hS hT hU n T1 U1 _ f hT1 hU1 rfl hf ?_); clear hS hT hU; intro E1 E2 w hT hU hS; unfold Ret) | (go_at_call 12; (with_reducible refine sc_scan hS hH hT hU s g T1 U1 0 1 rfl rfl rfl rfl ?_); clear hS hT hU; intro E1 E2 w hT hU hS; unfold Ret) | (go_at_call 13; (with_reducible refine sc_rescan hS hT hU n _ _ _ i rfl rfl rfl hi ?_); clear hS hU; intro E2 w hU hS; unfold Ret) | (go_at_call 14; (with_reducible refine sc_done hS hT hU _ 0 rfl (hdn _ k3) ?_); clear hS; intro w hS; unfold Ret) | (go_at_call 15; (with_reducible refine sc_sound hS hH hT false 1 rfl ?_); clear hS; intro w hS; unfold Ret) | (go_at_call 16; refine works_ok hS ?_; clear hS; intro w hS; unfold Ret) | (refine wpList_is (.call { callee := .builtin .len, args := #[_], argTypes := #[_] }) rfl ?_; refine wpList_stp (by kernel_rfl) (stp_val (run_lenv _ _ rfl) ?_)) | (refine wpList_is (.load _ _) rfl ?_; go_must ((refine wpList_stp (by kernel_rfl) (stp_val (run_lda _ _ rfl hS) ?_)))))
  exact hR _ hS.chg
set_option maxHeartbeats 8000000 in
set_option maxRecDepth 100000 in
theorem snil_1 {W : World} {wh s g n : Int} (hk : wh % 6 = 1) (h0 : 0 ≤ wh) (hR : ∀ w', Chg W w' [] → Ret R (.bool true) w') :
    Calls Try.prog 3 #[.int .u8 wh, .agg #[.int .i64 s, .int .u32 g], .int .i64 n] W R := by
  have hS : St W [] W [] := St.start0
  have rm : RemIs wh 6 1 := ⟨by rw [Int.tmod_eq_emod_of_nonneg h0]; exact hk, by decide⟩
  clear hk
  go_enter Try.func3, Try.ntmps3
  go_wp2_with (first | (refine wpList_is (.binOp .rem _ _ _ _) rfl ?_; refine wpList_stp (by kernel_rfl) (stp_val (run_remv _ _ _ _ rfl) ?_)) | (refine wpList_is (.box 24 _) rfl ?_; go_must (refine wpList_stp (by kernel_rfl) (stp_bx _ _ rfl hS ?_)); clear hS; intro b4 w _ hS) | (go_at_call 7; (with_reducible refine hp_new hS 3 1 (by decide) nH 0 rfl (by decide) ?_); clear hS; intro ph E0 w hH0 hS; unfold Ret) | (go_at_call 8; (with_reducible refine pn_new hS 3 nT 0 rfl (by decide) ?_); clear hS; intro pq E1 w hT0 hS; unfold Ret) | (go_at_call 9; (with_reducible refine sq_new hS 3 nU 0 rfl (by decide) ?_); clear hS; intro pr E2 w hU0 hS; unfold Ret) | (refine wpList_is (.box 41 _) rfl ?_; go_must (refine wpList_stp (by kernel_rfl) (stp_bx _ _ rfl hS ?_)); clear hS; intro bz w _ hS) | (refine wpList_is (.build _ _) rfl ?_; go_must (refine wpList_stp (by kernel_rfl) (stp_val (run_bd _ _ rfl) ?_))) | (refine wpList_is (.load _ _) rfl ?_; go_must ((refine wpList_stp (by kernel_rfl) (stp_val (run_lda _ _ rfl hS) ?_)))))
  have hH : HA (some ⟨bz, 0, none⟩) (some none : Hp) [⟨bz, hpC none 0 zero256, 41, true⟩] := ⟨bz, rfl, rfl⟩
  obtain ⟨Eb, hEb⟩ : ∃ E, ([⟨bz, hpC none 0 zero256, 41, true⟩] : List Ent) = E := ⟨_, rfl⟩
  rw [hEb] at hH
  have hSb : St W [] w (Eb ++ (E1 ++ (E2 ++ [⟨b4, #[.int .i64 s, .int .u32 g], 24, true⟩]))) := by
    rw [← hEb]; simp only [List.cons_append, List.nil_append]; exact hS.pick
  clear hS hEb
  have hS := hSb
  clear hSb
  have hT := hT0
  have hU := hU0
  obtain ⟨l, hl⟩ : ∃ l, chdR (some none) s g = l := ⟨_, rfl⟩
  obtain rfl : [] = l := hl
  have hln0 : ([] : List Int).length = 0 := rfl
  obtain ⟨f, hf⟩ : ∃ f, skE nT nU n = f := ⟨_, rfl⟩
  obtain ⟨d3, d4⟩ := ne_d (hf ▸ sk_ne (T := nT) (S := nU) rfl rfl n)
  obtain ⟨T1, hT1⟩ : ∃ q, skT nT nU n = q := ⟨_, rfl⟩
  obtain ⟨U1, hU1⟩ : ∃ q, skS nT nU n = q := ⟨_, rfl⟩
  have k1 : okC T1 = true := by rw [← hT1]; exact okC_sk n
  have k2 : okS U1 = true := by rw [← hU1]; exact okS_sk n
  obtain ⟨i, hi⟩ : ∃ i, rsE T1 U1 n = i := ⟨_, rfl⟩
  obtain ⟨d5, d6⟩ := ne_d (hi ▸ rs_ne k1 k2 n)
  have hdn : ∀ S, okS S = true → dnE T1 S = 0 := fun S hS => by rw [dnE, if_pos (by simp [vlE, k1, hS])]
  have k3 : okS (rsS T1 U1 n) = true := okS_rs k2 n
  go_wp2_with (first | (go_at_call 10; (with_reducible refine sc_children hS hH s g _ 1 rfl rfl ?_); clear hS; intro v Ev w hI _ hS; have hone := hI.one; have hln := hI.len (n := 0) rfl; unfold Ret) | (go_at_call 11; (with_reducible refine sc_shade hS hT hU n T1 U1 _ f hT1 hU1 rfl hf ?_); clear hS hT hU; intro E1 E2 w hT hU hS; unfold Ret) | (go_at_call 12; (with_reducible refine sc_scan hS hH hT hU s g T1 U1 0 1 rfl rfl rfl rfl ?_); clear hS hT hU; intro E1 E2 w hT hU hS; unfold Ret) | (go_at_call 13; (with_reducible refine sc_rescan hS hT hU n _ _ _ i rfl rfl rfl hi ?_); clear hS hU; intro E2 w hU hS; unfold Ret) | (go_at_call 14; (with_reducible refine sc_done hS hT hU _ 0 rfl (hdn _ k3) ?_); clear hS; intro w hS; unfold Ret) | (go_at_call 15; (with_reducible refine sc_sound hS hH hT false 1 rfl ?_); clear hS; intro w hS; unfold Ret) | (go_at_call 16; refine works_ok hS ?_; clear hS; intro w hS; unfold Ret) | (refine wpList_is (.call { callee := .builtin .len, args := #[_], argTypes := #[_] }) rfl ?_; refine wpList_stp (by kernel_rfl) (stp_val (run_lenv _ _ rfl) ?_)) | (refine wpList_is (.load _ _) rfl ?_; go_must ((refine wpList_stp (by kernel_rfl) (stp_val (run_lda _ _ rfl hS) ?_)))))
  exact hR _ hS.chg
set_option maxHeartbeats 8000000 in
set_option maxRecDepth 100000 in
theorem snil_2 {W : World} {wh s g n : Int} (hk : wh % 6 = 2) (h0 : 0 ≤ wh) (hR : ∀ w', Chg W w' [] → Ret R (.bool true) w') :
    Calls Try.prog 3 #[.int .u8 wh, .agg #[.int .i64 s, .int .u32 g], .int .i64 n] W R := by
  have hS : St W [] W [] := St.start0
  have rm : RemIs wh 6 2 := ⟨by rw [Int.tmod_eq_emod_of_nonneg h0]; exact hk, by decide⟩
  clear hk
  go_enter Try.func3, Try.ntmps3
  go_wp2_with (first | (refine wpList_is (.binOp .rem _ _ _ _) rfl ?_; refine wpList_stp (by kernel_rfl) (stp_val (run_remv _ _ _ _ rfl) ?_)) | (refine wpList_is (.box 24 _) rfl ?_; go_must (refine wpList_stp (by kernel_rfl) (stp_bx _ _ rfl hS ?_)); clear hS; intro b4 w _ hS) | (go_at_call 7; (with_reducible refine hp_new hS 3 1 (by decide) nH 0 rfl (by decide) ?_); clear hS; intro ph E0 w hH0 hS; unfold Ret) | (go_at_call 8; (with_reducible refine pn_new hS 3 nT 0 rfl (by decide) ?_); clear hS; intro pq E1 w hT0 hS; unfold Ret) | (go_at_call 9; (with_reducible refine sq_new hS 3 nU 0 rfl (by decide) ?_); clear hS; intro pr E2 w hU0 hS; unfold Ret) | (refine wpList_is (.load _ _) rfl ?_; go_must ((refine wpList_stp (by kernel_rfl) (stp_val (run_lda _ _ rfl hS) ?_)))))
  have hT : KA none (none : Cq) [] := ⟨rfl, rfl⟩
  obtain ⟨Eb, hEb⟩ : ∃ E, ([] : List Ent) = E := ⟨_, rfl⟩
  rw [hEb] at hT
  have hSb : St W [] w (Eb ++ (E0 ++ (E2 ++ [⟨b4, #[.int .i64 s, .int .u32 g], 24, true⟩]))) := by
    rw [← hEb]; simp only [List.cons_append, List.nil_append]; exact hS.pick
  clear hS hEb
  have hS := hSb
  clear hSb
  have hH := hH0
  have hU := hU0
  obtain ⟨l, hl⟩ : ∃ l, chdR nH s g = l := ⟨_, rfl⟩
  obtain ⟨e, he⟩ : ∃ e, wiH nH s g = e := ⟨_, rfl⟩
  obtain ⟨d1, d2⟩ := ne_d (he ▸ wi_ne rfl hH0 s g)
  obtain ⟨q1, q2, q3, q4⟩ := sc_no (Hh := nH) (T := (none)) (S := nU) (s := s) (g := g) (by decide)
  go_wp2_with (first | (go_at_call 10; (with_reducible refine sc_children hS hH s g _ e hl he ?_); clear hS; intro v Ev w hI _ hS; have hone := hI.one; unfold Ret) | (go_at_call 11; (with_reducible refine sc_shade hS hT hU n (none) nU false 1 rfl rfl rfl rfl ?_); clear hS hT hU; intro Eb E2 w hT hU hS; unfold Ret) | (go_at_call 12; (with_reducible refine sc_scan hS hH hT hU s g (none) nU 0 1 q1 q2 q3 q4 ?_); clear hS hT hU; intro Eb E2 w hT hU hS; unfold Ret) | (go_at_call 13; (with_reducible refine sc_rescan hS hT hU n nU 0 false 1 rfl rfl rfl rfl ?_); clear hS hU; intro E2 w hU hS; unfold Ret) | (go_at_call 14; (with_reducible refine sc_done hS hT hU false 1 rfl rfl ?_); clear hS; intro w hS; unfold Ret) | (go_at_call 15; (with_reducible refine sc_sound hS hH hT false 1 rfl ?_); clear hS; intro w hS; unfold Ret) | (go_at_call 16; refine works_ok hS ?_; clear hS; intro w hS; unfold Ret) | (refine wpList_is (.load _ _) rfl ?_; go_must ((refine wpList_stp (by kernel_rfl) (stp_val (run_lda _ _ rfl hS) ?_)))))
  exact hR _ hS.chg
set_option maxHeartbeats 8000000 in
set_option maxRecDepth 100000 in
theorem snil_3 {W : World} {wh s g n : Int} (hk : wh % 6 = 3) (h0 : 0 ≤ wh) (hR : ∀ w', Chg W w' [] → Ret R (.bool true) w') :
    Calls Try.prog 3 #[.int .u8 wh, .agg #[.int .i64 s, .int .u32 g], .int .i64 n] W R := by
  have hS : St W [] W [] := St.start0
  have rm : RemIs wh 6 3 := ⟨by rw [Int.tmod_eq_emod_of_nonneg h0]; exact hk, by decide⟩
  clear hk
  go_enter Try.func3, Try.ntmps3
  go_wp2_with (first | (refine wpList_is (.binOp .rem _ _ _ _) rfl ?_; refine wpList_stp (by kernel_rfl) (stp_val (run_remv _ _ _ _ rfl) ?_)) | (refine wpList_is (.box 24 _) rfl ?_; go_must (refine wpList_stp (by kernel_rfl) (stp_bx _ _ rfl hS ?_)); clear hS; intro b4 w _ hS) | (go_at_call 7; (with_reducible refine hp_new hS 3 1 (by decide) nH 0 rfl (by decide) ?_); clear hS; intro ph E0 w hH0 hS; unfold Ret) | (go_at_call 8; (with_reducible refine pn_new hS 3 nT 0 rfl (by decide) ?_); clear hS; intro pq E1 w hT0 hS; unfold Ret) | (go_at_call 9; (with_reducible refine sq_new hS 3 nU 0 rfl (by decide) ?_); clear hS; intro pr E2 w hU0 hS; unfold Ret) | (refine wpList_is (.box 44 _) rfl ?_; go_must (refine wpList_stp (by kernel_rfl) (stp_bx _ _ rfl hS ?_)); clear hS; intro bz w _ hS) | (refine wpList_is (.build _ _) rfl ?_; go_must (refine wpList_stp (by kernel_rfl) (stp_val (run_bd _ _ rfl) ?_))) | (refine wpList_is (.load _ _) rfl ?_; go_must ((refine wpList_stp (by kernel_rfl) (stp_val (run_lda _ _ rfl hS) ?_)))))
  have hT : KA (some ⟨bz, 0, none⟩) (some none : Cq) [⟨bz, Col.paintCells 0 Col.zerosL, 44, true⟩] := ⟨bz, rfl, rfl⟩
  obtain ⟨Eb, hEb⟩ : ∃ E, ([⟨bz, Col.paintCells 0 Col.zerosL, 44, true⟩] : List Ent) = E := ⟨_, rfl⟩
  rw [hEb] at hT
  have hSb : St W [] w (Eb ++ (E0 ++ (E2 ++ [⟨b4, #[.int .i64 s, .int .u32 g], 24, true⟩]))) := by
    rw [← hEb]; simp only [List.cons_append, List.nil_append]; exact hS.pick
  clear hS hEb
  have hS := hSb
  clear hSb
  have hH := hH0
  have hU := hU0
  obtain ⟨l, hl⟩ : ∃ l, chdR nH s g = l := ⟨_, rfl⟩
  obtain ⟨e, he⟩ : ∃ e, wiH nH s g = e := ⟨_, rfl⟩
  obtain ⟨d1, d2⟩ := ne_d (he ▸ wi_ne rfl hH0 s g)
  obtain ⟨q1, q2, q3, q4⟩ := sc_no (Hh := nH) (T := (some none)) (S := nU) (s := s) (g := g) (by decide)
  go_wp2_with (first | (go_at_call 10; (with_reducible refine sc_children hS hH s g _ e hl he ?_); clear hS; intro v Ev w hI _ hS; have hone := hI.one; unfold Ret) | (go_at_call 11; (with_reducible refine sc_shade hS hT hU n (some none) nU false 1 rfl rfl rfl rfl ?_); clear hS hT hU; intro Eb E2 w hT hU hS; unfold Ret) | (go_at_call 12; (with_reducible refine sc_scan hS hH hT hU s g (some none) nU 0 1 q1 q2 q3 q4 ?_); clear hS hT hU; intro Eb E2 w hT hU hS; unfold Ret) | (go_at_call 13; (with_reducible refine sc_rescan hS hT hU n nU 0 false 1 rfl rfl rfl rfl ?_); clear hS hU; intro E2 w hU hS; unfold Ret) | (go_at_call 14; (with_reducible refine sc_done hS hT hU false 1 rfl rfl ?_); clear hS; intro w hS; unfold Ret) | (go_at_call 15; (with_reducible refine sc_sound hS hH hT false 1 rfl ?_); clear hS; intro w hS; unfold Ret) | (go_at_call 16; refine works_ok hS ?_; clear hS; intro w hS; unfold Ret) | (refine wpList_is (.load _ _) rfl ?_; go_must ((refine wpList_stp (by kernel_rfl) (stp_val (run_lda _ _ rfl hS) ?_)))))
  exact hR _ hS.chg
set_option maxHeartbeats 8000000 in
set_option maxRecDepth 100000 in
theorem snil_4 {W : World} {wh s g n : Int} (hk : wh % 6 = 4) (h0 : 0 ≤ wh) (hR : ∀ w', Chg W w' [] → Ret R (.bool true) w') :
    Calls Try.prog 3 #[.int .u8 wh, .agg #[.int .i64 s, .int .u32 g], .int .i64 n] W R := by
  have hS : St W [] W [] := St.start0
  have rm : RemIs wh 6 4 := ⟨by rw [Int.tmod_eq_emod_of_nonneg h0]; exact hk, by decide⟩
  clear hk
  go_enter Try.func3, Try.ntmps3
  go_wp2_with (first | (refine wpList_is (.binOp .rem _ _ _ _) rfl ?_; refine wpList_stp (by kernel_rfl) (stp_val (run_remv _ _ _ _ rfl) ?_)) | (refine wpList_is (.box 24 _) rfl ?_; go_must (refine wpList_stp (by kernel_rfl) (stp_bx _ _ rfl hS ?_)); clear hS; intro b4 w _ hS) | (go_at_call 7; (with_reducible refine hp_new hS 3 1 (by decide) nH 0 rfl (by decide) ?_); clear hS; intro ph E0 w hH0 hS; unfold Ret) | (go_at_call 8; (with_reducible refine pn_new hS 3 nT 0 rfl (by decide) ?_); clear hS; intro pq E1 w hT0 hS; unfold Ret) | (go_at_call 9; (with_reducible refine sq_new hS 3 nU 0 rfl (by decide) ?_); clear hS; intro pr E2 w hU0 hS; unfold Ret) | (refine wpList_is (.load _ _) rfl ?_; go_must ((refine wpList_stp (by kernel_rfl) (stp_val (run_lda _ _ rfl hS) ?_)))))
  have hU : SA none (none : Sq) [] := ⟨rfl, rfl⟩
  obtain ⟨Eb, hEb⟩ : ∃ E, ([] : List Ent) = E := ⟨_, rfl⟩
  rw [hEb] at hU
  have hSb : St W [] w (Eb ++ (E0 ++ (E1 ++ [⟨b4, #[.int .i64 s, .int .u32 g], 24, true⟩]))) := by
    rw [← hEb]; simp only [List.cons_append, List.nil_append]; exact hS.pick
  clear hS hEb
  have hS := hSb
  clear hSb
  have hH := hH0
  have hT := hT0
  obtain ⟨l, hl⟩ : ∃ l, chdR nH s g = l := ⟨_, rfl⟩
  obtain ⟨e, he⟩ : ∃ e, wiH nH s g = e := ⟨_, rfl⟩
  obtain ⟨d1, d2⟩ := ne_d (he ▸ wi_ne rfl hH0 s g)
  obtain ⟨q1, q2, q3, q4⟩ := sc_no (Hh := nH) (T := nT) (S := (none)) (s := s) (g := g) (by decide)
  go_wp2_with (first | (go_at_call 10; (with_reducible refine sc_children hS hH s g _ e hl he ?_); clear hS; intro v Ev w hI _ hS; have hone := hI.one; unfold Ret) | (go_at_call 11; (with_reducible refine sc_shade hS hT hU n nT (none) false 1 rfl rfl rfl rfl ?_); clear hS hT hU; intro E1 Eb w hT hU hS; unfold Ret) | (go_at_call 12; (with_reducible refine sc_scan hS hH hT hU s g nT (none) 0 1 q1 q2 q3 q4 ?_); clear hS hT hU; intro E1 Eb w hT hU hS; unfold Ret) | (go_at_call 13; (with_reducible refine sc_rescan hS hT hU n (none) 0 false 1 rfl rfl rfl rfl ?_); clear hS hU; intro Eb w hU hS; unfold Ret) | (go_at_call 14; (with_reducible refine sc_done hS hT hU false 1 rfl rfl ?_); clear hS; intro w hS; unfold Ret) | (go_at_call 15; (with_reducible refine sc_sound hS hH hT true 0 nSound ?_); clear hS; intro w hS; unfold Ret) | (go_at_call 16; refine works_ok hS ?_; clear hS; intro w hS; unfold Ret) | (refine wpList_is (.load _ _) rfl ?_; go_must ((refine wpList_stp (by kernel_rfl) (stp_val (run_lda _ _ rfl hS) ?_)))))
  exact hR _ hS.chg
set_option maxHeartbeats 8000000 in
set_option maxRecDepth 100000 in
theorem snil_5 {W : World} {wh s g n : Int} (hk : wh % 6 = 5) (h0 : 0 ≤ wh) (hR : ∀ w', Chg W w' [] → Ret R (.bool true) w') :
    Calls Try.prog 3 #[.int .u8 wh, .agg #[.int .i64 s, .int .u32 g], .int .i64 n] W R := by
  have hS : St W [] W [] := St.start0
  have rm : RemIs wh 6 5 := ⟨by rw [Int.tmod_eq_emod_of_nonneg h0]; exact hk, by decide⟩
  clear hk
  go_enter Try.func3, Try.ntmps3
  go_wp2_with (first | (refine wpList_is (.binOp .rem _ _ _ _) rfl ?_; refine wpList_stp (by kernel_rfl) (stp_val (run_remv _ _ _ _ rfl) ?_)) | (refine wpList_is (.box 24 _) rfl ?_; go_must (refine wpList_stp (by kernel_rfl) (stp_bx _ _ rfl hS ?_)); clear hS; intro b4 w _ hS) | (go_at_call 7; (with_reducible refine hp_new hS 3 1 (by decide) nH 0 rfl (by decide) ?_); clear hS; intro ph E0 w hH0 hS; unfold Ret) | (go_at_call 8; (with_reducible refine pn_new hS 3 nT 0 rfl (by decide) ?_); clear hS; intro pq E1 w hT0 hS; unfold Ret) | (go_at_call 9; (with_reducible refine sq_new hS 3 nU 0 rfl (by decide) ?_); clear hS; intro pr E2 w hU0 hS; unfold Ret) | (refine wpList_is (.box 49 _) rfl ?_; go_must (refine wpList_stp (by kernel_rfl) (stp_bx _ _ rfl hS ?_)); clear hS; intro bz w _ hS) | (refine wpList_is (.build _ _) rfl ?_; go_must (refine wpList_stp (by kernel_rfl) (stp_val (run_bd _ _ rfl) ?_))) | (refine wpList_is (.load _ _) rfl ?_; go_must ((refine wpList_stp (by kernel_rfl) (stp_val (run_lda _ _ rfl hS) ?_)))))
  have hU : SA (some ⟨bz, 0, none⟩) (some none : Sq) [⟨bz, sqC false 0 0 0 zeroS, 49, true⟩] := ⟨bz, rfl, rfl⟩
  obtain ⟨Eb, hEb⟩ : ∃ E, ([⟨bz, sqC false 0 0 0 zeroS, 49, true⟩] : List Ent) = E := ⟨_, rfl⟩
  rw [hEb] at hU
  have hSb : St W [] w (Eb ++ (E0 ++ (E1 ++ [⟨b4, #[.int .i64 s, .int .u32 g], 24, true⟩]))) := by
    rw [← hEb]; simp only [List.cons_append, List.nil_append]; exact hS.pick
  clear hS hEb
  have hS := hSb
  clear hSb
  have hH := hH0
  have hT := hT0
  obtain ⟨l, hl⟩ : ∃ l, chdR nH s g = l := ⟨_, rfl⟩
  obtain ⟨e, he⟩ : ∃ e, wiH nH s g = e := ⟨_, rfl⟩
  obtain ⟨d1, d2⟩ := ne_d (he ▸ wi_ne rfl hH0 s g)
  obtain ⟨q1, q2, q3, q4⟩ := sc_no (Hh := nH) (T := nT) (S := (some none)) (s := s) (g := g) (by decide)
  go_wp2_with (first | (go_at_call 10; (with_reducible refine sc_children hS hH s g _ e hl he ?_); clear hS; intro v Ev w hI _ hS; have hone := hI.one; unfold Ret) | (go_at_call 11; (with_reducible refine sc_shade hS hT hU n nT (some none) false 1 rfl rfl rfl rfl ?_); clear hS hT hU; intro E1 Eb w hT hU hS; unfold Ret) | (go_at_call 12; (with_reducible refine sc_scan hS hH hT hU s g nT (some none) 0 1 q1 q2 q3 q4 ?_); clear hS hT hU; intro E1 Eb w hT hU hS; unfold Ret) | (go_at_call 13; (with_reducible refine sc_rescan hS hT hU n (some none) 0 false 1 rfl rfl rfl rfl ?_); clear hS hU; intro Eb w hU hS; unfold Ret) | (go_at_call 14; (with_reducible refine sc_done hS hT hU false 1 rfl rfl ?_); clear hS; intro w hS; unfold Ret) | (go_at_call 15; (with_reducible refine sc_sound hS hH hT true 0 nSound ?_); clear hS; intro w hS; unfold Ret) | (go_at_call 16; refine works_ok hS ?_; clear hS; intro w hS; unfold Ret) | (refine wpList_is (.load _ _) rfl ?_; go_must ((refine wpList_stp (by kernel_rfl) (stp_val (run_lda _ _ rfl hS) ?_)))))
  exact hR _ hS.chg
theorem walk_snil {W : World} (wh : Int) (w1 : (Lit.int .u8 wh).wf = true) (cs : List Value) (wc : OkCells [.i .i64, .i .u32] cs) (n : Int) (w3 : (Lit.int .i64 n).wf = true) (hR : ∀ w', Chg W w' [] → Ret R (.bool true) w') :
    Calls Try.prog 3 #[.int .u8 wh, .agg cs.toArray, .int .i64 n] W R := by
  obtain ⟨s, g, rfl, _⟩ := ok_ref wc
  have h0 : 0 ≤ wh := by simp [Lit.wf, IntKind.min, IntKind.max, IntKind.signed, IntKind.bits] at w1; omega
  obtain h | h | h | h | h | h : wh % 6 = 0 ∨ wh % 6 = 1 ∨ wh % 6 = 2 ∨ wh % 6 = 3 ∨ wh % 6 = 4 ∨ wh % 6 = 5 := by omega
  · exact snil_0 h h0 hR
  · exact snil_1 h h0 hR
  · exact snil_2 h h0 hR
  · exact snil_3 h h0 hR
  · exact snil_4 h h0 hR
  · exact snil_5 h h0 hR
end Go.Proofs.Ytgpjanfphgjbbaa
