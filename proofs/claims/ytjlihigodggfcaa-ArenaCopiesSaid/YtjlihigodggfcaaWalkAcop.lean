/-
  The walk of ArenaCopies.
-/
import Derived.Test.YtjlihigodggfcaaWcop
import Derived.Test.YtjlihigodggfcaaWagr
set_option linter.unusedSimpArgs false
set_option linter.unusedVariables false
namespace Go.Proofs.Ytjlihigodggfcaa
open Go Go.RowKit Go.Mm
variable {R : Ending → World → Prop}

theorem wrP {p q : Option Addr} {M : Nat} {v : Value} {G : List Rf} : SetAt (wrC p M v G) 0 (.pointer q) (wrC q M v G) := blkPreSet (by simp) rfl
set_option maxHeartbeats 8000000 in
set_option maxRecDepth 100000 in
theorem walk_acop {W : World} (z : Int) (wz : (Lit.int .u8 z).wf = true) (y : Int) (wy : (Lit.int .u8 y).wf = true) (v : Value) {n sb so : Nat} {F : Nat → Nat → Value} (hv : Flat W [.i .u8, .i .u8, .i .u8, .i .u8, .i .u8] v n sb so F)
    (v2 : Value) {n2 sb2 so2 : Nat} {F2 : Nat → Nat → Value} (hv2 : Flat W [.i .u8, .i .u8, .i .u8, .i .u8, .i .u8] v2 n2 sb2 so2 F2) (hR : ∀ w', Chg W w' [] → Ret R (.bool true) w') :
    Calls Try.prog 8 #[.int .u8 z, .int .u8 y, v, v2] W R := by
  have hS : St W [] W [] := St.start0
  have hlen := hv.len (t := 49) Try.underlying49
  have hlen2 := hv2.len (t := 49) Try.underlying49
  have hz := bounds_u8L wz
  have hy := bounds_u8L wy
  obtain ⟨zn, rfl⟩ : ∃ q : Nat, z = q := ⟨z.toNat, by omega⟩
  obtain ⟨yn, rfl⟩ : ∃ q : Nat, y = q := ⟨y.toNat, by omega⟩
  clear wz wy
  obtain ⟨mu, hmu⟩ : ∃ q, 1 + yn % 4 = q := ⟨_, rfl⟩
  have hmu4 : 1 ≤ mu ∧ mu ≤ 4 := by omega
  have hmu' := Lib.hid hmu
  clear hmu
  obtain ⟨⟨T, ms⟩, hpl⟩ : ∃ q, plS (1 + zn) mu F n = q := ⟨_, rfl⟩
  have hpl' := Lib.hid hpl
  clear hpl
  by_cases hn : 60 < n
  · have q : decide (60 < (n : Int)) = true := decide_eq_true (by omega)
    have q' : decide (60 < n) = true := decide_eq_true hn
    go_enter Try.func8, Try.ntmps8
    go_wp2_with (first | (go_at_call 18; refine works_ok hS ?_; clear hS; intro w hS; unfold Ret) | (refine wpList_is (.call { callee := .builtin .len, args := #[_], argTypes := #[_] }) rfl ?_; refine wpList_stp (by kernel_rfl) (stp_val (run_lenv _ _ rfl) ?_)))
    exact hR _ hS.chg
  have q : decide (60 < (n : Int)) = false := decide_eq_false (by omega)
  have q' : decide (60 < n) = false := decide_eq_false hn
  by_cases hn2 : 60 < n2
  · have q2 : decide (60 < (n2 : Int)) = true := decide_eq_true (by omega)
    have q2' : decide (60 < n2) = true := decide_eq_true hn2
    go_enter Try.func8, Try.ntmps8
    go_wp2_with (first | (go_at_call 18; refine works_ok hS ?_; clear hS; intro w hS; unfold Ret) | (refine wpList_is (.call { callee := .builtin .len, args := #[_], argTypes := #[_] }) rfl ?_; refine wpList_stp (by kernel_rfl) (stp_val (run_lenv _ _ rfl) ?_)))
    exact hR _ hS.chg
  have q2 : decide (60 < (n2 : Int)) = false := decide_eq_false (by omega)
  have q2' : decide (60 < n2) = false := decide_eq_false hn2
  have tok1 : True := trivial
  go_enter Try.func8, Try.ntmps8
  go_wp2_with (first | (go_at_call 19; have _t := tok1; (refine wplay_nx hS zn yn (by omega) (by omega) v hv (by omega) ?_); clear hS tok1 _t; intro bm w1 hX1; rw [hmu'.out, hpl'.out] at hX1; obtain ⟨w0, bs, M, p, bv, vs, us, E, Er, Em, hB, hS1, hT, hvs, hus, hWo⟩ := hX1; rw [List.append_nil] at hS1; have hS := rdo_start hS1; have hv1 := hv.move (hB.stw hS1); unfold Ret) | (go_at_call 19; (refine wplay_nx hS zn yn (by omega) (by omega) v hv1 (by omega) ?_); clear hS; intro bm2 w2 hX2; rw [hmu'.out, hpl'.out] at hX2; obtain ⟨w0', bs', M2, p2, bv2, vs2, us2, E2, Er2, Em2, hB2, hS2, hT2, hvs2, hus2, hWo2⟩ := hX2; have hS2 : St w0' bs' w2 ((wdE bm2 p2 M2 bv2 mu T.2.2 :: rvE bv2 vs2 :: (E2 ++ (Er2 ++ Em2))) ++ rdo (wdE bm p M bv mu T.2.2 :: rvE bv vs :: (E ++ (Er ++ Em)))) := (by simpa using hS2); have hS := hS2.reopen; simp only [List.cons_append, List.append_assoc] at hS; unfold Ret) | (go_at_call 30; go_must (refine ar_copy hS hT ?_); clear hS; intro pc Ec w hTc hS; have swp := fun q => wrP (p := p2) (q := q) (M := M2) (v := .slice (some ⟨bv2, 0, none⟩) mu mu) (G := T.2.2); unfold Ret) | (go_at_call 14; go_must (refine ar_heap hS hT ?_); clear hS; intro ph Eh w _ hH hS; unfold Ret) | (refine wpList_is (.call { callee := .builtin .len, args := #[_], argTypes := #[_] }) rfl ?_; refine wpList_stp (by kernel_rfl) (stp_val (run_lenv _ _ rfl) ?_)) | (refine wpList_is (.load _ _) rfl ?_; go_must ((refine wpList_stp (by kernel_rfl) (stp_val (run_ld _ _ rfl hS) ?_)))) | (refine wpList_is (.store _ _ _) rfl ?_; go_must ((refine wpList_stp (by kernel_rfl) (stp_st _ _ _ rfl hS ?_))); clear hS; intro w hS))
  have hS3 : St w2 (wb ((wdE bm2 p2 M2 bv2 mu T.2.2 :: rvE bv2 vs2 :: (E2 ++ (Er2 ++ Em2))) ++ (wdE bm p M bv mu T.2.2 :: rvE bv vs :: (E ++ (Er ++ Em))))) w ((wdE bm2 pc M2 bv2 mu T.2.2 :: rvE bv2 vs2 :: (Ec ++ (Er2 ++ (Em2 ++ Eh)))) ++ (wdE bm p M bv mu T.2.2 :: rvE bv vs :: (E ++ (Er ++ Em)))) := by
    simp only [List.cons_append, List.append_assoc] at hS ⊢
    exact hS.pick
  obtain ⟨hB3, hS4⟩ := hB2.close hS2 (fun e he => hS1.get e he) hS3
  clear hS hS2 hS3 swp
  have hMA : WA w1 bm2 (1 + zn) mu n (Eh ++ rdo (wdE bm p M bv mu T.2.2 :: rvE bv vs :: (E ++ (Er ++ Em)))) w := ⟨T, ms, _, _, M2, pc, bv2, vs2, us2, Ec, Er2, Em2, hB3, by simpa using hS4, hTc, hvs2, hus2, hWo2⟩
  have hv2' := hv2.move (hB.stw hS1)
  clear hB2 hB3 hS4 hvs2 hus2 hWo2 hTc hT2
  go_loopw [12] (fun s0 wr => ∃ (i : Nat) (_ : Unit), i ≤ n2 ∧ s0 = .int .i64 i ∧ WA w1 bm2 (1 + zn) mu (n + i) (Eh ++ rdo (wdE bm p M bv mu T.2.2 :: rvE bv vs :: (E ++ (Er ++ Em)))) wr) (fun s0 _ => n2 - (intOf s0).toNat)
  case atStart => exact ⟨0, (), Nat.zero_le _, rfl, hMA⟩
  case round =>
    clear hMA
    obtain ⟨i, _, hi, rfl, hMA⟩ := hrel
    by_cases hlt : i < n2
    · have hS := hMA.st
      have hidx := hv2'.idxz (t := 49) (z := 5) (i := i) rfl Try.underlying49 (by kernel_rfl) hlt
      have hcell := hv2'.cellsz (z := 5) (i := i) rfl hlt
      obtain ⟨a, b, c, d, e, ⟨ha, hb, hc, hd, he⟩, f0, f1, f2, f3, f4⟩ := tr5_cells hv2' hlt
      simp only [List.range_succ, List.range_zero, List.nil_append, List.map_append, List.map_cons, List.map_nil, List.cons_append, f0, f1, f2, f3, f4] at hcell
      have dlt : decide ((i : Int) < (n2 : Int)) = true := decide_eq_true (by omega)
      have dlt' : decide (i < n2) = true := decide_eq_true hlt
      clear f0 f1 f2 f3 f4
      go_wp2_with (first | (go_at_call 31; go_must (refine wturn_ok (by omega) hMA hmu4 a b c d e ha hb hc hd he ?_); clear hS hMA; intro w hMA; have hS := hMA.st; unfold Ret) | (refine wpList_is (.call { callee := .builtin .len, args := #[_], argTypes := #[_] }) rfl ?_; refine wpList_stp (by kernel_rfl) (stp_val (run_lenv _ _ rfl) ?_)) | (refine wpList_is (.indexAddr _ _ _) rfl ?_; refine wpList_stp (by kernel_rfl) (stp_val (run_idxv _ _ _ rfl) ?_)) | (refine wpList_is (.load _ _) rfl ?_; go_must ((refine wpList_stp (by kernel_rfl) (stp_val (run_lda0 _ _ rfl hS) ?_)))))
      go_roundw
      case rel => exact ⟨i + 1, (), by omega, by go_num, hMA⟩
      case measure => simp [intOf]; omega
    · obtain rfl : i = n2 := by omega
      have dlt : decide ((i : Int) < (i : Int)) = false := decide_eq_false (by omega)
      have dlt' : decide (i < i) = false := decide_eq_false (by omega)
      obtain ⟨T4, ms4, w04, bs4, M4, p4, bv4, vs4, us4, E4, Er4, Em4, hB4, hS, hT4, hvs4, hus4, hWo4⟩ := hMA
      obtain ⟨cn, hcn⟩ : ∃ c, (alH (HL T.1)).length = c := ⟨_, rfl⟩
      have hcn0 : cn ≤ 256 := by
        rw [← hcn, (hWo.cnt (by omega)).1]
        have h1 := hWo.ms_le (by omega)
        have h2 := hWo.mo.w.hi
        have h3 := hWo.len
        omega
      have hcn1 := Lib.hid hcn
      have hnd := alH_nodup T.1
      have hfr := Fr.start hWo
      obtain ⟨al, hal⟩ : ∃ q, alH (HL T.1) = q := ⟨_, rfl⟩
      have hal' := Lib.hid hal
      rw [hal] at hcn hnd hfr
      have hnd' := Lib.hid hnd
      have hcn2 := Lib.hid hcn
      clear hal hnd hcn
      go_wp2_with (first | (go_at_call 21; go_must (refine hp_all hS hH al hal'.out ?_); clear hS; intro va Ea w hva hS; have hone5 := hva.one; have hln5 := hva.len hcn2.out; unfold Ret) | (refine wpList_is (.call { callee := .builtin .len, args := #[_], argTypes := #[_] }) rfl ?_; refine wpList_stp (by kernel_rfl) (stp_val (run_lenv _ _ rfl) ?_)))
      obtain ⟨wo, hwo⟩ : ∃ wo : World, wo = w := ⟨_, rfl⟩
      clear hwo
      go_loopw [14] (fun u wr => ∃ (q : Nat) (L : List Hs) (Eh : List Ent), q ≤ cn ∧ u = .int .i64 q ∧ HA ph (HL L) Eh ∧ Fr (1 + zn) n ms al q L ∧ St w04 bs4 wr (wdE bm2 p4 M4 bv4 mu T4.2.2 :: rvE bv4 vs4 :: (E4 ++ (Er4 ++ (Em4 ++ (Eh ++ (Ea ++ rdo (wdE bm p M bv mu T.2.2 :: rvE bv vs :: (E ++ (Er ++ Em)))))))))) (fun u _ => cn - (intOf u).toNat)
      case atStart => exact ⟨0, T.1, Eh, Nat.zero_le _, rfl, hH, hfr, hS.pick⟩
      case round =>
        clear hS hH hfr
        obtain ⟨q, L, Eh, hq, rfl, hH, hfr, hS⟩ := hrel
        by_cases hqt : q < cn
        · have dqt : decide ((q : Int) < (cn : Int)) = true := decide_eq_true (by omega)
          have dqt' : decide (q < cn) = true := decide_eq_true hqt
          have hql : q < al.length := by rw [hcn2.out]; exact hqt
          obtain ⟨L', h1, h2, hfr'⟩ := hfr.step hnd'.out hql
          obtain ⟨⟨rs, rg⟩, hx⟩ : ∃ x, al.getD q (0, 0) = x := ⟨_, rfl⟩
          rw [hx] at h1 h2
          simp only at h1 h2
          obtain ⟨gl, sl, il, hHl, cl⟩ := hva.at hql hx
          have il := il q rfl
          simp only at cl
          have h1' := Lib.hid h1
          have h2' := Lib.hid h2
          clear h1 h2 hx hql hfr
          go_wp2_with (first | (go_at_call 32; go_must (refine hp_free hS hH rs rg _ 0 h1'.out h2'.out ?_); clear hS hH; intro Eh w hH hS; unfold Ret) | (refine wpList_is (.load 29 _) rfl ?_; refine wpList_stp (by kernel_rfl) (stp_val (run_lda _ _ rfl hS) ?_)) | (refine wpList_is (.call { callee := .builtin .len, args := #[_], argTypes := #[_] }) rfl ?_; refine wpList_stp (by kernel_rfl) (stp_val (run_lenv _ _ rfl) ?_)) | (refine wpList_is (.indexAddr _ _ _) rfl ?_; refine wpList_stp (by kernel_rfl) (stp_val (run_idxv _ _ _ rfl) ?_)))
          go_roundw
          case rel => exact ⟨q + 1, L', Eh, by omega, by go_num, hH, hfr', hS.pick⟩
          case measure => simp [intOf]; omega
        · have dqt : decide ((q : Int) < (cn : Int)) = false := decide_eq_false (by omega)
          have dqt' : decide (q < cn) = false := decide_eq_false hqt
          have hMA : WA w1 bm2 (1 + zn) mu (n + i) (rdo (wdE bm p M bv mu T.2.2 :: rvE bv vs :: (E ++ (Er ++ Em)))) wr := ⟨T4, ms4, w04, bs4, M4, p4, bv4, vs4, us4, E4, Er4, Em4, hB4, hS.pick, hT4, hvs4, hus4, hWo4⟩
          have tok1 : True := trivial
          go_wp2_with (first | (go_at_call 24; have _t := tok1; (refine wagrees (by omega) hMA hmu4 ?_); clear hS hMA tok1 _t; intro w hMA; obtain ⟨hB5, hS5⟩ := hB.again hS1 hMA.st; have hMB : WA W bm (1 + zn) mu n [] w := ⟨T, ms, w, _, M, p, bv, vs, us, E, Er, Em, hB5, (by simpa using hS5), hT, hvs, hus, hWo⟩; have hS := hMB.st; unfold Ret) | (go_at_call 24; (refine wagrees (by omega) hMB hmu4 ?_); clear hS hMB; intro w hMB; have hS := hMB.st; unfold Ret) | (go_at_call 18; refine works_ok hS ?_; clear hS; intro w hS; unfold Ret) | (refine wpList_is (.call { callee := .builtin .len, args := #[_], argTypes := #[_] }) rfl ?_; refine wpList_stp (by kernel_rfl) (stp_val (run_lenv _ _ rfl) ?_)))
          exact hR _ hS.chg
end Go.Proofs.Ytjlihigodggfcaa
