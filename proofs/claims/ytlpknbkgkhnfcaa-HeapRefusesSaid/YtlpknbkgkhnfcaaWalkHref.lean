/-
  The walk of HeapRefuses.
-/
import Derived.Test.YtlpknbkgkhnfcaaHlaw
import Derived.Deep.DeepCutAuto
import Derived.Deep.CutBlock
set_option linter.unusedSimpArgs false
set_option linter.unusedVariables false
namespace Go.Proofs.Ytlpknbkgkhnfcaa
open Go.RowKit Go.Mm
variable {R : Ending → World → Prop}

instance mt_u16 : ScalarT Try.prog 50 := ⟨by kernel_rfl, by kernel_rfl⟩
instance mt_cv16 : CvI Try.prog 50 3 .i64 := ⟨by kernel_rfl, by kernel_rfl, by kernel_rfl⟩
theorem nwOk_no (z g : Int) (h : z < 1 ∨ 256 < z ∨ g < 1) : nwOk z g = false := by
  rw [← Bool.not_eq_true]
  simp only [nwOk, Bool.and_eq_true, decide_eq_true_eq]
  omega
theorem nwH_no (z g : Int) (h : z < 1 ∨ 256 < z ∨ g < 1) : nwH z g = none := by unfold nwH; rw [nwOk_no z g h]; rfl
theorem nwE_no (z g : Int) (h : z < 1 ∨ 256 < z ∨ g < 1) : nwE z g = 2 := by unfold nwE; rw [nwOk_no z g h]; rfl
theorem mk_bad (L : List Hs) (n : Int) (h : n < 0 ∨ 4 < n) : mkT (HL L) n false = HL L ∧ mkR (HL L) n false = (0, 0) ∧ mkE (HL L) n false = 2 := by
  have hb : nwB n false = false := by
    rw [← Bool.not_eq_true]
    simp only [nwB, Bool.and_eq_true, decide_eq_true_eq]
    omega
  have hI : mkI L n false = none := by unfold mkI; rw [hb]; rfl
  exact ⟨by simp only [mkT, hI], by simp only [mkR, hI], by simp only [mkE, hb]; rfl⟩
theorem st_bad {L : List Hs} {s g i : Int} {v : Int × Int} {e : Int} (he : stE (HL L) s g i v = e) (h0 : e ≠ 0) : stT (HL L) s g i v = HL L ∧ stR (HL L) s g i v = (0, 0) ∧ stE (HL L) s g i v = e :=
  ⟨by unfold stT; rw [he, if_neg h0], by unfold stR; rw [he, if_neg h0], he⟩
theorem st_out {L : List Hs} {r : Int × Int} {l : List (Int × Int)} (ho : ObIs L r l) {i : Int} (hi : i < 0 ∨ (l.length : Int) ≤ i) {v : Int × Int} : stE (HL L) r.1 r.2 i v = 3 := by
  have hf : inF (obAt (HL L) r.1) i = false := by
    rw [← Bool.not_eq_true]
    unfold inF
    rw [ho.n]
    simp only [Bool.and_eq_true, decide_eq_true_eq]
    omega
  unfold stE gtOE
  rw [if_pos ho.ck, hf]
  simp
theorem st_in {L : List Hs} {r : Int × Int} {l : List (Int × Int)} (ho : ObIs L r l) {i : Int} (h0 : 0 ≤ i) (hi : i < (l.length : Int)) {v : Int × Int} (hv : v ≠ (0, 0)) : stE (HL L) r.1 r.2 i v = wiH (HL L) v.1 v.2 := by
  have hf : inF (obAt (HL L) r.1) i = true := by
    unfold inF
    rw [ho.n]
    simp only [Bool.and_eq_true, decide_eq_true_eq]
    omega
  unfold stE gtOE
  rw [if_pos ho.ck, hf, refB_no (x := v) (y := (0, 0)) hv]
  simp
theorem wi_out {L : List Hs} (h0 : 0 < L.length) {s g : Int} (h : s < 0 ∨ (L.length : Int) ≤ s) : wiH (HL L) s g = 3 := ck_out (L := tbH L) (by rw [tbH_len]; exact h0) (by rw [tbH_len]; exact h) g

set_option maxHeartbeats 8000000 in
set_option maxRecDepth 100000 in
theorem walk_href {W : World} (z : Int) (wz : (Lit.int .u8 z).wf = true) (v : Value) {n sb so : Nat} {F : Nat → Nat → Value} (hv : Flat W [.i .u8, .i .u8, .i .u8] v n sb so F) (far : Int) (wf : (Lit.int .u16 far).wf = true) (hR : ∀ w', Chg W w' [] → Ret R (.bool true) w') :
    Calls Try.prog 7 #[.int .u8 z, v, .int .u16 far] W R := by
  have hS : St W [] W [] := St.start0
  have hlen := hv.len (t := 22) Try.underlying22
  have hz := bounds_u8L wz
  have hf : 0 ≤ far ∧ far ≤ 65535 := by
    simp [Lit.wf, IntKind.min, IntKind.max, IntKind.signed, IntKind.bits] at wf
    omega
  obtain ⟨zn, rfl⟩ : ∃ q : Nat, z = q := ⟨z.toNat, by omega⟩
  obtain ⟨fr, rfl⟩ : ∃ q : Nat, far = q := ⟨far.toNat, by omega⟩
  clear wz wf
  by_cases hn : 60 < n
  · have q : decide (60 < (n : Int)) = true := decide_eq_true (by omega)
    go_enter Try.func7, Try.ntmps7
    go_wp2_with (first | go_skip | (go_at_call 11; refine works_ok hS ?_; clear hS; intro w hS; unfold Ret) | go_skip | (refine wpList_is (.call { callee := .builtin .len, args := #[_], argTypes := #[_] }) rfl ?_; refine wpList_stp (by kernel_rfl) (stp_val (run_lenv _ _ rfl) ?_)) | (refine wpList_is (.slice _ _ none (some _) none) rfl ?_; refine wpList_stp (by kernel_rfl) (stp_val (run_prev _ _ _ rfl) ?_)) | (refine wpList_is (.indexAddr _ _ _) rfl ?_; refine wpList_stp (by kernel_rfl) (stp_val (run_idxv _ _ _ rfl) ?_)) | go_skip | (refine wpList_is (.build _ _) rfl ?_; go_must (refine wpList_stp (by kernel_rfl) (stp_val (run_bd _ _ rfl) ?_))) | (refine wpList_is (.call { callee := .builtin .clear, args := #[_], argTypes := #[_] }) rfl ?_; go_must (refine wpList_stp (by kernel_rfl) (stp_cl _ _ rfl hS (by decide) ?_)); clear hS; intro w hS) | (refine wpList_is (.load _ _) rfl ?_; go_must (first | refine wpList_stp (by kernel_rfl) (stp_val (run_ld _ _ rfl hS) ?_) | refine wpList_stp (by kernel_rfl) (stp_val (run_lda _ _ rfl hS) ?_) | refine wpList_stp (by kernel_rfl) (stp_val (run_ld0 _ _ rfl hS) ?_) | refine wpList_stp (by kernel_rfl) (stp_val (run_lda0 _ _ rfl hS) ?_))) | (refine wpList_is (.store _ _ _) rfl ?_; go_must (first | refine wpList_stp (by kernel_rfl) (stp_st _ _ _ rfl hS ?_) | refine wpList_stp (by kernel_rfl) (stp_sta _ _ _ rfl hS ?_)); clear hS; intro w hS) | (refine wpList_is (.alloc _) rfl ?_; go_must (refine wpList_stp (by kernel_rfl) (stp_al _ rfl hS ?_)); clear hS; intro bN w hbN hS) | (refine wpList_is (.box _ _) rfl ?_; go_must (refine wpList_stp (by kernel_rfl) (stp_bx _ _ rfl hS ?_)); clear hS; intro bN w hbN hS) | (refine wpList_is (.binOp .eql _ _ (.const (.slice none _ _)) _) rfl ?_; refine wpList_stp (by kernel_rfl) (stp_val (run_nse _ _ _ rfl) ?_)) | (refine wpList_is (.binOp .neq _ _ (.const (.slice none _ _)) _) rfl ?_; refine wpList_stp (by kernel_rfl) (stp_val (run_nsn _ _ _ rfl) ?_)))
    exact hR _ hS.chg
  have q : decide (60 < (n : Int)) = false := decide_eq_false (by omega)
  go_enter Try.func7, Try.ntmps7
  go_wp2_with (first | go_skip | (go_at_call 12; go_must (refine begin_ok hS zn 5 (by omega) (by omega) 5 (by decide) ?_); clear hS; intro bm w hMA; have hS := hMA.st; unfold Ret) | go_skip | (refine wpList_is (.call { callee := .builtin .len, args := #[_], argTypes := #[_] }) rfl ?_; refine wpList_stp (by kernel_rfl) (stp_val (run_lenv _ _ rfl) ?_)) | (refine wpList_is (.slice _ _ none (some _) none) rfl ?_; refine wpList_stp (by kernel_rfl) (stp_val (run_prev _ _ _ rfl) ?_)) | (refine wpList_is (.indexAddr _ _ _) rfl ?_; refine wpList_stp (by kernel_rfl) (stp_val (run_idxv _ _ _ rfl) ?_)) | go_skip | (refine wpList_is (.build _ _) rfl ?_; go_must (refine wpList_stp (by kernel_rfl) (stp_val (run_bd _ _ rfl) ?_))) | (refine wpList_is (.call { callee := .builtin .clear, args := #[_], argTypes := #[_] }) rfl ?_; go_must (refine wpList_stp (by kernel_rfl) (stp_cl _ _ rfl hS (by decide) ?_)); clear hS; intro w hS) | (refine wpList_is (.load _ _) rfl ?_; go_must (first | refine wpList_stp (by kernel_rfl) (stp_val (run_ld _ _ rfl hS) ?_) | refine wpList_stp (by kernel_rfl) (stp_val (run_lda _ _ rfl hS) ?_) | refine wpList_stp (by kernel_rfl) (stp_val (run_ld0 _ _ rfl hS) ?_) | refine wpList_stp (by kernel_rfl) (stp_val (run_lda0 _ _ rfl hS) ?_))) | (refine wpList_is (.store _ _ _) rfl ?_; go_must (first | refine wpList_stp (by kernel_rfl) (stp_st _ _ _ rfl hS ?_) | refine wpList_stp (by kernel_rfl) (stp_sta _ _ _ rfl hS ?_)); clear hS; intro w hS) | (refine wpList_is (.alloc _) rfl ?_; go_must (refine wpList_stp (by kernel_rfl) (stp_al _ rfl hS ?_)); clear hS; intro bN w hbN hS) | (refine wpList_is (.box _ _) rfl ?_; go_must (refine wpList_stp (by kernel_rfl) (stp_bx _ _ rfl hS ?_)); clear hS; intro bN w hbN hS) | (refine wpList_is (.binOp .eql _ _ (.const (.slice none _ _)) _) rfl ?_; refine wpList_stp (by kernel_rfl) (stp_val (run_nse _ _ _ rfl) ?_)) | (refine wpList_is (.binOp .neq _ _ (.const (.slice none _ _)) _) rfl ?_; refine wpList_stp (by kernel_rfl) (stp_val (run_nsn _ _ _ rfl) ?_)))
  clear hS
  go_loopw [8] (fun s0 wr => ∃ (i : Nat) (_ : Unit), i ≤ n ∧ s0 = .int .i64 i ∧ MA W bm (1 + zn) ((5 : Nat) : Int) i [] wr) (fun s0 _ => n - (intOf s0).toNat)
  case atStart => exact ⟨0, (), Nat.zero_le _, rfl, hMA⟩
  case round =>
    clear hMA
    obtain ⟨i, _, hi, rfl, hMA⟩ := hrel
    have hS := hMA.st
    by_cases hlt : i < n
    · have hidx := hv.idxz (t := 22) (z := 3) (i := i) rfl Try.underlying22 (by kernel_rfl) hlt
      have hcell := hv.cellsz (z := 3) (i := i) rfl hlt
      obtain ⟨a, b, c, ha, hb, hc, f0, f1, f2⟩ := tr_cells hv hlt
      simp only [List.range_succ, List.range_zero, List.nil_append, List.map_append, List.map_cons, List.map_nil, List.cons_append, f0, f1, f2] at hcell
      clear f0 f1 f2
      go_wp2_with (first | go_skip | (go_at_call 13; go_must (refine turn_ok (by omega) hMA a b c (by omega) (by omega) (by omega) ?_); clear hS hMA; intro w hMA; have hS := hMA.st; unfold Ret) | go_skip | (refine wpList_is (.call { callee := .builtin .len, args := #[_], argTypes := #[_] }) rfl ?_; refine wpList_stp (by kernel_rfl) (stp_val (run_lenv _ _ rfl) ?_)) | (refine wpList_is (.slice _ _ none (some _) none) rfl ?_; refine wpList_stp (by kernel_rfl) (stp_val (run_prev _ _ _ rfl) ?_)) | (refine wpList_is (.indexAddr _ _ _) rfl ?_; refine wpList_stp (by kernel_rfl) (stp_val (run_idxv _ _ _ rfl) ?_)) | go_skip | (refine wpList_is (.build _ _) rfl ?_; go_must (refine wpList_stp (by kernel_rfl) (stp_val (run_bd _ _ rfl) ?_))) | (refine wpList_is (.call { callee := .builtin .clear, args := #[_], argTypes := #[_] }) rfl ?_; go_must (refine wpList_stp (by kernel_rfl) (stp_cl _ _ rfl hS (by decide) ?_)); clear hS; intro w hS) | (refine wpList_is (.load _ _) rfl ?_; go_must (first | refine wpList_stp (by kernel_rfl) (stp_val (run_ld _ _ rfl hS) ?_) | refine wpList_stp (by kernel_rfl) (stp_val (run_lda _ _ rfl hS) ?_) | refine wpList_stp (by kernel_rfl) (stp_val (run_ld0 _ _ rfl hS) ?_) | refine wpList_stp (by kernel_rfl) (stp_val (run_lda0 _ _ rfl hS) ?_))) | (refine wpList_is (.store _ _ _) rfl ?_; go_must (first | refine wpList_stp (by kernel_rfl) (stp_st _ _ _ rfl hS ?_) | refine wpList_stp (by kernel_rfl) (stp_sta _ _ _ rfl hS ?_)); clear hS; intro w hS) | (refine wpList_is (.alloc _) rfl ?_; go_must (refine wpList_stp (by kernel_rfl) (stp_al _ rfl hS ?_)); clear hS; intro bN w hbN hS) | (refine wpList_is (.box _ _) rfl ?_; go_must (refine wpList_stp (by kernel_rfl) (stp_bx _ _ rfl hS ?_)); clear hS; intro bN w hbN hS) | (refine wpList_is (.binOp .eql _ _ (.const (.slice none _ _)) _) rfl ?_; refine wpList_stp (by kernel_rfl) (stp_val (run_nse _ _ _ rfl) ?_)) | (refine wpList_is (.binOp .neq _ _ (.const (.slice none _ _)) _) rfl ?_; refine wpList_stp (by kernel_rfl) (stp_val (run_nsn _ _ _ rfl) ?_)))
      go_roundw
      case rel => exact ⟨i + 1, (), by omega, by go_num, hMA⟩
      case measure => simp [intOf]; omega
    · obtain rfl : i = n := by omega
      clear hS
      obtain ⟨w0, bs, M, ph, vi, vg, L, ins, gone, ms, E, Ei, Eg, hB, hS, hT, hvi, hvg, hMo⟩ := hMA
      rw [List.append_nil] at hS
      have hone := hvi.one
      have hone2 := hvg.one
      obtain ⟨m, hm⟩ : ∃ m, ins.length = m := ⟨_, rfl⟩
      have hm' := Lib.hid hm
      have hmk : m ≤ 60 := by have := hMo.c1; omega
      have hln : LenV Try.prog 32 vi m := hvi.len hm
      have sf : Small (fr : Int) := ⟨by omega, by omega⟩
      have sz : Small (zn : Int) := ⟨by omega, by omega⟩
      have s4 : SumIs 4 (fr : Int) (4 + (fr : Int)) := ⟨rfl, by omega, by omega⟩
      have d4 : DifIs (-1) (fr : Int) (-1 - (fr : Int)) := ⟨rfl, by omega, by omega⟩
      clear hlt hm
      go_wp2_with (first | go_skip | (go_at_call 19; refine hp_new hS _ _ (by omega) none 2 (nwH_no _ _ (by omega)) (nwE_no _ _ (by omega)) ?_; clear hS; intro p0 E0 w hT0 hS; obtain ⟨rfl, rfl⟩ := hT0; simp only [List.nil_append] at hS; unfold Ret) | (go_at_call 17; refine hp_make hS hT _ false (HL L) (0, 0) 2 (mk_bad L _ (by omega)).1 (mk_bad L _ (by omega)).2.1 (mk_bad L _ (by omega)).2.2 ?_; clear hS hT; intro E w hT hS; unfold Ret) | (refine wpList_is (.convert _ _ _) rfl ?_; refine wpList_stp (by kernel_rfl) (stp_val (run_cvn _ _ _ rfl) ?_)) | (refine wpList_is (.buildSlice _ _ _) rfl ?_; go_must (refine wpList_stp (by kernel_rfl) (stp_bsl _ _ _ rfl hS (by decide) rfl (by decide) (by decide) ?_)); clear hS; intro bb w _ hS) | go_skip | (refine wpList_is (.call { callee := .builtin .len, args := #[_], argTypes := #[_] }) rfl ?_; refine wpList_stp (by kernel_rfl) (stp_val (run_lenv _ _ rfl) ?_)) | (refine wpList_is (.slice _ _ none (some _) none) rfl ?_; refine wpList_stp (by kernel_rfl) (stp_val (run_prev _ _ _ rfl) ?_)) | (refine wpList_is (.indexAddr _ _ _) rfl ?_; refine wpList_stp (by kernel_rfl) (stp_val (run_idxv _ _ _ rfl) ?_)) | go_skip | (refine wpList_is (.build _ _) rfl ?_; go_must (refine wpList_stp (by kernel_rfl) (stp_val (run_bd _ _ rfl) ?_))) | (refine wpList_is (.call { callee := .builtin .clear, args := #[_], argTypes := #[_] }) rfl ?_; go_must (refine wpList_stp (by kernel_rfl) (stp_cl _ _ rfl hS (by decide) ?_)); clear hS; intro w hS) | (refine wpList_is (.load _ _) rfl ?_; go_must (first | refine wpList_stp (by kernel_rfl) (stp_val (run_ld _ _ rfl hS) ?_) | refine wpList_stp (by kernel_rfl) (stp_val (run_lda _ _ rfl hS) ?_) | refine wpList_stp (by kernel_rfl) (stp_val (run_ld0 _ _ rfl hS) ?_) | refine wpList_stp (by kernel_rfl) (stp_val (run_lda0 _ _ rfl hS) ?_))) | (refine wpList_is (.store _ _ _) rfl ?_; go_must (first | refine wpList_stp (by kernel_rfl) (stp_st _ _ _ rfl hS ?_) | refine wpList_stp (by kernel_rfl) (stp_sta _ _ _ rfl hS ?_)); clear hS; intro w hS) | (refine wpList_is (.alloc _) rfl ?_; go_must (refine wpList_stp (by kernel_rfl) (stp_al _ rfl hS ?_)); clear hS; intro bN w hbN hS) | (refine wpList_is (.box _ _) rfl ?_; go_must (refine wpList_stp (by kernel_rfl) (stp_bx _ _ rfl hS ?_)); clear hS; intro bN w hbN hS) | (refine wpList_is (.binOp .eql _ _ (.const (.slice none _ _)) _) rfl ?_; refine wpList_stp (by kernel_rfl) (stp_val (run_nse _ _ _ rfl) ?_)) | (refine wpList_is (.binOp .neq _ _ (.const (.slice none _ _)) _) rfl ?_; refine wpList_stp (by kernel_rfl) (stp_val (run_nsn _ _ _ rfl) ?_)))
      have hbd : RS (.slice (some ⟨bb, 0, none⟩) 4 4) [(-1 - (fr : Int), 5), (256 + (fr : Int), 5), ((zn : Int), 0), ((zn : Int), 4)] [⟨bb, #[.int .i64 (-1 - (fr : Int)), .int .u32 5, .int .i64 (256 + (fr : Int)), .int .u32 5, .int .i64 zn, .int .u32 0, .int .i64 zn, .int .u32 4], 38, true⟩] := RS.lit [(-1 - (fr : Int), 5), (256 + (fr : Int), 5), ((zn : Int), 0), ((zn : Int), 4)] rfl (by simp)
      obtain ⟨Eb, hEb⟩ : ∃ Eb, [(⟨bb, #[.int .i64 (-1 - (fr : Int)), .int .u32 5, .int .i64 (256 + (fr : Int)), .int .u32 5, .int .i64 zn, .int .u32 0, .int .i64 zn, .int .u32 4], 38, true⟩ : Ent)] = Eb := ⟨_, rfl⟩
      have hS : St w0 bs w ([⟨bb, #[.int .i64 (-1 - (fr : Int)), .int .u32 5, .int .i64 (256 + (fr : Int)), .int .u32 5, .int .i64 zn, .int .u32 0, .int .i64 zn, .int .u32 4], 38, true⟩] ++ (E ++ (moE bm ph M vi vg :: (Ei ++ (Eg ++ ms.map meE))))) := by
        simp only [List.cons_append, List.nil_append]
        exact hS.pick
      rw [hEb] at hS hbd
      clear hEb
      have hlb := hbd.len (n := 4) rfl
      obtain ⟨bl, hbl⟩ : ∃ bl, bl = [(-1 - (fr : Int), 5), (256 + (fr : Int), 5), ((zn : Int), 0), ((zn : Int), (4 : Int))] := ⟨_, rfl⟩
      rw [← hbl] at hbd
      have hbl' := Lib.hid hbl
      clear hbl
      obtain ⟨wo, hwo⟩ : ∃ wo : World, wo = w := ⟨_, rfl⟩
      clear hwo
      go_loopw [21] (fun s0 wz => ∃ (q : Nat) (E : List Ent) (_ : Unit), q ≤ 4 ∧ s0 = .int .i64 q ∧ HA ph (HL L) E ∧ St w0 bs wz (E ++ (Eb ++ (moE bm ph M vi vg :: (Ei ++ (Eg ++ ms.map meE)))))) (fun s0 _ => 4 - (intOf s0).toNat)
      case atStart => exact ⟨0, E, (), Nat.zero_le _, rfl, hT, hS.pick⟩
      case round =>
        clear hS hT
        obtain ⟨q, E, _, hq, rfl, hT, hS⟩ := hrel
        by_cases hlq : q < 4
        · have dq : decide ((q : Int) < 4) = true := decide_eq_true (by omega)
          have dq' : decide (q < 4) = true := decide_eq_true hlq
          obtain ⟨⟨xs, xg⟩, hx⟩ : ∃ x, bl.getD q (0, 0) = x := ⟨_, rfl⟩
          have hql : q < bl.length := by rw [hbl'.out]; exact hlq
          obtain ⟨ga, spa, ia, hHa, hca⟩ := hbd.at hql hx
          have ia := ia q rfl
          simp only at hca
          have hlen1 := hMo.len
          have hq3 : q ≤ 1 → wiH (HL L) xs xg = 3 := by
            intro h
            rw [hbl'.out] at hx
            refine wi_out (by omega) ?_
            rcases q with _ | _ | q
            · obtain ⟨rfl, _⟩ := Prod.mk.injEq .. ▸ hx; omega
            · obtain ⟨rfl, _⟩ := Prod.mk.injEq .. ▸ hx; omega
            · omega
          have hq7 : 1 < q → wiH (HL L) xs xg = 7 := by
            intro h
            rw [hbl'.out] at hx
            have hlow := hMo.lows zn (by omega)
            rcases q with _ | _ | _ | _ | q
            · omega
            · omega
            · obtain ⟨rfl, rfl⟩ := Prod.mk.injEq .. ▸ hx
              exact wi_no (by omega) (fun ⟨_, h2⟩ => by omega)
            · obtain ⟨rfl, rfl⟩ := Prod.mk.injEq .. ▸ hx
              exact wi_no (by omega) (fun ⟨_, h2⟩ => by omega)
            · omega
          have hxg : 0 ≤ xg ∧ xg ≤ 4294967295 := by
            rw [hbl'.out] at hx
            rcases q with _ | _ | _ | _ | q
            · obtain ⟨_, rfl⟩ := Prod.mk.injEq .. ▸ hx; decide
            · obtain ⟨_, rfl⟩ := Prod.mk.injEq .. ▸ hx; decide
            · obtain ⟨_, rfl⟩ := Prod.mk.injEq .. ▸ hx; decide
            · obtain ⟨_, rfl⟩ := Prod.mk.injEq .. ▸ hx; decide
            · omega
          clear hx
          obtain ⟨wq, hwq⟩ : ∃ wq : Int, wq = if 1 < q then 7 else 3 := ⟨_, rfl⟩
          have hw : wiH (HL L) xs xg = wq := by
            by_cases h : 1 < q
            · rw [hwq, if_pos h]; exact hq7 h
            · rw [hwq, if_neg h]; exact hq3 (by omega)
          have hw0 : wq ≠ 0 := by rw [hwq]; split <;> decide
          have hw' := Lib.hid hw
          have b1 : ldR (HL L) xs xg 0 = (0, 0) := by unfold ldR; rw [hw, if_neg hw0]
          have b2 : ldE (HL L) xs xg 0 = wq := by unfold ldE; rw [hw, if_neg hw0]
          have b3 : obR (HL L) xs xg = zOb := by unfold obR; rw [hw, if_neg hw0]
          have b4 : hasH (HL L) xs xg = false := by unfold hasH; rw [hw]; exact decide_eq_false hw0
          have b5 : frT (HL L) xs xg = HL L := by unfold frT; rw [hw, if_neg hw0]
          have b6 := st_bad (L := L) (s := xs) (g := xg) (i := 0) (v := (0, 0)) (e := wq) (by unfold stE; rw [hw, if_neg hw0]) hw0
          have hb1' := Lib.hid b1
          have hb2' := Lib.hid b2
          have hb3' := Lib.hid b3
          have hb4' := Lib.hid b4
          have hb5' := Lib.hid b5
          have hb6' := Lib.hid b6
          have hwq' := Lib.hid hwq
          have hw0' := Lib.hid hw0
          clear hw b1 b2 b3 b4 b5 b6 hwq hq3 hq7 hw0
          go_upto_if 133 with (first | go_skip | go_skip | (refine wpList_is (.call { callee := .builtin .len, args := #[_], argTypes := #[_] }) rfl ?_; refine wpList_stp (by kernel_rfl) (stp_val (run_lenv _ _ rfl) ?_)) | (refine wpList_is (.slice _ _ none (some _) none) rfl ?_; refine wpList_stp (by kernel_rfl) (stp_val (run_prev _ _ _ rfl) ?_)) | (refine wpList_is (.indexAddr _ _ _) rfl ?_; refine wpList_stp (by kernel_rfl) (stp_val (run_idxv _ _ _ rfl) ?_)) | go_skip | (refine wpList_is (.build _ _) rfl ?_; go_must (refine wpList_stp (by kernel_rfl) (stp_val (run_bd _ _ rfl) ?_))) | (refine wpList_is (.call { callee := .builtin .clear, args := #[_], argTypes := #[_] }) rfl ?_; go_must (refine wpList_stp (by kernel_rfl) (stp_cl _ _ rfl hS (by decide) ?_)); clear hS; intro w hS) | (refine wpList_is (.load _ _) rfl ?_; go_must (first | refine wpList_stp (by kernel_rfl) (stp_val (run_ld _ _ rfl hS) ?_) | refine wpList_stp (by kernel_rfl) (stp_val (run_lda _ _ rfl hS) ?_) | refine wpList_stp (by kernel_rfl) (stp_val (run_ld0 _ _ rfl hS) ?_) | refine wpList_stp (by kernel_rfl) (stp_val (run_lda0 _ _ rfl hS) ?_))) | (refine wpList_is (.store _ _ _) rfl ?_; go_must (first | refine wpList_stp (by kernel_rfl) (stp_st _ _ _ rfl hS ?_) | refine wpList_stp (by kernel_rfl) (stp_sta _ _ _ rfl hS ?_)); clear hS; intro w hS) | (refine wpList_is (.alloc _) rfl ?_; go_must (refine wpList_stp (by kernel_rfl) (stp_al _ rfl hS ?_)); clear hS; intro bN w hbN hS) | (refine wpList_is (.box _ _) rfl ?_; go_must (refine wpList_stp (by kernel_rfl) (stp_bx _ _ rfl hS ?_)); clear hS; intro bN w hbN hS) | (refine wpList_is (.binOp .eql _ _ (.const (.slice none _ _)) _) rfl ?_; refine wpList_stp (by kernel_rfl) (stp_val (run_nse _ _ _ rfl) ?_)) | (refine wpList_is (.binOp .neq _ _ (.const (.slice none _ _)) _) rfl ?_; refine wpList_stp (by kernel_rfl) (stp_val (run_nsn _ _ _ rfl) ?_)))
          go_cut [22] (fun s22 wx => s22 = .int .i64 wq ∧ St w0 bs wx (E ++ (Eb ++ (moE bm ph M vi vg :: (Ei ++ (Eg ++ ms.map meE))))))
          case first =>
            by_cases hbig : 1 < q
            · have d1 : decide (1 < (q : Int)) = true := decide_eq_true (by omega)
              have d1' : decide (1 < q) = true := decide_eq_true (by omega)
              go_wp2_with (first | go_skip | go_skip | (refine wpList_is (.call { callee := .builtin .len, args := #[_], argTypes := #[_] }) rfl ?_; refine wpList_stp (by kernel_rfl) (stp_val (run_lenv _ _ rfl) ?_)) | (refine wpList_is (.slice _ _ none (some _) none) rfl ?_; refine wpList_stp (by kernel_rfl) (stp_val (run_prev _ _ _ rfl) ?_)) | (refine wpList_is (.indexAddr _ _ _) rfl ?_; refine wpList_stp (by kernel_rfl) (stp_val (run_idxv _ _ _ rfl) ?_)) | go_skip | (refine wpList_is (.build _ _) rfl ?_; go_must (refine wpList_stp (by kernel_rfl) (stp_val (run_bd _ _ rfl) ?_))) | (refine wpList_is (.call { callee := .builtin .clear, args := #[_], argTypes := #[_] }) rfl ?_; go_must (refine wpList_stp (by kernel_rfl) (stp_cl _ _ rfl hS (by decide) ?_)); clear hS; intro w hS) | (refine wpList_is (.load _ _) rfl ?_; go_must (first | refine wpList_stp (by kernel_rfl) (stp_val (run_ld _ _ rfl hS) ?_) | refine wpList_stp (by kernel_rfl) (stp_val (run_lda _ _ rfl hS) ?_) | refine wpList_stp (by kernel_rfl) (stp_val (run_ld0 _ _ rfl hS) ?_) | refine wpList_stp (by kernel_rfl) (stp_val (run_lda0 _ _ rfl hS) ?_))) | (refine wpList_is (.store _ _ _) rfl ?_; go_must (first | refine wpList_stp (by kernel_rfl) (stp_st _ _ _ rfl hS ?_) | refine wpList_stp (by kernel_rfl) (stp_sta _ _ _ rfl hS ?_)); clear hS; intro w hS) | (refine wpList_is (.alloc _) rfl ?_; go_must (refine wpList_stp (by kernel_rfl) (stp_al _ rfl hS ?_)); clear hS; intro bN w hbN hS) | (refine wpList_is (.box _ _) rfl ?_; go_must (refine wpList_stp (by kernel_rfl) (stp_bx _ _ rfl hS ?_)); clear hS; intro bN w hbN hS) | (refine wpList_is (.binOp .eql _ _ (.const (.slice none _ _)) _) rfl ?_; refine wpList_stp (by kernel_rfl) (stp_val (run_nse _ _ _ rfl) ?_)) | (refine wpList_is (.binOp .neq _ _ (.const (.slice none _ _)) _) rfl ?_; refine wpList_stp (by kernel_rfl) (stp_val (run_nsn _ _ _ rfl) ?_)))
              go_meet
              exact ⟨by rw [hwq'.out, if_pos hbig], hS.pick⟩
            · have d1 : decide (1 < (q : Int)) = false := decide_eq_false (by omega)
              have d1' : decide (1 < q) = false := decide_eq_false (by omega)
              go_wp2_with (first | go_skip | go_skip | (refine wpList_is (.call { callee := .builtin .len, args := #[_], argTypes := #[_] }) rfl ?_; refine wpList_stp (by kernel_rfl) (stp_val (run_lenv _ _ rfl) ?_)) | (refine wpList_is (.slice _ _ none (some _) none) rfl ?_; refine wpList_stp (by kernel_rfl) (stp_val (run_prev _ _ _ rfl) ?_)) | (refine wpList_is (.indexAddr _ _ _) rfl ?_; refine wpList_stp (by kernel_rfl) (stp_val (run_idxv _ _ _ rfl) ?_)) | go_skip | (refine wpList_is (.build _ _) rfl ?_; go_must (refine wpList_stp (by kernel_rfl) (stp_val (run_bd _ _ rfl) ?_))) | (refine wpList_is (.call { callee := .builtin .clear, args := #[_], argTypes := #[_] }) rfl ?_; go_must (refine wpList_stp (by kernel_rfl) (stp_cl _ _ rfl hS (by decide) ?_)); clear hS; intro w hS) | (refine wpList_is (.load _ _) rfl ?_; go_must (first | refine wpList_stp (by kernel_rfl) (stp_val (run_ld _ _ rfl hS) ?_) | refine wpList_stp (by kernel_rfl) (stp_val (run_lda _ _ rfl hS) ?_) | refine wpList_stp (by kernel_rfl) (stp_val (run_ld0 _ _ rfl hS) ?_) | refine wpList_stp (by kernel_rfl) (stp_val (run_lda0 _ _ rfl hS) ?_))) | (refine wpList_is (.store _ _ _) rfl ?_; go_must (first | refine wpList_stp (by kernel_rfl) (stp_st _ _ _ rfl hS ?_) | refine wpList_stp (by kernel_rfl) (stp_sta _ _ _ rfl hS ?_)); clear hS; intro w hS) | (refine wpList_is (.alloc _) rfl ?_; go_must (refine wpList_stp (by kernel_rfl) (stp_al _ rfl hS ?_)); clear hS; intro bN w hbN hS) | (refine wpList_is (.box _ _) rfl ?_; go_must (refine wpList_stp (by kernel_rfl) (stp_bx _ _ rfl hS ?_)); clear hS; intro bN w hbN hS) | (refine wpList_is (.binOp .eql _ _ (.const (.slice none _ _)) _) rfl ?_; refine wpList_stp (by kernel_rfl) (stp_val (run_nse _ _ _ rfl) ?_)) | (refine wpList_is (.binOp .neq _ _ (.const (.slice none _ _)) _) rfl ?_; refine wpList_stp (by kernel_rfl) (stp_val (run_nsn _ _ _ rfl) ?_)))
              go_meet
              exact ⟨by rw [hwq'.out, if_neg hbig], hS.pick⟩
          case rest =>
          clear hS
          obtain ⟨rfl, hS⟩ := hcut
          go_wp2_with (first | go_skip | go_skip | (refine wpList_is (.call { callee := .builtin .len, args := #[_], argTypes := #[_] }) rfl ?_; refine wpList_stp (by kernel_rfl) (stp_val (run_lenv _ _ rfl) ?_)) | (refine wpList_is (.slice _ _ none (some _) none) rfl ?_; refine wpList_stp (by kernel_rfl) (stp_val (run_prev _ _ _ rfl) ?_)) | (refine wpList_is (.indexAddr _ _ _) rfl ?_; refine wpList_stp (by kernel_rfl) (stp_val (run_idxv _ _ _ rfl) ?_)) | go_skip | (refine wpList_is (.build _ _) rfl ?_; go_must (refine wpList_stp (by kernel_rfl) (stp_val (run_bd _ _ rfl) ?_))) | (refine wpList_is (.call { callee := .builtin .clear, args := #[_], argTypes := #[_] }) rfl ?_; go_must (refine wpList_stp (by kernel_rfl) (stp_cl _ _ rfl hS (by decide) ?_)); clear hS; intro w hS) | (refine wpList_is (.load _ _) rfl ?_; go_must (first | refine wpList_stp (by kernel_rfl) (stp_val (run_ld _ _ rfl hS) ?_) | refine wpList_stp (by kernel_rfl) (stp_val (run_lda _ _ rfl hS) ?_) | refine wpList_stp (by kernel_rfl) (stp_val (run_ld0 _ _ rfl hS) ?_) | refine wpList_stp (by kernel_rfl) (stp_val (run_lda0 _ _ rfl hS) ?_))) | (refine wpList_is (.store _ _ _) rfl ?_; go_must (first | refine wpList_stp (by kernel_rfl) (stp_st _ _ _ rfl hS ?_) | refine wpList_stp (by kernel_rfl) (stp_sta _ _ _ rfl hS ?_)); clear hS; intro w hS) | (refine wpList_is (.alloc _) rfl ?_; go_must (refine wpList_stp (by kernel_rfl) (stp_al _ rfl hS ?_)); clear hS; intro bN w hbN hS) | (refine wpList_is (.box _ _) rfl ?_; go_must (refine wpList_stp (by kernel_rfl) (stp_bx _ _ rfl hS ?_)); clear hS; intro bN w hbN hS) | (refine wpList_is (.binOp .eql _ _ (.const (.slice none _ _)) _) rfl ?_; refine wpList_stp (by kernel_rfl) (stp_val (run_nse _ _ _ rfl) ?_)) | (refine wpList_is (.binOp .neq _ _ (.const (.slice none _ _)) _) rfl ?_; refine wpList_stp (by kernel_rfl) (stp_val (run_nsn _ _ _ rfl) ?_)))
          have hS : St w0 bs _ (E ++ (Eb ++ (moE bm ph M vi vg :: (Ei ++ (Eg ++ ms.map meE))))) := hS.pick
          refine region_itemsE [⟨(undef, []), [(12, fun _ x => ∃ b, x = (.pointer (some ⟨b, 0, none⟩), [⟨b, #[.int .i64 0, .int .u32 0], 38, true⟩])), (13, fun y x => ∃ b, y.1 = .pointer (some ⟨b, 0, none⟩) ∧ x.2 = [⟨b, #[.int .i64 0, .int .u32 0], 38, true⟩])]⟩]
            (E ++ (Eb ++ (moE bm ph M vi vg :: (Ei ++ (Eg ++ ms.map meE))))) (E ++ (Eb ++ (moE bm ph M vi vg :: (Ei ++ (Eg ++ ms.map meE))))) (by simp) hS (by as_aux_lemma => kernel_rfl) (by as_aux_lemma => kernel_rfl) ?_
          refine fx_val (fun _ => rfl) rfl (fun χ w hw => run_mv _ rfl) ?_
          refine fx_val (fun _ => rfl) rfl (fun χ w hw => run_nc _ rfl) ?_
          refine fx_val (fun _ => rfl) rfl (fun χ w hw => run_fa _ _ _ rfl) ?_
          first | (refine fx_val (fun _ => rfl) rfl (fun χ w hw => run_ld _ _ rfl hw) ?_) | (refine fx_val (fun _ => rfl) rfl (fun χ w hw => run_ld0 _ _ rfl hw) ?_)
          refine fx_val (fun _ => rfl) rfl (fun χ w hw => run_mv _ rfl) ?_
          refine fx_val (fun _ => rfl) rfl (fun χ w hw => run_mv _ rfl) ?_
          refine fx_val (fun _ => rfl) rfl (fun χ w hw => run_idxv _ _ _ rfl) ?_
          first | (refine fx_val (fun _ => rfl) rfl (fun χ w hw => run_lda _ _ rfl hw) ?_) | (refine fx_val (fun _ => rfl) rfl (fun χ w hw => run_lda0 _ _ rfl hw) ?_)
          refine fx_ask 21 [_, _, _] _ rfl (fun _ => rfl) rfl (enters _ (by as_aux_lemma => kernel_rfl)) (.tuple #[.agg #[.int .i64 0, .int .u32 0], .int .i64 wq]) (fun X w hS => hp_load hS hT xs xg 0 (0, 0) wq hb1'.out hb2'.out (fun w' _ hS' => ⟨rfl, hS'.pick⟩)) ?_
          refine fx_val (fun _ => rfl) rfl (fun χ w hw => run_mv _ rfl) ?_
          refine fx_val (fun _ => rfl) rfl (fun χ w hw => run_ext _ _ rfl) ?_
          refine fx_val (fun _ => rfl) rfl (fun χ w hw => run_ext _ _ rfl) ?_
          refine fx_turn0 0 0 rfl rfl (by as_aux_lemma => kernel_rfl) (by as_aux_lemma => kernel_rfl) (by as_aux_lemma => kernel_rfl) (fun _ => rfl) (fun x => x.1) ?_ ?_
          · intro χ X w _ hS
            exact stepX_al _ rfl (show St w0 bs w (X ++ _) from hS) (fun b w' _ hS' => ⟨(_, [_]), rfl, ⟨b, rfl⟩, hS'⟩)
          refine fx_turn0 0 1 rfl rfl (by as_aux_lemma => kernel_rfl) (by as_aux_lemma => kernel_rfl) (by as_aux_lemma => kernel_rfl) (fun _ => rfl) (fun _ => undef) ?_ ?_
          · rintro χ X w ⟨⟨b, hb⟩, _⟩ hS
            have hS : St w0 bs w ((χ 12).2 ++ (X ++ _)) := hS
            rw [hb] at hS
            have hS : St w0 bs w (⟨b, #[.int .i64 0, .int .u32 0], 38, true⟩ :: (X ++ _)) := hS
            have hb1 : (χ 12).1 = .pointer (some ⟨b, 0, none⟩) := by rw [hb]
            exact stepX_stb _ _ _ rfl hS hb1 (fun w' hS' => ⟨(undef, [⟨b, #[.int .i64 0, .int .u32 0], 38, true⟩]), rfl, ⟨b, hb1, rfl⟩, hS'⟩)
          refine fx_val (fun _ => rfl) rfl (fun χ w hw => run_as _ rfl) ?_
          refine fx_end rfl ?_
          intro χ w hok hS
          obtain ⟨⟨bn, hb⟩, ⟨bo', hb1, hb2⟩, _⟩ := hok _ (.head _)
          rw [hb] at hb1
          obtain ⟨⟩ := hb1
          have hS : St w0 bs w (((χ 13).2 ++ []) ++ (E ++ (Eb ++ (moE bm ph M vi vg :: (Ei ++ (Eg ++ ms.map meE)))))) := hS
          rw [hb2, List.append_nil] at hS
          simp only [hb]
          simp only [List.cons_append, List.nil_append] at hS
          clear hok hb2 hb
          go_wp2_with (first | go_skip | (refine wpList_is (.binOp .neq 38 _ _ _) rfl ?_; refine wpList_stp (by kernel_rfl) (stp_val (run_ane _ _ _ _ rfl) ?_)) | (refine wpList_is (.load 38 _) rfl ?_; refine wpList_stp (by kernel_rfl) (stp_val (run_lda _ _ rfl hS) ?_)) | go_skip | (refine wpList_is (.build _ _) rfl ?_; go_must (refine wpList_stp (by kernel_rfl) (stp_val (run_bd _ _ rfl) ?_))) | (refine wpList_is (.call { callee := .builtin .clear, args := #[_], argTypes := #[_] }) rfl ?_; go_must (refine wpList_stp (by kernel_rfl) (stp_cl _ _ rfl hS (by decide) ?_)); clear hS; intro w hS) | (refine wpList_is (.load _ _) rfl ?_; go_must (first | refine wpList_stp (by kernel_rfl) (stp_val (run_ld _ _ rfl hS) ?_) | refine wpList_stp (by kernel_rfl) (stp_val (run_lda _ _ rfl hS) ?_) | refine wpList_stp (by kernel_rfl) (stp_val (run_ld0 _ _ rfl hS) ?_) | refine wpList_stp (by kernel_rfl) (stp_val (run_lda0 _ _ rfl hS) ?_))) | (refine wpList_is (.store _ _ _) rfl ?_; go_must (first | refine wpList_stp (by kernel_rfl) (stp_st _ _ _ rfl hS ?_) | refine wpList_stp (by kernel_rfl) (stp_sta _ _ _ rfl hS ?_)); clear hS; intro w hS) | (refine wpList_is (.alloc _) rfl ?_; go_must (refine wpList_stp (by kernel_rfl) (stp_al _ rfl hS ?_)); clear hS; intro bN w hbN hS) | (refine wpList_is (.box _ _) rfl ?_; go_must (refine wpList_stp (by kernel_rfl) (stp_bx _ _ rfl hS ?_)); clear hS; intro bN w hbN hS) | (refine wpList_is (.binOp .eql _ _ (.const (.slice none _ _)) _) rfl ?_; refine wpList_stp (by kernel_rfl) (stp_val (run_nse _ _ _ rfl) ?_)) | (refine wpList_is (.binOp .neq _ _ (.const (.slice none _ _)) _) rfl ?_; refine wpList_stp (by kernel_rfl) (stp_val (run_nsn _ _ _ rfl) ?_)))
          have hS : St w0 bs _ (E ++ (Eb ++ (moE bm ph M vi vg :: (Ei ++ (Eg ++ ms.map meE))))) := hS.pick
          refine region_itemsE [⟨(undef, E), [(9, fun _ x => HA ph (HL L) x.2)]⟩, ⟨(undef, []), [(13, fun _ x => ∃ b, x = (.pointer (some ⟨b, 0, none⟩), [⟨b, #[.int .i64 0, .int .u32 0], 38, true⟩])), (14, fun y x => ∃ b, y.1 = .pointer (some ⟨b, 0, none⟩) ∧ x.2 = [⟨b, #[.int .i64 0, .int .u32 0], 38, true⟩])]⟩]
            (Eb ++ (moE bm ph M vi vg :: (Ei ++ (Eg ++ ms.map meE)))) (E ++ (Eb ++ (moE bm ph M vi vg :: (Ei ++ (Eg ++ ms.map meE))))) (by simp) hS (by as_aux_lemma => kernel_rfl) (by as_aux_lemma => kernel_rfl) ?_
          refine fx_val (fun _ => rfl) rfl (fun χ w hw => run_mv _ rfl) ?_
          refine fx_val (fun _ => rfl) rfl (fun χ w hw => run_nc _ rfl) ?_
          refine fx_val (fun _ => rfl) rfl (fun χ w hw => run_fa _ _ _ rfl) ?_
          first | (refine fx_val (fun _ => rfl) rfl (fun χ w hw => run_ld _ _ rfl hw) ?_) | (refine fx_val (fun _ => rfl) rfl (fun χ w hw => run_ld0 _ _ rfl hw) ?_)
          refine fx_val (fun _ => rfl) rfl (fun χ w hw => run_mv _ rfl) ?_
          refine fx_val (fun _ => rfl) rfl (fun χ w hw => run_mv _ rfl) ?_
          refine fx_val (fun _ => rfl) rfl (fun χ w hw => run_idxv _ _ _ rfl) ?_
          first | (refine fx_val (fun _ => rfl) rfl (fun χ w hw => run_lda _ _ rfl hw) ?_) | (refine fx_val (fun _ => rfl) rfl (fun χ w hw => run_lda0 _ _ rfl hw) ?_)
          refine fx_val (fun _ => rfl) rfl (fun χ w hw => run_bd _ _ rfl) ?_
          refine fx_turn 0 0 rfl rfl (by as_aux_lemma => kernel_rfl) (by as_aux_lemma => kernel_rfl) (by as_aux_lemma => kernel_rfl) 22 [_, _, _, _] _ rfl (fun _ => rfl) (enters _ (by as_aux_lemma => kernel_rfl)) (fun _ => .tuple #[.agg #[.int .i64 0, .int .u32 0], .int .i64 wq]) ?_ ?_
          · intro χ X w _ hS
            exact hp_store (show St w0 bs w (E ++ (X ++ _)) from hS) hT xs xg 0 0 0 (by decide) _ (0, 0) wq hb6'.out.1 hb6'.out.2.1 hb6'.out.2.2 (fun E' w' hT' hS' => ⟨(undef, E'), rfl, hT', show St w0 bs w' (E' ++ (X ++ _)) from hS'.pick⟩)
          refine fx_val (fun _ => rfl) rfl (fun χ w hw => run_mv _ rfl) ?_
          refine fx_val (fun _ => rfl) rfl (fun χ w hw => run_ext _ _ rfl) ?_
          refine fx_val (fun _ => rfl) rfl (fun χ w hw => run_ext _ _ rfl) ?_
          refine fx_turn0 1 0 rfl rfl (by as_aux_lemma => kernel_rfl) (by as_aux_lemma => kernel_rfl) (by as_aux_lemma => kernel_rfl) (fun _ => rfl) (fun x => x.1) ?_ ?_
          · intro χ X w _ hS
            exact stepX_al _ rfl (show St w0 bs w (X ++ _) from hS) (fun b w' _ hS' => ⟨(_, [_]), rfl, ⟨b, rfl⟩, hS'⟩)
          refine fx_turn0 1 1 rfl rfl (by as_aux_lemma => kernel_rfl) (by as_aux_lemma => kernel_rfl) (by as_aux_lemma => kernel_rfl) (fun _ => rfl) (fun _ => undef) ?_ ?_
          · rintro χ X w ⟨⟨b, hb⟩, _⟩ hS
            have hS : St w0 bs w ((χ 13).2 ++ (X ++ _)) := hS
            rw [hb] at hS
            have hS : St w0 bs w (⟨b, #[.int .i64 0, .int .u32 0], 38, true⟩ :: (X ++ _)) := hS
            have hb1 : (χ 13).1 = .pointer (some ⟨b, 0, none⟩) := by rw [hb]
            exact stepX_stb _ _ _ rfl hS hb1 (fun w' hS' => ⟨(undef, [⟨b, #[.int .i64 0, .int .u32 0], 38, true⟩]), rfl, ⟨b, hb1, rfl⟩, hS'⟩)
          refine fx_val (fun _ => rfl) rfl (fun χ w hw => run_as _ rfl) ?_
          refine fx_end rfl ?_
          intro χ w hok hS
          obtain ⟨hT2, _⟩ := hok _ (.head _)
          have hT2 : HA ph (HL L) (χ 9).2 := hT2
          obtain ⟨⟨bn, hb⟩, ⟨bo', hb1, hb2⟩, _⟩ := hok _ (.tail _ (.head _))
          rw [hb] at hb1
          obtain ⟨⟩ := hb1
          have hS : St w0 bs w (((χ 9).2 ++ ((χ 14).2 ++ [])) ++ (Eb ++ (moE bm ph M vi vg :: (Ei ++ (Eg ++ ms.map meE))))) := hS
          rw [hb2, List.append_nil, List.append_assoc] at hS
          generalize (χ 9).2 = E at hS hT2
          clear hT
          have hT := hT2
          clear hT2
          simp only [hb]
          simp only [List.cons_append, List.nil_append] at hS
          clear hok hb2 hb
          go_wp2_with (first | go_skip | (refine wpList_is (.binOp .neq 38 _ _ _) rfl ?_; refine wpList_stp (by kernel_rfl) (stp_val (run_ane _ _ _ _ rfl) ?_)) | (refine wpList_is (.load 38 _) rfl ?_; refine wpList_stp (by kernel_rfl) (stp_val (run_lda _ _ rfl hS) ?_)) | go_skip | (refine wpList_is (.build _ _) rfl ?_; go_must (refine wpList_stp (by kernel_rfl) (stp_val (run_bd _ _ rfl) ?_))) | (refine wpList_is (.call { callee := .builtin .clear, args := #[_], argTypes := #[_] }) rfl ?_; go_must (refine wpList_stp (by kernel_rfl) (stp_cl _ _ rfl hS (by decide) ?_)); clear hS; intro w hS) | (refine wpList_is (.load _ _) rfl ?_; go_must (first | refine wpList_stp (by kernel_rfl) (stp_val (run_ld _ _ rfl hS) ?_) | refine wpList_stp (by kernel_rfl) (stp_val (run_lda _ _ rfl hS) ?_) | refine wpList_stp (by kernel_rfl) (stp_val (run_ld0 _ _ rfl hS) ?_) | refine wpList_stp (by kernel_rfl) (stp_val (run_lda0 _ _ rfl hS) ?_))) | (refine wpList_is (.store _ _ _) rfl ?_; go_must (first | refine wpList_stp (by kernel_rfl) (stp_st _ _ _ rfl hS ?_) | refine wpList_stp (by kernel_rfl) (stp_sta _ _ _ rfl hS ?_)); clear hS; intro w hS) | (refine wpList_is (.alloc _) rfl ?_; go_must (refine wpList_stp (by kernel_rfl) (stp_al _ rfl hS ?_)); clear hS; intro bN w hbN hS) | (refine wpList_is (.box _ _) rfl ?_; go_must (refine wpList_stp (by kernel_rfl) (stp_bx _ _ rfl hS ?_)); clear hS; intro bN w hbN hS) | (refine wpList_is (.binOp .eql _ _ (.const (.slice none _ _)) _) rfl ?_; refine wpList_stp (by kernel_rfl) (stp_val (run_nse _ _ _ rfl) ?_)) | (refine wpList_is (.binOp .neq _ _ (.const (.slice none _ _)) _) rfl ?_; refine wpList_stp (by kernel_rfl) (stp_val (run_nsn _ _ _ rfl) ?_)))
          have hS : St w0 bs _ (E ++ (Eb ++ (moE bm ph M vi vg :: (Ei ++ (Eg ++ ms.map meE))))) := hS.pick
          refine region_itemsE [⟨(undef, []), [(12, fun _ x => ∃ b, x = (.pointer (some ⟨b, 0, none⟩), [⟨b, objC 0 zero4 false, 55, true⟩])), (13, fun y x => ∃ b, y.1 = .pointer (some ⟨b, 0, none⟩) ∧ x.2 = [⟨b, objC 0 zero4 false, 55, true⟩])]⟩]
            (E ++ (Eb ++ (moE bm ph M vi vg :: (Ei ++ (Eg ++ ms.map meE))))) (E ++ (Eb ++ (moE bm ph M vi vg :: (Ei ++ (Eg ++ ms.map meE))))) (by simp) hS (by as_aux_lemma => kernel_rfl) (by as_aux_lemma => kernel_rfl) ?_
          refine fx_val (fun _ => rfl) rfl (fun χ w hw => run_mv _ rfl) ?_
          refine fx_val (fun _ => rfl) rfl (fun χ w hw => run_nc _ rfl) ?_
          refine fx_val (fun _ => rfl) rfl (fun χ w hw => run_fa _ _ _ rfl) ?_
          first | (refine fx_val (fun _ => rfl) rfl (fun χ w hw => run_ld _ _ rfl hw) ?_) | (refine fx_val (fun _ => rfl) rfl (fun χ w hw => run_ld0 _ _ rfl hw) ?_)
          refine fx_val (fun _ => rfl) rfl (fun χ w hw => run_mv _ rfl) ?_
          refine fx_val (fun _ => rfl) rfl (fun χ w hw => run_mv _ rfl) ?_
          refine fx_val (fun _ => rfl) rfl (fun χ w hw => run_idxv _ _ _ rfl) ?_
          first | (refine fx_val (fun _ => rfl) rfl (fun χ w hw => run_lda _ _ rfl hw) ?_) | (refine fx_val (fun _ => rfl) rfl (fun χ w hw => run_lda0 _ _ rfl hw) ?_)
          refine fx_ask 23 [_, _] _ rfl (fun _ => rfl) rfl (enters _ (by as_aux_lemma => kernel_rfl)) (.tuple #[.agg (objC 0 zero4 false), .int .i64 wq]) (fun X w hS => hp_object hS hT xs xg zOb wq hb3'.out hw'.out (fun w' _ hS' => ⟨rfl, hS'.pick⟩)) ?_
          refine fx_val (fun _ => rfl) rfl (fun χ w hw => run_mv _ rfl) ?_
          refine fx_val (fun _ => rfl) rfl (fun χ w hw => run_ext _ _ rfl) ?_
          refine fx_val (fun _ => rfl) rfl (fun χ w hw => run_ext _ _ rfl) ?_
          refine fx_turn0 0 0 rfl rfl (by as_aux_lemma => kernel_rfl) (by as_aux_lemma => kernel_rfl) (by as_aux_lemma => kernel_rfl) (fun _ => rfl) (fun x => x.1) ?_ ?_
          · intro χ X w _ hS
            exact stepX_al _ rfl (show St w0 bs w (X ++ _) from hS) (fun b w' _ hS' => ⟨(_, [_]), rfl, ⟨b, rfl⟩, hS'⟩)
          refine fx_turn0 0 1 rfl rfl (by as_aux_lemma => kernel_rfl) (by as_aux_lemma => kernel_rfl) (by as_aux_lemma => kernel_rfl) (fun _ => rfl) (fun _ => undef) ?_ ?_
          · rintro χ X w ⟨⟨b, hb⟩, _⟩ hS
            have hS : St w0 bs w ((χ 12).2 ++ (X ++ _)) := hS
            rw [hb] at hS
            have hS : St w0 bs w (⟨b, objC 0 zero4 false, 55, true⟩ :: (X ++ _)) := hS
            have hb1 : (χ 12).1 = .pointer (some ⟨b, 0, none⟩) := by rw [hb]
            exact stepX_stb _ _ _ rfl hS hb1 (fun w' hS' => ⟨(undef, [⟨b, objC 0 zero4 false, 55, true⟩]), rfl, ⟨b, hb1, rfl⟩, hS'⟩)
          refine fx_val (fun _ => rfl) rfl (fun χ w hw => run_as _ rfl) ?_
          refine fx_end rfl ?_
          intro χ w hok hS
          obtain ⟨⟨bn, hb⟩, ⟨bo', hb1, hb2⟩, _⟩ := hok _ (.head _)
          rw [hb] at hb1
          obtain ⟨⟩ := hb1
          have hS : St w0 bs w (((χ 13).2 ++ []) ++ (E ++ (Eb ++ (moE bm ph M vi vg :: (Ei ++ (Eg ++ ms.map meE)))))) := hS
          rw [hb2, List.append_nil] at hS
          simp only [hb]
          simp only [List.cons_append, List.nil_append] at hS
          clear hok hb2 hb
          go_wp2_with (first | go_skip | (refine wpList_is (.binOp .neq 38 _ _ _) rfl ?_; refine wpList_stp (by kernel_rfl) (stp_val (run_ane _ _ _ _ rfl) ?_)) | (refine wpList_is (.load 38 _) rfl ?_; refine wpList_stp (by kernel_rfl) (stp_val (run_lda _ _ rfl hS) ?_)) | go_skip | (refine wpList_is (.build _ _) rfl ?_; go_must (refine wpList_stp (by kernel_rfl) (stp_val (run_bd _ _ rfl) ?_))) | (refine wpList_is (.call { callee := .builtin .clear, args := #[_], argTypes := #[_] }) rfl ?_; go_must (refine wpList_stp (by kernel_rfl) (stp_cl _ _ rfl hS (by decide) ?_)); clear hS; intro w hS) | (refine wpList_is (.load _ _) rfl ?_; go_must (first | refine wpList_stp (by kernel_rfl) (stp_val (run_ld _ _ rfl hS) ?_) | refine wpList_stp (by kernel_rfl) (stp_val (run_lda _ _ rfl hS) ?_) | refine wpList_stp (by kernel_rfl) (stp_val (run_ld0 _ _ rfl hS) ?_) | refine wpList_stp (by kernel_rfl) (stp_val (run_lda0 _ _ rfl hS) ?_))) | (refine wpList_is (.store _ _ _) rfl ?_; go_must (first | refine wpList_stp (by kernel_rfl) (stp_st _ _ _ rfl hS ?_) | refine wpList_stp (by kernel_rfl) (stp_sta _ _ _ rfl hS ?_)); clear hS; intro w hS) | (refine wpList_is (.alloc _) rfl ?_; go_must (refine wpList_stp (by kernel_rfl) (stp_al _ rfl hS ?_)); clear hS; intro bN w hbN hS) | (refine wpList_is (.box _ _) rfl ?_; go_must (refine wpList_stp (by kernel_rfl) (stp_bx _ _ rfl hS ?_)); clear hS; intro bN w hbN hS) | (refine wpList_is (.binOp .eql _ _ (.const (.slice none _ _)) _) rfl ?_; refine wpList_stp (by kernel_rfl) (stp_val (run_nse _ _ _ rfl) ?_)) | (refine wpList_is (.binOp .neq _ _ (.const (.slice none _ _)) _) rfl ?_; refine wpList_stp (by kernel_rfl) (stp_val (run_nsn _ _ _ rfl) ?_)))
          have hS : St w0 bs _ (E ++ (Eb ++ (moE bm ph M vi vg :: (Ei ++ (Eg ++ ms.map meE))))) := hS.pick
          refine region_itemsE [⟨(undef, E), [(22, fun _ x => HA ph (HL L) x.2), (35, fun _ x => HA ph (HL L) x.2)]⟩] (Eb ++ (moE bm ph M vi vg :: (Ei ++ (Eg ++ ms.map meE)))) (E ++ (Eb ++ (moE bm ph M vi vg :: (Ei ++ (Eg ++ ms.map meE))))) (by simp) hS (by as_aux_lemma => kernel_rfl) (by as_aux_lemma => kernel_rfl) ?_
          refine fx_val (fun _ => rfl) rfl (fun χ w hw => run_mv _ rfl) ?_
          refine fx_val (fun _ => rfl) rfl (fun χ w hw => run_mv _ rfl) ?_
          first | (refine fx_val (fun _ => rfl) rfl (fun χ w hw => run_ine _ _ _ _ rfl) ?_) | (refine fx_val (fun _ => rfl) rfl (fun χ w hw => run_inlit _ _ _ _ rfl) ?_) | (refine fx_val (fun _ => rfl) rfl (fun χ w hw => run_bne _ _ _ _ rfl) ?_) | (refine fx_val (fun _ => rfl) rfl (fun χ w hw => run_nsn _ _ _ rfl) ?_)
          refine fx_val (fun _ => rfl) rfl (fun χ w hw => run_mv _ rfl) ?_
          first | (refine fx_val (fun _ => rfl) rfl (fun χ w hw => run_mv _ rfl) ?_) | (refine fx_skip (fun _ => rfl) ?_)
          first | (refine fx_val (fun _ => rfl) rfl (fun χ w hw => run_mv _ rfl) ?_) | (refine fx_skip (fun _ => rfl) ?_)
          first | (refine fx_val (fun _ => rfl) rfl (fun χ w hw => run_ine _ _ _ _ rfl) ?_) | (refine fx_val (fun _ => rfl) rfl (fun χ w hw => run_inlit _ _ _ _ rfl) ?_) | (refine fx_val (fun _ => rfl) rfl (fun χ w hw => run_bne _ _ _ _ rfl) ?_) | (refine fx_val (fun _ => rfl) rfl (fun χ w hw => run_nsn _ _ _ rfl) ?_) | (refine fx_skip (fun _ => rfl) ?_)
          first | (refine fx_val (fun _ => rfl) rfl (fun χ w hw => run_pk1 _ _ _ rfl) ?_) | (refine fx_val (fun _ => rfl) rfl (fun χ w hw => run_pk2 _ _ _ rfl) ?_)
          refine fx_val (fun _ => rfl) rfl (fun χ w hw => run_mv _ rfl) ?_
          first | (refine fx_val (fun _ => rfl) rfl (fun χ w hw => run_mv _ rfl) ?_) | (refine fx_skip (fun _ => rfl) ?_)
          first | (refine fx_val (fun _ => rfl) rfl (fun χ w hw => run_mv _ rfl) ?_) | (refine fx_skip (fun _ => rfl) ?_)
          first | (refine fx_val (fun _ => rfl) rfl (fun χ w hw => run_ine _ _ _ _ rfl) ?_) | (refine fx_val (fun _ => rfl) rfl (fun χ w hw => run_inlit _ _ _ _ rfl) ?_) | (refine fx_val (fun _ => rfl) rfl (fun χ w hw => run_bne _ _ _ _ rfl) ?_) | (refine fx_val (fun _ => rfl) rfl (fun χ w hw => run_nsn _ _ _ rfl) ?_) | (refine fx_skip (fun _ => rfl) ?_)
          first | (refine fx_val (fun _ => rfl) rfl (fun χ w hw => run_pk1 _ _ _ rfl) ?_) | (refine fx_val (fun _ => rfl) rfl (fun χ w hw => run_pk2 _ _ _ rfl) ?_)
          refine fx_val (fun _ => rfl) rfl (fun χ w hw => run_mv _ rfl) ?_
          first | (refine fx_val (fun _ => rfl) rfl (fun χ w hw => run_mv _ rfl) ?_) | (refine fx_skip (fun _ => rfl) ?_)
          first | (refine fx_val (fun _ => rfl) rfl (fun χ w hw => run_nc _ rfl) ?_) | (refine fx_skip (fun _ => rfl) ?_)
          first | (refine fx_val (fun _ => rfl) rfl (fun χ w hw => run_fa _ _ _ rfl) ?_) | (refine fx_skip (fun _ => rfl) ?_)
          first | (refine fx_val (fun _ => rfl) rfl (fun χ w hw => run_ld _ _ rfl hw) ?_) | (refine fx_val (fun _ => rfl) rfl (fun χ w hw => run_ld0 _ _ rfl hw) ?_) | (refine fx_skip (fun _ => rfl) ?_)
          first | (refine fx_val (fun _ => rfl) rfl (fun χ w hw => run_mv _ rfl) ?_) | (refine fx_skip (fun _ => rfl) ?_)
          first | (refine fx_val (fun _ => rfl) rfl (fun χ w hw => run_mv _ rfl) ?_) | (refine fx_skip (fun _ => rfl) ?_)
          first | (refine fx_val (fun _ => rfl) rfl (fun χ w hw => run_idxv _ _ _ rfl) ?_) | (refine fx_skip (fun _ => rfl) ?_)
          first | (refine fx_val (fun _ => rfl) rfl (fun χ w hw => run_lda _ _ rfl hw) ?_) | (refine fx_val (fun _ => rfl) rfl (fun χ w hw => run_lda0 _ _ rfl hw) ?_) | (refine fx_skip (fun _ => rfl) ?_)
          refine fx_turn 0 0 rfl rfl (by as_aux_lemma => kernel_rfl) (by as_aux_lemma => kernel_rfl) (by as_aux_lemma => kernel_rfl) 18 [_, _] _ rfl (fun _ => rfl) (enters _ (by as_aux_lemma => kernel_rfl)) (fun _ => .int .i64 wq) ?_ ?_
          · intro χ X w _ hS
            exact hp_free (show St w0 bs w (E ++ (X ++ _)) from hS) hT xs xg _ wq hb5'.out hw'.out (fun E' w' hT' hS' => ⟨(undef, E'), rfl, hT', show St w0 bs w' (E' ++ (X ++ _)) from hS'.pick⟩)
          first | (refine fx_val (fun _ => rfl) rfl (fun χ w hw => run_mv _ rfl) ?_) | (refine fx_skip (fun _ => rfl) ?_)
          first | (refine fx_val (fun _ => rfl) rfl (fun χ w hw => run_ine _ _ _ _ rfl) ?_) | (refine fx_val (fun _ => rfl) rfl (fun χ w hw => run_inlit _ _ _ _ rfl) ?_) | (refine fx_val (fun _ => rfl) rfl (fun χ w hw => run_bne _ _ _ _ rfl) ?_) | (refine fx_val (fun _ => rfl) rfl (fun χ w hw => run_nsn _ _ _ rfl) ?_) | (refine fx_skip (fun _ => rfl) ?_)
          first | (refine fx_val (fun _ => rfl) rfl (fun χ w hw => run_pk1 _ _ _ rfl) ?_) | (refine fx_val (fun _ => rfl) rfl (fun χ w hw => run_pk2 _ _ _ rfl) ?_)
          refine fx_val (fun _ => rfl) rfl (fun χ w hw => run_mv _ rfl) ?_
          first | (refine fx_val (fun _ => rfl) rfl (fun χ w hw => run_mv _ rfl) ?_) | (refine fx_skip (fun _ => rfl) ?_)
          first | (refine fx_val (fun _ => rfl) rfl (fun χ w hw => run_nc _ rfl) ?_) | (refine fx_skip (fun _ => rfl) ?_)
          first | (refine fx_val (fun _ => rfl) rfl (fun χ w hw => run_fa _ _ _ rfl) ?_) | (refine fx_skip (fun _ => rfl) ?_)
          first | (refine fx_val (fun _ => rfl) rfl (fun χ w hw => run_ld _ _ rfl hw) ?_) | (refine fx_val (fun _ => rfl) rfl (fun χ w hw => run_ld0 _ _ rfl hw) ?_) | (refine fx_skip (fun _ => rfl) ?_)
          first | (refine fx_val (fun _ => rfl) rfl (fun χ w hw => run_mv _ rfl) ?_) | (refine fx_skip (fun _ => rfl) ?_)
          first | (refine fx_val (fun _ => rfl) rfl (fun χ w hw => run_mv _ rfl) ?_) | (refine fx_skip (fun _ => rfl) ?_)
          first | (refine fx_val (fun _ => rfl) rfl (fun χ w hw => run_idxv _ _ _ rfl) ?_) | (refine fx_skip (fun _ => rfl) ?_)
          first | (refine fx_val (fun _ => rfl) rfl (fun χ w hw => run_lda _ _ rfl hw) ?_) | (refine fx_val (fun _ => rfl) rfl (fun χ w hw => run_lda0 _ _ rfl hw) ?_) | (refine fx_skip (fun _ => rfl) ?_)
          refine fx_turn 0 1 rfl rfl (by as_aux_lemma => kernel_rfl) (by as_aux_lemma => kernel_rfl) (by as_aux_lemma => kernel_rfl) 24 [_, _] _ rfl (fun _ => rfl) (enters _ (by as_aux_lemma => kernel_rfl)) (fun _ => .bool false) ?_ ?_
          · rintro χ X w ⟨hT1, _⟩ hS
            have hT1 : HA ph (HL L) (χ 22).2 := hT1
            exact hp_has (show St w0 bs w ((χ 22).2 ++ (X ++ _)) from hS) hT1 xs xg false hb4'.out (fun w' hT' hS' => ⟨(undef, (χ 22).2), rfl, hT', show St w0 bs w' ((χ 22).2 ++ (X ++ _)) from hS'.pick⟩)
          first | (refine fx_val (fun _ => rfl) rfl (fun χ w hw => run_pk1 _ _ _ rfl) ?_) | (refine fx_val (fun _ => rfl) rfl (fun χ w hw => run_pk2 _ _ _ rfl) ?_)
          refine fx_end rfl ?_
          intro χ w hok hS
          obtain ⟨_, hT2, _⟩ := hok _ (.head _)
          have hT2 : HA ph (HL L) (χ 35).2 := hT2
          have hS : St w0 bs w (((χ 35).2 ++ []) ++ (Eb ++ (moE bm ph M vi vg :: (Ei ++ (Eg ++ ms.map meE))))) := hS
          rw [List.append_nil] at hS
          generalize (χ 35).2 = E at hS hT2
          clear hok hT
          have hT := hT2
          clear hT2
          go_wp2_with (first | go_skip | (refine wpList_is (.binOp .neq 38 _ _ _) rfl ?_; refine wpList_stp (by kernel_rfl) (stp_val (run_ane _ _ _ _ rfl) ?_)) | (refine wpList_is (.load 38 _) rfl ?_; refine wpList_stp (by kernel_rfl) (stp_val (run_lda _ _ rfl hS) ?_)) | go_skip | (refine wpList_is (.build _ _) rfl ?_; go_must (refine wpList_stp (by kernel_rfl) (stp_val (run_bd _ _ rfl) ?_))) | (refine wpList_is (.call { callee := .builtin .clear, args := #[_], argTypes := #[_] }) rfl ?_; go_must (refine wpList_stp (by kernel_rfl) (stp_cl _ _ rfl hS (by decide) ?_)); clear hS; intro w hS) | (refine wpList_is (.load _ _) rfl ?_; go_must (first | refine wpList_stp (by kernel_rfl) (stp_val (run_ld _ _ rfl hS) ?_) | refine wpList_stp (by kernel_rfl) (stp_val (run_lda _ _ rfl hS) ?_) | refine wpList_stp (by kernel_rfl) (stp_val (run_ld0 _ _ rfl hS) ?_) | refine wpList_stp (by kernel_rfl) (stp_val (run_lda0 _ _ rfl hS) ?_))) | (refine wpList_is (.store _ _ _) rfl ?_; go_must (first | refine wpList_stp (by kernel_rfl) (stp_st _ _ _ rfl hS ?_) | refine wpList_stp (by kernel_rfl) (stp_sta _ _ _ rfl hS ?_)); clear hS; intro w hS) | (refine wpList_is (.alloc _) rfl ?_; go_must (refine wpList_stp (by kernel_rfl) (stp_al _ rfl hS ?_)); clear hS; intro bN w hbN hS) | (refine wpList_is (.box _ _) rfl ?_; go_must (refine wpList_stp (by kernel_rfl) (stp_bx _ _ rfl hS ?_)); clear hS; intro bN w hbN hS) | (refine wpList_is (.binOp .eql _ _ (.const (.slice none _ _)) _) rfl ?_; refine wpList_stp (by kernel_rfl) (stp_val (run_nse _ _ _ rfl) ?_)) | (refine wpList_is (.binOp .neq _ _ (.const (.slice none _ _)) _) rfl ?_; refine wpList_stp (by kernel_rfl) (stp_val (run_nsn _ _ _ rfl) ?_)))
          have hS : St w0 bs _ (E ++ (Eb ++ (moE bm ph M vi vg :: (Ei ++ (Eg ++ ms.map meE))))) := hS.pick
          obtain ⟨wo, hwo⟩ : ∃ wo : World, wo = w := ⟨_, rfl⟩
          clear hwo
          go_loopw [29] (fun s0 wz => ∃ (x : Nat) (E : List Ent) (_ : Unit), x ≤ m ∧ s0 = .int .i64 x ∧ HA ph (HL L) E ∧ St w0 bs wz (E ++ (Eb ++ (moE bm ph M vi vg :: (Ei ++ (Eg ++ ms.map meE)))))) (fun s0 _ => m - (intOf s0).toNat)
          case atStart => exact ⟨0, E, (), Nat.zero_le _, rfl, hT, hS⟩
          case round =>
            clear hS hT
            obtain ⟨x, E, _, hxm, rfl, hT, hS⟩ := hrel
            by_cases hgo : x < m ∧ (xs, xg) ≠ (0, 0)
            · obtain ⟨hxl, hnz⟩ := hgo
              have dx : decide ((x : Int) < (m : Int)) = true := decide_eq_true (by omega)
              have dx' : decide (x < m) = true := decide_eq_true hxl
              have q5 := refE (refB_no hnz)
              obtain ⟨⟨rs, rg⟩, hr⟩ : ∃ r, ins.getD x (0, 0) = r := ⟨_, rfl⟩
              have hil : x < ins.length := by rw [hm'.out]; exact hxl
              obtain ⟨gi, spi, ii, hHi, hci⟩ := hvi.at hil hr
              have ii := ii x rfl
              simp only at hci
              have hrm : (rs, rg) ∈ ins := by rw [← hr, List.getD_eq_getElem?_getD, List.getElem?_eq_getElem hil]; exact List.getElem_mem hil
              obtain ⟨j, ⟨kr, gb, l⟩, hj, hkr, hob⟩ := hMo.obj _ hrm
              simp only at hkr hob
              subst hkr
              have hl4 := (hMo.fd4 _ (List.mem_of_getElem? hj)).1
              simp only at hl4
              have hlk : ∀ w H, St w0 bs w H → LookIs Try.prog w 31 M #[.int .i64 rs, .int .u32 rg] false (.slice (some ⟨gb, 0, none⟩) l.length l.length) := fun w H hS => look_me (hB.now hS) hMo.ks hj rfl false
              have hlv := lenV_lit gb l.length
              clear hr hj
              by_cases hl0 : 0 < l.length
              · as_aux_lemma =>
                  have e1 : decide (0 < (l.length : Int)) = true := decide_eq_true (by omega)
                  have e1' : decide (0 < l.length) = true := decide_eq_true (by omega)
                  have e2 : decide ((l.length : Int) = 0) = false := decide_eq_false (by omega)
                  have e2' : decide (l.length = 0) = false := decide_eq_false (by omega)
                  have e2'' : ((l.length : Int) == 0) = false := by rw [beq_eq_false_iff_ne]; omega
                  have i1 := st_bad (L := L) (s := rs) (g := rg) (i := 0) (v := (xs, xg)) (e := wq) (by rw [st_in hob (by omega) (by omega) hnz]; exact hw'.out) hw0'.out
                  have hi1 := Lib.hid i1
                  have i2 := st_bad (L := L) (s := rs) (g := rg) (i := 4 + (fr : Int)) (v := (xs, xg)) (e := 3) (by rw [st_out hob (by omega)]) (by decide)
                  have hi2 := Lib.hid i2
                  have i3 := st_bad (L := L) (s := rs) (g := rg) (i := -1 - (fr : Int)) (v := (0, 0)) (e := 3) (by rw [st_out hob (by omega)]) (by decide)
                  have hi3 := Lib.hid i3
                  clear i1 i2 i3
                  clear hl0
                  go_wp2_with (first | go_skip | (refine wpList_is (.binOp .neq 38 _ _ _) rfl ?_; refine wpList_stp (by kernel_rfl) (stp_val (run_ane _ _ _ _ rfl) ?_)) | (refine wpList_is (.load 38 _) rfl ?_; refine wpList_stp (by kernel_rfl) (stp_val (run_lda _ _ rfl hS) ?_)) | go_skip | (refine wpList_is (.call { callee := .builtin .len, args := #[_], argTypes := #[_] }) rfl ?_; refine wpList_stp (by kernel_rfl) (stp_val (run_lenv _ _ rfl) ?_)) | (refine wpList_is (.slice _ _ none (some _) none) rfl ?_; refine wpList_stp (by kernel_rfl) (stp_val (run_prev _ _ _ rfl) ?_)) | (refine wpList_is (.indexAddr _ _ _) rfl ?_; refine wpList_stp (by kernel_rfl) (stp_val (run_idxv _ _ _ rfl) ?_)) | go_skip | (refine wpList_is (.build _ _) rfl ?_; go_must (refine wpList_stp (by kernel_rfl) (stp_val (run_bd _ _ rfl) ?_))) | (refine wpList_is (.call { callee := .builtin .clear, args := #[_], argTypes := #[_] }) rfl ?_; go_must (refine wpList_stp (by kernel_rfl) (stp_cl _ _ rfl hS (by decide) ?_)); clear hS; intro w hS) | (refine wpList_is (.load _ _) rfl ?_; go_must (first | refine wpList_stp (by kernel_rfl) (stp_val (run_ld _ _ rfl hS) ?_) | refine wpList_stp (by kernel_rfl) (stp_val (run_lda _ _ rfl hS) ?_) | refine wpList_stp (by kernel_rfl) (stp_val (run_ld0 _ _ rfl hS) ?_) | refine wpList_stp (by kernel_rfl) (stp_val (run_lda0 _ _ rfl hS) ?_))) | (refine wpList_is (.store _ _ _) rfl ?_; go_must (first | refine wpList_stp (by kernel_rfl) (stp_st _ _ _ rfl hS ?_) | refine wpList_stp (by kernel_rfl) (stp_sta _ _ _ rfl hS ?_)); clear hS; intro w hS) | (refine wpList_is (.alloc _) rfl ?_; go_must (refine wpList_stp (by kernel_rfl) (stp_al _ rfl hS ?_)); clear hS; intro bN w hbN hS) | (refine wpList_is (.box _ _) rfl ?_; go_must (refine wpList_stp (by kernel_rfl) (stp_bx _ _ rfl hS ?_)); clear hS; intro bN w hbN hS) | (refine wpList_is (.binOp .eql _ _ (.const (.slice none _ _)) _) rfl ?_; refine wpList_stp (by kernel_rfl) (stp_val (run_nse _ _ _ rfl) ?_)) | (refine wpList_is (.binOp .neq _ _ (.const (.slice none _ _)) _) rfl ?_; refine wpList_stp (by kernel_rfl) (stp_val (run_nsn _ _ _ rfl) ?_)))
                  have hS : St w0 bs _ (E ++ (Eb ++ (moE bm ph M vi vg :: (Ei ++ (Eg ++ ms.map meE))))) := hS.pick
                  refine region_itemsE [⟨(undef, E), [(15, fun _ x => HA ph (HL L) x.2)]⟩, ⟨(undef, []), [(19, fun _ x => ∃ b, x = (.pointer (some ⟨b, 0, none⟩), [⟨b, #[.int .i64 0, .int .u32 0], 38, true⟩])), (20, fun y x => ∃ b, y.1 = .pointer (some ⟨b, 0, none⟩) ∧ x.2 = [⟨b, #[.int .i64 0, .int .u32 0], 38, true⟩])]⟩]
                    (Eb ++ (moE bm ph M vi vg :: (Ei ++ (Eg ++ ms.map meE)))) (E ++ (Eb ++ (moE bm ph M vi vg :: (Ei ++ (Eg ++ ms.map meE))))) (by simp) hS (by as_aux_lemma => kernel_rfl) (by as_aux_lemma => kernel_rfl) ?_
                  refine fx_val (fun _ => rfl) rfl (fun χ w hw => run_mv _ rfl) ?_
                  refine fx_val (fun _ => rfl) rfl (fun χ w hw => run_nc _ rfl) ?_
                  refine fx_val (fun _ => rfl) rfl (fun χ w hw => run_fa _ _ _ rfl) ?_
                  first | (refine fx_val (fun _ => rfl) rfl (fun χ w hw => run_ld _ _ rfl hw) ?_) | (refine fx_val (fun _ => rfl) rfl (fun χ w hw => run_ld0 _ _ rfl hw) ?_)
                  refine fx_val (fun _ => rfl) rfl (fun χ w hw => run_mv _ rfl) ?_
                  refine fx_val (fun _ => rfl) rfl (fun χ w hw => run_nc _ rfl) ?_
                  refine fx_val (fun _ => rfl) rfl (fun χ w hw => run_fa _ _ _ rfl) ?_
                  first | (refine fx_val (fun _ => rfl) rfl (fun χ w hw => run_ld _ _ rfl hw) ?_) | (refine fx_val (fun _ => rfl) rfl (fun χ w hw => run_ld0 _ _ rfl hw) ?_)
                  refine fx_val (fun _ => rfl) rfl (fun χ w hw => run_mv _ rfl) ?_
                  refine fx_val (fun _ => rfl) rfl (fun χ w hw => run_idxv _ _ _ rfl) ?_
                  first | (refine fx_val (fun _ => rfl) rfl (fun χ w hw => run_lda _ _ rfl hw) ?_) | (refine fx_val (fun _ => rfl) rfl (fun χ w hw => run_lda0 _ _ rfl hw) ?_)
                  refine fx_val (fun _ => rfl) rfl (fun χ w hw => run_mv _ rfl) ?_
                  refine fx_val (fun _ => rfl) rfl (fun χ w hw => run_mv _ rfl) ?_
                  refine fx_val (fun _ => rfl) rfl (fun χ w hw => run_idxv _ _ _ rfl) ?_
                  first | (refine fx_val (fun _ => rfl) rfl (fun χ w hw => run_lda _ _ rfl hw) ?_) | (refine fx_val (fun _ => rfl) rfl (fun χ w hw => run_lda0 _ _ rfl hw) ?_)
                  refine fx_turn 0 0 rfl rfl (by as_aux_lemma => kernel_rfl) (by as_aux_lemma => kernel_rfl) (by as_aux_lemma => kernel_rfl) 22 [_, _, _, _] _ rfl (fun _ => rfl) (enters _ (by as_aux_lemma => kernel_rfl)) (fun _ => .tuple #[.agg #[.int .i64 0, .int .u32 0], .int .i64 wq]) ?_ ?_
                  · intro χ X w _ hS
                    exact hp_store (show St w0 bs w (E ++ (X ++ _)) from hS) hT rs rg 0 xs xg hxg _ (0, 0) wq hi1.out.1 hi1.out.2.1 hi1.out.2.2 (fun E' w' hT' hS' => ⟨(undef, E'), rfl, hT', show St w0 bs w' (E' ++ (X ++ _)) from hS'.pick⟩)
                  refine fx_val (fun _ => rfl) rfl (fun χ w hw => run_mv _ rfl) ?_
                  refine fx_val (fun _ => rfl) rfl (fun χ w hw => run_ext _ _ rfl) ?_
                  refine fx_val (fun _ => rfl) rfl (fun χ w hw => run_ext _ _ rfl) ?_
                  refine fx_turn0 1 0 rfl rfl (by as_aux_lemma => kernel_rfl) (by as_aux_lemma => kernel_rfl) (by as_aux_lemma => kernel_rfl) (fun _ => rfl) (fun x => x.1) ?_ ?_
                  · intro χ X w _ hS
                    exact stepX_al _ rfl (show St w0 bs w (X ++ _) from hS) (fun b w' _ hS' => ⟨(_, [_]), rfl, ⟨b, rfl⟩, hS'⟩)
                  refine fx_turn0 1 1 rfl rfl (by as_aux_lemma => kernel_rfl) (by as_aux_lemma => kernel_rfl) (by as_aux_lemma => kernel_rfl) (fun _ => rfl) (fun _ => undef) ?_ ?_
                  · rintro χ X w ⟨⟨b, hb⟩, _⟩ hS
                    have hS : St w0 bs w ((χ 19).2 ++ (X ++ _)) := hS
                    rw [hb] at hS
                    have hS : St w0 bs w (⟨b, #[.int .i64 0, .int .u32 0], 38, true⟩ :: (X ++ _)) := hS
                    have hb1 : (χ 19).1 = .pointer (some ⟨b, 0, none⟩) := by rw [hb]
                    exact stepX_stb _ _ _ rfl hS hb1 (fun w' hS' => ⟨(undef, [⟨b, #[.int .i64 0, .int .u32 0], 38, true⟩]), rfl, ⟨b, hb1, rfl⟩, hS'⟩)
                  refine fx_val (fun _ => rfl) rfl (fun χ w hw => run_as _ rfl) ?_
                  refine fx_end rfl ?_
                  intro χ w hok hS
                  obtain ⟨hT2, _⟩ := hok _ (.head _)
                  have hT2 : HA ph (HL L) (χ 15).2 := hT2
                  obtain ⟨⟨bn, hb⟩, ⟨bo', hb1, hb2⟩, _⟩ := hok _ (.tail _ (.head _))
                  rw [hb] at hb1
                  obtain ⟨⟩ := hb1
                  have hS : St w0 bs w (((χ 15).2 ++ ((χ 20).2 ++ [])) ++ (Eb ++ (moE bm ph M vi vg :: (Ei ++ (Eg ++ ms.map meE))))) := hS
                  rw [hb2, List.append_nil, List.append_assoc] at hS
                  generalize (χ 15).2 = E at hS hT2
                  clear hT
                  have hT := hT2
                  clear hT2
                  simp only [hb]
                  simp only [List.cons_append, List.nil_append] at hS
                  clear hok hb2 hb
                  go_wp2_with (first | go_skip | (refine wpList_is (.binOp .neq 38 _ _ _) rfl ?_; refine wpList_stp (by kernel_rfl) (stp_val (run_ane _ _ _ _ rfl) ?_)) | (refine wpList_is (.load 38 _) rfl ?_; refine wpList_stp (by kernel_rfl) (stp_val (run_lda _ _ rfl hS) ?_)) | go_skip | (refine wpList_is (.build _ _) rfl ?_; go_must (refine wpList_stp (by kernel_rfl) (stp_val (run_bd _ _ rfl) ?_))) | (refine wpList_is (.call { callee := .builtin .clear, args := #[_], argTypes := #[_] }) rfl ?_; go_must (refine wpList_stp (by kernel_rfl) (stp_cl _ _ rfl hS (by decide) ?_)); clear hS; intro w hS) | (refine wpList_is (.load _ _) rfl ?_; go_must (first | refine wpList_stp (by kernel_rfl) (stp_val (run_ld _ _ rfl hS) ?_) | refine wpList_stp (by kernel_rfl) (stp_val (run_lda _ _ rfl hS) ?_) | refine wpList_stp (by kernel_rfl) (stp_val (run_ld0 _ _ rfl hS) ?_) | refine wpList_stp (by kernel_rfl) (stp_val (run_lda0 _ _ rfl hS) ?_))) | (refine wpList_is (.store _ _ _) rfl ?_; go_must (first | refine wpList_stp (by kernel_rfl) (stp_st _ _ _ rfl hS ?_) | refine wpList_stp (by kernel_rfl) (stp_sta _ _ _ rfl hS ?_)); clear hS; intro w hS) | (refine wpList_is (.alloc _) rfl ?_; go_must (refine wpList_stp (by kernel_rfl) (stp_al _ rfl hS ?_)); clear hS; intro bN w hbN hS) | (refine wpList_is (.box _ _) rfl ?_; go_must (refine wpList_stp (by kernel_rfl) (stp_bx _ _ rfl hS ?_)); clear hS; intro bN w hbN hS) | (refine wpList_is (.binOp .eql _ _ (.const (.slice none _ _)) _) rfl ?_; refine wpList_stp (by kernel_rfl) (stp_val (run_nse _ _ _ rfl) ?_)) | (refine wpList_is (.binOp .neq _ _ (.const (.slice none _ _)) _) rfl ?_; refine wpList_stp (by kernel_rfl) (stp_val (run_nsn _ _ _ rfl) ?_)))
                  have hS : St w0 bs _ (E ++ (Eb ++ (moE bm ph M vi vg :: (Ei ++ (Eg ++ ms.map meE))))) := hS.pick
                  refine region_itemsE [⟨(undef, E), [(17, fun _ x => HA ph (HL L) x.2)]⟩, ⟨(undef, []), [(21, fun _ x => ∃ b, x = (.pointer (some ⟨b, 0, none⟩), [⟨b, #[.int .i64 0, .int .u32 0], 38, true⟩])), (22, fun y x => ∃ b, y.1 = .pointer (some ⟨b, 0, none⟩) ∧ x.2 = [⟨b, #[.int .i64 0, .int .u32 0], 38, true⟩])]⟩]
                    (Eb ++ (moE bm ph M vi vg :: (Ei ++ (Eg ++ ms.map meE)))) (E ++ (Eb ++ (moE bm ph M vi vg :: (Ei ++ (Eg ++ ms.map meE))))) (by simp) hS (by as_aux_lemma => kernel_rfl) (by as_aux_lemma => kernel_rfl) ?_
                  refine fx_val (fun _ => rfl) rfl (fun χ w hw => run_mv _ rfl) ?_
                  refine fx_val (fun _ => rfl) rfl (fun χ w hw => run_nc _ rfl) ?_
                  refine fx_val (fun _ => rfl) rfl (fun χ w hw => run_fa _ _ _ rfl) ?_
                  first | (refine fx_val (fun _ => rfl) rfl (fun χ w hw => run_ld _ _ rfl hw) ?_) | (refine fx_val (fun _ => rfl) rfl (fun χ w hw => run_ld0 _ _ rfl hw) ?_)
                  refine fx_val (fun _ => rfl) rfl (fun χ w hw => run_mv _ rfl) ?_
                  refine fx_val (fun _ => rfl) rfl (fun χ w hw => run_nc _ rfl) ?_
                  refine fx_val (fun _ => rfl) rfl (fun χ w hw => run_fa _ _ _ rfl) ?_
                  first | (refine fx_val (fun _ => rfl) rfl (fun χ w hw => run_ld _ _ rfl hw) ?_) | (refine fx_val (fun _ => rfl) rfl (fun χ w hw => run_ld0 _ _ rfl hw) ?_)
                  refine fx_val (fun _ => rfl) rfl (fun χ w hw => run_mv _ rfl) ?_
                  refine fx_val (fun _ => rfl) rfl (fun χ w hw => run_idxv _ _ _ rfl) ?_
                  first | (refine fx_val (fun _ => rfl) rfl (fun χ w hw => run_lda _ _ rfl hw) ?_) | (refine fx_val (fun _ => rfl) rfl (fun χ w hw => run_lda0 _ _ rfl hw) ?_)
                  refine fx_val (fun _ => rfl) rfl (fun χ w hw => run_mv _ rfl) ?_
                  refine fx_val (fun _ => rfl) rfl (fun χ w hw => run_sumv _ _ _ _ rfl) ?_
                  refine fx_val (fun _ => rfl) rfl (fun χ w hw => run_mv _ rfl) ?_
                  refine fx_val (fun _ => rfl) rfl (fun χ w hw => run_mv _ rfl) ?_
                  refine fx_val (fun _ => rfl) rfl (fun χ w hw => run_idxv _ _ _ rfl) ?_
                  first | (refine fx_val (fun _ => rfl) rfl (fun χ w hw => run_lda _ _ rfl hw) ?_) | (refine fx_val (fun _ => rfl) rfl (fun χ w hw => run_lda0 _ _ rfl hw) ?_)
                  refine fx_turn (vs := fun _ => [.pointer ph, .agg #[.int .i64 rs, .int .u32 rg], .int .i64 (4 + (fr : Int)), .agg #[.int .i64 xs, .int .u32 xg]]) (hE := fun χ => ⟨by kernel_rfl⟩) 0 0 rfl rfl (by as_aux_lemma => kernel_rfl) (by as_aux_lemma => kernel_rfl) (by as_aux_lemma => kernel_rfl) 22 [_, _, _, _] _ rfl (fun _ => rfl) (enters _ (by as_aux_lemma => kernel_rfl)) (fun _ => .tuple #[.agg #[.int .i64 0, .int .u32 0], .int .i64 3]) ?_ ?_
                  · intro χ X w _ hS
                    exact hp_store (show St w0 bs w (E ++ (X ++ _)) from hS) hT rs rg _ xs xg hxg _ (0, 0) 3 hi2.out.1 hi2.out.2.1 hi2.out.2.2 (fun E' w' hT' hS' => ⟨(undef, E'), rfl, hT', show St w0 bs w' (E' ++ (X ++ _)) from hS'.pick⟩)
                  refine fx_val (fun _ => rfl) rfl (fun χ w hw => run_mv _ rfl) ?_
                  refine fx_val (fun _ => rfl) rfl (fun χ w hw => run_ext _ _ rfl) ?_
                  refine fx_val (fun _ => rfl) rfl (fun χ w hw => run_ext _ _ rfl) ?_
                  refine fx_turn0 1 0 rfl rfl (by as_aux_lemma => kernel_rfl) (by as_aux_lemma => kernel_rfl) (by as_aux_lemma => kernel_rfl) (fun _ => rfl) (fun x => x.1) ?_ ?_
                  · intro χ X w _ hS
                    exact stepX_al _ rfl (show St w0 bs w (X ++ _) from hS) (fun b w' _ hS' => ⟨(_, [_]), rfl, ⟨b, rfl⟩, hS'⟩)
                  refine fx_turn0 1 1 rfl rfl (by as_aux_lemma => kernel_rfl) (by as_aux_lemma => kernel_rfl) (by as_aux_lemma => kernel_rfl) (fun _ => rfl) (fun _ => undef) ?_ ?_
                  · rintro χ X w ⟨⟨b, hb⟩, _⟩ hS
                    have hS : St w0 bs w ((χ 21).2 ++ (X ++ _)) := hS
                    rw [hb] at hS
                    have hS : St w0 bs w (⟨b, #[.int .i64 0, .int .u32 0], 38, true⟩ :: (X ++ _)) := hS
                    have hb1 : (χ 21).1 = .pointer (some ⟨b, 0, none⟩) := by rw [hb]
                    exact stepX_stb _ _ _ rfl hS hb1 (fun w' hS' => ⟨(undef, [⟨b, #[.int .i64 0, .int .u32 0], 38, true⟩]), rfl, ⟨b, hb1, rfl⟩, hS'⟩)
                  refine fx_val (fun _ => rfl) rfl (fun χ w hw => run_as _ rfl) ?_
                  refine fx_end rfl ?_
                  intro χ w hok hS
                  obtain ⟨hT2, _⟩ := hok _ (.head _)
                  have hT2 : HA ph (HL L) (χ 17).2 := hT2
                  obtain ⟨⟨bn, hb⟩, ⟨bo', hb1, hb2⟩, _⟩ := hok _ (.tail _ (.head _))
                  rw [hb] at hb1
                  obtain ⟨⟩ := hb1
                  have hS : St w0 bs w (((χ 17).2 ++ ((χ 22).2 ++ [])) ++ (Eb ++ (moE bm ph M vi vg :: (Ei ++ (Eg ++ ms.map meE))))) := hS
                  rw [hb2, List.append_nil, List.append_assoc] at hS
                  generalize (χ 17).2 = E at hS hT2
                  clear hT
                  have hT := hT2
                  clear hT2
                  simp only [hb]
                  simp only [List.cons_append, List.nil_append] at hS
                  clear hok hb2 hb
                  go_wp2_with (first | go_skip | (refine wpList_is (.binOp .neq 38 _ _ _) rfl ?_; refine wpList_stp (by kernel_rfl) (stp_val (run_ane _ _ _ _ rfl) ?_)) | (refine wpList_is (.load 38 _) rfl ?_; refine wpList_stp (by kernel_rfl) (stp_val (run_lda _ _ rfl hS) ?_)) | go_skip | (refine wpList_is (.build _ _) rfl ?_; go_must (refine wpList_stp (by kernel_rfl) (stp_val (run_bd _ _ rfl) ?_))) | (refine wpList_is (.call { callee := .builtin .clear, args := #[_], argTypes := #[_] }) rfl ?_; go_must (refine wpList_stp (by kernel_rfl) (stp_cl _ _ rfl hS (by decide) ?_)); clear hS; intro w hS) | (refine wpList_is (.load _ _) rfl ?_; go_must (first | refine wpList_stp (by kernel_rfl) (stp_val (run_ld _ _ rfl hS) ?_) | refine wpList_stp (by kernel_rfl) (stp_val (run_lda _ _ rfl hS) ?_) | refine wpList_stp (by kernel_rfl) (stp_val (run_ld0 _ _ rfl hS) ?_) | refine wpList_stp (by kernel_rfl) (stp_val (run_lda0 _ _ rfl hS) ?_))) | (refine wpList_is (.store _ _ _) rfl ?_; go_must (first | refine wpList_stp (by kernel_rfl) (stp_st _ _ _ rfl hS ?_) | refine wpList_stp (by kernel_rfl) (stp_sta _ _ _ rfl hS ?_)); clear hS; intro w hS) | (refine wpList_is (.alloc _) rfl ?_; go_must (refine wpList_stp (by kernel_rfl) (stp_al _ rfl hS ?_)); clear hS; intro bN w hbN hS) | (refine wpList_is (.box _ _) rfl ?_; go_must (refine wpList_stp (by kernel_rfl) (stp_bx _ _ rfl hS ?_)); clear hS; intro bN w hbN hS) | (refine wpList_is (.binOp .eql _ _ (.const (.slice none _ _)) _) rfl ?_; refine wpList_stp (by kernel_rfl) (stp_val (run_nse _ _ _ rfl) ?_)) | (refine wpList_is (.binOp .neq _ _ (.const (.slice none _ _)) _) rfl ?_; refine wpList_stp (by kernel_rfl) (stp_val (run_nsn _ _ _ rfl) ?_)))
                  have hS : St w0 bs _ (E ++ (Eb ++ (moE bm ph M vi vg :: (Ei ++ (Eg ++ ms.map meE))))) := hS.pick
                  refine region_itemsE [⟨(undef, E), [(14, fun _ x => HA ph (HL L) x.2)]⟩, ⟨(undef, []), [(18, fun _ x => ∃ b, x = (.pointer (some ⟨b, 0, none⟩), [⟨b, #[.int .i64 0, .int .u32 0], 38, true⟩])), (19, fun y x => ∃ b, y.1 = .pointer (some ⟨b, 0, none⟩) ∧ x.2 = [⟨b, #[.int .i64 0, .int .u32 0], 38, true⟩])]⟩]
                    (Eb ++ (moE bm ph M vi vg :: (Ei ++ (Eg ++ ms.map meE)))) (E ++ (Eb ++ (moE bm ph M vi vg :: (Ei ++ (Eg ++ ms.map meE))))) (by simp) hS (by as_aux_lemma => kernel_rfl) (by as_aux_lemma => kernel_rfl) ?_
                  refine fx_val (fun _ => rfl) rfl (fun χ w hw => run_mv _ rfl) ?_
                  refine fx_val (fun _ => rfl) rfl (fun χ w hw => run_nc _ rfl) ?_
                  refine fx_val (fun _ => rfl) rfl (fun χ w hw => run_fa _ _ _ rfl) ?_
                  first | (refine fx_val (fun _ => rfl) rfl (fun χ w hw => run_ld _ _ rfl hw) ?_) | (refine fx_val (fun _ => rfl) rfl (fun χ w hw => run_ld0 _ _ rfl hw) ?_)
                  refine fx_val (fun _ => rfl) rfl (fun χ w hw => run_mv _ rfl) ?_
                  refine fx_val (fun _ => rfl) rfl (fun χ w hw => run_nc _ rfl) ?_
                  refine fx_val (fun _ => rfl) rfl (fun χ w hw => run_fa _ _ _ rfl) ?_
                  first | (refine fx_val (fun _ => rfl) rfl (fun χ w hw => run_ld _ _ rfl hw) ?_) | (refine fx_val (fun _ => rfl) rfl (fun χ w hw => run_ld0 _ _ rfl hw) ?_)
                  refine fx_val (fun _ => rfl) rfl (fun χ w hw => run_mv _ rfl) ?_
                  refine fx_val (fun _ => rfl) rfl (fun χ w hw => run_idxv _ _ _ rfl) ?_
                  first | (refine fx_val (fun _ => rfl) rfl (fun χ w hw => run_lda _ _ rfl hw) ?_) | (refine fx_val (fun _ => rfl) rfl (fun χ w hw => run_lda0 _ _ rfl hw) ?_)
                  refine fx_val (fun _ => rfl) rfl (fun χ w hw => run_mv _ rfl) ?_
                  refine fx_val (fun _ => rfl) rfl (fun χ w hw => run_difv _ _ _ _ rfl) ?_
                  refine fx_val (fun _ => rfl) rfl (fun χ w hw => run_bd _ _ rfl) ?_
                  refine fx_turn (vs := fun _ => [.pointer ph, .agg #[.int .i64 rs, .int .u32 rg], .int .i64 (-1 - (fr : Int)), .agg #[.int .i64 0, .int .u32 0]]) (hE := fun χ => ⟨by kernel_rfl⟩) 0 0 rfl rfl (by as_aux_lemma => kernel_rfl) (by as_aux_lemma => kernel_rfl) (by as_aux_lemma => kernel_rfl) 22 [_, _, _, _] _ rfl (fun _ => rfl) (enters _ (by as_aux_lemma => kernel_rfl)) (fun _ => .tuple #[.agg #[.int .i64 0, .int .u32 0], .int .i64 3]) ?_ ?_
                  · intro χ X w _ hS
                    exact hp_store (show St w0 bs w (E ++ (X ++ _)) from hS) hT rs rg _ 0 0 (by decide) _ (0, 0) 3 hi3.out.1 hi3.out.2.1 hi3.out.2.2 (fun E' w' hT' hS' => ⟨(undef, E'), rfl, hT', show St w0 bs w' (E' ++ (X ++ _)) from hS'.pick⟩)
                  refine fx_val (fun _ => rfl) rfl (fun χ w hw => run_mv _ rfl) ?_
                  refine fx_val (fun _ => rfl) rfl (fun χ w hw => run_ext _ _ rfl) ?_
                  refine fx_val (fun _ => rfl) rfl (fun χ w hw => run_ext _ _ rfl) ?_
                  refine fx_turn0 1 0 rfl rfl (by as_aux_lemma => kernel_rfl) (by as_aux_lemma => kernel_rfl) (by as_aux_lemma => kernel_rfl) (fun _ => rfl) (fun x => x.1) ?_ ?_
                  · intro χ X w _ hS
                    exact stepX_al _ rfl (show St w0 bs w (X ++ _) from hS) (fun b w' _ hS' => ⟨(_, [_]), rfl, ⟨b, rfl⟩, hS'⟩)
                  refine fx_turn0 1 1 rfl rfl (by as_aux_lemma => kernel_rfl) (by as_aux_lemma => kernel_rfl) (by as_aux_lemma => kernel_rfl) (fun _ => rfl) (fun _ => undef) ?_ ?_
                  · rintro χ X w ⟨⟨b, hb⟩, _⟩ hS
                    have hS : St w0 bs w ((χ 18).2 ++ (X ++ _)) := hS
                    rw [hb] at hS
                    have hS : St w0 bs w (⟨b, #[.int .i64 0, .int .u32 0], 38, true⟩ :: (X ++ _)) := hS
                    have hb1 : (χ 18).1 = .pointer (some ⟨b, 0, none⟩) := by rw [hb]
                    exact stepX_stb _ _ _ rfl hS hb1 (fun w' hS' => ⟨(undef, [⟨b, #[.int .i64 0, .int .u32 0], 38, true⟩]), rfl, ⟨b, hb1, rfl⟩, hS'⟩)
                  refine fx_val (fun _ => rfl) rfl (fun χ w hw => run_as _ rfl) ?_
                  refine fx_end rfl ?_
                  intro χ w hok hS
                  obtain ⟨hT2, _⟩ := hok _ (.head _)
                  have hT2 : HA ph (HL L) (χ 14).2 := hT2
                  obtain ⟨⟨bn, hb⟩, ⟨bo', hb1, hb2⟩, _⟩ := hok _ (.tail _ (.head _))
                  rw [hb] at hb1
                  obtain ⟨⟩ := hb1
                  have hS : St w0 bs w (((χ 14).2 ++ ((χ 19).2 ++ [])) ++ (Eb ++ (moE bm ph M vi vg :: (Ei ++ (Eg ++ ms.map meE))))) := hS
                  rw [hb2, List.append_nil, List.append_assoc] at hS
                  generalize (χ 14).2 = E at hS hT2
                  clear hT
                  have hT := hT2
                  clear hT2
                  simp only [hb]
                  simp only [List.cons_append, List.nil_append] at hS
                  clear hok hb2 hb
                  go_wp2_with (first | go_skip | (refine wpList_is (.binOp .neq 38 _ _ _) rfl ?_; refine wpList_stp (by kernel_rfl) (stp_val (run_ane _ _ _ _ rfl) ?_)) | (refine wpList_is (.load 38 _) rfl ?_; refine wpList_stp (by kernel_rfl) (stp_val (run_lda _ _ rfl hS) ?_)) | go_skip | (refine wpList_is (.build _ _) rfl ?_; go_must (refine wpList_stp (by kernel_rfl) (stp_val (run_bd _ _ rfl) ?_))) | (refine wpList_is (.call { callee := .builtin .clear, args := #[_], argTypes := #[_] }) rfl ?_; go_must (refine wpList_stp (by kernel_rfl) (stp_cl _ _ rfl hS (by decide) ?_)); clear hS; intro w hS) | (refine wpList_is (.load _ _) rfl ?_; go_must (first | refine wpList_stp (by kernel_rfl) (stp_val (run_ld _ _ rfl hS) ?_) | refine wpList_stp (by kernel_rfl) (stp_val (run_lda _ _ rfl hS) ?_) | refine wpList_stp (by kernel_rfl) (stp_val (run_ld0 _ _ rfl hS) ?_) | refine wpList_stp (by kernel_rfl) (stp_val (run_lda0 _ _ rfl hS) ?_))) | (refine wpList_is (.store _ _ _) rfl ?_; go_must (first | refine wpList_stp (by kernel_rfl) (stp_st _ _ _ rfl hS ?_) | refine wpList_stp (by kernel_rfl) (stp_sta _ _ _ rfl hS ?_)); clear hS; intro w hS) | (refine wpList_is (.alloc _) rfl ?_; go_must (refine wpList_stp (by kernel_rfl) (stp_al _ rfl hS ?_)); clear hS; intro bN w hbN hS) | (refine wpList_is (.box _ _) rfl ?_; go_must (refine wpList_stp (by kernel_rfl) (stp_bx _ _ rfl hS ?_)); clear hS; intro bN w hbN hS) | (refine wpList_is (.binOp .eql _ _ (.const (.slice none _ _)) _) rfl ?_; refine wpList_stp (by kernel_rfl) (stp_val (run_nse _ _ _ rfl) ?_)) | (refine wpList_is (.binOp .neq _ _ (.const (.slice none _ _)) _) rfl ?_; refine wpList_stp (by kernel_rfl) (stp_val (run_nsn _ _ _ rfl) ?_)))
                  have hS : St w0 bs _ (E ++ (Eb ++ (moE bm ph M vi vg :: (Ei ++ (Eg ++ ms.map meE))))) := hS.pick
                  go_wp2_with (first | go_skip | (refine region_quiet hS (by kernel_rfl) (by kernel_rfl) (fun hne => ?_); (repeat (first | go_big_quiet_skip | (go_big_quiet_want; first | (refine quiet_is (.lookup _ _ _ _) rfl ?_; refine quiet_at sw_st (fun w hS => run_look _ _ _ rfl (hlk _ _ hS)) ?_; go_big_quiet_on) | (refine quiet_is (.load 38 _) rfl ?_; refine quiet_at sw_st (fun w hS => run_lda _ _ rfl hS) ?_; go_big_quiet_on) | (refine quiet_is (.load _ _) rfl ?_; go_must (first | refine quiet_at sw_st (fun w hS => run_ld _ _ rfl hS) ?_ | refine quiet_at sw_st (fun w hS => run_lda _ _ rfl hS) ?_ | refine quiet_at sw_st (fun w hS => run_ld0 _ _ rfl hS) ?_ | refine quiet_at sw_st (fun w hS => run_lda0 _ _ rfl hS) ?_); go_big_quiet_on) | (refine quiet_is (.binOp .eql _ _ (.const (.slice none _ _)) _) rfl ?_; refine quiet_val (fun w _ => run_nse _ _ _ rfl) ?_; go_big_quiet_on) | (refine quiet_is (.binOp .neq _ _ (.const (.slice none _ _)) _) rfl ?_; refine quiet_val (fun w _ => run_nsn _ _ _ rfl) ?_; go_big_quiet_on) | (refine quiet_is (.call { callee := .builtin .len, args := #[_], argTypes := #[_] }) rfl ?_; refine quiet_val (fun w _ => run_lenv _ _ rfl) ?_; go_big_quiet_on) | (refine quiet_is (.indexAddr _ _ _) rfl ?_; refine quiet_val (fun w _ => run_idxv _ _ _ rfl) ?_; go_big_quiet_on) | (go_big_quiet_op; go_big_quiet_on)))); refine wpQuiet_nil ?_; clear hS hne; intro w hS) | (refine wpList_is (.binOp .neq 38 _ _ _) rfl ?_; refine wpList_stp (by kernel_rfl) (stp_val (run_ane _ _ _ _ rfl) ?_)) | (refine wpList_is (.load 38 _) rfl ?_; refine wpList_stp (by kernel_rfl) (stp_val (run_lda _ _ rfl hS) ?_)) | go_skip | (refine wpList_is (.build _ _) rfl ?_; go_must (refine wpList_stp (by kernel_rfl) (stp_val (run_bd _ _ rfl) ?_))) | (refine wpList_is (.call { callee := .builtin .clear, args := #[_], argTypes := #[_] }) rfl ?_; go_must (refine wpList_stp (by kernel_rfl) (stp_cl _ _ rfl hS (by decide) ?_)); clear hS; intro w hS) | (refine wpList_is (.load _ _) rfl ?_; go_must (first | refine wpList_stp (by kernel_rfl) (stp_val (run_ld _ _ rfl hS) ?_) | refine wpList_stp (by kernel_rfl) (stp_val (run_lda _ _ rfl hS) ?_) | refine wpList_stp (by kernel_rfl) (stp_val (run_ld0 _ _ rfl hS) ?_) | refine wpList_stp (by kernel_rfl) (stp_val (run_lda0 _ _ rfl hS) ?_))) | (refine wpList_is (.store _ _ _) rfl ?_; go_must (first | refine wpList_stp (by kernel_rfl) (stp_st _ _ _ rfl hS ?_) | refine wpList_stp (by kernel_rfl) (stp_sta _ _ _ rfl hS ?_)); clear hS; intro w hS) | (refine wpList_is (.alloc _) rfl ?_; go_must (refine wpList_stp (by kernel_rfl) (stp_al _ rfl hS ?_)); clear hS; intro bN w hbN hS) | (refine wpList_is (.box _ _) rfl ?_; go_must (refine wpList_stp (by kernel_rfl) (stp_bx _ _ rfl hS ?_)); clear hS; intro bN w hbN hS) | (refine wpList_is (.binOp .eql _ _ (.const (.slice none _ _)) _) rfl ?_; refine wpList_stp (by kernel_rfl) (stp_val (run_nse _ _ _ rfl) ?_)) | (refine wpList_is (.binOp .neq _ _ (.const (.slice none _ _)) _) rfl ?_; refine wpList_stp (by kernel_rfl) (stp_val (run_nsn _ _ _ rfl) ?_)))
                  go_roundw
                  case rel => exact ⟨x + 1, E, (), by omega, by go_num, hT, hS.pick⟩
                  case measure => simp [intOf]; omega
              · as_aux_lemma =>
                  have e1 : decide (0 < (l.length : Int)) = false := decide_eq_false (by omega)
                  have e1' : decide (0 < l.length) = false := decide_eq_false (by omega)
                  have e2 : decide ((l.length : Int) = 0) = true := decide_eq_true (by omega)
                  have e2' : decide (l.length = 0) = true := decide_eq_true (by omega)
                  have e2'' : ((l.length : Int) == 0) = true := by rw [beq_iff_eq]; omega
                  have i1 := st_bad (L := L) (s := rs) (g := rg) (i := 0) (v := (xs, xg)) (e := 3) (by rw [st_out hob (by omega)]) (by decide)
                  have hi1 := Lib.hid i1
                  have i2 := st_bad (L := L) (s := rs) (g := rg) (i := 4 + (fr : Int)) (v := (xs, xg)) (e := 3) (by rw [st_out hob (by omega)]) (by decide)
                  have hi2 := Lib.hid i2
                  have i3 := st_bad (L := L) (s := rs) (g := rg) (i := -1 - (fr : Int)) (v := (0, 0)) (e := 3) (by rw [st_out hob (by omega)]) (by decide)
                  have hi3 := Lib.hid i3
                  clear i1 i2 i3
                  clear hl0
                  go_wp2_with (first | go_skip | (refine wpList_is (.binOp .neq 38 _ _ _) rfl ?_; refine wpList_stp (by kernel_rfl) (stp_val (run_ane _ _ _ _ rfl) ?_)) | (refine wpList_is (.load 38 _) rfl ?_; refine wpList_stp (by kernel_rfl) (stp_val (run_lda _ _ rfl hS) ?_)) | go_skip | (refine wpList_is (.call { callee := .builtin .len, args := #[_], argTypes := #[_] }) rfl ?_; refine wpList_stp (by kernel_rfl) (stp_val (run_lenv _ _ rfl) ?_)) | (refine wpList_is (.slice _ _ none (some _) none) rfl ?_; refine wpList_stp (by kernel_rfl) (stp_val (run_prev _ _ _ rfl) ?_)) | (refine wpList_is (.indexAddr _ _ _) rfl ?_; refine wpList_stp (by kernel_rfl) (stp_val (run_idxv _ _ _ rfl) ?_)) | go_skip | (refine wpList_is (.build _ _) rfl ?_; go_must (refine wpList_stp (by kernel_rfl) (stp_val (run_bd _ _ rfl) ?_))) | (refine wpList_is (.call { callee := .builtin .clear, args := #[_], argTypes := #[_] }) rfl ?_; go_must (refine wpList_stp (by kernel_rfl) (stp_cl _ _ rfl hS (by decide) ?_)); clear hS; intro w hS) | (refine wpList_is (.load _ _) rfl ?_; go_must (first | refine wpList_stp (by kernel_rfl) (stp_val (run_ld _ _ rfl hS) ?_) | refine wpList_stp (by kernel_rfl) (stp_val (run_lda _ _ rfl hS) ?_) | refine wpList_stp (by kernel_rfl) (stp_val (run_ld0 _ _ rfl hS) ?_) | refine wpList_stp (by kernel_rfl) (stp_val (run_lda0 _ _ rfl hS) ?_))) | (refine wpList_is (.store _ _ _) rfl ?_; go_must (first | refine wpList_stp (by kernel_rfl) (stp_st _ _ _ rfl hS ?_) | refine wpList_stp (by kernel_rfl) (stp_sta _ _ _ rfl hS ?_)); clear hS; intro w hS) | (refine wpList_is (.alloc _) rfl ?_; go_must (refine wpList_stp (by kernel_rfl) (stp_al _ rfl hS ?_)); clear hS; intro bN w hbN hS) | (refine wpList_is (.box _ _) rfl ?_; go_must (refine wpList_stp (by kernel_rfl) (stp_bx _ _ rfl hS ?_)); clear hS; intro bN w hbN hS) | (refine wpList_is (.binOp .eql _ _ (.const (.slice none _ _)) _) rfl ?_; refine wpList_stp (by kernel_rfl) (stp_val (run_nse _ _ _ rfl) ?_)) | (refine wpList_is (.binOp .neq _ _ (.const (.slice none _ _)) _) rfl ?_; refine wpList_stp (by kernel_rfl) (stp_val (run_nsn _ _ _ rfl) ?_)))
                  have hS : St w0 bs _ (E ++ (Eb ++ (moE bm ph M vi vg :: (Ei ++ (Eg ++ ms.map meE))))) := hS.pick
                  refine region_itemsE [⟨(undef, E), [(15, fun _ x => HA ph (HL L) x.2)]⟩, ⟨(undef, []), [(19, fun _ x => ∃ b, x = (.pointer (some ⟨b, 0, none⟩), [⟨b, #[.int .i64 0, .int .u32 0], 38, true⟩])), (20, fun y x => ∃ b, y.1 = .pointer (some ⟨b, 0, none⟩) ∧ x.2 = [⟨b, #[.int .i64 0, .int .u32 0], 38, true⟩])]⟩]
                    (Eb ++ (moE bm ph M vi vg :: (Ei ++ (Eg ++ ms.map meE)))) (E ++ (Eb ++ (moE bm ph M vi vg :: (Ei ++ (Eg ++ ms.map meE))))) (by simp) hS (by as_aux_lemma => kernel_rfl) (by as_aux_lemma => kernel_rfl) ?_
                  refine fx_val (fun _ => rfl) rfl (fun χ w hw => run_mv _ rfl) ?_
                  refine fx_val (fun _ => rfl) rfl (fun χ w hw => run_nc _ rfl) ?_
                  refine fx_val (fun _ => rfl) rfl (fun χ w hw => run_fa _ _ _ rfl) ?_
                  first | (refine fx_val (fun _ => rfl) rfl (fun χ w hw => run_ld _ _ rfl hw) ?_) | (refine fx_val (fun _ => rfl) rfl (fun χ w hw => run_ld0 _ _ rfl hw) ?_)
                  refine fx_val (fun _ => rfl) rfl (fun χ w hw => run_mv _ rfl) ?_
                  refine fx_val (fun _ => rfl) rfl (fun χ w hw => run_nc _ rfl) ?_
                  refine fx_val (fun _ => rfl) rfl (fun χ w hw => run_fa _ _ _ rfl) ?_
                  first | (refine fx_val (fun _ => rfl) rfl (fun χ w hw => run_ld _ _ rfl hw) ?_) | (refine fx_val (fun _ => rfl) rfl (fun χ w hw => run_ld0 _ _ rfl hw) ?_)
                  refine fx_val (fun _ => rfl) rfl (fun χ w hw => run_mv _ rfl) ?_
                  refine fx_val (fun _ => rfl) rfl (fun χ w hw => run_idxv _ _ _ rfl) ?_
                  first | (refine fx_val (fun _ => rfl) rfl (fun χ w hw => run_lda _ _ rfl hw) ?_) | (refine fx_val (fun _ => rfl) rfl (fun χ w hw => run_lda0 _ _ rfl hw) ?_)
                  refine fx_val (fun _ => rfl) rfl (fun χ w hw => run_mv _ rfl) ?_
                  refine fx_val (fun _ => rfl) rfl (fun χ w hw => run_mv _ rfl) ?_
                  refine fx_val (fun _ => rfl) rfl (fun χ w hw => run_idxv _ _ _ rfl) ?_
                  first | (refine fx_val (fun _ => rfl) rfl (fun χ w hw => run_lda _ _ rfl hw) ?_) | (refine fx_val (fun _ => rfl) rfl (fun χ w hw => run_lda0 _ _ rfl hw) ?_)
                  refine fx_turn 0 0 rfl rfl (by as_aux_lemma => kernel_rfl) (by as_aux_lemma => kernel_rfl) (by as_aux_lemma => kernel_rfl) 22 [_, _, _, _] _ rfl (fun _ => rfl) (enters _ (by as_aux_lemma => kernel_rfl)) (fun _ => .tuple #[.agg #[.int .i64 0, .int .u32 0], .int .i64 3]) ?_ ?_
                  · intro χ X w _ hS
                    exact hp_store (show St w0 bs w (E ++ (X ++ _)) from hS) hT rs rg 0 xs xg hxg _ (0, 0) 3 hi1.out.1 hi1.out.2.1 hi1.out.2.2 (fun E' w' hT' hS' => ⟨(undef, E'), rfl, hT', show St w0 bs w' (E' ++ (X ++ _)) from hS'.pick⟩)
                  refine fx_val (fun _ => rfl) rfl (fun χ w hw => run_mv _ rfl) ?_
                  refine fx_val (fun _ => rfl) rfl (fun χ w hw => run_ext _ _ rfl) ?_
                  refine fx_val (fun _ => rfl) rfl (fun χ w hw => run_ext _ _ rfl) ?_
                  refine fx_turn0 1 0 rfl rfl (by as_aux_lemma => kernel_rfl) (by as_aux_lemma => kernel_rfl) (by as_aux_lemma => kernel_rfl) (fun _ => rfl) (fun x => x.1) ?_ ?_
                  · intro χ X w _ hS
                    exact stepX_al _ rfl (show St w0 bs w (X ++ _) from hS) (fun b w' _ hS' => ⟨(_, [_]), rfl, ⟨b, rfl⟩, hS'⟩)
                  refine fx_turn0 1 1 rfl rfl (by as_aux_lemma => kernel_rfl) (by as_aux_lemma => kernel_rfl) (by as_aux_lemma => kernel_rfl) (fun _ => rfl) (fun _ => undef) ?_ ?_
                  · rintro χ X w ⟨⟨b, hb⟩, _⟩ hS
                    have hS : St w0 bs w ((χ 19).2 ++ (X ++ _)) := hS
                    rw [hb] at hS
                    have hS : St w0 bs w (⟨b, #[.int .i64 0, .int .u32 0], 38, true⟩ :: (X ++ _)) := hS
                    have hb1 : (χ 19).1 = .pointer (some ⟨b, 0, none⟩) := by rw [hb]
                    exact stepX_stb _ _ _ rfl hS hb1 (fun w' hS' => ⟨(undef, [⟨b, #[.int .i64 0, .int .u32 0], 38, true⟩]), rfl, ⟨b, hb1, rfl⟩, hS'⟩)
                  refine fx_val (fun _ => rfl) rfl (fun χ w hw => run_as _ rfl) ?_
                  refine fx_end rfl ?_
                  intro χ w hok hS
                  obtain ⟨hT2, _⟩ := hok _ (.head _)
                  have hT2 : HA ph (HL L) (χ 15).2 := hT2
                  obtain ⟨⟨bn, hb⟩, ⟨bo', hb1, hb2⟩, _⟩ := hok _ (.tail _ (.head _))
                  rw [hb] at hb1
                  obtain ⟨⟩ := hb1
                  have hS : St w0 bs w (((χ 15).2 ++ ((χ 20).2 ++ [])) ++ (Eb ++ (moE bm ph M vi vg :: (Ei ++ (Eg ++ ms.map meE))))) := hS
                  rw [hb2, List.append_nil, List.append_assoc] at hS
                  generalize (χ 15).2 = E at hS hT2
                  clear hT
                  have hT := hT2
                  clear hT2
                  simp only [hb]
                  simp only [List.cons_append, List.nil_append] at hS
                  clear hok hb2 hb
                  go_wp2_with (first | go_skip | (refine wpList_is (.binOp .neq 38 _ _ _) rfl ?_; refine wpList_stp (by kernel_rfl) (stp_val (run_ane _ _ _ _ rfl) ?_)) | (refine wpList_is (.load 38 _) rfl ?_; refine wpList_stp (by kernel_rfl) (stp_val (run_lda _ _ rfl hS) ?_)) | go_skip | (refine wpList_is (.build _ _) rfl ?_; go_must (refine wpList_stp (by kernel_rfl) (stp_val (run_bd _ _ rfl) ?_))) | (refine wpList_is (.call { callee := .builtin .clear, args := #[_], argTypes := #[_] }) rfl ?_; go_must (refine wpList_stp (by kernel_rfl) (stp_cl _ _ rfl hS (by decide) ?_)); clear hS; intro w hS) | (refine wpList_is (.load _ _) rfl ?_; go_must (first | refine wpList_stp (by kernel_rfl) (stp_val (run_ld _ _ rfl hS) ?_) | refine wpList_stp (by kernel_rfl) (stp_val (run_lda _ _ rfl hS) ?_) | refine wpList_stp (by kernel_rfl) (stp_val (run_ld0 _ _ rfl hS) ?_) | refine wpList_stp (by kernel_rfl) (stp_val (run_lda0 _ _ rfl hS) ?_))) | (refine wpList_is (.store _ _ _) rfl ?_; go_must (first | refine wpList_stp (by kernel_rfl) (stp_st _ _ _ rfl hS ?_) | refine wpList_stp (by kernel_rfl) (stp_sta _ _ _ rfl hS ?_)); clear hS; intro w hS) | (refine wpList_is (.alloc _) rfl ?_; go_must (refine wpList_stp (by kernel_rfl) (stp_al _ rfl hS ?_)); clear hS; intro bN w hbN hS) | (refine wpList_is (.box _ _) rfl ?_; go_must (refine wpList_stp (by kernel_rfl) (stp_bx _ _ rfl hS ?_)); clear hS; intro bN w hbN hS) | (refine wpList_is (.binOp .eql _ _ (.const (.slice none _ _)) _) rfl ?_; refine wpList_stp (by kernel_rfl) (stp_val (run_nse _ _ _ rfl) ?_)) | (refine wpList_is (.binOp .neq _ _ (.const (.slice none _ _)) _) rfl ?_; refine wpList_stp (by kernel_rfl) (stp_val (run_nsn _ _ _ rfl) ?_)))
                  have hS : St w0 bs _ (E ++ (Eb ++ (moE bm ph M vi vg :: (Ei ++ (Eg ++ ms.map meE))))) := hS.pick
                  refine region_itemsE [⟨(undef, E), [(17, fun _ x => HA ph (HL L) x.2)]⟩, ⟨(undef, []), [(21, fun _ x => ∃ b, x = (.pointer (some ⟨b, 0, none⟩), [⟨b, #[.int .i64 0, .int .u32 0], 38, true⟩])), (22, fun y x => ∃ b, y.1 = .pointer (some ⟨b, 0, none⟩) ∧ x.2 = [⟨b, #[.int .i64 0, .int .u32 0], 38, true⟩])]⟩]
                    (Eb ++ (moE bm ph M vi vg :: (Ei ++ (Eg ++ ms.map meE)))) (E ++ (Eb ++ (moE bm ph M vi vg :: (Ei ++ (Eg ++ ms.map meE))))) (by simp) hS (by as_aux_lemma => kernel_rfl) (by as_aux_lemma => kernel_rfl) ?_
                  refine fx_val (fun _ => rfl) rfl (fun χ w hw => run_mv _ rfl) ?_
                  refine fx_val (fun _ => rfl) rfl (fun χ w hw => run_nc _ rfl) ?_
                  refine fx_val (fun _ => rfl) rfl (fun χ w hw => run_fa _ _ _ rfl) ?_
                  first | (refine fx_val (fun _ => rfl) rfl (fun χ w hw => run_ld _ _ rfl hw) ?_) | (refine fx_val (fun _ => rfl) rfl (fun χ w hw => run_ld0 _ _ rfl hw) ?_)
                  refine fx_val (fun _ => rfl) rfl (fun χ w hw => run_mv _ rfl) ?_
                  refine fx_val (fun _ => rfl) rfl (fun χ w hw => run_nc _ rfl) ?_
                  refine fx_val (fun _ => rfl) rfl (fun χ w hw => run_fa _ _ _ rfl) ?_
                  first | (refine fx_val (fun _ => rfl) rfl (fun χ w hw => run_ld _ _ rfl hw) ?_) | (refine fx_val (fun _ => rfl) rfl (fun χ w hw => run_ld0 _ _ rfl hw) ?_)
                  refine fx_val (fun _ => rfl) rfl (fun χ w hw => run_mv _ rfl) ?_
                  refine fx_val (fun _ => rfl) rfl (fun χ w hw => run_idxv _ _ _ rfl) ?_
                  first | (refine fx_val (fun _ => rfl) rfl (fun χ w hw => run_lda _ _ rfl hw) ?_) | (refine fx_val (fun _ => rfl) rfl (fun χ w hw => run_lda0 _ _ rfl hw) ?_)
                  refine fx_val (fun _ => rfl) rfl (fun χ w hw => run_mv _ rfl) ?_
                  refine fx_val (fun _ => rfl) rfl (fun χ w hw => run_sumv _ _ _ _ rfl) ?_
                  refine fx_val (fun _ => rfl) rfl (fun χ w hw => run_mv _ rfl) ?_
                  refine fx_val (fun _ => rfl) rfl (fun χ w hw => run_mv _ rfl) ?_
                  refine fx_val (fun _ => rfl) rfl (fun χ w hw => run_idxv _ _ _ rfl) ?_
                  first | (refine fx_val (fun _ => rfl) rfl (fun χ w hw => run_lda _ _ rfl hw) ?_) | (refine fx_val (fun _ => rfl) rfl (fun χ w hw => run_lda0 _ _ rfl hw) ?_)
                  refine fx_turn (vs := fun _ => [.pointer ph, .agg #[.int .i64 rs, .int .u32 rg], .int .i64 (4 + (fr : Int)), .agg #[.int .i64 xs, .int .u32 xg]]) (hE := fun χ => ⟨by kernel_rfl⟩) 0 0 rfl rfl (by as_aux_lemma => kernel_rfl) (by as_aux_lemma => kernel_rfl) (by as_aux_lemma => kernel_rfl) 22 [_, _, _, _] _ rfl (fun _ => rfl) (enters _ (by as_aux_lemma => kernel_rfl)) (fun _ => .tuple #[.agg #[.int .i64 0, .int .u32 0], .int .i64 3]) ?_ ?_
                  · intro χ X w _ hS
                    exact hp_store (show St w0 bs w (E ++ (X ++ _)) from hS) hT rs rg _ xs xg hxg _ (0, 0) 3 hi2.out.1 hi2.out.2.1 hi2.out.2.2 (fun E' w' hT' hS' => ⟨(undef, E'), rfl, hT', show St w0 bs w' (E' ++ (X ++ _)) from hS'.pick⟩)
                  refine fx_val (fun _ => rfl) rfl (fun χ w hw => run_mv _ rfl) ?_
                  refine fx_val (fun _ => rfl) rfl (fun χ w hw => run_ext _ _ rfl) ?_
                  refine fx_val (fun _ => rfl) rfl (fun χ w hw => run_ext _ _ rfl) ?_
                  refine fx_turn0 1 0 rfl rfl (by as_aux_lemma => kernel_rfl) (by as_aux_lemma => kernel_rfl) (by as_aux_lemma => kernel_rfl) (fun _ => rfl) (fun x => x.1) ?_ ?_
                  · intro χ X w _ hS
                    exact stepX_al _ rfl (show St w0 bs w (X ++ _) from hS) (fun b w' _ hS' => ⟨(_, [_]), rfl, ⟨b, rfl⟩, hS'⟩)
                  refine fx_turn0 1 1 rfl rfl (by as_aux_lemma => kernel_rfl) (by as_aux_lemma => kernel_rfl) (by as_aux_lemma => kernel_rfl) (fun _ => rfl) (fun _ => undef) ?_ ?_
                  · rintro χ X w ⟨⟨b, hb⟩, _⟩ hS
                    have hS : St w0 bs w ((χ 21).2 ++ (X ++ _)) := hS
                    rw [hb] at hS
                    have hS : St w0 bs w (⟨b, #[.int .i64 0, .int .u32 0], 38, true⟩ :: (X ++ _)) := hS
                    have hb1 : (χ 21).1 = .pointer (some ⟨b, 0, none⟩) := by rw [hb]
                    exact stepX_stb _ _ _ rfl hS hb1 (fun w' hS' => ⟨(undef, [⟨b, #[.int .i64 0, .int .u32 0], 38, true⟩]), rfl, ⟨b, hb1, rfl⟩, hS'⟩)
                  refine fx_val (fun _ => rfl) rfl (fun χ w hw => run_as _ rfl) ?_
                  refine fx_end rfl ?_
                  intro χ w hok hS
                  obtain ⟨hT2, _⟩ := hok _ (.head _)
                  have hT2 : HA ph (HL L) (χ 17).2 := hT2
                  obtain ⟨⟨bn, hb⟩, ⟨bo', hb1, hb2⟩, _⟩ := hok _ (.tail _ (.head _))
                  rw [hb] at hb1
                  obtain ⟨⟩ := hb1
                  have hS : St w0 bs w (((χ 17).2 ++ ((χ 22).2 ++ [])) ++ (Eb ++ (moE bm ph M vi vg :: (Ei ++ (Eg ++ ms.map meE))))) := hS
                  rw [hb2, List.append_nil, List.append_assoc] at hS
                  generalize (χ 17).2 = E at hS hT2
                  clear hT
                  have hT := hT2
                  clear hT2
                  simp only [hb]
                  simp only [List.cons_append, List.nil_append] at hS
                  clear hok hb2 hb
                  go_wp2_with (first | go_skip | (refine wpList_is (.binOp .neq 38 _ _ _) rfl ?_; refine wpList_stp (by kernel_rfl) (stp_val (run_ane _ _ _ _ rfl) ?_)) | (refine wpList_is (.load 38 _) rfl ?_; refine wpList_stp (by kernel_rfl) (stp_val (run_lda _ _ rfl hS) ?_)) | go_skip | (refine wpList_is (.build _ _) rfl ?_; go_must (refine wpList_stp (by kernel_rfl) (stp_val (run_bd _ _ rfl) ?_))) | (refine wpList_is (.call { callee := .builtin .clear, args := #[_], argTypes := #[_] }) rfl ?_; go_must (refine wpList_stp (by kernel_rfl) (stp_cl _ _ rfl hS (by decide) ?_)); clear hS; intro w hS) | (refine wpList_is (.load _ _) rfl ?_; go_must (first | refine wpList_stp (by kernel_rfl) (stp_val (run_ld _ _ rfl hS) ?_) | refine wpList_stp (by kernel_rfl) (stp_val (run_lda _ _ rfl hS) ?_) | refine wpList_stp (by kernel_rfl) (stp_val (run_ld0 _ _ rfl hS) ?_) | refine wpList_stp (by kernel_rfl) (stp_val (run_lda0 _ _ rfl hS) ?_))) | (refine wpList_is (.store _ _ _) rfl ?_; go_must (first | refine wpList_stp (by kernel_rfl) (stp_st _ _ _ rfl hS ?_) | refine wpList_stp (by kernel_rfl) (stp_sta _ _ _ rfl hS ?_)); clear hS; intro w hS) | (refine wpList_is (.alloc _) rfl ?_; go_must (refine wpList_stp (by kernel_rfl) (stp_al _ rfl hS ?_)); clear hS; intro bN w hbN hS) | (refine wpList_is (.box _ _) rfl ?_; go_must (refine wpList_stp (by kernel_rfl) (stp_bx _ _ rfl hS ?_)); clear hS; intro bN w hbN hS) | (refine wpList_is (.binOp .eql _ _ (.const (.slice none _ _)) _) rfl ?_; refine wpList_stp (by kernel_rfl) (stp_val (run_nse _ _ _ rfl) ?_)) | (refine wpList_is (.binOp .neq _ _ (.const (.slice none _ _)) _) rfl ?_; refine wpList_stp (by kernel_rfl) (stp_val (run_nsn _ _ _ rfl) ?_)))
                  have hS : St w0 bs _ (E ++ (Eb ++ (moE bm ph M vi vg :: (Ei ++ (Eg ++ ms.map meE))))) := hS.pick
                  refine region_itemsE [⟨(undef, E), [(14, fun _ x => HA ph (HL L) x.2)]⟩, ⟨(undef, []), [(18, fun _ x => ∃ b, x = (.pointer (some ⟨b, 0, none⟩), [⟨b, #[.int .i64 0, .int .u32 0], 38, true⟩])), (19, fun y x => ∃ b, y.1 = .pointer (some ⟨b, 0, none⟩) ∧ x.2 = [⟨b, #[.int .i64 0, .int .u32 0], 38, true⟩])]⟩]
                    (Eb ++ (moE bm ph M vi vg :: (Ei ++ (Eg ++ ms.map meE)))) (E ++ (Eb ++ (moE bm ph M vi vg :: (Ei ++ (Eg ++ ms.map meE))))) (by simp) hS (by as_aux_lemma => kernel_rfl) (by as_aux_lemma => kernel_rfl) ?_
                  refine fx_val (fun _ => rfl) rfl (fun χ w hw => run_mv _ rfl) ?_
                  refine fx_val (fun _ => rfl) rfl (fun χ w hw => run_nc _ rfl) ?_
                  refine fx_val (fun _ => rfl) rfl (fun χ w hw => run_fa _ _ _ rfl) ?_
                  first | (refine fx_val (fun _ => rfl) rfl (fun χ w hw => run_ld _ _ rfl hw) ?_) | (refine fx_val (fun _ => rfl) rfl (fun χ w hw => run_ld0 _ _ rfl hw) ?_)
                  refine fx_val (fun _ => rfl) rfl (fun χ w hw => run_mv _ rfl) ?_
                  refine fx_val (fun _ => rfl) rfl (fun χ w hw => run_nc _ rfl) ?_
                  refine fx_val (fun _ => rfl) rfl (fun χ w hw => run_fa _ _ _ rfl) ?_
                  first | (refine fx_val (fun _ => rfl) rfl (fun χ w hw => run_ld _ _ rfl hw) ?_) | (refine fx_val (fun _ => rfl) rfl (fun χ w hw => run_ld0 _ _ rfl hw) ?_)
                  refine fx_val (fun _ => rfl) rfl (fun χ w hw => run_mv _ rfl) ?_
                  refine fx_val (fun _ => rfl) rfl (fun χ w hw => run_idxv _ _ _ rfl) ?_
                  first | (refine fx_val (fun _ => rfl) rfl (fun χ w hw => run_lda _ _ rfl hw) ?_) | (refine fx_val (fun _ => rfl) rfl (fun χ w hw => run_lda0 _ _ rfl hw) ?_)
                  refine fx_val (fun _ => rfl) rfl (fun χ w hw => run_mv _ rfl) ?_
                  refine fx_val (fun _ => rfl) rfl (fun χ w hw => run_difv _ _ _ _ rfl) ?_
                  refine fx_val (fun _ => rfl) rfl (fun χ w hw => run_bd _ _ rfl) ?_
                  refine fx_turn (vs := fun _ => [.pointer ph, .agg #[.int .i64 rs, .int .u32 rg], .int .i64 (-1 - (fr : Int)), .agg #[.int .i64 0, .int .u32 0]]) (hE := fun χ => ⟨by kernel_rfl⟩) 0 0 rfl rfl (by as_aux_lemma => kernel_rfl) (by as_aux_lemma => kernel_rfl) (by as_aux_lemma => kernel_rfl) 22 [_, _, _, _] _ rfl (fun _ => rfl) (enters _ (by as_aux_lemma => kernel_rfl)) (fun _ => .tuple #[.agg #[.int .i64 0, .int .u32 0], .int .i64 3]) ?_ ?_
                  · intro χ X w _ hS
                    exact hp_store (show St w0 bs w (E ++ (X ++ _)) from hS) hT rs rg _ 0 0 (by decide) _ (0, 0) 3 hi3.out.1 hi3.out.2.1 hi3.out.2.2 (fun E' w' hT' hS' => ⟨(undef, E'), rfl, hT', show St w0 bs w' (E' ++ (X ++ _)) from hS'.pick⟩)
                  refine fx_val (fun _ => rfl) rfl (fun χ w hw => run_mv _ rfl) ?_
                  refine fx_val (fun _ => rfl) rfl (fun χ w hw => run_ext _ _ rfl) ?_
                  refine fx_val (fun _ => rfl) rfl (fun χ w hw => run_ext _ _ rfl) ?_
                  refine fx_turn0 1 0 rfl rfl (by as_aux_lemma => kernel_rfl) (by as_aux_lemma => kernel_rfl) (by as_aux_lemma => kernel_rfl) (fun _ => rfl) (fun x => x.1) ?_ ?_
                  · intro χ X w _ hS
                    exact stepX_al _ rfl (show St w0 bs w (X ++ _) from hS) (fun b w' _ hS' => ⟨(_, [_]), rfl, ⟨b, rfl⟩, hS'⟩)
                  refine fx_turn0 1 1 rfl rfl (by as_aux_lemma => kernel_rfl) (by as_aux_lemma => kernel_rfl) (by as_aux_lemma => kernel_rfl) (fun _ => rfl) (fun _ => undef) ?_ ?_
                  · rintro χ X w ⟨⟨b, hb⟩, _⟩ hS
                    have hS : St w0 bs w ((χ 18).2 ++ (X ++ _)) := hS
                    rw [hb] at hS
                    have hS : St w0 bs w (⟨b, #[.int .i64 0, .int .u32 0], 38, true⟩ :: (X ++ _)) := hS
                    have hb1 : (χ 18).1 = .pointer (some ⟨b, 0, none⟩) := by rw [hb]
                    exact stepX_stb _ _ _ rfl hS hb1 (fun w' hS' => ⟨(undef, [⟨b, #[.int .i64 0, .int .u32 0], 38, true⟩]), rfl, ⟨b, hb1, rfl⟩, hS'⟩)
                  refine fx_val (fun _ => rfl) rfl (fun χ w hw => run_as _ rfl) ?_
                  refine fx_end rfl ?_
                  intro χ w hok hS
                  obtain ⟨hT2, _⟩ := hok _ (.head _)
                  have hT2 : HA ph (HL L) (χ 14).2 := hT2
                  obtain ⟨⟨bn, hb⟩, ⟨bo', hb1, hb2⟩, _⟩ := hok _ (.tail _ (.head _))
                  rw [hb] at hb1
                  obtain ⟨⟩ := hb1
                  have hS : St w0 bs w (((χ 14).2 ++ ((χ 19).2 ++ [])) ++ (Eb ++ (moE bm ph M vi vg :: (Ei ++ (Eg ++ ms.map meE))))) := hS
                  rw [hb2, List.append_nil, List.append_assoc] at hS
                  generalize (χ 14).2 = E at hS hT2
                  clear hT
                  have hT := hT2
                  clear hT2
                  simp only [hb]
                  simp only [List.cons_append, List.nil_append] at hS
                  clear hok hb2 hb
                  go_wp2_with (first | go_skip | (refine wpList_is (.binOp .neq 38 _ _ _) rfl ?_; refine wpList_stp (by kernel_rfl) (stp_val (run_ane _ _ _ _ rfl) ?_)) | (refine wpList_is (.load 38 _) rfl ?_; refine wpList_stp (by kernel_rfl) (stp_val (run_lda _ _ rfl hS) ?_)) | go_skip | (refine wpList_is (.build _ _) rfl ?_; go_must (refine wpList_stp (by kernel_rfl) (stp_val (run_bd _ _ rfl) ?_))) | (refine wpList_is (.call { callee := .builtin .clear, args := #[_], argTypes := #[_] }) rfl ?_; go_must (refine wpList_stp (by kernel_rfl) (stp_cl _ _ rfl hS (by decide) ?_)); clear hS; intro w hS) | (refine wpList_is (.load _ _) rfl ?_; go_must (first | refine wpList_stp (by kernel_rfl) (stp_val (run_ld _ _ rfl hS) ?_) | refine wpList_stp (by kernel_rfl) (stp_val (run_lda _ _ rfl hS) ?_) | refine wpList_stp (by kernel_rfl) (stp_val (run_ld0 _ _ rfl hS) ?_) | refine wpList_stp (by kernel_rfl) (stp_val (run_lda0 _ _ rfl hS) ?_))) | (refine wpList_is (.store _ _ _) rfl ?_; go_must (first | refine wpList_stp (by kernel_rfl) (stp_st _ _ _ rfl hS ?_) | refine wpList_stp (by kernel_rfl) (stp_sta _ _ _ rfl hS ?_)); clear hS; intro w hS) | (refine wpList_is (.alloc _) rfl ?_; go_must (refine wpList_stp (by kernel_rfl) (stp_al _ rfl hS ?_)); clear hS; intro bN w hbN hS) | (refine wpList_is (.box _ _) rfl ?_; go_must (refine wpList_stp (by kernel_rfl) (stp_bx _ _ rfl hS ?_)); clear hS; intro bN w hbN hS) | (refine wpList_is (.binOp .eql _ _ (.const (.slice none _ _)) _) rfl ?_; refine wpList_stp (by kernel_rfl) (stp_val (run_nse _ _ _ rfl) ?_)) | (refine wpList_is (.binOp .neq _ _ (.const (.slice none _ _)) _) rfl ?_; refine wpList_stp (by kernel_rfl) (stp_val (run_nsn _ _ _ rfl) ?_)))
                  have hS : St w0 bs _ (E ++ (Eb ++ (moE bm ph M vi vg :: (Ei ++ (Eg ++ ms.map meE))))) := hS.pick
                  go_wp2_with (first | go_skip | (refine region_quiet hS (by kernel_rfl) (by kernel_rfl) (fun hne => ?_); (repeat (first | go_big_quiet_skip | (go_big_quiet_want; first | (refine quiet_is (.lookup _ _ _ _) rfl ?_; refine quiet_at sw_st (fun w hS => run_look _ _ _ rfl (hlk _ _ hS)) ?_; go_big_quiet_on) | (refine quiet_is (.load 38 _) rfl ?_; refine quiet_at sw_st (fun w hS => run_lda _ _ rfl hS) ?_; go_big_quiet_on) | (refine quiet_is (.load _ _) rfl ?_; go_must (first | refine quiet_at sw_st (fun w hS => run_ld _ _ rfl hS) ?_ | refine quiet_at sw_st (fun w hS => run_lda _ _ rfl hS) ?_ | refine quiet_at sw_st (fun w hS => run_ld0 _ _ rfl hS) ?_ | refine quiet_at sw_st (fun w hS => run_lda0 _ _ rfl hS) ?_); go_big_quiet_on) | (refine quiet_is (.binOp .eql _ _ (.const (.slice none _ _)) _) rfl ?_; refine quiet_val (fun w _ => run_nse _ _ _ rfl) ?_; go_big_quiet_on) | (refine quiet_is (.binOp .neq _ _ (.const (.slice none _ _)) _) rfl ?_; refine quiet_val (fun w _ => run_nsn _ _ _ rfl) ?_; go_big_quiet_on) | (refine quiet_is (.call { callee := .builtin .len, args := #[_], argTypes := #[_] }) rfl ?_; refine quiet_val (fun w _ => run_lenv _ _ rfl) ?_; go_big_quiet_on) | (refine quiet_is (.indexAddr _ _ _) rfl ?_; refine quiet_val (fun w _ => run_idxv _ _ _ rfl) ?_; go_big_quiet_on) | (go_big_quiet_op; go_big_quiet_on)))); refine wpQuiet_nil ?_; clear hS hne; intro w hS) | (refine wpList_is (.binOp .neq 38 _ _ _) rfl ?_; refine wpList_stp (by kernel_rfl) (stp_val (run_ane _ _ _ _ rfl) ?_)) | (refine wpList_is (.load 38 _) rfl ?_; refine wpList_stp (by kernel_rfl) (stp_val (run_lda _ _ rfl hS) ?_)) | go_skip | (refine wpList_is (.build _ _) rfl ?_; go_must (refine wpList_stp (by kernel_rfl) (stp_val (run_bd _ _ rfl) ?_))) | (refine wpList_is (.call { callee := .builtin .clear, args := #[_], argTypes := #[_] }) rfl ?_; go_must (refine wpList_stp (by kernel_rfl) (stp_cl _ _ rfl hS (by decide) ?_)); clear hS; intro w hS) | (refine wpList_is (.load _ _) rfl ?_; go_must (first | refine wpList_stp (by kernel_rfl) (stp_val (run_ld _ _ rfl hS) ?_) | refine wpList_stp (by kernel_rfl) (stp_val (run_lda _ _ rfl hS) ?_) | refine wpList_stp (by kernel_rfl) (stp_val (run_ld0 _ _ rfl hS) ?_) | refine wpList_stp (by kernel_rfl) (stp_val (run_lda0 _ _ rfl hS) ?_))) | (refine wpList_is (.store _ _ _) rfl ?_; go_must (first | refine wpList_stp (by kernel_rfl) (stp_st _ _ _ rfl hS ?_) | refine wpList_stp (by kernel_rfl) (stp_sta _ _ _ rfl hS ?_)); clear hS; intro w hS) | (refine wpList_is (.alloc _) rfl ?_; go_must (refine wpList_stp (by kernel_rfl) (stp_al _ rfl hS ?_)); clear hS; intro bN w hbN hS) | (refine wpList_is (.box _ _) rfl ?_; go_must (refine wpList_stp (by kernel_rfl) (stp_bx _ _ rfl hS ?_)); clear hS; intro bN w hbN hS) | (refine wpList_is (.binOp .eql _ _ (.const (.slice none _ _)) _) rfl ?_; refine wpList_stp (by kernel_rfl) (stp_val (run_nse _ _ _ rfl) ?_)) | (refine wpList_is (.binOp .neq _ _ (.const (.slice none _ _)) _) rfl ?_; refine wpList_stp (by kernel_rfl) (stp_val (run_nsn _ _ _ rfl) ?_)))
                  go_roundw
                  case rel => exact ⟨x + 1, E, (), by omega, by go_num, hT, hS.pick⟩
                  case measure => simp [intOf]; omega
            · by_cases hxl : x < m
              · have hz2 : (xs, xg) = (0, 0) := by
                  by_cases h : (xs, xg) = (0, 0)
                  · exact h
                  · exact absurd ⟨hxl, h⟩ hgo
                have dx : decide ((x : Int) < (m : Int)) = true := decide_eq_true (by omega)
                have dx' : decide (x < m) = true := decide_eq_true hxl
                have q5 : AggEq Try.prog 38 #[.int .i64 xs, .int .u32 xg] #[.int .i64 0, .int .u32 0] true := refE (refB_iff (x := (xs, xg)) (y := (0, 0)) |>.2 hz2)
                clear hz2
                as_aux_lemma =>
                  go_wp2_with (first | go_skip | (refine wpList_is (.binOp .neq 38 _ _ _) rfl ?_; refine wpList_stp (by kernel_rfl) (stp_val (run_ane _ _ _ _ rfl) ?_)) | (refine wpList_is (.load 38 _) rfl ?_; refine wpList_stp (by kernel_rfl) (stp_val (run_lda _ _ rfl hS) ?_)) | go_skip | (refine wpList_is (.call { callee := .builtin .len, args := #[_], argTypes := #[_] }) rfl ?_; refine wpList_stp (by kernel_rfl) (stp_val (run_lenv _ _ rfl) ?_)) | (refine wpList_is (.slice _ _ none (some _) none) rfl ?_; refine wpList_stp (by kernel_rfl) (stp_val (run_prev _ _ _ rfl) ?_)) | (refine wpList_is (.indexAddr _ _ _) rfl ?_; refine wpList_stp (by kernel_rfl) (stp_val (run_idxv _ _ _ rfl) ?_)) | go_skip | (refine wpList_is (.build _ _) rfl ?_; go_must (refine wpList_stp (by kernel_rfl) (stp_val (run_bd _ _ rfl) ?_))) | (refine wpList_is (.call { callee := .builtin .clear, args := #[_], argTypes := #[_] }) rfl ?_; go_must (refine wpList_stp (by kernel_rfl) (stp_cl _ _ rfl hS (by decide) ?_)); clear hS; intro w hS) | (refine wpList_is (.load _ _) rfl ?_; go_must (first | refine wpList_stp (by kernel_rfl) (stp_val (run_ld _ _ rfl hS) ?_) | refine wpList_stp (by kernel_rfl) (stp_val (run_lda _ _ rfl hS) ?_) | refine wpList_stp (by kernel_rfl) (stp_val (run_ld0 _ _ rfl hS) ?_) | refine wpList_stp (by kernel_rfl) (stp_val (run_lda0 _ _ rfl hS) ?_))) | (refine wpList_is (.store _ _ _) rfl ?_; go_must (first | refine wpList_stp (by kernel_rfl) (stp_st _ _ _ rfl hS ?_) | refine wpList_stp (by kernel_rfl) (stp_sta _ _ _ rfl hS ?_)); clear hS; intro w hS) | (refine wpList_is (.alloc _) rfl ?_; go_must (refine wpList_stp (by kernel_rfl) (stp_al _ rfl hS ?_)); clear hS; intro bN w hbN hS) | (refine wpList_is (.box _ _) rfl ?_; go_must (refine wpList_stp (by kernel_rfl) (stp_bx _ _ rfl hS ?_)); clear hS; intro bN w hbN hS) | (refine wpList_is (.binOp .eql _ _ (.const (.slice none _ _)) _) rfl ?_; refine wpList_stp (by kernel_rfl) (stp_val (run_nse _ _ _ rfl) ?_)) | (refine wpList_is (.binOp .neq _ _ (.const (.slice none _ _)) _) rfl ?_; refine wpList_stp (by kernel_rfl) (stp_val (run_nsn _ _ _ rfl) ?_)))
                  go_roundw
                  case rel => exact ⟨q + 1, E, (), by omega, by go_num, hT, hS.pick⟩
                  case measure => simp [intOf]; omega
              · have dx : decide ((x : Int) < (m : Int)) = false := decide_eq_false (by omega)
                have dx' : decide (x < m) = false := decide_eq_false hxl
                as_aux_lemma =>
                  go_wp2_with (first | go_skip | (refine wpList_is (.binOp .neq 38 _ _ _) rfl ?_; refine wpList_stp (by kernel_rfl) (stp_val (run_ane _ _ _ _ rfl) ?_)) | (refine wpList_is (.load 38 _) rfl ?_; refine wpList_stp (by kernel_rfl) (stp_val (run_lda _ _ rfl hS) ?_)) | go_skip | (refine wpList_is (.call { callee := .builtin .len, args := #[_], argTypes := #[_] }) rfl ?_; refine wpList_stp (by kernel_rfl) (stp_val (run_lenv _ _ rfl) ?_)) | (refine wpList_is (.slice _ _ none (some _) none) rfl ?_; refine wpList_stp (by kernel_rfl) (stp_val (run_prev _ _ _ rfl) ?_)) | (refine wpList_is (.indexAddr _ _ _) rfl ?_; refine wpList_stp (by kernel_rfl) (stp_val (run_idxv _ _ _ rfl) ?_)) | go_skip | (refine wpList_is (.build _ _) rfl ?_; go_must (refine wpList_stp (by kernel_rfl) (stp_val (run_bd _ _ rfl) ?_))) | (refine wpList_is (.call { callee := .builtin .clear, args := #[_], argTypes := #[_] }) rfl ?_; go_must (refine wpList_stp (by kernel_rfl) (stp_cl _ _ rfl hS (by decide) ?_)); clear hS; intro w hS) | (refine wpList_is (.load _ _) rfl ?_; go_must (first | refine wpList_stp (by kernel_rfl) (stp_val (run_ld _ _ rfl hS) ?_) | refine wpList_stp (by kernel_rfl) (stp_val (run_lda _ _ rfl hS) ?_) | refine wpList_stp (by kernel_rfl) (stp_val (run_ld0 _ _ rfl hS) ?_) | refine wpList_stp (by kernel_rfl) (stp_val (run_lda0 _ _ rfl hS) ?_))) | (refine wpList_is (.store _ _ _) rfl ?_; go_must (first | refine wpList_stp (by kernel_rfl) (stp_st _ _ _ rfl hS ?_) | refine wpList_stp (by kernel_rfl) (stp_sta _ _ _ rfl hS ?_)); clear hS; intro w hS) | (refine wpList_is (.alloc _) rfl ?_; go_must (refine wpList_stp (by kernel_rfl) (stp_al _ rfl hS ?_)); clear hS; intro bN w hbN hS) | (refine wpList_is (.box _ _) rfl ?_; go_must (refine wpList_stp (by kernel_rfl) (stp_bx _ _ rfl hS ?_)); clear hS; intro bN w hbN hS) | (refine wpList_is (.binOp .eql _ _ (.const (.slice none _ _)) _) rfl ?_; refine wpList_stp (by kernel_rfl) (stp_val (run_nse _ _ _ rfl) ?_)) | (refine wpList_is (.binOp .neq _ _ (.const (.slice none _ _)) _) rfl ?_; refine wpList_stp (by kernel_rfl) (stp_val (run_nsn _ _ _ rfl) ?_)))
                  go_roundw
                  case rel => exact ⟨q + 1, E, (), by omega, by go_num, hT, hS.pick⟩
                  case measure => simp [intOf]; omega
        · have dq : decide ((q : Int) < 4) = false := decide_eq_false (by omega)
          have dq' : decide (q < 4) = false := decide_eq_false hlq
          have hMA : MA W bm (1 + zn) ((5 : Nat) : Int) _ [] _ := ⟨w0, bs, M, ph, vi, vg, L, ins, gone, ms, E, Ei, Eg, hB, by rw [List.append_nil]; exact hS.pick, hT, hvi, hvg, hMo⟩
          clear hS
          have hS := hMA.st
          as_aux_lemma =>
            go_wp2_with (first | go_skip | (go_at_call 20; go_must (refine agrees_ok (by omega) hMA ?_); clear hS hMA; intro w hMA; have hS := hMA.st; unfold Ret) | (go_at_call 11; refine works_ok hS ?_; clear hS; intro w hS; unfold Ret) | go_skip | (refine wpList_is (.call { callee := .builtin .len, args := #[_], argTypes := #[_] }) rfl ?_; refine wpList_stp (by kernel_rfl) (stp_val (run_lenv _ _ rfl) ?_)) | (refine wpList_is (.slice _ _ none (some _) none) rfl ?_; refine wpList_stp (by kernel_rfl) (stp_val (run_prev _ _ _ rfl) ?_)) | (refine wpList_is (.indexAddr _ _ _) rfl ?_; refine wpList_stp (by kernel_rfl) (stp_val (run_idxv _ _ _ rfl) ?_)) | go_skip | (refine wpList_is (.build _ _) rfl ?_; go_must (refine wpList_stp (by kernel_rfl) (stp_val (run_bd _ _ rfl) ?_))) | (refine wpList_is (.call { callee := .builtin .clear, args := #[_], argTypes := #[_] }) rfl ?_; go_must (refine wpList_stp (by kernel_rfl) (stp_cl _ _ rfl hS (by decide) ?_)); clear hS; intro w hS) | (refine wpList_is (.load _ _) rfl ?_; go_must (first | refine wpList_stp (by kernel_rfl) (stp_val (run_ld _ _ rfl hS) ?_) | refine wpList_stp (by kernel_rfl) (stp_val (run_lda _ _ rfl hS) ?_) | refine wpList_stp (by kernel_rfl) (stp_val (run_ld0 _ _ rfl hS) ?_) | refine wpList_stp (by kernel_rfl) (stp_val (run_lda0 _ _ rfl hS) ?_))) | (refine wpList_is (.store _ _ _) rfl ?_; go_must (first | refine wpList_stp (by kernel_rfl) (stp_st _ _ _ rfl hS ?_) | refine wpList_stp (by kernel_rfl) (stp_sta _ _ _ rfl hS ?_)); clear hS; intro w hS) | (refine wpList_is (.alloc _) rfl ?_; go_must (refine wpList_stp (by kernel_rfl) (stp_al _ rfl hS ?_)); clear hS; intro bN w hbN hS) | (refine wpList_is (.box _ _) rfl ?_; go_must (refine wpList_stp (by kernel_rfl) (stp_bx _ _ rfl hS ?_)); clear hS; intro bN w hbN hS) | (refine wpList_is (.binOp .eql _ _ (.const (.slice none _ _)) _) rfl ?_; refine wpList_stp (by kernel_rfl) (stp_val (run_nse _ _ _ rfl) ?_)) | (refine wpList_is (.binOp .neq _ _ (.const (.slice none _ _)) _) rfl ?_; refine wpList_stp (by kernel_rfl) (stp_val (run_nsn _ _ _ rfl) ?_)))
            exact hR _ hS.chg
end Go.Proofs.Ytlpknbkgkhnfcaa
