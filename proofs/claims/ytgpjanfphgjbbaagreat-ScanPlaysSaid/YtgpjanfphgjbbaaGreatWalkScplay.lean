/-
  The walk of ScanPlays.
-/
import Derived.Test.YtgpjanfphgjbbaaGreatScw
import Derived.Test.YtgpjanfphgjbbaaGreatRgn
import Derived.Test.YtgpjanfphgjbbaaGreatLowest
set_option linter.unusedSimpArgs false
set_option linter.unusedVariables false
namespace Go.Proofs.YtgpjanfphgjbbaaGreat
open Go Go.RowKit Go.Mm
variable {R : Ending → World → Prop}
theorem bounds_u32c {n : Int} (h : (Lit.int .u32 n).wf = true) : 0 ≤ n ∧ n ≤ 4294967295 := by
  simp [Lit.wf, IntKind.min, IntKind.max, IntKind.signed, IntKind.bits] at h
  omega
theorem bounds_u8c {n : Int} (h : (Lit.int .u8 n).wf = true) : 0 ≤ n ∧ n ≤ 255 := by
  simp [Lit.wf, IntKind.min, IntKind.max, IntKind.signed, IntKind.bits] at h
  omega
instance z_stepc : ZeroT Tryz.prog 45 #[.int .u8 0, .int .i64 0, .int .u32 0, .int .i64 0, .int .i64 0] := ⟨by kernel_rfl⟩
instance a_stepc : AggT Tryz.prog 45 5 := ⟨by kernel_rfl, by kernel_rfl⟩
instance fa_step1 {b off : Nat} : FieldAt Tryz.prog 45 1 b off (off + 1) := ⟨fun w => by kernel_rfl⟩
/-- Both heaps free: the phases. -/
def Frs (W : World) (p q : Option Addr) (T' : Hp) (y1 y2 : Ent) (K1 K2 K3 K4 Ea Ed : List Ent) : Nat → World → Prop
  | 0, w => St W [] w (y1 :: y2 :: (Ea ++ (Ed ++ (K1 ++ (K2 ++ (K3 ++ K4))))))
  | 1, w => ∃ Ea', HA p T' Ea' ∧ St W [] w (y1 :: y2 :: (Ea' ++ (Ed ++ (K1 ++ (K2 ++ (K3 ++ K4))))))
  | _ + 2, w => ∃ Ea' Ed', HA p T' Ea' ∧ RH q T' Ed' ∧ St W [] w (y1 :: y2 :: (Ea' ++ (Ed' ++ (K1 ++ (K2 ++ (K3 ++ K4))))))
theorem frs_com {W : World} {p q : Option Addr} {T' : Hp} {y1 y2 : Ent} {K1 K2 K3 K4 Ea Ed : List Ent} (k : Nat) (w : World) (h : Frs W p q T' y1 y2 K1 K2 K3 K4 Ea Ed k w) : St W [] w [y1, y2] := by
  match k, h with
  | 0, h => exact St.pick h
  | 1, ⟨_, _, h⟩ => exact h.pick
  | _ + 2, ⟨_, _, _, _, h⟩ => exact h.pick
/-- Both paints bleach: the phases. -/
def Bls (W : World) (p q : Option Addr) (T' : Cq) (y1 y2 : Ent) (K1 K2 K3 K4 Ea Ed : List Ent) : Nat → World → Prop
  | 0, w => St W [] w (y1 :: y2 :: (Ea ++ (Ed ++ (K1 ++ (K2 ++ (K3 ++ K4))))))
  | 1, w => ∃ Ea', KA p T' Ea' ∧ St W [] w (y1 :: y2 :: (Ea' ++ (Ed ++ (K1 ++ (K2 ++ (K3 ++ K4))))))
  | _ + 2, w => ∃ Ea' Ed', KA p T' Ea' ∧ KR q T' Ed' ∧ St W [] w (y1 :: y2 :: (Ea' ++ (Ed' ++ (K1 ++ (K2 ++ (K3 ++ K4))))))
theorem bls_com {W : World} {p q : Option Addr} {T' : Cq} {y1 y2 : Ent} {K1 K2 K3 K4 Ea Ed : List Ent} (k : Nat) (w : World) (h : Bls W p q T' y1 y2 K1 K2 K3 K4 Ea Ed k w) : St W [] w [y1, y2] := by
  match k, h with
  | 0, h => exact St.pick h
  | 1, ⟨_, _, h⟩ => exact h.pick
  | _ + 2, ⟨_, _, _, _, h⟩ => exact h.pick
set_option maxHeartbeats 8000000 in
set_option maxRecDepth 100000 in
theorem walk_scplay {W : World} (z0 : Int) (wz0 : (Lit.int .i64 z0).wf = true) (z1 : Int) (wz1 : (Lit.int .i64 z1).wf = true) (z2 : Int) (wz2 : (Lit.int .i64 z2).wf = true) (vv : Value) {m sb so : Nat} {F : Nat → Nat → Value} (hv : Flat W [.i .u8, .i .i64, .i .u32, .i .i64, .i .i64] vv m sb so F) (hR : ∀ w', Chg W w' [] → Ret R (.bool true) w') :
    Calls Tryz.prog 3 #[.int .i64 z0, .int .i64 z1, .int .i64 z2, vv] W R := by
  have hS : St W [] W [] := St.start0
  have hlen := hv.len (t := 22) Tryz.underlying22
  by_cases hn : 80 < m
  · have q : decide (80 < (m : Int)) = true := decide_eq_true (by omega)
    go_enter Tryz.func3, Tryz.ntmps3
    go_wp2_with (first | (go_at_call 4; refine works_ok hS ?_; clear hS; intro w hS; unfold Ret) | (refine wpList_is (.call { callee := .builtin .len, args := #[_], argTypes := #[_] }) rfl ?_; refine wpList_stp (by kernel_rfl) (stp_val (run_lenv _ _ rfl) ?_)))
    exact hR _ hS.chg
  have q : decide (80 < (m : Int)) = false := decide_eq_false (by omega)
  obtain ⟨T0, hT0⟩ : ∃ T, nwH z0 1 = T := ⟨_, rfl⟩
  obtain ⟨e0, he0⟩ : ∃ e, nwE z0 1 = e := ⟨_, rfl⟩
  obtain ⟨T1, hT1⟩ : ∃ T, nwC z1 = T := ⟨_, rfl⟩
  obtain ⟨e1, he1⟩ : ∃ e, (if 1 ≤ z1 ∧ z1 ≤ 256 then (0 : Int) else 2) = e := ⟨_, rfl⟩
  obtain ⟨T2, hT2⟩ : ∃ T, nwS z2 = T := ⟨_, rfl⟩
  obtain ⟨e2, he2⟩ : ∃ e, (if 1 ≤ z2 ∧ z2 ≤ 64 then (0 : Int) else 2) = e := ⟨_, rfl⟩
  have hT0' := Lib.hid hT0
  have he0' := Lib.hid he0
  have hT1' := Lib.hid hT1
  have he1' := Lib.hid he1
  have hT2' := Lib.hid hT2
  have he2' := Lib.hid he2
  clear hT0 he0 hT1 he1 hT2 he2
  go_enter Tryz.func3, Tryz.ntmps3
  go_wp2_with (first
    | go_skip
    | (go_at_call 5; refine hp_new hS z0 1 (by decide) _ e0 hT0'.out he0'.out ?_; clear hS; intro p0 Ea w hH hS; have n0 := hH.nil; unfold Ret)
    | (go_at_call 8; refine rh_new hS z0 1 (by decide) _ e0 hT0'.out he0'.out ?_; clear hS; intro q0 Ed w hH2 hS; have n3 := hH2.nil; unfold Ret)
    | (go_at_call 6; refine pn_new hS z1 _ e1 hT1'.out he1'.out ?_; clear hS; intro p1 Eb w hT hS; have n1 := hT.nil; unfold Ret)
    | (go_at_call 9; refine kr_new hS z1 _ e1 hT1'.out he1'.out ?_; clear hS; intro q1 Ee w hT2 hS; have n4 := hT2.nil; unfold Ret)
    | (go_at_call 7; refine sq_new hS z2 _ e2 hT2'.out he2'.out ?_; clear hS; intro p2 Ec w hU hS; have n2 := hU.nil; unfold Ret)
    | (go_at_call 10; refine sr_new hS z2 _ e2 hT2'.out he2'.out ?_; clear hS; intro q2 Ef w hU2 hS; have n5 := hU2.nil; unfold Ret)
    | go_skip | (refine wpList_is (.call { callee := .builtin .len, args := #[_], argTypes := #[_] }) rfl ?_; refine wpList_stp (by kernel_rfl) (stp_val (run_lenv _ _ rfl) ?_)) | (refine wpList_is (.slice _ _ none (some _) none) rfl ?_; refine wpList_stp (by kernel_rfl) (stp_val (run_prev _ _ _ rfl) ?_)) | (refine wpList_is (.indexAddr _ _ _) rfl ?_; refine wpList_stp (by kernel_rfl) (stp_val (run_idxv _ _ _ rfl) ?_)) | go_skip | (refine wpList_is (.build _ _) rfl ?_; go_must (refine wpList_stp (by kernel_rfl) (stp_val (run_bd _ _ rfl) ?_))) | (refine wpList_is (.call { callee := .builtin .clear, args := #[_], argTypes := #[_] }) rfl ?_; go_must (refine wpList_stp (by kernel_rfl) (stp_cl _ _ rfl hS (by decide) ?_)); clear hS; intro w hS) | (refine wpList_is (.load _ _) rfl ?_; go_must ((refine wpList_stp (by kernel_rfl) (stp_val (run_ld _ _ rfl hS) ?_)))) | (refine wpList_is (.store _ _ _) rfl ?_; go_must ((refine wpList_stp (by kernel_rfl) (stp_st _ _ _ rfl hS ?_))); clear hS; intro w hS) | (refine wpList_is (.alloc _) rfl ?_; go_must (refine wpList_stp (by kernel_rfl) (stp_al _ rfl hS ?_)); clear hS; intro bN w hbN hS) | (refine wpList_is (.box _ _) rfl ?_; go_must (refine wpList_stp (by kernel_rfl) (stp_bx _ _ rfl hS ?_)); clear hS; intro bN w hbN hS) | (refine wpList_is (.binOp .eql _ _ (.const (.slice none _ _)) _) rfl ?_; refine wpList_stp (by kernel_rfl) (stp_val (run_nse _ _ _ rfl) ?_)) | (refine wpList_is (.binOp .neq _ _ (.const (.slice none _ _)) _) rfl ?_; refine wpList_stp (by kernel_rfl) (stp_val (run_nsn _ _ _ rfl) ?_)))
  clear n0 n1 n2 n3 n4 n5 hT0' he0' hT1' he1' hT2' he2'
  go_loopw [100] (fun u wr => ∃ (k : Nat) (Hh : Hp) (T : Cq) (S : Sq) (Ea Eb Ec Ed Ee Ef : List Ent), k ≤ m ∧ u = .int .i64 k ∧ HA p0 Hh Ea ∧ KA p1 T Eb ∧ SA p2 S Ec ∧ RH q0 Hh Ed ∧ KR q1 T Ee ∧ SR q2 S Ef ∧ St W [] wr (Ea ++ (Eb ++ (Ec ++ (Ed ++ (Ee ++ Ef)))))) (fun u _ => m - (intOf u).toNat)
  case atStart => exact ⟨0, _, _, _, _, _, _, _, _, _, Nat.zero_le _, rfl, hH, hT, hU, hH2, hT2, hU2, hS.pick⟩
  case round =>
    clear hS hH hT hU hH2 hT2 hU2
    obtain ⟨k, Hh, T, S, Ea, Eb, Ec, Ed, Ee, Ef, hk, rfl, hH, hT, hU, hH2, hT2, hU2, hS⟩ := hrel
    by_cases hlt : k < m
    case neg =>
      obtain rfl : k = m := by omega
      go_wp2_with ((go_at_call 4; refine works_ok hS ?_; clear hS; intro w hS; unfold Ret))
      exact hR _ hS.chg
    have hidx := hv.idxz (t := 22) (z := 5) (i := k) rfl Tryz.underlying22 (by kernel_rfl) hlt
    have hcell := hv.cellsz (z := 5) (i := k) rfl hlt
    obtain ⟨op, hop, wop⟩ := hv.int (i := k) (j := 0) hlt rfl
    obtain ⟨s, hs, ws⟩ := hv.int (i := k) (j := 1) hlt rfl
    obtain ⟨g, hg, wg⟩ := hv.int (i := k) (j := 2) hlt rfl
    obtain ⟨n, hnn, wn⟩ := hv.int (i := k) (j := 3) hlt rfl
    obtain ⟨v, hvv, wv⟩ := hv.int (i := k) (j := 4) hlt rfl
    simp only [List.range_succ, List.range_zero, List.nil_append, List.map_append, List.map_cons, List.map_nil, List.cons_append, hop, hs, hg, hnn, hvv] at hcell
    have hgb := bounds_u32c wg
    have hob := bounds_u8c wop
    obtain ⟨d, hd⟩ : ∃ d, op.tmod 10 = d := ⟨_, rfl⟩
    have hdb : 0 ≤ d ∧ d < 10 := by
      rw [← hd, Int.tmod_eq_emod_of_nonneg hob.1]
      omega
    have hrem : RemIs op 10 d := ⟨hd, by decide⟩
    clear hop hs hg hnn hvv wop ws wg wn wv hd hob
    by_cases d0 : d = 0
    · as_aux_lemma =>
      subst d0
      obtain ⟨H', h1⟩ : ∃ x, mkT Hh n false = x := ⟨_, rfl⟩
      obtain ⟨⟨r1, r2⟩, h2⟩ : ∃ x, mkR Hh n false = x := ⟨_, rfl⟩
      obtain ⟨e, h3⟩ : ∃ x, mkE Hh n false = x := ⟨_, rfl⟩
      have h1' := Lib.hid h1
      have h2' := Lib.hid h2
      have h3' := Lib.hid h3
      clear h1 h2 h3
      go_wp2_with (first | (go_at_call 11; refine hp_make hS hH n false _ _ _ h1'.out h2'.out h3'.out ?_; clear hS hH; intro Ea w hH hS; unfold Ret) | (go_at_call 12; refine rh_make hS hH2 n false _ _ _ h1'.out h2'.out h3'.out ?_; clear hS hH2; intro Ed w hH2 hS; unfold Ret) | (refine wpList_is (.alloc 45) rfl ?_; go_must (refine wpList_stp (by kernel_rfl) (stp_al _ rfl hS ?_)); clear hS; intro bx w _ hS) | (refine wpList_is (.alloc 47) rfl ?_; go_must (refine wpList_stp (by kernel_rfl) (stp_al _ rfl hS ?_)); clear hS; intro bf w _ hS) | (refine wpList_is (.binOp .rem _ _ _ _) rfl ?_; refine wpList_stp (by kernel_rfl) (stp_val (run_remv _ _ _ _ rfl) ?_)) | (go_at_call 27; refine shows_ok hS hH hT hU hH2 hT2 hU2 s g ?_; clear hS; intro w hS; unfold Ret) | (refine wpList_is (.indexAddr _ _ _) rfl ?_; refine wpList_stp (by kernel_rfl) (stp_val (run_idxv _ _ _ rfl) ?_)) | (refine wpList_is (.build _ _) rfl ?_; go_must (refine wpList_stp (by kernel_rfl) (stp_val (run_bd _ _ rfl) ?_))) | (refine wpList_is (.load _ _) rfl ?_; go_must (first | refine wpList_stp (by kernel_rfl) (stp_val (run_ld _ _ rfl hS) ?_) | refine wpList_stp (by kernel_rfl) (stp_val (run_lda _ _ rfl hS) ?_) | refine wpList_stp (by kernel_rfl) (stp_val (run_lda0 _ _ rfl hS) ?_))) | (refine wpList_is (.store _ _ _) rfl ?_; go_must ((refine wpList_stp (by kernel_rfl) (stp_sta _ _ _ rfl hS ?_))); clear hS; intro w hS))
      go_roundw
      case rel => exact ⟨k + 1, _, _, _, _, _, _, _, _, _, by omega, by go_num, hH, hT, hU, hH2, hT2, hU2, hS.pick⟩
      case measure => simp [intOf]; omega
    have qq0 : (d == 0) = false := by simpa using d0
    have qq0' : decide (d = 0) = false := decide_eq_false d0
    have D0 := Lib.hid d0
    clear d0
    by_cases d1 : d = 1
    · as_aux_lemma =>
      subst d1
      obtain ⟨H', h1⟩ : ∃ x, stT Hh s g n (v, 1) = x := ⟨_, rfl⟩
      obtain ⟨⟨r1, r2⟩, h2⟩ : ∃ x, stR Hh s g n (v, 1) = x := ⟨_, rfl⟩
      obtain ⟨e, h3⟩ : ∃ x, stE Hh s g n (v, 1) = x := ⟨_, rfl⟩
      have h1' := Lib.hid h1
      have h2' := Lib.hid h2
      have h3' := Lib.hid h3
      clear h1 h2 h3
      go_wp2_with (first | (go_at_call 13; refine hp_store hS hH s g n v 1 (by decide) _ _ _ h1'.out h2'.out h3'.out ?_; clear hS hH; intro Ea w hH hS; unfold Ret) | (go_at_call 14; refine rh_store hS hH2 s g n v 1 (by decide) _ _ _ h1'.out h2'.out h3'.out ?_; clear hS hH2; intro Ed w hH2 hS; unfold Ret) | (refine wpList_is (.alloc 45) rfl ?_; go_must (refine wpList_stp (by kernel_rfl) (stp_al _ rfl hS ?_)); clear hS; intro bx w _ hS) | (refine wpList_is (.alloc 47) rfl ?_; go_must (refine wpList_stp (by kernel_rfl) (stp_al _ rfl hS ?_)); clear hS; intro bf w _ hS) | (refine wpList_is (.binOp .rem _ _ _ _) rfl ?_; refine wpList_stp (by kernel_rfl) (stp_val (run_remv _ _ _ _ rfl) ?_)) | (go_at_call 27; refine shows_ok hS hH hT hU hH2 hT2 hU2 s g ?_; clear hS; intro w hS; unfold Ret) | (refine wpList_is (.indexAddr _ _ _) rfl ?_; refine wpList_stp (by kernel_rfl) (stp_val (run_idxv _ _ _ rfl) ?_)) | (refine wpList_is (.build _ _) rfl ?_; go_must (refine wpList_stp (by kernel_rfl) (stp_val (run_bd _ _ rfl) ?_))) | (refine wpList_is (.load _ _) rfl ?_; go_must (first | refine wpList_stp (by kernel_rfl) (stp_val (run_ld _ _ rfl hS) ?_) | refine wpList_stp (by kernel_rfl) (stp_val (run_lda _ _ rfl hS) ?_) | refine wpList_stp (by kernel_rfl) (stp_val (run_lda0 _ _ rfl hS) ?_))) | (refine wpList_is (.store _ _ _) rfl ?_; go_must ((refine wpList_stp (by kernel_rfl) (stp_sta _ _ _ rfl hS ?_))); clear hS; intro w hS))
      go_roundw
      case rel => exact ⟨k + 1, _, _, _, _, _, _, _, _, _, by omega, by go_num, hH, hT, hU, hH2, hT2, hU2, hS.pick⟩
      case measure => simp [intOf]; omega
    have qq1 : (d == 1) = false := by simpa using d1
    have qq1' : decide (d = 1) = false := decide_eq_false d1
    have D1 := Lib.hid d1
    clear d1
    by_cases d2 : d = 2
    · as_aux_lemma =>
      subst d2
      obtain ⟨H', h1⟩ : ∃ x, stT Hh s g n (v, 1) = x := ⟨_, rfl⟩
      obtain ⟨⟨r1, r2⟩, h2⟩ : ∃ x, stR Hh s g n (v, 1) = x := ⟨_, rfl⟩
      obtain ⟨e, h3⟩ : ∃ x, stE Hh s g n (v, 1) = x := ⟨_, rfl⟩
      have h1' := Lib.hid h1
      have h2' := Lib.hid h2
      have h3' := Lib.hid h3
      clear h1 h2 h3
      go_wp2_with (first | (go_at_call 13; refine hp_store hS hH s g n v 1 (by decide) _ _ _ h1'.out h2'.out h3'.out ?_; clear hS hH; intro Ea w hH hS; unfold Ret) | (go_at_call 14; refine rh_store hS hH2 s g n v 1 (by decide) _ _ _ h1'.out h2'.out h3'.out ?_; clear hS hH2; intro Ed w hH2 hS; unfold Ret) | (refine wpList_is (.alloc 45) rfl ?_; go_must (refine wpList_stp (by kernel_rfl) (stp_al _ rfl hS ?_)); clear hS; intro bx w _ hS) | (refine wpList_is (.alloc 47) rfl ?_; go_must (refine wpList_stp (by kernel_rfl) (stp_al _ rfl hS ?_)); clear hS; intro bf w _ hS) | (refine wpList_is (.binOp .rem _ _ _ _) rfl ?_; refine wpList_stp (by kernel_rfl) (stp_val (run_remv _ _ _ _ rfl) ?_)) | (go_at_call 27; refine shows_ok hS hH hT hU hH2 hT2 hU2 s g ?_; clear hS; intro w hS; unfold Ret) | (refine wpList_is (.indexAddr _ _ _) rfl ?_; refine wpList_stp (by kernel_rfl) (stp_val (run_idxv _ _ _ rfl) ?_)) | (refine wpList_is (.build _ _) rfl ?_; go_must (refine wpList_stp (by kernel_rfl) (stp_val (run_bd _ _ rfl) ?_))) | (refine wpList_is (.load _ _) rfl ?_; go_must (first | refine wpList_stp (by kernel_rfl) (stp_val (run_ld _ _ rfl hS) ?_) | refine wpList_stp (by kernel_rfl) (stp_val (run_lda _ _ rfl hS) ?_) | refine wpList_stp (by kernel_rfl) (stp_val (run_lda0 _ _ rfl hS) ?_))) | (refine wpList_is (.store _ _ _) rfl ?_; go_must ((refine wpList_stp (by kernel_rfl) (stp_sta _ _ _ rfl hS ?_))); clear hS; intro w hS))
      go_roundw
      case rel => exact ⟨k + 1, _, _, _, _, _, _, _, _, _, by omega, by go_num, hH, hT, hU, hH2, hT2, hU2, hS.pick⟩
      case measure => simp [intOf]; omega
    have qq2 : (d == 2) = false := by simpa using d2
    have qq2' : decide (d = 2) = false := decide_eq_false d2
    have D2 := Lib.hid d2
    clear d2
    by_cases d3 : d = 3
    · as_aux_lemma =>
      subst d3
      obtain ⟨H', h1⟩ : ∃ x, frT Hh s g = x := ⟨_, rfl⟩
      obtain ⟨e, h3⟩ : ∃ x, wiH Hh s g = x := ⟨_, rfl⟩
      have h1' := Lib.hid h1
      have h3' := Lib.hid h3
      clear h1 h3
      go_wp2_with (first | (refine wpList_is (.alloc 45) rfl ?_; go_must (refine wpList_stp (by kernel_rfl) (stp_al _ rfl hS ?_)); clear hS; intro bx w _ hS) | (refine wpList_is (.alloc 47) rfl ?_; go_must (refine wpList_stp (by kernel_rfl) (stp_al _ rfl hS ?_)); clear hS; intro bf w _ hS) | (refine wpList_is (.binOp .rem _ _ _ _) rfl ?_; refine wpList_stp (by kernel_rfl) (stp_val (run_remv _ _ _ _ rfl) ?_)) | (refine wpList_is (.indexAddr _ _ _) rfl ?_; refine wpList_stp (by kernel_rfl) (stp_val (run_idxv _ _ _ rfl) ?_)) | (refine wpList_is (.build _ _) rfl ?_; go_must (refine wpList_stp (by kernel_rfl) (stp_val (run_bd _ _ rfl) ?_))) | (refine wpList_is (.load _ _) rfl ?_; go_must (first | refine wpList_stp (by kernel_rfl) (stp_val (run_ld _ _ rfl hS) ?_) | refine wpList_stp (by kernel_rfl) (stp_val (run_lda0 _ _ rfl hS) ?_))) | (refine wpList_is (.store _ _ _) rfl ?_; go_must ((refine wpList_stp (by kernel_rfl) (stp_sta _ _ _ rfl hS ?_))); clear hS; intro w hS))
      have hcom := frs_com (W := W) (p := p0) (q := q0) (T' := H') (y1 := ⟨bf, #[.int .i64 s, .int .u32 g], 47, true⟩) (y2 := ⟨bx, #[.int .u8 op, .int .i64 s, .int .u32 g, .int .i64 n, .int .i64 v], 45, true⟩) (K1 := Eb) (K2 := Ec) (K3 := Ee) (K4 := Ef) (Ea := Ea) (Ed := Ed)
      refine region_step (Frs W p0 q0 H' ⟨bf, #[.int .i64 s, .int .u32 g], 47, true⟩ ⟨bx, #[.int .u8 op, .int .i64 s, .int .u32 g, .int .i64 n, .int .i64 v], 45, true⟩ Eb Ec Ee Ef Ea Ed) (fun i => i == 2 || i == 5) (by kernel_rfl) (by kernel_rfl) (by kernel_rfl) (show St _ _ _ _ from (hS.drawn _).pick) ?_
      (refine lex_val rfl rfl (fun q w hw => run_mv _ rfl) ?_)
      (refine lex_val rfl rfl (fun q w hw => run_lda _ _ rfl (hcom q w hw)) ?_)
      refine lex_call 15 [_, _] _ rfl rfl rfl (enters _ (by kernel_rfl)) (.int .i64 e) ?_ ?_
      · exact fun w hC => hp_free (show St W [] w _ from hC) hH s g _ _ h1'.out h3'.out (fun E' w' h4 h5 => ⟨rfl, E', h4, (h5.pick : St W [] w' _)⟩)
      (refine lex_val rfl rfl (fun q w hw => run_mv _ rfl) ?_)
      (refine lex_val rfl rfl (fun q w hw => run_lda _ _ rfl (hcom q w hw)) ?_)
      refine lex_call 16 [_, _] _ rfl rfl rfl (enters _ (by kernel_rfl)) (.int .i64 e) ?_ ?_
      · rintro w ⟨Ea', hA', hC⟩
        exact rh_free hC hH2 s g hgb _ _ h1'.out h3'.out (fun E' w' h4 h5 => ⟨rfl, Ea', E', hA', h4, (h5.pick : St W [] w' _)⟩)
      (refine lex_val rfl rfl (fun q w hw => run_as _ rfl) ?_)
      (refine lex_val rfl rfl (fun q w hw => run_as _ rfl) ?_)
      refine lex_nil ?_
      rintro w' ⟨Ea', Ed', hA', hB', hS'⟩
      clear hS hH hH2 hcom
      have hS := hS'
      have hH := hA'
      have hH2 := hB'
      clear hS' hA' hB'
      go_wp2_with (first | (go_at_call 27; refine shows_ok hS hH hT hU hH2 hT2 hU2 s g ?_; clear hS; intro w hS; unfold Ret) | (refine wpList_is (.load _ _) rfl ?_; go_must ((refine wpList_stp (by kernel_rfl) (stp_val (run_lda _ _ rfl hS) ?_)))))
      go_roundw
      case rel => exact ⟨k + 1, _, _, _, _, _, _, _, _, _, by omega, by go_num, hH, hT, hU, hH2, hT2, hU2, hS.pick⟩
      case measure => simp [intOf]; omega
    have qq3 : (d == 3) = false := by simpa using d3
    have qq3' : decide (d = 3) = false := decide_eq_false d3
    have D3 := Lib.hid d3
    clear d3
    by_cases d4 : d = 4
    · as_aux_lemma =>
      subst d4
      obtain ⟨T', h1⟩ : ∃ x, skT T S s = x := ⟨_, rfl⟩
      obtain ⟨S', h2⟩ : ∃ x, skS T S s = x := ⟨_, rfl⟩
      obtain ⟨b, h3⟩ : ∃ x, skB T S s = x := ⟨_, rfl⟩
      obtain ⟨e, h4⟩ : ∃ x, skE T S s = x := ⟨_, rfl⟩
      have h1' := Lib.hid h1
      have h2' := Lib.hid h2
      have h3' := Lib.hid h3
      have h4' := Lib.hid h4
      clear h1 h2 h3 h4
      go_wp2_with (first | (go_at_call 17; refine sc_shade hS hT hU s _ _ _ _ h1'.out h2'.out h3'.out h4'.out ?_; clear hS hT hU; intro Eb Ec w hT hU hS; unfold Ret) | (go_at_call 18; refine rc_shade hS hT2 hU2 s _ _ _ _ h1'.out h2'.out h3'.out h4'.out ?_; clear hS hT2 hU2; intro Ee Ef w hT2 hU2 hS; unfold Ret) | (refine wpList_is (.alloc 45) rfl ?_; go_must (refine wpList_stp (by kernel_rfl) (stp_al _ rfl hS ?_)); clear hS; intro bx w _ hS) | (refine wpList_is (.alloc 47) rfl ?_; go_must (refine wpList_stp (by kernel_rfl) (stp_al _ rfl hS ?_)); clear hS; intro bf w _ hS) | (refine wpList_is (.binOp .rem _ _ _ _) rfl ?_; refine wpList_stp (by kernel_rfl) (stp_val (run_remv _ _ _ _ rfl) ?_)) | (go_at_call 27; refine shows_ok hS hH hT hU hH2 hT2 hU2 s g ?_; clear hS; intro w hS; unfold Ret) | (refine wpList_is (.indexAddr _ _ _) rfl ?_; refine wpList_stp (by kernel_rfl) (stp_val (run_idxv _ _ _ rfl) ?_)) | (refine wpList_is (.build _ _) rfl ?_; go_must (refine wpList_stp (by kernel_rfl) (stp_val (run_bd _ _ rfl) ?_))) | (refine wpList_is (.load _ _) rfl ?_; go_must (first | refine wpList_stp (by kernel_rfl) (stp_val (run_ld _ _ rfl hS) ?_) | refine wpList_stp (by kernel_rfl) (stp_val (run_lda _ _ rfl hS) ?_) | refine wpList_stp (by kernel_rfl) (stp_val (run_lda0 _ _ rfl hS) ?_))) | (refine wpList_is (.store _ _ _) rfl ?_; go_must ((refine wpList_stp (by kernel_rfl) (stp_sta _ _ _ rfl hS ?_))); clear hS; intro w hS))
      go_roundw
      case rel => exact ⟨k + 1, _, _, _, _, _, _, _, _, _, by omega, by go_num, hH, hT, hU, hH2, hT2, hU2, hS.pick⟩
      case measure => simp [intOf]; omega
    have qq4 : (d == 4) = false := by simpa using d4
    have qq4' : decide (d = 4) = false := decide_eq_false d4
    have D4 := Lib.hid d4
    clear d4
    by_cases d5 : d = 5
    · as_aux_lemma =>
      subst d5
      obtain ⟨T', h1⟩ : ∃ x, scT Hh T S s g = x := ⟨_, rfl⟩
      obtain ⟨S', h2⟩ : ∃ x, scS Hh T S s g = x := ⟨_, rfl⟩
      obtain ⟨c, h3⟩ : ∃ x, scN Hh T S s g = x := ⟨_, rfl⟩
      obtain ⟨e, h4⟩ : ∃ x, scE Hh T S s g = x := ⟨_, rfl⟩
      have h1' := Lib.hid h1
      have h2' := Lib.hid h2
      have h3' := Lib.hid h3
      have h4' := Lib.hid h4
      clear h1 h2 h3 h4
      go_wp2_with (first | (go_at_call 19; refine sc_scan hS hH hT hU s g _ _ _ _ h1'.out h2'.out h3'.out h4'.out ?_; clear hS hT hU; intro Eb Ec w hT hU hS; unfold Ret) | (go_at_call 20; refine rc_scan hS hH2 hT2 hU2 s g _ _ _ _ h1'.out h2'.out h3'.out h4'.out ?_; clear hS hH2 hT2 hU2; intro Ee Ef w hH2 hT2 hU2 hS; unfold Ret) | (refine wpList_is (.alloc 45) rfl ?_; go_must (refine wpList_stp (by kernel_rfl) (stp_al _ rfl hS ?_)); clear hS; intro bx w _ hS) | (refine wpList_is (.alloc 47) rfl ?_; go_must (refine wpList_stp (by kernel_rfl) (stp_al _ rfl hS ?_)); clear hS; intro bf w _ hS) | (refine wpList_is (.binOp .rem _ _ _ _) rfl ?_; refine wpList_stp (by kernel_rfl) (stp_val (run_remv _ _ _ _ rfl) ?_)) | (go_at_call 27; refine shows_ok hS hH hT hU hH2 hT2 hU2 s g ?_; clear hS; intro w hS; unfold Ret) | (refine wpList_is (.indexAddr _ _ _) rfl ?_; refine wpList_stp (by kernel_rfl) (stp_val (run_idxv _ _ _ rfl) ?_)) | (refine wpList_is (.build _ _) rfl ?_; go_must (refine wpList_stp (by kernel_rfl) (stp_val (run_bd _ _ rfl) ?_))) | (refine wpList_is (.load _ _) rfl ?_; go_must (first | refine wpList_stp (by kernel_rfl) (stp_val (run_ld _ _ rfl hS) ?_) | refine wpList_stp (by kernel_rfl) (stp_val (run_lda _ _ rfl hS) ?_) | refine wpList_stp (by kernel_rfl) (stp_val (run_lda0 _ _ rfl hS) ?_))) | (refine wpList_is (.store _ _ _) rfl ?_; go_must ((refine wpList_stp (by kernel_rfl) (stp_sta _ _ _ rfl hS ?_))); clear hS; intro w hS))
      go_roundw
      case rel => exact ⟨k + 1, _, _, _, _, _, _, _, _, _, by omega, by go_num, hH, hT, hU, hH2, hT2, hU2, hS.pick⟩
      case measure => simp [intOf]; omega
    have qq5 : (d == 5) = false := by simpa using d5
    have qq5' : decide (d = 5) = false := decide_eq_false d5
    have D5 := Lib.hid d5
    clear d5
    by_cases d6 : d = 6
    · as_aux_lemma =>
      subst d6
      obtain ⟨T', h1⟩ : ∃ x, scT Hh T S s g = x := ⟨_, rfl⟩
      obtain ⟨S', h2⟩ : ∃ x, scS Hh T S s g = x := ⟨_, rfl⟩
      obtain ⟨c, h3⟩ : ∃ x, scN Hh T S s g = x := ⟨_, rfl⟩
      obtain ⟨e, h4⟩ : ∃ x, scE Hh T S s g = x := ⟨_, rfl⟩
      have h1' := Lib.hid h1
      have h2' := Lib.hid h2
      have h3' := Lib.hid h3
      have h4' := Lib.hid h4
      clear h1 h2 h3 h4
      go_wp2_with (first | (go_at_call 19; refine sc_scan hS hH hT hU s g _ _ _ _ h1'.out h2'.out h3'.out h4'.out ?_; clear hS hT hU; intro Eb Ec w hT hU hS; unfold Ret) | (go_at_call 20; refine rc_scan hS hH2 hT2 hU2 s g _ _ _ _ h1'.out h2'.out h3'.out h4'.out ?_; clear hS hH2 hT2 hU2; intro Ee Ef w hH2 hT2 hU2 hS; unfold Ret) | (refine wpList_is (.alloc 45) rfl ?_; go_must (refine wpList_stp (by kernel_rfl) (stp_al _ rfl hS ?_)); clear hS; intro bx w _ hS) | (refine wpList_is (.alloc 47) rfl ?_; go_must (refine wpList_stp (by kernel_rfl) (stp_al _ rfl hS ?_)); clear hS; intro bf w _ hS) | (refine wpList_is (.binOp .rem _ _ _ _) rfl ?_; refine wpList_stp (by kernel_rfl) (stp_val (run_remv _ _ _ _ rfl) ?_)) | (go_at_call 27; refine shows_ok hS hH hT hU hH2 hT2 hU2 s g ?_; clear hS; intro w hS; unfold Ret) | (refine wpList_is (.indexAddr _ _ _) rfl ?_; refine wpList_stp (by kernel_rfl) (stp_val (run_idxv _ _ _ rfl) ?_)) | (refine wpList_is (.build _ _) rfl ?_; go_must (refine wpList_stp (by kernel_rfl) (stp_val (run_bd _ _ rfl) ?_))) | (refine wpList_is (.load _ _) rfl ?_; go_must (first | refine wpList_stp (by kernel_rfl) (stp_val (run_ld _ _ rfl hS) ?_) | refine wpList_stp (by kernel_rfl) (stp_val (run_lda _ _ rfl hS) ?_) | refine wpList_stp (by kernel_rfl) (stp_val (run_lda0 _ _ rfl hS) ?_))) | (refine wpList_is (.store _ _ _) rfl ?_; go_must ((refine wpList_stp (by kernel_rfl) (stp_sta _ _ _ rfl hS ?_))); clear hS; intro w hS))
      go_roundw
      case rel => exact ⟨k + 1, _, _, _, _, _, _, _, _, _, by omega, by go_num, hH, hT, hU, hH2, hT2, hU2, hS.pick⟩
      case measure => simp [intOf]; omega
    have qq6 : (d == 6) = false := by simpa using d6
    have qq6' : decide (d = 6) = false := decide_eq_false d6
    have D6 := Lib.hid d6
    clear d6
    by_cases d7 : d = 7
    · as_aux_lemma =>
      subst d7
      obtain ⟨S', h1⟩ : ∃ x, rsS T S n = x := ⟨_, rfl⟩
      obtain ⟨r, h2⟩ : ∃ x, rsI T S n = x := ⟨_, rfl⟩
      obtain ⟨b, h3⟩ : ∃ x, rsB T S n = x := ⟨_, rfl⟩
      obtain ⟨e, h4⟩ : ∃ x, rsE T S n = x := ⟨_, rfl⟩
      have h1' := Lib.hid h1
      have h2' := Lib.hid h2
      have h3' := Lib.hid h3
      have h4' := Lib.hid h4
      clear h1 h2 h3 h4
      go_wp2_with (first | (go_at_call 21; refine sc_rescan hS hT hU n _ _ _ _ h1'.out h2'.out h3'.out h4'.out ?_; clear hS hU; intro Ec w hU hS; unfold Ret) | (go_at_call 22; refine rc_rescan hS hT2 hU2 n _ _ _ _ h1'.out h2'.out h3'.out h4'.out ?_; clear hS hT2 hU2; intro Ef w hT2 hU2 hS; unfold Ret) | (refine wpList_is (.alloc 45) rfl ?_; go_must (refine wpList_stp (by kernel_rfl) (stp_al _ rfl hS ?_)); clear hS; intro bx w _ hS) | (refine wpList_is (.alloc 47) rfl ?_; go_must (refine wpList_stp (by kernel_rfl) (stp_al _ rfl hS ?_)); clear hS; intro bf w _ hS) | (refine wpList_is (.binOp .rem _ _ _ _) rfl ?_; refine wpList_stp (by kernel_rfl) (stp_val (run_remv _ _ _ _ rfl) ?_)) | (go_at_call 27; refine shows_ok hS hH hT hU hH2 hT2 hU2 s g ?_; clear hS; intro w hS; unfold Ret) | (refine wpList_is (.indexAddr _ _ _) rfl ?_; refine wpList_stp (by kernel_rfl) (stp_val (run_idxv _ _ _ rfl) ?_)) | (refine wpList_is (.build _ _) rfl ?_; go_must (refine wpList_stp (by kernel_rfl) (stp_val (run_bd _ _ rfl) ?_))) | (refine wpList_is (.load _ _) rfl ?_; go_must (first | refine wpList_stp (by kernel_rfl) (stp_val (run_ld _ _ rfl hS) ?_) | refine wpList_stp (by kernel_rfl) (stp_val (run_lda _ _ rfl hS) ?_) | refine wpList_stp (by kernel_rfl) (stp_val (run_lda0 _ _ rfl hS) ?_))) | (refine wpList_is (.store _ _ _) rfl ?_; go_must ((refine wpList_stp (by kernel_rfl) (stp_sta _ _ _ rfl hS ?_))); clear hS; intro w hS))
      go_roundw
      case rel => exact ⟨k + 1, _, _, _, _, _, _, _, _, _, by omega, by go_num, hH, hT, hU, hH2, hT2, hU2, hS.pick⟩
      case measure => simp [intOf]; omega
    have qq7 : (d == 7) = false := by simpa using d7
    have qq7' : decide (d = 7) = false := decide_eq_false d7
    have D7 := Lib.hid d7
    clear d7
    by_cases d8 : d = 8
    · as_aux_lemma =>
      subst d8
      obtain ⟨S', h1⟩ : ∃ x, ppT S = x := ⟨_, rfl⟩
      obtain ⟨r, h2⟩ : ∃ x, ppR S = x := ⟨_, rfl⟩
      obtain ⟨b, h3⟩ : ∃ x, ppB S = x := ⟨_, rfl⟩
      have h1' := Lib.hid h1
      have h2' := Lib.hid h2
      have h3' := Lib.hid h3
      clear h1 h2 h3
      go_wp2_with (first | (go_at_call 23; refine sq_pop hS hU _ _ _ h1'.out h2'.out h3'.out ?_; clear hS hU; intro Ec w hU hS; unfold Ret) | (go_at_call 24; refine sr_pop hS hU2 _ _ _ h1'.out h2'.out h3'.out ?_; clear hS hU2; intro Ef w hU2 hS; unfold Ret) | (refine wpList_is (.alloc 45) rfl ?_; go_must (refine wpList_stp (by kernel_rfl) (stp_al _ rfl hS ?_)); clear hS; intro bx w _ hS) | (refine wpList_is (.alloc 47) rfl ?_; go_must (refine wpList_stp (by kernel_rfl) (stp_al _ rfl hS ?_)); clear hS; intro bf w _ hS) | (refine wpList_is (.binOp .rem _ _ _ _) rfl ?_; refine wpList_stp (by kernel_rfl) (stp_val (run_remv _ _ _ _ rfl) ?_)) | (go_at_call 27; refine shows_ok hS hH hT hU hH2 hT2 hU2 s g ?_; clear hS; intro w hS; unfold Ret) | (refine wpList_is (.indexAddr _ _ _) rfl ?_; refine wpList_stp (by kernel_rfl) (stp_val (run_idxv _ _ _ rfl) ?_)) | (refine wpList_is (.build _ _) rfl ?_; go_must (refine wpList_stp (by kernel_rfl) (stp_val (run_bd _ _ rfl) ?_))) | (refine wpList_is (.load _ _) rfl ?_; go_must (first | refine wpList_stp (by kernel_rfl) (stp_val (run_ld _ _ rfl hS) ?_) | refine wpList_stp (by kernel_rfl) (stp_val (run_lda _ _ rfl hS) ?_) | refine wpList_stp (by kernel_rfl) (stp_val (run_lda0 _ _ rfl hS) ?_))) | (refine wpList_is (.store _ _ _) rfl ?_; go_must ((refine wpList_stp (by kernel_rfl) (stp_sta _ _ _ rfl hS ?_))); clear hS; intro w hS))
      go_roundw
      case rel => exact ⟨k + 1, _, _, _, _, _, _, _, _, _, by omega, by go_num, hH, hT, hU, hH2, hT2, hU2, hS.pick⟩
      case measure => simp [intOf]; omega
    have qq8 : (d == 8) = false := by simpa using d8
    have qq8' : decide (d = 8) = false := decide_eq_false d8
    have D8 := Lib.hid d8
    clear d8
    by_cases d9 : d = 9
    · as_aux_lemma =>
      subst d9
      obtain ⟨T', h1⟩ : ∃ x, blT T s = x := ⟨_, rfl⟩
      obtain ⟨e, h3⟩ : ∃ x, ofE T s = x := ⟨_, rfl⟩
      have h1' := Lib.hid h1
      have h3' := Lib.hid h3
      clear h1 h3
      go_wp2_with (first | (refine wpList_is (.alloc 45) rfl ?_; go_must (refine wpList_stp (by kernel_rfl) (stp_al _ rfl hS ?_)); clear hS; intro bx w _ hS) | (refine wpList_is (.alloc 47) rfl ?_; go_must (refine wpList_stp (by kernel_rfl) (stp_al _ rfl hS ?_)); clear hS; intro bf w _ hS) | (refine wpList_is (.binOp .rem _ _ _ _) rfl ?_; refine wpList_stp (by kernel_rfl) (stp_val (run_remv _ _ _ _ rfl) ?_)) | (refine wpList_is (.indexAddr _ _ _) rfl ?_; refine wpList_stp (by kernel_rfl) (stp_val (run_idxv _ _ _ rfl) ?_)) | (refine wpList_is (.build _ _) rfl ?_; go_must (refine wpList_stp (by kernel_rfl) (stp_val (run_bd _ _ rfl) ?_))) | (refine wpList_is (.load _ _) rfl ?_; go_must (first | refine wpList_stp (by kernel_rfl) (stp_val (run_ld _ _ rfl hS) ?_) | refine wpList_stp (by kernel_rfl) (stp_val (run_lda0 _ _ rfl hS) ?_))) | (refine wpList_is (.store _ _ _) rfl ?_; go_must ((refine wpList_stp (by kernel_rfl) (stp_sta _ _ _ rfl hS ?_))); clear hS; intro w hS))
      have hcom := bls_com (W := W) (p := p1) (q := q1) (T' := T') (y1 := ⟨bf, #[.int .i64 s, .int .u32 g], 47, true⟩) (y2 := ⟨bx, #[.int .u8 op, .int .i64 s, .int .u32 g, .int .i64 n, .int .i64 v], 45, true⟩) (K1 := Ea) (K2 := Ec) (K3 := Ed) (K4 := Ef) (Ea := Eb) (Ed := Ee)
      refine region_step (Bls W p1 q1 T' ⟨bf, #[.int .i64 s, .int .u32 g], 47, true⟩ ⟨bx, #[.int .u8 op, .int .i64 s, .int .u32 g, .int .i64 n, .int .i64 v], 45, true⟩ Ea Ec Ed Ef Eb Ee) (fun i => i == 3 || i == 7) (by kernel_rfl) (by kernel_rfl) (by kernel_rfl) (show St _ _ _ _ from (hS.drawn _).pick) ?_
      (refine lex_val rfl rfl (fun q w hw => run_mv _ rfl) ?_)
      (refine lex_val rfl rfl (fun q w hw => run_fa _ _ _ rfl) ?_)
      (refine lex_val rfl rfl (fun q w hw => run_ld _ _ rfl (hcom q w hw)) ?_)
      refine lex_call 25 [_, _] _ rfl rfl rfl (enters _ (by kernel_rfl)) (.int .i64 e) ?_ ?_
      · exact fun w hC => pn_bleach (show St W [] w _ from hC) hT s _ _ h1'.out h3'.out (fun E' w' h4 h5 => ⟨rfl, E', h4, (h5.pick : St W [] w' _)⟩)
      (refine lex_val rfl rfl (fun q w hw => run_mv _ rfl) ?_)
      (refine lex_val rfl rfl (fun q w hw => run_fa _ _ _ rfl) ?_)
      (refine lex_val rfl rfl (fun q w hw => run_ld _ _ rfl (hcom q w hw)) ?_)
      refine lex_call 26 [_, _] _ rfl rfl rfl (enters _ (by kernel_rfl)) (.int .i64 e) ?_ ?_
      · rintro w ⟨Ea', hA', hC⟩
        exact kr_bleach hC hT2 s _ _ h1'.out h3'.out (fun E' w' h4 h5 => ⟨rfl, Ea', E', hA', h4, (h5.pick : St W [] w' _)⟩)
      (refine lex_val rfl rfl (fun q w hw => run_as _ rfl) ?_)
      (refine lex_val rfl rfl (fun q w hw => run_as _ rfl) ?_)
      refine lex_nil ?_
      rintro w' ⟨Ea', Ed', hA', hB', hS'⟩
      clear hS hT hT2 hcom
      have hS := hS'
      have hT := hA'
      have hT2 := hB'
      clear hS' hA' hB'
      go_wp2_with (first | (go_at_call 27; refine shows_ok hS hH hT hU hH2 hT2 hU2 s g ?_; clear hS; intro w hS; unfold Ret) | (refine wpList_is (.load _ _) rfl ?_; go_must ((refine wpList_stp (by kernel_rfl) (stp_val (run_lda _ _ rfl hS) ?_)))))
      go_roundw
      case rel => exact ⟨k + 1, _, _, _, _, _, _, _, _, _, by omega, by go_num, hH, hT, hU, hH2, hT2, hU2, hS.pick⟩
      case measure => simp [intOf]; omega
    have qq9 : (d == 9) = false := by simpa using d9
    have qq9' : decide (d = 9) = false := decide_eq_false d9
    have D9 := Lib.hid d9
    clear d9
    exact absurd hdb (by have := D0.out; have := D1.out; have := D2.out; have := D3.out; have := D4.out; have := D5.out; have := D6.out; have := D7.out; have := D8.out; have := D9.out; omega)
end Go.Proofs.YtgpjanfphgjbbaaGreat
