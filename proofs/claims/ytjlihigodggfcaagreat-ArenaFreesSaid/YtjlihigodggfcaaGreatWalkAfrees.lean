/-
  The walk of ArenaFrees.
-/
import Derived.Test.YtjlihigodggfcaaGreatStw
import Derived.Test.YtjlihigodggfcaaGreatShw
import Derived.Test.YtjlihigodggfcaaGreatArnN
set_option linter.unusedSimpArgs false
set_option linter.unusedVariables false
namespace Go.Mm
open Go Go.RowKit
section
variable {md : Region.Mode} {ops : Array Oper}
/-- A short way is a way. -/
theorem ancB_mono {i : Nat} : ∀ (n j m : Nat), n ≤ m → ancB md ops i n j = true → ancB md ops i m j = true
  | 0, _, _, _, h => by cases h
  | n + 1, j, 0, hm, _ => absurd hm (by omega)
  | n + 1, j, m + 1, hm, h => by
    unfold ancB at h ⊢
    cases ho : ops[j]? with
    | none => simp only [ho] at h; cases h
    | some o =>
      simp only [ho] at h
      obtain ⟨e, he, hb⟩ := Array.any_eq_true'.1 h
      simp only [Bool.and_eq_true, Bool.or_eq_true, beq_iff_eq] at hb
      refine Array.any_eq_true'.2 ⟨e, he, ?_⟩
      simp only [Bool.and_eq_true, Bool.or_eq_true, beq_iff_eq]
      exact ⟨hb.1, hb.2.imp id (ancB_mono n e.on m (by omega))⟩
/-- The marked calls wait for one another, by short ways. -/
theorem chain_of {m : Nat → Bool} {d : Nat} (h : ((List.range ops.size).all fun j => (List.range j).all fun i => !(m i && m j) || ancB md ops i d j) = true) (hd : decide (d ≤ ops.size) = true) : chainB md ops m = true := by
  unfold chainB
  rw [List.all_eq_true] at h ⊢
  intro j hj
  have h1 := h j hj
  rw [List.all_eq_true] at h1 ⊢
  intro i hi
  have h2 := h1 i hi
  simp only [Bool.or_eq_true] at h2 ⊢
  exact h2.imp id (ancB_mono d j ops.size (of_decide_eq_true hd))
end
end Go.Mm
namespace Go.Proofs.YtjlihigodggfcaaGreat
open Go Go.RowKit Go.Mm
variable {R : Ending → World → Prop} {E Z : List Ent}
theorem bounds_u32d {n : Int} (h : (Lit.int .u32 n).wf = true) : 0 ≤ n ∧ n ≤ 4294967295 := by
  simp [Lit.wf, IntKind.min, IntKind.max, IntKind.signed, IntKind.bits] at h
  omega
theorem bounds_u8d {n : Int} (h : (Lit.int .u8 n).wf = true) : 0 ≤ n ∧ n ≤ 255 := by
  simp [Lit.wf, IntKind.min, IntKind.max, IntKind.signed, IntKind.bits] at h
  omega
theorem ok_ref3 {cs : List Value} (h : OkCells [.i .i64, .i .u32] cs) : ∃ s g : Int, cs = [.int .i64 s, .int .u32 g] ∧ (Lit.int .u32 g).wf = true := by
  cases h with
  | cons h1 h2 =>
    cases h2 with
    | cons h3 h4 =>
      cases h4
      obtain ⟨s, rfl, ws⟩ := h1
      obtain ⟨g, rfl, wg⟩ := h3
      exact ⟨s, g, rfl, wg⟩
theorem aa_some' {p : Option Addr} {T : Ar} (h : AA p T E) : ∃ b, p = some ⟨b, 0, none⟩ := by
  obtain ⟨b, _, _, _, _, _, _, rfl, _⟩ := h
  exact ⟨b, rfl⟩
theorem rr_some' {p : Option Addr} {T : Ar} (h : AR p T E Z) : ∃ b, p = some ⟨b, 0, none⟩ := by
  obtain ⟨b, _, _, _, _, _, _, rfl, _⟩ := h
  exact ⟨b, rfl⟩
/-- The last region: the phases. -/
def Afr (W : World) (p q : Option Addr) (T' : Ar) (y1 y2 y3 : Ent) (Ea Er Z : List Ent) : Nat → World → Prop
  | 0, w => St W [] w (Ea ++ (Er ++ (Z ++ [y1, y2, y3])))
  | 1, w => ∃ Ea', AA p T' Ea' ∧ St W [] w (Ea' ++ (Er ++ (Z ++ [y1, y2, y3])))
  | _ + 2, w => ∃ Ea' Er' X, AA p T' Ea' ∧ AR q T' Er' (X ++ Z) ∧ St W [] w (Ea' ++ (Er' ++ ((X ++ Z) ++ [y1, y2, y3])))
theorem afr_com {W : World} {p q : Option Addr} {T' : Ar} {y1 y2 y3 : Ent} {Ea Er Z : List Ent} (k : Nat) (w : World) (h : Afr W p q T' y1 y2 y3 Ea Er Z k w) : St W [] w [y1, y2, y3] := by
  match k, h with
  | 0, h => exact St.pick (show St W [] w (Ea ++ (Er ++ (Z ++ [y1, y2, y3]))) from h)
  | 1, ⟨_, _, h⟩ => exact h.pick
  | _ + 2, ⟨_, _, _, _, _, h⟩ => exact h.pick
set_option maxHeartbeats 8000000 in
set_option maxRecDepth 100000 in
theorem walk_afrees {W : World} (z0 : Int) (wz0 : (Lit.int .u8 z0).wf = true) (vv : Value) {m sb so : Nat} {FF : Nat → Nat → Value} (hv : Flat W [.i .i64, .i .i64, .i .i64, .i .i64, .i .i64] vv m sb so FF) (ds : List Value) (wd : OkCells [.i .i64, .i .u32] ds) (hR : ∀ w', Chg W w' [] → Ret R (.bool true) w') :
    Calls Tryz.prog 3 #[.int .u8 z0, vv, .agg ds.toArray] W R := by
  obtain ⟨s, g, rfl, wg⟩ := ok_ref3 wd
  have hS : St W [] W [] := St.start0
  have hlen := hv.len (t := 22) Tryz.underlying22
  have hgb := bounds_u32d wg
  have hz0 := bounds_u8d wz0
  clear wd wg wz0
  by_cases hn : 60 < m
  · have q : decide (60 < (m : Int)) = true := decide_eq_true (by omega)
    go_enter Tryz.func3, Tryz.ntmps3
    go_wp2_with (first | (refine wpList_is (.box 25 _) rfl ?_; go_must (refine wpList_stp (by kernel_rfl) (stp_bx _ _ rfl hS ?_)); clear hS; intro b5 w _ hS) | (go_at_call 5; refine works_ok hS ?_; clear hS; intro w hS; unfold Ret) | (refine wpList_is (.call { callee := .builtin .len, args := #[_], argTypes := #[_] }) rfl ?_; refine wpList_stp (by kernel_rfl) (stp_val (run_lenv _ _ rfl) ?_)))
    exact hR _ hS.chg
  have q : decide (60 < (m : Int)) = false := decide_eq_false (by omega)
  obtain ⟨zz, hzz⟩ : ∃ zz, 1 + z0 = zz := ⟨_, rfl⟩
  have hsum : SumIs 1 z0 zz := ⟨hzz, by omega, by omega⟩
  have hok : nwOk zz 1 = true := by
    simp only [nwOk, Bool.and_eq_true, decide_eq_true_eq]
    omega
  obtain ⟨T0, hT0⟩ : ∃ T0, nwA zz ((1 : Nat) : Int) 1 = T0 := ⟨_, rfl⟩
  have hT0' := Lib.hid hT0
  clear hT0 hzz
  go_enter Tryz.func3, Tryz.ntmps3
  go_wp2_with (first | (refine wpList_is (.box 25 _) rfl ?_; go_must (refine wpList_stp (by kernel_rfl) (stp_bx _ _ rfl hS ?_)); clear hS; intro b5 w _ hS) | (refine wpList_is (.binOp .add _ _ _ _) rfl ?_; refine wpList_stp (by kernel_rfl) (stp_val (run_sumv _ _ _ _ rfl) ?_)) | (go_at_call 6; refine ar_new_ok hS zz 1 1 (by decide) hok (by decide) T0 hT0'.out ?_; clear hS; intro p0 Ea w hA hS; obtain ⟨ba, rfl⟩ := aa_some' hA; unfold Ret) | (go_at_call 7; refine rr_new hS zz 1 1 (by decide) hok (by decide) T0 hT0'.out ?_; clear hS; intro q0 Er w hB hS; obtain ⟨br, rfl⟩ := rr_some' hB; unfold Ret) | (refine wpList_is (.call { callee := .builtin .len, args := #[_], argTypes := #[_] }) rfl ?_; refine wpList_stp (by kernel_rfl) (stp_val (run_lenv _ _ rfl) ?_)))
  have hS0 : St W [] _ (Ea ++ (Er ++ (([] : List Ent) ++ [⟨b5, #[.int .i64 s, .int .u32 g], 25, true⟩]))) := hS.pick
  clear hok hT0' hS hsum hz0
  go_loopw [11] (fun u wr => ∃ (i : Nat) (T : Ar) (Ea Er Z : List Ent), i ≤ m ∧ u = .int .i64 i ∧ AA (some ⟨ba, 0, none⟩) T Ea ∧ AR (some ⟨br, 0, none⟩) T Er Z ∧ St W [] wr (Ea ++ (Er ++ (Z ++ [⟨b5, #[.int .i64 s, .int .u32 g], 25, true⟩])))) (fun u _ => m - (intOf u).toNat)
  case atStart => exact ⟨0, T0, Ea, Er, [], Nat.zero_le _, rfl, hA, hB, hS0⟩
  case round =>
    clear hS0 hA hB
    obtain ⟨i, T, Ea, Er, Z, hi, rfl, hA, hB, hS⟩ := hrel
    by_cases hlt : i < m
    · have hidx := hv.idxz (t := 22) (z := 5) (i := i) rfl Tryz.underlying22 (by kernel_rfl) hlt
      have hcell := hv.cellsz (z := 5) (i := i) rfl hlt
      obtain ⟨d, hd, _⟩ := hv.int (i := i) (j := 0) hlt rfl
      obtain ⟨mm, hm, _⟩ := hv.int (i := i) (j := 1) hlt rfl
      obtain ⟨a, ha, _⟩ := hv.int (i := i) (j := 2) hlt rfl
      obtain ⟨b, hb, _⟩ := hv.int (i := i) (j := 3) hlt rfl
      obtain ⟨c, hc, _⟩ := hv.int (i := i) (j := 4) hlt rfl
      simp only [List.range_succ, List.range_zero, List.nil_append, List.map_append, List.map_cons, List.map_nil, List.cons_append, hd, hm, ha, hb, hc] at hcell
      have s1 : SetAt #[.int .i64 d, .int .i64 mm, .int .i64 a, .int .i64 b, .int .i64 c] (0 + 1) (.int .i64 0) #[.int .i64 d, .int .i64 0, .int .i64 a, .int .i64 b, .int .i64 c] := ⟨by rfl, by simp⟩
      clear hd hm ha hb hc
      as_aux_lemma =>
        go_wp2_with (first | (refine wpList_is (o := ⟨some 12, _, _, _, _, _⟩) (.alloc _) rfl ?_; go_must (refine wpList_stp (by kernel_rfl) (stp_al _ rfl hS ?_)); clear hS; intro b12 w _ hS) | (go_at_call 8; refine step_ok hS hA hB d 0 a b c ?_; clear hS hA hB; intro T' Ea' Er' X w hA hB hS; rw [← List.append_assoc X Z] at hS; unfold Ret) | (refine wpList_is (.call { callee := .builtin .len, args := #[_], argTypes := #[_] }) rfl ?_; refine wpList_stp (by kernel_rfl) (stp_val (run_lenv _ _ rfl) ?_)) | (refine wpList_is (.indexAddr _ _ _) rfl ?_; refine wpList_stp (by kernel_rfl) (stp_val (run_idxv _ _ _ rfl) ?_)) | (refine wpList_is (.load _ _) rfl ?_; go_must (first | refine wpList_stp (by kernel_rfl) (stp_val (run_lda _ _ rfl hS) ?_) | refine wpList_stp (by kernel_rfl) (stp_val (run_lda0 _ _ rfl hS) ?_))) | (refine wpList_is (.store _ _ _) rfl ?_; go_must (first | refine wpList_stp (by kernel_rfl) (stp_st _ _ _ rfl hS ?_) | refine wpList_stp (by kernel_rfl) (stp_sta _ _ _ rfl hS ?_)); clear hS; intro w hS))
        go_roundw
        case rel => exact ⟨i + 1, T', Ea', Er', X ++ Z, by omega, by go_num, hA, hB, hS.pick⟩
        case measure => simp [intOf]; omega
    · obtain rfl : i = m := by omega
      obtain ⟨e, he⟩ : ∃ e, wiH (some (some T.1)) s g = e := ⟨_, rfl⟩
      obtain ⟨⟨n, F, h⟩, ho⟩ : ∃ o, obR (some (some T.1)) s g = o := ⟨_, rfl⟩
      have hF : F.length = 4 := by have := (ar_ob hB s g).len; rw [ho] at this; exact this
      have hO2 := objOver (n := 0) (n' := n) (h := false) (h' := h) (F := zero4) rfl hF
      have hA2 := objAll (n := n) (h := h) hF
      have hZ2 := objSize (n := n) (h := h) hF
      have hF1 := objF (n := n) (h := h) hF
      have hF2 := objH (n := n) (h := h) hF
      have q1 := arrSelf4 hF
      have q2 : BoolEq Tryz.prog 4 h h true := ⟨by simp, Tryz.underlying4⟩
      obtain ⟨T2, h1⟩ : ∃ x, frA T s g = x := ⟨_, rfl⟩
      obtain ⟨e2, h3⟩ : ∃ x, wiH (some (some T.1)) s g = x := ⟨_, rfl⟩
      have h1' := Lib.hid h1
      have h3' := Lib.hid h3
      have he' := Lib.hid he
      have ho' := Lib.hid ho
      clear he ho hF h1 h3
      go_wp2_with (first | (go_at_call 9; refine ar_object hS hA s g (n, F, h) e ho'.out he'.out ?_; clear hS; intro w _ hS; have hz3 : obC (n, F, h) = objC n F h := rfl; rw [hz3]; clear hz3; unfold Ret) | (go_at_call 10; refine rr_object hS hB s g (n, F, h) e ho'.out he'.out ?_; clear hS; intro w hS; have hz3 : obC (n, F, h) = objC n F h := rfl; rw [hz3]; clear hz3; unfold Ret) | (refine wpList_is (.alloc 39) rfl ?_; go_must (refine wpList_stp (by kernel_rfl) (stp_al _ rfl hS ?_)); clear hS; intro b13 w _ hS) | (refine wpList_is (.alloc 42) rfl ?_; go_must (refine wpList_stp (by kernel_rfl) (stp_al _ rfl hS ?_)); clear hS; intro b15 w _ hS) | (refine wpList_is (.call { callee := .builtin .len, args := #[_], argTypes := #[_] }) rfl ?_; refine wpList_stp (by kernel_rfl) (stp_val (run_lenv _ _ rfl) ?_)) | (refine wpList_is (.load _ _) rfl ?_; go_must ((refine wpList_stp (by kernel_rfl) (stp_val (run_lda _ _ rfl hS) ?_)))) | (refine wpList_is (.store _ _ _) rfl ?_; go_must ((refine wpList_stp (by kernel_rfl) (stp_sta _ _ _ rfl hS ?_))); clear hS; intro w hS))
      as_aux_lemma =>
        have hS : St W [] _ (Ea ++ (Er ++ (Z ++ [⟨b13, objC n F h, 39, true⟩, ⟨b15, objC n F h, 42, true⟩, ⟨b5, #[.int .i64 s, .int .u32 g], 25, true⟩]))) := hS.pick
        have hcom := afr_com (W := W) (p := some ⟨ba, 0, none⟩) (q := some ⟨br, 0, none⟩) (T' := T2) (y1 := ⟨b13, objC n F h, 39, true⟩) (y2 := ⟨b15, objC n F h, 42, true⟩) (y3 := ⟨b5, #[.int .i64 s, .int .u32 g], 25, true⟩) (Ea := Ea) (Er := Er) (Z := Z)
        refine region_step (Afr W (some ⟨ba, 0, none⟩) (some ⟨br, 0, none⟩) T2 ⟨b13, objC n F h, 39, true⟩ ⟨b15, objC n F h, 42, true⟩ ⟨b5, #[.int .i64 s, .int .u32 g], 25, true⟩ Ea Er Z) (fun i => i == 27 || i == 30 || i == 36 || i == 39) (by as_aux_lemma => kernel_rfl) (by as_aux_lemma => kernel_rfl) (chain_of (d := 5) (by as_aux_lemma => kernel_rfl) (by kernel_rfl)) (show St _ _ _ _ from (hS.drawn _).pick) ?_
        refine lex_val rfl rfl (fun q w hw => run_fa _ _ _ rfl) ?_
        (refine lex_val rfl rfl (fun q w hw => run_ld _ _ rfl (hcom q w hw)) ?_)
        refine lex_val rfl rfl (fun q w hw => run_fa _ _ _ rfl) ?_
        (refine lex_val rfl rfl (fun q w hw => run_ld _ _ rfl (hcom q w hw)) ?_)
        (refine lex_val rfl rfl (fun q w hw => run_ieq _ _ _ _ rfl) ?_)
        refine lex_val rfl rfl (fun q w hw => run_mv _ rfl) ?_
        (refine lex_val rfl rfl (fun q w hw => run_fa _ _ _ rfl) ?_)
        (refine lex_val rfl rfl (fun q w hw => run_lda _ _ rfl (hcom q w hw)) ?_)
        (refine lex_val rfl rfl (fun q w hw => run_fa _ _ _ rfl) ?_)
        as_aux_lemma =>
          (refine lex_val rfl rfl (fun q w hw => run_lda _ _ rfl (hcom q w hw)) ?_)
          (refine lex_val rfl rfl (fun q w hw => run_aeq _ _ _ _ rfl) ?_)
          (refine lex_val rfl rfl (fun q w hw => run_pk1 _ _ _ rfl) ?_)
          refine lex_val rfl rfl (fun q w hw => run_mv _ rfl) ?_
          (refine lex_val rfl rfl (fun q w hw => run_fa _ _ _ rfl) ?_)
          (refine lex_val rfl rfl (fun q w hw => run_ld _ _ rfl (hcom q w hw)) ?_)
          (refine lex_val rfl rfl (fun q w hw => run_fa _ _ _ rfl) ?_)
          (refine lex_val rfl rfl (fun q w hw => run_ld _ _ rfl (hcom q w hw)) ?_)
          (refine lex_val rfl rfl (fun q w hw => run_beq _ _ _ _ rfl) ?_)
          as_aux_lemma =>
            (refine lex_val rfl rfl (fun q w hw => run_pk1 _ _ _ rfl) ?_)
            refine lex_val rfl rfl (fun q w hw => run_mv _ rfl) ?_
            (refine lex_val rfl rfl (fun q w hw => run_mv _ rfl) ?_)
            (refine lex_val rfl rfl (fun q w hw => run_mv _ rfl) ?_)
            (refine lex_val rfl rfl (fun q w hw => run_ieq _ _ _ _ rfl) ?_)
            (refine lex_val rfl rfl (fun q w hw => run_pk1 _ _ _ rfl) ?_)
            refine lex_val rfl rfl (fun q w hw => run_mv _ rfl) ?_
            as_aux_lemma =>
              (refine lex_val rfl rfl (fun q w hw => run_mv _ rfl) ?_)
              (refine lex_val rfl rfl (fun q w hw => run_lda _ _ rfl (hcom q w hw)) ?_)
              refine lex_call 11 [_, _] _ rfl rfl rfl (enters _ (by kernel_rfl)) (.int .i64 e2) ?_ ?_
              · exact fun w hC => ar_free (show St W [] w (Ea ++ _) from hC) hA s g _ _ h1'.out h3'.out (fun E' w' h4 h5 => ⟨rfl, E', h4, (h5.pick : St W [] w' _)⟩)
              as_aux_lemma =>
                (refine lex_val rfl rfl (fun q w hw => run_mv _ rfl) ?_)
                (refine lex_val rfl rfl (fun q w hw => run_lda _ _ rfl (hcom q w hw)) ?_)
                refine lex_call 12 [_, _] _ rfl rfl rfl (enters _ (by kernel_rfl)) (.int .i64 e2) ?_ ?_
                · rintro w ⟨Ea', hA', hC⟩
                  exact rr_free hC hB s g hgb _ _ h1'.out h3'.out (fun E' X w' h4 h5 => ⟨rfl, Ea', E', X, hA', h4, (by rw [← List.append_assoc X Z] at h5; exact h5.pick : St W [] w' (Ea' ++ (E' ++ ((X ++ Z) ++ [⟨b13, objC n F h, 39, true⟩, ⟨b15, objC n F h, 42, true⟩, ⟨b5, #[.int .i64 s, .int .u32 g], 25, true⟩]))))⟩)
                (refine lex_val rfl rfl (fun q w hw => run_ieq _ _ _ _ rfl) ?_)
                (refine lex_val rfl rfl (fun q w hw => run_pk1 _ _ _ rfl) ?_)
                refine lex_val rfl rfl (fun q w hw => run_mv _ rfl) ?_
                as_aux_lemma =>
                  (refine lex_val rfl rfl (fun q w hw => run_mv _ rfl) ?_)
                  (refine lex_val rfl rfl (fun q w hw => run_mv _ rfl) ?_)
                  refine lex_call 13 [_, _] _ rfl rfl rfl (enters _ (by kernel_rfl)) (.bool true) ?_ ?_
                  · rintro w ⟨Ea', Er', X, hA', hB', hC⟩
                    exact shows_ok hC hA' hB' (fun w' h5 => ⟨rfl, Ea', Er', X, hA', hB', (h5.pick : St W [] w' _)⟩)
                  (refine lex_val rfl rfl (fun q w hw => run_pk1 _ _ _ rfl) ?_)
                  refine lex_val rfl rfl (fun q w hw => run_mv _ rfl) ?_
                  refine lex_call 5 [] _ rfl rfl rfl (enters _ (by kernel_rfl)) (.bool true) ?_ ?_
                  · rintro w ⟨Ea', Er', X, hA', hB', hC⟩
                    exact works_ok hC (fun w' h5 => ⟨rfl, Ea', Er', X, hA', hB', (h5 : St W [] w' _)⟩)
                  (refine lex_val rfl rfl (fun q w hw => run_pk1 _ _ _ rfl) ?_)
                  refine lex_val rfl rfl (fun q w hw => run_as _ rfl) ?_
                  refine lex_nil ?_
                  rintro w' ⟨Ea', Er', X, _, _, hS'⟩
                  go_wp2_with ((go_skip))
                  exact hR _ hS'.chg
end Go.Proofs.YtjlihigodggfcaaGreat
