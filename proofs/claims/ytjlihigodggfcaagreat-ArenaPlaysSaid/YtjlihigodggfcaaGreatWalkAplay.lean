/-
  The walk of ArenaPlays.
-/
import Derived.Test.YtjlihigodggfcaaGreatStw
import Derived.Test.YtjlihigodggfcaaGreatShw
import Derived.Test.YtjlihigodggfcaaGreatArnN
set_option linter.unusedSimpArgs false
set_option linter.unusedVariables false
namespace Go.Proofs.YtjlihigodggfcaaGreat
open Go Go.RowKit Go.Mm
variable {R : Ending → World → Prop} {E Z Hh : List Ent}
theorem bounds_u32c {n : Int} (h : (Lit.int .u32 n).wf = true) : 0 ≤ n ∧ n ≤ 4294967295 := by
  simp [Lit.wf, IntKind.min, IntKind.max, IntKind.signed, IntKind.bits] at h
  omega
theorem aa_some {p : Option Addr} {T : Ar} (h : AA p T E) : ∃ b, p = some ⟨b, 0, none⟩ := by
  obtain ⟨b, _, _, _, _, _, _, rfl, _⟩ := h
  exact ⟨b, rfl⟩
theorem rr_some {p : Option Addr} {T : Ar} (h : AR p T E Z) : ∃ b, p = some ⟨b, 0, none⟩ := by
  obtain ⟨b, _, _, _, _, _, _, rfl, _⟩ := h
  exact ⟨b, rfl⟩
/-- What was copied: nothing yet, or both arenas as they were. -/
def OldOk (o s : Value) (Z Hh : List Ent) : Prop := (o = .pointer none ∧ s = .pointer none) ∨ ∃ a q2 T2 Eo Ew, o = .pointer (some a) ∧ s = .pointer q2 ∧ AA (some a) T2 Eo ∧ AR q2 T2 Ew Z ∧ Hh = Eo ++ Ew
theorem OldOk.mono {o s : Value} (h : OldOk o s Z Hh) (X : List Ent) : OldOk o s (X ++ Z) Hh := by
  rcases h with h | ⟨a, q2, T2, Eo, Ew, h1, h2, h3, h4, h5⟩
  · exact .inl h
  · exact .inr ⟨a, q2, T2, Eo, Ew, h1, h2, h3, h4.mono X, h5⟩
set_option maxHeartbeats 8000000 in
set_option maxRecDepth 100000 in
theorem walk_aplay {W : World} (z0 : Int) (wz0 : (Lit.int .i64 z0).wf = true) (z1 : Int) (wz1 : (Lit.int .i64 z1).wf = true) (z2 : Int) (wz2 : (Lit.int .u32 z2).wf = true) (vv : Value) {m sb so : Nat} {F : Nat → Nat → Value} (hv : Flat W [.i .i64, .i .i64, .i .i64, .i .i64, .i .i64] vv m sb so F) (hR : ∀ w', Chg W w' [] → Ret R (.bool true) w') :
    Calls Tryz.prog 4 #[.int .i64 z0, .int .i64 z1, .int .u32 z2, vv] W R := by
  have hS : St W [] W [] := St.start0
  have hlen := hv.len (t := 22) Tryz.underlying22
  have hg := bounds_u32c wz2
  by_cases hn : 120 < m
  · have q : decide (120 < (m : Int)) = true := decide_eq_true (by omega)
    go_enter Tryz.func4, Tryz.ntmps4
    go_wp2_with (first | (go_at_call 5; refine works_ok hS ?_; clear hS; intro w hS; unfold Ret) | (refine wpList_is (.call { callee := .builtin .len, args := #[_], argTypes := #[_] }) rfl ?_; refine wpList_stp (by kernel_rfl) (stp_val (run_lenv _ _ rfl) ?_)))
    exact hR _ hS.chg
  have q : decide (120 < (m : Int)) = false := decide_eq_false (by omega)
  by_cases hk : nwOk z0 z2 = false ∨ z1 < 1 ∨ 4 < z1
  · go_enter Tryz.func4, Tryz.ntmps4
    go_wp2_with (first | (go_at_call 6; refine ar_new_no hS z0 z1 z2 hg hk ?_; clear hS; intro w hS; unfold Ret) | (go_at_call 7; refine rr_new_no hS z0 z1 z2 hg hk ?_; clear hS; intro w hS; unfold Ret) | (refine wpList_is (.call { callee := .builtin .len, args := #[_], argTypes := #[_] }) rfl ?_; refine wpList_stp (by kernel_rfl) (stp_val (run_lenv _ _ rfl) ?_)))
    go_loopw [15, 13] (fun u uo wr => u = .int .i64 0 ∧ uo = .pointer none ∧ St W [] wr []) (fun _ _ _ => 0)
    case atStart => exact ⟨rfl, rfl, hS⟩
    case round =>
      clear hS
      obtain ⟨rfl, rfl, hS⟩ := hrel
      by_cases hm : 0 < m
      · have qm : decide ((0 : Int) < (m : Int)) = true := decide_eq_true (by omega)
        go_wp2_with (first | (go_at_call 5; refine works_ok hS ?_; clear hS; intro w hS; unfold Ret) | (refine wpList_is (.call { callee := .builtin .len, args := #[_], argTypes := #[_] }) rfl ?_; refine wpList_stp (by kernel_rfl) (stp_val (run_lenv _ _ rfl) ?_)))
        exact hR _ hS.chg
      · have qm : decide ((0 : Int) < (m : Int)) = false := decide_eq_false (by omega)
        go_wp2_with (first | (go_at_call 5; refine works_ok hS ?_; clear hS; intro w hS; unfold Ret) | (refine wpList_is (.call { callee := .builtin .len, args := #[_], argTypes := #[_] }) rfl ?_; refine wpList_stp (by kernel_rfl) (stp_val (run_lenv _ _ rfl) ?_)))
        exact hR _ hS.chg
  have hok : nwOk z0 z2 = true := by
    cases h : nwOk z0 z2 with
    | true => rfl
    | false => exact absurd (.inl h) hk
  obtain ⟨kk, rfl⟩ : ∃ kk : Nat, z1 = kk := ⟨z1.toNat, by omega⟩
  have hkk : 1 ≤ kk ∧ kk ≤ 4 := by omega
  obtain ⟨T0, hT0⟩ : ∃ T0, nwA z0 kk z2 = T0 := ⟨_, rfl⟩
  have hT0' := Lib.hid hT0
  clear hk hT0
  go_enter Tryz.func4, Tryz.ntmps4
  go_wp2_with (first | (go_at_call 6; refine ar_new_ok hS z0 z2 kk hg hok hkk T0 hT0'.out ?_; clear hS; intro p0 Ea w hA hS; obtain ⟨ba, rfl⟩ := aa_some hA; unfold Ret) | (go_at_call 7; refine rr_new hS z0 z2 kk hg hok hkk T0 hT0'.out ?_; clear hS; intro q0 Er w hB hS; obtain ⟨br, rfl⟩ := rr_some hB; unfold Ret) | (refine wpList_is (.call { callee := .builtin .len, args := #[_], argTypes := #[_] }) rfl ?_; refine wpList_stp (by kernel_rfl) (stp_val (run_lenv _ _ rfl) ?_)))
  clear hok hkk hT0'
  go_loopw [15, 9, 11, 13, 14] (fun u ua ur uo us wr => ∃ (i : Nat) (pa pr : Addr) (T : Ar) (Ea Er Z Hh : List Ent), i ≤ m ∧ u = .int .i64 i ∧ ua = .pointer (some pa) ∧ ur = .pointer (some pr) ∧ AA (some pa) T Ea ∧ AR (some pr) T Er Z ∧ OldOk uo us Z Hh ∧ St W [] wr (Ea ++ (Er ++ (Z ++ Hh)))) (fun u _ _ _ _ _ => m - (intOf u).toNat)
  case atStart => exact ⟨0, _, _, T0, Ea, Er, [], [], Nat.zero_le _, rfl, rfl, rfl, hA, hB, .inl ⟨rfl, rfl⟩, hS.pick⟩
  case round =>
    clear hS hA hB
    obtain ⟨i, pa, pr, T, Ea, Er, Z, Hh, hi, rfl, rfl, rfl, hA, hB, hOld, hS⟩ := hrel
    by_cases hlt : i < m
    case neg =>
      obtain rfl : i = m := by omega
      rcases hOld with ⟨rfl, rfl⟩ | ⟨po, qo, T2, Eo, Ew, rfl, rfl, hA2, hB2, rfl⟩
      · go_wp2_with (first | (go_at_call 5; refine works_ok hS ?_; clear hS; intro w hS; unfold Ret) | (refine wpList_is (.call { callee := .builtin .len, args := #[_], argTypes := #[_] }) rfl ?_; refine wpList_stp (by kernel_rfl) (stp_val (run_lenv _ _ rfl) ?_)))
        exact hR _ hS.chg
      · clear hA hB
        have hA := hA2
        have hB := hB2
        go_wp2_with (first | (go_at_call 13; refine shows_ok hS hA hB ?_; clear hS; intro w hS; unfold Ret) | (go_at_call 5; refine works_ok hS ?_; clear hS; intro w hS; unfold Ret) | (refine wpList_is (.call { callee := .builtin .len, args := #[_], argTypes := #[_] }) rfl ?_; refine wpList_stp (by kernel_rfl) (stp_val (run_lenv _ _ rfl) ?_)))
        exact hR _ hS.chg
    have hidx := hv.idxz (t := 22) (z := 5) (i := i) rfl Tryz.underlying22 (by kernel_rfl) hlt
    have hcell := hv.cellsz (z := 5) (i := i) rfl hlt
    have hc0 := hv.cellz (z := 5) (i := i) (j := 0) rfl hlt (by decide)
    obtain ⟨d, hd, _⟩ := hv.int (i := i) (j := 0) hlt rfl
    obtain ⟨mm, hm, _⟩ := hv.int (i := i) (j := 1) hlt rfl
    obtain ⟨a, ha, _⟩ := hv.int (i := i) (j := 2) hlt rfl
    obtain ⟨b, hb, _⟩ := hv.int (i := i) (j := 3) hlt rfl
    obtain ⟨c, hc, _⟩ := hv.int (i := i) (j := 4) hlt rfl
    simp only [List.range_succ, List.range_zero, List.nil_append, List.map_append, List.map_cons, List.map_nil, List.cons_append, hd, hm, ha, hb, hc] at hcell
    rw [hd, Nat.add_zero] at hc0
    obtain ⟨r0, hr0⟩ : ∃ r, (i : Int).tmod 8 = r := ⟨_, rfl⟩
    have hrem : RemIs (i : Int) 8 r0 := ⟨hr0, by decide⟩
    clear hd hm ha hb hc hr0
    by_cases hd : d = 7
    · subst hd
      have hA0 := hA
      have hB0 := hB
      clear hA hB hOld
      by_cases hs : r0 = 7
      · subst hs
        have hdif : DifIs (m : Int) 1 ((m : Int) - 1) := ⟨rfl, by omega, by omega⟩
        go_wp2_with (first | (go_at_call 14; refine ar_copy hS hA0 ?_; clear hS; intro pn En w hA hS; obtain ⟨ba2, rfl⟩ := aa_some hA; unfold Ret) | (go_at_call 15; refine rr_copy hS hB0 ?_; clear hS; intro qn Fn w hB hS; obtain ⟨br2, rfl⟩ := rr_some hB; unfold Ret) | (go_at_call 8; refine step_ok hS hA hB 7 mm a b c ?_; clear hS hA hB; intro T' Ea' Er' X w hA hB hS; rw [← List.append_assoc X Z] at hS; unfold Ret) | (go_at_call 13; refine shows_ok hS hA hB ?_; clear hS; intro w hS; unfold Ret) | (refine wpList_is (.binOp .rem _ _ _ _) rfl ?_; refine wpList_stp (by kernel_rfl) (stp_val (run_remv _ _ _ _ rfl) ?_)) | (refine wpList_is (.call { callee := .builtin .len, args := #[_], argTypes := #[_] }) rfl ?_; refine wpList_stp (by kernel_rfl) (stp_val (run_lenv _ _ rfl) ?_)) | (refine wpList_is (.indexAddr _ _ _) rfl ?_; refine wpList_stp (by kernel_rfl) (stp_val (run_idxv _ _ _ rfl) ?_)) | (refine wpList_is (.load _ _) rfl ?_; go_must (first | refine wpList_stp (by kernel_rfl) (stp_val (run_ld0 _ _ rfl hS) ?_) | refine wpList_stp (by kernel_rfl) (stp_val (run_lda0 _ _ rfl hS) ?_))))
        go_roundw
        case rel => exact ⟨i + 1, _, _, T', Ea', Er', X ++ Z, Ea ++ Er, by omega, by go_num, rfl, rfl, hA, hB, .inr ⟨_, _, T, Ea, Er, rfl, rfl, hA0, hB0.mono X, rfl⟩, hS.pick⟩
        case measure => simp [intOf]; omega
      have hs1 : decide (r0 = 7) = false := decide_eq_false hs
      have hs2 : (r0 == 7) = false := beq_eq_false_iff_ne.2 hs
      by_cases he : i + 1 = m
      · have hdif : DifIs (m : Int) 1 (i : Int) := ⟨by omega, by omega, by omega⟩
        go_wp2_with (first | (go_at_call 14; refine ar_copy hS hA0 ?_; clear hS; intro pn En w hA hS; obtain ⟨ba2, rfl⟩ := aa_some hA; unfold Ret) | (go_at_call 15; refine rr_copy hS hB0 ?_; clear hS; intro qn Fn w hB hS; obtain ⟨br2, rfl⟩ := rr_some hB; unfold Ret) | (go_at_call 8; refine step_ok hS hA hB 7 mm a b c ?_; clear hS hA hB; intro T' Ea' Er' X w hA hB hS; rw [← List.append_assoc X Z] at hS; unfold Ret) | (go_at_call 13; refine shows_ok hS hA hB ?_; clear hS; intro w hS; unfold Ret) | (refine wpList_is (.binOp .rem _ _ _ _) rfl ?_; refine wpList_stp (by kernel_rfl) (stp_val (run_remv _ _ _ _ rfl) ?_)) | (refine wpList_is (.binOp .sub _ _ _ _) rfl ?_; refine wpList_stp (by kernel_rfl) (stp_val (run_difv _ _ _ _ rfl) ?_)) | (refine wpList_is (.call { callee := .builtin .len, args := #[_], argTypes := #[_] }) rfl ?_; refine wpList_stp (by kernel_rfl) (stp_val (run_lenv _ _ rfl) ?_)) | (refine wpList_is (.indexAddr _ _ _) rfl ?_; refine wpList_stp (by kernel_rfl) (stp_val (run_idxv _ _ _ rfl) ?_)) | (refine wpList_is (.load _ _) rfl ?_; go_must (first | refine wpList_stp (by kernel_rfl) (stp_val (run_ld0 _ _ rfl hS) ?_) | refine wpList_stp (by kernel_rfl) (stp_val (run_lda0 _ _ rfl hS) ?_))))
        go_roundw
        case rel => exact ⟨i + 1, _, _, T', Ea', Er', X ++ Z, Ea ++ Er, by omega, by go_num, rfl, rfl, hA, hB, .inr ⟨_, _, T, Ea, Er, rfl, rfl, hA0, hB0.mono X, rfl⟩, hS.pick⟩
        case measure => simp [intOf]; omega
      obtain ⟨r1, hr1⟩ : ∃ r, (m : Int) - 1 = r := ⟨_, rfl⟩
      have hdif : DifIs (m : Int) 1 r1 := ⟨hr1, by omega, by omega⟩
      have he1 : decide ((i : Int) = r1) = false := decide_eq_false (by omega)
      have he2 : ((i : Int) == r1) = false := beq_eq_false_iff_ne.2 (by omega)
      clear hr1
      go_wp2_with (first | (go_at_call 14; refine ar_copy hS hA0 ?_; clear hS; intro pn En w hA hS; obtain ⟨ba2, rfl⟩ := aa_some hA; unfold Ret) | (go_at_call 15; refine rr_copy hS hB0 ?_; clear hS; intro qn Fn w hB hS; obtain ⟨br2, rfl⟩ := rr_some hB; unfold Ret) | (go_at_call 8; refine step_ok hS hA hB 7 mm a b c ?_; clear hS hA hB; intro T' Ea' Er' X w hA hB hS; rw [← List.append_assoc X Z] at hS; unfold Ret) | (refine wpList_is (.binOp .rem _ _ _ _) rfl ?_; refine wpList_stp (by kernel_rfl) (stp_val (run_remv _ _ _ _ rfl) ?_)) | (refine wpList_is (.binOp .sub _ _ _ _) rfl ?_; refine wpList_stp (by kernel_rfl) (stp_val (run_difv _ _ _ _ rfl) ?_)) | (refine wpList_is (.call { callee := .builtin .len, args := #[_], argTypes := #[_] }) rfl ?_; refine wpList_stp (by kernel_rfl) (stp_val (run_lenv _ _ rfl) ?_)) | (refine wpList_is (.indexAddr _ _ _) rfl ?_; refine wpList_stp (by kernel_rfl) (stp_val (run_idxv _ _ _ rfl) ?_)) | (refine wpList_is (.load _ _) rfl ?_; go_must (first | refine wpList_stp (by kernel_rfl) (stp_val (run_ld0 _ _ rfl hS) ?_) | refine wpList_stp (by kernel_rfl) (stp_val (run_lda0 _ _ rfl hS) ?_))))
      go_roundw
      case rel => exact ⟨i + 1, _, _, T', Ea', Er', X ++ Z, Ea ++ Er, by omega, by go_num, rfl, rfl, hA, hB, .inr ⟨_, _, T, Ea, Er, rfl, rfl, hA0, hB0.mono X, rfl⟩, hS.pick⟩
      case measure => simp [intOf]; omega
    have hd1 : decide (d = 7) = false := decide_eq_false hd
    have hd2 : (d == 7) = false := beq_eq_false_iff_ne.2 hd
    by_cases hs : r0 = 7
    · subst hs
      have hdif : DifIs (m : Int) 1 ((m : Int) - 1) := ⟨rfl, by omega, by omega⟩
      go_wp2_with (first | (go_at_call 8; refine step_ok hS hA hB d mm a b c ?_; clear hS hA hB; intro T' Ea' Er' X w hA hB hS; rw [← List.append_assoc X Z] at hS; unfold Ret) | (go_at_call 13; refine shows_ok hS hA hB ?_; clear hS; intro w hS; unfold Ret) | (refine wpList_is (.binOp .rem _ _ _ _) rfl ?_; refine wpList_stp (by kernel_rfl) (stp_val (run_remv _ _ _ _ rfl) ?_)) | (refine wpList_is (.call { callee := .builtin .len, args := #[_], argTypes := #[_] }) rfl ?_; refine wpList_stp (by kernel_rfl) (stp_val (run_lenv _ _ rfl) ?_)) | (refine wpList_is (.indexAddr _ _ _) rfl ?_; refine wpList_stp (by kernel_rfl) (stp_val (run_idxv _ _ _ rfl) ?_)) | (refine wpList_is (.load _ _) rfl ?_; go_must (first | refine wpList_stp (by kernel_rfl) (stp_val (run_ld0 _ _ rfl hS) ?_) | refine wpList_stp (by kernel_rfl) (stp_val (run_lda0 _ _ rfl hS) ?_))))
      go_roundw
      case rel => exact ⟨i + 1, _, _, T', Ea', Er', X ++ Z, Hh, by omega, by go_num, rfl, rfl, hA, hB, hOld.mono X, hS.pick⟩
      case measure => simp [intOf]; omega
    have hs1 : decide (r0 = 7) = false := decide_eq_false hs
    have hs2 : (r0 == 7) = false := beq_eq_false_iff_ne.2 hs
    by_cases he : i + 1 = m
    · have hdif : DifIs (m : Int) 1 (i : Int) := ⟨by omega, by omega, by omega⟩
      go_wp2_with (first | (go_at_call 8; refine step_ok hS hA hB d mm a b c ?_; clear hS hA hB; intro T' Ea' Er' X w hA hB hS; rw [← List.append_assoc X Z] at hS; unfold Ret) | (go_at_call 13; refine shows_ok hS hA hB ?_; clear hS; intro w hS; unfold Ret) | (refine wpList_is (.binOp .rem _ _ _ _) rfl ?_; refine wpList_stp (by kernel_rfl) (stp_val (run_remv _ _ _ _ rfl) ?_)) | (refine wpList_is (.binOp .sub _ _ _ _) rfl ?_; refine wpList_stp (by kernel_rfl) (stp_val (run_difv _ _ _ _ rfl) ?_)) | (refine wpList_is (.call { callee := .builtin .len, args := #[_], argTypes := #[_] }) rfl ?_; refine wpList_stp (by kernel_rfl) (stp_val (run_lenv _ _ rfl) ?_)) | (refine wpList_is (.indexAddr _ _ _) rfl ?_; refine wpList_stp (by kernel_rfl) (stp_val (run_idxv _ _ _ rfl) ?_)) | (refine wpList_is (.load _ _) rfl ?_; go_must (first | refine wpList_stp (by kernel_rfl) (stp_val (run_ld0 _ _ rfl hS) ?_) | refine wpList_stp (by kernel_rfl) (stp_val (run_lda0 _ _ rfl hS) ?_))))
      go_roundw
      case rel => exact ⟨i + 1, _, _, T', Ea', Er', X ++ Z, Hh, by omega, by go_num, rfl, rfl, hA, hB, hOld.mono X, hS.pick⟩
      case measure => simp [intOf]; omega
    obtain ⟨r1, hr1⟩ : ∃ r, (m : Int) - 1 = r := ⟨_, rfl⟩
    have hdif : DifIs (m : Int) 1 r1 := ⟨hr1, by omega, by omega⟩
    have he1 : decide ((i : Int) = r1) = false := decide_eq_false (by omega)
    have he2 : ((i : Int) == r1) = false := beq_eq_false_iff_ne.2 (by omega)
    clear hr1
    go_wp2_with (first | (go_at_call 8; refine step_ok hS hA hB d mm a b c ?_; clear hS hA hB; intro T' Ea' Er' X w hA hB hS; rw [← List.append_assoc X Z] at hS; unfold Ret) | (refine wpList_is (.binOp .rem _ _ _ _) rfl ?_; refine wpList_stp (by kernel_rfl) (stp_val (run_remv _ _ _ _ rfl) ?_)) | (refine wpList_is (.binOp .sub _ _ _ _) rfl ?_; refine wpList_stp (by kernel_rfl) (stp_val (run_difv _ _ _ _ rfl) ?_)) | (refine wpList_is (.call { callee := .builtin .len, args := #[_], argTypes := #[_] }) rfl ?_; refine wpList_stp (by kernel_rfl) (stp_val (run_lenv _ _ rfl) ?_)) | (refine wpList_is (.indexAddr _ _ _) rfl ?_; refine wpList_stp (by kernel_rfl) (stp_val (run_idxv _ _ _ rfl) ?_)) | (refine wpList_is (.load _ _) rfl ?_; go_must (first | refine wpList_stp (by kernel_rfl) (stp_val (run_ld0 _ _ rfl hS) ?_) | refine wpList_stp (by kernel_rfl) (stp_val (run_lda0 _ _ rfl hS) ?_))))
    go_roundw
    case rel => exact ⟨i + 1, _, _, T', Ea', Er', X ++ Z, Hh, by omega, by go_num, rfl, rfl, hA, hB, hOld.mono X, hS.pick⟩
    case measure => simp [intOf]; omega
end Go.Proofs.YtjlihigodggfcaaGreat
