/-
  The walk of ArenaRefuses.
-/
import Derived.Test.YtjlihigodggfcaaWplay
import Derived.Test.YtjlihigodggfcaaWagr
import Derived.Test.YtjlihigodggfcaaArnP
set_option linter.unusedSimpArgs false
set_option linter.unusedVariables false
namespace Go.Mm
open Go Go.RowKit
section
variable {P : Program} {o : Oper} {a : Act} {w : World}
class NegIs (n : Int) (r : outParam Int) : Prop where
  h : -n = r
  lo : -9223372036854775808 ≤ r
  hi : r ≤ 9223372036854775807
theorem run_negv (t : TypeId) (x : Operand) (ho : o.op = .unOp .neg t x) {n r : Int} [hx : Ev a x (.int .i64 n)] [hr : NegIs n r] : OpVal P o a w (.int .i64 r) := by
  have e : IntKind.i64.wrap (0 - n) = r := by have := hr.h; have := hr.lo; have := hr.hi; rw [IntKind.wrap_i64]; omega
  unfold OpVal
  simp only [execOp, ho, hx.h, Op.unary, Op.intArith, Sem.run_bind, Sem.run_pure, Result.andThen_ok, e]
end
end Go.Mm
namespace Go.Proofs.Ytjlihigodggfcaa
open Go Go.RowKit Go.Mm
variable {R : Ending → World → Prop}
instance e_int : ElemT Try.prog 3 1 8 #[.int .i64 0] := ⟨by kernel_rfl⟩
instance sl_int : SliceT Try.prog 60 3 := ⟨by kernel_rfl⟩

set_option maxHeartbeats 8000000 in
set_option maxRecDepth 100000 in
theorem walk_aref {W : World} (z : Int) (wz : (Lit.int .u8 z).wf = true) (y : Int) (wy : (Lit.int .u8 y).wf = true) (v : Value) {n sb so : Nat} {F : Nat → Nat → Value} (hv : Flat W [.i .u8, .i .u8, .i .u8, .i .u8, .i .u8] v n sb so F) (x : Int) (wx : (Lit.int .u16 x).wf = true) (hR : ∀ w', Chg W w' [] → Ret R (.bool true) w') :
    Calls Try.prog 6 #[.int .u8 z, .int .u8 y, v, .int .u16 x] W R := by
  have hx : 0 ≤ x ∧ x ≤ 65535 := by
    simp [Lit.wf, IntKind.min, IntKind.max, IntKind.signed, IntKind.bits] at wx
    omega
  obtain ⟨far, rfl⟩ : ∃ q : Nat, x = q := ⟨x.toNat, by omega⟩
  have sf : Small (far : Int) := ⟨by omega, by omega⟩
  clear wx
  have hS : St W [] W [] := St.start0
  have hlen := hv.len (t := 49) Try.underlying49
  have hz := bounds_u8L wz
  have hy := bounds_u8L wy
  obtain ⟨zn, rfl⟩ : ∃ q : Nat, z = q := ⟨z.toNat, by omega⟩
  obtain ⟨yn, rfl⟩ : ∃ q : Nat, y = q := ⟨y.toNat, by omega⟩
  clear wz wy
  obtain ⟨mu, hmu⟩ : ∃ q, 1 + yn % 4 = q := ⟨_, rfl⟩
  have hmu4 : 1 ≤ mu ∧ mu ≤ 4 := by omega
  have hmu' := Lib.hid hmu
  clear hmu
  by_cases hn : 60 < n
  · have q : decide (60 < (n : Int)) = true := decide_eq_true (by omega)
    have q' : decide (60 < n) = true := decide_eq_true hn
    go_enter Try.func6, Try.ntmps6
    go_wp2_with (first | (go_at_call 18; refine works_ok hS ?_; clear hS; intro w hS; unfold Ret) | (refine wpList_is (.call { callee := .builtin .len, args := #[_], argTypes := #[_] }) rfl ?_; refine wpList_stp (by kernel_rfl) (stp_val (run_lenv _ _ rfl) ?_)))
    exact hR _ hS.chg
  have q : decide (60 < (n : Int)) = false := decide_eq_false (by omega)
  have q' : decide (60 < n) = false := decide_eq_false hn
  obtain ⟨b0, hb0⟩ : ∃ q : Int, -1 - (far : Int) = q := ⟨_, rfl⟩
  obtain ⟨b1, hb1⟩ : ∃ q : Int, (mu : Int) + far = q := ⟨_, rfl⟩
  obtain ⟨g8, hg80⟩ : ∃ q : Int, 8 + (far : Int) = q := ⟨_, rfl⟩
  obtain ⟨m5, hm50⟩ : ∃ q : Int, 5 + (far : Int) = q := ⟨_, rfl⟩
  obtain ⟨c2n, hc2n⟩ : ∃ q : Int, -2 - (far : Int) = q := ⟨_, rfl⟩
  obtain ⟨f4, hf4⟩ : ∃ q : Int, 4 + (far : Int) = q := ⟨_, rfl⟩
  obtain ⟨n0, hn0⟩ : ∃ q : Int, 0 - (far : Int) = q := ⟨_, rfl⟩
  obtain ⟨n257, hn257⟩ : ∃ q : Int, 257 + (far : Int) = q := ⟨_, rfl⟩
  have i1 : DifIs (-1) (far : Int) b0 := ⟨hb0, by omega, by omega⟩
  have i2 : SumIs (mu : Int) (far : Int) b1 := ⟨hb1, by omega, by omega⟩
  have i3 : SumIs 8 (far : Int) g8 := ⟨hg80, by omega, by omega⟩
  have i4 : SumIs 5 (far : Int) m5 := ⟨hm50, by omega, by omega⟩
  have i5 : DifIs (-2) (far : Int) c2n := ⟨hc2n, by omega, by omega⟩
  have i6 : SumIs 4 (far : Int) f4 := ⟨hf4, by omega, by omega⟩
  have i7 : DifIs 0 (far : Int) n0 := ⟨hn0, by omega, by omega⟩
  have i8 : SumIs 257 (far : Int) n257 := ⟨hn257, by omega, by omega⟩
  have i9 : NegIs (far : Int) n0 := ⟨by omega, by omega, by omega⟩
  have bb0 : b0 ≤ -1 := by omega
  have bb1 : (mu : Int) ≤ b1 := by omega
  have bg8 : 8 ≤ g8 := by omega
  have bm5 : 5 ≤ m5 := by omega
  have bc2 : c2n ≤ -2 := by omega
  have bf4 : f4 = 4 + (far : Int) := hf4.symm
  have bn0 : n0 ≤ 0 := by omega
  have bn2 : 257 ≤ n257 := by omega
  have hf4' := Lib.hid bf4
  have lx := rv_len (bv := 0) (mu := mu)
  clear hb0 hb1 hg80 hm50 hc2n hf4 hn0 hn257 bf4 lx
  go_enter Try.func6, Try.ntmps6
  go_wp2_with (first | (go_at_call 19; go_must (refine wplay hS zn yn (by omega) (by omega) v hv (by omega) ?_); clear hS; intro bm w hMA; rw [hmu'.out] at hMA; obtain ⟨T, ms, w0, bs, M, p, bv, vs, us, E, Er, Em, hB, hS, hT, hvs, hus, hWo⟩ := hMA; have lx := rv_len (bv := bv) (mu := mu); unfold Ret) | (refine wpList_is (.binOp .sub _ _ _ _) rfl ?_; refine wpList_stp (by kernel_rfl) (stp_val (run_difv _ _ _ _ rfl) ?_)) | (refine wpList_is (.binOp .add _ _ _ _) rfl ?_; refine wpList_stp (by kernel_rfl) (stp_val (run_sumv _ _ _ _ rfl) ?_)) | (refine wpList_is (.buildSlice _ _ _) rfl ?_; go_must (refine wpList_stp (by kernel_rfl) (stp_bsl (size := 1) (e := 3) _ 2 [(0, _), (1, _)] rfl hS (by decide) rfl (by decide) (by decide) ?_)); clear hS; intro bb w _ hS) | (refine wpList_is (.call { callee := .builtin .len, args := #[_], argTypes := #[_] }) rfl ?_; refine wpList_stp (by kernel_rfl) (stp_val (run_lenv _ _ rfl) ?_)) | (refine wpList_is (.load _ _) rfl ?_; go_must ((refine wpList_stp (by kernel_rfl) (stp_val (run_ld _ _ rfl hS) ?_)))))
  have hB0 := hB
  have hWo' := Lib.hid hWo
  have hvs' := Lib.hid hvs
  have hus' := Lib.hid hus
  clear hWo hvs hus hB
  go_loopw [12] (fun u wr => ∃ (i : Nat) (E : List Ent), i ≤ 2 ∧ u = .int .i64 i ∧ AA p T E ∧ St w0 bs wr (⟨bb, #[.int .i64 b0, .int .i64 b1], 3, true⟩ :: (wdE bm p M bv mu T.2.2 :: rvE bv vs :: (E ++ (Er ++ (Em ++ [])))))) (fun u _ => 2 - (intOf u).toNat)
  case atStart => exact ⟨0, E, Nat.zero_le _, rfl, hT, hS.pick⟩
  case round =>
    clear hS hT
    obtain ⟨i, E, hi, rfl, hT, hS⟩ := hrel
    by_cases hlt : i < 2
    · have dlt : decide ((i : Int) < 2) = true := decide_eq_true (by omega)
      have dlt' : decide (i < 2) = true := decide_eq_true hlt
      have ixb := idx_of1 (P := Try.prog) (t := 60) (g := bb) (n := 2) (cap := 2) Try.underlying60 (by kernel_rfl) hlt
      have hno : ∀ q : Int, (q = b0 ∨ q = b1) → inM T q = false := fun q hq => by
        have := hWo'.out.mu
        simp only [inM, Bool.and_eq_false_iff, decide_eq_false_iff_not]
        rcases hq with e | e <;> omega
      obtain ⟨mv, cmv, hmv⟩ : ∃ mv : Int, CellAt (List.toArray [.int .i64 b0, .int .i64 b1]) i (.int .i64 mv) ∧ (mv = b0 ∨ mv = b1) := by
        have : i = 0 ∨ i = 1 := by omega
        rcases this with rfl | rfl
        · exact ⟨b0, ⟨rfl⟩, .inl rfl⟩
        · exact ⟨b1, ⟨rfl⟩, .inr rfl⟩
      have hin := hno mv hmv
      have c1 := Lib.hid (no_mk hin 9 false)
      have c2 := Lib.hid (no_ld hin 0 0)
      have c3 := Lib.hid (no_st hin 0 0 (-1))
      have c4 := Lib.hid (no_dr hin 0)
      have c5 := Lib.hid (no_pt hin (-1) 0)
      have c6 := Lib.hid (no_gt hin 0)
      have c7 := Lib.hid (no_sk hin)
      clear hno hmv hin
      go_wp2_with (first | (refine wpList_is (o := ⟨some 14, _, _, _, _, _⟩) (.alloc _) rfl ?_; go_must (refine wpList_stp (by kernel_rfl) (stp_al _ rfl hS ?_)); clear hS; intro b14 w _ hS) | (refine wpList_is (o := ⟨some 16, _, _, _, _, _⟩) (.alloc _) rfl ?_; go_must (refine wpList_stp (by kernel_rfl) (stp_al _ rfl hS ?_)); clear hS; intro b16 w _ hS) | (refine wpList_is (o := ⟨some 18, _, _, _, _, _⟩) (.alloc _) rfl ?_; go_must (refine wpList_stp (by kernel_rfl) (stp_al _ rfl hS ?_)); clear hS; intro b18 w _ hS) | (refine wpList_is (o := ⟨some 19, _, _, _, _, _⟩) (.alloc _) rfl ?_; go_must (refine wpList_stp (by kernel_rfl) (stp_al _ rfl hS ?_)); clear hS; intro b19 w _ hS) | (refine wpList_is (o := ⟨some 21, _, _, _, _, _⟩) (.alloc _) rfl ?_; go_must (refine wpList_stp (by kernel_rfl) (stp_al _ rfl hS ?_)); clear hS; intro b21 w _ hS) | (refine wpList_is (o := ⟨some 23, _, _, _, _, _⟩) (.alloc _) rfl ?_; go_must (refine wpList_stp (by kernel_rfl) (stp_al _ rfl hS ?_)); clear hS; intro b23 w _ hS) | (refine wpList_is (o := ⟨some 24, _, _, _, _, _⟩) (.alloc _) rfl ?_; go_must (refine wpList_stp (by kernel_rfl) (stp_al _ rfl hS ?_)); clear hS; intro b24 w _ hS) | (refine wpList_is (o := ⟨some 26, _, _, _, _, _⟩) (.alloc _) rfl ?_; go_must (refine wpList_stp (by kernel_rfl) (stp_al _ rfl hS ?_)); clear hS; intro b26 w _ hS) | (go_at_call 10; (with_reducible refine ar_make hS hT mv 9 false T (0, 0) 3 c1.out.1 c1.out.2.1 c1.out.2.2 ?_); clear hS hT; intro E w hT hS; unfold Ret) | (go_at_call 13; (with_reducible refine ar_load hS hT mv 0 0 T (0, 0) 3 c2.out.1 c2.out.2.1 c2.out.2.2 ?_); clear hS hT; intro E w hT hS; unfold Ret) | (go_at_call 11; (with_reducible refine ar_store hS hT mv 0 0 (-1) T (0, 0) (0, 0) 3 c3.out.1 c3.out.2.1 c3.out.2.2.1 c3.out.2.2.2 ?_); clear hS hT; intro E w hT hS; unfold Ret) | (go_at_call 25; (with_reducible refine ar_drop hS hT mv 0 T (0, 0) 3 c4.out.1 c4.out.2.1 c4.out.2.2 ?_); clear hS hT; intro E w hT hS; unfold Ret) | (go_at_call 12; (with_reducible refine ar_put hS hT mv (-1) 0 T (0, 0) (0, 0) 3 c5.out.1 c5.out.2.1 c5.out.2.2.1 c5.out.2.2.2 ?_); clear hS hT; intro E w hT hS; unfold Ret) | (go_at_call 16; (with_reducible refine ar_get hS hT mv 0 T (0, 0) 3 c6.out.1 c6.out.2.1 c6.out.2.2 ?_); clear hS hT; intro E w hT hS; unfold Ret) | (go_at_call 17; go_must (with_reducible refine ar_stack hS hT mv [] 3 c7.out.1 c7.out.2 ?_); clear hS; intro vl El w _ _ hS; unfold Ret) | (refine wpList_is (.indexAddr _ _ _) rfl ?_; refine wpList_stp (by kernel_rfl) (stp_val (run_idxv _ _ _ rfl) ?_)) | (refine wpList_is (.load _ _) rfl ?_; go_must ((refine wpList_stp (by kernel_rfl) (stp_val (run_ld _ _ rfl hS) ?_)))) | (refine wpList_is (.store _ _ _) rfl ?_; go_must ((refine wpList_stp (by kernel_rfl) (stp_sta _ _ _ rfl hS ?_))); clear hS; intro w hS))
      go_roundw
      case rel => exact ⟨i + 1, E, by omega, by go_num, hT, hS.pick⟩
      case measure => simp [intOf]; omega
    · have dlt : decide ((i : Int) < 2) = false := decide_eq_false (by omega)
      have dlt' : decide (i < 2) = false := decide_eq_false hlt
      go_wp2_with ((go_skip))
      obtain ⟨wo, hwo⟩ : ∃ wo : World, wo = wr := ⟨_, rfl⟩
      clear hwo
      go_loopw [30] (fun u wr => ∃ (i : Nat) (E : List Ent), i ≤ mu ∧ u = .int .i64 i ∧ AA p T E ∧ St w0 bs wr (wdE bm p M bv mu T.2.2 :: rvE bv vs :: (E ++ (Er ++ (Em ++ []))))) (fun u _ => mu - (intOf u).toNat)
      case atStart => exact ⟨0, E, Nat.zero_le _, rfl, hT, hS.pick⟩
      case round =>
        clear hS hT
        obtain ⟨i, E, hi, rfl, hT, hS⟩ := hrel
        by_cases hlt : i < mu
        · have dlt : decide ((i : Int) < (mu : Int)) = true := decide_eq_true (by omega)
          have dlt' : decide (i < mu) = true := decide_eq_true hlt
          have hWo := hWo'.out
          obtain ⟨v, E1, e, E2, hv1, rfl, hv, _⟩ := hvs'.out.at i _ (hWo.rtq hlt)
          simp only [List.append_assoc] at hS
          obtain ⟨nr, hnr⟩ : ∃ q, (rtL T i).length = q := ⟨_, rfl⟩
          have hn32 : nr ≤ 32 := hnr ▸ hWo.r32 _ (hWo.rtl hlt)
          have hln : LenV Try.prog 44 v nr := hv.len hnr
          have hone := hv.one
          have cv := cellV hv1
          have ix := rv_idx (bv := bv) hlt
          have hin := hWo.inM hlt
          obtain ⟨kn, hkn⟩ : ∃ q : Int, (nr : Int) + far = q := ⟨_, rfl⟩
          have skn : SumIs (nr : Int) (far : Int) kn := ⟨hkn, by omega, by omega⟩
          have r1 := (hWo.rtNo hlt (i := kn) (by rw [hnr]; omega)).1
          have r2 := (hWo.rtNo hlt (i := b0) (by rw [hnr]; omega)).1
          have hg8 : inV g8 = false := by simp only [inV, Bool.and_eq_false_iff, decide_eq_false_iff_not]; omega
          have hgb : inV b0 = false := by simp only [inV, Bool.and_eq_false_iff, decide_eq_false_iff_not]; omega
          have hm5 : nwB m5 true = false := by simp only [nwB, Bool.and_eq_false_iff, decide_eq_false_iff_not]; left; right; omega
          have c1 := Lib.hid (nr_ld hin r1 0)
          have c2 : Hid (drT T i b0 = T ∧ rtR T i b0 = (0, 0) ∧ rtE T i b0 = 3) := Lib.hid ⟨(nr_dr r2).1, (nr_dr r2).2, r2⟩
          have c3 := Lib.hid (nr_pt r1 (by omega) 99)
          have c4 := Lib.hid (nv_pt hin hg8)
          have c5 := Lib.hid (nv_gt hin hgb)
          have c6 := Lib.hid (nf_mk hin hm5)
          by_cases hz : nr = 0
          · subst hz
            have e0 : decide (0 < (0 : Int)) = false := rfl
            clear r1 r2 hg8 hgb hm5 hin hWo hv1 hnr hkn
            go_wp2_with (first | (refine wpList_is (.binOp .sub _ _ _ _) rfl ?_; refine wpList_stp (by kernel_rfl) (stp_val (run_difv _ _ _ _ rfl) ?_)) | (refine wpList_is (.binOp .add _ _ _ _) rfl ?_; refine wpList_stp (by kernel_rfl) (stp_val (run_sumv _ _ _ _ rfl) ?_)) | (refine wpList_is (o := ⟨some 32, _, _, _, _, _⟩) (.alloc _) rfl ?_; go_must (refine wpList_stp (by kernel_rfl) (stp_al _ rfl hS ?_)); clear hS; intro b32 w _ hS) | (refine wpList_is (o := ⟨some 34, _, _, _, _, _⟩) (.alloc _) rfl ?_; go_must (refine wpList_stp (by kernel_rfl) (stp_al _ rfl hS ?_)); clear hS; intro b34 w _ hS) | (refine wpList_is (o := ⟨some 36, _, _, _, _, _⟩) (.alloc _) rfl ?_; go_must (refine wpList_stp (by kernel_rfl) (stp_al _ rfl hS ?_)); clear hS; intro b36 w _ hS) | (refine wpList_is (o := ⟨some 37, _, _, _, _, _⟩) (.alloc _) rfl ?_; go_must (refine wpList_stp (by kernel_rfl) (stp_al _ rfl hS ?_)); clear hS; intro b37 w _ hS) | (refine wpList_is (o := ⟨some 39, _, _, _, _, _⟩) (.alloc _) rfl ?_; go_must (refine wpList_stp (by kernel_rfl) (stp_al _ rfl hS ?_)); clear hS; intro b39 w _ hS) | (refine wpList_is (o := ⟨some 40, _, _, _, _, _⟩) (.alloc _) rfl ?_; go_must (refine wpList_stp (by kernel_rfl) (stp_al _ rfl hS ?_)); clear hS; intro b40 w _ hS) | (refine wpList_is (o := ⟨some 42, _, _, _, _, _⟩) (.alloc _) rfl ?_; go_must (refine wpList_stp (by kernel_rfl) (stp_al _ rfl hS ?_)); clear hS; intro b42 w _ hS) | (refine wpList_is (o := ⟨some 44, _, _, _, _, _⟩) (.alloc _) rfl ?_; go_must (refine wpList_stp (by kernel_rfl) (stp_al _ rfl hS ?_)); clear hS; intro b44 w _ hS) | (go_at_call 13; (with_reducible refine ar_load hS hT i kn 0 T (0, 0) 3 c1.out.1 c1.out.2.1 c1.out.2.2 ?_); clear hS hT; intro E w hT hS; unfold Ret) | (go_at_call 25; (with_reducible refine ar_drop hS hT i b0 T (0, 0) 3 c2.out.1 c2.out.2.1 c2.out.2.2 ?_); clear hS hT; intro E w hT hS; unfold Ret) | (go_at_call 12; (with_reducible refine ar_put hS hT i kn 99 T (0, 0) (0, 0) 3 c3.out.1 c3.out.2.1 c3.out.2.2.1 c3.out.2.2.2 ?_); clear hS hT; intro E w hT hS; unfold Ret) | (go_at_call 12; (with_reducible refine ar_put hS hT i (-1) g8 T (0, 0) (0, 0) 3 c4.out.1 c4.out.2.1 c4.out.2.2.1 c4.out.2.2.2 ?_); clear hS hT; intro E w hT hS; unfold Ret) | (go_at_call 16; (with_reducible refine ar_get hS hT i b0 T (0, 0) 3 c5.out.1 c5.out.2.1 c5.out.2.2 ?_); clear hS hT; intro E w hT hS; unfold Ret) | (go_at_call 10; (with_reducible refine ar_make hS hT i m5 true T (0, 0) 2 c6.out.1 c6.out.2.1 c6.out.2.2 ?_); clear hS hT; intro E w hT hS; unfold Ret) | (refine wpList_is (.call { callee := .builtin .len, args := #[_], argTypes := #[_] }) rfl ?_; refine wpList_stp (by kernel_rfl) (stp_val (run_lenv _ _ rfl) ?_)) | (refine wpList_is (.indexAddr _ _ _) rfl ?_; refine wpList_stp (by kernel_rfl) (stp_val (run_idxv _ _ _ rfl) ?_)) | (refine wpList_is (.load _ _) rfl ?_; go_must ((refine wpList_stp (by kernel_rfl) (stp_val (run_ld _ _ rfl hS) ?_)))) | (refine wpList_is (.store _ _ _) rfl ?_; go_must ((refine wpList_stp (by kernel_rfl) (stp_sta _ _ _ rfl hS ?_))); clear hS; intro w hS))
            go_roundw
            case rel => exact ⟨i + 1, E, by omega, by go_num, hT, by simp only [List.append_assoc]; exact hS.pick⟩
            case measure => simp [intOf]; omega
          · have e0 : decide (0 < (nr : Int)) = true := decide_eq_true (by omega)
            have e0' : decide (0 < nr) = true := decide_eq_true (by omega)
            have h0l : 0 < (rtL T i).length := by omega
            have r0 : rtE T i 0 = 0 := (hWo.rt hlt h0l).1
            have hv3 : vaE T i kn = 3 := nr_va r1 (by omega)
            have hv4 : vaE T i c2n = 3 := nr_va (hWo.rtNo hlt (i := c2n) (by rw [hnr]; omega)).1 (by omega)
            have d1 := Lib.hid (nc_st (f := 0) r0 hv3)
            have d2 := Lib.hid (nc_st (f := 0) r0 hv4)
            have d3 : Hid (stAT T i 0 f4 (-1) = T ∧ stAW T i 0 f4 (-1) = (0, 0) ∧ stAV T i 0 f4 (-1) = (0, 0) ∧ stAE T i 0 f4 (-1) = 3) := by
              obtain ⟨j, b0', l, hj, hob, hl4⟩ := hWo.ent (hWo.rt hlt h0l).2.2
              have := (hWo.store hlt h0l rfl hj hob (4 + far) (c := -1) (v := (0, 0)) (.inl ⟨rfl, rfl⟩)).1 (by omega)
              rw [show ((4 + far : Nat) : Int) = f4 by have := hf4'.out; omega] at this
              exact Lib.hid this
            clear r0 r1 r2 hg8 hgb hm5 hin hWo hv1 hnr hkn hv3 hv4 h0l
            go_wp2_with (first | (refine wpList_is (.binOp .sub _ _ _ _) rfl ?_; refine wpList_stp (by kernel_rfl) (stp_val (run_difv _ _ _ _ rfl) ?_)) | (refine wpList_is (.binOp .add _ _ _ _) rfl ?_; refine wpList_stp (by kernel_rfl) (stp_val (run_sumv _ _ _ _ rfl) ?_)) | (refine wpList_is (o := ⟨some 32, _, _, _, _, _⟩) (.alloc _) rfl ?_; go_must (refine wpList_stp (by kernel_rfl) (stp_al _ rfl hS ?_)); clear hS; intro b32 w _ hS) | (refine wpList_is (o := ⟨some 34, _, _, _, _, _⟩) (.alloc _) rfl ?_; go_must (refine wpList_stp (by kernel_rfl) (stp_al _ rfl hS ?_)); clear hS; intro b34 w _ hS) | (refine wpList_is (o := ⟨some 36, _, _, _, _, _⟩) (.alloc _) rfl ?_; go_must (refine wpList_stp (by kernel_rfl) (stp_al _ rfl hS ?_)); clear hS; intro b36 w _ hS) | (refine wpList_is (o := ⟨some 37, _, _, _, _, _⟩) (.alloc _) rfl ?_; go_must (refine wpList_stp (by kernel_rfl) (stp_al _ rfl hS ?_)); clear hS; intro b37 w _ hS) | (refine wpList_is (o := ⟨some 39, _, _, _, _, _⟩) (.alloc _) rfl ?_; go_must (refine wpList_stp (by kernel_rfl) (stp_al _ rfl hS ?_)); clear hS; intro b39 w _ hS) | (refine wpList_is (o := ⟨some 40, _, _, _, _, _⟩) (.alloc _) rfl ?_; go_must (refine wpList_stp (by kernel_rfl) (stp_al _ rfl hS ?_)); clear hS; intro b40 w _ hS) | (refine wpList_is (o := ⟨some 42, _, _, _, _, _⟩) (.alloc _) rfl ?_; go_must (refine wpList_stp (by kernel_rfl) (stp_al _ rfl hS ?_)); clear hS; intro b42 w _ hS) | (refine wpList_is (o := ⟨some 44, _, _, _, _, _⟩) (.alloc _) rfl ?_; go_must (refine wpList_stp (by kernel_rfl) (stp_al _ rfl hS ?_)); clear hS; intro b44 w _ hS) | (go_at_call 13; (with_reducible refine ar_load hS hT i kn 0 T (0, 0) 3 c1.out.1 c1.out.2.1 c1.out.2.2 ?_); clear hS hT; intro E w hT hS; unfold Ret) | (go_at_call 25; (with_reducible refine ar_drop hS hT i b0 T (0, 0) 3 c2.out.1 c2.out.2.1 c2.out.2.2 ?_); clear hS hT; intro E w hT hS; unfold Ret) | (go_at_call 12; (with_reducible refine ar_put hS hT i kn 99 T (0, 0) (0, 0) 3 c3.out.1 c3.out.2.1 c3.out.2.2.1 c3.out.2.2.2 ?_); clear hS hT; intro E w hT hS; unfold Ret) | (go_at_call 12; (with_reducible refine ar_put hS hT i (-1) g8 T (0, 0) (0, 0) 3 c4.out.1 c4.out.2.1 c4.out.2.2.1 c4.out.2.2.2 ?_); clear hS hT; intro E w hT hS; unfold Ret) | (go_at_call 16; (with_reducible refine ar_get hS hT i b0 T (0, 0) 3 c5.out.1 c5.out.2.1 c5.out.2.2 ?_); clear hS hT; intro E w hT hS; unfold Ret) | (go_at_call 10; (with_reducible refine ar_make hS hT i m5 true T (0, 0) 2 c6.out.1 c6.out.2.1 c6.out.2.2 ?_); clear hS hT; intro E w hT hS; unfold Ret) | (refine wpList_is (o := ⟨some 46, _, _, _, _, _⟩) (.alloc _) rfl ?_; go_must (refine wpList_stp (by kernel_rfl) (stp_al _ rfl hS ?_)); clear hS; intro b46 w _ hS) | (refine wpList_is (o := ⟨some 47, _, _, _, _, _⟩) (.alloc _) rfl ?_; go_must (refine wpList_stp (by kernel_rfl) (stp_al _ rfl hS ?_)); clear hS; intro b47 w _ hS) | (refine wpList_is (o := ⟨some 49, _, _, _, _, _⟩) (.alloc _) rfl ?_; go_must (refine wpList_stp (by kernel_rfl) (stp_al _ rfl hS ?_)); clear hS; intro b49 w _ hS) | (refine wpList_is (o := ⟨some 50, _, _, _, _, _⟩) (.alloc _) rfl ?_; go_must (refine wpList_stp (by kernel_rfl) (stp_al _ rfl hS ?_)); clear hS; intro b50 w _ hS) | (refine wpList_is (o := ⟨some 52, _, _, _, _, _⟩) (.alloc _) rfl ?_; go_must (refine wpList_stp (by kernel_rfl) (stp_al _ rfl hS ?_)); clear hS; intro b52 w _ hS) | (refine wpList_is (o := ⟨some 53, _, _, _, _, _⟩) (.alloc _) rfl ?_; go_must (refine wpList_stp (by kernel_rfl) (stp_al _ rfl hS ?_)); clear hS; intro b53 w _ hS) | (go_at_call 11; (with_reducible refine ar_store hS hT i 0 0 kn T (0, 0) (0, 0) 3 d1.out.1 d1.out.2.1 d1.out.2.2.1 d1.out.2.2.2 ?_); clear hS hT; intro E w hT hS; unfold Ret) | (go_at_call 11; (with_reducible refine ar_store hS hT i 0 0 c2n T (0, 0) (0, 0) 3 d2.out.1 d2.out.2.1 d2.out.2.2.1 d2.out.2.2.2 ?_); clear hS hT; intro E w hT hS; unfold Ret) | (go_at_call 11; (with_reducible refine ar_store hS hT i 0 f4 (-1) T (0, 0) (0, 0) 3 d3.out.1 d3.out.2.1 d3.out.2.2.1 d3.out.2.2.2 ?_); clear hS hT; intro E w hT hS; unfold Ret) | (refine wpList_is (.call { callee := .builtin .len, args := #[_], argTypes := #[_] }) rfl ?_; refine wpList_stp (by kernel_rfl) (stp_val (run_lenv _ _ rfl) ?_)) | (refine wpList_is (.indexAddr _ _ _) rfl ?_; refine wpList_stp (by kernel_rfl) (stp_val (run_idxv _ _ _ rfl) ?_)) | (refine wpList_is (.load _ _) rfl ?_; go_must ((refine wpList_stp (by kernel_rfl) (stp_val (run_ld _ _ rfl hS) ?_)))) | (refine wpList_is (.store _ _ _) rfl ?_; go_must ((refine wpList_stp (by kernel_rfl) (stp_sta _ _ _ rfl hS ?_))); clear hS; intro w hS))
            go_roundw
            case rel => exact ⟨i + 1, E, by omega, by go_num, hT, by simp only [List.append_assoc]; exact hS.pick⟩
            case measure => simp [intOf]; omega
        · have dlt : decide ((i : Int) < (mu : Int)) = false := decide_eq_false (by omega)
          have dlt' : decide (i < mu) = false := decide_eq_false hlt
          have nn1 : Hid (nwOk n0 1 = false ∨ (1 : Int) < 1 ∨ 4 < (1 : Int)) := Lib.hid (.inl (by simp only [nwOk, Bool.and_eq_false_iff, decide_eq_false_iff_not]; left; left; omega))
          have nn2 : Hid (nwOk n257 1 = false ∨ (1 : Int) < 1 ∨ 4 < (1 : Int)) := Lib.hid (.inl (by simp only [nwOk, Bool.and_eq_false_iff, decide_eq_false_iff_not]; left; right; omega))
          have nn3 : Hid (nwOk 1 1 = false ∨ n0 < 1 ∨ 4 < n0) := Lib.hid (.inr (.inl (by omega)))
          have nn4 : Hid (nwOk 1 1 = false ∨ m5 < 1 ∨ 4 < m5) := Lib.hid (.inr (.inr (by omega)))
          have nn5 : Hid (nwOk 1 0 = false ∨ (1 : Int) < 1 ∨ 4 < (1 : Int)) := Lib.hid (.inl rfl)
          go_wp2_with (first | (refine wpList_is (.binOp .sub _ _ _ _) rfl ?_; refine wpList_stp (by kernel_rfl) (stp_val (run_difv _ _ _ _ rfl) ?_)) | (refine wpList_is (.binOp .add _ _ _ _) rfl ?_; refine wpList_stp (by kernel_rfl) (stp_val (run_sumv _ _ _ _ rfl) ?_)) | (refine wpList_is (.unOp .neg _ _) rfl ?_; refine wpList_stp (by kernel_rfl) (stp_val (run_negv _ _ rfl) ?_)) | (go_at_call 26; (with_reducible refine ar_new_no hS n0 1 1 (by decide) nn1.out ?_); clear hS; intro w hS; unfold Ret) | (go_at_call 26; (with_reducible refine ar_new_no hS n257 1 1 (by decide) nn2.out ?_); clear hS; intro w hS; unfold Ret) | (go_at_call 26; (with_reducible refine ar_new_no hS 1 n0 1 (by decide) nn3.out ?_); clear hS; intro w hS; unfold Ret) | (go_at_call 26; (with_reducible refine ar_new_no hS 1 m5 1 (by decide) nn4.out ?_); clear hS; intro w hS; unfold Ret) | (go_at_call 26; (with_reducible refine ar_new_no hS 1 1 0 (by decide) nn5.out ?_); clear hS; intro w hS; unfold Ret) | (go_at_call 24; go_must (refine wagrees (by omega) (show WA W bm (1 + zn) mu n [] _ from ⟨T, ms, w0, bs, M, p, bv, vs, us, E, Er, Em, hB0, hS.pick, hT, hvs'.out, hus'.out, hWo'.out⟩) hmu4 ?_); clear hS; intro w hMA; have hS := hMA.st; unfold Ret) | (go_at_call 18; refine works_ok hS ?_; clear hS; intro w hS; unfold Ret) | (refine wpList_is (.call { callee := .builtin .len, args := #[_], argTypes := #[_] }) rfl ?_; refine wpList_stp (by kernel_rfl) (stp_val (run_lenv _ _ rfl) ?_)) | (refine wpList_is (.load _ _) rfl ?_; go_must ((refine wpList_stp (by kernel_rfl) (stp_val (run_ld _ _ rfl hS) ?_)))))
          exact hR _ hS.chg
end Go.Proofs.Ytjlihigodggfcaa
