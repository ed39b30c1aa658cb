/-
  Arenas: the examples of the chapter.
-/
import Derived.Test.YtjlihigodggfcaaGreatArnL
set_option linter.unusedSimpArgs false
set_option linter.unusedVariables false
namespace Go.Proofs.YtjlihigodggfcaaGreat
open Go Go.RowKit Go.Mm
variable {R : Ending → World → Prop} {w : World} {w0 : World} {bs : List Nat} {H H' H1 E : List Ent}

instance : DecidableEq Ob := inferInstanceAs (DecidableEq (Int × List (Int × Int) × Bool))
instance : DecidableEq Hs := inferInstanceAs (DecidableEq (Int × Int × Ob))
instance : DecidableEq Ar := inferInstanceAs (DecidableEq (List Hs × List (List Rf) × List Rf))
abbrev wo2 : Ob := (2, zero4, false)
abbrev wo0 : Ob := (0, zero4, true)
abbrev wo2b : Ob := (2, [(1, 1), (0, 0), (0, 0), (0, 0)], false)
abbrev wf : Hs := (0, 1, zOb)
abbrev wg7 : List Rf := [(0, 0), (0, 0), (0, 0), (0, 0), (0, 0), (0, 0), (0, 0), (0, 1)]
abbrev W0 : Ar := ([wf, wf, wf, wf], [[], []], zero8)
abbrev W1 : Ar := ([(1, 1, wo2), wf, wf, wf], [[(0, 1)], []], zero8)
abbrev W2 : Ar := ([(1, 1, wo2), (1, 1, wo0), wf, wf], [[(0, 1), (1, 1)], []], zero8)
abbrev W3 : Ar := ([(1, 1, wo2b), (1, 1, wo0), wf, wf], [[(0, 1), (1, 1)], []], zero8)
abbrev W4 : Ar := ([(1, 1, wo2b), (1, 1, wo0), wf, wf], [[(0, 1), (1, 1), (1, 1)], []], zero8)
abbrev W6 : Ar := ([(1, 1, wo2b), (1, 1, wo0), wf, wf], [[(0, 1), (1, 1), (1, 1)], []], wg7)
abbrev W7 : Ar := ([(1, 1, wo2b), (1, 1, wo0), wf, wf], [[(0, 1), (1, 1), (1, 1)], [(0, 1)]], wg7)
abbrev W8 : Ar := ([(1, 1, wo2b), (1, 1, wo0), wf, wf], [[(1, 1), (1, 1)], [(0, 1)]], wg7)
theorem f0 : nwA 4 2 1 = W0 := by rfl
theorem f1 : mkAr W0 0 2 false = W1 ∧ mkR (some (some W0.1)) 2 false = (0, 1) ∧ mkE (some (some W0.1)) 2 false = 0 := by decide
theorem f2 : mkAr W1 0 0 true = W2 ∧ mkR (some (some W1.1)) 0 true = (1, 1) ∧ mkE (some (some W1.1)) 0 true = 0 := by decide
theorem f3 : stA W2 0 0 0 1 = W3 ∧ rtE W2 0 0 = 0 ∧ vaE W2 0 1 = 0 ∧ rtR W2 0 0 = (0, 1) ∧ vaR W2 0 1 = (1, 1) ∧ stE (some (some W2.1)) 0 1 0 (1, 1) = 0 ∧ stR (some (some W2.1)) 0 1 0 (1, 1) = (0, 0) := by decide
theorem f4 : giT W3 0 (1, 1) = W4 ∧ ldX W3 0 0 0 = 0 ∧ ldV W3 0 0 0 = (1, 1) := by decide
theorem f5 : ldX W4 0 0 1 = 5 := by decide
theorem f6 : ptA W4 7 (0, 1) = W6 ∧ vaE W4 0 0 = 0 ∧ vaR W4 0 0 = (0, 1) := by decide
theorem f7 : giT W6 1 (0, 1) = W7 ∧ gtX W6 7 = 0 ∧ gtR (some (true, W6.2.2)) 7 = (0, 1) := by decide
theorem f8 : drT W7 0 0 = W8 ∧ rtR W7 0 0 = (0, 1) ∧ rtE W7 0 0 = 0 := by decide
theorem f9 : rtR W8 0 0 = (1, 1) ∧ rtE W8 0 0 = 0 := by decide

set_option maxHeartbeats 4000000 in
set_option maxRecDepth 100000 in
theorem works_ok (hO : St w0 bs w H) (hR : ∀ w', St w0 bs w' H → Ret R (.bool true) w') : Calls Tryz.prog 5 #[] w R := by
  have hS := hO
  clear hO
  have q1 := refE (refB_self 0 1)
  have q2 := refE (refB_self 1 1)
  have q0 := refE (refB_self 0 0)
  have g0 := Lib.hid f0
  have g1 := Lib.hid f1
  have g2 := Lib.hid f2
  have g3 := Lib.hid f3
  have g4 := Lib.hid f4
  have g5 := Lib.hid f5
  have g6 := Lib.hid f6
  have g7 := Lib.hid f7
  have g8 := Lib.hid f8
  have g9 := Lib.hid f9
  go_enter Tryz.func5, Tryz.ntmps5
  simp only [List.append_eq, List.cons_append, List.nil_append]
  go_wp2_with (first | (refine wpList_is (.binOp .eql 25 _ _ _) rfl ?_; refine wpList_stp (by kernel_rfl) (stp_val (run_aeq _ _ _ _ rfl) ?_)) | (refine wpList_is (o := ⟨some 3, _, _, _, _, _⟩) (.alloc _) rfl ?_; go_must (refine wpList_stp (by kernel_rfl) (stp_al _ rfl hS ?_)); clear hS; intro b3 w _ hS) | (refine wpList_is (o := ⟨some 5, _, _, _, _, _⟩) (.alloc _) rfl ?_; go_must (refine wpList_stp (by kernel_rfl) (stp_al _ rfl hS ?_)); clear hS; intro b5 w _ hS) | (refine wpList_is (o := ⟨some 7, _, _, _, _, _⟩) (.alloc _) rfl ?_; go_must (refine wpList_stp (by kernel_rfl) (stp_al _ rfl hS ?_)); clear hS; intro b7 w _ hS) | (refine wpList_is (o := ⟨some 8, _, _, _, _, _⟩) (.alloc _) rfl ?_; go_must (refine wpList_stp (by kernel_rfl) (stp_al _ rfl hS ?_)); clear hS; intro b8 w _ hS) | (refine wpList_is (o := ⟨some 10, _, _, _, _, _⟩) (.alloc _) rfl ?_; go_must (refine wpList_stp (by kernel_rfl) (stp_al _ rfl hS ?_)); clear hS; intro b10 w _ hS) | (refine wpList_is (o := ⟨some 12, _, _, _, _, _⟩) (.alloc _) rfl ?_; go_must (refine wpList_stp (by kernel_rfl) (stp_al _ rfl hS ?_)); clear hS; intro b12 w _ hS) | (refine wpList_is (o := ⟨some 14, _, _, _, _, _⟩) (.alloc _) rfl ?_; go_must (refine wpList_stp (by kernel_rfl) (stp_al _ rfl hS ?_)); clear hS; intro b14 w _ hS) | (refine wpList_is (o := ⟨some 15, _, _, _, _, _⟩) (.alloc _) rfl ?_; go_must (refine wpList_stp (by kernel_rfl) (stp_al _ rfl hS ?_)); clear hS; intro b15 w _ hS) | (refine wpList_is (o := ⟨some 17, _, _, _, _, _⟩) (.alloc _) rfl ?_; go_must (refine wpList_stp (by kernel_rfl) (stp_al _ rfl hS ?_)); clear hS; intro b17 w _ hS) | (refine wpList_is (o := ⟨some 19, _, _, _, _, _⟩) (.alloc _) rfl ?_; go_must (refine wpList_stp (by kernel_rfl) (stp_al _ rfl hS ?_)); clear hS; intro b19 w _ hS) | (refine wpList_is (o := ⟨some 21, _, _, _, _, _⟩) (.alloc _) rfl ?_; go_must (refine wpList_stp (by kernel_rfl) (stp_al _ rfl hS ?_)); clear hS; intro b21 w _ hS) | (go_at_call 6; go_must (refine ar_new_ok hS 4 1 2 (by decide) (by decide) (by decide) W0 g0.out ?_); clear hS; intro p E w hT hS; have hpn : p.isNone = false := (by obtain ⟨b, _, _, _, _, _, _, rfl, _⟩ := hT; rfl); unfold Ret) | (go_at_call 16; (with_reducible refine ar_make_ok hS (hT : AA p W0 E) 0 2 false (by decide) (by decide) (by decide) g1.out.2.2 W1 (0, 1) g1.out.1 g1.out.2.1 ?_); clear hS hT; intro E w hT hS; unfold Ret) | (go_at_call 16; (with_reducible refine ar_make_ok hS (hT : AA p W1 E) 0 0 true (by decide) (by decide) (by decide) g2.out.2.2 W2 (1, 1) g2.out.1 g2.out.2.1 ?_); clear hS hT; intro E w hT hS; unfold Ret) | (go_at_call 17; go_must (refine ar_store_ok hS (hT : AA p W2 E) 0 0 0 1 g3.out.2.1 g3.out.2.2.1 (0, 1) (1, 1) (0, 0) g3.out.2.2.2.1 g3.out.2.2.2.2.1 g3.out.2.2.2.2.2.1 g3.out.2.2.2.2.2.2 W3 g3.out.1 ?_); clear hS hT; intro E w hT hS; unfold Ret) | (go_at_call 18; (with_reducible refine ar_load_ok hS (hT : AA p W3 E) 0 0 0 (by decide) g4.out.2.1 (by decide) (1, 1) g4.out.2.2 ?_); clear hS hT; intro E w hT hS; rw [g4.out.1] at hT; unfold Ret) | (go_at_call 18; (with_reducible refine ar_load_err hS (hT : AA p W4 E) 0 0 1 (by decide) 5 g5.out (.inl (by decide)) 5 (by decide) ?_); clear hS; intro w _ hS; unfold Ret) | (go_at_call 19; go_must (refine ar_put_ok hS (hT : AA p W4 E) 0 0 7 g6.out.2.1 (by decide) W6 (0, 1) (0, 0) g6.out.2.2 (by decide) g6.out.1 ?_); clear hS hT; intro E w hT hS; unfold Ret) | (go_at_call 20; go_must (refine ar_get_ok hS (hT : AA p W6 E) 1 7 (by decide) g7.out.2.1 (by decide) (0, 1) g7.out.2.2 ?_); clear hS hT; intro E w hT hS; rw [g7.out.1] at hT; unfold Ret) | (go_at_call 21; go_must (refine ar_drop hS (hT : AA p W7 E) 0 0 W8 (0, 1) 0 g8.out.1 g8.out.2.1 g8.out.2.2 ?_); clear hS hT; intro E w hT hS; unfold Ret) | (go_at_call 22; go_must (refine ar_root hS (hT : AA p W8 E) 0 0 (1, 1) 0 g9.out.1 g9.out.2 ?_); clear hS; intro w _ hS; have hS : St w0 bs w (⟨b3, #[.int .i64 0, .int .u32 1], 25, true⟩ :: ⟨b5, #[.int .i64 1, .int .u32 1], 25, true⟩ :: ⟨b7, #[.int .i64 0, .int .u32 0], 25, true⟩ :: ⟨b8, #[.int .i64 1, .int .u32 1], 25, true⟩ :: ⟨b10, #[.int .i64 1, .int .u32 1], 25, true⟩ :: ⟨b15, #[.int .i64 0, .int .u32 1], 25, true⟩ :: ⟨b17, #[.int .i64 0, .int .u32 1], 25, true⟩ :: ⟨b19, #[.int .i64 0, .int .u32 1], 25, true⟩ :: (E ++ H)) := hS.pick; unfold Ret) | (refine wpList_is (.build _ _) rfl ?_; go_must (refine wpList_stp (by kernel_rfl) (stp_val (run_bd _ _ rfl) ?_))) | (refine wpList_is (.load _ _) rfl ?_; go_must ((refine wpList_stp (by kernel_rfl) (stp_val (run_lda _ _ rfl hS) ?_)))) | (refine wpList_is (.store _ _ _) rfl ?_; go_must ((refine wpList_stp (by kernel_rfl) (stp_sta _ _ _ rfl hS ?_))); clear hS; intro w hS))
  exact hR _ hS.pick
end Go.Proofs.YtjlihigodggfcaaGreat
