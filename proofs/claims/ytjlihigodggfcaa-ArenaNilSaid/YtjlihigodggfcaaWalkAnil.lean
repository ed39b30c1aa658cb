/-
  The walk of ArenaNil.
-/
import Derived.Test.YtjlihigodggfcaaArnM
import Derived.Test.YtjlihigodggfcaaArnN
set_option linter.unusedSimpArgs false
set_option linter.unusedVariables false
namespace Go.Proofs.Ytjlihigodggfcaa
open Go Go.RowKit Go.Mm
variable {R : Ending → World → Prop}

instance an_e : ElemT Try.prog 24 1 8 #[.pointer none] := ⟨by kernel_rfl⟩
instance an_s : SliceT Try.prog 72 24 := ⟨by kernel_rfl⟩
instance an_b : BuildT Try.prog 71 [] (arC none 0 0 [none, none, none, none] none) := ⟨fun w => by kernel_rfl⟩
instance an_a : AggT Try.prog 65 5 := ⟨by kernel_rfl, by kernel_rfl⟩
instance an_f0 {b off : Nat} : FieldAt Try.prog 65 0 b off off := ⟨fun w => by kernel_rfl⟩
instance an_f1 {b off : Nat} : FieldAt Try.prog 65 1 b off (off + 1) := ⟨fun w => by kernel_rfl⟩
instance an_f2 {b off : Nat} : FieldAt Try.prog 65 2 b off (off + 2) := ⟨fun w => by kernel_rfl⟩
instance an_f3 {b off : Nat} : FieldAt Try.prog 65 3 b off (off + 3) := ⟨fun w => by kernel_rfl⟩
instance an_f4 {b off : Nat} : FieldAt Try.prog 65 4 b off (off + 4) := ⟨fun w => by kernel_rfl⟩
theorem ok_step {cs : List Value} (h : OkCells [.i .i64, .i .i64, .i .i64, .i .i64, .i .i64] cs) : ∃ a b c d e : Int, cs = [.int .i64 a, .int .i64 b, .int .i64 c, .int .i64 d, .int .i64 e] := by
  cases h with
  | cons h1 h =>
    cases h with
    | cons h2 h =>
      cases h with
      | cons h3 h =>
        cases h with
        | cons h4 h =>
          cases h with
          | cons h5 h =>
            cases h
            obtain ⟨a, rfl, _⟩ := h1
            obtain ⟨b, rfl, _⟩ := h2
            obtain ⟨c, rfl, _⟩ := h3
            obtain ⟨d, rfl, _⟩ := h4
            obtain ⟨e, rfl, _⟩ := h5
            exact ⟨a, b, c, d, e, rfl⟩
theorem ok_ref2 {cs : List Value} (h : OkCells [.i .i64, .i .u32] cs) : ∃ a b : Int, cs = [.int .i64 a, .int .u32 b] := by
  cases h with
  | cons h1 h =>
    cases h with
    | cons h2 h =>
      cases h
      obtain ⟨a, rfl, _⟩ := h1
      obtain ⟨b, rfl, _⟩ := h2
      exact ⟨a, b, rfl⟩

set_option maxHeartbeats 8000000 in
set_option maxRecDepth 100000 in
theorem walk_anil {W : World} (cs : List Value) (wc : OkCells [.i .i64, .i .i64, .i .i64, .i .i64, .i .i64] cs) (ds : List Value) (wd : OkCells [.i .i64, .i .u32] ds) (hR : ∀ w', Chg W w' [] → Ret R (.bool true) w') :
    Calls Try.prog 7 #[.agg cs.toArray, .agg ds.toArray] W R := by
  obtain ⟨x1, x2, x3, x4, x5, rfl⟩ := ok_step wc
  obtain ⟨s, g, rfl⟩ := ok_ref2 wd
  have hS : St W [] W [] := St.start0
  have q0 := refE (refB_self 0 0)
  have hh9 : CellAt (objC 0 zero4 false) 9 (.bool false) := ⟨by rfl⟩
  have hh09 : CellAt (objC 0 zero4 false) (0 + 9) (.bool false) := ⟨by rfl⟩
  have hl0 : LenV Try.prog 44 (.slice none 0 0) 0 := RS.nil.len rfl
  clear wc wd
  go_enter Try.func7, Try.ntmps7
  simp only [List.append_eq, List.cons_append, List.nil_append]
  go_wp2_with (first | go_skip | (refine wpList_is (.box 65 _) rfl ?_; go_must (refine wpList_stp (by kernel_rfl) (stp_bx _ _ rfl hS ?_)); clear hS; intro bs w _ hS) | (refine wpList_is (.box 29 _) rfl ?_; go_must (refine wpList_stp (by kernel_rfl) (stp_bx _ _ rfl hS ?_)); clear hS; intro bx w _ hS) | (refine wpList_is (.box 71 _) rfl ?_; go_must (refine wpList_stp (by kernel_rfl) (stp_bx _ _ rfl hS ?_)); clear hS; intro ba w _ hS) | (refine wpList_is (.buildSlice _ _ _) rfl ?_; go_must (refine wpList_stp (by kernel_rfl) (stp_bsl (size := 1) (e := 24) _ 2 [(0, _), (1, _)] rfl hS (by decide) rfl (by decide) (by decide) ?_)); clear hS; intro bl w _ hS) | go_skip | (refine wpList_is (.call { callee := .builtin .len, args := #[_], argTypes := #[_] }) rfl ?_; refine wpList_stp (by kernel_rfl) (stp_val (run_lenv _ _ rfl) ?_)) | (refine wpList_is (.slice _ _ none (some _) none) rfl ?_; refine wpList_stp (by kernel_rfl) (stp_val (run_prev _ _ _ rfl) ?_)) | (refine wpList_is (.indexAddr _ _ _) rfl ?_; refine wpList_stp (by kernel_rfl) (stp_val (run_idxv _ _ _ rfl) ?_)) | go_skip | (refine wpList_is (.build _ _) rfl ?_; go_must (refine wpList_stp (by kernel_rfl) (stp_val (run_bd _ _ rfl) ?_))) | (refine wpList_is (.call { callee := .builtin .clear, args := #[_], argTypes := #[_] }) rfl ?_; go_must (refine wpList_stp (by kernel_rfl) (stp_cl _ _ rfl hS (by decide) ?_)); clear hS; intro w hS) | (refine wpList_is (.load _ _) rfl ?_; go_must (first | refine wpList_stp (by kernel_rfl) (stp_val (run_ld _ _ rfl hS) ?_) | refine wpList_stp (by kernel_rfl) (stp_val (run_lda _ _ rfl hS) ?_) | refine wpList_stp (by kernel_rfl) (stp_val (run_ld0 _ _ rfl hS) ?_) | refine wpList_stp (by kernel_rfl) (stp_val (run_lda0 _ _ rfl hS) ?_))) | (refine wpList_is (.store _ _ _) rfl ?_; go_must (first | refine wpList_stp (by kernel_rfl) (stp_st _ _ _ rfl hS ?_) | refine wpList_stp (by kernel_rfl) (stp_sta _ _ _ rfl hS ?_)); clear hS; intro w hS) | (refine wpList_is (.alloc _) rfl ?_; go_must (refine wpList_stp (by kernel_rfl) (stp_al _ rfl hS ?_)); clear hS; intro bN w hbN hS) | (refine wpList_is (.box _ _) rfl ?_; go_must (refine wpList_stp (by kernel_rfl) (stp_bx _ _ rfl hS ?_)); clear hS; intro bN w hbN hS) | (refine wpList_is (.binOp .eql _ _ (.const (.slice none _ _)) _) rfl ?_; refine wpList_stp (by kernel_rfl) (stp_val (run_nse _ _ _ rfl) ?_)) | (refine wpList_is (.binOp .neq _ _ (.const (.slice none _ _)) _) rfl ?_; refine wpList_stp (by kernel_rfl) (stp_val (run_nsn _ _ _ rfl) ?_)))
  have hS0 : St W [] _ (⟨bl, #[.pointer none, .pointer (some ⟨ba, 0, none⟩)], 24, true⟩ :: ⟨ba, arC none 0 0 [none, none, none, none] none, 71, true⟩ :: ⟨bx, #[.int .i64 s, .int .u32 g], 29, true⟩ :: ⟨bs, #[.int .i64 x1, .int .i64 x2, .int .i64 x3, .int .i64 x4, .int .i64 x5], 65, true⟩ :: []) := hS.pick
  clear hS
  go_loopw [36] (fun u wr => (u = .int .i64 0 ∨ u = .int .i64 1 ∨ u = .int .i64 2) ∧ St W [] wr (⟨bl, #[.pointer none, .pointer (some ⟨ba, 0, none⟩)], 24, true⟩ :: ⟨ba, arC none 0 0 [none, none, none, none] none, 71, true⟩ :: ⟨bx, #[.int .i64 s, .int .u32 g], 29, true⟩ :: ⟨bs, #[.int .i64 x1, .int .i64 x2, .int .i64 x3, .int .i64 x4, .int .i64 x5], 65, true⟩ :: [])) (fun u _ => 2 - (intOf u).toNat)
  case atStart => exact ⟨.inl rfl, hS0⟩
  case round =>
    clear hS0
    obtain ⟨hu, hS⟩ := hrel
    have i0 : IdxV Try.prog 72 (.slice (some ⟨bl, 0, none⟩) 2 2) 0 ⟨bl, 0, none⟩ := idx_of (i := 0) Try.underlying72 (z := 1) (by kernel_rfl) (by decide)
    have i1 : IdxV Try.prog 72 (.slice (some ⟨bl, 0, none⟩) 2 2) 1 ⟨bl, 1, none⟩ := idx_of (i := 1) Try.underlying72 (z := 1) (by kernel_rfl) (by decide)
    rcases hu with rfl | rfl | rfl
    · have hNN : ∀ H : List Ent, NoA none H := fun _ => .inl rfl
      go_wp2_with (first | go_skip | (go_at_call 10; refine ar_make_no hS (hNN _) _ _ _ ?_; clear hS; intro w hS; unfold Ret) | (go_at_call 13; refine ar_load_no hS (hNN _) _ _ _ ?_; clear hS; intro w hS; unfold Ret) | (go_at_call 11; refine ar_store_no hS (hNN _) _ _ _ _ ?_; clear hS; intro w hS; unfold Ret) | (go_at_call 25; refine ar_drop_no hS (hNN _) _ _ ?_; clear hS; intro w hS; unfold Ret) | (go_at_call 12; refine ar_put_no hS (hNN _) _ _ _ ?_; clear hS; intro w hS; unfold Ret) | (go_at_call 16; refine ar_get_no hS (hNN _) _ _ ?_; clear hS; intro w hS; unfold Ret) | (go_at_call 27; refine ar_root_no hS (hNN _) _ _ ?_; clear hS; intro w hS; unfold Ret) | (go_at_call 17; refine ar_stack_no hS (hNN _) _ ?_; clear hS; intro w hS; unfold Ret) | (go_at_call 22; refine ar_object_no hS (hNN _) _ _ ?_; clear hS; intro w hS; unfold Ret) | (go_at_call 28; refine ar_sizes_no hS (hNN _) ?_; clear hS; intro w hS; unfold Ret) | (go_at_call 29; refine ar_free_no hS (hNN _) _ _ ?_; clear hS; intro w hS; unfold Ret) | (go_at_call 14; refine ar_heap_no hS (hNN _) ?_; clear hS; intro w hS; unfold Ret) | (go_at_call 20; refine ar_globals_no hS (hNN _) ?_; clear hS; intro w hS; unfold Ret) | (go_at_call 30; refine ar_copy_no hS (hNN _) ?_; clear hS; intro w hS; unfold Ret) | (refine wpList_is (.binOp .neq 29 _ _ _) rfl ?_; refine wpList_stp (by kernel_rfl) (stp_val (run_ane _ _ _ _ rfl) ?_)) | go_skip | (refine wpList_is (.call { callee := .builtin .len, args := #[_], argTypes := #[_] }) rfl ?_; refine wpList_stp (by kernel_rfl) (stp_val (run_lenv _ _ rfl) ?_)) | (refine wpList_is (.slice _ _ none (some _) none) rfl ?_; refine wpList_stp (by kernel_rfl) (stp_val (run_prev _ _ _ rfl) ?_)) | (refine wpList_is (.indexAddr _ _ _) rfl ?_; refine wpList_stp (by kernel_rfl) (stp_val (run_idxv _ _ _ rfl) ?_)) | go_skip | (refine wpList_is (.build _ _) rfl ?_; go_must (refine wpList_stp (by kernel_rfl) (stp_val (run_bd _ _ rfl) ?_))) | (refine wpList_is (.call { callee := .builtin .clear, args := #[_], argTypes := #[_] }) rfl ?_; go_must (refine wpList_stp (by kernel_rfl) (stp_cl _ _ rfl hS (by decide) ?_)); clear hS; intro w hS) | (refine wpList_is (.load _ _) rfl ?_; go_must (first | refine wpList_stp (by kernel_rfl) (stp_val (run_ld _ _ rfl hS) ?_) | refine wpList_stp (by kernel_rfl) (stp_val (run_lda _ _ rfl hS) ?_) | refine wpList_stp (by kernel_rfl) (stp_val (run_ld0 _ _ rfl hS) ?_) | refine wpList_stp (by kernel_rfl) (stp_val (run_lda0 _ _ rfl hS) ?_))) | (refine wpList_is (.store _ _ _) rfl ?_; go_must (first | refine wpList_stp (by kernel_rfl) (stp_st _ _ _ rfl hS ?_) | refine wpList_stp (by kernel_rfl) (stp_sta _ _ _ rfl hS ?_)); clear hS; intro w hS) | (refine wpList_is (.alloc _) rfl ?_; go_must (refine wpList_stp (by kernel_rfl) (stp_al _ rfl hS ?_)); clear hS; intro bN w hbN hS) | (refine wpList_is (.box _ _) rfl ?_; go_must (refine wpList_stp (by kernel_rfl) (stp_bx _ _ rfl hS ?_)); clear hS; intro bN w hbN hS) | (refine wpList_is (.binOp .eql _ _ (.const (.slice none _ _)) _) rfl ?_; refine wpList_stp (by kernel_rfl) (stp_val (run_nse _ _ _ rfl) ?_)) | (refine wpList_is (.binOp .neq _ _ (.const (.slice none _ _)) _) rfl ?_; refine wpList_stp (by kernel_rfl) (stp_val (run_nsn _ _ _ rfl) ?_)))
      go_roundw
      case rel => exact ⟨.inr (.inl rfl), hS.pick⟩
      case measure => simp [intOf]
    · go_wp2_with (first | go_skip | (go_at_call 10; refine ar_make_no hS (.inr ⟨_, rfl, inferInstance⟩) _ _ _ ?_; clear hS; intro w hS; unfold Ret) | (go_at_call 13; refine ar_load_no hS (.inr ⟨_, rfl, inferInstance⟩) _ _ _ ?_; clear hS; intro w hS; unfold Ret) | (go_at_call 11; refine ar_store_no hS (.inr ⟨_, rfl, inferInstance⟩) _ _ _ _ ?_; clear hS; intro w hS; unfold Ret) | (go_at_call 25; refine ar_drop_no hS (.inr ⟨_, rfl, inferInstance⟩) _ _ ?_; clear hS; intro w hS; unfold Ret) | (go_at_call 12; refine ar_put_no hS (.inr ⟨_, rfl, inferInstance⟩) _ _ _ ?_; clear hS; intro w hS; unfold Ret) | (go_at_call 16; refine ar_get_no hS (.inr ⟨_, rfl, inferInstance⟩) _ _ ?_; clear hS; intro w hS; unfold Ret) | (go_at_call 27; refine ar_root_no hS (.inr ⟨_, rfl, inferInstance⟩) _ _ ?_; clear hS; intro w hS; unfold Ret) | (go_at_call 17; refine ar_stack_no hS (.inr ⟨_, rfl, inferInstance⟩) _ ?_; clear hS; intro w hS; unfold Ret) | (go_at_call 22; refine ar_object_no hS (.inr ⟨_, rfl, inferInstance⟩) _ _ ?_; clear hS; intro w hS; unfold Ret) | (go_at_call 28; refine ar_sizes_no hS (.inr ⟨_, rfl, inferInstance⟩) ?_; clear hS; intro w hS; unfold Ret) | (go_at_call 29; refine ar_free_no hS (.inr ⟨_, rfl, inferInstance⟩) _ _ ?_; clear hS; intro w hS; unfold Ret) | (go_at_call 14; refine ar_heap_no hS (.inr ⟨_, rfl, inferInstance⟩) ?_; clear hS; intro w hS; unfold Ret) | (go_at_call 20; refine ar_globals_no hS (.inr ⟨_, rfl, inferInstance⟩) ?_; clear hS; intro w hS; unfold Ret) | (go_at_call 30; refine ar_copy_no hS (.inr ⟨_, rfl, inferInstance⟩) ?_; clear hS; intro w hS; unfold Ret) | (refine wpList_is (.binOp .neq 29 _ _ _) rfl ?_; refine wpList_stp (by kernel_rfl) (stp_val (run_ane _ _ _ _ rfl) ?_)) | go_skip | (refine wpList_is (.call { callee := .builtin .len, args := #[_], argTypes := #[_] }) rfl ?_; refine wpList_stp (by kernel_rfl) (stp_val (run_lenv _ _ rfl) ?_)) | (refine wpList_is (.slice _ _ none (some _) none) rfl ?_; refine wpList_stp (by kernel_rfl) (stp_val (run_prev _ _ _ rfl) ?_)) | (refine wpList_is (.indexAddr _ _ _) rfl ?_; refine wpList_stp (by kernel_rfl) (stp_val (run_idxv _ _ _ rfl) ?_)) | go_skip | (refine wpList_is (.build _ _) rfl ?_; go_must (refine wpList_stp (by kernel_rfl) (stp_val (run_bd _ _ rfl) ?_))) | (refine wpList_is (.call { callee := .builtin .clear, args := #[_], argTypes := #[_] }) rfl ?_; go_must (refine wpList_stp (by kernel_rfl) (stp_cl _ _ rfl hS (by decide) ?_)); clear hS; intro w hS) | (refine wpList_is (.load _ _) rfl ?_; go_must (first | refine wpList_stp (by kernel_rfl) (stp_val (run_ld _ _ rfl hS) ?_) | refine wpList_stp (by kernel_rfl) (stp_val (run_lda _ _ rfl hS) ?_) | refine wpList_stp (by kernel_rfl) (stp_val (run_ld0 _ _ rfl hS) ?_) | refine wpList_stp (by kernel_rfl) (stp_val (run_lda0 _ _ rfl hS) ?_))) | (refine wpList_is (.store _ _ _) rfl ?_; go_must (first | refine wpList_stp (by kernel_rfl) (stp_st _ _ _ rfl hS ?_) | refine wpList_stp (by kernel_rfl) (stp_sta _ _ _ rfl hS ?_)); clear hS; intro w hS) | (refine wpList_is (.alloc _) rfl ?_; go_must (refine wpList_stp (by kernel_rfl) (stp_al _ rfl hS ?_)); clear hS; intro bN w hbN hS) | (refine wpList_is (.box _ _) rfl ?_; go_must (refine wpList_stp (by kernel_rfl) (stp_bx _ _ rfl hS ?_)); clear hS; intro bN w hbN hS) | (refine wpList_is (.binOp .eql _ _ (.const (.slice none _ _)) _) rfl ?_; refine wpList_stp (by kernel_rfl) (stp_val (run_nse _ _ _ rfl) ?_)) | (refine wpList_is (.binOp .neq _ _ (.const (.slice none _ _)) _) rfl ?_; refine wpList_stp (by kernel_rfl) (stp_val (run_nsn _ _ _ rfl) ?_)))
      go_roundw
      case rel => exact ⟨.inr (.inr rfl), hS.pick⟩
      case measure => simp [intOf]
    · go_wp2_with (first | go_skip | (go_at_call 18; refine works_ok hS ?_; clear hS; intro w hS; unfold Ret) | go_skip | (refine wpList_is (.call { callee := .builtin .len, args := #[_], argTypes := #[_] }) rfl ?_; refine wpList_stp (by kernel_rfl) (stp_val (run_lenv _ _ rfl) ?_)) | (refine wpList_is (.slice _ _ none (some _) none) rfl ?_; refine wpList_stp (by kernel_rfl) (stp_val (run_prev _ _ _ rfl) ?_)) | (refine wpList_is (.indexAddr _ _ _) rfl ?_; refine wpList_stp (by kernel_rfl) (stp_val (run_idxv _ _ _ rfl) ?_)) | go_skip | (refine wpList_is (.build _ _) rfl ?_; go_must (refine wpList_stp (by kernel_rfl) (stp_val (run_bd _ _ rfl) ?_))) | (refine wpList_is (.call { callee := .builtin .clear, args := #[_], argTypes := #[_] }) rfl ?_; go_must (refine wpList_stp (by kernel_rfl) (stp_cl _ _ rfl hS (by decide) ?_)); clear hS; intro w hS) | (refine wpList_is (.load _ _) rfl ?_; go_must (first | refine wpList_stp (by kernel_rfl) (stp_val (run_ld _ _ rfl hS) ?_) | refine wpList_stp (by kernel_rfl) (stp_val (run_lda _ _ rfl hS) ?_) | refine wpList_stp (by kernel_rfl) (stp_val (run_ld0 _ _ rfl hS) ?_) | refine wpList_stp (by kernel_rfl) (stp_val (run_lda0 _ _ rfl hS) ?_))) | (refine wpList_is (.store _ _ _) rfl ?_; go_must (first | refine wpList_stp (by kernel_rfl) (stp_st _ _ _ rfl hS ?_) | refine wpList_stp (by kernel_rfl) (stp_sta _ _ _ rfl hS ?_)); clear hS; intro w hS) | (refine wpList_is (.alloc _) rfl ?_; go_must (refine wpList_stp (by kernel_rfl) (stp_al _ rfl hS ?_)); clear hS; intro bN w hbN hS) | (refine wpList_is (.box _ _) rfl ?_; go_must (refine wpList_stp (by kernel_rfl) (stp_bx _ _ rfl hS ?_)); clear hS; intro bN w hbN hS) | (refine wpList_is (.binOp .eql _ _ (.const (.slice none _ _)) _) rfl ?_; refine wpList_stp (by kernel_rfl) (stp_val (run_nse _ _ _ rfl) ?_)) | (refine wpList_is (.binOp .neq _ _ (.const (.slice none _ _)) _) rfl ?_; refine wpList_stp (by kernel_rfl) (stp_val (run_nsn _ _ _ rfl) ?_)))
      exact hR _ hS.chg
end Go.Proofs.Ytjlihigodggfcaa
