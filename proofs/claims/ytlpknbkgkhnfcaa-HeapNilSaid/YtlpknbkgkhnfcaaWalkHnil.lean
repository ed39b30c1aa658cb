/-
  The walk of HeapNil.
-/
import Derived.Test.YtlpknbkgkhnfcaaHeapG
set_option linter.unusedSimpArgs false
set_option linter.unusedVariables false
namespace Go.Proofs.Ytlpknbkgkhnfcaa
open Go.RowKit Go.Mm
variable {R : Ending → World → Prop}

instance (priority := 500) cutNilH {H : List Ent} : Cut H [] H := ⟨[], H, rfl, rfl⟩
instance hn_e : ElemT Try.prog 30 1 8 #[.pointer none] := ⟨by kernel_rfl⟩
instance hn_s : SliceT Try.prog 75 30 := ⟨by kernel_rfl⟩
instance hn_b : BuildT Try.prog 74 [] (hpC none 0 zero256) := ⟨fun w => by kernel_rfl⟩
instance hn_a : AggT Try.prog 65 9 := ⟨by kernel_rfl, by kernel_rfl⟩
instance hn_1 {b off : Nat} : FieldAt Try.prog 65 1 b off (off + 1) := ⟨fun w => by kernel_rfl⟩
instance hn_2 {b off : Nat} : FieldAt Try.prog 65 2 b off (off + 2) := ⟨fun w => by kernel_rfl⟩
instance hn_5 {b off : Nat} : FieldAt Try.prog 65 5 b off (off + 5) := ⟨fun w => by kernel_rfl⟩
instance hn_6 {b off : Nat} : FieldAt Try.prog 65 6 b off (off + 7) := ⟨fun w => by kernel_rfl⟩

theorem ok_hstep {cs : List Value} (h : OkCells [.i .i64, .i .i64, .b, .i .u8, .i .u8, .i .i64, .i .u32, .i .i64, .i .u32] cs) :
    ∃ (d n : Int) (hd : Bool) (kn vl rs rg vs vg : Int), cs = [.int .i64 d, .int .i64 n, .bool hd, .int .u8 kn, .int .u8 vl, .int .i64 rs, .int .u32 rg, .int .i64 vs, .int .u32 vg] ∧ (Lit.int .u32 rg).wf = true ∧ (Lit.int .u32 vg).wf = true := by
  cases h with
  | cons h1 h => cases h with
    | cons h2 h => cases h with
      | cons h3 h => cases h with
        | cons h4 h => cases h with
          | cons h5 h => cases h with
            | cons h6 h => cases h with
              | cons h7 h => cases h with
                | cons h8 h => cases h with
                  | cons h9 h =>
                    cases h
                    obtain ⟨d, rfl, _⟩ := h1
                    obtain ⟨n, rfl, _⟩ := h2
                    obtain ⟨hd, rfl⟩ := h3
                    obtain ⟨kn, rfl, _⟩ := h4
                    obtain ⟨vl, rfl, _⟩ := h5
                    obtain ⟨rs, rfl, _⟩ := h6
                    obtain ⟨rg, rfl, w7⟩ := h7
                    obtain ⟨vs, rfl, _⟩ := h8
                    obtain ⟨vg, rfl, w9⟩ := h9
                    exact ⟨d, n, hd, kn, vl, rs, rg, vs, vg, rfl, w7, w9⟩
set_option maxHeartbeats 2000000 in
set_option maxRecDepth 100000 in
theorem walk_hnil {W : World} (cs : List Value) (wc : OkCells [.i .i64, .i .i64, .b, .i .u8, .i .u8, .i .i64, .i .u32, .i .i64, .i .u32] cs) (hR : ∀ w', Chg W w' [] → Ret R (.bool true) w') :
    Calls Try.prog 9 #[.agg cs.toArray] W R := by
  obtain ⟨d, n, hd, kn, vl, rs, rg, vs, vg, rfl, wrg, wvg⟩ := ok_hstep wc
  have hS : St W [] W [] := St.start0
  have hvg := bounds_u32 wvg
  have i1 := hpAll (t := none) (z := 0) (O := zero256) (by rfl)
  have i2 : OneCells (hpC none 0 zero256) := hpOnes
  go_enter Try.func9, Try.ntmps9
  simp only [List.append_eq, List.cons_append, List.nil_append]
  go_wp2_with (first | go_skip | (refine wpList_is (.box 65 _) rfl ?_; go_must (refine wpList_stp rfl (stp_bx _ _ rfl hS ?_)); clear hS; intro bx w _ hS) | (refine wpList_is (.box 74 _) rfl ?_; go_must (refine wpList_stp rfl (stp_bx _ _ rfl hS ?_)); clear hS; intro bz w _ hS) | (refine wpList_is (.buildSlice _ _ _) rfl ?_; go_must (refine wpList_stp rfl (stp_bsl _ _ _ rfl hS (by decide) rfl (by decide) (by decide) ?_)); clear hS; intro bc w hbN hS) | go_skip | (refine wpList_is (.build _ _) rfl ?_; go_must (refine wpList_stp rfl (stp_val (run_bd _ _ rfl) ?_))) | (refine wpList_is (.call { callee := .builtin .clear, args := #[_], argTypes := #[_] }) rfl ?_; go_must (refine wpList_stp rfl (stp_cl _ _ rfl hS (by decide) ?_)); clear hS; intro w hS) | (refine wpList_is (.load _ _) rfl ?_; go_must (first | refine wpList_stp rfl (stp_val (run_ld _ _ rfl hS) ?_) | refine wpList_stp rfl (stp_val (run_lda _ _ rfl hS) ?_) | refine wpList_stp rfl (stp_val (run_ld0 _ _ rfl hS) ?_) | refine wpList_stp rfl (stp_val (run_lda0 _ _ rfl hS) ?_))) | (refine wpList_is (.store _ _ _) rfl ?_; go_must (first | refine wpList_stp rfl (stp_st _ _ _ rfl hS ?_) | refine wpList_stp rfl (stp_sta _ _ _ rfl hS ?_)); clear hS; intro w hS) | (refine wpList_is (.alloc _) rfl ?_; go_must (refine wpList_stp rfl (stp_al _ rfl hS ?_)); clear hS; intro bN w hbN hS) | (refine wpList_is (.box _ _) rfl ?_; go_must (refine wpList_stp rfl (stp_bx _ _ rfl hS ?_)); clear hS; intro bN w hbN hS) | (refine wpList_is (.binOp .eql _ _ (.const (.slice none _ _)) _) rfl ?_; refine wpList_stp rfl (stp_val (run_nse _ _ _ rfl) ?_)) | (refine wpList_is (.binOp .neq _ _ (.const (.slice none _ _)) _) rfl ?_; refine wpList_stp rfl (stp_val (run_nsn _ _ _ rfl) ?_)))
  clear i1 i2
  have z1 := objH (n := 0) (h := false) (F := zero4) rfl
  have hT1 : HA (some ⟨bz, 0, none⟩) (some none) [⟨bz, hpC none 0 zero256, 74, true⟩] := ⟨bz, rfl, rfl⟩
  go_loopw [19] (fun u wr => ∃ (j : Nat) (Ez : List Ent), j ≤ 2 ∧ u = .int .i64 j ∧ HA (some ⟨bz, 0, none⟩) (some none) Ez ∧ St W [] wr (⟨bc, #[.pointer none, .pointer (some ⟨bz, 0, none⟩)], 30, true⟩ :: (Ez ++ [⟨bx, #[.int .i64 d, .int .i64 n, .bool hd, .int .u8 kn, .int .u8 vl, .int .i64 rs, .int .u32 rg, .int .i64 vs, .int .u32 vg], 65, true⟩]))) (fun u _ => 2 - (intOf u).toNat)
  case atStart => exact ⟨0, _, by omega, rfl, hT1, hS.pick⟩
  case round =>
    clear hS
    clear hT1
    obtain ⟨j, Ez, hk, rfl, hT1, hS⟩ := hrel
    have h012 : j = 0 ∨ j = 1 ∨ j = 2 := by omega
    rcases h012 with rfl | rfl | rfl
    · have hT0 := HA.none
      have hl : (alH none).length = 0 := by rfl
      have hl' := Lib.hid hl
      clear hl
      have q := refE (show refB 0 0 0 0 = true by decide)
      go_wp2_with (first | go_skip | (go_at_call 17; refine hp_make hS hT0 n hd none (0, 0) 1 (by rfl) (by rfl) (by rfl) ?_; clear hS hT0; intro Ex w hT0 hS; unfold Ret) | (go_at_call 21; refine hp_load hS hT0 rs rg n (0, 0) 1 (by rfl) (by rfl) ?_; clear hS; intro w _ hS; unfold Ret) | (go_at_call 22; refine hp_store hS hT0 rs rg n vs vg hvg none (0, 0) 1 (by rfl) (by rfl) (by rfl) ?_; clear hS hT0; intro Ex w hT0 hS; unfold Ret) | (go_at_call 23; refine hp_object hS hT0 rs rg zOb 1 (by rfl) (by rfl) ?_; clear hS; intro w _ hS; have hz : obC zOb = objC 0 zero4 false := rfl; rw [hz]; unfold Ret) | (go_at_call 18; refine hp_free hS hT0 rs rg none 1 (by rfl) (by rfl) ?_; clear hS hT0; intro Ex w hT0 hS; unfold Ret) | (go_at_call 24; refine hp_has hS hT0 rs rg false (by rfl) ?_; clear hS; intro w _ hS; unfold Ret) | (go_at_call 15; refine hp_len hS hT0 0 hl'.out ?_; clear hS; intro w _ hS; unfold Ret) | (go_at_call 14; refine hp_left hS hT0 0 (by rfl) ?_; clear hS; intro w _ hS; unfold Ret) | (go_at_call 16; refine hp_all hS hT0 _ rfl ?_; clear hS; intro v3 E4 w hL3 hS; have hl3 := hL3.len hl'.out; have hone := hL3.one; unfold Ret) | (go_at_call 30; refine hp_copy hS hT0 none (by rfl) ?_; clear hS; intro p3 E5 w hT3 _ hS; have hn3 := hT3.nil; simp only [Option.isNone_none] at hn3; unfold Ret) | (refine wpList_is (.binOp .eql _ _ _ _) rfl ?_; refine wpList_stp rfl (stp_val (run_aeq _ _ _ _ rfl) ?_)) | (refine wpList_is (.binOp .neq _ _ _ _) rfl ?_; refine wpList_stp rfl (stp_val (run_ane _ _ _ _ rfl) ?_)) | go_skip | (refine wpList_is (.call { callee := .builtin .len, args := #[_], argTypes := #[_] }) rfl ?_; refine wpList_stp rfl (stp_val (run_lenv _ _ rfl) ?_)) | (refine wpList_is (.slice _ _ none (some _) none) rfl ?_; refine wpList_stp rfl (stp_val (run_prev _ _ _ rfl) ?_)) | (refine wpList_is (.indexAddr _ _ _) rfl ?_; refine wpList_stp rfl (stp_val (run_idxv _ _ _ rfl) ?_)) | go_skip | (refine wpList_is (.build _ _) rfl ?_; go_must (refine wpList_stp rfl (stp_val (run_bd _ _ rfl) ?_))) | (refine wpList_is (.call { callee := .builtin .clear, args := #[_], argTypes := #[_] }) rfl ?_; go_must (refine wpList_stp rfl (stp_cl _ _ rfl hS (by decide) ?_)); clear hS; intro w hS) | (refine wpList_is (.load _ _) rfl ?_; go_must (first | refine wpList_stp rfl (stp_val (run_ld _ _ rfl hS) ?_) | refine wpList_stp rfl (stp_val (run_lda _ _ rfl hS) ?_) | refine wpList_stp rfl (stp_val (run_ld0 _ _ rfl hS) ?_) | refine wpList_stp rfl (stp_val (run_lda0 _ _ rfl hS) ?_))) | (refine wpList_is (.store _ _ _) rfl ?_; go_must (first | refine wpList_stp rfl (stp_st _ _ _ rfl hS ?_) | refine wpList_stp rfl (stp_sta _ _ _ rfl hS ?_)); clear hS; intro w hS) | (refine wpList_is (.alloc _) rfl ?_; go_must (refine wpList_stp rfl (stp_al _ rfl hS ?_)); clear hS; intro bN w hbN hS) | (refine wpList_is (.box _ _) rfl ?_; go_must (refine wpList_stp rfl (stp_bx _ _ rfl hS ?_)); clear hS; intro bN w hbN hS) | (refine wpList_is (.binOp .eql _ _ (.const (.slice none _ _)) _) rfl ?_; refine wpList_stp rfl (stp_val (run_nse _ _ _ rfl) ?_)) | (refine wpList_is (.binOp .neq _ _ (.const (.slice none _ _)) _) rfl ?_; refine wpList_stp rfl (stp_val (run_nsn _ _ _ rfl) ?_)))
      go_roundw
      case rel => exact ⟨1, _, by omega, rfl, hT1, hS.pick⟩
      case measure => simp [intOf]
    · have hl : (alH (some none)).length = 0 := by rfl
      have hl' := Lib.hid hl
      clear hl
      have q := refE (show refB 0 0 0 0 = true by decide)
      go_wp2_with (first | go_skip | (go_at_call 17; refine hp_make hS hT1 n hd (some none) (0, 0) 1 (by rfl) (by rfl) (by rfl) ?_; clear hS hT1; intro Ex w hT1 hS; unfold Ret) | (go_at_call 21; refine hp_load hS hT1 rs rg n (0, 0) 1 (by rfl) (by rfl) ?_; clear hS; intro w _ hS; unfold Ret) | (go_at_call 22; refine hp_store hS hT1 rs rg n vs vg hvg (some none) (0, 0) 1 (by rfl) (by rfl) (by rfl) ?_; clear hS hT1; intro Ex w hT1 hS; unfold Ret) | (go_at_call 23; refine hp_object hS hT1 rs rg zOb 1 (by rfl) (by rfl) ?_; clear hS; intro w _ hS; have hz : obC zOb = objC 0 zero4 false := rfl; rw [hz]; unfold Ret) | (go_at_call 18; refine hp_free hS hT1 rs rg (some none) 1 (by rfl) (by rfl) ?_; clear hS hT1; intro Ex w hT1 hS; unfold Ret) | (go_at_call 24; refine hp_has hS hT1 rs rg false (by rfl) ?_; clear hS; intro w _ hS; unfold Ret) | (go_at_call 15; refine hp_len hS hT1 0 hl'.out ?_; clear hS; intro w _ hS; unfold Ret) | (go_at_call 14; refine hp_left hS hT1 0 (by rfl) ?_; clear hS; intro w _ hS; unfold Ret) | (go_at_call 16; refine hp_all hS hT1 _ rfl ?_; clear hS; intro v3 E4 w hL3 hS; have hl3 := hL3.len hl'.out; have hone := hL3.one; unfold Ret) | (go_at_call 30; refine hp_copy hS hT1 none (by rfl) ?_; clear hS; intro p3 E5 w hT3 _ hS; have hn3 := hT3.nil; simp only [Option.isNone_none] at hn3; unfold Ret) | (refine wpList_is (.binOp .eql _ _ _ _) rfl ?_; refine wpList_stp rfl (stp_val (run_aeq _ _ _ _ rfl) ?_)) | (refine wpList_is (.binOp .neq _ _ _ _) rfl ?_; refine wpList_stp rfl (stp_val (run_ane _ _ _ _ rfl) ?_)) | go_skip | (refine wpList_is (.call { callee := .builtin .len, args := #[_], argTypes := #[_] }) rfl ?_; refine wpList_stp rfl (stp_val (run_lenv _ _ rfl) ?_)) | (refine wpList_is (.slice _ _ none (some _) none) rfl ?_; refine wpList_stp rfl (stp_val (run_prev _ _ _ rfl) ?_)) | (refine wpList_is (.indexAddr _ _ _) rfl ?_; refine wpList_stp rfl (stp_val (run_idxv _ _ _ rfl) ?_)) | go_skip | (refine wpList_is (.build _ _) rfl ?_; go_must (refine wpList_stp rfl (stp_val (run_bd _ _ rfl) ?_))) | (refine wpList_is (.call { callee := .builtin .clear, args := #[_], argTypes := #[_] }) rfl ?_; go_must (refine wpList_stp rfl (stp_cl _ _ rfl hS (by decide) ?_)); clear hS; intro w hS) | (refine wpList_is (.load _ _) rfl ?_; go_must (first | refine wpList_stp rfl (stp_val (run_ld _ _ rfl hS) ?_) | refine wpList_stp rfl (stp_val (run_lda _ _ rfl hS) ?_) | refine wpList_stp rfl (stp_val (run_ld0 _ _ rfl hS) ?_) | refine wpList_stp rfl (stp_val (run_lda0 _ _ rfl hS) ?_))) | (refine wpList_is (.store _ _ _) rfl ?_; go_must (first | refine wpList_stp rfl (stp_st _ _ _ rfl hS ?_) | refine wpList_stp rfl (stp_sta _ _ _ rfl hS ?_)); clear hS; intro w hS) | (refine wpList_is (.alloc _) rfl ?_; go_must (refine wpList_stp rfl (stp_al _ rfl hS ?_)); clear hS; intro bN w hbN hS) | (refine wpList_is (.box _ _) rfl ?_; go_must (refine wpList_stp rfl (stp_bx _ _ rfl hS ?_)); clear hS; intro bN w hbN hS) | (refine wpList_is (.binOp .eql _ _ (.const (.slice none _ _)) _) rfl ?_; refine wpList_stp rfl (stp_val (run_nse _ _ _ rfl) ?_)) | (refine wpList_is (.binOp .neq _ _ (.const (.slice none _ _)) _) rfl ?_; refine wpList_stp rfl (stp_val (run_nsn _ _ _ rfl) ?_)))
      go_roundw
      case rel => exact ⟨2, _, by omega, rfl, hT1, hS.pick⟩
      case measure => simp [intOf]
    · go_wp2_with (first | (go_at_call 11; refine works_ok hS ?_; clear hS; intro w hS; unfold Ret) | go_skip | (refine wpList_is (.build _ _) rfl ?_; go_must (refine wpList_stp rfl (stp_val (run_bd _ _ rfl) ?_))) | (refine wpList_is (.call { callee := .builtin .clear, args := #[_], argTypes := #[_] }) rfl ?_; go_must (refine wpList_stp rfl (stp_cl _ _ rfl hS (by decide) ?_)); clear hS; intro w hS) | (refine wpList_is (.load _ _) rfl ?_; go_must (first | refine wpList_stp rfl (stp_val (run_ld _ _ rfl hS) ?_) | refine wpList_stp rfl (stp_val (run_lda _ _ rfl hS) ?_) | refine wpList_stp rfl (stp_val (run_ld0 _ _ rfl hS) ?_) | refine wpList_stp rfl (stp_val (run_lda0 _ _ rfl hS) ?_))) | (refine wpList_is (.store _ _ _) rfl ?_; go_must (first | refine wpList_stp rfl (stp_st _ _ _ rfl hS ?_) | refine wpList_stp rfl (stp_sta _ _ _ rfl hS ?_)); clear hS; intro w hS) | (refine wpList_is (.alloc _) rfl ?_; go_must (refine wpList_stp rfl (stp_al _ rfl hS ?_)); clear hS; intro bN w hbN hS) | (refine wpList_is (.box _ _) rfl ?_; go_must (refine wpList_stp rfl (stp_bx _ _ rfl hS ?_)); clear hS; intro bN w hbN hS) | (refine wpList_is (.binOp .eql _ _ (.const (.slice none _ _)) _) rfl ?_; refine wpList_stp rfl (stp_val (run_nse _ _ _ rfl) ?_)) | (refine wpList_is (.binOp .neq _ _ (.const (.slice none _ _)) _) rfl ?_; refine wpList_stp rfl (stp_val (run_nsn _ _ _ rfl) ?_)))
      exact hR _ hS.chg
end Go.Proofs.Ytlpknbkgkhnfcaa
