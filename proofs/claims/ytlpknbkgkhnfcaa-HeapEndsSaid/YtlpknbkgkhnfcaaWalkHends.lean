/-
  The walk of HeapEnds.
-/
import Derived.Test.YtlpknbkgkhnfcaaHends
set_option linter.unusedSimpArgs false
set_option linter.unusedVariables false
namespace Go.Proofs.Ytlpknbkgkhnfcaa
open Go.RowKit Go.Mm
variable {R : Ending → World → Prop}

theorem bounds_u8h {n : Int} (h : (Lit.int .u8 n).wf = true) : 0 ≤ n ∧ n ≤ 255 := by
  simp [Lit.wf, IntKind.min, IntKind.max, IntKind.signed, IntKind.bits] at h
  omega
set_option maxHeartbeats 2000000 in
set_option maxRecDepth 100000 in
theorem walk_hends {W : World} (z : Int) (wz : (Lit.int .u8 z).wf = true) (f : Int) (wf : (Lit.int .u8 f).wf = true) (hR : ∀ w', Chg W w' [] → Ret R (.bool true) w') :
    Calls Try.prog 4 #[.int .u8 z, .int .u8 f] W R := by
  have hS : St W [] W [] := St.start0
  have hz := bounds_u8h wz
  have hf := bounds_u8h wf
  obtain ⟨n, hn⟩ : ∃ n : Nat, 1 + z = (n : Int) := ⟨(1 + z).toNat, by omega⟩
  have hn2 : 0 < n ∧ n ≤ 256 := by omega
  obtain ⟨g, hg⟩ : ∃ g : Nat, f % 4 = (g : Int) := ⟨(f % 4).toNat, by omega⟩
  have hg4 : g ≤ 3 := by omega
  have hE := En.new (n := n) (G := 4294967295 - (g : Int)) hn2 (by omega)
  have hnw : nwH (n : Int) (4294967295 - (g : Int)) = some (some (List.replicate n (0, 4294967295 - (g : Int), zOb))) ∧ nwE (n : Int) (4294967295 - (g : Int)) = 0 := by
    have : nwOk (n : Int) (4294967295 - (g : Int)) = true := by simp only [nwOk, Bool.and_eq_true, decide_eq_true_eq]; omega
    unfold nwH nwE
    rw [this, Int.toNat_natCast]; exact ⟨rfl, rfl⟩
  have hnw' := Lib.hid hnw
  have hE' := Lib.hid hE
  obtain ⟨L0, hL0⟩ : ∃ L0, List.replicate n ((0, 4294967295 - (g : Int), zOb) : Hs) = L0 := ⟨_, rfl⟩
  rw [hL0] at hnw' hE'
  clear wz wf hnw hE hL0
  go_enter Try.func4, Try.ntmps4
  go_wp2_with (first | go_skip | (go_at_call 19; go_must (refine hp_new hS (n : Int) (4294967295 - (g : Int)) (by omega) _ 0 hnw'.out.1 hnw'.out.2 ?_); clear hS; intro p E1 w hT hS; have hpn := hT.nil; unfold Ret) | go_skip | (refine wpList_is (.build _ _) rfl ?_; go_must (refine wpList_stp rfl (stp_val (run_bd _ _ rfl) ?_))) | (refine wpList_is (.call { callee := .builtin .clear, args := #[_], argTypes := #[_] }) rfl ?_; go_must (refine wpList_stp rfl (stp_cl _ _ rfl hS (by decide) ?_)); clear hS; intro w hS) | (refine wpList_is (.load _ _) rfl ?_; go_must (first | refine wpList_stp rfl (stp_val (run_ld _ _ rfl hS) ?_) | refine wpList_stp rfl (stp_val (run_lda _ _ rfl hS) ?_) | refine wpList_stp rfl (stp_val (run_ld0 _ _ rfl hS) ?_) | refine wpList_stp rfl (stp_val (run_lda0 _ _ rfl hS) ?_))) | (refine wpList_is (.store _ _ _) rfl ?_; go_must (first | refine wpList_stp rfl (stp_st _ _ _ rfl hS ?_) | refine wpList_stp rfl (stp_sta _ _ _ rfl hS ?_)); clear hS; intro w hS) | (refine wpList_is (.alloc _) rfl ?_; go_must (refine wpList_stp rfl (stp_al _ rfl hS ?_)); clear hS; intro bN w hbN hS) | (refine wpList_is (.box _ _) rfl ?_; go_must (refine wpList_stp rfl (stp_bx _ _ rfl hS ?_)); clear hS; intro bN w hbN hS) | (refine wpList_is (.binOp .eql _ _ (.const (.slice none _ _)) _) rfl ?_; refine wpList_stp rfl (stp_val (run_nse _ _ _ rfl) ?_)) | (refine wpList_is (.binOp .neq _ _ (.const (.slice none _ _)) _) rfl ?_; refine wpList_stp rfl (stp_val (run_nsn _ _ _ rfl) ?_)))
  clear hpn
  go_loopw [9] (fun u wr => ∃ (s : Nat) (L : List Hs) (E : List Ent), s ≤ n ∧ u = .int .i64 s ∧ En n (4294967295 - (g : Int)) s 0 L ∧ HA p (some (some L)) E ∧ St W [] wr E) (fun u _ => n - (intOf u).toNat)
  case atStart => exact ⟨0, L0, E1, Nat.zero_le _, rfl, hE'.out, hT, hS.pick⟩
  case round =>
    clear hS hT hE' hnw'
    obtain ⟨s, L, E, hs, rfl, hEn, hT, hS⟩ := hrel
    have hEn' := Lib.hid hEn
    clear hEn
    by_cases hlt : s < n
    · have d1 : decide ((s : Int) < n) = true := decide_eq_true (by omega)
      go_wp2_with (first | go_skip | go_skip | (refine wpList_is (.build _ _) rfl ?_; go_must (refine wpList_stp rfl (stp_val (run_bd _ _ rfl) ?_))) | (refine wpList_is (.call { callee := .builtin .clear, args := #[_], argTypes := #[_] }) rfl ?_; go_must (refine wpList_stp rfl (stp_cl _ _ rfl hS (by decide) ?_)); clear hS; intro w hS) | (refine wpList_is (.load _ _) rfl ?_; go_must (first | refine wpList_stp rfl (stp_val (run_ld _ _ rfl hS) ?_) | refine wpList_stp rfl (stp_val (run_lda _ _ rfl hS) ?_) | refine wpList_stp rfl (stp_val (run_ld0 _ _ rfl hS) ?_) | refine wpList_stp rfl (stp_val (run_lda0 _ _ rfl hS) ?_))) | (refine wpList_is (.store _ _ _) rfl ?_; go_must (first | refine wpList_stp rfl (stp_st _ _ _ rfl hS ?_) | refine wpList_stp rfl (stp_sta _ _ _ rfl hS ?_)); clear hS; intro w hS) | (refine wpList_is (.alloc _) rfl ?_; go_must (refine wpList_stp rfl (stp_al _ rfl hS ?_)); clear hS; intro bN w hbN hS) | (refine wpList_is (.box _ _) rfl ?_; go_must (refine wpList_stp rfl (stp_bx _ _ rfl hS ?_)); clear hS; intro bN w hbN hS) | (refine wpList_is (.binOp .eql _ _ (.const (.slice none _ _)) _) rfl ?_; refine wpList_stp rfl (stp_val (run_nse _ _ _ rfl) ?_)) | (refine wpList_is (.binOp .neq _ _ (.const (.slice none _ _)) _) rfl ?_; refine wpList_stp rfl (stp_val (run_nsn _ _ _ rfl) ?_)))
      obtain ⟨wo, rfl⟩ : ∃ wo : World, wo = w := ⟨_, rfl⟩
      go_loopw [10] (fun u wr => ∃ (k : Nat) (L : List Hs) (E : List Ent), k ≤ g + 1 ∧ u = .int .u32 k ∧ ((k ≤ g ∧ En n (4294967295 - (g : Int)) s k L) ∨ (k = g + 1 ∧ En n (4294967295 - (g : Int)) (s + 1) 0 L)) ∧ HA p (some (some L)) E ∧ St W [] wr E) (fun u _ => g + 1 - (intOf u).toNat)
      case atStart => exact ⟨0, L, E, Nat.zero_le _, rfl, .inl ⟨Nat.zero_le _, hEn'.out⟩, hT, hS⟩
      case round =>
        clear hS hT hEn'
        obtain ⟨k, L, E, hk, rfl, hor, hT, hS⟩ := hrel
        rcases hor with ⟨hkg, hEn⟩ | ⟨rfl, hEn⟩
        · have d2 : decide ((k : Int) ≤ g) = true := decide_eq_true (by omega)
          have d3 : decide (k ≤ g) = true := decide_eq_true hkg
          by_cases hev : k % 2 = 0
          · have d4 : ((k : Int) % 2 == 0) = true := by simp; omega
            have d5 : decide ((k : Int) % 2 = 0) = true := decide_eq_true (by omega)
            obtain ⟨L1, L2, e1, e2, e3, e4, e5, e6, e7, e8⟩ := hEn.turn hlt (k := (k : Int)) (by omega) (by omega) true
            have e4b : lfH (some (some L1)) = (n : Int) - s - 1 := by rw [e4]; omega
            have e1' := Lib.hid e1
            have e2' := Lib.hid e2
            have e3' := Lib.hid e3
            have e4' := Lib.hid e4b
            have e5' := Lib.hid e5
            have e6' := Lib.hid e6
            have e7' := Lib.hid e7
            have e8' := Lib.hid e8
            have q := refE (show refB (s : Int) (4294967295 - (g : Int) + (k : Int)) (s : Int) (4294967295 - (g : Int) + (k : Int)) = true by simp [refB])
            clear e1 e2 e3 e4 e4b e5 e6 e7 e8 hEn
            go_wp2_with (first | go_skip | (refine wpList_is (.alloc 38) rfl ?_; go_must (refine wpList_stp rfl (stp_al _ rfl hS ?_)); clear hS; intro bo w _ hS) | (go_at_call 17; go_must (refine hp_make hS hT 0 _ (some (some L1)) ((s : Int), 4294967295 - (g : Int) + (k : Int)) 0 e1'.out e2'.out e3'.out ?_); clear hS hT; intro E1 w hT hS; unfold Ret) | (go_at_call 14; go_must (refine hp_left hS hT ((n : Int) - s - 1) e4'.out ?_); clear hS; intro w _ hS; unfold Ret) | (go_at_call 18; go_must (refine hp_free hS hT s (4294967295 - (g : Int) + (k : Int)) (some (some L2)) 0 e5'.out e6'.out ?_); clear hS hT; intro E1 w hT hS; unfold Ret) | (refine wpList_is (.binOp .eql _ _ _ _) rfl ?_; refine wpList_stp rfl (stp_val (run_aeq _ _ _ _ rfl) ?_)) | (refine wpList_is (.binOp .neq _ _ _ _) rfl ?_; refine wpList_stp rfl (stp_val (run_ane _ _ _ _ rfl) ?_)) | go_skip | (refine wpList_is (.build _ _) rfl ?_; go_must (refine wpList_stp rfl (stp_val (run_bd _ _ rfl) ?_))) | (refine wpList_is (.call { callee := .builtin .clear, args := #[_], argTypes := #[_] }) rfl ?_; go_must (refine wpList_stp rfl (stp_cl _ _ rfl hS (by decide) ?_)); clear hS; intro w hS) | (refine wpList_is (.load _ _) rfl ?_; go_must (first | refine wpList_stp rfl (stp_val (run_ld _ _ rfl hS) ?_) | refine wpList_stp rfl (stp_val (run_lda _ _ rfl hS) ?_) | refine wpList_stp rfl (stp_val (run_ld0 _ _ rfl hS) ?_) | refine wpList_stp rfl (stp_val (run_lda0 _ _ rfl hS) ?_))) | (refine wpList_is (.store _ _ _) rfl ?_; go_must (first | refine wpList_stp rfl (stp_st _ _ _ rfl hS ?_) | refine wpList_stp rfl (stp_sta _ _ _ rfl hS ?_)); clear hS; intro w hS) | (refine wpList_is (.alloc _) rfl ?_; go_must (refine wpList_stp rfl (stp_al _ rfl hS ?_)); clear hS; intro bN w hbN hS) | (refine wpList_is (.box _ _) rfl ?_; go_must (refine wpList_stp rfl (stp_bx _ _ rfl hS ?_)); clear hS; intro bN w hbN hS) | (refine wpList_is (.binOp .eql _ _ (.const (.slice none _ _)) _) rfl ?_; refine wpList_stp rfl (stp_val (run_nse _ _ _ rfl) ?_)) | (refine wpList_is (.binOp .neq _ _ (.const (.slice none _ _)) _) rfl ?_; refine wpList_stp rfl (stp_val (run_nsn _ _ _ rfl) ?_)))
            go_roundw
            case rel =>
              refine ⟨k + 1, L2, E1, by omega, by go_num, ?_, hT, hS.pick⟩
              by_cases hkg : k = g
              · exact .inr ⟨by omega, e8'.out (by omega)⟩
              · exact .inl ⟨by omega, by have := e7'.out (by omega); push_cast; exact this⟩
            case measure => simp [intOf]; omega
          · have d4 : ((k : Int) % 2 == 0) = false := by simp; omega
            have d5 : decide ((k : Int) % 2 = 0) = false := decide_eq_false (by omega)
            obtain ⟨L1, L2, e1, e2, e3, e4, e5, e6, e7, e8⟩ := hEn.turn hlt (k := (k : Int)) (by omega) (by omega) false
            have e4b : lfH (some (some L1)) = (n : Int) - s - 1 := by rw [e4]; omega
            have e1' := Lib.hid e1
            have e2' := Lib.hid e2
            have e3' := Lib.hid e3
            have e4' := Lib.hid e4b
            have e5' := Lib.hid e5
            have e6' := Lib.hid e6
            have e7' := Lib.hid e7
            have e8' := Lib.hid e8
            have q := refE (show refB (s : Int) (4294967295 - (g : Int) + (k : Int)) (s : Int) (4294967295 - (g : Int) + (k : Int)) = true by simp [refB])
            clear e1 e2 e3 e4 e4b e5 e6 e7 e8 hEn
            go_wp2_with (first | go_skip | (refine wpList_is (.alloc 38) rfl ?_; go_must (refine wpList_stp rfl (stp_al _ rfl hS ?_)); clear hS; intro bo w _ hS) | (go_at_call 17; go_must (refine hp_make hS hT 0 _ (some (some L1)) ((s : Int), 4294967295 - (g : Int) + (k : Int)) 0 e1'.out e2'.out e3'.out ?_); clear hS hT; intro E1 w hT hS; unfold Ret) | (go_at_call 14; go_must (refine hp_left hS hT ((n : Int) - s - 1) e4'.out ?_); clear hS; intro w _ hS; unfold Ret) | (go_at_call 18; go_must (refine hp_free hS hT s (4294967295 - (g : Int) + (k : Int)) (some (some L2)) 0 e5'.out e6'.out ?_); clear hS hT; intro E1 w hT hS; unfold Ret) | (refine wpList_is (.binOp .eql _ _ _ _) rfl ?_; refine wpList_stp rfl (stp_val (run_aeq _ _ _ _ rfl) ?_)) | (refine wpList_is (.binOp .neq _ _ _ _) rfl ?_; refine wpList_stp rfl (stp_val (run_ane _ _ _ _ rfl) ?_)) | go_skip | (refine wpList_is (.build _ _) rfl ?_; go_must (refine wpList_stp rfl (stp_val (run_bd _ _ rfl) ?_))) | (refine wpList_is (.call { callee := .builtin .clear, args := #[_], argTypes := #[_] }) rfl ?_; go_must (refine wpList_stp rfl (stp_cl _ _ rfl hS (by decide) ?_)); clear hS; intro w hS) | (refine wpList_is (.load _ _) rfl ?_; go_must (first | refine wpList_stp rfl (stp_val (run_ld _ _ rfl hS) ?_) | refine wpList_stp rfl (stp_val (run_lda _ _ rfl hS) ?_) | refine wpList_stp rfl (stp_val (run_ld0 _ _ rfl hS) ?_) | refine wpList_stp rfl (stp_val (run_lda0 _ _ rfl hS) ?_))) | (refine wpList_is (.store _ _ _) rfl ?_; go_must (first | refine wpList_stp rfl (stp_st _ _ _ rfl hS ?_) | refine wpList_stp rfl (stp_sta _ _ _ rfl hS ?_)); clear hS; intro w hS) | (refine wpList_is (.alloc _) rfl ?_; go_must (refine wpList_stp rfl (stp_al _ rfl hS ?_)); clear hS; intro bN w hbN hS) | (refine wpList_is (.box _ _) rfl ?_; go_must (refine wpList_stp rfl (stp_bx _ _ rfl hS ?_)); clear hS; intro bN w hbN hS) | (refine wpList_is (.binOp .eql _ _ (.const (.slice none _ _)) _) rfl ?_; refine wpList_stp rfl (stp_val (run_nse _ _ _ rfl) ?_)) | (refine wpList_is (.binOp .neq _ _ (.const (.slice none _ _)) _) rfl ?_; refine wpList_stp rfl (stp_val (run_nsn _ _ _ rfl) ?_)))
            go_roundw
            case rel =>
              refine ⟨k + 1, L2, E1, by omega, by go_num, ?_, hT, hS.pick⟩
              by_cases hkg : k = g
              · exact .inr ⟨by omega, e8'.out (by omega)⟩
              · exact .inl ⟨by omega, by have := e7'.out (by omega); push_cast; exact this⟩
            case measure => simp [intOf]; omega
        · have d2 : decide (((g + 1 : Nat) : Int) ≤ g) = false := decide_eq_false (by omega)
          have d3 : decide (g + 1 ≤ g) = false := decide_eq_false (by omega)
          have hEn' := Lib.hid hEn
          clear hEn
          go_wp2_with (first | go_skip | go_skip | (refine wpList_is (.build _ _) rfl ?_; go_must (refine wpList_stp rfl (stp_val (run_bd _ _ rfl) ?_))) | (refine wpList_is (.call { callee := .builtin .clear, args := #[_], argTypes := #[_] }) rfl ?_; go_must (refine wpList_stp rfl (stp_cl _ _ rfl hS (by decide) ?_)); clear hS; intro w hS) | (refine wpList_is (.load _ _) rfl ?_; go_must (first | refine wpList_stp rfl (stp_val (run_ld _ _ rfl hS) ?_) | refine wpList_stp rfl (stp_val (run_lda _ _ rfl hS) ?_) | refine wpList_stp rfl (stp_val (run_ld0 _ _ rfl hS) ?_) | refine wpList_stp rfl (stp_val (run_lda0 _ _ rfl hS) ?_))) | (refine wpList_is (.store _ _ _) rfl ?_; go_must (first | refine wpList_stp rfl (stp_st _ _ _ rfl hS ?_) | refine wpList_stp rfl (stp_sta _ _ _ rfl hS ?_)); clear hS; intro w hS) | (refine wpList_is (.alloc _) rfl ?_; go_must (refine wpList_stp rfl (stp_al _ rfl hS ?_)); clear hS; intro bN w hbN hS) | (refine wpList_is (.box _ _) rfl ?_; go_must (refine wpList_stp rfl (stp_bx _ _ rfl hS ?_)); clear hS; intro bN w hbN hS) | (refine wpList_is (.binOp .eql _ _ (.const (.slice none _ _)) _) rfl ?_; refine wpList_stp rfl (stp_val (run_nse _ _ _ rfl) ?_)) | (refine wpList_is (.binOp .neq _ _ (.const (.slice none _ _)) _) rfl ?_; refine wpList_stp rfl (stp_val (run_nsn _ _ _ rfl) ?_)))
          go_roundw
          case rel => exact ⟨s + 1, L, E, by omega, by go_num, hEn'.out, hT, hS⟩
          case measure => simp [intOf]; omega
    · obtain rfl : s = n := by omega
      obtain ⟨e1, e2, e3, e4, e5⟩ := hEn'.out.done false
      have e1' := Lib.hid e1
      have e2' := Lib.hid e2
      have e3' := Lib.hid e3
      have e4' := Lib.hid e4
      have e5' := Lib.hid e5
      clear e1 e2 e3 e4 e5
      go_wp2_with (first | go_skip | (refine wpList_is (.alloc 38) rfl ?_; go_must (refine wpList_stp rfl (stp_al _ rfl hS ?_)); clear hS; intro bo w _ hS) | (go_at_call 17; refine hp_make hS hT 0 false (some (some L)) (0, 0) 4 e1'.out e2'.out e3'.out ?_; clear hS hT; intro E1 w hT hS; unfold Ret) | (go_at_call 14; refine hp_left hS hT 0 e4'.out ?_; clear hS; intro w _ hS; unfold Ret) | (go_at_call 15; refine hp_len hS hT 0 e5'.out ?_; clear hS; intro w _ hS; unfold Ret) | (go_at_call 11; refine works_ok hS ?_; clear hS; intro w hS; unfold Ret) | go_skip | (refine wpList_is (.build _ _) rfl ?_; go_must (refine wpList_stp rfl (stp_val (run_bd _ _ rfl) ?_))) | (refine wpList_is (.call { callee := .builtin .clear, args := #[_], argTypes := #[_] }) rfl ?_; go_must (refine wpList_stp rfl (stp_cl _ _ rfl hS (by decide) ?_)); clear hS; intro w hS) | (refine wpList_is (.load _ _) rfl ?_; go_must (first | refine wpList_stp rfl (stp_val (run_ld _ _ rfl hS) ?_) | refine wpList_stp rfl (stp_val (run_lda _ _ rfl hS) ?_) | refine wpList_stp rfl (stp_val (run_ld0 _ _ rfl hS) ?_) | refine wpList_stp rfl (stp_val (run_lda0 _ _ rfl hS) ?_))) | (refine wpList_is (.store _ _ _) rfl ?_; go_must (first | refine wpList_stp rfl (stp_st _ _ _ rfl hS ?_) | refine wpList_stp rfl (stp_sta _ _ _ rfl hS ?_)); clear hS; intro w hS) | (refine wpList_is (.alloc _) rfl ?_; go_must (refine wpList_stp rfl (stp_al _ rfl hS ?_)); clear hS; intro bN w hbN hS) | (refine wpList_is (.box _ _) rfl ?_; go_must (refine wpList_stp rfl (stp_bx _ _ rfl hS ?_)); clear hS; intro bN w hbN hS) | (refine wpList_is (.binOp .eql _ _ (.const (.slice none _ _)) _) rfl ?_; refine wpList_stp rfl (stp_val (run_nse _ _ _ rfl) ?_)) | (refine wpList_is (.binOp .neq _ _ (.const (.slice none _ _)) _) rfl ?_; refine wpList_stp rfl (stp_val (run_nsn _ _ _ rfl) ?_)))
      exact hR _ hS.chg
end Go.Proofs.Ytlpknbkgkhnfcaa
