/-
  Scan, as the document says.
-/
import Derived.Test.YtgpjanfphgjbbaaGreatRsd
set_option linter.unusedSimpArgs false
set_option linter.unusedVariables false
namespace Go.Proofs.YtgpjanfphgjbbaaGreat
open Go Go.RowKit Go.Mm
variable {R : Ending → World → Prop} {w : World} {w0 : World} {bs : List Nat} {H H' H1 H2 H3 E E0 E1 E2 Ev : List Ent}
theorem max_ne {a b r : Int} (ha : 0 ≤ a) (hb : 0 ≤ b) (h : (if b > a then b else a) = r) : 0 ≤ r ∧ decide (r ≠ 0) = (decide (a ≠ 0) || decide (b ≠ 0)) := by
  subst h
  refine ⟨by split <;> omega, ?_⟩
  rw [Bool.eq_iff_iff, Bool.or_eq_true, decide_eq_true_eq, decide_eq_true_eq, decide_eq_true_eq]
  split <;> omega
theorem any_step {l : List Int} {k : Nat} (hk : k < l.length) {f : Int → Bool} : (l.take (k + 1)).any f = ((l.take k).any f || f (l.getD k 0)) := by
  rw [List.take_succ_eq_append_getElem hk, List.any_append, List.getD_eq_getElem?_getD, List.getElem?_eq_getElem hk]
  simp
theorem max_gt {a b r : Int} (h : (if b > a then b else a) = r) : MaxIs a b r := ⟨h⟩
set_option maxHeartbeats 2000000 in
set_option maxRecDepth 100000 in
theorem rc_scan {ph p q : Option Addr} {Hh : Hp} {T : Cq} {S : Sq} (hO : St w0 bs w H) (hH : RH ph Hh E0) (hT : KR p T E1) (hU : SR q S E2) [hc : Cut H E0 H1] [hd : Cut H1 E1 H2] [hf : Cut H2 E2 H3] (s g : Int) (T' : Cq) (S' : Sq) (n : Nat) (e : Int)
    (hT' : scT Hh T S s g = T') (hS' : scS Hh T S s g = S') (hn : scN Hh T S s g = n) (he : scE Hh T S s g = e)
    (hR : ∀ E1 E2 w', RH ph Hh E0 → KR p T' E1 → SR q S' E2 → St w0 bs w' (E0 ++ (E1 ++ (E2 ++ H3))) → Ret R (.tuple #[.int .i64 n, .int .i64 e]) w') : Calls Tryz.prog 20 #[.pointer ph, .pointer p, .pointer q, .agg #[.int .i64 s, .int .u32 g]] w R := by
  have hS := (hO.front (E := E0) (H1 := H1))
  have hS : St w0 bs w (E0 ++ (E1 ++ (E2 ++ H3))) := hS.pick
  clear hO
  subst hT' hS' hn he
  unfold scT scS scN scE scG scV vlE at hR
  cases hok : hpOk Hh with
  | false =>
    simp only [hok, Bool.false_and, Bool.false_eq_true, if_false] at hR
    go_enter Tryz.func20, Tryz.ntmps20
    go_wp2_with (first | (refine wpList_is (.box 47 _) rfl ?_; go_must (refine wpList_stp (by kernel_rfl) (stp_bx _ _ rfl hS ?_)); clear hS; intro br w _ hS) | (go_at_call 63; refine rc_heap hS hH _ hok ?_; clear hS; intro w hH hS; unfold Ret))
    exact hR _ _ _ hH hT hU hS.pick
  | true =>
    simp only [hok, Bool.true_and] at hR
    cases k1 : okC T with
    | false =>
      simp only [k1, Bool.false_and, Bool.false_eq_true, if_false] at hR
      go_enter Tryz.func20, Tryz.ntmps20
      go_wp2_with (first | (refine wpList_is (.box 47 _) rfl ?_; go_must (refine wpList_stp (by kernel_rfl) (stp_bx _ _ rfl hS ?_)); clear hS; intro br w _ hS) | (go_at_call 63; refine rc_heap hS hH _ hok ?_; clear hS; intro w hH hS; unfold Ret) | (go_at_call 54; refine rc_paint hS hT _ k1 ?_; clear hS; intro w hT hS; unfold Ret))
      exact hR _ _ _ hH hT hU hS.pick
    | true =>
      cases k2 : okS S with
      | false =>
        simp only [k1, k2, Bool.and_false, Bool.false_and, Bool.false_eq_true, if_false] at hR
        go_enter Tryz.func20, Tryz.ntmps20
        go_wp2_with (first | (refine wpList_is (.box 47 _) rfl ?_; go_must (refine wpList_stp (by kernel_rfl) (stp_bx _ _ rfl hS ?_)); clear hS; intro br w _ hS) | (go_at_call 63; refine rc_heap hS hH _ hok ?_; clear hS; intro w hH hS; unfold Ret) | (go_at_call 54; refine rc_paint hS hT _ k1 ?_; clear hS; intro w hT hS; unfold Ret) | (go_at_call 55; refine rc_stack hS hU _ k2 ?_; clear hS; intro w hU hS; unfold Ret))
        exact hR _ _ _ hH hT hU hS.pick
      | true =>
        simp only [k1, k2, Bool.and_self, Bool.true_and, if_true] at hR
        obtain ⟨e, he⟩ : ∃ e, wiH Hh s g = e := ⟨_, rfl⟩
        obtain ⟨l, hl⟩ : ∃ l, chdR Hh s g = l := ⟨_, rfl⟩
        by_cases h0 : e = 0
        case neg =>
          have d : decide (e = 0) = false := decide_eq_false h0
          have q : (e != 0) = true := by simpa using h0
          simp only [he, d, decide_false, Bool.false_and, Bool.false_eq_true, if_false, h0] at hR
          go_enter Tryz.func20, Tryz.ntmps20
          go_wp2_with (first | (refine wpList_is (.box 47 _) rfl ?_; go_must (refine wpList_stp (by kernel_rfl) (stp_bx _ _ rfl hS ?_)); clear hS; intro br w _ hS) | (go_at_call 63; refine rc_heap hS hH _ hok ?_; clear hS; intro w hH hS; unfold Ret) | (go_at_call 54; refine rc_paint hS hT _ k1 ?_; clear hS; intro w hT hS; unfold Ret) | (go_at_call 55; refine rc_stack hS hU _ k2 ?_; clear hS; intro w hU hS; unfold Ret) | (go_at_call 64; refine rc_children hS hH s g _ _ hl he ?_; clear hS; intro v Ev w hI hH hS; have hone := hI.one; have hln := hI.len rfl; unfold Ret) | (refine wpList_is (.load _ _) rfl ?_; go_must ((refine wpList_stp (by kernel_rfl) (stp_val (run_lda _ _ rfl hS) ?_)))))
          exact hR _ _ _ hH hT hU hS.pick
        subst h0
        simp only [he, decide_true, Bool.true_and, if_true] at hR
        have hl4 : l.length ≤ 4 := by rw [← hl]; exact chdR_len Hh s g
        unfold scY scF at hR
        simp only [hl] at hR
        obtain ⟨c, hc⟩ : ∃ c, ofR T s = c := ⟨_, rfl⟩
        obtain ⟨es, hes⟩ : ∃ c, ofE T s = c := ⟨_, rfl⟩
        rw [hc] at hR
        have hes0 : 0 ≤ es := by rw [← hes]; exact ofE_ge T s
        have hes1 := bnd_e hes
        have hR' := Lib.hid hR
        have hes1' := Lib.hid hes1
        clear hR hes1
        go_enter Tryz.func20, Tryz.ntmps20
        go_wp2_with (first | (refine wpList_is (.box 47 _) rfl ?_; go_must (refine wpList_stp (by kernel_rfl) (stp_bx _ _ rfl hS ?_)); clear hS; intro br w _ hS) | (go_at_call 63; refine rc_heap hS hH _ hok ?_; clear hS; intro w hH hS; unfold Ret) | (go_at_call 54; refine rc_paint hS hT _ k1 ?_; clear hS; intro w hT hS; unfold Ret) | (go_at_call 55; refine rc_stack hS hU _ k2 ?_; clear hS; intro w hU hS; unfold Ret) | (go_at_call 64; refine rc_children hS hH s g _ _ hl he ?_; clear hS; intro v Ev w hI hH hS; have hone := hI.one; have hln := hI.len rfl; unfold Ret) | (go_at_call 65; refine kr_of hS hT s _ _ hc hes ?_; clear hS; intro w hT hS; unfold Ret) | (refine wpList_is (.load _ _) rfl ?_; go_must (first | refine wpList_stp (by kernel_rfl) (stp_val (run_ld _ _ rfl hS) ?_) | refine wpList_stp (by kernel_rfl) (stp_val (run_lda _ _ rfl hS) ?_))))
        have hS0 : St w0 bs w (E1 ++ (E2 ++ (Ev ++ (E0 ++ (⟨br, #[.int .i64 s, .int .u32 g], 47, true⟩ :: H3))))) := hS.pick
        clear hS hl
        go_loopw [11, 13] (fun x u wr => ∃ (k : Nat) (ek : Int), k ≤ l.length ∧ u = .int .i64 k ∧ x = .int .i64 ek ∧ 0 ≤ ek ∧ decide (ek ≠ 0) = (bnd T s || (l.take k).any (bnd T)) ∧ St w0 bs wr (E1 ++ (E2 ++ (Ev ++ (E0 ++ (⟨br, #[.int .i64 s, .int .u32 g], 47, true⟩ :: H3)))))) (fun _ u _ => l.length - (intOf u).toNat)
        case atStart => exact ⟨0, es, Nat.zero_le _, rfl, rfl, hes0, by rw [hes1'.out, List.take_zero, List.any_nil, Bool.or_false], hS0⟩
        case round =>
          clear hS0
          obtain ⟨k, ek, hk, rfl, rfl, hek, hekb, hS⟩ := hrel
          by_cases hlt : k < l.length
          · obtain ⟨x, hx⟩ : ∃ x, l.getD k 0 = x := ⟨_, rfl⟩
            obtain ⟨gx, sp, ix, hh, hcx⟩ := hI.at hlt hx
            have ix := ix k rfl
            obtain ⟨cx, hcx2⟩ : ∃ c, ofR T x = c := ⟨_, rfl⟩
            obtain ⟨ex, hex⟩ : ∃ c, ofE T x = c := ⟨_, rfl⟩
            have hex0 : 0 ≤ ex := by rw [← hex]; exact ofE_ge T x
            obtain ⟨r, hr⟩ : ∃ r, (if ex > ek then ex else ek) = r := ⟨_, rfl⟩
            have hmx : MaxIs ek ex r := max_gt hr
            obtain ⟨hr0, hrb⟩ := max_ne hek hex0 hr
            rw [hekb, ← bnd_e hex, ← hx, Bool.or_assoc, ← any_step hlt] at hrb
            have hrb' := Lib.hid hrb
            clear hrb hr hx hekb
            go_wp2_with (first | (go_at_call 65; refine kr_of hS hT x _ _ hcx2 hex ?_; clear hS; intro w hT hS; unfold Ret) | (refine wpList_is (.call { callee := .builtin .max, args := #[_, _], argTypes := #[_, _] }) rfl ?_; refine wpList_stp (by kernel_rfl) (stp_val (run_maxv _ _ rfl) ?_)) | (refine wpList_is (.call { callee := .builtin .len, args := #[_], argTypes := #[_] }) rfl ?_; refine wpList_stp (by kernel_rfl) (stp_val (run_lenv _ _ rfl) ?_)) | (refine wpList_is (.indexAddr _ _ _) rfl ?_; refine wpList_stp (by kernel_rfl) (stp_val (run_idxv _ _ _ rfl) ?_)) | (refine wpList_is (.load _ _) rfl ?_; go_must ((refine wpList_stp (by kernel_rfl) (stp_val (run_ld _ _ rfl hS) ?_)))))
            go_roundw
            case rel => exact ⟨k + 1, r, by omega, by go_num, rfl, hr0, hrb'.out, hS.pick⟩
            case measure => simp [intOf]; omega
          · obtain rfl : k = l.length := by omega
            rw [List.take_length] at hekb
            have hR := hR'.out
            rw [← hekb] at hR
            have hz : ek = 0 → es = 0 := fun h => by
              by_cases h2 : es = 0
              · exact h2
              · rw [h, hes1'.out, decide_eq_true h2] at hekb
                exact absurd hekb (by simp)
            have hz' := Lib.hid hz
            clear hekb hR' hz
            by_cases h3 : ek = 0
            case neg =>
              have d : decide (ek = 0) = false := decide_eq_false h3
              have q : (ek != 0) = true := by simpa using h3
              simp only [ne_eq, h3, not_false_eq_true, decide_true, Bool.not_true, Bool.false_and, Bool.false_eq_true, if_false, if_true] at hR
              go_wp2_with ((refine wpList_is (.call { callee := .builtin .len, args := #[_], argTypes := #[_] }) rfl ?_; refine wpList_stp (by kernel_rfl) (stp_val (run_lenv _ _ rfl) ?_)))
              exact hR _ _ _ hH hT hU hS.pick
            subst h3
            simp only [ne_eq, not_true_eq_false, decide_false, Bool.not_false, Bool.true_and, Bool.false_eq_true, if_false] at hR
            by_cases h1 : c = 1
            case neg =>
              have d : decide (c = 1) = false := decide_eq_false h1
              have q : (c != 1) = true := by simpa using h1
              simp only [d, h1, Bool.false_eq_true, if_false] at hR
              go_wp2_with ((refine wpList_is (.call { callee := .builtin .len, args := #[_], argTypes := #[_] }) rfl ?_; refine wpList_stp (by kernel_rfl) (stp_val (run_lenv _ _ rfl) ?_)))
              exact hR _ _ _ hH hT hU hS.pick
            subst h1
            simp only [decide_true, if_true] at hR
            have hes2 : es = 0 := hz'.out rfl
            clear hz'
            have hgr := fold_grey (s := s) l (T, S, 0) (by rw [← hes2]; exact hes) hc
            have hbk := bk_grey hgr.1 hgr.2
            rw [hbk] at hR
            have hR' := Lib.hid hR
            have hT0 := hT
            have hU0 := hU
            have hS0 : St w0 bs wr (E1 ++ (E2 ++ (Ev ++ (E0 ++ (⟨br, #[.int .i64 s, .int .u32 g], 47, true⟩ :: H3))))) := hS
            clear hR hgr hbk hT hU hS hc hes hes0 hes2 hes1'
            go_wp2_with ((refine wpList_is (.call { callee := .builtin .len, args := #[_], argTypes := #[_] }) rfl ?_; refine wpList_stp (by kernel_rfl) (stp_val (run_lenv _ _ rfl) ?_)))
            go_loopw [16, 17] (fun c u wr => ∃ (k : Nat) (E1 E2 : List Ent), k ≤ l.length ∧ u = .int .i64 k ∧ c = .int .i64 (((l.take k).foldl shF (T, S, 0)).2.2 : Nat) ∧ KR p ((l.take k).foldl shF (T, S, 0)).1 E1 ∧ SR q ((l.take k).foldl shF (T, S, 0)).2.1 E2 ∧ St w0 bs wr (E1 ++ (E2 ++ (Ev ++ (E0 ++ (⟨br, #[.int .i64 s, .int .u32 g], 47, true⟩ :: H3)))))) (fun _ u _ => l.length - (intOf u).toNat)
            case atStart => exact ⟨0, E1, E2, Nat.zero_le _, rfl, rfl, hT0, hU0, hS0⟩
            case round =>
              clear hS0 hT0 hU0
              obtain ⟨k, E1, E2, hk, rfl, rfl, hT, hU, hS⟩ := hrel
              by_cases hlt : k < l.length
              · obtain ⟨x, hx⟩ : ∃ x, l.getD k 0 = x := ⟨_, rfl⟩
                obtain ⟨gx, sp, ix, hh, hcx⟩ := hI.at hlt hx
                have ix := ix k rfl
                have hst := shF_step hlt (x := (T, S, 0))
                have hle := shF_le (l.take k) (T, S, 0)
                rw [List.length_take] at hle
                obtain ⟨y, hy⟩ : ∃ y, (l.take k).foldl shF (T, S, 0) = y := ⟨_, rfl⟩
                rw [hy, hx] at hst
                rw [hy] at hle hT hU ⊢
                obtain ⟨Ty, Sy, n⟩ := y
                simp only at hT hU hle ⊢
                have hn4 : n ≤ 4 := by omega
                have hst' := Lib.hid hst
                have hx' := Lib.hid hx
                have hy' := Lib.hid hy
                clear hst hx hy hle
                cases hbb : skB Ty Sy x with
                | true =>
                  have e3 : shF (Ty, Sy, n) x = (skT Ty Sy x, skS Ty Sy x, n + 1) := by simp only [shF, hbb, if_true]
                  have e3' := Lib.hid e3
                  clear e3
                  go_wp2_with (first | (go_at_call 18; refine rc_shade hS hT hU x _ _ _ _ rfl rfl hbb rfl ?_; clear hS hT hU; intro E1 E2 w hT hU hS; unfold Ret) | (refine wpList_is (.call { callee := .builtin .len, args := #[_], argTypes := #[_] }) rfl ?_; refine wpList_stp (by kernel_rfl) (stp_val (run_lenv _ _ rfl) ?_)) | (refine wpList_is (.indexAddr _ _ _) rfl ?_; refine wpList_stp (by kernel_rfl) (stp_val (run_idxv _ _ _ rfl) ?_)) | (refine wpList_is (.load _ _) rfl ?_; go_must ((refine wpList_stp (by kernel_rfl) (stp_val (run_ld _ _ rfl hS) ?_)))))
                  go_roundw
                  case rel => exact ⟨k + 1, E1, E2, by omega, by go_num, by rw [hst'.out, e3'.out]; go_num, by rw [hst'.out, e3'.out]; exact hT, by rw [hst'.out, e3'.out]; exact hU, hS.pick⟩
                  case measure => simp [intOf]; omega
                | false =>
                  have e3 : shF (Ty, Sy, n) x = (skT Ty Sy x, skS Ty Sy x, n) := by simp only [shF, hbb, Bool.false_eq_true, if_false, Nat.add_zero]
                  have e3' := Lib.hid e3
                  clear e3
                  go_wp2_with (first | (go_at_call 18; refine rc_shade hS hT hU x _ _ _ _ rfl rfl hbb rfl ?_; clear hS hT hU; intro E1 E2 w hT hU hS; unfold Ret) | (refine wpList_is (.call { callee := .builtin .len, args := #[_], argTypes := #[_] }) rfl ?_; refine wpList_stp (by kernel_rfl) (stp_val (run_lenv _ _ rfl) ?_)) | (refine wpList_is (.indexAddr _ _ _) rfl ?_; refine wpList_stp (by kernel_rfl) (stp_val (run_idxv _ _ _ rfl) ?_)) | (refine wpList_is (.load _ _) rfl ?_; go_must ((refine wpList_stp (by kernel_rfl) (stp_val (run_ld _ _ rfl hS) ?_)))))
                  go_roundw
                  case rel => exact ⟨k + 1, E1, E2, by omega, by go_num, by rw [hst'.out, e3'.out], by rw [hst'.out, e3'.out]; exact hT, by rw [hst'.out, e3'.out]; exact hU, hS.pick⟩
                  case measure => simp [intOf]; omega
              · obtain rfl : k = l.length := by omega
                rw [List.take_length] at hT hU ⊢
                have hR := hR'.out
                obtain ⟨y, hy⟩ : ∃ y, l.foldl shF (T, S, 0) = y := ⟨_, rfl⟩
                rw [hy] at hT hU hR ⊢
                obtain ⟨Ty, Sy, n⟩ := y
                simp only at hT hU hR ⊢
                clear hy
                go_wp2_with (first | (go_at_call 66; refine kr_blacken hS hT s _ _ rfl rfl ?_; clear hS hT; intro E1 w hT hS; unfold Ret) | (refine wpList_is (.call { callee := .builtin .len, args := #[_], argTypes := #[_] }) rfl ?_; refine wpList_stp (by kernel_rfl) (stp_val (run_lenv _ _ rfl) ?_)) | (refine wpList_is (.load _ _) rfl ?_; go_must ((refine wpList_stp (by kernel_rfl) (stp_val (run_ld _ _ rfl hS) ?_)))))
                exact hR _ _ _ hH hT hU hS.pick
end Go.Proofs.YtgpjanfphgjbbaaGreat
