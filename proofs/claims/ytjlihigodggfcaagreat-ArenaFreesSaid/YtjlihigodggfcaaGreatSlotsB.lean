/-
  Tables of slots: generations; giving back; counting.
-/
import Derived.Test.YtjlihigodggfcaaGreatSlots
import Derived.Test.YtjlihigodggfcaaGreatRfs
set_option linter.unusedSimpArgs false
set_option linter.unusedVariables false
namespace Go.Proofs.YtjlihigodggfcaaGreat
open Go.RowKit Go.Mm
variable {R : Ending → World → Prop} {w : World} {w0 : World} {bs : List Nat} {H H' H1 E : List Ent} {L X : List (Int × Int)} {b : Nat} {n : Int}

instance e_u32 : ElemT Tryz.prog 23 1 4 #[.int .u32 0] := ⟨by kernel_rfl⟩
instance sl_u32 : SliceT Tryz.prog 165 23 := ⟨by kernel_rfl⟩
theorem left1 {g : Int} {T : TypeId} (hO : St w0 bs w H) [hH : Has H b #[.int .u32 g] T] (h0 : 0 ≤ g) (h1 : g ≤ 4294967295) (hR : Ret R (.int .u32 (4294967295 - g)) w) : Calls Tryz.prog 132 #[.pointer (some ⟨b, 0, none⟩)] w R := by
  have hS := hO
  clear hO
  go_enter Tryz.func132, Tryz.ntmps132
  go_wp2_with ((refine wpList_is (.load _ _) rfl ?_; go_must ((refine wpList_stp (by kernel_rfl) (stp_val (run_ld _ _ rfl hS) ?_)))))
  exact hR
theorem of_ok {c : Nat} {g : Int} {T T' : TypeId} (hO : St w0 bs w H) [hH : Has H b #[.int .u32 g] T] [hC : Has H c #[.int .u32 g] T'] (h0 : 1 ≤ g) (h1 : g ≤ 4294967295) (hR : ∀ w', St w0 bs w' H → Ret R (.tuple #[.int .u32 (4294967295 - g), .int .i64 0]) w') :
    Calls Tryz.prog 131 #[.func (.func 132) #[] #[.pointer (some ⟨b, 0, none⟩)], .slice (some ⟨c, 0, none⟩) 1 1] w R := by
  have hS := hO
  clear hO
  go_enter Tryz.func131, Tryz.ntmps131
  go_wp2_with ((go_skip))
  go_loopw [12, 8, 9] (fun u _ _ wr => ∃ k : Nat, k ≤ 1 ∧ u = .int .i64 k ∧ St w0 bs wr H) (fun u _ _ _ => 1 - (intOf u).toNat)
  case atStart => exact ⟨0, by omega, rfl, hS⟩
  case round =>
    clear hS
    obtain ⟨k, hk, rfl, hS⟩ := hrel
    by_cases hk0 : k = 0
    · subst hk0
      go_wp2_with (first | (go_at_call 108; refine gcheck h0 h1 ?_; unfold Ret) | (refine wpList_is (.load _ _) rfl ?_; go_must ((refine wpList_stp (by kernel_rfl) (stp_val (run_ld _ _ rfl hS) ?_)))))
      go_roundw
      case rel => exact ⟨1, by omega, by go_num, hS⟩
      case measure => simp [intOf]
    · obtain rfl : k = 1 := by omega
      clear hk0
      go_wp2_with ((go_at_call 132; refine left1 hS (b := b) (by omega) h1 ?_; unfold Ret))
      exact hR _ hS
theorem left_ok {g : Int} (hO : St w0 bs w H) (h0 : 1 ≤ g) (h1 : g ≤ 4294967295) (hR : ∀ w', St w0 bs w' H → Ret R (.tuple #[.int .u32 (4294967295 - g), .int .i64 0]) w') : Calls Tryz.prog 130 #[.int .u32 g] w R := by
  have hS := hO
  clear hO
  go_enter Tryz.func130, Tryz.ntmps130
  go_wp2_with (first | (go_at_call 131; refine of_ok hS h0 h1 ?_; clear hS; intro w hS; unfold Ret) | (refine wpList_is (.buildSlice _ _ _) rfl ?_; go_must (refine wpList_stp (by kernel_rfl) (stp_bsl _ _ _ rfl hS (by decide) rfl (by decide) (by decide) ?_)); clear hS; intro bN w hbN hS) | (refine wpList_is (.load _ _) rfl ?_; go_must ((refine wpList_stp (by kernel_rfl) (stp_val (run_ld _ _ rfl hS) ?_)))) | (refine wpList_is (.box _ _) rfl ?_; go_must (refine wpList_stp (by kernel_rfl) (stp_bx _ _ rfl hS ?_)); clear hS; intro bN w hbN hS))
  exact hR _ hS.pick
theorem after1 {g v : Int} {d : Bool} (hO : St w0 bs w H) (h0 : 1 ≤ g) (h1 : g ≤ 4294967295) (hv : (if g < 4294967295 then g + 1 else 0) = v) (hd : decide (g < 4294967295) = d)
    (hR : ∀ w', St w0 bs w' H → Ret R (.tuple #[.int .u32 v, .bool d, .int .i64 0]) w') : Calls Tryz.prog 125 #[.int .u32 g, .int .u64 1] w R := by
  have hS := hO
  clear hO
  subst hv hd
  by_cases hg : g < 4294967295
  · simp only [if_pos hg, decide_eq_true hg] at hR
    have q1 : decide (4294967295 - g < 1) = false := by simp; omega
    go_enter Tryz.func125, Tryz.ntmps125
    go_wp2_with ((go_at_call 130; refine left_ok hS h0 h1 ?_; clear hS; intro w hS; unfold Ret))
    go_ret3
    exact hR _ hS
  · obtain rfl : g = 4294967295 := by omega
    simp only [Int.lt_irrefl, if_false, decide_false] at hR
    go_enter Tryz.func125, Tryz.ntmps125
    go_wp2_with ((go_at_call 130; refine left_ok hS h0 h1 ?_; clear hS; intro w hS; unfold Ret))
    go_ret3
    exact hR _ hS
theorem next_ok {g : Int} (v : Int) (d : Bool) (hO : St w0 bs w H) (h0 : 1 ≤ g) (h1 : g ≤ 4294967295) (hv : (if g < 4294967295 then g + 1 else 0) = v) (hd : decide (g < 4294967295) = d)
    (hR : ∀ w', St w0 bs w' H → Ret R (.tuple #[.int .u32 v, .bool d, .int .i64 0]) w') : Calls Tryz.prog 113 #[.int .u32 g] w R := by
  have hS := hO
  have hv' := Lib.hid hv
  have hd' := Lib.hid hd
  clear hO hv hd
  go_enter Tryz.func113, Tryz.ntmps113
  go_wp2_with ((go_at_call 125; refine after1 hS h0 h1 hv'.out hd'.out ?_; clear hS; intro w hS; unfold Ret))
  go_ret3
  exact hR _ hS

set_option maxRecDepth 100000 in
theorem sl_give {p : Option Addr} {T : Tb} (hO : St w0 bs w H) (hT : TA p T E) [hc : Cut H E H1] (s g : Int)
    (hR : ∀ E' w', TA p (gvT T s g) E' → St w0 bs w' (E' ++ H1) → Ret R (.int .i64 (ckE T s g)) w') : Calls Tryz.prog 88 #[.pointer p, .agg #[.int .i64 s, .int .u32 g]] w R := by
  have hS := hO.front (E := E) (H1 := H1)
  clear hO
  by_cases h0 : ckE T s g = 0
  · rcases T with _ | L
    · cases h0
    obtain ⟨i, rfl, hi, hx⟩ := ck_zero h0
    obtain ⟨hW, b, rfl, rfl⟩ := id hT
    have hgn := hW.gn _ (getD_mem hi)
    rw [hx] at hgn
    obtain ⟨g0, g1⟩ := hgn
    simp only at g0 g1
    have hl : i < (padL L).length := by rw [padL_len hW.hi]; have := hW.hi; omega
    have hget := padL_get hi
    rw [hx] at hget
    have h256 : (i : Int) < 256 := by have := hW.hi; omega
    by_cases hg : g < 4294967295
    · have e : gvN L i g = L.set i (0, g + 1) := by unfold gvN; rw [if_pos h0, if_pos hg, Int.toNat_natCast]
      simp only [gvT, e, h0] at hR
      have hset := tabBothSet (n := L.length) hl 0 (g + 1)
      rw [padL_set hi] at hset
      have hdg : decide (g < 4294967295) = true := by simpa using hg
      have h0' := Lib.hid h0
      clear hget hx e h0
      go_enter Tryz.func88, Tryz.ntmps88
      go_wp2_with (first | (go_at_call 112; refine sl_check hS hT _ _ ?_; clear hS; intro w _ hS; rw [h0'.out]; simp only [List.cons_append, List.nil_append] at hS; unfold Ret) | (go_at_call 113; refine next_ok (g + 1) true hS g0 g1 (if_pos hg) hdg ?_; clear hS; intro w hS; unfold Ret) | (refine region_tail 8 hS (by kernel_rfl) (by kernel_rfl) ?_; clear hS; intro w hS; simp only [List.take_succ_cons, List.take_zero, List.drop_succ_cons, List.drop_zero]; (repeat (first | (refine wpStill_is (.load _ _) rfl ?_; go_must ((refine wpStill_val rfl (run_ld _ _ rfl hS) ?_))) | still_step)); refine wpStill_nil ?_) | (refine wpList_is (.load _ _) rfl ?_; go_must (first | refine wpList_stp (by kernel_rfl) (stp_val (run_ld _ _ rfl hS) ?_) | refine wpList_stp (by kernel_rfl) (stp_val (run_lda _ _ rfl hS) ?_))) | (refine wpList_is (.store _ _ _) rfl ?_; go_must ((refine wpList_stp (by kernel_rfl) (stp_sta _ _ _ rfl hS ?_))); clear hS; intro w hS) | (refine wpList_is (.box _ _) rfl ?_; go_must (refine wpList_stp (by kernel_rfl) (stp_bx _ _ rfl hS ?_)); clear hS; intro bN w hbN hS))
      refine hR _ _ ⟨hW.set i (by simp) (by simp only; omega), b, rfl, rfl⟩ ?_
      rw [List.length_set]
      exact hS.pick
    · obtain rfl : g = 4294967295 := by omega
      have e : gvN L i 4294967295 = L.set i (2, 4294967295) := by unfold gvN; rw [if_pos h0, if_neg (by omega), Int.toNat_natCast]
      simp only [gvT, e, h0] at hR
      have hset := tabStateSet (n := L.length) hget 2
      rw [padL_set hi] at hset
      have h0' := Lib.hid h0
      clear hget hx e h0
      go_enter Tryz.func88, Tryz.ntmps88
      go_wp2_with (first | (go_at_call 112; refine sl_check hS hT _ _ ?_; clear hS; intro w _ hS; rw [h0'.out]; simp only [List.cons_append, List.nil_append] at hS; unfold Ret) | (go_at_call 113; refine next_ok 0 false hS g0 g1 rfl rfl ?_; clear hS; intro w hS; unfold Ret) | (refine region_tail 7 hS (by kernel_rfl) (by kernel_rfl) ?_; clear hS; intro w hS; simp only [List.take_succ_cons, List.take_zero, List.drop_succ_cons, List.drop_zero]; (repeat (first | (refine wpStill_is (.load _ _) rfl ?_; go_must ((refine wpStill_val rfl (run_ld _ _ rfl hS) ?_))) | still_step)); refine wpStill_nil ?_) | (refine wpList_is (.load _ _) rfl ?_; go_must (first | refine wpList_stp (by kernel_rfl) (stp_val (run_ld _ _ rfl hS) ?_) | refine wpList_stp (by kernel_rfl) (stp_val (run_lda _ _ rfl hS) ?_))) | (refine wpList_is (.store _ _ _) rfl ?_; go_must ((refine wpList_stp (by kernel_rfl) (stp_st _ _ _ rfl hS ?_))); clear hS; intro w hS) | (refine wpList_is (.box _ _) rfl ?_; go_must (refine wpList_stp (by kernel_rfl) (stp_bx _ _ rfl hS ?_)); clear hS; intro bN w hbN hS))
      refine hR _ _ ⟨hW.set i (by simp) (by simp), b, rfl, rfl⟩ ?_
      rw [List.length_set]
      exact hS.pick
  · have e : gvT T s g = T := by
      cases T with
      | none => rfl
      | some L => simp only [gvT, gvN, if_neg h0]
    rw [e] at hR
    have q : (ckE T s g != 0) = true := by simpa using h0
    clear e h0
    obtain ⟨c, hce⟩ : ∃ c, ckE T s g = c := ⟨_, rfl⟩
    rw [hce] at hR q
    have hce' := Lib.hid hce
    clear hce
    go_enter Tryz.func88, Tryz.ntmps88
    go_wp2_with (first | (go_at_call 112; refine sl_check hS hT _ _ ?_; clear hS; intro w _ hS; rw [hce'.out]; unfold Ret) | (refine wpList_is (.load _ _) rfl ?_; go_must ((refine wpList_stp (by kernel_rfl) (stp_val (run_lda _ _ rfl hS) ?_)))) | (refine wpList_is (.box _ _) rfl ?_; go_must (refine wpList_stp (by kernel_rfl) (stp_bx _ _ rfl hS ?_)); clear hS; intro bN w hbN hS))
    exact hR _ _ hT hS.pick

/-! Counting -/
theorem free1 {s g : Int} (hR : ∀ w', Chg w w' [] → Ret R (.bool (s == 0)) w') : Calls Tryz.prog 120 #[.agg #[.int .i64 s, .int .u32 g]] w R := by
  have hS : St w [] w [] := St.start0
  go_enter Tryz.func120, Tryz.ntmps120
  go_wp2_with (first | (refine wpList_is (.load _ _) rfl ?_; go_must ((refine wpList_stp (by kernel_rfl) (stp_val (run_ld _ _ rfl hS) ?_)))) | (refine wpList_is (.box _ _) rfl ?_; go_must (refine wpList_stp (by kernel_rfl) (stp_bx _ _ rfl hS ?_)); clear hS; intro bN w hbN hS))
  exact hR _ hS.chg

set_option maxRecDepth 100000 in
theorem sl_count {p : Option Addr} {T : Tb} (hO : St w0 bs w H) (hT : TA p T E) [hc : Cut H E H1] (f : Nat) (st : Int) (hf : ∀ args w, (callFunc f args).run Tryz.prog w = .ok (.enter f args) w)
    (hcall : ∀ (R : Ending → World → Prop) (w : World) (s g : Int), (∀ w', Chg w w' [] → Ret R (.bool (s == st)) w') → Calls Tryz.prog f #[.agg #[.int .i64 s, .int .u32 g]] w R)
    (hR : ∀ w', TA p T E → St w0 bs w' (E ++ H1) → Ret R (.int .i64 (ctN st T)) w') : Calls Tryz.prog 119 #[.pointer p, .func (.func f) #[] #[]] w R := by
  have hS := hO.front (E := E) (H1 := H1)
  clear hO
  rcases T with _ | L
  · obtain ⟨rfl, rfl⟩ := hT
    simp only [List.nil_append] at hS
    go_enter Tryz.func119, Tryz.ntmps119
    go_wp2_with ((go_at_call 121; refine valid_nil ?_; unfold Ret))
    exact hR _ TA.none hS
  obtain ⟨hW, b, rfl, rfl⟩ := hT
  simp only [List.cons_append, List.nil_append] at hS
  have hR := fun w' => hR w' ⟨hW, b, rfl, rfl⟩
  by_cases hl : 0 < L.length
  · have hval : decide ((0 : Int) < L.length) = true := by simpa using hl
    have h1 : (L.length : Int) ≤ 256 := by have := hW.hi; omega
    clear hl
    go_enter Tryz.func119, Tryz.ntmps119
    go_wp2_with (first | (go_at_call 121; refine valid_at (hS.has inferInstance) _ hval ?_; unfold Ret) | (refine region_quiet hS (by kernel_rfl) (by kernel_rfl) (fun hne => ?_); (repeat ((go_big_quiet_want; first | (refine quiet_is (.load _ _) rfl ?_; go_must ((refine quiet_at sw_st (fun w hS => run_ld _ _ rfl hS) ?_)); go_big_quiet_on) | (go_big_quiet_op; go_big_quiet_on)))); refine wpQuiet_nil ?_; clear hS hne; intro w hS))
    go_loopw [20, 5] (fun u c wr => ∃ k : Nat, k ≤ L.length ∧ u = .int .i64 k ∧ c = .int .i64 (stCnt st L k) ∧ St w0 bs wr (⟨b, tabC L.length (padL L), 137, true⟩ :: H1)) (fun u _ _ => L.length - (intOf u).toNat)
    case atStart => exact ⟨0, Nat.zero_le _, rfl, rfl, hS⟩
    case round =>
      clear hS
      obtain ⟨k, hk, rfl, rfl, hS⟩ := hrel
      have hle := stCnt_le st L k
      by_cases hlt : k < L.length
      · have hb := tabBoth (n := L.length) (padL_get hlt)
        obtain ⟨⟨s, g⟩, hx⟩ : ∃ x, L.getD k (0, 0) = x := ⟨_, rfl⟩
        rw [hx] at hb
        simp only at hb
        obtain ⟨cn, hcn⟩ : ∃ cn, stCnt st L k = cn := ⟨_, rfl⟩
        by_cases hs : s = st
        · have hst : isSt st L k = true := by unfold isSt; rw [hx]; simpa using hs
          have e := Lib.hid (stCnt_yes hst)
          have q : (s == st) = true := by simpa using hs
          rw [hcn] at hle
          rw [hcn] at e
          rw [hcn]
          have q' := Lib.hid q
          clear hx hs hst hcn q
          go_wp2_with (first | (refine wpList_is (.load _ _) rfl ?_; go_must ((refine wpList_stp (by kernel_rfl) (stp_val (run_lda _ _ rfl hS) ?_)))) | (refine wpList_is (.store _ _ _) rfl ?_; go_must ((refine wpList_stp (by kernel_rfl) (stp_sta _ _ _ rfl hS ?_))); clear hS; intro w hS) | (refine wpList_is (.alloc _) rfl ?_; go_must (refine wpList_stp (by kernel_rfl) (stp_al _ rfl hS ?_)); clear hS; intro bN w hbN hS))
          refine hcall _ _ _ _ ?_
          rw [q'.out]
          intro w hc
          replace hS := hS.nil hc
          clear hc
          unfold Ret
          go_wp2_with ((go_skip))
          go_roundw
          case rel => exact ⟨k + 1, by omega, by go_num, by rw [e.out]; go_num, hS.pick⟩
          case measure => simp [intOf]; omega
        · have hst : isSt st L k = false := by unfold isSt; rw [hx]; simpa using hs
          have e := Lib.hid (stCnt_no hst)
          have q : (s == st) = false := by simpa using hs
          rw [hcn] at hle
          rw [hcn] at e
          rw [hcn]
          have q' := Lib.hid q
          clear hx hs hst hcn q
          go_wp2_with (first | (refine wpList_is (.load _ _) rfl ?_; go_must ((refine wpList_stp (by kernel_rfl) (stp_val (run_lda _ _ rfl hS) ?_)))) | (refine wpList_is (.store _ _ _) rfl ?_; go_must ((refine wpList_stp (by kernel_rfl) (stp_sta _ _ _ rfl hS ?_))); clear hS; intro w hS) | (refine wpList_is (.alloc _) rfl ?_; go_must (refine wpList_stp (by kernel_rfl) (stp_al _ rfl hS ?_)); clear hS; intro bN w hbN hS))
          refine hcall _ _ _ _ ?_
          rw [q'.out]
          intro w hc
          replace hS := hS.nil hc
          clear hc
          unfold Ret
          go_wp2_with ((go_skip))
          go_roundw
          case rel => exact ⟨k + 1, by omega, by go_num, by rw [e.out], hS.pick⟩
          case measure => simp [intOf]; omega
      · obtain rfl : k = L.length := by omega
        go_wp2_with ((go_skip))
        exact hR _ hS
  · have hval : decide ((0 : Int) < L.length) = false := by simpa using hl
    have e : ctN st (some L) = 0 := by
      have : L.length = 0 := by omega
      simp only [ctN, this, stCnt, gl, List.range_zero, List.filter_nil, List.length_nil]
      rfl
    rw [e] at hR
    clear hl e
    go_enter Tryz.func119, Tryz.ntmps119
    go_wp2_with ((go_at_call 121; refine valid_at (hS.has inferInstance) _ hval ?_; unfold Ret))
    exact hR _ hS
theorem sl_free {p : Option Addr} {T : Tb} (hO : St w0 bs w H) (hT : TA p T E) [hc : Cut H E H1]
    (hR : ∀ w', TA p T E → St w0 bs w' (E ++ H1) → Ret R (.int .i64 (ctN 0 T)) w') : Calls Tryz.prog 95 #[.pointer p] w R := by
  have hS := hO.front (E := E) (H1 := H1)
  clear hO
  go_enter Tryz.func95, Tryz.ntmps95
  go_wp2_with ((go_at_call 119; refine sl_count hS hT _ 0 (enters _ (by kernel_rfl)) (fun R w s g h => free1 h) ?_; clear hS; intro w _ hS; unfold Ret))
  exact hR _ hT hS
end Go.Proofs.YtjlihigodggfcaaGreat
