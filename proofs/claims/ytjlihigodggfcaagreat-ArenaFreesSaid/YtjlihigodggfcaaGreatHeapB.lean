/-
  Heaps: doing something with the object of a name.
-/
import Derived.Test.YtjlihigodggfcaaGreatHeap
set_option linter.unusedSimpArgs false
set_option linter.unusedVariables false
namespace Go.Proofs.YtjlihigodggfcaaGreat
open Go.RowKit Go.Mm
variable {R : Ending → World → Prop} {w : World} {w0 : World} {bs : List Nat} {H H' H1 E : List Ent}

theorem obIdx {b i : Nat} (hi : i < 256) : IdxV Tryz.prog 102 (.pointer (some ⟨b, 0 + 2, none⟩)) i ⟨b, 2 + i * 10, none⟩ := by
  have h := idxArr (P := Tryz.prog) (t := 102) (m := 256) (z := 10) (e := 39) (b := b) (off := 0 + 2) (by kernel_rfl) (by kernel_rfl) hi
  simpa using h
set_option maxHeartbeats 1000000 in
set_option maxRecDepth 100000 in
/-- It is refused. -/
theorem wh_err {p : Option Addr} {T : Hp} (hO : St w0 bs w H) (hT : HA p T E) [hc : Cut H E H1] (s g : Int) (fv : Value) [h1 : OneCell fv] (e : Int) (he : wiH T s g = e) (h0 : e ≠ 0)
    (hR : ∀ w', HA p T E → St w0 bs w' (E ++ H1) → Ret R (.int .i64 e) w') : Calls Tryz.prog 84 #[.pointer p, .agg #[.int .i64 s, .int .u32 g], fv] w R := by
  have hS := hO.front (E := E) (H1 := H1)
  clear hO
  subst he
  rcases T with _ | _ | L
  · go_enter Tryz.func84, Tryz.ntmps84
    go_wp2_with (first | (refine wpList_is (.box 25 _) rfl ?_; go_must (refine wpList_stp (by kernel_rfl) (stp_bx _ _ rfl hS ?_)); clear hS; intro bo w _ hS) | (go_at_call 93; refine hp_valid hS hT false rfl ?_; clear hS; intro w hS; (try simp only [List.cons_append, List.nil_append] at hS); unfold Ret))
    exact hR _ hT hS.pick
  · go_enter Tryz.func84, Tryz.ntmps84
    go_wp2_with (first | (refine wpList_is (.box 25 _) rfl ?_; go_must (refine wpList_stp (by kernel_rfl) (stp_bx _ _ rfl hS ?_)); clear hS; intro bo w _ hS) | (go_at_call 93; refine hp_valid hS hT false rfl ?_; clear hS; intro w hS; (try simp only [List.cons_append, List.nil_append] at hS); unfold Ret))
    exact hR _ hT hS.pick
  obtain ⟨hW, b, bt, Et, rfl, hTt, rfl⟩ := id hT
  have hlo := hW.lo
  have hlt : (tbH L).length = L.length := tbH_len L
  by_cases hs0 : s < 0
  · have e0 : wiH (some (some L)) s g = 3 := ck_out (L := tbH L) (by omega) (.inl hs0) g
    have d1 : decide (s < 0) = true := decide_eq_true hs0
    rw [e0] at hR
    clear e0 h0 hW hlo hlt
    go_enter Tryz.func84, Tryz.ntmps84
    go_wp2_with (first | (refine wpList_is (.box 25 _) rfl ?_; go_must (refine wpList_stp (by kernel_rfl) (stp_bx _ _ rfl hS ?_)); clear hS; intro bo w _ hS) | (go_at_call 93; refine hp_valid hS hT true rfl ?_; clear hS; intro w hS; (try simp only [List.cons_append, List.nil_append] at hS); unfold Ret) | (refine region_quiet hS (by kernel_rfl) (by kernel_rfl) (fun hne => ?_); (repeat (first | go_big_quiet_skip | (go_big_quiet_want; first | (refine quiet_is (.load _ _) rfl ?_; go_must ((refine quiet_at sw_st (fun w hS => run_ld _ _ rfl hS) ?_)); go_big_quiet_on) | (go_big_quiet_op; go_big_quiet_on)))); refine wpQuiet_nil ?_; clear hS hne; intro w hS))
    exact hR _ hT hS.pick
  by_cases hs1 : (L.length : Int) ≤ s
  · have e0 : wiH (some (some L)) s g = 3 := ck_out (L := tbH L) (by omega) (.inr (by omega)) g
    have d1 : decide (s < 0) = false := decide_eq_false hs0
    have d2 : decide ((L.length : Int) ≤ s) = true := decide_eq_true hs1
    rw [e0] at hR
    clear e0 h0 hW hlo hlt
    go_enter Tryz.func84, Tryz.ntmps84
    go_wp2_with (first | (refine wpList_is (.box 25 _) rfl ?_; go_must (refine wpList_stp (by kernel_rfl) (stp_bx _ _ rfl hS ?_)); clear hS; intro bo w _ hS) | (go_at_call 93; refine hp_valid hS hT true rfl ?_; clear hS; intro w hS; (try simp only [List.cons_append, List.nil_append] at hS); unfold Ret) | (refine region_quiet hS (by kernel_rfl) (by kernel_rfl) (fun hne => ?_); (repeat ((go_big_quiet_want; first | (refine quiet_is (.load _ _) rfl ?_; go_must ((refine quiet_at sw_st (fun w hS => run_ld _ _ rfl hS) ?_)); go_big_quiet_on) | (go_big_quiet_op; go_big_quiet_on)))); refine wpQuiet_nil ?_; clear hS hne; intro w hS))
    exact hR _ hT hS.pick
  have d1 : decide (s < 0) = false := decide_eq_false hs0
  have d2 : decide ((L.length : Int) ≤ s) = false := decide_eq_false hs1
  have hce : ckE (some (tbH L)) s g = 7 := by
    obtain ⟨j, rfl⟩ := Int.eq_ofNat_of_zero_le (show 0 ≤ s by omega)
    have h2 : ckE (some (tbH L)) j g ≠ 0 := h0
    rw [ck_at (by omega)] at h2 ⊢
    split at h2
    · exact absurd rfl h2
    · next h3 => rw [if_neg h3]
  have e0 : wiH (some (some L)) s g = 7 := hce
  rw [e0] at hR
  have hce' := Lib.hid hce
  have hq : IntEq (7 : Int) 0 false := ⟨by decide⟩
  clear e0 h0 hW hlo hlt hce
  go_enter Tryz.func84, Tryz.ntmps84
  go_wp2_with (first | (refine wpList_is (.box 25 _) rfl ?_; go_must (refine wpList_stp (by kernel_rfl) (stp_bx _ _ rfl hS ?_)); clear hS; intro bo w _ hS) | (go_at_call 93; refine hp_valid hS hT true rfl ?_; clear hS; intro w hS; (try simp only [List.cons_append, List.nil_append] at hS); unfold Ret) | (refine region_quiet hS (by kernel_rfl) (by kernel_rfl) (fun hne => ?_); (repeat ((go_big_quiet_want; first | (refine quiet_is (.load _ _) rfl ?_; go_must (first | refine quiet_at sw_st (fun w hS => run_ld _ _ rfl hS) ?_ | refine quiet_at sw_st (fun w hS => run_lda _ _ rfl hS) ?_); go_big_quiet_on) | (go_big_quiet_op; go_big_quiet_on)))); refine wpQuiet_nil ?_; clear hS hne; intro w hS))
  refine region_new [] rfl hS _ (by kernel_rfl) (by kernel_rfl) (hpk := pickRefl) ?_
  (refine fx_val (fun _ => rfl) rfl (fun χ w hw => run_mv _ rfl) ?_)
  (refine fx_val (fun _ => rfl) rfl (fun χ w hw => run_nc _ rfl) ?_)
  (refine fx_val (fun _ => rfl) rfl (fun χ w hw => run_fa _ _ _ rfl) ?_)
  (refine fx_val (fun _ => rfl) rfl (fun χ w hw => run_ld _ _ rfl hw) ?_)
  (refine fx_val (fun _ => rfl) rfl (fun χ w hw => run_lda _ _ rfl hw) ?_)
  refine fx_ask 112 [_, _] _ rfl (fun _ => rfl) rfl (enters _ (by kernel_rfl)) (.int .i64 7) (fun X w hS => sl_check hS hTt s g (fun w' _ hS' => ⟨by rw [hce'.out], hS'.pick⟩)) ?_
  (refine fx_val (fun _ => rfl) rfl (fun χ w hw => run_inlit _ _ _ _ rfl) ?_)
  (refine fx_val (fun _ => rfl) rfl (fun χ w hw => run_as _ rfl) ?_)
  refine fx_end rfl ?_
  intro χ w hok hS
  replace hS := st_drop hS
  clear hok
  go_wp2_with ((go_skip))
  exact hR _ hT hS.pick

set_option maxHeartbeats 1000000 in
set_option maxRecDepth 100000 in
/-- It is done: what the function does turns the blocks. -/
theorem wh_do {L : List Hs} {i : Nat} {g : Int} {b bt : Nat} {Et : List Ent} (hO : St w0 bs w H) (hW : HpW L) (hTt : TA (some ⟨bt, 0, none⟩) (some (tbH L)) Et)
    [hc : Cut H (⟨b, hpC (some ⟨bt, 0, none⟩) L.length (padH L), 104, true⟩ :: Et) H1] (hi : i < L.length) (hck : ckE (some (tbH L)) i g = 0) (f : Nat) (cap : List Value) (v : Int) (Φ : List Ent → Prop)
    (hen : ∀ args w, (callFunc f args).run Tryz.prog w = .ok (.enter f args) w)
    (hdo : ∀ X w', St w0 bs w' ((⟨b, hpC (some ⟨bt, 0, none⟩) L.length (padH L), 104, true⟩ :: (Et ++ H1)) ++ X) → Calls Tryz.prog f ([Value.pointer (some ⟨b, 2 + i * 10, none⟩)] ++ cap).toArray w' (fun e w'' => ∃ x, e = .returned (.int .i64 v) ∧ Φ x ∧ St w0 bs w'' (x ++ X)))
    (hR : ∀ x w', Φ x → St w0 bs w' x → Ret R (.int .i64 v) w') : Calls Tryz.prog 84 #[.pointer (some ⟨b, 0, none⟩), .agg #[.int .i64 i, .int .u32 g], .func (.func f) #[] cap.toArray] w R := by
  have hS := hO.front (E := ⟨b, hpC (some ⟨bt, 0, none⟩) L.length (padH L), 104, true⟩ :: Et) (H1 := H1)
  clear hO
  have hi256 : i < 256 := by have := hW.hi; omega
  have hT : HA (some ⟨b, 0, none⟩) (some (some L)) (⟨b, hpC (some ⟨bt, 0, none⟩) L.length (padH L), 104, true⟩ :: Et) := ⟨hW, b, bt, Et, rfl, hTt, rfl⟩
  obtain ⟨s, hs⟩ : ∃ s : Int, s = i := ⟨_, rfl⟩
  have d1 : decide (s < 0) = false := decide_eq_false (by omega)
  have d2 : decide ((L.length : Int) ≤ s) = false := decide_eq_false (by omega)
  rw [← hs] at hck
  have hce' := Lib.hid hck
  have hix : IdxV Tryz.prog 102 (.pointer (some ⟨b, 0 + 2, none⟩)) s ⟨b, 2 + i * 10, none⟩ := by rw [hs]; exact obIdx hi256
  show Calls Tryz.prog _ #[_, .agg #[.int .i64 ((i : Nat) : Int), .int .u32 g], _] w R
  rw [← hs]
  clear hck hW hi hs hi256
  go_enter Tryz.func84, Tryz.ntmps84
  go_wp2_with (first | (refine wpList_is (.box 25 _) rfl ?_; go_must (refine wpList_stp (by kernel_rfl) (stp_bx _ _ rfl hS ?_)); clear hS; intro bo w _ hS) | (go_at_call 93; refine hp_valid hS hT true rfl ?_; clear hS; intro w hS; (try simp only [List.cons_append, List.nil_append] at hS); unfold Ret) | (refine region_quiet hS (by kernel_rfl) (by kernel_rfl) (fun hne => ?_); (repeat ((go_big_quiet_want; first | (refine quiet_is (.load _ _) rfl ?_; go_must (first | refine quiet_at sw_st (fun w hS => run_ld _ _ rfl hS) ?_ | refine quiet_at sw_st (fun w hS => run_lda _ _ rfl hS) ?_); go_big_quiet_on) | (go_big_quiet_op; go_big_quiet_on)))); refine wpQuiet_nil ?_; clear hS hne; intro w hS))
  refine region_new [] rfl hS _ (by kernel_rfl) (by kernel_rfl) (hpk := pickRefl) ?_
  (refine fx_val (fun _ => rfl) rfl (fun χ w hw => run_mv _ rfl) ?_)
  (refine fx_val (fun _ => rfl) rfl (fun χ w hw => run_nc _ rfl) ?_)
  (refine fx_val (fun _ => rfl) rfl (fun χ w hw => run_fa _ _ _ rfl) ?_)
  (refine fx_val (fun _ => rfl) rfl (fun χ w hw => run_ld _ _ rfl hw) ?_)
  (refine fx_val (fun _ => rfl) rfl (fun χ w hw => run_lda _ _ rfl hw) ?_)
  refine fx_ask 112 [_, _] _ rfl (fun _ => rfl) rfl (enters _ (by kernel_rfl)) (.int .i64 0) (fun X w hS => sl_check hS hTt s g (fun w' _ hS' => ⟨by rw [hce'.out], hS'.pick⟩)) ?_
  (refine fx_val (fun _ => rfl) rfl (fun χ w hw => run_ine _ _ _ _ rfl) ?_)
  (refine fx_val (fun _ => rfl) rfl (fun χ w hw => run_as _ rfl) ?_)
  refine fx_end rfl ?_
  intro χ w hok hS
  replace hS := st_drop hS
  clear hok
  go_wp2_with ((go_skip))
  have hS : St w0 bs w (⟨b, hpC (some ⟨bt, 0, none⟩) L.length (padH L), 104, true⟩ :: (Et ++ (⟨bo, #[.int .i64 s, .int .u32 g], 25, true⟩ :: H1))) := hS.pick
  refine region_itemsE [⟨(undef, ⟨b, hpC (some ⟨bt, 0, none⟩) L.length (padH L), 104, true⟩ :: (Et ++ H1)), [(7, fun _ x => Φ x.2)]⟩] [⟨bo, #[.int .i64 s, .int .u32 g], 25, true⟩] (⟨b, hpC (some ⟨bt, 0, none⟩) L.length (padH L), 104, true⟩ :: (Et ++ (H1 ++ [⟨bo, #[.int .i64 s, .int .u32 g], 25, true⟩]))) (by simp) hS.pick (by kernel_rfl) (by kernel_rfl) ?_
  (refine fx_val (fun _ => rfl) rfl (fun χ w hw => run_mv _ rfl) ?_)
  (refine fx_val (fun _ => rfl) rfl (fun χ w hw => run_mv _ rfl) ?_)
  (refine fx_val (fun _ => rfl) rfl (fun χ w hw => run_fa _ _ _ rfl) ?_)
  (refine fx_val (fun _ => rfl) rfl (fun χ w hw => run_ld _ _ rfl hw) ?_)
  (refine fx_val (fun _ => rfl) rfl (fun χ w hw => run_nc _ rfl) ?_)
  (refine fx_val (fun _ => rfl) rfl (fun χ w hw => run_fa _ _ _ rfl) ?_)
  (refine fx_val (fun _ => rfl) rfl (fun χ w hw => run_idxv _ _ _ rfl) ?_)
  refine fx_turn0 0 0 rfl rfl (by (rfl)) (by (rfl)) (by (rfl)) (fun _ => rfl) (fun _ => .int .i64 v) ?_ ?_
  · intro χ X w _ hS
    exact stepX_callv (.tmp 32) [_] _ rfl hen ((hdo (X ++ [⟨bo, #[.int .i64 s, .int .u32 g], 25, true⟩]) w (show St w0 bs w ((⟨b, hpC (some ⟨bt, 0, none⟩) L.length (padH L), 104, true⟩ :: (Et ++ H1)) ++ (X ++ [⟨bo, #[.int .i64 s, .int .u32 g], 25, true⟩])) from hS)).mono fun e w'' ⟨x, h1, h2, h3⟩ => ⟨_, h1, (undef, x), rfl, h2, h3⟩)
  (refine fx_val (fun _ => rfl) rfl (fun χ w hw => run_as _ rfl) ?_)
  refine fx_end rfl ?_
  intro χ w hok hS
  obtain ⟨hΦ, _⟩ := hok _ (.head _)
  have hS : St w0 bs w (((χ 7).2 ++ []) ++ [⟨bo, #[.int .i64 s, .int .u32 g], 25, true⟩]) := hS
  rw [List.append_nil] at hS
  generalize (χ 7).2 = x at hS hΦ
  clear hok
  go_wp2_with ((go_skip))
  exact hR x _ hΦ hS.pick
end Go.Proofs.YtjlihigodggfcaaGreat
