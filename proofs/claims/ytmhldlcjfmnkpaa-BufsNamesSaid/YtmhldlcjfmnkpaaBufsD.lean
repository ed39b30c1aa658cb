/-
  Pools of buffers: how many bytes are pinned.
-/
import Derived.Test.YtmhldlcjfmnkpaaBufsC
import Derived.Test.YtmhldlcjfmnkpaaBufsB
set_option linter.unusedSimpArgs false
set_option linter.unusedVariables false
namespace Go.Proofs.Ytmhldlcjfmnkpaa
open Go.RowKit Go.Mm
attribute [local go_sem] Oper.semAt_some
variable {R : Ending → World → Prop} {w : World} {w0 : World} {bs : List Nat} {H H' H1 E : List Ent}

/-- The bytes that are pinned. -/
def usP (T : Pl) : Int := ((plL T).map (·.2.2)).sum
theorem map_range_getD {α β : Type} (l : List α) (d : α) (f : α → β) : (List.range l.length).map (fun i => f (l.getD i d)) = l.map f := by
  refine List.ext_getElem (by simp) fun i h1 h2 => ?_
  simp only [List.length_map, List.length_range] at h1
  simp [List.getD_eq_getElem?_getD, h1]
theorem sum_gl {p : Nat → Bool} {f : Nat → Int} {n : Nat} (h : ∀ i, i < n → p i = false → f i = 0) : ((gl p n).map f).sum = ((List.range n).map f).sum := by
  induction n with
  | zero => rfl
  | succ n ih =>
    have ih := ih (fun i hi => h i (by omega))
    cases hp : p n with
    | true => rw [gl_yes hp, List.range_succ]; simp [ih]
    | false => rw [gl_no hp, List.range_succ]; simp [ih, h n (by omega) hp]
theorem usedL {M : Int} {L : List Bf} (h : PlW M L) : ((List.range (tkP L).length).map (byAt L)).sum = (L.map (·.2.2)).sum := by
  have e1 : (List.range (tkP L).length).map (byAt L) = (tkP L).map (fun x => (L.getD x.1.toNat (0, 0, 0)).2.2) :=
    map_range_getD (tkP L) (0, 0) (fun x => (L.getD x.1.toNat (0, 0, 0)).2.2)
  have e2 : (tkP L).map (fun x => (L.getD x.1.toNat (0, 0, 0)).2.2) = (gl (isSt 1 (tbB L)) (tbB L).length).map (fun i => (L.getD i (0, 0, 0)).2.2) := by
    unfold tkP tkL stL
    rw [List.map_map]
    rfl
  have e3 : (List.range (tbB L).length).map (fun i => (L.getD i (0, 0, 0)).2.2) = L.map (fun x => x.2.2) := by
    rw [tbB_len]; exact map_range_getD L (0, 0, 0) (fun x => x.2.2)
  rw [e1, e2, sum_gl, e3]
  intro i hi hs
  rw [tbB_len] at hi
  have hm : L.getD i (0, 0, 0) ∈ L := by rw [List.getD_eq_getElem?_getD, List.getElem?_eq_getElem hi]; exact List.getElem_mem hi
  refine (h.by_ _ hm).2 (fun h1 => ?_)
  rw [isSt, tbB_get, h1] at hs
  cases hs
theorem byAt_bd {M : Int} {L : List Bf} (h : PlW M L) (x : PnOf L) : 1 ≤ byAt L x.j ∧ byAt L x.j ≤ 65536 := by
  obtain ⟨i, hi, e1, e2⟩ := tkAt_is x.lt
  have hm : L.getD i (0, 0, 0) ∈ L := by rw [List.getD_eq_getElem?_getD, List.getElem?_eq_getElem hi]; exact List.getElem_mem hi
  have := (h.by_ _ hm).1 (by rw [e2])
  rw [e2] at this
  exact this
theorem PA.bd {p : Option Addr} {T : Pl} {L : List Bf} (hL : plL T = L) (h : PA p T E) (x : PnOf L) : 1 ≤ byAt L x.j ∧ byAt L x.j ≤ 65536 := by
  subst hL
  rcases T with _ | _ | ⟨M, L⟩
  · exact absurd x.lt (by simp [plL, tkP, tkL, stL, tbB, gl])
  · exact absurd x.lt (by simp [plL, tkP, tkL, stL, tbB, gl])
  · exact byAt_bd h.1 x
theorem PA.us {p : Option Addr} {T : Pl} (h : PA p T E) : ((List.range (tkP (plL T)).length).map (byAt (plL T))).sum = usP T := by
  rcases T with _ | _ | ⟨M, L⟩
  · rfl
  · rfl
  · exact usedL h.1
theorem sum_bd {α : Type} {f : α → Int} (l : List α) (h : ∀ x, 1 ≤ f x ∧ f x ≤ 65536) : 0 ≤ (l.map f).sum ∧ (l.map f).sum ≤ l.length * 65536 := by
  induction l with
  | nil => simp
  | cons x l ih => have := h x; simp only [List.map_cons, List.sum_cons, List.length_cons]; omega

set_option maxRecDepth 100000 in
set_option maxHeartbeats 4000000 in
theorem pb_used {W : World} {p : Option Addr} {T : Pl} (hO : St w0 bs W H) (hT : PA p T E) [hc : Cut H E H1] (u : Int) (hu : usP T = u)
    (hR : ∀ w', St w0 bs w' (E ++ H1) → Ret R (.int .i64 u) w') : Calls Try.prog 15 #[.pointer p] W R := by
  have hS := hO.front (E := E) (H1 := H1)
  clear hO
  obtain ⟨L, hL⟩ : ∃ L, plL T = L := ⟨_, rfl⟩
  have hus := hT.us
  rw [hL, hu] at hus
  have hbd := hT.bd hL
  refine (callsIn_wide (n := 3)).1 ?_
  have hF := wide_fn
  refine callsIn_of_wp_marks Try.func15 rfl trivial ?_ rfl
  simp only [Try.ntmps15, List.size_toArray, List.length_cons, List.length_nil, Nat.reduceAdd, Nat.reduceSub, Array.replicate_succ, Array.replicate_zero, List.push_toArray, List.append_toArray, List.nil_append, List.cons_append]
  gi_wp2_with (first | (refine wpListIn_is (.alloc 3) rfl ?_; go_must (refine wpListIn_stp hF rfl rfl (stp_al _ rfl hS ?_)); clear hS; intro bN w _ hS) | (gi_at_call 31; refine callsIn_wide.2 (pinned_clo hS ?_); clear hS; intro bp w hS; unfold Ret) | (refine wpListIn_is (.build _ _) rfl ?_; go_must (refine wpListIn_stp hF rfl rfl (stp_val (run_bd _ _ rfl) ?_))) | (refine wpListIn_is (.call { callee := .builtin .clear, args := #[_], argTypes := #[_] }) rfl ?_; go_must (refine wpListIn_stp hF rfl rfl (stp_cl _ _ rfl hS (by decide) ?_)); clear hS; intro w hS) | (refine wpListIn_is (.load _ _) rfl ?_; go_must (first | refine wpListIn_stp hF rfl rfl (stp_val (run_ld _ _ rfl hS) ?_) | refine wpListIn_stp hF rfl rfl (stp_val (run_lda _ _ rfl hS) ?_) | refine wpListIn_stp hF rfl rfl (stp_val (run_ld0 _ _ rfl hS) ?_) | refine wpListIn_stp hF rfl rfl (stp_val (run_lda0 _ _ rfl hS) ?_))) | (refine wpListIn_is (.store _ _ _) rfl ?_; go_must (first | refine wpListIn_stp hF rfl rfl (stp_st _ _ _ rfl hS ?_) | refine wpListIn_stp hF rfl rfl (stp_sta _ _ _ rfl hS ?_)); clear hS; intro w hS) | (refine wpListIn_is (.alloc _) rfl ?_; go_must (refine wpListIn_stp hF rfl rfl (stp_al _ rfl hS ?_)); clear hS; intro bN w hbN hS) | (refine wpListIn_is (.box _ _) rfl ?_; go_must (refine wpListIn_stp hF rfl rfl (stp_bx _ _ rfl hS ?_)); clear hS; intro bN w hbN hS))
  have hnd := hS.nd
  have hstop := pin_stops (m := 3 - 1) (p := p) (T := T) hL (E := E) (by omega) bp (W := w) (fun e he => by
    simp only [List.mem_cons] at he
    rcases he with rfl | he
    · exact hS.get _ (.head _)
    · exact hS.get _ (by simp [he])) (by
    simp only [List.pairwise_cons, List.mem_cons, List.mem_append, forall_eq_or_imp] at hnd ⊢
    exact ⟨fun a ha => hnd.1.2 a (.inl ha), (List.pairwise_append.1 hnd.2.2).1⟩) hT
  refine range_stT (w0 := w0) (bs := bs) (X := Unit) (Y := Unit) (by omega) (gf := 46) (lb := #[.pointer (some ⟨bp, 0, none⟩)]) rfl (enters _ (by kernel_rfl)) 72
    (K := ⟨bp, #[.pointer p], 26, true⟩ :: E) hS.chg.size ?_
    hstop (fun _ => rfl)
    (fun pre _ => pre.length ≤ 257) (fun pre _ => ⟨bp, #[.pointer p], 26, true⟩ :: ⟨bN, #[.int .i64 (pre.map (fun a => byAt L a.j)).sum], 3, true⟩ :: (E ++ H1)) ?_ ?_
    (fun _ _ _ => False) (fun _ _ _ => [])
    (x0 := ()) (by simp) hS
    (fun x => { tmps := #[.pointer p, undef, .int .i64 0, .pointer (some ⟨bN, 0, none⟩), undef, .int .i64 (byAt L x.j), .pointer p, .func (.func 46) #[] #[.pointer (some ⟨bp, 0, none⟩)], .agg #[.int .i64 2, .int .i64 (tkAt L x.j).1, .int .u32 (tkAt L x.j).2], .int .i64 (byAt L x.j), undef, undef, undef, undef], defers := [] }) ?assign ?body ?done ?stop
  · intro e he
    refine hS.lt ?_
    simp only [List.mem_cons, List.mem_append] at he ⊢
    rcases he with rfl | he <;> simp [*]
  · intro _ _ _ e he
    simp only [List.mem_cons, List.mem_append] at he ⊢
    rcases he with rfl | he <;> simp [*]
  · intro _ _ _ _ _ _ e he ht
    simp only [List.mem_cons, List.mem_append] at he ⊢
    rcases he with rfl | rfl | he
    · exact .inl rfl
    · exact absurd (show 3 = 72 from ht) (by decide)
    · exact .inr (.inr he)
  case assign =>
    clear hnd hstop hS hT hR
    intro l x W K hK
    have hF := wide_in l
    gi_wp2
    exact hK
  case body =>
    clear hnd hstop hS hR
    rintro l pre el ⟨⟩ w2 _ hlt hS
    have hF := wide_in l
    have hb := hbd el
    have hs := sum_bd (f := fun a : PnOf L => byAt L a.j) pre hbd
    obtain ⟨nb, hnb⟩ : ∃ n, byAt L el.j = n := ⟨_, rfl⟩
    obtain ⟨sm, hsm⟩ : ∃ n, (pre.map (fun a => byAt L a.j)).sum = n := ⟨_, rfl⟩
    rw [hnb] at hb
    simp only [hsm] at hs
    simp only [hsm] at hS
    simp only [hnb]
    have hlt' : (pre.length : Int) < 257 := by omega
    have hs2 : sm ≤ 16842752 := by omega
    have hnb' := Lib.hid hnb
    have hsm' := Lib.hid hsm
    clear hnb hsm
    gi_wp2_with (first | (refine wpListIn_is (.build _ _) rfl ?_; go_must (refine wpListIn_stp hF rfl rfl (stp_val (run_bd _ _ rfl) ?_))) | (refine wpListIn_is (.call { callee := .builtin .clear, args := #[_], argTypes := #[_] }) rfl ?_; go_must (refine wpListIn_stp hF rfl rfl (stp_cl _ _ rfl hS (by decide) ?_)); clear hS; intro w hS) | (refine wpListIn_is (.load _ _) rfl ?_; go_must (first | refine wpListIn_stp hF rfl rfl (stp_val (run_ld _ _ rfl hS) ?_) | refine wpListIn_stp hF rfl rfl (stp_val (run_lda _ _ rfl hS) ?_) | refine wpListIn_stp hF rfl rfl (stp_val (run_ld0 _ _ rfl hS) ?_) | refine wpListIn_stp hF rfl rfl (stp_val (run_lda0 _ _ rfl hS) ?_))) | (refine wpListIn_is (.store _ _ _) rfl ?_; go_must (first | refine wpListIn_stp hF rfl rfl (stp_st _ _ _ rfl hS ?_) | refine wpListIn_stp hF rfl rfl (stp_sta _ _ _ rfl hS ?_)); clear hS; intro w hS) | (refine wpListIn_is (.alloc _) rfl ?_; go_must (refine wpListIn_stp hF rfl rfl (stp_al _ rfl hS ?_)); clear hS; intro bN w hbN hS) | (refine wpListIn_is (.box _ _) rfl ?_; go_must (refine wpListIn_stp hF rfl rfl (stp_bx _ _ rfl hS ?_)); clear hS; intro bN w hbN hS))
    refine ⟨(), (show (pre ++ [el]).length ≤ 257 by rw [List.length_append]; simp only [List.length_cons, List.length_nil]; omega), ?_⟩
    simp only [List.map_append, List.sum_append, hsm'.out]
    simp only [List.map_cons, List.map_nil, List.sum_cons, List.sum_nil, Int.add_zero, hnb'.out]
    exact hS.pick
  case done =>
    rintro d xs ⟨⟩ w2 hxs _ hS0 hd
    clear hnd hstop hS
    have hS := hS0.rebase
    have e : (xs.map (fun a => byAt L a.j)).sum = u := by
      rw [← hus, ← hxs, List.map_map]; rfl
    simp only [e] at hS hS0
    clear e
    gi_wp2_with (first | (refine wpListIn_is (.build _ _) rfl ?_; go_must (refine wpListIn_stp hF rfl rfl (stp_val (run_bd _ _ rfl) ?_))) | (refine wpListIn_is (.call { callee := .builtin .clear, args := #[_], argTypes := #[_] }) rfl ?_; go_must (refine wpListIn_stp hF rfl rfl (stp_cl _ _ rfl hS (by decide) ?_)); clear hS; intro w hS) | (refine wpListIn_is (.load _ _) rfl ?_; go_must (first | refine wpListIn_stp hF rfl rfl (stp_val (run_ld _ _ rfl hS) ?_) | refine wpListIn_stp hF rfl rfl (stp_val (run_lda _ _ rfl hS) ?_) | refine wpListIn_stp hF rfl rfl (stp_val (run_ld0 _ _ rfl hS) ?_) | refine wpListIn_stp hF rfl rfl (stp_val (run_lda0 _ _ rfl hS) ?_))) | (refine wpListIn_is (.store _ _ _) rfl ?_; go_must (first | refine wpListIn_stp hF rfl rfl (stp_st _ _ _ rfl hS ?_) | refine wpListIn_stp hF rfl rfl (stp_sta _ _ _ rfl hS ?_)); clear hS; intro w hS) | (refine wpListIn_is (.alloc _) rfl ?_; go_must (refine wpListIn_stp hF rfl rfl (stp_al _ rfl hS ?_)); clear hS; intro bN w hbN hS) | (refine wpListIn_is (.box _ _) rfl ?_; go_must (refine wpListIn_stp hF rfl rfl (stp_bx _ _ rfl hS ?_)); clear hS; intro bN w hbN hS))
    refine leave_st hd hS0 hS (fun W3 hS3 => ⟨.int .i64 u, res_tmp1 rfl, ?_⟩)
    exact hR W3 hS3.pick
  case stop =>
    rintro d c pre y w2 _ hf
    exact hf.elim
end Go.Proofs.Ytmhldlcjfmnkpaa
