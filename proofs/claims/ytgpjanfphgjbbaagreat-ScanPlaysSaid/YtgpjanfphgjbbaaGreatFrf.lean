/-
  Objects' fields: the references in them, in order.
-/
import Derived.Test.YtgpjanfphgjbbaaGreatIterV
import Derived.Test.YtgpjanfphgjbbaaGreatFields
set_option linter.unusedSimpArgs false
set_option linter.unusedVariables false
namespace Go.Proofs.YtgpjanfphgjbbaaGreat
open Go.RowKit Go.Mm
attribute [local go_sem] Oper.semAt_some
variable {R : Ending → World → Prop} {w : World} {w0 : World} {bs : List Nat} {H H' H1 E : List Ent}

/-- The references in the fields of an object. -/
def rfF (F : List (Int × Int)) : List (Int × Int) := (gl (fnz F) 4).map (fun i => F.getD i (0, 0))
theorem rfF_len (F : List (Int × Int)) : (rfF F).length ≤ 4 := by
  rw [rfF, List.length_map]
  exact gl_len (fnz F) 4

/-- Of a slice the blocks are told by the value. -/
theorem RS.blocks {v : Value} {l l' : List (Int × Int)} {E E' : List Ent} (h : RS v l E) (h' : RS v l' E') : ∀ e ∈ E, ∃ e' ∈ E', e'.b = e.b := by
  rcases h.or with ⟨rfl, _, rfl⟩ | ⟨g, cap, sp, rfl, rfl, _⟩
  · intro e he; cases he
  · rcases h'.or with ⟨hv, _, _⟩ | ⟨g', cap', sp', hv, rfl, _⟩
    · cases hv
    · obtain rfl : g = g' := by
        simp only [Value.slice.injEq, Option.some.injEq, Addr.mk.injEq] at hv
        exact hv.1.1
      intro e he
      obtain rfl := List.mem_singleton.1 he
      exact ⟨_, List.mem_singleton.2 rfl, rfl⟩

theorem fold2 {l : List Value} {x y : Value} {p q : Nat} : (#[p, q].zip #[x, y]).foldl (fun t ((p : Tmp), v) => t.setIfInBounds p v) l.toArray = ((l.set p x).set q y).toArray := by simp
set_option maxHeartbeats 2000000 in
set_option maxRecDepth 100000 in
theorem fd_refs {W : World} {n : Int} {F : List (Int × Int)} {h : Bool} (hF4 : F.length = 4) (hO : St w0 bs W H)
    (hR : ∀ v E' w', RS v (rfF F) E' → St w0 bs w' (E' ++ H) → Ret R v w') : Calls Tryz.prog 110 #[.agg (objC n F h)] W R := by
  have hS := hO
  clear hO
  have hobA := objAll (n := n) (h := h) hF4
  refine (callsIn_wide (n := 3)).1 ?_
  have hF := wide_fn
  refine callsIn_of_wp_marks Tryz.func110 rfl trivial ?_ rfl
  simp only [Tryz.ntmps110, List.size_toArray, List.length_cons, List.length_nil, Nat.reduceAdd, Nat.reduceSub, Array.replicate_succ, Array.replicate_zero, List.push_toArray, List.append_toArray, List.nil_append, List.cons_append]
  gi_wp2_with (first | (refine wpListIn_is (.alloc 143) rfl ?_; go_must (refine wpListIn_stp hF rfl rfl (stp_al _ rfl hS ?_)); clear hS; intro bl w _ hS) | (refine wpListIn_is (.box 80 _) rfl ?_; go_must (refine wpListIn_stp hF rfl rfl (stp_bx _ _ rfl hS ?_)); clear hS; intro bb w _ hS) | (gi_at_call 113; refine callsIn_wide.2 (full_clo hS ?_); clear hS; intro bo w hS; unfold Ret) | (refine wpListIn_is (.build _ _) rfl ?_; go_must (refine wpListIn_stp hF rfl rfl (stp_val (run_bd _ _ rfl) ?_))) | (refine wpListIn_is (.call { callee := .builtin .clear, args := #[_], argTypes := #[_] }) rfl ?_; go_must (refine wpListIn_stp hF rfl rfl (stp_cl _ _ rfl hS (by decide) ?_)); clear hS; intro w hS) | (refine wpListIn_is (.load _ _) rfl ?_; go_must (first | refine wpListIn_stp hF rfl rfl (stp_val (run_ld _ _ rfl hS) ?_) | refine wpListIn_stp hF rfl rfl (stp_val (run_lda _ _ rfl hS) ?_) | refine wpListIn_stp hF rfl rfl (stp_val (run_ld0 _ _ rfl hS) ?_) | refine wpListIn_stp hF rfl rfl (stp_val (run_lda0 _ _ rfl hS) ?_))) | (refine wpListIn_is (.store _ _ _) rfl ?_; go_must (first | refine wpListIn_stp hF rfl rfl (stp_st _ _ _ rfl hS ?_) | refine wpListIn_stp hF rfl rfl (stp_sta _ _ _ rfl hS ?_)); clear hS; intro w hS) | (refine wpListIn_is (.alloc _) rfl ?_; go_must (refine wpListIn_stp hF rfl rfl (stp_al _ rfl hS ?_)); clear hS; intro bN w hbN hS) | (refine wpListIn_is (.box _ _) rfl ?_; go_must (refine wpListIn_stp hF rfl rfl (stp_bx _ _ rfl hS ?_)); clear hS; intro bN w hbN hS))
  refine range_stv (w0 := w0) (bs := bs) (X := Value × List Ent) (Y := Unit) (by omega) (gf := 120) (lb := #[.pointer (some ⟨bo, 0, none⟩)]) rfl (enters _ (by kernel_rfl))
    (K := [⟨bo, objC n F h, 80, true⟩]) hS.chg.size (fun e he => hS.lt (by simp at he; simp [he]))
    (full_stops (m := 3 - 1) hF4 (by omega) bo (hS.get ⟨_, _, _, _⟩ (.head _))) (fun _ => rfl)
    (fun pre x => pre.length ≤ 5 ∧ RS x.1 (pre.map (fun a => F.getD a.i (0, 0))) x.2) (fun _ x => ⟨bo, objC n F h, 80, true⟩ :: ⟨bl, #[x.1], 143, true⟩ :: ⟨bb, objC n F h, 80, true⟩ :: (x.2 ++ H)) (fun _ _ _ e he => by simp at he; simp [he])
    (fun _ _ _ => False) (fun _ _ _ => [])
    (x0 := (.slice none 0 0, [])) ⟨by simp, RS.nil⟩ hS 47 (fun x => #[.int .i64 (F.getD x.i (0, 0)).1, .int .u32 (F.getD x.i (0, 0)).2]) ?_
    (fun x bv => { tmps := #[.agg (objC n F h), .pointer (some ⟨bb, 0, none⟩), .slice none 0 0, .pointer (some ⟨bl, 0, none⟩), undef, .pointer (some ⟨bv, 0, none⟩), .agg (objC n F h), .func (.func 120) #[] #[.pointer (some ⟨bo, 0, none⟩)], .int .i64 (x.i : Nat), .agg #[.int .i64 (F.getD x.i (0, 0)).1, .int .u32 (F.getD x.i (0, 0)).2], undef, undef, undef, undef, undef], defers := [] }) ?assign ?body ?done ?stop
  · rintro W xs ⟨v, E1⟩ xs' ⟨v', E2⟩ ⟨_, h1⟩ ⟨_, h2⟩ g1 g2 e he
    have q1 := g1 ⟨bl, #[v], 143, true⟩ (by simp)
    have q2 := g2 ⟨bl, #[v'], 143, true⟩ (by simp)
    simp only at q1 q2
    rw [q1] at q2
    obtain rfl : v = v' := by simpa using q2
    simp only [List.mem_cons, List.mem_append] at he
    rcases he with rfl | rfl | rfl | he | he
    · exact ⟨_, .head _, rfl⟩
    · exact ⟨_, .tail _ (.head _), rfl⟩
    · exact ⟨_, .tail _ (.tail _ (.head _)), rfl⟩
    · obtain ⟨e', he', q⟩ := RS.blocks h1 h2 e he
      exact ⟨e', by simp [he'], q⟩
    · exact ⟨e, by simp [he], rfl⟩
  case assign =>
    clear hR
    intro l pre el x W0 hc hnew hS
    have hF := wide_in l
    rw [fold2]
    simp only [List.set_cons_succ, List.set_cons_zero]
    gi_wp2_with (first | (refine wpListIn_is (.alloc 47) rfl ?_; go_must (refine wpListIn_stp hF rfl rfl (stp_al _ rfl hS ?_)); clear hS; intro bv w hbv hS) | (refine wpListIn_is (.build _ _) rfl ?_; go_must (refine wpListIn_stp hF rfl rfl (stp_val (run_bd _ _ rfl) ?_))) | (refine wpListIn_is (.call { callee := .builtin .clear, args := #[_], argTypes := #[_] }) rfl ?_; go_must (refine wpListIn_stp hF rfl rfl (stp_cl _ _ rfl hS (by decide) ?_)); clear hS; intro w hS) | (refine wpListIn_is (.load _ _) rfl ?_; go_must (first | refine wpListIn_stp hF rfl rfl (stp_val (run_ld _ _ rfl hS) ?_) | refine wpListIn_stp hF rfl rfl (stp_val (run_lda _ _ rfl hS) ?_) | refine wpListIn_stp hF rfl rfl (stp_val (run_ld0 _ _ rfl hS) ?_) | refine wpListIn_stp hF rfl rfl (stp_val (run_lda0 _ _ rfl hS) ?_))) | (refine wpListIn_is (.store _ _ _) rfl ?_; go_must (first | refine wpListIn_stp hF rfl rfl (stp_st _ _ _ rfl hS ?_) | refine wpListIn_stp hF rfl rfl (stp_sta _ _ _ rfl hS ?_)); clear hS; intro w hS) | (refine wpListIn_is (.alloc _) rfl ?_; go_must (refine wpListIn_stp hF rfl rfl (stp_al _ rfl hS ?_)); clear hS; intro bN w hbN hS) | (refine wpListIn_is (.box _ _) rfl ?_; go_must (refine wpListIn_stp hF rfl rfl (stp_bx _ _ rfl hS ?_)); clear hS; intro bN w hbN hS))
    exact ⟨_, by omega, rfl, hS⟩
  case body =>
    clear hS hR
    rintro l pre el ⟨v, E0⟩ bv W0 ⟨_, hsl⟩ hlt _ hS
    have hF := wide_in l
    have hpl : (pre.map (fun a => F.getD a.i (0, 0))).length ≤ 5 := by rw [List.length_map]; omega
    have hsl : Sl 47 2 v (pre.map (fun a => F.getD a.i (0, 0))).length ((pre.map (fun a => F.getD a.i (0, 0))).flatMap slf) E0 := hsl
    have hone0 := hsl.one
    simp only at hS
    gi_wp2_with (first | (refine wpListIn_is (.buildSlice _ _ _) rfl ?_; go_must (refine wpListIn_stp hF rfl rfl (stp_bsl _ _ _ rfl hS (by decide) rfl (by decide) (by decide) ?_)); clear hS; intro bN w hbN hS) | (refine wpListIn_is (.call { callee := .builtin .append, args := #[_, _], argTypes := #[_, _] }) rfl ?_; go_must (refine wpListIn_stp hF rfl rfl (stp_ap _ _ _ _ rfl rfl hS (by rfl) hsl (by rfl) (by simp only [maxLen]; omega) (by omega) ?_)); clear hS; intro v' E' w hsl' hne hS; have hone := hsl'.one) | (refine wpListIn_is (.build _ _) rfl ?_; go_must (refine wpListIn_stp hF rfl rfl (stp_val (run_bd _ _ rfl) ?_))) | (refine wpListIn_is (.call { callee := .builtin .clear, args := #[_], argTypes := #[_] }) rfl ?_; go_must (refine wpListIn_stp hF rfl rfl (stp_cl _ _ rfl hS (by decide) ?_)); clear hS; intro w hS) | (refine wpListIn_is (.load _ _) rfl ?_; go_must (first | refine wpListIn_stp hF rfl rfl (stp_val (run_ld _ _ rfl hS) ?_) | refine wpListIn_stp hF rfl rfl (stp_val (run_lda _ _ rfl hS) ?_) | refine wpListIn_stp hF rfl rfl (stp_val (run_ld0 _ _ rfl hS) ?_) | refine wpListIn_stp hF rfl rfl (stp_val (run_lda0 _ _ rfl hS) ?_))) | (refine wpListIn_is (.store _ _ _) rfl ?_; go_must (first | refine wpListIn_stp hF rfl rfl (stp_st _ _ _ rfl hS ?_) | refine wpListIn_stp hF rfl rfl (stp_sta _ _ _ rfl hS ?_)); clear hS; intro w hS) | (refine wpListIn_is (.alloc _) rfl ?_; go_must (refine wpListIn_stp hF rfl rfl (stp_al _ rfl hS ?_)); clear hS; intro bN w hbN hS) | (refine wpListIn_is (.box _ _) rfl ?_; go_must (refine wpListIn_stp hF rfl rfl (stp_bx _ _ rfl hS ?_)); clear hS; intro bN w hbN hS))
    refine ⟨(v', E'), ⟨by rw [List.length_append]; simp only [List.length_map] at hpl; simp only [List.length_cons, List.length_nil]; omega, ?_⟩, hS.pick⟩
    rw [List.map_append]
    exact RS.snoc hsl'
  case done =>
    rintro d xs ⟨v, E0⟩ w2 hxs ⟨_, hsl⟩ hS0 hd
    clear hS
    have hS := hS0.rebase
    have hone0 := Sl.one hsl
    simp only at hS
    gi_wp2_with (first | (refine wpListIn_is (.build _ _) rfl ?_; go_must (refine wpListIn_stp hF rfl rfl (stp_val (run_bd _ _ rfl) ?_))) | (refine wpListIn_is (.call { callee := .builtin .clear, args := #[_], argTypes := #[_] }) rfl ?_; go_must (refine wpListIn_stp hF rfl rfl (stp_cl _ _ rfl hS (by decide) ?_)); clear hS; intro w hS) | (refine wpListIn_is (.load _ _) rfl ?_; go_must (first | refine wpListIn_stp hF rfl rfl (stp_val (run_ld _ _ rfl hS) ?_) | refine wpListIn_stp hF rfl rfl (stp_val (run_lda _ _ rfl hS) ?_) | refine wpListIn_stp hF rfl rfl (stp_val (run_ld0 _ _ rfl hS) ?_) | refine wpListIn_stp hF rfl rfl (stp_val (run_lda0 _ _ rfl hS) ?_))) | (refine wpListIn_is (.store _ _ _) rfl ?_; go_must (first | refine wpListIn_stp hF rfl rfl (stp_st _ _ _ rfl hS ?_) | refine wpListIn_stp hF rfl rfl (stp_sta _ _ _ rfl hS ?_)); clear hS; intro w hS) | (refine wpListIn_is (.alloc _) rfl ?_; go_must (refine wpListIn_stp hF rfl rfl (stp_al _ rfl hS ?_)); clear hS; intro bN w hbN hS) | (refine wpListIn_is (.box _ _) rfl ?_; go_must (refine wpListIn_stp hF rfl rfl (stp_bx _ _ rfl hS ?_)); clear hS; intro bN w hbN hS))
    refine leave_st hd hS0 hS (fun W3 hS3 => ⟨v, res_tmp1 rfl, ?_⟩)
    have e : xs.map (fun a => F.getD a.i (0, 0)) = rfF F := by rw [rfF, ← hxs, List.map_map]; rfl
    rw [e] at hsl
    exact hR v E0 W3 hsl hS3.pick
  case stop =>
    rintro d c pre y w2 _ hf
    exact hf.elim
end Go.Proofs.YtgpjanfphgjbbaaGreat
