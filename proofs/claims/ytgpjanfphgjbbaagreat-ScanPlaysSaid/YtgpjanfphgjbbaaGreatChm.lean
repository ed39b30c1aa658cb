/-
  The children of an object, collected.
-/
import Derived.Test.YtgpjanfphgjbbaaGreatChl
import Derived.Test.YtgpjanfphgjbbaaGreatSta
import Derived.Test.YtgpjanfphgjbbaaGreatPnt
set_option linter.unusedSimpArgs false
set_option linter.unusedVariables false
namespace Go.Proofs.YtgpjanfphgjbbaaGreat
open Go.RowKit Go.Mm
attribute [local go_sem] Oper.semAt_some
variable {R : Ending → World → Prop} {w : World} {w0 : World} {bs : List Nat} {H H' H1 E : List Ent}
instance s_sint : ScalarT Tryz.prog 69 := ⟨by kernel_rfl, by kernel_rfl⟩
instance z_sint : ZeroT Tryz.prog 69 #[.slice none 0 0] := ⟨by kernel_rfl⟩
instance sli_int : SliceT Tryz.prog 69 3 := ⟨by kernel_rfl⟩
instance eli_int : ElemT Tryz.prog 3 1 8 #[.int .i64 0] := ⟨by kernel_rfl⟩
/-- A slice of integers, of the call's own. -/
def IS (v : Value) (l : List Int) (E : List Ent) : Prop := Sl 3 1 v l.length (l.flatMap i1f) E
theorem IS.nil : IS (.slice none 0 0) [] [] := sl_nil
theorem IS.one {v : Value} {l : List Int} (h : IS v l E) : OneCell v := Sl.one h
theorem IS.snoc {v : Value} {l : List Int} {x : Int} (h : Sl 3 1 v (l.length + 1) (l.flatMap i1f ++ #[.int .i64 x].toList) E) : IS v (l ++ [x]) E := by
  unfold IS
  rw [List.length_append, List.flatMap_append]
  simpa [i1f] using h
theorem IS.ty {v : Value} {l : List Int} (h : IS v l E) : ∀ e ∈ E, e.T = 3 := by
  rcases h.or with ⟨_, _, rfl⟩ | ⟨g, cap, sp, _, rfl, _⟩
  · intro e he; cases he
  · intro e he
    obtain rfl := List.mem_singleton.1 he
    rfl
theorem chl_clo {W : World} {p : Option Addr} {n : Int} {F : List (Int × Int)} {hd : Bool} (hF4 : F.length = 4) (hO : St w0 bs W H)
    (hR : ∀ bh bx w', St w0 bs w' (⟨bx, objC n F hd, 80, true⟩ :: ⟨bh, #[.pointer p], 24, true⟩ :: H) → Ret R (.func (.func 109) #[] #[.pointer (some ⟨bx, 0, none⟩), .pointer (some ⟨bh, 0, none⟩)]) w') :
    Calls Tryz.prog 83 #[.pointer p, .agg (objC n F hd)] W R := by
  have hS := hO
  have hobA := objAll (n := n) (h := hd) hF4
  go_enter Tryz.func83, Tryz.ntmps83
  go_wp2_with ((refine wpList_is (.box _ _) rfl ?_; go_must (refine wpList_stp (by kernel_rfl) (stp_bx _ _ rfl hS ?_)); clear hS; intro bN w hbN hS))
  exact hR _ _ _ hS

set_option maxRecDepth 100000 in
set_option maxHeartbeats 4000000 in
theorem as_chl {W : World} {p : Option Addr} {T : Hp} {n : Int} {F : List (Int × Int)} {hd : Bool} {lr : List (Int × Int)} (hlr : rfF F = lr) (hF4 : F.length = 4) {bh bx : Nat}
    (hO : St w0 bs W (⟨bx, objC n F hd, 80, true⟩ :: ⟨bh, #[.pointer p], 24, true⟩ :: (E ++ H1))) (hT : HA p T E)
    (hR : ∀ v E' w', IS v (chL T lr) E' → St w0 bs w' (E' ++ (⟨bx, objC n F hd, 80, true⟩ :: ⟨bh, #[.pointer p], 24, true⟩ :: (E ++ H1))) → Ret R v w') :
    Calls Tryz.prog 108 #[.slice none 0 0, .func (.func 109) #[] #[.pointer (some ⟨bx, 0, none⟩), .pointer (some ⟨bh, 0, none⟩)]] W R := by
  have hS := hO
  clear hO
  refine (callsIn_wide (n := 3)).1 ?_
  have hF := wide_fn
  refine callsIn_of_wp_marks Tryz.func108 rfl trivial ?_ rfl
  simp only [Tryz.ntmps108, List.size_toArray, List.length_cons, List.length_nil, Nat.reduceAdd, Nat.reduceSub, Array.replicate_succ, Array.replicate_zero, List.push_toArray, List.append_toArray, List.nil_append, List.cons_append]
  gi_wp2_with ((refine wpListIn_is (.box 69 _) rfl ?_; go_must (refine wpListIn_stp hF rfl rfl (stp_bx _ _ rfl hS ?_)); clear hS; intro bN w _ hS))
  have hnd := hS.nd
  have hstop := chl_stops (m := 3 - 1) (p := p) (T := T) (n := n) (hd := hd) (E := E) hlr hF4 (by omega) bh bx (W := w) (fun e he => hS.get _ (by
    simp only [List.mem_cons, List.mem_append] at he ⊢
    rcases he with rfl | rfl | he <;> simp [*])) (by
    simp only [List.pairwise_cons, List.mem_cons, List.mem_append, forall_eq_or_imp] at hnd ⊢
    obtain ⟨_, ⟨n1, n2⟩, n3, n4⟩ := hnd
    exact ⟨⟨fun e => n1 e.symm, fun a ha => n3 a (.inl ha)⟩, fun a ha => n2 a (.inl ha), (List.pairwise_append.1 n4).1⟩) hT
  refine range_stT (w0 := w0) (bs := bs) (X := Value × List Ent) (Y := Unit) (by omega) (gf := 109) (lb := #[.pointer (some ⟨bx, 0, none⟩), .pointer (some ⟨bh, 0, none⟩)]) rfl (enters _ (by kernel_rfl)) 47
    (K := ⟨bh, #[.pointer p], 24, true⟩ :: ⟨bx, objC n F hd, 80, true⟩ :: E) hS.chg.size ?_
    hstop (fun _ => rfl)
    (fun pre x => pre.length ≤ 5 ∧ IS x.1 (pre.map (fun a => (lr.getD a.i (0, 0)).1)) x.2) (fun _ x => ⟨bN, #[x.1], 69, true⟩ :: (x.2 ++ (⟨bx, objC n F hd, 80, true⟩ :: ⟨bh, #[.pointer p], 24, true⟩ :: (E ++ H1)))) ?_ ?_
    (fun _ _ _ => False) (fun _ _ _ => [])
    (x0 := (.slice none 0 0, [])) ⟨by simp, IS.nil⟩ hS
    (fun x => { tmps := #[.slice none 0 0, .func (.func 109) #[] #[.pointer (some ⟨bx, 0, none⟩), .pointer (some ⟨bh, 0, none⟩)], .pointer (some ⟨bN, 0, none⟩), undef, .slice none 0 0, .int .i64 (lr.getD x.i (0, 0)).1, .func (.func 109) #[] #[.pointer (some ⟨bx, 0, none⟩), .pointer (some ⟨bh, 0, none⟩)], .int .i64 (lr.getD x.i (0, 0)).1, undef, undef, undef, undef, undef], defers := [] }) ?assign ?body ?done ?stop
  · intro e he
    refine hS.lt ?_
    simp only [List.mem_cons, List.mem_append] at he ⊢
    rcases he with rfl | rfl | he <;> simp [*]
  · intro _ _ _ e he
    simp only [List.mem_cons, List.mem_append] at he ⊢
    rcases he with rfl | rfl | he <;> simp [*]
  · rintro _ ⟨_, E1⟩ _ ⟨_, E2⟩ ⟨_, h1⟩ _ e he ht
    simp only [List.mem_cons, List.mem_append] at he ⊢
    rcases he with rfl | he | he
    · exact absurd (show 69 = 47 from ht) (by decide)
    · rw [IS.ty h1 e he] at ht
      exact absurd (show 3 = 47 from ht) (by decide)
    · exact .inr (.inr he)
  case assign =>
    clear hnd hstop hS hT hR
    intro l x W K hK
    have hF := wide_in l
    gi_wp2
    exact hK
  case body =>
    clear hnd hstop hS hR
    rintro l pre el ⟨v, E0⟩ w2 ⟨_, hsl⟩ hlt hS
    have hF := wide_in l
    have hpl : (pre.map (fun a => (lr.getD a.i (0, 0)).1)).length ≤ 5 := by rw [List.length_map]; omega
    have hsl : Sl 3 1 v (pre.map (fun a => (lr.getD a.i (0, 0)).1)).length ((pre.map (fun a => (lr.getD a.i (0, 0)).1)).flatMap i1f) E0 := hsl
    have hone0 := hsl.one
    simp only at hS
    gi_wp2_with (first | (refine wpListIn_is (.buildSlice _ _ _) rfl ?_; go_must (refine wpListIn_stp hF rfl rfl (stp_bsl _ _ _ rfl hS (by decide) rfl (by decide) (by decide) ?_)); clear hS; intro bN w hbN hS) | (refine wpListIn_is (.call { callee := .builtin .append, args := #[_, _], argTypes := #[_, _] }) rfl ?_; go_must (refine wpListIn_stp hF rfl rfl (stp_ap _ _ _ _ rfl rfl hS (by rfl) hsl (by rfl) (by simp only [maxLen]; omega) (by omega) ?_)); clear hS; intro v' E' w hsl' hne hS; have hone := hsl'.one) | (refine wpListIn_is (.load _ _) rfl ?_; go_must ((refine wpListIn_stp hF rfl rfl (stp_val (run_ld _ _ rfl hS) ?_)))) | (refine wpListIn_is (.store _ _ _) rfl ?_; go_must ((refine wpListIn_stp hF rfl rfl (stp_st _ _ _ rfl hS ?_))); clear hS; intro w hS))
    refine ⟨(v', E'), ⟨by rw [List.length_append]; simp only [List.length_map] at hpl; simp only [List.length_cons, List.length_nil]; omega, ?_⟩, hS.pick⟩
    rw [List.map_append]
    exact IS.snoc hsl'
  case done =>
    rintro d xs ⟨v, E0⟩ w2 hxs ⟨_, hsl⟩ hS0 hd
    clear hnd hstop hS
    have hS := hS0.rebase
    have hone0 := Sl.one hsl
    simp only at hS
    gi_wp2_with ((refine wpListIn_is (.load _ _) rfl ?_; go_must ((refine wpListIn_stp hF rfl rfl (stp_val (run_ld _ _ rfl hS) ?_)))))
    refine leave_st hd hS0 hS (fun W3 hS3 => ⟨v, res_tmp1 rfl, ?_⟩)
    have e : xs.map (fun a => (lr.getD a.i (0, 0)).1) = chL T lr := by rw [chL, ← hxs, List.map_map]; rfl
    rw [e] at hsl
    exact hR v E0 W3 hsl hS3.pick
  case stop =>
    rintro d c pre y w2 _ hf
    exact hf.elim

theorem collect_chl {W : World} {p : Option Addr} {T : Hp} {n : Int} {F : List (Int × Int)} {hd : Bool} {lr : List (Int × Int)} (hlr : rfF F = lr) (hF4 : F.length = 4) {bh bx : Nat}
    (hO : St w0 bs W (⟨bx, objC n F hd, 80, true⟩ :: ⟨bh, #[.pointer p], 24, true⟩ :: (E ++ H1))) (hT : HA p T E)
    (hR : ∀ v E' w', IS v (chL T lr) E' → St w0 bs w' (E' ++ (⟨bx, objC n F hd, 80, true⟩ :: ⟨bh, #[.pointer p], 24, true⟩ :: (E ++ H1))) → Ret R v w') :
    Calls Tryz.prog 82 #[.func (.func 109) #[] #[.pointer (some ⟨bx, 0, none⟩), .pointer (some ⟨bh, 0, none⟩)]] W R := by
  have hS := hO
  clear hO
  go_enter Tryz.func82, Tryz.ntmps82
  go_wp2_with ((go_at_call 108; refine as_chl hlr hF4 hS hT ?_; clear hS; intro v E' w hI hS; have hone := hI.one; unfold Ret))
  exact hR _ _ _ hI hS

def chdR (T : Hp) (s g : Int) : List Int := if wiH T s g = 0 then chL T (rfF (obAt T s).2.1) else []
set_option maxRecDepth 100000 in
set_option maxHeartbeats 4000000 in
theorem sc_children {W : World} {p : Option Addr} {T : Hp} (hO : St w0 bs W H) (hT : HA p T E) [hc : Cut H E H1] (s g : Int) (l : List Int) (e : Int) (hl : chdR T s g = l) (he : wiH T s g = e)
    (hR : ∀ v E' w', IS v l E' → HA p T E → St w0 bs w' (E' ++ (E ++ H1)) → Ret R (.tuple #[v, .int .i64 e]) w') : Calls Tryz.prog 28 #[.pointer p, .agg #[.int .i64 s, .int .u32 g]] W R := by
  have hS := hO.front (E := E) (H1 := H1)
  clear hO
  have hW := hT.obw s g
  obtain ⟨o, ho⟩ : ∃ o, obR T s g = o := ⟨_, rfl⟩
  rw [ho] at hW
  by_cases h0 : e = 0
  · subst h0
    have hoa : obAt T s = o := by rw [← ho, obR, if_pos he]
    rw [chdR, if_pos he, hoa] at hl
    obtain ⟨n, F, hd⟩ := o
    have hF4 : F.length = 4 := hW.len
    have hobA := objAll (n := n) (h := hd) hF4
    have hov : SetsAt (objC 0 zero4 false) 0 (obC (n, F, hd)) (objC n F hd) := objOver rfl hF4
    have hsz : SizeIs (obC (n, F, hd)) 10 := objSize hF4
    have hon : OneCells (obC (n, F, hd)) := objOnes
    clear hoa
    go_enter Tryz.func28, Tryz.ntmps28
    go_wp2_with (first | (refine wpList_is (.box 47 _) rfl ?_; go_must (refine wpList_stp (by kernel_rfl) (stp_bx _ _ rfl hS ?_)); clear hS; intro br w _ hS) | (go_at_call 81; refine hp_object hS hT s g _ _ ho he ?_; clear hS; intro w _ hS; unfold Ret) | (go_at_call 83; refine chl_clo hF4 hS ?_; clear hS; intro bh bx w hS; unfold Ret) | (go_at_call 82; (refine collect_chl (n := n) (hd := hd) rfl hF4 (E := E) (H1 := ⟨bN, objC n F hd, 80, true⟩ :: ⟨br, #[.int .i64 s, .int .u32 g], 47, true⟩ :: H1) hS.pick hT ?_); clear hS; intro v E' w hI hS; have hone := hI.one; unfold Ret) | (refine wpList_is (.load _ _) rfl ?_; go_must ((refine wpList_stp (by kernel_rfl) (stp_val (run_lda _ _ rfl hS) ?_)))) | (refine wpList_is (.store _ _ _) rfl ?_; go_must ((refine wpList_stp (by kernel_rfl) (stp_sta _ _ _ rfl hS ?_))); clear hS; intro w hS) | (refine wpList_is (.alloc _) rfl ?_; go_must (refine wpList_stp (by kernel_rfl) (stp_al _ rfl hS ?_)); clear hS; intro bN w hbN hS))
    subst hl
    exact hR _ _ _ hI hT hS.pick
  · rw [chdR, if_neg (by rw [he]; exact h0)] at hl
    subst hl
    have ho0 : o = zOb := by rw [← ho, obR, if_neg (by rw [he]; exact h0)]
    subst ho0
    have q : decide (e = 0) = false := decide_eq_false h0
    have hov : SetsAt (objC 0 zero4 false) 0 (obC zOb) (obC zOb) := objOver rfl rfl
    have hsz : SizeIs (obC zOb) 10 := objSize rfl
    have hon : OneCells (obC zOb) := objOnes
    go_enter Tryz.func28, Tryz.ntmps28
    go_wp2_with (first | (refine wpList_is (.box 47 _) rfl ?_; go_must (refine wpList_stp (by kernel_rfl) (stp_bx _ _ rfl hS ?_)); clear hS; intro br w _ hS) | (go_at_call 81; refine hp_object hS hT s g _ _ ho he ?_; clear hS; intro w _ hS; unfold Ret) | (refine wpList_is (.load _ _) rfl ?_; go_must ((refine wpList_stp (by kernel_rfl) (stp_val (run_lda _ _ rfl hS) ?_)))) | (refine wpList_is (.store _ _ _) rfl ?_; go_must ((refine wpList_stp (by kernel_rfl) (stp_sta _ _ _ rfl hS ?_))); clear hS; intro w hS) | (refine wpList_is (.alloc _) rfl ?_; go_must (refine wpList_stp (by kernel_rfl) (stp_al _ rfl hS ?_)); clear hS; intro bN w hbN hS))
    exact hR _ _ _ IS.nil hT hS.pick
end Go.Proofs.YtgpjanfphgjbbaaGreat
