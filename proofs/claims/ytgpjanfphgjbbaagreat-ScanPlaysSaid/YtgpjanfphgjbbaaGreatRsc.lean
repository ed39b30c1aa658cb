/-
  Scanning, as the document says: estrayref23's Children, Shade, Rescan, Done.
-/
import Derived.Test.YtgpjanfphgjbbaaGreatRst
import Derived.Test.YtgpjanfphgjbbaaGreatRpt
import Derived.Test.YtgpjanfphgjbbaaGreatRheapE
import Derived.Test.YtgpjanfphgjbbaaGreatSnd
set_option linter.unusedSimpArgs false
set_option linter.unusedVariables false
namespace Go.Proofs.YtgpjanfphgjbbaaGreat
open Go Go.RowKit Go.Mm
variable {R : Ending → World → Prop} {w : World} {w0 : World} {bs : List Nat} {H H' H1 H2 H3 E E0 E1 E2 : List Ent}
/-! ### Plain: the children of an object, two ways -/
theorem range_get (l : List (Int × Int)) : (List.range l.length).map (fun i => l.getD i (0, 0)) = l := by
  refine List.ext_getElem (by simp) (fun i h1 h2 => ?_)
  simp [h2]
theorem gl_filter {β : Type} {l : List (Int × Int)} {q : Int × Int → Bool} {f : Int × Int → β} : (gl (fun i => q (l.getD i (0, 0))) l.length).map (fun i => f (l.getD i (0, 0))) = (l.filter q).map f := by
  conv => rhs; rw [← range_get l]
  rw [List.filter_map, List.map_map]
  rfl
def hqR (T : Hp) (r : Int × Int) : Bool := hasH T r.1 r.2
theorem chL_filter {T : Hp} {l : List (Int × Int)} : chL T l = (l.filter (hqR T)).map (·.1) := gl_filter (q := hqR T) (f := fun r => r.1)
theorem rfF_filter {F : List (Int × Int)} (h : F.length = 4) : rfF F = F.filter nzR := by
  have := gl_filter (l := F) (q := nzR) (f := id)
  rw [h, List.map_id] at this
  exact this
theorem hq_zero {T : Hp} (hT : ∀ L, T = some (some L) → HpW L) : hqR T (0, 0) = false := by
  refine decide_eq_false (fun h => ?_)
  obtain ⟨L, j, rfl, _, hj, _, _, h2, _⟩ := wi_zero h
  have hW := hT L rfl
  have hg := hW.tb.gn _ (getD_mem (L := tbH L) (i := j) (by rw [tbH_len]; exact hj))
  rw [tbH_get, h2] at hg
  simp only at hg
  omega
/-- The children that the document finds. -/
def chD (T : Hp) (F : List (Int × Int)) (k : Nat) : List Int := (gl (fun i => hqR T (F.getD i (0, 0))) k).map (fun i => (F.getD i (0, 0)).1)
theorem chD_eq {T : Hp} (hT : ∀ L, T = some (some L) → HpW L) {n : Nat} {F : List (Int × Int)} {hd : Bool} (hW : ObW ((n : Int), F, hd)) (hn : n ≤ 4) : chD T F n = chL T (rfF F) := by
  have h4 : F.length = 4 := hW.len
  have hz : ∀ r, hqR T r = true → nzR r = true := fun r hr => by
    cases hn : nzR r with
    | true => rfl
    | false =>
      have e : r = (0, 0) := by
        have : refB r.1 r.2 0 0 = true := by simpa [nzR] using hn
        exact refB_iff.1 this
      rw [e, hq_zero hT] at hr; cases hr
  have e1 : chD T F n = ((F.take n).filter (hqR T)).map (·.1) := by
    have hl : (F.take n).length = n := by rw [List.length_take]; omega
    rw [← gl_filter (l := F.take n) (q := hqR T) (f := fun r => r.1), hl, chD]
    have hg : ∀ i, i < n → (F.take n).getD i (0, 0) = F.getD i (0, 0) := fun i hi => by
      rw [List.getD_eq_getElem?_getD, List.getD_eq_getElem?_getD, List.getElem?_take, if_pos hi]
    have e : gl (fun i => hqR T ((F.take n).getD i (0, 0))) n = gl (fun i => hqR T (F.getD i (0, 0))) n := by
      unfold gl
      exact List.filter_congr (fun i hi => by rw [hg i (List.mem_range.1 hi)])
    rw [e]
    exact (List.map_congr_left (fun i hi => by rw [hg i (mem_gl.1 hi).1])).symm
  have e2 : (F.drop n).filter (hqR T) = [] := by
    rw [List.filter_eq_nil_iff]
    intro r hr hq
    obtain ⟨i, hi, rfl⟩ := List.mem_iff_getElem.1 hr
    rw [List.getElem_drop] at hq
    have hin : n + i < 4 := by rw [List.length_drop] at hi; omega
    have hb := (ok_iff.1 hW.ok).2 (n + i) hin (by
      unfold fnz
      show nzR (F.getD (n + i) (0, 0)) = true
      rw [List.getD_eq_getElem?_getD, List.getElem?_eq_getElem (show n + i < F.length by omega)]
      exact hz _ hq)
    unfold badF at hb
    rw [decide_eq_true (by omega)] at hb
    cases hb
  rw [e1, chL_filter, rfF_filter h4, List.filter_filter]
  have e3 : F.filter (fun r => hqR T r && nzR r) = F.filter (hqR T) := List.filter_congr (fun r _ => by
    cases h : hqR T r with
    | false => rfl
    | true => rw [hz r h]; rfl)
  rw [e3]
  conv => rhs; rw [← List.take_append_drop n F]
  rw [List.filter_append, e2, List.append_nil]

/-! ### What there is -/
set_option maxRecDepth 100000 in
theorem rc_heap {p : Option Addr} {T : Hp} (hO : St w0 bs w H) (hT : RH p T E) [hc : Cut H E H1] (b : Bool) (hb : hpOk T = b) (hR : ∀ w', RH p T E → St w0 bs w' (E ++ H1) → Ret R (.bool b) w') : Calls Tryz.prog 63 #[.pointer p] w R := by
  have hS := hO.front (E := E) (H1 := H1)
  clear hO
  subst hb
  have hn := hT.nil
  rcases T with _ | _ | L
  · obtain ⟨rfl, rfl⟩ := id hT
    go_enter Tryz.func63, Tryz.ntmps63
    go_wp2_with ((go_skip))
    exact hR _ hT hS
  · exact hT.elim
  · obtain ⟨a, rfl⟩ : ∃ a, p = some a := by obtain ⟨_, b, _, _, _, rfl, _⟩ := hT; exact ⟨_, rfl⟩
    go_enter Tryz.func63, Tryz.ntmps63
    go_wp2_with ((go_at_call 101; refine rh_copy hS hT ?_; clear hS; intro p9 E9 w hT9 _ hS; unfold Ret; obtain ⟨a9, rfl⟩ : ∃ a, p9 = some a := by obtain ⟨_, b, _, _, _, rfl, _⟩ := hT9; exact ⟨_, rfl⟩))
    exact hR _ hT hS.pick
set_option maxRecDepth 100000 in
theorem rc_paint {p : Option Addr} {T : Cq} (hO : St w0 bs w H) (hT : KR p T E) [hc : Cut H E H1] (b : Bool) (hb : okC T = b) (hR : ∀ w', KR p T E → St w0 bs w' (E ++ H1) → Ret R (.bool b) w') : Calls Tryz.prog 54 #[.pointer p] w R := by
  have hS := hO.front (E := E) (H1 := H1)
  clear hO
  subst hb
  rcases T with _ | _ | ⟨n, L⟩
  · obtain ⟨rfl, rfl⟩ := id hT
    go_enter Tryz.func54, Tryz.ntmps54
    go_wp2_with ((go_skip))
    exact hR _ hT hS
  · exact hT.elim
  · obtain ⟨a, rfl⟩ : ∃ a, p = some a := by obtain ⟨_, _, _, _, b, _, _, _, rfl, _⟩ := hT; exact ⟨_, rfl⟩
    go_enter Tryz.func54, Tryz.ntmps54
    go_wp2_with ((go_at_call 96; refine kr_copy hS hT ?_; clear hS; intro p9 E9 w hT9 _ hS; unfold Ret; obtain ⟨a9, rfl⟩ : ∃ a, p9 = some a := by obtain ⟨_, _, _, _, b, _, _, _, rfl, _⟩ := hT9; exact ⟨_, rfl⟩))
    exact hR _ hT hS.pick
set_option maxRecDepth 100000 in
theorem rc_stack {p : Option Addr} {T : Sq} (hO : St w0 bs w H) (hT : SR p T E) [hc : Cut H E H1] (b : Bool) (hb : okS T = b) (hR : ∀ w', SR p T E → St w0 bs w' (E ++ H1) → Ret R (.bool b) w') : Calls Tryz.prog 55 #[.pointer p] w R := by
  have hS := hO.front (E := E) (H1 := H1)
  clear hO
  subst hb
  rcases T with _ | _ | ⟨z, o, l⟩
  · obtain ⟨rfl, rfl⟩ := id hT
    go_enter Tryz.func55, Tryz.ntmps55
    go_wp2_with ((go_skip))
    exact hR _ hT hS
  · exact hT.elim
  · obtain ⟨a, rfl⟩ : ∃ a, p = some a := by obtain ⟨_, _, _, b, _, _, _, _, _, rfl, _⟩ := hT; exact ⟨_, rfl⟩
    go_enter Tryz.func55, Tryz.ntmps55
    go_wp2_with ((go_at_call 70; refine sr_copy hS hT ?_; clear hS; intro p9 E9 w hT9 _ hS; unfold Ret; obtain ⟨a9, rfl⟩ : ∃ a, p9 = some a := by obtain ⟨_, _, _, b, _, _, _, _, _, rfl, _⟩ := hT9; exact ⟨_, rfl⟩))
    exact hR _ hT hS.pick
theorem ofE_shB {T : Cq} {S : Sq} {s : Int} {p : Option Addr} {E : List Ent} (hT : KR p T E) (hS : okS S = true) (h : shB T s = true) : puE S s = 0 ∧ ofE T s = 0 := by
  refine ⟨?_, shB_of h⟩
  rcases T with _ | _ | ⟨n, L⟩
  · cases h
  · cases h
  · obtain ⟨_, h2, _⟩ := hT
    rcases S with _ | _ | ⟨z, o, l⟩
    · cases hS
    · cases hS
    simp only [shB] at h
    split at h
    · simp only [puE]
      rw [if_neg (by omega)]
    · cases h
set_option maxRecDepth 100000 in
theorem rc_shade {p q : Option Addr} {T : Cq} {S : Sq} (hO : St w0 bs w H) (hT : KR p T E1) (hU : SR q S E2) [hc : Cut H E1 H1] [hd : Cut H1 E2 H2] (s : Int) (T' : Cq) (S' : Sq) (v : Bool) (e : Int) (hT' : skT T S s = T') (hS' : skS T S s = S') (hv : skB T S s = v) (he : skE T S s = e)
    (hR : ∀ E1 E2 w', KR p T' E1 → SR q S' E2 → St w0 bs w' (E1 ++ (E2 ++ H2)) → Ret R (.tuple #[.bool v, .int .i64 e]) w') : Calls Tryz.prog 18 #[.pointer p, .pointer q, .int .i64 s] w R := by
  have hS := (hO.front (E := E1) (H1 := H1))
  have hS : St w0 bs w (E1 ++ (E2 ++ H2)) := hS.pick
  clear hO
  subst hT' hS' hv he
  unfold skT skS skB skE at hR
  unfold vlE at hR
  cases k1 : okC T with
  | false =>
    simp only [k1, Bool.false_and, Bool.false_eq_true, if_false] at hR
    go_enter Tryz.func18, Tryz.ntmps18
    go_wp2_with ((go_at_call 54; refine rc_paint hS hT _ k1 ?_; clear hS; intro w hT hS; unfold Ret))
    exact hR _ _ _ hT hU hS.pick
  | true =>
    cases k2 : okS S with
    | false =>
      simp only [k1, k2, Bool.and_false, Bool.false_and, Bool.false_eq_true, if_false] at hR
      go_enter Tryz.func18, Tryz.ntmps18
      go_wp2_with (first | (go_at_call 54; refine rc_paint hS hT _ k1 ?_; clear hS; intro w hT hS; unfold Ret) | (go_at_call 55; refine rc_stack hS hU _ k2 ?_; clear hS; intro w hU hS; unfold Ret))
      exact hR _ _ _ hT hU hS.pick
    | true =>
      simp only [k1, k2, Bool.and_self, Bool.true_and, if_true] at hR
      cases hsb : shB T s with
      | false =>
        have hno := shC_no hsb
        simp only [hsb, hno, Bool.false_eq_true, if_false] at hR
        go_enter Tryz.func18, Tryz.ntmps18
        go_wp2_with (first | (go_at_call 54; refine rc_paint hS hT _ k1 ?_; clear hS; intro w hT hS; unfold Ret) | (go_at_call 55; refine rc_stack hS hU _ k2 ?_; clear hS; intro w hU hS; unfold Ret) | (go_at_call 56; refine kr_shade hS hT s _ _ _ hno hsb rfl ?_; clear hS hT; intro E1 w hT hS; unfold Ret))
        exact hR _ _ _ hT hU hS.pick
      | true =>
        obtain ⟨a1, a2⟩ := ofE_shB hT k2 hsb
        simp only [hsb, if_true, a1] at hR
        go_enter Tryz.func18, Tryz.ntmps18
        go_wp2_with (first | (go_at_call 54; refine rc_paint hS hT _ k1 ?_; clear hS; intro w hT hS; unfold Ret) | (go_at_call 55; refine rc_stack hS hU _ k2 ?_; clear hS; intro w hU hS; unfold Ret) | (go_at_call 56; refine kr_shade hS hT s _ _ _ rfl hsb a2 ?_; clear hS hT; intro E1 w hT hS; unfold Ret) | (go_at_call 57; refine sr_push hS hU s _ _ _ rfl rfl rfl ?_; clear hS hU; intro E2 w hU hS; unfold Ret))
        exact hR _ _ _ hT hU hS.pick
set_option maxRecDepth 100000 in
theorem rc_done {p q : Option Addr} {T : Cq} {S : Sq} (hO : St w0 bs w H) (hT : KR p T E1) (hU : SR q S E2) [hc : Cut H E1 H1] [hd : Cut H1 E2 H2] (v : Bool) (e : Int) (hv : dnB T S = v) (he : dnE T S = e)
    (hR : ∀ w', KR p T E1 → SR q S E2 → St w0 bs w' (E1 ++ (E2 ++ H2)) → Ret R (.tuple #[.bool v, .int .i64 e]) w') : Calls Tryz.prog 76 #[.pointer p, .pointer q] w R := by
  have hS := (hO.front (E := E1) (H1 := H1))
  have hS : St w0 bs w (E1 ++ (E2 ++ H2)) := hS.pick
  clear hO
  subst hv he
  unfold dnB dnE vlE at hR
  cases k1 : okC T with
  | false =>
    simp only [k1, Bool.false_and, Bool.false_eq_true, if_false] at hR
    go_enter Tryz.func76, Tryz.ntmps76
    go_wp2_with ((go_at_call 54; refine rc_paint hS hT _ k1 ?_; clear hS; intro w hT hS; unfold Ret))
    exact hR _ hT hU hS.pick
  | true =>
    cases k2 : okS S with
    | false =>
      simp only [k1, k2, Bool.and_false, Bool.false_and, Bool.false_eq_true, if_false] at hR
      go_enter Tryz.func76, Tryz.ntmps76
      go_wp2_with (first | (go_at_call 54; refine rc_paint hS hT _ k1 ?_; clear hS; intro w hT hS; unfold Ret) | (go_at_call 55; refine rc_stack hS hU _ k2 ?_; clear hS; intro w hU hS; unfold Ret))
      exact hR _ hT hU hS.pick
    | true =>
      simp only [k1, k2, Bool.and_self, Bool.true_and, if_true] at hR
      go_enter Tryz.func76, Tryz.ntmps76
      go_wp2_with (first | (go_at_call 54; refine rc_paint hS hT _ k1 ?_; clear hS; intro w hT hS; unfold Ret) | (go_at_call 55; refine rc_stack hS hU _ k2 ?_; clear hS; intro w hU hS; unfold Ret) | (go_at_call 69; refine kr_grey hS hT 0 _ _ rfl rfl ?_; clear hS; intro w hT hS; unfold Ret))
      exact hR _ hT hU hS.pick
set_option maxRecDepth 100000 in
theorem rc_rescan {p q : Option Addr} {T : Cq} {S : Sq} (hO : St w0 bs w H) (hT : KR p T E1) (hU : SR q S E2) [hc : Cut H E1 H1] [hd : Cut H1 E2 H2] (f : Int) (S' : Sq) (r : Int) (v : Bool) (e : Int) (hS' : rsS T S f = S') (hr : rsI T S f = r) (hv : rsB T S f = v) (he : rsE T S f = e)
    (hR : ∀ E2 w', KR p T E1 → SR q S' E2 → St w0 bs w' (E1 ++ (E2 ++ H2)) → Ret R (.tuple #[.int .i64 r, .bool v, .int .i64 e]) w') : Calls Tryz.prog 22 #[.pointer p, .pointer q, .int .i64 f] w R := by
  have hS := (hO.front (E := E1) (H1 := H1))
  have hS : St w0 bs w (E1 ++ (E2 ++ H2)) := hS.pick
  clear hO
  subst hS' hr hv he
  unfold rsS rsI rsE at hR
  unfold rsB vlE at hR
  cases k1 : okC T with
  | false =>
    simp only [k1, Bool.false_and, Bool.false_eq_true, if_false] at hR
    go_enter Tryz.func22, Tryz.ntmps22
    go_wp2_with ((go_at_call 54; refine rc_paint hS hT _ k1 ?_; clear hS; intro w hT hS; unfold Ret))
    refine bodyPost_ret (res_tmp3 rfl) rfl ?_
    exact hR _ _ hT hU hS.pick
  | true =>
    cases k2 : okS S with
    | false =>
      simp only [k1, k2, Bool.and_false, Bool.false_and, Bool.false_eq_true, if_false] at hR
      go_enter Tryz.func22, Tryz.ntmps22
      go_wp2_with (first | (go_at_call 54; refine rc_paint hS hT _ k1 ?_; clear hS; intro w hT hS; unfold Ret) | (go_at_call 55; refine rc_stack hS hU _ k2 ?_; clear hS; intro w hU hS; unfold Ret))
      refine bodyPost_ret (res_tmp3 rfl) rfl ?_
      exact hR _ _ hT hU hS.pick
    | true =>
      cases hg : gyB T f with
      | false =>
        simp only [k1, k2, hg, Bool.and_self, Bool.and_false, Bool.false_and, Bool.false_eq_true, if_false, if_true] at hR
        go_enter Tryz.func22, Tryz.ntmps22
        go_wp2_with (first | (go_at_call 54; refine rc_paint hS hT _ k1 ?_; clear hS; intro w hT hS; unfold Ret) | (go_at_call 55; refine rc_stack hS hU _ k2 ?_; clear hS; intro w hU hS; unfold Ret) | (go_at_call 69; refine kr_grey hS hT f _ _ rfl hg ?_; clear hS; intro w hT hS; unfold Ret))
        refine bodyPost_ret (res_tmp3 rfl) rfl ?_
        exact hR _ _ hT hU hS.pick
      | true =>
        obtain ⟨r, hr⟩ : ∃ r, gyI T f = r := ⟨_, rfl⟩
        cases hp : puB S r with
        | false =>
          simp only [k1, k2, hg, hr, hp, Bool.and_self, Bool.and_false, Bool.and_true, Bool.false_eq_true, if_false, if_true] at hR
          go_enter Tryz.func22, Tryz.ntmps22
          go_wp2_with (first | (go_at_call 54; refine rc_paint hS hT _ k1 ?_; clear hS; intro w hT hS; unfold Ret) | (go_at_call 55; refine rc_stack hS hU _ k2 ?_; clear hS; intro w hU hS; unfold Ret) | (go_at_call 69; refine kr_grey hS hT f _ _ hr hg ?_; clear hS; intro w hT hS; unfold Ret) | (go_at_call 70; refine sr_copy hS hU ?_; clear hS; intro p4 E6 w hT4 hU hS; unfold Ret) | (go_at_call 57; refine sr_push hS hT4 r _ _ _ rfl hp rfl ?_; clear hS hT4; intro E6 w _ hS; unfold Ret))
          refine bodyPost_ret (res_tmp3 rfl) rfl ?_
          exact hR _ _ hT hU hS.pick
        | true =>
          have e0 : puE S r = 0 := by
            rcases S with _ | _ | ⟨z, o, l⟩
            · cases k2
            · cases k2
            simp only [puB] at hp
            simp only [puE]
            split at hp
            · cases hp
            · rename_i hh; rw [if_neg hh]
          simp only [k1, k2, hg, hr, hp, e0, Bool.and_self, Bool.and_true, if_true] at hR
          go_enter Tryz.func22, Tryz.ntmps22
          go_wp2_with (first | (go_at_call 54; refine rc_paint hS hT _ k1 ?_; clear hS; intro w hT hS; unfold Ret) | (go_at_call 55; refine rc_stack hS hU _ k2 ?_; clear hS; intro w hU hS; unfold Ret) | (go_at_call 69; refine kr_grey hS hT f _ _ hr hg ?_; clear hS; intro w hT hS; unfold Ret) | (go_at_call 70; refine sr_copy hS hU ?_; clear hS; intro p4 E6 w hT4 hU hS; unfold Ret) | (go_at_call 57; (with_reducible refine sr_push hS hT4 r _ _ _ rfl hp rfl ?_); clear hS hT4; intro E6 w _ hS; unfold Ret) | (go_at_call 57; (with_reducible refine sr_push hS hU r _ _ _ rfl hp rfl ?_); clear hS hU; intro E2 w hU hS; unfold Ret))
          refine bodyPost_ret (res_tmp3 rfl) rfl ?_
          exact hR _ _ hT hU hS.pick
end Go.Proofs.YtgpjanfphgjbbaaGreat
