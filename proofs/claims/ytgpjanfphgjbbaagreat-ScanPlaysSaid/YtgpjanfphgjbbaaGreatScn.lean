/-
  Scanning: valid, Shade, Rescan, Done.
-/
import Derived.Test.YtgpjanfphgjbbaaGreatSta
import Derived.Test.YtgpjanfphgjbbaaGreatPnt
set_option linter.unusedSimpArgs false
set_option linter.unusedVariables false
namespace Go.Proofs.YtgpjanfphgjbbaaGreat
open Go.RowKit Go.Mm
variable {R : Ending → World → Prop} {w : World} {w0 : World} {bs : List Nat} {H H' H1 H2 E E1 E2 : List Ent}
def okC : Cq → Bool
  | some (some _) => true
  | _ => false
theorem cpC_none (T : Cq) : (cpC T).isNone = !okC T := by rcases T with _ | _ | _ <;> rfl
theorem cpS_none (T : Sq) : (cpS T).isNone = !okS T := by rcases T with _ | _ | _ <;> rfl
def vlE (T : Cq) (S : Sq) : Bool := okC T && okS S
set_option maxRecDepth 100000 in
theorem sc_valid {p q : Option Addr} {T : Cq} {S : Sq} (hO : St w0 bs w H) (hT : KA p T E1) (hU : SA q S E2) [hc : Cut H E1 H1] [hd : Cut H1 E2 H2] (v : Bool) (hv : vlE T S = v)
    (hR : ∀ w', St w0 bs w' (E1 ++ (E2 ++ H2)) → Ret R (.bool v) w') : Calls Tryz.prog 51 #[.pointer p, .pointer q] w R := by
  have hS := (hO.front (E := E1) (H1 := H1))
  have hS : St w0 bs w (E1 ++ (E2 ++ H2)) := hS.pick
  clear hO
  subst hv
  have n1 := cpC_none T
  have n2 := cpS_none S
  unfold vlE at hR
  cases h1 : okC T with
  | false =>
    rw [h1] at n1 hR
    clear h1
    go_enter Tryz.func51, Tryz.ntmps51
    go_wp2_with ((go_at_call 84; refine pn_copy hS hT _ rfl ?_; clear hS; intro p3 E5 w hT3 hS; have hn3 := hT3.nil; rw [n1] at hn3; simp only [Bool.not_false] at hn3; unfold Ret))
    exact hR _ hS.pick
  | true =>
    rw [h1] at n1 hR
    cases h2 : okS S with
    | false =>
      rw [h2] at n2 hR
      clear h1 h2
      go_enter Tryz.func51, Tryz.ntmps51
      go_wp2_with (first | (go_at_call 84; refine pn_copy hS hT _ rfl ?_; clear hS; intro p3 E5 w hT3 hS; have hn3 := hT3.nil; rw [n1] at hn3; simp only [Bool.not_true] at hn3; unfold Ret) | (go_at_call 68; refine sq_copy hS hU _ rfl ?_; clear hS; intro p4 E6 w hT4 hS; have hn4 := hT4.nil; rw [n2] at hn4; simp only [Bool.not_false] at hn4; unfold Ret))
      exact hR _ hS.pick
    | true =>
      rw [h2] at n2 hR
      clear h1 h2
      go_enter Tryz.func51, Tryz.ntmps51
      go_wp2_with (first | (go_at_call 84; refine pn_copy hS hT _ rfl ?_; clear hS; intro p3 E5 w hT3 hS; have hn3 := hT3.nil; rw [n1] at hn3; simp only [Bool.not_true] at hn3; unfold Ret) | (go_at_call 68; refine sq_copy hS hU _ rfl ?_; clear hS; intro p4 E6 w hT4 hS; have hn4 := hT4.nil; rw [n2] at hn4; simp only [Bool.not_true] at hn4; unfold Ret))
      exact hR _ hS.pick

theorem shB_of {T : Cq} {s : Int} (h : shB T s = true) : ofE T s = 0 := by
  rcases T with _ | _ | ⟨n, L⟩
  · cases h
  · cases h
  · simp only [shB] at h
    simp only [ofE]
    split at h
    · rw [if_pos (by assumption)]
    · cases h
theorem shC_no {T : Cq} {s : Int} (h : shB T s = false) : shC T s = T := by
  rcases T with _ | _ | ⟨n, L⟩
  · rfl
  · rfl
  · simp only [shB] at h
    simp only [shC]
    split
    · rename_i hs
      rw [if_pos hs] at h
      have := of_decide_eq_false h
      rw [Col.shadeL, if_neg this]
    · rfl
theorem cpS_ok {S : Sq} (h : okS S = true) : cpS S = S := by rcases S with _ | _ | _ <;> first | rfl | cases h
theorem vlE_s {T : Cq} {S : Sq} (h : vlE T S = true) : okS S = true := by simp only [vlE, Bool.and_eq_true] at h; exact h.2

def skB (T : Cq) (S : Sq) (s : Int) : Bool := vlE T S && shB T s
def skE (T : Cq) (S : Sq) (s : Int) : Int := if vlE T S then (if shB T s then puE S s else ofE T s) else 1
def skT (T : Cq) (S : Sq) (s : Int) : Cq := if vlE T S then shC T s else T
def skS (T : Cq) (S : Sq) (s : Int) : Sq := if vlE T S && shB T s then puT S s else S
set_option maxRecDepth 100000 in
theorem sc_shade {p q : Option Addr} {T : Cq} {S : Sq} (hO : St w0 bs w H) (hT : KA p T E1) (hU : SA q S E2) [hc : Cut H E1 H1] [hd : Cut H1 E2 H2] (s : Int) (T' : Cq) (S' : Sq) (v : Bool) (e : Int) (hT' : skT T S s = T') (hS' : skS T S s = S') (hv : skB T S s = v) (he : skE T S s = e)
    (hR : ∀ E1 E2 w', KA p T' E1 → SA q S' E2 → St w0 bs w' (E1 ++ (E2 ++ H2)) → Ret R (.tuple #[.bool v, .int .i64 e]) w') : Calls Tryz.prog 17 #[.pointer p, .pointer q, .int .i64 s] w R := by
  have hS := (hO.front (E := E1) (H1 := H1))
  have hS : St w0 bs w (E1 ++ (E2 ++ H2)) := hS.pick
  clear hO
  subst hT' hS' hv he
  unfold skT skS skB skE at hR
  cases hvl : vlE T S with
  | false =>
    simp only [hvl, Bool.false_and, Bool.false_eq_true, if_false] at hR
    go_enter Tryz.func17, Tryz.ntmps17
    go_wp2_with ((go_at_call 51; refine sc_valid hS hT hU _ hvl ?_; clear hS; intro w hS; unfold Ret))
    exact hR _ _ _ hT hU hS.pick
  | true =>
    cases hsb : shB T s with
    | false =>
      have hno := shC_no hsb
      simp only [hvl, hsb, hno, Bool.and_false, Bool.false_eq_true, if_false, if_true] at hR
      obtain ⟨e, he⟩ : ∃ e, ofE T s = e := ⟨_, rfl⟩
      rw [he] at hR
      by_cases h0 : e = 0
      · subst h0
        go_enter Tryz.func17, Tryz.ntmps17
        go_wp2_with (first | (go_at_call 51; refine sc_valid hS hT hU _ hvl ?_; clear hS; intro w hS; unfold Ret) | (go_at_call 52; refine pn_shade hS hT s _ _ _ hno hsb he ?_; clear hS hT; intro E1 w hT hS; unfold Ret))
        exact hR _ _ _ hT hU hS.pick
      · have d : decide (e = 0) = false := decide_eq_false h0
        go_enter Tryz.func17, Tryz.ntmps17
        go_wp2_with (first | (go_at_call 51; refine sc_valid hS hT hU _ hvl ?_; clear hS; intro w hS; unfold Ret) | (go_at_call 52; refine pn_shade hS hT s _ _ _ hno hsb he ?_; clear hS hT; intro E1 w hT hS; unfold Ret))
        exact hR _ _ _ hT hU hS.pick
    | true =>
      have he := shB_of hsb
      simp only [hvl, hsb, Bool.and_true, if_true] at hR
      go_enter Tryz.func17, Tryz.ntmps17
      go_wp2_with (first | (go_at_call 51; refine sc_valid hS hT hU _ hvl ?_; clear hS; intro w hS; unfold Ret) | (go_at_call 52; refine pn_shade hS hT s _ _ _ rfl hsb he ?_; clear hS hT; intro E1 w hT hS; unfold Ret) | (go_at_call 53; refine sq_push hS hU s _ _ _ rfl rfl rfl ?_; clear hS hU; intro E2 w hU hS; unfold Ret))
      exact hR _ _ _ hT hU hS.pick

theorem res_tmp3 {P : Program} {fn : Func} {p q r : Tmp} (h : fn.results = #[.tmp p, .tmp q, .tmp r]) {tmps : List Value} {x y z : Value} [hp : Nth tmps p x] [hq : Nth tmps q y] [hr : Nth tmps r z] {w : World} :
    (results fn tmps.toArray).run P w = .ok (.tuple #[x, y, z]) w := by
  have h1 : tmps[p]?.getD undef = x := by simp [hp.h]
  have h2 : tmps[q]?.getD undef = y := by simp [hq.h]
  have h3 : tmps[r]?.getD undef = z := by simp [hr.h]
  simp [results, h, h1, h2, h3]
def rsB (T : Cq) (S : Sq) (f : Int) : Bool := vlE T S && (gyB T f && puB S (gyI T f))
def rsI (T : Cq) (S : Sq) (f : Int) : Int := if rsB T S f then gyI T f else 0
def rsE (T : Cq) (S : Sq) (f : Int) : Int := if vlE T S then (if gyB T f then (if puB S (gyI T f) then puE S (gyI T f) else 4) else 0) else 1
def rsS (T : Cq) (S : Sq) (f : Int) : Sq := if rsB T S f then puT S (gyI T f) else S
set_option maxRecDepth 100000 in
theorem sc_rescan {p q : Option Addr} {T : Cq} {S : Sq} (hO : St w0 bs w H) (hT : KA p T E1) (hU : SA q S E2) [hc : Cut H E1 H1] [hd : Cut H1 E2 H2] (f : Int) (S' : Sq) (r : Int) (v : Bool) (e : Int) (hS' : rsS T S f = S') (hr : rsI T S f = r) (hv : rsB T S f = v) (he : rsE T S f = e)
    (hR : ∀ E2 w', SA q S' E2 → St w0 bs w' (E1 ++ (E2 ++ H2)) → Ret R (.tuple #[.int .i64 r, .bool v, .int .i64 e]) w') : Calls Tryz.prog 21 #[.pointer p, .pointer q, .int .i64 f] w R := by
  have hS := (hO.front (E := E1) (H1 := H1))
  have hS : St w0 bs w (E1 ++ (E2 ++ H2)) := hS.pick
  clear hO
  subst hS' hr hv he
  unfold rsS rsI rsE at hR
  unfold rsB at hR
  cases hvl : vlE T S with
  | false =>
    simp only [hvl, Bool.false_and, Bool.false_eq_true, if_false] at hR
    go_enter Tryz.func21, Tryz.ntmps21
    go_wp2_with ((go_at_call 51; refine sc_valid hS hT hU _ hvl ?_; clear hS; intro w hS; unfold Ret))
    refine bodyPost_ret (res_tmp3 rfl) rfl ?_
    exact hR _ _ hU hS.pick
  | true =>
    have hcp := cpS_ok (vlE_s hvl)
    cases hg : gyB T f with
    | false =>
      simp only [hvl, hg, Bool.and_false, Bool.false_and, Bool.false_eq_true, if_false, if_true] at hR
      go_enter Tryz.func21, Tryz.ntmps21
      go_wp2_with (first | (go_at_call 51; refine sc_valid hS hT hU _ hvl ?_; clear hS; intro w hS; unfold Ret) | (go_at_call 67; refine pn_grey hS hT f _ _ rfl hg ?_; clear hS; intro w hS; unfold Ret))
      refine bodyPost_ret (res_tmp3 rfl) rfl ?_
      exact hR _ _ hU hS.pick
    | true =>
      obtain ⟨r, hr⟩ : ∃ r, gyI T f = r := ⟨_, rfl⟩
      cases hp : puB S r with
      | false =>
        simp only [hvl, hg, hr, hp, Bool.and_false, Bool.and_true, Bool.false_eq_true, if_false, if_true] at hR
        go_enter Tryz.func21, Tryz.ntmps21
        go_wp2_with (first | (go_at_call 51; refine sc_valid hS hT hU _ hvl ?_; clear hS; intro w hS; unfold Ret) | (go_at_call 67; refine pn_grey hS hT f _ _ hr hg ?_; clear hS; intro w hS; unfold Ret) | (go_at_call 68; refine sq_copy hS hU _ hcp ?_; clear hS; intro p4 E6 w hT4 hS; unfold Ret) | (go_at_call 53; refine sq_push hS hT4 r _ _ _ rfl hp rfl ?_; clear hS hT4; intro E6 w _ hS; unfold Ret))
        refine bodyPost_ret (res_tmp3 rfl) rfl ?_
        exact hR _ _ hU hS.pick
      | true =>
        simp only [hvl, hg, hr, hp, Bool.and_true, if_true] at hR
        have tok := Lib.hid hcp
        clear hcp
        go_enter Tryz.func21, Tryz.ntmps21
        go_wp2_with (first | (go_at_call 51; refine sc_valid hS hT hU _ hvl ?_; clear hS; intro w hS; unfold Ret) | (go_at_call 67; refine pn_grey hS hT f _ _ hr hg ?_; clear hS; intro w hS; unfold Ret) | (go_at_call 68; refine sq_copy hS hU _ tok.out ?_; clear hS; intro p4 E6 w hT4 hS; unfold Ret) | (go_at_call 53; (with_reducible refine sq_push hS hT4 r _ _ _ rfl hp rfl ?_); clear hS hT4; intro E6 w _ hS; unfold Ret) | (go_at_call 53; (with_reducible refine sq_push hS hU r _ _ _ rfl hp rfl ?_); clear hS hU; intro E2 w hU hS; unfold Ret))
        refine bodyPost_ret (res_tmp3 rfl) rfl ?_
        exact hR _ _ hU hS.pick

def dnB (T : Cq) (S : Sq) : Bool := vlE T S && !gyB T 0
def dnE (T : Cq) (S : Sq) : Int := if vlE T S then 0 else 1
set_option maxRecDepth 100000 in
theorem sc_done {p q : Option Addr} {T : Cq} {S : Sq} (hO : St w0 bs w H) (hT : KA p T E1) (hU : SA q S E2) [hc : Cut H E1 H1] [hd : Cut H1 E2 H2] (v : Bool) (e : Int) (hv : dnB T S = v) (he : dnE T S = e)
    (hR : ∀ w', St w0 bs w' (E1 ++ (E2 ++ H2)) → Ret R (.tuple #[.bool v, .int .i64 e]) w') : Calls Tryz.prog 30 #[.pointer p, .pointer q] w R := by
  have hS := (hO.front (E := E1) (H1 := H1))
  have hS : St w0 bs w (E1 ++ (E2 ++ H2)) := hS.pick
  clear hO
  subst hv he
  unfold dnB dnE at hR
  cases hvl : vlE T S with
  | false =>
    simp only [hvl, Bool.false_and, Bool.false_eq_true, if_false] at hR
    go_enter Tryz.func30, Tryz.ntmps30
    go_wp2_with ((go_at_call 51; refine sc_valid hS hT hU _ hvl ?_; clear hS; intro w hS; unfold Ret))
    exact hR _ hS.pick
  | true =>
    simp only [hvl, Bool.true_and, if_true] at hR
    go_enter Tryz.func30, Tryz.ntmps30
    go_wp2_with (first | (go_at_call 51; refine sc_valid hS hT hU _ hvl ?_; clear hS; intro w hS; unfold Ret) | (go_at_call 67; refine pn_grey hS hT 0 _ _ rfl rfl ?_; clear hS; intro w hS; unfold Ret))
    exact hR _ hS.pick
end Go.Proofs.YtgpjanfphgjbbaaGreat
