/-
  Arenas: the model; the calls that read, and dropping.
-/
import Derived.Test.YtjlihigodggfcaaGreatArnB
set_option linter.unusedSimpArgs false
set_option linter.unusedVariables false
namespace Go.Proofs.YtjlihigodggfcaaGreat
open Go Go.RowKit Go.Mm
variable {R : Ending → World → Prop} {w : World} {w0 : World} {bs : List Nat} {H H' H1 E : List Ent}

/-- An arena: its objects, the roots of its mutators, its variables. -/
abbrev Ar := List Hs × List (List Rf) × List Rf
def spL (sts : List Sk) : List (Option Addr) := sts.map (fun x => some ⟨x.1, 0, none⟩) ++ List.replicate (4 - sts.length) none
theorem spL_len {sts : List Sk} (h : sts.length ≤ 4) : (spL sts).length = 4 := by simp [spL]; omega
theorem spL_at {sts : List Sk} {m : Nat} {sk : Sk} (h : sts[m]? = some sk) : (spL sts).getD m none = some ⟨sk.1, 0, none⟩ := by
  have hm := (List.getElem?_eq_some_iff.1 h).1
  unfold spL
  rw [List.getD_eq_getElem?_getD, List.getElem?_append_left (by simpa using hm), List.getElem?_map, h]
  rfl
theorem spL_set {sts : List Sk} {m : Nat} {sk : Sk} (h : sts[m]? = some sk) {sk' : Sk} (h1 : sk'.1 = sk.1) : spL (sts.set m sk') = spL sts := by
  obtain ⟨hm, h2⟩ := List.getElem?_eq_some_iff.1 h
  unfold spL
  rw [List.length_set, List.map_set, h1]
  congr 1
  have e : (some ⟨sk.1, 0, none⟩ : Option Addr) = (sts.map (fun x : Sk => (some ⟨x.1, 0, none⟩ : Option Addr)))[m]'(by simpa using hm) := by rw [List.getElem_map, h2]
  rw [e, List.set_getElem_self]
theorem sk_split {sts : List Sk} {m : Nat} {sk : Sk} (h : sts[m]? = some sk) : sts.map skE = (sts.take m).map skE ++ (skE sk :: (sts.drop (m + 1)).map skE) := by
  obtain ⟨hm, h2⟩ := List.getElem?_eq_some_iff.1 h
  conv => lhs; rw [← List.take_append_drop m sts]
  rw [List.drop_eq_getElem_cons hm, h2]
  simp
theorem sk_set {sts : List Sk} {m : Nat} {sk sk' : Sk} (h : sts[m]? = some sk) : (sts.set m sk').map skE = (sts.take m).map skE ++ (skE sk' :: (sts.drop (m + 1)).map skE) := by
  obtain ⟨hm, h2⟩ := List.getElem?_eq_some_iff.1 h
  rw [List.set_eq_take_append_cons_drop, if_pos hm]
  simp
def AA (p : Option Addr) (T : Ar) (E : List Ent) : Prop :=
  ∃ b bo ph Eh pg Eg sts, p = some ⟨b, 0, none⟩ ∧ HA ph (some (some T.1)) Eh ∧ GA pg (some (true, T.2.2)) Eg ∧ sts.map (·.2.1) = T.2.1 ∧ (∀ x ∈ sts, SkW x) ∧ (∀ x ∈ T.2.2, wrR x = false ∧ 0 ≤ x.2 ∧ x.2 ≤ 4294967295) ∧
    1 ≤ sts.length ∧ sts.length ≤ 4 ∧ E = ⟨b, arC (some ⟨bo, 0, none⟩) T.1.length sts.length (spL sts) pg, 69, true⟩ :: ⟨bo, #[.pointer ph], 63, true⟩ :: (Eh ++ (Eg ++ sts.map skE))
instance hasSk {x : Sk} : Has (skE x :: H) x.1 (rkB x.2.1.length (x.2.1 ++ x.2.2)) 110 := ⟨⟨true, .head _⟩⟩

def inM (T : Ar) (m : Int) : Bool := decide (0 ≤ m) && decide (m < T.2.1.length)
def rtL (T : Ar) (m : Int) : List Rf := T.2.1.getD m.toNat []
def rtE (T : Ar) (m i : Int) : Int := if inM T m then (if 0 ≤ i ∧ i < (rtL T m).length then 0 else 3) else 3
def rtR (T : Ar) (m i : Int) : Rf := if rtE T m i = 0 then (rtL T m).getD i.toNat (0, 0) else (0, 0)
def vaE (T : Ar) (m i : Int) : Int := if inM T m && decide (i = -1) then 0 else rtE T m i
def vaR (T : Ar) (m i : Int) : Rf := if i = -1 then (0, 0) else rtR T m i
theorem inM_yes {T : Ar} {m : Int} (h : inM T m = true) {sts : List Sk} (hks : sts.map (·.2.1) = T.2.1) : ∃ (i : Nat) (sk : Sk), m = i ∧ i < sts.length ∧ sts[i]? = some sk ∧ sk.2.1 = rtL T m := by
  have hl : sts.length = T.2.1.length := by rw [← hks]; simp
  simp only [inM, Bool.and_eq_true, decide_eq_true_eq] at h
  obtain ⟨i, rfl⟩ := Int.eq_ofNat_of_zero_le h.1
  have hi : i < sts.length := by omega
  refine ⟨i, sts[i], rfl, hi, List.getElem?_eq_getElem hi, ?_⟩
  unfold rtL
  rw [Int.toNat_natCast, ← hks, List.getD_eq_getElem?_getD, List.getElem?_map, List.getElem?_eq_getElem hi]
  rfl
theorem inM_no {T : Ar} {m : Int} (h : inM T m = false) {sts : List Sk} (hks : sts.map (·.2.1) = T.2.1) : ¬ (0 ≤ m ∧ m < sts.length) := by
  have hl : sts.length = T.2.1.length := by rw [← hks]; simp
  intro hh
  have : inM T m = true := by simp only [inM, Bool.and_eq_true, decide_eq_true_eq]; omega
  rw [this] at h
  cases h

set_option maxHeartbeats 1000000 in
set_option maxRecDepth 100000 in
theorem ar_root {p : Option Addr} {T : Ar} (hO : St w0 bs w H) (hT : AA p T E) [hc : Cut H E H1] (m i : Int) (x : Rf) (e : Int) (hx : rtR T m i = x) (he : rtE T m i = e)
    (hR : ∀ w', AA p T E → St w0 bs w' (E ++ H1) → Ret R (.tuple #[.agg #[.int .i64 x.1, .int .u32 x.2], .int .i64 e]) w') : Calls Tryz.prog 22 #[.pointer p, .int .i64 m, .int .i64 i] w R := by
  have hS := hO.front (E := E) (H1 := H1)
  clear hO
  subst hx he
  obtain ⟨L, ks, G⟩ := T
  obtain ⟨b, bo, ph, Eh, pg, Eg, sts, rfl, hH, hG, hks, hW, hGw, h1, h4, rfl⟩ := id hT
  simp only [List.cons_append, List.append_assoc] at hS
  have hlp := spL_len h4
  cases hm : inM (L, ks, G) m with
  | false =>
    have hno := inM_no hm hks
    have e0 : rtE (L, ks, G) m i = 3 := by unfold rtE; rw [hm]; rfl
    have e1 : rtR (L, ks, G) m i = (0, 0) := by unfold rtR; rw [e0]; rfl
    rw [e0, e1] at hR
    have hq' := Lib.hid (show (if 0 ≤ m ∧ m < (sts.length : Int) then (spL sts).getD m.toNat none else none) = none by rw [if_neg hno])
    have he' := Lib.hid (show (if 0 ≤ m ∧ m < (sts.length : Int) then (0 : Int) else 3) = 3 by rw [if_neg hno])
    clear hm hno e0 e1 hks hW hGw
    go_enter Tryz.func22, Tryz.ntmps22
    go_wp2_with (first | (refine wpList_is (.alloc 25) rfl ?_; go_must (refine wpList_stp (by kernel_rfl) (stp_al _ rfl hS ?_)); clear hS; intro b8 w _ hS) | (go_at_call 71; refine ar_stk hS h4 hlp m none 3 hq'.out he'.out ?_; clear hS; intro w hS; unfold Ret) | (refine wpList_is (.build _ _) rfl ?_; go_must (refine wpList_stp (by kernel_rfl) (stp_val (run_bd _ _ rfl) ?_))) | (refine wpList_is (.store _ _ _) rfl ?_; go_must ((refine wpList_stp (by kernel_rfl) (stp_sta _ _ _ rfl hS ?_))); clear hS; intro w hS))
    refine bodyPost_ret (res_ct rfl hS) rfl ?_
    exact hR _ hT (by simp only [List.cons_append, List.append_assoc]; exact hS.pick)
  | true =>
    obtain ⟨j, sk, rfl, hj, hsk, hrt⟩ := inM_yes hm hks
    have hWs := hW sk (List.mem_of_getElem? hsk)
    have hlen := hWs.len
    have hp := spL_at hsk
    have hq' := Lib.hid (show (if (0 : Int) ≤ (j : Int) ∧ (j : Int) < (sts.length : Int) then (spL sts).getD (j : Int).toNat none else none) = some ⟨sk.1, 0, none⟩ by rw [if_pos (by omega), Int.toNat_natCast]; exact hp)
    have he' := Lib.hid (show (if (0 : Int) ≤ (j : Int) ∧ (j : Int) < (sts.length : Int) then (0 : Int) else 3) = 0 by rw [if_pos (by omega)])
    have hspl := sk_split hsk
    obtain ⟨x, hx⟩ : ∃ x, rtR (L, ks, G) j i = x := ⟨_, rfl⟩
    obtain ⟨e, he⟩ : ∃ e, rtE (L, ks, G) j i = e := ⟨_, rfl⟩
    rw [hx, he] at hR
    have hgx' := Lib.hid (show (if 0 ≤ i ∧ i < (sk.2.1.length : Int) then (sk.2.1 ++ sk.2.2).getD i.toNat (0, 0) else (0, 0)) = x by
      rw [← hx]; unfold rtR rtE; rw [hm, if_pos rfl, ← hrt]
      split
      · next h => rw [if_pos rfl, List.getD_eq_getElem?_getD, List.getD_eq_getElem?_getD, List.getElem?_append_left (by omega)]
      · rw [if_neg (by decide)])
    have hge' := Lib.hid (show (if 0 ≤ i ∧ i < (sk.2.1.length : Int) then (0 : Int) else 3) = e by rw [← he]; unfold rtE; rw [hm, if_pos rfl, ← hrt])
    have hL32 : (sk.2.1 ++ sk.2.2).length = 32 := by rw [List.length_append]; exact hlen
    have hL32' := Lib.hid hL32
    have hn32 : sk.2.1.length ≤ 32 := by omega
    rw [hspl] at hS
    simp only [List.cons_append, List.append_assoc] at hS
    clear hm hks hW hGw hWs hlen hp hx he hL32 hrt
    go_enter Tryz.func22, Tryz.ntmps22
    go_wp2_with (first | (refine wpList_is (.alloc 25) rfl ?_; go_must (refine wpList_stp (by kernel_rfl) (stp_al _ rfl hS ?_)); clear hS; intro b8 w _ hS) | (go_at_call 71; refine ar_stk hS h4 hlp j (some ⟨sk.1, 0, none⟩) 0 hq'.out he'.out ?_; clear hS; intro w hS; unfold Ret) | (go_at_call 73; go_must (refine rk_get hS hL32'.out hn32 hgx'.out hge'.out ?_); clear hS; intro w hS; unfold Ret) | (refine wpList_is (.store _ _ _) rfl ?_; go_must ((refine wpList_stp (by kernel_rfl) (stp_sta _ _ _ rfl hS ?_))); clear hS; intro w hS))
    refine bodyPost_ret (res_ct rfl hS) rfl ?_
    exact hR _ hT (by simp only [List.cons_append, List.append_assoc, hspl]; exact hS.pick)

set_option maxHeartbeats 1000000 in
set_option maxRecDepth 100000 in
theorem ar_value {p : Option Addr} {T : Ar} (hO : St w0 bs w H) (hT : AA p T E) [hc : Cut H E H1] (m i : Int) (x : Rf) (e : Int) (hx : vaR T m i = x) (he : vaE T m i = e)
    (hR : ∀ w', AA p T E → St w0 bs w' (E ++ H1) → Ret R (.tuple #[.agg #[.int .i64 x.1, .int .u32 x.2], .int .i64 e]) w') : Calls Tryz.prog 62 #[.pointer p, .int .i64 m, .int .i64 i] w R := by
  have hS := hO.front (E := E) (H1 := H1)
  clear hO
  subst hx he
  obtain ⟨L, ks, G⟩ := T
  have hS0 := hS
  obtain ⟨b, bo, ph, Eh, pg, Eg, sts, rfl, hH, hG, hks, hW, hGw, h1, h4, rfl⟩ := id hT
  simp only [List.cons_append, List.append_assoc] at hS
  have hlp := spL_len h4
  cases hm : inM (L, ks, G) m with
  | false =>
    have hno := inM_no hm hks
    have e0 : vaE (L, ks, G) m i = 3 := by unfold vaE rtE; rw [hm]; rfl
    have e1 : vaR (L, ks, G) m i = (0, 0) := by unfold vaR rtR rtE; rw [hm]; split <;> rfl
    rw [e0, e1] at hR
    have hq' := Lib.hid (show (if 0 ≤ m ∧ m < (sts.length : Int) then (spL sts).getD m.toNat none else none) = none by rw [if_neg hno])
    have he' := Lib.hid (show (if 0 ≤ m ∧ m < (sts.length : Int) then (0 : Int) else 3) = 3 by rw [if_neg hno])
    clear hm hno e0 e1 hks hW hGw hS0
    go_enter Tryz.func62, Tryz.ntmps62
    go_wp2_with (first | (refine wpList_is (.alloc 25) rfl ?_; go_must (refine wpList_stp (by kernel_rfl) (stp_al _ rfl hS ?_)); clear hS; intro b8 w _ hS) | (go_at_call 71; refine ar_stk hS h4 hlp m none 3 hq'.out he'.out ?_; clear hS; intro w hS; unfold Ret) | (refine wpList_is (.build _ _) rfl ?_; go_must (refine wpList_stp (by kernel_rfl) (stp_val (run_bd _ _ rfl) ?_))) | (refine wpList_is (.store _ _ _) rfl ?_; go_must ((refine wpList_stp (by kernel_rfl) (stp_sta _ _ _ rfl hS ?_))); clear hS; intro w hS))
    refine bodyPost_ret (res_ct rfl hS) rfl ?_
    exact hR _ hT (by simp only [List.cons_append, List.append_assoc]; exact hS.pick)
  | true =>
    obtain ⟨j, sk, rfl, hj, hsk, hrt⟩ := inM_yes hm hks
    have hp := spL_at hsk
    have hq' := Lib.hid (show (if (0 : Int) ≤ (j : Int) ∧ (j : Int) < (sts.length : Int) then (spL sts).getD (j : Int).toNat none else none) = some ⟨sk.1, 0, none⟩ by rw [if_pos (by omega), Int.toNat_natCast]; exact hp)
    have he' := Lib.hid (show (if (0 : Int) ≤ (j : Int) ∧ (j : Int) < (sts.length : Int) then (0 : Int) else 3) = 0 by rw [if_pos (by omega)])
    by_cases hi : i = -1
    · subst hi
      have e0 : vaE (L, ks, G) j (-1) = 0 := by unfold vaE; rw [hm]; rfl
      have e1 : vaR (L, ks, G) j (-1) = (0, 0) := rfl
      rw [e0, e1] at hR
      clear hm e0 e1 hks hW hGw hS0 hrt hp
      go_enter Tryz.func62, Tryz.ntmps62
      go_wp2_with (first | (refine wpList_is (.alloc 25) rfl ?_; go_must (refine wpList_stp (by kernel_rfl) (stp_al _ rfl hS ?_)); clear hS; intro b8 w _ hS) | (go_at_call 71; refine ar_stk hS h4 hlp j (some ⟨sk.1, 0, none⟩) 0 hq'.out he'.out ?_; clear hS; intro w hS; unfold Ret) | (refine wpList_is (.build _ _) rfl ?_; go_must (refine wpList_stp (by kernel_rfl) (stp_val (run_bd _ _ rfl) ?_))) | (refine wpList_is (.store _ _ _) rfl ?_; go_must ((refine wpList_stp (by kernel_rfl) (stp_sta _ _ _ rfl hS ?_))); clear hS; intro w hS))
      refine bodyPost_ret (res_ct rfl hS) rfl ?_
      exact hR _ hT (by simp only [List.cons_append, List.append_assoc]; exact hS.pick)
    · have d : decide (i = -1) = false := decide_eq_false hi
      have d2 : (i == -1) = false := beq_eq_false_iff_ne.2 hi
      obtain ⟨x, hx⟩ : ∃ x, rtR (L, ks, G) j i = x := ⟨_, rfl⟩
      obtain ⟨e, he⟩ : ∃ e, rtE (L, ks, G) j i = e := ⟨_, rfl⟩
      have e0 : vaE (L, ks, G) j i = e := by unfold vaE; rw [d, Bool.and_false]; exact he
      have e1 : vaR (L, ks, G) j i = x := by unfold vaR; rw [if_neg hi]; exact hx
      rw [e0, e1] at hR
      have hx' := Lib.hid hx
      have hee' := Lib.hid he
      clear hm e0 e1 hks hW hGw hS0 hrt hp hx he hi
      go_enter Tryz.func62, Tryz.ntmps62
      go_wp2_with (first | (refine wpList_is (.alloc 25) rfl ?_; go_must (refine wpList_stp (by kernel_rfl) (stp_al _ rfl hS ?_)); clear hS; intro b8 w _ hS) | (go_at_call 71; refine ar_stk hS h4 hlp j (some ⟨sk.1, 0, none⟩) 0 hq'.out he'.out ?_; clear hS; intro w hS; unfold Ret) | (go_at_call 22; go_must (refine ar_root (E := ⟨b, arC (some ⟨bo, 0, none⟩) L.length sts.length (spL sts) pg, 69, true⟩ :: ⟨bo, #[.pointer ph], 63, true⟩ :: (Eh ++ (Eg ++ sts.map skE))) (H1 := ⟨b8, #[.int .i64 0, .int .u32 0], 25, true⟩ :: H1) (show St w0 bs _ ((⟨b, arC (some ⟨bo, 0, none⟩) L.length sts.length (spL sts) pg, 69, true⟩ :: ⟨bo, #[.pointer ph], 63, true⟩ :: (Eh ++ (Eg ++ sts.map skE))) ++ (⟨b8, #[.int .i64 0, .int .u32 0], 25, true⟩ :: H1)) from by simp only [List.cons_append, List.append_assoc]; exact hS.pick) hT j i x e hx'.out hee'.out ?_); clear hS; intro w _ hS; simp only [List.cons_append, List.append_assoc] at hS; unfold Ret) | (refine wpList_is (.store _ _ _) rfl ?_; go_must ((refine wpList_stp (by kernel_rfl) (stp_sta _ _ _ rfl hS ?_))); clear hS; intro w hS))
      refine bodyPost_ret (res_ct rfl hS) rfl ?_
      exact hR _ hT (by simp only [List.cons_append, List.append_assoc]; exact hS.pick)

set_option maxHeartbeats 1000000 in
set_option maxRecDepth 100000 in
theorem rk_drop_no {b n : Nat} {L : List Rf} (hO : St w0 bs w H) [hH : Has H b (rkB n L) 110] (hL : L.length = 32) (hn : n ≤ 32) (i : Int) (hi : ¬ (0 ≤ i ∧ i < n))
    (hR : ∀ w', St w0 bs w' H → Ret R (.tuple #[.agg #[.int .i64 0, .int .u32 0], .int .i64 3]) w') : Calls Tryz.prog 72 #[.pointer (some ⟨b, 0, none⟩), .int .i64 i] w R := by
  have hS := hO
  clear hO
  have hgx' := Lib.hid (show (if (0 : Int) ≤ i ∧ i < n then L.getD i.toNat (0, 0) else (0, 0)) = (0, 0) by rw [if_neg hi])
  have hge' := Lib.hid (show (if (0 : Int) ≤ i ∧ i < n then (0 : Int) else 3) = 3 by rw [if_neg hi])
  have hL' := Lib.hid hL
  clear hL hi
  go_enter Tryz.func72, Tryz.ntmps72
  go_wp2_with (first | (refine wpList_is (.alloc 25) rfl ?_; go_must (refine wpList_stp (by kernel_rfl) (stp_al _ rfl hS ?_)); clear hS; intro br w _ hS) | (go_at_call 73; refine rk_get hS hL'.out hn hgx'.out hge'.out ?_; clear hS; intro w hS; unfold Ret) | (refine wpList_is (.build _ _) rfl ?_; go_must (refine wpList_stp (by kernel_rfl) (stp_val (run_bd _ _ rfl) ?_))) | (refine wpList_is (.store _ _ _) rfl ?_; go_must ((refine wpList_stp (by kernel_rfl) (stp_sta _ _ _ rfl hS ?_))); clear hS; intro w hS))
  refine bodyPost_ret (res_ct rfl hS) rfl ?_
  exact hR _ hS.pick

/-- One root less. -/
def skD (x : Sk) (i : Nat) : Sk := (x.1, x.2.1.take i ++ x.2.1.drop (i + 1), x.2.1.drop (x.2.1.length - 1) ++ x.2.2)
theorem skD_w {x : Sk} (hW : SkW x) {i : Nat} (hi : i < x.2.1.length) : SkW (skD x i) := by
  have := hW.len
  refine ⟨by simp only [skD, List.length_append, List.length_take, List.length_drop]; omega, fun y hy => ?_⟩
  rcases List.mem_append.1 hy with hy | hy
  · exact hW.ok y (List.mem_of_mem_take hy)
  · exact hW.ok y (List.mem_of_mem_drop hy)
theorem skD_e {x : Sk} {i : Nat} (hi : i < x.2.1.length) : (⟨x.1, rkB ((x.2.1.length - 1 : Nat) : Int) (drL (x.2.1 ++ x.2.2) x.2.1.length i), 110, true⟩ : Ent) = skE (skD x i) := by
  have h1 : (skD x i).2.1.length = x.2.1.length - 1 := by simp only [skD, List.length_append, List.length_take, List.length_drop]; omega
  have h2 : drL (x.2.1 ++ x.2.2) x.2.1.length i = (skD x i).2.1 ++ (skD x i).2.2 := by
    simp only [drL, skD]
    rw [List.take_append_of_le_length (by omega), List.take_left', List.drop_append_of_le_length (by omega), List.append_assoc]
    rfl
  unfold skE
  rw [h1, h2]
  rfl
def drT (T : Ar) (m i : Int) : Ar := if rtE T m i = 0 then (T.1, T.2.1.set m.toNat ((rtL T m).take i.toNat ++ (rtL T m).drop (i.toNat + 1)), T.2.2) else T

set_option maxHeartbeats 1000000 in
set_option maxRecDepth 100000 in
theorem ar_drop {p : Option Addr} {T : Ar} (hO : St w0 bs w H) (hT : AA p T E) [hc : Cut H E H1] (m i : Int) (T' : Ar) (x : Rf) (e : Int) (hT' : drT T m i = T') (hx : rtR T m i = x) (he : rtE T m i = e)
    (hR : ∀ E' w', AA p T' E' → St w0 bs w' (E' ++ H1) → Ret R (.tuple #[.agg #[.int .i64 x.1, .int .u32 x.2], .int .i64 e]) w') : Calls Tryz.prog 21 #[.pointer p, .int .i64 m, .int .i64 i] w R := by
  have hS := hO.front (E := E) (H1 := H1)
  clear hO
  subst hx he hT'
  obtain ⟨L, ks, G⟩ := T
  obtain ⟨b, bo, ph, Eh, pg, Eg, sts, rfl, hH, hG, hks, hW, hGw, h1, h4, rfl⟩ := id hT
  simp only [List.cons_append, List.append_assoc] at hS
  have hlp := spL_len h4
  cases hm : inM (L, ks, G) m with
  | false =>
    have hno := inM_no hm hks
    have hq' := Lib.hid (show (if 0 ≤ m ∧ m < (sts.length : Int) then (spL sts).getD m.toNat none else none) = none by rw [if_neg hno])
    have he' := Lib.hid (show (if 0 ≤ m ∧ m < (sts.length : Int) then (0 : Int) else 3) = 3 by rw [if_neg hno])
    have e0 : rtE (L, ks, G) m i = 3 := by unfold rtE; rw [hm]; rfl
    have e1 : rtR (L, ks, G) m i = (0, 0) := by unfold rtR; rw [e0]; rfl
    have e2 : drT (L, ks, G) m i = (L, ks, G) := by unfold drT; rw [e0]; rfl
    rw [e0, e1, e2] at hR
    clear hm hno e0 e1 e2 hks hW hGw
    go_enter Tryz.func21, Tryz.ntmps21
    go_wp2_with (first | (refine wpList_is (.alloc 25) rfl ?_; go_must (refine wpList_stp (by kernel_rfl) (stp_al _ rfl hS ?_)); clear hS; intro b8 w _ hS) | (go_at_call 71; refine ar_stk hS h4 hlp m none 3 hq'.out he'.out ?_; clear hS; intro w hS; unfold Ret) | (refine wpList_is (.build _ _) rfl ?_; go_must (refine wpList_stp (by kernel_rfl) (stp_val (run_bd _ _ rfl) ?_))) | (refine wpList_is (.store _ _ _) rfl ?_; go_must ((refine wpList_stp (by kernel_rfl) (stp_sta _ _ _ rfl hS ?_))); clear hS; intro w hS))
    refine bodyPost_ret (res_ct rfl hS) rfl ?_
    exact hR _ _ hT (by simp only [List.cons_append, List.append_assoc]; exact hS.pick)
  | true =>
    obtain ⟨j, sk, rfl, hj, hsk, hrt⟩ := inM_yes hm hks
    have hWs := hW sk (List.mem_of_getElem? hsk)
    have hlen := hWs.len
    have hp := spL_at hsk
    have hq' := Lib.hid (show (if (0 : Int) ≤ (j : Int) ∧ (j : Int) < (sts.length : Int) then (spL sts).getD (j : Int).toNat none else none) = some ⟨sk.1, 0, none⟩ by rw [if_pos (by omega), Int.toNat_natCast]; exact hp)
    have he' := Lib.hid (show (if (0 : Int) ≤ (j : Int) ∧ (j : Int) < (sts.length : Int) then (0 : Int) else 3) = 0 by rw [if_pos (by omega)])
    have hspl := sk_split hsk
    have hL32 : (sk.2.1 ++ sk.2.2).length = 32 := by rw [List.length_append]; exact hlen
    have hn32 : sk.2.1.length ≤ 32 := by omega
    rw [hspl] at hS
    simp only [List.cons_append, List.append_assoc] at hS
    have hL32' := Lib.hid hL32
    by_cases hi : 0 ≤ i ∧ i < (sk.2.1.length : Int)
    · obtain ⟨q, rfl⟩ := Int.eq_ofNat_of_zero_le hi.1
      have hql : q < sk.2.1.length := by omega
      have e0 : rtE (L, ks, G) j q = 0 := by unfold rtE; rw [hm, if_pos rfl, ← hrt, if_pos hi]
      have e1 : rtR (L, ks, G) j q = sk.2.1.getD q (0, 0) := by unfold rtR; rw [e0, if_pos rfl, ← hrt, Int.toNat_natCast]
      have e2 : drT (L, ks, G) j q = (L, ks.set j (skD sk q).2.1, G) := by unfold drT; rw [e0, if_pos rfl, ← hrt, Int.toNat_natCast, Int.toNat_natCast]; rfl
      obtain ⟨x, hx⟩ : ∃ x, sk.2.1.getD q (0, 0) = x := ⟨_, rfl⟩
      have hx2 : (sk.2.1 ++ sk.2.2).getD q (0, 0) = x := by rw [← hx, List.getD_eq_getElem?_getD, List.getD_eq_getElem?_getD, List.getElem?_append_left hql]
      rw [e0, e1, e2, hx] at hR
      have hx' := Lib.hid hx2
      have hTn : ∀ Y, Y = ⟨b, arC (some ⟨bo, 0, none⟩) L.length sts.length (spL sts) pg, 69, true⟩ :: ⟨bo, #[.pointer ph], 63, true⟩ :: (Eh ++ (Eg ++ ((sts.take j).map skE ++ (skE (skD sk q) :: (sts.drop (j + 1)).map skE)))) → AA (some ⟨b, 0, none⟩) (L, ks.set j (skD sk q).2.1, G) Y := by
        rintro Y rfl
        refine ⟨b, bo, ph, Eh, pg, Eg, sts.set j (skD sk q), rfl, hH, hG, by rw [List.map_set, hks], fun y hy => ?_, hGw, by rw [List.length_set]; exact h1, by rw [List.length_set]; exact h4, by rw [List.length_set, spL_set (sk' := skD sk q) hsk rfl, sk_set hsk]⟩
        rcases List.mem_or_eq_of_mem_set hy with hy | rfl
        · exact hW y hy
        · exact skD_w hWs hql
      have hTn' := Lib.hid hTn
      have hde' := Lib.hid (skD_e hql)
      clear hm hks hW hGw hWs hlen hp hx hx2 hL32 hrt e0 e1 e2 hTn hi
      go_enter Tryz.func21, Tryz.ntmps21
      go_wp2_with (first | (refine wpList_is (.alloc 25) rfl ?_; go_must (refine wpList_stp (by kernel_rfl) (stp_al _ rfl hS ?_)); clear hS; intro b8 w _ hS) | (go_at_call 71; refine ar_stk hS h4 hlp j (some ⟨sk.1, 0, none⟩) 0 hq'.out he'.out ?_; clear hS; intro w hS; unfold Ret) | (go_at_call 72; go_must (refine rk_drop (H := ⟨b8, #[.int .i64 0, .int .u32 0], 25, true⟩ :: ⟨b, arC (some ⟨bo, 0, none⟩) L.length sts.length (spL sts) pg, 69, true⟩ :: ⟨bo, #[.pointer ph], 63, true⟩ :: (Eh ++ (Eg ++ ((sts.take j).map skE ++ ((sts.drop (j + 1)).map skE ++ H1))))) (show St w0 bs _ (skE sk :: _) from hS.pick) hL32'.out hn32 hql hx'.out ?_); clear hS; intro w hS; rw [hde'.out] at hS; unfold Ret) | (refine wpList_is (.store _ _ _) rfl ?_; go_must ((refine wpList_stp (by kernel_rfl) (stp_sta _ _ _ rfl hS ?_))); clear hS; intro w hS))
      refine bodyPost_ret (res_ct rfl hS) rfl ?_
      exact hR _ _ (hTn'.out _ rfl) (by simp only [List.cons_append, List.append_assoc]; exact hS.pick)
    · have e0 : rtE (L, ks, G) j i = 3 := by unfold rtE; rw [hm, if_pos rfl, ← hrt, if_neg hi]
      have e1 : rtR (L, ks, G) j i = (0, 0) := by unfold rtR; rw [e0]; rfl
      have e2 : drT (L, ks, G) j i = (L, ks, G) := by unfold drT; rw [e0]; rfl
      rw [e0, e1, e2] at hR
      have hi' := Lib.hid hi
      clear hm hks hW hGw hWs hlen hp hL32 hrt e0 e1 e2 hi
      go_enter Tryz.func21, Tryz.ntmps21
      go_wp2_with (first | (refine wpList_is (.alloc 25) rfl ?_; go_must (refine wpList_stp (by kernel_rfl) (stp_al _ rfl hS ?_)); clear hS; intro b8 w _ hS) | (go_at_call 71; refine ar_stk hS h4 hlp j (some ⟨sk.1, 0, none⟩) 0 hq'.out he'.out ?_; clear hS; intro w hS; unfold Ret) | (go_at_call 72; go_must (refine rk_drop_no hS hL32'.out hn32 i hi'.out ?_); clear hS; intro w hS; unfold Ret) | (refine wpList_is (.store _ _ _) rfl ?_; go_must ((refine wpList_stp (by kernel_rfl) (stp_sta _ _ _ rfl hS ?_))); clear hS; intro w hS))
      refine bodyPost_ret (res_ct rfl hS) rfl ?_
      exact hR _ _ hT (by simp only [List.cons_append, List.append_assoc, hspl]; exact hS.pick)

def muE (T : Ar) (m : Int) : Int := if inM T m then 0 else 3
set_option maxHeartbeats 1000000 in
set_option maxRecDepth 100000 in
theorem ar_stack {p : Option Addr} {T : Ar} (hO : St w0 bs w H) (hT : AA p T E) [hc : Cut H E H1] (m : Int) (l : List Rf) (e : Int) (hl : (if inM T m then rtL T m else []) = l) (he : muE T m = e)
    (hR : ∀ v E' w', AA p T E → RS v l E' → St w0 bs w' (E' ++ (E ++ H1)) → Ret R (.tuple #[v, .int .i64 e]) w') : Calls Tryz.prog 45 #[.pointer p, .int .i64 m] w R := by
  have hS := hO.front (E := E) (H1 := H1)
  clear hO
  subst hl he
  obtain ⟨L, ks, G⟩ := T
  obtain ⟨b, bo, ph, Eh, pg, Eg, sts, rfl, hH, hG, hks, hW, hGw, h1, h4, rfl⟩ := id hT
  simp only [List.cons_append, List.append_assoc] at hS
  have hlp := spL_len h4
  cases hm : inM (L, ks, G) m with
  | false =>
    have hno := inM_no hm hks
    have hq' := Lib.hid (show (if 0 ≤ m ∧ m < (sts.length : Int) then (spL sts).getD m.toNat none else none) = none by rw [if_neg hno])
    have he' := Lib.hid (show (if 0 ≤ m ∧ m < (sts.length : Int) then (0 : Int) else 3) = 3 by rw [if_neg hno])
    unfold muE at hR
    rw [hm] at hR
    clear hm hno hks hW hGw
    go_enter Tryz.func45, Tryz.ntmps45
    go_wp2_with ((go_at_call 71; refine ar_stk hS h4 hlp m none 3 hq'.out he'.out ?_; clear hS; intro w hS; unfold Ret))
    exact hR _ [] _ hT RS.nil (by simp only [List.nil_append, List.cons_append, List.append_assoc]; exact hS.pick)
  | true =>
    obtain ⟨j, sk, rfl, hj, hsk, hrt⟩ := inM_yes hm hks
    have hWs := hW sk (List.mem_of_getElem? hsk)
    have hlen := hWs.len
    have hp := spL_at hsk
    have hq' := Lib.hid (show (if (0 : Int) ≤ (j : Int) ∧ (j : Int) < (sts.length : Int) then (spL sts).getD (j : Int).toNat none else none) = some ⟨sk.1, 0, none⟩ by rw [if_pos (by omega), Int.toNat_natCast]; exact hp)
    have he' := Lib.hid (show (if (0 : Int) ≤ (j : Int) ∧ (j : Int) < (sts.length : Int) then (0 : Int) else 3) = 0 by rw [if_pos (by omega)])
    have hspl := sk_split hsk
    have hL32 : (sk.2.1 ++ sk.2.2).length = 32 := by rw [List.length_append]; exact hlen
    have hn32 : sk.2.1.length ≤ 32 := by omega
    rw [hspl] at hS
    simp only [List.cons_append, List.append_assoc] at hS
    unfold muE at hR
    rw [hm] at hR
    rw [if_pos rfl, if_pos rfl, ← hrt] at hR
    clear hm hks hW hGw hWs hp hL32 hrt
    go_enter Tryz.func45, Tryz.ntmps45
    go_wp2_with (first | (go_at_call 71; refine ar_stk hS h4 hlp j (some ⟨sk.1, 0, none⟩) 0 hq'.out he'.out ?_; clear hS; intro w hS; unfold Ret) | (go_at_call 91; go_must (refine rk_all hS hlen ?_); clear hS; intro v E1 w hA hS; have hone := hA.one; unfold Ret))
    exact hR _ _ _ hT hA (by simp only [List.cons_append, List.append_assoc, hspl]; exact hS.pick)

set_option maxHeartbeats 1000000 in
set_option maxRecDepth 100000 in
theorem ar_heap {p : Option Addr} {T : Ar} (hO : St w0 bs w H) (hT : AA p T E) [hc : Cut H E H1]
    (hR : ∀ q E' w', AA p T E → HA q (some (some T.1)) E' → St w0 bs w' (E' ++ (E ++ H1)) → Ret R (.pointer q) w') : Calls Tryz.prog 49 #[.pointer p] w R := by
  have hS := hO.front (E := E) (H1 := H1)
  clear hO
  obtain ⟨L, ks, G⟩ := T
  obtain ⟨b, bo, ph, Eh, pg, Eg, sts, rfl, hH, hG, hks, hW, hGw, h1, h4, rfl⟩ := id hT
  simp only [List.cons_append, List.append_assoc] at hS
  have hlp := spL_len h4
  clear hks hW hGw
  go_enter Tryz.func49, Tryz.ntmps49
  go_wp2_with (first | (go_at_call 34; refine ar_yes hS ?_; clear hS; intro w hS; unfold Ret) | (go_at_call 53; go_must (refine hp_copy hS hH _ rfl ?_); clear hS; intro q E1 w hH1 hH2 hS; unfold Ret) | (refine wpList_is (.load _ _) rfl ?_; go_must ((refine wpList_stp (by kernel_rfl) (stp_val (run_ld _ _ rfl hS) ?_)))))
  exact hR _ _ _ hT hH1 (by simp only [List.cons_append, List.append_assoc]; exact hS.pick)
end Go.Proofs.YtjlihigodggfcaaGreat
