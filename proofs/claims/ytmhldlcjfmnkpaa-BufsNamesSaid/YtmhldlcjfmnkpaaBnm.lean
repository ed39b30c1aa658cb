/-
  Names of buffers: none is given twice (the plain law).
-/
import Derived.Test.YtmhldlcjfmnkpaaFillW
set_option linter.unusedSimpArgs false
set_option linter.unusedVariables false
namespace Go.Proofs.Ytmhldlcjfmnkpaa
open Go Go.RowKit Go.Mm
variable {M f : Int} {L : List Bf} {N k : Nat}

/-- What was pinned: its name and its bytes. -/
abbrev Hd := Ot × Int
abbrev bfA (L : List Bf) (i : Nat) : Bf := L.getD i (0, 0, 0)
theorem bf_set {L : List Bf} {i : Nat} (hi : i < L.length) (x : Bf) (j : Nat) : bfA (L.set i x) j = if j = i then x else bfA L j := by
  unfold bfA
  rw [List.getD_eq_getElem?_getD, List.getElem?_set, List.getD_eq_getElem?_getD]
  by_cases h : j = i
  · subst h; rw [if_pos rfl, if_pos rfl, if_pos hi]; rfl
  · rw [if_neg (fun e => h e.symm), if_neg h]

structure Nm (M f : Int) (N k : Nat) (L : List Bf) (seen : List Ot) (ins : List Hd) (gone : List Ot) : Prop where
  w : PlW M L
  len : L.length = N
  lo : ∀ i, i < L.length → f ≤ (bfA L i).2.1
  cnt : (allL L).length = ins.length
  us : usL L = (ins.map (·.2)).sum
  seen_ : ∀ o ∈ seen, ∃ i : Nat, i < L.length ∧ o.1 = 2 ∧ o.2.1 = i ∧ (o.2.2 < (bfA L i).2.1 ∨ (o.2.2 = (bfA L i).2.1 ∧ (bfA L i).1 ≠ 0))
  tk : ∀ i : Nat, i < L.length → (bfA L i).1 = 1 → ((2, (i : Int), (bfA L i).2.1) : Ot) ∈ seen
  ins_ : ∀ h ∈ ins, ∃ i : Nat, i < L.length ∧ h.1.1 = 2 ∧ h.1.2.1 = i ∧ bfA L i = (1, h.1.2.2, h.2)
  inj : ins.Pairwise (fun a b => a.1.2.1 ≠ b.1.2.1)
  gone_ : ∀ o ∈ gone, ∃ i : Nat, i < L.length ∧ o.1 = 2 ∧ o.2.1 = i ∧ (o.2.2 < (bfA L i).2.1 ∨ (o.2.2 = (bfA L i).2.1 ∧ (bfA L i).1 = 2))
  c : gone.length ≤ k

theorem Nm.more {seen : List Ot} {ins : List Hd} {gone : List Ot} (h : Nm M f N k L seen ins gone) : Nm M f N (k + 1) L seen ins gone :=
  ⟨h.w, h.len, h.lo, h.cnt, h.us, h.seen_, h.tk, h.ins_, h.inj, h.gone_, by have := h.c; omega⟩
theorem Nm.start (hN : 0 < N ∧ N ≤ 64) (hM : 1 ≤ M ∧ M ≤ 16777216) (hf : 1 ≤ f ∧ f ≤ 4294967295) : Nm M f N 0 (List.replicate N (0, f, 0)) [] [] [] := by
  have hI := FlI.start hN hM hf
  have hg : ∀ i, i < (List.replicate N ((0, f, 0) : Bf)).length → bfA (List.replicate N (0, f, 0)) i = (0, f, 0) := fun i hi => (List.mem_replicate.1 (getDm hi)).2
  refine ⟨hI.w, hI.len, fun i hi => ?_, ?_, ?_, by simp, fun i hi h1 => ?_, by simp, by simp, by simp, by simp⟩
  · rw [hg i hi]; simp
  · have : allL (List.replicate N (0, f, 0)) = [] := by
      rw [List.eq_nil_iff_length_eq_zero]
      rcases Nat.eq_zero_or_pos (allL (List.replicate N (0, f, 0))).length with h | h
      · exact h
      · obtain ⟨i, hi, _, h1⟩ := allL_at h
        have h1 : (bfA (List.replicate N (0, f, 0)) i).1 = 1 := h1
        rw [hg i hi] at h1
        cases h1
    rw [this]; rfl
  · unfold usL
    rw [List.map_replicate]
    show (List.replicate N (0 : Int)).sum = 0
    clear hI hg hN
    induction N with
    | zero => rfl
    | succ m ih => rw [List.replicate_succ, List.sum_cons, ih]; rfl
  · rw [hg i hi] at h1; cases h1

theorem allL_cnt : ((allL L).length : Int) = stCnt 1 (tbB L) (tbB L).length := by
  rw [allL_len]
  unfold tkP
  rw [tkL_len]
  rfl
theorem allL_set {i : Nat} (hi : i < L.length) (x : Bf) : (allL (L.set i x)).length + (if (bfA L i).1 = 1 then 1 else 0) = (allL L).length + (if x.1 = 1 then 1 else 0) := by
  have h := cnt_set (L := tbB L) (i := i) (by rw [tbB_len]; exact hi) (x.1, x.2.1) 1 L.length
  have h1 := allL_cnt (L := L.set i x)
  have h2 := allL_cnt (L := L)
  rw [tbB_set, List.length_set, tbB_len] at h1
  rw [tbB_len] at h2
  rw [tbB_get] at h
  simp only [hi, true_and] at h
  show (allL (L.set i x)).length + (if (L.getD i (0, 0, 0)).1 = 1 then 1 else 0) = _
  omega

/-- A name is given. -/
theorem Nm.pin {seen : List Ot} {ins : List Hd} {gone : List Ot} (h : Nm M f N k L seen ins gone) {n : Int} {i : Nat} (hI : piI M L n = some i) :
    i < N ∧ f ≤ (bfA L i).2.1 ∧ (∀ o ∈ seen, o ≠ (2, (i : Int), (bfA L i).2.1)) ∧
    Nm M f N (k + 1) (piN L i n) (seen ++ [(2, (i : Int), (bfA L i).2.1)]) (ins ++ [((2, (i : Int), (bfA L i).2.1), n)]) gone := by
  obtain ⟨⟨n1, n2, n3⟩, _, hi, h0⟩ := piI_some hI
  have h0 : (bfA L i).1 = 0 := h0
  have hne : ∀ j, j < L.length → (bfA L j).1 ≠ 0 → j ≠ i := fun j _ h1 e => h1 (by rw [e]; exact h0)
  have hs : ∀ j, bfA (piN L i n) j = if j = i then (1, (bfA L i).2.1, n) else bfA L j := fun j => bf_set hi _ j
  have hl : (piN L i n).length = L.length := by unfold piN; rw [List.length_set]
  have hfr : ∀ o ∈ seen, o ≠ (2, (i : Int), (bfA L i).2.1) := fun o ho e => by
    obtain ⟨j, hj, _, e2, h3⟩ := h.seen_ o ho
    subst e
    simp only at e2 h3
    obtain rfl : i = j := by omega
    rcases h3 with h3 | ⟨_, h3⟩
    · omega
    · exact h3 h0
  refine ⟨by rw [← h.len]; exact hi, h.lo i hi, hfr, piN_w h.w hi ⟨n1, n2⟩, by rw [hl]; exact h.len, fun j hj => ?_, ?_, ?_, fun o ho => ?_, fun j hj h1 => ?_, fun x hx => ?_, ?_, fun o ho => ?_, by have := h.c; omega⟩
  · rw [hs]; split
    · exact h.lo i hi
    · exact h.lo j (by rw [hl] at hj; exact hj)
  · have := allL_set hi ((1, (bfA L i).2.1, n) : Bf)
    rw [if_neg (by rw [h0]; decide), if_pos rfl, h.cnt] at this
    show (allL (L.set i _)).length = _
    rw [List.length_append]
    exact this
  · rw [piN_us h.w hi h0, h.us, List.map_append, List.sum_append]
    simp
  · rcases List.mem_append.1 ho with ho | ho
    · obtain ⟨j, hj, e1, e2, h3⟩ := h.seen_ o ho
      refine ⟨j, by rw [hl]; exact hj, e1, e2, ?_⟩
      rw [hs]
      by_cases e : j = i
      · subst e
        rw [if_pos rfl]
        rcases h3 with h3 | ⟨h3, h4⟩
        · exact .inl h3
        · exact absurd h0 h4
      · rw [if_neg e]; exact h3
    · obtain rfl := List.mem_singleton.1 ho
      refine ⟨i, by rw [hl]; exact hi, rfl, rfl, .inr ?_⟩
      rw [hs, if_pos rfl]
      simp
  · rw [hl] at hj
    rw [hs] at h1 ⊢
    by_cases e : j = i
    · subst e
      rw [if_pos rfl]
      exact List.mem_append_right _ (.head _)
    · rw [if_neg e] at h1 ⊢
      exact List.mem_append_left _ (h.tk j hj h1)
  · rcases List.mem_append.1 hx with hx | hx
    · obtain ⟨j, hj, e1, e2, h3⟩ := h.ins_ x hx
      refine ⟨j, by rw [hl]; exact hj, e1, e2, ?_⟩
      rw [hs, if_neg (hne j hj (by rw [h3]; show (1 : Int) ≠ 0; decide)), h3]
    · obtain rfl := List.mem_singleton.1 hx
      exact ⟨i, by rw [hl]; exact hi, rfl, rfl, by rw [hs, if_pos rfl]⟩
  · rw [List.pairwise_append]
    refine ⟨h.inj, List.pairwise_singleton _ _, fun x hx y hy => ?_⟩
    obtain rfl := List.mem_singleton.1 hy
    obtain ⟨j, hj, _, e2, h3⟩ := h.ins_ x hx
    have := hne j hj (by rw [h3]; show (1 : Int) ≠ 0; decide)
    simp only
    omega
  · obtain ⟨j, hj, e1, e2, h3⟩ := h.gone_ o ho
    refine ⟨j, by rw [hl]; exact hj, e1, e2, ?_⟩
    rw [hs]
    by_cases e : j = i
    · subst e
      rw [if_pos rfl]
      rcases h3 with h3 | ⟨_, h4⟩
      · exact .inl h3
      · rw [h0] at h4; cases h4
    · rw [if_neg e]; exact h3

theorem Nm.isIn {seen : List Ot} {ins : List Hd} {gone : List Ot} (h : Nm M f N k L seen ins gone) {x : Hd} (hx : x ∈ ins) :
    fdE (some (some (M, L))) x.1.1 x.1.2.1 x.1.2.2 = 0 ∧ byR (some (some (M, L))) x.1.1 x.1.2.1 x.1.2.2 = x.2 := by
  obtain ⟨i, hi, e1, e2, h3⟩ := h.ins_ x hx
  have h4 := fd_all (M := M) hi (by show (bfA L i).1 = 1; rw [h3]) _ rfl
  have h5 : (L.getD i (0, 0, 0)) = (1, x.1.2.2, x.2) := h3
  rw [h5] at h4
  rw [e1, e2]
  exact h4
theorem Nm.isGone {seen : List Ot} {ins : List Hd} {gone : List Ot} (h : Nm M f N k L seen ins gone) {x : Ot} (hx : x ∈ gone) :
    fdE (some (some (M, L))) x.1 x.2.1 x.2.2 = 7 ∧ byR (some (some (M, L))) x.1 x.2.1 x.2.2 = 0 ∧ upT (some (some (M, L))) x.1 x.2.1 x.2.2 = some (some (M, L)) := by
  obtain ⟨i, hi, e1, e2, h3⟩ := h.gone_ x hx
  have h7 : fdE (some (some (M, L))) x.1 x.2.1 x.2.2 = 7 := by
    have a1 : inTb (tbB L) i = true := by simp [inTb, tbB_len]; exact hi
    have a2 : ckE (some (tbB L)) i x.2.2 = 7 := by
      rw [ck_at (by rw [tbB_len]; exact hi), tbB_get, if_neg]
      intro e
      obtain ⟨e3, e4⟩ := Prod.mk.inj e
      have e3 : (bfA L i).1 = 1 := e3
      have e4 : (bfA L i).2.1 = x.2.2 := e4
      rcases h3 with h3 | ⟨_, h3⟩
      · omega
      · omega
    rw [e1, e2]
    simp only [fdE, if_true, a1, a2]
    decide
  exact ⟨h7, (fd_bad (by rw [h7]; decide)).2.1, (fd_bad (by rw [h7]; decide)).2.2⟩

/-- A name is given back. -/
theorem Nm.unpin {seen : List Ot} {ins : List Hd} {gone : List Ot} (h : Nm M f N k L seen ins gone) {q : Nat} {x : Hd} (hq : ins[q]? = some x) :
    ∃ L', upT (some (some (M, L))) x.1.1 x.1.2.1 x.1.2.2 = some (some (M, L')) ∧ Nm M f N (k + 1) L' seen (ins.take q ++ ins.drop (q + 1)) (gone ++ [x.1]) := by
  have hxm := List.mem_of_getElem? hq
  have hql := (List.getElem?_eq_some_iff.1 hq).1
  have hq2 := (List.getElem?_eq_some_iff.1 hq).2
  obtain ⟨i, hi, e1, e2, h3⟩ := h.ins_ x hxm
  have h0 := (h.isIn hxm).1
  obtain ⟨⟨xk, xi, g⟩, n⟩ := x
  simp only at e1 e2 h3 h0
  subst e1 e2
  obtain ⟨_, _, _, _, hck, _⟩ := fdE_zero h0
  obtain ⟨hW2, _⟩ := up_w h.w hi hck
  have hsp : ins = ins.take q ++ (((2, (i : Int), g), n) :: ins.drop (q + 1)) := by
    conv => lhs; rw [← List.take_append_drop q ins]
    rw [List.drop_eq_getElem_cons hql, hq2]
  have hsub : ∀ y ∈ ins.take q ++ ins.drop (q + 1), y ∈ ins := fun y hy => by
    rcases List.mem_append.1 hy with hy | hy
    · exact List.mem_of_mem_take hy
    · exact List.mem_of_mem_drop hy
  have hinj := h.inj
  rw [hsp, List.pairwise_append] at hinj
  obtain ⟨p1, p2, p3⟩ := hinj
  obtain ⟨p4, p5⟩ := List.pairwise_cons.1 p2
  have hoth : ∀ y ∈ ins.take q ++ ins.drop (q + 1), y.1.2.1 ≠ (i : Int) := fun y hy => by
    rcases List.mem_append.1 hy with hy | hy
    · exact p3 y hy _ (.head _)
    · exact (p4 y hy).symm
  obtain ⟨c, hc, hc2⟩ : ∃ c : Bf, upN L i g = L.set i c ∧ ((c = (0, g + 1, 0) ∧ g < 4294967295) ∨ (c = (2, g, 0))) := by
    unfold upN
    by_cases hg : g < 4294967295
    · exact ⟨_, by rw [if_pos hg], .inl ⟨rfl, hg⟩⟩
    · exact ⟨_, by rw [if_neg hg], .inr rfl⟩
  have hs : ∀ j, bfA (upN L i g) j = if j = i then c else bfA L j := fun j => by rw [hc]; exact bf_set hi _ j
  have hl : (upN L i g).length = L.length := by rw [hc, List.length_set]
  have hcs : c.1 ≠ 1 ∧ c.2.2 = 0 ∧ (g < c.2.1 ∨ (g = c.2.1 ∧ c.1 = 2)) := by
    rcases hc2 with ⟨rfl, hg⟩ | rfl
    · refine ⟨by simp, rfl, .inl (by simp only; omega)⟩
    · exact ⟨by simp, rfl, .inr ⟨rfl, rfl⟩⟩
  obtain ⟨c1, c2, c3⟩ := hcs
  have hlo := h.lo i hi
  rw [h3] at hlo
  simp only at hlo
  refine ⟨upN L i g, by simp only [upT]; rw [if_pos h0]; rfl, hW2, by rw [hl]; exact h.len, fun j hj => ?_, ?_, ?_, fun o ho => ?_, fun j hj h1 => ?_, fun y hy => ?_, ?_, fun o ho => ?_, ?_⟩
  · rw [hs]; split
    · rcases c3 with c3 | ⟨c3, _⟩ <;> omega
    · exact h.lo j (by rw [hl] at hj; exact hj)
  · have := allL_set hi c
    rw [if_pos (by rw [h3]), if_neg c1, h.cnt] at this
    rw [hc, List.length_append, List.length_take, List.length_drop]
    omega
  · rw [hc, usL_set hi, c2]
    have e5 : (L.getD i (0, 0, 0)).2.2 = n := by show (bfA L i).2.2 = n; rw [h3]
    have e6 : (ins.map (·.2)).sum = ((ins.take q ++ ins.drop (q + 1)).map (·.2)).sum + n := by
      conv => lhs; rw [hsp]
      simp only [List.map_append, List.map_cons, List.sum_append, List.sum_cons]
      omega
    rw [e5, h.us, e6]
    omega
  · obtain ⟨j, hj, e1, e2, h4⟩ := h.seen_ o ho
    refine ⟨j, by rw [hl]; exact hj, e1, e2, ?_⟩
    rw [hs]
    by_cases e : j = i
    · subst e
      rw [if_pos rfl]
      rw [h3] at h4
      simp only at h4
      rcases h4 with h4 | ⟨h4, _⟩
      · left; rcases c3 with c3 | ⟨c3, _⟩ <;> omega
      · rcases c3 with c3 | ⟨c3, c4⟩
        · left; omega
        · exact .inr ⟨by omega, by rw [c4]; decide⟩
    · rw [if_neg e]; exact h4
  · rw [hs] at h1 ⊢
    by_cases e : j = i
    · rw [if_pos e] at h1; exact absurd h1 c1
    · rw [if_neg e] at h1 ⊢
      exact h.tk j (by rw [hl] at hj; exact hj) h1
  · obtain ⟨j, hj, e1, e2, h4⟩ := h.ins_ y (hsub y hy)
    refine ⟨j, by rw [hl]; exact hj, e1, e2, ?_⟩
    rw [hs, if_neg (fun e => hoth y hy (by rw [e2, e])), h4]
  · rw [List.pairwise_append]
    exact ⟨p1, p5, fun a ha b hb => p3 a ha b (.tail _ hb)⟩
  · rcases List.mem_append.1 ho with ho | ho
    · obtain ⟨j, hj, e1, e2, h4⟩ := h.gone_ o ho
      refine ⟨j, by rw [hl]; exact hj, e1, e2, ?_⟩
      rw [hs]
      by_cases e : j = i
      · subst e
        rw [if_pos rfl]
        rw [h3] at h4
        simp only at h4
        rcases h4 with h4 | ⟨_, h4⟩
        · left; rcases c3 with c3 | ⟨c3, _⟩ <;> omega
        · omega
      · rw [if_neg e]; exact h4
    · obtain rfl := List.mem_singleton.1 ho
      refine ⟨i, by rw [hl]; exact hi, rfl, rfl, ?_⟩
      rw [hs, if_pos rfl]
      exact c3
  · have := h.c
    rw [List.length_append]
    simp only [List.length_singleton]
    omega

theorem al_sortedB (L : List Bf) : (allL L).Pairwise (fun x y => x.2.1 < y.2.1) := by
  show ((stL 1 (tbB L) (tbB L).length).map outOf).Pairwise _
  unfold stL
  refine List.Pairwise.map _ (fun a b h => h) (List.Pairwise.map (S := fun a b : Int × Int => a.1 < b.1) _ (fun a b (hab : a < b) => ?_) (List.Pairwise.filter _ List.pairwise_lt_range))
  simp only [refOf]
  omega
theorem Nm.allIn {seen : List Ot} {ins : List Hd} {gone : List Ot} (h : Nm M f N k L seen ins gone) {j : Nat} (hj : j < (allL L).length) : (allL L).getD j (0, 0, 0) ∈ seen := by
  obtain ⟨i, hi, e1, e2⟩ := allL_at hj
  rw [e1]
  exact h.tk i hi e2
theorem Nm.le64 {seen : List Ot} {ins : List Hd} {gone : List Ot} (h : Nm M f N k L seen ins gone) : ins.length ≤ 64 := by
  rw [← h.cnt]; exact allL_64 h.w
end Go.Proofs.Ytmhldlcjfmnkpaa
