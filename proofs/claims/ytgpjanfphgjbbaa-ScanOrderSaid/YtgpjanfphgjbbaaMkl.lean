/-
  Marking: what shading, scanning and popping make of paints and stacks; in plain lists.
-/
import Derived.Test.YtgpjanfphgjbbaaGmo
import Derived.Test.YtgpjanfphgjbbaaSca
set_option linter.unusedSimpArgs false
set_option linter.unusedVariables false
namespace Go.Proofs.Ytgpjanfphgjbbaa
open Go Go.RowKit Go.Mm

abbrev cq (L : List Int) : Cq := some (some (40, L))
abbrev sq (z : Nat) (o : Bool) (l : List Int) : Sq := some (some (z, o, l))
def wg (c : Int) : Nat := if c = 0 then 3 else if c = 1 then 1 else 0
def mu (L l : List Int) : Nat := ((L.take 40).map wg).sum + l.length
theorem sum_set : ∀ (L : List Nat) (i x : Nat), i < L.length → (L.set i x).sum + L.getD i 0 = L.sum + x
  | [], i, x, h => by simp at h
  | a :: L, 0, x, h => by simp; omega
  | a :: L, i + 1, x, h => by
    have := sum_set L i x (by simpa using h)
    simp only [List.set_cons_succ, List.sum_cons, List.getD_cons_succ] at this ⊢
    omega
theorem getD_set1 (L : List Int) (i j : Nat) (c : Int) (h : i < L.length) : (L.set i c).getD j 0 = if j = i then c else L.getD j 0 := by
  rw [List.getD_eq_getElem?_getD, List.getD_eq_getElem?_getD, List.getElem?_set]
  by_cases e : j = i
  · subst e; rw [if_pos rfl, if_pos rfl, if_pos h]; rfl
  · rw [if_neg (fun e' => e e'.symm), if_neg e]
theorem mu_set {L l : List Int} {i : Nat} {c : Int} (hl : L.length = 256) (hi : i < 40) : mu (L.set i c) l + wg (L.getD i 0) = mu L l + wg c := by
  have h := sum_set ((L.take 40).map wg) i (wg c) (by simp; omega)
  have e : ((L.take 40).map wg).getD i 0 = wg (L.getD i 0) := by
    rw [List.getD_eq_getElem?_getD, List.getD_eq_getElem?_getD, List.getElem?_map, List.getElem?_take, if_pos hi, List.getElem?_eq_getElem (by omega)]; rfl
  rw [e] at h
  unfold mu
  rw [List.take_set, List.map_set]
  omega
theorem wg_le (c : Int) : wg c ≤ 3 := by unfold wg; split <;> (try split) <;> omega
theorem mu_start (L : List Int) : mu L [] ≤ 120 := by
  have : ∀ l : List Int, (l.map wg).sum ≤ 3 * l.length := by
    intro l
    induction l with
    | nil => simp
    | cons a l ih => have := wg_le a; simp only [List.map_cons, List.sum_cons, List.length_cons]; omega
  have h := this (L.take 40)
  have h2 : (L.take 40).length ≤ 40 := by simp; omega
  unfold mu
  simp only [List.length_nil]
  omega

/-- What is reached from some objects. -/
inductive Rch (H : List Hs) (P : Nat → Prop) : Nat → Prop
  | src {i : Nat} (h : P i) : Rch H P i
  | step {i j : Nat} (h : Rch H P i) (k : j ∈ kid H i) : Rch H P j
structure Mk (m : Nat) (H : List Hs) (P : Nat → Prop) (L l : List Int) : Prop where
  len : L.length = 256
  c3 : ∀ c ∈ L, c = 0 ∨ c = 1 ∨ c = 2
  rch : ∀ i, L.getD i 0 ≠ 0 → i < m ∧ Rch H P i
  blk : ∀ i, L.getD i 0 = 2 → ∀ j ∈ kid H i, L.getD j 0 ≠ 0
  stk : ∀ x ∈ l, ∃ i : Nat, x = i ∧ L.getD i 0 ≠ 0
variable {m z : Nat} {H : List Hs} {P : Nat → Prop} {L l : List Int} {o : Bool}
theorem zeros_get (i : Nat) : Col.zerosL.getD i 0 = 0 := by
  rw [Col.zerosL, List.getD_eq_getElem?_getD, List.getElem?_replicate]
  split <;> rfl
theorem Mk.new : Mk m H P Col.zerosL [] :=
  ⟨Col.zerosLen, fun c hc => .inl (List.mem_replicate.1 hc).2, fun i hi => absurd (zeros_get i) hi, fun i hi => by rw [zeros_get] at hi; exact absurd hi (by decide), fun x hx => by cases hx⟩
theorem Mk.c (h : Mk m H P L l) (i : Nat) : L.getD i 0 = 0 ∨ L.getD i 0 = 1 ∨ L.getD i 0 = 2 := by
  by_cases hi : i < L.length
  · rw [List.getD_eq_getElem?_getD, List.getElem?_eq_getElem hi]
    exact h.c3 _ (List.getElem_mem hi)
  · rw [List.getD_eq_getElem?_getD, List.getElem?_eq_none (by omega)]; exact .inl rfl
/-- A slot is shaded. -/
theorem Mk.shade (h : Mk m H P L l) (hm : m ≤ 40) {i : Nat} (hi : i < m) (hr : Rch H P i) : ∃ L' o' l', skT (cq L) (sq z o l) i = cq L' ∧ skS (cq L) (sq z o l) i = sq z o' l' ∧ skE (cq L) (sq z o l) i = 0 ∧ Mk m H P L' l'
    ∧ L'.getD i 0 ≠ 0 ∧ (∀ j, L.getD j 0 ≠ 0 → L'.getD j 0 = L.getD j 0) ∧ mu L' l' ≤ mu L l := by
  have hv : vlE (cq L) (sq z o l) = true := rfl
  have hc : (0 : Int) ≤ (i : Int) ∧ (i : Int) < (40 : Nat) := by omega
  have hiL : i < L.length := by rw [h.len]; omega
  by_cases h0 : L.getD i 0 = 0
  · have hb : shB (cq L) i = true := by simp only [shB, if_pos hc, Int.toNat_natCast, h0]; rfl
    have hp : ¬ ((i : Int) < 0 ∨ 256 ≤ (i : Int)) := by omega
    have hT : skT (cq L) (sq z o l) i = cq (L.set i 1) := by
      rw [skT, if_pos hv]
      simp only [shC, if_pos hc, Int.toNat_natCast, Col.shadeL, if_pos h0]
    have hE : skE (cq L) (sq z o l) i = 0 := by
      rw [skE, if_pos hv, if_pos hb]
      simp only [puE, if_neg hp]
    have hS : skS (cq L) (sq z o l) i = puT (sq z o l) i := by rw [skS, hv, hb]; rfl
    have gs := fun j c => getD_set1 L i j c hiL
    have hmu := fun l' => mu_set (L := L) (l := l') (c := 1) h.len (by omega : i < 40)
    rw [h0] at hmu
    have w0 : wg 0 = 3 := rfl
    have w1 : wg 1 = 1 := rfl
    rw [w0, w1] at hmu
    have core : ∀ l', (∀ x ∈ l', x ∈ l ∨ x = i) → Mk m H P (L.set i 1) l' := fun l' hl' =>
      ⟨by rw [List.length_set]; exact h.len, (col_set (c := 1) h.len h.c3 (.inr (.inl rfl))).2, fun j hj => by
        rw [gs] at hj
        by_cases e : j = i
        · subst e; exact ⟨hi, hr⟩
        · rw [if_neg e] at hj; exact h.rch j hj, fun j hj k hk => by
        rw [gs] at hj
        by_cases e : j = i
        · rw [if_pos e] at hj; exact absurd hj (by decide)
        · rw [if_neg e] at hj
          rw [gs]
          split
          · decide
          · exact h.blk j hj k hk, fun x hx => by
        rcases hl' x hx with hx | hx
        · obtain ⟨j, rfl, hj⟩ := h.stk x hx
          refine ⟨j, rfl, ?_⟩
          rw [gs]
          split
          · decide
          · exact hj
        · exact ⟨i, hx, by rw [gs, if_pos rfl]; decide⟩⟩
    have hne : (L.set i 1).getD i 0 ≠ 0 := by rw [gs, if_pos rfl]; decide
    have hst : ∀ j, L.getD j 0 ≠ 0 → (L.set i 1).getD j 0 = L.getD j 0 := fun j hj => by
      rw [gs, if_neg (fun e => hj (by rw [e, h0]))]
    by_cases hf : l.length = z
    · refine ⟨L.set i 1, true, l, hT, ?_, hE, core l (fun x hx => .inl hx), hne, hst, ?_⟩
      · rw [hS]; simp only [puT, if_neg hp, if_pos hf]
      · have := hmu l; omega
    · refine ⟨L.set i 1, o, l ++ [(i : Int)], hT, ?_, hE, core _ (fun x hx => by simpa using hx), hne, hst, ?_⟩
      · rw [hS]; simp only [puT, if_neg hp, if_neg hf]
      · have := hmu l
        have e : ∀ L : List Int, mu L (l ++ [(i : Int)]) = mu L l + 1 := fun L => by simp [mu]; omega
        rw [e]; omega
  · have hb : shB (cq L) i = false := by simp only [shB, if_pos hc, Int.toNat_natCast]; exact decide_eq_false h0
    refine ⟨L, o, l, ?_, ?_, ?_, h, h0, fun _ _ => rfl, Nat.le_refl _⟩
    · rw [skT, if_pos hv, shC_no hb]
    · rw [skS, hv, hb]; rfl
    · rw [skE, if_pos hv, hb]
      simp only [Bool.false_eq_true, if_false, ofE, if_pos hc]

theorem Mk.fold (hm : m ≤ 40) : ∀ (ks : List Nat), (∀ j ∈ ks, j < m ∧ Rch H P j) → ∀ (L l : List Int) (o : Bool) (n : Nat), Mk m H P L l → ∃ L' o' l' n', (ks.map (fun j : Nat => (j : Int))).foldl shF (cq L, sq z o l, n) = (cq L', sq z o' l', n')
    ∧ Mk m H P L' l' ∧ (∀ j ∈ ks, L'.getD j 0 ≠ 0) ∧ (∀ j, L.getD j 0 ≠ 0 → L'.getD j 0 = L.getD j 0) ∧ mu L' l' ≤ mu L l
  | [], _, L, l, o, n, h => ⟨L, o, l, n, rfl, h, (fun j hj => by cases hj), fun _ _ => rfl, Nat.le_refl _⟩
  | i :: ks, hk, L, l, o, n, h => by
    obtain ⟨h1, h2⟩ := hk i (.head _)
    obtain ⟨L1, o1, l1, e1, e2, _, hM, hne, hst, hmu⟩ := h.shade (z := z) (o := o) hm h1 h2
    obtain ⟨L2, o2, l2, n2, f1, hM2, g1, g2, g3⟩ := Mk.fold hm ks (fun j hj => hk j (.tail _ hj)) L1 l1 o1 (n + if skB (cq L) (sq z o l) i then 1 else 0) hM
    refine ⟨L2, o2, l2, n2, ?_, hM2, fun j hj => ?_, fun j hj => ?_, by omega⟩
    · simp only [List.map_cons, List.foldl_cons, shF, e1, e2]
      exact f1
    · rcases List.mem_cons.1 hj with rfl | hj
      · rw [g2 _ hne]; exact hne
      · exact g1 j hj
    · have := hst j hj
      rw [g2 j (by rw [this]; exact hj), this]
/-- An object that is grey is scanned. -/
theorem Mk.scan {i : Nat} (h : Mk m H P L l) (hm : m ≤ 40) (hkm : ∀ j ∈ kid H i, j < m) (hg : L.getD i 0 = 1) (n : Nat) : ∃ L' o' l' n', (((kid H i).map (fun j : Nat => (j : Int))).foldl shF (cq L, sq z o l, n)) = (cq L', sq z o' l', n') ∧ bkE (cq L') i = 0 ∧ ∃ L2, bkT (cq L') i = cq L2
    ∧ Mk m H P L2 l' ∧ (∀ j, L.getD j 0 ≠ 0 → L2.getD j 0 ≠ 0) ∧ mu L2 l' < mu L l := by
  obtain ⟨hi, hr⟩ := h.rch i (by rw [hg]; decide)
  obtain ⟨L1, o1, l1, n1, e1, hM, h1, h2, h3⟩ := Mk.fold (z := z) hm (kid H i) (fun j hj => ⟨hkm j hj, .step hr hj⟩) L l o n h
  have hg1 : L1.getD i 0 = 1 := by rw [h2 i (by rw [hg]; decide)]; exact hg
  have hc : (0 : Int) ≤ (i : Int) ∧ (i : Int) < (40 : Nat) := by omega
  have hiL : i < L1.length := by rw [hM.len]; omega
  have gs := fun j c => getD_set1 L1 i j c hiL
  refine ⟨L1, o1, l1, n1, e1, ?_, L1.set i 2, ?_, ⟨by rw [List.length_set]; exact hM.len, (col_set (c := 2) hM.len hM.c3 (.inr (.inr rfl))).2, fun j hj => ?_, fun j hj k hk => ?_, fun x hx => ?_⟩, fun j hj => ?_, ?_⟩
  · simp only [bkE, if_pos hc, Int.toNat_natCast, Col.blackE, if_pos hg1]
  · simp only [bkT, if_pos hc, Int.toNat_natCast, Col.blackL, if_pos hg1]
  · rw [gs] at hj
    by_cases e : j = i
    · subst e; exact ⟨hi, hr⟩
    · rw [if_neg e] at hj; exact hM.rch j hj
  · rw [gs] at hj
    rw [gs]
    split
    · decide
    · by_cases e : j = i
      · subst e; exact h1 k hk
      · rw [if_neg e] at hj; exact hM.blk j hj k hk
  · obtain ⟨j, rfl, hj⟩ := hM.stk x hx
    refine ⟨j, rfl, ?_⟩
    rw [gs]; split
    · decide
    · exact hj
  · rw [gs]; split
    · decide
    · rw [h2 j hj]; exact hj
  · have hmu := mu_set (L := L1) (l := l1) (c := 2) hM.len (by omega : i < 40)
    rw [hg1] at hmu
    have w1 : wg 1 = 1 := rfl
    have w2 : wg 2 = 0 := rfl
    omega
theorem Mk.pop {x : Int} (h : Mk m H P L (l ++ [x])) : Mk m H P L l ∧ (∃ i : Nat, x = i ∧ L.getD i 0 ≠ 0) ∧ mu L l < mu L (l ++ [x]) :=
  ⟨⟨h.len, h.c3, h.rch, h.blk, fun y hy => h.stk y (List.mem_append_left _ hy)⟩, h.stk x (by simp), by simp [mu]⟩
theorem grey_no (hn : gyB (cq L) 0 = false) {i : Nat} (hi : i < 40) : L.getD i 0 ≠ 1 := by
  intro h
  simp only [gyB] at hn
  have : (Col.firstOf (Col.isGrey L 0) 40).isSome = true := by
    rw [Col.firstOf, List.find?_isSome]
    exact ⟨i, List.mem_range.2 hi, by simp only [Col.isGrey, Bool.and_eq_true, decide_eq_true_eq, beq_iff_eq]; exact ⟨by omega, h⟩⟩
  rw [this] at hn; cases hn
theorem grey_yes (hn : gyB (cq L) 0 = true) : ∃ i : Nat, gyI (cq L) 0 = i ∧ i < 40 ∧ L.getD i 0 = 1 := by
  simp only [gyB] at hn
  obtain ⟨i, hi⟩ := Option.isSome_iff_exists.1 hn
  refine ⟨i, by simp only [gyI, hi]; rfl, ?_⟩
  have h1 := List.mem_of_find?_eq_some hi
  have h2 := List.find?_some hi
  simp only [Col.isGrey, Bool.and_eq_true, beq_iff_eq] at h2
  exact ⟨List.mem_range.1 h1, h2.2⟩
/-- In the end just what is reached is black. -/
theorem Mk.fin (h : Mk m H P L l) (hs : ∀ i, P i → L.getD i 0 ≠ 0) (hn : gyB (cq L) 0 = false) (hm : m ≤ 40) (i : Nat) : (Rch H P i → L.getD i 0 = 2) ∧ (¬ Rch H P i → L.getD i 0 = 0) := by
  have two : ∀ i, L.getD i 0 ≠ 0 → L.getD i 0 = 2 := fun i hi => by
    have := grey_no hn (i := i) (by have := (h.rch i hi).1; omega)
    rcases h.c i with e | e | e
    · exact absurd e hi
    · exact absurd e this
    · exact e
  refine ⟨fun hr => ?_, fun hr => Decidable.byContradiction (fun e => hr (h.rch i e).2)⟩
  induction hr with
  | src hp => exact two _ (hs _ hp)
  | step _ hk ih => exact two _ (h.blk _ ih _ hk)
theorem Mk.same {P' : Nat → Prop} {L' l' : List Int} (hp : ∀ i, P i ↔ P' i) (h : Mk m H P L l) (h' : Mk m H P' L' l') (hs : ∀ i, P i → L.getD i 0 ≠ 0) (hs' : ∀ i, P' i → L'.getD i 0 ≠ 0) (hn : gyB (cq L) 0 = false) (hn' : gyB (cq L') 0 = false) (hm : m ≤ 40) (i : Nat) :
    L.getD i 0 = L'.getD i 0 := by
  have e : P = P' := funext (fun i => propext (hp i))
  subst e
  obtain ⟨a1, a2⟩ := h.fin hs hn hm i
  obtain ⟨b1, b2⟩ := h'.fin hs' hn' hm i
  by_cases hr : Rch H P i
  · rw [a1 hr, b1 hr]
  · rw [a2 hr, b2 hr]
end Go.Proofs.Ytgpjanfphgjbbaa
