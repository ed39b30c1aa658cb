/-
  Heaps that are graphs: objects with four fields each, none of them freed; in plain lists.
-/
import Derived.Test.YtgpjanfphgjbbaaChm
import Derived.Test.YtgpjanfphgjbbaaHeapF
set_option linter.unusedSimpArgs false
set_option linter.unusedVariables false
namespace Go.Proofs.Ytgpjanfphgjbbaa
open Go Go.RowKit Go.Mm

theorem hsGet_set (L : List Hs) (i j : Nat) (c : Hs) (h : i < L.length) : (L.set i c).getD j zHs = if j = i then c else L.getD j zHs := by
  rw [List.getD_eq_getElem?_getD, List.getD_eq_getElem?_getD, List.getElem?_set]
  by_cases e : j = i
  · subst e; rw [if_pos rfl, if_pos rfl, if_pos h]; rfl
  · rw [if_neg (fun e' => e e'.symm), if_neg e]
/-- A heap of 40 slots of which the first m have objects. -/
structure Gr (m : Nat) (L : List Hs) : Prop where
  len : L.length = 40
  le : m ≤ 40
  yes : ∀ i, i < m → ∃ F, L.getD i zHs = (1, 1, (4, F, false)) ∧ F.length = 4 ∧ ∀ x ∈ F, x = (0, 0) ∨ ∃ j : Nat, j < m ∧ x = ((j : Int), 1)
  no : ∀ i, m ≤ i → i < 40 → L.getD i zHs = (0, 1, zOb)
variable {m : Nat} {L : List Hs}
theorem Gr.new : Gr 0 (List.replicate 40 (0, 1, zOb)) :=
  ⟨List.length_replicate, by omega, fun i hi => absurd hi (Nat.not_lt_zero i), fun i _ hi => by
    rw [List.getD_eq_getElem?_getD, List.getElem?_replicate, if_pos hi]; rfl⟩
theorem gr_nw : nwH 40 1 = some (some (List.replicate 40 (0, 1, zOb))) := rfl
theorem Gr.wi (h : Gr m L) (s g : Int) : wiH (some (some L)) s g = if 0 ≤ s ∧ s < 40 then (if s < m ∧ g = 1 then 0 else 7) else 3 := by
  have hl := h.len
  simp only [wiH, ckE, tbH_len, hl, Nat.zero_lt_succ, if_true, inTb]
  by_cases hs : 0 ≤ s ∧ s < 40
  · obtain ⟨i, rfl⟩ : ∃ i : Nat, s = i := ⟨s.toNat, by omega⟩
    have d : (decide (0 ≤ (i : Int)) && decide ((i : Int) < (40 : Nat))) = true := by simp; omega
    rw [if_pos hs, d, if_pos rfl, Int.toNat_natCast, tbH_get]
    by_cases hi : i < m
    · obtain ⟨F, hF, _⟩ := h.yes i hi
      rw [hF]
      by_cases hg : g = 1
      · subst hg
        rw [if_pos rfl, if_pos ⟨by omega, rfl⟩]
      · rw [if_neg (fun e => hg (by simpa using (Prod.ext_iff.1 e).2.symm)), if_neg (fun e => hg e.2)]
    · rw [h.no i (by omega) (by omega), if_neg (fun e => by simpa using (Prod.ext_iff.1 e).1), if_neg (fun e => hi (by omega))]
  · have d : (decide (0 ≤ s) && decide (s < (40 : Nat))) = false := by
      rw [← Bool.not_eq_true]; simp only [Bool.and_eq_true, decide_eq_true_eq]; omega
    rw [if_neg hs, d]; rfl
theorem Gr.is (h : Gr m L) {i : Nat} (hi : i < m) : wiH (some (some L)) i 1 = 0 := by
  have := h.le
  rw [h.wi, if_pos (by omega), if_pos ⟨by omega, rfl⟩]
theorem Gr.low (h : Gr m L) (hm : m < 40) : firstOf (isSt 0 (tbH L)) (tbH L).length = some m := by
  rw [tbH_len, h.len]
  refine first_at hm (fun j hj => ?_) ?_
  · obtain ⟨F, hF, _⟩ := h.yes j hj
    rw [isSt, tbH_get, hF]; rfl
  · rw [isSt, tbH_get, h.no m (Nat.le_refl m) hm]; rfl
theorem Gr.made (h : Gr m L) (hm : m < 40) : ∃ L', mkT (some (some L)) 4 false = some (some L') ∧ mkR (some (some L)) 4 false = ((m : Int), 1) ∧ mkE (some (some L)) 4 false = 0 ∧ Gr (m + 1) L' := by
  have hI : mkI L 4 false = some m := h.low hm
  have h0 := h.no m (Nat.le_refl m) hm
  refine ⟨mkN L m (nwO 4 false), by simp only [mkT, hI], by simp only [mkR, hI, h0], by simp only [mkE, hI]; rfl, ?_⟩
  refine ⟨by rw [mkN, List.length_set]; exact h.len, hm, fun i hi => ?_, fun i h1 h2 => ?_⟩
  · rw [mkN, hsGet_set _ _ _ _ (by rw [h.len]; exact hm)]
    by_cases e : i = m
    · subst e
      rw [if_pos rfl, h0]
      exact ⟨zero4, rfl, rfl, fun x hx => .inl (by simpa [zero4] using hx)⟩
    · rw [if_neg e]
      obtain ⟨F, hF, h4, hx⟩ := h.yes i (by omega)
      exact ⟨F, hF, h4, fun x hm' => (hx x hm').imp id (fun ⟨j, hj, e⟩ => ⟨j, by omega, e⟩)⟩
  · rw [mkN, hsGet_set _ _ _ _ (by rw [h.len]; exact hm), if_neg (by omega)]
    exact h.no i (by omega) h2
theorem Gr.ob (h : Gr m L) {i : Nat} (hi : i < m) : ∃ F, obAt (some (some L)) i = (4, F, false) ∧ L.getD i zHs = (1, 1, (4, F, false)) ∧ F.length = 4 ∧ ∀ x ∈ F, x = (0, 0) ∨ ∃ j : Nat, j < m ∧ x = ((j : Int), 1) := by
  obtain ⟨F, hF, h4, hx⟩ := h.yes i hi
  refine ⟨F, ?_, hF, h4, hx⟩
  show (L.getD (Int.toNat (i : Int)) zHs).2.2 = _
  rw [Int.toNat_natCast, hF]
theorem Gr.st (h : Gr m L) {i f j : Nat} (hi : i < m) (hf : f < 4) (hj : j < m) : ∃ L', stT (some (some L)) i 1 f ((j : Int), 1) = some (some L') ∧ stE (some (some L)) i 1 f ((j : Int), 1) = 0 ∧ Gr m L' := by
  obtain ⟨F, ho, hF, h4, hx⟩ := h.ob hi
  have hE : stE (some (some L)) i 1 f ((j : Int), 1) = 0 := by
    have e1 : gtOE (obAt (some (some L)) i) f = 0 := by
      rw [ho, gtOE, if_pos (by simp [inF]; omega)]
    simp only [stE, h.is hi, e1, h.is hj, if_true]
    split <;> rfl
  refine ⟨_, by rw [stT, if_pos hE], hE, ?_⟩
  have hi40 : i < L.length := by have := h.le; have := h.len; omega
  simp only [hpL, seN, Int.toNat_natCast, ho, stO]
  refine ⟨by rw [List.length_set]; exact h.len, h.le, fun k hk => ?_, fun k h1 h2 => ?_⟩
  · rw [hsGet_set _ _ _ _ hi40]
    by_cases e : k = i
    · rw [if_pos e]
      refine ⟨F.set f ((j : Int), 1), rfl, by rw [List.length_set]; exact h4, fun x hm' => ?_⟩
      rcases List.mem_or_eq_of_mem_set hm' with hm' | hm'
      · exact hx x hm'
      · exact .inr ⟨j, hj, hm'⟩
    · rw [if_neg e]; exact h.yes k hk
  · rw [hsGet_set _ _ _ _ hi40, if_neg (by omega)]; exact h.no k h1 h2
theorem gl_low {p : Nat → Bool} {m n : Nat} (h1 : ∀ i, i < m → p i = true) (h2 : ∀ i, m ≤ i → i < n → p i = false) (hmn : m ≤ n) : gl p n = List.range m := by
  induction n with
  | zero => obtain rfl : m = 0 := by omega
            rfl
  | succ n ih =>
    by_cases e : m = n + 1
    · subst e
      clear ih h2 hmn
      generalize n + 1 = k at h1 ⊢
      induction k with
      | zero => rfl
      | succ k ih => rw [gl_yes (h1 k (by omega)), ih (fun i hi => h1 i (by omega)), List.range_succ]
    · rw [gl_no (h2 n (by omega) (by omega)), ih (fun i a b => h2 i a (by omega)) (by omega)]
def nmS (m : Nat) : List (Int × Int) := (List.range m).map (fun i : Nat => ((i : Int), (1 : Int)))
theorem nmS_len (m : Nat) : (nmS m).length = m := by simp [nmS]
theorem nmS_get {m i : Nat} (h : i < m) : (nmS m).getD i (0, 0) = ((i : Int), 1) := by
  simp [nmS, h]
theorem nmS_snoc (m : Nat) : nmS m ++ [((m : Int), 1)] = nmS (m + 1) := by
  simp [nmS, List.range_succ]
theorem Gr.all (h : Gr m L) : alH (some (some L)) = nmS m := by
  have e : gl (isSt 1 (tbH L)) (tbH L).length = List.range m := by
    rw [tbH_len, h.len]
    refine gl_low (fun i hi => ?_) (fun i h1 h2 => ?_) h.le
    · obtain ⟨F, hF, _⟩ := h.yes i hi
      rw [isSt, tbH_get, hF]; rfl
    · rw [isSt, tbH_get, h.no i h1 h2]; rfl
  simp only [alH, hpL, tkL, stL, e]
  refine List.map_congr_left (fun i hi => ?_)
  obtain ⟨F, hF, _⟩ := h.yes i (List.mem_range.1 hi)
  rw [refOf, tbH_get, hF]
/-- The children of an object, by slots. -/
def kid (L : List Hs) (i : Nat) : List Nat := (chdR (some (some L)) i 1).map Int.toNat
theorem Gr.kids (h : Gr m L) {i : Nat} (hi : i < m) : chdR (some (some L)) i 1 = (kid L i).map (fun j : Nat => (j : Int)) ∧ (∀ j ∈ kid L i, j < m) ∧ (kid L i).length ≤ 4 := by
  obtain ⟨F, ho, hF, h4, hx⟩ := h.ob hi
  have hc : ∀ c ∈ chdR (some (some L)) i 1, ∃ j : Nat, j < m ∧ c = j := by
    intro c hc
    rw [chdR, if_pos (h.is hi), ho] at hc
    simp only [chL, List.mem_map, mem_gl] at hc
    obtain ⟨k, ⟨hk, hs⟩, rfl⟩ := hc
    obtain ⟨x, hxk⟩ : ∃ x, (rfF F).getD k (0, 0) = x := ⟨_, rfl⟩
    have hm' : x ∈ rfF F := by rw [← hxk]; exact getD_mem hk
    rw [hxk]
    simp only [rfF, List.mem_map, mem_gl] at hm'
    obtain ⟨q, ⟨hq, hnz⟩, rfl⟩ := hm'
    rcases hx _ (getD_mem (L := F) (i := q) (by omega)) with e | ⟨j, hj, e⟩
    · rw [fnz, e, nz_zero] at hnz
      cases hnz
    · exact ⟨j, hj, by rw [e]⟩
  refine ⟨?_, fun j hj => ?_, ?_⟩
  · rw [kid, List.map_map]
    conv => lhs; rw [← List.map_id (chdR (some (some L)) i 1)]
    refine List.map_congr_left (fun c hm' => ?_)
    obtain ⟨j, _, rfl⟩ := hc c hm'
    simp
  · simp only [kid, List.mem_map] at hj
    obtain ⟨c, hm', rfl⟩ := hj
    obtain ⟨j, hj, rfl⟩ := hc c hm'
    simpa using hj
  · rw [kid, List.length_map, chdR, if_pos (h.is hi), chL, List.length_map]
    exact Nat.le_trans (gl_len _ _) (rfF_len _)
theorem Gr.no_kids (h : Gr m L) {s g : Int} (hn : wiH (some (some L)) s g ≠ 0) : chdR (some (some L)) s g = [] := by rw [chdR, if_neg hn]
end Go.Proofs.Ytgpjanfphgjbbaa
