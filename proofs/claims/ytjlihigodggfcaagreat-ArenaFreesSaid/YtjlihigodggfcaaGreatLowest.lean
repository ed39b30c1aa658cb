/-
  What taking the lowest free slot does, and giving it back.
-/
import Derived.Test.YtjlihigodggfcaaGreatRfs
set_option linter.unusedSimpArgs false
set_option linter.unusedVariables false
namespace Go.Proofs.YtjlihigodggfcaaGreat
open Go Go.Mm
variable {M : List (Int × Int)}

theorem gl_split {p q : Nat → Bool} {n i : Nat} (hi : i < n) (h0 : p i = false) (h1 : q i = true) (h : ∀ j, j ≠ i → q j = p j) : ∃ B, gl p n = gl p i ++ B ∧ gl q n = gl p i ++ i :: B ∧ ∀ j ∈ B, i < j := by
  obtain ⟨m, rfl⟩ : ∃ m, n = i + 1 + m := ⟨n - (i + 1), by omega⟩
  refine ⟨((List.range m).map (fun x => i + 1 + x)).filter p, ?_, ?_, ?_⟩
  · unfold gl
    rw [List.range_add, List.filter_append, List.range_succ, List.filter_append]
    simp [h0]
  · unfold gl
    rw [List.range_add, List.filter_append, List.range_succ, List.filter_append]
    have e1 : (List.range i).filter q = (List.range i).filter p := List.filter_congr (fun j hj => h j (by have := List.mem_range.1 hj; omega))
    have e2 : ((List.range m).map (fun x => i + 1 + x)).filter q = ((List.range m).map (fun x => i + 1 + x)).filter p := List.filter_congr (fun j hj => by
      obtain ⟨x, _, rfl⟩ := List.mem_map.1 hj
      exact h _ (by omega))
    rw [e1, e2]
    simp [h1]
  · intro j hj
    obtain ⟨hj, _⟩ := List.mem_filter.1 hj
    obtain ⟨x, _, rfl⟩ := List.mem_map.1 hj
    omega

structure Low (l l1 : List (Int × Int)) (r : Int × Int) (j : Nat) : Prop where
  le : j ≤ l.length
  len : l1.length = l.length + 1
  lo : ∀ k, k < j → l1.getD k (0, 0) = l.getD k (0, 0)
  at' : l1.getD j (0, 0) = r
  hi : ∀ k, j < k → k < l1.length → l1.getD k (0, 0) = l.getD (k - 1) (0, 0)
  ne : ∀ k, k < l1.length → k ≠ j → l1.getD k (0, 0) ≠ r

theorem low_of {i : Nat} (hi : i < M.length) (h0 : (M.getD i (0, 0)).1 = 0) : ∃ j, Low (tkL (some M)) (tkL (some (M.set i (1, (M.getD i (0, 0)).2)))) ((i : Int), (M.getD i (0, 0)).2) j := by
  have hp : isSt 1 M i = false := isSt_e h0
  have hq : isSt 1 (M.set i (1, (M.getD i (0, 0)).2)) i = true := by rw [isSt_set hi, if_pos rfl]; rfl
  have hpq : ∀ j, j ≠ i → isSt 1 (M.set i (1, (M.getD i (0, 0)).2)) j = isSt 1 M j := fun j hj => by rw [isSt_set hi, if_neg hj]
  obtain ⟨B, e1, e2, hB⟩ := gl_split hi hp hq hpq
  have er : ∀ j, refOf (M.set i (1, (M.getD i (0, 0)).2)) j = refOf M j := fun j => by
    unfold refOf
    rw [getD_set2 _ _ _ _ hi]
    by_cases e : j = i
    · rw [if_pos e, e]
    · rw [if_neg e]
  have l1 : tkL (some M) = (gl (isSt 1 M) i).map (refOf M) ++ B.map (refOf M) := by
    simp only [tkL, stL]; rw [e1, List.map_append]
  have l2 : tkL (some (M.set i (1, (M.getD i (0, 0)).2))) = (gl (isSt 1 M) i).map (refOf M) ++ (((i : Int), (M.getD i (0, 0)).2) :: B.map (refOf M)) := by
    simp only [tkL, stL, List.length_set]
    rw [e2, List.map_append, List.map_cons, er, List.map_congr_left (fun j _ => er j), List.map_congr_left (l := B) (fun j _ => er j)]
    rfl
  refine ⟨((gl (isSt 1 M) i).map (refOf M)).length, ?_⟩
  have nA : ∀ x ∈ (gl (isSt 1 M) i).map (refOf M), x ≠ ((i : Int), (M.getD i (0, 0)).2) := by
    intro x hx e
    obtain ⟨j, hj, rfl⟩ := List.mem_map.1 hx
    have := (mem_gl.1 hj).1
    have h1 := congrArg Prod.fst e
    simp only [refOf] at h1
    omega
  have nB : ∀ x ∈ B.map (refOf M), x ≠ ((i : Int), (M.getD i (0, 0)).2) := by
    intro x hx e
    obtain ⟨j, hj, rfl⟩ := List.mem_map.1 hx
    have := hB j hj
    have h1 := congrArg Prod.fst e
    simp only [refOf] at h1
    omega
  rw [l1, l2]
  generalize (gl (isSt 1 M) i).map (refOf M) = A at *
  generalize B.map (refOf M) = B' at *
  generalize ((i : Int), (M.getD i (0, 0)).2) = r at *
  have hlo : ∀ k, k < A.length → (A ++ r :: B').getD k (0, 0) = A[k]?.getD (0, 0) := fun k hk => by rw [List.getD_eq_getElem?_getD, List.getElem?_append_left hk]
  have hhi : ∀ k, A.length < k → (A ++ r :: B').getD k (0, 0) = B'[k - 1 - A.length]?.getD (0, 0) := fun k hk => by
    rw [List.getD_eq_getElem?_getD, List.getElem?_append_right (by omega), show k - A.length = (k - 1 - A.length) + 1 by omega, List.getElem?_cons_succ]
  refine ⟨by simp, by simp; omega, fun k hk => ?_, ?_, fun k hk hk2 => ?_, fun k hk hkj => ?_⟩
  · rw [hlo k hk, List.getD_eq_getElem?_getD, List.getElem?_append_left hk]
  · rw [List.getD_eq_getElem?_getD, List.getElem?_append_right (Nat.le_refl _), Nat.sub_self]; rfl
  · rw [hhi k hk, List.getD_eq_getElem?_getD, List.getElem?_append_right (by omega)]
  · rcases Nat.lt_or_ge k A.length with h' | h'
    · rw [hlo k h', List.getElem?_eq_getElem h']
      exact nA _ (List.getElem_mem h')
    · have hlt : A.length < k := by omega
      have hk' : k - 1 - A.length < B'.length := by simp only [List.length_append, List.length_cons] at hk; omega
      rw [hhi k hlt, List.getElem?_eq_getElem hk']
      exact nB _ (List.getElem_mem hk')

/-- No free slot. -/
theorem free_zero (h : tkI (some M) = none) : ctN 0 (some M) = 0 := by
  have hf : firstOf (isSt 0 M) M.length = none := h
  unfold firstOf at hf
  rw [List.find?_eq_none] at hf
  have : gl (isSt 0 M) M.length = [] := by
    unfold gl; rw [List.filter_eq_nil_iff]; exact hf
  simp [ctN, stCnt, this]
theorem take_cnt {i : Nat} (h : tkI (some M) = some i) : ctN 0 (some (tkN M)) = ctN 0 (some M) - 1 ∧ 0 < ctN 0 (some M) ∧ ctN 2 (some (tkN M)) = ctN 2 (some M) := by
  obtain ⟨_, _, _, e4, hl, hz, _⟩ := tk_some h
  have c0 := cnt_set hl (1, (M.getD i (0, 0)).2) 0 M.length
  have c2 := cnt_set hl (1, (M.getD i (0, 0)).2) 2 M.length
  rw [if_pos ⟨hl, hz⟩, if_neg (fun q => by cases q.2)] at c0
  rw [if_neg (fun q => by rw [hz] at q; cases q.2), if_neg (fun q => by cases q.2)] at c2
  rw [e4]
  simp only [ctN, List.length_set]
  omega
theorem give_cnt {i : Nat} {g : Int} (hi : i < M.length) (hx : M.getD i (0, 0) = (1, g)) : ckE (some M) i g = 0 ∧
    (g < 4294967295 → gvN M i g = M.set i (0, g + 1) ∧ ctN 0 (some (gvN M i g)) = ctN 0 (some M) + 1 ∧ ctN 2 (some (gvN M i g)) = ctN 2 (some M) ∧ (gvN M i g).getD i (0, 0) = (0, g + 1)) ∧
    (¬ g < 4294967295 → gvN M i g = M.set i (2, g) ∧ ctN 0 (some (gvN M i g)) = ctN 0 (some M) ∧ ctN 2 (some (gvN M i g)) = ctN 2 (some M) + 1 ∧ (gvN M i g).getD i (0, 0) = (2, g)) := by
  have hc : ckE (some M) i g = 0 := by rw [ck_at hi, if_pos hx]
  refine ⟨hc, fun hg => ?_, fun hg => ?_⟩
  · have e : gvN M i g = M.set i (0, g + 1) := by unfold gvN; rw [if_pos hc, if_pos hg, Int.toNat_natCast]
    have c0 := cnt_set hi (0, g + 1) 0 M.length
    have c2 := cnt_set hi (0, g + 1) 2 M.length
    rw [hx] at c0 c2
    rw [if_neg (fun q => by cases q.2), if_pos ⟨hi, rfl⟩] at c0
    rw [if_neg (fun q => by cases q.2), if_neg (fun q => by cases q.2)] at c2
    refine ⟨e, ?_, ?_, ?_⟩
    · rw [e]; simp only [ctN, List.length_set]; omega
    · rw [e]; simp only [ctN, List.length_set]; omega
    · rw [e, getD_set2 _ _ _ _ hi, if_pos rfl]
  · have e : gvN M i g = M.set i (2, g) := by unfold gvN; rw [if_pos hc, if_neg hg, Int.toNat_natCast]
    have c0 := cnt_set hi (2, g) 0 M.length
    have c2 := cnt_set hi (2, g) 2 M.length
    rw [hx] at c0 c2
    rw [if_neg (fun q => by cases q.2), if_neg (fun q => by cases q.2)] at c0
    rw [if_neg (fun q => by cases q.2), if_pos ⟨hi, rfl⟩] at c2
    refine ⟨e, ?_, ?_, ?_⟩
    · rw [e]; simp only [ctN, List.length_set]; omega
    · rw [e]; simp only [ctN, List.length_set]; omega
    · rw [e, getD_set2 _ _ _ _ hi, if_pos rfl]
theorem gn_at {i : Nat} {x : Int × Int} (hi : i < M.length) (hx : M.getD i (0, 0) = x) : gnG (some M) i = x.2 ∧ gnE (some M) i = 0 := by
  have h1 : inTb M i = true := by simp [inTb]; omega
  have h0 : 0 < M.length := by omega
  exact ⟨by simp only [gnG, h1, if_true, Int.toNat_natCast, hx], by simp only [gnE, if_pos h0, h1, if_true]⟩
theorem ctN_bd (h : TbW M) (st : Int) : 0 ≤ ctN st (some M) ∧ ctN st (some M) ≤ 256 := by
  have h1 := stCnt_le st M M.length
  have h2 := h.hi
  simp only [ctN]
  omega
end Go.Proofs.YtjlihigodggfcaaGreat
