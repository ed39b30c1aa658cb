/-
  Tables of slots: what turns do, in plain lists.
-/
import Derived.Test.YtlpknbkgkhnfcaaTab
set_option linter.unusedSimpArgs false
set_option linter.unusedVariables false
namespace Go.Proofs.Ytlpknbkgkhnfcaa
open Go Go.Mm
variable {L : List (Int × Int)}

theorem tkN_len : (tkN L).length = L.length := by
  unfold tkN
  cases firstOf (isSt 0 L) L.length <;> simp
theorem gvN_len {s g : Int} : (gvN L s g).length = L.length := by
  unfold gvN; split <;> simp
theorem ck_zero {s g : Int} (h : ckE (some L) s g = 0) : ∃ i : Nat, s = i ∧ i < L.length ∧ L.getD i (0, 0) = (1, g) := by
  simp only [ckE] at h
  by_cases h0 : 0 < L.length
  · rw [if_pos h0] at h
    by_cases h1 : inTb L s = true
    · obtain ⟨i, rfl, hi, _⟩ := in_yes h1
      rw [h1, if_pos rfl, Int.toNat_natCast] at h
      by_cases h2 : L.getD i (0, 0) = (1, g)
      · exact ⟨i, rfl, hi, h2⟩
      · rw [if_neg h2] at h; cases h
    · rw [if_neg h1] at h; cases h
  · rw [if_neg h0] at h; cases h
theorem ck_at {i : Nat} (hi : i < L.length) (g : Int) : ckE (some L) i g = if L.getD i (0, 0) = (1, g) then 0 else 7 := by
  have h1 : inTb L i = true := by simp [inTb]; omega
  have h0 : 0 < L.length := by omega
  simp only [ckE, if_pos h0, h1, if_true, Int.toNat_natCast]
theorem ck_out {s : Int} (h0 : 0 < L.length) (h : s < 0 ∨ (L.length : Int) ≤ s) (g : Int) : ckE (some L) s g = 3 := by
  have h1 : inTb L s = false := by
    rw [← Bool.not_eq_true]; simp only [inTb, Bool.and_eq_true, decide_eq_true_eq]; omega
  simp only [ckE, if_pos h0, h1]; rfl
theorem tkN_w (h : TbW L) : TbW (tkN L) := by
  unfold tkN
  cases e : firstOf (isSt 0 L) L.length with
  | none => exact h
  | some i =>
    have hi := (first_is e).1
    exact h.set i (by simp) (h.gn (L.getD i (0, 0)) (getD_mem hi))
theorem gvN_w (h : TbW L) {s g : Int} : TbW (gvN L s g) := by
  unfold gvN
  by_cases hc : ckE (some L) s g = 0
  · rw [if_pos hc]
    obtain ⟨i, rfl, hi, hx⟩ := ck_zero hc
    have hg := h.gn _ (getD_mem hi)
    rw [hx] at hg
    simp only at hg
    by_cases hm : g < 4294967295
    · rw [if_pos hm]; exact h.set _ (by simp) (by simp only; omega)
    · rw [if_neg hm]; exact h.set _ (by simp) hg
  · rw [if_neg hc]; exact h
theorem mem_tkL {r : Int × Int} : r ∈ tkL (some L) ↔ ∃ i : Nat, i < L.length ∧ r.1 = i ∧ L.getD i (0, 0) = (1, r.2) := by
  unfold tkL stL
  simp only [List.mem_map, mem_gl, isSt, beq_iff_eq, refOf]
  constructor
  · rintro ⟨i, ⟨hi, hs⟩, rfl⟩
    exact ⟨i, hi, rfl, by rw [← hs]⟩
  · rintro ⟨i, hi, h1, h2⟩
    refine ⟨i, ⟨hi, by rw [h2]⟩, ?_⟩
    rw [h2]
    exact Prod.ext h1.symm rfl
theorem tkL_ck {r : Int × Int} (h0 : 0 < L.length) : r ∈ tkL (some L) ↔ ckE (some L) r.1 r.2 = 0 := by
  rw [mem_tkL]
  constructor
  · rintro ⟨i, hi, h1, h2⟩
    rw [h1, ck_at hi, if_pos h2]
  · intro h
    obtain ⟨i, h1, hi, h2⟩ := ck_zero h
    exact ⟨i, hi, h1, h2⟩
theorem tkL_len : ((tkL (some L)).length : Int) = ctN 1 (some L) := by
  unfold tkL ctN; rw [stL_len]

theorem tkL_256 (h : TbW L) : (tkL (some L)).length ≤ 256 := by
  unfold tkL; rw [stL_len]; exact Nat.le_trans (stCnt_le _ _ _) h.hi

/-! One turn -/
def turnN (L : List (Int × Int)) (give : Bool) (wh : Nat) : List (Int × Int) :=
  if give then (if (tkL (some L)).length = 0 then L else gvN L ((tkL (some L)).getD (wh % (tkL (some L)).length) (0, 0)).1 ((tkL (some L)).getD (wh % (tkL (some L)).length) (0, 0)).2) else tkN L
def turnA (L : List (Int × Int)) (give : Bool) : List (Int × Int) := if give then [] else if tkE (some L) = 0 then [(tkS (some L), tkG (some L))] else []
def mdN (L0 : List (Int × Int)) (gv : Nat → Bool) (wh : Nat → Nat) : Nat → List (Int × Int)
  | 0 => L0
  | k + 1 => turnN (mdN L0 gv wh k) (gv k) (wh k)
def mdA (L0 : List (Int × Int)) (gv : Nat → Bool) (wh : Nat → Nat) : Nat → List (Int × Int)
  | 0 => []
  | k + 1 => mdA L0 gv wh k ++ turnA (mdN L0 gv wh k) (gv k)
theorem turnN_len {g : Bool} {wh : Nat} : (turnN L g wh).length = L.length := by
  unfold turnN
  split
  · split
    · rfl
    · exact gvN_len
  · exact tkN_len
theorem turnN_w (h : TbW L) {g : Bool} {wh : Nat} : TbW (turnN L g wh) := by
  unfold turnN
  split
  · split
    · exact h
    · exact gvN_w h
  · exact tkN_w h
theorem mdN_len {gv : Nat → Bool} {wh : Nat → Nat} : ∀ k, (mdN L gv wh k).length = L.length
  | 0 => rfl
  | k + 1 => turnN_len.trans (mdN_len k)
theorem mdN_w (h : TbW L) {gv : Nat → Bool} {wh : Nat → Nat} : ∀ k, TbW (mdN L gv wh k)
  | 0 => h
  | k + 1 => turnN_w (mdN_w h k)
theorem mdN_take {gv : Nat → Bool} {wh : Nat → Nat} {k : Nat} (h : gv k = false) : mdN L gv wh (k + 1) = tkN (mdN L gv wh k) ∧ mdA L gv wh (k + 1) = mdA L gv wh k ++ (if tkE (some (mdN L gv wh k)) = 0 then [(tkS (some (mdN L gv wh k)), tkG (some (mdN L gv wh k)))] else []) := by
  simp only [mdN, mdA, turnN, turnA, h, Bool.false_eq_true, if_false, and_self]
theorem mdN_none {gv : Nat → Bool} {wh : Nat → Nat} {k : Nat} (h : gv k = true) (h0 : (tkL (some (mdN L gv wh k))).length = 0) : mdN L gv wh (k + 1) = mdN L gv wh k ∧ mdA L gv wh (k + 1) = mdA L gv wh k := by
  simp only [mdN, mdA, turnN, turnA, h, if_true, h0, List.append_nil, and_self]
theorem mdN_give {gv : Nat → Bool} {wh : Nat → Nat} {k : Nat} (h : gv k = true) {m : Nat} (hm : (tkL (some (mdN L gv wh k))).length = m) (h0 : 0 < m) {x : Int × Int} (hx : (tkL (some (mdN L gv wh k))).getD (wh k % m) (0, 0) = x) :
    mdN L gv wh (k + 1) = gvN (mdN L gv wh k) x.1 x.2 ∧ mdA L gv wh (k + 1) = mdA L gv wh k := by
  subst hm hx
  simp only [mdN, mdA, turnN, turnA, h, if_true, if_neg (Nat.ne_of_gt h0), List.append_nil, and_self]
theorem tk_some {i : Nat} (h : tkI (some L) = some i) : tkE (some L) = 0 ∧ tkS (some L) = i ∧ tkG (some L) = (L.getD i (0, 0)).2 ∧ tkN L = L.set i (1, (L.getD i (0, 0)).2) ∧ i < L.length ∧ (L.getD i (0, 0)).1 = 0 ∧ ∀ j, j < i → (L.getD j (0, 0)).1 ≠ 0 := by
  have hf : firstOf (isSt 0 L) L.length = some i := h
  obtain ⟨h1, h2, h3⟩ := first_is hf
  refine ⟨?_, ?_, ?_, ?_, h1, by simpa [isSt] using h2, fun j hj => by have := h3 j hj; simpa [isSt] using this⟩
  · unfold tkE; rw [h]; simp [tbOk, show 0 < L.length by omega]
  · unfold tkS; rw [h]; rfl
  · simp only [tkG, hf]
  · unfold tkN; rw [hf]
theorem tk_none (h0 : 0 < L.length) (h : tkI (some L) = none) : tkE (some L) = 4 ∧ tkS (some L) = 0 ∧ tkG (some L) = 0 ∧ tkN L = L := by
  have hf : firstOf (isSt 0 L) L.length = none := h
  refine ⟨?_, ?_, ?_, ?_⟩
  · unfold tkE; rw [h]; simp [tbOk, h0]
  · unfold tkS; rw [h]; rfl
  · simp only [tkG, hf]
  · unfold tkN; rw [hf]

structure MdInv (L A : List (Int × Int)) : Prop where
  old : ∀ r ∈ A, ∃ i : Nat, i < L.length ∧ r.1 = i ∧ (r.2 < (L.getD i (0, 0)).2 ∨ (r.2 = (L.getD i (0, 0)).2 ∧ (L.getD i (0, 0)).1 ≠ 0))
  nd : A.Nodup
theorem MdInv.tk {A : List (Int × Int)} (h : MdInv L A) (h0 : 0 < L.length) : MdInv (tkN L) (A ++ turnA L false) := by
  unfold turnA
  cases hi : tkI (some L) with
  | none =>
    obtain ⟨e1, _, _, e2⟩ := tk_none h0 hi
    rw [e1, e2]
    simpa using h
  | some i =>
    obtain ⟨e1, e2, e3, e4, hl, hz, _⟩ := tk_some hi
    rw [e1, e2, e3, e4]
    simp only [Bool.false_eq_true, if_false, if_true]
    refine ⟨fun r hr => ?_, ?_⟩
    · rw [List.length_set]
      rcases List.mem_append.1 hr with hr | hr
      · obtain ⟨j, hj, h1, h2⟩ := h.old r hr
        refine ⟨j, hj, h1, ?_⟩
        rw [getD_set2 _ _ _ _ hl]
        by_cases e : j = i
        · subst e
          rw [if_pos rfl]
          rcases h2 with h2 | ⟨_, h2⟩
          · exact .inl h2
          · exact absurd hz h2
        · rw [if_neg e]; exact h2
      · obtain rfl := List.mem_singleton.1 hr
        refine ⟨i, hl, rfl, .inr ?_⟩
        rw [getD_set2 _ _ _ _ hl, if_pos rfl]
        exact ⟨rfl, by simp⟩
    · rw [List.nodup_append]
      refine ⟨h.nd, by simp, fun a ha b hb => ?_⟩
      obtain rfl := List.mem_singleton.1 hb
      rintro rfl
      obtain ⟨j, hj, h1, h2⟩ := h.old _ ha
      simp only [Int.natCast_inj] at h1
      subst h1
      rcases h2 with h2 | ⟨_, h2⟩
      · simp only at h2; omega
      · exact h2 hz
theorem MdInv.gv {A : List (Int × Int)} (h : MdInv L A) (hW : TbW L) {s g : Int} : MdInv (gvN L s g) A := by
  unfold gvN
  by_cases hc : ckE (some L) s g = 0
  · rw [if_pos hc]
    obtain ⟨i, rfl, hi, hx⟩ := ck_zero hc
    refine ⟨fun r hr => ?_, h.nd⟩
    rw [List.length_set, Int.toNat_natCast]
    obtain ⟨j, hj, h1, h2⟩ := h.old r hr
    refine ⟨j, hj, h1, ?_⟩
    rw [getD_set2 _ _ _ _ hi]
    by_cases e : j = i
    · subst e
      rw [if_pos rfl]
      rw [hx] at h2
      simp only at h2
      by_cases hm : g < 4294967295
      · rw [if_pos hm]; left; simp only; omega
      · rw [if_neg hm]; simp only; omega
    · rw [if_neg e]; exact h2
  · rw [if_neg hc]; exact h
theorem mdInv (hW : TbW L) (h0 : 0 < L.length) {gv : Nat → Bool} {wh : Nat → Nat} : ∀ k, MdInv (mdN L gv wh k) (mdA L gv wh k)
  | 0 => ⟨by simp [mdA], by simp [mdA]⟩
  | k + 1 => by
    have ih := mdInv hW h0 (gv := gv) (wh := wh) k
    have hw := mdN_w hW (gv := gv) (wh := wh) k
    have hl := mdN_len (L := L) (gv := gv) (wh := wh) k
    unfold mdN mdA
    cases hg : gv k with
    | false =>
      have := ih.tk (by omega)
      simpa [turnN] using this
    | true =>
      simp only [turnN, turnA, if_true, List.append_nil]
      split
      · exact ih
      · exact ih.gv hw
theorem mdA_len {gv : Nat → Bool} {wh : Nat → Nat} : ∀ k, (mdA L gv wh k).length ≤ k
  | 0 => Nat.le_refl _
  | k + 1 => by
    have ih := mdA_len (gv := gv) (wh := wh) k
    unfold mdA turnA
    rw [List.length_append]
    split
    · simp; omega
    · split <;> simp <;> omega

/-! Counting -/
theorem isSt_set {i : Nat} (hi : i < L.length) (c : Int × Int) (st : Int) (j : Nat) : isSt st (L.set i c) j = if j = i then c.1 == st else isSt st L j := by
  unfold isSt
  rw [getD_set2 _ _ _ _ hi]
  split <;> rfl
theorem cnt_set {i : Nat} (hi : i < L.length) (c : Int × Int) (st : Int) : ∀ k, stCnt st (L.set i c) k + (if i < k ∧ (L.getD i (0, 0)).1 = st then 1 else 0) = stCnt st L k + (if i < k ∧ c.1 = st then 1 else 0)
  | 0 => by simp [stCnt, gl]
  | k + 1 => by
    have ih := cnt_set hi c st k
    by_cases e : k = i
    · subst e
      rw [if_neg (by omega), if_neg (by omega)] at ih
      have h1 : isSt st (L.set k c) k = (c.1 == st) := by rw [isSt_set hi, if_pos rfl]
      by_cases hc : c.1 = st <;> by_cases hx : (L.getD k (0, 0)).1 = st
      · rw [stCnt_yes (by rw [h1]; simpa using hc), stCnt_yes (by simpa [isSt] using hx), if_pos ⟨by omega, hx⟩, if_pos ⟨by omega, hc⟩]; omega
      · rw [stCnt_yes (by rw [h1]; simpa using hc), stCnt_no (by simpa [isSt] using hx), if_neg (fun h => hx h.2), if_pos ⟨by omega, hc⟩]; omega
      · rw [stCnt_no (by rw [h1]; simpa using hc), stCnt_yes (by simpa [isSt] using hx), if_pos ⟨by omega, hx⟩, if_neg (fun h => hc h.2)]; omega
      · rw [stCnt_no (by rw [h1]; simpa using hc), stCnt_no (by simpa [isSt] using hx), if_neg (fun h => hx h.2), if_neg (fun h => hc h.2)]; omega
    · have h1 : isSt st (L.set i c) k = isSt st L k := by rw [isSt_set hi, if_neg e]
      have hlt : i < k + 1 ↔ i < k := by omega
      simp only [hlt]
      cases hb : isSt st L k
      · rw [stCnt_no (h1.trans hb), stCnt_no hb]; exact ih
      · rw [stCnt_yes (h1.trans hb), stCnt_yes hb]; omega
theorem isSt_e {st c : Int} {k : Nat} (e : (L.getD k (0, 0)).1 = c) : isSt st L k = (c == st) := by unfold isSt; rw [e]
theorem cnt_sum (h : ∀ x ∈ L, x.1 = 0 ∨ x.1 = 1 ∨ x.1 = 2) : ∀ k, k ≤ L.length → stCnt 0 L k + stCnt 1 L k + stCnt 2 L k = k
  | 0, _ => by simp [stCnt, gl]
  | k + 1, hk => by
    have ih := cnt_sum h k (by omega)
    have hx := h _ (getD_mem (show k < L.length by omega))
    rcases hx with e | e | e
    · rw [stCnt_yes (st := 0) (isSt_e e), stCnt_no (st := 1) (isSt_e e), stCnt_no (st := 2) (isSt_e e)]; omega
    · rw [stCnt_no (st := 0) (isSt_e e), stCnt_yes (st := 1) (isSt_e e), stCnt_no (st := 2) (isSt_e e)]; omega
    · rw [stCnt_no (st := 0) (isSt_e e), stCnt_no (st := 1) (isSt_e e), stCnt_yes (st := 2) (isSt_e e)]; omega
end Go.Proofs.Ytlpknbkgkhnfcaa
