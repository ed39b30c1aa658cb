/-
  What the texts share: Tab, TabLaw, Refs, RefSl, SubR.
-/
import Derived.Test.YtjlihigodggfcaaGreatBas
import Derived.Test.YtjlihigodggfcaaGreatRows
import Derived.Test.YtjlihigodggfcaaGreatRgn
set_option linter.unusedVariables false
set_option linter.unusedSimpArgs false
/-
  Tables of slots as the document has them: plain lists of states and generations.
-/
namespace Go.Proofs.YtjlihigodggfcaaGreat
open Go Go.Mm

/-- Slots, each with its state and its generation; none for a nil table, no slots for one that New did not make. -/
abbrev Tb := Option (List (Int × Int))
abbrev slAt (L : List (Int × Int)) (i : Nat) : Int × Int := L.getD i (0, 0)
def isSt (st : Int) (L : List (Int × Int)) (i : Nat) : Bool := (L.getD i (0, 0)).1 == st
/-- The first one below n. -/
def firstOf (p : Nat → Bool) (n : Nat) : Option Nat := (List.range n).find? p

def tbOk : Tb → Bool
  | none => false
  | some L => decide (0 < L.length)
def tkI : Tb → Option Nat
  | none => none
  | some L => firstOf (isSt 0 L) L.length
def tkE (T : Tb) : Int := if tbOk T then (if (tkI T).isSome then 0 else 4) else 1
def tkS (T : Tb) : Int := ((tkI T).getD 0 : Nat)
def tkG : Tb → Int
  | none => 0
  | some L => match firstOf (isSt 0 L) L.length with
    | some i => (L.getD i (0, 0)).2
    | none => 0
def tkN (L : List (Int × Int)) : List (Int × Int) := match firstOf (isSt 0 L) L.length with
  | some i => L.set i (1, (L.getD i (0, 0)).2)
  | none => L
def tkT : Tb → Tb
  | none => none
  | some L => some (tkN L)
def inTb (L : List (Int × Int)) (s : Int) : Bool := decide (0 ≤ s) && decide (s < L.length)
def ckE : Tb → Int → Int → Int
  | none, _, _ => 1
  | some L, s, g => if 0 < L.length then (if inTb L s then (if L.getD s.toNat (0, 0) = (1, g) then 0 else 7) else 3) else 1
def gvN (L : List (Int × Int)) (s g : Int) : List (Int × Int) := if ckE (some L) s g = 0 then L.set s.toNat (if g < 4294967295 then (0, g + 1) else (2, g)) else L
def gvT : Tb → Int → Int → Tb
  | none, _, _ => none
  | some L, s, g => some (gvN L s g)
def gnG : Tb → Int → Int
  | none, _ => 0
  | some L, s => if inTb L s then (L.getD s.toNat (0, 0)).2 else 0
def gnE : Tb → Int → Int
  | none, _ => 1
  | some L, s => if 0 < L.length then (if inTb L s then 0 else 3) else 1
def stCnt (st : Int) (L : List (Int × Int)) (k : Nat) : Nat := (gl (isSt st L) k).length
def ctN (st : Int) : Tb → Int
  | none => 0
  | some L => stCnt st L L.length
def refOf (L : List (Int × Int)) (i : Nat) : Int × Int := (i, (L.getD i (0, 0)).2)
def stL (st : Int) (L : List (Int × Int)) (k : Nat) : List (Int × Int) := (gl (isSt st L) k).map (refOf L)
def tkL : Tb → List (Int × Int)
  | none => []
  | some L => stL 1 L L.length
def cpT (T : Tb) : Tb := if tbOk T then T else none
/-- What New gives. -/
def nwOk (z f : Int) : Bool := decide (1 ≤ z) && decide (z ≤ 256) && decide (1 ≤ f)
def nwT (z f : Int) : Tb := if nwOk z f then some (List.replicate z.toNat (0, f)) else none
def nwE (z f : Int) : Int := if nwOk z f then 0 else 2

/-- States and generations that can be. -/
structure TbW (L : List (Int × Int)) : Prop where
  hi : L.length ≤ 256
  st : ∀ x ∈ L, x.1 = 0 ∨ x.1 = 1 ∨ x.1 = 2
  gn : ∀ x ∈ L, 1 ≤ x.2 ∧ x.2 ≤ 4294967295

theorem in_yes {L : List (Int × Int)} {s : Int} (h : inTb L s = true) : ∃ i : Nat, s = i ∧ i < L.length ∧ s.toNat = i := by
  simp [inTb] at h
  exact ⟨s.toNat, by omega, by omega, rfl⟩
theorem in_no {L : List (Int × Int)} {s : Int} (h : inTb L s = false) : s < 0 ∨ (L.length : Int) ≤ s := by
  simp [inTb] at h
  omega
theorem first_none {p : Nat → Bool} {n : Nat} (h : gl p n = []) : firstOf p n = none := by
  unfold firstOf gl at *
  rw [List.find?_eq_none]
  rw [List.filter_eq_nil_iff] at h
  exact h
theorem first_some {p : Nat → Bool} {n k y : Nat} (hk : k < n) (hp : p k = true) (h : [y] = gl p k ++ [k]) : firstOf p n = some y := by
  have h0 : gl p k = [] := by
    cases hg : gl p k with
    | nil => rfl
    | cons a l => rw [hg] at h; simp at h
  rw [h0] at h
  simp at h; subst h
  unfold firstOf
  obtain ⟨m, rfl⟩ : ∃ m, n = y + 1 + m := ⟨n - (y + 1), by omega⟩
  unfold gl at h0
  rw [List.filter_eq_nil_iff] at h0
  rw [List.range_add, List.find?_append, List.range_succ, List.find?_append, List.find?_eq_none.2 (by simpa using h0)]
  simp [hp]
theorem first_at {p : Nat → Bool} {n i : Nat} (hi : i < n) (h0 : ∀ j, j < i → p j = false) (h1 : p i = true) : firstOf p n = some i := by
  refine first_some hi h1 ?_
  have : gl p i = [] := by
    unfold gl
    rw [List.filter_eq_nil_iff]
    intro j hj
    rw [h0 j (List.mem_range.1 hj)]
    simp
  rw [this]; rfl
theorem first_no {p : Nat → Bool} {n : Nat} (h0 : ∀ j, j < n → p j = false) : firstOf p n = none := by
  refine first_none ?_
  unfold gl
  rw [List.filter_eq_nil_iff]
  intro j hj
  rw [h0 j (List.mem_range.1 hj)]
  simp
theorem first_is {p : Nat → Bool} {n i : Nat} (h : firstOf p n = some i) : i < n ∧ p i = true ∧ ∀ j, j < i → p j = false := by
  unfold firstOf at h
  have h1 := List.mem_of_find?_eq_some h
  have h2 := List.find?_some h
  refine ⟨List.mem_range.1 h1, h2, fun j hj => ?_⟩
  by_cases hp : p j = true
  · exfalso
    obtain ⟨m, rfl⟩ : ∃ m, n = i + m := ⟨n - i, by have := List.mem_range.1 h1; omega⟩
    rw [List.range_add, List.find?_append] at h
    have h3 : ((List.range i).find? p).isSome = true := by
      rw [List.find?_isSome]; exact ⟨j, List.mem_range.2 hj, hp⟩
    obtain ⟨x, hx⟩ := Option.isSome_iff_exists.1 h3
    rw [hx] at h
    simp at h
    have := List.mem_range.1 (List.mem_of_find?_eq_some hx)
    omega
  · simpa using hp
theorem getD_set2 (L : List (Int × Int)) (i j : Nat) (c : Int × Int) (h : i < L.length) : (L.set i c).getD j (0, 0) = if j = i then c else L.getD j (0, 0) := by
  rw [List.getD_eq_getElem?_getD, List.getElem?_set, List.getD_eq_getElem?_getD]
  by_cases e : i = j
  · subst e; simp [h]
  · rw [if_neg e, if_neg (fun q => e q.symm)]
theorem getD_mem {L : List (Int × Int)} {i : Nat} (h : i < L.length) : L.getD i (0, 0) ∈ L := by
  rw [List.getD_eq_getElem?_getD, List.getElem?_eq_getElem h]; exact List.getElem_mem h
theorem TbW.set {L : List (Int × Int)} (h : TbW L) (i : Nat) {c : Int × Int} (h1 : c.1 = 0 ∨ c.1 = 1 ∨ c.1 = 2) (h2 : 1 ≤ c.2 ∧ c.2 ≤ 4294967295) : TbW (L.set i c) :=
  ⟨by rw [List.length_set]; exact h.hi, fun x hx => by rcases List.mem_or_eq_of_mem_set hx with h' | rfl; exact h.st x h'; exact h1,
    fun x hx => by rcases List.mem_or_eq_of_mem_set hx with h' | rfl; exact h.gn x h'; exact h2⟩
theorem TbW.rep {n : Nat} {f : Int} (h : n ≤ 256) (hf : 1 ≤ f ∧ f ≤ 4294967295) : TbW (List.replicate n (0, f)) :=
  ⟨by simpa using h, fun x hx => by rw [(List.mem_replicate.1 hx).2]; simp, fun x hx => by rw [(List.mem_replicate.1 hx).2]; exact hf⟩
theorem stCnt_yes {st : Int} {L : List (Int × Int)} {k : Nat} (h : isSt st L k = true) : stCnt st L (k + 1) = stCnt st L k + 1 := by
  unfold stCnt; rw [gl_yes h, List.length_append]; rfl
theorem stCnt_no {st : Int} {L : List (Int × Int)} {k : Nat} (h : isSt st L k = false) : stCnt st L (k + 1) = stCnt st L k := by
  unfold stCnt; rw [gl_no h]
theorem stCnt_le (st : Int) (L : List (Int × Int)) (k : Nat) : stCnt st L k ≤ k := gl_len _ _
theorem stL_yes {st : Int} {L : List (Int × Int)} {k : Nat} (h : isSt st L k = true) : stL st L (k + 1) = stL st L k ++ [refOf L k] := by
  unfold stL; rw [gl_yes h, List.map_append]; rfl
theorem stL_no {st : Int} {L : List (Int × Int)} {k : Nat} (h : isSt st L k = false) : stL st L (k + 1) = stL st L k := by
  unfold stL; rw [gl_no h]
theorem stL_len (st : Int) (L : List (Int × Int)) (k : Nat) : (stL st L k).length = stCnt st L k := by simp [stL, stCnt]
end Go.Proofs.YtjlihigodggfcaaGreat

/-
  Tables of slots: what turns do, in plain lists.
-/
namespace Go.Proofs.YtjlihigodggfcaaGreat
open Go Go.Mm
variable {L : List (Int × Int)}

theorem tkN_len : (tkN L).length = L.length := by
  unfold tkN
  cases firstOf (isSt 0 L) L.length <;> simp
theorem gvN_len {s g : Int} : (gvN L s g).length = L.length := by
  unfold gvN; split <;> simp
theorem ck_zero {s g : Int} (h : ckE (some L) s g = 0) : ∃ i : Nat, s = i ∧ i < L.length ∧ L.getD i (0, 0) = (1, g) := by
  simp only [ckE] at h
  by_cases h0 : 0 < L.length
  · rw [if_pos h0] at h
    by_cases h1 : inTb L s = true
    · obtain ⟨i, rfl, hi, _⟩ := in_yes h1
      rw [h1, if_pos rfl, Int.toNat_natCast] at h
      by_cases h2 : L.getD i (0, 0) = (1, g)
      · exact ⟨i, rfl, hi, h2⟩
      · rw [if_neg h2] at h; cases h
    · rw [if_neg h1] at h; cases h
  · rw [if_neg h0] at h; cases h
theorem ck_at {i : Nat} (hi : i < L.length) (g : Int) : ckE (some L) i g = if L.getD i (0, 0) = (1, g) then 0 else 7 := by
  have h1 : inTb L i = true := by simp [inTb]; omega
  have h0 : 0 < L.length := by omega
  simp only [ckE, if_pos h0, h1, if_true, Int.toNat_natCast]
theorem ck_out {s : Int} (h0 : 0 < L.length) (h : s < 0 ∨ (L.length : Int) ≤ s) (g : Int) : ckE (some L) s g = 3 := by
  have h1 : inTb L s = false := by
    rw [← Bool.not_eq_true]; simp only [inTb, Bool.and_eq_true, decide_eq_true_eq]; omega
  simp only [ckE, if_pos h0, h1]; rfl
theorem tkN_w (h : TbW L) : TbW (tkN L) := by
  unfold tkN
  cases e : firstOf (isSt 0 L) L.length with
  | none => exact h
  | some i =>
    have hi := (first_is e).1
    exact h.set i (by simp) (h.gn (L.getD i (0, 0)) (getD_mem hi))
theorem gvN_w (h : TbW L) {s g : Int} : TbW (gvN L s g) := by
  unfold gvN
  by_cases hc : ckE (some L) s g = 0
  · rw [if_pos hc]
    obtain ⟨i, rfl, hi, hx⟩ := ck_zero hc
    have hg := h.gn _ (getD_mem hi)
    rw [hx] at hg
    simp only at hg
    by_cases hm : g < 4294967295
    · rw [if_pos hm]; exact h.set _ (by simp) (by simp only; omega)
    · rw [if_neg hm]; exact h.set _ (by simp) hg
  · rw [if_neg hc]; exact h
theorem mem_tkL {r : Int × Int} : r ∈ tkL (some L) ↔ ∃ i : Nat, i < L.length ∧ r.1 = i ∧ L.getD i (0, 0) = (1, r.2) := by
  unfold tkL stL
  simp only [List.mem_map, mem_gl, isSt, beq_iff_eq, refOf]
  constructor
  · rintro ⟨i, ⟨hi, hs⟩, rfl⟩
    exact ⟨i, hi, rfl, by rw [← hs]⟩
  · rintro ⟨i, hi, h1, h2⟩
    refine ⟨i, ⟨hi, by rw [h2]⟩, ?_⟩
    rw [h2]
    exact Prod.ext h1.symm rfl
theorem tkL_ck {r : Int × Int} (h0 : 0 < L.length) : r ∈ tkL (some L) ↔ ckE (some L) r.1 r.2 = 0 := by
  rw [mem_tkL]
  constructor
  · rintro ⟨i, hi, h1, h2⟩
    rw [h1, ck_at hi, if_pos h2]
  · intro h
    obtain ⟨i, h1, hi, h2⟩ := ck_zero h
    exact ⟨i, hi, h1, h2⟩
theorem tkL_len : ((tkL (some L)).length : Int) = ctN 1 (some L) := by
  unfold tkL ctN; rw [stL_len]

theorem tkL_256 (h : TbW L) : (tkL (some L)).length ≤ 256 := by
  unfold tkL; rw [stL_len]; exact Nat.le_trans (stCnt_le _ _ _) h.hi

/-! One turn -/
def turnN (L : List (Int × Int)) (give : Bool) (wh : Nat) : List (Int × Int) :=
  if give then (if (tkL (some L)).length = 0 then L else gvN L ((tkL (some L)).getD (wh % (tkL (some L)).length) (0, 0)).1 ((tkL (some L)).getD (wh % (tkL (some L)).length) (0, 0)).2) else tkN L
def turnA (L : List (Int × Int)) (give : Bool) : List (Int × Int) := if give then [] else if tkE (some L) = 0 then [(tkS (some L), tkG (some L))] else []
def mdN (L0 : List (Int × Int)) (gv : Nat → Bool) (wh : Nat → Nat) : Nat → List (Int × Int)
  | 0 => L0
  | k + 1 => turnN (mdN L0 gv wh k) (gv k) (wh k)
def mdA (L0 : List (Int × Int)) (gv : Nat → Bool) (wh : Nat → Nat) : Nat → List (Int × Int)
  | 0 => []
  | k + 1 => mdA L0 gv wh k ++ turnA (mdN L0 gv wh k) (gv k)
theorem turnN_len {g : Bool} {wh : Nat} : (turnN L g wh).length = L.length := by
  unfold turnN
  split
  · split
    · rfl
    · exact gvN_len
  · exact tkN_len
theorem turnN_w (h : TbW L) {g : Bool} {wh : Nat} : TbW (turnN L g wh) := by
  unfold turnN
  split
  · split
    · exact h
    · exact gvN_w h
  · exact tkN_w h
theorem mdN_len {gv : Nat → Bool} {wh : Nat → Nat} : ∀ k, (mdN L gv wh k).length = L.length
  | 0 => rfl
  | k + 1 => turnN_len.trans (mdN_len k)
theorem mdN_w (h : TbW L) {gv : Nat → Bool} {wh : Nat → Nat} : ∀ k, TbW (mdN L gv wh k)
  | 0 => h
  | k + 1 => turnN_w (mdN_w h k)
theorem mdN_take {gv : Nat → Bool} {wh : Nat → Nat} {k : Nat} (h : gv k = false) : mdN L gv wh (k + 1) = tkN (mdN L gv wh k) ∧ mdA L gv wh (k + 1) = mdA L gv wh k ++ (if tkE (some (mdN L gv wh k)) = 0 then [(tkS (some (mdN L gv wh k)), tkG (some (mdN L gv wh k)))] else []) := by
  simp only [mdN, mdA, turnN, turnA, h, Bool.false_eq_true, if_false, and_self]
theorem mdN_none {gv : Nat → Bool} {wh : Nat → Nat} {k : Nat} (h : gv k = true) (h0 : (tkL (some (mdN L gv wh k))).length = 0) : mdN L gv wh (k + 1) = mdN L gv wh k ∧ mdA L gv wh (k + 1) = mdA L gv wh k := by
  simp only [mdN, mdA, turnN, turnA, h, if_true, h0, List.append_nil, and_self]
theorem mdN_give {gv : Nat → Bool} {wh : Nat → Nat} {k : Nat} (h : gv k = true) {m : Nat} (hm : (tkL (some (mdN L gv wh k))).length = m) (h0 : 0 < m) {x : Int × Int} (hx : (tkL (some (mdN L gv wh k))).getD (wh k % m) (0, 0) = x) :
    mdN L gv wh (k + 1) = gvN (mdN L gv wh k) x.1 x.2 ∧ mdA L gv wh (k + 1) = mdA L gv wh k := by
  subst hm hx
  simp only [mdN, mdA, turnN, turnA, h, if_true, if_neg (Nat.ne_of_gt h0), List.append_nil, and_self]
theorem tk_some {i : Nat} (h : tkI (some L) = some i) : tkE (some L) = 0 ∧ tkS (some L) = i ∧ tkG (some L) = (L.getD i (0, 0)).2 ∧ tkN L = L.set i (1, (L.getD i (0, 0)).2) ∧ i < L.length ∧ (L.getD i (0, 0)).1 = 0 ∧ ∀ j, j < i → (L.getD j (0, 0)).1 ≠ 0 := by
  have hf : firstOf (isSt 0 L) L.length = some i := h
  obtain ⟨h1, h2, h3⟩ := first_is hf
  refine ⟨?_, ?_, ?_, ?_, h1, by simpa [isSt] using h2, fun j hj => by have := h3 j hj; simpa [isSt] using this⟩
  · unfold tkE; rw [h]; simp [tbOk, show 0 < L.length by omega]
  · unfold tkS; rw [h]; rfl
  · simp only [tkG, hf]
  · unfold tkN; rw [hf]
theorem tk_none (h0 : 0 < L.length) (h : tkI (some L) = none) : tkE (some L) = 4 ∧ tkS (some L) = 0 ∧ tkG (some L) = 0 ∧ tkN L = L := by
  have hf : firstOf (isSt 0 L) L.length = none := h
  refine ⟨?_, ?_, ?_, ?_⟩
  · unfold tkE; rw [h]; simp [tbOk, h0]
  · unfold tkS; rw [h]; rfl
  · simp only [tkG, hf]
  · unfold tkN; rw [hf]

structure MdInv (L A : List (Int × Int)) : Prop where
  old : ∀ r ∈ A, ∃ i : Nat, i < L.length ∧ r.1 = i ∧ (r.2 < (L.getD i (0, 0)).2 ∨ (r.2 = (L.getD i (0, 0)).2 ∧ (L.getD i (0, 0)).1 ≠ 0))
  nd : A.Nodup
theorem MdInv.tk {A : List (Int × Int)} (h : MdInv L A) (h0 : 0 < L.length) : MdInv (tkN L) (A ++ turnA L false) := by
  unfold turnA
  cases hi : tkI (some L) with
  | none =>
    obtain ⟨e1, _, _, e2⟩ := tk_none h0 hi
    rw [e1, e2]
    simpa using h
  | some i =>
    obtain ⟨e1, e2, e3, e4, hl, hz, _⟩ := tk_some hi
    rw [e1, e2, e3, e4]
    simp only [Bool.false_eq_true, if_false, if_true]
    refine ⟨fun r hr => ?_, ?_⟩
    · rw [List.length_set]
      rcases List.mem_append.1 hr with hr | hr
      · obtain ⟨j, hj, h1, h2⟩ := h.old r hr
        refine ⟨j, hj, h1, ?_⟩
        rw [getD_set2 _ _ _ _ hl]
        by_cases e : j = i
        · subst e
          rw [if_pos rfl]
          rcases h2 with h2 | ⟨_, h2⟩
          · exact .inl h2
          · exact absurd hz h2
        · rw [if_neg e]; exact h2
      · obtain rfl := List.mem_singleton.1 hr
        refine ⟨i, hl, rfl, .inr ?_⟩
        rw [getD_set2 _ _ _ _ hl, if_pos rfl]
        exact ⟨rfl, by simp⟩
    · rw [List.nodup_append]
      refine ⟨h.nd, by simp, fun a ha b hb => ?_⟩
      obtain rfl := List.mem_singleton.1 hb
      rintro rfl
      obtain ⟨j, hj, h1, h2⟩ := h.old _ ha
      simp only [Int.natCast_inj] at h1
      subst h1
      rcases h2 with h2 | ⟨_, h2⟩
      · simp only at h2; omega
      · exact h2 hz
theorem MdInv.gv {A : List (Int × Int)} (h : MdInv L A) (hW : TbW L) {s g : Int} : MdInv (gvN L s g) A := by
  unfold gvN
  by_cases hc : ckE (some L) s g = 0
  · rw [if_pos hc]
    obtain ⟨i, rfl, hi, hx⟩ := ck_zero hc
    refine ⟨fun r hr => ?_, h.nd⟩
    rw [List.length_set, Int.toNat_natCast]
    obtain ⟨j, hj, h1, h2⟩ := h.old r hr
    refine ⟨j, hj, h1, ?_⟩
    rw [getD_set2 _ _ _ _ hi]
    by_cases e : j = i
    · subst e
      rw [if_pos rfl]
      rw [hx] at h2
      simp only at h2
      by_cases hm : g < 4294967295
      · rw [if_pos hm]; left; simp only; omega
      · rw [if_neg hm]; simp only; omega
    · rw [if_neg e]; exact h2
  · rw [if_neg hc]; exact h
theorem mdInv (hW : TbW L) (h0 : 0 < L.length) {gv : Nat → Bool} {wh : Nat → Nat} : ∀ k, MdInv (mdN L gv wh k) (mdA L gv wh k)
  | 0 => ⟨by simp [mdA], by simp [mdA]⟩
  | k + 1 => by
    have ih := mdInv hW h0 (gv := gv) (wh := wh) k
    have hw := mdN_w hW (gv := gv) (wh := wh) k
    have hl := mdN_len (L := L) (gv := gv) (wh := wh) k
    unfold mdN mdA
    cases hg : gv k with
    | false =>
      have := ih.tk (by omega)
      simpa [turnN] using this
    | true =>
      simp only [turnN, turnA, if_true, List.append_nil]
      split
      · exact ih
      · exact ih.gv hw
theorem mdA_len {gv : Nat → Bool} {wh : Nat → Nat} : ∀ k, (mdA L gv wh k).length ≤ k
  | 0 => Nat.le_refl _
  | k + 1 => by
    have ih := mdA_len (gv := gv) (wh := wh) k
    unfold mdA turnA
    rw [List.length_append]
    split
    · simp; omega
    · split <;> simp <;> omega

/-! Counting -/
theorem isSt_set {i : Nat} (hi : i < L.length) (c : Int × Int) (st : Int) (j : Nat) : isSt st (L.set i c) j = if j = i then c.1 == st else isSt st L j := by
  unfold isSt
  rw [getD_set2 _ _ _ _ hi]
  split <;> rfl
theorem cnt_set {i : Nat} (hi : i < L.length) (c : Int × Int) (st : Int) : ∀ k, stCnt st (L.set i c) k + (if i < k ∧ (L.getD i (0, 0)).1 = st then 1 else 0) = stCnt st L k + (if i < k ∧ c.1 = st then 1 else 0)
  | 0 => by simp [stCnt, gl]
  | k + 1 => by
    have ih := cnt_set hi c st k
    by_cases e : k = i
    · subst e
      rw [if_neg (by omega), if_neg (by omega)] at ih
      have h1 : isSt st (L.set k c) k = (c.1 == st) := by rw [isSt_set hi, if_pos rfl]
      by_cases hc : c.1 = st <;> by_cases hx : (L.getD k (0, 0)).1 = st
      · rw [stCnt_yes (by rw [h1]; simpa using hc), stCnt_yes (by simpa [isSt] using hx), if_pos ⟨by omega, hx⟩, if_pos ⟨by omega, hc⟩]; omega
      · rw [stCnt_yes (by rw [h1]; simpa using hc), stCnt_no (by simpa [isSt] using hx), if_neg (fun h => hx h.2), if_pos ⟨by omega, hc⟩]; omega
      · rw [stCnt_no (by rw [h1]; simpa using hc), stCnt_yes (by simpa [isSt] using hx), if_pos ⟨by omega, hx⟩, if_neg (fun h => hc h.2)]; omega
      · rw [stCnt_no (by rw [h1]; simpa using hc), stCnt_no (by simpa [isSt] using hx), if_neg (fun h => hx h.2), if_neg (fun h => hc h.2)]; omega
    · have h1 : isSt st (L.set i c) k = isSt st L k := by rw [isSt_set hi, if_neg e]
      have hlt : i < k + 1 ↔ i < k := by omega
      simp only [hlt]
      cases hb : isSt st L k
      · rw [stCnt_no (h1.trans hb), stCnt_no hb]; exact ih
      · rw [stCnt_yes (h1.trans hb), stCnt_yes hb]; omega
theorem isSt_e {st c : Int} {k : Nat} (e : (L.getD k (0, 0)).1 = c) : isSt st L k = (c == st) := by unfold isSt; rw [e]
theorem cnt_sum (h : ∀ x ∈ L, x.1 = 0 ∨ x.1 = 1 ∨ x.1 = 2) : ∀ k, k ≤ L.length → stCnt 0 L k + stCnt 1 L k + stCnt 2 L k = k
  | 0, _ => by simp [stCnt, gl]
  | k + 1, hk => by
    have ih := cnt_sum h k (by omega)
    have hx := h _ (getD_mem (show k < L.length by omega))
    rcases hx with e | e | e
    · rw [stCnt_yes (st := 0) (isSt_e e), stCnt_no (st := 1) (isSt_e e), stCnt_no (st := 2) (isSt_e e)]; omega
    · rw [stCnt_no (st := 0) (isSt_e e), stCnt_yes (st := 1) (isSt_e e), stCnt_no (st := 2) (isSt_e e)]; omega
    · rw [stCnt_no (st := 0) (isSt_e e), stCnt_no (st := 1) (isSt_e e), stCnt_yes (st := 2) (isSt_e e)]; omega
end Go.Proofs.YtjlihigodggfcaaGreat

/-
  References: their types; slices of references of the call's own; two references held against each other.
-/
namespace Go.Proofs.YtjlihigodggfcaaGreat
open Go.RowKit Go.Mm
variable {R : Ending → World → Prop} {w : World} {w0 : World} {bs : List Nat} {H H' H1 E : List Ent}

instance s_int : ScalarT Tryz.prog 3 := ⟨by kernel_rfl, by kernel_rfl⟩
instance s_bool : ScalarT Tryz.prog 4 := ⟨by kernel_rfl, by kernel_rfl⟩
instance s_u32 : ScalarT Tryz.prog 23 := ⟨by kernel_rfl, by kernel_rfl⟩
instance z_bool : ZeroT Tryz.prog 4 #[.bool false] := ⟨by kernel_rfl⟩
instance z_int : ZeroT Tryz.prog 3 #[.int .i64 0] := ⟨by kernel_rfl⟩
instance z_u32 : ZeroT Tryz.prog 23 #[.int .u32 0] := ⟨by kernel_rfl⟩
instance a_ref : AggT Tryz.prog 25 2 := ⟨by kernel_rfl, by kernel_rfl⟩
instance z_ref : ZeroT Tryz.prog 25 #[.int .i64 0, .int .u32 0] := ⟨by kernel_rfl⟩
instance e_ref : ElemT Tryz.prog 25 2 16 #[.int .i64 0, .int .u32 0] := ⟨by kernel_rfl⟩
instance sl_ref : SliceT Tryz.prog 81 25 := ⟨by kernel_rfl⟩
def slf (x : Int × Int) : List Value := [.int .i64 x.1, .int .u32 x.2]
theorem slf_len (x : Int × Int) : (slf x).length = 2 := rfl
theorem slf_one (x : Int × Int) : ∀ v ∈ slf x, v.oneCell' = true := by
  intro v hv
  simp only [slf, List.mem_cons, List.not_mem_nil, or_false] at hv
  rcases hv with rfl | rfl <;> rfl
instance s_sref : ScalarT Tryz.prog 81 := ⟨by kernel_rfl, by kernel_rfl⟩
instance z_sref : ZeroT Tryz.prog 81 #[.slice none 0 0] := ⟨by kernel_rfl⟩
instance s_err : ScalarT Tryz.prog 28 := ⟨by kernel_rfl, by kernel_rfl⟩
instance z_err : ZeroT Tryz.prog 28 #[.int .i64 0] := ⟨by kernel_rfl⟩
instance b_ref {s g : Int} : BuildT Tryz.prog 25 [(0, .int .i64 s), (1, .int .u32 g)] #[.int .i64 s, .int .u32 g] := ⟨fun w => by kernel_rfl⟩
instance b_ref1 {g : Int} : BuildT Tryz.prog 25 [(1, .int .u32 g)] #[.int .i64 0, .int .u32 g] := ⟨fun w => by kernel_rfl⟩
instance b_ref2 {s : Int} : BuildT Tryz.prog 25 [(0, .int .i64 s)] #[.int .i64 s, .int .u32 0] := ⟨fun w => by kernel_rfl⟩
instance b_ref0 : BuildT Tryz.prog 25 [] #[.int .i64 0, .int .u32 0] := ⟨fun w => by kernel_rfl⟩

theorem enters (f : Nat) (h : (match Tryz.prog.funcs[f]? with | some fn => !(fn.name == "runtime.NumGoroutine") && fn.body.isSome | none => false) = true) : ∀ args w, (callFunc f args).run Tryz.prog w = .ok (.enter f args) w := by
  intro args w
  cases hf : Tryz.prog.funcs[f]? with
  | none => simp [hf] at h
  | some fn =>
    simp only [hf, Bool.and_eq_true, Bool.not_eq_true'] at h
    cases hb : fn.body with
    | none => simp [hb] at h
    | some c => have := h.1; simp at this; simp [callFunc, hf, this, hb]

/-! Generations -/
theorem gcheck {g : Int} (h1 : 1 ≤ g) (h2 : g ≤ 4294967295) (hR : Ret R (.int .i64 0) w) : Calls Tryz.prog 108 #[.int .u32 g] w R := by
  go_enter Tryz.func108, Tryz.ntmps108
  go_wp2
  exact hR
theorem gcheck_bad (hR : Ret R (.int .i64 2) w) : Calls Tryz.prog 108 #[.int .u32 0] w R := by
  go_enter Tryz.func108, Tryz.ntmps108
  go_wp2
  exact hR

/-! Slices of references -/
theorem refCells {l : List (Int × Int)} {sp : List Value} : (l.flatMap slf ++ sp).toArray = blk [] slf l sp := rfl
/-- A slice of references, of the call's own. -/
def RS (v : Value) (l : List (Int × Int)) (E : List Ent) : Prop := Sl 25 2 v l.length (l.flatMap slf) E
theorem RS.nil : RS (.slice none 0 0) [] [] := sl_nil
theorem RS.lit {g : Nat} {cs : Array Value} (l : List (Int × Int)) (h : (l.flatMap slf).toArray = cs) (hn : l.length ≤ 1000) : RS (.slice (some ⟨g, 0, none⟩) l.length l.length) l [⟨g, cs, 25, true⟩] := by
  subst h
  exact ⟨flat_len slf_len l, .inr ⟨g, l.length, [], rfl, by simp, Nat.le_refl _, by simp only [maxLen]; omega, by rw [flat_len slf_len]; simp⟩⟩
theorem RS.snoc {v : Value} {l : List (Int × Int)} {x : Int × Int} (h : Sl 25 2 v (l.length + 1) (l.flatMap slf ++ #[.int .i64 x.1, .int .u32 x.2].toList) E) : RS v (l ++ [x]) E := by
  unfold RS
  rw [List.length_append, List.flatMap_append]
  simpa [slf] using h
/-- Two references are one. -/
def refB (s g s' g' : Int) : Bool := decide (s = s') && decide (g = g')
theorem refB_iff {x y : Int × Int} : refB x.1 x.2 y.1 y.2 = true ↔ x = y := by
  simp [refB, Prod.ext_iff]
theorem refB_self (s g : Int) : refB s g s g = true := by simp [refB]
theorem refB_no {x y : Int × Int} (h : x ≠ y) : refB x.1 x.2 y.1 y.2 = false := by
  rw [← Bool.not_eq_true, refB_iff]; exact h
instance c_int {a b : Int} : CellEq Tryz.prog 3 (.int .i64 a) (.int .i64 b) (decide (a = b)) := cellEq_int Tryz.underlying3 s_int
instance c_u32 {a b : Int} : CellEq Tryz.prog 23 (.int .u32 a) (.int .u32 b) (decide (a = b)) := cellEq_int Tryz.underlying23 s_u32
instance ref_eq {s g s' g' : Int} : AggEq Tryz.prog 25 #[.int .i64 s, .int .u32 g] #[.int .i64 s', .int .u32 g'] (refB s g s' g') := by
  have h := aggEq_of (P := Tryz.prog) (t := 25) [(3, 0), (23, 1)] (by kernel_rfl) (by kernel_rfl) (by kernel_rfl) (by kernel_rfl) (xs := #[.int .i64 s, .int .u32 g]) (ys := #[.int .i64 s', .int .u32 g'])
  simpa [refB] using h

theorem refE {s g s' g' : Int} {b : Bool} (h : refB s g s' g' = b) : AggEq Tryz.prog 25 #[.int .i64 s, .int .u32 g] #[.int .i64 s', .int .u32 g'] b := by subst h; exact ref_eq
theorem RS.len {v : Value} {l : List (Int × Int)} (h : RS v l E) {n : Nat} (hn : l.length = n) : LenV Tryz.prog 81 v n := by
  subst hn
  refine ⟨?_, 25, Tryz.underlying81⟩
  rcases h.or with ⟨rfl, h0, _⟩ | ⟨g, cap, sp, rfl, _⟩
  · exact ⟨none, 0, by rw [h0]⟩
  · exact ⟨_, cap, rfl⟩
theorem RS.at {v : Value} {l : List (Int × Int)} (h : RS v l E) {i : Nat} (hi : i < l.length) {x : Int × Int} (hx : l.getD i (0, 0) = x) :
    ∃ g sp, (∀ j : Int, j = i → IdxV Tryz.prog 81 v j ⟨g, i * 2, none⟩) ∧ Has E g (blk [] slf l sp) 25 ∧ CellsAt (blk [] slf l sp) (i * 2) 2 #[.int .i64 x.1, .int .u32 x.2] := by
  subst hx
  obtain ⟨g, cap, sp, rfl, rfl, h1, h2, h3⟩ := Sl.some h (by omega)
  refine ⟨g, sp, fun j hj => ⟨fun w => ?_⟩, hasHead, ?_⟩
  · subst hj
    have h2 : 0 ≤ (i : Int) := by omega
    simp [Instr.indexAt, asIntOf, run_underlying Tryz.underlying81, hi, run_sizeOf' (P := Tryz.prog) (t := 25) (n := 2) (by kernel_rfl), Addr.add_lit]
  · refine blkCells (pre := []) slf_len (i := i) (a := l.getD i (0, 0)) ?_ (by simp)
    rw [List.getD_eq_getElem?_getD, List.getElem?_eq_getElem hi]; rfl
theorem RS.one {v : Value} {l : List (Int × Int)} (h : RS v l E) : OneCell v := Sl.one h

/-- A piece that is only read. -/
def ro (E : List Ent) : List Ent := E.map (fun e => { e with wr := false })
theorem ro_start {W : World} {E : List Ent} (hE : ∀ e ∈ E, W.heap[e.b]? = some (.cells e.cs e.T (0, 0))) (hnd : E.Pairwise (fun x y => x.b ≠ y.b)) : St W [] W (ro E) := by
  refine St.start (fun e he => ?_) ?_ (fun e he hw => ?_)
  · obtain ⟨x, hx, rfl⟩ := List.mem_map.1 he
    exact hE x hx
  · unfold ro
    rw [List.pairwise_map]
    exact hnd
  · obtain ⟨x, hx, rfl⟩ := List.mem_map.1 he
    cases hw

theorem kept_chg {bs : List Nat} {w w' : World} (h : Chg w w' []) (hb : ∀ x ∈ bs, x < w.heap.size) : Kept bs w w' := fun x hx => h.same x (hb x hx) (by simp)
theorem kept_lt {x : Nat} {w w' : World} (h : w'.heap[x]? = w.heap[x]?) (hb : x < w.heap.size) : x < w'.heap.size := by
  rw [Array.getElem?_eq_getElem hb] at h
  exact (Array.getElem?_eq_some_iff.1 h).1

end Go.Proofs.YtjlihigodggfcaaGreat

/-
  The library's slices at references: Equal, Index, Contains, Clone.
-/
namespace Go.Proofs.YtjlihigodggfcaaGreat
open Go.RowKit Go.Mm
variable {R : Ending → World → Prop} {w : World} {w0 : World} {bs : List Nat} {H H' H1 H2 E E1 E2 : List Ent} {l l1 l2 : List (Int × Int)} {v v1 v2 : Value}

/-- The place of a reference, or -1. -/
def idxR (l : List (Int × Int)) (x : Int × Int) : Int := match firstOf (fun i => refB x.1 x.2 (l.getD i (0, 0)).1 (l.getD i (0, 0)).2) l.length with
  | some i => i
  | none => -1
theorem idxR_mem {x : Int × Int} : decide (0 ≤ idxR l x) = decide (x ∈ l) := by
  unfold idxR
  cases h : firstOf (fun i => refB x.1 x.2 (l.getD i (0, 0)).1 (l.getD i (0, 0)).2) l.length with
  | some i =>
    obtain ⟨h1, h2, _⟩ := first_is h
    have e := refB_iff.1 h2
    rw [decide_eq_true (show (0 : Int) ≤ ((i : Nat) : Int) by omega)]
    symm
    rw [decide_eq_true_eq, e]
    exact getD_mem h1
  | none =>
    have : x ∉ l := by
      intro hm
      obtain ⟨i, hi, rfl⟩ := List.getElem_of_mem hm
      unfold firstOf at h
      rw [List.find?_eq_none] at h
      have := h i (List.mem_range.2 hi)
      simp [hi, refB_self] at this
    simp [this]

theorem ref_clone {b off m c : Nat} {cs : Array Value} {T : TypeId} (hO : St w0 bs w H) [hH : Has H b cs T] (hlm : l.length = m) (hc : CellsAt cs off (m * 2) (l.flatMap slf).toArray) (hm : m ≤ 1000)
    (hR : ∀ v' E' w', RS v' l E' → St w0 bs w' (E' ++ H) → Ret R v' w') : Calls Tryz.prog 115 #[.slice (some ⟨b, off, none⟩) m c] w R := by
  have hS := hO
  clear hO
  have hones : OneCells (l.flatMap slf).toArray := ⟨by
    intro u hu
    simp only [List.mem_flatMap] at hu
    obtain ⟨x, _, hx⟩ := hu
    exact slf_one x u hx⟩
  obtain ⟨k, hk⟩ : ∃ k, m * 2 = k := ⟨_, rfl⟩
  rw [hk] at hc
  go_enter Tryz.func115, Tryz.ntmps115
  go_wp2_with (first | go_skip | (refine wpList_is (.binOp .eql _ _ (.const (.slice none _ _)) _) rfl ?_; refine wpList_stp (by kernel_rfl) (stp_val (run_nse _ _ _ rfl) ?_)) | (refine wpList_is (.binOp .neq _ _ (.const (.slice none _ _)) _) rfl ?_; refine wpList_stp (by kernel_rfl) (stp_val (run_nsn _ _ _ rfl) ?_)) | (refine wpList_is (.buildSlice _ 0 _) rfl ?_; go_must (refine wpList_stp rfl (stp_bs0 _ rfl hS ?_)); clear hS; intro bz w hbz hS) | (refine wpList_is (.call { callee := .builtin .append, args := #[_, _], argTypes := #[_, _] }) rfl ?_; go_must (refine wpList_stp rfl (stp_ap _ _ _ _ rfl rfl hS (by rfl) sl_zero hk (by simp only [maxLen]; omega) (by omega) ?_)); clear hS; intro v' E' w hsl' hne hS; have hone := hsl'.one) | go_skip | (refine wpList_is (.call { callee := .builtin .len, args := #[_], argTypes := #[_] }) rfl ?_; refine wpList_stp (by kernel_rfl) (stp_val (run_lenv _ _ rfl) ?_)) | (refine wpList_is (.slice _ _ none (some _) none) rfl ?_; refine wpList_stp (by kernel_rfl) (stp_val (run_prev _ _ _ rfl) ?_)) | (refine wpList_is (.indexAddr _ _ _) rfl ?_; refine wpList_stp (by kernel_rfl) (stp_val (run_idxv _ _ _ rfl) ?_)) | go_skip | (refine wpList_is (.build _ _) rfl ?_; go_must (refine wpList_stp (by kernel_rfl) (stp_val (run_bd _ _ rfl) ?_))) | (refine wpList_is (.call { callee := .builtin .clear, args := #[_], argTypes := #[_] }) rfl ?_; go_must (refine wpList_stp (by kernel_rfl) (stp_cl _ _ rfl hS (by decide) ?_)); clear hS; intro w hS) | (refine wpList_is (.load _ _) rfl ?_; go_must (first | refine wpList_stp (by kernel_rfl) (stp_val (run_ld _ _ rfl hS) ?_) | refine wpList_stp (by kernel_rfl) (stp_val (run_lda _ _ rfl hS) ?_) | refine wpList_stp (by kernel_rfl) (stp_val (run_ld0 _ _ rfl hS) ?_) | refine wpList_stp (by kernel_rfl) (stp_val (run_lda0 _ _ rfl hS) ?_))) | (refine wpList_is (.store _ _ _) rfl ?_; go_must (first | refine wpList_stp (by kernel_rfl) (stp_st _ _ _ rfl hS ?_) | refine wpList_stp (by kernel_rfl) (stp_sta _ _ _ rfl hS ?_)); clear hS; intro w hS) | (refine wpList_is (.alloc _) rfl ?_; go_must (refine wpList_stp (by kernel_rfl) (stp_al _ rfl hS ?_)); clear hS; intro bN w hbN hS) | (refine wpList_is (.box _ _) rfl ?_; go_must (refine wpList_stp (by kernel_rfl) (stp_bx _ _ rfl hS ?_)); clear hS; intro bN w hbN hS) | (refine wpList_is (.binOp .eql _ _ (.const (.slice none _ _)) _) rfl ?_; refine wpList_stp (by kernel_rfl) (stp_val (run_nse _ _ _ rfl) ?_)) | (refine wpList_is (.binOp .neq _ _ (.const (.slice none _ _)) _) rfl ?_; refine wpList_stp (by kernel_rfl) (stp_val (run_nsn _ _ _ rfl) ?_)) | (refine region_quiet hS (by kernel_rfl) (by kernel_rfl) (fun hne => ?_); (repeat (first | go_big_quiet_skip | (go_big_quiet_want; first | (refine quiet_is (.load _ _) rfl ?_; go_must (first | refine quiet_at sw_st (fun w hS => run_ld _ _ rfl hS) ?_ | refine quiet_at sw_st (fun w hS => run_lda _ _ rfl hS) ?_ | refine quiet_at sw_st (fun w hS => run_ld0 _ _ rfl hS) ?_ | refine quiet_at sw_st (fun w hS => run_lda0 _ _ rfl hS) ?_); go_big_quiet_on) | (refine quiet_is (.binOp .eql _ _ (.const (.slice none _ _)) _) rfl ?_; refine quiet_val (fun w _ => run_nse _ _ _ rfl) ?_; go_big_quiet_on) | (refine quiet_is (.binOp .neq _ _ (.const (.slice none _ _)) _) rfl ?_; refine quiet_val (fun w _ => run_nsn _ _ _ rfl) ?_; go_big_quiet_on) | (refine quiet_is (.call { callee := .builtin .len, args := #[_], argTypes := #[_] }) rfl ?_; refine quiet_val (fun w _ => run_lenv _ _ rfl) ?_; go_big_quiet_on) | (refine quiet_is (.indexAddr _ _ _) rfl ?_; refine quiet_val (fun w _ => run_idxv _ _ _ rfl) ?_; go_big_quiet_on) | (refine quiet_is (.binOp .eql _ _ _ _) rfl ?_; refine quiet_val (fun w _ => run_aeq _ _ _ _ rfl) ?_; go_big_quiet_on) | (refine quiet_is (.binOp .neq _ _ _ _) rfl ?_; refine quiet_val (fun w _ => run_ane _ _ _ _ rfl) ?_; go_big_quiet_on) | (go_big_quiet_op; go_big_quiet_on)))); refine wpQuiet_nil ?_; clear hS hne; intro w hS))
  refine hR _ E' _ ?_ hS.pick
  unfold RS
  rw [hlm]
  simpa using hsl'
end Go.Proofs.YtjlihigodggfcaaGreat

/-
  Pieces of slices of references.
-/
namespace Go.Mm
open Go Go.RowKit
section
variable {P : Program} {o : Oper} {a : Act} {w : World}
/-- v[m:] is v'. -/
class SufW (P : Program) (t : TypeId) (v : Value) (m : Int) (v' : outParam Value) : Prop where
  h : ∀ w, (Instr.sliceAt t v (some (.int .i64 m)) none none).run P w = .ok v' w
theorem run_sufw {v : Value} (t : TypeId) (x y : Operand) (ho : o.op = .slice t x (some y) none none) {m : Int} {v' : Value} [hx : Ev a x v] [hy : Ev a y (.int .i64 m)] [hp : SufW P t v m v'] : OpVal P o a w v' := by
  unfold OpVal
  simp only [execOp, ho, hx.h, Option.map_none, Option.map_some, hy.h, Sem.run_bind, hp.h, Result.andThen_ok, Sem.run_pure]
theorem suf_of2 {t e : TypeId} {z g n cap m : Nat} (ht : P.underlying t = some (.slice e)) (hs : (P.info? e).map (·.size) = some z) (hm : m ≤ n) (hc : n ≤ cap) :
    SufW P t (.slice (some ⟨g, 0, none⟩) n cap) m (.slice (some ⟨g, if m = cap then 0 else m * z, none⟩) (n - m) (cap - m)) := ⟨fun w => by
  have h2 : 0 ≤ (m : Int) := by omega
  by_cases h3 : cap = m
  · obtain rfl : n = cap := by omega
    obtain rfl : m = n := by omega
    rw [if_pos rfl]
    simp [Instr.sliceAt, run_underlying ht, Instr.slice, Instr.sliceBounds, Instr.sliceBound, asIntOf, run_sizeOf' hs, Addr.add]
  · rw [if_neg (fun e => h3 e.symm)]
    simp [Instr.sliceAt, run_underlying ht, Instr.slice, Instr.sliceBounds, Instr.sliceBound, asIntOf, hm, run_sizeOf' hs, h3, Addr.add_lit]⟩
end
end Go.Mm
namespace Go.Proofs.YtjlihigodggfcaaGreat
open Go Go.Mm Go.RowKit

theorem flat_take (l : List (Int × Int)) : ∀ q, q ≤ l.length → (l.flatMap slf).take (q * 2) = (l.take q).flatMap slf := by
  intro q hq
  have h1 : l.flatMap slf = (l.take q).flatMap slf ++ (l.drop q).flatMap slf := by
    conv => lhs; rw [← List.take_append_drop q l]
    rw [List.flatMap_append]
  have h2 : ((l.take q).flatMap slf).length = q * 2 := by rw [flat_len slf_len, List.length_take, Nat.min_eq_left hq]
  rw [h1, ← h2, List.take_left']
  rfl
theorem flat_drop (l : List (Int × Int)) : ∀ q, q ≤ l.length → (l.flatMap slf).drop (q * 2) = (l.drop q).flatMap slf := by
  intro q hq
  have h1 : l.flatMap slf = (l.take q).flatMap slf ++ (l.drop q).flatMap slf := by
    conv => lhs; rw [← List.take_append_drop q l]
    rw [List.flatMap_append]
  have h2 : ((l.take q).flatMap slf).length = q * 2 := by rw [flat_len slf_len, List.length_take, Nat.min_eq_left hq]
  rw [h1, ← h2, List.drop_left']
  rfl
theorem preCells {l : List (Int × Int)} {sp : List Value} {q : Nat} (hq : q ≤ l.length) : CellsAt ((l.flatMap slf ++ sp).toArray) 0 (q * 2) ((l.take q).flatMap slf).toArray := ⟨fun j hj => by
  have hl : (l.flatMap slf).length = l.length * 2 := flat_len slf_len l
  rw [← flat_take l q hq]
  simp only [Nat.zero_add, List.getElem?_toArray]
  rw [List.getElem?_append_left (by omega), List.getElem?_take, if_pos hj], by
  rw [List.size_toArray, flat_len slf_len, List.length_take, Nat.min_eq_left hq]⟩
theorem sufCells {l : List (Int × Int)} {sp : List Value} {q : Nat} (hq : q ≤ l.length) : CellsAt ((l.flatMap slf ++ sp).toArray) (q * 2) ((l.length - q) * 2) ((l.drop q).flatMap slf).toArray := ⟨fun j hj => by
  have hl : (l.flatMap slf).length = l.length * 2 := flat_len slf_len l
  rw [← flat_drop l q hq]
  simp only [List.getElem?_toArray]
  rw [List.getElem?_append_left (by omega), List.getElem?_drop], by
  rw [List.size_toArray, flat_len slf_len, List.length_drop]⟩
theorem sufCells' {l : List (Int × Int)} {sp : List Value} {q cap : Nat} (hq : q ≤ l.length) (hc : l.length ≤ cap) : CellsAt ((l.flatMap slf ++ sp).toArray) (if q = cap then 0 else q * 2) ((l.length - q) * 2) ((l.drop q).flatMap slf).toArray := by
  by_cases h : q = cap
  · rw [if_pos h, show l.length - q = 0 by omega]
    refine ⟨fun j hj => absurd hj (by omega), ?_⟩
    rw [List.drop_eq_nil_of_le (by omega)]; rfl
  · rw [if_neg h]
    exact sufCells hq
theorem flatOnes (l : List (Int × Int)) : OneCells (l.flatMap slf).toArray := ⟨fun u hu => by
  simp only [List.mem_flatMap] at hu
  obtain ⟨x, _, hx⟩ := hu
  exact slf_one x u hx⟩
theorem oneCells' {l : List (Int × Int)} {sp : List Value} {q : Nat} {x : Int × Int} (hq : q < l.length) (hx : l.getD q (0, 0) = x) : CellsAt ((l.flatMap slf ++ sp).toArray) (q * 2) 2 #[.int .i64 x.1, .int .u32 x.2] := by
  refine blkCells (pre := []) slf_len (i := q) (a := x) ?_ (by simp)
  rw [← hx, List.getD_eq_getElem?_getD, List.getElem?_eq_getElem hq]; rfl
theorem RS.of {v : Value} {l : List (Int × Int)} {E : List Ent} {n : Nat} {xs : List Value} (h : Sl 25 2 v n xs E) (hn : n = l.length) (hx : xs = l.flatMap slf) : RS v l E := by subst hn hx; exact h
end Go.Proofs.YtjlihigodggfcaaGreat
