/-
  Tables of slots as the document has them: plain lists of states and generations.
-/
import Derived.Test.YtlpknbkgkhnfcaaBox
set_option linter.unusedSimpArgs false
set_option linter.unusedVariables false
namespace Go.Proofs.Ytlpknbkgkhnfcaa
open Go Go.Mm

/-- Slots, each with its state and its generation; none for a nil table, no slots for one that New did not make. -/
abbrev Tb := Option (List (Int × Int))
abbrev slAt (L : List (Int × Int)) (i : Nat) : Int × Int := L.getD i (0, 0)
def isSt (st : Int) (L : List (Int × Int)) (i : Nat) : Bool := (L.getD i (0, 0)).1 == st
/-- The first one below n. -/
def firstOf (p : Nat → Bool) (n : Nat) : Option Nat := (List.range n).find? p

def tbOk : Tb → Bool
  | none => false
  | some L => decide (0 < L.length)
def tkI : Tb → Option Nat
  | none => none
  | some L => firstOf (isSt 0 L) L.length
def tkE (T : Tb) : Int := if tbOk T then (if (tkI T).isSome then 0 else 4) else 1
def tkS (T : Tb) : Int := ((tkI T).getD 0 : Nat)
def tkG : Tb → Int
  | none => 0
  | some L => match firstOf (isSt 0 L) L.length with
    | some i => (L.getD i (0, 0)).2
    | none => 0
def tkN (L : List (Int × Int)) : List (Int × Int) := match firstOf (isSt 0 L) L.length with
  | some i => L.set i (1, (L.getD i (0, 0)).2)
  | none => L
def tkT : Tb → Tb
  | none => none
  | some L => some (tkN L)
def inTb (L : List (Int × Int)) (s : Int) : Bool := decide (0 ≤ s) && decide (s < L.length)
def ckE : Tb → Int → Int → Int
  | none, _, _ => 1
  | some L, s, g => if 0 < L.length then (if inTb L s then (if L.getD s.toNat (0, 0) = (1, g) then 0 else 7) else 3) else 1
def gvN (L : List (Int × Int)) (s g : Int) : List (Int × Int) := if ckE (some L) s g = 0 then L.set s.toNat (if g < 4294967295 then (0, g + 1) else (2, g)) else L
def gvT : Tb → Int → Int → Tb
  | none, _, _ => none
  | some L, s, g => some (gvN L s g)
def gnG : Tb → Int → Int
  | none, _ => 0
  | some L, s => if inTb L s then (L.getD s.toNat (0, 0)).2 else 0
def gnE : Tb → Int → Int
  | none, _ => 1
  | some L, s => if 0 < L.length then (if inTb L s then 0 else 3) else 1
def stCnt (st : Int) (L : List (Int × Int)) (k : Nat) : Nat := (gl (isSt st L) k).length
def ctN (st : Int) : Tb → Int
  | none => 0
  | some L => stCnt st L L.length
def refOf (L : List (Int × Int)) (i : Nat) : Int × Int := (i, (L.getD i (0, 0)).2)
def stL (st : Int) (L : List (Int × Int)) (k : Nat) : List (Int × Int) := (gl (isSt st L) k).map (refOf L)
def tkL : Tb → List (Int × Int)
  | none => []
  | some L => stL 1 L L.length
def cpT (T : Tb) : Tb := if tbOk T then T else none
/-- What New gives. -/
def nwOk (z f : Int) : Bool := decide (1 ≤ z) && decide (z ≤ 256) && decide (1 ≤ f)
def nwT (z f : Int) : Tb := if nwOk z f then some (List.replicate z.toNat (0, f)) else none
def nwE (z f : Int) : Int := if nwOk z f then 0 else 2

/-- States and generations that can be. -/
structure TbW (L : List (Int × Int)) : Prop where
  hi : L.length ≤ 256
  st : ∀ x ∈ L, x.1 = 0 ∨ x.1 = 1 ∨ x.1 = 2
  gn : ∀ x ∈ L, 1 ≤ x.2 ∧ x.2 ≤ 4294967295

theorem in_yes {L : List (Int × Int)} {s : Int} (h : inTb L s = true) : ∃ i : Nat, s = i ∧ i < L.length ∧ s.toNat = i := by
  simp [inTb] at h
  exact ⟨s.toNat, by omega, by omega, rfl⟩
theorem in_no {L : List (Int × Int)} {s : Int} (h : inTb L s = false) : s < 0 ∨ (L.length : Int) ≤ s := by
  simp [inTb] at h
  omega
theorem first_none {p : Nat → Bool} {n : Nat} (h : gl p n = []) : firstOf p n = none := by
  unfold firstOf gl at *
  rw [List.find?_eq_none]
  rw [List.filter_eq_nil_iff] at h
  exact h
theorem first_some {p : Nat → Bool} {n k y : Nat} (hk : k < n) (hp : p k = true) (h : [y] = gl p k ++ [k]) : firstOf p n = some y := by
  have h0 : gl p k = [] := by
    cases hg : gl p k with
    | nil => rfl
    | cons a l => rw [hg] at h; simp at h
  rw [h0] at h
  simp at h; subst h
  unfold firstOf
  obtain ⟨m, rfl⟩ : ∃ m, n = y + 1 + m := ⟨n - (y + 1), by omega⟩
  unfold gl at h0
  rw [List.filter_eq_nil_iff] at h0
  rw [List.range_add, List.find?_append, List.range_succ, List.find?_append, List.find?_eq_none.2 (by simpa using h0)]
  simp [hp]
theorem first_at {p : Nat → Bool} {n i : Nat} (hi : i < n) (h0 : ∀ j, j < i → p j = false) (h1 : p i = true) : firstOf p n = some i := by
  refine first_some hi h1 ?_
  have : gl p i = [] := by
    unfold gl
    rw [List.filter_eq_nil_iff]
    intro j hj
    rw [h0 j (List.mem_range.1 hj)]
    simp
  rw [this]; rfl
theorem first_no {p : Nat → Bool} {n : Nat} (h0 : ∀ j, j < n → p j = false) : firstOf p n = none := by
  refine first_none ?_
  unfold gl
  rw [List.filter_eq_nil_iff]
  intro j hj
  rw [h0 j (List.mem_range.1 hj)]
  simp
theorem first_is {p : Nat → Bool} {n i : Nat} (h : firstOf p n = some i) : i < n ∧ p i = true ∧ ∀ j, j < i → p j = false := by
  unfold firstOf at h
  have h1 := List.mem_of_find?_eq_some h
  have h2 := List.find?_some h
  refine ⟨List.mem_range.1 h1, h2, fun j hj => ?_⟩
  by_cases hp : p j = true
  · exfalso
    obtain ⟨m, rfl⟩ : ∃ m, n = i + m := ⟨n - i, by have := List.mem_range.1 h1; omega⟩
    rw [List.range_add, List.find?_append] at h
    have h3 : ((List.range i).find? p).isSome = true := by
      rw [List.find?_isSome]; exact ⟨j, List.mem_range.2 hj, hp⟩
    obtain ⟨x, hx⟩ := Option.isSome_iff_exists.1 h3
    rw [hx] at h
    simp at h
    have := List.mem_range.1 (List.mem_of_find?_eq_some hx)
    omega
  · simpa using hp
theorem getD_set2 (L : List (Int × Int)) (i j : Nat) (c : Int × Int) (h : i < L.length) : (L.set i c).getD j (0, 0) = if j = i then c else L.getD j (0, 0) := by
  rw [List.getD_eq_getElem?_getD, List.getElem?_set, List.getD_eq_getElem?_getD]
  by_cases e : i = j
  · subst e; simp [h]
  · rw [if_neg e, if_neg (fun q => e q.symm)]
theorem getD_mem {L : List (Int × Int)} {i : Nat} (h : i < L.length) : L.getD i (0, 0) ∈ L := by
  rw [List.getD_eq_getElem?_getD, List.getElem?_eq_getElem h]; exact List.getElem_mem h
theorem TbW.set {L : List (Int × Int)} (h : TbW L) (i : Nat) {c : Int × Int} (h1 : c.1 = 0 ∨ c.1 = 1 ∨ c.1 = 2) (h2 : 1 ≤ c.2 ∧ c.2 ≤ 4294967295) : TbW (L.set i c) :=
  ⟨by rw [List.length_set]; exact h.hi, fun x hx => by rcases List.mem_or_eq_of_mem_set hx with h' | rfl; exact h.st x h'; exact h1,
    fun x hx => by rcases List.mem_or_eq_of_mem_set hx with h' | rfl; exact h.gn x h'; exact h2⟩
theorem TbW.rep {n : Nat} {f : Int} (h : n ≤ 256) (hf : 1 ≤ f ∧ f ≤ 4294967295) : TbW (List.replicate n (0, f)) :=
  ⟨by simpa using h, fun x hx => by rw [(List.mem_replicate.1 hx).2]; simp, fun x hx => by rw [(List.mem_replicate.1 hx).2]; exact hf⟩
theorem stCnt_yes {st : Int} {L : List (Int × Int)} {k : Nat} (h : isSt st L k = true) : stCnt st L (k + 1) = stCnt st L k + 1 := by
  unfold stCnt; rw [gl_yes h, List.length_append]; rfl
theorem stCnt_no {st : Int} {L : List (Int × Int)} {k : Nat} (h : isSt st L k = false) : stCnt st L (k + 1) = stCnt st L k := by
  unfold stCnt; rw [gl_no h]
theorem stCnt_le (st : Int) (L : List (Int × Int)) (k : Nat) : stCnt st L k ≤ k := gl_len _ _
theorem stL_yes {st : Int} {L : List (Int × Int)} {k : Nat} (h : isSt st L k = true) : stL st L (k + 1) = stL st L k ++ [refOf L k] := by
  unfold stL; rw [gl_yes h, List.map_append]; rfl
theorem stL_no {st : Int} {L : List (Int × Int)} {k : Nat} (h : isSt st L k = false) : stL st L (k + 1) = stL st L k := by
  unfold stL; rw [gl_no h]
theorem stL_len (st : Int) (L : List (Int × Int)) (k : Nat) : (stL st L k).length = stCnt st L k := by simp [stL, stCnt]
end Go.Proofs.Ytlpknbkgkhnfcaa
