/-
  ScanOne: what its calls answer.
-/
import Derived.Test.YtgpjanfphgjbbaaMkl
import Derived.Test.YtgpjanfphgjbbaaSty
import Derived.Test.YtgpjanfphgjbbaaPck
set_option linter.unusedSimpArgs false
set_option linter.unusedVariables false
namespace Go.Proofs.Ytgpjanfphgjbbaa
open Go Go.RowKit Go.Mm
variable {m z : Nat} {H : List Hs} {L l : List Int} {o : Bool}
abbrev anyP : Nat → Prop := fun _ => True
theorem rch_any (i : Nat) : Rch H anyP i := .src trivial
theorem nb_shade {i : Nat} {L' : List Int} (hl : L.length = 256) (h : ∀ j, L.getD j 0 ≠ 2) (hi : i < 40) (e : skT (cq L) (sq z o l) i = cq L') : ∀ j, L'.getD j 0 ≠ 2 := by
  have hc : (0 : Int) ≤ (i : Int) ∧ (i : Int) < (40 : Nat) := by omega
  rw [skT, if_pos (show vlE (cq L) (sq z o l) = true from rfl)] at e
  simp only [shC, if_pos hc, Int.toNat_natCast] at e
  have e : Col.shadeL L i = L' := by injection e with e; injection e with e; injection e
  intro j
  rw [← e, Col.shadeL]
  split
  · rw [getD_set1 L i j 1 (by omega)]
    split
    · decide
    · exact h j
  · exact h j
/-- The colours of the first 40 slots. -/
def w40 (L : List Int) : List Int := (List.range 40).map (fun j => L.getD j 0)
theorem w40_len (L : List Int) : (w40 L).length = 40 := by simp [w40]
theorem w40_get {i : Nat} (hi : i < 40) : (w40 L)[i]? = some (L.getD i 0) := by simp [w40, hi]
theorem w40_set {i : Nat} {c : Int} (hl : L.length = 256) (hi : i < 40) : (w40 L).set i c = w40 (L.set i c) := by
  refine List.ext_getElem (by simp [w40]) (fun j h1 h2 => ?_)
  have h2 : j < 40 := by simpa [w40] using h2
  rw [List.getElem_set]
  simp only [w40, List.getElem_map, List.getElem_range]
  rw [getD_set1 L i j c (by omega)]
  by_cases e : j = i
  · rw [if_pos e.symm, if_pos e]
  · rw [if_neg (fun e' => e e'.symm), if_neg e]
def wK (L : List Int) (k : Nat) : List Int := (List.range 40).map (fun j => if j < k then L.getD j 0 else 0)
theorem wK_len (L : List Int) (k : Nat) : (wK L k).length = 40 := by simp [wK]
theorem wK_zero : wK L 0 = List.replicate 40 0 := by simp [wK]; decide
theorem wK_all : wK L 40 = w40 L := by
  refine List.map_congr_left (fun j hj => ?_)
  rw [if_pos (List.mem_range.1 hj)]
theorem wK_set {k : Nat} {c : Int} (hk : k < 40) (hc : L.getD k 0 = c) : (wK L k).set k c = wK L (k + 1) := by
  refine List.ext_getElem (by simp [wK]) (fun j h1 h2 => ?_)
  have h2 : j < 40 := by simpa [wK] using h2
  rw [List.getElem_set]
  simp only [wK, List.getElem_map, List.getElem_range]
  by_cases e : k = j
  · subst e; rw [if_pos rfl, if_pos (by omega), hc]
  · rw [if_neg e]
    by_cases h : j < k
    · rw [if_pos h, if_pos (by omega)]
    · rw [if_neg h, if_neg (by omega)]
def wtC (l : List Int) : Array Value := blk [] i1f l []
theorem wt_at {l : List Int} {i : Nat} {x : Int} (h : l[i]? = some x) : CellAt (wtC l) (0 + i) (.int .i64 x) := blkCell i1f_len (i := i) (j := 0) h (by decide) rfl (by simp)
theorem wt_set {l : List Int} {i : Nat} (h : i < l.length) (y : Int) : SetAt (wtC l) (0 + i) (.int .i64 y) (wtC (l.set i y)) := blkSet i1f_len (i := i) (j := 0) (List.getElem?_eq_getElem h) (by decide) rfl (by simp)
instance z_a40 : ZeroT Try.prog 76 (wtC (List.replicate 40 0)) := ⟨by kernel_rfl⟩
theorem shF_white {j n : Nat} (hj : j < 40) (h : L.getD j 0 = 0) : shF (cq L, sq z o l, n) (j : Int) = (cq (L.set j 1), puT (sq z o l) j, n + 1) := by
  have hc : (0 : Int) ≤ (j : Int) ∧ (j : Int) < (40 : Nat) := by omega
  have hv : vlE (cq L) (sq z o l) = true := rfl
  have hb : shB (cq L) j = true := by simp only [shB, if_pos hc, Int.toNat_natCast, h]; rfl
  have h1 : skT (cq L) (sq z o l) j = cq (L.set j 1) := by
    rw [skT, if_pos hv]; simp only [shC, if_pos hc, Int.toNat_natCast, Col.shadeL, if_pos h]
  have h2 : skS (cq L) (sq z o l) j = puT (sq z o l) j := by rw [skS, hv, hb]; rfl
  have h3 : skB (cq L) (sq z o l) j = true := by rw [skB, hv, hb]; rfl
  simp only [shF, h1, h2, h3, if_true]
theorem shF_not {j n : Nat} (hj : j < 40) (h : L.getD j 0 ≠ 0) : shF (cq L, sq z o l, n) (j : Int) = (cq L, sq z o l, n) := by
  have hc : (0 : Int) ≤ (j : Int) ∧ (j : Int) < (40 : Nat) := by omega
  have hv : vlE (cq L) (sq z o l) = true := rfl
  have hb : shB (cq L) j = false := by simp only [shB, if_pos hc, Int.toNat_natCast]; exact decide_eq_false h
  have h1 : skT (cq L) (sq z o l) j = cq L := by rw [skT, if_pos hv, shC_no hb]
  have h2 : skS (cq L) (sq z o l) j = sq z o l := by rw [skS, hv, hb]; rfl
  have h3 : skB (cq L) (sq z o l) j = false := by rw [skB, hv, hb]; rfl
  simp only [shF, h1, h2, h3, Bool.false_eq_true, if_false, Nat.add_zero]
theorem pu_sq {j : Nat} (hj : j < 40) : ∃ o' l', puT (sq z o l) j = sq z o' l' := by
  have hp : ¬ ((j : Int) < 0 ∨ 256 ≤ (j : Int)) := by omega
  simp only [puT, if_neg hp]
  split
  · exact ⟨_, _, rfl⟩
  · exact ⟨_, _, rfl⟩
/-- A scan that goes through. -/
theorem sc_good {T : Cq} {S : Sq} {s g : Int} (hv : vlE T S = true) (hw : wiH (some (some H)) s g = 0) (hy : scY (some (some H)) T s g = false) (hr : ofR T s = 1) :
    scT (some (some H)) T S s g = bkT (scF (some (some H)) T S s g).1 s ∧ scS (some (some H)) T S s g = (scF (some (some H)) T S s g).2.1 ∧ scN (some (some H)) T S s g = (scF (some (some H)) T S s g).2.2 ∧ scE (some (some H)) T S s g = bkE (scF (some (some H)) T S s g).1 s := by
  have hs : scV (some (some H)) T S = true := by rw [scV, hv]; rfl
  have hg : scG (some (some H)) T S s g = true := by rw [scG, hs, hw, hy, hr]; rfl
  refine ⟨?_, ?_, ?_, ?_⟩
  · rw [scT, if_pos hg]
  · rw [scS, if_pos hg]
  · rw [scN, if_pos hg]
  · rw [scE, if_pos hs, if_pos hw, hy, if_neg (by decide), if_pos hr]
theorem bk_at {i : Nat} (hi : i < 40) (h : L.getD i 0 = 1) : bkT (cq L) i = cq (L.set i 2) ∧ bkE (cq L) i = 0 := by
  have hc : (0 : Int) ≤ (i : Int) ∧ (i : Int) < (40 : Nat) := by omega
  exact ⟨by simp only [bkT, if_pos hc, Int.toNat_natCast, Col.blackL, if_pos h], by simp only [bkE, if_pos hc, Int.toNat_natCast, Col.blackE, if_pos h]⟩
theorem of_at {i : Nat} (hi : i < 40) : ofE (cq L) i = 0 ∧ ofR (cq L) i = L.getD i 0 := by
  have hc : (0 : Int) ≤ (i : Int) ∧ (i : Int) < (40 : Nat) := by omega
  exact ⟨by simp only [ofE, if_pos hc], by simp only [ofR, if_pos hc, Int.toNat_natCast]⟩
theorem sq_some {p : Option Addr} {E : List Ent} (h : SA p (sq z o l) E) : ∃ a, p = some a ∧ 1 ≤ z ∧ z ≤ 64 ∧ l.length ≤ z := by
  obtain ⟨h1, h2, h3, b, _, _, _, _, rfl, _⟩ := h
  exact ⟨_, rfl, h1, h2, h3⟩
end Go.Proofs.Ytgpjanfphgjbbaa
