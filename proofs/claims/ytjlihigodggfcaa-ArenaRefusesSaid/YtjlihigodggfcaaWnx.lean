/-
  Arenas with what the statements know of them: what a turn makes of it.
-/
import Derived.Test.YtjlihigodggfcaaWgive
set_option linter.unusedSimpArgs false
set_option linter.unusedVariables false
namespace Go.Proofs.Ytjlihigodggfcaa
open Go Go.RowKit Go.Mm

/-- What is known behind a store. -/
def stM (T : Ar) (ms : List Me) (m q f : Nat) (c : Int) : List Me := ms.map (fun x => if x.1 = (rtL T m).getD q (0, 0) ∧ f < x.2.2.length then (x.1, 0, x.2.2.set f (vaR T m c)) else x)
/-- What a turn makes of an arena, and of what is known. -/
def nxT (n mu : Nat) (T : Ar) (ms : List Me) (a mb i b c : Nat) : Ar × List Me :=
  if a % 8 = 0 then
    if (rtL T (mb % mu : Nat)).length = 32 ∨ ms.length = n then (T, ms) else (mkAT T (mb % mu : Nat) (i % 5 : Nat) false, ms ++ [(mkAR T (mb % mu : Nat) (i % 5 : Nat) false, 0, List.replicate (i % 5) (0, 0))])
  else if a % 8 = 5 then (gtAT T (mb % mu : Nat) (b % 8 : Nat), ms)
  else if a % 8 = 7 then (ptAT T (mb % mu : Nat) (-1) (b % 8 : Nat), ms)
  else if (rtL T (mb % mu : Nat)).length = 0 then (T, ms)
  else if a % 8 = 3 then (drT T (mb % mu : Nat) (i % (rtL T (mb % mu : Nat)).length : Nat), ms)
  else if a % 8 = 4 then (ptAT T (mb % mu : Nat) (i % (rtL T (mb % mu : Nat)).length : Nat) (b % 8 : Nat), ms)
  else if a % 8 = 1 then (ldAT T (mb % mu : Nat) (i % (rtL T (mb % mu : Nat)).length : Nat) (b % 4 : Nat), ms)
  else (stAT T (mb % mu : Nat) (i % (rtL T (mb % mu : Nat)).length : Nat) (b % 4 : Nat) (if a % 8 = 2 then (c % (rtL T (mb % mu : Nat)).length : Nat) else -1),
    stM T ms (mb % mu) (i % (rtL T (mb % mu : Nat)).length) (b % 4) (if a % 8 = 2 then (c % (rtL T (mb % mu : Nat)).length : Nat) else -1))
theorem stM_out {T : Ar} {ms : List Me} {m q f : Nat} {c : Int} (hk : ms.Pairwise (fun x y => x.1 ≠ y.1)) {j b : Nat} {r : Rf} {l : List Rf} (hj : ms[j]? = some (r, b, l)) (hr : (rtL T m).getD q (0, 0) = r) (hf : l.length ≤ f) : stM T ms m q f c = ms := by
  unfold stM
  conv => rhs; rw [← List.map_id ms]
  refine List.map_congr_left (fun x hx => ?_)
  rw [if_neg]
  · rfl
  · rintro ⟨h1, h2⟩
    obtain ⟨i, hi⟩ := List.getElem?_of_mem hx
    have e := key_one hk hj hi (by simp only; rw [h1, hr])
    subst e
    rw [hj] at hi
    have := Option.some.inj hi
    rw [← this] at h2
    simp only at h2
    omega
theorem stM_in {T : Ar} {ms : List Me} {m q f : Nat} {c : Int} (hk : ms.Pairwise (fun x y => x.1 ≠ y.1)) {j b : Nat} {r v : Rf} {l : List Rf} (hj : ms[j]? = some (r, b, l)) (hr : (rtL T m).getD q (0, 0) = r) (hf : f < l.length) (hv : vaR T m c = v) :
    stM T ms m q f c = ms.set j (r, 0, l.set f v) := by
  unfold stM
  apply List.ext_getElem?
  intro i
  have hjl := (List.getElem?_eq_some_iff.1 hj).1
  rw [List.getElem?_map, List.getElem?_set]
  by_cases e : j = i
  · subst e
    rw [if_pos rfl, if_pos hjl, hj]
    simp only [Option.map_some]
    rw [if_pos ⟨hr.symm, hf⟩, hv]
  · rw [if_neg e]
    cases hi : ms[i]? with
    | none => rfl
    | some x =>
      simp only [Option.map_some]
      rw [if_neg]
      rintro ⟨h1, _⟩
      exact e (key_one hk hj hi (by simp only; rw [h1, hr])).symm
end Go.Proofs.Ytjlihigodggfcaa
