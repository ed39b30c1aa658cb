/-
  The colours of slots: contracts of the program's functions that loop.
-/
import Derived.Test.YtgpjanfphgjbbaaGreatKCol
set_option linter.unusedSimpArgs false
set_option linter.unusedVariables false
namespace Go.Proofs.YtgpjanfphgjbbaaGreat.Col
open Go.RowKit Go.Mm

variable {R : Ending → World → Prop} {w : World} {b : Nat} {n : Int} {L : List Int} {w0 : World} {bs : List Nat} {H H' : List Ent}

/-- How many of the first k slots have a colour. -/
def cnt (c : Int) (L : List Int) (k : Nat) : Nat := ((L.take k).filter (fun x => x == c)).length
theorem cnt_succ (c : Int) (L : List Int) (k : Nat) (h : k < L.length) : cnt c L (k + 1) = cnt c L k + if L.getD k 0 = c then 1 else 0 := by
  unfold cnt
  rw [List.take_succ_eq_append_getElem h, List.filter_append]
  simp only [List.length_append, List.getD_eq_getElem?_getD, List.getElem?_eq_getElem h, Option.getD_some]
  congr 1
  by_cases h1 : L[k] = c <;> simp [h1]
theorem cnt_le (c : Int) (L : List Int) (k : Nat) : cnt c L k ≤ k := by
  unfold cnt
  exact Nat.le_trans (List.length_filter_le _ _) (by simp; omega)

def cnt3 (L : List Int) (k : Nat) : Array Value := #[.int .i64 (cnt 0 L k), .int .i64 (cnt 1 L k), .int .i64 (cnt 2 L k)]

instance z_arr3 : ZeroT Tryz.prog 67 #[.int .i64 0, .int .i64 0, .int .i64 0] := ⟨by kernel_rfl⟩

end Go.Proofs.YtgpjanfphgjbbaaGreat.Col
