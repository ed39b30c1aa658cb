/-
  The tied card of TopPasses out of its row.
-/
import Derived.Test.YtnbgljbhkeffkaaGreatDoorRows
import Derived.Test.YtnbgljbhkeffkaaGreatDoorCards
import Derived.Test.YtnbgljbhkeffkaaGreatDoorTie
import Derived.SevenTiedAt
set_option linter.unusedSimpArgs false
set_option linter.unusedVariables false
namespace Go.Proofs.YtnbgljbhkeffkaaGreatDoor
open Go
set_option maxRecDepth 100000
theorem goes0 : (List.range 50).all (fun i => (Tryz.prog.funcs[0 + i]?).all fun f => !f.goes) = true := by kernel_rfl
theorem goes1 : (List.range 50).all (fun i => (Tryz.prog.funcs[50 + i]?).all fun f => !f.goes) = true := by kernel_rfl
theorem goes2 : (List.range 50).all (fun i => (Tryz.prog.funcs[100 + i]?).all fun f => !f.goes) = true := by kernel_rfl
theorem goes3 : (List.range 50).all (fun i => (Tryz.prog.funcs[150 + i]?).all fun f => !f.goes) = true := by kernel_rfl
theorem goes4 : (List.range 50).all (fun i => (Tryz.prog.funcs[200 + i]?).all fun f => !f.goes) = true := by kernel_rfl
theorem goes5 : (List.range 50).all (fun i => (Tryz.prog.funcs[250 + i]?).all fun f => !f.goes) = true := by kernel_rfl
theorem goes6 : (List.range 50).all (fun i => (Tryz.prog.funcs[300 + i]?).all fun f => !f.goes) = true := by kernel_rfl
theorem goes7 : (List.range 50).all (fun i => (Tryz.prog.funcs[350 + i]?).all fun f => !f.goes) = true := by kernel_rfl
theorem goes8 : (List.range 50).all (fun i => (Tryz.prog.funcs[400 + i]?).all fun f => !f.goes) = true := by kernel_rfl
theorem goes9 : (List.range 50).all (fun i => (Tryz.prog.funcs[450 + i]?).all fun f => !f.goes) = true := by kernel_rfl
theorem goes10 : (List.range 50).all (fun i => (Tryz.prog.funcs[500 + i]?).all fun f => !f.goes) = true := by kernel_rfl
theorem goes_size : Tryz.prog.funcs.size = 540 := by kernel_rfl
theorem goes_no (i : Nat) : (Tryz.prog.funcs[i]?).any Func.goes = false := by
  have key : ∀ k, (List.range 50).all (fun i => (Tryz.prog.funcs[k + i]?).all fun f => !f.goes) = true → ∀ i, k ≤ i → i < k + 50 → (Tryz.prog.funcs[i]?).any Func.goes = false := fun k h i h1 h2 => by
    have := List.all_eq_true.1 h (i - k) (List.mem_range.2 (by omega))
    rw [show k + (i - k) = i by omega] at this
    cases hf : Tryz.prog.funcs[i]? with
    | none => rfl
    | some f => rw [hf] at this; simpa using this
  by_cases hi : i < 540
  · rcases (by omega : i < 50 ∨ (50 ≤ i ∧ i < 100) ∨ (100 ≤ i ∧ i < 150) ∨ (150 ≤ i ∧ i < 200) ∨ (200 ≤ i ∧ i < 250) ∨ (250 ≤ i ∧ i < 300) ∨ (300 ≤ i ∧ i < 350) ∨ (350 ≤ i ∧ i < 400) ∨ (400 ≤ i ∧ i < 450) ∨ (450 ≤ i ∧ i < 500) ∨ (500 ≤ i ∧ i < 550)) with h | h | h | h | h | h | h | h | h | h | h
    · exact key 0 goes0 i (by omega) (by omega)
    · exact key 50 goes1 i (by omega) (by omega)
    · exact key 100 goes2 i (by omega) (by omega)
    · exact key 150 goes3 i (by omega) (by omega)
    · exact key 200 goes4 i (by omega) (by omega)
    · exact key 250 goes5 i (by omega) (by omega)
    · exact key 300 goes6 i (by omega) (by omega)
    · exact key 350 goes7 i (by omega) (by omega)
    · exact key 400 goes8 i (by omega) (by omega)
    · exact key 450 goes9 i (by omega) (by omega)
    · exact key 500 goes10 i (by omega) (by omega)
  · rw [Array.getElem?_eq_none (by rw [goes_size]; omega)]
    rfl
theorem goes_none (f : FuncId) : Tryz.prog.goes f = false := by
  unfold Program.goes
  rw [Bool.or_eq_false_iff]
  refine ⟨List.any_eq_false.2 fun g _ => by rw [goes_no]; simp, ?_⟩
  rw [Bool.and_eq_false_iff]
  right
  rw [Array.any_eq_false]
  intro i hi
  have := goes_no i
  rw [Array.getElem?_eq_getElem hi] at this
  simpa using this
theorem goes_from (s : String) : false = Tryz.prog.goesAt .entering s := by
  unfold Program.goesAt Program.goesFrom
  cases Tryz.prog.funcNamed s with
  | none => rfl
  | some f => simp [goes_none]
theorem card_of (h : Rows.TopPassesSaid) : Rows.TopPassesCardSaid :=
  Claim7.holds_tied_plain_at .later [] [.widerDeep] true (true, "1bf76e9840a7761468072c0b938380db73a53f615e0b2f0834e051fed6e3437c") true
    h (fun _ h => by cases h) (by kernel_rfl) (fun _ h => by cases h) topPasses_row_tie rfl ⟨rfl, rfl⟩ (by kernel_rfl) rfl
    (fun f fn hf hfn => by
      obtain rfl : f = 3 := Option.some.inj ((show Tryz.prog.funcNamed "estray/estraytop.TopPasses" = some 3 by kernel_rfl).symm.trans hf) |>.symm
      obtain rfl : fn = Tryz.f3 := (Option.some.inj (Tryz.func3.symm.trans hfn)).symm
      exact ⟨by kernel_rfl, fun j t ht => by
        rw [Tryz.params3] at ht
        rcases j with _ | _ | j
        · simp only [List.getElem?_toArray, List.getElem?_cons_zero, Option.some.injEq] at ht
          subst ht
          kernel_rfl
        · simp only [List.getElem?_toArray, Nat.zero_add, List.getElem?_cons_succ, List.getElem?_cons_zero, Option.some.injEq] at ht
          subst ht
          kernel_rfl
        · simp at ht⟩)
    (goes_from _)
end Go.Proofs.YtnbgljbhkeffkaaGreatDoor
