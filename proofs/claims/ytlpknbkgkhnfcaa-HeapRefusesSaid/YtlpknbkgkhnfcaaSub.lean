/-
  Pieces of slices of references; maps asked in regions; marked operations.
-/
import Derived.Test.YtlpknbkgkhnfcaaTurnA
set_option linter.unusedSimpArgs false
set_option linter.unusedVariables false
namespace Go.Mm
open Go Go.RowKit
section
variable {P : Program} {o : Oper} {a : Act} {w : World}
/-- v[m:] is v'. -/
class SufV (P : Program) (t : TypeId) (v : Value) (m : Int) (v' : outParam Value) : Prop where
  h : ∀ w, (Instr.sliceAt t v (some (.int .i64 m)) none none).run P w = .ok v' w
theorem run_sufv {v : Value} (t : TypeId) (x y : Operand) (ho : o.op = .slice t x (some y) none none) {m : Int} {v' : Value} [hx : Ev a x v] [hy : Ev a y (.int .i64 m)] [hp : SufV P t v m v'] : OpVal P o a w v' := by
  unfold OpVal
  simp only [execOp, ho, hx.h, Option.map_none, Option.map_some, hy.h, Sem.run_bind, hp.h, Result.andThen_ok, Sem.run_pure]
theorem suf_of {t e : TypeId} {z g n cap m : Nat} (ht : P.underlying t = some (.slice e)) (hs : (P.info? e).map (·.size) = some z) (hm : m ≤ n) (hc : n ≤ cap) :
    SufV P t (.slice (some ⟨g, 0, none⟩) n cap) m (.slice (some ⟨g, if m = cap then 0 else m * z, none⟩) (n - m) (cap - m)) := ⟨fun w => by
  have h2 : 0 ≤ (m : Int) := by omega
  by_cases h3 : cap = m
  · obtain rfl : n = cap := by omega
    obtain rfl : m = n := by omega
    rw [if_pos rfl]
    simp [Instr.sliceAt, run_underlying ht, Instr.slice, Instr.sliceBounds, Instr.sliceBound, asIntOf, run_sizeOf' hs, Addr.add]
  · rw [if_neg (fun e => h3 e.symm)]
    simp [Instr.sliceAt, run_underlying ht, Instr.slice, Instr.sliceBounds, Instr.sliceBound, asIntOf, hm, run_sizeOf' hs, h3, Addr.add_lit]⟩
theorem pre_of {t e : TypeId} {z g n cap m : Nat} (ht : P.underlying t = some (.slice e)) (hs : (P.info? e).map (·.size) = some z) (hm : m ≤ cap) (hz : 0 < cap) : PreV P t (.slice (some ⟨g, 0, none⟩) n cap) m (.slice (some ⟨g, 0, none⟩) m cap) := ⟨fun w => by
  have h2 : 0 ≤ (m : Int) := by omega
  have h3 : cap ≠ 0 := by omega
  simp [Instr.sliceAt, run_underlying ht, Instr.slice, Instr.sliceBounds, Instr.sliceBound, asIntOf, hm, run_sizeOf' hs, Addr.add]⟩
theorem idx_of {t e : TypeId} {z g n cap i : Nat} (ht : P.underlying t = some (.slice e)) (hs : (P.info? e).map (·.size) = some z) (hi : i < n) : IdxV P t (.slice (some ⟨g, 0, none⟩) n cap) i ⟨g, i * z, none⟩ := ⟨fun w => by
  have h2 : 0 ≤ (i : Int) := by omega
  simp [Instr.indexAt, asIntOf, run_underlying ht, hi, run_sizeOf' hs, Addr.add_lit]⟩
theorem stepAt_of_X {C' : World → Prop} {v : Value} (h : stepX P o a w (fun u w' => u = v ∧ C' w')) : stepAt P o a C' w v := by
  unfold stepX at h
  unfold stepAt
  generalize (execOp a.eval o).run P w = r at *
  cases r with
  | ok n w' =>
    cases n with
    | value u => exact ⟨h.2, h.1⟩
    | skip => exact ⟨h.2, h.1.symm⟩
    | enter f args => exact Calls.mono (show Calls P f args w' _ from h) fun e w'' ⟨u, h1, h2, h3⟩ => ⟨by rw [h1, h2], h3⟩
    | _ => exact h.elim
  | halt x w' => exact h.elim
end
end Go.Mm
namespace Go.Proofs.Ytlpknbkgkhnfcaa
open Go Go.Mm Go.RowKit

theorem flat_take (l : List (Int × Int)) : ∀ q, q ≤ l.length → (l.flatMap slf).take (q * 2) = (l.take q).flatMap slf := by
  intro q hq
  have h1 : l.flatMap slf = (l.take q).flatMap slf ++ (l.drop q).flatMap slf := by
    conv => lhs; rw [← List.take_append_drop q l]
    rw [List.flatMap_append]
  have h2 : ((l.take q).flatMap slf).length = q * 2 := by rw [flat_len slf_len, List.length_take, Nat.min_eq_left hq]
  rw [h1, ← h2, List.take_left']
  rfl
theorem flat_drop (l : List (Int × Int)) : ∀ q, q ≤ l.length → (l.flatMap slf).drop (q * 2) = (l.drop q).flatMap slf := by
  intro q hq
  have h1 : l.flatMap slf = (l.take q).flatMap slf ++ (l.drop q).flatMap slf := by
    conv => lhs; rw [← List.take_append_drop q l]
    rw [List.flatMap_append]
  have h2 : ((l.take q).flatMap slf).length = q * 2 := by rw [flat_len slf_len, List.length_take, Nat.min_eq_left hq]
  rw [h1, ← h2, List.drop_left']
  rfl
theorem preCells {l : List (Int × Int)} {sp : List Value} {q : Nat} (hq : q ≤ l.length) : CellsAt ((l.flatMap slf ++ sp).toArray) 0 (q * 2) ((l.take q).flatMap slf).toArray := ⟨fun j hj => by
  have hl : (l.flatMap slf).length = l.length * 2 := flat_len slf_len l
  rw [← flat_take l q hq]
  simp only [Nat.zero_add, List.getElem?_toArray]
  rw [List.getElem?_append_left (by omega), List.getElem?_take, if_pos hj], by
  rw [List.size_toArray, flat_len slf_len, List.length_take, Nat.min_eq_left hq]⟩
theorem sufCells {l : List (Int × Int)} {sp : List Value} {q : Nat} (hq : q ≤ l.length) : CellsAt ((l.flatMap slf ++ sp).toArray) (q * 2) ((l.length - q) * 2) ((l.drop q).flatMap slf).toArray := ⟨fun j hj => by
  have hl : (l.flatMap slf).length = l.length * 2 := flat_len slf_len l
  rw [← flat_drop l q hq]
  simp only [List.getElem?_toArray]
  rw [List.getElem?_append_left (by omega), List.getElem?_drop], by
  rw [List.size_toArray, flat_len slf_len, List.length_drop]⟩
theorem sufCells' {l : List (Int × Int)} {sp : List Value} {q cap : Nat} (hq : q ≤ l.length) (hc : l.length ≤ cap) : CellsAt ((l.flatMap slf ++ sp).toArray) (if q = cap then 0 else q * 2) ((l.length - q) * 2) ((l.drop q).flatMap slf).toArray := by
  by_cases h : q = cap
  · rw [if_pos h, show l.length - q = 0 by omega]
    refine ⟨fun j hj => absurd hj (by omega), ?_⟩
    rw [List.drop_eq_nil_of_le (by omega)]; rfl
  · rw [if_neg h]
    exact sufCells hq
theorem flatOnes (l : List (Int × Int)) : OneCells (l.flatMap slf).toArray := ⟨fun u hu => by
  simp only [List.mem_flatMap] at hu
  obtain ⟨x, _, hx⟩ := hu
  exact slf_one x u hx⟩
theorem oneCells' {l : List (Int × Int)} {sp : List Value} {q : Nat} {x : Int × Int} (hq : q < l.length) (hx : l.getD q (0, 0) = x) : CellsAt ((l.flatMap slf ++ sp).toArray) (q * 2) 2 #[.int .i64 x.1, .int .u32 x.2] := by
  refine blkCells (pre := []) slf_len (i := q) (a := x) ?_ (by simp)
  rw [← hx, List.getD_eq_getElem?_getD, List.getElem?_eq_getElem hq]; rfl
theorem RS.of {v : Value} {l : List (Int × Int)} {E : List Ent} {n : Nat} {xs : List Value} (h : Sl 38 2 v n xs E) (hn : n = l.length) (hx : xs = l.flatMap slf) : RS v l E := by subst hn hx; exact h
end Go.Proofs.Ytlpknbkgkhnfcaa
