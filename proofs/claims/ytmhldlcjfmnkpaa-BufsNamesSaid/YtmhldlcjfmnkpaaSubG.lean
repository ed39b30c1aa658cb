/-
  Pieces of slices; marked operations.
-/
import Derived.Test.YtmhldlcjfmnkpaaMp
import Derived.Test.YtmhldlcjfmnkpaaItemD
import Derived.Test.YtmhldlcjfmnkpaaFill
set_option linter.unusedSimpArgs false
set_option linter.unusedVariables false
namespace Go.Mm
open Go Go.RowKit
section
variable {P : Program} {ops : Array Oper} {C : Nat → World → Prop} {m : Nat → Bool} {Q : Nat → Act → Prop} {k p : Nat} {o : Oper} {rest : List Oper} {a a' : Act} {v : Value}
/-- A marked operation. -/
theorem lex_mark (hw : Region.wanted o (yielded ops a.tmps) = true) (hm : m k = true) (v : Value) (hv : ∀ w, C p w → stepAt P o a (C (p + 1)) w v) [hp : Put a o.dst v a'] (h : wpLex P ops C m Q (k + 1) (p + 1) rest a') :
    wpLex P ops C m Q k p (o :: rest) a := by
  unfold wpLex
  rw [if_pos hw]
  refine ⟨v, ?_, ?_⟩
  · unfold Yv
    rw [if_pos hm]
    exact hv
  · rw [nx, if_pos hm, hp.h]
    exact h
variable {C' : World → Prop} {w w0 : World} {bs : List Nat} {H : List Ent}
theorem stepAt_mk (t : TypeId) (x y : Operand) (ho : o.op = .makeSlice t x y) (hS : St w0 bs w H) {e : TypeId} [ht : SliceT P t e] {size bytes : Nat} {zs : Array Value} [he : ElemT P e size bytes zs]
    {k k' : IntKind} {z : Nat} [hx : Ev a x (.int k z)] [hy : Ev a y (.int k' z)] (h2 : (bytes : Int) * z ≤ 281474976710656) (h3 : (z : Int) ≤ 9223372036854775807)
    (h : ∀ w', St w0 bs w' (⟨w.heap.size, madeCells zs (z * size), e, true⟩ :: H) → C' w') : stepAt P o a C' w (.slice (some ⟨w.heap.size, 0, none⟩) z z) := by
  obtain ⟨i, zv, hi, hz, rfl, rfl, rfl⟩ := he.parts
  have hr := run_make (P := P) w t e i zv ht.h hi hz k k' z z (by omega) (by omega) h2 h3
  have hS' := hS.new (Chg.alloc w (.cells (madeCells zv.cells (z * i.size)) e (0, 0))) (Nat.le_refl _) (alloc_new w _)
  have hr2 : (execOp a.eval o).run P w = .ok (.value (.slice (some ⟨w.heap.size, 0, none⟩) z z)) (w.alloc (.cells (madeCells zv.cells (z * i.size)) e (0, 0))) := by
    simp only [execOp, ho, hx.h, hy.h, Sem.run_bind, hr, Result.andThen_ok, Sem.run_pure, Int.toNat_natCast]
  unfold stepAt
  rw [hr2]
  exact ⟨h _ hS', rfl⟩
theorem stepAt_upd (t : TypeId) (x y z : Operand) (ho : o.op = .mapUpdate t x y z) {M : Nat} {xs : Array Value} {u : Value} [hx : Ev a x (.map (some M))] [hy : Ev a y (.agg xs)] [hz : Ev a z u]
    (h : ∃ w', (Instr.mapUpdate t (.map (some M)) (.agg xs) u).run P w = .ok () w' ∧ C' w') : stepAt P o a C' w undef := by
  obtain ⟨w', hr, hC⟩ := h
  have hr2 : (execOp a.eval o).run P w = .ok .skip w' := by
    simp only [execOp, ho, hx.h, hy.h, hz.h, Sem.run_bind, hr, Result.andThen_ok, Sem.run_pure]
  unfold stepAt
  rw [hr2]
  exact ⟨hC, rfl⟩
end
section
variable {P : Program} {o : Oper} {a : Act} {w : World}
/-- v[m:] is v'. -/
class SufV (P : Program) (t : TypeId) (v : Value) (m : Int) (v' : outParam Value) : Prop where
  h : ∀ w, (Instr.sliceAt t v (some (.int .i64 m)) none none).run P w = .ok v' w
theorem run_sufv {v : Value} (t : TypeId) (x y : Operand) (ho : o.op = .slice t x (some y) none none) {m : Int} {v' : Value} [hx : Ev a x v] [hy : Ev a y (.int .i64 m)] [hp : SufV P t v m v'] : OpVal P o a w v' := by
  unfold OpVal
  simp only [execOp, ho, hx.h, Option.map_none, Option.map_some, hy.h, Sem.run_bind, hp.h, Result.andThen_ok, Sem.run_pure]
theorem suf_of {t e : TypeId} {z g n cap m : Nat} (ht : P.underlying t = some (.slice e)) (hs : (P.info? e).map (·.size) = some z) (hm : m ≤ n) (hc : n ≤ cap) :
    SufV P t (.slice (some ⟨g, 0, none⟩) n cap) m (.slice (some ⟨g, if m = cap then 0 else m * z, none⟩) (n - m) (cap - m)) := ⟨fun w => by
  have h2 : 0 ≤ (m : Int) := by omega
  by_cases h3 : cap = m
  · obtain rfl : n = cap := by omega
    obtain rfl : m = n := by omega
    rw [if_pos rfl]
    simp [Instr.sliceAt, run_underlying ht, Instr.slice, Instr.sliceBounds, Instr.sliceBound, asIntOf, run_sizeOf' hs, Addr.add]
  · rw [if_neg (fun e => h3 e.symm)]
    simp [Instr.sliceAt, run_underlying ht, Instr.slice, Instr.sliceBounds, Instr.sliceBound, asIntOf, hm, run_sizeOf' hs, h3, Addr.add_lit]⟩
theorem pre_of {t e : TypeId} {z g n cap m : Nat} (ht : P.underlying t = some (.slice e)) (hs : (P.info? e).map (·.size) = some z) (hm : m ≤ cap) (hz : 0 < cap) : PreV P t (.slice (some ⟨g, 0, none⟩) n cap) m (.slice (some ⟨g, 0, none⟩) m cap) := ⟨fun w => by
  have h2 : 0 ≤ (m : Int) := by omega
  have h3 : cap ≠ 0 := by omega
  simp [Instr.sliceAt, run_underlying ht, Instr.slice, Instr.sliceBounds, Instr.sliceBound, asIntOf, hm, run_sizeOf' hs, Addr.add]⟩
theorem idx_of {t e : TypeId} {z g n cap i : Nat} (ht : P.underlying t = some (.slice e)) (hs : (P.info? e).map (·.size) = some z) (hi : i < n) : IdxV P t (.slice (some ⟨g, 0, none⟩) n cap) i ⟨g, i * z, none⟩ := ⟨fun w => by
  have h2 : 0 ≤ (i : Int) := by omega
  simp [Instr.indexAt, asIntOf, run_underlying ht, hi, run_sizeOf' hs, Addr.add_lit]⟩
theorem stepAt_of_X {C' : World → Prop} {v : Value} (h : stepX P o a w (fun u w' => u = v ∧ C' w')) : stepAt P o a C' w v := by
  unfold stepX at h
  unfold stepAt
  generalize (execOp a.eval o).run P w = r at *
  cases r with
  | ok n w' =>
    cases n with
    | value u => exact ⟨h.2, h.1⟩
    | skip => exact ⟨h.2, h.1.symm⟩
    | enter f args => exact Calls.mono (show Calls P f args w' _ from h) fun e w'' ⟨u, h1, h2, h3⟩ => ⟨by rw [h1, h2], h3⟩
    | _ => exact h.elim
  | halt x w' => exact h.elim
end

section
variable {α : Type} {f : α → List Value} {wd : Nat}
theorem fl_take (hf : ∀ x, (f x).length = wd) (l : List α) (q : Nat) (hq : q ≤ l.length) : (l.flatMap f).take (q * wd) = (l.take q).flatMap f := by
  have h1 : l.flatMap f = (l.take q).flatMap f ++ (l.drop q).flatMap f := by
    conv => lhs; rw [← List.take_append_drop q l]
    rw [List.flatMap_append]
  have h2 : ((l.take q).flatMap f).length = q * wd := by rw [flat_len hf, List.length_take, Nat.min_eq_left hq]
  rw [h1, ← h2, List.take_left']
  rfl
theorem fl_drop (hf : ∀ x, (f x).length = wd) (l : List α) (q : Nat) (hq : q ≤ l.length) : (l.flatMap f).drop (q * wd) = (l.drop q).flatMap f := by
  have h1 : l.flatMap f = (l.take q).flatMap f ++ (l.drop q).flatMap f := by
    conv => lhs; rw [← List.take_append_drop q l]
    rw [List.flatMap_append]
  have h2 : ((l.take q).flatMap f).length = q * wd := by rw [flat_len hf, List.length_take, Nat.min_eq_left hq]
  rw [h1, ← h2, List.drop_left']
  rfl
theorem fl_pre (hf : ∀ x, (f x).length = wd) {l : List α} {sp : List Value} {q : Nat} (hq : q ≤ l.length) : CellsAt ((l.flatMap f ++ sp).toArray) 0 (q * wd) ((l.take q).flatMap f).toArray := ⟨fun j hj => by
  have hl : (l.flatMap f).length = l.length * wd := flat_len hf l
  have hle : q * wd ≤ l.length * wd := Nat.mul_le_mul_right _ hq
  rw [← fl_take hf l q hq]
  simp only [Nat.zero_add, List.getElem?_toArray]
  rw [List.getElem?_append_left (by omega), List.getElem?_take, if_pos hj], by
  rw [List.size_toArray, flat_len hf, List.length_take, Nat.min_eq_left hq]⟩
theorem fl_suf (hf : ∀ x, (f x).length = wd) {l : List α} {sp : List Value} {q : Nat} (hq : q ≤ l.length) : CellsAt ((l.flatMap f ++ sp).toArray) (q * wd) ((l.length - q) * wd) ((l.drop q).flatMap f).toArray := ⟨fun j hj => by
  have hl : (l.flatMap f).length = l.length * wd := flat_len hf l
  have hle : q * wd + (l.length - q) * wd = l.length * wd := by rw [← Nat.add_mul]; congr 1; omega
  rw [← fl_drop hf l q hq]
  simp only [List.getElem?_toArray]
  rw [List.getElem?_append_left (by omega), List.getElem?_drop], by
  rw [List.size_toArray, flat_len hf, List.length_drop]⟩
theorem fl_suf' (hf : ∀ x, (f x).length = wd) {l : List α} {sp : List Value} {q cap : Nat} (hq : q ≤ l.length) (hc : l.length ≤ cap) : CellsAt ((l.flatMap f ++ sp).toArray) (if q = cap then 0 else q * wd) ((l.length - q) * wd) ((l.drop q).flatMap f).toArray := by
  by_cases h : q = cap
  · rw [if_pos h, show l.length - q = 0 by omega]
    refine ⟨fun j hj => absurd hj (by omega), ?_⟩
    rw [List.drop_eq_nil_of_le (by omega)]; simp
  · rw [if_neg h]
    exact fl_suf hf hq
theorem fl_ones (h1 : ∀ x, ∀ v ∈ f x, v.oneCell' = true) (l : List α) : OneCells (l.flatMap f).toArray := ⟨fun u hu => by
  simp only [List.mem_flatMap] at hu
  obtain ⟨x, _, hx⟩ := hu
  exact h1 x u hx⟩
end
theorem Base.stw {W w0 w : World} {bs : List Nat} {M : Nat} {ms : List (Value × Value)} {H : List Ent} (hB : Base W w0 bs M ms) (hS : St w0 bs w H) : St W [] w H := ⟨hB.all hS, hS.get, hS.nd, fun e he hw => .inr (hB.wrs hS e.b (mem_wb.2 ⟨e, he, hw, rfl⟩)).1⟩
end Go.Mm
