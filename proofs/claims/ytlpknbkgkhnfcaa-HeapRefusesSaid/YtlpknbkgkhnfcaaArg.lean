/-
  Arguments: slices of flat structs as they come in.
-/
import Derived.Test.YtlpknbkgkhnfcaaMem
import Derived.WalkKit
import Derived.ProofKit
import Derived.OpenShut
import Derived.ShutString
import Derived.ChangeOld
import Derived.Below
import Derived.Deep.Slices
set_option linter.unusedSimpArgs false
set_option linter.unusedVariables false
namespace Go.Mm
open Go Go.RowKit Go.ChangeShapes Go.WideShapes Go.ChangeAt

/-- A kind of a cell: a bool, or an integer. -/
inductive Lk where
  | b
  | i (k : IntKind)

def LkOk : Lk → Value → Prop
  | .b, v => ∃ x, v = .bool x
  | .i k, v => ∃ n, v = .int k n ∧ (Lit.int k n).wf = true

def flatFs (P : Program) (g : TypeId → Option (List Lk)) : List Field → Nat → Option (List Lk)
  | [], _ => some []
  | f :: rest, off =>
    match g f.type, flatFs P g rest (off + P.cellsOf f.type) with
    | some l, some r => if f.offset = off ∧ P.cellsOf f.type = l.length then some (l ++ r) else none
    | _, _ => none

def flat (P : Program) : Nat → TypeId → Option (List Lk)
  | 0, _ => none
  | fuel + 1, t =>
    match P.underlying t with
    | some .bool => some [.b]
    | some (.int k) => some [.i k]
    | some (.struct fs) => match flatFs P (flat P fuel) fs.toList 0 with
      | some l => if P.cellsOf t = l.length then some l else none
      | none => none
    | _ => none

inductive OkCells : List Lk → List Value → Prop
  | nil : OkCells [] []
  | cons {k : Lk} {v : Value} {ks : List Lk} {vs : List Value} : LkOk k v → OkCells ks vs → OkCells (k :: ks) (v :: vs)

theorem OkCells.append {a b : List Lk} {c d : List Value} (h : OkCells a c) (k : OkCells b d) : OkCells (a ++ b) (c ++ d) := by
  induction h with
  | nil => exact k
  | cons h _ ih => exact .cons h ih
theorem OkCells.len {a : List Lk} {c : List Value} (h : OkCells a c) : c.length = a.length := by
  induction h with
  | nil => rfl
  | cons _ _ ih => simp [ih]

section
variable {H : Type} {enc : TypeId × Value → H} {P : Program} {w : World} {base : Nat} {spare : Nat → Bool} {held : Bool}

theorem flatFs_ok {n : Nat} {g : TypeId → Option (List Lk)} (hg : ∀ t l cs x, g t = some l → DataW.trod enc P w base spare held n t cs = some x → OkCells l cs) (cs : List Value) :
    ∀ (fs : List Field) (off : Nat) (L : List Lk), flatFs P g fs off = some L → (∀ f ∈ fs, ∃ x, DataW.trod enc P w base spare held n f.type ((cs.drop f.offset).take (P.cellsOf f.type)) = some x) →
      OkCells L ((cs.drop off).take L.length) := by
  intro fs
  induction fs with
  | nil =>
    intro off L h _
    simp only [flatFs, Option.some.injEq] at h
    subst h
    simpa using OkCells.nil
  | cons f rest ih =>
    intro off L h hx
    simp only [flatFs] at h
    split at h
    · rename_i l r hl hr
      split at h
      · rename_i hc
        obtain ⟨ho, hn⟩ := hc
        simp only [Option.some.injEq] at h
        subst h
        obtain ⟨y, hy⟩ := hx f (by simp)
        have h1 := hg _ _ _ _ hl hy
        have h2 := ih _ _ hr (fun f' hf' => hx f' (by simp [hf']))
        rw [ho, hn] at h1
        rw [hn] at h2
        rw [List.length_append, List.take_add, List.drop_drop]
        exact h1.append h2
      · cases h
    · cases h

theorem flat_ok : ∀ (fuel m : Nat) (t : TypeId) (l : List Lk) (cs : List Value) (x : DataW H × List MemPlace), flat P fuel t = some l → DataW.trod enc P w base spare held m t cs = some x → OkCells l cs := by
  intro fuel
  induction fuel with
  | zero => intro m t l cs x h; simp [flat] at h
  | succ fuel ih =>
    intro m t l cs x h hx
    simp only [flat] at h
    split at h
    · rename_i hu
      simp only [Option.some.injEq] at h
      subst h
      obtain ⟨b, rfl, _⟩ := DataW.trod_bool hu hx
      exact .cons ⟨b, rfl⟩ .nil
    · rename_i k hu
      simp only [Option.some.injEq] at h
      subst h
      obtain ⟨n, rfl, _, hw⟩ := DataW.trod_int hu hx
      exact .cons ⟨n, rfl, hw⟩ .nil
    · rename_i fs hu
      split at h
      · rename_i L hL
        split at h
        · rename_i hc
          simp only [Option.some.injEq] at h
          subst h
          obtain ⟨xs, n, _, _, hl, hlen, hf⟩ := DataW.trod_struct hu hx
          have := flatFs_ok (fun t l cs x h h' => ih n t l cs x h h') cs fs.toList 0 L hL (fun f hf' => by
            obtain ⟨i, hi, rfl⟩ := List.getElem_of_mem hf'
            have hi' : i < fs.size := by simpa using hi
            have h1 := hf i fs[i] (Array.getElem?_eq_getElem hi')
            rw [List.getElem?_eq_getElem (by omega)] at h1
            exact ⟨_, by simpa using h1⟩)
          rw [List.drop_zero, ← hc, ← hl, List.take_length] at this
          exact this
        · cases h
      · cases h
    · cases h

/-- The cells of a slice of flat elements that came in: element i, cell j. -/
structure Flat (w : World) (ks : List Lk) (v : Value) (n : Nat) (b off : Nat) (F : Nat → Nat → Value) : Prop where
  v : ∃ a cap, v = .slice a n cap ∧ n ≤ cap ∧ cap ≤ maxLen ∧ (0 < n → a = some ⟨b, off, none⟩)
  c : ∀ i, i < n → ∀ j, j < ks.length → w.cell? ⟨b, off + (i * ks.length + j), none⟩ = some (F i j)
  k : ∀ i, i < n → ∀ j k, ks[j]? = some k → LkOk k (F i j)

theorem OkCells.get {ks : List Lk} {vs : List Value} (h : OkCells ks vs) : ∀ (j : Nat) (k : Lk), ks[j]? = some k → ∃ v, vs[j]? = some v ∧ LkOk k v := by
  induction h with
  | nil => intro j k h; simp at h
  | cons h _ ih =>
    intro j k hk
    cases j with
    | zero => simp at hk; subst hk; exact ⟨_, rfl, h⟩
    | succ j => simpa using ih j k (by simpa using hk)

theorem open_flat {t e : TypeId} {fuel f : Nat} {ks : List Lk} {v : Value} {d : DataW H} {p : List MemPlace} (ht : P.underlying t = some (.slice e)) (hk : flat P fuel e = some ks) (hkn : P.cellsOf e = ks.length) (hk0 : 0 < ks.length)
    (hv : ∃ a n c, v = .slice a n c)
    (h : DataW.trod enc P w base spare held f t v.cells.toList = some (d, p)) : ∃ n b off F, Flat w ks v n b off F := by
  obtain ⟨a, n, c, rfl⟩ := hv
  have hcs : (Value.slice a n c).cells.toList = [.slice a n c] := rfl
  rw [hcs] at h
  rcases DataW.trod_slice ht h with ⟨h0, _⟩ | ⟨a', len, cap, elems, rest, m, _, hc, _, _, hl, hm, hlen, hel, _, _⟩
  · simp only [List.cons.injEq, Value.slice.injEq, and_true] at h0
    obtain ⟨rfl, rfl, rfl⟩ := h0
    exact ⟨0, 0, 0, fun _ _ => undef, ⟨none, 0, rfl, Nat.le_refl _, by simp [maxLen], fun h => absurd h (Nat.lt_irrefl 0)⟩, fun i hi => absurd hi (Nat.not_lt_zero _), fun i hi => absurd hi (Nat.not_lt_zero _)⟩
  · simp only [List.cons.injEq, Value.slice.injEq, and_true] at hc
    obtain ⟨rfl, rfl, rfl⟩ := hc
    have hE : ∀ i, i < n → ∃ vs, w.cells? base (a'.add (i * ks.length)) ks.length = some vs ∧ OkCells ks vs := by
      intro i hi
      have h1 := hel i hi
      rw [hkn] at h1
      rw [List.getElem?_eq_getElem (by omega)] at h1
      obtain ⟨vs, hvs, hx⟩ := Option.bind_eq_some_iff.1 h1
      exact ⟨vs, hvs, flat_ok _ _ _ _ _ _ hk hx⟩
    obtain ⟨V, hV⟩ := Deep.choose_lt hE
    have hcell : ∀ i, i < n → ∀ j, j < ks.length → ∃ v, (V i)[j]? = some v ∧ w.cell? (a'.add (i * ks.length + j)) = some v := by
      intro i hi j hj
      obtain ⟨h1, h2⟩ := hV i hi
      obtain ⟨_, hlen, hc⟩ := World.cells?_some h1
      have h3 := hc j hj
      have hj' : j < (V i).length := by rw [h2.len]; exact hj
      rw [List.getElem?_eq_getElem hj'] at h3
      exact ⟨_, List.getElem?_eq_getElem hj', by rw [← Deep.add_add]; exact h3⟩
    by_cases hn : 0 < n
    · have hspot : a'.spot = none := by
        obtain ⟨v, _, h1⟩ := hcell 0 hn 0 hk0
        have h2 : a'.add (0 * ks.length + 0) = a' := by simp [Addr.add]
        rw [h2] at h1
        exact World.cell?_spot h1
      obtain ⟨b, off, spot⟩ := a'
      simp only at hspot
      subst hspot
      refine ⟨n, b, off, fun i j => (V i).getD j undef, ⟨_, c, rfl, hl, hm, fun _ => rfl⟩, fun i hi j hj => ?_, fun i hi j k hk => ?_⟩
      · obtain ⟨v, h1, h2⟩ := hcell i hi j hj
        rw [Addr.add_lit] at h2
        rw [h2]
        simp [List.getD, h1]
      · obtain ⟨v, h1, h2⟩ := (hV i hi).2.get j k hk
        simpa [List.getD, h1] using h2
    · have h0 : n = 0 := by omega
      subst h0
      exact ⟨0, 0, 0, fun _ _ => undef, ⟨_, c, rfl, hl, hm, fun h => absurd h (Nat.lt_irrefl 0)⟩, fun i hi => absurd hi (Nat.not_lt_zero _), fun i hi => absurd hi (Nat.not_lt_zero _)⟩
end

theorem open_flat_agg {H : Type} {enc : TypeId × Value → H} {P : Program} {w : World} {base : Nat} {spare : Nat → Bool} {held : Bool} {t : TypeId} {fuel f : Nat} {ks : List Lk} {v : Value} {d : DataW H} {p : List MemPlace} (hk : flat P fuel t = some ks) (hk1 : 1 < ks.length)
    (h : DataW.trod enc P w base spare held f t v.cells.toList = some (d, p)) : ∃ cs, v = .agg cs.toArray ∧ OkCells ks cs := by
  have h1 := flat_ok _ _ _ _ _ _ hk h
  have hl := h1.len
  cases v with
  | agg cs => exact ⟨cs.toList, by simp, h1⟩
  | _ => simp [Value.cells] at hl; omega

/-! ### What the walk asks of such a slice, its value being left alone -/
section
variable {P : Program} {o : Oper} {a : Act} {w : World} {v : Value}
class LenV (P : Program) (t : TypeId) (v : Value) (n : outParam Nat) : Prop where
  h : ∃ x c, v = .slice x n c
  t : ∃ e, P.underlying t = some (.slice e)
theorem run_lenv (x : Operand) (t : TypeId) (ho : o.op = .call { callee := .builtin .len, args := #[x], argTypes := #[t] }) [hx : Ev a x v] {n : Nat} [hl : LenV P t v n] : OpVal P o a w (.int .i64 n) := by
  obtain ⟨y, c, rfl⟩ := hl.h
  obtain ⟨e, he⟩ := hl.t
  unfold OpVal
  simp only [execOp, ho, resolve, invoke, builtin, Sem.run_bind, Sem.run_pure, Result.andThen_ok, List.map_toArray, List.map_cons, List.map_nil, hx.h, Builtin.len_, List.getElem?_toArray, List.getElem?_cons_zero, run_underlying he, goInt]

/-- v[:m] is v'. -/
class PreV (P : Program) (t : TypeId) (v : Value) (m : Int) (v' : outParam Value) : Prop where
  h : ∀ w, (Instr.sliceAt t v none (some (.int .i64 m)) none).run P w = .ok v' w
theorem run_prev (t : TypeId) (x y : Operand) (ho : o.op = .slice t x none (some y) none) {m : Int} {v' : Value} [hx : Ev a x v] [hy : Ev a y (.int .i64 m)] [hp : PreV P t v m v'] : OpVal P o a w v' := by
  unfold OpVal
  simp only [execOp, ho, hx.h, Option.map_none, Option.map_some, hy.h, Sem.run_bind, hp.h, Result.andThen_ok, Sem.run_pure]

/-- &v[i] -/
class IdxV (P : Program) (t : TypeId) (v : Value) (i : Int) (p : outParam Addr) : Prop where
  h : ∀ w, (Instr.indexAt t v (.int .i64 i)).run P w = .ok (.pointer (some p)) w
theorem run_idxv (t : TypeId) (x y : Operand) (ho : o.op = .indexAddr t x y) {i : Int} {p : Addr} [hx : Ev a x v] [hy : Ev a y (.int .i64 i)] [hp : IdxV P t v i p] : OpVal P o a w (.pointer (some p)) := by
  unfold OpVal
  simp only [execOp, ho, hx.h, hy.h, Sem.run_bind, hp.h, Result.andThen_ok, Sem.run_pure]

variable {ks : List Lk} {n b off : Nat} {F : Nat → Nat → Value}
theorem Flat.len {t e : TypeId} (h : Flat w ks v n b off F) (ht : P.underlying t = some (.slice e)) : LenV P t v n := by
  obtain ⟨x, c, rfl, _⟩ := h.v
  exact ⟨⟨x, c, rfl⟩, ⟨e, ht⟩⟩

theorem run_sizeOf_elem {e : TypeId} {m : Nat} (hs : (P.info? e).map (·.size) = some m) (w : World) : (sizeOf e).run P w = .ok m w := run_sizeOf' hs w

theorem Flat.idx {t e : TypeId} (h : Flat w ks v n b off F) (ht : P.underlying t = some (.slice e)) (hs : (P.info? e).map (·.size) = some ks.length) {i : Nat} (hi : i < n) : IdxV P t v i ⟨b, off + i * ks.length, none⟩ := by
  obtain ⟨x, c, rfl, _, _, hx⟩ := h.v
  rw [hx (by omega)]
  refine ⟨fun w => ?_⟩
  have h1 : i < n := hi
  have h2 : 0 ≤ (i : Int) := by omega
  simp [Instr.indexAt, asIntOf, run_underlying ht, h1, run_sizeOf_elem hs, Addr.add_lit]

theorem Flat.pre {t e : TypeId} (h : Flat w ks v n b off F) (ht : P.underlying t = some (.slice e)) (hs : (P.info? e).map (·.size) = some ks.length) {m : Nat} (hm : m ≤ n) : ∃ v', PreV P t v m v' ∧ Flat w ks v' m b off F := by
  obtain ⟨x, c, rfl, hc1, hc2, hx⟩ := h.v
  refine ⟨.slice x m c, ⟨fun w => ?_⟩, ⟨x, c, rfl, by omega, hc2, fun h0 => hx (by omega)⟩, fun i hi => h.c i (by omega), fun i hi => h.k i (by omega)⟩
  have h1 : m ≤ c := by omega
  have h2 : 0 ≤ (m : Int) := by omega
  have h3 : x.map (fun a => a.add 0) = x := by cases x <;> simp [Addr.add]
  simp [Instr.sliceAt, run_underlying ht, Instr.slice, Instr.sliceBounds, Instr.sliceBound, asIntOf, h1, run_sizeOf_elem hs, h3]

/-- One cell of element i. -/
theorem Flat.cellz (h : Flat w ks v n b off F) {z : Nat} (hz : ks.length = z) {i j : Nat} (hi : i < n) (hj : j < z) : Cell0 w b (off + i * z + j) (F i j) := ⟨by rw [← hz, Nat.add_assoc]; exact h.c i hi j (by omega)⟩
theorem Flat.idxz {t e : TypeId} (h : Flat w ks v n b off F) {z : Nat} (hz : ks.length = z) (ht : P.underlying t = some (.slice e)) (hs : (P.info? e).map (·.size) = some ks.length) {i : Nat} (hi : i < n) : IdxV P t v i ⟨b, off + i * z, none⟩ := by
  rw [← hz]; exact h.idx ht hs hi
theorem Flat.cell1 (h : Flat w ks v n b off F) (hz : ks.length = 1) {i : Nat} (hi : i < n) : Cell0 w b (off + i) (F i 0) := ⟨by
  have := h.c i hi 0 (by omega)
  rwa [hz, Nat.mul_one, Nat.add_zero] at this⟩
theorem Flat.idx1 {t e : TypeId} (h : Flat w ks v n b off F) (hz : ks.length = 1) (ht : P.underlying t = some (.slice e)) (hs : (P.info? e).map (·.size) = some ks.length) {i : Nat} (hi : i < n) : IdxV P t v i ⟨b, off + i, none⟩ := by
  have := h.idx ht hs hi
  rwa [hz, Nat.mul_one] at this
theorem Flat.cellsz (h : Flat w ks v n b off F) {z : Nat} (hz : ks.length = z) {i : Nat} (hi : i < n) : Cells0 w b (off + i * z) z ((List.range z).map (F i)).toArray :=
  ⟨fun j hj => by rw [← hz, Nat.add_assoc, h.c i hi j (by omega)]; simp [hj, hz], by simp⟩
theorem Flat.int (h : Flat w ks v n b off F) {i j : Nat} {k : IntKind} (hi : i < n) (hk : ks[j]? = some (.i k)) : ∃ x, F i j = .int k x ∧ (Lit.int k x).wf = true := h.k i hi j _ hk
theorem Flat.bool (h : Flat w ks v n b off F) {i j : Nat} (hi : i < n) (hk : ks[j]? = some .b) : ∃ x, F i j = .bool x := h.k i hi j _ hk
end
end Go.Mm
