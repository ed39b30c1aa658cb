/-
  More of the layer: a piece of the blocks brought to the front; regions whose end is one for all orders; pointers that may be nil.
-/
import Derived.Test.YtlpknbkgkhnfcaaIter
import Derived.Test.YtlpknbkgkhnfcaaArg
import Derived.Deep.RegionWith
import Derived.Laws.StructEq
set_option linter.unusedSimpArgs false
set_option linter.unusedVariables false
namespace Go.Mm
open Go Go.RowKit
section
variable {w0 w : World} {bs : List Nat} {H H' E E1 H1 : List Ent}
theorem St.perm (hS : St w0 bs w H) (hp : H.Perm H') : St w0 bs w H' :=
  ⟨hS.chg, fun e he => hS.get e (hp.symm.subset he), hp.pairwise hS.nd (fun hxy e => hxy e.symm), fun e he => hS.wr e (hp.symm.subset he)⟩
theorem St.front (hS : St w0 bs w H) [hc : Cut H E H1] : St w0 bs w (E ++ H1) := by
  obtain ⟨A, B, rfl, rfl⟩ := hc.h
  refine hS.perm ?_
  rw [← List.append_assoc, ← List.append_assoc]
  exact List.perm_append_comm.append_right B
theorem St.cell (hS : St w0 bs w H) {b off : Nat} {cs : Array Value} {T : TypeId} {v : Value} (h1 : Has H b cs T) (h2 : CellAt cs off v) : w.cell? ⟨b, off, none⟩ = some v := by
  rw [cell_of_has (hS.has h1)]; exact h2.h
instance (priority := 1200) pickNilApp {T H : List Ent} [h : Pick T H] : Pick ([] ++ T) H := h
instance (priority := 1200) pickConsApp {x : Ent} {l T H : List Ent} [h : Pick (x :: (l ++ T)) H] : Pick ((x :: l) ++ T) H := h
instance (priority := 700) pickSkip {x : Ent} {T H : List Ent} [h : Pick T H] : Pick T (x :: H) :=
  ⟨let ⟨R, hR⟩ := h.h; ⟨x :: R, List.perm_middle.trans (hR.cons x)⟩⟩
instance (priority := 650) pickSkipApp {E T H : List Ent} [h : Pick T H] : Pick T (E ++ H) :=
  ⟨let ⟨R, hR⟩ := h.h; ⟨E ++ R, by
    rw [← List.append_assoc]
    exact (List.perm_append_comm.append_right R).trans (by rw [List.append_assoc]; exact hR.append_left E)⟩⟩
instance (priority := 500) cutNilE {H : List Ent} : Cut H [] H := ⟨[], H, rfl, rfl⟩
instance (priority := 1050) cutSelf {E : List Ent} : Cut E E [] := ⟨[], [], by simp, rfl⟩
instance (priority := 600) pickLast {E H H1 : List Ent} [h1 : Cut H E H1] : Pick E H := ⟨let ⟨A, B, e1, e2⟩ := h1.h; ⟨A ++ B, by
  rw [e1, ← List.append_assoc, ← List.append_assoc]; exact List.perm_append_comm.append_right B⟩⟩
/-- What is known of a piece is known of the whole. -/
instance (priority := 850) hasAppL {E H : List Ent} {b : Nat} {cs : Array Value} {T : TypeId} [h : Has E b cs T] : Has (E ++ H) b cs T := ⟨let ⟨wr, hm⟩ := h.h; ⟨wr, List.mem_append_left _ hm⟩⟩
/-- What holds where a region with calls has ended: one for all orders. -/
def Rex {X : Type} (a : Act) (vals : X → List (Nat × Value)) (Φ : X → World → Prop) (a' : Act) (w' : World) : Prop := ∃ x, a' = putAll a (vals x) ∧ Φ x w'
theorem rex {X : Type} {a a' : Act} {vals : X → List (Nat × Value)} {Φ : X → World → Prop} {w' : World} (x : X) (h : a' = putAll a (vals x)) (h' : Φ x w') : Rex a vals Φ a' w' := ⟨x, h, h'⟩
theorem region_ex {P : Program} {ops : Array Oper} {a : Act} {Q : Exit → Act → World → Prop} {id : Nat} {X : Type} (vals : X → List (Nat × Value)) (Φ : X → World → Prop)
    (h : (Code.region id ops true).wp P (Exit.then (Rex a vals Φ) (fun _ _ _ => False)) a w)
    (hQ : ∀ x w', Φ x w' → Q .normal (putAll a (vals x)) w') : (Code.region id ops true).wp P Q a w :=
  wp_mono h (fun e a' w' hp => by
    cases e with
    | normal => obtain ⟨x, rfl, hs⟩ := hp; exact hQ x w' hs
    | _ => exact hp.elim)
end

/-- Two aggregates, held against each other. -/
class AggEq (P : Program) (t : TypeId) (x y : Array Value) (b : outParam Bool) : Prop where
  h : ∀ w, (binOp .eql t (.agg x) (.agg y)).run P w = .ok (.bool b) w
  h' : ∀ w, (binOp .neq t (.agg x) (.agg y)).run P w = .ok (.bool (!b)) w
  g : P.eqGuardType P.depth t = false
theorem run_aeq {P : Program} {o : Oper} {a : Act} {w : World} (t t' : TypeId) (x y : Operand) (ho : o.op = .binOp .eql t x y t') {u v : Array Value} [hx : Ev a x (.agg u)] [hy : Ev a y (.agg v)] {b : Bool} [hq : AggEq P t u v b] : OpVal P o a w (.bool b) := by
  unfold OpVal
  simp only [execOp, ho, hx.h, hy.h, Sem.run_bind, run_eqGuard_agg w .eql t x y u v hq.g, hq.h, Result.andThen_ok, Sem.run_pure]
class NotB (b : Bool) (c : outParam Bool) : Prop where
  h : (!b) = c
instance notT : NotB true false := ⟨rfl⟩
instance notF : NotB false true := ⟨rfl⟩
instance (priority := 500) notX {b : Bool} : NotB b (!b) := ⟨rfl⟩
theorem run_ane {P : Program} {o : Oper} {a : Act} {w : World} (t t' : TypeId) (x y : Operand) (ho : o.op = .binOp .neq t x y t') {u v : Array Value} [hx : Ev a x (.agg u)] [hy : Ev a y (.agg v)] {b c : Bool} [hq : AggEq P t u v b] [hn : NotB b c] : OpVal P o a w (.bool c) := by
  unfold OpVal
  simp only [execOp, ho, hx.h, hy.h, Sem.run_bind, run_eqGuard_agg w .neq t x y u v hq.g, hq.h', Result.andThen_ok, Sem.run_pure, hn.h]
/-! Flat structs of integers and bools, held against each other -/
theorem run_part_scalar {P : Program} {t : TypeId} (hs : ScalarT P t) {xs : Array Value} {off : Nat} {v : Value} (h : xs[off]? = some v) (w : World) : (part t xs off).run P w = .ok v w := by
  simp [part, hs.run, h]
/-- Two cells held against each other. -/
class CellEq (P : Program) (t : TypeId) (x y : Value) (b : outParam Bool) : Prop where
  h : ∀ (d : Nat) (w : World), (Op.equalIn (d + 1) t x y).run P w = .ok b w
  s : ScalarT P t
/-- The fields that are still to come: their types and cells. -/
class EqSp (P : Program) (l : List (TypeId × Nat)) (xs ys : Array Value) (b : outParam Bool) : Prop where
  h : ∀ (d : Nat) (w : World) (fs : List Field), fs.map (fun f => (f.name == "_", f.type, f.offset)) = l.map (fun x => (false, x.1, x.2)) → (Op.eqFields (d + 1) xs ys fs).run P w = .ok b w
instance eqspNil {P : Program} {xs ys : Array Value} : EqSp P [] xs ys true := ⟨fun d w fs h => by
  obtain rfl : fs = [] := by simpa using h
  rfl⟩
instance eqspCons {P : Program} {t : TypeId} {o : Nat} {l : List (TypeId × Nat)} {xs ys : Array Value} {u v : Value} {b b' : Bool} [h1 : CellAt xs o u] [h2 : CellAt ys o v] [hc : CellEq P t u v b] [h : EqSp P l xs ys b'] :
    EqSp P ((t, o) :: l) xs ys (b && b') := ⟨fun d w fs hf => by
  cases fs with
  | nil => simp at hf
  | cons f fs =>
    simp only [List.map_cons, List.cons.injEq, Prod.mk.injEq] at hf
    obtain ⟨⟨hn, ht, ho⟩, hf⟩ := hf
    have hn' : f.name ≠ "_" := by simpa using hn
    have ih := h.h d w fs hf
    simp only [Op.eqFields, if_pos hn', ht, ho, Sem.run_bind, run_part_scalar hc.s h1.h, run_part_scalar hc.s h2.h, Result.andThen_ok, hc.h, Sem.run_ite, Sem.run_pure, ih]
    cases b <;> simp⟩
theorem aggEq_of {P : Program} {t : TypeId} (l : List (TypeId × Nat)) (ht : P.underlying t = some (.struct (P.fieldsOf t))) (hp : P.stoodInHeld t = false) (hg : P.eqGuardType P.depth t = false)
    (hl : (P.fieldsOf t).toList.map (fun f => (f.name == "_", f.type, f.offset)) = l.map (fun x => (false, x.1, x.2))) {xs ys : Array Value} {b : Bool} [h : EqSp P l xs ys b] : AggEq P t xs ys b := by
  have hr : ∀ w, (Op.equalIn 10000 t (.agg xs) (.agg ys)).run P w = .ok b w := fun w => by
    rw [run_equalIn_agg w 9999 t _ _ ht hp]
    exact h.h 9998 w _ hl
  exact ⟨fun w => by rw [run_eql_struct, hr]; rfl, fun w => by rw [run_neq_struct, hr]; rfl, hg⟩
theorem cellEq_int {P : Program} {t : TypeId} {k k' : IntKind} {a b : Int} (ht : P.underlying t = some (.int k')) (hs : ScalarT P t) : CellEq P t (.int k a) (.int k b) (decide (a = b)) :=
  ⟨fun d w => by rw [run_equalIn_int w d t k k' a b ht]; rfl, hs⟩
theorem cellEq_bool {P : Program} {t : TypeId} {a b : Bool} (ht : P.underlying t = some .bool) (hs : ScalarT P t) : CellEq P t (.bool a) (.bool b) (a == b) :=
  ⟨fun d w => run_equalIn_bool' w d t a b ht, hs⟩
theorem res_tmp1 {P : Program} {fn : Func} {p : Tmp} (h : fn.results = #[.tmp p]) {tmps : List Value} {v : Value} [hp : Nth tmps p v] {w : World} : (results fn tmps.toArray).run P w = .ok v w := by
  have h1 : tmps[p]?.getD undef = v := by simp [hp.h]
  simp [results, h, h1]
theorem Sl.one {e : TypeId} {size n : Nat} {v : Value} {xs : List Value} {E : List Ent} (h : Sl e size v n xs E) : OneCell v := by
  rcases h.or with ⟨rfl, _⟩ | ⟨g, cap, sp, rfl, _⟩ <;> infer_instance
/-! ### Blocks with rows of one width, something ahead and something behind -/
section
variable {α : Type} {f : α → List Value} {z : Nat}
theorem flat_len (hf : ∀ a, (f a).length = z) : ∀ R : List α, (R.flatMap f).length = R.length * z
  | [] => by simp
  | a :: R => by rw [List.flatMap_cons, List.length_append, hf, flat_len hf R, List.length_cons, Nat.add_mul, Nat.one_mul, Nat.add_comm]
theorem flat_get (hf : ∀ a, (f a).length = z) : ∀ (R : List α) (i j : Nat) (a : α), R[i]? = some a → j < z → (R.flatMap f)[i * z + j]? = (f a)[j]?
  | [], i, j, a, h, _ => by simp at h
  | b :: R, 0, j, a, h, hj => by
    simp only [List.getElem?_cons_zero, Option.some.injEq] at h
    subst h
    rw [List.flatMap_cons, Nat.zero_mul, Nat.zero_add, List.getElem?_append_left (by rw [hf]; exact hj)]
  | b :: R, i + 1, j, a, h, hj => by
    rw [List.getElem?_cons_succ] at h
    rw [List.flatMap_cons, List.getElem?_append_right (by rw [hf, Nat.add_mul]; omega), hf, show (i + 1) * z + j - z = i * z + j by rw [Nat.add_mul]; omega]
    exact flat_get hf R i j a h hj
theorem flat_set (hf : ∀ a, (f a).length = z) {v : Value} {j : Nat} (hj : j < z) {a a' : α} (ha : (f a).set j v = f a') : ∀ (R : List α) (i : Nat), R[i]? = some a → (R.flatMap f).set (i * z + j) v = (R.set i a').flatMap f
  | [], i, h => by simp at h
  | b :: R, 0, h => by
    simp only [List.getElem?_cons_zero, Option.some.injEq] at h
    subst h
    rw [List.flatMap_cons, List.set_cons_zero, List.flatMap_cons, Nat.zero_mul, Nat.zero_add, List.set_append_left _ _ (by rw [hf]; exact hj), ha]
  | b :: R, i + 1, h => by
    rw [List.getElem?_cons_succ] at h
    rw [List.flatMap_cons, List.set_cons_succ, List.flatMap_cons, List.set_append_right _ _ (by rw [hf, Nat.add_mul]; omega), hf, show (i + 1) * z + j - z = i * z + j by rw [Nat.add_mul]; omega,
      flat_set hf hj ha R i h]
theorem flat_sets (hf : ∀ a, (f a).length = z) {a' : α} : ∀ (R : List α) (i : Nat), i < R.length → (R.flatMap f).take (i * z) ++ f a' ++ (R.flatMap f).drop (i * z + z) = (R.set i a').flatMap f
  | [], i, h => by simp at h
  | b :: R, 0, h => by
    rw [Nat.zero_mul, List.take_zero, Nat.zero_add, List.flatMap_cons, List.drop_left' (hf b), List.set_cons_zero, List.flatMap_cons, List.nil_append]
  | b :: R, i + 1, h => by
    have ih := flat_sets hf (a' := a') R i (by simpa using h)
    rw [List.flatMap_cons, List.set_cons_succ, List.flatMap_cons, show (i + 1) * z = (f b).length + i * z by rw [hf, Nat.add_mul]; omega, List.take_length_add_append, Nat.add_assoc, List.drop_length_add_append,
      List.append_assoc, List.append_assoc, ← ih, List.append_assoc]

def blk (pre : List Value) (f : α → List Value) (R : List α) (post : List Value) : Array Value := (pre ++ (R.flatMap f ++ post)).toArray
variable {pre post : List Value} {R : List α}
theorem blk_size (hf : ∀ a, (f a).length = z) : (blk pre f R post).size = pre.length + (R.length * z + post.length) := by
  simp [blk, flat_len hf]
theorem blkCells (hf : ∀ a, (f a).length = z) {i off : Nat} {a : α} (h : R[i]? = some a) (ho : off = pre.length + i * z) : CellsAt (blk pre f R post) off z (f a).toArray := by
  subst ho
  have hi := (List.getElem?_eq_some_iff.1 h).1
  refine ⟨fun j hj => ?_, by simp [hf]⟩
  have hl : i * z + j < (R.flatMap f).length := by
    rw [flat_len hf]
    have : (i + 1) * z ≤ R.length * z := Nat.mul_le_mul_right _ hi
    rw [Nat.add_mul] at this
    omega
  unfold blk
  rw [List.getElem?_toArray, List.getElem?_append_right (by omega), show pre.length + i * z + j - pre.length = i * z + j by omega, List.getElem?_append_left hl, flat_get hf R i j a h hj, List.getElem?_toArray]
theorem blkCell (hf : ∀ a, (f a).length = z) {i j off : Nat} {a : α} {v : Value} (h : R[i]? = some a) (hj : j < z) (hv : (f a)[j]? = some v) (ho : off = pre.length + i * z + j) : CellAt (blk pre f R post) off v := by
  subst ho
  have := (blkCells (pre := pre) (post := post) hf h rfl).h j hj
  exact ⟨by rw [this, List.getElem?_toArray, hv]⟩
theorem blkSet (hf : ∀ a, (f a).length = z) {i j off : Nat} {a a' : α} {v : Value} (h : R[i]? = some a) (hj : j < z) (hv : (f a).set j v = f a') (ho : off = pre.length + i * z + j) : SetAt (blk pre f R post) off v (blk pre f (R.set i a') post) := by
  subst ho
  have hi := (List.getElem?_eq_some_iff.1 h).1
  have hl : i * z + j < (R.flatMap f).length := by
    rw [flat_len hf]
    have : (i + 1) * z ≤ R.length * z := Nat.mul_le_mul_right _ hi
    rw [Nat.add_mul] at this
    omega
  refine ⟨?_, ?_⟩
  · unfold blk
    rw [List.setIfInBounds_toArray, List.set_append_right _ _ (by omega), show pre.length + i * z + j - pre.length = i * z + j by omega, List.set_append_left _ _ hl, flat_set hf hj hv R i h]
  · rw [blk_size hf]; rw [flat_len hf] at hl; omega
theorem blkSets (hf : ∀ a, (f a).length = z) {i off : Nat} {a' : α} (hi : i < R.length) (ho : off = pre.length + i * z) : SetsAt (blk pre f R post) off (f a').toArray (blk pre f (R.set i a') post) := by
  subst ho
  have hl : i * z + z ≤ (R.flatMap f).length := by
    rw [flat_len hf]
    have : (i + 1) * z ≤ R.length * z := Nat.mul_le_mul_right _ hi
    rw [Nat.add_mul] at this
    omega
  refine ⟨?_, ?_⟩
  · unfold blk
    rw [List.size_toArray, hf, Nat.add_assoc, List.take_length_add_append, List.drop_length_add_append, List.take_append_of_le_length (by omega), List.drop_append_of_le_length hl, ← flat_sets hf R i hi]
    simp
  · rw [blk_size hf, List.size_toArray, hf]; rw [flat_len hf] at hl; omega
theorem blkPre {j : Nat} {v : Value} (h : pre[j]? = some v) : CellAt (blk pre f R post) j v :=
  ⟨by unfold blk; rw [List.getElem?_toArray, List.getElem?_append_left (List.getElem?_eq_some_iff.1 h).1, h]⟩
theorem blkPreSet {j : Nat} {v : Value} {pre' : List Value} (h : j < pre.length) (he : pre.set j v = pre') : SetAt (blk pre f R post) j v (blk pre' f R post) :=
  ⟨by unfold blk; rw [List.setIfInBounds_toArray, List.set_append_left _ _ h, he], by simp [blk]; omega⟩
theorem blkOnes (hp : ∀ v ∈ pre, v.oneCell' = true) (hf : ∀ a, ∀ v ∈ f a, v.oneCell' = true) (hq : ∀ v ∈ post, v.oneCell' = true) : OneCells (blk pre f R post) := ⟨by
  intro v hv
  simp only [blk, List.mem_append, List.mem_flatMap] at hv
  rcases hv with h | ⟨a, _, h⟩ | h
  · exact hp v h
  · exact hf a v h
  · exact hq v h⟩
theorem blkAll (hf : ∀ a, (f a).length = z) {n : Nat} (hn : pre.length + (R.length * z + post.length) = n) : CellsAt (blk pre f R post) 0 n (blk pre f R post) :=
  ⟨fun j _ => by rw [Nat.zero_add], by rw [blk_size hf]; exact hn⟩
theorem blkSize (hf : ∀ a, (f a).length = z) {n : Nat} (hn : pre.length + (R.length * z + post.length) = n) : SizeIs (blk pre f R post) n := ⟨by rw [blk_size hf]; exact hn⟩
theorem blkOver (hf : ∀ a, (f a).length = z) {cs : Array Value} (hn : cs.size = pre.length + (R.length * z + post.length)) : SetsAt cs 0 (blk pre f R post) (blk pre f R post) :=
  ⟨by rw [blk_size hf, Nat.zero_add, ← hn, List.drop_of_length_le (by simp)]; simp, by rw [blk_size hf, hn]; omega⟩
end
end Go.Mm
