/-
  More of the layer: a piece of the blocks brought to the front; regions whose end is one for all orders; pointers that may be nil.
-/
import Derived.Test.YtpfcjlbgljcooaaIter
import Derived.Deep.RegionWith
namespace Go.Mm
open Go Go.RowKit
section
variable {w0 w : World} {bs : List Nat} {H H' E E1 H1 : List Ent}
theorem St.perm (hS : St w0 bs w H) (hp : H.Perm H') : St w0 bs w H' :=
  ⟨hS.chg, fun e he => hS.get e (hp.symm.subset he), hp.pairwise hS.nd (fun hxy e => hxy e.symm), fun e he => hS.wr e (hp.symm.subset he)⟩
theorem St.front (hS : St w0 bs w H) [hc : Cut H E H1] : St w0 bs w (E ++ H1) := by
  obtain ⟨A, B, rfl, rfl⟩ := hc.h
  refine hS.perm ?_
  rw [← List.append_assoc, ← List.append_assoc]
  exact List.perm_append_comm.append_right B
theorem St.cell (hS : St w0 bs w H) {b off : Nat} {cs : Array Value} {T : TypeId} {v : Value} (h1 : Has H b cs T) (h2 : CellAt cs off v) : w.cell? ⟨b, off, none⟩ = some v := by
  rw [cell_of_has (hS.has h1)]; exact h2.h
instance (priority := 700) pickSkip {x : Ent} {T H : List Ent} [h : Pick T H] : Pick T (x :: H) :=
  ⟨let ⟨R, hR⟩ := h.h; ⟨x :: R, List.perm_middle.trans (hR.cons x)⟩⟩
instance (priority := 650) pickSkipApp {E T H : List Ent} [h : Pick T H] : Pick T (E ++ H) :=
  ⟨let ⟨R, hR⟩ := h.h; ⟨E ++ R, by
    rw [← List.append_assoc]
    exact (List.perm_append_comm.append_right R).trans (by rw [List.append_assoc]; exact hR.append_left E)⟩⟩
instance (priority := 1050) cutSelf {E : List Ent} : Cut E E [] := ⟨[], [], by simp, rfl⟩
instance (priority := 600) pickLast {E H H1 : List Ent} [h1 : Cut H E H1] : Pick E H := ⟨let ⟨A, B, e1, e2⟩ := h1.h; ⟨A ++ B, by
  rw [e1, ← List.append_assoc, ← List.append_assoc]; exact List.perm_append_comm.append_right B⟩⟩
/-- What is known of a piece is known of the whole. -/
instance (priority := 850) hasAppL {E H : List Ent} {b : Nat} {cs : Array Value} {T : TypeId} [h : Has E b cs T] : Has (E ++ H) b cs T := ⟨let ⟨wr, hm⟩ := h.h; ⟨wr, List.mem_append_left _ hm⟩⟩
/-- What holds where a region with calls has ended: one for all orders. -/
def Rex {X : Type} (a : Act) (vals : X → List (Nat × Value)) (Φ : X → World → Prop) (a' : Act) (w' : World) : Prop := ∃ x, a' = putAll a (vals x) ∧ Φ x w'
theorem rex {X : Type} {a a' : Act} {vals : X → List (Nat × Value)} {Φ : X → World → Prop} {w' : World} (x : X) (h : a' = putAll a (vals x)) (h' : Φ x w') : Rex a vals Φ a' w' := ⟨x, h, h'⟩
theorem region_ex {P : Program} {ops : Array Oper} {a : Act} {Q : Exit → Act → World → Prop} {id : Nat} {X : Type} (vals : X → List (Nat × Value)) (Φ : X → World → Prop)
    (h : (Code.region id ops true).wp P (Exit.then (Rex a vals Φ) (fun _ _ _ => False)) a w)
    (hQ : ∀ x w', Φ x w' → Q .normal (putAll a (vals x)) w') : (Code.region id ops true).wp P Q a w :=
  wp_mono h (fun e a' w' hp => by
    cases e with
    | normal => obtain ⟨x, rfl, hs⟩ := hp; exact hQ x w' hs
    | _ => exact hp.elim)
end

/-! ### Blocks with rows of one width, something ahead and something behind -/
section
variable {α : Type} {f : α → List Value} {z : Nat}
theorem flat_len (hf : ∀ a, (f a).length = z) : ∀ R : List α, (R.flatMap f).length = R.length * z
  | [] => by simp
  | a :: R => by rw [List.flatMap_cons, List.length_append, hf, flat_len hf R, List.length_cons, Nat.add_mul, Nat.one_mul, Nat.add_comm]
theorem flat_get (hf : ∀ a, (f a).length = z) : ∀ (R : List α) (i j : Nat) (a : α), R[i]? = some a → j < z → (R.flatMap f)[i * z + j]? = (f a)[j]?
  | [], i, j, a, h, _ => by simp at h
  | b :: R, 0, j, a, h, hj => by
    simp only [List.getElem?_cons_zero, Option.some.injEq] at h
    subst h
    rw [List.flatMap_cons, Nat.zero_mul, Nat.zero_add, List.getElem?_append_left (by rw [hf]; exact hj)]
  | b :: R, i + 1, j, a, h, hj => by
    rw [List.getElem?_cons_succ] at h
    rw [List.flatMap_cons, List.getElem?_append_right (by rw [hf, Nat.add_mul]; omega), hf, show (i + 1) * z + j - z = i * z + j by rw [Nat.add_mul]; omega]
    exact flat_get hf R i j a h hj
theorem flat_set (hf : ∀ a, (f a).length = z) {v : Value} {j : Nat} (hj : j < z) {a a' : α} (ha : (f a).set j v = f a') : ∀ (R : List α) (i : Nat), R[i]? = some a → (R.flatMap f).set (i * z + j) v = (R.set i a').flatMap f
  | [], i, h => by simp at h
  | b :: R, 0, h => by
    simp only [List.getElem?_cons_zero, Option.some.injEq] at h
    subst h
    rw [List.flatMap_cons, List.set_cons_zero, List.flatMap_cons, Nat.zero_mul, Nat.zero_add, List.set_append_left _ _ (by rw [hf]; exact hj), ha]
  | b :: R, i + 1, h => by
    rw [List.getElem?_cons_succ] at h
    rw [List.flatMap_cons, List.set_cons_succ, List.flatMap_cons, List.set_append_right _ _ (by rw [hf, Nat.add_mul]; omega), hf, show (i + 1) * z + j - z = i * z + j by rw [Nat.add_mul]; omega,
      flat_set hf hj ha R i h]
theorem flat_sets (hf : ∀ a, (f a).length = z) {a' : α} : ∀ (R : List α) (i : Nat), i < R.length → (R.flatMap f).take (i * z) ++ f a' ++ (R.flatMap f).drop (i * z + z) = (R.set i a').flatMap f
  | [], i, h => by simp at h
  | b :: R, 0, h => by
    rw [Nat.zero_mul, List.take_zero, Nat.zero_add, List.flatMap_cons, List.drop_left' (hf b), List.set_cons_zero, List.flatMap_cons, List.nil_append]
  | b :: R, i + 1, h => by
    have ih := flat_sets hf (a' := a') R i (by simpa using h)
    rw [List.flatMap_cons, List.set_cons_succ, List.flatMap_cons, show (i + 1) * z = (f b).length + i * z by rw [hf, Nat.add_mul]; omega, List.take_length_add_append, Nat.add_assoc, List.drop_length_add_append,
      List.append_assoc, List.append_assoc, ← ih, List.append_assoc]

def blk (pre : List Value) (f : α → List Value) (R : List α) (post : List Value) : Array Value := (pre ++ (R.flatMap f ++ post)).toArray
variable {pre post : List Value} {R : List α}
theorem blk_size (hf : ∀ a, (f a).length = z) : (blk pre f R post).size = pre.length + (R.length * z + post.length) := by
  simp [blk, flat_len hf]
theorem blkCells (hf : ∀ a, (f a).length = z) {i off : Nat} {a : α} (h : R[i]? = some a) (ho : off = pre.length + i * z) : CellsAt (blk pre f R post) off z (f a).toArray := by
  subst ho
  have hi := (List.getElem?_eq_some_iff.1 h).1
  refine ⟨fun j hj => ?_, by simp [hf]⟩
  have hl : i * z + j < (R.flatMap f).length := by
    rw [flat_len hf]
    have : (i + 1) * z ≤ R.length * z := Nat.mul_le_mul_right _ hi
    rw [Nat.add_mul] at this
    omega
  unfold blk
  rw [List.getElem?_toArray, List.getElem?_append_right (by omega), show pre.length + i * z + j - pre.length = i * z + j by omega, List.getElem?_append_left hl, flat_get hf R i j a h hj, List.getElem?_toArray]
theorem blkCell (hf : ∀ a, (f a).length = z) {i j off : Nat} {a : α} {v : Value} (h : R[i]? = some a) (hj : j < z) (hv : (f a)[j]? = some v) (ho : off = pre.length + i * z + j) : CellAt (blk pre f R post) off v := by
  subst ho
  have := (blkCells (pre := pre) (post := post) hf h rfl).h j hj
  exact ⟨by rw [this, List.getElem?_toArray, hv]⟩
theorem blkSet (hf : ∀ a, (f a).length = z) {i j off : Nat} {a a' : α} {v : Value} (h : R[i]? = some a) (hj : j < z) (hv : (f a).set j v = f a') (ho : off = pre.length + i * z + j) : SetAt (blk pre f R post) off v (blk pre f (R.set i a') post) := by
  subst ho
  have hi := (List.getElem?_eq_some_iff.1 h).1
  have hl : i * z + j < (R.flatMap f).length := by
    rw [flat_len hf]
    have : (i + 1) * z ≤ R.length * z := Nat.mul_le_mul_right _ hi
    rw [Nat.add_mul] at this
    omega
  refine ⟨?_, ?_⟩
  · unfold blk
    rw [List.setIfInBounds_toArray, List.set_append_right _ _ (by omega), show pre.length + i * z + j - pre.length = i * z + j by omega, List.set_append_left _ _ hl, flat_set hf hj hv R i h]
  · rw [blk_size hf]; rw [flat_len hf] at hl; omega
theorem blkSets (hf : ∀ a, (f a).length = z) {i off : Nat} {a' : α} (hi : i < R.length) (ho : off = pre.length + i * z) : SetsAt (blk pre f R post) off (f a').toArray (blk pre f (R.set i a') post) := by
  subst ho
  have hl : i * z + z ≤ (R.flatMap f).length := by
    rw [flat_len hf]
    have : (i + 1) * z ≤ R.length * z := Nat.mul_le_mul_right _ hi
    rw [Nat.add_mul] at this
    omega
  refine ⟨?_, ?_⟩
  · unfold blk
    rw [List.size_toArray, hf, Nat.add_assoc, List.take_length_add_append, List.drop_length_add_append, List.take_append_of_le_length (by omega), List.drop_append_of_le_length hl, ← flat_sets hf R i hi]
    simp
  · rw [blk_size hf, List.size_toArray, hf]; rw [flat_len hf] at hl; omega
theorem blkPre {j : Nat} {v : Value} (h : pre[j]? = some v) : CellAt (blk pre f R post) j v :=
  ⟨by unfold blk; rw [List.getElem?_toArray, List.getElem?_append_left (List.getElem?_eq_some_iff.1 h).1, h]⟩
theorem blkPreSet {j : Nat} {v : Value} {pre' : List Value} (h : j < pre.length) (he : pre.set j v = pre') : SetAt (blk pre f R post) j v (blk pre' f R post) :=
  ⟨by unfold blk; rw [List.setIfInBounds_toArray, List.set_append_left _ _ h, he], by simp [blk]; omega⟩
theorem blkOnes (hp : ∀ v ∈ pre, v.oneCell' = true) (hf : ∀ a, ∀ v ∈ f a, v.oneCell' = true) (hq : ∀ v ∈ post, v.oneCell' = true) : OneCells (blk pre f R post) := ⟨by
  intro v hv
  simp only [blk, List.mem_append, List.mem_flatMap] at hv
  rcases hv with h | ⟨a, _, h⟩ | h
  · exact hp v h
  · exact hf a v h
  · exact hq v h⟩
theorem blkAll (hf : ∀ a, (f a).length = z) {n : Nat} (hn : pre.length + (R.length * z + post.length) = n) : CellsAt (blk pre f R post) 0 n (blk pre f R post) :=
  ⟨fun j _ => by rw [Nat.zero_add], by rw [blk_size hf]; exact hn⟩
theorem blkSize (hf : ∀ a, (f a).length = z) {n : Nat} (hn : pre.length + (R.length * z + post.length) = n) : SizeIs (blk pre f R post) n := ⟨by rw [blk_size hf]; exact hn⟩
theorem blkOver (hf : ∀ a, (f a).length = z) {cs : Array Value} (hn : cs.size = pre.length + (R.length * z + post.length)) : SetsAt cs 0 (blk pre f R post) (blk pre f R post) :=
  ⟨by rw [blk_size hf, Nat.zero_add, ← hn, List.drop_of_length_le (by simp)]; simp, by rw [blk_size hf, hn]; omega⟩
end
end Go.Mm
