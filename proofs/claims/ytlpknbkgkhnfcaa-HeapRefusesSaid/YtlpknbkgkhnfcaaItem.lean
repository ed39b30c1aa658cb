/-
  Regions with ghosts, made handy: the blocks that change are items, each with stages; the steps of the walk.
-/
import Derived.Test.YtlpknbkgkhnfcaaFree
import Derived.IntWalk
set_option linter.unusedSimpArgs false
set_option linter.unusedVariables false
namespace Go.Mm
open Go Go.RowKit

/-- What an operation hands back that was not known ahead, and the blocks that it leaves. -/
abbrev Gx := Value × List Ent
/-- A piece of the blocks: what it is at first, and the operations that turn it, one behind the other. -/
structure Item where
  x0 : Gx
  st : List (Nat × (Gx → Gx → Prop))
def curI (G : Gs) (χ : Nat → Gx) : Gx → List (Nat × (Gx → Gx → Prop)) → Gx
  | x, [] => x
  | x, (k, _) :: l => if G k then curI G χ (χ k) l else x
def okI (G : Gs) (χ : Nat → Gx) : Gx → List (Nat × (Gx → Gx → Prop)) → Prop
  | _, [] => True
  | x, (k, p) :: l => if G k then p x (χ k) ∧ okI G χ (χ k) l else True
/-- The piece behind some stages. -/
def lastX (χ : Nat → Gx) : Gx → List (Nat × (Gx → Gx → Prop)) → Gx
  | x, [] => x
  | _, (k, _) :: l => lastX χ (χ k) l
def okL (χ : Nat → Gx) : Gx → List (Nat × (Gx → Gx → Prop)) → Prop
  | _, [] => True
  | x, (k, p) :: l => p x (χ k) ∧ okL χ (χ k) l
def Item.cur (it : Item) (G : Gs) (χ : Nat → Gx) : List Ent := (curI G χ it.x0 it.st).2
def CI (w0 : World) (bs : List Nat) (items : List Item) (H : List Ent) (G : Gs) (χ : Nat → Gx) (w : World) : Prop :=
  (∀ it ∈ items, okI G χ it.x0 it.st) ∧ St w0 bs w (items.flatMap (fun it => it.cur G χ) ++ H)
def mI (items : List Item) (i : Nat) : Bool := items.any fun it => it.st.any fun s => s.1 == i

section
variable {G : Gs} {χ : Nat → Gx} {k : Nat} {x : Gx}
theorem cur_other : ∀ (l : List (Nat × (Gx → Gx → Prop))) (b : Bool) (y : Gx), (∀ s ∈ l, s.1 ≠ k) → curI (up G k b) (up χ k x) y l = curI G χ y l
  | [], _, _, _ => rfl
  | (j, p) :: l, b, y, h => by
    have hj : j ≠ k := h (j, p) (by simp)
    unfold curI
    rw [show up G k b j = G j from if_neg hj, up_other χ x hj, cur_other l b (χ j) (fun s hs => h s (by simp [hs]))]
theorem ok_other : ∀ (l : List (Nat × (Gx → Gx → Prop))) (b : Bool) (y : Gx), (∀ s ∈ l, s.1 ≠ k) → okI (up G k b) (up χ k x) y l = okI G χ y l
  | [], _, _, _ => rfl
  | (j, p) :: l, b, y, h => by
    have hj : j ≠ k := h (j, p) (by simp)
    unfold okI
    rw [show up G k b j = G j from if_neg hj, up_other χ x hj, ok_other l b (χ j) (fun s hs => h s (by simp [hs]))]
theorem cur_before : ∀ (l1 l2 : List (Nat × (Gx → Gx → Prop))) (p : Gx → Gx → Prop) (y : Gx), (∀ s ∈ l1, G s.1 = true) → G k = false → curI G χ y (l1 ++ (k, p) :: l2) = lastX χ y l1
  | [], l2, p, y, _, hk => by simp [curI, lastX, hk]
  | (j, q) :: l1, l2, p, y, h, hk => by
    have hj : G j = true := h (j, q) (by simp)
    rw [List.cons_append]
    unfold curI lastX
    rw [if_pos hj]
    exact cur_before l1 l2 p (χ j) (fun s hs => h s (by simp [hs])) hk
theorem cur_all : ∀ (l : List (Nat × (Gx → Gx → Prop))) (y : Gx), (∀ s ∈ l, G s.1 = true) → curI G χ y l = lastX χ y l
  | [], _, _ => rfl
  | (j, q) :: l, y, h => by
    unfold curI lastX
    rw [if_pos (h (j, q) (by simp))]
    exact cur_all l (χ j) (fun s hs => h s (by simp [hs]))
theorem ok_all : ∀ (l : List (Nat × (Gx → Gx → Prop))) (y : Gx), (∀ s ∈ l, G s.1 = true) → okI G χ y l = okL χ y l
  | [], _, _ => rfl
  | (j, q) :: l, y, h => by
    unfold okI okL
    rw [if_pos (h (j, q) (by simp)), ok_all l (χ j) (fun s hs => h s (by simp [hs]))]
theorem ok_before : ∀ (l1 l2 : List (Nat × (Gx → Gx → Prop))) (p : Gx → Gx → Prop) (y : Gx), (∀ s ∈ l1, G s.1 = true) → G k = false → okI G χ y (l1 ++ (k, p) :: l2) → okL χ y l1
  | [], l2, p, y, _, hk, _ => trivial
  | (j, q) :: l1, l2, p, y, h, hk, ho => by
    have hj : G j = true := h (j, q) (by simp)
    rw [List.cons_append] at ho
    unfold okI at ho
    rw [if_pos hj] at ho
    exact ⟨ho.1, ok_before l1 l2 p (χ j) (fun s hs => h s (by simp [hs])) hk ho.2⟩
theorem cur_after : ∀ (l1 l2 : List (Nat × (Gx → Gx → Prop))) (p : Gx → Gx → Prop) (y : Gx), (∀ s ∈ l1, G s.1 = true ∧ s.1 ≠ k) → (∀ s ∈ l2, G s.1 = false ∧ s.1 ≠ k) → curI (up G k true) (up χ k x) y (l1 ++ (k, p) :: l2) = x
  | [], l2, p, y, _, h2 => by
    rw [List.nil_append]
    unfold curI
    rw [if_pos (up_same G k true), up_same]
    cases l2 with
    | nil => rfl
    | cons s l2 =>
      obtain ⟨j, q⟩ := s
      obtain ⟨h3, h4⟩ := h2 (j, q) (by simp)
      unfold curI
      rw [show up G k true j = G j from if_neg h4, h3]
      rfl
  | (j, q) :: l1, l2, p, y, h, h2 => by
    obtain ⟨h3, h4⟩ := h (j, q) (by simp)
    rw [List.cons_append]
    unfold curI
    rw [if_pos (show up G k true j = true from (if_neg h4).trans h3)]
    exact cur_after l1 l2 p _ (fun s hs => h s (by simp [hs])) h2
theorem ok_after : ∀ (l1 l2 : List (Nat × (Gx → Gx → Prop))) (p : Gx → Gx → Prop) (y : Gx), (∀ s ∈ l1, G s.1 = true ∧ s.1 ≠ k) → (∀ s ∈ l2, G s.1 = false ∧ s.1 ≠ k) → okL χ y l1 → p (lastX χ y l1) x → okI (up G k true) (up χ k x) y (l1 ++ (k, p) :: l2)
  | [], l2, p, y, _, h2, _, hp => by
    rw [List.nil_append]
    unfold okI
    rw [if_pos (up_same G k true), up_same]
    refine ⟨hp, ?_⟩
    cases l2 with
    | nil => trivial
    | cons s l2 =>
      obtain ⟨j, q⟩ := s
      obtain ⟨h3, h4⟩ := h2 (j, q) (by simp)
      unfold okI
      rw [show up G k true j = G j from if_neg h4, h3]
      trivial
  | (j, q) :: l1, l2, p, y, h, h2, ho, hp => by
    obtain ⟨h3, h4⟩ := h (j, q) (by simp)
    rw [List.cons_append]
    unfold okI
    rw [if_pos (show up G k true j = true from (if_neg h4).trans h3), up_other χ x h4]
    exact ⟨ho.1, ok_after l1 l2 p _ (fun s hs => h s (by simp [hs])) h2 ho.2 hp⟩
end

section
variable {w0 w : World} {bs : List Nat} {H : List Ent}
theorem split_at {α : Type} {l : List α} {n : Nat} {a : α} (h : l[n]? = some a) : l = l.take n ++ a :: l.drop (n + 1) := by
  obtain ⟨hn, he⟩ := List.getElem?_eq_some_iff.1 h
  rw [← he, ← List.drop_eq_getElem_cons hn, List.take_append_drop]
theorem st_drop {A B : List Ent} (hS : St w0 bs w (A ++ B)) : St w0 bs w B := hS.weak
theorem flat_pick {items : List Item} {n : Nat} {it : Item} (h : items[n]? = some it) (f : Item → List Ent) : (items.flatMap f ++ H).Perm (f it ++ (((items.take n).flatMap f ++ (items.drop (n + 1)).flatMap f) ++ H)) := by
  have e := split_at h
  have e2 : items.flatMap f = (items.take n).flatMap f ++ (f it ++ (items.drop (n + 1)).flatMap f) := by
    have e3 := congrArg (fun q => List.flatMap f q) e
    simpa only [List.flatMap_append, List.flatMap_cons] using e3
  rw [e2]
  generalize (items.take n).flatMap f = A
  generalize (items.drop (n + 1)).flatMap f = B
  simp only [List.append_assoc]
  rw [← List.append_assoc A, ← List.append_assoc (f it) A]
  exact List.perm_append_comm.append_right _
/-- All keys are different. -/
def keysI (items : List Item) : List Nat := items.flatMap fun it => it.st.map (·.1)
def ndB : List Nat → Bool
  | [] => true
  | k :: l => !l.contains k && ndB l
theorem nd_of : ∀ {l : List Nat}, ndB l = true → l.Nodup
  | [], _ => .nil
  | k :: l, h => by
    simp only [ndB, Bool.and_eq_true, Bool.not_eq_true'] at h
    exact List.nodup_cons.2 ⟨by simpa using h.1, nd_of h.2⟩
end

section
variable {P : Program} {ops : Array Oper} {md : Region.Mode} {w0 : World} {bs : List Nat} {H : List Ent} {items : List Item}
variable {EE : List Nat → ((Nat → Gx) → Act) → Prop} {k : Nat} {M : List Nat} {o : Oper} {rest : List Oper} {A A' : (Nat → Gx) → Act} {v : Value}

theorem CI.base {G : Gs} {χ : Nat → Gx} {w : World} (h : CI w0 bs items H G χ w) : St w0 bs w H := h.2.weak

theorem fx_skip (hw : ∀ χ, Region.wanted o (yielded ops (A χ).tmps) = false) [hp : ∀ χ, Put (A χ) o.dst undef (A' χ)] (h : wpFx P md ops (CI w0 bs items H) (mI items) EE (k + 1) M rest A') :
    wpFx P md ops (CI w0 bs items H) (mI items) EE k M (o :: rest) A := by
  refine .inr ⟨hw, ?_⟩
  rw [show (fun χ => (A χ).put o.dst undef) = A' from funext fun χ => (hp χ).h]
  exact h
/-- A plain operation. -/
theorem fx_val (hw : ∀ χ, Region.wanted o (yielded ops (A χ).tmps) = true) (hm : mI items k = false) (hv : ∀ χ w, St w0 bs w H → OpVal P o (A χ) w v) [hp : ∀ χ, Put (A χ) o.dst v (A' χ)]
    (h : wpFx P md ops (CI w0 bs items H) (mI items) EE (k + 1) M rest A') : wpFx P md ops (CI w0 bs items H) (mI items) EE k M (o :: rest) A := by
  refine .inl ⟨hw, fun _ => v, fun _ _ _ => rfl, ?_, ?_⟩
  · unfold Yy
    rw [if_neg (by rw [hm]; simp)]
    intro G χ w _ _ hC
    unfold stepX
    rw [hv χ w (CI.base hC)]
    exact ⟨rfl, hC⟩
  · rw [if_neg (by rw [hm]; simp), show (fun χ => (A χ).put o.dst v) = A' from funext fun χ => (hp χ).h]
    exact h
/-- A plain operation that hands on what was not known ahead. -/
theorem fx_gval (hw : ∀ χ, Region.wanted o (yielded ops (A χ).tmps) = true) (hm : mI items k = false) (v : (Nat → Gx) → Value) (hs : Supp md ops k v) (hv : ∀ χ w, St w0 bs w H → OpVal P o (A χ) w (v χ)) [hp : ∀ χ, Put (A χ) o.dst (v χ) (A' χ)]
    (h : wpFx P md ops (CI w0 bs items H) (mI items) EE (k + 1) M rest A') : wpFx P md ops (CI w0 bs items H) (mI items) EE k M (o :: rest) A := by
  refine .inl ⟨hw, v, hs, ?_, ?_⟩
  · unfold Yy
    rw [if_neg (by rw [hm]; simp)]
    intro G χ w _ _ hC
    unfold stepX
    rw [hv χ w (CI.base hC)]
    exact ⟨rfl, hC⟩
  · rw [if_neg (by rw [hm]; simp), show (fun χ => (A χ).put o.dst (v χ)) = A' from funext fun χ => (hp χ).h]
    exact h
theorem supp_of {j : Nat} (hj : (j == k || anc md ops j k) = true) (f : Gx → Value) : Supp md ops k (fun χ => f (χ j)) := by
  intro χ χ' h
  simp only
  rw [h j (by simpa using hj)]
theorem stepX_call {a : Act} {w : World} {f : Nat} {xs : List Operand} {ts : Array TypeId} (ho : o.op = .call { callee := .value (.func f), args := xs.toArray, argTypes := ts }) {vs : List Value} [hE : EvL a xs vs] (he : ∀ args w, (callFunc f args).run P w = .ok (.enter f args) w)
    {Φ : Value → World → Prop} (h : Calls P f vs.toArray w (fun e w'' => ∃ u, e = .returned u ∧ Φ u w'')) : stepX P o a w Φ := by
  have hr : (execOp a.eval o).run P w = .ok (.enter f vs.toArray) w := by
    have hE' := hE.h
    simp [execOp, ho, resolve, invoke, Deferred.ofValue, Act.eval, List.map_toArray, hE', he]
  unfold stepX
  rw [hr]
  exact h
/-- A call that leaves all pieces as they are, and asks none of those that are new. -/
theorem fx_ask (f : Nat) (xs : List Operand) (ts : Array TypeId) (ho : o.op = .call { callee := .value (.func f), args := xs.toArray, argTypes := ts }) (hw : ∀ χ, Region.wanted o (yielded ops (A χ).tmps) = true) (hm : mI items k = false) {vs : List Value} [hE : ∀ χ, EvL (A χ) xs vs]
    (he : ∀ args w, (callFunc f args).run P w = .ok (.enter f args) w) (v : Value) (hv : ∀ L w, St w0 bs w (L ++ H) → Calls P f vs.toArray w (fun e w'' => e = .returned v ∧ St w0 bs w'' (L ++ H))) [hp : ∀ χ, Put (A χ) o.dst v (A' χ)]
    (h : wpFx P md ops (CI w0 bs items H) (mI items) EE (k + 1) M rest A') : wpFx P md ops (CI w0 bs items H) (mI items) EE k M (o :: rest) A := by
  refine .inl ⟨hw, fun _ => v, fun _ _ _ => rfl, ?_, ?_⟩
  · unfold Yy
    rw [if_neg (by rw [hm]; simp)]
    intro G χ w _ _ hC
    exact stepX_call ho (hE := hE χ) he ((hv _ w hC.2).mono fun e w'' ⟨h1, h2⟩ => ⟨v, h1, rfl, hC.1, h2⟩)
  · rw [if_neg (by rw [hm]; simp), show (fun χ => (A χ).put o.dst v) = A' from funext fun χ => (hp χ).h]
    exact h

/-- Item n behind all its stages, and the rest. -/
theorem CI.pick {G : Gs} {χ : Nat → Gx} {w : World} {n : Nat} {it : Item} (h : CI w0 bs items H G χ w) (hit : items[n]? = some it) (hall : ∀ s ∈ it.st, G s.1 = true) :
    okL χ it.x0 it.st ∧ ∃ L, St w0 bs w ((lastX χ it.x0 it.st).2 ++ (L ++ H)) ∧ ∀ w', St w0 bs w' ((lastX χ it.x0 it.st).2 ++ (L ++ H)) → CI w0 bs items H G χ w' := by
  have hmem : it ∈ items := List.mem_of_getElem? hit
  have hp := flat_pick (H := H) hit (fun it => it.cur G χ)
  have hcur : it.cur G χ = (lastX χ it.x0 it.st).2 := by unfold Item.cur; rw [cur_all _ _ hall]
  simp only [hcur] at hp
  refine ⟨by rw [← ok_all _ _ hall]; exact h.1 it hmem, _, h.2.perm hp, fun w' hS => ⟨h.1, hS.perm hp.symm⟩⟩

/-- A call that asks a new piece, and leaves it. -/
theorem fx_use (n : Nat) {it : Item} (hit : items[n]? = some it) (hall : (it.st.all fun s => M.contains s.1 && anc md ops s.1 k) = true)
    (f : Nat) (xs : List Operand) (ts : Array TypeId) (ho : o.op = .call { callee := .value (.func f), args := xs.toArray, argTypes := ts }) (hw : ∀ χ, Region.wanted o (yielded ops (A χ).tmps) = true) (hm : mI items k = false) {vs : (Nat → Gx) → List Value} [hE : ∀ χ, EvL (A χ) xs (vs χ)]
    (he : ∀ args w, (callFunc f args).run P w = .ok (.enter f args) w) (v : Value)
    (hv : ∀ χ L w, okL χ it.x0 it.st → St w0 bs w ((lastX χ it.x0 it.st).2 ++ (L ++ H)) → Calls P f (vs χ).toArray w (fun e w'' => e = .returned v ∧ St w0 bs w'' ((lastX χ it.x0 it.st).2 ++ (L ++ H)))) [hp : ∀ χ, Put (A χ) o.dst v (A' χ)]
    (h : wpFx P md ops (CI w0 bs items H) (mI items) EE (k + 1) M rest A') : wpFx P md ops (CI w0 bs items H) (mI items) EE k M (o :: rest) A := by
  refine .inl ⟨hw, fun _ => v, fun _ _ _ => rfl, ?_, ?_⟩
  · unfold Yy
    rw [if_neg (by rw [hm]; simp)]
    intro G χ w hT _ hC
    have hG : ∀ s ∈ it.st, G s.1 = true := fun s hs => by
      have := List.all_eq_true.1 hall s hs
      simp only [Bool.and_eq_true] at this
      exact hT s.1 (by simpa using this.1) this.2
    obtain ⟨hok, L, hS, hback⟩ := hC.pick hit hG
    exact stepX_call ho (hE := hE χ) he ((hv χ L w hok hS).mono fun e w'' ⟨h1, h2⟩ => ⟨v, h1, rfl, hback w'' h2⟩)
  · rw [if_neg (by rw [hm]; simp), show (fun χ => (A χ).put o.dst v) = A' from funext fun χ => (hp χ).h]
    exact h
/-- A plain operation on a new piece. -/
theorem fx_val1 (n : Nat) {it : Item} (hit : items[n]? = some it) (hall : (it.st.all fun s => M.contains s.1 && anc md ops s.1 k) = true)
    (hw : ∀ χ, Region.wanted o (yielded ops (A χ).tmps) = true) (hm : mI items k = false)
    (hv : ∀ χ L w, okL χ it.x0 it.st → St w0 bs w ((lastX χ it.x0 it.st).2 ++ (L ++ H)) → OpVal P o (A χ) w v) [hp : ∀ χ, Put (A χ) o.dst v (A' χ)]
    (h : wpFx P md ops (CI w0 bs items H) (mI items) EE (k + 1) M rest A') : wpFx P md ops (CI w0 bs items H) (mI items) EE k M (o :: rest) A := by
  refine .inl ⟨hw, fun _ => v, fun _ _ _ => rfl, ?_, ?_⟩
  · unfold Yy
    rw [if_neg (by rw [hm]; simp)]
    intro G χ w hT _ hC
    have hG : ∀ s ∈ it.st, G s.1 = true := fun s hs => by
      have := List.all_eq_true.1 hall s hs
      simp only [Bool.and_eq_true] at this
      exact hT s.1 (by simpa using this.1) this.2
    obtain ⟨hok, L, hS, hback⟩ := hC.pick hit hG
    unfold stepX
    rw [hv χ L w hok hS]
    exact ⟨rfl, hC⟩
  · rw [if_neg (by rw [hm]; simp), show (fun χ => (A χ).put o.dst v) = A' from funext fun χ => (hp χ).h]
    exact h

theorem CI.pick2 {G : Gs} {χ : Nat → Gx} {w : World} {n n' : Nat} {it it' : Item} (h : CI w0 bs items H G χ w) (hit : items[n]? = some it) (hit' : items[n']? = some it') (hlt : n < n') (hall : ∀ s ∈ it.st, G s.1 = true) (hall' : ∀ s ∈ it'.st, G s.1 = true) :
    okL χ it.x0 it.st ∧ okL χ it'.x0 it'.st ∧ ∃ L, St w0 bs w ((lastX χ it.x0 it.st).2 ++ ((lastX χ it'.x0 it'.st).2 ++ (L ++ H))) ∧ ∀ w', St w0 bs w' ((lastX χ it.x0 it.st).2 ++ ((lastX χ it'.x0 it'.st).2 ++ (L ++ H))) → CI w0 bs items H G χ w' := by
  have hmem : it ∈ items := List.mem_of_getElem? hit
  have hmem' : it' ∈ items := List.mem_of_getElem? hit'
  have hp := flat_pick (H := H) hit (fun it => it.cur G χ)
  have hcur : it.cur G χ = (lastX χ it.x0 it.st).2 := by unfold Item.cur; rw [cur_all _ _ hall]
  have hcur' : it'.cur G χ = (lastX χ it'.x0 it'.st).2 := by unfold Item.cur; rw [cur_all _ _ hall']
  have hit2 : (items.drop (n + 1))[n' - (n + 1)]? = some it' := by rw [List.getElem?_drop, show n + 1 + (n' - (n + 1)) = n' by omega]; exact hit'
  have hp2 := flat_pick (H := H) hit2 (fun it => it.cur G χ)
  simp only [hcur] at hp
  simp only [hcur'] at hp2
  have hp3 : (items.flatMap (fun it => it.cur G χ) ++ H).Perm ((lastX χ it.x0 it.st).2 ++ ((lastX χ it'.x0 it'.st).2 ++ (((items.take n).flatMap (fun it => it.cur G χ) ++ ((List.take (n' - (n + 1)) (items.drop (n + 1))).flatMap (fun it => it.cur G χ) ++ (List.drop (n' - (n + 1) + 1) (items.drop (n + 1))).flatMap (fun it => it.cur G χ))) ++ H))) := by
    refine hp.trans (List.Perm.append_left _ ?_)
    rw [List.append_assoc]
    refine (List.Perm.append_left _ hp2).trans ?_
    generalize (items.take n).flatMap (fun it => it.cur G χ) = U
    generalize (lastX χ it'.x0 it'.st).2 = V
    simp only [List.append_assoc]
    rw [← List.append_assoc U, ← List.append_assoc V U]
    exact List.perm_append_comm.append_right _
  refine ⟨by rw [← ok_all _ _ hall]; exact h.1 it hmem, by rw [← ok_all _ _ hall']; exact h.1 it' hmem', _, h.2.perm hp3, fun w' hS => ⟨h.1, hS.perm hp3.symm⟩⟩
/-- A call that asks two new pieces, and leaves them. -/
theorem fx_use2 (n n' : Nat) (hlt : n < n') {it it' : Item} (hit : items[n]? = some it) (hit' : items[n']? = some it') (hall : (it.st.all fun s => M.contains s.1 && anc md ops s.1 k) = true) (hall' : (it'.st.all fun s => M.contains s.1 && anc md ops s.1 k) = true)
    (f : Nat) (xs : List Operand) (ts : Array TypeId) (ho : o.op = .call { callee := .value (.func f), args := xs.toArray, argTypes := ts }) (hw : ∀ χ, Region.wanted o (yielded ops (A χ).tmps) = true) (hm : mI items k = false) {vs : (Nat → Gx) → List Value} [hE : ∀ χ, EvL (A χ) xs (vs χ)]
    (he : ∀ args w, (callFunc f args).run P w = .ok (.enter f args) w) (v : Value)
    (hv : ∀ χ L w, okL χ it.x0 it.st → okL χ it'.x0 it'.st → St w0 bs w ((lastX χ it.x0 it.st).2 ++ ((lastX χ it'.x0 it'.st).2 ++ (L ++ H))) → Calls P f (vs χ).toArray w (fun e w'' => e = .returned v ∧ St w0 bs w'' ((lastX χ it.x0 it.st).2 ++ ((lastX χ it'.x0 it'.st).2 ++ (L ++ H))))) [hp : ∀ χ, Put (A χ) o.dst v (A' χ)]
    (h : wpFx P md ops (CI w0 bs items H) (mI items) EE (k + 1) M rest A') : wpFx P md ops (CI w0 bs items H) (mI items) EE k M (o :: rest) A := by
  refine .inl ⟨hw, fun _ => v, fun _ _ _ => rfl, ?_, ?_⟩
  · unfold Yy
    rw [if_neg (by rw [hm]; simp)]
    intro G χ w hT _ hC
    have hG : ∀ s ∈ it.st, G s.1 = true := fun s hs => by
      have := List.all_eq_true.1 hall s hs
      simp only [Bool.and_eq_true] at this
      exact hT s.1 (by simpa using this.1) this.2
    have hG' : ∀ s ∈ it'.st, G s.1 = true := fun s hs => by
      have := List.all_eq_true.1 hall' s hs
      simp only [Bool.and_eq_true] at this
      exact hT s.1 (by simpa using this.1) this.2
    obtain ⟨hok, hok', L, hS, hback⟩ := hC.pick2 hit hit' hlt hG hG'
    exact stepX_call ho (hE := hE χ) he ((hv χ L w hok hok' hS).mono fun e w'' ⟨h1, h2⟩ => ⟨v, h1, rfl, hback w'' h2⟩)
  · rw [if_neg (by rw [hm]; simp), show (fun χ => (A χ).put o.dst v) = A' from funext fun χ => (hp χ).h]
    exact h

/-- An operation that turns item n, at stage s of it. -/
theorem fx_turn0 (n s : Nat) {it : Item} {p : Gx → Gx → Prop} (hit : items[n]? = some it) (hst : it.st[s]? = some (k, p)) (hnd : ndB (keysI items) = true)
    (hpre : ((it.st.take s).all fun q => M.contains q.1 && anc md ops q.1 k) = true) (hpost : ((it.st.drop (s + 1)).all fun q => anc md ops k q.1) = true)
    (hw : ∀ χ, Region.wanted o (yielded ops (A χ).tmps) = true) (v : Gx → Value)
    (hv : ∀ χ L w, okL χ it.x0 (it.st.take s) → St w0 bs w ((lastX χ it.x0 (it.st.take s)).2 ++ (L ++ H)) → stepX P o (A χ) w (fun u w'' => ∃ x, u = v x ∧ p (lastX χ it.x0 (it.st.take s)) x ∧ St w0 bs w'' (x.2 ++ (L ++ H)))) [hp : ∀ χ, Put (A χ) o.dst (v (χ k)) (A' χ)]
    (h : wpFx P md ops (CI w0 bs items H) (mI items) EE (k + 1) (k :: M) rest A') : wpFx P md ops (CI w0 bs items H) (mI items) EE k M (o :: rest) A := by
  have hmem : it ∈ items := List.mem_of_getElem? hit
  have hsplit : it.st = it.st.take s ++ (k, p) :: it.st.drop (s + 1) := split_at hst
  have hm : mI items k = true := by
    unfold mI
    rw [List.any_eq_true]
    refine ⟨it, hmem, ?_⟩
    rw [List.any_eq_true]
    exact ⟨(k, p), by rw [hsplit]; simp, by simp⟩
  -- the keys
  have hkeys := nd_of hnd
  have eitems : items = items.take n ++ it :: items.drop (n + 1) := split_at hit
  have ekeys : keysI items = keysI (items.take n) ++ ((it.st.take s).map (·.1) ++ k :: (it.st.drop (s + 1)).map (·.1)) ++ keysI (items.drop (n + 1)) := by
    have e1 : it.st.map (·.1) = (it.st.take s).map (·.1) ++ k :: (it.st.drop (s + 1)).map (·.1) := by
      have := congrArg (List.map (·.1)) hsplit
      rw [List.map_append, List.map_cons] at this
      exact this
    rw [← e1]
    unfold keysI
    rw [List.append_assoc, ← List.flatMap_cons (f := fun it : Item => it.st.map (·.1)), ← List.flatMap_append, ← eitems]
  rw [ekeys] at hkeys
  rw [List.nodup_append, List.nodup_append, List.nodup_append, List.nodup_cons] at hkeys
  obtain ⟨⟨_, ⟨_, ⟨k1, _⟩, k2⟩, k3⟩, _, k4⟩ := hkeys
  have ka : ∀ q ∈ it.st.take s, q.1 ≠ k := fun q hq => k2 q.1 (List.mem_map_of_mem hq) k (by simp)
  have kb : ∀ q ∈ it.st.drop (s + 1), q.1 ≠ k := fun q hq e => k1 (by rw [← e]; exact List.mem_map_of_mem hq)
  have kc : ∀ it' ∈ items.take n ++ items.drop (n + 1), ∀ q ∈ it'.st, q.1 ≠ k := by
    intro it' hi q hq
    rcases List.mem_append.1 hi with hi | hi
    · exact k3 q.1 (List.mem_flatMap.2 ⟨it', hi, List.mem_map_of_mem hq⟩) k (by simp)
    · exact fun e => k4 k (by simp) q.1 (List.mem_flatMap.2 ⟨it', hi, List.mem_map_of_mem hq⟩) e.symm
  refine .inl ⟨hw, fun χ => v (χ k), supp_of (by simp) v, ?_, ?_⟩
  · unfold Yy
    rw [if_pos hm]
    intro G χ w hk hT hF hC
    have g1 : ∀ q ∈ it.st.take s, G q.1 = true := fun q hq => by
      have := List.all_eq_true.1 hpre q hq
      simp only [Bool.and_eq_true] at this
      exact hT q.1 (by simpa using this.1) this.2
    have g2 : ∀ q ∈ it.st.drop (s + 1), G q.1 = false := fun q hq => hF q.1 (List.all_eq_true.1 hpost q hq)
    have hp1 := flat_pick (H := H) hit (fun it => it.cur G χ)
    have hcur : it.cur G χ = (lastX χ it.x0 (it.st.take s)).2 := by
      unfold Item.cur
      rw [hsplit, cur_before _ _ _ _ g1 hk]
      congr 2
      rw [← hsplit]
    simp only [hcur] at hp1
    have hokb : okL χ it.x0 (it.st.take s) := by
      have := hC.1 it hmem
      rw [hsplit] at this
      exact ok_before _ _ _ _ g1 hk this
    have h1 := hv χ _ w hokb (hC.2.perm hp1)
    have fin : ∀ (u : Value) (w'' : World), (∃ x, u = v x ∧ p (lastX χ it.x0 (it.st.take s)) x ∧ St w0 bs w'' (x.2 ++ (((items.take n).flatMap (fun it => it.cur G χ) ++ (items.drop (n + 1)).flatMap (fun it => it.cur G χ)) ++ H))) →
        ∃ x, u = v (up χ k x k) ∧ CI w0 bs items H (up G k true) (up χ k x) w'' := by
      rintro u w'' ⟨x, hu, hpx, hS⟩
      have hcurx : it.cur (up G k true) (up χ k x) = x.2 := by
        unfold Item.cur
        rw [hsplit, cur_after _ _ _ _ (fun q hq => ⟨g1 q hq, ka q hq⟩) (fun q hq => ⟨g2 q hq, kb q hq⟩)]
      have hoth : ∀ l : List Item, (∀ it' ∈ l, ∀ q ∈ it'.st, q.1 ≠ k) → l.flatMap (fun it => it.cur (up G k true) (up χ k x)) = l.flatMap (fun it => it.cur G χ) := by
        intro l hl
        induction l with
        | nil => rfl
        | cons a l ih =>
          rw [List.flatMap_cons, List.flatMap_cons, ih (fun it' hi => hl it' (by simp [hi]))]
          congr 1
          unfold Item.cur
          rw [cur_other _ _ _ (hl a (by simp))]
      have hp2 := flat_pick (H := H) hit (fun it => it.cur (up G k true) (up χ k x))
      simp only [hcurx] at hp2
      rw [hoth _ (fun it' hi => kc it' (List.mem_append_left _ hi)), hoth _ (fun it' hi => kc it' (List.mem_append_right _ hi))] at hp2
      refine ⟨x, by rw [up_same]; exact hu, fun it' hi => ?_, hS.perm hp2.symm⟩
      rw [eitems] at hi
      rcases List.mem_append.1 hi with hi | hi
      · rw [ok_other _ _ _ (kc it' (List.mem_append_left _ hi))]
        exact hC.1 it' (by rw [eitems]; exact List.mem_append_left _ hi)
      · rcases List.mem_cons.1 hi with rfl | hi
        · rw [hsplit]
          exact ok_after _ _ _ _ (fun q hq => ⟨g1 q hq, ka q hq⟩) (fun q hq => ⟨g2 q hq, kb q hq⟩) hokb hpx
        · rw [ok_other _ _ _ (kc it' (List.mem_append_right _ hi))]
          exact hC.1 it' (by rw [eitems]; exact List.mem_append_right _ (by simp [hi]))
    unfold stepX at h1 ⊢
    revert h1
    generalize (execOp (A χ).eval o).run P w = r
    intro h1
    cases r with
    | ok nx w' =>
      cases nx <;> simp only [] at h1 ⊢
      case value u => exact fin _ _ h1
      case skip => exact fin _ _ h1
      case enter f args => exact h1.mono fun e w'' ⟨u, h2, h3⟩ => ⟨u, h2, fin _ _ h3⟩
    | halt e w' => simp only [] at h1
  · rw [if_pos hm, show (fun χ => (A χ).put o.dst (v (χ k))) = A' from funext fun χ => (hp χ).h]
    exact h
/-- A call that turns item n. -/
theorem fx_turn (n s : Nat) {it : Item} {p : Gx → Gx → Prop} (hit : items[n]? = some it) (hst : it.st[s]? = some (k, p)) (hnd : ndB (keysI items) = true)
    (hpre : ((it.st.take s).all fun q => M.contains q.1 && anc md ops q.1 k) = true) (hpost : ((it.st.drop (s + 1)).all fun q => anc md ops k q.1) = true)
    (f : Nat) (xs : List Operand) (ts : Array TypeId) (ho : o.op = .call { callee := .value (.func f), args := xs.toArray, argTypes := ts }) (hw : ∀ χ, Region.wanted o (yielded ops (A χ).tmps) = true) {vs : (Nat → Gx) → List Value} [hE : ∀ χ, EvL (A χ) xs (vs χ)]
    (he : ∀ args w, (callFunc f args).run P w = .ok (.enter f args) w) (v : Gx → Value)
    (hv : ∀ χ L w, okL χ it.x0 (it.st.take s) → St w0 bs w ((lastX χ it.x0 (it.st.take s)).2 ++ (L ++ H)) → Calls P f (vs χ).toArray w (fun e w'' => ∃ x, e = .returned (v x) ∧ p (lastX χ it.x0 (it.st.take s)) x ∧ St w0 bs w'' (x.2 ++ (L ++ H)))) [hp : ∀ χ, Put (A χ) o.dst (v (χ k)) (A' χ)]
    (h : wpFx P md ops (CI w0 bs items H) (mI items) EE (k + 1) (k :: M) rest A') : wpFx P md ops (CI w0 bs items H) (mI items) EE k M (o :: rest) A :=
  fx_turn0 n s hit hst hnd hpre hpost hw v (fun χ L w hok hS => stepX_call ho (hE := hE χ) he ((hv χ L w hok hS).mono fun e w'' ⟨x, h1, h2, h3⟩ => ⟨v x, h1, x, rfl, h2, h3⟩)) h

theorem region_items {id : Nat} {l : List Oper} {Q : Exit → Act → World → Prop} {a : Act} {w : World} (items : List Item) (H : List Ent) (hS : St w0 bs w (items.flatMap (fun it => it.x0.2) ++ H)) (hm : P.follows .mixedOrders = true) (hB : Region.lexB .any l.toArray = true)
    (h : wpFx P .any l.toArray (CI w0 bs items H) (mI items) (fun M A => ∀ χ G w', (∀ s ∈ M, G s = true) → CI w0 bs items H G χ w' → Q .normal (A χ) w') 0 [] l (fun _ => a)) : (Code.region id l.toArray true).wp P Q a w := by
  refine region_free (X := Gx) (CI w0 bs items H) (mI items) hm hB ⟨fun it _ => ?_, ?_⟩ h
  · cases hst : it.st with
    | nil => trivial
    | cons s l => obtain ⟨j, q⟩ := s; unfold okI; simp
  · have e : ∀ it : Item, it.cur (fun _ => false) (fun _ => default) = it.x0.2 := fun it => by
      unfold Item.cur
      cases hst : it.st with
      | nil => rfl
      | cons s l => obtain ⟨j, q⟩ := s; unfold curI; simp
    rw [show (fun it : Item => it.cur (fun _ => false) (fun _ => default)) = (fun it => it.x0.2) from funext e]
    exact hS.drawn _
theorem region_itemsE {id : Nat} {l : List Oper} {Q : Exit → Act → World → Prop} {a : Act} {w : World} (items : List Item) (H H0 : List Ent) (hF : items.flatMap (fun it => it.x0.2) ++ H = H0) (hS : St w0 bs w H0) (hm : P.follows .mixedOrders = true) (hB : Region.lexB .any l.toArray = true)
    (h : wpFx P .any l.toArray (CI w0 bs items H) (mI items) (fun M A => ∀ χ G w', (∀ s ∈ M, G s = true) → CI w0 bs items H G χ w' → Q .normal (A χ) w') 0 [] l (fun _ => a)) : (Code.region id l.toArray true).wp P Q a w := by
  subst hF
  exact region_items items H hS hm hB h
/-- All pieces are new. -/
theorem region_new {id : Nat} {l : List Oper} {Q : Exit → Act → World → Prop} {a : Act} {w : World} (items : List Item) (h0 : items.all (fun it => it.x0.2.isEmpty) = true) {H0 : List Ent} (hS : St w0 bs w H0) (H : List Ent) (hm : P.follows .mixedOrders = true) (hB : Region.lexB .any l.toArray = true) [hpk : Pick H H0]
    (h : wpFx P .any l.toArray (CI w0 bs items H) (mI items) (fun M A => ∀ χ G w', (∀ s ∈ M, G s = true) → CI w0 bs items H G χ w' → Q .normal (A χ) w') 0 [] l (fun _ => a)) : (Code.region id l.toArray true).wp P Q a w := by
  refine region_items items H ?_ hm hB h
  have : items.flatMap (fun it => it.x0.2) = [] := by
    rw [List.flatMap_eq_nil_iff]
    intro it hi
    have := List.all_eq_true.1 h0 it hi
    simpa using this
  rw [this]
  exact hS.pick
/-- The end. -/
theorem fx_end {Q : Exit → Act → World → Prop} (hall : (items.all fun it => it.st.all fun s => M.contains s.1) = true)
    (h : ∀ χ w', (∀ it ∈ items, okL χ it.x0 it.st) → St w0 bs w' (items.flatMap (fun it => (lastX χ it.x0 it.st).2) ++ H) → Q .normal (A χ) w') :
    wpFx P md ops (CI w0 bs items H) (mI items) (fun M A => ∀ χ G w', (∀ s ∈ M, G s = true) → CI w0 bs items H G χ w' → Q .normal (A χ) w') k M [] A := by
  intro χ G w' hM hC
  have hG : ∀ it ∈ items, ∀ s ∈ it.st, G s.1 = true := fun it hi s hs => by
    have := List.all_eq_true.1 (List.all_eq_true.1 hall it hi) s hs
    exact hM s.1 (by simpa using this)
  refine h χ w' (fun it hi => by rw [← ok_all _ _ (hG it hi)]; exact hC.1 it hi) ?_
  have e : ∀ l : List Item, (∀ it ∈ l, it ∈ items) → l.flatMap (fun it => it.cur G χ) = l.flatMap (fun it => (lastX χ it.x0 it.st).2) := by
    intro l hl
    induction l with
    | nil => rfl
    | cons a l ih =>
      rw [List.flatMap_cons, List.flatMap_cons, ih (fun it hi => hl it (by simp [hi]))]
      congr 1
      unfold Item.cur
      rw [cur_all _ _ (hG a (hl a (by simp)))]
  rw [← e items (fun _ h => h)]
  exact hC.2
end
/-! Blocks that are laid and written within a region -/
section
variable {P : Program} {o : Oper} {a : Act} {w w0 : World} {bs : List Nat} {H : List Ent} {Φ : Value → World → Prop}
theorem stepX_al (t : TypeId) (ho : o.op = .alloc t) (hS : St w0 bs w H) {cs : Array Value} [hz : ZeroT P t cs] (h : ∀ b w', w.heap.size ≤ b → St w0 bs w' (⟨b, cs, t, true⟩ :: H) → Φ (.pointer (some ⟨b, 0, none⟩)) w') : stepX P o a w Φ := by
  obtain ⟨z, hzc, hzr⟩ := hz.run
  have hS' : St w0 bs (w.alloc (.cells cs t (0, 0))) (⟨w.heap.size, cs, t, true⟩ :: H) := hS.new (Chg.alloc w _) (Nat.le_refl _) (alloc_new w _)
  have hr : (execOp a.eval o).run P w = .ok (.value (.pointer (some ⟨w.heap.size, 0, none⟩))) (w.alloc (.cells cs t (0, 0))) := by
    simp only [execOp, ho, Instr.alloc, Sem.run_bind, Sem.run_pure, Result.andThen_ok, hzr, newVar, newRow, hzc, run_newObj]
    rfl
  unfold stepX
  rw [hr]
  exact h _ _ (Nat.le_refl _) hS'
theorem stepX_sta (t : TypeId) (x y : Operand) (ho : o.op = .store t x y) (hS : St w0 bs w H) {b off n : Nat} [hx : Ev a x (.pointer (some ⟨b, off, none⟩))] {vs : Array Value} [hy : Ev a y (.agg vs)] [hag : AggT P t n] [h1c : OneCells vs]
    {cs cs' : Array Value} {T : TypeId} {H' : List Ent} [hH : Has H b cs T] [hs : SetsAt cs off vs cs'] [hn : SizeIs vs n] [hu : Upd H b cs' T H'] (h : ∀ w', St w0 bs w' H' → Φ undef w') : stepX P o a w Φ := by
  have hb := hS.has hH
  have hr := run_storeCells_at P b off T vs.toList 0 cs w hb (by have := hs.le; simpa using this) h1c.h
  simp only [Nat.add_zero] at hr
  rw [show vs.toList.length = vs.size by simp, hs.h] at hr
  have hS' : St w0 bs (w.setRow b cs') H' := by
    refine hS.upd ⟨rfl, rfl, rfl, by simp, fun k _ hk => setRow_other w b k _ (by simpa [eq_comm] using hk)⟩ (setRow_heap w b cs _ T _ hb)
  have hr2 : (execOp a.eval o).run P w = .ok .skip (w.setRow b cs') := by
    simp only [execOp, ho, hx.h, hy.h, Instr.storeAt, Instr.sureAddr, storeVar, Sem.run_bind, Sem.run_pure, Result.andThen_ok, run_sizeOf' hag.s, Value.cells, hn.h, ne_eq, not_true_eq_false, if_false, hr]
  unfold stepX
  rw [hr2]
  exact h _ hS'
theorem stepX_stb (t : TypeId) (x y : Operand) (ho : o.op = .store t x y) (hS : St w0 bs w H) {u : Value} {b off n : Nat} [hx : Ev a x u] (hu0 : u = .pointer (some ⟨b, off, none⟩)) {vs : Array Value} [hy : Ev a y (.agg vs)] [hag : AggT P t n] [h1c : OneCells vs]
    {cs cs' : Array Value} {T : TypeId} {H' : List Ent} [hH : Has H b cs T] [hs : SetsAt cs off vs cs'] [hn : SizeIs vs n] [hu : Upd H b cs' T H'] (h : ∀ w', St w0 bs w' H' → Φ undef w') : stepX P o a w Φ := by
  subst hu0
  exact stepX_sta t x y ho hS h
end
/-! More plain operations -/
section
variable {P : Program} {o : Oper} {a : Act} {w : World}
theorem run_ieq {k : IntKind} {e : Int} (t t' : TypeId) (x y : Operand) (ho : o.op = .binOp .eql t x y t') [hx : Ev a x (.int k e)] [hy : Ev a y (.int k e)] : OpVal P o a w (.bool true) := by
  unfold OpVal; simp [execOp, ho, hx.h, hy.h, eqGuard, binOp, Op.intCmp]
/-- Two numbers, held against each other, by a fact at hand. -/
class IntEq (e f : Int) (b : outParam Bool) : Prop where
  h : decide (e = f) = b
theorem run_ilit {k : IntKind} {e f : Int} (t t' : TypeId) (x y : Operand) (ho : o.op = .binOp .eql t x y t') [hx : Ev a x (.int k e)] [hy : Ev a y (.int k f)] {b : Bool} [hb : IntEq e f b] : OpVal P o a w (.bool b) := by
  have e : (e == f) = b := by rw [← hb.h]; by_cases q : e = f <;> simp [q]
  unfold OpVal; simp [execOp, ho, hx.h, hy.h, eqGuard, binOp, Op.intCmp, e]
theorem run_inlit {k : IntKind} {e f : Int} (t t' : TypeId) (x y : Operand) (ho : o.op = .binOp .neq t x y t') [hx : Ev a x (.int k e)] [hy : Ev a y (.int k f)] {b c : Bool} [hb : IntEq e f b] [hn : NotB b c] : OpVal P o a w (.bool c) := by
  have e : (e != f) = !b := by rw [← hb.h]; by_cases q : e = f <;> simp [q]
  unfold OpVal; rw [← hn.h]; simp [execOp, ho, hx.h, hy.h, eqGuard, binOp, Op.intCmp, e]
theorem run_bnot (t : TypeId) (x : Operand) (ho : o.op = .unOp .not t x) {b c : Bool} [hx : Ev a x (.bool b)] [hn : NotB b c] : OpVal P o a w (.bool c) := by
  unfold OpVal; rw [← hn.h]; simp [execOp, ho, hx.h, Op.unary]
class BoolEq (P : Program) (t : TypeId) (x y : Bool) (c : outParam Bool) : Prop where
  h : (x == y) = c
  u : P.underlying t = some .bool
theorem run_beq (t t' : TypeId) (x y : Operand) (ho : o.op = .binOp .eql t x y t') {b b' c : Bool} [hx : Ev a x (.bool b)] [hy : Ev a y (.bool b')] [hc : BoolEq P t b b' c] : OpVal P o a w (.bool c) := by
  unfold OpVal; rw [← hc.h]; simp [execOp, ho, hx.h, hy.h, eqGuard, binOp, Op.equal, Op.maxDepth, run_equalIn_bool' w 9999 t _ _ hc.u]
theorem run_bne (t t' : TypeId) (x y : Operand) (ho : o.op = .binOp .neq t x y t') {b b' c c' : Bool} [hx : Ev a x (.bool b)] [hy : Ev a y (.bool b')] [hc : BoolEq P t b b' c] [hn : NotB c c'] : OpVal P o a w (.bool c') := by
  unfold OpVal; rw [← hn.h, ← hc.h]; simp [execOp, ho, hx.h, hy.h, eqGuard, binOp, Op.equal, Op.maxDepth, run_equalIn_bool' w 9999 t _ _ hc.u]
theorem run_ext (n : Nat) (x : Operand) (ho : o.op = .extract x n) {vs : List Value} {v : Value} [hx : Ev a x (.tuple (List.toArray vs))] [hn : Nth vs n v] : OpVal P o a w v := by
  have := hn.h
  unfold OpVal; simp [execOp, ho, hx.h, Instr.extract, this]
/-- Numbers that fit everywhere from 32 bits on. -/
class Small (n : Int) : Prop where
  lo : 0 ≤ n
  hi : n ≤ 4294967295
class WrapsTo (k : IntKind) (n : Int) : Prop where
  h : k.wrap n = n
instance wraps64 {n : Int} [h : Small n] : WrapsTo .i64 n := ⟨IntWalk.i64_in n ⟨by have := h.lo; omega, by have := h.hi; omega⟩⟩
instance wraps32 {n : Int} [h : Small n] : WrapsTo .u32 n := ⟨IntWalk.u32_in n ⟨h.lo, h.hi⟩⟩
class CvI (P : Program) (src dst : TypeId) (k : outParam IntKind) : Prop where
  hs : (P.underlying src).isSome = true
  hk : P.intKind dst = k
  hd : P.underlying dst = some (.int k)
theorem run_cvn (src dst : TypeId) (x : Operand) (ho : o.op = .convert src dst x) {k k0 : IntKind} {n : Int} [hc : CvI P src dst k] [hx : Ev a x (.int k0 n)] [hw : WrapsTo k n] : OpVal P o a w (.int k n) := by
  have h := run_convert_int (P := P) w src dst k0 n hc.hs (by rw [hc.hk]; exact hc.hd)
  rw [hc.hk, hw.h] at h
  unfold OpVal
  simp only [execOp, ho, hx.h, Sem.run_bind, h, Result.andThen_ok, Sem.run_pure]
theorem run_remn (t t' : TypeId) (x y : Operand) (ho : o.op = .binOp .rem t x y t') {k : IntKind} {n m : Int} [hx : Ev a x (.int k n)] [hy : Ev a y (.int k m)] [hs : Small n] (hm : 0 < m) : OpVal P o a w (.int k (n % m)) := by
  have h1 : n.tmod m = n % m := Int.tmod_eq_emod_of_nonneg hs.lo
  have h2 : m ≠ 0 := by omega
  unfold OpVal
  simp [execOp, ho, hx.h, hy.h, eqGuard, binOp, Op.intDiv, h1, h2]
/-- The lesser of two numbers, by a fact at hand. -/
class MinIs (n m : Int) (r : outParam Int) : Prop where
  h : (if m < n then m else n) = r
theorem run_minv (x y : Operand) {ts : Array TypeId} (ho : o.op = .call { callee := .builtin .min, args := #[x, y], argTypes := ts }) {k : IntKind} {n m r : Int} [hx : Ev a x (.int k n)] [hy : Ev a y (.int k m)] [hr : MinIs n m r] : OpVal P o a w (.int k r) := by
  unfold OpVal
  simp only [execOp, ho, resolve, invoke, builtin, Sem.run_bind, Sem.run_pure, Result.andThen_ok, List.map_toArray, List.map_cons, List.map_nil, hx.h, hy.h, run_min_int2, hr.h]
theorem run_nc (x : Operand) (ho : o.op = .nilCheck x) {p : Addr} [hx : Ev a x (.pointer (some p))] : OpVal P o a w (.pointer (some p)) := by
  unfold OpVal
  simp only [execOp, ho, hx.h]
  rfl
/-- A remainder, by a fact at hand. -/
class RemIs (n m : Int) (r : outParam Int) : Prop where
  h : n.tmod m = r
  z : m ≠ 0
theorem run_remv (t t' : TypeId) (x y : Operand) (ho : o.op = .binOp .rem t x y t') {k : IntKind} {n m r : Int} [hx : Ev a x (.int k n)] [hy : Ev a y (.int k m)] [hr : RemIs n m r] : OpVal P o a w (.int k r) := by
  unfold OpVal
  simp [execOp, ho, hx.h, hy.h, eqGuard, binOp, Op.intDiv, hr.h, hr.z]
end
end Go.Mm
