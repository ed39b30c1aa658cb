/-
  Regions with ghosts whose pieces may name one another: a stage's fact is about the stage before, the result, and the results of operations ahead of it.
-/
import Derived.Test.YtlpknbkgkhnfcaaOpv
set_option linter.unusedSimpArgs false
set_option linter.unusedVariables false
namespace Go.Mm
open Go Go.RowKit

/-- A stage: the operation, those ahead of it whose results its fact names, and the fact. -/
abbrev Stg := Nat × List Nat × (List Gx → Gx → Gx → Prop)
structure ItD where
  x0 : Gx
  st : List Stg
def curD (G : Gs) (χ : Nat → Gx) : Gx → List Stg → Gx
  | x, [] => x
  | x, (k, _, _) :: l => if G k then curD G χ (χ k) l else x
def okD (G : Gs) (χ : Nat → Gx) : Gx → List Stg → Prop
  | _, [] => True
  | x, (k, S, p) :: l => if G k then p (S.map χ) x (χ k) ∧ okD G χ (χ k) l else True
/-- The piece behind some stages. -/
def lastD (χ : Nat → Gx) : Gx → List Stg → Gx
  | x, [] => x
  | _, (k, _, _) :: l => lastD χ (χ k) l
def okDL (χ : Nat → Gx) : Gx → List Stg → Prop
  | _, [] => True
  | x, (k, S, p) :: l => p (S.map χ) x (χ k) ∧ okDL χ (χ k) l
def ItD.cur (it : ItD) (G : Gs) (χ : Nat → Gx) : List Ent := (curD G χ it.x0 it.st).2
def CD (w0 : World) (bs : List Nat) (items : List ItD) (H : List Ent) (G : Gs) (χ : Nat → Gx) (w : World) : Prop :=
  (∀ it ∈ items, okD G χ it.x0 it.st) ∧ St w0 bs w (items.flatMap (fun it => it.cur G χ) ++ H)
def mD (items : List ItD) (i : Nat) : Bool := items.any fun it => it.st.any fun s => s.1 == i

section
variable {G : Gs} {χ : Nat → Gx} {k : Nat} {x : Gx}
theorem map_up {S : List Nat} (h : k ∉ S) : S.map (up χ k x) = S.map χ := by
  apply List.map_congr_left
  intro j hj
  exact up_other χ x (fun e => h (e ▸ hj))
theorem curD_other : ∀ (l : List Stg) (b : Bool) (y : Gx), (∀ s ∈ l, s.1 ≠ k) → curD (up G k b) (up χ k x) y l = curD G χ y l
  | [], _, _, _ => rfl
  | (j, S, p) :: l, b, y, h => by
    have hj : j ≠ k := h (j, S, p) (by simp)
    unfold curD
    rw [show up G k b j = G j from if_neg hj, up_other χ x hj, curD_other l b (χ j) (fun s hs => h s (by simp [hs]))]
theorem okD_other : ∀ (l : List Stg) (b : Bool) (y : Gx), (∀ s ∈ l, s.1 ≠ k) → (∀ s ∈ l, G s.1 = true → k ∉ s.2.1) → okD (up G k b) (up χ k x) y l = okD G χ y l
  | [], _, _, _, _ => rfl
  | (j, S, p) :: l, b, y, h, h2 => by
    have hj : j ≠ k := h (j, S, p) (by simp)
    unfold okD
    rw [show up G k b j = G j from if_neg hj, up_other χ x hj, okD_other l b (χ j) (fun s hs => h s (by simp [hs])) (fun s hs => h2 s (by simp [hs]))]
    by_cases hg : G j = true
    · rw [if_pos hg, if_pos hg, map_up (h2 (j, S, p) (by simp) hg)]
    · rw [if_neg hg, if_neg hg]
theorem curD_before : ∀ (l1 l2 : List Stg) (q : List Nat × (List Gx → Gx → Gx → Prop)) (y : Gx), (∀ s ∈ l1, G s.1 = true) → G k = false → curD G χ y (l1 ++ (k, q) :: l2) = lastD χ y l1
  | [], l2, q, y, _, hk => by simp [curD, lastD, hk]
  | (j, S, p) :: l1, l2, q, y, h, hk => by
    have hj : G j = true := h (j, S, p) (by simp)
    rw [List.cons_append]
    unfold curD lastD
    rw [if_pos hj]
    exact curD_before l1 l2 q (χ j) (fun s hs => h s (by simp [hs])) hk
theorem curD_stop : ∀ (l1 l2 : List Stg) (y : Gx), (∀ s ∈ l1, G s.1 = true) → (∀ s ∈ l2, G s.1 = false) → curD G χ y (l1 ++ l2) = lastD χ y l1
  | [], [], y, _, _ => rfl
  | [], (j, S, p) :: l2, y, _, h => by
    have hj : G j = false := h (j, S, p) (by simp)
    simp [curD, lastD, hj]
  | (j, S, p) :: l1, l2, y, h, h2 => by
    have hj : G j = true := h (j, S, p) (by simp)
    rw [List.cons_append]
    unfold curD lastD
    rw [if_pos hj]
    exact curD_stop l1 l2 (χ j) (fun s hs => h s (by simp [hs])) h2
theorem curD_all : ∀ (l : List Stg) (y : Gx), (∀ s ∈ l, G s.1 = true) → curD G χ y l = lastD χ y l
  | [], _, _ => rfl
  | (j, S, p) :: l, y, h => by
    unfold curD lastD
    rw [if_pos (h (j, S, p) (by simp))]
    exact curD_all l (χ j) (fun s hs => h s (by simp [hs]))
theorem okD_all : ∀ (l : List Stg) (y : Gx), (∀ s ∈ l, G s.1 = true) → okD G χ y l = okDL χ y l
  | [], _, _ => rfl
  | (j, S, p) :: l, y, h => by
    unfold okD okDL
    rw [if_pos (h (j, S, p) (by simp)), okD_all l (χ j) (fun s hs => h s (by simp [hs]))]
theorem okD_before : ∀ (l1 l2 : List Stg) (y : Gx), (∀ s ∈ l1, G s.1 = true) → okD G χ y (l1 ++ l2) → okDL χ y l1
  | [], l2, y, _, _ => trivial
  | (j, S, p) :: l1, l2, y, h, ho => by
    have hj : G j = true := h (j, S, p) (by simp)
    rw [List.cons_append] at ho
    unfold okD at ho
    rw [if_pos hj] at ho
    exact ⟨ho.1, okD_before l1 l2 (χ j) (fun s hs => h s (by simp [hs])) ho.2⟩
theorem curD_after : ∀ (l1 l2 : List Stg) (q : List Nat × (List Gx → Gx → Gx → Prop)) (y : Gx), (∀ s ∈ l1, G s.1 = true ∧ s.1 ≠ k) → (∀ s ∈ l2, G s.1 = false ∧ s.1 ≠ k) → curD (up G k true) (up χ k x) y (l1 ++ (k, q) :: l2) = x
  | [], l2, q, y, _, h2 => by
    rw [List.nil_append]
    unfold curD
    rw [if_pos (up_same G k true), up_same]
    cases l2 with
    | nil => rfl
    | cons s l2 =>
      obtain ⟨j, q⟩ := s
      obtain ⟨h3, h4⟩ := h2 (j, q) (by simp)
      unfold curD
      rw [show up G k true j = G j from if_neg h4, h3]
      rfl
  | (j, S, p) :: l1, l2, q, y, h, h2 => by
    obtain ⟨h3, h4⟩ := h (j, S, p) (by simp)
    rw [List.cons_append]
    unfold curD
    rw [if_pos (show up G k true j = true from (if_neg h4).trans h3)]
    exact curD_after l1 l2 q _ (fun s hs => h s (by simp [hs])) h2
theorem okD_after : ∀ (l1 l2 : List Stg) (S : List Nat) (p : List Gx → Gx → Gx → Prop) (y : Gx), (∀ s ∈ l1, G s.1 = true ∧ s.1 ≠ k) → (∀ s ∈ l2, G s.1 = false ∧ s.1 ≠ k) → (∀ s ∈ l1, k ∉ s.2.1) → k ∉ S → okDL χ y l1 → p (S.map χ) (lastD χ y l1) x → okD (up G k true) (up χ k x) y (l1 ++ (k, S, p) :: l2)
  | [], l2, S, p, y, _, h2, _, hS, _, hp => by
    rw [List.nil_append]
    unfold okD
    rw [if_pos (up_same G k true), up_same, map_up hS]
    refine ⟨hp, ?_⟩
    cases l2 with
    | nil => trivial
    | cons s l2 =>
      obtain ⟨j, q⟩ := s
      obtain ⟨h3, h4⟩ := h2 (j, q) (by simp)
      unfold okD
      rw [show up G k true j = G j from if_neg h4, h3]
      trivial
  | (j, S', q) :: l1, l2, S, p, y, h, h2, hk, hS, ho, hp => by
    obtain ⟨h3, h4⟩ := h (j, S', q) (by simp)
    rw [List.cons_append]
    unfold okD
    rw [if_pos (show up G k true j = true from (if_neg h4).trans h3), up_other χ x h4, map_up (hk (j, S', q) (by simp))]
    exact ⟨ho.1, okD_after l1 l2 S p _ (fun s hs => h s (by simp [hs])) h2 (fun s hs => hk s (by simp [hs])) hS ho.2 hp⟩
end
/-- The stages' facts name only results of operations that stand ahead. -/
def depB (md : Region.Mode) (ops : Array Oper) (items : List ItD) : Bool := items.all fun it => it.st.all fun s => s.2.1.all fun j => anc md ops j s.1 && !(j == s.1)

section
variable {w0 w : World} {bs : List Nat} {H : List Ent}
theorem flatD_pick {items : List ItD} {n : Nat} {it : ItD} (h : items[n]? = some it) (f : ItD → List Ent) : (items.flatMap f ++ H).Perm (f it ++ (((items.take n).flatMap f ++ (items.drop (n + 1)).flatMap f) ++ H)) := by
  have e := split_at h
  have e2 : items.flatMap f = (items.take n).flatMap f ++ (f it ++ (items.drop (n + 1)).flatMap f) := by
    have e3 := congrArg (fun q => List.flatMap f q) e
    simpa only [List.flatMap_append, List.flatMap_cons] using e3
  rw [e2]
  generalize (items.take n).flatMap f = A
  generalize (items.drop (n + 1)).flatMap f = B
  simp only [List.append_assoc]
  rw [← List.append_assoc A, ← List.append_assoc (f it) A]
  exact List.perm_append_comm.append_right _
/-- All keys are different. -/
def keysD (items : List ItD) : List Nat := items.flatMap fun it => it.st.map (·.1)
end

section
variable {P : Program} {ops : Array Oper} {md : Region.Mode} {w0 : World} {bs : List Nat} {H : List Ent} {items : List ItD}
variable {EE : List Nat → ((Nat → Gx) → Act) → Prop} {k : Nat} {M : List Nat} {o : Oper} {rest : List Oper} {A A' : (Nat → Gx) → Act} {v : Value}

theorem CD.base {G : Gs} {χ : Nat → Gx} {w : World} (h : CD w0 bs items H G χ w) : St w0 bs w H := h.2.weak

theorem dx_skip (hw : ∀ χ, Region.wanted o (yielded ops (A χ).tmps) = false) [hp : ∀ χ, Put (A χ) o.dst undef (A' χ)] (h : wpFx P md ops (CD w0 bs items H) (mD items) EE (k + 1) M rest A') :
    wpFx P md ops (CD w0 bs items H) (mD items) EE k M (o :: rest) A := by
  refine .inr ⟨hw, ?_⟩
  rw [show (fun χ => (A χ).put o.dst undef) = A' from funext fun χ => (hp χ).h]
  exact h
/-- A plain operation. -/
theorem dx_val (hw : ∀ χ, Region.wanted o (yielded ops (A χ).tmps) = true) (hm : mD items k = false) (hv : ∀ χ w, St w0 bs w H → OpVal P o (A χ) w v) [hp : ∀ χ, Put (A χ) o.dst v (A' χ)]
    (h : wpFx P md ops (CD w0 bs items H) (mD items) EE (k + 1) M rest A') : wpFx P md ops (CD w0 bs items H) (mD items) EE k M (o :: rest) A := by
  refine .inl ⟨hw, fun _ => v, fun _ _ _ => rfl, ?_, ?_⟩
  · unfold Yy
    rw [if_neg (by rw [hm]; simp)]
    intro G χ w _ _ hC
    unfold stepX
    rw [hv χ w (CD.base hC)]
    exact ⟨rfl, hC⟩
  · rw [if_neg (by rw [hm]; simp), show (fun χ => (A χ).put o.dst v) = A' from funext fun χ => (hp χ).h]
    exact h
/-- A plain operation that hands on what was not known ahead. -/
theorem dx_gval (hw : ∀ χ, Region.wanted o (yielded ops (A χ).tmps) = true) (hm : mD items k = false) (v : (Nat → Gx) → Value) (hs : Supp md ops k v) (hv : ∀ χ w, St w0 bs w H → OpVal P o (A χ) w (v χ)) [hp : ∀ χ, Put (A χ) o.dst (v χ) (A' χ)]
    (h : wpFx P md ops (CD w0 bs items H) (mD items) EE (k + 1) M rest A') : wpFx P md ops (CD w0 bs items H) (mD items) EE k M (o :: rest) A := by
  refine .inl ⟨hw, v, hs, ?_, ?_⟩
  · unfold Yy
    rw [if_neg (by rw [hm]; simp)]
    intro G χ w _ _ hC
    unfold stepX
    rw [hv χ w (CD.base hC)]
    exact ⟨rfl, hC⟩
  · rw [if_neg (by rw [hm]; simp), show (fun χ => (A χ).put o.dst (v χ)) = A' from funext fun χ => (hp χ).h]
    exact h
/-- A call that leaves all pieces as they are, and asks none of those that are new. -/
theorem dx_ask (f : Nat) (xs : List Operand) (ts : Array TypeId) (ho : o.op = .call { callee := .value (.func f), args := xs.toArray, argTypes := ts }) (hw : ∀ χ, Region.wanted o (yielded ops (A χ).tmps) = true) (hm : mD items k = false) {vs : List Value} [hE : ∀ χ, EvL (A χ) xs vs]
    (he : ∀ args w, (callFunc f args).run P w = .ok (.enter f args) w) (v : Value) (hv : ∀ L w, St w0 bs w (L ++ H) → Calls P f vs.toArray w (fun e w'' => e = .returned v ∧ St w0 bs w'' (L ++ H))) [hp : ∀ χ, Put (A χ) o.dst v (A' χ)]
    (h : wpFx P md ops (CD w0 bs items H) (mD items) EE (k + 1) M rest A') : wpFx P md ops (CD w0 bs items H) (mD items) EE k M (o :: rest) A := by
  refine .inl ⟨hw, fun _ => v, fun _ _ _ => rfl, ?_, ?_⟩
  · unfold Yy
    rw [if_neg (by rw [hm]; simp)]
    intro G χ w _ _ hC
    exact stepX_call ho (hE := hE χ) he ((hv _ w hC.2).mono fun e w'' ⟨h1, h2⟩ => ⟨v, h1, rfl, hC.1, h2⟩)
  · rw [if_neg (by rw [hm]; simp), show (fun χ => (A χ).put o.dst v) = A' from funext fun χ => (hp χ).h]
    exact h

/-- Item n behind all its stages, and the rest. -/
theorem CD.pick {G : Gs} {χ : Nat → Gx} {w : World} {n : Nat} {it : ItD} (h : CD w0 bs items H G χ w) (hit : items[n]? = some it) (hall : ∀ s ∈ it.st, G s.1 = true) :
    okDL χ it.x0 it.st ∧ ∃ L, St w0 bs w ((lastD χ it.x0 it.st).2 ++ (L ++ H)) ∧ ∀ w', St w0 bs w' ((lastD χ it.x0 it.st).2 ++ (L ++ H)) → CD w0 bs items H G χ w' := by
  have hmem : it ∈ items := List.mem_of_getElem? hit
  have hp := flatD_pick (H := H) hit (fun it => it.cur G χ)
  have hcur : it.cur G χ = (lastD χ it.x0 it.st).2 := by unfold ItD.cur; rw [curD_all _ _ hall]
  simp only [hcur] at hp
  refine ⟨by rw [← okD_all _ _ hall]; exact h.1 it hmem, _, h.2.perm hp, fun w' hS => ⟨h.1, hS.perm hp.symm⟩⟩

/-- A call that asks a new piece, and leaves it. -/
theorem dx_use (n : Nat) {it : ItD} (hit : items[n]? = some it) (hall : (it.st.all fun s => M.contains s.1 && anc md ops s.1 k) = true)
    (f : Nat) (xs : List Operand) (ts : Array TypeId) (ho : o.op = .call { callee := .value (.func f), args := xs.toArray, argTypes := ts }) (hw : ∀ χ, Region.wanted o (yielded ops (A χ).tmps) = true) (hm : mD items k = false) {vs : (Nat → Gx) → List Value} [hE : ∀ χ, EvL (A χ) xs (vs χ)]
    (he : ∀ args w, (callFunc f args).run P w = .ok (.enter f args) w) (v : Value)
    (hv : ∀ χ L w, okDL χ it.x0 it.st → St w0 bs w ((lastD χ it.x0 it.st).2 ++ (L ++ H)) → Calls P f (vs χ).toArray w (fun e w'' => e = .returned v ∧ St w0 bs w'' ((lastD χ it.x0 it.st).2 ++ (L ++ H)))) [hp : ∀ χ, Put (A χ) o.dst v (A' χ)]
    (h : wpFx P md ops (CD w0 bs items H) (mD items) EE (k + 1) M rest A') : wpFx P md ops (CD w0 bs items H) (mD items) EE k M (o :: rest) A := by
  refine .inl ⟨hw, fun _ => v, fun _ _ _ => rfl, ?_, ?_⟩
  · unfold Yy
    rw [if_neg (by rw [hm]; simp)]
    intro G χ w hT _ hC
    have hG : ∀ s ∈ it.st, G s.1 = true := fun s hs => by
      have := List.all_eq_true.1 hall s hs
      simp only [Bool.and_eq_true] at this
      exact hT s.1 (by simpa using this.1) this.2
    obtain ⟨hok, L, hS, hback⟩ := hC.pick hit hG
    exact stepX_call ho (hE := hE χ) he ((hv χ L w hok hS).mono fun e w'' ⟨h1, h2⟩ => ⟨v, h1, rfl, hback w'' h2⟩)
  · rw [if_neg (by rw [hm]; simp), show (fun χ => (A χ).put o.dst v) = A' from funext fun χ => (hp χ).h]
    exact h
/-- A plain operation on a new piece. -/
theorem dx_val1 (n : Nat) {it : ItD} (hit : items[n]? = some it) (hall : (it.st.all fun s => M.contains s.1 && anc md ops s.1 k) = true)
    (hw : ∀ χ, Region.wanted o (yielded ops (A χ).tmps) = true) (hm : mD items k = false)
    (hv : ∀ χ L w, okDL χ it.x0 it.st → St w0 bs w ((lastD χ it.x0 it.st).2 ++ (L ++ H)) → OpVal P o (A χ) w v) [hp : ∀ χ, Put (A χ) o.dst v (A' χ)]
    (h : wpFx P md ops (CD w0 bs items H) (mD items) EE (k + 1) M rest A') : wpFx P md ops (CD w0 bs items H) (mD items) EE k M (o :: rest) A := by
  refine .inl ⟨hw, fun _ => v, fun _ _ _ => rfl, ?_, ?_⟩
  · unfold Yy
    rw [if_neg (by rw [hm]; simp)]
    intro G χ w hT _ hC
    have hG : ∀ s ∈ it.st, G s.1 = true := fun s hs => by
      have := List.all_eq_true.1 hall s hs
      simp only [Bool.and_eq_true] at this
      exact hT s.1 (by simpa using this.1) this.2
    obtain ⟨hok, L, hS, hback⟩ := hC.pick hit hG
    unfold stepX
    rw [hv χ L w hok hS]
    exact ⟨rfl, hC⟩
  · rw [if_neg (by rw [hm]; simp), show (fun χ => (A χ).put o.dst v) = A' from funext fun χ => (hp χ).h]
    exact h

theorem CD.pick2 {G : Gs} {χ : Nat → Gx} {w : World} {n n' : Nat} {it it' : ItD} (h : CD w0 bs items H G χ w) (hit : items[n]? = some it) (hit' : items[n']? = some it') (hlt : n < n') (hall : ∀ s ∈ it.st, G s.1 = true) (hall' : ∀ s ∈ it'.st, G s.1 = true) :
    okDL χ it.x0 it.st ∧ okDL χ it'.x0 it'.st ∧ ∃ L, St w0 bs w ((lastD χ it.x0 it.st).2 ++ ((lastD χ it'.x0 it'.st).2 ++ (L ++ H))) ∧ ∀ w', St w0 bs w' ((lastD χ it.x0 it.st).2 ++ ((lastD χ it'.x0 it'.st).2 ++ (L ++ H))) → CD w0 bs items H G χ w' := by
  have hmem : it ∈ items := List.mem_of_getElem? hit
  have hmem' : it' ∈ items := List.mem_of_getElem? hit'
  have hp := flatD_pick (H := H) hit (fun it => it.cur G χ)
  have hcur : it.cur G χ = (lastD χ it.x0 it.st).2 := by unfold ItD.cur; rw [curD_all _ _ hall]
  have hcur' : it'.cur G χ = (lastD χ it'.x0 it'.st).2 := by unfold ItD.cur; rw [curD_all _ _ hall']
  have hit2 : (items.drop (n + 1))[n' - (n + 1)]? = some it' := by rw [List.getElem?_drop, show n + 1 + (n' - (n + 1)) = n' by omega]; exact hit'
  have hp2 := flatD_pick (H := H) hit2 (fun it => it.cur G χ)
  simp only [hcur] at hp
  simp only [hcur'] at hp2
  have hp3 : (items.flatMap (fun it => it.cur G χ) ++ H).Perm ((lastD χ it.x0 it.st).2 ++ ((lastD χ it'.x0 it'.st).2 ++ (((items.take n).flatMap (fun it => it.cur G χ) ++ ((List.take (n' - (n + 1)) (items.drop (n + 1))).flatMap (fun it => it.cur G χ) ++ (List.drop (n' - (n + 1) + 1) (items.drop (n + 1))).flatMap (fun it => it.cur G χ))) ++ H))) := by
    refine hp.trans (List.Perm.append_left _ ?_)
    rw [List.append_assoc]
    refine (List.Perm.append_left _ hp2).trans ?_
    generalize (items.take n).flatMap (fun it => it.cur G χ) = U
    generalize (lastD χ it'.x0 it'.st).2 = V
    simp only [List.append_assoc]
    rw [← List.append_assoc U, ← List.append_assoc V U]
    exact List.perm_append_comm.append_right _
  refine ⟨by rw [← okD_all _ _ hall]; exact h.1 it hmem, by rw [← okD_all _ _ hall']; exact h.1 it' hmem', _, h.2.perm hp3, fun w' hS => ⟨h.1, hS.perm hp3.symm⟩⟩
/-- A call that asks two new pieces, and leaves them. -/
theorem dx_use2 (n n' : Nat) (hlt : n < n') {it it' : ItD} (hit : items[n]? = some it) (hit' : items[n']? = some it') (hall : (it.st.all fun s => M.contains s.1 && anc md ops s.1 k) = true) (hall' : (it'.st.all fun s => M.contains s.1 && anc md ops s.1 k) = true)
    (f : Nat) (xs : List Operand) (ts : Array TypeId) (ho : o.op = .call { callee := .value (.func f), args := xs.toArray, argTypes := ts }) (hw : ∀ χ, Region.wanted o (yielded ops (A χ).tmps) = true) (hm : mD items k = false) {vs : (Nat → Gx) → List Value} [hE : ∀ χ, EvL (A χ) xs (vs χ)]
    (he : ∀ args w, (callFunc f args).run P w = .ok (.enter f args) w) (v : Value)
    (hv : ∀ χ L w, okDL χ it.x0 it.st → okDL χ it'.x0 it'.st → St w0 bs w ((lastD χ it.x0 it.st).2 ++ ((lastD χ it'.x0 it'.st).2 ++ (L ++ H))) → Calls P f (vs χ).toArray w (fun e w'' => e = .returned v ∧ St w0 bs w'' ((lastD χ it.x0 it.st).2 ++ ((lastD χ it'.x0 it'.st).2 ++ (L ++ H))))) [hp : ∀ χ, Put (A χ) o.dst v (A' χ)]
    (h : wpFx P md ops (CD w0 bs items H) (mD items) EE (k + 1) M rest A') : wpFx P md ops (CD w0 bs items H) (mD items) EE k M (o :: rest) A := by
  refine .inl ⟨hw, fun _ => v, fun _ _ _ => rfl, ?_, ?_⟩
  · unfold Yy
    rw [if_neg (by rw [hm]; simp)]
    intro G χ w hT _ hC
    have hG : ∀ s ∈ it.st, G s.1 = true := fun s hs => by
      have := List.all_eq_true.1 hall s hs
      simp only [Bool.and_eq_true] at this
      exact hT s.1 (by simpa using this.1) this.2
    have hG' : ∀ s ∈ it'.st, G s.1 = true := fun s hs => by
      have := List.all_eq_true.1 hall' s hs
      simp only [Bool.and_eq_true] at this
      exact hT s.1 (by simpa using this.1) this.2
    obtain ⟨hok, hok', L, hS, hback⟩ := hC.pick2 hit hit' hlt hG hG'
    exact stepX_call ho (hE := hE χ) he ((hv χ L w hok hok' hS).mono fun e w'' ⟨h1, h2⟩ => ⟨v, h1, rfl, hback w'' h2⟩)
  · rw [if_neg (by rw [hm]; simp), show (fun χ => (A χ).put o.dst v) = A' from funext fun χ => (hp χ).h]
    exact h

/-- Stages of another piece, where an operation stands: the first s are behind it, the others ahead. -/
def atB (md : Region.Mode) (ops : Array Oper) (M : List Nat) (k : Nat) (it : ItD) (s : Nat) : Bool := ((it.st.take s).all fun q => M.contains q.1 && anc md ops q.1 k) && ((it.st.drop s).all fun q => anc md ops k q.1)
theorem CD.at {G : Gs} {χ : Nat → Gx} {w : World} {n s : Nat} {it : ItD} (h : CD w0 bs items H G χ w) (hit : items[n]? = some it) (hb : atB md ops M k it s = true) (hT : ∀ q ∈ M, anc md ops q k = true → G q = true) (hF : ∀ j, anc md ops k j = true → G j = false) :
    okDL χ it.x0 (it.st.take s) ∧ it.cur G χ = (lastD χ it.x0 (it.st.take s)).2 := by
  simp only [atB, Bool.and_eq_true, List.all_eq_true] at hb
  obtain ⟨h1, h2⟩ := hb
  have g1 : ∀ q ∈ it.st.take s, G q.1 = true := fun q hq => hT q.1 (by simpa using (h1 q hq).1) (h1 q hq).2
  have g2 : ∀ q ∈ it.st.drop s, G q.1 = false := fun q hq => hF q.1 (h2 q hq)
  have hsp : it.st = it.st.take s ++ it.st.drop s := (List.take_append_drop s it.st).symm
  have ho := h.1 it (List.mem_of_getElem? hit)
  rw [hsp] at ho
  refine ⟨okD_before _ _ _ g1 ho, ?_⟩
  unfold ItD.cur
  rw [hsp, curD_stop _ _ _ g1 g2, ← hsp]
/-- A plain operation that reads a piece at one of its stages. -/
theorem dx_valS (n s : Nat) {it : ItD} (hit : items[n]? = some it) (hb : atB md ops M k it s = true)
    (hw : ∀ χ, Region.wanted o (yielded ops (A χ).tmps) = true) (hm : mD items k = false) (v : (Nat → Gx) → Value) (hs : Supp md ops k v)
    (hv : ∀ χ L w, okDL χ it.x0 (it.st.take s) → St w0 bs w ((lastD χ it.x0 (it.st.take s)).2 ++ (L ++ H)) → OpVal P o (A χ) w (v χ)) [hp : ∀ χ, Put (A χ) o.dst (v χ) (A' χ)]
    (h : wpFx P md ops (CD w0 bs items H) (mD items) EE (k + 1) M rest A') : wpFx P md ops (CD w0 bs items H) (mD items) EE k M (o :: rest) A := by
  refine .inl ⟨hw, v, hs, ?_, ?_⟩
  · unfold Yy
    rw [if_neg (by rw [hm]; simp)]
    intro G χ w hT hF hC
    obtain ⟨hok, hcur⟩ := hC.at hit hb hT hF
    have hp1 := flatD_pick (H := H) hit (fun it => it.cur G χ)
    simp only [hcur] at hp1
    unfold stepX
    rw [hv χ _ w hok (hC.2.perm hp1)]
    exact ⟨rfl, hC⟩
  · rw [if_neg (by rw [hm]; simp), show (fun χ => (A χ).put o.dst (v χ)) = A' from funext fun χ => (hp χ).h]
    exact h
/-- An operation that turns piece n, at its stage s. -/
theorem dx_turn0 (n s : Nat) {it : ItD} {S : List Nat} {p : List Gx → Gx → Gx → Prop} (hit : items[n]? = some it) (hst : it.st[s]? = some (k, S, p)) (hnd : ndB (keysD items) = true) (hdep : depB md ops items = true)
    (hpre : ((it.st.take s).all fun q => M.contains q.1 && anc md ops q.1 k) = true) (hpost : ((it.st.drop (s + 1)).all fun q => anc md ops k q.1) = true)
    (hw : ∀ χ, Region.wanted o (yielded ops (A χ).tmps) = true) (v : Gx → Value)
    (hv : ∀ χ L w, okDL χ it.x0 (it.st.take s) → St w0 bs w ((lastD χ it.x0 (it.st.take s)).2 ++ (L ++ H)) → stepX P o (A χ) w (fun u w'' => ∃ x, u = v x ∧ p (S.map χ) (lastD χ it.x0 (it.st.take s)) x ∧ St w0 bs w'' (x.2 ++ (L ++ H)))) [hp : ∀ χ, Put (A χ) o.dst (v (χ k)) (A' χ)]
    (h : wpFx P md ops (CD w0 bs items H) (mD items) EE (k + 1) (k :: M) rest A') : wpFx P md ops (CD w0 bs items H) (mD items) EE k M (o :: rest) A := by
  have hmem : it ∈ items := List.mem_of_getElem? hit
  have hsplit : it.st = it.st.take s ++ (k, S, p) :: it.st.drop (s + 1) := split_at hst
  have hm : mD items k = true := by
    unfold mD
    rw [List.any_eq_true]
    refine ⟨it, hmem, ?_⟩
    rw [List.any_eq_true]
    exact ⟨(k, S, p), by rw [hsplit]; simp, by simp⟩
  have hdp : ∀ it' ∈ items, ∀ q ∈ it'.st, ∀ j ∈ q.2.1, anc md ops j q.1 = true ∧ j ≠ q.1 := by
    intro it' hi q hq j hj
    have := List.all_eq_true.1 (List.all_eq_true.1 (List.all_eq_true.1 hdep it' hi) q hq) j hj
    simpa using this
  -- the keys
  have hkeys := nd_of hnd
  have eitems : items = items.take n ++ it :: items.drop (n + 1) := split_at hit
  have ekeys : keysD items = keysD (items.take n) ++ ((it.st.take s).map (·.1) ++ k :: (it.st.drop (s + 1)).map (·.1)) ++ keysD (items.drop (n + 1)) := by
    have e1 : it.st.map (·.1) = (it.st.take s).map (·.1) ++ k :: (it.st.drop (s + 1)).map (·.1) := by
      have := congrArg (List.map (·.1)) hsplit
      rw [List.map_append, List.map_cons] at this
      exact this
    rw [← e1]
    unfold keysD
    rw [List.append_assoc, ← List.flatMap_cons (f := fun it : ItD => it.st.map (·.1)), ← List.flatMap_append, ← eitems]
  rw [ekeys] at hkeys
  rw [List.nodup_append, List.nodup_append, List.nodup_append, List.nodup_cons] at hkeys
  obtain ⟨⟨_, ⟨_, ⟨k1, _⟩, k2⟩, k3⟩, _, k4⟩ := hkeys
  have ka : ∀ q ∈ it.st.take s, q.1 ≠ k := fun q hq => k2 q.1 (List.mem_map_of_mem hq) k (by simp)
  have kb : ∀ q ∈ it.st.drop (s + 1), q.1 ≠ k := fun q hq e => k1 (by rw [← e]; exact List.mem_map_of_mem hq)
  have kc : ∀ it' ∈ items.take n ++ items.drop (n + 1), ∀ q ∈ it'.st, q.1 ≠ k := by
    intro it' hi q hq
    rcases List.mem_append.1 hi with hi | hi
    · exact k3 q.1 (List.mem_flatMap.2 ⟨it', hi, List.mem_map_of_mem hq⟩) k (by simp)
    · exact fun e => k4 k (by simp) q.1 (List.mem_flatMap.2 ⟨it', hi, List.mem_map_of_mem hq⟩) e.symm
  refine .inl ⟨hw, fun χ => v (χ k), supp_of (by simp) v, ?_, ?_⟩
  · unfold Yy
    rw [if_pos hm]
    intro G χ w hk hT hF hC
    have g1 : ∀ q ∈ it.st.take s, G q.1 = true := fun q hq => by
      have := List.all_eq_true.1 hpre q hq
      simp only [Bool.and_eq_true] at this
      exact hT q.1 (by simpa using this.1) this.2
    have g2 : ∀ q ∈ it.st.drop (s + 1), G q.1 = false := fun q hq => hF q.1 (List.all_eq_true.1 hpost q hq)
    have gd : ∀ it' ∈ items, ∀ q ∈ it'.st, G q.1 = true → k ∉ q.2.1 := fun it' hi q hq hg hj => by
      have := hF q.1 (hdp it' hi q hq k hj).1
      rw [hg] at this; cases this
    have hp1 := flatD_pick (H := H) hit (fun it => it.cur G χ)
    have hcur : it.cur G χ = (lastD χ it.x0 (it.st.take s)).2 := by
      unfold ItD.cur
      rw [hsplit, curD_before _ _ _ _ g1 hk]
      congr 2
      rw [← hsplit]
    simp only [hcur] at hp1
    have hokb : okDL χ it.x0 (it.st.take s) := by
      have := hC.1 it hmem
      rw [hsplit] at this
      exact okD_before _ _ _ g1 this
    have h1 := hv χ _ w hokb (hC.2.perm hp1)
    have fin : ∀ (u : Value) (w'' : World), (∃ x, u = v x ∧ p (S.map χ) (lastD χ it.x0 (it.st.take s)) x ∧ St w0 bs w'' (x.2 ++ (((items.take n).flatMap (fun it => it.cur G χ) ++ (items.drop (n + 1)).flatMap (fun it => it.cur G χ)) ++ H))) →
        ∃ x, u = v (up χ k x k) ∧ CD w0 bs items H (up G k true) (up χ k x) w'' := by
      rintro u w'' ⟨x, hu, hpx, hS⟩
      have hcurx : it.cur (up G k true) (up χ k x) = x.2 := by
        unfold ItD.cur
        rw [hsplit, curD_after _ _ _ _ (fun q hq => ⟨g1 q hq, ka q hq⟩) (fun q hq => ⟨g2 q hq, kb q hq⟩)]
      have hoth : ∀ l : List ItD, (∀ it' ∈ l, ∀ q ∈ it'.st, q.1 ≠ k) → l.flatMap (fun it => it.cur (up G k true) (up χ k x)) = l.flatMap (fun it => it.cur G χ) := by
        intro l hl
        induction l with
        | nil => rfl
        | cons a l ih =>
          rw [List.flatMap_cons, List.flatMap_cons, ih (fun it' hi => hl it' (by simp [hi]))]
          congr 1
          unfold ItD.cur
          rw [curD_other _ _ _ (hl a (by simp))]
      have hq1 := flatD_pick (H := H) hit (fun it => it.cur (up G k true) (up χ k x))
      simp only [hcurx] at hq1
      rw [hoth _ (fun it' hi => kc it' (List.mem_append_left _ hi)), hoth _ (fun it' hi => kc it' (List.mem_append_right _ hi))] at hq1
      refine ⟨x, by rw [up_same]; exact hu, fun it' hi => ?_, hS.perm hq1.symm⟩
      have hgd := gd it' hi
      have hi0 := hi
      rw [eitems] at hi
      rcases List.mem_append.1 hi with hi | hi
      · rw [okD_other _ _ _ (kc it' (List.mem_append_left _ hi)) hgd]
        exact hC.1 it' hi0
      · rcases List.mem_cons.1 hi with rfl | hi
        · rw [hsplit]
          have hself : ∀ q ∈ it'.st, q.1 = k → k ∉ q.2.1 := fun q hq e hj => (hdp it' hi0 q hq k hj).2 e.symm
          exact okD_after _ _ _ _ _ (fun q hq => ⟨g1 q hq, ka q hq⟩) (fun q hq => ⟨g2 q hq, kb q hq⟩) (fun q hq => hgd q (List.mem_of_mem_take hq) (g1 q hq)) (hself (k, S, p) (by rw [hsplit]; simp) rfl) hokb hpx
        · rw [okD_other _ _ _ (kc it' (List.mem_append_right _ hi)) hgd]
          exact hC.1 it' hi0
    unfold stepX at h1 ⊢
    revert h1
    generalize (execOp (A χ).eval o).run P w = r
    intro h1
    cases r with
    | ok nx w' =>
      cases nx <;> simp only [] at h1 ⊢
      case value u => exact fin _ _ h1
      case skip => exact fin _ _ h1
      case enter f args => exact h1.mono fun e w'' ⟨u, h2, h3⟩ => ⟨u, h2, fin _ _ h3⟩
    | halt e w' => simp only [] at h1
  · rw [if_pos hm, show (fun χ => (A χ).put o.dst (v (χ k))) = A' from funext fun χ => (hp χ).h]
    exact h
/-- An operation that turns piece n, at its stage s, and sees another piece m of the rest at its stage s2. -/
theorem dx_turnW (n s m s2 : Nat) {it it2 : ItD} {S : List Nat} {p : List Gx → Gx → Gx → Prop} (hit : items[n]? = some it) (hit2 : (items.take n ++ items.drop (n + 1))[m]? = some it2) (hst : it.st[s]? = some (k, S, p)) (hnd : ndB (keysD items) = true) (hdep : depB md ops items = true)
    (hpre : ((it.st.take s).all fun q => M.contains q.1 && anc md ops q.1 k) = true) (hpre2 : atB md ops M k it2 s2 = true) (hpost : ((it.st.drop (s + 1)).all fun q => anc md ops k q.1) = true)
    (hw : ∀ χ, Region.wanted o (yielded ops (A χ).tmps) = true) (v : Gx → Value)
    (hv : ∀ χ L w, okDL χ it.x0 (it.st.take s) → okDL χ it2.x0 (it2.st.take s2) → St w0 bs w ((lastD χ it.x0 (it.st.take s)).2 ++ ((lastD χ it2.x0 (it2.st.take s2)).2 ++ (L ++ H))) → stepX P o (A χ) w (fun u w'' => ∃ x, u = v x ∧ p (S.map χ) (lastD χ it.x0 (it.st.take s)) x ∧ St w0 bs w'' (x.2 ++ ((lastD χ it2.x0 (it2.st.take s2)).2 ++ (L ++ H))))) [hp : ∀ χ, Put (A χ) o.dst (v (χ k)) (A' χ)]
    (h : wpFx P md ops (CD w0 bs items H) (mD items) EE (k + 1) (k :: M) rest A') : wpFx P md ops (CD w0 bs items H) (mD items) EE k M (o :: rest) A := by
  have hmem : it ∈ items := List.mem_of_getElem? hit
  have hsplit : it.st = it.st.take s ++ (k, S, p) :: it.st.drop (s + 1) := split_at hst
  have hm : mD items k = true := by
    unfold mD
    rw [List.any_eq_true]
    refine ⟨it, hmem, ?_⟩
    rw [List.any_eq_true]
    exact ⟨(k, S, p), by rw [hsplit]; simp, by simp⟩
  have hdp : ∀ it' ∈ items, ∀ q ∈ it'.st, ∀ j ∈ q.2.1, anc md ops j q.1 = true ∧ j ≠ q.1 := by
    intro it' hi q hq j hj
    have := List.all_eq_true.1 (List.all_eq_true.1 (List.all_eq_true.1 hdep it' hi) q hq) j hj
    simpa using this
  -- the keys
  have hkeys := nd_of hnd
  have eitems : items = items.take n ++ it :: items.drop (n + 1) := split_at hit
  have ekeys : keysD items = keysD (items.take n) ++ ((it.st.take s).map (·.1) ++ k :: (it.st.drop (s + 1)).map (·.1)) ++ keysD (items.drop (n + 1)) := by
    have e1 : it.st.map (·.1) = (it.st.take s).map (·.1) ++ k :: (it.st.drop (s + 1)).map (·.1) := by
      have := congrArg (List.map (·.1)) hsplit
      rw [List.map_append, List.map_cons] at this
      exact this
    rw [← e1]
    unfold keysD
    rw [List.append_assoc, ← List.flatMap_cons (f := fun it : ItD => it.st.map (·.1)), ← List.flatMap_append, ← eitems]
  rw [ekeys] at hkeys
  rw [List.nodup_append, List.nodup_append, List.nodup_append, List.nodup_cons] at hkeys
  obtain ⟨⟨_, ⟨_, ⟨k1, _⟩, k2⟩, k3⟩, _, k4⟩ := hkeys
  have ka : ∀ q ∈ it.st.take s, q.1 ≠ k := fun q hq => k2 q.1 (List.mem_map_of_mem hq) k (by simp)
  have kb : ∀ q ∈ it.st.drop (s + 1), q.1 ≠ k := fun q hq e => k1 (by rw [← e]; exact List.mem_map_of_mem hq)
  have kc : ∀ it' ∈ items.take n ++ items.drop (n + 1), ∀ q ∈ it'.st, q.1 ≠ k := by
    intro it' hi q hq
    rcases List.mem_append.1 hi with hi | hi
    · exact k3 q.1 (List.mem_flatMap.2 ⟨it', hi, List.mem_map_of_mem hq⟩) k (by simp)
    · exact fun e => k4 k (by simp) q.1 (List.mem_flatMap.2 ⟨it', hi, List.mem_map_of_mem hq⟩) e.symm
  refine .inl ⟨hw, fun χ => v (χ k), supp_of (by simp) v, ?_, ?_⟩
  · unfold Yy
    rw [if_pos hm]
    intro G χ w hk hT hF hC
    have g1 : ∀ q ∈ it.st.take s, G q.1 = true := fun q hq => by
      have := List.all_eq_true.1 hpre q hq
      simp only [Bool.and_eq_true] at this
      exact hT q.1 (by simpa using this.1) this.2
    have g2 : ∀ q ∈ it.st.drop (s + 1), G q.1 = false := fun q hq => hF q.1 (List.all_eq_true.1 hpost q hq)
    have gd : ∀ it' ∈ items, ∀ q ∈ it'.st, G q.1 = true → k ∉ q.2.1 := fun it' hi q hq hg hj => by
      have := hF q.1 (hdp it' hi q hq k hj).1
      rw [hg] at this; cases this
    have hp1 := flatD_pick (H := H) hit (fun it => it.cur G χ)
    have hcur : it.cur G χ = (lastD χ it.x0 (it.st.take s)).2 := by
      unfold ItD.cur
      rw [hsplit, curD_before _ _ _ _ g1 hk]
      congr 2
      rw [← hsplit]
    have hmem2 : it2 ∈ items := by
      have := List.mem_of_getElem? hit2
      rw [eitems]
      rcases List.mem_append.1 this with h | h
      · exact List.mem_append_left _ h
      · exact List.mem_append_right _ (List.mem_cons_of_mem _ h)
    obtain ⟨n2, hn2⟩ := List.getElem?_of_mem hmem2
    obtain ⟨hok2, hcur2⟩ := hC.at hn2 hpre2 hT hF
    have hp2 := flatD_pick (H := H) hit2 (fun it => it.cur G χ)
    rw [List.flatMap_append] at hp2
    have hp3 := hp1.trans (List.Perm.append_left (it.cur G χ) hp2)
    simp only [hcur, hcur2] at hp3
    have hokb : okDL χ it.x0 (it.st.take s) := by
      have := hC.1 it hmem
      rw [hsplit] at this
      exact okD_before _ _ _ g1 this
    have h1 := hv χ _ w hokb hok2 (hC.2.perm hp3)
    have fin : ∀ (u : Value) (w'' : World), (∃ x, u = v x ∧ p (S.map χ) (lastD χ it.x0 (it.st.take s)) x ∧ St w0 bs w'' (x.2 ++ ((lastD χ it2.x0 (it2.st.take s2)).2 ++ (((List.take m (items.take n ++ items.drop (n + 1))).flatMap (fun it => it.cur G χ) ++ (List.drop (m + 1) (items.take n ++ items.drop (n + 1))).flatMap (fun it => it.cur G χ)) ++ H)))) →
        ∃ x, u = v (up χ k x k) ∧ CD w0 bs items H (up G k true) (up χ k x) w'' := by
      rintro u w'' ⟨x, hu, hpx, hS⟩
      have hcurx : it.cur (up G k true) (up χ k x) = x.2 := by
        unfold ItD.cur
        rw [hsplit, curD_after _ _ _ _ (fun q hq => ⟨g1 q hq, ka q hq⟩) (fun q hq => ⟨g2 q hq, kb q hq⟩)]
      have hoth : ∀ l : List ItD, (∀ it' ∈ l, ∀ q ∈ it'.st, q.1 ≠ k) → l.flatMap (fun it => it.cur (up G k true) (up χ k x)) = l.flatMap (fun it => it.cur G χ) := by
        intro l hl
        induction l with
        | nil => rfl
        | cons a l ih =>
          rw [List.flatMap_cons, List.flatMap_cons, ih (fun it' hi => hl it' (by simp [hi]))]
          congr 1
          unfold ItD.cur
          rw [curD_other _ _ _ (hl a (by simp))]
      have hq1 := flatD_pick (H := H) hit (fun it => it.cur (up G k true) (up χ k x))
      simp only [hcurx] at hq1
      rw [hoth _ (fun it' hi => kc it' (List.mem_append_left _ hi)), hoth _ (fun it' hi => kc it' (List.mem_append_right _ hi))] at hq1
      have hq2 := hq1.trans (List.Perm.append_left x.2 hp2)
      simp only [hcur2] at hq2
      refine ⟨x, by rw [up_same]; exact hu, fun it' hi => ?_, hS.perm hq2.symm⟩
      have hgd := gd it' hi
      have hi0 := hi
      rw [eitems] at hi
      rcases List.mem_append.1 hi with hi | hi
      · rw [okD_other _ _ _ (kc it' (List.mem_append_left _ hi)) hgd]
        exact hC.1 it' hi0
      · rcases List.mem_cons.1 hi with rfl | hi
        · rw [hsplit]
          have hself : ∀ q ∈ it'.st, q.1 = k → k ∉ q.2.1 := fun q hq e hj => (hdp it' hi0 q hq k hj).2 e.symm
          exact okD_after _ _ _ _ _ (fun q hq => ⟨g1 q hq, ka q hq⟩) (fun q hq => ⟨g2 q hq, kb q hq⟩) (fun q hq => hgd q (List.mem_of_mem_take hq) (g1 q hq)) (hself (k, S, p) (by rw [hsplit]; simp) rfl) hokb hpx
        · rw [okD_other _ _ _ (kc it' (List.mem_append_right _ hi)) hgd]
          exact hC.1 it' hi0
    unfold stepX at h1 ⊢
    revert h1
    generalize (execOp (A χ).eval o).run P w = r
    intro h1
    cases r with
    | ok nx w' =>
      cases nx <;> simp only [] at h1 ⊢
      case value u => exact fin _ _ h1
      case skip => exact fin _ _ h1
      case enter f args => exact h1.mono fun e w'' ⟨u, h2, h3⟩ => ⟨u, h2, fin _ _ h3⟩
    | halt e w' => simp only [] at h1
  · rw [if_pos hm, show (fun χ => (A χ).put o.dst (v (χ k))) = A' from funext fun χ => (hp χ).h]
    exact h
/-- A call that turns piece n. -/
theorem dx_turn (n s : Nat) {it : ItD} {S : List Nat} {p : List Gx → Gx → Gx → Prop} (hit : items[n]? = some it) (hst : it.st[s]? = some (k, S, p)) (hnd : ndB (keysD items) = true) (hdep : depB md ops items = true)
    (hpre : ((it.st.take s).all fun q => M.contains q.1 && anc md ops q.1 k) = true) (hpost : ((it.st.drop (s + 1)).all fun q => anc md ops k q.1) = true)
    (f : Nat) (xs : List Operand) (ts : Array TypeId) (ho : o.op = .call { callee := .value (.func f), args := xs.toArray, argTypes := ts }) (hw : ∀ χ, Region.wanted o (yielded ops (A χ).tmps) = true) {vs : (Nat → Gx) → List Value} [hE : ∀ χ, EvL (A χ) xs (vs χ)]
    (he : ∀ args w, (callFunc f args).run P w = .ok (.enter f args) w) (v : Gx → Value)
    (hv : ∀ χ L w, okDL χ it.x0 (it.st.take s) → St w0 bs w ((lastD χ it.x0 (it.st.take s)).2 ++ (L ++ H)) → Calls P f (vs χ).toArray w (fun e w'' => ∃ x, e = .returned (v x) ∧ p (S.map χ) (lastD χ it.x0 (it.st.take s)) x ∧ St w0 bs w'' (x.2 ++ (L ++ H)))) [hp : ∀ χ, Put (A χ) o.dst (v (χ k)) (A' χ)]
    (h : wpFx P md ops (CD w0 bs items H) (mD items) EE (k + 1) (k :: M) rest A') : wpFx P md ops (CD w0 bs items H) (mD items) EE k M (o :: rest) A :=
  dx_turn0 n s hit hst hnd hdep hpre hpost hw v (fun χ L w hok hS => stepX_call ho (hE := hE χ) he ((hv χ L w hok hS).mono fun e w'' ⟨x, h1, h2, h3⟩ => ⟨v x, h1, x, rfl, h2, h3⟩)) h
/-- A call that turns piece n and sees another one. -/
theorem dx_turnWc (n s m s2 : Nat) {it it2 : ItD} {S : List Nat} {p : List Gx → Gx → Gx → Prop} (hit : items[n]? = some it) (hit2 : (items.take n ++ items.drop (n + 1))[m]? = some it2) (hst : it.st[s]? = some (k, S, p)) (hnd : ndB (keysD items) = true) (hdep : depB md ops items = true)
    (hpre : ((it.st.take s).all fun q => M.contains q.1 && anc md ops q.1 k) = true) (hpre2 : atB md ops M k it2 s2 = true) (hpost : ((it.st.drop (s + 1)).all fun q => anc md ops k q.1) = true)
    (f : Nat) (xs : List Operand) (ts : Array TypeId) (ho : o.op = .call { callee := .value (.func f), args := xs.toArray, argTypes := ts }) (hw : ∀ χ, Region.wanted o (yielded ops (A χ).tmps) = true) {vs : (Nat → Gx) → List Value} [hE : ∀ χ, EvL (A χ) xs (vs χ)]
    (he : ∀ args w, (callFunc f args).run P w = .ok (.enter f args) w) (v : Gx → Value)
    (hv : ∀ χ L w, okDL χ it.x0 (it.st.take s) → okDL χ it2.x0 (it2.st.take s2) → St w0 bs w ((lastD χ it.x0 (it.st.take s)).2 ++ ((lastD χ it2.x0 (it2.st.take s2)).2 ++ (L ++ H))) → Calls P f (vs χ).toArray w (fun e w'' => ∃ x, e = .returned (v x) ∧ p (S.map χ) (lastD χ it.x0 (it.st.take s)) x ∧ St w0 bs w'' (x.2 ++ ((lastD χ it2.x0 (it2.st.take s2)).2 ++ (L ++ H))))) [hp : ∀ χ, Put (A χ) o.dst (v (χ k)) (A' χ)]
    (h : wpFx P md ops (CD w0 bs items H) (mD items) EE (k + 1) (k :: M) rest A') : wpFx P md ops (CD w0 bs items H) (mD items) EE k M (o :: rest) A :=
  dx_turnW n s m s2 hit hit2 hst hnd hdep hpre hpre2 hpost hw v (fun χ L w hok hok2 hS => stepX_call ho (hE := hE χ) he ((hv χ L w hok hok2 hS).mono fun e w'' ⟨x, h1, h2, h3⟩ => ⟨v x, h1, x, rfl, h2, h3⟩)) h

theorem region_deps {id : Nat} {l : List Oper} {Q : Exit → Act → World → Prop} {a : Act} {w : World} (items : List ItD) (H : List Ent) (hS : St w0 bs w (items.flatMap (fun it => it.x0.2) ++ H)) (hm : P.follows .mixedOrders = true) (hB : Region.lexB .any l.toArray = true)
    (h : wpFx P .any l.toArray (CD w0 bs items H) (mD items) (fun M A => ∀ χ G w', (∀ s ∈ M, G s = true) → CD w0 bs items H G χ w' → Q .normal (A χ) w') 0 [] l (fun _ => a)) : (Code.region id l.toArray true).wp P Q a w := by
  refine region_free (X := Gx) (CD w0 bs items H) (mD items) hm hB ⟨fun it _ => ?_, ?_⟩ h
  · cases hst : it.st with
    | nil => trivial
    | cons s l => obtain ⟨j, S, q⟩ := s; unfold okD; simp
  · have e : ∀ it : ItD, it.cur (fun _ => false) (fun _ => default) = it.x0.2 := fun it => by
      unfold ItD.cur
      cases hst : it.st with
      | nil => rfl
      | cons s l => obtain ⟨j, S, q⟩ := s; unfold curD; simp
    rw [show (fun it : ItD => it.cur (fun _ => false) (fun _ => default)) = (fun it => it.x0.2) from funext e]
    exact hS.drawn _
theorem region_depsE {id : Nat} {l : List Oper} {Q : Exit → Act → World → Prop} {a : Act} {w : World} (items : List ItD) (H H0 : List Ent) (hF : items.flatMap (fun it => it.x0.2) ++ H = H0) (hS : St w0 bs w H0) (hm : P.follows .mixedOrders = true) (hB : Region.lexB .any l.toArray = true)
    (h : wpFx P .any l.toArray (CD w0 bs items H) (mD items) (fun M A => ∀ χ G w', (∀ s ∈ M, G s = true) → CD w0 bs items H G χ w' → Q .normal (A χ) w') 0 [] l (fun _ => a)) : (Code.region id l.toArray true).wp P Q a w := by
  subst hF
  exact region_deps items H hS hm hB h
/-- All pieces are new. -/
theorem region_depnew {id : Nat} {l : List Oper} {Q : Exit → Act → World → Prop} {a : Act} {w : World} (items : List ItD) (h0 : items.all (fun it => it.x0.2.isEmpty) = true) {H0 : List Ent} (hS : St w0 bs w H0) (H : List Ent) (hm : P.follows .mixedOrders = true) (hB : Region.lexB .any l.toArray = true) [hpk : Pick H H0]
    (h : wpFx P .any l.toArray (CD w0 bs items H) (mD items) (fun M A => ∀ χ G w', (∀ s ∈ M, G s = true) → CD w0 bs items H G χ w' → Q .normal (A χ) w') 0 [] l (fun _ => a)) : (Code.region id l.toArray true).wp P Q a w := by
  refine region_deps items H ?_ hm hB h
  have : items.flatMap (fun it => it.x0.2) = [] := by
    rw [List.flatMap_eq_nil_iff]
    intro it hi
    have := List.all_eq_true.1 h0 it hi
    simpa using this
  rw [this]
  exact hS.pick
/-- The end. -/
theorem dx_end {Q : Exit → Act → World → Prop} (hall : (items.all fun it => it.st.all fun s => M.contains s.1) = true)
    (h : ∀ χ w', (∀ it ∈ items, okDL χ it.x0 it.st) → St w0 bs w' (items.flatMap (fun it => (lastD χ it.x0 it.st).2) ++ H) → Q .normal (A χ) w') :
    wpFx P md ops (CD w0 bs items H) (mD items) (fun M A => ∀ χ G w', (∀ s ∈ M, G s = true) → CD w0 bs items H G χ w' → Q .normal (A χ) w') k M [] A := by
  intro χ G w' hM hC
  have hG : ∀ it ∈ items, ∀ s ∈ it.st, G s.1 = true := fun it hi s hs => by
    have := List.all_eq_true.1 (List.all_eq_true.1 hall it hi) s hs
    exact hM s.1 (by simpa using this)
  refine h χ w' (fun it hi => by rw [← okD_all _ _ (hG it hi)]; exact hC.1 it hi) ?_
  have e : ∀ l : List ItD, (∀ it ∈ l, it ∈ items) → l.flatMap (fun it => it.cur G χ) = l.flatMap (fun it => (lastD χ it.x0 it.st).2) := by
    intro l hl
    induction l with
    | nil => rfl
    | cons a l ih =>
      rw [List.flatMap_cons, List.flatMap_cons, ih (fun it hi => hl it (by simp [hi]))]
      congr 1
      unfold ItD.cur
      rw [curD_all _ _ (hG a (hl a (by simp)))]
  rw [← e items (fun _ h => h)]
  exact hC.2
end
section
variable {P : Program} {o : Oper} {a : Act} {w w0 : World} {bs : List Nat} {H : List Ent} {Φ : Value → World → Prop} {v : Value}
/-- A store of one cell. -/
theorem stepX_st (t : TypeId) (x y : Operand) (ho : o.op = .store t x y) (hS : St w0 bs w H) {b off : Nat} [hx : Ev a x (.pointer (some ⟨b, off, none⟩))] [hy : Ev a y v] [hsc : ScalarT P t] [h1c : OneCell v]
    {cs cs' : Array Value} {T : TypeId} {H' : List Ent} [hH : Has H b cs T] [hs : SetAt cs off v cs'] [hu : Upd H b cs' T H'] (h : ∀ w', St w0 bs w' H' → Φ undef w') : stepX P o a w Φ := by
  have hb := hS.has hH
  have h1 := cell_of_has (w := w) (off := off) hb
  rw [Array.getElem?_eq_getElem hs.lt] at h1
  have h2 := frozen_of_has (w := w) (off := off) hb
  have hS' : St w0 bs (w.setCell ⟨b, off, none⟩ v) H' := hS.upd (Chg.setCell w ⟨b, off, none⟩ v) (by rw [setCell_heap_same hb, hs.h])
  have hr : (store ⟨b, off, none⟩ v).run P w = .ok () (w.setCell ⟨b, off, none⟩ v) := by
    rw [run_store _ _ _ _ _ h1c.h, h1]; simp [h2]
  have hr2 : (execOp a.eval o).run P w = .ok .skip (w.setCell ⟨b, off, none⟩ v) := by
    simp only [execOp, ho, hx.h, hy.h, Instr.storeAt, Instr.sureAddr, storeVar, Sem.run_bind, Sem.run_pure, Result.andThen_ok, run_sizeOf' hsc.s, h1c.cells, List.size_toArray, List.length_cons, List.length_nil,
      ne_eq, not_true_eq_false, if_false, Nat.zero_add, storeCells, Addr.add, if_true, hr]
  unfold stepX
  rw [hr2]
  exact h _ hS'
theorem stepX_to {a : Act} {w : World} {Φ : Value → World → Prop} (n : Nat) (hd : o.dst = some n) (hn : n < a.tmps.size) (h : Stp P o a w (fun a' w' => ∃ v, a' = a.put o.dst v ∧ Φ v w')) : stepX P o a w Φ := by
  have inj : ∀ u v : Value, a.put o.dst u = a.put o.dst v → u = v := fun u v huv => by
    rw [hd] at huv
    have := congrArg (fun x : Act => x.tmps[n]?) huv
    simpa [Act.put, hn] using this
  obtain ⟨r, w', hr, h⟩ := h
  unfold stepX
  rw [hr]
  rcases h with ⟨v', rfl, v, hv, hΦ⟩ | ⟨rfl, v, hv, hΦ⟩
  · rw [inj _ _ hv]; exact hΦ
  · rw [← inj _ _ hv] at hΦ; exact hΦ
end
end Go.Mm
