/-
  A region that draws its order, whose marked operations turn the world and may hand back what was not known ahead (new blocks): one walk of the text's order serves every order.
-/
import Derived.Test.YtlpknbkgkhnfcaaReg
set_option linter.unusedSimpArgs false
set_option linter.unusedVariables false
namespace Go.Mm
open Go Go.RowKit

section
variable {P : Program} {ops : Array Oper} {md : Region.Mode} {X : Type}

/-- Which marked operations have been done. -/
abbrev Gs := Nat → Bool
def up {Y : Type} (χ : Nat → Y) (k : Nat) (x : Y) : Nat → Y := fun j => if j = k then x else χ j
theorem up_same {Y : Type} (χ : Nat → Y) (k : Nat) (x : Y) : up χ k x k = x := by simp [up]
theorem up_other {Y : Type} (χ : Nat → Y) {j k : Nat} (x : Y) (h : j ≠ k) : up χ k x j = χ j := by simp [up, h]

/-- The state behind those of the first n operations that have been done. -/
def dyn (ops : Array Oper) (a0 : Act) (V : Nat → Value) (p : Nat → Bool) : Nat → Act
  | 0 => a0
  | k + 1 => if p k then (dyn ops a0 V p k).put ((ops[k]?).bind (·.dst)) (V k) else dyn ops a0 V p k

theorem dyn_succ {a0 : Act} {V : Nat → Value} {p : Nat → Bool} (k : Nat) : dyn ops a0 V p (k + 1) = if p k then (dyn ops a0 V p k).put ((ops[k]?).bind (·.dst)) (V k) else dyn ops a0 V p k := rfl
theorem put_size (a : Act) (d : Option Tmp) (v : Value) : (a.put d v).tmps.size = a.tmps.size := by
  cases d <;> simp [Act.put]
theorem put_get_ne (a : Act) {d : Option Tmp} (v : Value) {t : Nat} (h : d ≠ some t) : (a.put d v).tmps[t]? = a.tmps[t]? := by
  cases d with
  | none => rfl
  | some d =>
    have : d ≠ t := fun e => h (by rw [e])
    simp [Act.put, Array.getElem?_setIfInBounds_ne this]
theorem put_get_same (a b : Act) (v : Value) {t : Nat} (h : a.tmps.size = b.tmps.size) : (a.put (some t) v).tmps[t]? = (b.put (some t) v).tmps[t]? := by
  simp [Act.put, Array.getElem?_setIfInBounds, h]
theorem dyn_size {a0 : Act} {V : Nat → Value} {p : Nat → Bool} : ∀ n, (dyn ops a0 V p n).tmps.size = a0.tmps.size
  | 0 => rfl
  | n + 1 => by
    unfold dyn
    split
    · rw [put_size, dyn_size n]
    · exact dyn_size n
theorem dyn_get1 {a0 : Act} {V : Nat → Value} {p : Nat → Bool} {t : Nat} : ∀ i, (∀ j, j < i → (ops[j]?).bind (·.dst) = some t → p j = true) → (dyn ops a0 V p i).tmps[t]? = (dyn ops a0 V (fun _ => true) i).tmps[t]?
  | 0, _ => rfl
  | i + 1, h => by
    have ih := dyn_get1 (a0 := a0) (V := V) i (fun j hj => h j (by omega))
    unfold dyn
    rw [if_pos rfl]
    by_cases hd : (ops[i]?).bind (·.dst) = some t
    · rw [if_pos (h i (by omega) hd), hd]
      exact put_get_same _ _ _ (by rw [dyn_size, dyn_size])
    · rw [put_get_ne _ _ hd]
      split
      · rw [put_get_ne _ _ hd, ih]
      · exact ih
theorem dyn_get2 {a0 : Act} {V : Nat → Value} {p : Nat → Bool} {t i : Nat} : ∀ n, i ≤ n → (∀ j, i ≤ j → j < n → (ops[j]?).bind (·.dst) = some t → p j = false) → (dyn ops a0 V p n).tmps[t]? = (dyn ops a0 V p i).tmps[t]?
  | 0, hi, _ => by
    have : i = 0 := by omega
    rw [this]
  | n + 1, hi, h => by
    by_cases e : i = n + 1
    · rw [e]
    have ih := dyn_get2 (a0 := a0) (V := V) n (by omega) (fun j h1 h2 => h j h1 (by omega))
    rw [dyn_succ]
    by_cases hd : (ops[n]?).bind (·.dst) = some t
    · rw [if_neg (by rw [h n (by omega) (by omega) hd]; simp), ih]
    · split
      · rw [put_get_ne _ _ hd, ih]
      · rw [ih]
theorem dyn_congr {a0 : Act} {V V' : Nat → Value} {p p' : Nat → Bool} : ∀ n, (∀ j, j < n → p j = p' j ∧ (p j = true → V j = V' j)) → dyn ops a0 V p n = dyn ops a0 V' p' n
  | 0, _ => rfl
  | n + 1, h => by
    have ih := dyn_congr (a0 := a0) n (fun j hj => h j (by omega))
    obtain ⟨h1, h2⟩ := h n (by omega)
    unfold dyn
    rw [ih, ← h1]
    split
    · rename_i hp; rw [h2 hp]
    · rfl
theorem dyn_set {a0 : Act} {V V' : Nat → Value} {p : Nat → Bool} {i : Nat} (hp : p i = false) : ∀ n, i < n → (∀ j, i < j → j < n → p j = true → ∀ d, (ops[i]?).bind (·.dst) = some d → (ops[j]?).bind (·.dst) ≠ some d) →
    (∀ j, j < n → p j = true → V' j = V j) → dyn ops a0 V' (fun j => if j = i then true else p j) n = (dyn ops a0 V p n).put ((ops[i]?).bind (·.dst)) (V' i)
  | 0, h, _, _ => absurd h (Nat.not_lt_zero _)
  | n + 1, hi, hd, hv => by
    by_cases e : i = n
    · subst e
      unfold dyn
      rw [if_pos (by simp), if_neg (by rw [hp]; simp)]
      congr 1
      refine dyn_congr i (fun j hj => ?_)
      have hne : j ≠ i := by omega
      simp only [if_neg hne, true_and]
      exact hv j (by omega)
    · have ih := dyn_set (a0 := a0) (V := V) (V' := V') hp n (by omega) (fun j h1 h2 => hd j h1 (by omega)) (fun j hj => hv j (by omega))
      have hne : n ≠ i := fun q => e q.symm
      unfold dyn
      simp only [if_neg hne]
      split
      · rename_i hpn
        rw [ih, hv n (by omega) hpn]
        exact Act.put_comm _ _ _ (fun d h1 => hd n (by omega) (by omega) hpn d h1)
      · exact ih

theorem eval_same {o : Oper} {a b : Act} (h : ∀ t ∈ o.looksAt ops, a.tmps[t]? = b.tmps[t]?) : ∀ x ∈ o.op.operands, a.eval x = b.eval x := by
  intro x hx
  cases x with
  | tmp t =>
    have ht : t ∈ o.looksAt ops := by
      unfold Oper.looksAt
      rw [List.mem_append]
      left
      rw [List.mem_filterMap]
      exact ⟨.tmp t, by simpa using hx, rfl⟩
    simp [Act.eval, h t ht]
  | _ => rfl
theorem wanted_same {o : Oper} {a b : Act} (h : ∀ t ∈ o.looksAt ops, a.tmps[t]? = b.tmps[t]?) : Region.wanted o (yielded ops a.tmps) = Region.wanted o (yielded ops b.tmps) := by
  unfold Region.wanted
  cases hg : o.guard with
  | none => rfl
  | some g =>
    obtain ⟨j, want⟩ := g
    simp only
    have : yielded ops a.tmps j = yielded ops b.tmps j := by
      unfold yielded
      cases hj : (ops[j]?).bind (·.dst) with
      | none => rfl
      | some t =>
        have ht : t ∈ o.looksAt ops := by
          unfold Oper.looksAt
          rw [List.mem_append]
          right
          rw [hg]
          simp [hj]
        simp only [Option.bind_some]
        rw [h t ht]
    rw [this]

/-! ### What is asked of an operation -/
def stepX (P : Program) (o : Oper) (a : Act) (w : World) (Φ : Value → World → Prop) : Prop := match (execOp a.eval o).run P w with
  | .ok (.value u) w' => Φ u w'
  | .ok .skip w' => Φ undef w'
  | .ok (.enter f args) w' => Calls P f args w' (fun e w'' => ∃ u, e = .returned u ∧ Φ u w'')
  | _ => False
theorem wp_of_stepX {o : Oper} {a : Act} {w : World} {Φ : Value → World → Prop} {K' : Act → World → Prop} {Q' : Exit → Act → World → Prop} (h3 : stepX P o a w Φ) (h : ∀ u w', Φ u w' → K' (a.put o.dst u) w') : o.wp P a w K' Q' := by
  unfold stepX at h3
  unfold Oper.wp
  generalize (execOp a.eval o).run P w = r at *
  cases r with
  | ok n w' =>
    cases n <;> simp only [] at h3 <;> simp only [Oper.upon]
    case value u => exact h _ _ h3
    case skip => exact h _ _ h3
    case enter f args => exact h3.mono fun e w'' ⟨u, he, hw''⟩ => by subst he; exact h _ _ hw''
  | halt x w' => simp only [] at h3

variable {C : Gs → (Nat → X) → World → Prop} {m : Nat → Bool}
/-- Operation k waits for operation s. -/
abbrev anc (md : Region.Mode) (ops : Array Oper) (s k : Nat) : Bool := ancB md ops s ops.size k
/-- A value that looks only at what this operation hands back, and at what those hand back that it waits for. -/
def Supp (md : Region.Mode) (ops : Array Oper) (k : Nat) (v : (Nat → X) → Value) : Prop := ∀ χ χ' : Nat → X, (∀ s, s = k ∨ anc md ops s k = true → χ s = χ' s) → v χ = v χ'
/-- What a step is: it looks only at what the operands hold, and may be weakened. -/
abbrev Sx := Oper → Act → World → (Value → World → Prop) → Prop
structure SxOk (sx : Sx) : Prop where
  mono : ∀ o a w (Φ Φ' : Value → World → Prop), (∀ u w', Φ u w' → Φ' u w') → sx o a w Φ → sx o a w Φ'
  congr : ∀ (o : Oper) (a b : Act) w Φ, (∀ cs c, o.op ≠ .select cs c) → (∀ x ∈ o.op.operands, a.eval x = b.eval x) → sx o a w Φ → sx o b w Φ
def Yy (sx : Sx) (md : Region.Mode) (ops : Array Oper) (C : Gs → (Nat → X) → World → Prop) (m : Nat → Bool) (k : Nat) (o : Oper) (A : (Nat → X) → Act) (M : List Nat) (v : (Nat → X) → Value) : Prop :=
  if m k then ∀ G χ w, G k = false → (∀ s ∈ M, anc md ops s k = true → G s = true) → (∀ j, anc md ops k j = true → G j = false) → C G χ w → sx o (A χ) w (fun u w' => ∃ x, u = v (up χ k x) ∧ C (up G k true) (up χ k x) w')
  else ∀ G χ w, (∀ s ∈ M, anc md ops s k = true → G s = true) → (∀ j, anc md ops k j = true → G j = false) → C G χ w → sx o (A χ) w (fun u w' => u = v χ ∧ C G χ w')
abbrev Yx (P : Program) (md : Region.Mode) (ops : Array Oper) (C : Gs → (Nat → X) → World → Prop) (m : Nat → Bool) (k : Nat) (o : Oper) (A : (Nat → X) → Act) (M : List Nat) (v : (Nat → X) → Value) : Prop := Yy (stepX P) md ops C m k o A M v
/-- The walk in the text's order. -/
def wpFy (sx : Sx) (md : Region.Mode) (ops : Array Oper) (C : Gs → (Nat → X) → World → Prop) (m : Nat → Bool) (E : List Nat → ((Nat → X) → Act) → Prop) : Nat → List Nat → List Oper → ((Nat → X) → Act) → Prop
  | _, M, [], A => E M A
  | k, M, o :: rest, A =>
    ((∀ χ, Region.wanted o (yielded ops (A χ).tmps) = true) ∧ ∃ v : (Nat → X) → Value, Supp md ops k v ∧ Yy sx md ops C m k o A M v ∧ wpFy sx md ops C m E (k + 1) (if m k then k :: M else M) rest (fun χ => (A χ).put o.dst (v χ)))
    ∨ ((∀ χ, Region.wanted o (yielded ops (A χ).tmps) = false) ∧ wpFy sx md ops C m E (k + 1) M rest (fun χ => (A χ).put o.dst undef))
abbrev wpFx (P : Program) (md : Region.Mode) (ops : Array Oper) (C : Gs → (Nat → X) → World → Prop) (m : Nat → Bool) (E : List Nat → ((Nat → X) → Act) → Prop) (k : Nat) (M : List Nat) (l : List Oper) (A : (Nat → X) → Act) : Prop := wpFy (stepX P) md ops C m E k M l A

/-- What is known of operation k. -/
def Good (sx : Sx) (md : Region.Mode) (ops : Array Oper) (C : Gs → (Nat → X) → World → Prop) (m : Nat → Bool) (a0 : Act) (V : Nat → (Nat → X) → Value) (bm : Nat → Bool) (k : Nat) (o : Oper) : Prop :=
  Supp md ops k (V k) ∧ (((∀ χ, Region.wanted o (yielded ops (dyn ops a0 (fun j => V j χ) (fun _ => true) k).tmps) = true) ∧ bm k = m k ∧ ∃ M : List Nat, (∀ s ∈ M, s < k ∧ bm s = true) ∧ Yy sx md ops C m k o (fun χ => dyn ops a0 (fun j => V j χ) (fun _ => true) k) M (V k))
    ∨ ((∀ χ, Region.wanted o (yielded ops (dyn ops a0 (fun j => V j χ) (fun _ => true) k).tmps) = false) ∧ bm k = false ∧ V k = fun _ => undef))

theorem fx_vals {sx : Sx} {E : List Nat → ((Nat → X) → Act) → Prop} {a0 : Act} : ∀ (l : List Oper) (k : Nat) (M : List Nat) (A : (Nat → X) → Act) (V0 : Nat → (Nat → X) → Value) (b0 : Nat → Bool), (∀ j, l[j]? = ops[k + j]?) →
    A = (fun χ => dyn ops a0 (fun j => V0 j χ) (fun _ => true) k) → (∀ s ∈ M, s < k ∧ b0 s = true) → wpFy sx md ops C m E k M l A →
    ∃ V bm Mf, (∀ j, j < k → V j = V0 j ∧ bm j = b0 j) ∧ (∀ j o, k ≤ j → ops[j]? = some o → Good sx md ops C m a0 V bm j o) ∧ (∀ s ∈ Mf, s < k + l.length ∧ bm s = true) ∧ E Mf (fun χ => dyn ops a0 (fun j => V j χ) (fun _ => true) (k + l.length))
  | [], k, M, A, V0, b0, hl, hA, hM, h => by
    refine ⟨V0, b0, M, fun _ _ => ⟨rfl, rfl⟩, fun j o hj ho => ?_, hM, by subst hA; exact h⟩
    have := hl (j - k)
    rw [show k + (j - k) = j by omega, ho] at this
    simp at this
  | o :: l, k, M, A, V0, b0, hl, hA, hM, h => by
    have h0 : ops[k]? = some o := by simpa using (hl 0).symm
    have hl' : ∀ j, l[j]? = ops[k + 1 + j]? := fun j => by have := hl (j + 1); simpa [Nat.add_assoc, Nat.add_comm 1 j] using this
    have key : ∀ (v : (Nat → X) → Value) (b : Bool) (M' : List Nat), (∀ s ∈ M', s < k + 1 ∧ (if s = k then b else b0 s) = true) → wpFy sx md ops C m E (k + 1) M' l (fun χ => (A χ).put o.dst (v χ)) →
        (∀ V bm, (∀ j, j < k + 1 → V j = (if j = k then v else V0 j) ∧ bm j = (if j = k then b else b0 j)) → Good sx md ops C m a0 V bm k o) →
        ∃ V bm Mf, (∀ j, j < k → V j = V0 j ∧ bm j = b0 j) ∧ (∀ j o, k ≤ j → ops[j]? = some o → Good sx md ops C m a0 V bm j o) ∧ (∀ s ∈ Mf, s < k + (l.length + 1) ∧ bm s = true) ∧ E Mf (fun χ => dyn ops a0 (fun j => V j χ) (fun _ => true) (k + (l.length + 1))) := by
      intro v b M' hM' hw hg
      obtain ⟨V, bm, Mf, g1, g2, g3, g4⟩ := fx_vals l (k + 1) M' _ (fun j => if j = k then v else V0 j) (fun j => if j = k then b else b0 j) hl' (by
        subst hA
        funext χ
        rw [dyn_succ]
        simp only [if_true, h0, Option.bind_some]
        congr 1
        refine dyn_congr k (fun j hj => ⟨rfl, fun _ => ?_⟩)
        have : j ≠ k := by omega
        simp [this]) hM' hw
      refine ⟨V, bm, Mf, fun j hj => ?_, fun j o' hj ho => ?_, fun s hs => ?_, ?_⟩
      · have := g1 j (by omega)
        have hne : j ≠ k := by omega
        simpa [hne] using this
      · by_cases e : j = k
        · subst e
          rw [h0] at ho
          obtain rfl := Option.some.inj ho
          exact hg V bm g1
        · exact g2 j o' (by omega) ho
      · have := g3 s hs
        exact ⟨by omega, this.2⟩
      · rw [show k + (l.length + 1) = k + 1 + l.length by omega]; exact g4
    have lexeq : ∀ (V : Nat → (Nat → X) → Value) (χ : Nat → X), (∀ j, j < k → V j = V0 j) → dyn ops a0 (fun j => V j χ) (fun _ => true) k = A χ := by
      intro V χ hV
      subst hA
      refine dyn_congr k (fun j hj => ⟨rfl, fun _ => ?_⟩)
      rw [hV j hj]
    rcases h with ⟨hw, v, hs, hy, hn⟩ | ⟨hw, hn⟩
    · refine key v (m k) _ ?_ hn ?_
      · intro s hs
        by_cases hm : m k = true
        · rw [if_pos hm] at hs
          rcases List.mem_cons.1 hs with rfl | hs
          · exact ⟨by omega, by simp [hm]⟩
          · have := hM s hs
            have hne : s ≠ k := by omega
            exact ⟨by omega, by simp [hne, this.2]⟩
        · rw [if_neg hm] at hs
          have := hM s hs
          have hne : s ≠ k := by omega
          exact ⟨by omega, by simp [hne, this.2]⟩
      · intro V bm hV
        have hV' : ∀ j, j < k → V j = V0 j := by
          intro j hj
          have h1 := (hV j (by omega)).1
          have hne : j ≠ k := by omega
          simpa [hne] using h1
        have hb' : ∀ j, j < k → bm j = b0 j := by
          intro j hj
          have h1 := (hV j (by omega)).2
          have hne : j ≠ k := by omega
          simpa [hne] using h1
        have hk := hV k (by omega)
        simp only [if_true] at hk
        have hl : (fun χ => dyn ops a0 (fun j => V j χ) (fun _ => true) k) = A := funext fun χ => lexeq V χ hV'
        refine ⟨by rw [hk.1]; exact hs, .inl ⟨fun χ => by rw [lexeq V χ hV']; exact hw χ, hk.2, M, fun s hs' => ?_, ?_⟩⟩
        · have := hM s hs'
          exact ⟨this.1, by rw [hb' s this.1]; exact this.2⟩
        · rw [hl, hk.1]; exact hy
    · refine key (fun _ => undef) false M ?_ hn ?_
      · intro s hs
        have := hM s hs
        have hne : s ≠ k := by omega
        exact ⟨by omega, by simp [hne, this.2]⟩
      · intro V bm hV
        have hV' : ∀ j, j < k → V j = V0 j := by
          intro j hj
          have h1 := (hV j (by omega)).1
          have hne : j ≠ k := by omega
          simpa [hne] using h1
        have hk := hV k (by omega)
        simp only [if_true] at hk
        refine ⟨by rw [hk.1]; exact fun _ _ _ => rfl, .inr ⟨fun χ => by rw [lexeq V χ hV']; exact hw χ, hk.2, hk.1⟩⟩

/-! ### What the Bool over the region says -/
theorem lex_facts : ∀ (fuel k : Nat) (listed : Array Bool), (∀ j, j < listed.size → (listed.getD j false = true ↔ j < k)) → listed.size = ops.size → Region.lexFrom md ops fuel k listed = true → k + fuel = ops.size →
    (∀ i o, k ≤ i → ops[i]? = some o → ∀ e ∈ o.after, Region.binds md e = true → e.on < i) ∧
    (∀ i j oi oj, k ≤ i → i < j → ops[i]? = some oi → ops[j]? = some oj → (∃ e ∈ oj.after, Region.binds md e = true ∧ e.on = i) ∨ oi.apart ops oj = true)
  | 0, k, listed, _, _, _, hk => by
    refine ⟨fun i o hi ho => ?_, fun i j oi oj hi hij hoi => ?_⟩
    · have := (Array.getElem?_eq_some_iff.1 ho).1; omega
    · have := (Array.getElem?_eq_some_iff.1 hoi).1; omega
  | fuel + 1, k, listed, hL, hs, hB, hk => by
    simp only [Region.lexFrom, Bool.and_eq_true] at hB
    obtain ⟨⟨hr, hf⟩, hB'⟩ := hB
    have hks : k < ops.size := by omega
    have hkr : k ∈ Region.ready md ops listed := by simpa using hr
    obtain ⟨_, ok, hok, hall⟩ := mem_ready.1 hkr
    obtain ⟨g1, g2⟩ := lex_facts fuel (k + 1) (listed.setIfInBounds k true) (fun j hj => by
      rw [Array.size_setIfInBounds] at hj
      by_cases e : k = j
      · subst e; simp [hj]
      · rw [getD_set_ne false e, hL j hj]; omega) (by simp [hs]) hB' (by omega)
    refine ⟨fun i o hi ho e he hb => ?_, fun i j oi oj hi hij hoi hoj => ?_⟩
    · by_cases e' : i = k
      · subst e'
        rw [hok] at ho
        obtain rfl := Option.some.inj ho
        have h1 := hall e he hb
        rcases Nat.lt_or_ge e.on listed.size with h' | h'
        · exact (hL e.on h').1 h1
        · simp [Array.getElem?_eq_none h'] at h1
      · exact g1 i o (by omega) ho e he hb
    · by_cases e' : i = k
      · subst e'
        by_cases hw : ∃ e ∈ oj.after, Region.binds md e = true ∧ e.on = i
        · exact .inl hw
        · refine .inr (Region.free_spec hoi hf j oj hoj (by omega) ?_ (fun e he hb heq => hw ⟨e, he, hb, heq⟩))
          have hjs : j < listed.size := by rw [hs]; exact (Array.getElem?_eq_some_iff.1 hoj).1
          have h1 : listed.getD j false ≠ true := fun q => by have := (hL j hjs).1 q; omega
          simp [hjs] at h1 ⊢
          exact h1
      · exact g2 i j oi oj (by omega) hij hoi hoj

/-- Where all that it holds has been done, an end. -/
structure Inv (P : Program) (md : Region.Mode) (ops : Array Oper) (C : Gs → (Nat → X) → World → Prop) (a0 : Act) (V : Nat → (Nat → X) → Value) (bm : Nat → Bool) (listed : Array Bool) (a : Act) (w : World) : Prop where
  size : listed.size = ops.size
  cl : ClosedL md ops listed
  ex : ∃ χ : Nat → X, a = dyn ops a0 (fun j => V j χ) (fun k => listed.getD k false) ops.size ∧ C (fun k => listed.getD k false && bm k) χ w

theorem getD_tf {l : Array Bool} {j : Nat} (h : j < l.size) (b c : Bool) : l.getD j b = l.getD j c := by simp [h]

theorem fx_step {sx : Sx} (hsx : SxOk sx) {a0 : Act} {V : Nat → (Nat → X) → Value} {bm : Nat → Bool} (hs : Region.noSelect ops = true) (hG : ∀ j o, ops[j]? = some o → Good sx md ops C m a0 V bm j o)
    (F1 : ∀ i o, ops[i]? = some o → ∀ e ∈ o.after, Region.binds md e = true → e.on < i)
    (F2 : ∀ i j oi oj, i < j → ops[i]? = some oi → ops[j]? = some oj → (∃ e ∈ oj.after, Region.binds md e = true ∧ e.on = i) ∨ oi.apart ops oj = true)
    {listed : Array Bool} {a : Act} {w : World} (hI : Inv P md ops C a0 V bm listed a w) {i : Nat} (hi : i ∈ Region.ready md ops listed) {o : Oper} (ho : ops[i]? = some o) :
    (Region.wanted o (yielded ops a.tmps) = true ∧ sx o a w (fun u w' => Inv P md ops C a0 V bm (listed.setIfInBounds i true) (a.put o.dst u) w')) ∨
    (Region.wanted o (yielded ops a.tmps) = false ∧ Inv P md ops C a0 V bm (listed.setIfInBounds i true) (a.put o.dst undef) w) := by
  obtain ⟨hun, o', ho', hall⟩ := mem_ready.1 hi
  rw [ho] at ho'
  obtain rfl := Option.some.inj ho'
  obtain ⟨χ, rfl, hC⟩ := hI.ex
  have his : i < ops.size := (Array.getElem?_eq_some_iff.1 ho).1
  have hil : i < listed.size := by rw [hI.size]; exact his
  have hunf : listed.getD i false = false := by rw [getD_tf hil false true]; exact hun
  -- those listed that come later do not wait for it
  have hno : ∀ j oj, ops[j]? = some oj → listed.getD j false = true → ∀ e ∈ oj.after, Region.binds md e = true → e.on ≠ i := by
    intro j oj hj hl e he hb heq
    have hjs : j < listed.size := by rw [hI.size]; exact (Array.getElem?_eq_some_iff.1 hj).1
    have := hI.cl j oj hj (by rw [getD_tf hjs true false]; exact hl) e he hb
    rw [heq, getD_tf hil true false, hunf] at this
    cases this
  have hanc : ∀ s, anc md ops s i = true → listed.getD s false = true := by
    intro s hs'
    have h1 := anc_listed hI.cl ops.size i o ho (fun e he hb => getD_up (hall e he hb)) hs'
    rcases Nat.lt_or_ge s listed.size with h' | h'
    · rw [getD_tf h' false true]; exact h1
    · exfalso
      -- what is waited for is an operation
      have key : ∀ n j, j < ops.size → ancB md ops s n j = true → s < ops.size := by
        intro n
        induction n with
        | zero => intro j _ h; cases h
        | succ n ih =>
          intro j hj h
          unfold ancB at h
          rw [Array.getElem?_eq_getElem hj] at h
          simp only at h
          obtain ⟨e, he, hb⟩ := Array.any_eq_true'.1 h
          simp only [Bool.and_eq_true, Bool.or_eq_true, beq_iff_eq] at hb
          have hlt := F1 j _ (Array.getElem?_eq_getElem hj) e he hb.1
          rcases hb.2 with h2 | h2
          · omega
          · exact ih e.on (by omega) h2
      have := key _ _ his hs'
      rw [hI.size] at h'; omega
  have hanc2 : ∀ j, anc md ops i j = true → listed.getD j false = false := by
    intro j hj
    by_cases hl : listed.getD j false = true
    · exfalso
      cases hoj : ops[j]? with
      | none =>
        have h1 : listed.size ≤ j := by rw [hI.size]; exact Array.getElem?_eq_none_iff.1 hoj
        simp [Array.getElem?_eq_none h1] at hl
      | some oj =>
        have hjs : j < listed.size := by rw [hI.size]; exact (Array.getElem?_eq_some_iff.1 hoj).1
        have h1 := anc_listed hI.cl ops.size j oj hoj (fun e he hb => hI.cl j oj hoj (by rw [getD_tf hjs true false]; exact hl) e he hb) hj
        rw [getD_tf hil true false, hunf] at h1
        cases h1
    · simpa using hl
  -- what it looks at is as in the text's order
  have hlook : ∀ t ∈ o.looksAt ops, (dyn ops a0 (fun j => V j χ) (fun k => listed.getD k false) ops.size).tmps[t]? = (dyn ops a0 (fun j => V j χ) (fun _ => true) i).tmps[t]? := by
    intro t ht
    rw [dyn_get2 ops.size (Nat.le_of_lt his) (i := i), dyn_get1 i]
    · intro j hj hd
      cases hoj : ops[j]? with
      | none => rw [hoj] at hd; cases hd
      | some oj =>
        rw [hoj] at hd
        simp only [Option.bind_some] at hd
        rcases F2 j i oj o hj hoj ho with ⟨e, he, hb, heq⟩ | hap
        · have := hall e he hb
          rw [heq] at this
          exact this
        · exact absurd ht ((Oper.apart_spec hap).1 t hd)
    · intro j hj hjn hd
      by_cases e : j = i
      · rw [e]; exact hunf
      · cases hoj : ops[j]? with
        | none => rw [hoj] at hd; cases hd
        | some oj =>
          rw [hoj] at hd
          simp only [Option.bind_some] at hd
          rcases F2 i j o oj (by omega) ho hoj with ⟨e', he, hb, heq⟩ | hap
          · by_cases hl : listed.getD j false = true
            · exact absurd heq (hno j oj hoj hl e' he hb)
            · simpa using hl
          · exact absurd ht ((Oper.apart_spec hap).2.2 t hd)
  -- the state behind it
  have hnext : ∀ χ', (∀ s, s ≠ i → χ' s = χ s) → (dyn ops a0 (fun j => V j χ) (fun k => listed.getD k false) ops.size).put o.dst (V i χ') = dyn ops a0 (fun j => V j χ') (fun k => (listed.setIfInBounds i true).getD k false) ops.size := by
    intro χ' hχ
    have h1 := dyn_set (ops := ops) (a0 := a0) (V := fun j => V j χ) (V' := fun j => V j χ') (p := fun k => listed.getD k false) (i := i) hunf ops.size his (fun j hij hjn hl d hd => by
      rw [Array.getElem?_eq_getElem hjn]
      simp only [Option.bind_some]
      rcases F2 i j o _ hij ho (Array.getElem?_eq_getElem hjn) with ⟨e', he, hb, heq⟩ | hap
      · exact absurd heq (hno j _ (Array.getElem?_eq_getElem hjn) hl e' he hb)
      · rw [ho] at hd
        exact (Oper.apart_spec hap).2.1 d hd) (fun j hjn hl => by
      refine (hG j _ (Array.getElem?_eq_getElem hjn)).1 χ' χ (fun s hs' => hχ s ?_)
      rintro rfl
      rcases hs' with rfl | hs'
      · rw [hunf] at hl; cases hl
      · rw [hanc2 j hs'] at hl; cases hl)
    rw [ho] at h1
    simp only [Option.bind_some] at h1
    rw [← h1]
    refine dyn_congr ops.size (fun j hj => ⟨?_, fun _ => rfl⟩)
    by_cases e : j = i
    · subst e; simp [hil]
    · simp only [if_neg e, getD_set_ne false (fun q => e q.symm)]
  have hcl' : ClosedL md ops (listed.setIfInBounds i true) := hI.cl.set ho (fun e he hb => getD_up (hall e he hb))
  have hGs : ∀ b, bm i = b → (fun k => (listed.setIfInBounds i true).getD k false && bm k) = up (fun k => listed.getD k false && bm k) i b := by
    intro b hb
    funext j
    by_cases e : j = i
    · subst e; simp [up, hil, hb]
    · simp only [up, if_neg e, getD_set_ne false (fun q => e q.symm)]
  obtain ⟨hsu, hg⟩ := hG i o ho
  rw [wanted_same hlook]
  rcases hg with ⟨hw, hbm, M, hM, hy⟩ | ⟨hw, hbm, hV⟩
  · refine .inl ⟨hw χ, ?_⟩
    have hMG : ∀ s ∈ M, anc md ops s i = true → (listed.getD s false && bm s) = true := fun s hs' ha => by rw [hanc s ha, (hM s hs').2]; rfl
    have hstep : ∀ Φ, sx o (dyn ops a0 (fun j => V j χ) (fun _ => true) i) w Φ → sx o (dyn ops a0 (fun j => V j χ) (fun k => listed.getD k false) ops.size) w Φ := fun Φ h =>
      hsx.congr o _ _ w Φ (fun cs b => Region.noSelect_spec hs i o cs b ho) (fun x hx => (eval_same hlook x hx).symm) h
    unfold Yy at hy
    by_cases hm : m i = true
    · rw [if_pos hm] at hy
      refine hsx.mono _ _ _ _ _ ?_ (hstep _ (hy _ χ w (by simp [hunf]) hMG (fun j hj => by rw [hanc2 j hj]; rfl) hC))
      rintro u w' ⟨x, rfl, hC'⟩
      refine ⟨by simp [hI.size], hcl', up χ i x, hnext _ (fun s hs' => up_other χ x hs'), ?_⟩
      rw [hGs true (by rw [hbm, hm])]
      exact hC'
    · rw [if_neg hm] at hy
      refine hsx.mono _ _ _ _ _ ?_ (hstep _ (hy _ χ w hMG (fun j hj => by rw [hanc2 j hj]; rfl) hC))
      rintro u w' ⟨rfl, hC'⟩
      refine ⟨by simp [hI.size], hcl', χ, hnext _ (fun s _ => rfl), ?_⟩
      rw [hGs false (by rw [hbm]; simpa using hm)]
      have : up (fun k => listed.getD k false && bm k) i false = (fun k => listed.getD k false && bm k) := by
        funext j
        by_cases e : j = i
        · subst e; simp [up, hunf]
        · simp only [up, if_neg e]
      rw [this]
      exact hC'
  · refine .inr ⟨hw χ, by simp [hI.size], hcl', χ, ?_, ?_⟩
    · rw [← hnext χ (fun s _ => rfl), hV]
    · rw [hGs false hbm]
      have : up (fun k => listed.getD k false && bm k) i false = (fun k => listed.getD k false && bm k) := by
        funext j
        by_cases e : j = i
        · subst e; simp [up, hunf]
        · simp only [up, if_neg e]
      rw [this]
      exact hC

def unl (listed : Array Bool) : Nat := ((List.range listed.size).filter (fun j => !listed.getD j false)).length
theorem unl_zero {listed : Array Bool} (h : unl listed = 0) : ∀ j, j < listed.size → listed.getD j false = true := by
  intro j hj
  unfold unl at h
  rw [List.length_eq_zero_iff, List.filter_eq_nil_iff] at h
  have := h j (List.mem_range.2 hj)
  simpa using this
theorem unl_set {listed : Array Bool} {i : Nat} (hi : i < listed.size) (h : listed.getD i false = false) : unl (listed.setIfInBounds i true) < unl listed := by
  unfold unl
  rw [Array.size_setIfInBounds]
  have key : ∀ n, ((List.range n).filter (fun j => !(listed.setIfInBounds i true).getD j false)).length + (if i < n then 1 else 0) = ((List.range n).filter (fun j => !listed.getD j false)).length := by
    intro n
    induction n with
    | zero => simp
    | succ n ih =>
      rw [List.range_succ, List.filter_append, List.filter_append, List.length_append, List.length_append]
      by_cases e : n = i
      · subst e
        rw [if_neg (Nat.lt_irrefl n)] at ih
        rw [if_pos (Nat.lt_succ_self n)]
        have e1 : (listed.setIfInBounds n true).getD n false = true := by simp [hi]
        simp only [List.filter_cons, List.filter_nil, h, e1]
        simp
        simp at ih
        omega
      · have q := getD_set_ne (listed := listed) (i := i) (j := n) false (fun q => e q.symm)
        simp only [List.filter_cons, List.filter_nil, q]
        by_cases e2 : i < n
        · rw [if_pos e2] at ih; rw [if_pos (show i < n + 1 by omega)]; omega
        · rw [if_neg e2] at ih; rw [if_neg (show ¬ i < n + 1 by omega)]; omega
  have := key listed.size
  rw [if_pos hi] at this
  omega

theorem fx_any (hsx : SxOk (stepX P)) {a0 : Act} {V : Nat → (Nat → X) → Value} {bm : Nat → Bool} (hs : Region.noSelect ops = true) (hG : ∀ j o, ops[j]? = some o → Good (stepX P) md ops C m a0 V bm j o)
    (F1 : ∀ i o, ops[i]? = some o → ∀ e ∈ o.after, Region.binds md e = true → e.on < i)
    (F2 : ∀ i j oi oj, i < j → ops[i]? = some oi → ops[j]? = some oj → (∃ e ∈ oj.after, Region.binds md e = true ∧ e.on = i) ∨ oi.apart ops oj = true)
    {Q' : Exit → Act → World → Prop} (hQ : ∀ χ G w, (∀ s, s < ops.size → bm s = true → G s = true) → C G χ w → Q' .normal (dyn ops a0 (fun j => V j χ) (fun _ => true) ops.size) w) :
    ∀ (fuel : Nat) (listed : Array Bool) (a : Act) (w : World), unl listed ≤ fuel → Inv P md ops C a0 V bm listed a w → wpAny P md ops Q' fuel listed a w := by
  have hend : ∀ (listed : Array Bool) (a : Act) (w : World), Inv P md ops C a0 V bm listed a w → (∀ j, j < listed.size → listed.getD j false = true) → Q' .normal a w := by
    intro listed a w hI hall
    obtain ⟨χ, rfl, hC⟩ := hI.ex
    have := hQ χ _ w (fun s hs' hb => by
      have := hall s (by rw [hI.size]; exact hs')
      simp only [this, hb]; rfl) hC
    have e : dyn ops a0 (fun j => V j χ) (fun k => listed.getD k false) ops.size = dyn ops a0 (fun j => V j χ) (fun _ => true) ops.size :=
      dyn_congr ops.size (fun j hj => ⟨hall j (by rw [hI.size]; exact hj), fun _ => rfl⟩)
    rw [e]; exact this
  have hrdy : ∀ (listed : Array Bool) (a : Act) (w : World), Inv P md ops C a0 V bm listed a w → Region.ready md ops listed = [] → ∀ j, j < listed.size → listed.getD j false = true := by
    intro listed a w hI hr
    -- the least one that is not listed would be ready
    intro j
    induction j using Nat.strongRecOn with
    | ind j ih =>
      intro hj
      by_cases hl : listed.getD j false = true
      · exact hl
      · exfalso
        have hjs : j < ops.size := by rw [← hI.size]; exact hj
        have : j ∈ Region.ready md ops listed := mem_ready.2 ⟨by rw [getD_tf hj true false]; simpa using hl, ops[j], Array.getElem?_eq_getElem hjs, fun e he hb =>
          ih e.on (F1 j _ (Array.getElem?_eq_getElem hjs) e he hb) (by have := F1 j _ (Array.getElem?_eq_getElem hjs) e he hb; omega)⟩
        rw [hr] at this
        cases this
  intro fuel
  induction fuel with
  | zero =>
    intro listed a w hu hI
    have hall := unl_zero (Nat.le_zero.1 hu)
    refine ⟨?_, hend listed a w hI hall⟩
    cases hr : Region.ready md ops listed with
    | nil => rfl
    | cons i l =>
      exfalso
      have hi : i ∈ Region.ready md ops listed := by rw [hr]; simp
      obtain ⟨hun, o, ho, _⟩ := mem_ready.1 hi
      have his : i < listed.size := by rw [hI.size]; exact (Array.getElem?_eq_some_iff.1 ho).1
      have := hall i his
      rw [getD_tf his false true] at this
      rw [this] at hun
      cases hun
  | succ fuel ih =>
    intro listed a w hu hI
    refine ⟨fun hr => hend listed a w hI (hrdy listed a w hI hr), fun i hi => ?_⟩
    obtain ⟨hun, o, ho, _⟩ := mem_ready.1 hi
    have his : i < listed.size := by rw [hI.size]; exact (Array.getElem?_eq_some_iff.1 ho).1
    have hlt := unl_set his (by rw [getD_tf his false true]; exact hun)
    unfold wpOp
    simp only [ho]
    rcases fx_step hsx hs hG F1 F2 hI hi ho with ⟨h1, h2⟩ | ⟨h1, h2⟩
    · rw [if_pos h1]
      exact .inl (wp_of_stepX h2 (fun u w' hI' => ih _ _ w' (by omega) hI'))
    · rw [if_neg (by rw [h1]; simp)]
      exact ih _ _ w (by omega) h2

theorem sx_plain : SxOk (stepX P) := ⟨fun o a w Φ Φ' hm h => by
    unfold stepX at *
    generalize (execOp a.eval o).run P w = r at *
    cases r with
    | ok nx w' =>
      cases nx <;> simp only [] at h ⊢
      case value u => exact hm _ _ h
      case skip => exact hm _ _ h
      case enter f args => exact h.mono fun e w'' ⟨u, h1, h2⟩ => ⟨u, h1, hm _ _ h2⟩
    | halt e w' => simp only [] at h,
  fun o a b w Φ hs he h => by
    unfold stepX at *
    rw [← execOp_congr o hs he]
    exact h⟩
theorem dyn_none {a0 : Act} {V : Nat → Value} : ∀ n, dyn ops a0 V (fun _ => false) n = a0
  | 0 => rfl
  | n + 1 => by unfold dyn; simp only [Bool.false_eq_true, if_false]; exact dyn_none n

theorem region_free {id : Nat} {l : List Oper} {Q : Exit → Act → World → Prop} {a : Act} {w : World} [Inhabited X] (C : Gs → (Nat → X) → World → Prop) (m : Nat → Bool) (hm : P.follows .mixedOrders = true) (hB : Region.lexB .any l.toArray = true)
    (hC : C (fun _ => false) (fun _ => default) { w with drawn := w.drawn + 1 })
    (h : wpFx P .any l.toArray C m (fun M A => ∀ χ G w', (∀ s ∈ M, G s = true) → C G χ w' → Q .normal (A χ) w') 0 [] l (fun _ => a)) : (Code.region id l.toArray true).wp P Q a w := by
  simp only [Region.lexB, Bool.and_eq_true] at hB
  obtain ⟨V, bm, Mf, _, g2, g3, g4⟩ := fx_vals (ops := l.toArray) (a0 := a) l 0 [] _ (fun _ _ => undef) (fun _ => false) (by simp) rfl (by simp) h
  obtain ⟨F1, F2⟩ := lex_facts (ops := l.toArray) (md := .any) l.toArray.size 0 (Array.replicate l.toArray.size false) (fun j hj => by
    have hj' : j < l.length := by simpa using hj
    simp [hj']) (by simp) hB.2 (by simp)
  refine wp_region_any hm (fx_any sx_plain (m := m) (C := C) (a0 := a) (V := V) (bm := bm) hB.1 (fun j o => g2 j o (Nat.zero_le _)) (fun i o => F1 i o (Nat.zero_le _)) (fun i j oi oj => F2 i j oi oj (Nat.zero_le _)) ?_ _ _ _ _ ?_ ?_)
  · intro χ G w' hG hC'
    have := g4 χ G w' (fun s hs => hG s (by have := (g3 s hs).1; simpa using this) (g3 s hs).2) hC'
    simpa using this
  · unfold unl
    exact Nat.le_trans (List.length_filter_le _ _) (by simp)
  · refine ⟨by simp, fun j oj hj hl => ?_, fun _ => default, ?_, ?_⟩
    · have hjs : j < l.toArray.size := (Array.getElem?_eq_some_iff.1 hj).1
      simp only [List.size_toArray] at hjs
      simp [hjs] at hl
    · have : (fun k => (Array.replicate l.toArray.size false).getD k false) = fun _ => false := by
        funext k
        rcases Nat.lt_or_ge k l.length with h' | h'
        · simp [h']
        · simp [h']
      rw [this, dyn_none]
    · have : (fun k => (Array.replicate l.toArray.size false).getD k false && bm k) = fun _ => false := by
        funext k
        rcases Nat.lt_or_ge k l.length with h' | h'
        · simp [h']
        · simp [h']
      rw [this]
      exact hC
end
end Go.Mm
