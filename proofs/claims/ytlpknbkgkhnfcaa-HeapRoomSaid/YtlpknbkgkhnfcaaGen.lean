/-
  Regions that draw their order, over any predicate of what has been done: steps with ghosts.
-/
import Derived.Test.YtlpknbkgkhnfcaaItem
set_option linter.unusedSimpArgs false
set_option linter.unusedVariables false
namespace Go.Mm
open Go Go.RowKit
section
variable {P : Program} {ops : Array Oper} {md : Region.Mode} {X : Type} {C : Gs → (Nat → X) → World → Prop} {m : Nat → Bool}
variable {EE : List Nat → ((Nat → X) → Act) → Prop} {k : Nat} {M : List Nat} {o : Oper} {rest : List Oper} {A A' : (Nat → X) → Act}
theorem gx_supp {j : Nat} (hj : (j == k || anc md ops j k) = true) (f : X → Value) : Supp md ops k (fun χ : Nat → X => f (χ j)) := by
  intro χ χ' h
  simp only
  rw [h j (by simpa using hj)]
theorem gx_skip (hw : ∀ χ, Region.wanted o (yielded ops (A χ).tmps) = false) [hp : ∀ χ, Put (A χ) o.dst undef (A' χ)] (h : wpFx P md ops C m EE (k + 1) M rest A') : wpFx P md ops C m EE k M (o :: rest) A := by
  refine .inr ⟨hw, ?_⟩
  rw [show (fun χ => (A χ).put o.dst undef) = A' from funext fun χ => (hp χ).h]
  exact h
/-- A plain operation, its value known ahead. -/
theorem gx_val (hw : ∀ χ, Region.wanted o (yielded ops (A χ).tmps) = true) (hm : m k = false) {v : Value} (hv : ∀ G χ w, (∀ s ∈ M, anc md ops s k = true → G s = true) → C G χ w → OpVal P o (A χ) w v) [hp : ∀ χ, Put (A χ) o.dst v (A' χ)]
    (h : wpFx P md ops C m EE (k + 1) M rest A') : wpFx P md ops C m EE k M (o :: rest) A := by
  refine .inl ⟨hw, fun _ => v, fun _ _ _ => rfl, ?_, ?_⟩
  · unfold Yy
    rw [if_neg (by rw [hm]; simp)]
    intro G χ w hM _ hC
    unfold stepX
    rw [hv G χ w hM hC]
    exact ⟨rfl, hC⟩
  · rw [if_neg (by rw [hm]; simp), show (fun χ => (A χ).put o.dst v) = A' from funext fun χ => (hp χ).h]
    exact h
/-- A plain operation, its value a ghost's. -/
theorem gx_gval (hw : ∀ χ, Region.wanted o (yielded ops (A χ).tmps) = true) (hm : m k = false) (v : (Nat → X) → Value) (hs : Supp md ops k v) (hv : ∀ G χ w, (∀ s ∈ M, anc md ops s k = true → G s = true) → C G χ w → OpVal P o (A χ) w (v χ)) [hp : ∀ χ, Put (A χ) o.dst (v χ) (A' χ)]
    (h : wpFx P md ops C m EE (k + 1) M rest A') : wpFx P md ops C m EE k M (o :: rest) A := by
  refine .inl ⟨hw, v, hs, ?_, ?_⟩
  · unfold Yy
    rw [if_neg (by rw [hm]; simp)]
    intro G χ w hM _ hC
    unfold stepX
    rw [hv G χ w hM hC]
    exact ⟨rfl, hC⟩
  · rw [if_neg (by rw [hm]; simp), show (fun χ => (A χ).put o.dst (v χ)) = A' from funext fun χ => (hp χ).h]
    exact h
/-- A call that turns nothing. -/
theorem gx_ask (f : Nat) (xs : List Operand) (ts : Array TypeId) (ho : o.op = .call { callee := .value (.func f), args := xs.toArray, argTypes := ts }) (hw : ∀ χ, Region.wanted o (yielded ops (A χ).tmps) = true) (hm : m k = false) {vs : (Nat → X) → List Value} [hE : ∀ χ, EvL (A χ) xs (vs χ)]
    (he : ∀ args w, (callFunc f args).run P w = .ok (.enter f args) w) (v : (Nat → X) → Value) (hs : Supp md ops k v)
    (hv : ∀ G χ w, (∀ s ∈ M, anc md ops s k = true → G s = true) → C G χ w → Calls P f (vs χ).toArray w (fun e w'' => e = .returned (v χ) ∧ C G χ w'')) [hp : ∀ χ, Put (A χ) o.dst (v χ) (A' χ)]
    (h : wpFx P md ops C m EE (k + 1) M rest A') : wpFx P md ops C m EE k M (o :: rest) A := by
  refine .inl ⟨hw, v, hs, ?_, ?_⟩
  · unfold Yy
    rw [if_neg (by rw [hm]; simp)]
    intro G χ w hM _ hC
    exact stepX_call ho (hE := hE χ) he ((hv G χ w hM hC).mono fun e w'' ⟨h1, h2⟩ => ⟨v χ, h1, rfl, h2⟩)
  · rw [if_neg (by rw [hm]; simp), show (fun χ => (A χ).put o.dst (v χ)) = A' from funext fun χ => (hp χ).h]
    exact h
/-- A call that turns the world, and leaves a ghost. -/
theorem gx_mark (f : Nat) (xs : List Operand) (ts : Array TypeId) (ho : o.op = .call { callee := .value (.func f), args := xs.toArray, argTypes := ts }) (hw : ∀ χ, Region.wanted o (yielded ops (A χ).tmps) = true) (hm : m k = true) {vs : (Nat → X) → List Value} [hE : ∀ χ, EvL (A χ) xs (vs χ)]
    (he : ∀ args w, (callFunc f args).run P w = .ok (.enter f args) w) (v : Value)
    (hv : ∀ G χ w, G k = false → (∀ s ∈ M, anc md ops s k = true → G s = true) → (∀ j, anc md ops k j = true → G j = false) → C G χ w → Calls P f (vs χ).toArray w (fun e w'' => ∃ x, e = .returned v ∧ C (up G k true) (up χ k x) w'')) [hp : ∀ χ, Put (A χ) o.dst v (A' χ)]
    (h : wpFx P md ops C m EE (k + 1) (k :: M) rest A') : wpFx P md ops C m EE k M (o :: rest) A := by
  refine .inl ⟨hw, fun _ => v, fun _ _ _ => rfl, ?_, ?_⟩
  · unfold Yy
    rw [if_pos hm]
    intro G χ w hk hM hF hC
    exact stepX_call ho (hE := hE χ) he ((hv G χ w hk hM hF hC).mono fun e w'' ⟨x, h1, h2⟩ => ⟨v, h1, x, rfl, h2⟩)
  · rw [if_pos hm, show (fun χ => (A χ).put o.dst v) = A' from funext fun χ => (hp χ).h]
    exact h
end
end Go.Mm
