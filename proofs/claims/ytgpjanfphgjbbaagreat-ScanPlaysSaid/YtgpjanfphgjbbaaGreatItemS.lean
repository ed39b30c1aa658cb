/-
  Drawn regions with ghosts: an operation that needs to know of some stages; steps out of the plain rules.
-/
import Derived.Test.YtgpjanfphgjbbaaGreatRgn
set_option linter.unusedSimpArgs false
set_option linter.unusedVariables false
namespace Go.Mm
open Go Go.RowKit
section
variable {G : Gs} {χ : Nat → Gx} {k : Nat}
theorem okI_take : ∀ (l : List (Nat × (Gx → Gx → Prop))) (s : Nat) (y : Gx), (∀ q ∈ l.take s, G q.1 = true) → okI G χ y l → okL χ y (l.take s)
  | [], s, y, _, _ => by simp [okL]
  | (j, p) :: l, 0, y, _, _ => trivial
  | (j, p) :: l, s + 1, y, h, hok => by
    rw [List.take_succ_cons] at h ⊢
    unfold okI at hok
    rw [if_pos (h (j, p) (by simp))] at hok
    exact ⟨hok.1, okI_take l s (χ j) (fun q hq => h q (by simp [hq])) hok.2⟩
variable {P : Program} {ops : Array Oper} {md : Region.Mode} {w0 : World} {bs : List Nat} {H : List Ent} {items : List Item}
variable {EE : List Nat → ((Nat → Gx) → Act) → Prop} {M : List Nat} {o : Oper} {rest : List Oper} {A A' : (Nat → Gx) → Act}
/-- A plain operation that needs to know of the first stages of a piece. -/
theorem fx_gvalS (n s : Nat) {it : Item} (hit : items[n]? = some it) (hpre : ((it.st.take s).all fun q => M.contains q.1 && anc md ops q.1 k) = true)
    (hw : ∀ χ, Region.wanted o (yielded ops (A χ).tmps) = true) (hm : mI items k = false) (v : (Nat → Gx) → Value) (hs : Supp md ops k v)
    (hv : ∀ χ w, okL χ it.x0 (it.st.take s) → St w0 bs w H → OpVal P o (A χ) w (v χ)) [hp : ∀ χ, Put (A χ) o.dst (v χ) (A' χ)]
    (h : wpFx P md ops (CI w0 bs items H) (mI items) EE (k + 1) M rest A') : wpFx P md ops (CI w0 bs items H) (mI items) EE k M (o :: rest) A := by
  refine .inl ⟨hw, v, hs, ?_, ?_⟩
  · unfold Yy
    rw [if_neg (by rw [hm]; simp)]
    intro G χ w hT _ hC
    have hG : ∀ q ∈ it.st.take s, G q.1 = true := fun q hq => by
      have := List.all_eq_true.1 hpre q hq
      simp only [Bool.and_eq_true] at this
      exact hT q.1 (by simpa using this.1) this.2
    have hok := okI_take it.st s it.x0 hG (hC.1 it (List.mem_of_getElem? hit))
    unfold stepX
    rw [hv χ w hok (CI.base hC)]
    exact ⟨rfl, hC⟩
  · rw [if_neg (by rw [hm]; simp), show (fun χ => (A χ).put o.dst (v χ)) = A' from funext fun χ => (hp χ).h]
    exact h
theorem stepX_bx {a : Act} {w : World} (t : TypeId) (x : Operand) (ho : o.op = .box t x) (hS : St w0 bs w H) {u : Value} [hx : Ev a x u] {cs : Array Value} [hc : CellsOf u cs] {Φ : Value → World → Prop}
    (h : ∀ b w', w.heap.size ≤ b → St w0 bs w' (⟨b, cs, t, true⟩ :: H) → Φ (.pointer (some ⟨b, 0, none⟩)) w') : stepX P o a w Φ := by
  have hS' : St w0 bs (w.alloc (.cells cs t (0, 0))) (⟨w.heap.size, cs, t, true⟩ :: H) := hS.new (Chg.alloc w _) (Nat.le_refl _) (alloc_new w _)
  have hr : (execOp a.eval o).run P w = .ok (.value (.pointer (some ⟨w.heap.size, 0, none⟩))) (w.alloc (.cells cs t (0, 0))) := by
    simp only [execOp, ho, Instr.box, Sem.run_bind, Sem.run_pure, Result.andThen_ok, hx.h, newVar, newRow, hc.h, run_newObj]
    rfl
  unfold stepX
  rw [hr]
  exact h _ _ (Nat.le_refl _) hS'
/-- A step out of a plain rule. -/
theorem stepX_of_stp {a : Act} {w : World} {Φ : Value → World → Prop} (n : Nat) (hd : o.dst = some n) (hn : n < a.tmps.size) (h : Stp P o a w (fun a' w' => ∃ v, a' = a.put o.dst v ∧ Φ v w')) : stepX P o a w Φ := by
  have inj : ∀ u v : Value, a.put o.dst u = a.put o.dst v → u = v := fun u v huv => by
    rw [hd] at huv
    have := congrArg (fun x : Act => x.tmps[n]?) huv
    simpa [Act.put, hn] using this
  obtain ⟨r, w', hr, h⟩ := h
  unfold stepX
  rw [hr]
  rcases h with ⟨v', rfl, v, hv, hΦ⟩ | ⟨rfl, v, hv, hΦ⟩
  · rw [inj _ _ hv]; exact hΦ
  · rw [← inj _ _ hv] at hΦ; exact hΦ
end
end Go.Mm
