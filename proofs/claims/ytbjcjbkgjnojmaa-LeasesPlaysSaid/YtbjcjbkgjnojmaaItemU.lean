/-
  An operation of a drawn region that turns one piece and needs to know of the first stages of another.
-/
import Derived.Test.YtbjcjbkgjnojmaaItem
set_option linter.unusedSimpArgs false
set_option linter.unusedVariables false
namespace Go.Mm
open Go Go.RowKit
section
variable {G : Gs} {χ : Nat → Gx} {k : Nat}
theorem okI_takeU : ∀ (l : List (Nat × (Gx → Gx → Prop))) (s : Nat) (y : Gx), (∀ q ∈ l.take s, G q.1 = true) → okI G χ y l → okL χ y (l.take s)
  | [], s, y, _, _ => by simp [okL]
  | (j, p) :: l, 0, y, _, _ => trivial
  | (j, p) :: l, s + 1, y, h, hok => by
    rw [List.take_succ_cons] at h ⊢
    unfold okI at hok
    rw [if_pos (h (j, p) (by simp))] at hok
    exact ⟨hok.1, okI_takeU l s (χ j) (fun q hq => h q (by simp [hq])) hok.2⟩
variable {P : Program} {ops : Array Oper} {md : Region.Mode} {w0 : World} {bs : List Nat} {H : List Ent} {items : List Item}
variable {EE : List Nat → ((Nat → Gx) → Act) → Prop} {M : List Nat} {o : Oper} {rest : List Oper} {A A' : (Nat → Gx) → Act}
/-- An operation that turns item n, at stage s of it, and knows of the first stages of item n2. -/
theorem fx_turnK (n s n2 s2 : Nat) {it it2 : Item} {p : Gx → Gx → Prop} (hit : items[n]? = some it) (hit2 : items[n2]? = some it2) (hst : it.st[s]? = some (k, p)) (hnd : ndB (keysI items) = true)
    (hpre : ((it.st.take s).all fun q => M.contains q.1 && anc md ops q.1 k) = true) (hpre2 : ((it2.st.take s2).all fun q => M.contains q.1 && anc md ops q.1 k) = true) (hpost : ((it.st.drop (s + 1)).all fun q => anc md ops k q.1) = true)
    (hw : ∀ χ, Region.wanted o (yielded ops (A χ).tmps) = true) (v : Gx → Value)
    (hv : ∀ χ L w, okL χ it.x0 (it.st.take s) → okL χ it2.x0 (it2.st.take s2) → St w0 bs w ((lastX χ it.x0 (it.st.take s)).2 ++ (L ++ H)) → stepX P o (A χ) w (fun u w'' => ∃ x, u = v x ∧ p (lastX χ it.x0 (it.st.take s)) x ∧ St w0 bs w'' (x.2 ++ (L ++ H)))) [hp : ∀ χ, Put (A χ) o.dst (v (χ k)) (A' χ)]
    (h : wpFx P md ops (CI w0 bs items H) (mI items) EE (k + 1) (k :: M) rest A') : wpFx P md ops (CI w0 bs items H) (mI items) EE k M (o :: rest) A := by
  have hmem : it ∈ items := List.mem_of_getElem? hit
  have hsplit : it.st = it.st.take s ++ (k, p) :: it.st.drop (s + 1) := split_at hst
  have hm : mI items k = true := by
    unfold mI
    rw [List.any_eq_true]
    refine ⟨it, hmem, ?_⟩
    rw [List.any_eq_true]
    exact ⟨(k, p), by rw [hsplit]; simp, by simp⟩
  -- the keys
  have hkeys := nd_of hnd
  have eitems : items = items.take n ++ it :: items.drop (n + 1) := split_at hit
  have ekeys : keysI items = keysI (items.take n) ++ ((it.st.take s).map (·.1) ++ k :: (it.st.drop (s + 1)).map (·.1)) ++ keysI (items.drop (n + 1)) := by
    have e1 : it.st.map (·.1) = (it.st.take s).map (·.1) ++ k :: (it.st.drop (s + 1)).map (·.1) := by
      have := congrArg (List.map (·.1)) hsplit
      rw [List.map_append, List.map_cons] at this
      exact this
    rw [← e1]
    unfold keysI
    rw [List.append_assoc, ← List.flatMap_cons (f := fun it : Item => it.st.map (·.1)), ← List.flatMap_append, ← eitems]
  rw [ekeys] at hkeys
  rw [List.nodup_append, List.nodup_append, List.nodup_append, List.nodup_cons] at hkeys
  obtain ⟨⟨_, ⟨_, ⟨k1, _⟩, k2⟩, k3⟩, _, k4⟩ := hkeys
  have ka : ∀ q ∈ it.st.take s, q.1 ≠ k := fun q hq => k2 q.1 (List.mem_map_of_mem hq) k (by simp)
  have kb : ∀ q ∈ it.st.drop (s + 1), q.1 ≠ k := fun q hq e => k1 (by rw [← e]; exact List.mem_map_of_mem hq)
  have kc : ∀ it' ∈ items.take n ++ items.drop (n + 1), ∀ q ∈ it'.st, q.1 ≠ k := by
    intro it' hi q hq
    rcases List.mem_append.1 hi with hi | hi
    · exact k3 q.1 (List.mem_flatMap.2 ⟨it', hi, List.mem_map_of_mem hq⟩) k (by simp)
    · exact fun e => k4 k (by simp) q.1 (List.mem_flatMap.2 ⟨it', hi, List.mem_map_of_mem hq⟩) e.symm
  refine .inl ⟨hw, fun χ => v (χ k), supp_of (by simp) v, ?_, ?_⟩
  · unfold Yy
    rw [if_pos hm]
    intro G χ w hk hT hF hC
    have g1 : ∀ q ∈ it.st.take s, G q.1 = true := fun q hq => by
      have := List.all_eq_true.1 hpre q hq
      simp only [Bool.and_eq_true] at this
      exact hT q.1 (by simpa using this.1) this.2
    have g2 : ∀ q ∈ it.st.drop (s + 1), G q.1 = false := fun q hq => hF q.1 (List.all_eq_true.1 hpost q hq)
    have hp1 := flat_pick (H := H) hit (fun it => it.cur G χ)
    have hcur : it.cur G χ = (lastX χ it.x0 (it.st.take s)).2 := by
      unfold Item.cur
      rw [hsplit, cur_before _ _ _ _ g1 hk]
      congr 2
      rw [← hsplit]
    simp only [hcur] at hp1
    have hokb : okL χ it.x0 (it.st.take s) := by
      have := hC.1 it hmem
      rw [hsplit] at this
      exact ok_before _ _ _ _ g1 hk this
    have g3 : ∀ q ∈ it2.st.take s2, G q.1 = true := fun q hq => by
      have := List.all_eq_true.1 hpre2 q hq
      simp only [Bool.and_eq_true] at this
      exact hT q.1 (by simpa using this.1) this.2
    have h1 := hv χ _ w hokb (okI_takeU it2.st s2 it2.x0 g3 (hC.1 it2 (List.mem_of_getElem? hit2))) (hC.2.perm hp1)
    have fin : ∀ (u : Value) (w'' : World), (∃ x, u = v x ∧ p (lastX χ it.x0 (it.st.take s)) x ∧ St w0 bs w'' (x.2 ++ (((items.take n).flatMap (fun it => it.cur G χ) ++ (items.drop (n + 1)).flatMap (fun it => it.cur G χ)) ++ H))) →
        ∃ x, u = v (up χ k x k) ∧ CI w0 bs items H (up G k true) (up χ k x) w'' := by
      rintro u w'' ⟨x, hu, hpx, hS⟩
      have hcurx : it.cur (up G k true) (up χ k x) = x.2 := by
        unfold Item.cur
        rw [hsplit, cur_after _ _ _ _ (fun q hq => ⟨g1 q hq, ka q hq⟩) (fun q hq => ⟨g2 q hq, kb q hq⟩)]
      have hoth : ∀ l : List Item, (∀ it' ∈ l, ∀ q ∈ it'.st, q.1 ≠ k) → l.flatMap (fun it => it.cur (up G k true) (up χ k x)) = l.flatMap (fun it => it.cur G χ) := by
        intro l hl
        induction l with
        | nil => rfl
        | cons a l ih =>
          rw [List.flatMap_cons, List.flatMap_cons, ih (fun it' hi => hl it' (by simp [hi]))]
          congr 1
          unfold Item.cur
          rw [cur_other _ _ _ (hl a (by simp))]
      have hp2 := flat_pick (H := H) hit (fun it => it.cur (up G k true) (up χ k x))
      simp only [hcurx] at hp2
      rw [hoth _ (fun it' hi => kc it' (List.mem_append_left _ hi)), hoth _ (fun it' hi => kc it' (List.mem_append_right _ hi))] at hp2
      refine ⟨x, by rw [up_same]; exact hu, fun it' hi => ?_, hS.perm hp2.symm⟩
      rw [eitems] at hi
      rcases List.mem_append.1 hi with hi | hi
      · rw [ok_other _ _ _ (kc it' (List.mem_append_left _ hi))]
        exact hC.1 it' (by rw [eitems]; exact List.mem_append_left _ hi)
      · rcases List.mem_cons.1 hi with rfl | hi
        · rw [hsplit]
          exact ok_after _ _ _ _ (fun q hq => ⟨g1 q hq, ka q hq⟩) (fun q hq => ⟨g2 q hq, kb q hq⟩) hokb hpx
        · rw [ok_other _ _ _ (kc it' (List.mem_append_right _ hi))]
          exact hC.1 it' (by rw [eitems]; exact List.mem_append_right _ (by simp [hi]))
    unfold stepX at h1 ⊢
    revert h1
    generalize (execOp (A χ).eval o).run P w = r
    intro h1
    cases r with
    | ok nx w' =>
      cases nx <;> simp only [] at h1 ⊢
      case value u => exact fin _ _ h1
      case skip => exact fin _ _ h1
      case enter f args => exact h1.mono fun e w'' ⟨u, h2, h3⟩ => ⟨u, h2, fin _ _ h3⟩
    | halt e w' => simp only [] at h1
  · rw [if_pos hm, show (fun χ => (A χ).put o.dst (v (χ k))) = A' from funext fun χ => (hp χ).h]
    exact h
end
end Go.Mm
