/-
  What turns do to generations and to the slots that are retired; the slots that are taken are in order.
-/
import Derived.Test.YtoihgmijogeilaaHas
import Derived.Test.YtoihgmijogeilaaLowest
import Derived.Test.YtoihgmijogeilaaReg
namespace Go.Proofs.Ytoihgmijogeilaa
open Go Go.RowKit Go.Mm
variable {M : List (Int × Int)}

theorem tkL_lt {k : Nat} (hk : k + 1 < (tkL (some M)).length) : ((tkL (some M)).getD k (0, 0)).1 < ((tkL (some M)).getD (k + 1) (0, 0)).1 := by
  have hp : List.Pairwise (fun x y : Int × Int => x.1 < y.1) (tkL (some M)) := by
    unfold tkL stL gl
    rw [List.pairwise_map]
    refine List.Pairwise.filter _ (List.Pairwise.imp ?_ List.pairwise_lt_range)
    intro a b h
    simp only [refOf]
    omega
  rw [List.getD_eq_getElem?_getD, List.getD_eq_getElem?_getD, List.getElem?_eq_getElem hk, List.getElem?_eq_getElem (show k < _ by omega), Option.getD_some, Option.getD_some]
  exact List.pairwise_iff_getElem.1 hp k (k + 1) (by omega) hk (by omega)
theorem tkN_gen (k : Nat) : ((tkN M).getD k (0, 0)).2 = (M.getD k (0, 0)).2 := by
  unfold tkN
  cases e : firstOf (isSt 0 M) M.length with
  | none => rfl
  | some i =>
    simp only
    rw [getD_set2 _ _ _ _ (first_is e).1]
    split
    · next h => rw [h]
    · rfl
theorem gvN_gen (s g : Int) (k : Nat) : (M.getD k (0, 0)).2 ≤ ((gvN M s g).getD k (0, 0)).2 := by
  unfold gvN
  by_cases hc : ckE (some M) s g = 0
  · rw [if_pos hc]
    obtain ⟨i, rfl, hi, hx⟩ := ck_zero hc
    rw [Int.toNat_natCast, getD_set2 _ _ _ _ hi]
    by_cases e : k = i
    · subst e
      rw [if_pos rfl, hx]
      by_cases hg : g < 4294967295
      · rw [if_pos hg]; simp only; omega
      · rw [if_neg hg]; exact Int.le_refl _
    · rw [if_neg e]; exact Int.le_refl _
  · rw [if_neg hc]; exact Int.le_refl _
theorem tkN_ret (h0 : 0 < M.length) : ctN 2 (some (tkN M)) = ctN 2 (some M) := by
  cases hi : tkI (some M) with
  | none => rw [(tk_none h0 hi).2.2.2]
  | some i => exact (take_cnt hi).2.2
theorem gvN_ret (s g : Int) : ctN 2 (some M) ≤ ctN 2 (some (gvN M s g)) := by
  by_cases hc : ckE (some M) s g = 0
  · obtain ⟨i, rfl, hi, hx⟩ := ck_zero hc
    obtain ⟨_, h1, h2⟩ := give_cnt hi hx
    by_cases hg : g < 4294967295
    · have := (h1 hg).2.2.1; omega
    · have := (h2 hg).2.2.1; omega
  · rw [gvN_no hc]; exact Int.le_refl _
theorem all_ct (h : TbW M) : ctN 1 (some M) + ctN 0 (some M) + ctN 2 (some M) = M.length := by
  have := cnt_sum h.st M.length (Nat.le_refl _)
  simp only [ctN]
  omega

/-- Generations that were seen. -/
structure Seen (M : List (Int × Int)) (Ws : List Int) (N : Nat) (r : Int) : Prop where
  wl : Ws.length = N
  ml : M.length = N
  w : TbW M
  le : ∀ k, k < N → Ws.getD k 0 ≤ (M.getD k (0, 0)).2
  r0 : 0 ≤ r
  rl : r ≤ ctN 2 (some M)
theorem Seen.tk {Ws : List Int} {N : Nat} {r : Int} (h : Seen M Ws N r) (hN : 0 < N) : Seen (tkN M) Ws N r :=
  ⟨h.wl, tkN_len.trans h.ml, tkN_w h.w, fun k hk => by rw [tkN_gen]; exact h.le k hk, h.r0, by rw [tkN_ret (by rw [h.ml]; exact hN)]; exact h.rl⟩
theorem Seen.gv {Ws : List Int} {N : Nat} {r : Int} (h : Seen M Ws N r) (s g : Int) : Seen (gvN M s g) Ws N r :=
  ⟨h.wl, gvN_len.trans h.ml, gvN_w h.w, fun k hk => Int.le_trans (h.le k hk) (gvN_gen s g k), h.r0, Int.le_trans h.rl (gvN_ret s g)⟩
theorem getD_seti (L : List Int) (i j : Nat) (c : Int) (h : i < L.length) : (L.set i c).getD j 0 = if j = i then c else L.getD j 0 := by
  rw [List.getD_eq_getElem?_getD, List.getElem?_set, List.getD_eq_getElem?_getD]
  by_cases e : i = j
  · subst e; simp [h]
  · rw [if_neg e, if_neg (fun q => e q.symm)]
theorem Seen.set {Ws : List Int} {N : Nat} {r : Int} (h : Seen M Ws N r) {k : Nat} (hk : k < N) {g : Int} (hg : (M.getD k (0, 0)).2 = g) : Seen M (Ws.set k g) N r :=
  ⟨by rw [List.length_set]; exact h.wl, h.ml, h.w, fun j hj => by
    rw [getD_seti _ _ _ _ (by rw [h.wl]; exact hk)]
    split
    · next e => rw [e, hg]; exact Int.le_refl _
    · exact h.le j hj, h.r0, h.rl⟩

section
variable {P : Program} {C : World → Prop} {K : Act → Prop} {o : Oper} {a a' : Act}
/-- A call in a region that reads. -/
theorem quiet_ask (f : Nat) (xs : List Operand) (ts : Array TypeId) (ho : o.op = .call { callee := .value (.func f), args := xs.toArray, argTypes := ts }) {vs : List Value} [hE : EvL a xs vs]
    (he : ∀ args w, (callFunc f args).run P w = .ok (.enter f args) w) (v : Value) (hv : ∀ w, C w → Calls P f vs.toArray w (fun e w'' => e = .returned v ∧ C w'')) [hp : Put a o.dst v a'] (hK : K a') : o.quiet P a C K := by
  refine ⟨v, fun w hw => ?_, by rw [hp.h]; exact hK⟩
  have hr : (execOp a.eval o).run P w = .ok (.enter f vs.toArray) w := by
    have hE' := hE.h
    simp [execOp, ho, resolve, invoke, Deferred.ofValue, Act.eval, List.map_toArray, hE', he]
  unfold Oper.quietAt
  rw [hr]
  exact ⟨rfl, hv w hw⟩
end
end Go.Proofs.Ytoihgmijogeilaa
