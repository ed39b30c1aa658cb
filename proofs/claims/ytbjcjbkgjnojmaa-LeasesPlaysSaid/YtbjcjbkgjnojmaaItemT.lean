/-
  Appending a known row to an empty slice whose block is not looked at; steps out of the plain rules.
-/
import Derived.Test.YtbjcjbkgjnojmaaItem
set_option linter.unusedSimpArgs false
set_option linter.unusedVariables false
namespace Go.Mm
open Go Go.RowKit
section
variable {P : Program} {o : Oper} {a : Act} {w w0 : World} {bs : List Nat} {H : List Ent} {post : Act → World → Prop}
theorem stp_ap0 (s x : Operand) (t t' : TypeId) (ho : o.op = .call { callee := .builtin .append, args := #[s, x], argTypes := #[t, t'] }) (htt : t' = t)
    (hS : St w0 bs w H) {e : TypeId} [ht : SliceT P t e] {size bytes : Nat} {zs : Array Value} [he : ElemT P e size bytes zs] (hzs : zs.size = size)
    {g : Nat} [hs : Ev a s (.slice (some ⟨g, 0, none⟩) 0 0)]
    {b off m c : Nat} [hx : Ev a x (.slice (some ⟨b, off, none⟩) m c)] {cs : Array Value} {T : TypeId} [hH : Has H b cs T] {k : Nat} (hk : m * size = k) {news : Array Value} [hc : CellsAt cs off k news]
    {a' : Value → Act} [hp : ∀ v, Put a o.dst v (a' v)] (hm : 0 < m) (h63 : m ≤ maxLen) (hb : m * bytes ≤ 140737488355328)
    (h : ∀ v' E' w', Sl e size v' m news.toList E' → St w0 bs w' (E' ++ H) → post (a' v') w') : Stp P o a w post := by
  subst htt
  obtain ⟨i, z, hi, hz, rfl, rfl, rfl⟩ := he.parts
  have hnews := cells_news hc (w := w) (b := b) (fun j => cell_of_has (hS.has hH))
  have hl : news.toList.length = m * i.size := by rw [hk]; simpa using hc.s
  have hsmall : m ≤ 9223372036854775807 := by simp only [maxLen] at h63; omega
  have hr := run_append_grow (P := P) w t' o.type e i z ht.h hi hz ⟨g, 0, none⟩ 0 0 [] (by simp) (by intro j v h; simp at h) ⟨b, off, none⟩ m c news.toList hl hnews (by omega) (by omega) (growslice_fits (by omega) (by rw [Nat.zero_add]; exact hb))
  rw [Nat.zero_add] at hr
  have hge := grownCap_ge w m 0 e
  have hcm : grownCap w m 0 e ≤ maxLen := grownCap_le_maxLen w m 0 e h63
  have hS' : St w0 bs (w.drew.alloc (.cells (news.toList ++ (Builtin.zeroCells z.cells (grownCap w m 0 e - m)).toList).toArray e (0, 0))) (⟨w.heap.size, (news.toList ++ (Builtin.zeroCells z.cells (grownCap w m 0 e - m)).toList).toArray, e, true⟩ :: H) :=
    hS.new ⟨rfl, rfl, rfl, by simp, fun k hk _ => Below.heap_alloc w.drew _ k hk⟩ (Nat.le_refl _) (alloc_new w.drew _)
  have hcells : ([] : List Value).toArray ++ news.toList.toArray ++ Builtin.zeroCells z.cells (grownCap w m 0 e - m) = (news.toList ++ (Builtin.zeroCells z.cells (grownCap w m 0 e - m)).toList).toArray := by simp
  rw [hcells] at hr
  have hcnt : (news.toList ++ (Builtin.zeroCells z.cells (grownCap w m 0 e - m)).toList).length = grownCap w m 0 e * i.size := by
    simp only [List.length_append, Array.length_toList, size_zeroCells, hzs]
    simp only [Array.length_toList] at hl
    rw [hl, ← Nat.add_mul]
    congr 1
    omega
  have hsl : Sl e i.size (.slice (some ⟨w.heap.size, 0, none⟩) m (grownCap w m 0 e)) m news.toList [⟨w.heap.size, (news.toList ++ (Builtin.zeroCells z.cells (grownCap w m 0 e - m)).toList).toArray, e, true⟩] :=
    ⟨hl, .inr ⟨_, _, _, rfl, rfl, hge, hcm, by simpa using hcnt⟩⟩
  refine ⟨.value (.slice (some ⟨w.heap.size, 0, none⟩) m (grownCap w m 0 e)), _, ?_, .inl ⟨_, rfl, by rw [(hp _).h]; exact h _ _ _ hsl hS'⟩⟩
  simp only [execOp, ho, resolve, invoke, builtin, Sem.run_bind, Sem.run_pure, Result.andThen_ok, List.map_toArray, List.map_cons, List.map_nil, hs.h, hx.h, hr]
/-- A step out of a plain rule. -/
theorem stepX_of_stp {a : Act} {w : World} {Φ : Value → World → Prop} (n : Nat) (hd : o.dst = some n) (hn : n < a.tmps.size) (h : Stp P o a w (fun a' w' => ∃ v, a' = a.put o.dst v ∧ Φ v w')) : stepX P o a w Φ := by
  have inj : ∀ u v : Value, a.put o.dst u = a.put o.dst v → u = v := fun u v huv => by
    rw [hd] at huv
    have := congrArg (fun x : Act => x.tmps[n]?) huv
    simpa [Act.put, hn] using this
  obtain ⟨r, w', hr, h⟩ := h
  unfold stepX
  rw [hr]
  rcases h with ⟨v', rfl, v, hv, hΦ⟩ | ⟨rfl, v, hv, hΦ⟩
  · rw [inj _ _ hv]; exact hΦ
  · rw [← inj _ _ hv] at hΦ; exact hΦ
end
end Go.Mm
