/-
  Leaving a function in which several ranges over functions have ended.
-/
import Derived.Test.YtgpjanfphgjbbaaGreatBas
set_option linter.unusedSimpArgs false
set_option linter.unusedVariables false
namespace Go.Mm
open Go Go.RowKit
def mkD (r : Nat) : Deferred := { target := .collected r, args := #[] }
variable {P : Program} {n : Nat} {w0 : World} {bs : List Nat}
/-- The marks of the ranges that have ended. -/
structure Marks (w0 w : World) (rs : List Nat) : Prop where
  nd : rs.Nodup
  at_ : ∀ r ∈ rs, w0.heap.size ≤ r ∧ w.heap[r]? = some (.deferred (some []))
theorem Marks.nil {w : World} : Marks w0 w [] := ⟨List.nodup_nil, fun r hr => by cases hr⟩
/-- The known blocks are no marks. -/
theorem Marks.keep {w w' : World} {rs : List Nat} {H H' : List Ent} (h : Marks w0 w rs) (hw : St w0 bs w H) (hS : St w (wl H) w' H') : Marks w0 w' rs :=
  ⟨h.nd, fun r hr => ⟨(h.at_ r hr).1, hS.chg.get (h.at_ r hr).2 (fun hx => by
    obtain ⟨e, he, _, rfl⟩ := mem_wl.1 hx
    have := hw.get e he
    rw [(h.at_ _ hr).2] at this
    cases this)⟩⟩
theorem Marks.one {w w' : World} {rs : List Nat} {d : Nat} (h : Marks w0 w' rs) (hlt : ∀ r ∈ rs, r < w.heap.size) (hw : w0.heap.size ≤ w.heap.size) (hd : w.heap.size ≤ d ∧ w'.heap[d]? = some (.deferred (some []))) : Marks w0 w' (d :: rs) :=
  ⟨List.nodup_cons.2 ⟨fun hm => by have := hlt d hm; omega, h.nd⟩, fun r hr => by
    rcases List.mem_cons.1 hr with rfl | hr
    · exact ⟨Nat.le_trans hw hd.1, hd.2⟩
    · exact h.at_ r hr⟩
theorem Marks.lt {w : World} {rs : List Nat} (h : Marks w0 w rs) : ∀ r ∈ rs, r < w.heap.size := fun r hr => lt_of_heap (h.at_ r hr).2
theorem leave_many {fn : Func} {tmps : Array Value} {R : Ending → World → Prop} {H2 : List Ent} (h : ∀ W3, St w0 bs W3 H2 → ∃ v, (results fn tmps).run P W3 = .ok v W3 ∧ R (.returned v) W3) :
    ∀ (rs : List Nat) (W2 : World), Marks w0 W2 rs → St w0 bs W2 H2 → LeavesInM Fence.wide n P fn tmps R (rs.map mkD) .returning W2
  | [], W2, _, hS => by
    obtain ⟨v, hr, hR⟩ := h W2 hS
    exact ⟨v, hr, hR⟩
  | r :: rs, W2, hm, hS => by
    have hr := hm.at_ r (.head _)
    refine ⟨by simp, .inl ⟨_, _, rfl, run_takeDeferred hr.2, ?_⟩⟩
    refine leave_many h rs _ ⟨(List.nodup_cons.1 hm.nd).2, fun q hq => ⟨(hm.at_ q (.tail _ hq)).1, ?_⟩⟩ (hS.abide (grownBy_putObj' W2 r (.deferred none)) (fun r' e => by cases e; exact ⟨hr.1, _, hr.2, rfl⟩))
    rw [World.putObj_heap_other (fun e => (List.nodup_cons.1 hm.nd).1 (by rw [← e]; exact hq))]
    exact (hm.at_ q (.tail _ hq)).2
end Go.Mm
