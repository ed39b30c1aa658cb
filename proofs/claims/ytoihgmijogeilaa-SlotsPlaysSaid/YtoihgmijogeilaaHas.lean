/-
  Whether a reference is among the first ones of a list; what giving back does to the slots that are taken.
-/
import Derived.Test.YtoihgmijogeilaaSlotsM
namespace Go.Proofs.Ytoihgmijogeilaa
open Go.RowKit Go.Mm

/-- Whether x is among the first k. -/
def hasP (l : List (Int × Int)) (x : Int × Int) : Nat → Bool
  | 0 => false
  | k + 1 => hasP l x k || refB (l.getD k (0, 0)).1 (l.getD k (0, 0)).2 x.1 x.2
theorem hasP_iff {l : List (Int × Int)} {x : Int × Int} : ∀ {k : Nat}, k ≤ l.length → (hasP l x k = true ↔ x ∈ l.take k)
  | 0, _ => by simp [hasP]
  | k + 1, h => by
    have ih := hasP_iff (l := l) (x := x) (k := k) (by omega)
    rw [hasP, Bool.or_eq_true, ih, refB_iff, List.take_succ_eq_append_getElem (by omega), List.mem_append, List.mem_singleton, List.getD_eq_getElem?_getD, List.getElem?_eq_getElem (by omega)]
    simp only [Option.getD_some]
    constructor
    · rintro (h | h)
      · exact .inl h
      · exact .inr h.symm
    · rintro (h | h)
      · exact .inl h
      · exact .inr h.symm
theorem gv_cnt {L : List (Int × Int)} {s g : Int} (h : ckE (some L) s g = 0) : (tkL (some (gvN L s g))).length + 1 = (tkL (some L)).length := by
  obtain ⟨i, rfl, hi, hx⟩ := ck_zero h
  have e : ∃ c : Int × Int, c.1 ≠ 1 ∧ gvN L i g = L.set i c := by
    unfold gvN
    rw [if_pos h, Int.toNat_natCast]
    by_cases hg : g < 4294967295
    · exact ⟨_, by rw [if_pos hg]; simp, rfl⟩
    · exact ⟨_, by rw [if_neg hg]; simp, rfl⟩
  obtain ⟨c, hc, e⟩ := e
  rw [e]
  have := cnt_set hi c 1 L.length
  rw [hx, if_pos ⟨hi, rfl⟩, if_neg (fun q => hc q.2)] at this
  simp only [tkL, stL_len, List.length_set]
  omega
theorem gvN_no {L : List (Int × Int)} {s g : Int} (h : ckE (some L) s g ≠ 0) : gvN L s g = L := by unfold gvN; rw [if_neg h]
theorem ck_in {L : List (Int × Int)} {s : Int} (h : 0 ≤ s) (h' : s < L.length) (g : Int) : ckE (some L) s g = 0 ∨ ckE (some L) s g = 7 := by
  obtain ⟨i, rfl⟩ := Int.eq_ofNat_of_zero_le h
  rw [ck_at (by omega)]
  split <;> simp
theorem ok_ref {cs : List Value} (h : OkCells [.i .i64, .i .u32] cs) : ∃ s g : Int, cs = [.int .i64 s, .int .u32 g] ∧ (Lit.int .i64 s).wf = true ∧ (Lit.int .u32 g).wf = true := by
  cases h with
  | cons h1 h2 =>
    cases h2 with
    | cons h3 h4 =>
      cases h4
      obtain ⟨s, rfl, ws⟩ := h1
      obtain ⟨g, rfl, wg⟩ := h3
      exact ⟨s, g, rfl, ws, wg⟩
end Go.Proofs.Ytoihgmijogeilaa
