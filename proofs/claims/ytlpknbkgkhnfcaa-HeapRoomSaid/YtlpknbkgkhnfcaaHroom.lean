/-
  Heaps with what the statements know of them: how much room there is; the plain law.
-/
import Derived.Test.YtlpknbkgkhnfcaaHlaw
import Derived.Test.YtlpknbkgkhnfcaaLowest
set_option linter.unusedSimpArgs false
set_option linter.unusedVariables false
namespace Go.Proofs.Ytlpknbkgkhnfcaa
open Go Go.Mm Go.RowKit

section
variable {n : Nat} {f : Int} {k : Nat} {L : List Hs} {ins gone : List (Int × Int)} {ms : List Me}
/-- No slot is retired yet. -/
theorem Mo.live (h : Mo n f k L ins gone ms) (hk : f + k < 4294967295) : ∀ i, i < n → (L.getD i zHs).1 ≠ 2 := fun i hi e => by
  have h1 := h.ret i hi e
  have h2 := h.gens i hi
  omega
theorem Mo.room (h : Mo n f k L ins gone ms) (hk : f + k < 4294967295) : lfH (HL L) + ((alH (HL L)).length : Int) = n := by
  have hl := h.len
  have hs := cnt_sum (L := tbH L) h.w.tb.st (tbH L).length (Nat.le_refl _)
  have h2 : ∀ q, q ≤ (tbH L).length → stCnt 2 (tbH L) q = 0 := by
    intro q
    induction q with
    | zero => intro _; simp [stCnt, gl]
    | succ q ih =>
      intro hq
      have hqn : q < n := by rw [tbH_len] at hq; omega
      have hno : isSt 2 (tbH L) q = false := by
        unfold isSt
        rw [tbH_get]
        have := h.live hk q hqn
        simpa using this
      rw [stCnt_no hno, ih (by omega)]
  rw [h2 _ (Nat.le_refl _)] at hs
  have e1 : lfH (HL L) = ((stCnt 0 (tbH L) (tbH L).length : Nat) : Int) := rfl
  have e2 : (alH (HL L)).length = stCnt 1 (tbH L) (tbH L).length := stL_len 1 (tbH L) _
  rw [e1, e2]
  rw [tbH_len] at hs ⊢
  omega
theorem room_step (h : Mo n f k L ins gone ms) (hk : f + k < 4294967295) {j : Nat} (ht : tkI (some (tbH L)) = some j) :
    ∃ L1 L2 g, mkT (HL L) 1 false = HL L1 ∧ mkR (HL L) 1 false = ((j : Int), g) ∧ mkE (HL L) 1 false = 0 ∧ lfH (HL L1) = lfH (HL L) - 1 ∧ 0 < lfH (HL L) ∧ frT (HL L1) j g = HL L2 ∧ wiH (HL L1) j g = 0 ∧ lfH (HL L2) = lfH (HL L) := by
  obtain ⟨_, _, _, e4, hi, h0, _⟩ := tk_some ht
  obtain ⟨t1, t2, _⟩ := take_cnt ht
  have hi2 : j < L.length := by rw [tbH_len] at hi; exact hi
  have hjn : j < n := by have := h.len; omega
  have hI : mkI L 1 false = some j := by unfold mkI; exact ht
  obtain ⟨g, hg⟩ : ∃ g, (L.getD j zHs).2.1 = g := ⟨_, rfl⟩
  have hgm : g < 4294967295 := by have := h.gens j hjn; rw [hg] at this; omega
  have htb : tbH (mkN L j (nwO 1 false)) = tkN (tbH L) := by
    unfold mkN
    rw [tbH_set, e4, tbH_get]
  have hW1 := mkN_w h.w hi2 (nwO_w 1 false)
  have hl1 : (mkN L j (nwO 1 false)).length = L.length := by unfold mkN; rw [List.length_set]
  have hx : (tbH (mkN L j (nwO 1 false))).getD j (0, 0) = (1, g) := by
    rw [htb, e4, getD_set2 _ _ _ _ hi, if_pos rfl, tbH_get, hg]
  obtain ⟨g1, g2, _⟩ := give_cnt (by rw [tbH_len, hl1]; exact hi2) hx
  obtain ⟨_, g3, _⟩ := g2 hgm
  have hw : wiH (HL (mkN L j (nwO 1 false))) j g = 0 := g1
  obtain ⟨_, f2, _⟩ := frN_w hW1 (by rw [hl1]; exact hi2) g1
  refine ⟨mkN L j (nwO 1 false), frN (mkN L j (nwO 1 false)) j g, g, by simp only [mkT, hI], by simp only [mkR, hI, hg], by simp only [mkE, hI]; rfl, ?_, t2, ?_, hw, ?_⟩
  · show ctN 0 (some (tbH (mkN L j (nwO 1 false)))) = ctN 0 (some (tbH L)) - 1
    rw [htb]; exact t1
  · unfold frT
    rw [if_pos hw, Int.toNat_natCast]; rfl
  · show ctN 0 (some (tbH (frN (mkN L j (nwO 1 false)) j g))) = ctN 0 (some (tbH L))
    rw [f2, g3, htb, t1]; omega
end
/-- The first slot that is free is the first one that is not among the taken ones. -/
theorem low_is {L : List (Int × Int)} (hst : ∀ i, i < L.length → (L.getD i (0, 0)).1 = 0 ∨ (L.getD i (0, 0)).1 = 1) {j : Nat} (hj : tkI (some L) = some j) {lo : Nat} (h1 : ∀ i, i < lo → ((tkL (some L)).getD i (0, 0)).1 = (i : Int))
    (h2 : lo ≤ (tkL (some L)).length) (h3 : lo = (tkL (some L)).length ∨ ((tkL (some L)).getD lo (0, 0)).1 ≠ (lo : Int)) : lo = j := by
  obtain ⟨hjl, hj0, hjb⟩ := first_is (show firstOf (isSt 0 L) L.length = some j from hj)
  have hj0' : (L.getD j (0, 0)).1 = 0 := by simpa [isSt] using hj0
  rcases Nat.lt_trichotomy lo j with h | h | h
  · exfalso
    have hp : ∀ i, i < j → isSt 1 L i = true := fun i hi => by
      have hb := hjb i hi
      rcases hst i (by omega) with e | e
      · unfold isSt at hb; rw [e] at hb; simp at hb
      · unfold isSt; rw [e]; rfl
    have hgl : gl (isSt 1 L) j = List.range j := by
      unfold gl
      rw [List.filter_eq_self]
      intro i hi
      exact hp i (List.mem_range.1 hi)
    obtain ⟨q, hq⟩ : ∃ q, L.length = j + q := ⟨L.length - j, by omega⟩
    have hsp : gl (isSt 1 L) L.length = List.range j ++ ((List.range q).map (j + ·)).filter (isSt 1 L) := by
      rw [← hgl]
      unfold gl
      rw [hq, List.range_add, List.filter_append]
    have hget : (tkL (some L))[lo]? = some (refOf L lo) := by
      show (stL 1 L L.length)[lo]? = _
      unfold stL
      rw [hsp, List.map_append, List.getElem?_append_left (by simpa using h), List.getElem?_map, List.getElem?_range h]
      rfl
    rcases h3 with h3 | h3
    · have := (List.getElem?_eq_some_iff.1 hget).1
      omega
    · apply h3
      rw [List.getD_eq_getElem?_getD, hget]; rfl
  · exact h
  · exfalso
    have := h1 j h
    have hm : (tkL (some L)).getD j (0, 0) ∈ tkL (some L) := by rw [List.getD_eq_getElem?_getD, List.getElem?_eq_getElem (by omega)]; exact List.getElem_mem (by omega)
    obtain ⟨i, i1, i2, i3⟩ := mem_tkL.1 hm
    rw [this] at i2
    obtain rfl : j = i := by omega
    rw [i3] at hj0'
    simp at hj0'
end Go.Proofs.Ytlpknbkgkhnfcaa
