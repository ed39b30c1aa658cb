/-
  Heaps: generations that come to their end; the plain law.
-/
import Derived.Test.YtlpknbkgkhnfcaaHeapG
set_option linter.unusedSimpArgs false
set_option linter.unusedVariables false
namespace Go.Proofs.Ytlpknbkgkhnfcaa
open Go Go.Mm

theorem getH_set (L : List Hs) (i j : Nat) (c : Hs) (h : i < L.length) : (L.set i c).getD j zHs = if j = i then c else L.getD j zHs := by
  rw [List.getD_eq_getElem?_getD, List.getElem?_set, List.getD_eq_getElem?_getD]
  by_cases e : i = j
  · subst e; simp [h]
  · rw [if_neg e, if_neg (fun q => e q.symm)]
theorem isStH {L : List Hs} {st : Int} {i : Nat} : isSt st (tbH L) i = ((L.getD i zHs).1 == st) := by unfold isSt; rw [tbH_get]
/-- The free slots are those from s on. -/
theorem cnt_from {L : List (Int × Int)} {s : Nat} (h0 : ∀ j, j < s → isSt 0 L j = false) (h1 : ∀ j, s ≤ j → j < L.length → isSt 0 L j = true) : ∀ k, k ≤ L.length → stCnt 0 L k = k - s
  | 0, _ => by simp [stCnt, gl]
  | k + 1, hk => by
    have ih := cnt_from h0 h1 k (by omega)
    by_cases e : k < s
    · rw [stCnt_no (h0 k e), ih]; omega
    · rw [stCnt_yes (h1 k (by omega) (by omega)), ih]; omega
theorem cnt_none {L : List (Int × Int)} {st : Int} (h0 : ∀ j, j < L.length → isSt st L j = false) : ∀ k, k ≤ L.length → stCnt st L k = 0
  | 0, _ => by simp [stCnt, gl]
  | k + 1, hk => by rw [stCnt_no (h0 k (by omega)), cnt_none h0 k (by omega)]

/-- Slots below s are retired, s is free with the generation G + k, those above it are free with the first one. -/
structure En (n : Nat) (G : Int) (s : Nat) (k : Int) (L : List Hs) : Prop where
  w : HpW L
  len : L.length = n
  lo : ∀ j, j < s → (L.getD j zHs).1 = 2
  at' : s < n → L.getD s zHs = (0, G + k, zOb)
  hi : ∀ j, s < j → j < n → L.getD j zHs = (0, G, zOb)
theorem En.new {n : Nat} {G : Int} (hn : 0 < n ∧ n ≤ 256) (hG : 1 ≤ G ∧ G ≤ 4294967295) : En n G 0 0 (List.replicate n (0, G, zOb)) := by
  have hg : ∀ j, j < n → (List.replicate n ((0, G, zOb) : Hs)).getD j zHs = (0, G, zOb) := fun j hj => by
    rw [List.getD_eq_getElem?_getD, List.getElem?_replicate, if_pos hj]; rfl
  exact ⟨⟨by rw [List.length_replicate]; omega, by rw [List.length_replicate]; omega, by rw [tbH_rep]; exact TbW.rep (by omega) (by omega), fun x hx => by rw [(List.mem_replicate.1 hx).2]; exact zOb_w⟩,
    List.length_replicate, fun j hj => absurd hj (Nat.not_lt_zero _), fun h => by rw [hg 0 h, Int.add_zero], fun j _ hj => hg j hj⟩
theorem En.turn {n : Nat} {G : Int} {s : Nat} {k : Int} {L : List Hs} (h : En n G s k L) (hs : s < n) (hk : 0 ≤ k) (hM : G + k ≤ 4294967295) (b : Bool) :
    ∃ L1 L2, mkT (some (some L)) 0 b = some (some L1) ∧ mkR (some (some L)) 0 b = ((s : Int), G + k) ∧ mkE (some (some L)) 0 b = 0 ∧ lfH (some (some L1)) = ((n - s - 1 : Nat) : Int) ∧
      frT (some (some L1)) s (G + k) = some (some L2) ∧ wiH (some (some L1)) s (G + k) = 0 ∧ (G + k < 4294967295 → En n G s (k + 1) L2) ∧ (G + k = 4294967295 → En n G (s + 1) 0 L2) := by
  have hl := h.len
  have hsl : s < L.length := by omega
  have hat := h.at' hs
  have htk : tkI (some (tbH L)) = some s := by
    show firstOf (isSt 0 (tbH L)) (tbH L).length = some s
    refine first_at (by rw [tbH_len]; exact hsl) (fun j hj => ?_) ?_
    · rw [isStH, h.lo j hj]; rfl
    · rw [isStH, hat]; rfl
  have hb : nwB 0 b = true := by cases b <;> decide
  have hI : mkI L 0 b = some s := by unfold mkI; rw [hb]; exact htk
  have hgn : (L.getD s zHs).2.1 = G + k := by rw [hat]
  have hG1 : 1 ≤ G + k := by
    have := h.w.tb.gn _ (getD_mem (L := tbH L) (i := s) (by rw [tbH_len]; exact hsl))
    rw [tbH_get, hgn] at this
    exact this.1
  obtain ⟨o, ho⟩ : ∃ o, nwO 0 b = o := ⟨_, rfl⟩
  have hoW : ObW o := by rw [← ho]; exact nwO_w 0 b
  have hN : mkN L s o = L.set s (1, G + k, o) := by unfold mkN; rw [hgn]
  have hW1 : HpW (mkN L s o) := mkN_w h.w hsl hoW
  have hlen1 : (mkN L s o).length = n := by rw [hN, List.length_set]; exact hl
  have hget : ∀ j, (mkN L s o).getD j zHs = if j = s then (1, G + k, o) else L.getD j zHs := fun j => by rw [hN, getH_set _ _ _ _ hsl]
  have hck : ckE (some (tbH (mkN L s o))) s (G + k) = 0 := by
    rw [ck_at (by rw [tbH_len, hlen1]; exact hs), tbH_get, hget s, if_pos rfl, if_pos rfl]
  obtain ⟨w1, _, _, w4⟩ := frN_w hW1 (by rw [hlen1]; exact hs) hck
  have hget2 : ∀ j, (frN (mkN L s o) s (G + k)).getD j zHs = if j = s then (if G + k < 4294967295 then (0, G + k + 1, zOb) else (2, G + k, zOb)) else L.getD j zHs := fun j => by
    unfold frN
    rw [getH_set _ _ _ _ (by rw [hlen1]; exact hs)]
    by_cases e : j = s
    · rw [if_pos e, if_pos e]
    · rw [if_neg e, if_neg e, hget j, if_neg e]
  refine ⟨mkN L s o, frN (mkN L s o) s (G + k), ?_, ?_, ?_, ?_, ?_, hck, fun hlt => ?_, fun heq => ?_⟩
  · simp only [mkT, hI, ho]
  · simp only [mkR, hI, hgn]
  · simp only [mkE, hb, hI]; rfl
  · have hc : stCnt 0 (tbH (mkN L s o)) (tbH (mkN L s o)).length = (tbH (mkN L s o)).length - (s + 1) := by
      refine cnt_from (fun j hj => ?_) (fun j hj hj2 => ?_) _ (Nat.le_refl _)
      · rw [isStH, hget j]
        by_cases e : j = s
        · rw [if_pos e]; rfl
        · rw [if_neg e, h.lo j (by omega)]; rfl
      · rw [tbH_len, hlen1] at hj2
        rw [isStH, hget j, if_neg (by omega), h.hi j (by omega) hj2]; rfl
    show ((stCnt 0 (tbH (mkN L s o)) (tbH (mkN L s o)).length : Nat) : Int) = _
    rw [hc, tbH_len, hlen1]
    congr 1
  · unfold frT
    rw [show wiH (some (some (mkN L s o))) s (G + k) = 0 from hck, if_pos rfl, Int.toNat_natCast]
    rfl
  · refine ⟨w1, w4.trans hlen1, fun j hj => ?_, fun _ => ?_, fun j hj hj2 => ?_⟩
    · rw [hget2 j, if_neg (by omega)]; exact h.lo j hj
    · rw [hget2 s, if_pos rfl, if_pos hlt, Int.add_assoc]
    · rw [hget2 j, if_neg (by omega)]; exact h.hi j hj hj2
  · refine ⟨w1, w4.trans hlen1, fun j hj => ?_, fun hs1 => ?_, fun j hj hj2 => ?_⟩
    · rw [hget2 j]
      by_cases e : j = s
      · rw [if_pos e, if_neg (by omega)]
      · rw [if_neg e]; exact h.lo j (by omega)
    · rw [hget2 (s + 1), if_neg (by omega), h.hi (s + 1) (by omega) hs1, Int.add_zero]
    · rw [hget2 j, if_neg (by omega)]; exact h.hi j (by omega) hj2
/-- All slots are retired. -/
theorem En.done {n : Nat} {G k : Int} {L : List Hs} (h : En n G n k L) (b : Bool) :
    mkT (some (some L)) 0 b = some (some L) ∧ mkR (some (some L)) 0 b = (0, 0) ∧ mkE (some (some L)) 0 b = 4 ∧ lfH (some (some L)) = 0 ∧ (alH (some (some L))).length = 0 := by
  have hall : ∀ st, st ≠ 2 → ∀ j, j < (tbH L).length → isSt st (tbH L) j = false := fun st hst j hj => by
    rw [tbH_len, h.len] at hj
    rw [isStH, h.lo j hj]
    simpa using fun e : (2 : Int) = st => hst e.symm
  have htk : tkI (some (tbH L)) = none := first_no (fun j hj => hall 0 (by decide) j hj)
  have hb : nwB 0 b = true := by cases b <;> decide
  have hI : mkI L 0 b = none := by unfold mkI; rw [hb]; exact htk
  refine ⟨?_, ?_, ?_, ?_, ?_⟩
  · simp only [mkT, hI]
  · simp only [mkR, hI]
  · simp only [mkE, hb, hI]; rfl
  · show ((stCnt 0 (tbH L) (tbH L).length : Nat) : Int) = 0
    rw [cnt_none (hall 0 (by decide)) _ (Nat.le_refl _)]; rfl
  · show (stL 1 (tbH L) (tbH L).length).length = 0
    rw [stL_len, cnt_none (hall 1 (by decide)) _ (Nat.le_refl _)]
end Go.Proofs.Ytlpknbkgkhnfcaa
