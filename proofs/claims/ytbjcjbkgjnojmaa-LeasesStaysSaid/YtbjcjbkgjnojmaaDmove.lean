/-
  Moves on a desk of leases: the plain law.
-/
import Derived.Test.YtbjcjbkgjnojmaaDeskH
import Derived.Test.YtbjcjbkgjnojmaaTabLaw
set_option linter.unusedSimpArgs false
set_option linter.unusedVariables false
namespace Go.Proofs.Ytbjcjbkgjnojmaa
open Go Go.Mm

abbrev lgD (L : List Ls) (i : Nat) : Ls := L.getD i (0, 0, 0)
abbrev lgO (l : List Ot) (i : Nat) : Ot := l.getD i (0, 0, 0)
abbrev lgU (us : List Int) (i : Nat) : Int := us.getD i 0
def posN (us : List Int) : Nat := us.countP (fun u => decide (0 < u))
theorem posN_snoc (us : List Int) (u : Int) : posN (us ++ [u]) = posN us + (if 0 < u then 1 else 0) := by
  simp [posN, List.countP_append, List.countP_cons]
theorem getU {us : List Int} {i : Nat} (h : i < us.length) : us.getD i 0 = us[i] := by rw [List.getD_eq_getElem?_getD, List.getElem?_eq_getElem h]; rfl
theorem posN_set (us : List Int) {k : Nat} (h : k < us.length) (u : Int) : posN (us.set k u) + (if 0 < lgU us k then 1 else 0) = posN us + (if 0 < u then 1 else 0) := by
  unfold posN lgU
  rw [getU h]
  induction us generalizing k with
  | nil => simp at h
  | cons a us ih =>
    cases k with
    | zero => simp only [List.set_cons_zero, List.countP_cons, List.getElem_cons_zero, decide_eq_true_eq]; omega
    | succ k =>
      simp only [List.set_cons_succ, List.countP_cons, List.getElem_cons_succ, decide_eq_true_eq]
      have := ih (k := k) (by simpa using h)
      omega
theorem posN_le (us : List Int) : posN us ≤ us.length := List.countP_le_length
theorem lgD_set (L : List Ls) (i j : Nat) (c : Ls) (h : i < L.length) : lgD (L.set i c) j = if j = i then c else lgD L j := by
  unfold lgD
  rw [List.getD_eq_getElem?_getD, List.getElem?_set, List.getD_eq_getElem?_getD]
  by_cases e : i = j
  · subst e; simp [h]
  · rw [if_neg e, if_neg (fun q => e q.symm)]
theorem lgU_set (us : List Int) (i j : Nat) (c : Int) (h : i < us.length) : lgU (us.set i c) j = if j = i then c else lgU us j := by
  unfold lgU
  rw [List.getD_eq_getElem?_getD, List.getElem?_set, List.getD_eq_getElem?_getD]
  by_cases e : i = j
  · subst e; simp [h]
  · rw [if_neg e, if_neg (fun q => e q.symm)]
theorem lgU_snoc (us : List Int) (j : Nat) (c : Int) : lgU (us ++ [c]) j = if j = us.length then c else lgU us j := by
  unfold lgU
  rw [List.getD_eq_getElem?_getD, List.getD_eq_getElem?_getD]
  by_cases h : j < us.length
  · rw [List.getElem?_append_left h, if_neg (by omega)]
  · rw [List.getElem?_append_right (by omega)]
    by_cases e : j = us.length
    · subst e; simp
    · rw [if_neg e]
      have h1 : j - us.length = (j - us.length - 1) + 1 := by omega
      rw [h1]
      simp; rw [List.getElem?_eq_none (by omega)]; rfl
theorem lgO_snoc (l : List Ot) (j : Nat) (c : Ot) : lgO (l ++ [c]) j = if j = l.length then c else lgO l j := by
  unfold lgO
  rw [List.getD_eq_getElem?_getD, List.getD_eq_getElem?_getD]
  by_cases h : j < l.length
  · rw [List.getElem?_append_left h, if_neg (by omega)]
  · rw [List.getElem?_append_right (by omega)]
    by_cases e : j = l.length
    · subst e; simp
    · rw [if_neg e]
      have h1 : j - l.length = (j - l.length - 1) + 1 := by omega
      rw [h1]
      simp; rw [List.getElem?_eq_none (by omega)]; rfl

/-- What holds of a lease that was granted: the desk's slots, its name, and until when it is granted (0: it was returned). -/
def LsAt (L : List Ls) (o : Ot) (u : Int) : Prop :=
  ∃ i : Nat, i < L.length ∧ o.1 = 3 ∧ o.2.1 = i ∧ 1 ≤ o.2.2 ∧ o.2.2 ≤ 4294967295 ∧
    ((u = 0 ∧ (o.2.2 < (lgD L i).2.1 ∨ (o.2.2 = (lgD L i).2.1 ∧ (lgD L i).1 = 2))) ∨ (0 < u ∧ lgD L i = (1, o.2.2, u)))
structure DInv (L : List Ls) (l : List Ot) (us : List Int) (now : Int) : Prop where
  w : DkW L
  len : us.length = l.length
  nd : l.Nodup
  n0 : 0 ≤ now
  at' : ∀ k, k < l.length → LsAt L (lgO l k) (lgU us k)
  cnt : posN us = stCnt 1 (tbD L) L.length
  ub : ∀ u ∈ us, 0 ≤ u ∧ u ≤ now + 16
theorem LsAt.nn {L : List Ls} {o : Ot} {u : Int} (h : LsAt L o u) : 0 ≤ u := by
  obtain ⟨i, _, _, _, _, _, h⟩ := h
  rcases h with ⟨h, _⟩ | ⟨h, _⟩ <;> omega
theorem wi_at {L : List Ls} {o : Ot} {u : Int} (hW : DkW L) (h : LsAt L o u) : wiE (some (some L)) true o.1 o.2.1 o.2.2 = (if u = 0 then 7 else 0) ∧ uqR (some (some L)) o.1 o.2.1 o.2.2 = u := by
  obtain ⟨i, hi, h1, h2, h3, h4, h5⟩ := h
  have h64 := hW.hi
  have e : wiE (some (some L)) true o.1 o.2.1 o.2.2 = ckE (some (tbD L)) i o.2.2 := by
    simp only [wiE]
    rw [if_pos, h2]
    simp only [Bool.true_and, Bool.and_eq_true, decide_eq_true_eq]
    omega
  have hck : ckE (some (tbD L)) i o.2.2 = if u = 0 then 7 else 0 := by
    rw [ck_at (by rw [tbD_len]; exact hi), tbD_get]
    rcases h5 with ⟨rfl, h5⟩ | ⟨h5, h6⟩
    · rw [if_pos rfl, if_neg]
      intro hc
      have e1 := (Prod.mk.inj hc).1
      have e2 := (Prod.mk.inj hc).2
      unfold lgD at h5
      rcases h5 with h5 | ⟨_, h5⟩ <;> omega
    · have : L.getD i (0, 0, 0) = (1, o.2.2, u) := h6
      rw [this, if_pos rfl, if_neg (fun q => by omega)]
  refine ⟨by rw [e, hck], ?_⟩
  unfold uqR
  rw [e, hck]
  rcases h5 with ⟨rfl, h5⟩ | ⟨h5, h6⟩
  · simp
  · have hu : u ≠ 0 := by omega
    have h7 : L.getD i (0, 0, 0) = (1, o.2.2, u) := h6
    rw [if_neg hu, if_pos rfl, h2]
    unfold unAt dkL
    rw [Int.toNat_natCast, h7]
theorem ov_at {L : List Ls} {o : Ot} {u n : Int} (hW : DkW L) (h : LsAt L o u) (hn : tmB n = true) : wiE (some (some L)) (tmB n) o.1 o.2.1 o.2.2 = (if u = 0 then 7 else 0) ∧ ovR (some (some L)) o.1 o.2.1 o.2.2 n = if u = 0 then false else decide (u ≤ n) := by
  obtain ⟨h1, h2⟩ := wi_at hW h
  rw [hn]
  refine ⟨h1, ?_⟩
  unfold ovR
  rw [hn, h1]
  by_cases hu : u = 0
  · rw [if_pos hu, if_pos hu]; simp
  · rw [if_neg hu, if_neg hu, if_pos rfl]
    unfold uqR at h2
    rw [h1, if_neg hu, if_pos rfl] at h2
    rw [h2]
theorem rt_at {L : List Ls} {o : Ot} (hW : DkW L) (h : LsAt L o 0) : rtT (some (some L)) o.1 o.2.1 o.2.2 = some (some L) := by
  unfold rtT
  rw [(wi_at hW h).1]; simp
theorem all_at {L : List Ls} {o : Ot} {u : Int} (h : LsAt L o u) (hu : 0 < u) : o ∈ allD (some (some L)) := by
  obtain ⟨i, hi, h1, h2, h3, h4, h5⟩ := h
  rcases h5 with ⟨rfl, _⟩ | ⟨_, h6⟩
  · omega
  · have h6 : L.getD i (0, 0, 0) = (1, o.2.2, u) := h6
    unfold allD dkL
    rw [List.mem_map]
    refine ⟨(o.2.1, o.2.2), mem_tkL.2 ⟨i, by rw [tbD_len]; exact hi, h2, by rw [tbD_get, h6]⟩, ?_⟩
    unfold lsOf'
    exact Prod.ext h1.symm rfl
theorem DInv.all {L : List Ls} {l : List Ot} {us : List Int} {now : Int} (h : DInv L l us now) : (allD (some (some L))).length = posN us := by
  rw [h.cnt]
  simp [allD, dkL, tkL, stL_len, tbD_len]
theorem DInv.new (z : Nat) (g : Int) (hz : 0 < z ∧ z ≤ 64) (hg : 1 ≤ g ∧ g ≤ 4294967295) : DInv (List.replicate z (0, g, 0)) [] [] 0 := by
  refine ⟨⟨by rw [List.length_replicate]; omega, by rw [List.length_replicate]; omega, by rw [tbD_rep]; exact TbW.rep (by omega) (by omega), fun x hx => by rw [(List.mem_replicate.1 hx).2]; simp⟩, rfl, List.nodup_nil, Int.le_refl _, fun k hk => absurd hk (Nat.not_lt_zero _), ?_, by simp⟩
  rw [tbD_rep, List.length_replicate]
  have h : ∀ k, stCnt 1 (List.replicate z ((0, g) : Int × Int)) k = 0 := by
    intro k
    induction k with
    | zero => rfl
    | succ k ih =>
      rw [stCnt_no, ih]
      unfold isSt
      rw [List.getD_eq_getElem?_getD, List.getElem?_replicate]
      split <;> rfl
  rw [h]; rfl

/-- The lease of a slot that has changed is another one. -/
theorem LsAt.other {L : List Ls} {o : Ot} {u : Int} (h : LsAt L o u) {i : Nat} {c : Ls} (hi : i < L.length) (hne : o.2.1 ≠ i) : LsAt (L.set i c) o u := by
  obtain ⟨j, hj, h1, h2, h3, h4, h5⟩ := h
  have e : lgD (L.set i c) j = lgD L j := by rw [lgD_set _ _ _ _ hi, if_neg (fun q => hne (by rw [h2, q]))]
  refine ⟨j, by rw [List.length_set]; exact hj, h1, h2, h3, h4, ?_⟩
  rw [e]; exact h5
variable {L : List Ls} {l : List Ot} {us : List Int} {now : Int}
theorem lgO_mem {k : Nat} (h : k < l.length) : lgO l k ∈ l := by
  unfold lgO; rw [List.getD_eq_getElem?_getD, List.getElem?_eq_getElem h]; exact List.getElem_mem h
theorem lgU_mem {k : Nat} (h : k < us.length) : lgU us k ∈ us := by
  unfold lgU; rw [getU h]; exact List.getElem_mem h
theorem mem_lgO {o : Ot} (h : o ∈ l) : ∃ k, k < l.length ∧ lgO l k = o := by
  obtain ⟨k, hk, rfl⟩ := List.getElem_of_mem h
  exact ⟨k, hk, by unfold lgO; rw [List.getD_eq_getElem?_getD, List.getElem?_eq_getElem hk]; rfl⟩
/-- Time goes on. -/
theorem DInv.wait (h : DInv L l us now) {d : Int} (hd : 0 ≤ d) : DInv L l us (now + d) :=
  ⟨h.w, h.len, h.nd, by have := h.n0; omega, h.at', h.cnt, fun u hu => by have := h.ub u hu; omega⟩
/-- A lease is granted. -/
theorem DInv.grant (h : DInv L l us now) {i : Nat} (hi : i < L.length) (hs : (lgD L i).1 = 0) {t : Int} (ht : 1 ≤ t ∧ t ≤ 16) (hb : now + t ≤ 1099511627776) :
    DInv (grN L i (now + t)) (l ++ [(3, (i : Int), (lgD L i).2.1)]) (us ++ [now + t]) now ∧ (3, (i : Int), (lgD L i).2.1) ∉ l := by
  have hn0 := h.n0
  have hgm : (lgD L i) ∈ L := by unfold lgD; rw [List.getD_eq_getElem?_getD, List.getElem?_eq_getElem hi]; exact List.getElem_mem hi
  have hgn : 1 ≤ (lgD L i).2.1 ∧ (lgD L i).2.1 ≤ 4294967295 := by
    have := h.w.tb.gn ((lgD L i).1, (lgD L i).2.1) (List.mem_map.2 ⟨_, hgm, rfl⟩)
    exact this
  -- what was granted in this slot before is of an elder generation
  have hold : ∀ k, k < l.length → (lgO l k).2.1 = i → lgU us k = 0 ∧ (lgO l k).2.2 < (lgD L i).2.1 := by
    intro k hk he
    obtain ⟨j, hj, h1, h2, h3, h4, h5⟩ := h.at' k hk
    have : j = i := by rw [he] at h2; omega
    subst this
    rcases h5 with ⟨h5, h6⟩ | ⟨_, h6⟩
    · refine ⟨h5, ?_⟩
      rcases h6 with h6 | ⟨_, h6⟩
      · exact h6
      · rw [hs] at h6; cases h6
    · rw [h6] at hs; cases hs
  have hnot : ((3, (i : Int), (lgD L i).2.1) : Ot) ∉ l := by
    intro hm
    obtain ⟨k, hk, he⟩ := mem_lgO hm
    have := (hold k hk (by rw [he])).2
    rw [he] at this
    simp at this
  refine ⟨⟨grN_w h.w hi (by omega), by simp [h.len], ?_, hn0, ?_, ?_, ?_⟩, hnot⟩
  · rw [List.nodup_append]
    refine ⟨h.nd, by simp, fun a ha b hb => ?_⟩
    obtain rfl := List.mem_singleton.1 hb
    rintro rfl
    exact hnot ha
  · intro k hk
    rw [List.length_append, List.length_singleton] at hk
    rw [lgO_snoc, lgU_snoc, h.len]
    by_cases e : k = l.length
    · rw [if_pos e, if_pos e]
      refine ⟨i, by unfold grN; rw [List.length_set]; exact hi, rfl, rfl, hgn.1, hgn.2, .inr ⟨by omega, ?_⟩⟩
      unfold grN
      rw [lgD_set _ _ _ _ hi, if_pos rfl]
    · rw [if_neg e, if_neg e]
      have hk' : k < l.length := by omega
      by_cases he : (lgO l k).2.1 = i
      · obtain ⟨e1, e2⟩ := hold k hk' he
        obtain ⟨j, hj, h1, h2, h3, h4, _⟩ := h.at' k hk'
        have : j = i := by rw [he] at h2; omega
        subst this
        refine ⟨j, by unfold grN; rw [List.length_set]; exact hj, h1, h2, h3, h4, .inl ⟨e1, .inl ?_⟩⟩
        unfold grN
        rw [lgD_set _ _ _ _ hi, if_pos rfl]
        exact e2
      · exact (h.at' k hk').other hi he
  · have hc := cnt_set (L := tbD L) (i := i) (by rw [tbD_len]; exact hi) (1, (lgD L i).2.1) 1 L.length
    rw [tbD_get] at hc
    have hs' : (L.getD i (0, 0, 0)).1 = 0 := hs
    rw [if_neg (fun q => by rw [hs'] at q; exact absurd q.2 (by decide)), if_pos ⟨hi, rfl⟩] at hc
    have e : tbD (grN L i (now + t)) = (tbD L).set i (1, (lgD L i).2.1) := by unfold grN; rw [tbD_set]
    have el : (grN L i (now + t)).length = L.length := by unfold grN; rw [List.length_set]
    rw [posN_snoc, if_pos (by omega), e, el, h.cnt]
    omega
  · intro u hu
    rcases List.mem_append.1 hu with hu | hu
    · exact h.ub u hu
    · obtain rfl := List.mem_singleton.1 hu
      omega
/-- Names are given once: a name stands once among those that were given. -/
theorem DInv.inj (h : DInv L l us now) {j k : Nat} (hj : j < l.length) (hk : k < l.length) (he : lgO l j = lgO l k) : j = k := by
  unfold lgO at he
  rw [List.getD_eq_getElem?_getD, List.getElem?_eq_getElem hj, List.getD_eq_getElem?_getD, List.getElem?_eq_getElem hk] at he
  exact (List.getElem_inj h.nd).1 (by simpa using he)
/-- A lease is given back. -/
theorem DInv.give (h : DInv L l us now) {k : Nat} (hk : k < l.length) (hu : lgU us k ≠ 0) {j : Nat} (hj : (lgO l k).2.1 = j) :
    DInv (gvD L j (lgO l k).2.2) l (us.set k 0) now := by
  obtain ⟨i, hi, h1, h2, h3, h4, h5⟩ := id (h.at' k hk)
  have : i = j := by rw [hj] at h2; omega
  subst this
  rcases h5 with ⟨h5, _⟩ | ⟨h5, h6⟩
  · exact absurd h5 hu
  have h6' : L.getD i (0, 0, 0) = (1, (lgO l k).2.2, lgU us k) := h6
  have hck : ckE (some (tbD L)) i (lgO l k).2.2 = 0 := by
    rw [ck_at (by rw [tbD_len]; exact hi), tbD_get, h6', if_pos rfl]
  obtain ⟨w1, w2, w3⟩ := gvD_w h.w hi hck
  obtain ⟨c, hc⟩ : ∃ c, (if (lgO l k).2.2 < 4294967295 then (0, (lgO l k).2.2 + 1, (L.getD i (0, 0, 0)).2.2) else (2, (lgO l k).2.2, (L.getD i (0, 0, 0)).2.2) : Ls) = c := ⟨_, rfl⟩
  have eg : gvD L i (lgO l k).2.2 = L.set i c := by unfold gvD; rw [hc]
  have hcn : c.1 ≠ 1 ∧ ((lgO l k).2.2 < c.2.1 ∨ ((lgO l k).2.2 = c.2.1 ∧ c.1 = 2)) := by
    rw [← hc]
    split
    · exact ⟨by simp, .inl (by show _ < (lgO l k).2.2 + 1; omega)⟩
    · exact ⟨by simp, .inr ⟨rfl, rfl⟩⟩
  have hkl : k < us.length := by rw [h.len]; exact hk
  refine ⟨w1, by rw [List.length_set]; exact h.len, h.nd, h.n0, ?_, ?_, ?_⟩
  · intro m hm
    rw [lgU_set _ _ _ _ hkl, eg]
    by_cases e : m = k
    · subst e
      rw [if_pos rfl]
      refine ⟨i, by rw [List.length_set]; exact hi, h1, h2, h3, h4, .inl ⟨rfl, ?_⟩⟩
      rw [lgD_set _ _ _ _ hi, if_pos rfl]
      exact hcn.2
    · rw [if_neg e]
      by_cases he : (lgO l m).2.1 = i
      · obtain ⟨i', hi', q1, q2, q3, q4, q5⟩ := h.at' m hm
        have : i' = i := by rw [he] at q2; omega
        subst this
        have hgm : (lgO l m).2.2 ≤ (lgO l k).2.2 ∧ lgU us m = 0 := by
          rcases q5 with ⟨q5, q6⟩ | ⟨_, q6⟩
          · rw [h6] at q6
            refine ⟨?_, q5⟩
            rcases q6 with q6 | ⟨q6, _⟩
            · exact Int.le_of_lt q6
            · exact Int.le_of_eq q6
          · exfalso
            apply e
            refine h.inj hm hk ?_
            rw [h6] at q6
            have := (Prod.mk.inj (Prod.mk.inj q6).2).1
            exact Prod.ext (by rw [q1, h1]) (Prod.ext (by rw [q2, h2]) this.symm)
        refine ⟨i', by rw [List.length_set]; exact hi, q1, q2, q3, q4, .inl ⟨hgm.2, ?_⟩⟩
        rw [lgD_set _ _ _ _ hi, if_pos rfl]
        have hne : (lgO l m).2.2 ≠ (lgO l k).2.2 := by
          intro hq
          exact e (h.inj hm hk (Prod.ext (by rw [q1, h1]) (Prod.ext (by rw [q2, h2]) hq)))
        rcases hcn.2 with hq | ⟨hq, _⟩
        · left; omega
        · left; omega
      · exact (h.at' m hm).other hi he
  · have hc1 := cnt_set (L := tbD L) (i := i) (by rw [tbD_len]; exact hi) (c.1, c.2.1) 1 L.length
    rw [tbD_get, h6', if_pos ⟨hi, rfl⟩, if_neg (fun q => hcn.1 q.2)] at hc1
    have e : tbD (gvD L i (lgO l k).2.2) = (tbD L).set i (c.1, c.2.1) := by rw [eg, tbD_set]
    have el : (gvD L i (lgO l k).2.2).length = L.length := by rw [eg, List.length_set]
    have hp := posN_set us hkl 0
    rw [if_pos h5, if_neg (by omega)] at hp
    have hcn := h.cnt
    rw [e, el]
    omega
  · intro u hu'
    rcases List.mem_or_eq_of_mem_set hu' with hq | hq
    · exact h.ub u hq
    · rw [hq]; have := h.n0; omega
/-- A lease is renewed. -/
theorem DInv.renew (h : DInv L l us now) {k : Nat} (hk : k < l.length) (hu : lgU us k ≠ 0) {j : Nat} (hj : (lgO l k).2.1 = j) {t : Int} (ht : 1 ≤ t ∧ t ≤ 16) (hb : now + t ≤ 1099511627776) :
    DInv (setU L j (now + t)) l (us.set k (now + t)) now := by
  have hn0 := h.n0
  obtain ⟨i, hi, h1, h2, h3, h4, h5⟩ := id (h.at' k hk)
  have : i = j := by rw [hj] at h2; omega
  subst this
  rcases h5 with ⟨h5, _⟩ | ⟨h5, h6⟩
  · exact absurd h5 hu
  obtain ⟨w1, w2, w3⟩ := setU_w h.w hi (u := now + t) (by omega)
  have h6' : L.getD i (0, 0, 0) = (1, (lgO l k).2.2, lgU us k) := h6
  have eg : setU L i (now + t) = L.set i (1, (lgO l k).2.2, now + t) := by unfold setU; rw [h6']
  have hkl : k < us.length := by rw [h.len]; exact hk
  refine ⟨w1, by rw [List.length_set]; exact h.len, h.nd, hn0, ?_, ?_, ?_⟩
  · intro m hm
    rw [lgU_set _ _ _ _ hkl, eg]
    by_cases e : m = k
    · subst e
      rw [if_pos rfl]
      refine ⟨i, by rw [List.length_set]; exact hi, h1, h2, h3, h4, .inr ⟨by omega, ?_⟩⟩
      rw [lgD_set _ _ _ _ hi, if_pos rfl]
    · rw [if_neg e]
      by_cases he : (lgO l m).2.1 = i
      · obtain ⟨i', hi', q1, q2, q3, q4, q5⟩ := h.at' m hm
        have : i' = i := by rw [he] at q2; omega
        subst this
        rcases q5 with ⟨q5, q6⟩ | ⟨_, q6⟩
        · refine ⟨i', by rw [List.length_set]; exact hi, q1, q2, q3, q4, .inl ⟨q5, ?_⟩⟩
          rw [lgD_set _ _ _ _ hi, if_pos rfl]
          rw [h6] at q6
          rcases q6 with q6 | ⟨_, q6⟩
          · exact .inl q6
          · cases q6
        · exfalso
          apply e
          refine h.inj hm hk ?_
          rw [h6] at q6
          have := (Prod.mk.inj (Prod.mk.inj q6).2).1
          exact Prod.ext (by rw [q1, h1]) (Prod.ext (by rw [q2, h2]) this.symm)
      · exact (h.at' m hm).other hi he
  · have hp := posN_set us hkl (now + t)
    rw [if_pos h5, if_pos (by omega)] at hp
    rw [w2, w3, ← h.cnt]
    omega
  · intro u hu'
    rcases List.mem_or_eq_of_mem_set hu' with hq | hq
    · exact h.ub u hq
    · rw [hq]; omega
/-- What a move makes of the slots: as many as before, and generations go up by at most one. -/
structure Kin (L L' : List Ls) : Prop where
  len : L'.length = L.length
  up : ∀ B : Int, (∀ x ∈ L, x.2.1 ≤ B) → ∀ x ∈ L', x.2.1 ≤ B + 1
theorem Kin.refl : Kin L L := ⟨rfl, fun B h x hx => by have := h x hx; omega⟩
theorem Kin.set {i : Nat} (hi : i < L.length) {c : Ls} (hc : c.2.1 ≤ (lgD L i).2.1 + 1) : Kin L (L.set i c) := by
  refine ⟨List.length_set, fun B h x hx => ?_⟩
  rcases List.mem_or_eq_of_mem_set hx with hx | hx
  · have := h x hx; omega
  · subst hx
    have hm : lgD L i ∈ L := by unfold lgD; rw [List.getD_eq_getElem?_getD, List.getElem?_eq_getElem hi]; exact List.getElem_mem hi
    have := h _ hm
    omega
/-! What the calls of a move do -/
theorem DInv.gr (h : DInv L l us now) {t : Int} (ht : 1 ≤ t ∧ t ≤ 16) (hb : now + t ≤ 1099511627776) :
    (grT (some (some L)) t now = some (some L) ∧ grE (some (some L)) t now = 4 ∧ grR (some (some L)) t now = (0, 0, 0)) ∨
    ∃ (i : Nat) (g : Int), i < L.length ∧ (lgD L i).1 = 0 ∧ (lgD L i).2.1 = g ∧ grT (some (some L)) t now = some (some (grN L i (now + t))) ∧ grE (some (some L)) t now = 0 ∧ grR (some (some L)) t now = (3, (i : Int), g) := by
  have hn0 := h.n0
  have h1 : spB t = true := by simp only [spB, Bool.and_eq_true, decide_eq_true_eq]; omega
  have h2 : tmB now = true := by simp only [tmB, Bool.and_eq_true, decide_eq_true_eq]; omega
  have hI : grI L t now = tkI (some (tbD L)) := by unfold grI; rw [h1, h2, decide_eq_true hb]; rfl
  cases htk : tkI (some (tbD L)) with
  | none =>
    left
    rw [htk] at hI
    simp only [grT, grE, grR, hI, h1, h2, Bool.and_self, if_true, if_pos hb]
    simp
  | some i =>
    right
    obtain ⟨_, _, _, _, hi, hz, _⟩ := tk_some htk
    rw [tbD_len] at hi
    rw [tbD_get] at hz
    rw [htk] at hI
    refine ⟨i, _, hi, hz, rfl, ?_⟩
    simp only [grT, grE, grR, hI, h1, h2, Bool.and_self, if_true, if_pos hb]
    simp
theorem setU_same {us : List Int} {k : Nat} (hk : k < us.length) {u : Int} (h : lgU us k = u) : us.set k u = us := by
  subst h
  apply List.ext_getElem?
  intro j
  rw [List.getElem?_set]
  split
  · next e => subst e; unfold lgU; rw [getU hk, List.getElem?_eq_getElem hk]
  · rfl
theorem DInv.ret (h : DInv L l us now) {k : Nat} (hk : k < l.length) : ∃ L' e, rtT (some (some L)) (lgO l k).1 (lgO l k).2.1 (lgO l k).2.2 = some (some L') ∧ wiE (some (some L)) true (lgO l k).1 (lgO l k).2.1 (lgO l k).2.2 = e ∧ e = (if lgU us k = 0 then 7 else 0) ∧ DInv L' l (us.set k 0) now ∧ Kin L L' := by
  have hat := h.at' k hk
  obtain ⟨e1, e2⟩ := wi_at h.w hat
  by_cases hu : lgU us k = 0
  · refine ⟨L, _, ?_, rfl, e1, ?_⟩
    · unfold rtT
      rw [e1, if_pos hu]; simp
    · rw [setU_same (by rw [h.len]; exact hk) hu]
      exact ⟨h, Kin.refl⟩
  · obtain ⟨i, hi, h1, h2, _⟩ := id hat
    refine ⟨gvD L i (lgO l k).2.2, _, ?_, rfl, e1, h.give hk hu h2, ?_⟩
    · unfold rtT
      rw [e1, if_neg hu, if_pos rfl, h2, Int.toNat_natCast]
      rfl
    · obtain ⟨i', hi', _, q2, _, _, q5⟩ := hat
      have : i' = i := by rw [h2] at q2; omega
      subst this
      refine Kin.set hi ?_
      rcases q5 with ⟨q5, _⟩ | ⟨_, q5⟩
      · exact absurd q5 hu
      · rw [q5]
        split
        · exact Int.le_refl _
        · show (lgO l k).2.2 ≤ (lgO l k).2.2 + 1
          omega
theorem DInv.ren (h : DInv L l us now) {k : Nat} (hk : k < l.length) {t : Int} (ht : 1 ≤ t ∧ t ≤ 16) (hb : now + t ≤ 1099511627776) {u : Int} (hu : lgU us k = u) :
    (u = 0 → rnT (some (some L)) (lgO l k).1 (lgO l k).2.1 (lgO l k).2.2 t now = some (some L) ∧ rnE (some (some L)) (lgO l k).1 (lgO l k).2.1 (lgO l k).2.2 t now = 7) ∧
    (u ≠ 0 → u ≤ now → rnT (some (some L)) (lgO l k).1 (lgO l k).2.1 (lgO l k).2.2 t now = some (some L) ∧ rnE (some (some L)) (lgO l k).1 (lgO l k).2.1 (lgO l k).2.2 t now = 8) ∧
    (u ≠ 0 → ¬ u ≤ now → ∃ L', rnT (some (some L)) (lgO l k).1 (lgO l k).2.1 (lgO l k).2.2 t now = some (some L') ∧ rnE (some (some L)) (lgO l k).1 (lgO l k).2.1 (lgO l k).2.2 t now = 0 ∧ DInv L' l (us.set k (now + t)) now ∧ Kin L L') := by
  have hn0 := h.n0
  have h1 : spB t = true := by simp only [spB, Bool.and_eq_true, decide_eq_true_eq]; omega
  have h2 : tmB now = true := by simp only [tmB, Bool.and_eq_true, decide_eq_true_eq]; omega
  have hat := h.at' k hk
  obtain ⟨e1, e2⟩ := wi_at h.w hat
  have hE : rnE (some (some L)) (lgO l k).1 (lgO l k).2.1 (lgO l k).2.2 t now = if u = 0 then 7 else if u ≤ now then 8 else 0 := by
    unfold rnE
    rw [h1, h2, Bool.and_self, e1, hu]
    by_cases h0 : u = 0
    · rw [if_pos h0, if_pos h0, if_neg (by decide)]
    · rw [if_neg h0, if_neg h0, if_pos rfl]
      unfold uqR at e2
      rw [e1, hu, if_neg h0, if_pos rfl] at e2
      rw [e2, if_pos hb]
  refine ⟨fun h0 => ?_, fun h0 hle => ?_, fun h0 hlt => ?_⟩
  · rw [if_pos h0] at hE
    exact ⟨by unfold rnT; rw [hE, if_neg (by decide)], hE⟩
  · rw [if_neg h0, if_pos hle] at hE
    exact ⟨by unfold rnT; rw [hE, if_neg (by decide)], hE⟩
  · rw [if_neg h0, if_neg hlt] at hE
    obtain ⟨i, hi, q1, q2, _⟩ := id hat
    refine ⟨setU L i (now + t), ?_, hE, h.renew hk (by rw [hu]; exact h0) q2 ht hb, Kin.set hi (show (lgD L i).2.1 ≤ (lgD L i).2.1 + 1 by omega)⟩
    unfold rnT
    rw [hE, if_pos rfl, q2, Int.toNat_natCast]
    rfl
/-- What a move makes of the times: nothing, one more, or one other. -/
def Nx (us us' : List Int) : Prop := us' = us ∨ (∃ u, us' = us ++ [u]) ∨ ∃ k u, us' = us.set k u
end Go.Proofs.Ytbjcjbkgjnojmaa
