/-
  Heaps behind turns, as the statements know them: the plain law.
-/
import Derived.Test.YtjlihigodggfcaaGreatArnO
set_option linter.unusedSimpArgs false
set_option linter.unusedVariables false
namespace Go.Proofs.YtjlihigodggfcaaGreat
open Go Go.Mm

/-- What the statements keep of an object that was made: its name, the block of its fields, and the fields. -/
abbrev Me := (Int × Int) × Nat × List (Int × Int)
abbrev HL (L : List Hs) : Hp := some (some L)

theorem hmGet_set (L : List Hs) (i j : Nat) (c : Hs) (h : i < L.length) : (L.set i c).getD j zHs = if j = i then c else L.getD j zHs := by
  rw [List.getD_eq_getElem?_getD, List.getElem?_set, List.getD_eq_getElem?_getD]
  by_cases e : i = j
  · subst e; simp [h]
  · rw [if_neg e, if_neg (fun q => e q.symm)]
theorem wi_iff {L : List Hs} {s g : Int} : wiH (HL L) s g = 0 ↔ ∃ i : Nat, s = i ∧ i < L.length ∧ (L.getD i zHs).1 = 1 ∧ (L.getD i zHs).2.1 = g := by
  constructor
  · intro h
    obtain ⟨i, h1, h2, h3⟩ := ck_zero (L := tbH L) h
    rw [tbH_get] at h3
    rw [tbH_len] at h2
    exact ⟨i, h1, h2, congrArg Prod.fst h3, congrArg Prod.snd h3⟩
  · rintro ⟨i, rfl, h2, h3, h4⟩
    show ckE (some (tbH L)) i g = 0
    rw [ck_at (by rw [tbH_len]; exact h2), tbH_get, h3, h4, if_pos rfl]
theorem wi_no {L : List Hs} {i : Nat} {g : Int} (hi : i < L.length) (h : ¬ ((L.getD i zHs).1 = 1 ∧ (L.getD i zHs).2.1 = g)) : wiH (HL L) i g = 7 := by
  show ckE (some (tbH L)) i g = 7
  rw [ck_at (by rw [tbH_len]; exact hi), tbH_get, if_neg]
  intro e
  exact h ⟨congrArg Prod.fst e, congrArg Prod.snd e⟩
theorem obAt_at {L : List Hs} {i : Nat} : obAt (HL L) (i : Int) = (L.getD i zHs).2.2 := by
  unfold obAt hpL
  rw [Int.toNat_natCast]

/-- The object of that name is there, with these fields. -/
structure ObIs (L : List Hs) (r : Int × Int) (l : List (Int × Int)) : Prop where
  ck : wiH (HL L) r.1 r.2 = 0
  n : (obAt (HL L) r.1).1 = l.length
  fd : ∀ k, k < l.length → (obAt (HL L) r.1).2.1.getD k (0, 0) = l.getD k (0, 0)

structure Mo (n : Nat) (f : Int) (k : Nat) (L : List Hs) (ins gone : List (Int × Int)) (ms : List Me) : Prop where
  w : HpW L
  len : L.length = n
  nd : ins.Nodup
  all : ∀ r : Int × Int, wiH (HL L) r.1 r.2 = 0 → r ∈ ins
  obj : ∀ r ∈ ins, ∃ (j : Nat) (m : Me), ms[j]? = some m ∧ m.1 = r ∧ ObIs L r m.2.2
  gon : ∀ r ∈ gone, ∃ i : Nat, r.1 = i ∧ i < n ∧ 0 ≤ r.2 ∧ r.2 ≤ (L.getD i zHs).2.1 ∧ (r.2 = (L.getD i zHs).2.1 → (L.getD i zHs).1 = 2)
  keys : ∀ m ∈ ms, m.1 ∈ ins ∨ m.1 ∈ gone
  ks : ms.Pairwise (fun x y => x.1 ≠ y.1)
  fd4 : ∀ m ∈ ms, m.2.2.length ≤ 4 ∧ ∀ x ∈ m.2.2, 0 ≤ x.2 ∧ x.2 ≤ 4294967295
  gens : ∀ i, i < n → (L.getD i zHs).2.1 ≤ f + k
  lows : ∀ i, i < n → f ≤ (L.getD i zHs).2.1
  ret : ∀ i, i < n → (L.getD i zHs).1 = 2 → (L.getD i zHs).2.1 = 4294967295
  c1 : ins.length ≤ k
  c2 : gone.length ≤ k
  c3 : ms.length ≤ k

section
variable {n : Nat} {f : Int} {k : Nat} {L : List Hs} {ins gone : List (Int × Int)} {ms : List Me}
theorem Mo.gn (h : Mo n f k L ins gone ms) {i : Nat} (hi : i < n) : 1 ≤ (L.getD i zHs).2.1 ∧ (L.getD i zHs).2.1 ≤ 4294967295 ∧ ((L.getD i zHs).1 = 0 ∨ (L.getD i zHs).1 = 1 ∨ (L.getD i zHs).1 = 2) := by
  have hl := h.len
  have h1 := h.w.tb.gn _ (getD_mem (L := tbH L) (i := i) (by rw [tbH_len]; omega))
  have h2 := h.w.tb.st _ (getD_mem (L := tbH L) (i := i) (by rw [tbH_len]; omega))
  rw [tbH_get] at h1 h2
  exact ⟨h1.1, h1.2, h2⟩
theorem Mo.rg (h : Mo n f k L ins gone ms) {r : Int × Int} (hr : r ∈ ins) : ∃ i : Nat, r.1 = i ∧ i < n ∧ (L.getD i zHs).1 = 1 ∧ (L.getD i zHs).2.1 = r.2 ∧ 1 ≤ r.2 ∧ r.2 ≤ 4294967295 := by
  obtain ⟨j, m, _, _, ho⟩ := h.obj r hr
  obtain ⟨i, h1, h2, h3, h4⟩ := wi_iff.1 ho.ck
  rw [h.len] at h2
  have := h.gn h2
  exact ⟨i, h1, h2, h3, h4, by omega, by omega⟩
theorem Mo.more (h : Mo n f k L ins gone ms) : Mo n f (k + 1) L ins gone ms :=
  ⟨h.w, h.len, h.nd, h.all, h.obj, h.gon, h.keys, h.ks, h.fd4, fun i hi => by have := h.gens i hi; omega, h.lows, h.ret, by have := h.c1; omega, by have := h.c2; omega, by have := h.c3; omega⟩
/-- What New gives. -/
theorem Mo.new {n : Nat} {f : Int} (hn : 0 < n ∧ n ≤ 256) (hf : 1 ≤ f ∧ f ≤ 4294967295) : Mo n f 0 (List.replicate n (0, f, zOb)) [] [] [] := by
  have hg : ∀ i, i < n → (List.replicate n ((0, f, zOb) : Hs)).getD i zHs = (0, f, zOb) := fun i hi => by
    rw [List.getD_eq_getElem?_getD, List.getElem?_replicate, if_pos hi]; rfl
  refine ⟨⟨by rw [List.length_replicate]; omega, by rw [List.length_replicate]; omega, by rw [tbH_rep]; exact TbW.rep (by omega) (by omega), fun x hx => by rw [(List.mem_replicate.1 hx).2]; exact zOb_w⟩, List.length_replicate,
    List.nodup_nil, fun r hr => ?_, fun r hr => (nomatch hr), fun r hr => (nomatch hr), fun m hm => (nomatch hm), List.Pairwise.nil, fun m hm => (nomatch hm), fun i hi => ?_, fun i hi => ?_, fun i hi h2 => ?_, Nat.le_refl _, Nat.le_refl _, Nat.le_refl _⟩
  · obtain ⟨i, _, h2, h3, _⟩ := wi_iff.1 hr
    rw [List.length_replicate] at h2
    rw [hg i h2] at h3
    cases h3
  · rw [hg i hi]; simp
  · rw [hg i hi]; simp
  · rw [hg i hi] at h2; cases h2
theorem obIs_stay {L L' : List Hs} {r : Int × Int} {l : List (Int × Int)} {i : Nat} (hl : L'.length = L.length) (h : ObIs L r l) (hr : r.1 = i) (he : L'.getD i zHs = L.getD i zHs) : ObIs L' r l := by
  obtain ⟨j, h1, h2, h3, h4⟩ := wi_iff.1 h.ck
  obtain rfl : i = j := by omega
  have ho : obAt (HL L') r.1 = obAt (HL L) r.1 := by rw [hr, obAt_at, obAt_at, he]
  exact ⟨wi_iff.2 ⟨i, h1, by omega, by rw [he]; exact h3, by rw [he]; exact h4⟩, by rw [ho]; exact h.n, by rw [ho]; exact h.fd⟩

/-- An object is made. -/
theorem Mo.make (h : Mo n f k L ins gone ms) {i : Nat} (ht : tkI (some (tbH L)) = some i) (c : Nat) (hd : Bool) (hc : c ≤ 4) (hw : nwB c hd = true) :
    ∃ L' g, mkT (HL L) c hd = HL L' ∧ mkR (HL L) c hd = ((i : Int), g) ∧ mkE (HL L) c hd = 0 ∧ 0 ≤ g ∧ g ≤ 4294967295 ∧ (∀ m ∈ ms, m.1 ≠ ((i : Int), g)) ∧
      ∀ b, Mo n f (k + 1) L' (ins ++ [((i : Int), g)]) gone (ms ++ [(((i : Int), g), b, List.replicate c (0, 0))]) := by
  obtain ⟨_, _, _, _, hi, h0, _⟩ := tk_some ht
  rw [tbH_len] at hi
  rw [tbH_get] at h0
  simp only at h0
  have hI : mkI L c hd = some i := by unfold mkI; rw [hw]; exact ht
  have hl := h.len
  have hin : i < n := by omega
  obtain ⟨g1, g2, _⟩ := h.gn hin
  obtain ⟨g, hg⟩ : ∃ g, (L.getD i zHs).2.1 = g := ⟨_, rfl⟩
  rw [hg] at g1 g2
  have ho : nwO c hd = ((c : Int), zero4, hd) := by unfold nwO; rw [hw]; rfl
  have hget : ∀ j, (mkN L i (nwO c hd)).getD j zHs = if j = i then (1, g, ((c : Int), zero4, hd)) else L.getD j zHs := fun j => by
    unfold mkN
    rw [hmGet_set _ _ _ _ hi, hg, ho]
  have hlen : (mkN L i (nwO c hd)).length = L.length := by unfold mkN; rw [List.length_set]
  have hno : ∀ r ∈ ins, r.1 ≠ (i : Int) := fun r hr e => by
    obtain ⟨j, h1, h2, h3, _⟩ := h.rg hr
    obtain rfl : j = i := by omega
    rw [h0] at h3; cases h3
  have hfresh : ((i : Int), g) ∉ ins ∧ ((i : Int), g) ∉ gone := by
    refine ⟨fun hr => hno _ hr rfl, fun hr => ?_⟩
    obtain ⟨j, h1, h2, _, _, h5⟩ := h.gon _ hr
    simp only at h1
    obtain rfl : i = j := by omega
    have := h5 hg.symm
    rw [h0] at this; cases this
  have hk : ∀ m ∈ ms, m.1 ≠ ((i : Int), g) := fun m hm e => by
    rcases h.keys m hm with h' | h'
    · exact hfresh.1 (e ▸ h')
    · exact hfresh.2 (e ▸ h')
  refine ⟨mkN L i (nwO c hd), g, by simp only [mkT, hI], by simp only [mkR, hI, hg], by simp only [mkE, hw, hI]; rfl, by omega, g2, hk, fun b => ?_⟩
  refine ⟨mkN_w h.w hi (nwO_w _ _), by rw [hlen]; exact hl, ?_, fun r hr => ?_, fun r hr => ?_, fun r hr => ?_, fun m hm => ?_, ?_, fun m hm => ?_, fun j hj => ?_, fun j hj => ?_, fun j hj h2 => ?_, by simp; exact h.c1, by have := h.c2; omega, by simp; exact h.c3⟩
  · rw [List.nodup_append]
    exact ⟨h.nd, by simp, fun x hx y hy e => hfresh.1 (by rw [List.mem_singleton] at hy; rw [← hy, ← e]; exact hx)⟩
  · obtain ⟨j, h1, h2, h3, h4⟩ := wi_iff.1 hr
    rw [hget j] at h3 h4
    rw [List.mem_append, List.mem_singleton]
    by_cases e : j = i
    · rw [if_pos e] at h4
      subst e
      exact .inr (Prod.ext h1 h4.symm)
    · rw [if_neg e] at h3 h4
      exact .inl (h.all r (wi_iff.2 ⟨j, h1, by omega, h3, h4⟩))
  · rw [List.mem_append, List.mem_singleton] at hr
    rcases hr with hr | rfl
    · obtain ⟨j, m, h1, h2, h3⟩ := h.obj r hr
      obtain ⟨q, h4, h5, _⟩ := h.rg hr
      have hne := hno r hr
      refine ⟨j, m, by rw [List.getElem?_append_left (List.getElem?_eq_some_iff.1 h1).1]; exact h1, h2, obIs_stay hlen h3 h4 ?_⟩
      rw [hget q, if_neg (by intro e; rw [h4, e] at hne; exact hne rfl)]
    · refine ⟨ms.length, _, by rw [List.getElem?_append_right (Nat.le_refl _), Nat.sub_self]; rfl, rfl, ?_⟩
      have ha : obAt (HL (mkN L i (nwO c hd))) (i : Int) = ((c : Int), zero4, hd) := by rw [obAt_at, hget i, if_pos rfl]
      refine ⟨wi_iff.2 ⟨i, rfl, by omega, by rw [hget i, if_pos rfl], by rw [hget i, if_pos rfl]⟩, by simp only [ha]; simp, fun q hq => ?_⟩
      simp only [List.length_replicate] at hq
      simp only [ha]
      have e1 : (List.replicate c ((0, 0) : Int × Int)).getD q (0, 0) = (0, 0) := by rw [List.getD_eq_getElem?_getD, List.getElem?_replicate, if_pos hq]; rfl
      rw [e1]
      have hq4 : q < 4 := by omega
      rcases q with _ | _ | _ | _ | q <;> first | rfl | omega
  · obtain ⟨j, h1, h2, h3, h4, h5⟩ := h.gon r hr
    refine ⟨j, h1, h2, h3, ?_, ?_⟩
    · rw [hget j]
      split
      · next e => subst e; rw [hg] at h4; exact h4
      · exact h4
    · rw [hget j]
      split
      · next e =>
        subst e
        intro e2
        have := h5 (by rw [hg]; exact e2)
        rw [h0] at this; cases this
      · exact h5
  · rw [List.mem_append, List.mem_singleton] at hm
    rcases hm with hm | rfl
    · rcases h.keys m hm with h' | h'
      · exact .inl (List.mem_append_left _ h')
      · exact .inr h'
    · exact .inl (by simp)
  · rw [List.pairwise_append]
    exact ⟨h.ks, by simp, fun x hx y hy => by rw [List.mem_singleton] at hy; rw [hy]; exact hk x hx⟩
  · rw [List.mem_append, List.mem_singleton] at hm
    rcases hm with hm | rfl
    · exact h.fd4 m hm
    · refine ⟨by simpa using hc, fun x hx => ?_⟩
      rw [(List.mem_replicate.1 hx).2]; simp
  · have := h.gens j hj
    rw [hget j]
    split
    · next e => subst e; rw [hg] at this; simp only; omega
    · omega
  · have := h.lows j hj
    rw [hget j]
    split
    · next e => subst e; rw [hg] at this; exact this
    · exact this
  · rw [hget j] at h2 ⊢
    split at h2
    · cases h2
    · next e => rw [if_neg e]; exact h.ret j hj h2

/-- None is made. -/
theorem Mo.full (h : Mo n f k L ins gone ms) (ht : tkI (some (tbH L)) = none) (c : Nat) (hd : Bool) (hw : nwB c hd = true) :
    mkT (HL L) c hd = HL L ∧ mkR (HL L) c hd = (0, 0) ∧ mkE (HL L) c hd = 4 ∧ lfH (HL L) = 0 := by
  have hI : mkI L c hd = none := by unfold mkI; rw [hw]; exact ht
  refine ⟨by simp only [mkT, hI], by simp only [mkR, hI], by simp only [mkE, hw, hI]; rfl, ?_⟩
  have h1 : ∀ j, j < (tbH L).length → isSt 0 (tbH L) j = false := by
    intro j hj
    have h2 : firstOf (isSt 0 (tbH L)) (tbH L).length = none := ht
    unfold firstOf at h2
    rw [List.find?_eq_none] at h2
    simpa using h2 j (List.mem_range.2 hj)
  have h3 : ∀ q, q ≤ (tbH L).length → stCnt 0 (tbH L) q = 0 := by
    intro q
    induction q with
    | zero => intro _; simp [stCnt, gl]
    | succ q ih => intro hq; rw [stCnt_no (h1 q (by omega)), ih (by omega)]
  show ((stCnt 0 (tbH L) (tbH L).length : Nat) : Int) = 0
  rw [h3 _ (Nat.le_refl _)]; rfl

theorem mem_cut {l : List (Int × Int)} {j : Nat} {r x : Int × Int} (hr : l[j]? = some r) (hx : x ∈ l) (hne : x ≠ r) : x ∈ l.take j ++ l.drop (j + 1) := by
  have hj := (List.getElem?_eq_some_iff.1 hr).1
  have h1 := (List.getElem?_eq_some_iff.1 hr).2
  have h2 : l = l.take j ++ (r :: l.drop (j + 1)) := by
    conv => lhs; rw [← List.take_append_drop j l]
    rw [List.drop_eq_getElem_cons hj, h1]
  rw [h2] at hx
  rw [List.mem_append, List.mem_cons] at hx
  rw [List.mem_append]
  rcases hx with h | h | h
  · exact .inl h
  · exact absurd h hne
  · exact .inr h
theorem cut_sub {l : List (Int × Int)} {j : Nat} : (l.take j ++ l.drop (j + 1)).Sublist l := by
  rw [← List.eraseIdx_eq_take_drop_succ]
  exact List.eraseIdx_sublist _ _
theorem cut_not {l : List (Int × Int)} (hn : l.Nodup) {j : Nat} {r : Int × Int} (hr : l[j]? = some r) : r ∉ l.take j ++ l.drop (j + 1) := by
  have hj := (List.getElem?_eq_some_iff.1 hr).1
  have h1 := (List.getElem?_eq_some_iff.1 hr).2
  have h2 : l = l.take j ++ (r :: l.drop (j + 1)) := by
    conv => lhs; rw [← List.take_append_drop j l]
    rw [List.drop_eq_getElem_cons hj, h1]
  rw [h2, List.nodup_append] at hn
  obtain ⟨_, h4, h5⟩ := hn
  rw [List.nodup_cons] at h4
  rw [List.mem_append]
  rintro (h | h)
  · exact h5 _ h r (by simp) rfl
  · exact h4.1 h

/-- An object is freed. -/
theorem Mo.free (h : Mo n f k L ins gone ms) {j : Nat} {r : Int × Int} (hr : ins[j]? = some r) :
    ∃ L', frT (HL L) r.1 r.2 = HL L' ∧ wiH (HL L) r.1 r.2 = 0 ∧ hasH (HL L') r.1 r.2 = false ∧ Mo n f (k + 1) L' (ins.take j ++ ins.drop (j + 1)) (gone ++ [r]) ms := by
  have hmem := List.mem_of_getElem? hr
  obtain ⟨i, h1, h2, h3, h4, h5, h6⟩ := h.rg hmem
  have hl := h.len
  have hck : wiH (HL L) r.1 r.2 = 0 := wi_iff.2 ⟨i, h1, by omega, h3, h4⟩
  have hi : i < L.length := by omega
  have hckE : ckE (some (tbH L)) (i : Int) r.2 = 0 := by rw [← h1]; exact hck
  obtain ⟨w1, _, _, w4⟩ := frN_w h.w hi hckE
  have hget : ∀ q, (frN L i r.2).getD q zHs = if q = i then (if r.2 < 4294967295 then (0, r.2 + 1, zOb) else (2, r.2, zOb)) else L.getD q zHs := fun q => by
    unfold frN
    rw [hmGet_set _ _ _ _ hi]
  have hslot : ∀ x ∈ ins, x ≠ r → x.1 ≠ (i : Int) := fun x hx hne e => by
    obtain ⟨q, q1, q2, q3, q4, _⟩ := h.rg hx
    obtain rfl : q = i := by omega
    exact hne (Prod.ext (by rw [e, h1]) (by rw [← q4, h4]))
  have hsub := cut_sub (l := ins) (j := j)
  have hnot := cut_not h.nd hr
  refine ⟨frN L i r.2, ?_, hck, ?_, w1, by rw [w4]; exact hl, h.nd.sublist hsub, fun x hx => ?_, fun x hx => ?_, fun x hx => ?_, fun m hm => ?_, h.ks, h.fd4, fun q hq => ?_, fun q hq => ?_, fun q hq q2 => ?_, by have := hsub.length_le; have := h.c1; omega, by simp; exact h.c2, by have := h.c3; omega⟩
  · unfold frT
    rw [if_pos hck, h1]
    rfl
  · unfold hasH
    rw [decide_eq_false_iff_not]
    intro e
    obtain ⟨q, q1, q2, q3, q4⟩ := wi_iff.1 e
    obtain rfl : q = i := by omega
    rw [hget q, if_pos rfl] at q3
    split at q3 <;> cases q3
  · obtain ⟨q, q1, q2, q3, q4⟩ := wi_iff.1 hx
    rw [w4] at q2
    by_cases e : q = i
    · rw [hget q, if_pos e] at q3
      split at q3 <;> cases q3
    · rw [hget q, if_neg e] at q3 q4
      refine mem_cut hr (h.all x (wi_iff.2 ⟨q, q1, q2, q3, q4⟩)) (fun e2 => e ?_)
      rw [e2] at q1
      omega
  · have hx' := hsub.subset hx
    have hne : x ≠ r := fun e => hnot (e ▸ hx)
    obtain ⟨q, m, q1, q2, q3⟩ := h.obj x hx'
    obtain ⟨p, p1, p2, _⟩ := h.rg hx'
    have hs := hslot x hx' hne
    refine ⟨q, m, q1, q2, obIs_stay w4 q3 p1 ?_⟩
    rw [hget p, if_neg (by intro e; rw [p1, e] at hs; exact hs rfl)]
  · rw [List.mem_append, List.mem_singleton] at hx
    rcases hx with hx | rfl
    · obtain ⟨q, q1, q2, q3, q4, q5⟩ := h.gon x hx
      refine ⟨q, q1, q2, q3, ?_, ?_⟩
      · rw [hget q]
        split
        · next e => subst e; rw [h4] at q4; split <;> simp only <;> omega
        · exact q4
      · rw [hget q]
        split
        · next e =>
          subst e
          rw [h4] at q4 q5
          intro e2
          have hlt : x.2 ≠ r.2 := fun e3 => by have := q5 e3; rw [h3] at this; cases this
          split at e2 <;> simp only at e2 <;> omega
        · exact q5
    · refine ⟨i, h1, h2, by omega, ?_, ?_⟩
      · rw [hget i, if_pos rfl]; split <;> simp only <;> omega
      · rw [hget i, if_pos rfl]
        intro e2
        split at e2
        · simp only at e2; omega
        · next e3 => rw [if_neg e3]
  · rcases h.keys m hm with h' | h'
    · by_cases e : m.1 = r
      · exact .inr (by rw [e]; simp)
      · exact .inl (mem_cut hr h' e)
    · exact .inr (List.mem_append_left _ h')
  · have := h.gens q hq
    rw [hget q]
    split
    · next e => subst e; rw [h4] at this; split <;> simp only <;> omega
    · omega
  · have := h.lows q hq
    rw [hget q]
    split
    · next e => subst e; rw [h4] at this; split <;> simp only <;> omega
    · omega
  · rw [hget q] at q2 ⊢
    by_cases e : q = i
    · rw [if_pos e] at q2 ⊢
      split at q2
      · cases q2
      · next e3 => rw [if_neg e3]; simp only; omega
    · rw [if_neg e] at q2 ⊢
      exact h.ret q hq q2

/-- A store in a field that there is not. -/
theorem Mo.out (h : Mo n f k L ins gone ms) {r : Int × Int} {l : List (Int × Int)} (ho : ObIs L r l) (i : Nat) (hi : l.length ≤ i) (v : Int × Int) :
    stT (HL L) r.1 r.2 i v = HL L ∧ stR (HL L) r.1 r.2 i v = (0, 0) ∧ stE (HL L) r.1 r.2 i v = 3 := by
  have hf : inF (obAt (HL L) r.1) i = false := by
    unfold inF
    rw [ho.n]
    have : decide ((i : Int) < (l.length : Int)) = false := decide_eq_false (by omega)
    rw [this, Bool.and_false]
  have he : stE (HL L) r.1 r.2 i v = 3 := by
    unfold stE gtOE
    rw [if_pos ho.ck, hf]
    simp
  refine ⟨?_, ?_, he⟩
  · unfold stT; rw [he]; rfl
  · unfold stR; rw [he]; rfl

/-- A store in a field. -/
theorem Mo.put (h : Mo n f k L ins gone ms) {q : Nat} {m : Me} (hq : ms[q]? = some m) (hm : m.1 ∈ ins) (ho : ObIs L m.1 m.2.2) (i : Nat) (hi : i < m.2.2.length) (v : Int × Int) (hv : v = (0, 0) ∨ v ∈ ins) :
    ∃ L', stT (HL L) m.1.1 m.1.2 i v = HL L' ∧ stR (HL L) m.1.1 m.1.2 i v = m.2.2.getD i (0, 0) ∧ stE (HL L) m.1.1 m.1.2 i v = 0 ∧ Mo n f (k + 1) L' ins gone (ms.set q (m.1, m.2.1, m.2.2.set i v)) := by
  obtain ⟨⟨s, g⟩, b, l⟩ := m
  simp only at hm ho hi ⊢
  obtain ⟨j, h1, h2, h3, h4, h5, h6⟩ := h.rg hm
  simp only at h1 h4 h5 h6
  subst h1
  have hl := h.len
  have hjl : j < L.length := by omega
  have hf : inF (obAt (HL L) j) i = true := by
    unfold inF
    rw [ho.n]
    simp only [Bool.and_eq_true, decide_eq_true_eq]
    omega
  have hv0 : (if refB v.1 v.2 0 0 then 0 else wiH (HL L) v.1 v.2) = 0 := by
    rcases hv with rfl | hv
    · rfl
    · obtain ⟨_, _, _, _, hv2⟩ := h.obj v hv
      rw [hv2.ck]; simp
  have hE : gtOE (obAt (HL L) j) i = 0 := by unfold gtOE; rw [hf]; rfl
  have he : stE (HL L) j g i v = 0 := by
    unfold stE
    have hc := ho.ck
    simp only at hc
    rw [if_pos hc, if_pos hE]
    exact hv0
  have hfd := ho.fd i hi
  simp only at hfd
  have hob : ObW (obAt (HL L) j) := by
    rw [obAt_at]
    rw [List.getD_eq_getElem?_getD, List.getElem?_eq_getElem hjl]
    exact h.w.ob _ (List.getElem_mem hjl)
  have hwv : wrR v = false := by
    rcases hv with rfl | hv
    · exact wr_zero
    · obtain ⟨p, p1, p2, _, _, p5, p6⟩ := h.rg hv
      have := h.w.hi
      unfold wrR
      have d1 : decide (v.1 < 0) = false := decide_eq_false (by omega)
      have d2 : decide ((256 : Int) ≤ v.1) = false := decide_eq_false (by omega)
      have d3 : decide (v.2 < 1) = false := decide_eq_false (by omega)
      simp [d1, d2, d3]
  have hgv : 0 ≤ v.2 ∧ v.2 ≤ 4294967295 := by
    rcases hv with rfl | hv
    · simp
    · obtain ⟨p, p1, p2, _, _, p5, p6⟩ := h.rg hv
      omega
  have hob2 := hob.set hf hwv hgv
  have hck : ckE (some (tbH L)) (j : Int) g = 0 := ho.ck
  obtain ⟨w1, _, _, w4⟩ := seN_w h.w hjl hck hob2
  have hget : ∀ p, (seN L j g (stO (obAt (HL L) j) i v)).getD p zHs = if p = j then (1, g, stO (obAt (HL L) j) i v) else L.getD p zHs := fun p => by
    unfold seN
    rw [hmGet_set _ _ _ _ hjl]
  have st1 : ∀ p, ((seN L j g (stO (obAt (HL L) j) i v)).getD p zHs).1 = (L.getD p zHs).1 := fun p => by
    rw [hget p]; split
    · next e => rw [e, h3]
    · rfl
  have gn1 : ∀ p, ((seN L j g (stO (obAt (HL L) j) i v)).getD p zHs).2.1 = (L.getD p zHs).2.1 := fun p => by
    rw [hget p]; split
    · next e => rw [e, h4]
    · rfl
  have hwi : ∀ x : Int × Int, wiH (HL (seN L j g (stO (obAt (HL L) j) i v))) x.1 x.2 = 0 ↔ wiH (HL L) x.1 x.2 = 0 := fun x => by
    rw [wi_iff, wi_iff]
    constructor
    · rintro ⟨p, p1, p2, p3, p4⟩
      exact ⟨p, p1, by omega, by rw [← st1]; exact p3, by rw [← gn1]; exact p4⟩
    · rintro ⟨p, p1, p2, p3, p4⟩
      exact ⟨p, p1, by omega, by rw [st1]; exact p3, by rw [gn1]; exact p4⟩
  have hql := (List.getElem?_eq_some_iff.1 hq).1
  have hql2 := (List.getElem?_eq_some_iff.1 hq).2
  have hmemq := List.mem_of_getElem? hq
  have hset : ∀ x ∈ ms.set q (((j : Int), g), b, l.set i v), x ∈ ms ∨ x = (((j : Int), g), b, l.set i v) := fun x hx => List.mem_or_eq_of_mem_set hx
  have hkey : (ms.set q (((j : Int), g), b, l.set i v)).map (fun x => x.1) = ms.map (fun x => x.1) := by
    rw [List.map_set]
    have : ((j : Int), g) = (ms.map (fun x => x.1))[q]'(by simpa using hql) := by rw [List.getElem_map, hql2]
    rw [this, List.set_getElem_self]
  refine ⟨seN L j g (stO (obAt (HL L) j) i v), ?_, ?_, he, w1, by rw [w4]; exact hl, h.nd, fun x hx => h.all x ((hwi x).1 hx), fun x hx => ?_, fun x hx => ?_, fun x hx => ?_, ?_, fun x hx => ?_, fun p hp => ?_, fun p hp => ?_, fun p hp p2 => ?_, by have := h.c1; omega, by have := h.c2; omega, by rw [List.length_set]; have := h.c3; omega⟩
  · unfold stT
    rw [he, if_pos rfl, Int.toNat_natCast]
    rfl
  · unfold stR gtO
    rw [he, if_pos rfl, hf, if_pos rfl, Int.toNat_natCast]
    exact hfd
  · obtain ⟨p, m, p1, p2, p3⟩ := h.obj x hx
    by_cases e : p = q
    · subst e
      rw [hq] at p1
      obtain rfl := Option.some.inj p1
      simp only at p2
      subst p2
      refine ⟨p, _, by rw [List.getElem?_set_self hql], rfl, (hwi _).2 p3.ck, ?_, fun z hz => ?_⟩
      · show (obAt _ (j : Int)).1 = _
        rw [obAt_at, hget j, if_pos rfl, List.length_set]
        exact ho.n
      · show (obAt _ (j : Int)).2.1.getD z (0, 0) = _
        rw [obAt_at, hget j, if_pos rfl]
        rw [List.length_set] at hz
        have hz2 := ho.fd z hz
        simp only at hz2
        show ((obAt (HL L) j).2.1.set (i : Int).toNat v).getD z (0, 0) = (l.set i v).getD z (0, 0)
        have h4n := hob.n4
        have hno := ho.n
        simp only at hno
        rw [Int.toNat_natCast, getD_set2 _ _ _ _ (by rw [hob.len]; omega), getD_set2 _ _ _ _ hi, hz2]
    · refine ⟨p, m, by rw [List.getElem?_set_ne (fun e2 => e e2.symm)]; exact p1, p2, ?_⟩
      have hne : x ≠ ((j : Int), g) := fun e2 => by
        have hpl := (List.getElem?_eq_some_iff.1 p1).1
        have hpl2 := (List.getElem?_eq_some_iff.1 p1).2
        have hks := List.pairwise_iff_getElem.1 h.ks
        rcases Nat.lt_or_gt_of_ne e with e3 | e3
        · exact hks p q hpl hql e3 (by rw [hpl2, hql2, p2, e2])
        · exact hks q p hql hpl e3 (by rw [hpl2, hql2, p2, e2])
      obtain ⟨z, z1, z2, z3, z4, _⟩ := h.rg hx
      refine obIs_stay w4 p3 z1 ?_
      rw [hget z, if_neg]
      intro e3
      subst e3
      exact hne (Prod.ext z1 (by rw [← z4, h4]))
  · obtain ⟨p, p1, p2, p3, p4, p5⟩ := h.gon x hx
    exact ⟨p, p1, p2, p3, by rw [gn1]; exact p4, by rw [gn1, st1]; exact p5⟩
  · have : x.1 ∈ (ms.set q (((j : Int), g), b, l.set i v)).map (fun x => x.1) := List.mem_map.2 ⟨x, hx, rfl⟩
    rw [hkey] at this
    obtain ⟨y, hy, hy2⟩ := List.mem_map.1 this
    rw [← hy2]
    exact h.keys y hy
  · have := (List.pairwise_map (f := fun x : Me => x.1) (R := fun a b => a ≠ b)).2 h.ks
    rw [← hkey] at this
    exact List.pairwise_map.1 this
  · rcases hset x hx with h' | rfl
    · exact h.fd4 x h'
    · obtain ⟨z1, z2⟩ := h.fd4 _ hmemq
      simp only at z1 z2 ⊢
      refine ⟨by rw [List.length_set]; exact z1, fun y hy => ?_⟩
      rcases List.mem_or_eq_of_mem_set hy with hy | rfl
      · exact z2 y hy
      · exact hgv
  · rw [gn1]; have := h.gens p hp; omega
  · rw [gn1]; exact h.lows p hp
  · rw [gn1]; rw [st1] at p2; exact h.ret p hp p2

/-- How many there are. -/
theorem Mo.cnt (h : Mo n f k L ins gone ms) : (alH (HL L)).length = ins.length := by
  have hmem : ∀ r : Int × Int, r ∈ alH (HL L) ↔ r ∈ ins := fun r => by
    show r ∈ tkL (some (tbH L)) ↔ _
    rw [tkL_ck (by rw [tbH_len]; exact h.w.lo)]
    constructor
    · exact h.all r
    · intro hr
      obtain ⟨_, _, _, _, ho⟩ := h.obj r hr
      exact ho.ck
  have hnd : (alH (HL L)).Nodup := by
    show (stL 1 (tbH L) (tbH L).length).Nodup
    unfold stL
    refine List.Pairwise.map _ (fun a b (hab : a ≠ b) e => hab ?_) (List.nodup_range.filter _)
    have := congrArg Prod.fst e
    simp only [refOf] at this
    omega
  exact (List.perm_iff_count.2 fun a => by
    rw [hnd.count, h.nd.count]
    simp only [hmem a]).length_eq
end
end Go.Proofs.YtjlihigodggfcaaGreat
