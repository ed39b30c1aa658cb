/-
  Arenas with what the statements know of them: the plain law.
-/
import Derived.Test.YtjlihigodggfcaaGreatHmo
import Derived.Test.YtjlihigodggfcaaGreatLowest
set_option linter.unusedSimpArgs false
set_option linter.unusedVariables false
namespace Go.Proofs.YtjlihigodggfcaaGreat
open Go Go.Mm

abbrev kyM (ms : List Me) : List Rf := ms.map (fun m => m.1)
/-- What the statements know of an arena: its objects by names, none was freed; roots and variables are the arena's own. -/
structure Wo (n mu k : Nat) (T : Ar) (ms : List Me) : Prop where
  mo : Mo n 1 k T.1 (kyM ms) [] ms
  mu : T.2.1.length = mu
  r32 : ∀ l ∈ T.2.1, l.length ≤ 32
  rin : ∀ l ∈ T.2.1, ∀ r ∈ l, r ∈ kyM ms
  g8 : T.2.2.length = 8
  gin : ∀ r ∈ T.2.2, r = (0, 0) ∨ r ∈ kyM ms
  fin : ∀ m ∈ ms, ∀ x ∈ m.2.2, x = (0, 0) ∨ x ∈ kyM ms

section
variable {n : Nat} {f : Int} {k : Nat} {L : List Hs} {ins gone : List (Int × Int)} {ms : List Me}
theorem Mo.room (h : Mo n f k L ins gone ms) (hk : f + k < 4294967295) : lfH (HL L) + ((alH (HL L)).length : Int) = n := by
  have hl := h.len
  have hs := cnt_sum (L := tbH L) h.w.tb.st (tbH L).length (Nat.le_refl _)
  have h2 : ∀ q, q ≤ (tbH L).length → stCnt 2 (tbH L) q = 0 := by
    intro q
    induction q with
    | zero => intro _; simp [stCnt, gl]
    | succ q ih =>
      intro hq
      have hqn : q < n := by rw [tbH_len] at hq; omega
      have hno : isSt 2 (tbH L) q = false := by
        unfold isSt
        rw [tbH_get]
        have : (L.getD q zHs).1 ≠ 2 := fun e => by
          have h1 := h.ret q hqn e
          have h2 := h.gens q hqn
          omega
        simpa using this
      rw [stCnt_no hno, ih (by omega)]
  rw [h2 _ (Nat.le_refl _)] at hs
  have e1 : lfH (HL L) = ((stCnt 0 (tbH L) (tbH L).length : Nat) : Int) := rfl
  have e2 : (alH (HL L)).length = stCnt 1 (tbH L) (tbH L).length := stL_len 1 (tbH L) _
  rw [e1, e2]
  rw [tbH_len] at hs ⊢
  omega
/-- The blocks of the fields are not looked at. -/
theorem Mo.reb (h : Mo n f k L ins gone ms) {q : Nat} {m : Me} (hq : ms[q]? = some m) (b : Nat) : Mo n f k L ins gone (ms.set q (m.1, b, m.2.2)) := by
  have hql := (List.getElem?_eq_some_iff.1 hq).1
  have hql2 := (List.getElem?_eq_some_iff.1 hq).2
  have hmem := List.mem_of_getElem? hq
  refine ⟨h.w, h.len, h.nd, h.all, fun r hr => ?_, h.gon, fun x hx => ?_, ?_, fun x hx => ?_, h.gens, h.lows, h.ret, h.c1, h.c2, by rw [List.length_set]; exact h.c3⟩
  · obtain ⟨j, x, h1, h2, h3⟩ := h.obj r hr
    by_cases e : j = q
    · subst e
      rw [hq] at h1
      obtain rfl := Option.some.inj h1
      exact ⟨j, (_, b, _), by rw [List.getElem?_set_self hql], h2, h3⟩
    · exact ⟨j, x, by rw [List.getElem?_set_ne (fun e2 => e e2.symm)]; exact h1, h2, h3⟩
  · rcases List.mem_or_eq_of_mem_set hx with hx | rfl
    · exact h.keys x hx
    · exact h.keys m hmem
  · have hkey : (ms.set q (m.1, b, m.2.2)).map (fun x => x.1) = ms.map (fun x => x.1) := by
      rw [List.map_set]
      have : m.1 = (ms.map (fun x => x.1))[q]'(by simpa using hql) := by rw [List.getElem_map, hql2]
      rw [this, List.set_getElem_self]
    have := (List.pairwise_map (f := fun x : Me => x.1) (R := fun a b => a ≠ b)).2 h.ks
    rw [← hkey] at this
    exact List.pairwise_map.1 this
  · rcases List.mem_or_eq_of_mem_set hx with hx | rfl
    · exact h.fd4 x hx
    · exact h.fd4 m hmem
end
theorem ky_set {ms : List Me} {q : Nat} {m m' : Me} (hq : ms[q]? = some m) (h1 : m'.1 = m.1) : kyM (ms.set q m') = kyM ms := by
  have hql := (List.getElem?_eq_some_iff.1 hq).1
  have hql2 := (List.getElem?_eq_some_iff.1 hq).2
  unfold kyM
  rw [List.map_set]
  have : m'.1 = (ms.map (fun x => x.1))[q]'(by simpa using hql) := by rw [List.getElem_map, hql2, h1]
  rw [this, List.set_getElem_self]

section
variable {n mu k : Nat} {T : Ar} {ms : List Me}
theorem Wo.more (h : Wo n mu k T ms) : Wo n mu (k + 1) T ms := ⟨h.mo.more, h.mu, h.r32, h.rin, h.g8, h.gin, h.fin⟩
theorem Wo.new {n mu : Nat} (hn : 0 < n ∧ n ≤ 256) : Wo n mu 0 (List.replicate n (0, 1, zOb), List.replicate mu [], zero8) [] :=
  ⟨Mo.new hn (by omega), List.length_replicate, fun l hl => by rw [(List.mem_replicate.1 hl).2]; simp, fun l hl r hr => by rw [(List.mem_replicate.1 hl).2] at hr; (cases hr), by simp [zero8],
    fun r hr => .inl (List.mem_replicate.1 hr).2, fun m hm => (nomatch hm)⟩
theorem Wo.le (h : Wo n mu k T ms) : ms.length ≤ k := h.mo.c3
theorem Wo.key (h : Wo n mu k T ms) {r : Rf} (hr : r ∈ kyM ms) : ∃ (i : Nat), r.1 = i ∧ i < n ∧ 1 ≤ r.2 ∧ r.2 ≤ 4294967295 := by
  obtain ⟨i, h1, h2, _, _, h5, h6⟩ := h.mo.rg hr
  exact ⟨i, h1, h2, h5, h6⟩
theorem Wo.nz (h : Wo n mu k T ms) {r : Rf} (hr : r ∈ kyM ms) : refB r.1 r.2 0 0 = false := by
  obtain ⟨i, _, _, h5, _⟩ := h.key hr
  refine refB_no (x := r) (y := (0, 0)) (fun e => ?_)
  rw [e] at h5
  simp only at h5
  omega
theorem Wo.ent (h : Wo n mu k T ms) {r : Rf} (hr : r ∈ kyM ms) : ∃ (j b : Nat) (l : List Rf), ms[j]? = some (r, b, l) ∧ ObIs T.1 r l ∧ l.length ≤ 4 := by
  obtain ⟨j, m, h1, h2, h3⟩ := h.mo.obj r hr
  obtain ⟨r', b, l⟩ := m
  simp only at h2 h3
  subst h2
  exact ⟨j, b, l, h1, h3, (h.mo.fd4 _ (List.mem_of_getElem? h1)).1⟩
theorem Wo.cnt (h : Wo n mu k T ms) (hk : k ≤ 400) : (alH (HL T.1)).length = ms.length ∧ lfH (HL T.1) + (ms.length : Int) = n := by
  have h1 := h.mo.cnt
  have h2 := h.mo.room (by omega)
  simp only [List.length_map] at h1
  rw [h1] at h2
  exact ⟨h1, h2⟩
theorem Wo.len (h : Wo n mu k T ms) : T.1.length = n := h.mo.len
theorem Wo.inM (h : Wo n mu k T ms) {m : Nat} (hm : m < mu) : inM T m = true := by
  have := h.mu
  simp only [Go.Proofs.YtjlihigodggfcaaGreat.inM, Bool.and_eq_true, decide_eq_true_eq]
  omega
theorem Wo.rtl (h : Wo n mu k T ms) {m : Nat} (hm : m < mu) : rtL T m ∈ T.2.1 := by
  have := h.mu
  unfold rtL
  rw [Int.toNat_natCast, List.getD_eq_getElem?_getD, List.getElem?_eq_getElem (by omega)]
  exact List.getElem_mem _
/-- A root. -/
theorem Wo.rt (h : Wo n mu k T ms) {m : Nat} (hm : m < mu) {i : Nat} (hi : i < (rtL T m).length) :
    rtE T m i = 0 ∧ rtR T m i = (rtL T m).getD i (0, 0) ∧ (rtL T m).getD i (0, 0) ∈ kyM ms := by
  have h1 := h.inM hm
  have e : rtE T m i = 0 := by unfold rtE; rw [h1, if_pos rfl, if_pos (by omega)]
  refine ⟨e, by unfold rtR; rw [e, if_pos rfl, Int.toNat_natCast], h.rin _ (h.rtl hm) _ ?_⟩
  rw [List.getD_eq_getElem?_getD, List.getElem?_eq_getElem hi]
  exact List.getElem_mem _
theorem Wo.rtNo (h : Wo n mu k T ms) {m : Nat} (hm : m < mu) {i : Int} (hi : ¬ (0 ≤ i ∧ i < (rtL T m).length)) : rtE T m i = 3 ∧ rtR T m i = (0, 0) := by
  have h1 := h.inM hm
  have e : rtE T m i = 3 := by unfold rtE; rw [h1, if_pos rfl, if_neg hi]
  exact ⟨e, by unfold rtR; rw [e]; rfl⟩
theorem Wo.va (h : Wo n mu k T ms) {m : Nat} (hm : m < mu) {i : Nat} (hi : i < (rtL T m).length) :
    vaE T m i = 0 ∧ vaR T m i = (rtL T m).getD i (0, 0) := by
  obtain ⟨h1, h2, _⟩ := h.rt hm hi
  refine ⟨?_, ?_⟩
  · unfold vaE; rw [h1]; split <;> rfl
  · unfold vaR; rw [if_neg (by omega), h2]
theorem Wo.va1 (h : Wo n mu k T ms) {m : Nat} (hm : m < mu) : vaE T m (-1) = 0 ∧ vaR T m (-1) = (0, 0) := by
  have h1 := h.inM hm
  refine ⟨?_, ?_⟩
  · unfold vaE; rw [h1]; rfl
  · rfl
/-- A root more. -/
theorem Wo.give (h : Wo n mu k T ms) {m : Nat} (hm : m < mu) (hlt : (rtL T m).length < 32) {r : Rf} (hr : r ∈ kyM ms) : Wo n mu (k + 1) (giT T m r) ms := by
  refine ⟨h.mo.more, by show (T.2.1.set _ _).length = _; rw [List.length_set]; exact h.mu, fun l hl => ?_, fun l hl x hx => ?_, h.g8, h.gin, h.fin⟩
  · rcases List.mem_or_eq_of_mem_set hl with hl | rfl
    · exact h.r32 l hl
    · simp; omega
  · rcases List.mem_or_eq_of_mem_set hl with hl | rfl
    · exact h.rin l hl x hx
    · rcases List.mem_append.1 hx with hx | hx
      · exact h.rin _ (h.rtl hm) x hx
      · rw [List.mem_singleton] at hx; subst hx; exact hr
/-- An object is made, and is the last root. -/
theorem Wo.make (h : Wo n mu k T ms) (hk : k ≤ 400) {m : Nat} (hm : m < mu) {c : Nat} (hc : c ≤ 4) (hlt : (rtL T m).length < 32) (hn : ms.length < n) :
    ∃ L' r, mkAT T m c false = (L', T.2.1.set m (rtL T m ++ [r]), T.2.2) ∧ mkAR T m c false = r ∧ mkAE T m c false = 0 ∧ 0 ≤ r.2 ∧ r.2 ≤ 4294967295 ∧ (∀ m ∈ ms, m.1 ≠ r) ∧ refB r.1 r.2 0 0 = false ∧
      ∀ b, Wo n mu (k + 1) (L', T.2.1.set m (rtL T m ++ [r]), T.2.2) (ms ++ [(r, b, List.replicate c (0, 0))]) := by
  have h1 := h.inM hm
  obtain ⟨c1, c2⟩ := h.cnt hk
  have hw : nwB (c : Nat) false = true := by simp [nwB]; omega
  have hE : nwOE (c : Nat) false = 0 := by unfold nwOE; rw [hw]; rfl
  cases ht : tkI (some (tbH T.1)) with
  | none =>
    obtain ⟨_, _, _, h5⟩ := h.mo.full ht c false hw
    omega
  | some i =>
    obtain ⟨L', g, e1, e2, e3, g0, g1, hfr, hMo⟩ := h.mo.make ht c false hc hw
    have eE : mkAE T m c false = 0 := by unfold mkAE; rw [h1, if_pos rfl, hE, if_neg (by decide), if_neg (by omega)]; exact e3
    have hW : ∀ b, Wo n mu (k + 1) (L', T.2.1.set m (rtL T m ++ [((i : Int), g)]), T.2.2) (ms ++ [(((i : Int), g), b, List.replicate c (0, 0))]) := fun b => by
      have hky : kyM (ms ++ [(((i : Int), g), b, List.replicate c (0, 0))]) = kyM ms ++ [((i : Int), g)] := by simp [kyM]
      have up : ∀ x, x ∈ kyM ms → x ∈ kyM (ms ++ [(((i : Int), g), b, List.replicate c (0, 0))]) := fun x hx => by rw [hky]; exact List.mem_append_left _ hx
      have hMo' := hMo b
      refine ⟨by rw [hky]; exact hMo', by show (T.2.1.set _ _).length = _; rw [List.length_set]; exact h.mu, fun l hl => ?_, fun l hl x hx => ?_, h.g8, fun x hx => (h.gin x hx).imp id (up x), fun x hx y hy => ?_⟩
      · rcases List.mem_or_eq_of_mem_set hl with hl | rfl
        · exact h.r32 l hl
        · simp; omega
      · rcases List.mem_or_eq_of_mem_set hl with hl | rfl
        · exact up x (h.rin l hl x hx)
        · rcases List.mem_append.1 hx with hx | hx
          · exact up x (h.rin _ (h.rtl hm) x hx)
          · rw [hky]; exact List.mem_append_right _ hx
      · rcases List.mem_append.1 hx with hx | hx
        · exact (h.fin x hx y hy).imp id (up y)
        · rw [List.mem_singleton] at hx
          subst hx
          exact .inl (List.mem_replicate.1 hy).2
    refine ⟨L', ((i : Int), g), ?_, by unfold mkAR; rw [eE, if_pos rfl]; exact e2, eE, g0, g1, hfr, (hW 0).nz (by simp [kyM]), hW⟩
    unfold mkAT mkAr
    rw [eE, if_pos rfl, Int.toNat_natCast]
    show (hpL (mkT (HL T.1) c false), T.2.1.set m (rtL T m ++ [mkR (HL T.1) c false]), T.2.2) = _
    rw [e1, e2]
    rfl
theorem Wo.makeF (h : Wo n mu k T ms) (hk : k ≤ 400) {m : Nat} (hm : m < mu) {c : Nat} (hc : c ≤ 4) (hf : (rtL T m).length = 32 ∨ ms.length = n) :
    mkAT T m c false = T ∧ mkAR T m c false = (0, 0) ∧ mkAE T m c false = 4 := by
  have h1 := h.inM hm
  obtain ⟨c1, c2⟩ := h.cnt hk
  have hw : nwB (c : Nat) false = true := by simp [nwB]; omega
  have hE : nwOE (c : Nat) false = 0 := by unfold nwOE; rw [hw]; rfl
  have eE : mkAE T m c false = 4 := by
    unfold mkAE
    rw [h1, if_pos rfl, hE, if_neg (by decide)]
    by_cases h32 : 32 ≤ (rtL T m).length
    · rw [if_pos h32]
    · rw [if_neg h32]
      have hl : ms.length = n := by rcases hf with e | e; exact absurd e (by omega); exact e
      cases ht : tkI (some (tbH T.1)) with
      | none =>
        obtain ⟨_, _, e3, _⟩ := h.mo.full ht c false hw
        exact e3
      | some i =>
        exfalso
        obtain ⟨L', g, _, _, _, _, _, _, hMo⟩ := h.mo.make ht c false hc hw
        have r1 := (hMo 0).room (by omega)
        have r2 := (hMo 0).cnt
        have r3 : (0 : Int) ≤ lfH (HL L') := Int.natCast_nonneg _
        simp only [List.length_append, List.length_map, List.length_cons, List.length_nil] at r2
        omega
  exact ⟨by unfold mkAT; rw [eE]; rfl, by unfold mkAR; rw [eE]; rfl, eE⟩
theorem Wo.g (h : Wo n mu k T ms) {g : Nat} (hg : g < 8) : T.2.2.getD g (0, 0) = (0, 0) ∨ T.2.2.getD g (0, 0) ∈ kyM ms := by
  have := h.g8
  refine h.gin _ ?_
  rw [List.getD_eq_getElem?_getD, List.getElem?_eq_getElem (by omega)]
  exact List.getElem_mem _
theorem gtR_at {G : List Rf} {g : Nat} (hg : g < 8) : vE (some (true, G)) g = 0 ∧ gtR (some (true, G)) g = G.getD g (0, 0) := by
  have e : vE (some (true, G)) g = 0 := by
    have : inV g = true := by simp only [inV, Bool.and_eq_true, decide_eq_true_eq]; omega
    show (if true then (if inV g then 0 else 3) else 1) = 0
    rw [this]; rfl
  exact ⟨e, by unfold gtR; rw [e, if_pos rfl, Int.toNat_natCast]; rfl⟩
theorem gtX_at {g : Nat} (hg : g < 8) : gtX T g = if refB (T.2.2.getD g (0, 0)).1 (T.2.2.getD g (0, 0)).2 0 0 then 5 else 0 := by
  obtain ⟨h1, h2⟩ := gtR_at (G := T.2.2) hg
  unfold gtX ldxE
  rw [h1, h2, if_pos rfl]
/-- A variable. -/
theorem Wo.get (h : Wo n mu k T ms) {m g : Nat} (hm : m < mu) (hg : g < 8) {r : Rf} (hr : T.2.2.getD g (0, 0) = r) :
    (refB r.1 r.2 0 0 = true → gtAT T m g = T ∧ gtAR T m g = (0, 0) ∧ gtAE T m g = 5) ∧
    (refB r.1 r.2 0 0 = false → r ∈ kyM ms ∧ ((rtL T m).length = 32 → gtAT T m g = T ∧ gtAR T m g = (0, 0) ∧ gtAE T m g = 4) ∧
      ((rtL T m).length < 32 → gtAT T m g = giT T m r ∧ gtAR T m g = r ∧ gtAE T m g = 0)) := by
  have h1 := h.inM hm
  have hx := gtX_at (T := T) hg
  obtain ⟨_, h2⟩ := gtR_at (G := T.2.2) hg
  have hin := h.g hg
  rw [hr] at hx h2 hin
  refine ⟨fun hb => ?_, fun hb => ⟨?_, fun hl => ?_, fun hl => ?_⟩⟩
  · rw [hb, if_pos rfl] at hx
    have e : gtAE T m g = 5 := by unfold gtAE; rw [h1, if_pos rfl, hx]; rfl
    exact ⟨by unfold gtAT; rw [e]; rfl, by unfold gtAR; rw [e]; rfl, e⟩
  · rcases hin with e | e
    · rw [e] at hb; cases hb
    · exact e
  · rw [hb, if_neg (by decide)] at hx
    have e : gtAE T m g = 4 := by unfold gtAE; rw [h1, if_pos rfl, hx, if_neg (by decide), if_pos (by omega)]
    exact ⟨by unfold gtAT; rw [e]; rfl, by unfold gtAR; rw [e]; rfl, e⟩
  · rw [hb, if_neg (by decide)] at hx
    have e : gtAE T m g = 0 := by unfold gtAE; rw [h1, if_pos rfl, hx, if_neg (by decide), if_neg (by omega)]
    exact ⟨by unfold gtAT; rw [e, if_pos rfl, h2], by unfold gtAR; rw [e, if_pos rfl, h2], e⟩
/-- A root is put into a variable, or none. -/
theorem Wo.putG (h : Wo n mu k T ms) {m g : Nat} (hm : m < mu) (hg : g < 8) {i : Int} {r : Rf} (hi : (i = -1 ∧ r = (0, 0)) ∨ ∃ q : Nat, i = q ∧ q < (rtL T m).length ∧ (rtL T m).getD q (0, 0) = r) :
    ptAT T m i g = (T.1, T.2.1, T.2.2.set g r) ∧ ptAW T m i g = T.2.2.getD g (0, 0) ∧ ptAV T m i g = r ∧ ptAE T m i g = 0 ∧ Wo n mu (k + 1) (T.1, T.2.1, T.2.2.set g r) ms ∧ (0 ≤ r.2 ∧ r.2 ≤ 4294967295) := by
  have hv : vaE T m i = 0 ∧ vaR T m i = r ∧ (r = (0, 0) ∨ r ∈ kyM ms) := by
    rcases hi with ⟨rfl, rfl⟩ | ⟨q, rfl, hq, rfl⟩
    · exact ⟨(h.va1 hm).1, (h.va1 hm).2, .inl rfl⟩
    · exact ⟨(h.va hm hq).1, (h.va hm hq).2, .inr (h.rt hm hq).2.2⟩
  obtain ⟨v1, v2, v3⟩ := hv
  have hin : inV g = true := by simp only [inV, Bool.and_eq_true, decide_eq_true_eq]; omega
  have e : ptAE T m i g = 0 := by unfold ptAE; rw [v1, if_neg (by decide), hin]; rfl
  refine ⟨by unfold ptAT ptA; rw [e, if_pos rfl, v2, Int.toNat_natCast], by unfold ptAW; rw [e, if_pos rfl, Int.toNat_natCast], by unfold ptAV; rw [e, if_pos rfl, v2], e, ?_, ?_⟩
  · refine ⟨h.mo.more, h.mu, h.r32, h.rin, by show (T.2.2.set _ _).length = 8; rw [List.length_set]; exact h.g8, fun x hx => ?_, h.fin⟩
    rcases List.mem_or_eq_of_mem_set hx with hx | rfl
    · exact h.gin x hx
    · exact v3
  · rcases v3 with rfl | e
    · simp
    · obtain ⟨_, _, _, h3, h4⟩ := h.key e
      omega
theorem ObIs.ld {L : List Hs} {r : Rf} {l : List Rf} (ho : ObIs L r l) (i : Nat) :
    (l.length ≤ i → ldE (HL L) r.1 r.2 i = 3 ∧ ldR (HL L) r.1 r.2 i = (0, 0)) ∧ (i < l.length → ldE (HL L) r.1 r.2 i = 0 ∧ ldR (HL L) r.1 r.2 i = l.getD i (0, 0)) := by
  have hc := ho.ck
  refine ⟨fun hi => ?_, fun hi => ?_⟩
  · have hf : inF (obAt (HL L) r.1) i = false := by
      unfold inF
      rw [ho.n]
      have : decide ((i : Int) < (l.length : Int)) = false := decide_eq_false (by omega)
      rw [this, Bool.and_false]
    exact ⟨by unfold ldE gtOE; rw [if_pos hc, hf]; rfl, by unfold ldR gtO; rw [if_pos hc, hf]; rfl⟩
  · have hf : inF (obAt (HL L) r.1) i = true := by
      unfold inF
      rw [ho.n]
      simp only [Bool.and_eq_true, decide_eq_true_eq]
      omega
    exact ⟨by unfold ldE gtOE; rw [if_pos hc, hf]; rfl, by unfold ldR gtO; rw [if_pos hc, hf, if_pos rfl, Int.toNat_natCast]; exact ho.fd i hi⟩
/-- A field is loaded. -/
theorem Wo.load (h : Wo n mu k T ms) {m : Nat} (hm : m < mu) {i : Nat} (hi : i < (rtL T m).length) {r : Rf} (hr : (rtL T m).getD i (0, 0) = r) {l : List Rf} (ho : ObIs T.1 r l) (f : Nat) :
    (l.length ≤ f → ldAT T m i f = T ∧ ldAR T m i f = (0, 0) ∧ ldAE T m i f = 3) ∧
    (f < l.length → (refB (l.getD f (0, 0)).1 (l.getD f (0, 0)).2 0 0 = true → ldAT T m i f = T ∧ ldAR T m i f = (0, 0) ∧ ldAE T m i f = 5) ∧
      (refB (l.getD f (0, 0)).1 (l.getD f (0, 0)).2 0 0 = false → ((rtL T m).length = 32 → ldAT T m i f = T ∧ ldAR T m i f = (0, 0) ∧ ldAE T m i f = 4) ∧
        ((rtL T m).length < 32 → ldAT T m i f = giT T m (l.getD f (0, 0)) ∧ ldAR T m i f = l.getD f (0, 0) ∧ ldAE T m i f = 0))) := by
  have h1 := h.inM hm
  obtain ⟨r1, r2, _⟩ := h.rt hm hi
  rw [hr] at r2
  obtain ⟨o1, o2⟩ := ho.ld f
  have hV : ldV T m i f = ldR (HL T.1) r.1 r.2 f := by unfold ldV; rw [r1, if_pos rfl, r2]
  have hX : ldX T m i f = ldxE (ldE (HL T.1) r.1 r.2 f) (ldR (HL T.1) r.1 r.2 f) := by unfold ldX; rw [r1, if_pos rfl, r2, hV]
  refine ⟨fun hl => ?_, fun hl => ⟨fun hb => ?_, fun hb => ⟨fun hl2 => ?_, fun hl2 => ?_⟩⟩⟩
  · rw [(o1 hl).1] at hX
    have e : ldAE T m i f = 3 := by unfold ldAE; rw [h1, if_pos rfl, hX]; rfl
    exact ⟨by unfold ldAT; rw [e]; rfl, by unfold ldAR; rw [e]; rfl, e⟩
  · unfold ldxE at hX
    rw [(o2 hl).1, (o2 hl).2, if_pos rfl, hb, if_pos rfl] at hX
    have e : ldAE T m i f = 5 := by unfold ldAE; rw [h1, if_pos rfl, hX]; rfl
    exact ⟨by unfold ldAT; rw [e]; rfl, by unfold ldAR; rw [e]; rfl, e⟩
  · unfold ldxE at hX
    rw [(o2 hl).1, (o2 hl).2, if_pos rfl, hb, if_neg (by decide)] at hX
    have e : ldAE T m i f = 4 := by unfold ldAE; rw [h1, if_pos rfl, hX, if_neg (by decide), if_pos (by omega)]
    exact ⟨by unfold ldAT; rw [e]; rfl, by unfold ldAR; rw [e]; rfl, e⟩
  · unfold ldxE at hX
    rw [(o2 hl).1, (o2 hl).2, if_pos rfl, hb, if_neg (by decide)] at hX
    rw [(o2 hl).2] at hV
    have e : ldAE T m i f = 0 := by unfold ldAE; rw [h1, if_pos rfl, hX, if_neg (by decide), if_neg (by omega)]
    exact ⟨by unfold ldAT; rw [e, if_pos rfl, hV], by unfold ldAR; rw [e, if_pos rfl, hV], e⟩
theorem Wo.fd (h : Wo n mu k T ms) {j : Nat} {r : Rf} {b : Nat} {l : List Rf} (hj : ms[j]? = some (r, b, l)) {f : Nat} (hf : f < l.length) : l.getD f (0, 0) = (0, 0) ∨ l.getD f (0, 0) ∈ kyM ms := by
  refine h.fin _ (List.mem_of_getElem? hj) _ ?_
  rw [List.getD_eq_getElem?_getD, List.getElem?_eq_getElem hf]
  exact List.getElem_mem _
/-- A field is set, or there is none. -/
theorem Wo.store (h : Wo n mu k T ms) {m : Nat} (hm : m < mu) {i : Nat} (hi : i < (rtL T m).length) {r : Rf} (hr : (rtL T m).getD i (0, 0) = r) {j b : Nat} {l : List Rf} (hj : ms[j]? = some (r, b, l)) (ho : ObIs T.1 r l) (f : Nat)
    {c : Int} {v : Rf} (hc : (c = -1 ∧ v = (0, 0)) ∨ ∃ q : Nat, c = q ∧ q < (rtL T m).length ∧ (rtL T m).getD q (0, 0) = v) :
    (l.length ≤ f → stAT T m i f c = T ∧ stAW T m i f c = (0, 0) ∧ stAV T m i f c = (0, 0) ∧ stAE T m i f c = 3) ∧
    (f < l.length → ∃ L', stAT T m i f c = (L', T.2.1, T.2.2) ∧ stAW T m i f c = l.getD f (0, 0) ∧ stAV T m i f c = v ∧ stAE T m i f c = 0 ∧ (0 ≤ v.2 ∧ v.2 ≤ 4294967295) ∧
      ∀ b', Wo n mu (k + 1) (L', T.2.1, T.2.2) (ms.set j (r, b', l.set f v))) := by
  have hv : vaE T m c = 0 ∧ vaR T m c = v ∧ (v = (0, 0) ∨ v ∈ kyM ms) := by
    rcases hc with ⟨rfl, rfl⟩ | ⟨q, rfl, hq, rfl⟩
    · exact ⟨(h.va1 hm).1, (h.va1 hm).2, .inl rfl⟩
    · exact ⟨(h.va hm hq).1, (h.va hm hq).2, .inr (h.rt hm hq).2.2⟩
  obtain ⟨v1, v2, v3⟩ := hv
  obtain ⟨r1, r2, r3⟩ := h.rt hm hi
  rw [hr] at r2 r3
  have hE : stAE T m i f c = stE (HL T.1) r.1 r.2 f v := by unfold stAE; rw [r1, if_neg (by decide), v1, if_neg (by decide), r2, v2]
  refine ⟨fun hl => ?_, fun hl => ?_⟩
  · obtain ⟨_, _, s3⟩ := h.mo.out ho f hl v
    rw [s3] at hE
    exact ⟨by unfold stAT; rw [hE]; rfl, by unfold stAW; rw [hE]; rfl, by unfold stAV; rw [hE]; rfl, hE⟩
  · obtain ⟨L', s1, s2, s3, s4⟩ := h.mo.put hj r3 ho f hl v v3
    simp only at s1 s2 s3 s4
    rw [s3] at hE
    refine ⟨L', ?_, by unfold stAW; rw [hE, if_pos rfl, r2, v2]; exact s2, by unfold stAV; rw [hE, if_pos rfl, v2], hE, ?_, fun b' => ?_⟩
    · unfold stAT stA
      rw [hE, if_pos rfl, r2, v2]
      show (hpL (stT (HL T.1) r.1 r.2 f v), T.2.1, T.2.2) = _
      rw [s1]; rfl
    · rcases v3 with rfl | e
      · simp
      · obtain ⟨_, _, _, h3, h4⟩ := h.key e
        omega
    · have hky : kyM (ms.set j (r, b', l.set f v)) = kyM ms := ky_set hj rfl
      have hjl := (List.getElem?_eq_some_iff.1 hj).1
      have s5 := s4.reb (q := j) (m := (r, b, l.set f v)) (by rw [List.getElem?_set_self hjl]) b'
      simp only [List.set_set] at s5
      refine ⟨by rw [hky]; exact s5, h.mu, h.r32, by rw [hky]; exact h.rin, h.g8, by rw [hky]; exact h.gin, ?_⟩
      rw [hky]
      intro x hx y hy
      rcases List.mem_or_eq_of_mem_set hx with hx | rfl
      · exact h.fin x hx y hy
      · rcases List.mem_or_eq_of_mem_set hy with hy | rfl
        · exact h.fin _ (List.mem_of_getElem? hj) y hy
        · exact v3
/-- A root is dropped. -/
theorem Wo.drop (h : Wo n mu k T ms) {m : Nat} (hm : m < mu) {i : Nat} (hi : i < (rtL T m).length) :
    drT T m i = (T.1, T.2.1.set m ((rtL T m).take i ++ (rtL T m).drop (i + 1)), T.2.2) ∧ Wo n mu (k + 1) (T.1, T.2.1.set m ((rtL T m).take i ++ (rtL T m).drop (i + 1)), T.2.2) ms := by
  obtain ⟨r1, r2, r3⟩ := h.rt hm hi
  refine ⟨by unfold drT; rw [r1, if_pos rfl, Int.toNat_natCast, Int.toNat_natCast], h.mo.more, by show (T.2.1.set _ _).length = _; rw [List.length_set]; exact h.mu, fun l hl => ?_, fun l hl x hx => ?_, h.g8, h.gin, h.fin⟩
  · rcases List.mem_or_eq_of_mem_set hl with hl | rfl
    · exact h.r32 l hl
    · have := h.r32 _ (h.rtl hm)
      simp; omega
  · rcases List.mem_or_eq_of_mem_set hl with hl | rfl
    · exact h.rin l hl x hx
    · rcases List.mem_append.1 hx with hx | hx
      · exact h.rin _ (h.rtl hm) x (List.mem_of_mem_take hx)
      · exact h.rin _ (h.rtl hm) x (List.mem_of_mem_drop hx)
end
end Go.Proofs.YtjlihigodggfcaaGreat
