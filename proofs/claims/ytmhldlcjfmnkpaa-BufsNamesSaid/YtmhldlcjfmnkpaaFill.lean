/-
  Pools of buffers behind turns (the plain law).
-/
import Derived.Test.YtmhldlcjfmnkpaaBufsG
import Derived.Test.YtmhldlcjfmnkpaaLowest
set_option linter.unusedSimpArgs false
set_option linter.unusedVariables false
namespace Go.Proofs.Ytmhldlcjfmnkpaa
open Go Go.RowKit Go.Mm
variable {M f : Int} {L L0 : List Bf} {N k : Nat}

def piL (M : Int) (L : List Bf) (n : Int) : List Bf := match piI M L n with
  | some i => piN L i n
  | none => L
theorem piT_L (n : Int) : piT (some (some (M, L))) n = some (some (M, piL M L n)) := by
  simp only [piT, piL]; cases piI M L n <;> rfl
def upL (L : List Bf) (k i g : Int) : List Bf := if fdE (some (some (1, L))) k i g = 0 then upN L i.toNat g else L
theorem fdE_M (k i g : Int) : fdE (some (some (M, L))) k i g = fdE (some (some (1, L))) k i g := rfl
theorem upT_L (k i g : Int) : upT (some (some (M, L))) k i g = some (some (M, upL L k i g)) := by
  by_cases h : fdE (some (some (1, L))) k i g = 0
  · have h' : fdE (some (some (M, L))) k i g = 0 := h
    simp only [upT, upL, if_pos h, if_pos h']
  · have h' : ¬ fdE (some (some (M, L))) k i g = 0 := h
    simp only [upT, upL, if_neg h, if_neg h']
def allL (L : List Bf) : List Ot := (tkP L).map outOf
theorem allP_L : allP (some (some (M, L))) = allL L := rfl

def tnL (M : Int) (L : List Bf) (pin : Bool) (n : Nat) : List Bf :=
  if pin then piL M L ((n % 300 : Nat) : Int) else
    if (allL L).length = 0 then L else upL L ((allL L).getD (n % (allL L).length) (0, 0, 0)).1 ((allL L).getD (n % (allL L).length) (0, 0, 0)).2.1 ((allL L).getD (n % (allL L).length) (0, 0, 0)).2.2
def flL (M : Int) (L0 : List Bf) (pn : Nat → Bool) (nn : Nat → Nat) : Nat → List Bf
  | 0 => L0
  | k + 1 => tnL M (flL M L0 pn nn k) (pn k) (nn k)

/-- Pools without retired ids. -/
structure FlI (M f : Int) (N k : Nat) (L : List Bf) : Prop where
  w : PlW M L
  len : L.length = N
  us : usL L ≤ M
  lo : ∀ x ∈ L, x.2.1 ≤ f + k
  st : ∀ x ∈ L, x.1 ≠ 2

theorem usL_set : ∀ {L : List Bf} {i : Nat} (_ : i < L.length) (x : Bf), usL (L.set i x) = usL L - (L.getD i (0, 0, 0)).2.2 + x.2.2
  | [], i, h, x => absurd h (by simp)
  | y :: L, 0, h, x => by simp [usL]; omega
  | y :: L, i + 1, h, x => by
    have := usL_set (L := L) (i := i) (by simpa using h) x
    simp only [usL, List.set_cons_succ, List.map_cons, List.sum_cons, List.getD_cons_succ] at this ⊢
    omega
theorem getDm {L : List Bf} {i : Nat} (hi : i < L.length) : L.getD i (0, 0, 0) ∈ L := by
  rw [List.getD_eq_getElem?_getD, List.getElem?_eq_getElem hi]; exact List.getElem_mem hi
theorem piI_some {n : Int} {i : Nat} (h : piI M L n = some i) : (1 ≤ n ∧ n ≤ 65536 ∧ usL L + n ≤ M) ∧ tkI (some (tbB L)) = some i ∧ i < L.length ∧ (L.getD i (0, 0, 0)).1 = 0 := by
  unfold piI at h
  split at h
  · next hc =>
    simp only [Bool.and_eq_true, decide_eq_true_eq] at hc
    obtain ⟨_, _, _, _, hi, h0, _⟩ := tk_some h
    rw [tbB_len] at hi
    rw [tbB_get] at h0
    exact ⟨⟨hc.1.1, hc.1.2, hc.2⟩, h, hi, h0⟩
  · cases h
theorem piN_us (hW : PlW M L) {n : Int} {i : Nat} (hi : i < L.length) (h0 : (L.getD i (0, 0, 0)).1 = 0) : usL (piN L i n) = usL L + n := by
  have hb := (hW.by_ _ (getDm hi)).2 (by rw [h0]; decide)
  unfold piN
  rw [usL_set hi, hb]
  simp only
  omega
theorem FlI.pin (h : FlI M f N k L) (n : Int) : FlI M f N k (piL M L n) := by
  unfold piL
  cases hI : piI M L n with
  | none => exact h
  | some i =>
    obtain ⟨⟨n1, n2, n3⟩, _, hi, h0⟩ := piI_some hI
    refine ⟨piN_w h.w hi ⟨n1, n2⟩, by simp only [piN, List.length_set]; exact h.len, by simp only [piN_us h.w hi h0]; exact n3, fun x hx => ?_, fun x hx => ?_⟩
    · rcases List.mem_or_eq_of_mem_set hx with hx | rfl
      · exact h.lo x hx
      · have := h.lo _ (getDm hi); simpa using this
    · rcases List.mem_or_eq_of_mem_set hx with hx | rfl
      · exact h.st x hx
      · simp
theorem FlI.succ (h : FlI M f N k L) : FlI M f N (k + 1) L := ⟨h.w, h.len, h.us, fun x hx => by have := h.lo x hx; omega, h.st⟩
theorem FlI.up (h : FlI M f N k L) (hk : f + k < 4294967295) (kd i g : Int) : FlI M f N (k + 1) (upL L kd i g) := by
  unfold upL
  split
  · next h0 =>
    obtain ⟨j, rfl, rfl, hj, hck, hx⟩ := fdE_zero h0
    obtain ⟨hW2, _⟩ := up_w h.w hj hck
    have hg : g ≤ f + k := by have := h.lo _ (getDm hj); rw [hx] at this; exact this
    have hb := (h.w.by_ _ (getDm hj)).1 (by rw [hx])
    rw [Int.toNat_natCast]
    refine ⟨hW2, by simp only [upN, List.length_set]; exact h.len, ?_, fun x hx' => ?_, fun x hx' => ?_⟩
    · unfold upN
      rw [if_pos (by omega), usL_set hj]
      simp only
      have := h.us
      omega
    · unfold upN at hx'
      rw [if_pos (by omega)] at hx'
      rcases List.mem_or_eq_of_mem_set hx' with hx' | rfl
      · have := h.lo x hx'; omega
      · simp only; omega
    · unfold upN at hx'
      rw [if_pos (by omega)] at hx'
      rcases List.mem_or_eq_of_mem_set hx' with hx' | rfl
      · exact h.st x hx'
      · simp
  · exact h.succ
theorem FlI.tn (h : FlI M f N k L) (hk : f + k < 4294967295) (pin : Bool) (n : Nat) : FlI M f N (k + 1) (tnL M L pin n) := by
  unfold tnL
  split
  · exact (h.pin _).succ
  · split
    · exact h.succ
    · exact h.up hk _ _ _
theorem FlI.fl (h : FlI M f N 0 L0) {pn : Nat → Bool} {nn : Nat → Nat} : ∀ {k : Nat}, f + k < 4294967295 → FlI M f N k (flL M L0 pn nn k)
  | 0, _ => h
  | k + 1, hk => (FlI.fl h (by omega)).tn (by omega) _ _
theorem FlI.start (hN : 0 < N ∧ N ≤ 64) (hM : 1 ≤ M ∧ M ≤ 16777216) (hf : 1 ≤ f ∧ f ≤ 4294967295) : FlI M f N 0 (List.replicate N (0, f, 0)) := by
  refine ⟨⟨by rw [List.length_replicate]; omega, by rw [List.length_replicate]; omega, by rw [tbB_rep]; exact TbW.rep (by omega) (by omega), fun x hx => by rw [(List.mem_replicate.1 hx).2]; simp, hM⟩, List.length_replicate, ?_, ?_, ?_⟩
  · have : usL (List.replicate N (0, f, 0)) = 0 := by
      unfold usL
      rw [List.map_replicate]
      induction N with
      | zero => rfl
      | succ m ih => simp
    omega
  · intro x hx; rw [(List.mem_replicate.1 hx).2]; simp
  · intro x hx; rw [(List.mem_replicate.1 hx).2]; simp

/-! Names of what is pinned -/
theorem allL_len : (allL L).length = (tkP L).length := by simp [allL]
theorem allL_at {j : Nat} (hj : j < (allL L).length) : ∃ i : Nat, i < L.length ∧ (allL L).getD j (0, 0, 0) = (2, (i : Int), (L.getD i (0, 0, 0)).2.1) ∧ (L.getD i (0, 0, 0)).1 = 1 := by
  rw [allL_len] at hj
  obtain ⟨i, hi, e1, e2⟩ := tkAt_is hj
  refine ⟨i, hi, ?_, by rw [e2]⟩
  unfold allL
  rw [List.getD_eq_getElem?_getD, List.getElem?_map, List.getElem?_eq_getElem hj]
  simp only [Option.map_some, Option.getD_some]
  have e3 : (tkP L)[j] = tkAt L j := by unfold tkAt; rw [List.getD_eq_getElem?_getD, List.getElem?_eq_getElem hj]; rfl
  rw [e3, e2]
  simp only [outOf, e1]
theorem fd_all {i : Nat} (hi : i < L.length) (h1 : (L.getD i (0, 0, 0)).1 = 1) (T : Pl) (hT : T = some (some (M, L))) : fdE T 2 i (L.getD i (0, 0, 0)).2.1 = 0 ∧ byR T 2 i (L.getD i (0, 0, 0)).2.1 = (L.getD i (0, 0, 0)).2.2 := by
  subst hT
  have a1 : inTb (tbB L) i = true := by simp [inTb, tbB_len]; exact hi
  have a2 : ckE (some (tbB L)) i (L.getD i (0, 0, 0)).2.1 = 0 := by
    rw [ck_at (by rw [tbB_len]; exact hi), tbB_get, if_pos]
    rw [h1]
  have a3 : fdE (some (some (M, L))) 2 i (L.getD i (0, 0, 0)).2.1 = 0 := by simp only [fdE, if_true, a1, a2]
  refine ⟨a3, ?_⟩
  unfold byR
  rw [if_pos a3, Int.toNat_natCast]
  rfl

/-! Room -/
theorem gl_range {p : Nat → Bool} : ∀ {i : Nat}, (∀ j, j < i → p j = true) → gl p i = List.range i
  | 0, _ => rfl
  | i + 1, h => by rw [gl_yes (h i (by omega)), gl_range (fun j hj => h j (by omega)), List.range_succ]
theorem cnt_tb (h : FlI M f N k L) : ((allL L).length : Int) + ctN 0 (some (tbB L)) = N := by
  have h1 := cnt_sum h.w.tb.st (tbB L).length (Nat.le_refl _)
  have h2 : stCnt 2 (tbB L) (tbB L).length = 0 := by
    unfold stCnt
    have : gl (isSt 2 (tbB L)) (tbB L).length = [] := by
      unfold gl
      rw [List.filter_eq_nil_iff]
      intro j hj
      rw [List.mem_range, tbB_len] at hj
      rw [isSt, tbB_get]
      have := h.st _ (getDm hj)
      simpa using this
    rw [this]; rfl
  have h3 := tkL_len (L := tbB L)
  have h4 := h.len
  rw [allL_len]
  unfold tkP
  simp only [ctN] at h3 ⊢
  rw [tbB_len] at *
  omega
theorem room_no (h : FlI M f N k L) {n : Int} (hn : 1 ≤ n ∧ n ≤ 65536) (hr : ¬ ((allL L).length < N ∧ usL L + n ≤ M)) : piI M L n = none := by
  unfold piI
  split
  · next hc =>
    simp only [Bool.and_eq_true, decide_eq_true_eq] at hc
    cases ht : tkI (some (tbB L)) with
    | none => rfl
    | some i =>
      have h1 := (take_cnt ht).2.1
      have h2 := cnt_tb h
      exact absurd ⟨by omega, hc.2⟩ hr
  · rfl
theorem room_yes (h : FlI M f N k L) {n : Int} (hn : 1 ≤ n ∧ n ≤ 65536) (hr : (allL L).length < N ∧ usL L + n ≤ M) : ∃ i, piI M L n = some i ∧ usL (piN L i n) = usL L + n ∧ (allL (piN L i n)).length = (allL L).length + 1 ∧
    (∀ j, j < i → j < (allL L).length ∧ ((allL L).getD j (0, 0, 0)).2.1 = (j : Nat)) ∧ (i < (allL L).length → ((allL L).getD i (0, 0, 0)).2.1 ≠ (i : Nat)) := by
  have h2 := cnt_tb h
  cases ht : tkI (some (tbB L)) with
  | none =>
    have := free_zero ht
    omega
  | some i =>
    have hI : piI M L n = some i := by
      unfold piI
      rw [if_pos, ht]
      simp only [Bool.and_eq_true, decide_eq_true_eq]
      omega
    obtain ⟨_, _, hi, h0⟩ := piI_some hI
    obtain ⟨_, _, _, e4, hi', _, hlo⟩ := tk_some ht
    have e5 : tbB (piN L i n) = tkN (tbB L) := by rw [e4]; unfold piN; rw [tbB_set, tbB_get]
    have hone : ∀ j, j < i → isSt 1 (tbB L) j = true := fun j hj => by
      have h1 := hlo j hj
      rw [tbB_get] at h1
      have hm := getDm (L := L) (i := j) (by omega)
      have h3 := h.w.tb.st ((L.getD j (0, 0, 0)).1, (L.getD j (0, 0, 0)).2.1) (List.mem_map.2 ⟨_, hm, rfl⟩)
      have h4 := h.st _ hm
      rw [isSt, tbB_get]
      simp only at h1 h3 ⊢
      rcases h3 with h3 | h3 | h3
      · exact absurd h3 h1
      · rw [h3]; rfl
      · exact absurd h3 h4
    have hzero : isSt 1 (tbB L) i = false := by rw [isSt, tbB_get, h0]; rfl
    obtain ⟨B, e1, _, hB⟩ := gl_split (p := isSt 1 (tbB L)) (q := fun j => if j = i then true else isSt 1 (tbB L) j) (n := (tbB L).length) hi' hzero (by simp) (fun j hj => by simp [hj])
    rw [gl_range hone] at e1
    have hall : allL L = (List.range i ++ B).map (fun j => outOf (refOf (tbB L) j)) := by
      unfold allL tkP tkL stL
      simp only
      rw [e1, List.map_map]
      rfl
    refine ⟨i, hI, piN_us h.w hi h0, ?_, fun j hj => ?_, fun hlt hne => ?_⟩
    · have hp := h.pin n
      have hpe : piL M L n = piN L i n := by simp only [piL, hI]
      rw [hpe] at hp
      have h3 := cnt_tb hp
      have h4 := (take_cnt ht).1
      rw [e5] at h3
      omega
    · rw [hall]
      have hlen : j < ((List.range i ++ B).map (fun j => outOf (refOf (tbB L) j))).length := by simp; omega
      refine ⟨hlen, ?_⟩
      rw [List.getD_eq_getElem?_getD, List.getElem?_map, List.getElem?_append_left (by simpa using hj), List.getElem?_range hj]
      rfl
    · rw [hall] at hlt hne
      simp only [List.length_map, List.length_append, List.length_range] at hlt
      have hB0 : 0 < B.length := by omega
      rw [List.getD_eq_getElem?_getD, List.getElem?_map, List.getElem?_append_right (by simp), List.length_range, Nat.sub_self, List.getElem?_eq_getElem hB0] at hne
      have h5 := hB _ (List.getElem_mem hB0)
      simp only [Option.map_some, Option.getD_some, outOf, refOf] at hne
      omega
/-- The loop for the lowest id ends at the one that is pinned next. -/
theorem low_is (h : FlI M f N k L) {n : Int} (hn : 1 ≤ n ∧ n ≤ 65536) (hr : (allL L).length < N ∧ usL L + n ≤ M) {lw : Nat} (h1 : lw ≤ (allL L).length) (h2 : ∀ j, j < lw → ((allL L).getD j (0, 0, 0)).2.1 = (j : Nat))
    (h3 : lw = (allL L).length ∨ ((allL L).getD lw (0, 0, 0)).2.1 ≠ (lw : Nat)) : piI M L n = some lw ∧ usL (piN L lw n) = usL L + n ∧ (allL (piN L lw n)).length = (allL L).length + 1 := by
  obtain ⟨i, e1, e2, e3, e4, e5⟩ := room_yes h hn hr
  have : lw = i := by
    rcases Nat.lt_trichotomy lw i with hlt | heq | hgt
    · obtain ⟨g1, g2⟩ := e4 lw hlt
      rcases h3 with h3 | h3
      · omega
      · exact absurd g2 h3
    · exact heq
    · exact absurd (h2 i hgt) (e5 (by omega))
  subst this
  exact ⟨e1, e2, e3⟩
theorem all_le (h : FlI M f N k L) : (allL L).length ≤ N := by
  have h2 := cnt_tb h
  have h3 := (ctN_bd h.w.tb 0).1
  omega
end Go.Proofs.Ytmhldlcjfmnkpaa
