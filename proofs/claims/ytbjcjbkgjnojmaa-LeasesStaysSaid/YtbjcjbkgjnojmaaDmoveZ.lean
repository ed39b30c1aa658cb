/-
  Moves on a desk of leases: copies of times; how many times a move changes.
-/
import Derived.Test.YtbjcjbkgjnojmaaDmoveY
set_option linter.unusedSimpArgs false
set_option linter.unusedVariables false
namespace Go.Proofs.Ytbjcjbkgjnojmaa
open Go.RowKit Go.Mm
variable {R : Ending → World → Prop} {w : World} {w0 : World} {bs : List Nat} {H H' H1 E : List Ent}

theorem run_nse0 {P : Program} {o : Oper} {a : Act} (t t' : TypeId) (x : Operand) (ho : o.op = .binOp .eql t x (.const (.slice none 0 0)) t') {e : TypeId} [ht : SliceT P t e] [hx : Ev a x (.slice none 0 0)] : OpVal P o a w (.bool true) := by
  have hg : ∀ y, (eqGuard .eql t x y (.slice none 0 0) (.slice none 0 0)).run P w = .ok () w := fun y => by simp [eqGuard]
  have hc : a.eval (.const (.slice none 0 0)) = .slice none 0 0 := rfl
  have hb := Lib.run_eql_slice_nil (P := P) w t e none 0 0 0 0 ht.h
  unfold OpVal
  simp only [execOp, ho, hx.h, hc, Sem.run_bind, hg, hb, Result.andThen_ok, Sem.run_pure]
  rfl
set_option maxHeartbeats 1000000 in
set_option maxRecDepth 100000 in
theorem clone_ok {v : Value} {us : List Int} (hO : St w0 bs w H) (hU : US v us E) [hc : Cut H E H1] (hl : us.length ≤ 500)
    (hR : ∀ v' E' w', US v' us E' → St w0 bs w' (E' ++ (E ++ H1)) → Ret R v' w') : Calls Try.prog 20 #[v] w R := by
  have hS := hO.front (E := E) (H1 := H1)
  clear hO
  rcases hU.or with ⟨rfl, h0, rfl⟩ | ⟨g, cap, sp, rfl, rfl, h1, h2, h3⟩
  · obtain rfl := List.eq_nil_of_length_eq_zero h0
    go_enter Try.func20, Try.ntmps20
    go_wp2_with (first | go_skip | (refine wpList_is (.binOp .eql _ _ (.const (.slice none _ _)) _) rfl ?_; refine wpList_stp rfl (stp_val (run_nse0 _ _ _ rfl) ?_)) | go_skip | (refine wpList_is (.build _ _) rfl ?_; go_must (refine wpList_stp rfl (stp_val (run_bd _ _ rfl) ?_))) | (refine wpList_is (.call { callee := .builtin .clear, args := #[_], argTypes := #[_] }) rfl ?_; go_must (refine wpList_stp rfl (stp_cl _ _ rfl hS (by decide) ?_)); clear hS; intro w hS) | (refine wpList_is (.load _ _) rfl ?_; go_must (first | refine wpList_stp rfl (stp_val (run_ld _ _ rfl hS) ?_) | refine wpList_stp rfl (stp_val (run_lda _ _ rfl hS) ?_) | refine wpList_stp rfl (stp_val (run_ld0 _ _ rfl hS) ?_) | refine wpList_stp rfl (stp_val (run_lda0 _ _ rfl hS) ?_))) | (refine wpList_is (.store _ _ _) rfl ?_; go_must (first | refine wpList_stp rfl (stp_st _ _ _ rfl hS ?_) | refine wpList_stp rfl (stp_sta _ _ _ rfl hS ?_)); clear hS; intro w hS) | (refine wpList_is (.alloc _) rfl ?_; go_must (refine wpList_stp rfl (stp_al _ rfl hS ?_)); clear hS; intro bN w hbN hS) | (refine wpList_is (.box _ _) rfl ?_; go_must (refine wpList_stp rfl (stp_bx _ _ rfl hS ?_)); clear hS; intro bN w hbN hS) | (refine wpList_is (.binOp .eql _ _ (.const (.slice none _ _)) _) rfl ?_; refine wpList_stp rfl (stp_val (run_nse _ _ _ rfl) ?_)) | (refine wpList_is (.binOp .neq _ _ (.const (.slice none _ _)) _) rfl ?_; refine wpList_stp rfl (stp_val (run_nsn _ _ _ rfl) ?_)))
    exact hR _ [] _ US.nil hS.pick
  · have hfl : (us.flatMap j64f).length = us.length * 1 := by rw [flat_len j64f_len]
    have i1 : CellsAt ((us.flatMap j64f ++ sp).toArray) 0 (us.length * 1) (us.flatMap j64f).toArray := ⟨fun j hj => by
      rw [Nat.mul_one] at hj
      rw [Nat.mul_one] at hfl
      simp [List.getElem?_append_left, hfl, hj], by simp [hfl]⟩
    have i2 : OneCells (us.flatMap j64f).toArray := ⟨fun u hu => by
      simp only [List.mem_flatMap] at hu
      obtain ⟨x, _, hx⟩ := hu
      exact j64f_one x u hx⟩
    simp only [List.cons_append, List.nil_append] at hS
    go_enter Try.func20, Try.ntmps20
    go_wp2_with (first | go_skip | (refine wpList_is (.buildSlice _ 0 _) rfl ?_; go_must (refine wpList_stp rfl (stp_bs0 _ rfl hS ?_)); clear hS; intro bz w _ hS) | (refine wpList_is (.call { callee := .builtin .append, args := #[_, _], argTypes := #[_, _] }) rfl ?_; go_must (refine wpList_stp rfl (stp_ap _ _ _ _ rfl rfl hS (by rfl) sl_zero (by rfl) (by simp only [maxLen]; omega) (by omega) ?_)); clear hS; intro v' E' w hsl' hne hS) | go_skip | (refine wpList_is (.build _ _) rfl ?_; go_must (refine wpList_stp rfl (stp_val (run_bd _ _ rfl) ?_))) | (refine wpList_is (.call { callee := .builtin .clear, args := #[_], argTypes := #[_] }) rfl ?_; go_must (refine wpList_stp rfl (stp_cl _ _ rfl hS (by decide) ?_)); clear hS; intro w hS) | (refine wpList_is (.load _ _) rfl ?_; go_must (first | refine wpList_stp rfl (stp_val (run_ld _ _ rfl hS) ?_) | refine wpList_stp rfl (stp_val (run_lda _ _ rfl hS) ?_) | refine wpList_stp rfl (stp_val (run_ld0 _ _ rfl hS) ?_) | refine wpList_stp rfl (stp_val (run_lda0 _ _ rfl hS) ?_))) | (refine wpList_is (.store _ _ _) rfl ?_; go_must (first | refine wpList_stp rfl (stp_st _ _ _ rfl hS ?_) | refine wpList_stp rfl (stp_sta _ _ _ rfl hS ?_)); clear hS; intro w hS) | (refine wpList_is (.alloc _) rfl ?_; go_must (refine wpList_stp rfl (stp_al _ rfl hS ?_)); clear hS; intro bN w hbN hS) | (refine wpList_is (.box _ _) rfl ?_; go_must (refine wpList_stp rfl (stp_bx _ _ rfl hS ?_)); clear hS; intro bN w hbN hS) | (refine wpList_is (.binOp .eql _ _ (.const (.slice none _ _)) _) rfl ?_; refine wpList_stp rfl (stp_val (run_nse _ _ _ rfl) ?_)) | (refine wpList_is (.binOp .neq _ _ (.const (.slice none _ _)) _) rfl ?_; refine wpList_stp rfl (stp_val (run_nsn _ _ _ rfl) ?_)))
    have hU' : US v' us E' := by
      unfold US
      simpa using hsl'
    exact hR _ _ _ hU' hS.pick

/-- How many of the first k times have changed, or are new. -/
def chgN (us us' : List Int) : Nat → Nat
  | 0 => 0
  | k + 1 => chgN us us' k + (if k < us.length ∧ lgU us k = lgU us' k then 0 else 1)
theorem chgN_le (us us' : List Int) (j0 : Nat) : ∀ k, (∀ j, j < k → j ≠ j0 → j < us.length ∧ lgU us j = lgU us' j) → chgN us us' k ≤ if j0 < k then 1 else 0
  | 0, _ => by simp [chgN]
  | k + 1, h => by
    have ih := chgN_le us us' j0 k (fun j hj => h j (by omega))
    unfold chgN
    by_cases e : k = j0
    · subst e
      rw [if_neg (Nat.lt_irrefl k)] at ih
      rw [if_pos (Nat.lt_succ_self k)]
      split <;> omega
    · rw [if_pos (h k (by omega) e)]
      have : (j0 < k + 1) ↔ (j0 < k) := by omega
      simp only [this]
      exact ih
theorem chgN_nx {us us' : List Int} (h : Nx us us') : chgN us us' us'.length ≤ 1 := by
  have h1 : ∃ j0, ∀ j, j < us'.length → j ≠ j0 → j < us.length ∧ lgU us j = lgU us' j := by
    rcases h with rfl | ⟨u, rfl⟩ | ⟨k, u, rfl⟩
    · exact ⟨0, fun j hj _ => ⟨hj, rfl⟩⟩
    · refine ⟨us.length, fun j hj hne => ?_⟩
      rw [List.length_append, List.length_singleton] at hj
      exact ⟨by omega, by rw [lgU_snoc, if_neg hne]⟩
    · refine ⟨k, fun j hj hne => ?_⟩
      rw [List.length_set] at hj
      refine ⟨hj, ?_⟩
      by_cases hk : k < us.length
      · rw [lgU_set _ _ _ _ hk, if_neg hne]
      · rw [List.set_eq_of_length_le (show us.length ≤ k by omega)]
  obtain ⟨j0, h2⟩ := h1
  have := chgN_le us us' j0 us'.length h2
  split at this <;> omega
theorem chgN_bd (us us' : List Int) : ∀ k, chgN us us' k ≤ k
  | 0 => Nat.le_refl _
  | k + 1 => by have := chgN_bd us us' k; unfold chgN; split <;> omega

/-- The first of all leases is returned. -/
theorem allD_ret {L : List Ls} (hW : DkW L) {o : Ot} {rest : List Ot} (h : allD (some (some L)) = o :: rest) :
    ∃ L', rtT (some (some L)) o.1 o.2.1 o.2.2 = some (some L') ∧ wiE (some (some L)) true o.1 o.2.1 o.2.2 = 0 ∧ allD (some (some L')) = rest ∧ DkW L' ∧ 0 ≤ o.2.2 ∧ o.2.2 ≤ 4294967295 := by
  have h1 : (gl (isSt 1 (tbD L)) L.length).map (fun i => lsOf' (refOf (tbD L) i)) = o :: rest := by
    rw [← h]
    simp [allD, dkL, tkL, stL, tbD_len]
  obtain ⟨i, is, hg, rfl, rfl⟩ := List.map_eq_cons_iff.1 h1
  have hmem : i ∈ gl (isSt 1 (tbD L)) L.length := by rw [hg]; simp
  obtain ⟨hi, hp⟩ := mem_gl.1 hmem
  have hst : (L.getD i (0, 0, 0)).1 = 1 := by
    unfold isSt at hp
    rw [tbD_get] at hp
    simpa using hp
  obtain ⟨g, hgn⟩ : ∃ g, (L.getD i (0, 0, 0)).2.1 = g := ⟨_, rfl⟩
  have hrf : refOf (tbD L) i = ((i : Int), g) := by unfold refOf; rw [tbD_get, hgn]
  have hgb : 1 ≤ g ∧ g ≤ 4294967295 := by
    have := hW.tb.gn _ (getD_mem (L := tbD L) (i := i) (by rw [tbD_len]; exact hi))
    rw [tbD_get, hgn] at this
    exact this
  have hck : ckE (some (tbD L)) i g = 0 := by
    rw [ck_at (by rw [tbD_len]; exact hi), tbD_get, hst, hgn, if_pos rfl]
  have h64 := hW.hi
  have hwi : wiE (some (some L)) true 3 i g = 0 := by
    have d1 : decide ((0 : Int) ≤ (i : Int)) = true := decide_eq_true (by omega)
    have d2 : decide ((i : Int) < 64) = true := decide_eq_true (by omega)
    have d3 : decide (1 ≤ g) = true := decide_eq_true hgb.1
    simp only [wiE, d1, d2, d3, hck]
    rfl
  obtain ⟨w1, w2, _⟩ := gvD_w hW hi hck
  rw [hrf]
  refine ⟨gvD L i g, ?_, hwi, ?_, w1, by show 0 ≤ g; omega, hgb.2⟩
  · show rtT (some (some L)) 3 i g = _
    unfold rtT
    rw [hwi, if_pos rfl, Int.toNat_natCast]
    rfl
  · obtain ⟨c, hc1, hc2⟩ : ∃ c : Int × Int, c.1 ≠ 1 ∧ tbD (gvD L i g) = (tbD L).set i c := by
      rw [w2]
      unfold gvN
      rw [if_pos hck, Int.toNat_natCast]
      by_cases hm : g < 4294967295
      · exact ⟨_, by rw [if_pos hm]; simp, rfl⟩
      · exact ⟨_, by rw [if_neg hm]; simp, rfl⟩
    have hil : i < (tbD L).length := by rw [tbD_len]; exact hi
    have hnd : (gl (isSt 1 (tbD L)) L.length).Nodup := by unfold gl; exact List.Pairwise.filter _ List.nodup_range
    rw [hg, List.nodup_cons] at hnd
    have hgl : gl (isSt 1 ((tbD L).set i c)) L.length = is := by
      have e1 : gl (isSt 1 ((tbD L).set i c)) L.length = (gl (isSt 1 (tbD L)) L.length).filter (fun j => !(j == i)) := by
        unfold gl
        rw [List.filter_filter]
        apply List.filter_congr
        intro j _
        rw [isSt_set hil]
        by_cases e : j = i
        · rw [if_pos e]; simp [e, hc1]
        · rw [if_neg e]; simp [e]
      rw [e1, hg, List.filter_cons_of_neg (by simp), List.filter_eq_self]
      intro j hj
      have : j ≠ i := fun e => hnd.1 (e ▸ hj)
      simp [this]
    unfold allD dkL tkL stL
    simp only [hc2, List.length_set, tbD_len, hgl, List.map_map]
    apply List.map_congr_left
    intro j hj
    have hne : j ≠ i := fun e => hnd.1 (e ▸ hj)
    simp only [Function.comp, refOf]
    rw [getD_set2 _ _ _ _ hil, if_neg hne]

section
variable {P : Program} {o : Oper} {a : Act}
theorem zeroCells_one {zs : Array Value} (h : OneCells zs) (n : Nat) : ∀ v ∈ (Builtin.zeroCells zs n).toList, v.oneCell' = true := by
  intro v hv
  unfold Builtin.zeroCells at hv
  simp only [Array.toList_map, List.mem_map, Array.toList_range, List.mem_range] at hv
  obtain ⟨i, hi, rfl⟩ := hv
  have hz : 0 < zs.size := by
    rcases Nat.eq_zero_or_pos zs.size with h0 | h0
    · rw [h0, Nat.mul_zero] at hi; omega
    · exact h0
  have hlt := Nat.mod_lt i hz
  rw [getElem!_pos zs (i % zs.size) hlt]
  exact h.h _ (by simp)
/-- A slice of the call's own is cleared, and looked at no more. -/
theorem stp_clr (s : Operand) (t : TypeId) (ho : o.op = .call { callee := .builtin .clear, args := #[s], argTypes := #[t] }) {e : TypeId} [ht : SliceT P t e]
    {size bytes : Nat} {zs : Array Value} [he : ElemT P e size bytes zs] (hz1 : OneCells zs) (hzs : zs.size = size) {v : Value} {n : Nat} {xs : List Value} (hsl : Sl e size v n xs E) (hS : St w0 bs w (E ++ H)) [hs : Ev a s v]
    {a' : Act} [hp : Put a o.dst (.tuple #[]) a'] {post : Act → World → Prop} (h : ∀ w', St w0 bs w' H → post a' w') : Stp P o a w post := by
  obtain ⟨i, z, hi, hz, rfl, rfl, rfl⟩ := he.parts
  rcases hsl.or with ⟨rfl, rfl, rfl⟩ | ⟨g, cap, sp, rfl, rfl, h1, h2, h3⟩
  · refine ⟨.value (.tuple #[]), _, ?_, .inl ⟨_, rfl, by rw [hp.h]; exact h _ hS⟩⟩
    simp only [execOp, ho, resolve, invoke, builtin, Sem.run_bind, Sem.run_pure, Result.andThen_ok, List.map_toArray, List.map_cons, List.map_nil, hs.h, Builtin.clear_, List.getElem?_toArray, List.getElem?_cons_zero,
      run_underlying ht.h, zeroValue, typeInfo, run_program, hi, hz]
  · have hb : w.heap[g]? = some (.cells ((xs ++ sp).toArray) e (0, 0)) := hS.get ⟨g, _, e, true⟩ (by simp)
    cases n with
    | zero =>
      refine ⟨.value (.tuple #[]), _, ?_, .inl ⟨_, rfl, by rw [hp.h]; exact h _ (st_drop hS)⟩⟩
      simp only [execOp, ho, resolve, invoke, builtin, Sem.run_bind, Sem.run_pure, Result.andThen_ok, List.map_toArray, List.map_cons, List.map_nil, hs.h, Builtin.clear_, List.getElem?_toArray, List.getElem?_cons_zero,
        run_underlying ht.h, zeroValue, typeInfo, run_program, hi, hz]
    | succ n =>
      have hlx := hsl.len
      have hlz : (Builtin.zeroCells z.cells (n + 1)).size = (n + 1) * i.size := by rw [size_zeroCells, hzs]
      have hr := run_storeCells_at P g 0 e (Builtin.zeroCells z.cells (n + 1)).toList 0 (xs ++ sp).toArray w hb (by simp [hlz]; omega) (zeroCells_one hz1 (n + 1))
      obtain ⟨cs', hcs⟩ : ∃ cs' : Array Value, cs' = ((xs ++ sp).toArray.toList.take (0 + 0) ++ (Builtin.zeroCells z.cells (n + 1)).toList ++ (xs ++ sp).toArray.toList.drop (0 + 0 + (Builtin.zeroCells z.cells (n + 1)).toList.length)).toArray := ⟨_, rfl⟩
      rw [← hcs] at hr
      have hS' : St w0 bs (w.setRow g cs') (⟨g, cs', e, true⟩ :: H) := by
        refine St.upd (hu := updHead) hS ⟨rfl, rfl, rfl, by simp, fun k _ hk => setRow_other w g k _ (by simpa [eq_comm] using hk)⟩ (setRow_heap w g _ _ e _ hb)
      refine ⟨.value (.tuple #[]), _, ?_, .inl ⟨_, rfl, by rw [hp.h]; exact h _ (st_drop (A := [_]) hS')⟩⟩
      simp only [execOp, ho, resolve, invoke, builtin, Sem.run_bind, Sem.run_pure, Result.andThen_ok, List.map_toArray, List.map_cons, List.map_nil, hs.h, Builtin.clear_, List.getElem?_toArray, List.getElem?_cons_zero,
        run_underlying ht.h, zeroValue, typeInfo, run_program, hi, hz, hr]
end
end Go.Proofs.Ytbjcjbkgjnojmaa
