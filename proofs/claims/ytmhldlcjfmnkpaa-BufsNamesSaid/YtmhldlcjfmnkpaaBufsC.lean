/-
  Pools of buffers: the iterator over those that are pinned.
-/
import Derived.Test.YtmhldlcjfmnkpaaBufsB
import Derived.Test.YtmhldlcjfmnkpaaFreeI
set_option linter.unusedSimpArgs false
set_option linter.unusedVariables false
namespace Go.Mm
open Go Go.RowKit
theorem chg_same {w w' : World} {bs : List Nat} (h : Chg w w' bs) (hs : ∀ b ∈ bs, w'.heap[b]? = w.heap[b]?) : Chg w w' [] :=
  ⟨h.os, h.tape, h.output, h.size, fun k hk _ => by
    by_cases hb : k ∈ bs
    · exact hs k hb
    · exact h.same k hk hb⟩
/-- From blocks that are known. -/
theorem st_of {W : World} {L : List Ent} (hE : ∀ e ∈ L, W.heap[e.b]? = some (.cells e.cs e.T (0, 0))) (hnd : L.Pairwise (fun x y => x.b ≠ y.b)) : St W (L.map (·.b)) W L :=
  St.start hE hnd (fun e he _ => List.mem_map_of_mem he)
theorem idxArr {P : Program} {t e : TypeId} {m z b off i : Nat} (ht : P.underlying t = some (.array m e)) (hs : (P.info? e).map (·.size) = some z) (hi : i < m) : IdxV P t (.pointer (some ⟨b, off, none⟩)) i ⟨b, off + i * z, none⟩ := ⟨fun w => by
  have h2 : 0 ≤ (i : Int) := by omega
  simp [Instr.indexAt, asIntOf, run_underlying ht, Instr.sureAddr, hi, run_sizeOf' hs, Addr.add_lit]⟩
end Go.Mm
namespace Go.Proofs.Ytmhldlcjfmnkpaa
open Go.RowKit Go.Mm
attribute [local go_sem] Oper.semAt_some
variable {R : Ending → World → Prop} {w : World} {w0 : World} {bs : List Nat} {H H' H1 E : List Ent}

/-- The buffers that are pinned, by their number in the list. -/
def tkP (L : List Bf) : List (Int × Int) := tkL (some (tbB L))
def tkAt (L : List Bf) (j : Nat) : Int × Int := (tkP L).getD j (0, 0)
def byAt (L : List Bf) (j : Nat) : Int := (L.getD (tkAt L j).1.toNat (0, 0, 0)).2.2
structure PnOf (L : List Bf) where
  j : Nat
  lt : j < (tkP L).length
theorem tkAt_is {L : List Bf} {j : Nat} (hj : j < (tkP L).length) : ∃ i : Nat, i < L.length ∧ (tkAt L j).1 = i ∧ L.getD i (0, 0, 0) = (1, (tkAt L j).2, byAt L j) := by
  have hm : tkAt L j ∈ tkL (some (tbB L)) := getD_mem hj
  obtain ⟨i, hi, h1, h2⟩ := mem_tkL.1 hm
  rw [tbB_len] at hi
  rw [tbB_get] at h2
  obtain ⟨h3, h4⟩ := Prod.mk.inj h2
  refine ⟨i, hi, h1, ?_⟩
  unfold byAt
  rw [h1, Int.toNat_natCast, ← h3, ← h4]

theorem pinned_clo {W : World} {p : Option Addr} (hO : St w0 bs W H)
    (hR : ∀ bp w', St w0 bs w' (⟨bp, #[.pointer p], 26, true⟩ :: H) → Ret R (.func (.func 46) #[] #[.pointer (some ⟨bp, 0, none⟩)]) w') :
    Calls Try.prog 31 #[.pointer p] W R := by
  have hS := hO
  go_enter Try.func31, Try.ntmps31
  go_wp2_with (first | go_skip | (refine wpList_is (.build _ _) rfl ?_; go_must (refine wpList_stp (by kernel_rfl) (stp_val (run_bd _ _ rfl) ?_))) | (refine wpList_is (.call { callee := .builtin .clear, args := #[_], argTypes := #[_] }) rfl ?_; go_must (refine wpList_stp (by kernel_rfl) (stp_cl _ _ rfl hS (by decide) ?_)); clear hS; intro w hS) | (refine wpList_is (.load _ _) rfl ?_; go_must (first | refine wpList_stp (by kernel_rfl) (stp_val (run_ld _ _ rfl hS) ?_) | refine wpList_stp (by kernel_rfl) (stp_val (run_lda _ _ rfl hS) ?_) | refine wpList_stp (by kernel_rfl) (stp_val (run_ld0 _ _ rfl hS) ?_) | refine wpList_stp (by kernel_rfl) (stp_val (run_lda0 _ _ rfl hS) ?_))) | (refine wpList_is (.store _ _ _) rfl ?_; go_must (first | refine wpList_stp (by kernel_rfl) (stp_st _ _ _ rfl hS ?_) | refine wpList_stp (by kernel_rfl) (stp_sta _ _ _ rfl hS ?_)); clear hS; intro w hS) | (refine wpList_is (.alloc _) rfl ?_; go_must (refine wpList_stp (by kernel_rfl) (stp_al _ rfl hS ?_)); clear hS; intro bN w hbN hS) | (refine wpList_is (.box _ _) rfl ?_; go_must (refine wpList_stp (by kernel_rfl) (stp_bx _ _ rfl hS ?_)); clear hS; intro bN w hbN hS) | (refine wpList_is (.binOp .eql _ _ (.const (.slice none _ _)) _) rfl ?_; refine wpList_stp (by kernel_rfl) (stp_val (run_nse _ _ _ rfl) ?_)) | (refine wpList_is (.binOp .neq _ _ (.const (.slice none _ _)) _) rfl ?_; refine wpList_stp (by kernel_rfl) (stp_val (run_nsn _ _ _ rfl) ?_)) | (refine region_quiet hS (by kernel_rfl) (by kernel_rfl) (fun hne => ?_); (repeat (first | go_big_quiet_skip | (go_big_quiet_want; first | (refine quiet_is (.load _ _) rfl ?_; go_must (first | refine quiet_at sw_st (fun w hS => run_ld _ _ rfl hS) ?_ | refine quiet_at sw_st (fun w hS => run_lda _ _ rfl hS) ?_ | refine quiet_at sw_st (fun w hS => run_ld0 _ _ rfl hS) ?_ | refine quiet_at sw_st (fun w hS => run_lda0 _ _ rfl hS) ?_); go_big_quiet_on) | (refine quiet_is (.binOp .eql _ _ (.const (.slice none _ _)) _) rfl ?_; refine quiet_val (fun w _ => run_nse _ _ _ rfl) ?_; go_big_quiet_on) | (refine quiet_is (.binOp .neq _ _ (.const (.slice none _ _)) _) rfl ?_; refine quiet_val (fun w _ => run_nsn _ _ _ rfl) ?_; go_big_quiet_on) | (refine quiet_is (.call { callee := .builtin .len, args := #[_], argTypes := #[_] }) rfl ?_; refine quiet_val (fun w _ => run_lenv _ _ rfl) ?_; go_big_quiet_on) | (refine quiet_is (.indexAddr _ _ _) rfl ?_; refine quiet_val (fun w _ => run_idxv _ _ _ rfl) ?_; go_big_quiet_on) | (refine quiet_is (.binOp .eql _ _ _ _) rfl ?_; refine quiet_val (fun w _ => run_aeq _ _ _ _ rfl) ?_; go_big_quiet_on) | (refine quiet_is (.binOp .neq _ _ _ _) rfl ?_; refine quiet_val (fun w _ => run_ane _ _ _ _ rfl) ?_; go_big_quiet_on) | (go_big_quiet_op; go_big_quiet_on)))); refine wpQuiet_nil ?_; clear hS hne; intro w hS))
  exact hR _ _ hS

set_option maxHeartbeats 4000000 in
set_option maxRecDepth 100000 in
theorem pin_stops {m : Nat} {p : Option Addr} {T : Pl} {L : List Bf} (hL : plL T = L) (h1 : 1 ≤ m) (bp : Nat) {W : World}
    (hE : ∀ e ∈ ((⟨bp, #[.pointer p], 26, true⟩ : Ent) :: E), W.heap[e.b]? = some (.cells e.cs e.T (0, 0)))
    (hnd : ((⟨bp, #[.pointer p], 26, true⟩ : Ent) :: E).Pairwise (fun x y => x.b ≠ y.b)) (hT : PA p T E) :
    SeqStopsK Fence.wide m Try.prog 46 #[.pointer (some ⟨bp, 0, none⟩)] (fun x : PnOf L => #[.agg #[.int .i64 2, .int .i64 (tkAt L x.j).1, .int .u32 (tkAt L x.j).2], .int .i64 (byAt L x.j)]) (KeptT 72 (bp :: E.map (·.b)))
      (fun xs => xs.map (·.j) = List.range (tkP L).length) (fun pre => ∃ k, k < (tkP L).length ∧ pre.map (·.j) = List.range k ++ [k]) 257 W := by
  intro l J Jx W1 hW hJ hJx hY h0
  have hF := wide_fn
  have hE1 : ∀ e ∈ ((⟨bp, #[.pointer p], 26, true⟩ : Ent) :: E), W1.heap[e.b]? = some (.cells e.cs e.T (0, 0)) := fun e he => by
    have h1 := hE e he
    rw [hW.block e.b (lt_of_heap h1)]
    exact h1
  have hS := st_of hE1 hnd
  refine callsIn_of_wp Try.func46 rfl trivial ?_ rfl
  simp only [Try.ntmps46, List.size_toArray, List.length_cons, List.length_nil, Nat.reduceAdd, Nat.reduceSub, Array.replicate_succ, Array.replicate_zero, List.push_toArray, List.append_toArray, List.nil_append, List.cons_append]
  cases hok : plOk T with
  | false =>
    have hL0 : tkP L = [] := by
      subst hL
      rcases T with _ | _ | ⟨M, L⟩
      · rfl
      · rfl
      · cases hok
    rw [hL0]
    have hJ' := Lib.hid hJ
    have hE1' := Lib.hid hE1
    have hnd' := Lib.hid hnd
    clear hJ hJx hY hW hE hE1
    gi_wp2_with (first | (gi_at_call 27; refine callsIn_wide.2 (pvalid hS hT false hok ?_); clear hS; intro w hS; unfold Ret) | (refine wpListIn_is (.build _ _) rfl ?_; go_must (refine wpListIn_stp hF rfl rfl (stp_val (run_bd _ _ rfl) ?_))) | (refine wpListIn_is (.call { callee := .builtin .clear, args := #[_], argTypes := #[_] }) rfl ?_; go_must (refine wpListIn_stp hF rfl rfl (stp_cl _ _ rfl hS (by decide) ?_)); clear hS; intro w hS) | (refine wpListIn_is (.load _ _) rfl ?_; go_must (first | refine wpListIn_stp hF rfl rfl (stp_val (run_ld _ _ rfl hS) ?_) | refine wpListIn_stp hF rfl rfl (stp_val (run_lda _ _ rfl hS) ?_) | refine wpListIn_stp hF rfl rfl (stp_val (run_ld0 _ _ rfl hS) ?_) | refine wpListIn_stp hF rfl rfl (stp_val (run_lda0 _ _ rfl hS) ?_))) | (refine wpListIn_is (.store _ _ _) rfl ?_; go_must (first | refine wpListIn_stp hF rfl rfl (stp_st _ _ _ rfl hS ?_) | refine wpListIn_stp hF rfl rfl (stp_sta _ _ _ rfl hS ?_)); clear hS; intro w hS) | (refine wpListIn_is (.alloc _) rfl ?_; go_must (refine wpListIn_stp hF rfl rfl (stp_al _ rfl hS ?_)); clear hS; intro bN w hbN hS) | (refine wpListIn_is (.box _ _) rfl ?_; go_must (refine wpListIn_stp hF rfl rfl (stp_bx _ _ rfl hS ?_)); clear hS; intro bN w hbN hS))
    refine bodyPost_ret (results_none rfl _ _ _) rfl ?_
    have hchg : Chg W1 w [] := chg_same hS.chg (fun b' hb => by
      obtain ⟨e, he, rfl⟩ := List.mem_map.1 hb
      rw [hE1'.out e he, hS.get e (by simp only [List.mem_cons, List.mem_append] at he ⊢; rcases he with rfl | he <;> simp [*])])
    exact ⟨⟨_, rfl⟩, .inl ⟨[], rfl, hJ'.out _ _ _ none h0 (hchg.grown none) (fun r e => by cases e)⟩⟩
  | true =>
    rcases T with _ | _ | ⟨M, L'⟩
    · cases hok
    · cases hok
    obtain rfl : L = L' := hL.symm
    obtain ⟨hPW, b, bt, Et, rfl, hTt, rfl⟩ := id hT
    have hk64 := hPW.hi
    have hY' := Lib.hid hY
    have hJ' := Lib.hid hJ
    have hE1' := Lib.hid hE1
    clear hY hJ hJx hW hE hE1
    gi_wp2_with (first | (gi_at_call 27; refine callsIn_wide.2 (pvalid hS hT true rfl ?_); clear hS; intro w hS; (try simp only [List.cons_append, List.nil_append] at hS); unfold Ret) | (gi_at_call 47; refine callsIn_wide.2 (sl_taken hS hTt ?_); clear hS; intro v1 Er w hRS _ hS; have hone := hRS.one; have hln := hRS.len rfl; unfold Ret) | (refine wpListIn_is (.call { callee := .builtin .len, args := #[_], argTypes := #[_] }) rfl ?_; refine wpListIn_stp hF rfl rfl (stp_val (run_lenv _ _ rfl) ?_)) | (refine wpListIn_is (.build _ _) rfl ?_; go_must (refine wpListIn_stp hF rfl rfl (stp_val (run_bd _ _ rfl) ?_))) | (refine wpListIn_is (.call { callee := .builtin .clear, args := #[_], argTypes := #[_] }) rfl ?_; go_must (refine wpListIn_stp hF rfl rfl (stp_cl _ _ rfl hS (by decide) ?_)); clear hS; intro w hS) | (refine wpListIn_is (.load _ _) rfl ?_; go_must (first | refine wpListIn_stp hF rfl rfl (stp_val (run_ld _ _ rfl hS) ?_) | refine wpListIn_stp hF rfl rfl (stp_val (run_lda _ _ rfl hS) ?_) | refine wpListIn_stp hF rfl rfl (stp_val (run_ld0 _ _ rfl hS) ?_) | refine wpListIn_stp hF rfl rfl (stp_val (run_lda0 _ _ rfl hS) ?_))) | (refine wpListIn_is (.store _ _ _) rfl ?_; go_must (first | refine wpListIn_stp hF rfl rfl (stp_st _ _ _ rfl hS ?_) | refine wpListIn_stp hF rfl rfl (stp_sta _ _ _ rfl hS ?_)); clear hS; intro w hS) | (refine wpListIn_is (.alloc _) rfl ?_; go_must (refine wpListIn_stp hF rfl rfl (stp_al _ rfl hS ?_)); clear hS; intro bN w hbN hS) | (refine wpListIn_is (.box _ _) rfl ?_; go_must (refine wpListIn_stp hF rfl rfl (stp_bx _ _ rfl hS ?_)); clear hS; intro bN w hbN hS))
    obtain ⟨LA, hLA⟩ : ∃ LA, Er ++ (Et ++ [(⟨b, poolC (some ⟨bt, 0, none⟩) L.length M (padB L), 63, true⟩ : Ent), ⟨bp, #[.pointer (some ⟨b, 0, none⟩)], 26, true⟩]) = LA := ⟨_, rfl⟩
    have hFA : ∀ e ∈ LA, w.heap[e.b]? = some (.cells e.cs e.T (0, 0)) := by rw [← hLA]; exact hS.get
    have hndA : LA.Pairwise (fun x y => x.b ≠ y.b) := by rw [← hLA]; exact hS.nd
    have hchg : Chg W1 w [] := chg_same hS.chg (fun b' hb => by
      obtain ⟨e, he, rfl⟩ := List.mem_map.1 hb
      rw [hE1'.out e he, hFA e (by rw [← hLA]; simp only [List.mem_cons, List.mem_append] at he ⊢; rcases he with rfl | rfl | he <;> simp [*])])
    have hsub : ∀ e ∈ ((⟨bp, #[.pointer (some ⟨b, 0, none⟩)], 26, true⟩ : Ent) :: ⟨b, poolC (some ⟨bt, 0, none⟩) L.length M (padB L), 63, true⟩ :: Et), e ∈ LA := fun e he => by
      rw [← hLA]; simp only [List.mem_cons, List.mem_append] at he ⊢; rcases he with rfl | rfl | he <;> simp [*]
    have hErT : ∀ e ∈ Er, e.T = 72 := by
      rcases hRS.or with ⟨_, _, rfl⟩ | ⟨g, cap, sp, _, rfl, _⟩
      · intro e he; cases he
      · intro e he
        obtain rfl := List.mem_singleton.1 he
        rfl
    have hndA' := Lib.hid hndA
    have hsub' := Lib.hid hsub
    have hErT' := Lib.hid hErT
    have hTt' := Lib.hid hTt
    have hLA' := Lib.hid hLA
    have hPW' := Lib.hid hPW
    gi_loopw [14] (fun v wr => ∃ (k : Nat) (xs : List (PnOf L)), k ≤ (tkP L).length ∧ v = .int .i64 k ∧ xs.map (·.j) = List.range k ∧ J xs wr ∧ ∀ e ∈ LA, wr.heap[e.b]? = some (.cells e.cs e.T (0, 0))) (fun v _ => (tkP L).length - (intOf v).toNat)
    case atStart => exact ⟨0, [], Nat.zero_le _, rfl, rfl, hJ'.out _ _ _ none h0 (hchg.grown none) (fun r e => by cases e), hFA⟩
    case round =>
      clear hS hFA hndA hchg hsub hErT hTt hPW
      obtain ⟨k, xs, hkl, rfl, hxs, hJk, hFk⟩ := hrel
      have hxs' := Lib.hid hxs
      have hFk' := Lib.hid hFk
      have hS := st_of hFk hndA'.out
      rw [← hLA] at hS
      clear hxs hFk hLA
      by_cases hlt : k < (tkP L).length
      · obtain ⟨i, hi, e1, e2⟩ := tkAt_is hlt
        obtain ⟨g, hg⟩ : ∃ g, (tkAt L k).2 = g := ⟨_, rfl⟩
        obtain ⟨nb, hnb⟩ : ∃ n, byAt L k = n := ⟨_, rfl⟩
        obtain ⟨gx, sp, ix, hh, hcx⟩ := hRS.at hlt (x := ((i : Int), g)) (Prod.ext e1 hg)
        have ix := ix k rfl
        simp only at hcx
        have hpb := poolBy (t := some ⟨bt, 0, none⟩) (n := L.length) (M := M) (padB_get hi e2)
        simp only [hnb] at hpb
        have hpb2 : CellAt (poolC (some ⟨bt, 0, none⟩) L.length M (padB L)) (0 + 3 + i * 1) (.int .i64 nb) := by rw [Nat.mul_one, Nat.zero_add]; exact hpb
        have hi64 : i < 64 := by omega
        have iax := idxArr (P := Try.prog) (t := 61) (e := 3) (z := 1) (b := b) (off := 0 + 3) Try.underlying61 (by kernel_rfl) hi64
        have hxe : (fun x : PnOf L => #[Value.agg #[.int .i64 2, .int .i64 (tkAt L x.j).1, .int .u32 (tkAt L x.j).2], .int .i64 (byAt L x.j)]) ⟨k, hlt⟩ = #[.agg #[.int .i64 2, .int .i64 i, .int .u32 g], .int .i64 nb] := by simp only [e1, hg, hnb]
        have hxe' := Lib.hid hxe
        have hltI : (k : Int) < (tkP L).length := by omega
        have hkb : (k : Int) < 257 := by have h2 := tkL_256 hPW'.out.tb; have h3 : (tkP L).length = (tkL (some (tbB L))).length := rfl; omega
        clear e1 e2 hg hnb hxe hpb
        gi_wp2_with (first | (refine wpListIn_is (.indexAddr _ _ _) rfl ?_; refine wpListIn_stp hF rfl rfl (stp_val (run_idxv _ _ _ rfl) ?_)) | (refine wpListIn_is (.alloc 72) rfl ?_; go_must (refine wpListIn_stp hF rfl rfl (stp_al _ rfl hS ?_)); clear hS; intro br w hbr hS) | (refine wpListIn_is (.build _ _) rfl ?_; go_must (refine wpListIn_stp hF rfl rfl (stp_val (run_bd _ _ rfl) ?_))) | (refine wpListIn_is (.call { callee := .builtin .clear, args := #[_], argTypes := #[_] }) rfl ?_; go_must (refine wpListIn_stp hF rfl rfl (stp_cl _ _ rfl hS (by decide) ?_)); clear hS; intro w hS) | (refine wpListIn_is (.load _ _) rfl ?_; go_must (first | refine wpListIn_stp hF rfl rfl (stp_val (run_ld _ _ rfl hS) ?_) | refine wpListIn_stp hF rfl rfl (stp_val (run_lda _ _ rfl hS) ?_) | refine wpListIn_stp hF rfl rfl (stp_val (run_ld0 _ _ rfl hS) ?_) | refine wpListIn_stp hF rfl rfl (stp_val (run_lda0 _ _ rfl hS) ?_))) | (refine wpListIn_is (.store _ _ _) rfl ?_; go_must (first | refine wpListIn_stp hF rfl rfl (stp_st _ _ _ rfl hS ?_) | refine wpListIn_stp hF rfl rfl (stp_sta _ _ _ rfl hS ?_)); clear hS; intro w hS) | (refine wpListIn_is (.alloc _) rfl ?_; go_must (refine wpListIn_stp hF rfl rfl (stp_al _ rfl hS ?_)); clear hS; intro bN w hbN hS) | (refine wpListIn_is (.box _ _) rfl ?_; go_must (refine wpListIn_stp hF rfl rfl (stp_bx _ _ rfl hS ?_)); clear hS; intro bN w hbN hS))
        have hFw : ∀ e ∈ LA, w.heap[e.b]? = some (.cells e.cs e.T (0, 0)) := fun e he => hS.get e (by rw [← hLA'.out] at he; exact List.mem_cons_of_mem _ he)
        have hchg : Chg wr w [] := chg_same hS.chg (fun b' hb => by
          obtain ⟨e, he, rfl⟩ := List.mem_map.1 hb
          rw [hLA'.out] at he
          rw [hFw e he, hFk'.out e he])
        have hJw := hJ'.out _ _ _ none hJk (hchg.grown none) (fun r e => by cases e)
        have hSd := hS.drawn (w.drawn + 1)
        have hJd : J xs { w with drawn := w.drawn + 1 } := hJ'.out _ _ _ none hJw ⟨rfl, rfl, rfl, Nat.le_refl _, fun _ _ _ => rfl⟩ (fun r e => by cases e)
        have hYw := hY'.out xs ⟨k, hlt⟩ _ hJd (by have := congrArg List.length hxs'.out; rw [List.length_map, List.length_range] at this; have h2 := tkL_256 hPW'.out.tb; have h3 : (tkP L).length = (tkL (some (tbB L))).length := rfl; omega)
        have hx2 := hxe'.out
        rw [hx2] at hYw
        refine region_freeI (X := Bool) hF (fun G χ w' => if G 13 then (if χ 13 then J (xs ++ [⟨k, hlt⟩]) w' ∧ ∀ e ∈ LA, w'.heap[e.b]? = some (.cells e.cs e.T (0, 0)) else Jx (xs ++ [⟨k, hlt⟩]) w') else w' = { w with drawn := w.drawn + 1 }) (fun i => i == 13) (by kernel_rfl) (by kernel_rfl) rfl ?_
        have hcw : ∀ (G : Gs) (χ : Nat → Bool) (w' : World), G 13 = false → (if G 13 then (if χ 13 then J (xs ++ [⟨k, hlt⟩]) w' ∧ ∀ e ∈ LA, w'.heap[e.b]? = some (.cells e.cs e.T (0, 0)) else Jx (xs ++ [⟨k, hlt⟩]) w') else w' = { w with drawn := w.drawn + 1 }) →
            St wr (List.map (fun x => x.b) (Er ++ (Et ++ [(⟨b, poolC (some ⟨bt, 0, none⟩) L.length M (padB L), 63, true⟩ : Ent), ⟨bp, #[.pointer (some ⟨b, 0, none⟩)], 26, true⟩]))) w' (⟨br, #[.int .i64 i, .int .u32 g], 72, true⟩ :: (Er ++ (Et ++ [(⟨b, poolC (some ⟨bt, 0, none⟩) L.length M (padB L), 63, true⟩ : Ent), ⟨bp, #[.pointer (some ⟨b, 0, none⟩)], 26, true⟩]))) := by
          intro G χ w' h13 hC
          rw [h13, if_neg (by simp)] at hC
          subst hC
          exact hSd
        first | (refine fi_val hF rfl (fun _ => rfl) rfl (fun G χ w hg hC => run_mv _ rfl) ?_) | (refine fi_val hF rfl (fun _ => rfl) rfl (fun G χ w hg hC => run_as _ rfl) ?_) | (refine fi_val hF rfl (fun _ => rfl) rfl (fun G χ w hg hC => run_fa _ _ _ rfl) ?_) | (refine fi_val hF rfl (fun _ => rfl) rfl (fun G χ w hg hC => run_ld _ _ rfl (hcw G χ w (hg 13 (by kernel_rfl)) hC)) ?_) | (refine fi_val hF rfl (fun _ => rfl) rfl (fun G χ w hg hC => run_lda _ _ rfl (hcw G χ w (hg 13 (by kernel_rfl)) hC)) ?_) | (refine fi_val hF rfl (fun _ => rfl) rfl (fun G χ w hg hC => run_bd _ _ rfl) ?_) | (refine fi_val hF rfl (fun _ => rfl) rfl (fun G χ w hg hC => run_nc _ rfl) ?_) | (refine fi_val hF rfl (fun _ => rfl) rfl (fun G χ w hg hC => run_idxv _ _ _ rfl) ?_) | (refine fi_val hF rfl (fun _ => rfl) rfl (fun G χ w hg hC => run_pk1 _ _ _ rfl) ?_) | (refine fi_val hF rfl (fun _ => rfl) rfl (fun G χ w hg hC => run_pk2 _ _ _ rfl) ?_)
        first | (refine fi_val hF rfl (fun _ => rfl) rfl (fun G χ w hg hC => run_mv _ rfl) ?_) | (refine fi_val hF rfl (fun _ => rfl) rfl (fun G χ w hg hC => run_as _ rfl) ?_) | (refine fi_val hF rfl (fun _ => rfl) rfl (fun G χ w hg hC => run_fa _ _ _ rfl) ?_) | (refine fi_val hF rfl (fun _ => rfl) rfl (fun G χ w hg hC => run_ld _ _ rfl (hcw G χ w (hg 13 (by kernel_rfl)) hC)) ?_) | (refine fi_val hF rfl (fun _ => rfl) rfl (fun G χ w hg hC => run_lda _ _ rfl (hcw G χ w (hg 13 (by kernel_rfl)) hC)) ?_) | (refine fi_val hF rfl (fun _ => rfl) rfl (fun G χ w hg hC => run_bd _ _ rfl) ?_) | (refine fi_val hF rfl (fun _ => rfl) rfl (fun G χ w hg hC => run_nc _ rfl) ?_) | (refine fi_val hF rfl (fun _ => rfl) rfl (fun G χ w hg hC => run_idxv _ _ _ rfl) ?_) | (refine fi_val hF rfl (fun _ => rfl) rfl (fun G χ w hg hC => run_pk1 _ _ _ rfl) ?_) | (refine fi_val hF rfl (fun _ => rfl) rfl (fun G χ w hg hC => run_pk2 _ _ _ rfl) ?_)
        first | (refine fi_val hF rfl (fun _ => rfl) rfl (fun G χ w hg hC => run_mv _ rfl) ?_) | (refine fi_val hF rfl (fun _ => rfl) rfl (fun G χ w hg hC => run_as _ rfl) ?_) | (refine fi_val hF rfl (fun _ => rfl) rfl (fun G χ w hg hC => run_fa _ _ _ rfl) ?_) | (refine fi_val hF rfl (fun _ => rfl) rfl (fun G χ w hg hC => run_ld _ _ rfl (hcw G χ w (hg 13 (by kernel_rfl)) hC)) ?_) | (refine fi_val hF rfl (fun _ => rfl) rfl (fun G χ w hg hC => run_lda _ _ rfl (hcw G χ w (hg 13 (by kernel_rfl)) hC)) ?_) | (refine fi_val hF rfl (fun _ => rfl) rfl (fun G χ w hg hC => run_bd _ _ rfl) ?_) | (refine fi_val hF rfl (fun _ => rfl) rfl (fun G χ w hg hC => run_nc _ rfl) ?_) | (refine fi_val hF rfl (fun _ => rfl) rfl (fun G χ w hg hC => run_idxv _ _ _ rfl) ?_) | (refine fi_val hF rfl (fun _ => rfl) rfl (fun G χ w hg hC => run_pk1 _ _ _ rfl) ?_) | (refine fi_val hF rfl (fun _ => rfl) rfl (fun G χ w hg hC => run_pk2 _ _ _ rfl) ?_)
        first | (refine fi_val hF rfl (fun _ => rfl) rfl (fun G χ w hg hC => run_mv _ rfl) ?_) | (refine fi_val hF rfl (fun _ => rfl) rfl (fun G χ w hg hC => run_as _ rfl) ?_) | (refine fi_val hF rfl (fun _ => rfl) rfl (fun G χ w hg hC => run_fa _ _ _ rfl) ?_) | (refine fi_val hF rfl (fun _ => rfl) rfl (fun G χ w hg hC => run_ld _ _ rfl (hcw G χ w (hg 13 (by kernel_rfl)) hC)) ?_) | (refine fi_val hF rfl (fun _ => rfl) rfl (fun G χ w hg hC => run_lda _ _ rfl (hcw G χ w (hg 13 (by kernel_rfl)) hC)) ?_) | (refine fi_val hF rfl (fun _ => rfl) rfl (fun G χ w hg hC => run_bd _ _ rfl) ?_) | (refine fi_val hF rfl (fun _ => rfl) rfl (fun G χ w hg hC => run_nc _ rfl) ?_) | (refine fi_val hF rfl (fun _ => rfl) rfl (fun G χ w hg hC => run_idxv _ _ _ rfl) ?_) | (refine fi_val hF rfl (fun _ => rfl) rfl (fun G χ w hg hC => run_pk1 _ _ _ rfl) ?_) | (refine fi_val hF rfl (fun _ => rfl) rfl (fun G χ w hg hC => run_pk2 _ _ _ rfl) ?_)
        first | (refine fi_val hF rfl (fun _ => rfl) rfl (fun G χ w hg hC => run_mv _ rfl) ?_) | (refine fi_val hF rfl (fun _ => rfl) rfl (fun G χ w hg hC => run_as _ rfl) ?_) | (refine fi_val hF rfl (fun _ => rfl) rfl (fun G χ w hg hC => run_fa _ _ _ rfl) ?_) | (refine fi_val hF rfl (fun _ => rfl) rfl (fun G χ w hg hC => run_ld _ _ rfl (hcw G χ w (hg 13 (by kernel_rfl)) hC)) ?_) | (refine fi_val hF rfl (fun _ => rfl) rfl (fun G χ w hg hC => run_lda _ _ rfl (hcw G χ w (hg 13 (by kernel_rfl)) hC)) ?_) | (refine fi_val hF rfl (fun _ => rfl) rfl (fun G χ w hg hC => run_bd _ _ rfl) ?_) | (refine fi_val hF rfl (fun _ => rfl) rfl (fun G χ w hg hC => run_nc _ rfl) ?_) | (refine fi_val hF rfl (fun _ => rfl) rfl (fun G χ w hg hC => run_idxv _ _ _ rfl) ?_) | (refine fi_val hF rfl (fun _ => rfl) rfl (fun G χ w hg hC => run_pk1 _ _ _ rfl) ?_) | (refine fi_val hF rfl (fun _ => rfl) rfl (fun G χ w hg hC => run_pk2 _ _ _ rfl) ?_)
        first | (refine fi_val hF rfl (fun _ => rfl) rfl (fun G χ w hg hC => run_mv _ rfl) ?_) | (refine fi_val hF rfl (fun _ => rfl) rfl (fun G χ w hg hC => run_as _ rfl) ?_) | (refine fi_val hF rfl (fun _ => rfl) rfl (fun G χ w hg hC => run_fa _ _ _ rfl) ?_) | (refine fi_val hF rfl (fun _ => rfl) rfl (fun G χ w hg hC => run_ld _ _ rfl (hcw G χ w (hg 13 (by kernel_rfl)) hC)) ?_) | (refine fi_val hF rfl (fun _ => rfl) rfl (fun G χ w hg hC => run_lda _ _ rfl (hcw G χ w (hg 13 (by kernel_rfl)) hC)) ?_) | (refine fi_val hF rfl (fun _ => rfl) rfl (fun G χ w hg hC => run_bd _ _ rfl) ?_) | (refine fi_val hF rfl (fun _ => rfl) rfl (fun G χ w hg hC => run_nc _ rfl) ?_) | (refine fi_val hF rfl (fun _ => rfl) rfl (fun G χ w hg hC => run_idxv _ _ _ rfl) ?_) | (refine fi_val hF rfl (fun _ => rfl) rfl (fun G χ w hg hC => run_pk1 _ _ _ rfl) ?_) | (refine fi_val hF rfl (fun _ => rfl) rfl (fun G χ w hg hC => run_pk2 _ _ _ rfl) ?_)
        first | (refine fi_val hF rfl (fun _ => rfl) rfl (fun G χ w hg hC => run_mv _ rfl) ?_) | (refine fi_val hF rfl (fun _ => rfl) rfl (fun G χ w hg hC => run_as _ rfl) ?_) | (refine fi_val hF rfl (fun _ => rfl) rfl (fun G χ w hg hC => run_fa _ _ _ rfl) ?_) | (refine fi_val hF rfl (fun _ => rfl) rfl (fun G χ w hg hC => run_ld _ _ rfl (hcw G χ w (hg 13 (by kernel_rfl)) hC)) ?_) | (refine fi_val hF rfl (fun _ => rfl) rfl (fun G χ w hg hC => run_lda _ _ rfl (hcw G χ w (hg 13 (by kernel_rfl)) hC)) ?_) | (refine fi_val hF rfl (fun _ => rfl) rfl (fun G χ w hg hC => run_bd _ _ rfl) ?_) | (refine fi_val hF rfl (fun _ => rfl) rfl (fun G χ w hg hC => run_nc _ rfl) ?_) | (refine fi_val hF rfl (fun _ => rfl) rfl (fun G χ w hg hC => run_idxv _ _ _ rfl) ?_) | (refine fi_val hF rfl (fun _ => rfl) rfl (fun G χ w hg hC => run_pk1 _ _ _ rfl) ?_) | (refine fi_val hF rfl (fun _ => rfl) rfl (fun G χ w hg hC => run_pk2 _ _ _ rfl) ?_)
        first | (refine fi_val hF rfl (fun _ => rfl) rfl (fun G χ w hg hC => run_mv _ rfl) ?_) | (refine fi_val hF rfl (fun _ => rfl) rfl (fun G χ w hg hC => run_as _ rfl) ?_) | (refine fi_val hF rfl (fun _ => rfl) rfl (fun G χ w hg hC => run_fa _ _ _ rfl) ?_) | (refine fi_val hF rfl (fun _ => rfl) rfl (fun G χ w hg hC => run_ld _ _ rfl (hcw G χ w (hg 13 (by kernel_rfl)) hC)) ?_) | (refine fi_val hF rfl (fun _ => rfl) rfl (fun G χ w hg hC => run_lda _ _ rfl (hcw G χ w (hg 13 (by kernel_rfl)) hC)) ?_) | (refine fi_val hF rfl (fun _ => rfl) rfl (fun G χ w hg hC => run_bd _ _ rfl) ?_) | (refine fi_val hF rfl (fun _ => rfl) rfl (fun G χ w hg hC => run_nc _ rfl) ?_) | (refine fi_val hF rfl (fun _ => rfl) rfl (fun G χ w hg hC => run_idxv _ _ _ rfl) ?_) | (refine fi_val hF rfl (fun _ => rfl) rfl (fun G χ w hg hC => run_pk1 _ _ _ rfl) ?_) | (refine fi_val hF rfl (fun _ => rfl) rfl (fun G χ w hg hC => run_pk2 _ _ _ rfl) ?_)
        first | (refine fi_val hF rfl (fun _ => rfl) rfl (fun G χ w hg hC => run_mv _ rfl) ?_) | (refine fi_val hF rfl (fun _ => rfl) rfl (fun G χ w hg hC => run_as _ rfl) ?_) | (refine fi_val hF rfl (fun _ => rfl) rfl (fun G χ w hg hC => run_fa _ _ _ rfl) ?_) | (refine fi_val hF rfl (fun _ => rfl) rfl (fun G χ w hg hC => run_ld _ _ rfl (hcw G χ w (hg 13 (by kernel_rfl)) hC)) ?_) | (refine fi_val hF rfl (fun _ => rfl) rfl (fun G χ w hg hC => run_lda _ _ rfl (hcw G χ w (hg 13 (by kernel_rfl)) hC)) ?_) | (refine fi_val hF rfl (fun _ => rfl) rfl (fun G χ w hg hC => run_bd _ _ rfl) ?_) | (refine fi_val hF rfl (fun _ => rfl) rfl (fun G χ w hg hC => run_nc _ rfl) ?_) | (refine fi_val hF rfl (fun _ => rfl) rfl (fun G χ w hg hC => run_idxv _ _ _ rfl) ?_) | (refine fi_val hF rfl (fun _ => rfl) rfl (fun G χ w hg hC => run_pk1 _ _ _ rfl) ?_) | (refine fi_val hF rfl (fun _ => rfl) rfl (fun G χ w hg hC => run_pk2 _ _ _ rfl) ?_)
        first | (refine fi_val hF rfl (fun _ => rfl) rfl (fun G χ w hg hC => run_mv _ rfl) ?_) | (refine fi_val hF rfl (fun _ => rfl) rfl (fun G χ w hg hC => run_as _ rfl) ?_) | (refine fi_val hF rfl (fun _ => rfl) rfl (fun G χ w hg hC => run_fa _ _ _ rfl) ?_) | (refine fi_val hF rfl (fun _ => rfl) rfl (fun G χ w hg hC => run_ld _ _ rfl (hcw G χ w (hg 13 (by kernel_rfl)) hC)) ?_) | (refine fi_val hF rfl (fun _ => rfl) rfl (fun G χ w hg hC => run_lda _ _ rfl (hcw G χ w (hg 13 (by kernel_rfl)) hC)) ?_) | (refine fi_val hF rfl (fun _ => rfl) rfl (fun G χ w hg hC => run_bd _ _ rfl) ?_) | (refine fi_val hF rfl (fun _ => rfl) rfl (fun G χ w hg hC => run_nc _ rfl) ?_) | (refine fi_val hF rfl (fun _ => rfl) rfl (fun G χ w hg hC => run_idxv _ _ _ rfl) ?_) | (refine fi_val hF rfl (fun _ => rfl) rfl (fun G χ w hg hC => run_pk1 _ _ _ rfl) ?_) | (refine fi_val hF rfl (fun _ => rfl) rfl (fun G χ w hg hC => run_pk2 _ _ _ rfl) ?_)
        first | (refine fi_val hF rfl (fun _ => rfl) rfl (fun G χ w hg hC => run_mv _ rfl) ?_) | (refine fi_val hF rfl (fun _ => rfl) rfl (fun G χ w hg hC => run_as _ rfl) ?_) | (refine fi_val hF rfl (fun _ => rfl) rfl (fun G χ w hg hC => run_fa _ _ _ rfl) ?_) | (refine fi_val hF rfl (fun _ => rfl) rfl (fun G χ w hg hC => run_ld _ _ rfl (hcw G χ w (hg 13 (by kernel_rfl)) hC)) ?_) | (refine fi_val hF rfl (fun _ => rfl) rfl (fun G χ w hg hC => run_lda _ _ rfl (hcw G χ w (hg 13 (by kernel_rfl)) hC)) ?_) | (refine fi_val hF rfl (fun _ => rfl) rfl (fun G χ w hg hC => run_bd _ _ rfl) ?_) | (refine fi_val hF rfl (fun _ => rfl) rfl (fun G χ w hg hC => run_nc _ rfl) ?_) | (refine fi_val hF rfl (fun _ => rfl) rfl (fun G χ w hg hC => run_idxv _ _ _ rfl) ?_) | (refine fi_val hF rfl (fun _ => rfl) rfl (fun G χ w hg hC => run_pk1 _ _ _ rfl) ?_) | (refine fi_val hF rfl (fun _ => rfl) rfl (fun G χ w hg hC => run_pk2 _ _ _ rfl) ?_)
        first | (refine fi_val hF rfl (fun _ => rfl) rfl (fun G χ w hg hC => run_mv _ rfl) ?_) | (refine fi_val hF rfl (fun _ => rfl) rfl (fun G χ w hg hC => run_as _ rfl) ?_) | (refine fi_val hF rfl (fun _ => rfl) rfl (fun G χ w hg hC => run_fa _ _ _ rfl) ?_) | (refine fi_val hF rfl (fun _ => rfl) rfl (fun G χ w hg hC => run_ld _ _ rfl (hcw G χ w (hg 13 (by kernel_rfl)) hC)) ?_) | (refine fi_val hF rfl (fun _ => rfl) rfl (fun G χ w hg hC => run_lda _ _ rfl (hcw G χ w (hg 13 (by kernel_rfl)) hC)) ?_) | (refine fi_val hF rfl (fun _ => rfl) rfl (fun G χ w hg hC => run_bd _ _ rfl) ?_) | (refine fi_val hF rfl (fun _ => rfl) rfl (fun G χ w hg hC => run_nc _ rfl) ?_) | (refine fi_val hF rfl (fun _ => rfl) rfl (fun G χ w hg hC => run_idxv _ _ _ rfl) ?_) | (refine fi_val hF rfl (fun _ => rfl) rfl (fun G χ w hg hC => run_pk1 _ _ _ rfl) ?_) | (refine fi_val hF rfl (fun _ => rfl) rfl (fun G χ w hg hC => run_pk2 _ _ _ rfl) ?_)
        first | (refine fi_val hF rfl (fun _ => rfl) rfl (fun G χ w hg hC => run_mv _ rfl) ?_) | (refine fi_val hF rfl (fun _ => rfl) rfl (fun G χ w hg hC => run_as _ rfl) ?_) | (refine fi_val hF rfl (fun _ => rfl) rfl (fun G χ w hg hC => run_fa _ _ _ rfl) ?_) | (refine fi_val hF rfl (fun _ => rfl) rfl (fun G χ w hg hC => run_ld _ _ rfl (hcw G χ w (hg 13 (by kernel_rfl)) hC)) ?_) | (refine fi_val hF rfl (fun _ => rfl) rfl (fun G χ w hg hC => run_lda _ _ rfl (hcw G χ w (hg 13 (by kernel_rfl)) hC)) ?_) | (refine fi_val hF rfl (fun _ => rfl) rfl (fun G χ w hg hC => run_bd _ _ rfl) ?_) | (refine fi_val hF rfl (fun _ => rfl) rfl (fun G χ w hg hC => run_nc _ rfl) ?_) | (refine fi_val hF rfl (fun _ => rfl) rfl (fun G χ w hg hC => run_idxv _ _ _ rfl) ?_) | (refine fi_val hF rfl (fun _ => rfl) rfl (fun G χ w hg hC => run_pk1 _ _ _ rfl) ?_) | (refine fi_val hF rfl (fun _ => rfl) rfl (fun G χ w hg hC => run_pk2 _ _ _ rfl) ?_)
        refine fi_turn (fun _ => rfl) rfl (fun x => .bool x) ?_ ?_
        · intro G χ w' h13 hC
          simp only [h13, Bool.false_eq_true, if_false] at hC
          subst hC
          refine sxI_yield (xs := [_, _]) rfl hF (fun h => h1) hYw ?_
          rintro e W' (⟨rfl, hJ', hk'⟩ | ⟨rfl, hJx'⟩)
          · refine ⟨_, rfl, true, rfl, ?_⟩
            simp only [up_same, if_true]
            refine ⟨hJ', fun e he => ?_⟩
            have hg2 := hSd.get e (by rw [← hLA'.out] at he; exact List.mem_cons_of_mem _ he)
            rw [← hLA'.out] at he
            simp only [List.mem_append] at he
            rcases he with he | he
            · rw [hErT'.out e he] at hg2
              rw [hErT'.out e he]
              exact hk'.2 _ _ _ hg2
            · rw [hk'.1 e.b (by simp only [List.mem_cons, List.mem_map, List.not_mem_nil, or_false] at he ⊢; rcases he with he | rfl | rfl; exact .inr ⟨e, .inr he, rfl⟩; exact .inr ⟨_, .inl rfl, rfl⟩; exact .inl rfl)]
              exact hg2
          · refine ⟨_, rfl, false, rfl, ?_⟩
            simp only [up_same, if_true, Bool.false_eq_true, if_false]
            exact hJx'
        refine fi_gval hF rfl (fun _ => rfl) rfl (fun χ => .bool (!(χ 13))) (fun χ χ' hh => (show Value.bool (!(χ 13)) = Value.bool (!(χ' 13)) by rw [hh 13 (.inr (by kernel_rfl))])) (fun G χ w hC => run_bnot _ _ rfl) ?_
        intro χ G w' hG hC
        have h13 := hG 13 (by simp)
        rw [h13, if_pos rfl] at hC
        cases hχ : χ 13 with
        | true =>
          rw [hχ, if_pos rfl] at hC
          simp only [Nat.reduceAdd, hχ, Bool.not_true]
          gi_wp2

          go_roundw
          case rel => exact ⟨k + 1, _, by omega, by go_num, by rw [List.map_append, hxs'.out, List.range_succ]; rfl, hC.1, hC.2⟩
          case measure => simp [intOf]; omega
        | false =>
          rw [hχ, if_neg (by simp)] at hC
          simp only [Nat.reduceAdd, hχ, Bool.not_false]
          gi_wp2
          refine bodyPost_ret (results_none rfl _ _ _) rfl ?_
          exact ⟨⟨_, rfl⟩, .inr ⟨_, ⟨k, hlt, by rw [List.map_append, hxs'.out]; rfl⟩, hC⟩⟩
      · obtain rfl : k = (tkP L).length := by omega
        gi_wp2_with (first | (refine wpListIn_is (.build _ _) rfl ?_; go_must (refine wpListIn_stp hF rfl rfl (stp_val (run_bd _ _ rfl) ?_))) | (refine wpListIn_is (.call { callee := .builtin .clear, args := #[_], argTypes := #[_] }) rfl ?_; go_must (refine wpListIn_stp hF rfl rfl (stp_cl _ _ rfl hS (by decide) ?_)); clear hS; intro w hS) | (refine wpListIn_is (.load _ _) rfl ?_; go_must (first | refine wpListIn_stp hF rfl rfl (stp_val (run_ld _ _ rfl hS) ?_) | refine wpListIn_stp hF rfl rfl (stp_val (run_lda _ _ rfl hS) ?_) | refine wpListIn_stp hF rfl rfl (stp_val (run_ld0 _ _ rfl hS) ?_) | refine wpListIn_stp hF rfl rfl (stp_val (run_lda0 _ _ rfl hS) ?_))) | (refine wpListIn_is (.store _ _ _) rfl ?_; go_must (first | refine wpListIn_stp hF rfl rfl (stp_st _ _ _ rfl hS ?_) | refine wpListIn_stp hF rfl rfl (stp_sta _ _ _ rfl hS ?_)); clear hS; intro w hS) | (refine wpListIn_is (.alloc _) rfl ?_; go_must (refine wpListIn_stp hF rfl rfl (stp_al _ rfl hS ?_)); clear hS; intro bN w hbN hS) | (refine wpListIn_is (.box _ _) rfl ?_; go_must (refine wpListIn_stp hF rfl rfl (stp_bx _ _ rfl hS ?_)); clear hS; intro bN w hbN hS))
        go_end0
        exact ⟨⟨_, rfl⟩, .inl ⟨_, hxs'.out, hJk⟩⟩
end Go.Proofs.Ytmhldlcjfmnkpaa
