/-
  The children of an object: the iterator over their slots.
-/
import Derived.Test.YtgpjanfphgjbbaaGreatFrf
import Derived.Test.YtgpjanfphgjbbaaGreatHeapC
set_option linter.unusedSimpArgs false
set_option linter.unusedVariables false
namespace Go.Proofs.YtgpjanfphgjbbaaGreat
open Go.RowKit Go.Mm
attribute [local go_sem] Oper.semAt_some
variable {R : Ending → World → Prop} {w : World} {w0 : World} {bs : List Nat} {H H' H1 E : List Ent}
theorem chgS {w w' : World} {bs : List Nat} (h : Chg w w' bs) (hs : ∀ b ∈ bs, w'.heap[b]? = w.heap[b]?) : Chg w w' [] :=
  ⟨h.os, h.tape, h.output, h.size, fun k hk _ => by
    by_cases hb : k ∈ bs
    · exact hs k hb
    · exact h.same k hk hb⟩
theorem stOf {W : World} {L : List Ent} (hE : ∀ e ∈ L, W.heap[e.b]? = some (.cells e.cs e.T (0, 0))) (hnd : L.Pairwise (fun x y => x.b ≠ y.b)) : St W (L.map (·.b)) W L :=
  St.start hE hnd (fun e he _ => List.mem_map_of_mem he)

def hsAt (T : Hp) (l : List (Int × Int)) (i : Nat) : Bool := hasH T (l.getD i (0, 0)).1 (l.getD i (0, 0)).2
/-- The slots of those references that name an object. -/
def chL (T : Hp) (l : List (Int × Int)) : List Int := (gl (hsAt T l) l.length).map (fun i => (l.getD i (0, 0)).1)
structure ChOf (T : Hp) (l : List (Int × Int)) where
  i : Nat
  lt : i < l.length
  is : hsAt T l i = true

set_option maxHeartbeats 4000000 in
set_option maxRecDepth 100000 in
theorem chl_stops {m : Nat} {p : Option Addr} {T : Hp} {n : Int} {F : List (Int × Int)} {hd : Bool} {lr : List (Int × Int)} (hlr : rfF F = lr) (hF4 : F.length = 4) (h1 : 1 ≤ m) (bh bx : Nat) {W : World}
    (hE : ∀ e ∈ ((⟨bh, #[.pointer p], 24, true⟩ : Ent) :: ⟨bx, objC n F hd, 80, true⟩ :: E), W.heap[e.b]? = some (.cells e.cs e.T (0, 0)))
    (hnd : ((⟨bh, #[.pointer p], 24, true⟩ : Ent) :: ⟨bx, objC n F hd, 80, true⟩ :: E).Pairwise (fun x y => x.b ≠ y.b)) (hT : HA p T E) :
    SeqStopsK Fence.wide m Tryz.prog 109 #[.pointer (some ⟨bx, 0, none⟩), .pointer (some ⟨bh, 0, none⟩)] (fun x : ChOf T lr => #[.int .i64 (lr.getD x.i (0, 0)).1]) (KeptT 47 (bh :: bx :: E.map (·.b)))
      (fun xs => xs.map (·.i) = gl (hsAt T lr) lr.length) (fun pre => ∃ k, k < lr.length ∧ hsAt T lr k = true ∧ pre.map (·.i) = gl (hsAt T lr) k ++ [k]) 5 W := by
  intro l J Jx W1 hW hJ hJx hY h0
  have hF := wide_fn
  have hE1 : ∀ e ∈ ((⟨bh, #[.pointer p], 24, true⟩ : Ent) :: ⟨bx, objC n F hd, 80, true⟩ :: E), W1.heap[e.b]? = some (.cells e.cs e.T (0, 0)) := fun e he => by
    have h1 := hE e he
    rw [hW.block e.b (lt_of_heap h1)]
    exact h1
  have hS := stOf hE1 hnd
  have hobA := objAll (n := n) (h := hd) hF4
  have hl4 : lr.length ≤ 4 := by rw [← hlr]; exact rfF_len F
  refine callsIn_of_wp Tryz.func109 rfl trivial ?_ rfl
  simp only [Tryz.ntmps109, List.size_toArray, List.length_cons, List.length_nil, Nat.reduceAdd, Nat.reduceSub, Array.replicate_succ, Array.replicate_zero, List.push_toArray, List.append_toArray, List.nil_append, List.cons_append]
  have hY' := Lib.hid hY
  have hJ' := Lib.hid hJ
  have hE1' := Lib.hid hE1
  clear hY hJ hJx hW hE hE1
  gi_wp2_with (first | (gi_at_call 110; refine callsIn_wide.2 (fd_refs hF4 hS ?_); clear hS; intro v1 Er w hRS hS; rw [hlr] at hRS; have hone := hRS.one; have hln := hRS.len rfl; unfold Ret) | (refine wpListIn_is (.call { callee := .builtin .len, args := #[_], argTypes := #[_] }) rfl ?_; refine wpListIn_stp hF rfl rfl (stp_val (run_lenv _ _ rfl) ?_)) | (refine wpListIn_is (.load _ _) rfl ?_; go_must ((refine wpListIn_stp hF rfl rfl (stp_val (run_lda _ _ rfl hS) ?_)))))
  obtain ⟨LA, hLA⟩ : ∃ LA, Er ++ ((⟨bh, #[.pointer p], 24, true⟩ : Ent) :: ⟨bx, objC n F hd, 80, true⟩ :: E) = LA := ⟨_, rfl⟩
  have hFA : ∀ e ∈ LA, w.heap[e.b]? = some (.cells e.cs e.T (0, 0)) := by rw [← hLA]; exact hS.get
  have hndA : LA.Pairwise (fun x y => x.b ≠ y.b) := by rw [← hLA]; exact hS.nd
  have hchg : Chg W1 w [] := chgS hS.chg (fun b' hb => by
    obtain ⟨e, he, rfl⟩ := List.mem_map.1 hb
    rw [hE1'.out e he, hFA e (by rw [← hLA]; exact List.mem_append_right _ he)])
  have hErT : ∀ e ∈ Er, e.T = 47 := by
    rcases hRS.or with ⟨_, _, rfl⟩ | ⟨g, cap, sp, _, rfl, _⟩
    · intro e he; cases he
    · intro e he
      obtain rfl := List.mem_singleton.1 he
      rfl
  have hkp : ∀ w1 w2, (∀ e ∈ LA, w1.heap[e.b]? = some (.cells e.cs e.T (0, 0))) → KeptT 47 (bh :: bx :: E.map (·.b)) w1 w2 → ∀ e ∈ LA, w2.heap[e.b]? = some (.cells e.cs e.T (0, 0)) := by
    intro w1 w2 hF1 hk e he
    have hg2 := hF1 e he
    rw [← hLA] at he
    simp only [List.mem_append] at he
    rcases he with he | he
    · rw [hErT e he] at hg2
      rw [hErT e he]
      exact hk.2 _ _ _ hg2
    · rw [hk.1 e.b (by simp only [List.mem_cons, List.mem_map] at he ⊢; rcases he with rfl | rfl | he; exact .inl rfl; exact .inr (.inl rfl); exact .inr (.inr ⟨e, he, rfl⟩))]
      exact hg2
  have hndA' := Lib.hid hndA
  have hkp' := Lib.hid hkp
  have hLA' := Lib.hid hLA
  gi_loopw [9] (fun v wr => ∃ (k : Nat) (xs : List (ChOf T lr)), k ≤ lr.length ∧ v = .int .i64 k ∧ xs.map (·.i) = gl (hsAt T lr) k ∧ J xs wr ∧ ∀ e ∈ LA, wr.heap[e.b]? = some (.cells e.cs e.T (0, 0))) (fun v _ => lr.length - (intOf v).toNat)
  case atStart => exact ⟨0, [], Nat.zero_le _, rfl, rfl, hJ'.out _ _ _ none h0 (hchg.grown none) (fun r e => by cases e), hFA⟩
  case round =>
    clear hS hFA hndA hchg hErT hkp
    obtain ⟨k, xs, hkl, rfl, hxs, hJk, hFk⟩ := hrel
    have hxs' := Lib.hid hxs
    have hFk' := Lib.hid hFk
    have hS := stOf hFk hndA'.out
    rw [← hLA] at hS
    clear hxs hFk hLA
    by_cases hlt : k < lr.length
    · obtain ⟨⟨s, g⟩, hx⟩ : ∃ x, lr.getD k (0, 0) = x := ⟨_, rfl⟩
      obtain ⟨gx, sp, ix, hh, hcx⟩ := hRS.at hlt hx
      have ix := ix k rfl
      simp only at hcx
      have hltI : (k : Int) < lr.length := by omega
      have hkb : (k : Int) < 5 := by omega
      cases hz : hasH T s g with
      | true =>
        have hst : hsAt T lr k = true := by unfold hsAt; rw [hx]; exact hz
        have hgl := Lib.hid (gl_yes hst)
        have hx' := Lib.hid hx
        have hst' := Lib.hid hst
        clear hx hst
        gi_wp2_with (first | (refine wpListIn_is (.indexAddr _ _ _) rfl ?_; refine wpListIn_stp hF rfl rfl (stp_val (run_idxv _ _ _ rfl) ?_)) | (refine wpListIn_is (.alloc 47) rfl ?_; go_must (refine wpListIn_stp hF rfl rfl (stp_al _ rfl hS ?_)); clear hS; intro br w hbr hS) | (gi_at_call 111; refine callsIn_wide.2 (hp_has hS hT s g true hz ?_); clear hS; intro w _ hS; unfold Ret) | (refine wpListIn_is (.load _ _) rfl ?_; go_must (first | refine wpListIn_stp hF rfl rfl (stp_val (run_ld _ _ rfl hS) ?_) | refine wpListIn_stp hF rfl rfl (stp_val (run_lda _ _ rfl hS) ?_))) | (refine wpListIn_is (.store _ _ _) rfl ?_; go_must ((refine wpListIn_stp hF rfl rfl (stp_sta _ _ _ rfl hS ?_))); clear hS; intro w hS))
        have hFw : ∀ e ∈ LA, w.heap[e.b]? = some (.cells e.cs e.T (0, 0)) := fun e he => hS.get e (by
          rw [← hLA'.out] at he; simp only [List.mem_cons, List.mem_append] at he ⊢; rcases he with he | rfl | rfl | he <;> simp [*])
        have hchg : Chg wr w [] := chgS hS.chg (fun b' hb => by
          obtain ⟨e, he, rfl⟩ := List.mem_map.1 hb
          rw [hLA'.out] at he
          rw [hFw e he, hFk'.out e he])
        have hJw := hJ'.out _ _ _ none hJk (hchg.grown none) (fun r e => by cases e)
        have hYw := hY'.out xs ⟨k, hlt, hst'.out⟩ _ hJw (by have := gl_len (hsAt T lr) k; have h2 := congrArg List.length hxs'.out; rw [List.length_map] at h2; omega)
        simp only [hx'.out] at hYw
        obtain ⟨fn, tmps, assign, body, hy, hRd⟩ := hYw
        rw [hy, Oper.uponIn_round]
        refine ⟨fun _ => h1, hRd.mono ?_⟩
        rintro e W' (⟨rfl, hJ', hk'⟩ | ⟨rfl, hJx'⟩)
        · gi_wp2
          go_roundw
          case rel => exact ⟨k + 1, _, by omega, by go_num, by rw [hgl.out, List.map_append, hxs'.out]; rfl, hJ', hkp'.out _ _ hFw hk'⟩
          case measure => simp [intOf]; omega
        · gi_wp2
          refine bodyPost_ret (results_none rfl _ _ _) rfl ?_
          exact ⟨⟨_, rfl⟩, .inr ⟨_, ⟨k, hlt, hst'.out, by rw [List.map_append, hxs'.out]; rfl⟩, hJx'⟩⟩
      | false =>
        have hst : hsAt T lr k = false := by unfold hsAt; rw [hx]; exact hz
        have hgl := Lib.hid (gl_no hst)
        clear hx hst
        gi_wp2_with (first | (refine wpListIn_is (.indexAddr _ _ _) rfl ?_; refine wpListIn_stp hF rfl rfl (stp_val (run_idxv _ _ _ rfl) ?_)) | (refine wpListIn_is (.alloc 47) rfl ?_; go_must (refine wpListIn_stp hF rfl rfl (stp_al _ rfl hS ?_)); clear hS; intro br w hbr hS) | (gi_at_call 111; refine callsIn_wide.2 (hp_has hS hT s g false hz ?_); clear hS; intro w _ hS; unfold Ret) | (refine wpListIn_is (.load _ _) rfl ?_; go_must (first | refine wpListIn_stp hF rfl rfl (stp_val (run_ld _ _ rfl hS) ?_) | refine wpListIn_stp hF rfl rfl (stp_val (run_lda _ _ rfl hS) ?_))) | (refine wpListIn_is (.store _ _ _) rfl ?_; go_must ((refine wpListIn_stp hF rfl rfl (stp_sta _ _ _ rfl hS ?_))); clear hS; intro w hS))
        have hFw : ∀ e ∈ LA, w.heap[e.b]? = some (.cells e.cs e.T (0, 0)) := fun e he => hS.get e (by
          rw [← hLA'.out] at he; simp only [List.mem_cons, List.mem_append] at he ⊢; rcases he with he | rfl | rfl | he <;> simp [*])
        have hchg : Chg wr w [] := chgS hS.chg (fun b' hb => by
          obtain ⟨e, he, rfl⟩ := List.mem_map.1 hb
          rw [hLA'.out] at he
          rw [hFw e he, hFk'.out e he])
        have hJw := hJ'.out _ _ _ none hJk (hchg.grown none) (fun r e => by cases e)
        go_roundw
        case rel => exact ⟨k + 1, xs, by omega, by go_num, by rw [hgl.out, hxs'.out], hJw, hFw⟩
        case measure => simp [intOf]; omega
    · obtain rfl : k = lr.length := by omega
      gi_wp2_with ((refine wpListIn_is (.build _ _) rfl ?_; go_must (refine wpListIn_stp hF rfl rfl (stp_val (run_bd _ _ rfl) ?_))))
      go_end0
      exact ⟨⟨_, rfl⟩, .inl ⟨_, hxs'.out, hJk⟩⟩
end Go.Proofs.YtgpjanfphgjbbaaGreat
