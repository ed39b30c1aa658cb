/-
  Tables of slots: the iterator over the slots of a state; taking a slot; the slots that are taken.
-/
import Derived.Test.YtjlihigodggfcaaGreatSlotsB
set_option linter.unusedSimpArgs false
set_option linter.unusedVariables false
namespace Go.Proofs.YtjlihigodggfcaaGreat
open Go.RowKit Go.Mm
attribute [local go_sem] Oper.semAt_some
variable {R : Ending → World → Prop} {w : World} {w0 : World} {bs : List Nat} {H H' H1 E : List Ent} {L X : List (Int × Int)} {b : Nat} {n : Int}

instance s_tp : ScalarT Tryz.prog 99 := ⟨by kernel_rfl, by kernel_rfl⟩
def lsOf : Tb → List (Int × Int)
  | none => []
  | some L => L
theorem valid_in {m : Nat} {W : World} (hP : TabAt W b n X) (v : Bool) (hv : decide (0 < n) = v) (hR : Ret R (.bool v) W) : CallsIn Fence.wide m Tryz.prog 121 #[.pointer (some ⟨b, 0, none⟩)] W R := callsIn_wide.2 (valid_at hP v hv hR)
theorem validnil_in {m : Nat} {W : World} (hR : Ret R (.bool false) W) : CallsIn Fence.wide m Tryz.prog 121 #[.pointer none] W R := callsIn_wide.2 (valid_nil hR)

/-- The slots of a state. -/
structure SltOf (st : Int) (L : List (Int × Int)) where
  i : Nat
  lt : i < L.length
  is : isSt st L i = true
theorem in_stops {m : Nat} {p : Option Addr} {T : Tb} {L : List (Int × Int)} (hL : lsOf T = L) {st : Int} (h1 : 1 ≤ m) (bp bf : Nat) {W : World}
    (hE : ∀ e ∈ ((⟨bp, #[.pointer p], 99, true⟩ : Ent) :: ⟨bf, #[.int .i64 st], 3, true⟩ :: E), W.heap[e.b]? = some (.cells e.cs e.T (0, 0)))
    (hnd : ((⟨bp, #[.pointer p], 99, true⟩ : Ent) :: ⟨bf, #[.int .i64 st], 3, true⟩ :: E).Pairwise (fun x y => x.b ≠ y.b)) (hT : TA p T E) :
    SeqStopsK Fence.wide m Tryz.prog 127 #[.pointer (some ⟨bp, 0, none⟩), .pointer (some ⟨bf, 0, none⟩)] (fun i : SltOf st L => #[.int .i64 (i.i : Nat), .int .u32 (L.getD i.i (0, 0)).2]) (Kept (bp :: bf :: E.map (·.b)))
      (fun xs => xs.map (·.i) = gl (isSt st L) L.length) (fun pre => ∃ k, k < L.length ∧ isSt st L k = true ∧ pre.map (·.i) = gl (isSt st L) k ++ [k]) 257 W := by
  intro l J Jx W1 hW hJ hJx hY h0
  have hF := wide_fn
  have hk : ∀ W', Kept (bp :: bf :: E.map (·.b)) W1 W' → St W' [] W' (⟨bp, #[.pointer p], 99, false⟩ :: ⟨bf, #[.int .i64 st], 3, false⟩ :: ro E) := by
    intro W' hk
    refine ro_start (E := (⟨bp, #[.pointer p], 99, true⟩ : Ent) :: ⟨bf, #[.int .i64 st], 3, true⟩ :: E) (fun e he => ?_) hnd
    have h1 := hE e he
    rw [hk e.b, hW.block e.b (lt_of_heap h1)]
    · exact h1
    · simp only [List.mem_cons] at he
      rcases he with rfl | rfl | he
      · simp
      · simp
      · simp only [List.mem_cons, List.mem_map]; exact .inr (.inr ⟨e, he, rfl⟩)
  have hS := hk W1 (fun _ _ => rfl)
  clear hE hnd
  refine callsIn_of_wp Tryz.func127 rfl trivial ?_ rfl
  simp only [Tryz.ntmps127, List.size_toArray, List.length_cons, List.length_nil, Nat.reduceAdd, Nat.reduceSub, Array.replicate_succ, Array.replicate_zero, List.push_toArray, List.append_toArray, List.nil_append, List.cons_append]
  rcases T with _ | L'
  · obtain ⟨rfl, rfl⟩ := hT
    obtain rfl : L = [] := hL.symm
    clear hk hJ hJx hY hW
    simp only [ro, List.map_nil] at hS
    gi_wp2_with (first | (gi_at_call 121; refine validnil_in ?_; unfold Ret) | (refine wpListIn_is (.load _ _) rfl ?_; go_must ((refine wpListIn_stp hF rfl rfl (stp_val (run_ld _ _ rfl hS) ?_)))))
    refine bodyPost_ret (results_none rfl _ _ _) rfl ?_
    exact ⟨⟨_, rfl⟩, .inl ⟨[], rfl, h0⟩⟩
  obtain rfl : L = L' := hL.symm
  obtain ⟨hw, b, rfl, rfl⟩ := hT
  simp only [List.map_cons, List.map_nil] at *
  by_cases hl : 0 < L.length
  · have hval : decide ((0 : Int) < L.length) = true := by simpa using hl
    have h256 : (L.length : Int) ≤ 256 := by have := hw.hi; omega
    have hk' := Lib.hid hk
    have hY' := Lib.hid hY
    have hJ' := Lib.hid hJ
    clear hl hk hJx hY hJ hW
    simp only [ro, List.map_cons, List.map_nil] at hS
    gi_wp2_with (first | (gi_at_call 121; refine valid_in (hS.has inferInstance) _ hval ?_; unfold Ret) | (refine wpListIn_is (.load _ _) rfl ?_; go_must ((refine wpListIn_stp hF rfl rfl (stp_val (run_ld _ _ rfl hS) ?_)))) | (refine wpIn_wide.2 ?_; (refine region_quiet hS (by kernel_rfl) (by kernel_rfl) (fun hne => ?_); (repeat ((go_big_quiet_want; first | (refine quiet_is (.load _ _) rfl ?_; go_must ((refine quiet_at sw_st (fun w hS => run_ld _ _ rfl hS) ?_)); go_big_quiet_on) | (go_big_quiet_op; go_big_quiet_on)))); refine wpQuiet_nil ?_; clear hS hne; intro w hS)))
    have hlt0 : ∀ x ∈ [bp, bf, b], x < W1.heap.size := by
      intro x hx
      have := hk'.out W1 (fun _ _ => rfl)
      simp only [List.mem_cons, List.not_mem_nil, or_false] at hx
      rcases hx with rfl | rfl | rfl
      · exact this.lt (e := ⟨_, _, _, _⟩) (.head _)
      · exact this.lt (e := ⟨_, _, _, _⟩) (.tail _ (.head _))
      · exact this.lt (e := ⟨_, _, _, _⟩) (.tail _ (.tail _ (.head _)))
    have hlt' := Lib.hid hlt0
    clear hlt0
    gi_loopw [18] (fun v wr => ∃ (k : Nat) (xs : List (SltOf st L)), k ≤ L.length ∧ v = .int .i64 k ∧ xs.map (·.i) = gl (isSt st L) k ∧ J xs wr ∧ Kept [bp, bf, b] W1 wr) (fun v _ => L.length - (intOf v).toNat)
    case atStart => exact ⟨0, [], Nat.zero_le _, rfl, rfl, hJ'.out _ _ _ none h0 (hS.chg.grown none) (fun r e => by cases e), kept_chg hS.chg hlt'.out⟩
    case round =>
      clear hS
      obtain ⟨k, xs, hkl, rfl, hxs, hJk, hkk⟩ := hrel
      have hxs' := Lib.hid hxs
      clear hxs
      have hS := hk'.out wr hkk
      simp only [ro, List.map_cons, List.map_nil] at hS
      by_cases hlt : k < L.length
      · have hb := tabBoth (n := L.length) (padL_get hlt)
        obtain ⟨⟨s, g⟩, hx⟩ : ∃ x, L.getD k (0, 0) = x := ⟨_, rfl⟩
        rw [hx] at hb
        simp only at hb
        by_cases hs : s = st
        · have hst : isSt st L k = true := by unfold isSt; rw [hx]; simpa using hs
          have hgl := Lib.hid (gl_yes hst)
          have q : (s == st) = true := by simpa using hs
          have hx' := Lib.hid hx
          have hst' := Lib.hid hst
          clear hx hs hst
          gi_wp2_with (first | (refine wpListIn_is (.load _ _) rfl ?_; go_must (first | refine wpListIn_stp hF rfl rfl (stp_val (run_ld _ _ rfl hS) ?_) | refine wpListIn_stp hF rfl rfl (stp_val (run_lda _ _ rfl hS) ?_))) | (refine wpListIn_is (.store _ _ _) rfl ?_; go_must ((refine wpListIn_stp hF rfl rfl (stp_sta _ _ _ rfl hS ?_))); clear hS; intro w hS) | (refine wpListIn_is (.alloc _) rfl ?_; go_must (refine wpListIn_stp hF rfl rfl (stp_al _ rfl hS ?_)); clear hS; intro bN w hbN hS))
          have hJw := hJ'.out _ _ _ none hJk (hS.chg.grown none) (fun r e => by cases e)
          have hkw := hkk.trans (kept_chg (bs := [bp, bf, b]) hS.chg (fun x hx => by have := hlt'.out x hx; have h2 := hkk x hx; exact kept_lt h2 this))
          have hYw := hY'.out xs ⟨k, hlt, hst'.out⟩ _ hJw (by have := gl_len (isSt st L) k; have h2 := congrArg List.length hxs'.out; rw [List.length_map] at h2; omega)
          simp only [hx'.out] at hYw
          obtain ⟨fn, tmps, assign, body, hy, hRd⟩ := hYw
          rw [hy, Oper.uponIn_round]
          refine ⟨fun _ => h1, hRd.mono ?_⟩
          rintro e W' (⟨rfl, hJ', hk'⟩ | ⟨rfl, hJx'⟩)
          · gi_wp2
            go_roundw
            case rel => exact ⟨k + 1, _, by omega, by go_num, by rw [hgl.out, List.map_append, hxs'.out]; rfl, hJ', hkw.trans hk'⟩
            case measure => simp [intOf]; omega
          · gi_wp2
            refine bodyPost_ret (results_none rfl _ _ _) rfl ?_
            exact ⟨⟨_, rfl⟩, .inr ⟨_, ⟨k, hlt, hst'.out, by rw [List.map_append, hxs'.out]; rfl⟩, hJx'⟩⟩
        · have hst : isSt st L k = false := by unfold isSt; rw [hx]; simpa using hs
          have hgl := Lib.hid (gl_no hst)
          have q : (s == st) = false := by simpa using hs
          clear hx hs hst
          gi_wp2_with (first | (refine wpListIn_is (.load _ _) rfl ?_; go_must (first | refine wpListIn_stp hF rfl rfl (stp_val (run_ld _ _ rfl hS) ?_) | refine wpListIn_stp hF rfl rfl (stp_val (run_lda _ _ rfl hS) ?_))) | (refine wpListIn_is (.store _ _ _) rfl ?_; go_must ((refine wpListIn_stp hF rfl rfl (stp_sta _ _ _ rfl hS ?_))); clear hS; intro w hS) | (refine wpListIn_is (.alloc _) rfl ?_; go_must (refine wpListIn_stp hF rfl rfl (stp_al _ rfl hS ?_)); clear hS; intro bN w hbN hS))
          have hJw := hJ'.out _ _ _ none hJk (hS.chg.grown none) (fun r e => by cases e)
          have hkw := hkk.trans (kept_chg (bs := [bp, bf, b]) hS.chg (fun x hx => by have := hlt'.out x hx; have h2 := hkk x hx; exact kept_lt h2 this))
          go_roundw
          case rel => exact ⟨k + 1, xs, by omega, by go_num, by rw [hgl.out, hxs'.out], hJw, hkw⟩
          case measure => simp [intOf]; omega
      · obtain rfl : k = L.length := by omega
        gi_wp2_with ((refine wpListIn_is (.build _ _) rfl ?_; go_must (refine wpListIn_stp hF rfl rfl (stp_val (run_bd _ _ rfl) ?_))))
        go_end0
        exact ⟨⟨_, rfl⟩, .inl ⟨_, hxs'.out, hJk⟩⟩
  · have hval : decide ((0 : Int) < L.length) = false := by simpa using hl
    have hn : L.length = 0 := by omega
    clear hl hk hJ hJx hY hW
    simp only [ro, List.map_cons, List.map_nil] at hS
    gi_wp2_with (first | (gi_at_call 121; refine valid_in (hS.has inferInstance) _ hval ?_; unfold Ret) | (refine wpListIn_is (.load _ _) rfl ?_; go_must ((refine wpListIn_stp hF rfl rfl (stp_val (run_ld _ _ rfl hS) ?_)))))
    refine bodyPost_ret (results_none rfl _ _ _) rfl ?_
    have e0 : gl (isSt st L) L.length = [] := by rw [hn]; rfl
    exact ⟨⟨_, rfl⟩, .inl ⟨[], e0.symm, h0⟩⟩

theorem in_clo {W : World} {st : Int} {p : Option Addr} (hO : St w0 bs W H)
    (hR : ∀ bp bf w', St w0 bs w' (⟨bf, #[.int .i64 st], 3, true⟩ :: ⟨bp, #[.pointer p], 99, true⟩ :: H) → Ret R (.func (.func 127) #[] #[.pointer (some ⟨bp, 0, none⟩), .pointer (some ⟨bf, 0, none⟩)]) w') :
    Calls Tryz.prog 118 #[.pointer p, .int .i64 st] W R := by
  have hS := hO
  go_enter Tryz.func118, Tryz.ntmps118
  go_wp2_with ((refine wpList_is (.box _ _) rfl ?_; go_must (refine wpList_stp (by kernel_rfl) (stp_bx _ _ rfl hS ?_)); clear hS; intro bN w hbN hS))
  exact hR _ _ _ hS

/-! The slots that are taken -/
theorem tkL_of (T : Tb) : tkL T = (gl (isSt 1 (lsOf T)) (lsOf T).length).map (refOf (lsOf T)) := by
  cases T <;> rfl

set_option maxRecDepth 100000 in
set_option maxHeartbeats 4000000 in
theorem sl_taken {W : World} {p : Option Addr} {T : Tb} (hO : St w0 bs W H) (hT : TA p T E) [hc : Cut H E H1]
    (hR : ∀ v E' w', RS v (tkL T) E' → TA p T E → St w0 bs w' (E' ++ (E ++ H1)) → Ret R v w') : Calls Tryz.prog 94 #[.pointer p] W R := by
  have hS := hO.front (E := E) (H1 := H1)
  clear hO
  have hlen : (lsOf T).length ≤ 256 := by
    cases T with
    | none => simp [lsOf]
    | some L => exact hT.1.hi
  refine (callsIn_wide (n := 3)).1 ?_
  have hF := wide_fn
  refine callsIn_of_wp_marks Tryz.func94 rfl trivial ?_ rfl
  simp only [Tryz.ntmps94, List.size_toArray, List.length_cons, List.length_nil, Nat.reduceAdd, Nat.reduceSub, Array.replicate_succ, Array.replicate_zero, List.push_toArray, List.append_toArray, List.nil_append, List.cons_append]
  gi_wp2_with (first | (gi_at_call 118; refine callsIn_wide.2 (in_clo hS ?_); clear hS; intro bp bf w hS; unfold Ret) | (refine wpListIn_is (.alloc _) rfl ?_; go_must (refine wpListIn_stp hF rfl rfl (stp_al _ rfl hS ?_)); clear hS; intro bN w hbN hS))
  have hnd := hS.nd
  have hstop := in_stops (m := 3 - 1) (p := p) (T := T) rfl (st := 1) (E := E) (by omega) bp bf (W := w) (fun e he => by
    simp only [List.mem_cons] at he
    rcases he with rfl | rfl | he
    · exact hS.get _ (.tail _ (.head _))
    · exact hS.get _ (.head _)
    · exact hS.get _ (by simp [he])) (by
    simp only [List.pairwise_cons, List.mem_cons, List.mem_append, forall_eq_or_imp] at hnd ⊢
    obtain ⟨⟨n1, n2, n3⟩, ⟨n4, n5⟩, ⟨n6, n7⟩⟩ := hnd
    refine ⟨⟨fun e => n1 e.symm, fun a ha => n5 a (.inl ha)⟩, fun a ha => n3 a (.inl ha), (List.pairwise_append.1 n7).1⟩) hT
  refine range_st (w0 := w0) (bs := bs) (X := Value × List Ent) (Y := Unit) (by omega) (gf := 127) (lb := #[.pointer (some ⟨bp, 0, none⟩), .pointer (some ⟨bf, 0, none⟩)]) rfl (enters _ (by kernel_rfl))
    (K := ⟨bp, #[.pointer p], 99, true⟩ :: ⟨bf, #[.int .i64 1], 3, true⟩ :: E) hS.chg.size ?_
    hstop (fun _ => rfl)
    (fun pre x => pre.length ≤ 257 ∧ RS x.1 (pre.map (fun a => refOf (lsOf T) a.i)) x.2) (fun _ x => ⟨bf, #[.int .i64 1], 3, true⟩ :: ⟨bp, #[.pointer p], 99, true⟩ :: ⟨bN, #[x.1], 81, true⟩ :: (x.2 ++ (E ++ H1))) ?_
    (fun _ _ _ => False) (fun _ _ _ => [])
    (x0 := (.slice none 0 0, [])) ⟨by simp, RS.nil⟩ hS
    (fun x => { tmps := #[.pointer p, undef, .slice none 0 0, .pointer (some ⟨bN, 0, none⟩), .int .i64 (x.i : Nat), .int .u32 ((lsOf T).getD x.i (0, 0)).2, .pointer p, .func (.func 127) #[] #[.pointer (some ⟨bp, 0, none⟩), .pointer (some ⟨bf, 0, none⟩)], .int .i64 (x.i : Nat), .int .u32 ((lsOf T).getD x.i (0, 0)).2, undef, undef, undef, undef, undef, undef, undef], defers := [] }) ?assign ?body ?done ?stop
  · intro e he
    refine hS.lt ?_
    simp only [List.mem_cons, List.mem_append] at he ⊢
    rcases he with rfl | rfl | he <;> simp [*]
  · intro _ _ _ e he
    simp only [List.mem_cons, List.mem_append] at he ⊢
    rcases he with rfl | rfl | he <;> simp [*]
  case assign =>
    clear hnd hstop hS hT hR hlen
    intro l x W K hK
    have hF := wide_in l
    gi_wp2
    exact hK
  case body =>
    clear hnd hstop hS hR
    rintro l pre el ⟨v, E0⟩ w2 ⟨_, hsl⟩ hlt hS
    have hF := wide_in l
    have hpl : (pre.map (fun a => refOf (lsOf T) a.i)).length ≤ 256 := by rw [List.length_map]; omega
    have hsl : Sl 25 2 v (pre.map (fun a => refOf (lsOf T) a.i)).length ((pre.map (fun a => refOf (lsOf T) a.i)).flatMap slf) E0 := hsl
    have hone0 := hsl.one
    simp only at hS
    gi_wp2_with (first | (refine wpListIn_is (.buildSlice _ _ _) rfl ?_; go_must (refine wpListIn_stp hF rfl rfl (stp_bsl _ _ _ rfl hS (by decide) rfl (by decide) (by decide) ?_)); clear hS; intro bN w hbN hS) | (refine wpListIn_is (.call { callee := .builtin .append, args := #[_, _], argTypes := #[_, _] }) rfl ?_; go_must (refine wpListIn_stp hF rfl rfl (stp_ap _ _ _ _ rfl rfl hS (by rfl) hsl (by rfl) (by simp only [maxLen]; omega) (by omega) ?_)); clear hS; intro v' E' w hsl' hne hS; have hone := hsl'.one) | (refine wpListIn_is (.build _ _) rfl ?_; go_must (refine wpListIn_stp hF rfl rfl (stp_val (run_bd _ _ rfl) ?_))) | (refine wpListIn_is (.load _ _) rfl ?_; go_must ((refine wpListIn_stp hF rfl rfl (stp_val (run_ld _ _ rfl hS) ?_)))) | (refine wpListIn_is (.store _ _ _) rfl ?_; go_must ((refine wpListIn_stp hF rfl rfl (stp_st _ _ _ rfl hS ?_))); clear hS; intro w hS))
    refine ⟨(v', E'), ⟨by rw [List.length_append]; simp only [List.length_map] at hpl; simp only [List.length_cons, List.length_nil]; omega, ?_⟩, hS.pick⟩
    rw [List.map_append]
    exact RS.snoc hsl'
  case done =>
    rintro d xs ⟨v, E0⟩ w2 hxs ⟨_, hsl⟩ hS0 hd
    clear hnd hstop hS
    have hS := hS0.rebase
    have hone0 := Sl.one hsl
    simp only at hS
    gi_wp2_with ((refine wpListIn_is (.load _ _) rfl ?_; go_must ((refine wpListIn_stp hF rfl rfl (stp_val (run_ld _ _ rfl hS) ?_)))))
    refine leave_st hd hS0 hS (fun W3 hS3 => ⟨v, res_tmp1 rfl, ?_⟩)
    have e : xs.map (fun a => refOf (lsOf T) a.i) = tkL T := by rw [tkL_of, ← hxs, List.map_map]; rfl
    rw [e] at hsl
    exact hR v E0 W3 hsl hT hS3.pick
  case stop =>
    rintro d c pre y w2 _ hf
    exact hf.elim

set_option maxRecDepth 100000 in
set_option maxHeartbeats 4000000 in
theorem sl_take {W : World} {p : Option Addr} {T : Tb} (hO : St w0 bs W H) (hT : TA p T E) [hc : Cut H E H1]
    (hR : ∀ E' w', TA p (tkT T) E' → St w0 bs w' (E' ++ H1) → Ret R (.tuple #[.agg #[.int .i64 (tkS T), .int .u32 (tkG T)], .int .i64 (tkE T)]) w') : Calls Tryz.prog 101 #[.pointer p] W R := by
  have hS := hO.front (E := E) (H1 := H1)
  clear hO
  by_cases hok : tbOk T = true
  · rcases T with _ | L
    · cases hok
    have hl : 0 < L.length := by simpa [tbOk] using hok
    obtain ⟨hw, b, rfl, rfl⟩ := id hT
    simp only [List.cons_append, List.nil_append] at hS
    have hval : decide ((0 : Int) < L.length) = true := by simpa using hl
    have h256 : L.length ≤ 256 := hw.hi
    have hl' := Lib.hid hl
    clear hl hok
    refine (callsIn_wide (n := 3)).1 ?_
    have hF := wide_fn
    refine callsIn_of_wp_marks Tryz.func101 rfl trivial ?_ rfl
    simp only [Tryz.ntmps101, List.size_toArray, List.length_cons, List.length_nil, Nat.reduceAdd, Nat.reduceSub, Array.replicate_succ, Array.replicate_zero, List.push_toArray, List.append_toArray, List.nil_append, List.cons_append]
    gi_wp2_with (first | (refine wpListIn_is (.alloc 25) rfl ?_; go_must (refine wpListIn_stp hF rfl rfl (stp_al _ rfl hS ?_)); clear hS; intro br w _ hS) | (refine wpListIn_is (.alloc 28) rfl ?_; go_must (refine wpListIn_stp hF rfl rfl (stp_al _ rfl hS ?_)); clear hS; intro be w _ hS) | (refine wpListIn_is (.box 99 _) rfl ?_; go_must (refine wpListIn_stp hF rfl rfl (stp_bx _ _ rfl hS ?_)); clear hS; intro bt w _ hS) | (gi_at_call 121; refine valid_in (hS.has inferInstance) _ hval ?_; unfold Ret) | (gi_at_call 118; refine callsIn_wide.2 (in_clo hS ?_); clear hS; intro bp bf w hS; unfold Ret) | (refine wpListIn_is (.load _ _) rfl ?_; go_must ((refine wpListIn_stp hF rfl rfl (stp_val (run_ld _ _ rfl hS) ?_)))))
    have hnd := hS.nd
    have hstop := in_stops (m := 3 - 1) (p := some ⟨b, 0, none⟩) (T := some L) (L := L) rfl (st := 0) (E := [⟨b, tabC L.length (padL L), 137, true⟩]) (by omega) bp bf (W := w) (fun e he => by
      simp only [List.mem_cons, List.not_mem_nil, or_false] at he
      rcases he with rfl | rfl | rfl
      · exact hS.get _ (.tail _ (.head _))
      · exact hS.get _ (.head _)
      · exact hS.get _ (by simp)) (by
      simp only [List.pairwise_cons, List.mem_cons, List.mem_append, forall_eq_or_imp] at hnd ⊢
      simp only [List.not_mem_nil, false_implies, implies_true, and_true, List.Pairwise.nil]
      exact ⟨⟨fun e => hnd.1.1 e.symm, hnd.2.1.2.2.2.1⟩, hnd.1.2.2.2.2.1⟩) hT
    refine range_st (w0 := w0) (bs := bs) (X := Unit) (Y := SltOf 0 L) (by omega) (gf := 127) (lb := #[.pointer (some ⟨bp, 0, none⟩), .pointer (some ⟨bf, 0, none⟩)]) rfl (enters _ (by kernel_rfl))
      (K := [⟨bp, #[.pointer (some ⟨b, 0, none⟩)], 99, true⟩, ⟨bf, #[.int .i64 0], 3, true⟩, ⟨b, tabC L.length (padL L), 137, true⟩]) hS.chg.size ?_
      hstop (fun _ => rfl)
      (fun pre _ => pre = []) (fun _ _ => ⟨bf, #[.int .i64 0], 3, true⟩ :: ⟨bp, #[.pointer (some ⟨b, 0, none⟩)], 99, true⟩ :: ⟨be, #[.int .i64 0], 28, true⟩ :: ⟨br, #[.int .i64 0, .int .u32 0], 25, true⟩ :: ⟨bt, #[.pointer (some ⟨b, 0, none⟩)], 99, true⟩ :: ⟨b, tabC L.length (padL L), 137, true⟩ :: H1) ?_
      (fun c pre y => c = .ret ∧ pre = [y]) (fun _ _ y => ⟨bf, #[.int .i64 0], 3, true⟩ :: ⟨bp, #[.pointer (some ⟨b, 0, none⟩)], 99, true⟩ :: ⟨be, #[.int .i64 0], 28, true⟩ :: ⟨br, #[.int .i64 (y.i : Nat), .int .u32 (L.getD y.i (0, 0)).2], 25, true⟩ :: ⟨bt, #[.pointer (some ⟨b, 0, none⟩)], 99, true⟩ ::
        ⟨b, tabC L.length (padL (L.set y.i (1, (L.getD y.i (0, 0)).2))), 137, true⟩ :: H1)
      (x0 := ()) rfl hS
      (fun x => { tmps := #[.pointer (some ⟨b, 0, none⟩), .pointer (some ⟨bt, 0, none⟩), .pointer (some ⟨br, 0, none⟩), .pointer (some ⟨be, 0, none⟩), .int .i64 (x.i : Nat), .int .u32 (L.getD x.i (0, 0)).2, .pointer (some ⟨b, 0, none⟩), .bool true, .bool false, undef, .pointer (some ⟨b, 0, none⟩),
        .func (.func 127) #[] #[.pointer (some ⟨bp, 0, none⟩), .pointer (some ⟨bf, 0, none⟩)], .int .i64 (x.i : Nat), .int .u32 (L.getD x.i (0, 0)).2, undef, undef, undef, undef, undef, undef, undef, undef, undef, undef], defers := [] }) ?assign ?body ?done ?stop
    · intro e he
      refine hS.lt ?_
      simp only [List.mem_cons, List.not_mem_nil, or_false] at he ⊢
      rcases he with rfl | rfl | rfl <;> simp
    · intro _ _ _ e he
      simp only [List.mem_cons, List.not_mem_nil, or_false] at he ⊢
      rcases he with rfl | rfl | rfl <;> simp
    case assign =>
      clear hnd hstop hS hT hR
      intro l x W K hK
      have hF := wide_in l
      gi_wp2
      exact hK
    case body =>
      clear hnd hstop hS hR
      rintro l pre ⟨k, hk, hst⟩ ⟨⟩ w2 rfl _ hS
      have hF := wide_in l
      have hset := tabStateSet (n := L.length) (padL_get hk) 1
      rw [padL_set hk] at hset
      obtain ⟨g, hg⟩ : ∃ g, (L.getD k (0, 0)).2 = g := ⟨_, rfl⟩
      rw [hg] at hset
      have hki : (k : Int) < 256 := by omega
      simp only [hg]
      have hg' := Lib.hid hg
      clear hg
      gi_wp2_with (first | (refine wpListIn_is (.build _ _) rfl ?_; go_must (refine wpListIn_stp hF rfl rfl (stp_val (run_bd _ _ rfl) ?_))) | (refine wpListIn_is (.load _ _) rfl ?_; go_must ((refine wpListIn_stp hF rfl rfl (stp_val (run_ld _ _ rfl hS) ?_)))) | (refine wpListIn_is (.store _ _ _) rfl ?_; go_must (first | refine wpListIn_stp hF rfl rfl (stp_st _ _ _ rfl hS ?_) | refine wpListIn_stp hF rfl rfl (stp_sta _ _ _ rfl hS ?_)); clear hS; intro w hS))
      refine ⟨⟨k, hk, hst⟩, ⟨rfl, rfl⟩, ?_⟩
      obtain rfl := hg'.out
      exact hS.pick
    case done =>
      rintro d xs ⟨⟩ w2 hxs hnil hS0 hd
      have hS := hS0.rebase
      gi_wp2_with (first | (refine wpListIn_is (.build _ _) rfl ?_; go_must (refine wpListIn_stp hF rfl rfl (stp_val (run_bd _ _ rfl) ?_))) | (refine wpListIn_is (.store _ _ _) rfl ?_; go_must (first | refine wpListIn_stp hF rfl rfl (stp_st _ _ _ rfl hS ?_) | refine wpListIn_stp hF rfl rfl (stp_sta _ _ _ rfl hS ?_)); clear hS; intro w hS))
      refine leave_st hd hS0 hS (fun W3 hS3 => ⟨_, res_cells2 rfl hS3, ?_⟩)
      have e : tkI (some L) = none := by
        refine first_none ?_
        rw [← hxs, hnil]; rfl
      obtain ⟨e1, e2, e3, e4⟩ := tk_none hl'.out e
      rw [e1, e2, e3, tkT, e4] at hR
      exact hR _ _ hT hS3.pick
    case stop =>
      rintro d c pre y w2 ⟨k, hk, hg, hpre⟩ ⟨rfl, rfl⟩ hS0 hd
      gi_wp2
      refine leave_st hd hS0 hS0.rebase (fun W3 hS3 => ⟨_, res_cells2 rfl hS3, ?_⟩)
      have e : tkI (some L) = some y.i := first_some hk hg hpre
      obtain ⟨e1, e2, e3, e4, e5, e6, _⟩ := tk_some e
      rw [e1, e2, e3, tkT, e4] at hR
      refine hR _ _ ⟨hw.set _ (by simp) (hw.gn (L.getD y.i (0, 0)) (getD_mem e5)), b, rfl, rfl⟩ ?_
      rw [List.length_set]
      exact hS3.pick
  · have hok' : tbOk T = false := by simpa using hok
    have e1 : tkE T = 1 := by unfold tkE; rw [hok']; rfl
    have e0 : tkS T = 0 ∧ tkG T = 0 ∧ tkT T = T := by
      rcases T with _ | L
      · exact ⟨rfl, rfl, rfl⟩
      · have hn : L = [] := by
          have : L.length = 0 := by simpa [tbOk] using hok'
          exact List.eq_nil_of_length_eq_zero this
        subst hn
        exact ⟨rfl, rfl, rfl⟩
    rw [e1, e0.1, e0.2.1, e0.2.2] at hR
    rcases T with _ | L
    · obtain ⟨rfl, rfl⟩ := id hT
      simp only [List.nil_append] at hS
      clear e1 e0 hok hok'
      go_enter Tryz.func101, Tryz.ntmps101
      go_wp2_with (first | (go_at_call 121; refine valid_nil ?_; unfold Ret) | (refine wpList_is (.build _ _) rfl ?_; go_must (refine wpList_stp (by kernel_rfl) (stp_val (run_bd _ _ rfl) ?_))) | (refine wpList_is (.load _ _) rfl ?_; go_must ((refine wpList_stp (by kernel_rfl) (stp_val (run_ld _ _ rfl hS) ?_)))) | (refine wpList_is (.store _ _ _) rfl ?_; go_must (first | refine wpList_stp (by kernel_rfl) (stp_st _ _ _ rfl hS ?_) | refine wpList_stp (by kernel_rfl) (stp_sta _ _ _ rfl hS ?_)); clear hS; intro w hS) | (refine wpList_is (.alloc _) rfl ?_; go_must (refine wpList_stp (by kernel_rfl) (stp_al _ rfl hS ?_)); clear hS; intro bN w hbN hS) | (refine wpList_is (.box _ _) rfl ?_; go_must (refine wpList_stp (by kernel_rfl) (stp_bx _ _ rfl hS ?_)); clear hS; intro bN w hbN hS))
      refine bodyPost_ret (res_cells2 rfl hS) rfl ?_
      exact hR _ _ hT hS.pick
    · obtain ⟨hw, b, rfl, rfl⟩ := id hT
      simp only [List.cons_append, List.nil_append] at hS
      have hval : decide ((0 : Int) < L.length) = false := by simpa [tbOk] using hok'
      clear e1 e0 hok hok'
      go_enter Tryz.func101, Tryz.ntmps101
      go_wp2_with (first | (go_at_call 121; refine valid_at (hS.has inferInstance) _ hval ?_; unfold Ret) | (refine wpList_is (.build _ _) rfl ?_; go_must (refine wpList_stp (by kernel_rfl) (stp_val (run_bd _ _ rfl) ?_))) | (refine wpList_is (.load _ _) rfl ?_; go_must ((refine wpList_stp (by kernel_rfl) (stp_val (run_ld _ _ rfl hS) ?_)))) | (refine wpList_is (.store _ _ _) rfl ?_; go_must (first | refine wpList_stp (by kernel_rfl) (stp_st _ _ _ rfl hS ?_) | refine wpList_stp (by kernel_rfl) (stp_sta _ _ _ rfl hS ?_)); clear hS; intro w hS) | (refine wpList_is (.alloc _) rfl ?_; go_must (refine wpList_stp (by kernel_rfl) (stp_al _ rfl hS ?_)); clear hS; intro bN w hbN hS) | (refine wpList_is (.box _ _) rfl ?_; go_must (refine wpList_stp (by kernel_rfl) (stp_bx _ _ rfl hS ?_)); clear hS; intro bN w hbN hS))
      refine bodyPost_ret (res_cells2 rfl hS) rfl ?_
      exact hR _ _ hT hS.pick
end Go.Proofs.YtjlihigodggfcaaGreat
