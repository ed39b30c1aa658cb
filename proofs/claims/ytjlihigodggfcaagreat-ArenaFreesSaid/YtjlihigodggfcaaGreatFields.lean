/-
  Objects' fields: which objects are possible; the contract of Check.
-/
import Derived.Test.YtjlihigodggfcaaGreatRfs
set_option linter.unusedSimpArgs false
set_option linter.unusedVariables false
namespace Go.Mm
open Go Go.RowKit
section
variable {P : Program} {o : Oper} {a : Act} {w : World}
theorem wpListIn_off {F : Fence} {n : Nat} {ops : Array Oper} {rest : List Oper} {Q : Exit → Act → World → Prop} {a' : Act} (hF : ∀ f, F.fn f) (hg : o.guard.isSome = true) (hw : Region.wanted o (yielded ops a.tmps) = false) [hp : Put a o.dst undef a'] (h : wpListIn F n P ops Q rest a' w) : wpListIn F n P ops Q (o :: rest) a w := by
  unfold wpListIn
  rw [if_neg (by rw [hw]; simp), hp.h]
  exact ⟨fun f _ => hF f, h⟩
/-- An element of an array that is a value. -/
class IdxA (P : Program) (t : TypeId) (cs : Array Value) (i : Int) (v : outParam Value) : Prop where
  h : ∀ w, (Instr.index t (.agg cs) (.int .i64 i)).run P w = .ok v w
theorem run_ixa (t : TypeId) (x y : Operand) (ho : o.op = .index t x y) {cs : Array Value} {i : Int} {v : Value} [hx : Ev a x (.agg cs)] [hy : Ev a y (.int .i64 i)] [hp : IdxA P t cs i v] : OpVal P o a w v := by
  unfold OpVal
  simp only [execOp, ho, hx.h, hy.h, Sem.run_bind, hp.h, Result.andThen_ok, Sem.run_pure]
theorem run_part_agg {t : TypeId} {n : Nat} (ht : AggT P t n) {cs vs : Array Value} {off : Nat} (h : CellsAt cs off n vs) (w : World) : (part t cs off).run P w = .ok (.agg vs) w := by
  have e : cs.extract off (off + n) = vs := by
    apply Array.ext_getElem?
    intro j
    rw [Array.getElem?_extract]
    by_cases hj : j < n
    · have h1 := h.h j hj
      have hs : j < vs.size := by rw [h.s]; exact hj
      have hc : off + j < cs.size := by
        rcases Nat.lt_or_ge (off + j) cs.size with h' | h'
        · exact h'
        · rw [Array.getElem?_eq_none h', Array.getElem?_eq_getElem hs] at h1; cases h1
      rw [if_pos (by omega), h1]
    · rw [if_neg (by omega), Array.getElem?_eq_none (by rw [h.s]; omega)]
  simp only [part, Sem.run_bind, ht.run, Result.andThen_ok, if_true, run_sizeOf' ht.s, Sem.run_pure, e]
theorem idxA_row {t e : TypeId} {m z : Nat} (ht : P.underlying t = some (.array m e)) (ha : AggT P e z) {cs vs : Array Value} {i : Nat} (hi : i < m) (h : CellsAt cs (i * z) z vs) : IdxA P t cs i (.agg vs) := ⟨fun w => by
  have h2 : 0 ≤ (i : Int) := by omega
  simp [Instr.index, asIntOf, run_underlying ht, hi, run_sizeOf' ha.s, run_part_agg ha h]⟩
end
end Go.Mm
namespace Go.Proofs.YtjlihigodggfcaaGreat
open Go.RowKit Go.Mm
attribute [local go_sem] Oper.semAt_some
variable {R : Ending → World → Prop} {w : World} {w0 : World} {bs : List Nat} {H H' H1 E : List Ent}

/-! The plain model -/
def nzR (r : Int × Int) : Bool := !refB r.1 r.2 0 0
/-- A reference that is neither none nor possible. -/
def wrR (r : Int × Int) : Bool := nzR r && (decide (r.1 < 0) || decide (256 ≤ r.1) || decide (r.2 < 1))
def fnz (F : List (Int × Int)) (i : Nat) : Bool := nzR (F.getD i (0, 0))
def badF (n : Int) (F : List (Int × Int)) (i : Nat) : Bool := decide (n ≤ i) || wrR (F.getD i (0, 0))
def okO (n : Int) (F : List (Int × Int)) (h : Bool) : Bool := decide (0 ≤ n) && decide (n ≤ 4) && !(h && decide (0 < n)) && (gl (fnz F) 4).all (fun i => !badF n F i)
def ckO (n : Int) (F : List (Int × Int)) (h : Bool) : Int := if okO n F h then 0 else 2

def objC (n : Int) (F : List (Int × Int)) (h : Bool) : Array Value := blk [.int .i64 n] slf F [.bool h]
def fdC (F : List (Int × Int)) : Array Value := blk [] slf F []
section
variable {n : Int} {F : List (Int × Int)} {h : Bool}
instance obj0 : CellAt (objC n F h) 0 (.int .i64 n) := blkPre rfl
theorem objF (hF : F.length = 4) : CellsAt (objC n F h) 1 8 (fdC F) := by
  obtain ⟨a, b, c, d, rfl⟩ : ∃ a b c d, F = [a, b, c, d] := by
    match F, hF with
    | [a, b, c, d], _ => exact ⟨a, b, c, d, rfl⟩
  exact inferInstanceAs (CellsAt (List.toArray [.int .i64 n, .int .i64 a.1, .int .u32 a.2, .int .i64 b.1, .int .u32 b.2, .int .i64 c.1, .int .u32 c.2, .int .i64 d.1, .int .u32 d.2, .bool h]) 1 8 #[.int .i64 a.1, .int .u32 a.2, .int .i64 b.1, .int .u32 b.2, .int .i64 c.1, .int .u32 c.2, .int .i64 d.1, .int .u32 d.2])
theorem objH (hF : F.length = 4) : CellAt (objC n F h) 9 (.bool h) := by
  obtain ⟨a, b, c, d, rfl⟩ : ∃ a b c d, F = [a, b, c, d] := by
    match F, hF with
    | [a, b, c, d], _ => exact ⟨a, b, c, d, rfl⟩
  exact ⟨rfl⟩
theorem objAll (hF : F.length = 4) : CellsAt (objC n F h) 0 10 (objC n F h) := blkAll slf_len (by rw [hF]; rfl)
end
instance a_obj : AggT Tryz.prog 39 10 := ⟨by kernel_rfl, by kernel_rfl⟩
instance a_fds : AggT Tryz.prog 37 8 := ⟨by kernel_rfl, by kernel_rfl⟩

set_option maxHeartbeats 1000000 in
set_option maxRecDepth 100000 in
theorem wrong_ok {s g : Int} (hg : 0 ≤ g ∧ g ≤ 4294967295) (b : Bool) (hb : wrR (s, g) = b) (hR : ∀ w', Chg w w' [] → Ret R (.bool b) w') : Calls Tryz.prog 123 #[.agg #[.int .i64 s, .int .u32 g]] w R := by
  have hS : St w [] w [] := St.start0
  subst hb
  obtain ⟨g0, g1⟩ := hg
  unfold wrR nzR at hR
  simp only at hR
  cases hz : refB s g 0 0 with
  | true =>
    have hz' := refE hz
    rw [hz] at hR
    clear hz
    go_enter Tryz.func123, Tryz.ntmps123
    go_wp2_with (first | go_skip | (refine wpList_is (.binOp .neq _ _ _ _) rfl ?_; refine wpList_stp (by kernel_rfl) (stp_val (run_ane _ _ _ _ rfl) ?_)) | (refine wpList_is (.build _ _) rfl ?_; go_must (refine wpList_stp (by kernel_rfl) (stp_val (run_bd _ _ rfl) ?_))) | (refine wpList_is (.load _ _) rfl ?_; go_must ((refine wpList_stp (by kernel_rfl) (stp_val (run_lda _ _ rfl hS) ?_)))) | (refine wpList_is (.box _ _) rfl ?_; go_must (refine wpList_stp (by kernel_rfl) (stp_bx _ _ rfl hS ?_)); clear hS; intro bN w hbN hS))
    exact hR _ hS.chg
  | false =>
    have hz' := refE hz
    rw [hz] at hR
    by_cases h1 : s < 0
    · have q1 : decide (s < 0) = true := decide_eq_true h1
      rw [q1] at hR
      clear hz
      go_enter Tryz.func123, Tryz.ntmps123
      go_wp2_with (first | go_skip | (refine wpList_is (.binOp .neq _ _ _ _) rfl ?_; refine wpList_stp (by kernel_rfl) (stp_val (run_ane _ _ _ _ rfl) ?_)) | (refine wpList_is (.build _ _) rfl ?_; go_must (refine wpList_stp (by kernel_rfl) (stp_val (run_bd _ _ rfl) ?_))) | (refine wpList_is (.load _ _) rfl ?_; go_must (first | refine wpList_stp (by kernel_rfl) (stp_val (run_ld _ _ rfl hS) ?_) | refine wpList_stp (by kernel_rfl) (stp_val (run_lda _ _ rfl hS) ?_))) | (refine wpList_is (.box _ _) rfl ?_; go_must (refine wpList_stp (by kernel_rfl) (stp_bx _ _ rfl hS ?_)); clear hS; intro bN w hbN hS))
      exact hR _ hS.chg
    · have q1 : decide (s < 0) = false := decide_eq_false h1
      by_cases h2 : 256 ≤ s
      · have q2 : decide (256 ≤ s) = true := decide_eq_true h2
        rw [q1, q2] at hR
        clear hz
        go_enter Tryz.func123, Tryz.ntmps123
        go_wp2_with (first | go_skip | (refine wpList_is (.binOp .neq _ _ _ _) rfl ?_; refine wpList_stp (by kernel_rfl) (stp_val (run_ane _ _ _ _ rfl) ?_)) | (refine wpList_is (.build _ _) rfl ?_; go_must (refine wpList_stp (by kernel_rfl) (stp_val (run_bd _ _ rfl) ?_))) | (refine wpList_is (.load _ _) rfl ?_; go_must (first | refine wpList_stp (by kernel_rfl) (stp_val (run_ld _ _ rfl hS) ?_) | refine wpList_stp (by kernel_rfl) (stp_val (run_lda _ _ rfl hS) ?_))) | (refine wpList_is (.box _ _) rfl ?_; go_must (refine wpList_stp (by kernel_rfl) (stp_bx _ _ rfl hS ?_)); clear hS; intro bN w hbN hS))
        exact hR _ hS.chg
      · have q2 : decide (256 ≤ s) = false := decide_eq_false h2
        by_cases h3 : g < 1
        · obtain rfl : g = 0 := by omega
          rw [q1, q2] at hR
          clear hz
          go_enter Tryz.func123, Tryz.ntmps123
          go_wp2_with (first | (go_at_call 108; refine gcheck_bad ?_; unfold Ret) | (refine wpList_is (.binOp .neq _ _ _ _) rfl ?_; refine wpList_stp (by kernel_rfl) (stp_val (run_ane _ _ _ _ rfl) ?_)) | (refine wpList_is (.build _ _) rfl ?_; go_must (refine wpList_stp (by kernel_rfl) (stp_val (run_bd _ _ rfl) ?_))) | (refine wpList_is (.load _ _) rfl ?_; go_must (first | refine wpList_stp (by kernel_rfl) (stp_val (run_ld _ _ rfl hS) ?_) | refine wpList_stp (by kernel_rfl) (stp_val (run_lda _ _ rfl hS) ?_))) | (refine wpList_is (.box _ _) rfl ?_; go_must (refine wpList_stp (by kernel_rfl) (stp_bx _ _ rfl hS ?_)); clear hS; intro bN w hbN hS))
          exact hR _ hS.chg
        · have q3 : decide (g < 1) = false := decide_eq_false h3
          have h3' : 1 ≤ g := by omega
          rw [q1, q2, q3] at hR
          clear hz h3 q3
          go_enter Tryz.func123, Tryz.ntmps123
          go_wp2_with (first | (go_at_call 108; refine gcheck h3' g1 ?_; unfold Ret) | (refine wpList_is (.binOp .neq _ _ _ _) rfl ?_; refine wpList_stp (by kernel_rfl) (stp_val (run_ane _ _ _ _ rfl) ?_)) | (refine wpList_is (.build _ _) rfl ?_; go_must (refine wpList_stp (by kernel_rfl) (stp_val (run_bd _ _ rfl) ?_))) | (refine wpList_is (.load _ _) rfl ?_; go_must (first | refine wpList_stp (by kernel_rfl) (stp_val (run_ld _ _ rfl hS) ?_) | refine wpList_stp (by kernel_rfl) (stp_val (run_lda _ _ rfl hS) ?_))) | (refine wpList_is (.box _ _) rfl ?_; go_must (refine wpList_stp (by kernel_rfl) (stp_bx _ _ rfl hS ?_)); clear hS; intro bN w hbN hS))
          exact hR _ hS.chg

/-! The iterator over the fields that are not empty -/
structure FdOf (F : List (Int × Int)) where
  i : Nat
  lt : i < 4
  is : fnz F i = true
theorem idxF {F : List (Int × Int)} (hF : F.length = 4) {i : Nat} (hi : i < 4) {x : Int × Int} (hx : F.getD i (0, 0) = x) : IdxA Tryz.prog 37 (fdC F) i (.agg #[.int .i64 x.1, .int .u32 x.2]) := by
  subst hx
  refine idxA_row (e := 25) (by kernel_rfl) a_ref hi (blkCells (pre := []) slf_len (i := i) (a := F.getD i (0, 0)) ?_ (by simp))
  rw [List.getD_eq_getElem?_getD, List.getElem?_eq_getElem (by omega)]; rfl

set_option maxHeartbeats 1000000 in
set_option maxRecDepth 100000 in
theorem full_stops {m : Nat} {n : Int} {F : List (Int × Int)} {hd : Bool} (hF4 : F.length = 4) (h1 : 1 ≤ m) (bo : Nat) {W : World} (hE : W.heap[bo]? = some (.cells (objC n F hd) 39 (0, 0))) :
    SeqStopsK Fence.wide m Tryz.prog 128 #[.pointer (some ⟨bo, 0, none⟩)] (fun i : FdOf F => #[.int .i64 (i.i : Nat), .agg #[.int .i64 (F.getD i.i (0, 0)).1, .int .u32 (F.getD i.i (0, 0)).2]]) (Kept [bo])
      (fun xs => xs.map (·.i) = gl (fnz F) 4) (fun pre => ∃ k, k < 4 ∧ fnz F k = true ∧ pre.map (·.i) = gl (fnz F) k ++ [k]) 5 W := by
  intro l J Jx W1 hW hJ hJx hY h0
  have hF := wide_fn
  have hk : ∀ W', Kept [bo] W1 W' → St W' [] W' [⟨bo, objC n F hd, 39, false⟩] := by
    intro W' hk
    refine St.start1 ?_ (by simp)
    rw [hk bo (by simp), hW.block bo (lt_of_heap hE)]
    exact hE
  have hS := hk W1 (fun _ _ => rfl)
  have hlt0 : bo < W1.heap.size := hS.lt (e := ⟨_, _, _, _⟩) (.head _)
  clear hE
  refine callsIn_of_wp Tryz.func128 rfl trivial ?_ rfl
  simp only [Tryz.ntmps128, List.size_toArray, List.length_cons, List.length_nil, Nat.reduceAdd, Nat.reduceSub, Array.replicate_succ, Array.replicate_zero, List.push_toArray, List.append_toArray, List.nil_append, List.cons_append]
  have hk' := Lib.hid hk
  have hY' := Lib.hid hY
  have hJ' := Lib.hid hJ
  have hlt' := Lib.hid hlt0
  have hobF := objF (n := n) (h := hd) hF4
  clear hk hJx hY hJ hW hlt0
  gi_wp2_with ((refine wpListIn_is (.load _ _) rfl ?_; go_must ((refine wpListIn_stp hF rfl rfl (stp_val (run_lda _ _ rfl hS) ?_)))))
  gi_loopw [7] (fun v wr => ∃ (k : Nat) (xs : List (FdOf F)), k ≤ 4 ∧ v = .int .i64 k ∧ xs.map (·.i) = gl (fnz F) k ∧ J xs wr ∧ Kept [bo] W1 wr) (fun v _ => 4 - (intOf v).toNat)
  case atStart => exact ⟨0, [], Nat.zero_le _, rfl, rfl, hJ'.out _ _ _ none h0 (hS.chg.grown none) (fun r e => by cases e), kept_chg hS.chg (fun x hx => by simp at hx; subst hx; exact hlt'.out)⟩
  case round =>
    clear hS
    obtain ⟨k, xs, hkl, rfl, hxs, hJk, hkk⟩ := hrel
    have hxs' := Lib.hid hxs
    clear hxs
    have hS := hk'.out wr hkk
    by_cases hlt : k < 4
    · obtain ⟨⟨s, g⟩, hx⟩ : ∃ x, F.getD k (0, 0) = x := ⟨_, rfl⟩
      have hix := idxF hF4 hlt hx
      simp only at hix
      have hltI : (k : Int) < 4 := by omega
      cases hz : refB s g 0 0 with
      | false =>
        have hst : fnz F k = true := by unfold fnz nzR; rw [hx, hz]; rfl
        have hgl := Lib.hid (gl_yes hst)
        have q := refE hz
        have hx' := Lib.hid hx
        have hst' := Lib.hid hst
        clear hx hst hz
        gi_wp2_with (first | (refine wpListIn_is (.binOp .neq _ _ _ _) rfl ?_; refine wpListIn_stp hF rfl rfl (stp_val (run_ane _ _ _ _ rfl) ?_)) | (refine wpListIn_is (.index _ _ _) rfl ?_; refine wpListIn_stp hF rfl rfl (stp_val (run_ixa _ _ _ rfl) ?_)) | (refine wpListIn_is (.build _ _) rfl ?_; go_must (refine wpListIn_stp hF rfl rfl (stp_val (run_bd _ _ rfl) ?_))) | (refine wpListIn_is (.load _ _) rfl ?_; go_must ((refine wpListIn_stp hF rfl rfl (stp_val (run_lda _ _ rfl hS) ?_)))) | (refine wpListIn_is (.store _ _ _) rfl ?_; go_must ((refine wpListIn_stp hF rfl rfl (stp_sta _ _ _ rfl hS ?_))); clear hS; intro w hS) | (refine wpListIn_is (.alloc _) rfl ?_; go_must (refine wpListIn_stp hF rfl rfl (stp_al _ rfl hS ?_)); clear hS; intro bN w hbN hS))
        have hJw := hJ'.out _ _ _ none hJk (hS.chg.grown none) (fun r e => by cases e)
        have hkw := hkk.trans (kept_chg (bs := [bo]) hS.chg (fun x hx => by have h2 := hkk x hx; simp at hx; subst hx; exact kept_lt h2 hlt'.out))
        have hYw := hY'.out xs ⟨k, hlt, hst'.out⟩ _ hJw (by have := gl_len (fnz F) k; have h2 := congrArg List.length hxs'.out; rw [List.length_map] at h2; omega)
        simp only [hx'.out] at hYw
        obtain ⟨fn, tmps, assign, body, hy, hRd⟩ := hYw
        rw [hy, Oper.uponIn_round]
        refine ⟨fun _ => h1, hRd.mono ?_⟩
        rintro e W' (⟨rfl, hJ', hk'⟩ | ⟨rfl, hJx'⟩)
        · gi_wp2
          go_roundw
          case rel => exact ⟨k + 1, _, by omega, by go_num, by rw [hgl.out, List.map_append, hxs'.out]; rfl, hJ', hkw.trans hk'⟩
          case measure => simp [intOf]; omega
        · gi_wp2
          refine bodyPost_ret (results_none rfl _ _ _) rfl ?_
          exact ⟨⟨_, rfl⟩, .inr ⟨_, ⟨k, hlt, hst'.out, by rw [List.map_append, hxs'.out]; rfl⟩, hJx'⟩⟩
      | true =>
        have hst : fnz F k = false := by unfold fnz nzR; rw [hx, hz]; rfl
        have hgl := Lib.hid (gl_no hst)
        have q := refE hz
        clear hx hst hz
        gi_wp2_with (first | (refine wpListIn_is (.binOp .neq _ _ _ _) rfl ?_; refine wpListIn_stp hF rfl rfl (stp_val (run_ane _ _ _ _ rfl) ?_)) | (refine wpListIn_is (.index _ _ _) rfl ?_; refine wpListIn_stp hF rfl rfl (stp_val (run_ixa _ _ _ rfl) ?_)) | (refine wpListIn_is (.build _ _) rfl ?_; go_must (refine wpListIn_stp hF rfl rfl (stp_val (run_bd _ _ rfl) ?_))) | (refine wpListIn_is (.load _ _) rfl ?_; go_must ((refine wpListIn_stp hF rfl rfl (stp_val (run_lda _ _ rfl hS) ?_)))) | (refine wpListIn_is (.store _ _ _) rfl ?_; go_must ((refine wpListIn_stp hF rfl rfl (stp_sta _ _ _ rfl hS ?_))); clear hS; intro w hS) | (refine wpListIn_is (.alloc _) rfl ?_; go_must (refine wpListIn_stp hF rfl rfl (stp_al _ rfl hS ?_)); clear hS; intro bN w hbN hS))
        have hJw := hJ'.out _ _ _ none hJk (hS.chg.grown none) (fun r e => by cases e)
        have hkw := hkk.trans (kept_chg (bs := [bo]) hS.chg (fun x hx => by have h2 := hkk x hx; simp at hx; subst hx; exact kept_lt h2 hlt'.out))
        go_roundw
        case rel => exact ⟨k + 1, xs, by omega, by go_num, by rw [hgl.out, hxs'.out], hJw, hkw⟩
        case measure => simp [intOf]; omega
    · obtain rfl : k = 4 := by omega
      gi_wp2_with ((refine wpListIn_is (.build _ _) rfl ?_; go_must (refine wpListIn_stp hF rfl rfl (stp_val (run_bd _ _ rfl) ?_))))
      go_end0
      exact ⟨⟨_, rfl⟩, .inl ⟨_, hxs'.out, hJk⟩⟩

theorem full_clo {W : World} {n : Int} {F : List (Int × Int)} {h : Bool} (hO : St w0 bs W H)
    (hR : ∀ bo w', St w0 bs w' (⟨bo, objC n F h, 39, true⟩ :: H) → Ret R (.func (.func 128) #[] #[.pointer (some ⟨bo, 0, none⟩)]) w') :
    Calls Tryz.prog 122 #[.agg (objC n F h)] W R := by
  have hS := hO
  go_enter Tryz.func122, Tryz.ntmps122
  go_wp2_with ((refine wpList_is (.box _ _) rfl ?_; go_must (refine wpList_stp (by kernel_rfl) (stp_bx _ _ rfl hS ?_)); clear hS; intro bN w hbN hS))
  exact hR _ _ hS

theorem gl_all_no {p q : Nat → Bool} {k : Nat} (h : (gl p 4).all (fun i => !q i) = true) (hk : k < 4) (hp : p k = true) : q k = false := by
  have := List.all_eq_true.1 h k (mem_gl.2 ⟨hk, hp⟩)
  simpa using this

set_option maxHeartbeats 2000000 in
set_option maxRecDepth 100000 in
theorem fd_check {W : World} {n : Int} {F : List (Int × Int)} {h : Bool} (hF4 : F.length = 4) (hFg : ∀ x ∈ F, 0 ≤ x.2 ∧ x.2 ≤ 4294967295) (hO : St w0 bs W H) (hR : ∀ w', St w0 bs w' H → Ret R (.int .i64 (ckO n F h)) w') :
    Calls Tryz.prog 100 #[.agg (objC n F h)] W R := by
  have hS := hO
  clear hO
  have hobH := objH (n := n) (h := h) hF4
  have hobA := objAll (n := n) (h := h) hF4
  by_cases hn : 0 ≤ n ∧ n ≤ 4 ∧ ¬ (h = true ∧ 0 < n)
  · obtain ⟨n0, n4, nh⟩ := hn
    have q1 : decide (n < 0) = false := decide_eq_false (by omega)
    have q2 : decide (4 < n) = false := decide_eq_false (by omega)
    have q3 : h = true → decide (0 < n) = false := fun e => decide_eq_false (fun q => nh ⟨e, q⟩)
    have eok : okO n F h = (gl (fnz F) 4).all (fun i => !badF n F i) := by
      unfold okO
      rw [decide_eq_true n0, decide_eq_true n4]
      cases h with
      | false => simp
      | true => simp [q3 rfl]
    rw [ckO, eok] at hR
    have q3' := Lib.hid q3
    clear eok q3 nh
    refine (callsIn_wide (n := 3)).1 ?_
    have hF := wide_fn
    refine callsIn_of_wp_marks Tryz.func100 rfl trivial ?_ rfl
    simp only [Tryz.ntmps100, List.size_toArray, List.length_cons, List.length_nil, Nat.reduceAdd, Nat.reduceSub, Array.replicate_succ, Array.replicate_zero, List.push_toArray, List.append_toArray, List.nil_append, List.cons_append]
    cases h with
    | false =>
      gi_wp2_with (first | (refine wpListIn_is (.alloc 28) rfl ?_; go_must (refine wpListIn_stp hF rfl rfl (stp_al _ rfl hS ?_)); clear hS; intro be w _ hS) | (refine wpListIn_is (.box 39 _) rfl ?_; go_must (refine wpListIn_stp hF rfl rfl (stp_bx _ _ rfl hS ?_)); clear hS; intro bb w _ hS) | (gi_at_call 122; refine callsIn_wide.2 (full_clo hS ?_); clear hS; intro bo w hS; unfold Ret) | (refine wpListIn_is (.load _ _) rfl ?_; go_must (first | refine wpListIn_stp hF rfl rfl (stp_val (run_ld _ _ rfl hS) ?_) | refine wpListIn_stp hF rfl rfl (stp_val (run_lda _ _ rfl hS) ?_))))
      refine range_sta (w0 := w0) (bs := bs) (X := Unit) (Y := Unit) (by omega) (gf := 128) (lb := #[.pointer (some ⟨bo, 0, none⟩)]) rfl (enters _ (by kernel_rfl))
        (K := [⟨bo, objC n F false, 39, true⟩]) hS.chg.size (fun e he => hS.lt (by simp at he; simp [he]))
        (full_stops (m := 3 - 1) hF4 (by omega) bo (hS.get ⟨_, _, _, _⟩ (.head _))) (fun _ => rfl)
        (fun pre _ => pre.all (fun a => !badF n F a.i) = true) (fun _ _ => ⟨bo, objC n F false, 39, true⟩ :: ⟨be, #[.int .i64 0], 28, true⟩ :: ⟨bb, objC n F false, 39, true⟩ :: H) (fun _ _ _ e he => by simp at he; simp [he])
        (fun c pre _ => c = .ret ∧ ∃ y ∈ pre, badF n F y.i = true) (fun _ _ _ => ⟨bo, objC n F false, 39, true⟩ :: ⟨be, #[.int .i64 2], 28, true⟩ :: ⟨bb, objC n F false, 39, true⟩ :: H)
        (x0 := ()) rfl hS 25 (fun x => #[.int .i64 (F.getD x.i (0, 0)).1, .int .u32 (F.getD x.i (0, 0)).2]) (fun _ _ _ e he => .inl (hS.lt he))
        (fun x bv => { tmps := #[.agg (objC n F false), .pointer (some ⟨bb, 0, none⟩), .pointer (some ⟨be, 0, none⟩), .int .i64 (x.i : Nat), .pointer (some ⟨bv, 0, none⟩), .pointer (some ⟨bb, 0, none⟩), .int .i64 n, .bool false, .bool false, .pointer (some ⟨bb, 0, none⟩), .int .i64 n, .bool false, .bool false, .bool false, .pointer (some ⟨bb, 9, none⟩), .bool false, .bool false, undef, undef, undef, .bool false, .bool false, .agg (objC n F false), .func (.func 128) #[] #[.pointer (some ⟨bo, 0, none⟩)], .int .i64 (x.i : Nat), .agg #[.int .i64 (F.getD x.i (0, 0)).1, .int .u32 (F.getD x.i (0, 0)).2], undef, undef, undef, undef, undef, undef, undef, undef], defers := [] }) ?assign ?body ?done ?stop
      case assign =>
        clear hR
        intro l pre el x W0 hc hnew hS
        have hF := wide_in l
        gi_wp2_with (first | (refine wpListIn_is (.alloc 25) rfl ?_; go_must (refine wpListIn_stp hF rfl rfl (stp_al _ rfl hS ?_)); clear hS; intro bv w hbv hS) | (refine wpListIn_is (.store _ _ _) rfl ?_; go_must ((refine wpListIn_stp hF rfl rfl (stp_sta _ _ _ rfl hS ?_))); clear hS; intro w hS))
        exact ⟨_, by omega, rfl, hS⟩
      case body =>
        clear hS hR
        rintro l pre ⟨k, hk, hst⟩ ⟨⟩ bv W0 hc _ _ hS
        have hF := wide_in l
        obtain ⟨⟨s, g⟩, hx⟩ : ∃ x, F.getD k (0, 0) = x := ⟨_, rfl⟩
        have hgn : 0 ≤ g ∧ g ≤ 4294967295 := by have := hFg (s, g) (by rw [← hx, List.getD_eq_getElem?_getD, List.getElem?_eq_getElem (by omega)]; simp); exact this
        simp only [hx] at hS
        simp only [hx]
        by_cases hb1 : n ≤ (k : Int)
        · have q4 : decide (n ≤ (k : Int)) = true := decide_eq_true hb1
          have hbad : badF n F k = true := by unfold badF; rw [q4]; rfl
          have hbad' := Lib.hid hbad
          clear hbad hx hc
          gi_wp2_with (first | (refine wpListIn_off hF rfl rfl ?_) | (refine wpListIn_is (.load _ _) rfl ?_; go_must ((refine wpListIn_stp hF rfl rfl (stp_val (run_ld _ _ rfl hS) ?_)))) | (refine wpListIn_is (.store _ _ _) rfl ?_; go_must ((refine wpListIn_stp hF rfl rfl (stp_st _ _ _ rfl hS ?_))); clear hS; intro w hS))
          exact ⟨(), ⟨rfl, _, List.mem_append_right _ (.head _), hbad'.out⟩, hS.pick⟩
        · have q4 : decide (n ≤ (k : Int)) = false := decide_eq_false hb1
          obtain ⟨b, hb⟩ : ∃ b, wrR (s, g) = b := ⟨_, rfl⟩
          have hbad : badF n F k = b := by unfold badF; rw [q4, hx, hb]; rfl
          have hbad' := Lib.hid hbad
          have hb' := Lib.hid hb
          have hc' := Lib.hid hc
          clear hbad hx hc hb hb1
          cases b
          · gi_wp2_with (first | (gi_at_call 123; refine callsIn_wide.2 (wrong_ok hgn false hb'.out ?_); intro w hch; replace hS := hS.nil hch; clear hch; unfold Ret) | (refine wpListIn_is (.load _ _) rfl ?_; go_must (first | refine wpListIn_stp hF rfl rfl (stp_val (run_ld _ _ rfl hS) ?_) | refine wpListIn_stp hF rfl rfl (stp_val (run_lda _ _ rfl hS) ?_))))
            refine ⟨(), ?_, hS.pick⟩
            show (pre ++ [_]).all _ = true
            rw [List.all_append, hc'.out]
            simp [hbad'.out]
          · gi_wp2_with (first | (gi_at_call 123; refine callsIn_wide.2 (wrong_ok hgn true hb'.out ?_); intro w hch; replace hS := hS.nil hch; clear hch; unfold Ret) | (refine wpListIn_is (.load _ _) rfl ?_; go_must (first | refine wpListIn_stp hF rfl rfl (stp_val (run_ld _ _ rfl hS) ?_) | refine wpListIn_stp hF rfl rfl (stp_val (run_lda _ _ rfl hS) ?_))) | (refine wpListIn_is (.store _ _ _) rfl ?_; go_must ((refine wpListIn_stp hF rfl rfl (stp_st _ _ _ rfl hS ?_))); clear hS; intro w hS))
            exact ⟨(), ⟨rfl, _, List.mem_append_right _ (.head _), hbad'.out⟩, hS.pick⟩
      case done =>
        rintro d xs ⟨⟩ w2 hxs hc hS0 hd
        have hS := hS0.rebase
        gi_wp2_with ((refine wpListIn_is (.store _ _ _) rfl ?_; go_must ((refine wpListIn_stp hF rfl rfl (stp_st _ _ _ rfl hS ?_))); clear hS; intro w hS))
        refine leave_st hd hS0 hS (fun W3 hS3 => ⟨_, res_cells1 rfl hS3, ?_⟩)
        rw [if_pos] at hR
        · exact hR _ hS3.pick
        · rw [← hxs, List.all_map]; exact hc
      case stop =>
        rintro d c pre y w2 ⟨k, hk, hg, hpre⟩ ⟨rfl, y, hy, hbad⟩ hS0 hd
        gi_wp2
        refine leave_st hd hS0 hS0.rebase (fun W3 hS3 => ⟨_, res_cells1 rfl hS3, ?_⟩)
        rw [if_neg] at hR
        · exact hR _ hS3.pick
        · intro hall
          have hy2 : y.i ∈ gl (fnz F) 4 := mem_gl.2 ⟨y.lt, y.is⟩
          have := List.all_eq_true.1 hall _ hy2
          rw [hbad] at this
          cases this
    | true =>
      have q3 := q3'.out rfl
      gi_wp2_with (first | (refine wpListIn_is (.alloc 28) rfl ?_; go_must (refine wpListIn_stp hF rfl rfl (stp_al _ rfl hS ?_)); clear hS; intro be w _ hS) | (refine wpListIn_is (.box 39 _) rfl ?_; go_must (refine wpListIn_stp hF rfl rfl (stp_bx _ _ rfl hS ?_)); clear hS; intro bb w _ hS) | (gi_at_call 122; refine callsIn_wide.2 (full_clo hS ?_); clear hS; intro bo w hS; unfold Ret) | (refine wpListIn_is (.load _ _) rfl ?_; go_must (first | refine wpListIn_stp hF rfl rfl (stp_val (run_ld _ _ rfl hS) ?_) | refine wpListIn_stp hF rfl rfl (stp_val (run_lda _ _ rfl hS) ?_))))
      refine range_sta (w0 := w0) (bs := bs) (X := Unit) (Y := Unit) (by omega) (gf := 128) (lb := #[.pointer (some ⟨bo, 0, none⟩)]) rfl (enters _ (by kernel_rfl))
        (K := [⟨bo, objC n F true, 39, true⟩]) hS.chg.size (fun e he => hS.lt (by simp at he; simp [he]))
        (full_stops (m := 3 - 1) hF4 (by omega) bo (hS.get ⟨_, _, _, _⟩ (.head _))) (fun _ => rfl)
        (fun pre _ => pre.all (fun a => !badF n F a.i) = true) (fun _ _ => ⟨bo, objC n F true, 39, true⟩ :: ⟨be, #[.int .i64 0], 28, true⟩ :: ⟨bb, objC n F true, 39, true⟩ :: H) (fun _ _ _ e he => by simp at he; simp [he])
        (fun c pre _ => c = .ret ∧ ∃ y ∈ pre, badF n F y.i = true) (fun _ _ _ => ⟨bo, objC n F true, 39, true⟩ :: ⟨be, #[.int .i64 2], 28, true⟩ :: ⟨bb, objC n F true, 39, true⟩ :: H)
        (x0 := ()) rfl hS 25 (fun x => #[.int .i64 (F.getD x.i (0, 0)).1, .int .u32 (F.getD x.i (0, 0)).2]) (fun _ _ _ e he => .inl (hS.lt he))
        (fun x bv => { tmps := #[.agg (objC n F true), .pointer (some ⟨bb, 0, none⟩), .pointer (some ⟨be, 0, none⟩), .int .i64 (x.i : Nat), .pointer (some ⟨bv, 0, none⟩), .pointer (some ⟨bb, 0, none⟩), .int .i64 n, .bool false, .bool false, .pointer (some ⟨bb, 0, none⟩), .int .i64 n, .bool false, .bool false, .bool false, .pointer (some ⟨bb, 9, none⟩), .bool true, .bool true, .pointer (some ⟨bb, 0, none⟩), .int .i64 n, .bool false, .bool false, .bool false, .agg (objC n F true), .func (.func 128) #[] #[.pointer (some ⟨bo, 0, none⟩)], .int .i64 (x.i : Nat), .agg #[.int .i64 (F.getD x.i (0, 0)).1, .int .u32 (F.getD x.i (0, 0)).2], undef, undef, undef, undef, undef, undef, undef, undef], defers := [] }) ?assign ?body ?done ?stop
      case assign =>
        clear hR
        intro l pre el x W0 hc hnew hS
        have hF := wide_in l
        gi_wp2_with (first | (refine wpListIn_is (.alloc 25) rfl ?_; go_must (refine wpListIn_stp hF rfl rfl (stp_al _ rfl hS ?_)); clear hS; intro bv w hbv hS) | (refine wpListIn_is (.store _ _ _) rfl ?_; go_must ((refine wpListIn_stp hF rfl rfl (stp_sta _ _ _ rfl hS ?_))); clear hS; intro w hS))
        exact ⟨_, by omega, rfl, hS⟩
      case body =>
        clear hS hR
        rintro l pre ⟨k, hk, hst⟩ ⟨⟩ bv W0 hc _ _ hS
        have hF := wide_in l
        obtain ⟨⟨s, g⟩, hx⟩ : ∃ x, F.getD k (0, 0) = x := ⟨_, rfl⟩
        have hgn : 0 ≤ g ∧ g ≤ 4294967295 := by have := hFg (s, g) (by rw [← hx, List.getD_eq_getElem?_getD, List.getElem?_eq_getElem (by omega)]; simp); exact this
        simp only [hx] at hS
        simp only [hx]
        by_cases hb1 : n ≤ (k : Int)
        · have q4 : decide (n ≤ (k : Int)) = true := decide_eq_true hb1
          have hbad : badF n F k = true := by unfold badF; rw [q4]; rfl
          have hbad' := Lib.hid hbad
          clear hbad hx hc
          gi_wp2_with (first | (refine wpListIn_off hF rfl rfl ?_) | (refine wpListIn_is (.load _ _) rfl ?_; go_must ((refine wpListIn_stp hF rfl rfl (stp_val (run_ld _ _ rfl hS) ?_)))) | (refine wpListIn_is (.store _ _ _) rfl ?_; go_must ((refine wpListIn_stp hF rfl rfl (stp_st _ _ _ rfl hS ?_))); clear hS; intro w hS))
          exact ⟨(), ⟨rfl, _, List.mem_append_right _ (.head _), hbad'.out⟩, hS.pick⟩
        · have q4 : decide (n ≤ (k : Int)) = false := decide_eq_false hb1
          obtain ⟨b, hb⟩ : ∃ b, wrR (s, g) = b := ⟨_, rfl⟩
          have hbad : badF n F k = b := by unfold badF; rw [q4, hx, hb]; rfl
          have hbad' := Lib.hid hbad
          have hb' := Lib.hid hb
          have hc' := Lib.hid hc
          clear hbad hx hc hb hb1
          cases b
          · gi_wp2_with (first | (gi_at_call 123; refine callsIn_wide.2 (wrong_ok hgn false hb'.out ?_); intro w hch; replace hS := hS.nil hch; clear hch; unfold Ret) | (refine wpListIn_is (.load _ _) rfl ?_; go_must (first | refine wpListIn_stp hF rfl rfl (stp_val (run_ld _ _ rfl hS) ?_) | refine wpListIn_stp hF rfl rfl (stp_val (run_lda _ _ rfl hS) ?_))))
            refine ⟨(), ?_, hS.pick⟩
            show (pre ++ [_]).all _ = true
            rw [List.all_append, hc'.out]
            simp [hbad'.out]
          · gi_wp2_with (first | (gi_at_call 123; refine callsIn_wide.2 (wrong_ok hgn true hb'.out ?_); intro w hch; replace hS := hS.nil hch; clear hch; unfold Ret) | (refine wpListIn_is (.load _ _) rfl ?_; go_must (first | refine wpListIn_stp hF rfl rfl (stp_val (run_ld _ _ rfl hS) ?_) | refine wpListIn_stp hF rfl rfl (stp_val (run_lda _ _ rfl hS) ?_))) | (refine wpListIn_is (.store _ _ _) rfl ?_; go_must ((refine wpListIn_stp hF rfl rfl (stp_st _ _ _ rfl hS ?_))); clear hS; intro w hS))
            exact ⟨(), ⟨rfl, _, List.mem_append_right _ (.head _), hbad'.out⟩, hS.pick⟩
      case done =>
        rintro d xs ⟨⟩ w2 hxs hc hS0 hd
        have hS := hS0.rebase
        gi_wp2_with ((refine wpListIn_is (.store _ _ _) rfl ?_; go_must ((refine wpListIn_stp hF rfl rfl (stp_st _ _ _ rfl hS ?_))); clear hS; intro w hS))
        refine leave_st hd hS0 hS (fun W3 hS3 => ⟨_, res_cells1 rfl hS3, ?_⟩)
        rw [if_pos] at hR
        · exact hR _ hS3.pick
        · rw [← hxs, List.all_map]; exact hc
      case stop =>
        rintro d c pre y w2 ⟨k, hk, hg, hpre⟩ ⟨rfl, y, hy, hbad⟩ hS0 hd
        gi_wp2
        refine leave_st hd hS0 hS0.rebase (fun W3 hS3 => ⟨_, res_cells1 rfl hS3, ?_⟩)
        rw [if_neg] at hR
        · exact hR _ hS3.pick
        · intro hall
          have hy2 : y.i ∈ gl (fnz F) 4 := mem_gl.2 ⟨y.lt, y.is⟩
          have := List.all_eq_true.1 hall _ hy2
          rw [hbad] at this
          cases this
  · have e0 : okO n F h = false := by
      rw [← Bool.not_eq_true]
      intro e
      unfold okO at e
      simp only [Bool.and_eq_true, decide_eq_true_eq, Bool.not_eq_true', Bool.and_eq_false_iff, decide_eq_false_iff_not] at e
      refine hn ⟨e.1.1.1, e.1.1.2, ?_⟩
      rintro ⟨rfl, q⟩
      rcases e.1.2 with h | h
      · cases h
      · exact h q
    rw [ckO, e0] at hR
    clear e0
    by_cases hn0 : n < 0
    · have q1 : decide (n < 0) = true := decide_eq_true hn0
      go_enter Tryz.func100, Tryz.ntmps100
      go_wp2_with (first | go_skip | (refine wpList_is (.load _ _) rfl ?_; go_must ((refine wpList_stp (by kernel_rfl) (stp_val (run_ld _ _ rfl hS) ?_)))) | (refine wpList_is (.store _ _ _) rfl ?_; go_must ((refine wpList_stp (by kernel_rfl) (stp_st _ _ _ rfl hS ?_))); clear hS; intro w hS) | (refine wpList_is (.alloc _) rfl ?_; go_must (refine wpList_stp (by kernel_rfl) (stp_al _ rfl hS ?_)); clear hS; intro bN w hbN hS) | (refine wpList_is (.box _ _) rfl ?_; go_must (refine wpList_stp (by kernel_rfl) (stp_bx _ _ rfl hS ?_)); clear hS; intro bN w hbN hS))
      refine bodyPost_ret (res_cells1 rfl hS) rfl ?_
      exact hR _ hS.pick
    · have q1 : decide (n < 0) = false := decide_eq_false hn0
      by_cases hn4 : 4 < n
      · have q2 : decide (4 < n) = true := decide_eq_true hn4
        go_enter Tryz.func100, Tryz.ntmps100
        go_wp2_with (first | go_skip | (refine wpList_is (.load _ _) rfl ?_; go_must ((refine wpList_stp (by kernel_rfl) (stp_val (run_ld _ _ rfl hS) ?_)))) | (refine wpList_is (.store _ _ _) rfl ?_; go_must ((refine wpList_stp (by kernel_rfl) (stp_st _ _ _ rfl hS ?_))); clear hS; intro w hS) | (refine wpList_is (.alloc _) rfl ?_; go_must (refine wpList_stp (by kernel_rfl) (stp_al _ rfl hS ?_)); clear hS; intro bN w hbN hS) | (refine wpList_is (.box _ _) rfl ?_; go_must (refine wpList_stp (by kernel_rfl) (stp_bx _ _ rfl hS ?_)); clear hS; intro bN w hbN hS))
        refine bodyPost_ret (res_cells1 rfl hS) rfl ?_
        exact hR _ hS.pick
      · have q2 : decide (4 < n) = false := decide_eq_false hn4
        have hh : h = true ∧ 0 < n := by
          by_cases e : h = true ∧ 0 < n
          · exact e
          · exact absurd ⟨by omega, by omega, e⟩ hn
        obtain ⟨rfl, hp⟩ := hh
        have q3 : decide (0 < n) = true := decide_eq_true hp
        go_enter Tryz.func100, Tryz.ntmps100
        go_wp2_with (first | (refine wpList_is (.load _ _) rfl ?_; go_must ((refine wpList_stp (by kernel_rfl) (stp_val (run_ld _ _ rfl hS) ?_)))) | (refine wpList_is (.store _ _ _) rfl ?_; go_must ((refine wpList_stp (by kernel_rfl) (stp_st _ _ _ rfl hS ?_))); clear hS; intro w hS) | (refine wpList_is (.alloc _) rfl ?_; go_must (refine wpList_stp (by kernel_rfl) (stp_al _ rfl hS ?_)); clear hS; intro bN w hbN hS) | (refine wpList_is (.box _ _) rfl ?_; go_must (refine wpList_stp (by kernel_rfl) (stp_bx _ _ rfl hS ?_)); clear hS; intro bN w hbN hS))
        refine bodyPost_ret (res_cells1 rfl hS) rfl ?_
        exact hR _ hS.pick
end Go.Proofs.YtjlihigodggfcaaGreat
