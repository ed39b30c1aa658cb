/-
  Desks of leases: granting; all leases; copies.
-/
import Derived.Test.YtbjcjbkgjnojmaaDeskE
set_option linter.unusedSimpArgs false
set_option linter.unusedVariables false
namespace Go.Mm
open Go Go.RowKit
instance flatThree {t u v : Value} {us cs : List Value} [h : FlatOf us cs] : FlatOf (.agg (List.toArray [t, u, v]) :: us) (t :: u :: v :: cs) := ⟨by rw [List.flatMap_cons, h.h]; rfl⟩
end Go.Mm
namespace Go.Proofs.Ytbjcjbkgjnojmaa
open Go.RowKit Go.Mm
variable {R : Ending → World → Prop} {w : World} {w0 : World} {bs : List Nat} {H H' H1 E : List Ent}

/-- An outer name. -/
abbrev Ot := Int × Int × Int
def grI (L : List Ls) (t n : Int) : Option Nat := if spB t && tmB n && decide (n + t ≤ 1099511627776) then tkI (some (tbD L)) else none
def grN (L : List Ls) (i : Nat) (u : Int) : List Ls := L.set i (1, (L.getD i (0, 0, 0)).2.1, u)
def grT (T : Dk) (t n : Int) : Dk :=
  match T with
  | some (some L) => match grI L t n with
    | some i => some (some (grN L i (n + t)))
    | none => some (some L)
  | T => T
def grE (T : Dk) (t n : Int) : Int :=
  match T with
  | some (some L) => if spB t && tmB n then (if n + t ≤ 1099511627776 then (if (grI L t n).isSome then 0 else 4) else 17) else 2
  | _ => 1
def grR (T : Dk) (t n : Int) : Ot :=
  match T with
  | some (some L) => match grI L t n with
    | some i => (3, (i : Int), (L.getD i (0, 0, 0)).2.1)
    | none => (0, 0, 0)
  | _ => (0, 0, 0)
theorem grN_w {L : List Ls} (hW : DkW L) {i : Nat} {u : Int} (hi : i < L.length) (hu : 0 ≤ u ∧ u ≤ 1099511627776) : DkW (grN L i u) := by
  have e : tbD (grN L i u) = (tbD L).set i (1, ((tbD L).getD i (0, 0)).2) := by unfold grN; rw [tbD_set, tbD_get]
  refine ⟨by unfold grN; rw [List.length_set]; exact hW.lo, by unfold grN; rw [List.length_set]; exact hW.hi, ?_, fun x hx => ?_⟩
  · rw [e]
    have hg := hW.tb.gn _ (getD_mem (L := tbD L) (i := i) (by rw [tbD_len]; exact hi))
    exact hW.tb.set i (.inr (.inl rfl)) hg
  · unfold grN at hx
    rcases List.mem_or_eq_of_mem_set hx with h | h
    · exact hW.un x h
    · rw [h]; exact hu

set_option maxHeartbeats 2000000 in
set_option maxRecDepth 100000 in
theorem dk_grant {p : Option Addr} {T : Dk} (hO : St w0 bs w H) (hT : DA p T E) [hc : Cut H E H1] (t n : Int) (T' : Dk) (e : Int) (r : Ot) (hT' : grT T t n = T') (he : grE T t n = e) (hr : grR T t n = r)
    (hR : ∀ E' w', DA p T' E' → St w0 bs w' (E' ++ H1) → Ret R (.tuple #[.agg #[.int .i64 r.1, .int .i64 r.2.1, .int .u32 r.2.2], .int .i64 e]) w') : Calls Try.prog 11 #[.pointer p, .int .i64 t, .int .i64 n] w R := by
  have hS := hO.front (E := E) (H1 := H1)
  clear hO
  subst hT' he hr
  rcases T with _ | _ | L
  · simp only [grT, grE, grR] at hR
    go_enter Try.func11, Try.ntmps11
    go_wp2_with (first | go_skip | (refine wpList_is (.alloc 29) rfl ?_; go_must (refine wpList_stp rfl (stp_al _ rfl hS ?_)); clear hS; intro bo w _ hS) | (go_at_call 37; refine dmade hS hT false rfl ?_; clear hS; intro w hS; unfold Ret) | go_skip | (refine wpList_is (.build _ _) rfl ?_; go_must (refine wpList_stp rfl (stp_val (run_bd _ _ rfl) ?_))) | (refine wpList_is (.call { callee := .builtin .clear, args := #[_], argTypes := #[_] }) rfl ?_; go_must (refine wpList_stp rfl (stp_cl _ _ rfl hS (by decide) ?_)); clear hS; intro w hS) | (refine wpList_is (.load _ _) rfl ?_; go_must (first | refine wpList_stp rfl (stp_val (run_ld _ _ rfl hS) ?_) | refine wpList_stp rfl (stp_val (run_lda _ _ rfl hS) ?_) | refine wpList_stp rfl (stp_val (run_ld0 _ _ rfl hS) ?_) | refine wpList_stp rfl (stp_val (run_lda0 _ _ rfl hS) ?_))) | (refine wpList_is (.store _ _ _) rfl ?_; go_must (first | refine wpList_stp rfl (stp_st _ _ _ rfl hS ?_) | refine wpList_stp rfl (stp_sta _ _ _ rfl hS ?_)); clear hS; intro w hS) | (refine wpList_is (.alloc _) rfl ?_; go_must (refine wpList_stp rfl (stp_al _ rfl hS ?_)); clear hS; intro bN w hbN hS) | (refine wpList_is (.box _ _) rfl ?_; go_must (refine wpList_stp rfl (stp_bx _ _ rfl hS ?_)); clear hS; intro bN w hbN hS) | (refine wpList_is (.binOp .eql _ _ (.const (.slice none _ _)) _) rfl ?_; refine wpList_stp rfl (stp_val (run_nse _ _ _ rfl) ?_)) | (refine wpList_is (.binOp .neq _ _ (.const (.slice none _ _)) _) rfl ?_; refine wpList_stp rfl (stp_val (run_nsn _ _ _ rfl) ?_)))
    refine bodyPost_ret (res_ct rfl hS) rfl ?_
    exact hR _ _ hT hS.pick
  · simp only [grT, grE, grR] at hR
    go_enter Try.func11, Try.ntmps11
    go_wp2_with (first | go_skip | (refine wpList_is (.alloc 29) rfl ?_; go_must (refine wpList_stp rfl (stp_al _ rfl hS ?_)); clear hS; intro bo w _ hS) | (go_at_call 37; refine dmade hS hT false rfl ?_; clear hS; intro w hS; unfold Ret) | go_skip | (refine wpList_is (.build _ _) rfl ?_; go_must (refine wpList_stp rfl (stp_val (run_bd _ _ rfl) ?_))) | (refine wpList_is (.call { callee := .builtin .clear, args := #[_], argTypes := #[_] }) rfl ?_; go_must (refine wpList_stp rfl (stp_cl _ _ rfl hS (by decide) ?_)); clear hS; intro w hS) | (refine wpList_is (.load _ _) rfl ?_; go_must (first | refine wpList_stp rfl (stp_val (run_ld _ _ rfl hS) ?_) | refine wpList_stp rfl (stp_val (run_lda _ _ rfl hS) ?_) | refine wpList_stp rfl (stp_val (run_ld0 _ _ rfl hS) ?_) | refine wpList_stp rfl (stp_val (run_lda0 _ _ rfl hS) ?_))) | (refine wpList_is (.store _ _ _) rfl ?_; go_must (first | refine wpList_stp rfl (stp_st _ _ _ rfl hS ?_) | refine wpList_stp rfl (stp_sta _ _ _ rfl hS ?_)); clear hS; intro w hS) | (refine wpList_is (.alloc _) rfl ?_; go_must (refine wpList_stp rfl (stp_al _ rfl hS ?_)); clear hS; intro bN w hbN hS) | (refine wpList_is (.box _ _) rfl ?_; go_must (refine wpList_stp rfl (stp_bx _ _ rfl hS ?_)); clear hS; intro bN w hbN hS) | (refine wpList_is (.binOp .eql _ _ (.const (.slice none _ _)) _) rfl ?_; refine wpList_stp rfl (stp_val (run_nse _ _ _ rfl) ?_)) | (refine wpList_is (.binOp .neq _ _ (.const (.slice none _ _)) _) rfl ?_; refine wpList_stp rfl (stp_val (run_nsn _ _ _ rfl) ?_)))
    refine bodyPost_ret (res_ct rfl hS) rfl ?_
    exact hR _ _ hT hS.pick
  obtain ⟨hW, b, bt, Et, rfl, hTt, rfl⟩ := id hT
  cases hsp : spB t with
  | false =>
    have hsp' := Lib.hid hsp
    simp only [grT, grE, grR, grI, hsp, Bool.false_and, Bool.false_eq_true, if_false] at hR
    clear hsp hW
    go_enter Try.func11, Try.ntmps11
    go_wp2_with (first | go_skip | (refine wpList_is (.alloc 29) rfl ?_; go_must (refine wpList_stp rfl (stp_al _ rfl hS ?_)); clear hS; intro bo w _ hS) | (go_at_call 37; refine dmade hS hT true rfl ?_; clear hS; intro w hS; (try simp only [List.cons_append, List.nil_append] at hS); unfold Ret) | (go_at_call 38; refine span_ok t _ hsp'.out ?_; unfold Ret) | go_skip | (refine wpList_is (.build _ _) rfl ?_; go_must (refine wpList_stp rfl (stp_val (run_bd _ _ rfl) ?_))) | (refine wpList_is (.call { callee := .builtin .clear, args := #[_], argTypes := #[_] }) rfl ?_; go_must (refine wpList_stp rfl (stp_cl _ _ rfl hS (by decide) ?_)); clear hS; intro w hS) | (refine wpList_is (.load _ _) rfl ?_; go_must (first | refine wpList_stp rfl (stp_val (run_ld _ _ rfl hS) ?_) | refine wpList_stp rfl (stp_val (run_lda _ _ rfl hS) ?_) | refine wpList_stp rfl (stp_val (run_ld0 _ _ rfl hS) ?_) | refine wpList_stp rfl (stp_val (run_lda0 _ _ rfl hS) ?_))) | (refine wpList_is (.store _ _ _) rfl ?_; go_must (first | refine wpList_stp rfl (stp_st _ _ _ rfl hS ?_) | refine wpList_stp rfl (stp_sta _ _ _ rfl hS ?_)); clear hS; intro w hS) | (refine wpList_is (.alloc _) rfl ?_; go_must (refine wpList_stp rfl (stp_al _ rfl hS ?_)); clear hS; intro bN w hbN hS) | (refine wpList_is (.box _ _) rfl ?_; go_must (refine wpList_stp rfl (stp_bx _ _ rfl hS ?_)); clear hS; intro bN w hbN hS) | (refine wpList_is (.binOp .eql _ _ (.const (.slice none _ _)) _) rfl ?_; refine wpList_stp rfl (stp_val (run_nse _ _ _ rfl) ?_)) | (refine wpList_is (.binOp .neq _ _ (.const (.slice none _ _)) _) rfl ?_; refine wpList_stp rfl (stp_val (run_nsn _ _ _ rfl) ?_)))
    refine bodyPost_ret (res_ct rfl hS) rfl ?_
    exact hR _ _ hT hS.pick
  | true =>
  cases htm : tmB n with
  | false =>
    have hsp' := Lib.hid hsp
    have htm' := Lib.hid htm
    simp only [grT, grE, grR, grI, hsp, htm, Bool.and_false, Bool.false_and, Bool.false_eq_true, if_false] at hR
    clear hsp htm hW
    go_enter Try.func11, Try.ntmps11
    go_wp2_with (first | go_skip | (refine wpList_is (.alloc 29) rfl ?_; go_must (refine wpList_stp rfl (stp_al _ rfl hS ?_)); clear hS; intro bo w _ hS) | (go_at_call 37; refine dmade hS hT true rfl ?_; clear hS; intro w hS; (try simp only [List.cons_append, List.nil_append] at hS); unfold Ret) | (go_at_call 38; refine span_ok t _ hsp'.out ?_; unfold Ret) | (go_at_call 39; refine time_ok n _ htm'.out ?_; unfold Ret) | go_skip | (refine wpList_is (.build _ _) rfl ?_; go_must (refine wpList_stp rfl (stp_val (run_bd _ _ rfl) ?_))) | (refine wpList_is (.call { callee := .builtin .clear, args := #[_], argTypes := #[_] }) rfl ?_; go_must (refine wpList_stp rfl (stp_cl _ _ rfl hS (by decide) ?_)); clear hS; intro w hS) | (refine wpList_is (.load _ _) rfl ?_; go_must (first | refine wpList_stp rfl (stp_val (run_ld _ _ rfl hS) ?_) | refine wpList_stp rfl (stp_val (run_lda _ _ rfl hS) ?_) | refine wpList_stp rfl (stp_val (run_ld0 _ _ rfl hS) ?_) | refine wpList_stp rfl (stp_val (run_lda0 _ _ rfl hS) ?_))) | (refine wpList_is (.store _ _ _) rfl ?_; go_must (first | refine wpList_stp rfl (stp_st _ _ _ rfl hS ?_) | refine wpList_stp rfl (stp_sta _ _ _ rfl hS ?_)); clear hS; intro w hS) | (refine wpList_is (.alloc _) rfl ?_; go_must (refine wpList_stp rfl (stp_al _ rfl hS ?_)); clear hS; intro bN w hbN hS) | (refine wpList_is (.box _ _) rfl ?_; go_must (refine wpList_stp rfl (stp_bx _ _ rfl hS ?_)); clear hS; intro bN w hbN hS) | (refine wpList_is (.binOp .eql _ _ (.const (.slice none _ _)) _) rfl ?_; refine wpList_stp rfl (stp_val (run_nse _ _ _ rfl) ?_)) | (refine wpList_is (.binOp .neq _ _ (.const (.slice none _ _)) _) rfl ?_; refine wpList_stp rfl (stp_val (run_nsn _ _ _ rfl) ?_)))
    refine bodyPost_ret (res_ct rfl hS) rfl ?_
    exact hR _ _ hT hS.pick
  | true =>
  by_cases hov : n + t ≤ 1099511627776
  case neg =>
    have hsp' := Lib.hid hsp
    have htm' := Lib.hid htm
    simp only [grT, grE, grR, grI, hsp, htm, Bool.and_true, Bool.and_self, decide_eq_false hov, Bool.and_false, Bool.false_eq_true, if_true, if_false, if_neg hov] at hR
    clear hW
    go_enter Try.func11, Try.ntmps11
    go_wp2_with (first | go_skip | (refine wpList_is (.alloc 29) rfl ?_; go_must (refine wpList_stp rfl (stp_al _ rfl hS ?_)); clear hS; intro bo w _ hS) | (go_at_call 37; refine dmade hS hT true rfl ?_; clear hS; intro w hS; (try simp only [List.cons_append, List.nil_append] at hS); unfold Ret) | (go_at_call 38; refine span_ok t _ hsp'.out ?_; unfold Ret) | (go_at_call 39; refine time_ok n _ htm'.out ?_; unfold Ret) | (go_at_call 40; refine end_no hsp'.out htm'.out (by omega) ?_; unfold Ret) | go_skip | (refine wpList_is (.build _ _) rfl ?_; go_must (refine wpList_stp rfl (stp_val (run_bd _ _ rfl) ?_))) | (refine wpList_is (.call { callee := .builtin .clear, args := #[_], argTypes := #[_] }) rfl ?_; go_must (refine wpList_stp rfl (stp_cl _ _ rfl hS (by decide) ?_)); clear hS; intro w hS) | (refine wpList_is (.load _ _) rfl ?_; go_must (first | refine wpList_stp rfl (stp_val (run_ld _ _ rfl hS) ?_) | refine wpList_stp rfl (stp_val (run_lda _ _ rfl hS) ?_) | refine wpList_stp rfl (stp_val (run_ld0 _ _ rfl hS) ?_) | refine wpList_stp rfl (stp_val (run_lda0 _ _ rfl hS) ?_))) | (refine wpList_is (.store _ _ _) rfl ?_; go_must (first | refine wpList_stp rfl (stp_st _ _ _ rfl hS ?_) | refine wpList_stp rfl (stp_sta _ _ _ rfl hS ?_)); clear hS; intro w hS) | (refine wpList_is (.alloc _) rfl ?_; go_must (refine wpList_stp rfl (stp_al _ rfl hS ?_)); clear hS; intro bN w hbN hS) | (refine wpList_is (.box _ _) rfl ?_; go_must (refine wpList_stp rfl (stp_bx _ _ rfl hS ?_)); clear hS; intro bN w hbN hS) | (refine wpList_is (.binOp .eql _ _ (.const (.slice none _ _)) _) rfl ?_; refine wpList_stp rfl (stp_val (run_nse _ _ _ rfl) ?_)) | (refine wpList_is (.binOp .neq _ _ (.const (.slice none _ _)) _) rfl ?_; refine wpList_stp rfl (stp_val (run_nsn _ _ _ rfl) ?_)))
    refine bodyPost_ret (res_ct rfl hS) rfl ?_
    exact hR _ _ hT hS.pick
  case pos =>
  have hsp' := Lib.hid hsp
  have htm' := Lib.hid htm
  simp only [grT, grE, grR, grI, hsp, htm, Bool.and_true, Bool.and_self, decide_eq_true hov, if_true, if_pos hov] at hR
  have hu : 0 ≤ n + t ∧ n + t ≤ 1099511627776 := by
    simp only [spB, tmB, Bool.and_eq_true, decide_eq_true_eq] at hsp htm
    omega
  clear hsp htm
  cases htk : tkI (some (tbD L)) with
  | none =>
    obtain ⟨e1, e2, e3, e4⟩ := tk_none (L := tbD L) (by rw [tbD_len]; exact hW.lo) htk
    rw [htk] at hR
    simp only [Option.isSome_none, Bool.false_eq_true, if_false] at hR
    have e4' : tkT (some (tbD L)) = some (tbD L) := by simp only [tkT, e4]
    have hW' := Lib.hid hW
    have e1' := Lib.hid e1
    have e2' := Lib.hid e2
    have e3' := Lib.hid e3
    have e5' := Lib.hid e4'
    clear htk e1 e2 e3 e4 e4' hW
    go_enter Try.func11, Try.ntmps11
    go_wp2_with (first | go_skip | (refine wpList_is (.alloc 29) rfl ?_; go_must (refine wpList_stp rfl (stp_al _ rfl hS ?_)); clear hS; intro bo w _ hS) | (refine wpList_is (.alloc 81) rfl ?_; go_must (refine wpList_stp rfl (stp_al _ rfl hS ?_)); clear hS; intro br w _ hS) | (go_at_call 37; refine dmade hS hT true rfl ?_; clear hS; intro w hS; (try simp only [List.cons_append, List.nil_append] at hS); unfold Ret) | (go_at_call 38; refine span_ok t _ hsp'.out ?_; unfold Ret) | (go_at_call 39; refine time_ok n _ htm'.out ?_; unfold Ret) | (go_at_call 40; refine end_ok hsp'.out htm'.out hov ?_; unfold Ret) | (go_at_call 41; refine sl_take hS hTt ?_; rw [e1'.out, e2'.out, e3'.out, e5'.out]; clear hS; intro E2 w hT2 hS; (try simp only [List.cons_append, List.nil_append] at hS); unfold Ret) | go_skip | (refine wpList_is (.build _ _) rfl ?_; go_must (refine wpList_stp rfl (stp_val (run_bd _ _ rfl) ?_))) | (refine wpList_is (.call { callee := .builtin .clear, args := #[_], argTypes := #[_] }) rfl ?_; go_must (refine wpList_stp rfl (stp_cl _ _ rfl hS (by decide) ?_)); clear hS; intro w hS) | (refine wpList_is (.load _ _) rfl ?_; go_must (first | refine wpList_stp rfl (stp_val (run_ld _ _ rfl hS) ?_) | refine wpList_stp rfl (stp_val (run_lda _ _ rfl hS) ?_) | refine wpList_stp rfl (stp_val (run_ld0 _ _ rfl hS) ?_) | refine wpList_stp rfl (stp_val (run_lda0 _ _ rfl hS) ?_))) | (refine wpList_is (.store _ _ _) rfl ?_; go_must (first | refine wpList_stp rfl (stp_st _ _ _ rfl hS ?_) | refine wpList_stp rfl (stp_sta _ _ _ rfl hS ?_)); clear hS; intro w hS) | (refine wpList_is (.alloc _) rfl ?_; go_must (refine wpList_stp rfl (stp_al _ rfl hS ?_)); clear hS; intro bN w hbN hS) | (refine wpList_is (.box _ _) rfl ?_; go_must (refine wpList_stp rfl (stp_bx _ _ rfl hS ?_)); clear hS; intro bN w hbN hS) | (refine wpList_is (.binOp .eql _ _ (.const (.slice none _ _)) _) rfl ?_; refine wpList_stp rfl (stp_val (run_nse _ _ _ rfl) ?_)) | (refine wpList_is (.binOp .neq _ _ (.const (.slice none _ _)) _) rfl ?_; refine wpList_stp rfl (stp_val (run_nsn _ _ _ rfl) ?_)))
    refine bodyPost_ret (res_ct rfl hS) rfl ?_
    exact hR (⟨b, deskC (some ⟨bt, 0, none⟩) (padD L), 72, true⟩ :: E2) _ ⟨hW'.out, b, bt, E2, rfl, hT2, rfl⟩ hS.pick
  | some i =>
    obtain ⟨e1, e2, e3, e4, hi, _⟩ := tk_some htk
    rw [htk] at hR
    simp only [Option.isSome_some, if_true] at hR
    rw [tbD_len] at hi
    obtain ⟨g, hg⟩ : ∃ g, (L.getD i (0, 0, 0)).2.1 = g := ⟨_, rfl⟩
    have e3g : tkG (some (tbD L)) = g := by rw [e3, tbD_get]; exact hg
    have e4' : tkT (some (tbD L)) = some (tbD (grN L i (n + t))) := by
      simp only [tkT, e4]
      unfold grN
      rw [tbD_set, tbD_get]
    have hWN := grN_w hW hi hu
    have hset := deskUnSet (t := some ⟨bt, 0, none⟩) (padD_get hi rfl) (n + t)
    have hpad : (padD L).set i (n + t) = padD (grN L i (n + t)) := padD_set hi (x := (1, (L.getD i (0, 0, 0)).2.1, n + t))
    rw [hpad] at hset
    have hi64 : i < 64 := by have := hW.hi; omega
    have hi64' : (i : Int) < 64 := by omega
    rw [hg] at hR
    have hWN' := Lib.hid hWN
    have e1' := Lib.hid e1
    have e2' := Lib.hid e2
    have e3' := Lib.hid e3g
    have e5' := Lib.hid e4'
    clear htk e1 e2 e3 e3g e4 e4' hW hg hpad hWN
    go_enter Try.func11, Try.ntmps11
    go_wp2_with (first | go_skip | (refine wpList_is (.alloc 29) rfl ?_; go_must (refine wpList_stp rfl (stp_al _ rfl hS ?_)); clear hS; intro bo w _ hS) | (refine wpList_is (.alloc 81) rfl ?_; go_must (refine wpList_stp rfl (stp_al _ rfl hS ?_)); clear hS; intro br w _ hS) | (go_at_call 37; refine dmade hS hT true rfl ?_; clear hS; intro w hS; (try simp only [List.cons_append, List.nil_append] at hS); unfold Ret) | (go_at_call 38; refine span_ok t _ hsp'.out ?_; unfold Ret) | (go_at_call 39; refine time_ok n _ htm'.out ?_; unfold Ret) | (go_at_call 40; refine end_ok hsp'.out htm'.out hov ?_; unfold Ret) | (go_at_call 41; refine sl_take hS hTt ?_; rw [e1'.out, e2'.out, e3'.out, e5'.out]; clear hS; intro E2 w hT2 hS; (try simp only [List.cons_append, List.nil_append] at hS); unfold Ret) | (refine region_tail 7 hS (by kernel_rfl) (by kernel_rfl) ?_; clear hS; intro w hS; simp only [List.take_succ_cons, List.take_zero, List.drop_succ_cons, List.drop_zero]; (repeat (first | (refine wpStill_is (.load _ _) rfl ?_; go_must (first | refine wpStill_val rfl (run_ld _ _ rfl hS) ?_ | refine wpStill_val rfl (run_lda _ _ rfl hS) ?_ | refine wpStill_val rfl (run_ld0 _ _ rfl hS) ?_ | refine wpStill_val rfl (run_lda0 _ _ rfl hS) ?_)) | still_step)); refine wpStill_nil ?_) | go_skip | (refine wpList_is (.build _ _) rfl ?_; go_must (refine wpList_stp rfl (stp_val (run_bd _ _ rfl) ?_))) | (refine wpList_is (.call { callee := .builtin .clear, args := #[_], argTypes := #[_] }) rfl ?_; go_must (refine wpList_stp rfl (stp_cl _ _ rfl hS (by decide) ?_)); clear hS; intro w hS) | (refine wpList_is (.load _ _) rfl ?_; go_must (first | refine wpList_stp rfl (stp_val (run_ld _ _ rfl hS) ?_) | refine wpList_stp rfl (stp_val (run_lda _ _ rfl hS) ?_) | refine wpList_stp rfl (stp_val (run_ld0 _ _ rfl hS) ?_) | refine wpList_stp rfl (stp_val (run_lda0 _ _ rfl hS) ?_))) | (refine wpList_is (.store _ _ _) rfl ?_; go_must (first | refine wpList_stp rfl (stp_st _ _ _ rfl hS ?_) | refine wpList_stp rfl (stp_sta _ _ _ rfl hS ?_)); clear hS; intro w hS) | (refine wpList_is (.alloc _) rfl ?_; go_must (refine wpList_stp rfl (stp_al _ rfl hS ?_)); clear hS; intro bN w hbN hS) | (refine wpList_is (.box _ _) rfl ?_; go_must (refine wpList_stp rfl (stp_bx _ _ rfl hS ?_)); clear hS; intro bN w hbN hS) | (refine wpList_is (.binOp .eql _ _ (.const (.slice none _ _)) _) rfl ?_; refine wpList_stp rfl (stp_val (run_nse _ _ _ rfl) ?_)) | (refine wpList_is (.binOp .neq _ _ (.const (.slice none _ _)) _) rfl ?_; refine wpList_stp rfl (stp_val (run_nsn _ _ _ rfl) ?_)))
    refine bodyPost_ret (res_ct rfl hS) rfl ?_
    exact hR (⟨b, deskC (some ⟨bt, 0, none⟩) (padD (grN L i (n + t))), 72, true⟩ :: E2) _ ⟨hWN'.out, b, bt, E2, rfl, hT2, rfl⟩ hS.pick

/-! Outer names -/
def olf (x : Ot) : List Value := [.int .i64 x.1, .int .i64 x.2.1, .int .u32 x.2.2]
theorem olf_len (x : Ot) : (olf x).length = 3 := rfl
theorem olf_one (x : Ot) : ∀ v ∈ olf x, v.oneCell' = true := by
  intro v hv
  simp only [olf, List.mem_cons, List.not_mem_nil, or_false] at hv
  rcases hv with rfl | rfl | rfl <;> rfl
instance e_out : ElemT Try.prog 29 3 24 #[.int .i64 0, .int .i64 0, .int .u32 0] := ⟨by kernel_rfl⟩
instance sl_out : SliceT Try.prog 49 29 := ⟨by kernel_rfl⟩
instance s_sout : ScalarT Try.prog 49 := ⟨by kernel_rfl, by kernel_rfl⟩
instance z_sout : ZeroT Try.prog 49 #[.slice none 0 0] := ⟨by kernel_rfl⟩
/-- A slice of outer names, of the call's own. -/
def OS (v : Value) (l : List Ot) (E : List Ent) : Prop := Sl 29 3 v l.length (l.flatMap olf) E
theorem OS.nil : OS (.slice none 0 0) [] [] := sl_nil
theorem OS.snoc {v : Value} {l : List Ot} {x : Ot} (h : Sl 29 3 v (l.length + 1) (l.flatMap olf ++ #[.int .i64 x.1, .int .i64 x.2.1, .int .u32 x.2.2].toList) E) : OS v (l ++ [x]) E := by
  unfold OS
  rw [List.length_append, List.flatMap_append]
  simpa [olf] using h
theorem OS.lit {g : Nat} {cs : Array Value} (l : List Ot) (h : (l.flatMap olf).toArray = cs) (hn : l.length ≤ 1000) : OS (.slice (some ⟨g, 0, none⟩) l.length l.length) l [⟨g, cs, 29, true⟩] := by
  subst h
  exact ⟨flat_len olf_len l, .inr ⟨g, l.length, [], rfl, by simp, Nat.le_refl _, by simp only [maxLen]; omega, by rw [flat_len olf_len]; simp⟩⟩
theorem OS.len {v : Value} {l : List Ot} (h : OS v l E) {n : Nat} (hn : l.length = n) : LenV Try.prog 49 v n := by
  subst hn
  refine ⟨?_, 29, Try.underlying49⟩
  rcases h.or with ⟨rfl, h0, _⟩ | ⟨g, cap, sp, rfl, _⟩
  · exact ⟨none, 0, by rw [h0]⟩
  · exact ⟨_, cap, rfl⟩
theorem OS.at {v : Value} {l : List Ot} (h : OS v l E) {i : Nat} (hi : i < l.length) {x : Ot} (hx : l.getD i (0, 0, 0) = x) :
    ∃ g sp, (∀ j : Int, j = i → IdxV Try.prog 49 v j ⟨g, i * 3, none⟩) ∧ Has E g (blk [] olf l sp) 29 ∧ CellsAt (blk [] olf l sp) (i * 3) 3 #[.int .i64 x.1, .int .i64 x.2.1, .int .u32 x.2.2] := by
  subst hx
  obtain ⟨g, cap, sp, rfl, rfl, h1, h2, h3⟩ := Sl.some h (by omega)
  refine ⟨g, sp, fun j hj => ⟨fun w => ?_⟩, hasHead, ?_⟩
  · subst hj
    have h2 : 0 ≤ (i : Int) := by omega
    simp [Instr.indexAt, asIntOf, run_underlying Try.underlying49, hi, run_sizeOf' (P := Try.prog) (t := 29) (n := 3) (by kernel_rfl), Addr.add_lit]
  · refine blkCells (pre := []) olf_len (i := i) (a := l.getD i (0, 0, 0)) ?_ (by simp)
    rw [List.getD_eq_getElem?_getD, List.getElem?_eq_getElem hi]; rfl
theorem OS.one {v : Value} {l : List Ot} (h : OS v l E) : OneCell v := Sl.one h
/-- The lease of a slot. -/
def lsOf' (r : Int × Int) : Ot := (3, r.1, r.2)
def allD (T : Dk) : List Ot := (tkL (some (tbD (dkL T)))).map lsOf'
theorem allD_64 {p : Option Addr} {T : Dk} {E : List Ent} (h : DA p T E) : (allD T).length ≤ 64 := by
  rcases T with _ | _ | L
  · simp [allD, dkL, tbD, tkL, stL, gl]
  · simp [allD, dkL, tbD, tkL, stL, gl]
  · have h1 := stCnt_le 1 (tbD L) (tbD L).length
    have h2 := h.1.hi
    rw [tbD_len] at h1
    simp only [allD, dkL, List.length_map, tkL, stL_len, tbD_len]
    omega

set_option maxHeartbeats 1000000 in
set_option maxRecDepth 100000 in
theorem dk_all {p : Option Addr} {T : Dk} (hO : St w0 bs w H) (hT : DA p T E) [hc : Cut H E H1] (l : List Ot) (hl : allD T = l)
    (hR : ∀ v E' w', OS v l E' → St w0 bs w' (E' ++ (E ++ H1)) → Ret R v w') : Calls Try.prog 23 #[.pointer p] w R := by
  have hS := hO.front (E := E) (H1 := H1)
  clear hO hc
  subst hl
  have h64 := allD_64 hT
  rcases T with _ | _ | L
  · go_enter Try.func23, Try.ntmps23
    go_wp2_with (first | go_skip | (go_at_call 37; refine dmade hS hT false rfl ?_; clear hS; intro w hS; unfold Ret) | go_skip | (refine wpList_is (.build _ _) rfl ?_; go_must (refine wpList_stp rfl (stp_val (run_bd _ _ rfl) ?_))) | (refine wpList_is (.call { callee := .builtin .clear, args := #[_], argTypes := #[_] }) rfl ?_; go_must (refine wpList_stp rfl (stp_cl _ _ rfl hS (by decide) ?_)); clear hS; intro w hS) | (refine wpList_is (.load _ _) rfl ?_; go_must (first | refine wpList_stp rfl (stp_val (run_ld _ _ rfl hS) ?_) | refine wpList_stp rfl (stp_val (run_lda _ _ rfl hS) ?_) | refine wpList_stp rfl (stp_val (run_ld0 _ _ rfl hS) ?_) | refine wpList_stp rfl (stp_val (run_lda0 _ _ rfl hS) ?_))) | (refine wpList_is (.store _ _ _) rfl ?_; go_must (first | refine wpList_stp rfl (stp_st _ _ _ rfl hS ?_) | refine wpList_stp rfl (stp_sta _ _ _ rfl hS ?_)); clear hS; intro w hS) | (refine wpList_is (.alloc _) rfl ?_; go_must (refine wpList_stp rfl (stp_al _ rfl hS ?_)); clear hS; intro bN w hbN hS) | (refine wpList_is (.box _ _) rfl ?_; go_must (refine wpList_stp rfl (stp_bx _ _ rfl hS ?_)); clear hS; intro bN w hbN hS) | (refine wpList_is (.binOp .eql _ _ (.const (.slice none _ _)) _) rfl ?_; refine wpList_stp rfl (stp_val (run_nse _ _ _ rfl) ?_)) | (refine wpList_is (.binOp .neq _ _ (.const (.slice none _ _)) _) rfl ?_; refine wpList_stp rfl (stp_val (run_nsn _ _ _ rfl) ?_)))
    exact hR _ _ _ OS.nil hS.pick
  · go_enter Try.func23, Try.ntmps23
    go_wp2_with (first | go_skip | (go_at_call 37; refine dmade hS hT false rfl ?_; clear hS; intro w hS; unfold Ret) | go_skip | (refine wpList_is (.build _ _) rfl ?_; go_must (refine wpList_stp rfl (stp_val (run_bd _ _ rfl) ?_))) | (refine wpList_is (.call { callee := .builtin .clear, args := #[_], argTypes := #[_] }) rfl ?_; go_must (refine wpList_stp rfl (stp_cl _ _ rfl hS (by decide) ?_)); clear hS; intro w hS) | (refine wpList_is (.load _ _) rfl ?_; go_must (first | refine wpList_stp rfl (stp_val (run_ld _ _ rfl hS) ?_) | refine wpList_stp rfl (stp_val (run_lda _ _ rfl hS) ?_) | refine wpList_stp rfl (stp_val (run_ld0 _ _ rfl hS) ?_) | refine wpList_stp rfl (stp_val (run_lda0 _ _ rfl hS) ?_))) | (refine wpList_is (.store _ _ _) rfl ?_; go_must (first | refine wpList_stp rfl (stp_st _ _ _ rfl hS ?_) | refine wpList_stp rfl (stp_sta _ _ _ rfl hS ?_)); clear hS; intro w hS) | (refine wpList_is (.alloc _) rfl ?_; go_must (refine wpList_stp rfl (stp_al _ rfl hS ?_)); clear hS; intro bN w hbN hS) | (refine wpList_is (.box _ _) rfl ?_; go_must (refine wpList_stp rfl (stp_bx _ _ rfl hS ?_)); clear hS; intro bN w hbN hS) | (refine wpList_is (.binOp .eql _ _ (.const (.slice none _ _)) _) rfl ?_; refine wpList_stp rfl (stp_val (run_nse _ _ _ rfl) ?_)) | (refine wpList_is (.binOp .neq _ _ (.const (.slice none _ _)) _) rfl ?_; refine wpList_stp rfl (stp_val (run_nsn _ _ _ rfl) ?_)))
    exact hR _ _ _ OS.nil hS.pick
  obtain ⟨hW, b, bt, Et, rfl, hTt, rfl⟩ := id hT
  obtain ⟨m, hm⟩ : ∃ m, (tkL (some (tbD L))).length = m := ⟨_, rfl⟩
  have hm64 : m ≤ 64 := by rw [← hm]; simpa [allD, dkL] using h64
  have hm' := Lib.hid hm
  clear hW hm h64
  go_enter Try.func23, Try.ntmps23
  go_wp2_with (first | go_skip | (go_at_call 37; refine dmade hS hT true rfl ?_; clear hS; intro w hS; (try simp only [List.cons_append, List.nil_append] at hS); unfold Ret) | (go_at_call 50; refine sl_taken hS hTt ?_; clear hS; intro v2 E3 w hL _ hS; have hone2 := hL.one; have hln2 := hL.len hm'.out; unfold Ret) | go_skip | (refine wpList_is (.call { callee := .builtin .len, args := #[_], argTypes := #[_] }) rfl ?_; refine wpList_stp rfl (stp_val (run_lenv _ _ rfl) ?_)) | (refine wpList_is (.slice _ _ none (some _) none) rfl ?_; refine wpList_stp rfl (stp_val (run_prev _ _ _ rfl) ?_)) | (refine wpList_is (.indexAddr _ _ _) rfl ?_; refine wpList_stp rfl (stp_val (run_idxv _ _ _ rfl) ?_)) | go_skip | (refine wpList_is (.build _ _) rfl ?_; go_must (refine wpList_stp rfl (stp_val (run_bd _ _ rfl) ?_))) | (refine wpList_is (.call { callee := .builtin .clear, args := #[_], argTypes := #[_] }) rfl ?_; go_must (refine wpList_stp rfl (stp_cl _ _ rfl hS (by decide) ?_)); clear hS; intro w hS) | (refine wpList_is (.load _ _) rfl ?_; go_must (first | refine wpList_stp rfl (stp_val (run_ld _ _ rfl hS) ?_) | refine wpList_stp rfl (stp_val (run_lda _ _ rfl hS) ?_) | refine wpList_stp rfl (stp_val (run_ld0 _ _ rfl hS) ?_) | refine wpList_stp rfl (stp_val (run_lda0 _ _ rfl hS) ?_))) | (refine wpList_is (.store _ _ _) rfl ?_; go_must (first | refine wpList_stp rfl (stp_st _ _ _ rfl hS ?_) | refine wpList_stp rfl (stp_sta _ _ _ rfl hS ?_)); clear hS; intro w hS) | (refine wpList_is (.alloc _) rfl ?_; go_must (refine wpList_stp rfl (stp_al _ rfl hS ?_)); clear hS; intro bN w hbN hS) | (refine wpList_is (.box _ _) rfl ?_; go_must (refine wpList_stp rfl (stp_bx _ _ rfl hS ?_)); clear hS; intro bN w hbN hS) | (refine wpList_is (.binOp .eql _ _ (.const (.slice none _ _)) _) rfl ?_; refine wpList_stp rfl (stp_val (run_nse _ _ _ rfl) ?_)) | (refine wpList_is (.binOp .neq _ _ (.const (.slice none _ _)) _) rfl ?_; refine wpList_stp rfl (stp_val (run_nsn _ _ _ rfl) ?_)))
  have hS : St w0 bs w (E3 ++ (⟨b, deskC (some ⟨bt, 0, none⟩) (padD L), 72, true⟩ :: (Et ++ H1))) := hS.pick
  go_loopw [15, 3, 5] (fun u c _ wr => ∃ (k : Nat) (v : Value) (E2 : List Ent), k ≤ m ∧ u = .int .i64 k ∧ v = c ∧ OS v (((tkL (some (tbD L))).take k).map lsOf') E2 ∧ St w0 bs wr (E2 ++ (E3 ++ (⟨b, deskC (some ⟨bt, 0, none⟩) (padD L), 72, true⟩ :: (Et ++ H1))))) (fun u _ _ _ => m - (intOf u).toNat)
  case atStart => exact ⟨0, _, [], Nat.zero_le _, rfl, rfl, OS.nil, hS⟩
  case round =>
    clear hS
    obtain ⟨k, v, E2, hk, rfl, rfl, hA, hS⟩ := hrel
    by_cases hlk : k < m
    · have hlk' : k < (tkL (some (tbD L))).length := by rw [hm'.out]; exact hlk
      obtain ⟨⟨ys, yg⟩, hy⟩ : ∃ y, (tkL (some (tbD L))).getD k (0, 0) = y := ⟨_, rfl⟩
      obtain ⟨gy, spy, iy, hhy, hcy⟩ := hL.at hlk' hy
      have iy := iy k rfl
      simp only at hcy
      have hone := hA.one
      have hnext : ((tkL (some (tbD L))).take (k + 1)).map lsOf' = ((tkL (some (tbD L))).take k).map lsOf' ++ [(3, ys, yg)] := by
        rw [List.take_succ_eq_append_getElem hlk', List.map_append]
        have : (tkL (some (tbD L)))[k] = (ys, yg) := by rw [← hy, List.getD_eq_getElem?_getD, List.getElem?_eq_getElem hlk']; rfl
        rw [this]; rfl
      have hnl : (((tkL (some (tbD L))).take k).map lsOf').length ≤ 64 := by simp; omega
      have hnext' := Lib.hid hnext
      obtain ⟨l0, hl0⟩ : ∃ l0, ((tkL (some (tbD L))).take k).map lsOf' = l0 := ⟨_, rfl⟩
      rw [hl0] at hA hnext' hnl
      have hsl : Sl 29 3 v l0.length (l0.flatMap olf) E2 := hA
      clear hnext hy hlk' hl0
      go_wp2_with (first | go_skip | (refine wpList_is (.alloc 81) rfl ?_; go_must (refine wpList_stp rfl (stp_al _ rfl hS ?_)); clear hS; intro br w _ hS) | (refine wpList_is (.buildSlice _ _ _) rfl ?_; go_must (refine wpList_stp rfl (stp_bsl _ _ _ rfl hS (by decide) rfl (by decide) (by decide) ?_)); clear hS; intro bN w hbN hS) | (refine wpList_is (.call { callee := .builtin .append, args := #[_, _], argTypes := #[_, _] }) rfl ?_; go_must (refine wpList_stp rfl (stp_ap _ _ _ _ rfl rfl hS (by rfl) hsl (by rfl) (by simp only [maxLen]; omega) (by omega) ?_)); clear hS; intro v' E' w hsl' hne hS; have hone := hsl'.one) | go_skip | (refine wpList_is (.call { callee := .builtin .len, args := #[_], argTypes := #[_] }) rfl ?_; refine wpList_stp rfl (stp_val (run_lenv _ _ rfl) ?_)) | (refine wpList_is (.slice _ _ none (some _) none) rfl ?_; refine wpList_stp rfl (stp_val (run_prev _ _ _ rfl) ?_)) | (refine wpList_is (.indexAddr _ _ _) rfl ?_; refine wpList_stp rfl (stp_val (run_idxv _ _ _ rfl) ?_)) | go_skip | (refine wpList_is (.build _ _) rfl ?_; go_must (refine wpList_stp rfl (stp_val (run_bd _ _ rfl) ?_))) | (refine wpList_is (.call { callee := .builtin .clear, args := #[_], argTypes := #[_] }) rfl ?_; go_must (refine wpList_stp rfl (stp_cl _ _ rfl hS (by decide) ?_)); clear hS; intro w hS) | (refine wpList_is (.load _ _) rfl ?_; go_must (first | refine wpList_stp rfl (stp_val (run_ld _ _ rfl hS) ?_) | refine wpList_stp rfl (stp_val (run_lda _ _ rfl hS) ?_) | refine wpList_stp rfl (stp_val (run_ld0 _ _ rfl hS) ?_) | refine wpList_stp rfl (stp_val (run_lda0 _ _ rfl hS) ?_))) | (refine wpList_is (.store _ _ _) rfl ?_; go_must (first | refine wpList_stp rfl (stp_st _ _ _ rfl hS ?_) | refine wpList_stp rfl (stp_sta _ _ _ rfl hS ?_)); clear hS; intro w hS) | (refine wpList_is (.alloc _) rfl ?_; go_must (refine wpList_stp rfl (stp_al _ rfl hS ?_)); clear hS; intro bN w hbN hS) | (refine wpList_is (.box _ _) rfl ?_; go_must (refine wpList_stp rfl (stp_bx _ _ rfl hS ?_)); clear hS; intro bN w hbN hS) | (refine wpList_is (.binOp .eql _ _ (.const (.slice none _ _)) _) rfl ?_; refine wpList_stp rfl (stp_val (run_nse _ _ _ rfl) ?_)) | (refine wpList_is (.binOp .neq _ _ (.const (.slice none _ _)) _) rfl ?_; refine wpList_stp rfl (stp_val (run_nsn _ _ _ rfl) ?_)))
      go_roundw
      case rel => exact ⟨k + 1, v', E', by omega, by go_num, rfl, by rw [hnext'.out]; exact OS.snoc hsl', hS.pick⟩
      case measure => simp [intOf]; omega
    · obtain rfl : k = m := by omega
      have e : ((tkL (some (tbD L))).take k).map lsOf' = allD (some (some L)) := by
        rw [List.take_of_length_le (by rw [hm'.out]; omega)]; rfl
      rw [e] at hA
      clear e
      go_wp2_with (first | go_skip | go_skip | (refine wpList_is (.call { callee := .builtin .len, args := #[_], argTypes := #[_] }) rfl ?_; refine wpList_stp rfl (stp_val (run_lenv _ _ rfl) ?_)) | (refine wpList_is (.slice _ _ none (some _) none) rfl ?_; refine wpList_stp rfl (stp_val (run_prev _ _ _ rfl) ?_)) | (refine wpList_is (.indexAddr _ _ _) rfl ?_; refine wpList_stp rfl (stp_val (run_idxv _ _ _ rfl) ?_)) | go_skip | (refine wpList_is (.build _ _) rfl ?_; go_must (refine wpList_stp rfl (stp_val (run_bd _ _ rfl) ?_))) | (refine wpList_is (.call { callee := .builtin .clear, args := #[_], argTypes := #[_] }) rfl ?_; go_must (refine wpList_stp rfl (stp_cl _ _ rfl hS (by decide) ?_)); clear hS; intro w hS) | (refine wpList_is (.load _ _) rfl ?_; go_must (first | refine wpList_stp rfl (stp_val (run_ld _ _ rfl hS) ?_) | refine wpList_stp rfl (stp_val (run_lda _ _ rfl hS) ?_) | refine wpList_stp rfl (stp_val (run_ld0 _ _ rfl hS) ?_) | refine wpList_stp rfl (stp_val (run_lda0 _ _ rfl hS) ?_))) | (refine wpList_is (.store _ _ _) rfl ?_; go_must (first | refine wpList_stp rfl (stp_st _ _ _ rfl hS ?_) | refine wpList_stp rfl (stp_sta _ _ _ rfl hS ?_)); clear hS; intro w hS) | (refine wpList_is (.alloc _) rfl ?_; go_must (refine wpList_stp rfl (stp_al _ rfl hS ?_)); clear hS; intro bN w hbN hS) | (refine wpList_is (.box _ _) rfl ?_; go_must (refine wpList_stp rfl (stp_bx _ _ rfl hS ?_)); clear hS; intro bN w hbN hS) | (refine wpList_is (.binOp .eql _ _ (.const (.slice none _ _)) _) rfl ?_; refine wpList_stp rfl (stp_val (run_nse _ _ _ rfl) ?_)) | (refine wpList_is (.binOp .neq _ _ (.const (.slice none _ _)) _) rfl ?_; refine wpList_stp rfl (stp_val (run_nsn _ _ _ rfl) ?_)))
      exact hR _ _ _ hA hS.pick
theorem dk_len {p : Option Addr} {T : Dk} (hO : St w0 bs w H) (hT : DA p T E) [hc : Cut H E H1] (m : Nat) (hm : (allD T).length = m)
    (hR : ∀ w', DA p T E → St w0 bs w' (E ++ H1) → Ret R (.int .i64 m) w') : Calls Try.prog 18 #[.pointer p] w R := by
  have hS := hO.front (E := E) (H1 := H1)
  clear hO hc
  rcases T with _ | _ | L
  · obtain rfl : 0 = m := hm
    go_enter Try.func18, Try.ntmps18
    go_wp2_with (first | go_skip | (go_at_call 37; refine dmade hS hT false rfl ?_; clear hS; intro w hS; unfold Ret) | go_skip | (refine wpList_is (.build _ _) rfl ?_; go_must (refine wpList_stp rfl (stp_val (run_bd _ _ rfl) ?_))) | (refine wpList_is (.call { callee := .builtin .clear, args := #[_], argTypes := #[_] }) rfl ?_; go_must (refine wpList_stp rfl (stp_cl _ _ rfl hS (by decide) ?_)); clear hS; intro w hS) | (refine wpList_is (.load _ _) rfl ?_; go_must (first | refine wpList_stp rfl (stp_val (run_ld _ _ rfl hS) ?_) | refine wpList_stp rfl (stp_val (run_lda _ _ rfl hS) ?_) | refine wpList_stp rfl (stp_val (run_ld0 _ _ rfl hS) ?_) | refine wpList_stp rfl (stp_val (run_lda0 _ _ rfl hS) ?_))) | (refine wpList_is (.store _ _ _) rfl ?_; go_must (first | refine wpList_stp rfl (stp_st _ _ _ rfl hS ?_) | refine wpList_stp rfl (stp_sta _ _ _ rfl hS ?_)); clear hS; intro w hS) | (refine wpList_is (.alloc _) rfl ?_; go_must (refine wpList_stp rfl (stp_al _ rfl hS ?_)); clear hS; intro bN w hbN hS) | (refine wpList_is (.box _ _) rfl ?_; go_must (refine wpList_stp rfl (stp_bx _ _ rfl hS ?_)); clear hS; intro bN w hbN hS) | (refine wpList_is (.binOp .eql _ _ (.const (.slice none _ _)) _) rfl ?_; refine wpList_stp rfl (stp_val (run_nse _ _ _ rfl) ?_)) | (refine wpList_is (.binOp .neq _ _ (.const (.slice none _ _)) _) rfl ?_; refine wpList_stp rfl (stp_val (run_nsn _ _ _ rfl) ?_)))
    exact hR _ hT hS.pick
  · obtain rfl : 0 = m := hm
    go_enter Try.func18, Try.ntmps18
    go_wp2_with (first | go_skip | (go_at_call 37; refine dmade hS hT false rfl ?_; clear hS; intro w hS; unfold Ret) | go_skip | (refine wpList_is (.build _ _) rfl ?_; go_must (refine wpList_stp rfl (stp_val (run_bd _ _ rfl) ?_))) | (refine wpList_is (.call { callee := .builtin .clear, args := #[_], argTypes := #[_] }) rfl ?_; go_must (refine wpList_stp rfl (stp_cl _ _ rfl hS (by decide) ?_)); clear hS; intro w hS) | (refine wpList_is (.load _ _) rfl ?_; go_must (first | refine wpList_stp rfl (stp_val (run_ld _ _ rfl hS) ?_) | refine wpList_stp rfl (stp_val (run_lda _ _ rfl hS) ?_) | refine wpList_stp rfl (stp_val (run_ld0 _ _ rfl hS) ?_) | refine wpList_stp rfl (stp_val (run_lda0 _ _ rfl hS) ?_))) | (refine wpList_is (.store _ _ _) rfl ?_; go_must (first | refine wpList_stp rfl (stp_st _ _ _ rfl hS ?_) | refine wpList_stp rfl (stp_sta _ _ _ rfl hS ?_)); clear hS; intro w hS) | (refine wpList_is (.alloc _) rfl ?_; go_must (refine wpList_stp rfl (stp_al _ rfl hS ?_)); clear hS; intro bN w hbN hS) | (refine wpList_is (.box _ _) rfl ?_; go_must (refine wpList_stp rfl (stp_bx _ _ rfl hS ?_)); clear hS; intro bN w hbN hS) | (refine wpList_is (.binOp .eql _ _ (.const (.slice none _ _)) _) rfl ?_; refine wpList_stp rfl (stp_val (run_nse _ _ _ rfl) ?_)) | (refine wpList_is (.binOp .neq _ _ (.const (.slice none _ _)) _) rfl ?_; refine wpList_stp rfl (stp_val (run_nsn _ _ _ rfl) ?_)))
    exact hR _ hT hS.pick
  obtain ⟨hW, b, bt, Et, rfl, hTt, rfl⟩ := id hT
  have hc1 : ctN 1 (some (tbD L)) = m := by
    have := tkL_len (L := tbD L)
    rw [← this, ← hm]; simp [allD, dkL]
  have hc' := Lib.hid hc1
  clear hm hc1 hW
  go_enter Try.func18, Try.ntmps18
  go_wp2_with (first | go_skip | (go_at_call 37; refine dmade hS hT true rfl ?_; clear hS; intro w hS; (try simp only [List.cons_append, List.nil_append] at hS); unfold Ret) | (go_at_call 49; refine sl_len hS hTt ?_; clear hS; intro w _ hS; rw [hc'.out]; unfold Ret) | go_skip | (refine wpList_is (.build _ _) rfl ?_; go_must (refine wpList_stp rfl (stp_val (run_bd _ _ rfl) ?_))) | (refine wpList_is (.call { callee := .builtin .clear, args := #[_], argTypes := #[_] }) rfl ?_; go_must (refine wpList_stp rfl (stp_cl _ _ rfl hS (by decide) ?_)); clear hS; intro w hS) | (refine wpList_is (.load _ _) rfl ?_; go_must (first | refine wpList_stp rfl (stp_val (run_ld _ _ rfl hS) ?_) | refine wpList_stp rfl (stp_val (run_lda _ _ rfl hS) ?_) | refine wpList_stp rfl (stp_val (run_ld0 _ _ rfl hS) ?_) | refine wpList_stp rfl (stp_val (run_lda0 _ _ rfl hS) ?_))) | (refine wpList_is (.store _ _ _) rfl ?_; go_must (first | refine wpList_stp rfl (stp_st _ _ _ rfl hS ?_) | refine wpList_stp rfl (stp_sta _ _ _ rfl hS ?_)); clear hS; intro w hS) | (refine wpList_is (.alloc _) rfl ?_; go_must (refine wpList_stp rfl (stp_al _ rfl hS ?_)); clear hS; intro bN w hbN hS) | (refine wpList_is (.box _ _) rfl ?_; go_must (refine wpList_stp rfl (stp_bx _ _ rfl hS ?_)); clear hS; intro bN w hbN hS) | (refine wpList_is (.binOp .eql _ _ (.const (.slice none _ _)) _) rfl ?_; refine wpList_stp rfl (stp_val (run_nse _ _ _ rfl) ?_)) | (refine wpList_is (.binOp .neq _ _ (.const (.slice none _ _)) _) rfl ?_; refine wpList_stp rfl (stp_val (run_nsn _ _ _ rfl) ?_)))
  exact hR _ hT hS.pick
end Go.Proofs.Ytbjcjbkgjnojmaa
