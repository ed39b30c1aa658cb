/-
  Global variables: the plain model; the contracts of the program's functions but for those that list the references.
-/
import Derived.Test.YtjlihigodggfcaaGreatFields
import Derived.Test.YtjlihigodggfcaaGreatRfs
set_option linter.unusedSimpArgs false
set_option linter.unusedVariables false
namespace Go.Proofs.YtjlihigodggfcaaGreat
open Go.RowKit Go.Mm
variable {R : Ending → World → Prop} {w : World} {w0 : World} {bs : List Nat} {H H' H1 E : List Ent} {L : List (Int × Int)} {m : Bool}

/-- Variables: none for nil; whether New made them, and all references. -/
abbrev Gt := Option (Bool × List (Int × Int))
def vOk : Gt → Bool
  | some (true, _) => true
  | _ => false
def vL : Gt → List (Int × Int)
  | some (_, L) => L
  | none => []
def inV (i : Int) : Bool := decide (0 ≤ i) && decide (i < 8)
def vE (T : Gt) (i : Int) : Int := if vOk T then (if inV i then 0 else 3) else 1
def gtR (T : Gt) (i : Int) : Int × Int := if vE T i = 0 then (vL T).getD i.toNat (0, 0) else (0, 0)
def ptE (T : Gt) (i : Int) (r : Int × Int) : Int := if vOk T then (if wrR r then 2 else vE T i) else 1
def ptR (T : Gt) (i : Int) (r : Int × Int) : Int × Int := if ptE T i r = 0 then (vL T).getD i.toNat (0, 0) else (0, 0)
def ptT (T : Gt) (i : Int) (r : Int × Int) : Gt := if ptE T i r = 0 then some (true, (vL T).set i.toNat r) else T
def alV (T : Gt) : List (Int × Int) := (vL T).filter nzR
def cpV (T : Gt) : Gt := if vOk T then T else none
def zero8 : List (Int × Int) := List.replicate 8 (0, 0)
def nwV : Gt := some (true, zero8)

theorem inV_yes {i : Int} (h : inV i = true) : ∃ k : Nat, i = k ∧ k < 8 ∧ i.toNat = k := by
  simp [inV] at h
  exact ⟨i.toNat, by omega, by omega, rfl⟩
theorem inV_no {i : Int} (h : inV i = false) : i < 0 ∨ 8 ≤ i := by
  simp [inV] at h
  omega
theorem wrR_zero : wrR (0, 0) = false := by decide
theorem ck_one (r : Int × Int) : ckO 1 [r, (0, 0), (0, 0), (0, 0)] false = if wrR r then 2 else 0 := by
  have e : okO 1 [r, (0, 0), (0, 0), (0, 0)] false = !wrR r := by
    unfold okO
    cases hn : nzR r with
    | true =>
      have hg : gl (fnz [r, (0, 0), (0, 0), (0, 0)]) 4 = [0] := by
        have h0 : fnz [r, (0, 0), (0, 0), (0, 0)] 0 = true := hn
        have h1 : fnz [r, (0, 0), (0, 0), (0, 0)] 1 = false := rfl
        have h2 : fnz [r, (0, 0), (0, 0), (0, 0)] 2 = false := rfl
        have h3 : fnz [r, (0, 0), (0, 0), (0, 0)] 3 = false := rfl
        rw [gl_no h3, gl_no h2, gl_no h1, gl_yes h0]; rfl
      rw [hg]
      simp [badF]
    | false =>
      have hg : gl (fnz [r, (0, 0), (0, 0), (0, 0)]) 4 = [] := by
        have h0 : fnz [r, (0, 0), (0, 0), (0, 0)] 0 = false := hn
        have h1 : fnz [r, (0, 0), (0, 0), (0, 0)] 1 = false := rfl
        have h2 : fnz [r, (0, 0), (0, 0), (0, 0)] 2 = false := rfl
        have h3 : fnz [r, (0, 0), (0, 0), (0, 0)] 3 = false := rfl
        rw [gl_no h3, gl_no h2, gl_no h1, gl_no h0]; rfl
      rw [hg]
      simp [wrR, hn]
  unfold ckO
  rw [e]
  cases wrR r <;> rfl

def varC (m : Bool) (L : List (Int × Int)) : Array Value := blk [.bool m] slf L []
instance var0 : CellAt (varC m L) 0 (.bool m) := blkPre rfl
instance a_vars : AggT Tryz.prog 107 17 := ⟨by kernel_rfl, by kernel_rfl⟩
instance a_vl : AggT Tryz.prog 105 16 := ⟨by kernel_rfl, by kernel_rfl⟩
instance z_vars : ZeroT Tryz.prog 107 (varC false zero8) := ⟨by kernel_rfl⟩
instance b_vars : BuildT Tryz.prog 107 [(0, .bool true)] (varC true zero8) := ⟨fun w => by kernel_rfl⟩
instance b_fds {s g : Int} : BuildT Tryz.prog 37 [(0, .agg #[.int .i64 s, .int .u32 g])] (fdC [(s, g), (0, 0), (0, 0), (0, 0)]) := ⟨fun w => by kernel_rfl⟩
instance b_obj {s g : Int} : BuildT Tryz.prog 39 [(0, .int .i64 1), (1, .agg (fdC [(s, g), (0, 0), (0, 0), (0, 0)]))] (objC 1 [(s, g), (0, 0), (0, 0), (0, 0)] false) := ⟨fun w => by kernel_rfl⟩
theorem varBoth {i : Nat} {x : Int × Int} (h : L[i]? = some x) : CellsAt (varC m L) (1 + i * 2) 2 #[.int .i64 x.1, .int .u32 x.2] := blkCells slf_len h rfl
theorem varSet {i : Nat} (h : i < L.length) (s g : Int) : SetsAt (varC m L) (1 + i * 2) #[.int .i64 s, .int .u32 g] (varC m (L.set i (s, g))) := blkSets slf_len (a' := (s, g)) h rfl
theorem varAll (h : L.length = 8) : CellsAt (varC m L) 0 17 (varC m L) := blkAll slf_len (by rw [h]; rfl)
theorem varOnes : OneCells (varC m L) := blkOnes (by simp [Value.oneCell']) slf_one (by simp)
theorem varSize (h : L.length = 8) : SizeIs (varC m L) 17 := blkSize slf_len (by rw [h]; rfl)
theorem varOver {m' : Bool} {L' : List (Int × Int)} (h : L.length = 8) (h' : L'.length = 8) : SetsAt (varC m L) 0 (varC m' L') (varC m' L') := blkOver slf_len (by rw [varC, blk_size slf_len, h, h']; rfl)
theorem getD_get {i : Nat} (h : i < L.length) {x : Int × Int} (hx : L.getD i (0, 0) = x) : L[i]? = some x := by
  rw [← hx, List.getD_eq_getElem?_getD, List.getElem?_eq_getElem h]; rfl

def GA (p : Option Addr) (T : Gt) (E : List Ent) : Prop :=
  match T with
  | none => p = none ∧ E = []
  | some (m, L) => L.length = 8 ∧ (m = false → L = zero8) ∧ ∃ b, p = some ⟨b, 0, none⟩ ∧ E = [⟨b, varC m L, 107, true⟩]
theorem GA.nil {p : Option Addr} {T : Gt} (h : GA p T E) : p.isNone = T.isNone := by
  rcases T with _ | ⟨m, L⟩
  · obtain ⟨rfl, _⟩ := h; rfl
  · obtain ⟨_, _, b, rfl, _⟩ := h; rfl
theorem GA.none : GA none none [] := ⟨rfl, rfl⟩
theorem GA.zero {b : Nat} : GA (some ⟨b, 0, Option.none⟩) (some (false, zero8)) [⟨b, varC false zero8, 107, true⟩] := ⟨rfl, fun _ => rfl, b, rfl, rfl⟩


theorem gv_new (hO : St w0 bs w H) (hR : ∀ p E w', GA p nwV E → St w0 bs w' (E ++ H) → Ret R (.pointer p) w') : Calls Tryz.prog 24 #[] w R := by
  have hS := hO
  go_enter Tryz.func24, Tryz.ntmps24
  go_wp2_with (first | (refine wpList_is (.build _ _) rfl ?_; go_must (refine wpList_stp (by kernel_rfl) (stp_val (run_bd _ _ rfl) ?_))) | (refine wpList_is (.box _ _) rfl ?_; go_must (refine wpList_stp (by kernel_rfl) (stp_bx _ _ rfl hS ?_)); clear hS; intro bN w hbN hS))
  exact hR _ _ _ ⟨rfl, fun h => (by cases h), _, rfl, rfl⟩ hS

set_option maxRecDepth 100000 in
theorem gv_check {p : Option Addr} {T : Gt} (hO : St w0 bs w H) (hT : GA p T E) [hc : Cut H E H1] (i : Int) (e : Int) (he : vE T i = e)
    (hR : ∀ w', GA p T E → St w0 bs w' (E ++ H1) → Ret R (.int .i64 e) w') : Calls Tryz.prog 107 #[.pointer p, .int .i64 i] w R := by
  have hS := hO.front (E := E) (H1 := H1)
  clear hO
  subst he
  replace hR : ∀ w', St w0 bs w' (E ++ H1) → Ret R (.int .i64 (vE T i)) w' := fun w' => hR w' hT
  rcases T with _ | ⟨m, L⟩
  · obtain ⟨rfl, rfl⟩ := hT
    simp only [List.nil_append] at hS
    go_enter Tryz.func107, Tryz.ntmps107
    go_wp2_with ((go_skip))
    exact hR _ hS.pick
  obtain ⟨_, _, b, rfl, rfl⟩ := hT
  simp only [List.cons_append, List.nil_append] at hS
  cases m with
  | false =>
    go_enter Tryz.func107, Tryz.ntmps107
    go_wp2_with ((refine wpList_is (.load _ _) rfl ?_; go_must ((refine wpList_stp (by kernel_rfl) (stp_val (run_ld _ _ rfl hS) ?_)))))
    exact hR _ hS.pick
  | true =>
    cases hin : inV i with
    | true =>
      simp only [vE, vOk, hin, if_true] at hR
      obtain ⟨k, rfl, hk, _⟩ := inV_yes hin
      have q1 : decide ((k : Int) < 0) = false := decide_eq_false (by omega)
      have q2 : decide (8 ≤ (k : Int)) = false := decide_eq_false (by omega)
      clear hin
      go_enter Tryz.func107, Tryz.ntmps107
      go_wp2_with ((refine wpList_is (.load _ _) rfl ?_; go_must ((refine wpList_stp (by kernel_rfl) (stp_val (run_ld _ _ rfl hS) ?_)))))
      exact hR _ hS.pick
    | false =>
      simp only [vE, vOk, hin, if_true, Bool.false_eq_true, if_false] at hR
      by_cases h0 : i < 0
      · have q1 : decide (i < 0) = true := decide_eq_true h0
        clear hin
        go_enter Tryz.func107, Tryz.ntmps107
        go_wp2_with ((refine wpList_is (.load _ _) rfl ?_; go_must ((refine wpList_stp (by kernel_rfl) (stp_val (run_ld _ _ rfl hS) ?_)))))
        exact hR _ hS.pick
      · have q1 : decide (i < 0) = false := decide_eq_false h0
        have q2 : decide (8 ≤ i) = true := decide_eq_true (by have := inV_no hin; omega)
        clear hin
        go_enter Tryz.func107, Tryz.ntmps107
        go_wp2_with ((refine wpList_is (.load _ _) rfl ?_; go_must ((refine wpList_stp (by kernel_rfl) (stp_val (run_ld _ _ rfl hS) ?_)))))
        exact hR _ hS.pick
theorem vE_zero {T : Gt} {i : Int} (h : vE T i = 0) : ∃ L k, T = some (true, L) ∧ i = ((k : Nat) : Int) ∧ k < 8 ∧ i.toNat = k := by
  rcases T with _ | ⟨m, L⟩
  · cases h
  · cases m with
    | false => cases h
    | true =>
      simp only [vE, vOk, if_true] at h
      cases hin : inV i with
      | true => obtain ⟨k, h1, h2, h3⟩ := inV_yes hin; exact ⟨L, k, rfl, h1, h2, h3⟩
      | false => rw [hin] at h; cases h

set_option maxRecDepth 100000 in
theorem gv_get {p : Option Addr} {T : Gt} (hO : St w0 bs w H) (hT : GA p T E) [hc : Cut H E H1] (i : Int) (r : Int × Int) (e : Int) (hr : gtR T i = r) (he : vE T i = e)
    (hR : ∀ w', GA p T E → St w0 bs w' (E ++ H1) → Ret R (.tuple #[.agg #[.int .i64 r.1, .int .u32 r.2], .int .i64 e]) w') : Calls Tryz.prog 69 #[.pointer p, .int .i64 i] w R := by
  have hS := hO.front (E := E) (H1 := H1)
  clear hO
  by_cases h0 : vE T i = 0
  · obtain rfl : e = 0 := he.symm.trans h0
    obtain ⟨L, k, rfl, rfl, hk, hk'⟩ := vE_zero h0
    obtain ⟨h8, hm, b, rfl, rfl⟩ := id hT
    unfold gtR at hr
    rw [if_pos h0, hk'] at hr
    have hb := varBoth (m := true) (getD_get (L := L) (i := k) (by omega) hr)
    simp only [List.cons_append, List.nil_append] at hS
    have he' := Lib.hid h0
    have h8I : (k : Int) < 8 := by omega
    clear h0 hr he
    go_enter Tryz.func69, Tryz.ntmps69
    go_wp2_with (first | (go_at_call 107; refine gv_check hS hT _ 0 he'.out ?_; clear hS; intro w _ hS; simp only [List.cons_append, List.nil_append] at hS; unfold Ret) | (refine wpList_is (.load _ _) rfl ?_; go_must ((refine wpList_stp (by kernel_rfl) (stp_val (run_lda _ _ rfl hS) ?_)))) | (refine wpList_is (.store _ _ _) rfl ?_; go_must ((refine wpList_stp (by kernel_rfl) (stp_sta _ _ _ rfl hS ?_))); clear hS; intro w hS) | (refine wpList_is (.alloc _) rfl ?_; go_must (refine wpList_stp (by kernel_rfl) (stp_al _ rfl hS ?_)); clear hS; intro bN w hbN hS))
    refine bodyPost_ret (res_ct rfl hS) rfl ?_
    exact hR _ hT hS.pick
  · have q : (e != 0) = true := by rw [← he]; simpa using h0
    obtain rfl : r = (0, 0) := by rw [← hr]; unfold gtR; rw [if_neg h0]
    have he' := Lib.hid he
    clear h0 hr he
    go_enter Tryz.func69, Tryz.ntmps69
    go_wp2_with (first | (go_at_call 107; refine gv_check hS hT _ e he'.out ?_; clear hS; intro w _ hS; unfold Ret) | (refine wpList_is (.build _ _) rfl ?_; go_must (refine wpList_stp (by kernel_rfl) (stp_val (run_bd _ _ rfl) ?_))) | (refine wpList_is (.store _ _ _) rfl ?_; go_must ((refine wpList_stp (by kernel_rfl) (stp_sta _ _ _ rfl hS ?_))); clear hS; intro w hS) | (refine wpList_is (.alloc _) rfl ?_; go_must (refine wpList_stp (by kernel_rfl) (stp_al _ rfl hS ?_)); clear hS; intro bN w hbN hS))
    refine bodyPost_ret (res_ct rfl hS) rfl ?_
    exact hR _ hT hS.pick

theorem fd_one {s g : Int} (hO : St w0 bs w H) (hg : 0 ≤ g ∧ g ≤ 4294967295) (e : Int) (he : (if wrR (s, g) then 2 else 0) = e) (hR : ∀ w', St w0 bs w' H → Ret R (.int .i64 e) w') :
    Calls Tryz.prog 100 #[.agg (objC 1 [(s, g), (0, 0), (0, 0), (0, 0)] false)] w R := by
  refine fd_check rfl (fun x hx => ?_) hO (fun w' h => ?_)
  · simp only [List.mem_cons, List.not_mem_nil, or_false] at hx
    rcases hx with rfl | rfl | rfl | rfl
    · exact hg
    all_goals simp
  · rw [ck_one, he]; exact hR w' h

set_option maxHeartbeats 1000000 in
set_option maxRecDepth 100000 in
theorem gv_put {p : Option Addr} {T : Gt} (hO : St w0 bs w H) (hT : GA p T E) [hc : Cut H E H1] (i s g : Int) (hg : 0 ≤ g ∧ g ≤ 4294967295) (T' : Gt) (r : Int × Int) (e : Int) (hT' : ptT T i (s, g) = T') (hr : ptR T i (s, g) = r) (he : ptE T i (s, g) = e)
    (hR : ∀ E' w', GA p T' E' → St w0 bs w' (E' ++ H1) → Ret R (.tuple #[.agg #[.int .i64 r.1, .int .u32 r.2], .int .i64 e]) w') : Calls Tryz.prog 67 #[.pointer p, .int .i64 i, .agg #[.int .i64 s, .int .u32 g]] w R := by
  have hS := hO.front (E := E) (H1 := H1)
  clear hO
  subst hT' hr he
  by_cases h0 : ptE T i (s, g) = 0
  · have hv : vOk T = true := by
      cases h : vOk T with
      | true => rfl
      | false => unfold ptE at h0; rw [h] at h0; cases h0
    have hw : wrR (s, g) = false := by
      cases h : wrR (s, g) with
      | false => rfl
      | true => unfold ptE at h0; rw [hv, h] at h0; cases h0
    have hvE : vE T i = 0 := by unfold ptE at h0; rw [hv, hw] at h0; exact h0
    obtain ⟨L, k, rfl, rfl, hk, hk'⟩ := vE_zero hvE
    obtain ⟨h8, hm, b, rfl, rfl⟩ := id hT
    obtain ⟨x, hx⟩ : ∃ x, L.getD k (0, 0) = x := ⟨_, rfl⟩
    simp only [ptT, ptR, h0, if_true, hk', vL, hx] at hR
    have hb := varBoth (m := true) (getD_get (L := L) (i := k) (by omega) hx)
    have hset := varSet (m := true) (L := L) (i := k) (by omega) s g
    simp only [List.cons_append, List.nil_append] at hS
    have hvE' := Lib.hid hvE
    have hw' := Lib.hid hw
    have h8I : (k : Int) < 8 := by omega
    have h8' := Lib.hid h8
    clear h0 hw hvE hx hv hk' h8
    go_enter Tryz.func67, Tryz.ntmps67
    go_wp2_with (first | (go_at_call 107; refine gv_check hS hT _ 0 hvE'.out ?_; clear hS; intro w _ hS; simp only [List.cons_append, List.nil_append] at hS; unfold Ret) | (go_at_call 100; refine fd_one hS hg 0 (by rw [hw'.out]; rfl) ?_; clear hS; intro w hS; unfold Ret) | (refine region_tail 6 hS (by kernel_rfl) (by kernel_rfl) ?_; clear hS; intro w hS; simp only [List.take_succ_cons, List.take_zero, List.drop_succ_cons, List.drop_zero]; (repeat (first | (refine wpStill_is (.load _ _) rfl ?_; go_must ((refine wpStill_val rfl (run_lda _ _ rfl hS) ?_))) | still_step)); refine wpStill_nil ?_) | (refine wpList_is (.build _ _) rfl ?_; go_must (refine wpList_stp (by kernel_rfl) (stp_val (run_bd _ _ rfl) ?_))) | (refine wpList_is (.load _ _) rfl ?_; go_must ((refine wpList_stp (by kernel_rfl) (stp_val (run_lda _ _ rfl hS) ?_)))) | (refine wpList_is (.store _ _ _) rfl ?_; go_must ((refine wpList_stp (by kernel_rfl) (stp_sta _ _ _ rfl hS ?_))); clear hS; intro w hS) | (refine wpList_is (.alloc _) rfl ?_; go_must (refine wpList_stp (by kernel_rfl) (stp_al _ rfl hS ?_)); clear hS; intro bN w hbN hS) | (refine wpList_is (.box _ _) rfl ?_; go_must (refine wpList_stp (by kernel_rfl) (stp_bx _ _ rfl hS ?_)); clear hS; intro bN w hbN hS))
    refine bodyPost_ret (res_ct rfl hS) rfl ?_
    exact hR _ _ ⟨by rw [List.length_set]; exact h8'.out, fun h => (by cases h), b, rfl, rfl⟩ hS.pick
  · have q : (ptE T i (s, g) != 0) = true := by simpa using h0
    have e2 : ptR T i (s, g) = (0, 0) := by unfold ptR; rw [if_neg h0]
    have e3 : ptT T i (s, g) = T := by unfold ptT; rw [if_neg h0]
    rw [e2, e3] at hR
    cases hv : vOk T with
    | false =>
      have e1 : ptE T i (s, g) = 1 := by unfold ptE; rw [hv]; rfl
      have hvE : vE T i = 1 := by unfold vE; rw [hv]; rfl
      rw [e1] at hR
      have hvE' := Lib.hid hvE
      cases hw : wrR (s, g) with
      | false =>
        have hw' := Lib.hid hw
        clear h0 q e1 e2 e3 hvE hw hv
        go_enter Tryz.func67, Tryz.ntmps67
        go_wp2_with (first | (go_at_call 107; refine gv_check hS hT _ 1 hvE'.out ?_; clear hS; intro w _ hS; unfold Ret) | (go_at_call 100; refine fd_one hS hg 0 (by rw [hw'.out]; rfl) ?_; clear hS; intro w hS; unfold Ret) | (refine wpList_is (.build _ _) rfl ?_; go_must (refine wpList_stp (by kernel_rfl) (stp_val (run_bd _ _ rfl) ?_))) | (refine wpList_is (.load _ _) rfl ?_; go_must ((refine wpList_stp (by kernel_rfl) (stp_val (run_lda _ _ rfl hS) ?_)))) | (refine wpList_is (.store _ _ _) rfl ?_; go_must ((refine wpList_stp (by kernel_rfl) (stp_sta _ _ _ rfl hS ?_))); clear hS; intro w hS) | (refine wpList_is (.alloc _) rfl ?_; go_must (refine wpList_stp (by kernel_rfl) (stp_al _ rfl hS ?_)); clear hS; intro bN w hbN hS) | (refine wpList_is (.box _ _) rfl ?_; go_must (refine wpList_stp (by kernel_rfl) (stp_bx _ _ rfl hS ?_)); clear hS; intro bN w hbN hS))
        refine bodyPost_ret (res_ct rfl hS) rfl ?_
        exact hR _ _ hT hS.pick
      | true =>
        have hw' := Lib.hid hw
        clear h0 q e1 e2 e3 hvE hw hv
        go_enter Tryz.func67, Tryz.ntmps67
        go_wp2_with (first | (go_at_call 107; refine gv_check hS hT _ 1 hvE'.out ?_; clear hS; intro w _ hS; unfold Ret) | (go_at_call 100; refine fd_one hS hg 2 (by rw [hw'.out]; rfl) ?_; clear hS; intro w hS; unfold Ret) | (refine wpList_is (.build _ _) rfl ?_; go_must (refine wpList_stp (by kernel_rfl) (stp_val (run_bd _ _ rfl) ?_))) | (refine wpList_is (.load _ _) rfl ?_; go_must ((refine wpList_stp (by kernel_rfl) (stp_val (run_lda _ _ rfl hS) ?_)))) | (refine wpList_is (.store _ _ _) rfl ?_; go_must ((refine wpList_stp (by kernel_rfl) (stp_sta _ _ _ rfl hS ?_))); clear hS; intro w hS) | (refine wpList_is (.alloc _) rfl ?_; go_must (refine wpList_stp (by kernel_rfl) (stp_al _ rfl hS ?_)); clear hS; intro bN w hbN hS) | (refine wpList_is (.box _ _) rfl ?_; go_must (refine wpList_stp (by kernel_rfl) (stp_bx _ _ rfl hS ?_)); clear hS; intro bN w hbN hS))
        refine bodyPost_ret (res_ct rfl hS) rfl ?_
        exact hR _ _ hT hS.pick
    | true =>
      obtain ⟨e, hvE⟩ : ∃ e, vE T i = e := ⟨_, rfl⟩
      have q1 : (e != 1) = true := by
        rw [← hvE]; unfold vE; rw [hv]
        cases inV i <;> rfl
      have hvE' := Lib.hid hvE
      cases hw : wrR (s, g) with
      | false =>
        have e1 : ptE T i (s, g) = e := by unfold ptE; rw [hv, hw]; exact hvE
        rw [e1] at hR q
        have hw' := Lib.hid hw
        clear h0 e1 e2 e3 hvE hw hv
        go_enter Tryz.func67, Tryz.ntmps67
        go_wp2_with (first | (go_at_call 107; refine gv_check hS hT _ e hvE'.out ?_; clear hS; intro w _ hS; unfold Ret) | (go_at_call 100; refine fd_one hS hg 0 (by rw [hw'.out]; rfl) ?_; clear hS; intro w hS; unfold Ret) | (refine wpList_is (.build _ _) rfl ?_; go_must (refine wpList_stp (by kernel_rfl) (stp_val (run_bd _ _ rfl) ?_))) | (refine wpList_is (.load _ _) rfl ?_; go_must ((refine wpList_stp (by kernel_rfl) (stp_val (run_lda _ _ rfl hS) ?_)))) | (refine wpList_is (.store _ _ _) rfl ?_; go_must ((refine wpList_stp (by kernel_rfl) (stp_sta _ _ _ rfl hS ?_))); clear hS; intro w hS) | (refine wpList_is (.alloc _) rfl ?_; go_must (refine wpList_stp (by kernel_rfl) (stp_al _ rfl hS ?_)); clear hS; intro bN w hbN hS) | (refine wpList_is (.box _ _) rfl ?_; go_must (refine wpList_stp (by kernel_rfl) (stp_bx _ _ rfl hS ?_)); clear hS; intro bN w hbN hS))
        refine bodyPost_ret (res_ct rfl hS) rfl ?_
        exact hR _ _ hT hS.pick
      | true =>
        have e1 : ptE T i (s, g) = 2 := by unfold ptE; rw [hv, hw]; rfl
        rw [e1] at hR
        have hw' := Lib.hid hw
        clear h0 q e1 e2 e3 hvE hw hv
        go_enter Tryz.func67, Tryz.ntmps67
        go_wp2_with (first | (go_at_call 107; refine gv_check hS hT _ e hvE'.out ?_; clear hS; intro w _ hS; unfold Ret) | (go_at_call 100; refine fd_one hS hg 2 (by rw [hw'.out]; rfl) ?_; clear hS; intro w hS; unfold Ret) | (refine wpList_is (.build _ _) rfl ?_; go_must (refine wpList_stp (by kernel_rfl) (stp_val (run_bd _ _ rfl) ?_))) | (refine wpList_is (.load _ _) rfl ?_; go_must ((refine wpList_stp (by kernel_rfl) (stp_val (run_lda _ _ rfl hS) ?_)))) | (refine wpList_is (.store _ _ _) rfl ?_; go_must ((refine wpList_stp (by kernel_rfl) (stp_sta _ _ _ rfl hS ?_))); clear hS; intro w hS) | (refine wpList_is (.alloc _) rfl ?_; go_must (refine wpList_stp (by kernel_rfl) (stp_al _ rfl hS ?_)); clear hS; intro bN w hbN hS) | (refine wpList_is (.box _ _) rfl ?_; go_must (refine wpList_stp (by kernel_rfl) (stp_bx _ _ rfl hS ?_)); clear hS; intro bN w hbN hS))
        refine bodyPost_ret (res_ct rfl hS) rfl ?_
        exact hR _ _ hT hS.pick

set_option maxRecDepth 100000 in
theorem gv_copy {p : Option Addr} {T : Gt} (hO : St w0 bs w H) (hT : GA p T E) [hc : Cut H E H1] (T' : Gt) (hT' : cpV T = T')
    (hR : ∀ p' E' w', GA p' T' E' → GA p T E → St w0 bs w' (E' ++ (E ++ H1)) → Ret R (.pointer p') w') : Calls Tryz.prog 54 #[.pointer p] w R := by
  have hS := hO.front (E := E) (H1 := H1)
  clear hO
  subst hT'
  replace hR : ∀ p' E' w', GA p' (cpV T) E' → St w0 bs w' (E' ++ (E ++ H1)) → Ret R (.pointer p') w' := fun p' E' w' h => hR p' E' w' h hT
  rcases T with _ | ⟨m, L⟩
  · obtain ⟨rfl, rfl⟩ := hT
    simp only [List.nil_append] at hS
    go_enter Tryz.func54, Tryz.ntmps54
    go_wp2_with ((go_skip))
    exact hR none [] _ GA.none hS.pick
  obtain ⟨h8, hm, b, rfl, rfl⟩ := hT
  simp only [List.cons_append, List.nil_append] at hS
  cases m with
  | false =>
    go_enter Tryz.func54, Tryz.ntmps54
    go_wp2_with ((refine wpList_is (.load _ _) rfl ?_; go_must ((refine wpList_stp (by kernel_rfl) (stp_val (run_ld _ _ rfl hS) ?_)))))
    exact hR none [] _ GA.none hS.pick
  | true =>
    have i1 := varAll (m := true) h8
    have i2 := varOver (m := false) (m' := true) (L := zero8) (L' := L) rfl h8
    have i3 := varOnes (m := true) (L := L)
    have i4 := varSize (m := true) h8
    have h8' := Lib.hid h8
    clear h8
    go_enter Tryz.func54, Tryz.ntmps54
    go_wp2_with (first | (refine wpList_is (.load _ _) rfl ?_; go_must (first | refine wpList_stp (by kernel_rfl) (stp_val (run_ld _ _ rfl hS) ?_) | refine wpList_stp (by kernel_rfl) (stp_val (run_lda _ _ rfl hS) ?_))) | (refine wpList_is (.store _ _ _) rfl ?_; go_must ((refine wpList_stp (by kernel_rfl) (stp_sta _ _ _ rfl hS ?_))); clear hS; intro w hS) | (refine wpList_is (.alloc _) rfl ?_; go_must (refine wpList_stp (by kernel_rfl) (stp_al _ rfl hS ?_)); clear hS; intro bN w hbN hS))
    exact hR _ _ _ ⟨h8'.out, hm, _, rfl, rfl⟩ hS.pick
end Go.Proofs.YtjlihigodggfcaaGreat
