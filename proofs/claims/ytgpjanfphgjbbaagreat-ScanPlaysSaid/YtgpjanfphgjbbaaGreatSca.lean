/-
  Scanning: Scan.
-/
import Derived.Test.YtgpjanfphgjbbaaGreatScn
import Derived.Test.YtgpjanfphgjbbaaGreatChm
import Derived.Test.YtgpjanfphgjbbaaGreatHeapD
set_option linter.unusedSimpArgs false
set_option linter.unusedVariables false
namespace Go.Proofs.YtgpjanfphgjbbaaGreat
open Go.RowKit Go.Mm
variable {R : Ending → World → Prop} {w : World} {w0 : World} {bs : List Nat} {H H' H1 H2 H3 E E0 E1 E2 Ev : List Ent}
instance f_sint : ScalarT Tryz.prog 124 := ⟨by kernel_rfl, by kernel_rfl⟩
theorem IS.len {v : Value} {l : List Int} (h : IS v l E) {n : Nat} (hn : l.length = n) : LenV Tryz.prog 69 v n := by
  subst hn
  refine ⟨?_, 3, Tryz.underlying69⟩
  rcases h.or with ⟨rfl, h0, _⟩ | ⟨g, cap, sp, rfl, _⟩
  · exact ⟨none, 0, by rw [h0]⟩
  · exact ⟨_, cap, rfl⟩
theorem IS.at {v : Value} {l : List Int} (h : IS v l E) {i : Nat} (hi : i < l.length) {x : Int} (hx : l.getD i 0 = x) :
    ∃ g sp, (∀ j : Int, j = i → IdxV Tryz.prog 69 v j ⟨g, i, none⟩) ∧ Has E g (blk [] i1f l sp) 3 ∧ CellAt (blk [] i1f l sp) i (.int .i64 x) := by
  subst hx
  obtain ⟨g, cap, sp, rfl, rfl, h1, h2, h3⟩ := Sl.some h (by omega)
  refine ⟨g, sp, fun j hj => ⟨fun w => ?_⟩, hasHead, ?_⟩
  · subst hj
    have h2 : 0 ≤ (i : Int) := by omega
    simp [Instr.indexAt, asIntOf, run_underlying Tryz.underlying69, hi, run_sizeOf' (P := Tryz.prog) (t := 3) (n := 1) (by kernel_rfl), Addr.add_lit]
  · refine blkCell (pre := []) i1f_len (i := i) (j := 0) (a := l.getD i 0) ?_ (by decide) rfl (by simp)
    rw [List.getD_eq_getElem?_getD, List.getElem?_eq_getElem hi]; rfl
/-- A slot lies beyond a paint. -/
def bnd (T : Cq) (s : Int) : Bool := decide (ofE T s ≠ 0)
theorem bnd_e {T : Cq} {s e : Int} (h : ofE T s = e) : bnd T s = decide (e ≠ 0) := by rw [bnd, h]
set_option maxRecDepth 100000 in
theorem sc_bey {p : Option Addr} {T : Cq} {bp : Nat} (hO : St w0 bs w (E ++ (⟨bp, #[.pointer p], 29, true⟩ :: H1))) (hT : KA p T E) (s : Int) (b : Bool) (hb : bnd T s = b)
    (hR : ∀ w', St w0 bs w' (E ++ (⟨bp, #[.pointer p], 29, true⟩ :: H1)) → Ret R (.bool b) w') : Calls Tryz.prog 59 #[.int .i64 s, .pointer (some ⟨bp, 0, none⟩)] w R := by
  have hS := hO
  clear hO
  obtain ⟨e, he⟩ : ∃ e, ofE T s = e := ⟨_, rfl⟩
  rw [bnd_e he] at hb
  by_cases h0 : e = 0
  · subst h0
    obtain rfl : false = b := hb
    go_enter Tryz.func59, Tryz.ntmps59
    go_wp2_with (first | (go_at_call 60; refine pn_of hS hT s _ _ rfl he ?_; clear hS; intro w hS; unfold Ret) | (refine wpList_is (.load _ _) rfl ?_; go_must ((refine wpList_stp (by kernel_rfl) (stp_val (run_ld _ _ rfl hS) ?_)))))
    exact hR _ hS.pick
  · have q : (e != 0) = true := by simpa using h0
    obtain rfl : true = b := by rw [← hb]; exact (decide_eq_true h0).symm
    go_enter Tryz.func59, Tryz.ntmps59
    go_wp2_with (first | (go_at_call 60; refine pn_of hS hT s _ _ rfl he ?_; clear hS; intro w hS; unfold Ret) | (refine wpList_is (.load _ _) rfl ?_; go_must ((refine wpList_stp (by kernel_rfl) (stp_val (run_ld _ _ rfl hS) ?_)))))
    exact hR _ hS.pick
/-- The first that a function says yes to, or -1. -/
def idxI (f : Int → Bool) (l : List Int) : Int := match firstOf (fun i => f (l.getD i 0)) l.length with
  | some i => i
  | none => -1
theorem idxI_any {f : Int → Bool} {l : List Int} : decide (0 ≤ idxI f l) = l.any f := by
  rw [Bool.eq_iff_iff, decide_eq_true_eq, List.any_eq_true]
  unfold idxI
  cases h : firstOf (fun i => f (l.getD i 0)) l.length with
  | some i =>
    obtain ⟨h1, h2, _⟩ := first_is h
    simp only [Int.natCast_nonneg, true_iff]
    refine ⟨l.getD i 0, ?_, h2⟩
    rw [List.getD_eq_getElem?_getD, List.getElem?_eq_getElem h1]
    exact List.getElem_mem h1
  | none =>
    constructor
    · intro h0; simp only at h0; omega
    · rintro ⟨x, hx, hf⟩
      exfalso
      obtain ⟨i, hi, rfl⟩ := List.mem_iff_getElem.1 hx
      rw [firstOf, List.find?_eq_none] at h
      refine h i (List.mem_range.2 hi) ?_
      rw [List.getD_eq_getElem?_getD, List.getElem?_eq_getElem hi]
      exact hf
set_option maxHeartbeats 1000000 in
set_option maxRecDepth 100000 in
theorem idx_bey {p : Option Addr} {T : Cq} {bp : Nat} {v : Value} {l : List Int} (hO : St w0 bs w (Ev ++ (E ++ (⟨bp, #[.pointer p], 29, true⟩ :: H1)))) (hA : IS v l Ev) (hT : KA p T E) (hl : l.length ≤ 1000)
    (hR : ∀ w', St w0 bs w' (Ev ++ (E ++ (⟨bp, #[.pointer p], 29, true⟩ :: H1))) → Ret R (.int .i64 (idxI (bnd T) l)) w') : Calls Tryz.prog 99 #[v, .func (.func 59) #[] #[.pointer (some ⟨bp, 0, none⟩)]] w R := by
  have hS := hO
  clear hO
  have hlen := hA.len rfl
  have hone := hA.one
  go_enter Tryz.func99, Tryz.ntmps99
  go_wp2_with ((refine wpList_is (.call { callee := .builtin .len, args := #[_], argTypes := #[_] }) rfl ?_; refine wpList_stp (by kernel_rfl) (stp_val (run_lenv _ _ rfl) ?_)))
  go_loopw [8] (fun u wr => ∃ k : Nat, k ≤ l.length ∧ u = .int .i64 k ∧ (∀ j, j < k → bnd T (l.getD j 0) = false) ∧ St w0 bs wr (Ev ++ (E ++ (⟨bp, #[.pointer p], 29, true⟩ :: H1)))) (fun u _ => l.length - (intOf u).toNat)
  case atStart => exact ⟨0, Nat.zero_le _, rfl, fun j hj => absurd hj (Nat.not_lt_zero _), hS⟩
  case round =>
    clear hS
    obtain ⟨k, hk, rfl, hno, hS⟩ := hrel
    by_cases hlt : k < l.length
    · obtain ⟨x, hx⟩ : ∃ x, l.getD k 0 = x := ⟨_, rfl⟩
      obtain ⟨gx, sp, ix, hh, hcx⟩ := hA.at hlt hx
      have ix := ix k rfl
      have hno' := Lib.hid hno
      obtain ⟨b, hb⟩ : ∃ b, bnd T x = b := ⟨_, rfl⟩
      have hb' := Lib.hid hb
      have hx' := Lib.hid hx
      clear hx hno hb
      cases b with
      | true =>
        have e : idxI (bnd T) l = k := by
          unfold idxI
          rw [first_at hlt (fun j hj => hno'.out j hj) (by simp only [hx'.out, hb'.out])]
        rw [e] at hR
        clear e
        go_wp2_with (first | (go_at_call 59; refine sc_bey (H1 := Ev ++ H1) hS.pick hT x true hb'.out ?_; clear hS; intro w hS; unfold Ret) | (refine wpList_is (.indexAddr _ _ _) rfl ?_; refine wpList_stp (by kernel_rfl) (stp_val (run_idxv _ _ _ rfl) ?_)) | (refine wpList_is (.load _ _) rfl ?_; go_must ((refine wpList_stp (by kernel_rfl) (stp_val (run_ld _ _ rfl hS) ?_)))))
        exact hR _ hS.pick
      | false =>
        go_wp2_with (first | (go_at_call 59; refine sc_bey (H1 := Ev ++ H1) hS.pick hT x false hb'.out ?_; clear hS; intro w hS; unfold Ret) | (refine wpList_is (.indexAddr _ _ _) rfl ?_; refine wpList_stp (by kernel_rfl) (stp_val (run_idxv _ _ _ rfl) ?_)) | (refine wpList_is (.load _ _) rfl ?_; go_must ((refine wpList_stp (by kernel_rfl) (stp_val (run_ld _ _ rfl hS) ?_)))))
        go_roundw
        case rel =>
          refine ⟨k + 1, by omega, by go_num, fun j hj => ?_, hS.pick⟩
          by_cases e : j = k
          · subst e; rw [hx'.out]; exact hb'.out
          · exact hno'.out j (by omega)
        case measure => simp [intOf]; omega
    · obtain rfl : k = l.length := by omega
      have e : idxI (bnd T) l = -1 := by
        unfold idxI
        rw [first_no (fun j hj => hno j hj)]
      rw [e] at hR
      clear hno e
      go_wp2_with ((go_skip))
      exact hR _ hS.pick
set_option maxRecDepth 100000 in
theorem con_bey {p : Option Addr} {T : Cq} {bp : Nat} {v : Value} {l : List Int} (hO : St w0 bs w (Ev ++ (E ++ (⟨bp, #[.pointer p], 29, true⟩ :: H1)))) (hA : IS v l Ev) (hT : KA p T E) (hl : l.length ≤ 1000) (b : Bool) (hb : l.any (bnd T) = b)
    (hR : ∀ w', St w0 bs w' (Ev ++ (E ++ (⟨bp, #[.pointer p], 29, true⟩ :: H1))) → Ret R (.bool b) w') : Calls Tryz.prog 61 #[v, .func (.func 59) #[] #[.pointer (some ⟨bp, 0, none⟩)]] w R := by
  have hS := hO
  clear hO
  have hone := hA.one
  rw [← idxI_any] at hb
  obtain ⟨i, hi⟩ : ∃ i, idxI (bnd T) l = i := ⟨_, rfl⟩
  rw [hi] at hb
  have hi' := Lib.hid hi
  clear hi
  go_enter Tryz.func61, Tryz.ntmps61
  go_wp2_with ((go_at_call 99; refine idx_bey hS hA hT hl ?_; clear hS; intro w hS; rw [hi'.out]; unfold Ret))
  try subst hb
  exact hR _ hS.pick

/-- Shading one slot of a list: paint, stack, how many became grey. -/
def shF (x : Cq × Sq × Nat) (s : Int) : Cq × Sq × Nat := (skT x.1 x.2.1 s, skS x.1 x.2.1 s, x.2.2 + if skB x.1 x.2.1 s then 1 else 0)
theorem shF_le : ∀ (l : List Int) (x : Cq × Sq × Nat), (l.foldl shF x).2.2 ≤ x.2.2 + l.length
  | [], x => Nat.le_refl _
  | s :: l, x => by
    have := shF_le l (shF x s)
    have h2 : (shF x s).2.2 ≤ x.2.2 + 1 := by simp only [shF]; split <;> omega
    simp only [List.foldl_cons, List.length_cons]
    omega
theorem shF_step {l : List Int} {k : Nat} (hk : k < l.length) {x : Cq × Sq × Nat} : (l.take (k + 1)).foldl shF x = shF ((l.take k).foldl shF x) (l.getD k 0) := by
  rw [List.take_succ_eq_append_getElem hk, List.foldl_append, List.getD_eq_getElem?_getD, List.getElem?_eq_getElem hk]
  rfl
theorem chdR_len (Hh : Hp) (s g : Int) : (chdR Hh s g).length ≤ 4 := by
  unfold chdR
  split
  · rw [chL, List.length_map]
    exact Nat.le_trans (gl_len _ _) (rfF_len _)
  · exact Nat.zero_le _
/-- Something lies beyond the paint. -/
def scY (Hh : Hp) (T : Cq) (s g : Int) : Bool := bnd T s || (chdR Hh s g).any (bnd T)
def scF (Hh : Hp) (T : Cq) (S : Sq) (s g : Int) : Cq × Sq × Nat := (chdR Hh s g).foldl shF (T, S, 0)
def scV (Hh : Hp) (T : Cq) (S : Sq) : Bool := hpOk Hh && vlE T S
def scG (Hh : Hp) (T : Cq) (S : Sq) (s g : Int) : Bool := scV Hh T S && decide (wiH Hh s g = 0) && !scY Hh T s g && decide (ofR T s = 1)
def scE (Hh : Hp) (T : Cq) (S : Sq) (s g : Int) : Int := if scV Hh T S then (if wiH Hh s g = 0 then (if scY Hh T s g then 3 else if ofR T s = 1 then bkE (scF Hh T S s g).1 s else 8) else wiH Hh s g) else 1
def scN (Hh : Hp) (T : Cq) (S : Sq) (s g : Int) : Nat := if scG Hh T S s g then (scF Hh T S s g).2.2 else 0
def scT (Hh : Hp) (T : Cq) (S : Sq) (s g : Int) : Cq := if scG Hh T S s g then bkT (scF Hh T S s g).1 s else T
def scS (Hh : Hp) (T : Cq) (S : Sq) (s g : Int) : Sq := if scG Hh T S s g then (scF Hh T S s g).2.1 else S
theorem some_of {p : Option Addr} {a : Bool} (h : p.isNone = a) (h' : a = !true) : ∃ x, p = some x := by
  cases p with
  | none => rw [h'] at h; cases h
  | some x => exact ⟨x, rfl⟩
theorem cpH_no {T : Hp} (h : hpOk T = false) : cpH T = none := by unfold cpH; rw [h]; rfl
theorem cpH_none (T : Hp) : (cpH T).isNone = !hpOk T := by rcases T with _ | _ | _ <;> rfl
set_option maxHeartbeats 2000000 in
set_option maxRecDepth 100000 in
theorem sc_scan {ph p q : Option Addr} {Hh : Hp} {T : Cq} {S : Sq} (hO : St w0 bs w H) (hH : HA ph Hh E0) (hT : KA p T E1) (hU : SA q S E2) [hc : Cut H E0 H1] [hd : Cut H1 E1 H2] [hf : Cut H2 E2 H3] (s g : Int) (T' : Cq) (S' : Sq) (n : Nat) (e : Int)
    (hT' : scT Hh T S s g = T') (hS' : scS Hh T S s g = S') (hn : scN Hh T S s g = n) (he : scE Hh T S s g = e)
    (hR : ∀ E1 E2 w', KA p T' E1 → SA q S' E2 → St w0 bs w' (E0 ++ (E1 ++ (E2 ++ H3))) → Ret R (.tuple #[.int .i64 n, .int .i64 e]) w') : Calls Tryz.prog 19 #[.pointer ph, .pointer p, .pointer q, .agg #[.int .i64 s, .int .u32 g]] w R := by
  have hS := (hO.front (E := E0) (H1 := H1))
  have hS : St w0 bs w (E0 ++ (E1 ++ (E2 ++ H3))) := hS.pick
  clear hO
  subst hT' hS' hn he
  have n1 := cpH_none Hh
  unfold scT scS scN scE scG scV at hR
  cases hok : hpOk Hh with
  | false =>
    have hcp := cpH_no hok
    simp only [hok, Bool.false_and, Bool.false_eq_true, if_false] at hR
    clear hok n1
    go_enter Tryz.func19, Tryz.ntmps19
    go_wp2_with (first | go_skip | (refine wpList_is (.box 29 _) rfl ?_; go_must (refine wpList_stp (by kernel_rfl) (stp_bx _ _ rfl hS ?_)); clear hS; intro bp w _ hS) | (refine wpList_is (.box 47 _) rfl ?_; go_must (refine wpList_stp (by kernel_rfl) (stp_bx _ _ rfl hS ?_)); clear hS; intro br w _ hS) | (go_at_call 58; refine hp_copy hS hH none hcp ?_; clear hS; intro p9 E9 w hH9 _ hS; obtain ⟨rfl, rfl⟩ := hH9; simp only [List.nil_append] at hS; unfold Ret))
    exact hR _ _ _ hT hU hS.pick
  | true =>
    rw [hok] at n1
    simp only [hok, Bool.true_and] at hR
    clear hok
    cases hvl : vlE T S with
    | false =>
      simp only [hvl, Bool.false_and, Bool.false_eq_true, if_false] at hR
      go_enter Tryz.func19, Tryz.ntmps19
      go_wp2_with (first | (refine wpList_is (.box 29 _) rfl ?_; go_must (refine wpList_stp (by kernel_rfl) (stp_bx _ _ rfl hS ?_)); clear hS; intro bp w _ hS) | (refine wpList_is (.box 47 _) rfl ?_; go_must (refine wpList_stp (by kernel_rfl) (stp_bx _ _ rfl hS ?_)); clear hS; intro br w _ hS) | (go_at_call 58; refine hp_copy hS hH _ rfl ?_; clear hS; intro p9 E9 w hH9 _ hS; obtain ⟨a9, rfl⟩ := some_of hH9.nil n1; clear hH9; unfold Ret) | (go_at_call 51; refine sc_valid hS hT hU _ hvl ?_; clear hS; intro w hS; unfold Ret) | (refine wpList_is (.load _ _) rfl ?_; go_must ((refine wpList_stp (by kernel_rfl) (stp_val (run_ld _ _ rfl hS) ?_)))))
      exact hR _ _ _ hT hU hS.pick
    | true =>
      simp only [hvl, Bool.true_and, if_true] at hR
      obtain ⟨e, he⟩ : ∃ e, wiH Hh s g = e := ⟨_, rfl⟩
      by_cases h0 : e = 0
      case neg =>
        have d : decide (e = 0) = false := decide_eq_false h0
        simp only [he, d, decide_false, Bool.false_and, Bool.false_eq_true, if_false, h0] at hR
        obtain ⟨l, hl⟩ : ∃ l, chdR Hh s g = l := ⟨_, rfl⟩
        go_enter Tryz.func19, Tryz.ntmps19
        go_wp2_with (first | (refine wpList_is (.box 29 _) rfl ?_; go_must (refine wpList_stp (by kernel_rfl) (stp_bx _ _ rfl hS ?_)); clear hS; intro bp w _ hS) | (refine wpList_is (.box 47 _) rfl ?_; go_must (refine wpList_stp (by kernel_rfl) (stp_bx _ _ rfl hS ?_)); clear hS; intro br w _ hS) | (go_at_call 58; refine hp_copy hS hH _ rfl ?_; clear hS; intro p9 E9 w hH9 _ hS; obtain ⟨a9, rfl⟩ := some_of hH9.nil n1; clear hH9; unfold Ret) | (go_at_call 51; refine sc_valid hS hT hU _ hvl ?_; clear hS; intro w hS; unfold Ret) | (go_at_call 28; refine sc_children hS hH s g _ _ hl he ?_; clear hS; intro v Ev w hI _ hS; have hone := hI.one; have hln := hI.len rfl; unfold Ret) | (refine wpList_is (.load _ _) rfl ?_; go_must (first | refine wpList_stp (by kernel_rfl) (stp_val (run_ld _ _ rfl hS) ?_) | refine wpList_stp (by kernel_rfl) (stp_val (run_lda _ _ rfl hS) ?_))))
        exact hR _ _ _ hT hU hS.pick
      subst h0
      simp only [he, decide_true, Bool.true_and, if_true] at hR
      obtain ⟨l, hl⟩ : ∃ l, chdR Hh s g = l := ⟨_, rfl⟩
      have hl4 : l.length ≤ 4 := by rw [← hl]; exact chdR_len Hh s g
      have n2 := cpH_none Hh
      unfold scY scF at hR
      simp only [hl] at hR
      cases hb1 : bnd T s with
      | true =>
        simp only [hb1, Bool.true_or, Bool.not_true, Bool.false_and, Bool.false_eq_true, if_false, if_true] at hR
        go_enter Tryz.func19, Tryz.ntmps19
        go_wp2_with (first | (refine wpList_is (.box 29 _) rfl ?_; go_must (refine wpList_stp (by kernel_rfl) (stp_bx _ _ rfl hS ?_)); clear hS; intro bp w _ hS) | (refine wpList_is (.box 47 _) rfl ?_; go_must (refine wpList_stp (by kernel_rfl) (stp_bx _ _ rfl hS ?_)); clear hS; intro br w _ hS) | (go_at_call 58; refine hp_copy hS hH _ rfl ?_; clear hS; intro p9 E9 w hH9 _ hS; obtain ⟨a9, rfl⟩ := some_of hH9.nil n1; clear hH9; unfold Ret) | (go_at_call 51; refine sc_valid hS hT hU _ hvl ?_; clear hS; intro w hS; unfold Ret) | (go_at_call 28; refine sc_children hS hH s g _ _ hl he ?_; clear hS; intro v Ev w hI _ hS; have hone := hI.one; have hln := hI.len rfl; unfold Ret) | (go_at_call 59; refine sc_bey (H1 := Ev ++ (E0 ++ (E2 ++ (⟨br, #[.int .i64 s, .int .u32 g], 47, true⟩ :: H3)))) hS.pick hT s _ hb1 ?_; clear hS; intro w hS; unfold Ret) | (refine wpList_is (.load _ _) rfl ?_; go_must (first | refine wpList_stp (by kernel_rfl) (stp_val (run_ld _ _ rfl hS) ?_) | refine wpList_stp (by kernel_rfl) (stp_val (run_lda _ _ rfl hS) ?_))))
        exact hR _ _ _ hT hU hS.pick
      | false =>
        simp only [hb1, Bool.false_or] at hR
        cases hb2 : l.any (bnd T) with
        | true =>
          simp only [hb2, Bool.not_true, Bool.false_and, Bool.false_eq_true, if_false, if_true] at hR
          go_enter Tryz.func19, Tryz.ntmps19
          go_wp2_with (first | (refine wpList_is (.box 29 _) rfl ?_; go_must (refine wpList_stp (by kernel_rfl) (stp_bx _ _ rfl hS ?_)); clear hS; intro bp w _ hS) | (refine wpList_is (.box 47 _) rfl ?_; go_must (refine wpList_stp (by kernel_rfl) (stp_bx _ _ rfl hS ?_)); clear hS; intro br w _ hS) | (go_at_call 58; refine hp_copy hS hH _ rfl ?_; clear hS; intro p9 E9 w hH9 _ hS; obtain ⟨a9, rfl⟩ := some_of hH9.nil n1; clear hH9; unfold Ret) | (go_at_call 51; refine sc_valid hS hT hU _ hvl ?_; clear hS; intro w hS; unfold Ret) | (go_at_call 28; refine sc_children hS hH s g _ _ hl he ?_; clear hS; intro v Ev w hI _ hS; have hone := hI.one; have hln := hI.len rfl; unfold Ret) | (go_at_call 59; refine sc_bey (H1 := Ev ++ (E0 ++ (E2 ++ (⟨br, #[.int .i64 s, .int .u32 g], 47, true⟩ :: H3)))) hS.pick hT s _ hb1 ?_; clear hS; intro w hS; unfold Ret) | (go_at_call 61; refine con_bey (H1 := E0 ++ (E2 ++ (⟨br, #[.int .i64 s, .int .u32 g], 47, true⟩ :: H3))) hS.pick hI hT (by omega) _ hb2 ?_; clear hS; intro w hS; unfold Ret) | (refine wpList_is (.load _ _) rfl ?_; go_must (first | refine wpList_stp (by kernel_rfl) (stp_val (run_ld _ _ rfl hS) ?_) | refine wpList_stp (by kernel_rfl) (stp_val (run_lda _ _ rfl hS) ?_))))
          exact hR _ _ _ hT hU hS.pick
        | false =>
          simp only [hb2, Bool.not_false, Bool.true_and, Bool.false_eq_true, if_false, if_true] at hR
          obtain ⟨c, hc⟩ : ∃ c, ofR T s = c := ⟨_, rfl⟩
          by_cases h1 : c = 1
          case neg =>
            have d : decide (c = 1) = false := decide_eq_false h1
            have q : (c != 1) = true := by simpa using h1
            simp only [hc, d, Bool.false_eq_true, if_false, h1] at hR
            go_enter Tryz.func19, Tryz.ntmps19
            go_wp2_with (first | (refine wpList_is (.box 29 _) rfl ?_; go_must (refine wpList_stp (by kernel_rfl) (stp_bx _ _ rfl hS ?_)); clear hS; intro bp w _ hS) | (refine wpList_is (.box 47 _) rfl ?_; go_must (refine wpList_stp (by kernel_rfl) (stp_bx _ _ rfl hS ?_)); clear hS; intro br w _ hS) | (go_at_call 58; refine hp_copy hS hH _ rfl ?_; clear hS; intro p9 E9 w hH9 _ hS; obtain ⟨a9, rfl⟩ := some_of hH9.nil n1; clear hH9; unfold Ret) | (go_at_call 51; refine sc_valid hS hT hU _ hvl ?_; clear hS; intro w hS; unfold Ret) | (go_at_call 28; refine sc_children hS hH s g _ _ hl he ?_; clear hS; intro v Ev w hI _ hS; have hone := hI.one; have hln := hI.len rfl; unfold Ret) | (go_at_call 59; refine sc_bey (H1 := Ev ++ (E0 ++ (E2 ++ (⟨br, #[.int .i64 s, .int .u32 g], 47, true⟩ :: H3)))) hS.pick hT s _ hb1 ?_; clear hS; intro w hS; unfold Ret) | (go_at_call 61; refine con_bey (H1 := E0 ++ (E2 ++ (⟨br, #[.int .i64 s, .int .u32 g], 47, true⟩ :: H3))) hS.pick hI hT (by omega) _ hb2 ?_; clear hS; intro w hS; unfold Ret) | (go_at_call 60; refine pn_of hS hT s _ _ hc rfl ?_; clear hS; intro w hS; unfold Ret) | (refine wpList_is (.load _ _) rfl ?_; go_must (first | refine wpList_stp (by kernel_rfl) (stp_val (run_ld _ _ rfl hS) ?_) | refine wpList_stp (by kernel_rfl) (stp_val (run_lda _ _ rfl hS) ?_))))
            exact hR _ _ _ hT hU hS.pick
          subst h1
          simp only [hc, decide_true, if_true] at hR
          go_enter Tryz.func19, Tryz.ntmps19
          go_wp2_with (first | (refine wpList_is (.box 29 _) rfl ?_; go_must (refine wpList_stp (by kernel_rfl) (stp_bx _ _ rfl hS ?_)); clear hS; intro bp w _ hS) | (refine wpList_is (.box 47 _) rfl ?_; go_must (refine wpList_stp (by kernel_rfl) (stp_bx _ _ rfl hS ?_)); clear hS; intro br w _ hS) | (go_at_call 58; refine hp_copy hS hH _ rfl ?_; clear hS; intro p9 E9 w hH9 _ hS; obtain ⟨a9, rfl⟩ := some_of hH9.nil n1; clear hH9; unfold Ret) | (go_at_call 51; refine sc_valid hS hT hU _ hvl ?_; clear hS; intro w hS; unfold Ret) | (go_at_call 28; refine sc_children hS hH s g _ _ hl he ?_; clear hS; intro v Ev w hI _ hS; have hone := hI.one; have hln := hI.len rfl; unfold Ret) | (go_at_call 59; refine sc_bey (H1 := Ev ++ (E0 ++ (E2 ++ (⟨br, #[.int .i64 s, .int .u32 g], 47, true⟩ :: H3)))) hS.pick hT s _ hb1 ?_; clear hS; intro w hS; unfold Ret) | (go_at_call 61; refine con_bey (H1 := E0 ++ (E2 ++ (⟨br, #[.int .i64 s, .int .u32 g], 47, true⟩ :: H3))) hS.pick hI hT (by omega) _ hb2 ?_; clear hS; intro w hS; unfold Ret) | (go_at_call 60; refine pn_of hS hT s _ _ hc rfl ?_; clear hS; intro w hS; unfold Ret) | (refine wpList_is (.call { callee := .builtin .len, args := #[_], argTypes := #[_] }) rfl ?_; refine wpList_stp (by kernel_rfl) (stp_val (run_lenv _ _ rfl) ?_)) | (refine wpList_is (.load _ _) rfl ?_; go_must (first | refine wpList_stp (by kernel_rfl) (stp_val (run_ld _ _ rfl hS) ?_) | refine wpList_stp (by kernel_rfl) (stp_val (run_lda _ _ rfl hS) ?_))))
          have hS0 : St w0 bs w (E1 ++ (E2 ++ (Ev ++ (⟨bp, #[.pointer p], 29, true⟩ :: (E0 ++ (⟨br, #[.int .i64 s, .int .u32 g], 47, true⟩ :: H3)))))) := hS.pick
          have hT0 := hT
          have hU0 := hU
          clear hS hT hU hb1 hb2 hc hl n2 n1
          go_loopw [15, 59] (fun c u wr => ∃ (k : Nat) (E1 E2 : List Ent), k ≤ l.length ∧ u = .int .i64 k ∧ c = .int .i64 (((l.take k).foldl shF (T, S, 0)).2.2 : Nat) ∧ KA p ((l.take k).foldl shF (T, S, 0)).1 E1 ∧ SA q ((l.take k).foldl shF (T, S, 0)).2.1 E2 ∧ St w0 bs wr (E1 ++ (E2 ++ (Ev ++ (⟨bp, #[.pointer p], 29, true⟩ :: (E0 ++ (⟨br, #[.int .i64 s, .int .u32 g], 47, true⟩ :: H3))))))) (fun _ u _ => l.length - (intOf u).toNat)
          case atStart => exact ⟨0, E1, E2, Nat.zero_le _, rfl, rfl, hT0, hU0, hS0⟩
          case round =>
            clear hS0 hT0 hU0
            obtain ⟨k, E1, E2, hk, rfl, rfl, hT, hU, hS⟩ := hrel
            by_cases hlt : k < l.length
            · obtain ⟨x, hx⟩ : ∃ x, l.getD k 0 = x := ⟨_, rfl⟩
              obtain ⟨gx, sp, ix, hh, hcx⟩ := hI.at hlt hx
              have ix := ix k rfl
              have hst := shF_step hlt (x := (T, S, 0))
              have hle := shF_le (l.take k) (T, S, 0)
              rw [List.length_take] at hle
              obtain ⟨y, hy⟩ : ∃ y, (l.take k).foldl shF (T, S, 0) = y := ⟨_, rfl⟩
              rw [hy, hx] at hst
              rw [hy] at hle hT hU ⊢
              obtain ⟨Ty, Sy, n⟩ := y
              simp only at hT hU hle ⊢
              have hn4 : n ≤ 4 := by omega
              have hst' := Lib.hid hst
              have hx' := Lib.hid hx
              have hy' := Lib.hid hy
              clear hst hx hy hle
              cases hbb : skB Ty Sy x with
              | true =>
                have e3 : shF (Ty, Sy, n) x = (skT Ty Sy x, skS Ty Sy x, n + 1) := by simp only [shF, hbb, if_true]
                have e3' := Lib.hid e3
                clear e3
                go_wp2_with (first | (go_at_call 17; refine sc_shade hS hT hU x _ _ _ _ rfl rfl hbb rfl ?_; clear hS hT hU; intro E1 E2 w hT hU hS; unfold Ret) | (refine wpList_is (.indexAddr _ _ _) rfl ?_; refine wpList_stp (by kernel_rfl) (stp_val (run_idxv _ _ _ rfl) ?_)) | (refine wpList_is (.load _ _) rfl ?_; go_must ((refine wpList_stp (by kernel_rfl) (stp_val (run_ld _ _ rfl hS) ?_)))))
                go_roundw
                case rel => exact ⟨k + 1, E1, E2, by omega, by go_num, by rw [hst'.out, e3'.out]; go_num, by rw [hst'.out, e3'.out]; exact hT, by rw [hst'.out, e3'.out]; exact hU, hS.pick⟩
                case measure => simp [intOf]; omega
              | false =>
                have e3 : shF (Ty, Sy, n) x = (skT Ty Sy x, skS Ty Sy x, n) := by simp only [shF, hbb, Bool.false_eq_true, if_false, Nat.add_zero]
                have e3' := Lib.hid e3
                clear e3
                go_wp2_with (first | (go_at_call 17; refine sc_shade hS hT hU x _ _ _ _ rfl rfl hbb rfl ?_; clear hS hT hU; intro E1 E2 w hT hU hS; unfold Ret) | (refine wpList_is (.indexAddr _ _ _) rfl ?_; refine wpList_stp (by kernel_rfl) (stp_val (run_idxv _ _ _ rfl) ?_)) | (refine wpList_is (.load _ _) rfl ?_; go_must ((refine wpList_stp (by kernel_rfl) (stp_val (run_ld _ _ rfl hS) ?_)))))
                go_roundw
                case rel => exact ⟨k + 1, E1, E2, by omega, by go_num, by rw [hst'.out, e3'.out], by rw [hst'.out, e3'.out]; exact hT, by rw [hst'.out, e3'.out]; exact hU, hS.pick⟩
                case measure => simp [intOf]; omega
            · obtain rfl : k = l.length := by omega
              rw [List.take_length] at hT hU ⊢
              obtain ⟨y, hy⟩ : ∃ y, l.foldl shF (T, S, 0) = y := ⟨_, rfl⟩
              rw [hy] at hT hU hR ⊢
              obtain ⟨Ty, Sy, n⟩ := y
              simp only at hT hU hR ⊢
              clear hy
              go_wp2_with (first | (go_at_call 62; refine pn_Blacken hS hT s _ _ rfl rfl ?_; clear hS hT; intro E1 w hT hS; unfold Ret) | (refine wpList_is (.load _ _) rfl ?_; go_must ((refine wpList_stp (by kernel_rfl) (stp_val (run_ld _ _ rfl hS) ?_)))))
              exact hR _ _ _ hT hU hS.pick
end Go.Proofs.YtgpjanfphgjbbaaGreat
