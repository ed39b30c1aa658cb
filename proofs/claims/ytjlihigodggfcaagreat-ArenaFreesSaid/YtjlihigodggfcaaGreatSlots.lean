/-
  Tables of slots: contracts of the program's functions, but for those that go by an iterator.
-/
import Derived.Test.YtjlihigodggfcaaGreatRfs
set_option linter.unusedSimpArgs false
set_option linter.unusedVariables false
namespace Go.Proofs.YtjlihigodggfcaaGreat
open Go.RowKit Go.Mm
variable {R : Ending → World → Prop} {w : World} {w0 : World} {bs : List Nat} {H H' H1 E : List Ent} {L X : List (Int × Int)} {b : Nat} {n : Int}

instance a_slot : AggT Tryz.prog 134 2 := ⟨by kernel_rfl, by kernel_rfl⟩
instance z_slot : ZeroT Tryz.prog 134 #[.int .i64 0, .int .u32 0] := ⟨by kernel_rfl⟩

/-- All 256 slots of the array. -/
def padL (L : List (Int × Int)) : List (Int × Int) := L ++ List.replicate (256 - L.length) (0, 0)
theorem padL_len (h : L.length ≤ 256) : (padL L).length = 256 := by simp [padL]; omega
theorem padL_get {i : Nat} (h : i < L.length) : (padL L)[i]? = some (L.getD i (0, 0)) := by
  simp [padL, List.getElem?_append_left h, h]
theorem padL_set {i : Nat} (h : i < L.length) (c : Int × Int) : (padL L).set i c = padL (L.set i c) := by
  simp [padL, List.set_append_left _ _ h]
def tabC (n : Int) (X : List (Int × Int)) : Array Value := blk [.int .i64 n] slf X []
instance tab0 : CellAt (tabC n X) 0 (.int .i64 n) := blkPre rfl
def zero2 : List (Int × Int) := List.replicate 256 (0, 0)
instance b_tab {n : Int} : BuildT Tryz.prog 137 [(0, .int .i64 n)] (tabC n zero2) := ⟨fun w => by kernel_rfl⟩
instance z_tab : ZeroT Tryz.prog 137 (tabC 0 zero2) := ⟨by kernel_rfl⟩
instance a_tab : AggT Tryz.prog 137 513 := ⟨by kernel_rfl, by kernel_rfl⟩
theorem tabState {i : Nat} {x : Int × Int} (h : X[i]? = some x) : CellAt (tabC n X) (1 + i * 2) (.int .i64 x.1) := blkCell slf_len (j := 0) h (by decide) rfl rfl
theorem tabGen {i : Nat} {x : Int × Int} (h : X[i]? = some x) : CellAt (tabC n X) (1 + i * 2 + 1) (.int .u32 x.2) := blkCell slf_len (j := 1) h (by decide) rfl rfl
theorem tabBoth {i : Nat} {x : Int × Int} (h : X[i]? = some x) : CellsAt (tabC n X) (1 + i * 2) 2 #[.int .i64 x.1, .int .u32 x.2] := blkCells slf_len h rfl
theorem tabStateSet {i : Nat} {x : Int × Int} (h : X[i]? = some x) (s : Int) : SetAt (tabC n X) (1 + i * 2) (.int .i64 s) (tabC n (X.set i (s, x.2))) := blkSet slf_len (j := 0) h (by decide) rfl rfl
theorem tabGenSet {i : Nat} {x : Int × Int} (h : X[i]? = some x) (g : Int) : SetAt (tabC n X) (1 + i * 2 + 1) (.int .u32 g) (tabC n (X.set i (x.1, g))) := blkSet slf_len (j := 1) h (by decide) rfl rfl
theorem tabBothSet {i : Nat} (h : i < X.length) (s g : Int) : SetsAt (tabC n X) (1 + i * 2) #[.int .i64 s, .int .u32 g] (tabC n (X.set i (s, g))) := blkSets slf_len (a' := (s, g)) h rfl
theorem tabAll (h : X.length = 256) : CellsAt (tabC n X) 0 513 (tabC n X) := blkAll slf_len (by rw [h]; rfl)
theorem tabOnes : OneCells (tabC n X) := blkOnes (by simp [Value.oneCell']) slf_one (by simp)
theorem tabSize (h : X.length = 256) : SizeIs (tabC n X) 513 := blkSize slf_len (by rw [h]; rfl)
theorem tabOver {m : Int} {Y : List (Int × Int)} (h : X.length = 256) (h' : Y.length = 256) : SetsAt (tabC n X) 0 (tabC m Y) (tabC m Y) := blkOver slf_len (by rw [tabC, blk_size slf_len, h, h']; rfl)

def TA (p : Option Addr) (T : Tb) (E : List Ent) : Prop :=
  match T with
  | none => p = none ∧ E = []
  | some L => TbW L ∧ ∃ b, p = some ⟨b, 0, none⟩ ∧ E = [⟨b, tabC L.length (padL L), 137, true⟩]
theorem TA.nil {p : Option Addr} {T : Tb} (h : TA p T E) : p.isNone = T.isNone := by
  cases T with
  | none => obtain ⟨rfl, _⟩ := h; rfl
  | some L => obtain ⟨_, b, rfl, _⟩ := h; rfl
theorem TA.none : TA none none [] := ⟨rfl, rfl⟩

/-! The functions of a table -/
abbrev TabAt (w : World) (b : Nat) (n : Int) (X : List (Int × Int)) : Prop := w.heap[b]? = some (.cells (tabC n X) 137 (0, 0))
theorem valid_nil (hR : Ret R (.bool false) w) : Calls Tryz.prog 121 #[.pointer none] w R := by
  go_enter Tryz.func121, Tryz.ntmps121
  go_wp2
  exact hR
theorem valid_at (hP : TabAt w b n X) (v : Bool) (hv : decide (0 < n) = v) (hR : Ret R (.bool v) w) : Calls Tryz.prog 121 #[.pointer (some ⟨b, 0, none⟩)] w R := by
  subst hv
  have hS : St w [] w [⟨b, tabC n X, 137, false⟩] := St.start1 hP (by simp)
  clear hP
  go_enter Tryz.func121, Tryz.ntmps121
  go_wp2_with ((refine wpList_is (.load _ _) rfl ?_; go_must ((refine wpList_stp (by kernel_rfl) (stp_val (run_ld _ _ rfl hS) ?_)))))
  exact hR

theorem sl_new (hO : St w0 bs w H) (z f : Int) (hf : 0 ≤ f ∧ f ≤ 4294967295) (hR : ∀ p' E' w', TA p' (nwT z f) E' → St w0 bs w' (E' ++ H) → Ret R (.tuple #[.pointer p', .int .i64 (nwE z f)]) w') :
    Calls Tryz.prog 74 #[.int .i64 z, .int .u32 f] w R := by
  have hS := hO
  by_cases h1 : z < 1
  · have e : nwOk z f = false := by simp [nwOk]; omega
    unfold nwT nwE at hR
    rw [e] at hR
    have q1 : decide (z < 1) = true := by simpa using h1
    go_enter Tryz.func74, Tryz.ntmps74
    go_wp2
    exact hR none [] w TA.none hS
  have q1 : decide (z < 1) = false := by simpa using h1
  by_cases h2 : 256 < z
  · have e : nwOk z f = false := by simp [nwOk]; omega
    unfold nwT nwE at hR
    rw [e] at hR
    have q2 : decide (256 < z) = true := by simpa using h2
    go_enter Tryz.func74, Tryz.ntmps74
    go_wp2
    exact hR none [] w TA.none hS
  have q2 : decide (256 < z) = false := by simpa using h2
  by_cases h3 : f = 0
  · subst h3
    have e : nwOk z 0 = false := by simp [nwOk]
    unfold nwT nwE at hR
    rw [e] at hR
    go_enter Tryz.func74, Tryz.ntmps74
    go_wp2_with ((go_at_call 108; refine gcheck_bad ?_; unfold Ret))
    exact hR none [] w TA.none hS
  obtain ⟨m, rfl⟩ := Int.eq_ofNat_of_zero_le (show 0 ≤ z by omega)
  have e : nwOk m f = true := by simp only [nwOk, Bool.and_eq_true, decide_eq_true_eq]; omega
  unfold nwT nwE at hR
  rw [e] at hR
  simp only [if_true, Int.toNat_natCast] at hR
  have hf1 : 1 ≤ f := by omega
  have hf2 := hf.2
  have hm : m ≤ 256 := by omega
  clear hf h3 e
  go_enter Tryz.func74, Tryz.ntmps74
  go_wp2_with (first | (go_at_call 108; refine gcheck hf1 hf2 ?_; unfold Ret) | (refine wpList_is (.build _ _) rfl ?_; go_must (refine wpList_stp (by kernel_rfl) (stp_val (run_bd _ _ rfl) ?_))) | (refine wpList_is (.box _ _) rfl ?_; go_must (refine wpList_stp (by kernel_rfl) (stp_bx _ _ rfl hS ?_)); clear hS; intro bN w hbN hS))
  go_loopw [23, 7] (fun u _ wr => ∃ k : Nat, k ≤ m ∧ u = .int .i64 k ∧ St w0 bs wr (⟨bN, tabC m (List.replicate k (0, f) ++ List.replicate (256 - k) (0, 0)), 137, true⟩ :: H)) (fun u _ _ => m - (intOf u).toNat)
  case atStart => exact ⟨0, Nat.zero_le _, rfl, hS⟩
  case round =>
    clear hS
    obtain ⟨k, hk, rfl, hS⟩ := hrel
    by_cases hlt : k < m
    · have hx : (List.replicate k ((0 : Int), f) ++ List.replicate (256 - k) (0, 0))[k]? = some (0, 0) := by
        rw [List.getElem?_append_right (by simp), List.length_replicate, Nat.sub_self, List.getElem?_replicate, if_pos (by omega)]
      have hset := tabGenSet (n := m) hx f
      have e : (List.replicate k ((0 : Int), f) ++ List.replicate (256 - k) (0, 0)).set k (0, f) = List.replicate (k + 1) (0, f) ++ List.replicate (256 - (k + 1)) (0, 0) := by
        rw [List.set_append_right _ _ (by simp), List.length_replicate, Nat.sub_self, show 256 - k = (256 - (k + 1)) + 1 by omega, List.replicate_succ, List.set_cons_zero, List.replicate_succ' (n := k)]
        simp
      have h256 : (k : Int) < 256 := by omega
      rw [show ((0 : Int), (0 : Int)).1 = 0 from rfl, e] at hset
      clear hx e
      go_wp2_with ((refine wpList_is (.store _ _ _) rfl ?_; go_must ((refine wpList_stp (by kernel_rfl) (stp_st _ _ _ rfl hS ?_))); clear hS; intro w hS))
      go_roundw
      case rel => exact ⟨k + 1, by omega, by go_num, hS⟩
      case measure => simp [intOf]; omega
    · obtain rfl : k = m := by omega
      go_wp2_with ((go_skip))
      refine hR _ _ _ ⟨TbW.rep hm ⟨hf1, hf2⟩, bN, rfl, rfl⟩ ?_
      simpa [padL] using hS

set_option maxRecDepth 100000 in
theorem sl_check {p : Option Addr} {T : Tb} (hO : St w0 bs w H) (hT : TA p T E) [hc : Cut H E H1] (s g : Int)
    (hR : ∀ w', TA p T E → St w0 bs w' (E ++ H1) → Ret R (.int .i64 (ckE T s g)) w') : Calls Tryz.prog 112 #[.pointer p, .agg #[.int .i64 s, .int .u32 g]] w R := by
  have hS := hO.front (E := E) (H1 := H1)
  clear hO
  rcases T with _ | L
  · obtain ⟨rfl, rfl⟩ := hT
    simp only [List.nil_append] at hS
    go_enter Tryz.func112, Tryz.ntmps112
    go_wp2_with (first | (go_at_call 121; refine valid_nil ?_; unfold Ret) | (refine wpList_is (.box _ _) rfl ?_; go_must (refine wpList_stp (by kernel_rfl) (stp_bx _ _ rfl hS ?_)); clear hS; intro bN w hbN hS))
    exact hR _ TA.none hS.pick
  obtain ⟨hW, b, rfl, rfl⟩ := hT
  simp only [List.cons_append, List.nil_append] at hS
  have hR := fun w' => hR w' ⟨hW, b, rfl, rfl⟩
  by_cases hl : 0 < L.length
  · have hval : decide ((0 : Int) < L.length) = true := by simpa using hl
    by_cases hin : inTb L s = true
    · obtain ⟨i, rfl, hi, _⟩ := in_yes hin
      have hb := tabBoth (n := L.length) (padL_get hi)
      obtain ⟨⟨st, gn⟩, hx⟩ : ∃ x, L.getD i (0, 0) = x := ⟨_, rfl⟩
      simp only [ckE, if_pos hl, hin, if_true, Int.toNat_natCast, hx] at hR
      rw [hx] at hb
      simp only at hb
      have hiI : (i : Int) < L.length := by omega
      have h256 : (i : Int) < 256 := by have := hW.hi; omega
      have q1 : decide ((i : Int) < 0) = false := by simp
      have q2 : decide ((L.length : Int) ≤ i) = false := by simp; omega
      have hl' := Lib.hid hl
      clear hx hin hl
      by_cases h1 : st = 1
      · subst h1
        by_cases h2 : gn = g
        · subst h2
          simp only [if_true] at hR
          go_enter Tryz.func112, Tryz.ntmps112
          go_wp2_with (first | (go_at_call 121; refine valid_at (hS.has inferInstance) _ hval ?_; unfold Ret) | (refine wpList_is (.box _ _) rfl ?_; go_must (refine wpList_stp (by kernel_rfl) (stp_bx _ _ rfl hS ?_)); clear hS; intro bN w hbN hS) | (refine region_quiet hS (by kernel_rfl) (by kernel_rfl) (fun hne => ?_); (repeat ((go_big_quiet_want; first | (refine quiet_is (.load _ _) rfl ?_; go_must (first | refine quiet_at sw_st (fun w hS => run_ld _ _ rfl hS) ?_ | refine quiet_at sw_st (fun w hS => run_lda _ _ rfl hS) ?_); go_big_quiet_on) | (go_big_quiet_op; go_big_quiet_on)))); refine wpQuiet_nil ?_; clear hS hne; intro w hS))
          exact hR _ hS.pick
        · have q3 : (gn == g) = false := by simpa using h2
          simp only [Prod.mk.injEq, true_and, if_neg h2] at hR
          go_enter Tryz.func112, Tryz.ntmps112
          go_wp2_with (first | (go_at_call 121; refine valid_at (hS.has inferInstance) _ hval ?_; unfold Ret) | (refine wpList_is (.box _ _) rfl ?_; go_must (refine wpList_stp (by kernel_rfl) (stp_bx _ _ rfl hS ?_)); clear hS; intro bN w hbN hS) | (refine region_quiet hS (by kernel_rfl) (by kernel_rfl) (fun hne => ?_); (repeat ((go_big_quiet_want; first | (refine quiet_is (.load _ _) rfl ?_; go_must (first | refine quiet_at sw_st (fun w hS => run_ld _ _ rfl hS) ?_ | refine quiet_at sw_st (fun w hS => run_lda _ _ rfl hS) ?_); go_big_quiet_on) | (go_big_quiet_op; go_big_quiet_on)))); refine wpQuiet_nil ?_; clear hS hne; intro w hS))
          exact hR _ hS.pick
      · have q3 : (st == 1) = false := by simpa using h1
        simp only [Prod.mk.injEq, h1, false_and, if_false] at hR
        go_enter Tryz.func112, Tryz.ntmps112
        go_wp2_with (first | (go_at_call 121; refine valid_at (hS.has inferInstance) _ hval ?_; unfold Ret) | (refine wpList_is (.box _ _) rfl ?_; go_must (refine wpList_stp (by kernel_rfl) (stp_bx _ _ rfl hS ?_)); clear hS; intro bN w hbN hS) | (refine region_quiet hS (by kernel_rfl) (by kernel_rfl) (fun hne => ?_); (repeat ((go_big_quiet_want; first | (refine quiet_is (.load _ _) rfl ?_; go_must (first | refine quiet_at sw_st (fun w hS => run_ld _ _ rfl hS) ?_ | refine quiet_at sw_st (fun w hS => run_lda _ _ rfl hS) ?_); go_big_quiet_on) | (go_big_quiet_op; go_big_quiet_on)))); refine wpQuiet_nil ?_; clear hS hne; intro w hS))
        exact hR _ hS.pick
    · simp only [ckE, if_pos hl, hin, Bool.false_eq_true, if_false] at hR
      have hr := in_no (by simpa using hin)
      clear hin hl
      by_cases h0 : s < 0
      · have q1 : decide (s < 0) = true := by simpa using h0
        go_enter Tryz.func112, Tryz.ntmps112
        go_wp2_with (first | (go_at_call 121; refine valid_at (hS.has inferInstance) _ hval ?_; unfold Ret) | (refine wpList_is (.box _ _) rfl ?_; go_must (refine wpList_stp (by kernel_rfl) (stp_bx _ _ rfl hS ?_)); clear hS; intro bN w hbN hS) | (refine region_quiet hS (by kernel_rfl) (by kernel_rfl) (fun hne => ?_); (repeat (first | go_big_quiet_skip | (go_big_quiet_want; first | (refine quiet_is (.load _ _) rfl ?_; go_must ((refine quiet_at sw_st (fun w hS => run_ld _ _ rfl hS) ?_)); go_big_quiet_on) | (go_big_quiet_op; go_big_quiet_on)))); refine wpQuiet_nil ?_; clear hS hne; intro w hS))
        exact hR _ hS.pick
      · have q1 : decide (s < 0) = false := by simpa using h0
        have q2 : decide ((L.length : Int) ≤ s) = true := by simp; omega
        go_enter Tryz.func112, Tryz.ntmps112
        go_wp2_with (first | (go_at_call 121; refine valid_at (hS.has inferInstance) _ hval ?_; unfold Ret) | (refine wpList_is (.box _ _) rfl ?_; go_must (refine wpList_stp (by kernel_rfl) (stp_bx _ _ rfl hS ?_)); clear hS; intro bN w hbN hS) | (refine region_quiet hS (by kernel_rfl) (by kernel_rfl) (fun hne => ?_); (repeat ((go_big_quiet_want; first | (refine quiet_is (.load _ _) rfl ?_; go_must ((refine quiet_at sw_st (fun w hS => run_ld _ _ rfl hS) ?_)); go_big_quiet_on) | (go_big_quiet_op; go_big_quiet_on)))); refine wpQuiet_nil ?_; clear hS hne; intro w hS))
        exact hR _ hS.pick
  · have hval : decide ((0 : Int) < L.length) = false := by simpa using hl
    simp only [ckE, if_neg hl] at hR
    clear hl
    go_enter Tryz.func112, Tryz.ntmps112
    go_wp2_with (first | (go_at_call 121; refine valid_at (hS.has inferInstance) _ hval ?_; unfold Ret) | (refine wpList_is (.box _ _) rfl ?_; go_must (refine wpList_stp (by kernel_rfl) (stp_bx _ _ rfl hS ?_)); clear hS; intro bN w hbN hS))
    exact hR _ hS.pick

set_option maxRecDepth 100000 in
theorem sl_copy {p : Option Addr} {T : Tb} (hO : St w0 bs w H) (hT : TA p T E) [hc : Cut H E H1]
    (hR : ∀ p' E' w', TA p' (cpT T) E' → TA p T E → St w0 bs w' (E' ++ (E ++ H1)) → Ret R (.pointer p') w') : Calls Tryz.prog 96 #[.pointer p] w R := by
  have hS := hO.front (E := E) (H1 := H1)
  clear hO
  rcases T with _ | L
  · obtain ⟨rfl, rfl⟩ := hT
    simp only [List.nil_append] at hS
    go_enter Tryz.func96, Tryz.ntmps96
    go_wp2_with ((go_at_call 121; refine valid_nil ?_; unfold Ret))
    exact hR none [] _ TA.none TA.none hS
  obtain ⟨hW, b, rfl, rfl⟩ := hT
  simp only [List.cons_append, List.nil_append] at hS
  have hR := fun p' E' w' h => hR p' E' w' h ⟨hW, b, rfl, rfl⟩
  by_cases hl : 0 < L.length
  · have hval : decide ((0 : Int) < L.length) = true := by simpa using hl
    have e : tbOk (some L) = true := by simp [tbOk, hl]
    simp only [cpT, e, if_true] at hR
    have h256 := padL_len hW.hi
    have i1 := tabAll (n := L.length) h256
    have i2 := tabOver (n := 0) (m := L.length) (X := zero2) (Y := padL L) rfl h256
    have i3 := tabOnes (n := L.length) (X := padL L)
    have i4 := tabSize (n := L.length) h256
    clear hl e h256
    go_enter Tryz.func96, Tryz.ntmps96
    go_wp2_with (first | (go_at_call 121; refine valid_at (hS.has inferInstance) _ hval ?_; unfold Ret) | (refine wpList_is (.load _ _) rfl ?_; go_must ((refine wpList_stp (by kernel_rfl) (stp_val (run_lda _ _ rfl hS) ?_)))) | (refine wpList_is (.store _ _ _) rfl ?_; go_must ((refine wpList_stp (by kernel_rfl) (stp_sta _ _ _ rfl hS ?_))); clear hS; intro w hS) | (refine wpList_is (.alloc _) rfl ?_; go_must (refine wpList_stp (by kernel_rfl) (stp_al _ rfl hS ?_)); clear hS; intro bN w hbN hS))
    exact hR _ _ _ ⟨hW, _, rfl, rfl⟩ hS
  · have hval : decide ((0 : Int) < L.length) = false := by simpa using hl
    have e : tbOk (some L) = false := by simp [tbOk, hl]
    simp only [cpT, e, Bool.false_eq_true, if_false] at hR
    clear hl e
    go_enter Tryz.func96, Tryz.ntmps96
    go_wp2_with ((go_at_call 121; refine valid_at (hS.has inferInstance) _ hval ?_; unfold Ret))
    exact hR none [] _ TA.none hS
end Go.Proofs.YtjlihigodggfcaaGreat
