/-
  The document's objects: New, Check, Get, Set.
-/
import Derived.Test.YtjlihigodggfcaaGreatHobj
set_option linter.unusedSimpArgs false
set_option linter.unusedVariables false
namespace Go.Proofs.YtjlihigodggfcaaGreat
open Go.RowKit Go.Mm
variable {R : Ending → World → Prop} {w : World} {w0 : World} {bs : List Nat} {H H' H1 E : List Ent}

instance ro_a : AggT Tryz.prog 42 10 := ⟨by kernel_rfl, by kernel_rfl⟩
instance ro_z : ZeroT Tryz.prog 42 (objC 0 zero4 false) := ⟨by kernel_rfl⟩
instance ro_b {n : Int} {h : Bool} : BuildT Tryz.prog 42 [(0, .int .i64 n), (2, .bool h)] (objC n zero4 h) := ⟨fun w => by kernel_rfl⟩
instance ro_b0 : BuildT Tryz.prog 42 [] (objC 0 zero4 false) := ⟨fun w => by kernel_rfl⟩
instance ro_f0 {b off : Nat} : FieldAt Tryz.prog 42 0 b off off := ⟨fun w => by kernel_rfl⟩
instance ro_f1 {b off : Nat} : FieldAt Tryz.prog 42 1 b off (off + 1) := ⟨fun w => by kernel_rfl⟩
instance ro_f2 {b off : Nat} : FieldAt Tryz.prog 42 2 b off (off + 9) := ⟨fun w => by kernel_rfl⟩
def posR (r : Int × Int) : Bool := decide (0 ≤ r.1) && decide (r.1 < 256) && decide (0 < r.2)
theorem possible_ok {s g : Int} (b : Bool) (hb : posR (s, g) = b) (hR : ∀ w', Chg w w' [] → Ret R (.bool b) w') : Calls Tryz.prog 129 #[.agg #[.int .i64 s, .int .u32 g]] w R := by
  have hS : St w [] w [] := St.start0
  subst hb
  unfold posR at hR
  simp only at hR
  cases q1 : decide (0 ≤ s) with
  | false =>
    rw [q1] at hR
    go_enter Tryz.func129, Tryz.ntmps129
    go_wp2_with (first | go_skip | (refine wpList_is (.load _ _) rfl ?_; go_must ((refine wpList_stp (by kernel_rfl) (stp_val (run_ld _ _ rfl hS) ?_)))) | (refine wpList_is (.box _ _) rfl ?_; go_must (refine wpList_stp (by kernel_rfl) (stp_bx _ _ rfl hS ?_)); clear hS; intro bN w hbN hS))
    exact hR _ hS.chg
  | true =>
    cases q2 : decide (s < 256) with
    | false =>
      rw [q1, q2] at hR
      go_enter Tryz.func129, Tryz.ntmps129
      go_wp2_with (first | go_skip | (refine wpList_is (.load _ _) rfl ?_; go_must ((refine wpList_stp (by kernel_rfl) (stp_val (run_ld _ _ rfl hS) ?_)))) | (refine wpList_is (.box _ _) rfl ?_; go_must (refine wpList_stp (by kernel_rfl) (stp_bx _ _ rfl hS ?_)); clear hS; intro bN w hbN hS))
      exact hR _ hS.chg
    | true =>
      cases q3 : decide (0 < g) with
      | false =>
        rw [q1, q2, q3] at hR
        go_enter Tryz.func129, Tryz.ntmps129
        go_wp2_with (first | (refine wpList_is (.load _ _) rfl ?_; go_must ((refine wpList_stp (by kernel_rfl) (stp_val (run_ld _ _ rfl hS) ?_)))) | (refine wpList_is (.box _ _) rfl ?_; go_must (refine wpList_stp (by kernel_rfl) (stp_bx _ _ rfl hS ?_)); clear hS; intro bN w hbN hS))
        exact hR _ hS.chg
      | true =>
        rw [q1, q2, q3] at hR
        go_enter Tryz.func129, Tryz.ntmps129
        go_wp2_with (first | (refine wpList_is (.load _ _) rfl ?_; go_must ((refine wpList_stp (by kernel_rfl) (stp_val (run_ld _ _ rfl hS) ?_)))) | (refine wpList_is (.box _ _) rfl ?_; go_must (refine wpList_stp (by kernel_rfl) (stp_bx _ _ rfl hS ?_)); clear hS; intro bN w hbN hS))
        exact hR _ hS.chg
theorem wrR_pos {r : Int × Int} : wrR r = (nzR r && !posR r) := by
  unfold wrR posR
  rw [Bool.eq_iff_iff]
  simp only [Bool.and_eq_true, Bool.or_eq_true, decide_eq_true_eq, Bool.not_eq_true', Bool.and_eq_false_iff, decide_eq_false_iff_not]
  constructor
  · rintro ⟨h1, (h2 | h2) | h2⟩
    · exact ⟨h1, .inl (.inl (by omega))⟩
    · exact ⟨h1, .inl (.inr (by omega))⟩
    · exact ⟨h1, .inr (by omega)⟩
  · rintro ⟨h1, (h2 | h2) | h2⟩
    · exact ⟨h1, .inl (.inl (by omega))⟩
    · exact ⟨h1, .inl (.inr (by omega))⟩
    · exact ⟨h1, .inr (by omega)⟩
theorem rwrong_ok {s g : Int} (b : Bool) (hb : wrR (s, g) = b) (hR : ∀ w', Chg w w' [] → Ret R (.bool b) w') : Calls Tryz.prog 124 #[.agg #[.int .i64 s, .int .u32 g]] w R := by
  have hS : St w [] w [] := St.start0
  rw [wrR_pos] at hb
  unfold nzR at hb
  simp only at hb
  cases hz : refB s g 0 0 with
  | true =>
    have q := refE hz
    rw [hz] at hb
    simp only [Bool.not_true, Bool.false_and] at hb
    subst hb
    clear hz
    go_enter Tryz.func124, Tryz.ntmps124
    go_wp2_with (first | go_skip | (refine wpList_is (.binOp .neq _ _ _ _) rfl ?_; refine wpList_stp (by kernel_rfl) (stp_val (run_ane _ _ _ _ rfl) ?_)) | (refine wpList_is (.build _ _) rfl ?_; go_must (refine wpList_stp (by kernel_rfl) (stp_val (run_bd _ _ rfl) ?_))) | (refine wpList_is (.load _ _) rfl ?_; go_must ((refine wpList_stp (by kernel_rfl) (stp_val (run_lda _ _ rfl hS) ?_)))) | (refine wpList_is (.box _ _) rfl ?_; go_must (refine wpList_stp (by kernel_rfl) (stp_bx _ _ rfl hS ?_)); clear hS; intro bN w hbN hS))
    exact hR _ hS.chg
  | false =>
    have q := refE hz
    rw [hz] at hb
    simp only [Bool.not_false, Bool.true_and] at hb
    clear hz
    cases hp : posR (s, g) with
    | true =>
      rw [hp] at hb
      have hp' := Lib.hid hp
      subst hb
      clear hp
      go_enter Tryz.func124, Tryz.ntmps124
      go_wp2_with (first | (refine wpList_is (.binOp .neq _ _ _ _) rfl ?_; refine wpList_stp (by kernel_rfl) (stp_val (run_ane _ _ _ _ rfl) ?_)) | (go_at_call 129; refine possible_ok true hp'.out ?_; intro w hch; replace hS := hS.nil hch; clear hch; unfold Ret) | (refine wpList_is (.build _ _) rfl ?_; go_must (refine wpList_stp (by kernel_rfl) (stp_val (run_bd _ _ rfl) ?_))) | (refine wpList_is (.load _ _) rfl ?_; go_must ((refine wpList_stp (by kernel_rfl) (stp_val (run_lda _ _ rfl hS) ?_)))) | (refine wpList_is (.box _ _) rfl ?_; go_must (refine wpList_stp (by kernel_rfl) (stp_bx _ _ rfl hS ?_)); clear hS; intro bN w hbN hS))
      exact hR _ hS.chg
    | false =>
      rw [hp] at hb
      have hp' := Lib.hid hp
      subst hb
      clear hp
      go_enter Tryz.func124, Tryz.ntmps124
      go_wp2_with (first | (refine wpList_is (.binOp .neq _ _ _ _) rfl ?_; refine wpList_stp (by kernel_rfl) (stp_val (run_ane _ _ _ _ rfl) ?_)) | (go_at_call 129; refine possible_ok false hp'.out ?_; intro w hch; replace hS := hS.nil hch; clear hch; unfold Ret) | (refine wpList_is (.build _ _) rfl ?_; go_must (refine wpList_stp (by kernel_rfl) (stp_val (run_bd _ _ rfl) ?_))) | (refine wpList_is (.load _ _) rfl ?_; go_must ((refine wpList_stp (by kernel_rfl) (stp_val (run_lda _ _ rfl hS) ?_)))) | (refine wpList_is (.box _ _) rfl ?_; go_must (refine wpList_stp (by kernel_rfl) (stp_bx _ _ rfl hS ?_)); clear hS; intro bN w hbN hS))
      exact hR _ hS.chg


/-- Whether a field is as it may not be. -/
def bad1 (n : Int) (F : List (Int × Int)) (i : Nat) : Bool := fnz F i && badF n F i
theorem ok_all {n : Int} {F : List (Int × Int)} {h : Bool} (hb : nwB n h = true) (ha : ∀ j, j < 4 → bad1 n F j = false) : ckO n F h = 0 := by
  have : okO n F h = true := ok_iff.2 ⟨hb, fun i hi hf => by have := ha i hi; unfold bad1 at this; rw [hf] at this; simpa using this⟩
  unfold ckO
  rw [this]; rfl
theorem ok_bad {n : Int} {F : List (Int × Int)} {h : Bool} {j : Nat} (hj : j < 4) (hb : bad1 n F j = true) : ckO n F h = 2 := by
  have : okO n F h = false := by
    rw [← Bool.not_eq_true, ok_iff]
    rintro ⟨_, h2⟩
    unfold bad1 at hb
    rw [Bool.and_eq_true] at hb
    rw [h2 j hj hb.1] at hb
    cases hb.2
  unfold ckO
  rw [this]; rfl
theorem ok_no {n : Int} {F : List (Int × Int)} {h : Bool} (hb : nwB n h = false) : ckO n F h = 2 := by
  have : okO n F h = false := by
    rw [← Bool.not_eq_true, ok_iff]
    rintro ⟨h1, _⟩
    rw [hb] at h1; cases h1
  unfold ckO
  rw [this]; rfl

set_option maxHeartbeats 2000000 in
set_option maxRecDepth 100000 in
theorem rob_check {n : Int} {F : List (Int × Int)} {h : Bool} (hF4 : F.length = 4) (hO : St w0 bs w H) (hR : ∀ w', St w0 bs w' H → Ret R (.int .i64 (ckO n F h)) w') :
    Calls Tryz.prog 109 #[.agg (objC n F h)] w R := by
  have hS := hO
  clear hO
  have hA := objAll (n := n) (h := h) hF4
  have hZ := objSize (n := n) (h := h) hF4
  have hH := objH (n := n) (h := h) hF4
  by_cases h0 : n < 0
  · have hb : nwB n h = false := by unfold nwB; rw [decide_eq_false (by omega)]; rfl
    rw [ok_no hb] at hR
    have d1 : decide (n < 0) = true := decide_eq_true h0
    clear hb
    go_enter Tryz.func109, Tryz.ntmps109
    go_wp2_with (first | go_skip | (refine wpList_is (.load _ _) rfl ?_; go_must ((refine wpList_stp (by kernel_rfl) (stp_val (run_ld _ _ rfl hS) ?_)))) | (refine wpList_is (.box _ _) rfl ?_; go_must (refine wpList_stp (by kernel_rfl) (stp_bx _ _ rfl hS ?_)); clear hS; intro bN w hbN hS))
    exact hR _ hS.pick
  have d1 : decide (n < 0) = false := decide_eq_false h0
  by_cases h4 : 4 < n
  · have hb : nwB n h = false := by unfold nwB; rw [decide_eq_false (show ¬ n ≤ 4 by omega)]; simp
    rw [ok_no hb] at hR
    have d2 : decide (4 < n) = true := decide_eq_true h4
    clear hb
    go_enter Tryz.func109, Tryz.ntmps109
    go_wp2_with (first | go_skip | (refine wpList_is (.load _ _) rfl ?_; go_must ((refine wpList_stp (by kernel_rfl) (stp_val (run_ld _ _ rfl hS) ?_)))) | (refine wpList_is (.box _ _) rfl ?_; go_must (refine wpList_stp (by kernel_rfl) (stp_bx _ _ rfl hS ?_)); clear hS; intro bN w hbN hS))
    exact hR _ hS.pick
  have d2 : decide (4 < n) = false := decide_eq_false h4
  by_cases hh : h = true ∧ 0 < n
  · obtain ⟨rfl, hn0⟩ := hh
    have hb : nwB n true = false := by unfold nwB; rw [decide_eq_true hn0]; simp
    rw [ok_no hb] at hR
    have d3 : decide (0 < n) = true := decide_eq_true hn0
    clear hb
    go_enter Tryz.func109, Tryz.ntmps109
    go_wp2_with (first | (refine wpList_is (.load _ _) rfl ?_; go_must ((refine wpList_stp (by kernel_rfl) (stp_val (run_ld _ _ rfl hS) ?_)))) | (refine wpList_is (.box _ _) rfl ?_; go_must (refine wpList_stp (by kernel_rfl) (stp_bx _ _ rfl hS ?_)); clear hS; intro bN w hbN hS))
    exact hR _ hS.pick
  have hb : nwB n h = true := by
    unfold nwB
    rw [decide_eq_true (show 0 ≤ n by omega), decide_eq_true (show n ≤ 4 by omega)]
    cases h with
    | false => rfl
    | true => rw [decide_eq_false (show ¬ 0 < n from fun q => hh ⟨rfl, q⟩)]; rfl
  have hb' := Lib.hid hb
  have hF' := Lib.hid hF4
  have hx : (∃ b, h = b ∧ (b = true → decide (0 < n) = false)) := ⟨h, rfl, fun e => decide_eq_false (fun q => hh ⟨e, q⟩)⟩
  clear hb hF4 hh
  obtain ⟨b, rfl, hx⟩ := hx
  cases h with
  | false =>
    clear hx
    go_enter Tryz.func109, Tryz.ntmps109
    go_wp2_with (first | go_skip | (refine wpList_is (.box 42 _) rfl ?_; go_must (refine wpList_stp (by kernel_rfl) (stp_bx _ _ rfl hS ?_)); clear hS; intro bb w _ hS) | (refine wpList_is (.load _ _) rfl ?_; go_must ((refine wpList_stp (by kernel_rfl) (stp_val (run_ld _ _ rfl hS) ?_)))))
    go_loopw [3] (fun u wr => ∃ k : Nat, k ≤ 4 ∧ u = .int .i64 k ∧ (∀ j, j < k → bad1 n F j = false) ∧ St w0 bs wr (⟨bb, objC n F false, 42, true⟩ :: H)) (fun u _ => 4 - (intOf u).toNat)
    case atStart => exact ⟨0, Nat.zero_le _, rfl, fun j hj => absurd hj (Nat.not_lt_zero _), hS⟩
    case round =>
      clear hS
      obtain ⟨k, hk, rfl, hno, hS⟩ := hrel
      have hno' := Lib.hid hno
      clear hno
      by_cases hlt : k < 4
      · have hkF : k < F.length := by rw [hF'.out]; exact hlt
        obtain ⟨⟨fs, fg⟩, hx⟩ : ∃ x, F.getD k (0, 0) = x := ⟨_, rfl⟩
        have hx2 : F[k]? = some (fs, fg) := by rw [← hx, List.getD_eq_getElem?_getD, List.getElem?_eq_getElem hkF]; rfl
        have c1 := objFd (n := n) (h := false) hx2
        have hix : ∀ b : Nat, IdxV Tryz.prog 37 (.pointer (some ⟨b, 0 + 1, none⟩)) k ⟨b, 1 + k * 2, none⟩ := fun b => by
          have := idxArr (P := Tryz.prog) (t := 37) (m := 4) (z := 2) (e := 25) (b := b) (off := 0 + 1) (by kernel_rfl) (by kernel_rfl) hlt
          simpa using this
        have e1 : bad1 n F k = (nzR (fs, fg) && (decide (n ≤ k) || wrR (fs, fg))) := by unfold bad1 fnz badF; rw [hx]
        have e1' := Lib.hid e1
        clear hx hx2 hkF e1
        cases hw : wrR (fs, fg) with
        | true =>
          have hw' := Lib.hid hw
          have hz : nzR (fs, fg) = true := by unfold wrR at hw; rw [Bool.and_eq_true] at hw; exact hw.1
          have hbad : bad1 n F k = true := by rw [e1'.out, hz, hw]; simp
          rw [ok_bad hlt hbad] at hR
          clear hw hz hbad
          go_wp2_with (first | (go_at_call 124; refine rwrong_ok true hw'.out ?_; intro w hch; replace hS := hS.nil hch; clear hch; unfold Ret) | (refine wpList_is (.indexAddr _ _ _) rfl ?_; refine wpList_stp (by kernel_rfl) (stp_val (run_idxv _ _ _ rfl) ?_)) | (refine wpList_is (.load _ _) rfl ?_; go_must ((refine wpList_stp (by kernel_rfl) (stp_val (run_lda _ _ rfl hS) ?_)))))
          exact hR _ hS.pick
        | false =>
          have hw' := Lib.hid hw
          by_cases hn : n ≤ k
          · have q1 : decide (n ≤ (k : Int)) = true := decide_eq_true hn
            cases hz : refB fs fg 0 0 with
            | true =>
              have hzE := refE hz
              have hbad : bad1 n F k = false := by rw [e1'.out]; unfold nzR; rw [hz]; rfl
              have hbad' := Lib.hid hbad
              clear hw hz hbad
              go_wp2_with (first | (go_at_call 124; refine rwrong_ok false hw'.out ?_; intro w hch; replace hS := hS.nil hch; clear hch; unfold Ret) | (refine wpList_is (.binOp .neq _ _ _ _) rfl ?_; refine wpList_stp (by kernel_rfl) (stp_val (run_ane _ _ _ _ rfl) ?_)) | (refine wpList_is (.indexAddr _ _ _) rfl ?_; refine wpList_stp (by kernel_rfl) (stp_val (run_idxv _ _ _ rfl) ?_)) | (refine wpList_is (.build _ _) rfl ?_; go_must (refine wpList_stp (by kernel_rfl) (stp_val (run_bd _ _ rfl) ?_))) | (refine wpList_is (.load _ _) rfl ?_; go_must (first | refine wpList_stp (by kernel_rfl) (stp_val (run_ld _ _ rfl hS) ?_) | refine wpList_stp (by kernel_rfl) (stp_val (run_lda _ _ rfl hS) ?_))))
              go_roundw
              case rel => exact ⟨k + 1, by omega, by go_num, fun j hj => if e : j = k then e ▸ hbad'.out else hno'.out j (by omega), hS⟩
              case measure => simp [intOf]; omega
            | false =>
              have hzE := refE hz
              have hbad : bad1 n F k = true := by rw [e1'.out]; unfold nzR; rw [hz, decide_eq_true hn]; rfl
              rw [ok_bad hlt hbad] at hR
              clear hw hz hbad
              go_wp2_with (first | (go_at_call 124; refine rwrong_ok false hw'.out ?_; intro w hch; replace hS := hS.nil hch; clear hch; unfold Ret) | (refine wpList_is (.binOp .neq _ _ _ _) rfl ?_; refine wpList_stp (by kernel_rfl) (stp_val (run_ane _ _ _ _ rfl) ?_)) | (refine wpList_is (.indexAddr _ _ _) rfl ?_; refine wpList_stp (by kernel_rfl) (stp_val (run_idxv _ _ _ rfl) ?_)) | (refine wpList_is (.build _ _) rfl ?_; go_must (refine wpList_stp (by kernel_rfl) (stp_val (run_bd _ _ rfl) ?_))) | (refine wpList_is (.load _ _) rfl ?_; go_must (first | refine wpList_stp (by kernel_rfl) (stp_val (run_ld _ _ rfl hS) ?_) | refine wpList_stp (by kernel_rfl) (stp_val (run_lda _ _ rfl hS) ?_))))
              exact hR _ hS.pick
          · have q1 : decide (n ≤ (k : Int)) = false := decide_eq_false hn
            have hbad : bad1 n F k = false := by rw [e1'.out, decide_eq_false hn, hw]; simp
            have hbad' := Lib.hid hbad
            clear hw hbad
            go_wp2_with (first | (go_at_call 124; refine rwrong_ok false hw'.out ?_; intro w hch; replace hS := hS.nil hch; clear hch; unfold Ret) | (refine wpList_is (.indexAddr _ _ _) rfl ?_; refine wpList_stp (by kernel_rfl) (stp_val (run_idxv _ _ _ rfl) ?_)) | (refine wpList_is (.load _ _) rfl ?_; go_must (first | refine wpList_stp (by kernel_rfl) (stp_val (run_ld _ _ rfl hS) ?_) | refine wpList_stp (by kernel_rfl) (stp_val (run_lda _ _ rfl hS) ?_))))
            go_roundw
            case rel => exact ⟨k + 1, by omega, by go_num, fun j hj => if e : j = k then e ▸ hbad'.out else hno'.out j (by omega), hS⟩
            case measure => simp [intOf]; omega
      · obtain rfl : k = 4 := by omega
        rw [ok_all hb'.out hno'.out] at hR
        clear hk hlt
        go_wp2_with ((go_skip))
        exact hR _ hS.pick
  | true =>
    have d3 := hx rfl
    clear hx
    go_enter Tryz.func109, Tryz.ntmps109
    go_wp2_with (first | (refine wpList_is (.box 42 _) rfl ?_; go_must (refine wpList_stp (by kernel_rfl) (stp_bx _ _ rfl hS ?_)); clear hS; intro bb w _ hS) | (refine wpList_is (.load _ _) rfl ?_; go_must ((refine wpList_stp (by kernel_rfl) (stp_val (run_ld _ _ rfl hS) ?_)))))
    go_loopw [3] (fun u wr => ∃ k : Nat, k ≤ 4 ∧ u = .int .i64 k ∧ (∀ j, j < k → bad1 n F j = false) ∧ St w0 bs wr (⟨bb, objC n F true, 42, true⟩ :: H)) (fun u _ => 4 - (intOf u).toNat)
    case atStart => exact ⟨0, Nat.zero_le _, rfl, fun j hj => absurd hj (Nat.not_lt_zero _), hS⟩
    case round =>
      clear hS
      obtain ⟨k, hk, rfl, hno, hS⟩ := hrel
      have hno' := Lib.hid hno
      clear hno
      by_cases hlt : k < 4
      · have hkF : k < F.length := by rw [hF'.out]; exact hlt
        obtain ⟨⟨fs, fg⟩, hx⟩ : ∃ x, F.getD k (0, 0) = x := ⟨_, rfl⟩
        have hx2 : F[k]? = some (fs, fg) := by rw [← hx, List.getD_eq_getElem?_getD, List.getElem?_eq_getElem hkF]; rfl
        have c1 := objFd (n := n) (h := true) hx2
        have hix : ∀ b : Nat, IdxV Tryz.prog 37 (.pointer (some ⟨b, 0 + 1, none⟩)) k ⟨b, 1 + k * 2, none⟩ := fun b => by
          have := idxArr (P := Tryz.prog) (t := 37) (m := 4) (z := 2) (e := 25) (b := b) (off := 0 + 1) (by kernel_rfl) (by kernel_rfl) hlt
          simpa using this
        have e1 : bad1 n F k = (nzR (fs, fg) && (decide (n ≤ k) || wrR (fs, fg))) := by unfold bad1 fnz badF; rw [hx]
        have e1' := Lib.hid e1
        clear hx hx2 hkF e1
        cases hw : wrR (fs, fg) with
        | true =>
          have hw' := Lib.hid hw
          have hz : nzR (fs, fg) = true := by unfold wrR at hw; rw [Bool.and_eq_true] at hw; exact hw.1
          have hbad : bad1 n F k = true := by rw [e1'.out, hz, hw]; simp
          rw [ok_bad hlt hbad] at hR
          clear hw hz hbad
          go_wp2_with (first | (go_at_call 124; refine rwrong_ok true hw'.out ?_; intro w hch; replace hS := hS.nil hch; clear hch; unfold Ret) | (refine wpList_is (.indexAddr _ _ _) rfl ?_; refine wpList_stp (by kernel_rfl) (stp_val (run_idxv _ _ _ rfl) ?_)) | (refine wpList_is (.load _ _) rfl ?_; go_must ((refine wpList_stp (by kernel_rfl) (stp_val (run_lda _ _ rfl hS) ?_)))))
          exact hR _ hS.pick
        | false =>
          have hw' := Lib.hid hw
          by_cases hn : n ≤ k
          · have q1 : decide (n ≤ (k : Int)) = true := decide_eq_true hn
            cases hz : refB fs fg 0 0 with
            | true =>
              have hzE := refE hz
              have hbad : bad1 n F k = false := by rw [e1'.out]; unfold nzR; rw [hz]; rfl
              have hbad' := Lib.hid hbad
              clear hw hz hbad
              go_wp2_with (first | (go_at_call 124; refine rwrong_ok false hw'.out ?_; intro w hch; replace hS := hS.nil hch; clear hch; unfold Ret) | (refine wpList_is (.binOp .neq _ _ _ _) rfl ?_; refine wpList_stp (by kernel_rfl) (stp_val (run_ane _ _ _ _ rfl) ?_)) | (refine wpList_is (.indexAddr _ _ _) rfl ?_; refine wpList_stp (by kernel_rfl) (stp_val (run_idxv _ _ _ rfl) ?_)) | (refine wpList_is (.build _ _) rfl ?_; go_must (refine wpList_stp (by kernel_rfl) (stp_val (run_bd _ _ rfl) ?_))) | (refine wpList_is (.load _ _) rfl ?_; go_must (first | refine wpList_stp (by kernel_rfl) (stp_val (run_ld _ _ rfl hS) ?_) | refine wpList_stp (by kernel_rfl) (stp_val (run_lda _ _ rfl hS) ?_))))
              go_roundw
              case rel => exact ⟨k + 1, by omega, by go_num, fun j hj => if e : j = k then e ▸ hbad'.out else hno'.out j (by omega), hS⟩
              case measure => simp [intOf]; omega
            | false =>
              have hzE := refE hz
              have hbad : bad1 n F k = true := by rw [e1'.out]; unfold nzR; rw [hz, decide_eq_true hn]; rfl
              rw [ok_bad hlt hbad] at hR
              clear hw hz hbad
              go_wp2_with (first | (go_at_call 124; refine rwrong_ok false hw'.out ?_; intro w hch; replace hS := hS.nil hch; clear hch; unfold Ret) | (refine wpList_is (.binOp .neq _ _ _ _) rfl ?_; refine wpList_stp (by kernel_rfl) (stp_val (run_ane _ _ _ _ rfl) ?_)) | (refine wpList_is (.indexAddr _ _ _) rfl ?_; refine wpList_stp (by kernel_rfl) (stp_val (run_idxv _ _ _ rfl) ?_)) | (refine wpList_is (.build _ _) rfl ?_; go_must (refine wpList_stp (by kernel_rfl) (stp_val (run_bd _ _ rfl) ?_))) | (refine wpList_is (.load _ _) rfl ?_; go_must (first | refine wpList_stp (by kernel_rfl) (stp_val (run_ld _ _ rfl hS) ?_) | refine wpList_stp (by kernel_rfl) (stp_val (run_lda _ _ rfl hS) ?_))))
              exact hR _ hS.pick
          · have q1 : decide (n ≤ (k : Int)) = false := decide_eq_false hn
            have hbad : bad1 n F k = false := by rw [e1'.out, decide_eq_false hn, hw]; simp
            have hbad' := Lib.hid hbad
            clear hw hbad
            go_wp2_with (first | (go_at_call 124; refine rwrong_ok false hw'.out ?_; intro w hch; replace hS := hS.nil hch; clear hch; unfold Ret) | (refine wpList_is (.indexAddr _ _ _) rfl ?_; refine wpList_stp (by kernel_rfl) (stp_val (run_idxv _ _ _ rfl) ?_)) | (refine wpList_is (.load _ _) rfl ?_; go_must (first | refine wpList_stp (by kernel_rfl) (stp_val (run_ld _ _ rfl hS) ?_) | refine wpList_stp (by kernel_rfl) (stp_val (run_lda _ _ rfl hS) ?_))))
            go_roundw
            case rel => exact ⟨k + 1, by omega, by go_num, fun j hj => if e : j = k then e ▸ hbad'.out else hno'.out j (by omega), hS⟩
            case measure => simp [intOf]; omega
      · obtain rfl : k = 4 := by omega
        rw [ok_all hb'.out hno'.out] at hR
        clear hk hlt
        go_wp2_with ((go_skip))
        exact hR _ hS.pick
set_option maxHeartbeats 1000000 in
set_option maxRecDepth 100000 in
theorem rob_new (hO : St w0 bs w H) (n : Int) (h : Bool) (o : Ob) (e : Int) (ho : nwO n h = o) (he : nwOE n h = e)
    (hR : ∀ w', St w0 bs w' H → Ret R (.tuple #[.agg (obC o), .int .i64 e]) w') : Calls Tryz.prog 76 #[.int .i64 n, .bool h] w R := by
  have hS := hO
  clear hO
  subst ho he
  unfold nwO nwOE at hR
  cases hb : nwB n h with
  | true =>
    rw [hb] at hR
    simp only [if_true] at hR
    have hck : ckO n zero4 h = 0 := by unfold ckO; rw [ok_zero, hb]; rfl
    have hck' := Lib.hid hck
    clear hb hck
    go_enter Tryz.func76, Tryz.ntmps76
    go_wp2_with (first | (go_at_call 109; refine rob_check (F := zero4) rfl hS ?_; clear hS; intro w hS; rw [hck'.out]; unfold Ret) | (refine wpList_is (.build _ _) rfl ?_; go_must (refine wpList_stp (by kernel_rfl) (stp_val (run_bd _ _ rfl) ?_))) | (refine wpList_is (.load _ _) rfl ?_; go_must ((refine wpList_stp (by kernel_rfl) (stp_val (run_lda _ _ rfl hS) ?_)))) | (refine wpList_is (.store _ _ _) rfl ?_; go_must ((refine wpList_stp (by kernel_rfl) (stp_sta _ _ _ rfl hS ?_))); clear hS; intro w hS) | (refine wpList_is (.alloc _) rfl ?_; go_must (refine wpList_stp (by kernel_rfl) (stp_al _ rfl hS ?_)); clear hS; intro bN w hbN hS))
    refine bodyPost_ret (res_ct rfl hS) rfl ?_
    exact hR _ hS.pick
  | false =>
    rw [hb] at hR
    simp only [Bool.false_eq_true, if_false] at hR
    have hck : ckO n zero4 h = 2 := by unfold ckO; rw [ok_zero, hb]; rfl
    have hck' := Lib.hid hck
    clear hb hck
    go_enter Tryz.func76, Tryz.ntmps76
    go_wp2_with (first | (go_at_call 109; refine rob_check (F := zero4) rfl hS ?_; clear hS; intro w hS; rw [hck'.out]; unfold Ret) | (refine wpList_is (.build _ _) rfl ?_; go_must (refine wpList_stp (by kernel_rfl) (stp_val (run_bd _ _ rfl) ?_))) | (refine wpList_is (.load _ _) rfl ?_; go_must ((refine wpList_stp (by kernel_rfl) (stp_val (run_lda _ _ rfl hS) ?_)))) | (refine wpList_is (.store _ _ _) rfl ?_; go_must ((refine wpList_stp (by kernel_rfl) (stp_sta _ _ _ rfl hS ?_))); clear hS; intro w hS) | (refine wpList_is (.alloc _) rfl ?_; go_must (refine wpList_stp (by kernel_rfl) (stp_al _ rfl hS ?_)); clear hS; intro bN w hbN hS))
    refine bodyPost_ret (res_ct rfl hS) rfl ?_
    exact hR _ hS.pick

set_option maxHeartbeats 2000000 in
set_option maxRecDepth 100000 in
theorem rob_set (hO : St w0 bs w H) {o : Ob} (hW : ObW o) (i s g : Int) (hw : wrR (s, g) = false) (hg : 0 ≤ g ∧ g ≤ 4294967295) (o' : Ob) (r : Int × Int) (e : Int) (ho : st1 o i (s, g) = o') (hr : gtO o i = r) (he : gtOE o i = e)
    (hR : ∀ w', St w0 bs w' H → Ret R (.tuple #[.agg (obC o'), .agg #[.int .i64 r.1, .int .u32 r.2], .int .i64 e]) w') : Calls Tryz.prog 111 #[.agg (obC o), .int .i64 i, .agg #[.int .i64 s, .int .u32 g]] w R := by
  have hS := hO
  clear hO
  subst ho hr he
  obtain ⟨n, F, h⟩ := o
  show Calls _ _ #[.agg (objC n F h), _, _] w R
  have hF4 : F.length = 4 := hW.len
  have hck : ckO n F h = 0 := by unfold ckO; rw [hW.ok]; rfl
  have hck' := Lib.hid hck
  have hA := objAll (n := n) (h := h) hF4
  have hZ := objSize (n := n) (h := h) hF4
  have hgn' := Lib.hid hW.gn
  have hF4' := Lib.hid hF4
  have hw' := Lib.hid hw
  have hg' := Lib.hid hg
  unfold st1 gtO gtOE at hR
  cases hi : inF (n, F, h) i with
  | false =>
    rw [hi] at hR
    simp only [Bool.false_eq_true, if_false] at hR
    have hin : i < 0 ∨ n ≤ i := by
      rw [← Bool.not_eq_true] at hi
      simp only [inF, Bool.and_eq_true, decide_eq_true_eq] at hi
      omega
    clear hi hck hw hg hF4
    by_cases h0 : i < 0
    · have d1 : decide (i < 0) = true := decide_eq_true h0
      clear hin
      go_enter Tryz.func111, Tryz.ntmps111
      go_wp2_with (first | (go_at_call 109; refine rob_check hF4'.out hS ?_; clear hS; intro w hS; rw [hck'.out]; unfold Ret) | (go_at_call 124; refine rwrong_ok false hw'.out ?_; intro w hch; replace hS := hS.nil hch; clear hch; unfold Ret) | (refine wpList_is (.build _ _) rfl ?_; go_must (refine wpList_stp (by kernel_rfl) (stp_val (run_bd _ _ rfl) ?_))) | (refine wpList_is (.load _ _) rfl ?_; go_must ((refine wpList_stp (by kernel_rfl) (stp_val (run_lda _ _ rfl hS) ?_)))) | (refine wpList_is (.store _ _ _) rfl ?_; go_must ((refine wpList_stp (by kernel_rfl) (stp_sta _ _ _ rfl hS ?_))); clear hS; intro w hS) | (refine wpList_is (.alloc _) rfl ?_; go_must (refine wpList_stp (by kernel_rfl) (stp_al _ rfl hS ?_)); clear hS; intro bN w hbN hS) | (refine wpList_is (.box _ _) rfl ?_; go_must (refine wpList_stp (by kernel_rfl) (stp_bx _ _ rfl hS ?_)); clear hS; intro bN w hbN hS))
      refine bodyPost_ret (res_cct rfl hS) rfl ?_
      exact hR _ hS.pick
    · have d1 : decide (i < 0) = false := decide_eq_false h0
      have d2 : decide (n ≤ i) = true := decide_eq_true (by omega)
      clear hin
      go_enter Tryz.func111, Tryz.ntmps111
      go_wp2_with (first | (go_at_call 109; refine rob_check hF4'.out hS ?_; clear hS; intro w hS; rw [hck'.out]; unfold Ret) | (go_at_call 124; refine rwrong_ok false hw'.out ?_; intro w hch; replace hS := hS.nil hch; clear hch; unfold Ret) | (refine wpList_is (.build _ _) rfl ?_; go_must (refine wpList_stp (by kernel_rfl) (stp_val (run_bd _ _ rfl) ?_))) | (refine wpList_is (.load _ _) rfl ?_; go_must (first | refine wpList_stp (by kernel_rfl) (stp_val (run_ld _ _ rfl hS) ?_) | refine wpList_stp (by kernel_rfl) (stp_val (run_lda _ _ rfl hS) ?_))) | (refine wpList_is (.store _ _ _) rfl ?_; go_must ((refine wpList_stp (by kernel_rfl) (stp_sta _ _ _ rfl hS ?_))); clear hS; intro w hS) | (refine wpList_is (.alloc _) rfl ?_; go_must (refine wpList_stp (by kernel_rfl) (stp_al _ rfl hS ?_)); clear hS; intro bN w hbN hS) | (refine wpList_is (.box _ _) rfl ?_; go_must (refine wpList_stp (by kernel_rfl) (stp_bx _ _ rfl hS ?_)); clear hS; intro bN w hbN hS))
      refine bodyPost_ret (res_cct rfl hS) rfl ?_
      exact hR _ hS.pick
  | true =>
    rw [hi] at hR
    simp only [if_true] at hR
    obtain ⟨k, rfl, hk4, hkn⟩ := inF_yes hW hi
    simp only at hkn
    have hkl : k < F.length := by rw [hF4]; exact hk4
    obtain ⟨x, hx⟩ : ∃ x, F.getD k (0, 0) = x := ⟨_, rfl⟩
    have hx2 : F[k]? = some x := by rw [← hx, List.getD_eq_getElem?_getD, List.getElem?_eq_getElem hkl]; rfl
    have c1 := objFd (n := n) (h := h) hx2
    have c2 := objFdSet (n := n) (h := h) hkl s g
    have hF4s : (F.set k (s, g)).length = 4 := by rw [List.length_set]; exact hF4
    have hA2 := objAll (n := n) (h := h) hF4s
    have hZ2 := objSize (n := n) (h := h) hF4s
    have hO2 := objOver (n := 0) (n' := n) (h := false) (h' := h) (F := zero4) rfl hF4s
    have hix : ∀ b : Nat, IdxV Tryz.prog 37 (.pointer (some ⟨b, 0 + 1, none⟩)) k ⟨b, 1 + k * 2, none⟩ := fun b => by
      have := idxArr (P := Tryz.prog) (t := 37) (m := 4) (z := 2) (e := 25) (b := b) (off := 0 + 1) (by kernel_rfl) (by kernel_rfl) hk4
      simpa using this
    simp only [Int.toNat_natCast, hx] at hR
    have d1 : decide ((k : Int) < 0) = false := decide_eq_false (by omega)
    have d2 : decide (n ≤ (k : Int)) = false := decide_eq_false (by omega)
    have hR' : ∀ w', St w0 bs w' H → Ret R (.tuple #[.agg (objC n (F.set k (s, g)) h), .agg #[.int .i64 x.1, .int .u32 x.2], .int .i64 0]) w' := hR
    clear hi hck hw hg hF4 hx hx2 hkl hR hF4s
    go_enter Tryz.func111, Tryz.ntmps111
    go_wp2_with (first | (go_at_call 109; refine rob_check hF4'.out hS ?_; clear hS; intro w hS; rw [hck'.out]; unfold Ret) | (go_at_call 124; refine rwrong_ok false hw'.out ?_; intro w hch; replace hS := hS.nil hch; clear hch; unfold Ret) | (refine wpList_is (.box 42 _) rfl ?_; go_must (refine wpList_stp (by kernel_rfl) (stp_bx _ _ rfl hS ?_)); clear hS; intro b3 w _ hS) | (refine wpList_is (.alloc 42) rfl ?_; go_must (refine wpList_stp (by kernel_rfl) (stp_al _ rfl hS ?_)); clear hS; intro b6 w _ hS) | (refine wpList_is (o := ⟨some 7, _, _, _, _, _⟩) (.alloc _) rfl ?_; go_must (refine wpList_stp rfl (stp_al _ rfl hS ?_)); clear hS; intro b7 w _ hS) | (refine wpList_is (o := ⟨some 9, _, _, _, _, _⟩) (.alloc _) rfl ?_; go_must (refine wpList_stp rfl (stp_al _ rfl hS ?_)); clear hS; intro b9 w _ hS) | (refine wpList_is (.box 25 _) rfl ?_; go_must (refine wpList_stp (by kernel_rfl) (stp_bx _ _ rfl hS ?_)); clear hS; intro b5 w _ hS) | (refine wpList_is (.indexAddr _ _ _) rfl ?_; refine wpList_stp (by kernel_rfl) (stp_val (run_idxv _ _ _ rfl) ?_)) | (refine wpList_is (.load _ _) rfl ?_; go_must (first | refine wpList_stp (by kernel_rfl) (stp_val (run_ld _ _ rfl hS) ?_) | refine wpList_stp (by kernel_rfl) (stp_val (run_lda _ _ rfl hS) ?_))) | (refine wpList_is (.store _ _ _) rfl ?_; go_must ((refine wpList_stp (by kernel_rfl) (stp_sta _ _ _ rfl hS ?_))); clear hS; intro w hS))
    refine region_itemsE [⟨(undef, [⟨b6, objC 0 zero4 false, 42, true⟩]), [(2, fun _ y => y.2 = [⟨b6, objC n (F.set k (s, g)) h, 42, true⟩])]⟩, ⟨(undef, [⟨b7, #[.int .i64 0, .int .u32 0], 25, true⟩]), [(3, fun _ y => y.2 = [⟨b7, #[.int .i64 x.1, .int .u32 x.2], 25, true⟩])]⟩]
      (⟨b3, objC n (F.set k (s, g)) h, 42, true⟩ :: ⟨b9, #[.int .i64 x.1, .int .u32 x.2], 25, true⟩ :: H) (⟨b6, objC 0 zero4 false, 42, true⟩ :: ⟨b7, #[.int .i64 0, .int .u32 0], 25, true⟩ :: ⟨b3, objC n (F.set k (s, g)) h, 42, true⟩ :: ⟨b9, #[.int .i64 x.1, .int .u32 x.2], 25, true⟩ :: H) (by simp) hS.pick (by kernel_rfl) (by kernel_rfl) ?_
    (refine fx_val (fun _ => rfl) rfl (fun χ w hw => run_lda _ _ rfl hw) ?_)
    (refine fx_val (fun _ => rfl) rfl (fun χ w hw => run_lda _ _ rfl hw) ?_)
    refine fx_turn0 0 0 rfl rfl (by (rfl)) (by (rfl)) (by (rfl)) (fun _ => rfl) (fun _ => undef) ?_ ?_
    · intro χ X w _ hS
      exact stepX_sta _ _ _ rfl (show St w0 bs w (⟨b6, objC 0 zero4 false, 42, true⟩ :: (X ++ _)) from hS) (fun w' hS' => ⟨(undef, [⟨b6, objC n (F.set k (s, g)) h, 42, true⟩]), rfl, rfl, hS'⟩)
    refine fx_turn0 1 0 rfl rfl (by (rfl)) (by (rfl)) (by (rfl)) (fun _ => rfl) (fun _ => undef) ?_ ?_
    · intro χ X w _ hS
      exact stepX_sta _ _ _ rfl (show St w0 bs w (⟨b7, #[.int .i64 0, .int .u32 0], 25, true⟩ :: (X ++ _)) from hS) (fun w' hS' => ⟨(undef, [⟨b7, #[.int .i64 x.1, .int .u32 x.2], 25, true⟩]), rfl, rfl, hS'⟩)
    (refine fx_val (fun _ => rfl) rfl (fun χ w hw => run_as _ rfl) ?_)
    refine fx_end rfl ?_
    intro χ w hok hS
    obtain ⟨h1, _⟩ := hok _ (.head _)
    obtain ⟨h2, _⟩ := hok _ (.tail _ (.head _))
    have hS : St w0 bs w (((χ 2).2 ++ ((χ 3).2 ++ [])) ++ (⟨b3, objC n (F.set k (s, g)) h, 42, true⟩ :: ⟨b9, #[.int .i64 x.1, .int .u32 x.2], 25, true⟩ :: H)) := hS
    rw [h1, h2] at hS
    simp only [List.cons_append, List.nil_append, List.append_nil] at hS
    clear hok h1 h2
    go_wp2_with ((go_skip))
    refine bodyPost_ret (res_cct rfl hS) rfl ?_
    exact hR' _ hS.pick

set_option maxHeartbeats 1000000 in
set_option maxRecDepth 100000 in
theorem rob_get (hO : St w0 bs w H) {o : Ob} (hW : ObW o) (i : Int) (r : Int × Int) (e : Int) (hr : gtO o i = r) (he : gtOE o i = e)
    (hR : ∀ w', St w0 bs w' H → Ret R (.tuple #[.agg #[.int .i64 r.1, .int .u32 r.2], .int .i64 e]) w') : Calls Tryz.prog 110 #[.agg (obC o), .int .i64 i] w R := by
  have hS := hO
  clear hO
  subst hr he
  obtain ⟨n, F, h⟩ := o
  show Calls _ _ #[.agg (objC n F h), _] w R
  have hF4 : F.length = 4 := hW.len
  have hck : ckO n F h = 0 := by unfold ckO; rw [hW.ok]; rfl
  have hck' := Lib.hid hck
  have hA := objAll (n := n) (h := h) hF4
  have hZ := objSize (n := n) (h := h) hF4
  have hF4' := Lib.hid hF4
  unfold gtO gtOE at hR
  cases hi : inF (n, F, h) i with
  | false =>
    rw [hi] at hR
    simp only [Bool.false_eq_true, if_false] at hR
    have hin : i < 0 ∨ n ≤ i := by
      rw [← Bool.not_eq_true] at hi
      simp only [inF, Bool.and_eq_true, decide_eq_true_eq] at hi
      omega
    clear hi hck hF4
    by_cases h0 : i < 0
    · have d1 : decide (i < 0) = true := decide_eq_true h0
      clear hin
      go_enter Tryz.func110, Tryz.ntmps110
      go_wp2_with (first | (go_at_call 109; refine rob_check hF4'.out hS ?_; clear hS; intro w hS; rw [hck'.out]; unfold Ret) | (refine wpList_is (.build _ _) rfl ?_; go_must (refine wpList_stp (by kernel_rfl) (stp_val (run_bd _ _ rfl) ?_))) | (refine wpList_is (.load _ _) rfl ?_; go_must ((refine wpList_stp (by kernel_rfl) (stp_val (run_lda _ _ rfl hS) ?_)))) | (refine wpList_is (.store _ _ _) rfl ?_; go_must ((refine wpList_stp (by kernel_rfl) (stp_sta _ _ _ rfl hS ?_))); clear hS; intro w hS) | (refine wpList_is (.alloc _) rfl ?_; go_must (refine wpList_stp (by kernel_rfl) (stp_al _ rfl hS ?_)); clear hS; intro bN w hbN hS) | (refine wpList_is (.box _ _) rfl ?_; go_must (refine wpList_stp (by kernel_rfl) (stp_bx _ _ rfl hS ?_)); clear hS; intro bN w hbN hS))
      refine bodyPost_ret (res_ct rfl hS) rfl ?_
      exact hR _ hS.pick
    · have d1 : decide (i < 0) = false := decide_eq_false h0
      have d2 : decide (n ≤ i) = true := decide_eq_true (by omega)
      clear hin
      go_enter Tryz.func110, Tryz.ntmps110
      go_wp2_with (first | (go_at_call 109; refine rob_check hF4'.out hS ?_; clear hS; intro w hS; rw [hck'.out]; unfold Ret) | (refine wpList_is (.build _ _) rfl ?_; go_must (refine wpList_stp (by kernel_rfl) (stp_val (run_bd _ _ rfl) ?_))) | (refine wpList_is (.load _ _) rfl ?_; go_must (first | refine wpList_stp (by kernel_rfl) (stp_val (run_ld _ _ rfl hS) ?_) | refine wpList_stp (by kernel_rfl) (stp_val (run_lda _ _ rfl hS) ?_))) | (refine wpList_is (.store _ _ _) rfl ?_; go_must ((refine wpList_stp (by kernel_rfl) (stp_sta _ _ _ rfl hS ?_))); clear hS; intro w hS) | (refine wpList_is (.alloc _) rfl ?_; go_must (refine wpList_stp (by kernel_rfl) (stp_al _ rfl hS ?_)); clear hS; intro bN w hbN hS) | (refine wpList_is (.box _ _) rfl ?_; go_must (refine wpList_stp (by kernel_rfl) (stp_bx _ _ rfl hS ?_)); clear hS; intro bN w hbN hS))
      refine bodyPost_ret (res_ct rfl hS) rfl ?_
      exact hR _ hS.pick
  | true =>
    rw [hi] at hR
    simp only [if_true] at hR
    obtain ⟨k, rfl, hk4, hkn⟩ := inF_yes hW hi
    simp only at hkn
    have hkl : k < F.length := by rw [hF4]; exact hk4
    obtain ⟨x, hx⟩ : ∃ x, F.getD k (0, 0) = x := ⟨_, rfl⟩
    have hx2 : F[k]? = some x := by rw [← hx, List.getD_eq_getElem?_getD, List.getElem?_eq_getElem hkl]; rfl
    have c1 := objFd (n := n) (h := h) hx2
    have hix : ∀ b : Nat, IdxV Tryz.prog 37 (.pointer (some ⟨b, 0 + 1, none⟩)) k ⟨b, 1 + k * 2, none⟩ := fun b => by
      have := idxArr (P := Tryz.prog) (t := 37) (m := 4) (z := 2) (e := 25) (b := b) (off := 0 + 1) (by kernel_rfl) (by kernel_rfl) hk4
      simpa using this
    simp only [Int.toNat_natCast, hx] at hR
    have d1 : decide ((k : Int) < 0) = false := decide_eq_false (by omega)
    have d2 : decide (n ≤ (k : Int)) = false := decide_eq_false (by omega)
    clear hi hck hF4 hx hx2 hkl
    go_enter Tryz.func110, Tryz.ntmps110
    go_wp2_with (first | (go_at_call 109; refine rob_check hF4'.out hS ?_; clear hS; intro w hS; rw [hck'.out]; unfold Ret) | (refine wpList_is (.indexAddr _ _ _) rfl ?_; refine wpList_stp (by kernel_rfl) (stp_val (run_idxv _ _ _ rfl) ?_)) | (refine wpList_is (.load _ _) rfl ?_; go_must (first | refine wpList_stp (by kernel_rfl) (stp_val (run_ld _ _ rfl hS) ?_) | refine wpList_stp (by kernel_rfl) (stp_val (run_lda _ _ rfl hS) ?_))) | (refine wpList_is (.store _ _ _) rfl ?_; go_must ((refine wpList_stp (by kernel_rfl) (stp_sta _ _ _ rfl hS ?_))); clear hS; intro w hS) | (refine wpList_is (.alloc _) rfl ?_; go_must (refine wpList_stp (by kernel_rfl) (stp_al _ rfl hS ?_)); clear hS; intro bN w hbN hS) | (refine wpList_is (.box _ _) rfl ?_; go_must (refine wpList_stp (by kernel_rfl) (stp_bx _ _ rfl hS ?_)); clear hS; intro bN w hbN hS))
    refine bodyPost_ret (res_ct rfl hS) rfl ?_
    exact hR _ hS.pick
end Go.Proofs.YtjlihigodggfcaaGreat
