/-
  estraylaw23.picked.
-/
import Derived.Test.YtgpjanfphgjbbaaGrp
import Derived.Test.YtgpjanfphgjbbaaApn
set_option linter.unusedSimpArgs false
set_option linter.unusedVariables false
namespace Go.Proofs.Ytgpjanfphgjbbaa
open Go Go.RowKit Go.Mm
variable {R : Ending → World → Prop} {w : World} {w0 : World} {bs : List Nat} {H H1 Ev Eb : List Ent}
/-- Objects by numbers. -/
def pkL (m : Nat) (l : List Nat) : List (Int × Int) := l.map (fun x : Nat => (((x % m : Nat) : Int), (1 : Int)))
theorem pkL_len (m : Nat) (l : List Nat) : (pkL m l).length = l.length := by simp [pkL]
theorem pkL_snoc {m k : Nat} {l : List Nat} (hk : k < l.length) {x q : Nat} (hx : l.getD k 0 = x) (hq : x % m = q) : pkL m (l.take (k + 1)) = pkL m (l.take k) ++ [((q : Int), 1)] := by
  have e : l[k] = x := by rw [← hx, List.getD_eq_getElem?_getD, List.getElem?_eq_getElem hk]; rfl
  rw [List.take_succ_eq_append_getElem hk, pkL, List.map_append, e, ← hq]; rfl
theorem pkL_get {m k : Nat} {l : List Nat} (hk : k < l.length) : ∃ q : Nat, (pkL m l).getD k (0, 0) = ((q : Int), 1) ∧ (0 < m → q < m) ∧ q = l.getD k 0 % m := by
  refine ⟨l.getD k 0 % m, ?_, fun h => Nat.mod_lt _ h, rfl⟩
  simp [pkL, hk]
set_option maxHeartbeats 2000000 in
set_option maxRecDepth 100000 in
theorem picked_arg {m : Nat} {va vb : Value} {lb : List Nat} {W : World} {n b off : Nat} {F : Nat → Nat → Value} (hv : Flat W [.i .u8] vb n b off F) (hb : FB n F lb) (hO : St W [] w (Ev ++ H1)) (hA : RS va (nmS m) Ev) (hm : 1 ≤ m ∧ m ≤ 40)
    (hR : ∀ v' E' w', RS v' (pkL m (lb.take 10)) E' → St W [] w' (E' ++ (Ev ++ H1)) → Ret R v' w') : Calls Try.prog 18 #[va, vb] w R := by
  have hS := hO
  clear hO
  have hone := hA.one
  have hlen := hA.len (nmS_len m)
  have hn := hb.1
  have hlenb := hv.len (t := 64) Try.underlying64
  obtain ⟨N, hN⟩ : ∃ N, min n 10 = N := ⟨_, rfl⟩
  have hmin : MinIs (n : Int) 10 (N : Nat) := ⟨by split <;> omega⟩
  obtain ⟨v2, hpre, hv2⟩ := hv.pre (t := 64) (e := 5) Try.underlying64 (by kernel_rfl) (m := N) (by omega)
  have hlen2 := hv2.len (t := 64) Try.underlying64
  have hne : decide ((m : Int) = 0) = false := decide_eq_false (by omega)
  have hne2 : decide (m = 0) = false := decide_eq_false (by omega)
  have e10 : lb.take 10 = lb.take N := by
    by_cases h : n ≤ 10
    · rw [List.take_of_length_le (by omega), List.take_of_length_le (by omega)]
    · rw [show N = 10 by omega]
  rw [e10] at hR
  have hN10 : N ≤ 10 := by omega
  have hn' := Lib.hid hn
  have hN' := Lib.hid hN
  clear e10 hn hN
  go_enter Try.func18, Try.ntmps18
  go_wp2_with (first | go_skip | (refine wpList_is (.call { callee := .builtin .min, args := #[_, _], argTypes := #[_, _] }) rfl ?_; refine wpList_stp (by kernel_rfl) (stp_val (run_minv _ _ rfl) ?_)) | go_skip | (refine wpList_is (.call { callee := .builtin .len, args := #[_], argTypes := #[_] }) rfl ?_; refine wpList_stp (by kernel_rfl) (stp_val (run_lenv _ _ rfl) ?_)) | (refine wpList_is (.slice _ _ none (some _) none) rfl ?_; refine wpList_stp (by kernel_rfl) (stp_val (run_prev _ _ _ rfl) ?_)) | (refine wpList_is (.indexAddr _ _ _) rfl ?_; refine wpList_stp (by kernel_rfl) (stp_val (run_idxv _ _ _ rfl) ?_)) | go_skip | (refine wpList_is (.build _ _) rfl ?_; go_must (refine wpList_stp (by kernel_rfl) (stp_val (run_bd _ _ rfl) ?_))) | (refine wpList_is (.call { callee := .builtin .clear, args := #[_], argTypes := #[_] }) rfl ?_; go_must (refine wpList_stp (by kernel_rfl) (stp_cl _ _ rfl hS (by decide) ?_)); clear hS; intro w hS) | (refine wpList_is (.load _ _) rfl ?_; go_must (first | refine wpList_stp (by kernel_rfl) (stp_val (run_ld _ _ rfl hS) ?_) | refine wpList_stp (by kernel_rfl) (stp_val (run_lda _ _ rfl hS) ?_) | refine wpList_stp (by kernel_rfl) (stp_val (run_ld0 _ _ rfl hS) ?_) | refine wpList_stp (by kernel_rfl) (stp_val (run_lda0 _ _ rfl hS) ?_))) | (refine wpList_is (.store _ _ _) rfl ?_; go_must (first | refine wpList_stp (by kernel_rfl) (stp_st _ _ _ rfl hS ?_) | refine wpList_stp (by kernel_rfl) (stp_sta _ _ _ rfl hS ?_)); clear hS; intro w hS) | (refine wpList_is (.alloc _) rfl ?_; go_must (refine wpList_stp (by kernel_rfl) (stp_al _ rfl hS ?_)); clear hS; intro bN w hbN hS) | (refine wpList_is (.box _ _) rfl ?_; go_must (refine wpList_stp (by kernel_rfl) (stp_bx _ _ rfl hS ?_)); clear hS; intro bN w hbN hS) | (refine wpList_is (.binOp .eql _ _ (.const (.slice none _ _)) _) rfl ?_; refine wpList_stp (by kernel_rfl) (stp_val (run_nse _ _ _ rfl) ?_)) | (refine wpList_is (.binOp .neq _ _ (.const (.slice none _ _)) _) rfl ?_; refine wpList_stp (by kernel_rfl) (stp_val (run_nsn _ _ _ rfl) ?_)))
  have hS0 := hS
  clear hS
  go_loopw [5, 17] (fun x u wr => ∃ (k : Nat) (Eo : List Ent), k ≤ N ∧ u = .int .i64 k ∧ RS x (pkL m (lb.take k)) Eo ∧ St W [] wr (Eo ++ (Ev ++ H1))) (fun _ u _ => N - (intOf u).toNat)
  case atStart => exact ⟨0, [], Nat.zero_le _, rfl, RS.nil, hS0⟩
  case round =>
    clear hS0
    obtain ⟨k, Eo, hk, rfl, hRS, hS⟩ := hrel
    have hone0 := hRS.one
    by_cases hlt : k < N
    · have hkl : k < lb.length := by have := hN'.out; have := hn'.out; omega
      obtain ⟨x, hx⟩ : ∃ x, lb.getD k 0 = x := ⟨_, rfl⟩
      have ib := hv2.idx1 (t := 64) (i := k) rfl Try.underlying64 (by kernel_rfl) hlt
      have hcb := hv2.cell1 (i := k) rfl hlt
      have hf := hb.2 k (by have := hN'.out; omega)
      rw [hx] at hf
      rw [hf] at hcb
      have hx255 : x ≤ 255 := by
        obtain ⟨y, hy, wy⟩ := hv2.int (i := k) (j := 0) hlt rfl
        have := bounds_u8S wy
        rw [hf] at hy
        have e : (x : Int) = y := by injection hy
        omega
      clear hf
      obtain ⟨q, hq⟩ : ∃ q, x % m = q := ⟨_, rfl⟩
      have hqm : q < m := by rw [← hq]; exact Nat.mod_lt _ (by omega)
      have rq := rem_nat hq (by omega)
      have sx : Small (x : Int) := ⟨by omega, by omega⟩
      obtain ⟨gx, sp, ix, hh, hcx⟩ := hA.at (i := q) (by rw [nmS_len]; exact hqm) (nmS_get hqm)
      have ix := ix q rfl
      simp only at hcx
      have hsn := pkL_snoc (m := m) hkl hx hq
      have hl10 : (pkL m (lb.take k)).length ≤ 10 := by rw [pkL_len, List.length_take]; have := hN'.out; omega
      have hsl : Sl 24 2 u5 (pkL m (lb.take k)).length ((pkL m (lb.take k)).flatMap slf) Eo := hRS
      have hsn' := Lib.hid hsn
      have hkI : (k : Int) < N := by omega
      clear hsn hx hq
      go_wp2_with (first | go_skip | (refine wpList_is (.convert _ _ _) rfl ?_; refine wpList_stp (by kernel_rfl) (stp_val (run_cvn _ _ _ rfl) ?_)) | (refine wpList_is (.binOp .rem _ _ _ _) rfl ?_; refine wpList_stp (by kernel_rfl) (stp_val (run_remv _ _ _ _ rfl) ?_)) | (refine wpList_is (.buildSlice _ _ _) rfl ?_; go_must (refine wpList_stp (by kernel_rfl) (stp_bsl _ _ _ rfl hS (by decide) rfl (by decide) (by decide) ?_)); clear hS; intro bN w hbN hS) | (refine wpList_is (.call { callee := .builtin .append, args := #[_, _], argTypes := #[_, _] }) rfl ?_; go_must (refine wpList_stp (by kernel_rfl) (stp_ap _ _ _ _ rfl rfl hS (by rfl) hsl (by rfl) (by simp only [maxLen]; omega) (by omega) ?_)); clear hS; intro v' E' w hsl' hne hS; have hone := hsl'.one) | go_skip | (refine wpList_is (.call { callee := .builtin .len, args := #[_], argTypes := #[_] }) rfl ?_; refine wpList_stp (by kernel_rfl) (stp_val (run_lenv _ _ rfl) ?_)) | (refine wpList_is (.slice _ _ none (some _) none) rfl ?_; refine wpList_stp (by kernel_rfl) (stp_val (run_prev _ _ _ rfl) ?_)) | (refine wpList_is (.indexAddr _ _ _) rfl ?_; refine wpList_stp (by kernel_rfl) (stp_val (run_idxv _ _ _ rfl) ?_)) | go_skip | (refine wpList_is (.build _ _) rfl ?_; go_must (refine wpList_stp (by kernel_rfl) (stp_val (run_bd _ _ rfl) ?_))) | (refine wpList_is (.call { callee := .builtin .clear, args := #[_], argTypes := #[_] }) rfl ?_; go_must (refine wpList_stp (by kernel_rfl) (stp_cl _ _ rfl hS (by decide) ?_)); clear hS; intro w hS) | (refine wpList_is (.load _ _) rfl ?_; go_must (first | refine wpList_stp (by kernel_rfl) (stp_val (run_ld _ _ rfl hS) ?_) | refine wpList_stp (by kernel_rfl) (stp_val (run_lda _ _ rfl hS) ?_) | refine wpList_stp (by kernel_rfl) (stp_val (run_ld0 _ _ rfl hS) ?_) | refine wpList_stp (by kernel_rfl) (stp_val (run_lda0 _ _ rfl hS) ?_))) | (refine wpList_is (.store _ _ _) rfl ?_; go_must (first | refine wpList_stp (by kernel_rfl) (stp_st _ _ _ rfl hS ?_) | refine wpList_stp (by kernel_rfl) (stp_sta _ _ _ rfl hS ?_)); clear hS; intro w hS) | (refine wpList_is (.alloc _) rfl ?_; go_must (refine wpList_stp (by kernel_rfl) (stp_al _ rfl hS ?_)); clear hS; intro bN w hbN hS) | (refine wpList_is (.box _ _) rfl ?_; go_must (refine wpList_stp (by kernel_rfl) (stp_bx _ _ rfl hS ?_)); clear hS; intro bN w hbN hS) | (refine wpList_is (.binOp .eql _ _ (.const (.slice none _ _)) _) rfl ?_; refine wpList_stp (by kernel_rfl) (stp_val (run_nse _ _ _ rfl) ?_)) | (refine wpList_is (.binOp .neq _ _ (.const (.slice none _ _)) _) rfl ?_; refine wpList_stp (by kernel_rfl) (stp_val (run_nsn _ _ _ rfl) ?_)))
      go_roundw
      case rel =>
        refine ⟨k + 1, E', by omega, by go_num, ?_, hS.pick⟩
        rw [hsn'.out]
        exact RS.snoc hsl'
      case measure => simp [intOf]; omega
    · obtain rfl : k = N := by omega
      go_wp2_with (first | go_skip | go_skip | (refine wpList_is (.call { callee := .builtin .len, args := #[_], argTypes := #[_] }) rfl ?_; refine wpList_stp (by kernel_rfl) (stp_val (run_lenv _ _ rfl) ?_)) | (refine wpList_is (.slice _ _ none (some _) none) rfl ?_; refine wpList_stp (by kernel_rfl) (stp_val (run_prev _ _ _ rfl) ?_)) | (refine wpList_is (.indexAddr _ _ _) rfl ?_; refine wpList_stp (by kernel_rfl) (stp_val (run_idxv _ _ _ rfl) ?_)) | go_skip | (refine wpList_is (.build _ _) rfl ?_; go_must (refine wpList_stp (by kernel_rfl) (stp_val (run_bd _ _ rfl) ?_))) | (refine wpList_is (.call { callee := .builtin .clear, args := #[_], argTypes := #[_] }) rfl ?_; go_must (refine wpList_stp (by kernel_rfl) (stp_cl _ _ rfl hS (by decide) ?_)); clear hS; intro w hS) | (refine wpList_is (.load _ _) rfl ?_; go_must (first | refine wpList_stp (by kernel_rfl) (stp_val (run_ld _ _ rfl hS) ?_) | refine wpList_stp (by kernel_rfl) (stp_val (run_lda _ _ rfl hS) ?_) | refine wpList_stp (by kernel_rfl) (stp_val (run_ld0 _ _ rfl hS) ?_) | refine wpList_stp (by kernel_rfl) (stp_val (run_lda0 _ _ rfl hS) ?_))) | (refine wpList_is (.store _ _ _) rfl ?_; go_must (first | refine wpList_stp (by kernel_rfl) (stp_st _ _ _ rfl hS ?_) | refine wpList_stp (by kernel_rfl) (stp_sta _ _ _ rfl hS ?_)); clear hS; intro w hS) | (refine wpList_is (.alloc _) rfl ?_; go_must (refine wpList_stp (by kernel_rfl) (stp_al _ rfl hS ?_)); clear hS; intro bN w hbN hS) | (refine wpList_is (.box _ _) rfl ?_; go_must (refine wpList_stp (by kernel_rfl) (stp_bx _ _ rfl hS ?_)); clear hS; intro bN w hbN hS) | (refine wpList_is (.binOp .eql _ _ (.const (.slice none _ _)) _) rfl ?_; refine wpList_stp (by kernel_rfl) (stp_val (run_nse _ _ _ rfl) ?_)) | (refine wpList_is (.binOp .neq _ _ (.const (.slice none _ _)) _) rfl ?_; refine wpList_stp (by kernel_rfl) (stp_val (run_nsn _ _ _ rfl) ?_)))
      exact hR _ Eo _ hRS hS
set_option maxHeartbeats 2000000 in
set_option maxRecDepth 100000 in
theorem picked_own {m : Nat} {va vb : Value} {lb : List Nat} (hb : BY vb lb Eb) (hl : lb.length ≤ 1000) (hbb : ∀ x ∈ lb, x ≤ 255) (hO : St w0 bs w (Ev ++ (Eb ++ H1))) (hA : RS va (nmS m) Ev) (hm : 1 ≤ m ∧ m ≤ 40)
    (hR : ∀ v' E' w', RS v' (pkL m (lb.take 10)) E' → St w0 bs w' (E' ++ (Ev ++ (Eb ++ H1))) → Ret R v' w') : Calls Try.prog 18 #[va, vb] w R := by
  have hS := hO
  clear hO
  have hone := hA.one
  have hlen := hA.len (nmS_len m)
  obtain ⟨n, hn⟩ : ∃ n, lb.length = n := ⟨_, rfl⟩
  have hone1 := hb.one
  have hlenb := hb.len hn
  obtain ⟨N, hN⟩ : ∃ N, min n 10 = N := ⟨_, rfl⟩
  have hmin : MinIs (n : Int) 10 (N : Nat) := ⟨by split <;> omega⟩
  obtain ⟨v2, hpre, hb2⟩ := hb.pre (m := N) (by omega) hl
  have hone2 := hb2.one
  have hlk : (lb.take N).length = N := by rw [List.length_take]; omega
  have hlen2 := hb2.len hlk
  have hne : decide ((m : Int) = 0) = false := decide_eq_false (by omega)
  have hne2 : decide (m = 0) = false := decide_eq_false (by omega)
  have e10 : lb.take 10 = lb.take N := by
    by_cases h : n ≤ 10
    · rw [List.take_of_length_le (by omega), List.take_of_length_le (by omega)]
    · rw [show N = 10 by omega]
  rw [e10] at hR
  have hN10 : N ≤ 10 := by omega
  have hn' := Lib.hid hn
  have hN' := Lib.hid hN
  clear e10 hn hN
  go_enter Try.func18, Try.ntmps18
  go_wp2_with (first | go_skip | (refine wpList_is (.call { callee := .builtin .min, args := #[_, _], argTypes := #[_, _] }) rfl ?_; refine wpList_stp (by kernel_rfl) (stp_val (run_minv _ _ rfl) ?_)) | go_skip | (refine wpList_is (.call { callee := .builtin .len, args := #[_], argTypes := #[_] }) rfl ?_; refine wpList_stp (by kernel_rfl) (stp_val (run_lenv _ _ rfl) ?_)) | (refine wpList_is (.slice _ _ none (some _) none) rfl ?_; refine wpList_stp (by kernel_rfl) (stp_val (run_prev _ _ _ rfl) ?_)) | (refine wpList_is (.indexAddr _ _ _) rfl ?_; refine wpList_stp (by kernel_rfl) (stp_val (run_idxv _ _ _ rfl) ?_)) | go_skip | (refine wpList_is (.build _ _) rfl ?_; go_must (refine wpList_stp (by kernel_rfl) (stp_val (run_bd _ _ rfl) ?_))) | (refine wpList_is (.call { callee := .builtin .clear, args := #[_], argTypes := #[_] }) rfl ?_; go_must (refine wpList_stp (by kernel_rfl) (stp_cl _ _ rfl hS (by decide) ?_)); clear hS; intro w hS) | (refine wpList_is (.load _ _) rfl ?_; go_must (first | refine wpList_stp (by kernel_rfl) (stp_val (run_ld _ _ rfl hS) ?_) | refine wpList_stp (by kernel_rfl) (stp_val (run_lda _ _ rfl hS) ?_) | refine wpList_stp (by kernel_rfl) (stp_val (run_ld0 _ _ rfl hS) ?_) | refine wpList_stp (by kernel_rfl) (stp_val (run_lda0 _ _ rfl hS) ?_))) | (refine wpList_is (.store _ _ _) rfl ?_; go_must (first | refine wpList_stp (by kernel_rfl) (stp_st _ _ _ rfl hS ?_) | refine wpList_stp (by kernel_rfl) (stp_sta _ _ _ rfl hS ?_)); clear hS; intro w hS) | (refine wpList_is (.alloc _) rfl ?_; go_must (refine wpList_stp (by kernel_rfl) (stp_al _ rfl hS ?_)); clear hS; intro bN w hbN hS) | (refine wpList_is (.box _ _) rfl ?_; go_must (refine wpList_stp (by kernel_rfl) (stp_bx _ _ rfl hS ?_)); clear hS; intro bN w hbN hS) | (refine wpList_is (.binOp .eql _ _ (.const (.slice none _ _)) _) rfl ?_; refine wpList_stp (by kernel_rfl) (stp_val (run_nse _ _ _ rfl) ?_)) | (refine wpList_is (.binOp .neq _ _ (.const (.slice none _ _)) _) rfl ?_; refine wpList_stp (by kernel_rfl) (stp_val (run_nsn _ _ _ rfl) ?_)))
  have hS0 := hS
  clear hS
  go_loopw [5, 17] (fun x u wr => ∃ (k : Nat) (Eo : List Ent), k ≤ N ∧ u = .int .i64 k ∧ RS x (pkL m (lb.take k)) Eo ∧ St w0 bs wr (Eo ++ (Ev ++ (Eb ++ H1)))) (fun _ u _ => N - (intOf u).toNat)
  case atStart => exact ⟨0, [], Nat.zero_le _, rfl, RS.nil, hS0⟩
  case round =>
    clear hS0
    obtain ⟨k, Eo, hk, rfl, hRS, hS⟩ := hrel
    have hone0 := hRS.one
    by_cases hlt : k < N
    · have hkl : k < lb.length := by have := hN'.out; have := hn'.out; omega
      obtain ⟨x, hx⟩ : ∃ x, lb.getD k 0 = x := ⟨_, rfl⟩
      have hx2 : (lb.take N).getD k 0 = x := by rw [← hx, List.getD_eq_getElem?_getD, List.getD_eq_getElem?_getD, List.getElem?_take, if_pos hlt]
      obtain ⟨gb, sb, ib, hhb, hcb⟩ := hb2.at (i := k) (by rw [hlk]; exact hlt) hx2
      have ib := ib k rfl
      have hx255 : x ≤ 255 := by have := hbb x (by rw [← hx, List.getD_eq_getElem?_getD, List.getElem?_eq_getElem hkl]; exact List.getElem_mem hkl); exact this
      obtain ⟨q, hq⟩ : ∃ q, x % m = q := ⟨_, rfl⟩
      have hqm : q < m := by rw [← hq]; exact Nat.mod_lt _ (by omega)
      have rq := rem_nat hq (by omega)
      have sx : Small (x : Int) := ⟨by omega, by omega⟩
      obtain ⟨gx, sp, ix, hh, hcx⟩ := hA.at (i := q) (by rw [nmS_len]; exact hqm) (nmS_get hqm)
      have ix := ix q rfl
      simp only at hcx
      have hsn := pkL_snoc (m := m) hkl hx hq
      have hl10 : (pkL m (lb.take k)).length ≤ 10 := by rw [pkL_len, List.length_take]; have := hN'.out; omega
      have hsl : Sl 24 2 u5 (pkL m (lb.take k)).length ((pkL m (lb.take k)).flatMap slf) Eo := hRS
      have hsn' := Lib.hid hsn
      have hkI : (k : Int) < N := by omega
      clear hsn hx hq
      go_wp2_with (first | go_skip | (refine wpList_is (.convert _ _ _) rfl ?_; refine wpList_stp (by kernel_rfl) (stp_val (run_cvn _ _ _ rfl) ?_)) | (refine wpList_is (.binOp .rem _ _ _ _) rfl ?_; refine wpList_stp (by kernel_rfl) (stp_val (run_remv _ _ _ _ rfl) ?_)) | (refine wpList_is (.buildSlice _ _ _) rfl ?_; go_must (refine wpList_stp (by kernel_rfl) (stp_bsl _ _ _ rfl hS (by decide) rfl (by decide) (by decide) ?_)); clear hS; intro bN w hbN hS) | (refine wpList_is (.call { callee := .builtin .append, args := #[_, _], argTypes := #[_, _] }) rfl ?_; go_must (refine wpList_stp (by kernel_rfl) (stp_ap _ _ _ _ rfl rfl hS (by rfl) hsl (by rfl) (by simp only [maxLen]; omega) (by omega) ?_)); clear hS; intro v' E' w hsl' hne hS; have hone := hsl'.one) | go_skip | (refine wpList_is (.call { callee := .builtin .len, args := #[_], argTypes := #[_] }) rfl ?_; refine wpList_stp (by kernel_rfl) (stp_val (run_lenv _ _ rfl) ?_)) | (refine wpList_is (.slice _ _ none (some _) none) rfl ?_; refine wpList_stp (by kernel_rfl) (stp_val (run_prev _ _ _ rfl) ?_)) | (refine wpList_is (.indexAddr _ _ _) rfl ?_; refine wpList_stp (by kernel_rfl) (stp_val (run_idxv _ _ _ rfl) ?_)) | go_skip | (refine wpList_is (.build _ _) rfl ?_; go_must (refine wpList_stp (by kernel_rfl) (stp_val (run_bd _ _ rfl) ?_))) | (refine wpList_is (.call { callee := .builtin .clear, args := #[_], argTypes := #[_] }) rfl ?_; go_must (refine wpList_stp (by kernel_rfl) (stp_cl _ _ rfl hS (by decide) ?_)); clear hS; intro w hS) | (refine wpList_is (.load _ _) rfl ?_; go_must (first | refine wpList_stp (by kernel_rfl) (stp_val (run_ld _ _ rfl hS) ?_) | refine wpList_stp (by kernel_rfl) (stp_val (run_lda _ _ rfl hS) ?_) | refine wpList_stp (by kernel_rfl) (stp_val (run_ld0 _ _ rfl hS) ?_) | refine wpList_stp (by kernel_rfl) (stp_val (run_lda0 _ _ rfl hS) ?_))) | (refine wpList_is (.store _ _ _) rfl ?_; go_must (first | refine wpList_stp (by kernel_rfl) (stp_st _ _ _ rfl hS ?_) | refine wpList_stp (by kernel_rfl) (stp_sta _ _ _ rfl hS ?_)); clear hS; intro w hS) | (refine wpList_is (.alloc _) rfl ?_; go_must (refine wpList_stp (by kernel_rfl) (stp_al _ rfl hS ?_)); clear hS; intro bN w hbN hS) | (refine wpList_is (.box _ _) rfl ?_; go_must (refine wpList_stp (by kernel_rfl) (stp_bx _ _ rfl hS ?_)); clear hS; intro bN w hbN hS) | (refine wpList_is (.binOp .eql _ _ (.const (.slice none _ _)) _) rfl ?_; refine wpList_stp (by kernel_rfl) (stp_val (run_nse _ _ _ rfl) ?_)) | (refine wpList_is (.binOp .neq _ _ (.const (.slice none _ _)) _) rfl ?_; refine wpList_stp (by kernel_rfl) (stp_val (run_nsn _ _ _ rfl) ?_)))
      go_roundw
      case rel =>
        refine ⟨k + 1, E', by omega, by go_num, ?_, hS.pick⟩
        rw [hsn'.out]
        exact RS.snoc hsl'
      case measure => simp [intOf]; omega
    · obtain rfl : k = N := by omega
      go_wp2_with (first | go_skip | go_skip | (refine wpList_is (.call { callee := .builtin .len, args := #[_], argTypes := #[_] }) rfl ?_; refine wpList_stp (by kernel_rfl) (stp_val (run_lenv _ _ rfl) ?_)) | (refine wpList_is (.slice _ _ none (some _) none) rfl ?_; refine wpList_stp (by kernel_rfl) (stp_val (run_prev _ _ _ rfl) ?_)) | (refine wpList_is (.indexAddr _ _ _) rfl ?_; refine wpList_stp (by kernel_rfl) (stp_val (run_idxv _ _ _ rfl) ?_)) | go_skip | (refine wpList_is (.build _ _) rfl ?_; go_must (refine wpList_stp (by kernel_rfl) (stp_val (run_bd _ _ rfl) ?_))) | (refine wpList_is (.call { callee := .builtin .clear, args := #[_], argTypes := #[_] }) rfl ?_; go_must (refine wpList_stp (by kernel_rfl) (stp_cl _ _ rfl hS (by decide) ?_)); clear hS; intro w hS) | (refine wpList_is (.load _ _) rfl ?_; go_must (first | refine wpList_stp (by kernel_rfl) (stp_val (run_ld _ _ rfl hS) ?_) | refine wpList_stp (by kernel_rfl) (stp_val (run_lda _ _ rfl hS) ?_) | refine wpList_stp (by kernel_rfl) (stp_val (run_ld0 _ _ rfl hS) ?_) | refine wpList_stp (by kernel_rfl) (stp_val (run_lda0 _ _ rfl hS) ?_))) | (refine wpList_is (.store _ _ _) rfl ?_; go_must (first | refine wpList_stp (by kernel_rfl) (stp_st _ _ _ rfl hS ?_) | refine wpList_stp (by kernel_rfl) (stp_sta _ _ _ rfl hS ?_)); clear hS; intro w hS) | (refine wpList_is (.alloc _) rfl ?_; go_must (refine wpList_stp (by kernel_rfl) (stp_al _ rfl hS ?_)); clear hS; intro bN w hbN hS) | (refine wpList_is (.box _ _) rfl ?_; go_must (refine wpList_stp (by kernel_rfl) (stp_bx _ _ rfl hS ?_)); clear hS; intro bN w hbN hS) | (refine wpList_is (.binOp .eql _ _ (.const (.slice none _ _)) _) rfl ?_; refine wpList_stp (by kernel_rfl) (stp_val (run_nse _ _ _ rfl) ?_)) | (refine wpList_is (.binOp .neq _ _ (.const (.slice none _ _)) _) rfl ?_; refine wpList_stp (by kernel_rfl) (stp_val (run_nsn _ _ _ rfl) ?_)))
      exact hR _ Eo _ hRS hS
end Go.Proofs.Ytgpjanfphgjbbaa
