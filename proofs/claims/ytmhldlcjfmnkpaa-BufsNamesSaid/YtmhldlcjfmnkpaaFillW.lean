/-
  Pools of buffers: a pool behind turns.
-/
import Derived.Test.YtmhldlcjfmnkpaaFill
import Derived.Test.YtmhldlcjfmnkpaaReg
set_option linter.unusedSimpArgs false
set_option linter.unusedVariables false
namespace Go.Proofs.Ytmhldlcjfmnkpaa
open Go.RowKit Go.Mm
variable {R : Ending → World → Prop} {w : World} {w0 : World} {bs : List Nat} {H H' H1 E : List Ent}

instance s_u8 : ScalarT Try.prog 5 := ⟨by kernel_rfl, by kernel_rfl⟩
instance s_u16 : ScalarT Try.prog 22 := ⟨by kernel_rfl, by kernel_rfl⟩
theorem bounds_u16 {n : Int} (h : (Lit.int .u16 n).wf = true) : 0 ≤ n ∧ n ≤ 65535 := by
  simp [Lit.wf, IntKind.min, IntKind.max, IntKind.signed, IntKind.bits] at h
  omega
/-- What the turns are. -/
def gvB (F : Nat → Nat → Value) (k : Nat) : Bool := match F k 0 with
  | .bool x => x
  | _ => false
def whB (F : Nat → Nat → Value) (k : Nat) : Nat := match F k 1 with
  | .int _ n => n.toNat
  | _ => 0
theorem turnB_cells {W : World} {v : Value} {n b off : Nat} {F : Nat → Nat → Value} (hv : Flat W [.b, .i .u16] v n b off F) {k : Nat} (hk : k < n) : F k 0 = .bool (gvB F k) ∧ F k 1 = .int .u16 (whB F k : Nat) ∧ whB F k ≤ 65535 := by
  obtain ⟨x, hx⟩ := hv.bool (i := k) (j := 0) hk rfl
  obtain ⟨m, hm, hw⟩ := hv.int (i := k) (j := 1) hk rfl
  obtain ⟨d0, d1⟩ := bounds_u16 hw
  refine ⟨by unfold gvB; rw [hx], ?_, ?_⟩
  · unfold whB; rw [hm]
    simp only
    rw [Int.toNat_of_nonneg d0]
  · unfold whB; rw [hm]
    simp only
    omega

theorem outB_self (k i g : Int) : outB k i g k i g = true := by simp [outB]
theorem allL_64 {M : Int} {L : List Bf} (h : PlW M L) : (allL L).length ≤ 64 := by
  have h1 := stCnt_le 1 (tbB L) (tbB L).length
  have h2 := h.hi
  rw [tbB_len] at h1
  rw [allL_len]
  unfold tkP tkL
  rw [stL_len, tbB_len]
  omega
def moB (b : Int) : Int := 1 + b % 4000
def idB (a : Int) : Nat := (1 + a % 64).toNat
def L0B (a f : Int) : List Bf := List.replicate (idB a) (0, f, 0)
theorem idB_is {a : Int} (ha : 0 ≤ a) : 1 + a % 64 = (idB a : Int) ∧ 1 ≤ idB a ∧ idB a ≤ 64 := by unfold idB; omega
theorem L0B_i {a b f : Int} (ha : 0 ≤ a) (hb : 0 ≤ b) (hf : 1 ≤ f ∧ f ≤ 4294967295) : FlI (moB b) f (idB a) 0 (L0B a f) := FlI.start (by have := idB_is ha; omega) (by unfold moB; omega) hf
theorem nw_B {a b f : Int} (ha : 0 ≤ a) (hb : 0 ≤ b) (hf : 1 ≤ f ∧ f ≤ 4294967295) : nwB (1 + a % 64) (1 + b % 4000) f = some (some (moB b, L0B a f)) ∧ nwBE (1 + a % 64) (1 + b % 4000) f = 0 := by
  have e : nwOkB (1 + a % 64) (1 + b % 4000) f = true := by simp only [nwOkB, Bool.and_eq_true, decide_eq_true_eq]; omega
  unfold nwB nwBE
  rw [e]
  exact ⟨rfl, rfl⟩
theorem flL_pin {M : Int} {L0 : List Bf} {gv : Nat → Bool} {wh : Nat → Nat} {k : Nat} (h : gv k = true) : flL M L0 gv wh (k + 1) = piL M (flL M L0 gv wh k) ((wh k : Int) % 300) := by
  simp only [flL, tnL, h, if_true]; rfl
theorem flL_none {M : Int} {L0 : List Bf} {gv : Nat → Bool} {wh : Nat → Nat} {k : Nat} (h : gv k = false) (h0 : (allL (flL M L0 gv wh k)).length = 0) : flL M L0 gv wh (k + 1) = flL M L0 gv wh k := by
  simp only [flL, tnL, h, Bool.false_eq_true, if_false, if_pos h0]
theorem flL_up {M : Int} {L0 : List Bf} {gv : Nat → Bool} {wh : Nat → Nat} {k : Nat} (h : gv k = false) {m : Nat} (hm : (allL (flL M L0 gv wh k)).length = m) (h0 : 0 < m) {x : Ot} (hx : (allL (flL M L0 gv wh k)).getD (wh k % m) (0, 0, 0) = x) :
    flL M L0 gv wh (k + 1) = upL (flL M L0 gv wh k) x.1 x.2.1 x.2.2 := by
  subst hm hx
  simp only [flL, tnL, h, Bool.false_eq_true, if_false]
  rw [if_neg (by omega)]

set_option maxHeartbeats 1000000 in
set_option maxRecDepth 100000 in
theorem filled_ok {W : World} (hO : St W [] w H) (a b f : Int) (wa : (Lit.int .u8 a).wf = true) (wb : (Lit.int .u16 b).wf = true) (hf : 1 ≤ f ∧ f ≤ 1000) {v : Value} {n sb so : Nat} {F : Nat → Nat → Value} (hv : Flat W [.b, .i .u16] v n sb so F) (hn : n ≤ 1000)
    (hR : ∀ p E w', PA p (some (some (moB b, flL (moB b) (L0B a f) (gvB F) (whB F) n))) E → St W [] w' (E ++ H) → Ret R (.pointer p) w') :
    Calls Try.prog 18 #[.int .u8 a, .int .u16 b, .int .u32 f, v] w R := by
  have hS := hO
  clear hO
  have hlen := hv.len (t := 24) Try.underlying24
  obtain ⟨a0, a1⟩ := bounds_u8 wa
  obtain ⟨b0, b1⟩ := bounds_u16 wb
  obtain ⟨e1, e2⟩ := nw_B (f := f) a0 b0 (by omega)
  have hI0 := L0B_i (f := f) a0 b0 (by omega)
  have hmx' : (if 1 < f then f else 1) = f := by split <;> omega
  have q1 : max 1 f = f := by omega
  have e1' := Lib.hid e1
  have e2' := Lib.hid e2
  have hI0' := Lib.hid hI0
  clear e1 e2 hI0
  go_enter Try.func18, Try.ntmps18
  go_wp2_with (first | (go_at_call 11; refine pb_new hS (1 + a % 64) (1 + b % 4000) f (by omega) _ 0 e1'.out e2'.out ?_; clear hS; intro p E1 w hT hS; unfold Ret) | go_skip | (refine wpList_is (.call { callee := .builtin .len, args := #[_], argTypes := #[_] }) rfl ?_; refine wpList_stp (by kernel_rfl) (stp_val (run_lenv _ _ rfl) ?_)) | (refine wpList_is (.slice _ _ none (some _) none) rfl ?_; refine wpList_stp (by kernel_rfl) (stp_val (run_prev _ _ _ rfl) ?_)) | (refine wpList_is (.indexAddr _ _ _) rfl ?_; refine wpList_stp (by kernel_rfl) (stp_val (run_idxv _ _ _ rfl) ?_)) | go_skip | (refine wpList_is (.build _ _) rfl ?_; go_must (refine wpList_stp (by kernel_rfl) (stp_val (run_bd _ _ rfl) ?_))) | (refine wpList_is (.call { callee := .builtin .clear, args := #[_], argTypes := #[_] }) rfl ?_; go_must (refine wpList_stp (by kernel_rfl) (stp_cl _ _ rfl hS (by decide) ?_)); clear hS; intro w hS) | (refine wpList_is (.load _ _) rfl ?_; go_must (first | refine wpList_stp (by kernel_rfl) (stp_val (run_ld _ _ rfl hS) ?_) | refine wpList_stp (by kernel_rfl) (stp_val (run_lda _ _ rfl hS) ?_) | refine wpList_stp (by kernel_rfl) (stp_val (run_ld0 _ _ rfl hS) ?_) | refine wpList_stp (by kernel_rfl) (stp_val (run_lda0 _ _ rfl hS) ?_))) | (refine wpList_is (.store _ _ _) rfl ?_; go_must (first | refine wpList_stp (by kernel_rfl) (stp_st _ _ _ rfl hS ?_) | refine wpList_stp (by kernel_rfl) (stp_sta _ _ _ rfl hS ?_)); clear hS; intro w hS) | (refine wpList_is (.alloc _) rfl ?_; go_must (refine wpList_stp (by kernel_rfl) (stp_al _ rfl hS ?_)); clear hS; intro bN w hbN hS) | (refine wpList_is (.box _ _) rfl ?_; go_must (refine wpList_stp (by kernel_rfl) (stp_bx _ _ rfl hS ?_)); clear hS; intro bN w hbN hS) | (refine wpList_is (.binOp .eql _ _ (.const (.slice none _ _)) _) rfl ?_; refine wpList_stp (by kernel_rfl) (stp_val (run_nse _ _ _ rfl) ?_)) | (refine wpList_is (.binOp .neq _ _ (.const (.slice none _ _)) _) rfl ?_; refine wpList_stp (by kernel_rfl) (stp_val (run_nsn _ _ _ rfl) ?_)) | (refine region_quiet hS (by kernel_rfl) (by kernel_rfl) (fun hne => ?_); (repeat (first | go_big_quiet_skip | (go_big_quiet_want; first | (refine quiet_is (.load _ _) rfl ?_; go_must (first | refine quiet_at sw_st (fun w hS => run_ld _ _ rfl hS) ?_ | refine quiet_at sw_st (fun w hS => run_lda _ _ rfl hS) ?_ | refine quiet_at sw_st (fun w hS => run_ld0 _ _ rfl hS) ?_ | refine quiet_at sw_st (fun w hS => run_lda0 _ _ rfl hS) ?_); go_big_quiet_on) | (refine quiet_is (.binOp .eql _ _ (.const (.slice none _ _)) _) rfl ?_; refine quiet_val (fun w _ => run_nse _ _ _ rfl) ?_; go_big_quiet_on) | (refine quiet_is (.binOp .neq _ _ (.const (.slice none _ _)) _) rfl ?_; refine quiet_val (fun w _ => run_nsn _ _ _ rfl) ?_; go_big_quiet_on) | (refine quiet_is (.call { callee := .builtin .len, args := #[_], argTypes := #[_] }) rfl ?_; refine quiet_val (fun w _ => run_lenv _ _ rfl) ?_; go_big_quiet_on) | (refine quiet_is (.indexAddr _ _ _) rfl ?_; refine quiet_val (fun w _ => run_idxv _ _ _ rfl) ?_; go_big_quiet_on) | (refine quiet_is (.binOp .eql _ _ _ _) rfl ?_; refine quiet_val (fun w _ => run_aeq _ _ _ _ rfl) ?_; go_big_quiet_on) | (refine quiet_is (.binOp .neq _ _ _ _) rfl ?_; refine quiet_val (fun w _ => run_ane _ _ _ _ rfl) ?_; go_big_quiet_on) | (go_big_quiet_op; go_big_quiet_on)))); refine wpQuiet_nil ?_; clear hS hne; intro w hS))
  go_loopw [11, 12] (fun u _ wr => ∃ (k : Nat) (E1 : List Ent), k ≤ n ∧ u = .int .i64 k ∧ PA p (some (some (moB b, flL (moB b) (L0B a f) (gvB F) (whB F) k))) E1 ∧ St W [] wr (E1 ++ H)) (fun u _ _ => n - (intOf u).toNat)
  case atStart => exact ⟨0, E1, Nat.zero_le _, rfl, hT, hS.pick⟩
  case round =>
    clear hS hT e1' e2' q1 hmx'
    obtain ⟨k, E1, hk, rfl, hT, hS⟩ := hrel
    by_cases hlt : k < n
    · have hidx := hv.idxz (t := 24) (z := 2) (i := k) rfl Try.underlying24 (by kernel_rfl) hlt
      obtain ⟨c0, c1, w255⟩ := turnB_cells hv hlt
      have hc0 := hv.cellz (z := 2) rfl (i := k) (j := 0) hlt (by decide)
      have hc1 := hv.cellz (z := 2) rfl (i := k) (j := 1) hlt (by decide)
      rw [c0, Nat.add_zero] at hc0
      rw [c1] at hc1
      clear c0 c1
      obtain ⟨L, hL⟩ : ∃ L, flL (moB b) (L0B a f) (gvB F) (whB F) k = L := ⟨_, rfl⟩
      have hP := flL_pin (M := moB b) (L0 := L0B a f) (gv := gvB F) (wh := whB F) (k := k)
      have hN := flL_none (M := moB b) (L0 := L0B a f) (gv := gvB F) (wh := whB F) (k := k)
      have hU := flL_up (M := moB b) (L0 := L0B a f) (gv := gvB F) (wh := whB F) (k := k)
      rw [hL] at hP hN hU hT
      clear hL
      obtain ⟨L', hL'⟩ : ∃ L', flL (moB b) (L0B a f) (gvB F) (whB F) (k + 1) = L' := ⟨_, rfl⟩
      rw [hL'] at hP hN hU
      obtain ⟨l, hl⟩ : ∃ l, allL L = l := ⟨_, rfl⟩
      obtain ⟨m, hm⟩ : ∃ m, l.length = m := ⟨_, rfl⟩
      rw [hl] at hN hU
      rw [hm] at hN
      have h64 := allL_64 hT.1
      rw [hl, hm] at h64
      have hal' : Hid (allP (some (some (moB b, L))) = l) := Lib.hid hl
      have hm' := Lib.hid hm
      obtain ⟨wh, hwh⟩ : ∃ wh, whB F k = wh := ⟨_, rfl⟩
      rw [hwh] at hc1 w255 hP hU
      cases hg : gvB F k with
      | true =>
        rw [hg] at hc0
        have hT' : piT (some (some (moB b, L))) ((wh : Int) % 300) = some (some (moB b, L')) := by rw [piT_L, hP hg]
        obtain ⟨e, he⟩ : ∃ e, piE (some (some (moB b, L))) ((wh : Int) % 300) = e := ⟨_, rfl⟩
        obtain ⟨⟨r1, r2, r3⟩, hr⟩ : ∃ r, piR (some (some (moB b, L))) ((wh : Int) % 300) = r := ⟨_, rfl⟩
        have hT'' := Lib.hid hT'
        have he' := Lib.hid he
        have hr' := Lib.hid hr
        have hL2 := Lib.hid hL'
        clear hP hN hU hL' hl hm hwh hg hT' he hr
        go_wp2_with (first | (go_at_call 12; refine pb_pin hS hT ((wh : Int) % 300) _ e (r1, r2, r3) hT''.out he'.out hr'.out ?_; clear hS hT; intro E1 w hT hS; unfold Ret) | (go_at_call 17; go_must (refine pb_all hS hT ?_); clear hS; intro v2 E3 w hL hS; rw [hal'.out] at hL; have hone2 := hL.one; have hln2 := hL.len hm'.out; unfold Ret) | go_skip | (refine wpList_is (.call { callee := .builtin .len, args := #[_], argTypes := #[_] }) rfl ?_; refine wpList_stp (by kernel_rfl) (stp_val (run_lenv _ _ rfl) ?_)) | (refine wpList_is (.slice _ _ none (some _) none) rfl ?_; refine wpList_stp (by kernel_rfl) (stp_val (run_prev _ _ _ rfl) ?_)) | (refine wpList_is (.indexAddr _ _ _) rfl ?_; refine wpList_stp (by kernel_rfl) (stp_val (run_idxv _ _ _ rfl) ?_)) | go_skip | (refine wpList_is (.build _ _) rfl ?_; go_must (refine wpList_stp (by kernel_rfl) (stp_val (run_bd _ _ rfl) ?_))) | (refine wpList_is (.call { callee := .builtin .clear, args := #[_], argTypes := #[_] }) rfl ?_; go_must (refine wpList_stp (by kernel_rfl) (stp_cl _ _ rfl hS (by decide) ?_)); clear hS; intro w hS) | (refine wpList_is (.load _ _) rfl ?_; go_must (first | refine wpList_stp (by kernel_rfl) (stp_val (run_ld _ _ rfl hS) ?_) | refine wpList_stp (by kernel_rfl) (stp_val (run_lda _ _ rfl hS) ?_) | refine wpList_stp (by kernel_rfl) (stp_val (run_ld0 _ _ rfl hS) ?_) | refine wpList_stp (by kernel_rfl) (stp_val (run_lda0 _ _ rfl hS) ?_))) | (refine wpList_is (.store _ _ _) rfl ?_; go_must (first | refine wpList_stp (by kernel_rfl) (stp_st _ _ _ rfl hS ?_) | refine wpList_stp (by kernel_rfl) (stp_sta _ _ _ rfl hS ?_)); clear hS; intro w hS) | (refine wpList_is (.alloc _) rfl ?_; go_must (refine wpList_stp (by kernel_rfl) (stp_al _ rfl hS ?_)); clear hS; intro bN w hbN hS) | (refine wpList_is (.box _ _) rfl ?_; go_must (refine wpList_stp (by kernel_rfl) (stp_bx _ _ rfl hS ?_)); clear hS; intro bN w hbN hS) | (refine wpList_is (.binOp .eql _ _ (.const (.slice none _ _)) _) rfl ?_; refine wpList_stp (by kernel_rfl) (stp_val (run_nse _ _ _ rfl) ?_)) | (refine wpList_is (.binOp .neq _ _ (.const (.slice none _ _)) _) rfl ?_; refine wpList_stp (by kernel_rfl) (stp_val (run_nsn _ _ _ rfl) ?_)) | (refine region_quiet hS (by kernel_rfl) (by kernel_rfl) (fun hne => ?_); (repeat (first | go_big_quiet_skip | (go_big_quiet_want; first | (refine quiet_is (.load _ _) rfl ?_; go_must (first | refine quiet_at sw_st (fun w hS => run_ld _ _ rfl hS) ?_ | refine quiet_at sw_st (fun w hS => run_lda _ _ rfl hS) ?_ | refine quiet_at sw_st (fun w hS => run_ld0 _ _ rfl hS) ?_ | refine quiet_at sw_st (fun w hS => run_lda0 _ _ rfl hS) ?_); go_big_quiet_on) | (refine quiet_is (.binOp .eql _ _ (.const (.slice none _ _)) _) rfl ?_; refine quiet_val (fun w _ => run_nse _ _ _ rfl) ?_; go_big_quiet_on) | (refine quiet_is (.binOp .neq _ _ (.const (.slice none _ _)) _) rfl ?_; refine quiet_val (fun w _ => run_nsn _ _ _ rfl) ?_; go_big_quiet_on) | (refine quiet_is (.call { callee := .builtin .len, args := #[_], argTypes := #[_] }) rfl ?_; refine quiet_val (fun w _ => run_lenv _ _ rfl) ?_; go_big_quiet_on) | (refine quiet_is (.indexAddr _ _ _) rfl ?_; refine quiet_val (fun w _ => run_idxv _ _ _ rfl) ?_; go_big_quiet_on) | (refine quiet_is (.binOp .eql _ _ _ _) rfl ?_; refine quiet_val (fun w _ => run_aeq _ _ _ _ rfl) ?_; go_big_quiet_on) | (refine quiet_is (.binOp .neq _ _ _ _) rfl ?_; refine quiet_val (fun w _ => run_ane _ _ _ _ rfl) ?_; go_big_quiet_on) | (go_big_quiet_op; go_big_quiet_on)))); refine wpQuiet_nil ?_; clear hS hne; intro w hS))
        go_roundw
        case rel => exact ⟨k + 1, E1, by omega, by go_num, by rw [hL2.out]; exact hT, hS.pick⟩
        case measure => simp [intOf]; omega
      | false =>
        rw [hg] at hc0
        by_cases h0 : m = 0
        · subst h0
          have hLL : L' = L := hN hg rfl
          have hLL' := Lib.hid hLL
          have hL2 := Lib.hid hL'
          clear hP hN hU hL' hl hm hwh hg hLL
          go_wp2_with (first | (go_at_call 17; go_must (refine pb_all hS hT ?_); clear hS; intro v2 E3 w hL hS; rw [hal'.out] at hL; have hone2 := hL.one; have hln2 := hL.len hm'.out; unfold Ret) | go_skip | (refine wpList_is (.call { callee := .builtin .len, args := #[_], argTypes := #[_] }) rfl ?_; refine wpList_stp (by kernel_rfl) (stp_val (run_lenv _ _ rfl) ?_)) | (refine wpList_is (.slice _ _ none (some _) none) rfl ?_; refine wpList_stp (by kernel_rfl) (stp_val (run_prev _ _ _ rfl) ?_)) | (refine wpList_is (.indexAddr _ _ _) rfl ?_; refine wpList_stp (by kernel_rfl) (stp_val (run_idxv _ _ _ rfl) ?_)) | go_skip | (refine wpList_is (.build _ _) rfl ?_; go_must (refine wpList_stp (by kernel_rfl) (stp_val (run_bd _ _ rfl) ?_))) | (refine wpList_is (.call { callee := .builtin .clear, args := #[_], argTypes := #[_] }) rfl ?_; go_must (refine wpList_stp (by kernel_rfl) (stp_cl _ _ rfl hS (by decide) ?_)); clear hS; intro w hS) | (refine wpList_is (.load _ _) rfl ?_; go_must (first | refine wpList_stp (by kernel_rfl) (stp_val (run_ld _ _ rfl hS) ?_) | refine wpList_stp (by kernel_rfl) (stp_val (run_lda _ _ rfl hS) ?_) | refine wpList_stp (by kernel_rfl) (stp_val (run_ld0 _ _ rfl hS) ?_) | refine wpList_stp (by kernel_rfl) (stp_val (run_lda0 _ _ rfl hS) ?_))) | (refine wpList_is (.store _ _ _) rfl ?_; go_must (first | refine wpList_stp (by kernel_rfl) (stp_st _ _ _ rfl hS ?_) | refine wpList_stp (by kernel_rfl) (stp_sta _ _ _ rfl hS ?_)); clear hS; intro w hS) | (refine wpList_is (.alloc _) rfl ?_; go_must (refine wpList_stp (by kernel_rfl) (stp_al _ rfl hS ?_)); clear hS; intro bN w hbN hS) | (refine wpList_is (.box _ _) rfl ?_; go_must (refine wpList_stp (by kernel_rfl) (stp_bx _ _ rfl hS ?_)); clear hS; intro bN w hbN hS) | (refine wpList_is (.binOp .eql _ _ (.const (.slice none _ _)) _) rfl ?_; refine wpList_stp (by kernel_rfl) (stp_val (run_nse _ _ _ rfl) ?_)) | (refine wpList_is (.binOp .neq _ _ (.const (.slice none _ _)) _) rfl ?_; refine wpList_stp (by kernel_rfl) (stp_val (run_nsn _ _ _ rfl) ?_)) | (refine region_quiet hS (by kernel_rfl) (by kernel_rfl) (fun hne => ?_); (repeat (first | go_big_quiet_skip | (go_big_quiet_want; first | (refine quiet_is (.load _ _) rfl ?_; go_must (first | refine quiet_at sw_st (fun w hS => run_ld _ _ rfl hS) ?_ | refine quiet_at sw_st (fun w hS => run_lda _ _ rfl hS) ?_ | refine quiet_at sw_st (fun w hS => run_ld0 _ _ rfl hS) ?_ | refine quiet_at sw_st (fun w hS => run_lda0 _ _ rfl hS) ?_); go_big_quiet_on) | (refine quiet_is (.binOp .eql _ _ (.const (.slice none _ _)) _) rfl ?_; refine quiet_val (fun w _ => run_nse _ _ _ rfl) ?_; go_big_quiet_on) | (refine quiet_is (.binOp .neq _ _ (.const (.slice none _ _)) _) rfl ?_; refine quiet_val (fun w _ => run_nsn _ _ _ rfl) ?_; go_big_quiet_on) | (refine quiet_is (.call { callee := .builtin .len, args := #[_], argTypes := #[_] }) rfl ?_; refine quiet_val (fun w _ => run_lenv _ _ rfl) ?_; go_big_quiet_on) | (refine quiet_is (.indexAddr _ _ _) rfl ?_; refine quiet_val (fun w _ => run_idxv _ _ _ rfl) ?_; go_big_quiet_on) | (refine quiet_is (.binOp .eql _ _ _ _) rfl ?_; refine quiet_val (fun w _ => run_aeq _ _ _ _ rfl) ?_; go_big_quiet_on) | (refine quiet_is (.binOp .neq _ _ _ _) rfl ?_; refine quiet_val (fun w _ => run_ane _ _ _ _ rfl) ?_; go_big_quiet_on) | (go_big_quiet_op; go_big_quiet_on)))); refine wpQuiet_nil ?_; clear hS hne; intro w hS))
          go_roundw
          case rel => exact ⟨k + 1, E1, by omega, by go_num, by rw [hL2.out, hLL'.out]; exact hT, hS.pick⟩
          case measure => simp [intOf]; omega
        · have hpos : 0 < m := by omega
          obtain ⟨⟨x1, x2, x3⟩, hx⟩ : ∃ x, l.getD (wh % m) (0, 0, 0) = x := ⟨_, rfl⟩
          have hLL := hU hg hm hpos hx
          have hT' : upT (some (some (moB b, L))) x1 x2 x3 = some (some (moB b, L')) := by rw [upT_L, hLL]
          obtain ⟨e, he⟩ : ∃ e, fdE (some (some (moB b, L))) x1 x2 x3 = e := ⟨_, rfl⟩
          have hT'' := Lib.hid hT'
          have he' := Lib.hid he
          have hx' := Lib.hid hx
          have hL2 := Lib.hid hL'
          have hposI : 0 < (m : Int) := by omega
          have hmod : wh % m < m := Nat.mod_lt _ hpos
          clear hP hN hU hL' hl hm hwh hg hT' he hx hLL h0
          go_wp2_with (first | (go_at_call 17; go_must (refine pb_all hS hT ?_); clear hS; intro v2 E3 w hL hS; rw [hal'.out] at hL; have hone2 := hL.one; have hln2 := hL.len hm'.out; obtain ⟨g2, sp2, hi2, hh2, hc2⟩ := hL.at (i := wh % m) (by rw [hm'.out]; exact hmod) hx'.out; have hi3 := hi2 ((wh : Int) % m) (by omega); clear hi2; simp only at hc2; unfold Ret) | (go_at_call 13; refine pb_unpin hS hT x1 x2 x3 _ e hT''.out he'.out ?_; clear hS hT; intro E1 w hT hS; unfold Ret) | go_skip | (refine wpList_is (.call { callee := .builtin .len, args := #[_], argTypes := #[_] }) rfl ?_; refine wpList_stp (by kernel_rfl) (stp_val (run_lenv _ _ rfl) ?_)) | (refine wpList_is (.slice _ _ none (some _) none) rfl ?_; refine wpList_stp (by kernel_rfl) (stp_val (run_prev _ _ _ rfl) ?_)) | (refine wpList_is (.indexAddr _ _ _) rfl ?_; refine wpList_stp (by kernel_rfl) (stp_val (run_idxv _ _ _ rfl) ?_)) | go_skip | (refine wpList_is (.build _ _) rfl ?_; go_must (refine wpList_stp (by kernel_rfl) (stp_val (run_bd _ _ rfl) ?_))) | (refine wpList_is (.call { callee := .builtin .clear, args := #[_], argTypes := #[_] }) rfl ?_; go_must (refine wpList_stp (by kernel_rfl) (stp_cl _ _ rfl hS (by decide) ?_)); clear hS; intro w hS) | (refine wpList_is (.load _ _) rfl ?_; go_must (first | refine wpList_stp (by kernel_rfl) (stp_val (run_ld _ _ rfl hS) ?_) | refine wpList_stp (by kernel_rfl) (stp_val (run_lda _ _ rfl hS) ?_) | refine wpList_stp (by kernel_rfl) (stp_val (run_ld0 _ _ rfl hS) ?_) | refine wpList_stp (by kernel_rfl) (stp_val (run_lda0 _ _ rfl hS) ?_))) | (refine wpList_is (.store _ _ _) rfl ?_; go_must (first | refine wpList_stp (by kernel_rfl) (stp_st _ _ _ rfl hS ?_) | refine wpList_stp (by kernel_rfl) (stp_sta _ _ _ rfl hS ?_)); clear hS; intro w hS) | (refine wpList_is (.alloc _) rfl ?_; go_must (refine wpList_stp (by kernel_rfl) (stp_al _ rfl hS ?_)); clear hS; intro bN w hbN hS) | (refine wpList_is (.box _ _) rfl ?_; go_must (refine wpList_stp (by kernel_rfl) (stp_bx _ _ rfl hS ?_)); clear hS; intro bN w hbN hS) | (refine wpList_is (.binOp .eql _ _ (.const (.slice none _ _)) _) rfl ?_; refine wpList_stp (by kernel_rfl) (stp_val (run_nse _ _ _ rfl) ?_)) | (refine wpList_is (.binOp .neq _ _ (.const (.slice none _ _)) _) rfl ?_; refine wpList_stp (by kernel_rfl) (stp_val (run_nsn _ _ _ rfl) ?_)) | (refine region_quiet hS (by kernel_rfl) (by kernel_rfl) (fun hne => ?_); (repeat (first | go_big_quiet_skip | (go_big_quiet_want; first | (refine quiet_is (.load _ _) rfl ?_; go_must (first | refine quiet_at sw_st (fun w hS => run_ld _ _ rfl hS) ?_ | refine quiet_at sw_st (fun w hS => run_lda _ _ rfl hS) ?_ | refine quiet_at sw_st (fun w hS => run_ld0 _ _ rfl hS) ?_ | refine quiet_at sw_st (fun w hS => run_lda0 _ _ rfl hS) ?_); go_big_quiet_on) | (refine quiet_is (.binOp .eql _ _ (.const (.slice none _ _)) _) rfl ?_; refine quiet_val (fun w _ => run_nse _ _ _ rfl) ?_; go_big_quiet_on) | (refine quiet_is (.binOp .neq _ _ (.const (.slice none _ _)) _) rfl ?_; refine quiet_val (fun w _ => run_nsn _ _ _ rfl) ?_; go_big_quiet_on) | (refine quiet_is (.call { callee := .builtin .len, args := #[_], argTypes := #[_] }) rfl ?_; refine quiet_val (fun w _ => run_lenv _ _ rfl) ?_; go_big_quiet_on) | (refine quiet_is (.indexAddr _ _ _) rfl ?_; refine quiet_val (fun w _ => run_idxv _ _ _ rfl) ?_; go_big_quiet_on) | (refine quiet_is (.binOp .eql _ _ _ _) rfl ?_; refine quiet_val (fun w _ => run_aeq _ _ _ _ rfl) ?_; go_big_quiet_on) | (refine quiet_is (.binOp .neq _ _ _ _) rfl ?_; refine quiet_val (fun w _ => run_ane _ _ _ _ rfl) ?_; go_big_quiet_on) | (go_big_quiet_op; go_big_quiet_on)))); refine wpQuiet_nil ?_; clear hS hne; intro w hS))
          go_roundw
          case rel => exact ⟨k + 1, E1, by omega, by go_num, by rw [hL2.out]; exact hT, hS.pick⟩
          case measure => simp [intOf]; omega
    · obtain rfl : k = n := by omega
      go_wp2_with (first | go_skip | (refine wpList_is (.call { callee := .builtin .len, args := #[_], argTypes := #[_] }) rfl ?_; refine wpList_stp (by kernel_rfl) (stp_val (run_lenv _ _ rfl) ?_)) | (refine wpList_is (.slice _ _ none (some _) none) rfl ?_; refine wpList_stp (by kernel_rfl) (stp_val (run_prev _ _ _ rfl) ?_)) | (refine wpList_is (.indexAddr _ _ _) rfl ?_; refine wpList_stp (by kernel_rfl) (stp_val (run_idxv _ _ _ rfl) ?_)) | go_skip | (refine wpList_is (.build _ _) rfl ?_; go_must (refine wpList_stp (by kernel_rfl) (stp_val (run_bd _ _ rfl) ?_))) | (refine wpList_is (.call { callee := .builtin .clear, args := #[_], argTypes := #[_] }) rfl ?_; go_must (refine wpList_stp (by kernel_rfl) (stp_cl _ _ rfl hS (by decide) ?_)); clear hS; intro w hS) | (refine wpList_is (.load _ _) rfl ?_; go_must (first | refine wpList_stp (by kernel_rfl) (stp_val (run_ld _ _ rfl hS) ?_) | refine wpList_stp (by kernel_rfl) (stp_val (run_lda _ _ rfl hS) ?_) | refine wpList_stp (by kernel_rfl) (stp_val (run_ld0 _ _ rfl hS) ?_) | refine wpList_stp (by kernel_rfl) (stp_val (run_lda0 _ _ rfl hS) ?_))) | (refine wpList_is (.store _ _ _) rfl ?_; go_must (first | refine wpList_stp (by kernel_rfl) (stp_st _ _ _ rfl hS ?_) | refine wpList_stp (by kernel_rfl) (stp_sta _ _ _ rfl hS ?_)); clear hS; intro w hS) | (refine wpList_is (.alloc _) rfl ?_; go_must (refine wpList_stp (by kernel_rfl) (stp_al _ rfl hS ?_)); clear hS; intro bN w hbN hS) | (refine wpList_is (.box _ _) rfl ?_; go_must (refine wpList_stp (by kernel_rfl) (stp_bx _ _ rfl hS ?_)); clear hS; intro bN w hbN hS) | (refine wpList_is (.binOp .eql _ _ (.const (.slice none _ _)) _) rfl ?_; refine wpList_stp (by kernel_rfl) (stp_val (run_nse _ _ _ rfl) ?_)) | (refine wpList_is (.binOp .neq _ _ (.const (.slice none _ _)) _) rfl ?_; refine wpList_stp (by kernel_rfl) (stp_val (run_nsn _ _ _ rfl) ?_)) | (refine region_quiet hS (by kernel_rfl) (by kernel_rfl) (fun hne => ?_); (repeat (first | go_big_quiet_skip | (go_big_quiet_want; first | (refine quiet_is (.load _ _) rfl ?_; go_must (first | refine quiet_at sw_st (fun w hS => run_ld _ _ rfl hS) ?_ | refine quiet_at sw_st (fun w hS => run_lda _ _ rfl hS) ?_ | refine quiet_at sw_st (fun w hS => run_ld0 _ _ rfl hS) ?_ | refine quiet_at sw_st (fun w hS => run_lda0 _ _ rfl hS) ?_); go_big_quiet_on) | (refine quiet_is (.binOp .eql _ _ (.const (.slice none _ _)) _) rfl ?_; refine quiet_val (fun w _ => run_nse _ _ _ rfl) ?_; go_big_quiet_on) | (refine quiet_is (.binOp .neq _ _ (.const (.slice none _ _)) _) rfl ?_; refine quiet_val (fun w _ => run_nsn _ _ _ rfl) ?_; go_big_quiet_on) | (refine quiet_is (.call { callee := .builtin .len, args := #[_], argTypes := #[_] }) rfl ?_; refine quiet_val (fun w _ => run_lenv _ _ rfl) ?_; go_big_quiet_on) | (refine quiet_is (.indexAddr _ _ _) rfl ?_; refine quiet_val (fun w _ => run_idxv _ _ _ rfl) ?_; go_big_quiet_on) | (refine quiet_is (.binOp .eql _ _ _ _) rfl ?_; refine quiet_val (fun w _ => run_aeq _ _ _ _ rfl) ?_; go_big_quiet_on) | (refine quiet_is (.binOp .neq _ _ _ _) rfl ?_; refine quiet_val (fun w _ => run_ane _ _ _ _ rfl) ?_; go_big_quiet_on) | (go_big_quiet_op; go_big_quiet_on)))); refine wpQuiet_nil ?_; clear hS hne; intro w hS))
      exact hR _ _ _ hT hS
end Go.Proofs.Ytmhldlcjfmnkpaa
