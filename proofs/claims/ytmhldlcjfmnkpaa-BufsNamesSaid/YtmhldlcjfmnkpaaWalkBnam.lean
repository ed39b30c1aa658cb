/-
  The walk of BufsNames.
-/
import Derived.Test.YtmhldlcjfmnkpaaBnmW
set_option linter.unusedSimpArgs false
set_option linter.unusedVariables false
namespace Go.Proofs.Ytmhldlcjfmnkpaa
open Go Go.RowKit Go.Mm
variable {R : Ending → World → Prop}

set_option maxHeartbeats 4000000 in
set_option maxRecDepth 100000 in
theorem walk_bnam {W : World} (a : Int) (wa : (Lit.int .u8 a).wf = true) (b : Int) (wb : (Lit.int .u16 b).wf = true) (f : Int) (wf : (Lit.int .u32 f).wf = true) (v : Value) {n sb so : Nat} {F : Nat → Nat → Value} (hv : Flat W [.b, .i .u16] v n sb so F) (hR : ∀ w', Chg W w' [] → Ret R (.bool true) w') :
    Calls Try.prog 3 #[.int .u8 a, .int .u16 b, .int .u32 f, v] W R := by
  have hS : St W [] W [] := St.start0
  have hlen := hv.len (t := 24) Try.underlying24
  by_cases hn : 200 < n
  · have q : decide (200 < (n : Int)) = true := decide_eq_true (by omega)
    go_enter Try.func3, Try.ntmps3
    go_wp2_with (first | (go_at_call 10; refine works_ok hS ?_; clear hS; intro w hS; unfold Ret) | go_skip | (refine wpList_is (.call { callee := .builtin .len, args := #[_], argTypes := #[_] }) rfl ?_; refine wpList_stp (by kernel_rfl) (stp_val (run_lenv _ _ rfl) ?_)) | (refine wpList_is (.slice _ _ none (some _) none) rfl ?_; refine wpList_stp (by kernel_rfl) (stp_val (run_prev _ _ _ rfl) ?_)) | (refine wpList_is (.indexAddr _ _ _) rfl ?_; refine wpList_stp (by kernel_rfl) (stp_val (run_idxv _ _ _ rfl) ?_)) | go_skip | (refine wpList_is (.build _ _) rfl ?_; go_must (refine wpList_stp (by kernel_rfl) (stp_val (run_bd _ _ rfl) ?_))) | (refine wpList_is (.call { callee := .builtin .clear, args := #[_], argTypes := #[_] }) rfl ?_; go_must (refine wpList_stp (by kernel_rfl) (stp_cl _ _ rfl hS (by decide) ?_)); clear hS; intro w hS) | (refine wpList_is (.load _ _) rfl ?_; go_must (first | refine wpList_stp (by kernel_rfl) (stp_val (run_ld _ _ rfl hS) ?_) | refine wpList_stp (by kernel_rfl) (stp_val (run_lda _ _ rfl hS) ?_) | refine wpList_stp (by kernel_rfl) (stp_val (run_ld0 _ _ rfl hS) ?_) | refine wpList_stp (by kernel_rfl) (stp_val (run_lda0 _ _ rfl hS) ?_))) | (refine wpList_is (.store _ _ _) rfl ?_; go_must (first | refine wpList_stp (by kernel_rfl) (stp_st _ _ _ rfl hS ?_) | refine wpList_stp (by kernel_rfl) (stp_sta _ _ _ rfl hS ?_)); clear hS; intro w hS) | (refine wpList_is (.alloc _) rfl ?_; go_must (refine wpList_stp (by kernel_rfl) (stp_al _ rfl hS ?_)); clear hS; intro bN w hbN hS) | (refine wpList_is (.box _ _) rfl ?_; go_must (refine wpList_stp (by kernel_rfl) (stp_bx _ _ rfl hS ?_)); clear hS; intro bN w hbN hS) | (refine wpList_is (.binOp .eql _ _ (.const (.slice none _ _)) _) rfl ?_; refine wpList_stp (by kernel_rfl) (stp_val (run_nse _ _ _ rfl) ?_)) | (refine wpList_is (.binOp .neq _ _ (.const (.slice none _ _)) _) rfl ?_; refine wpList_stp (by kernel_rfl) (stp_val (run_nsn _ _ _ rfl) ?_)) | (refine region_quiet hS (by kernel_rfl) (by kernel_rfl) (fun hne => ?_); (repeat (first | go_big_quiet_skip | (go_big_quiet_want; first | (refine quiet_is (.load _ _) rfl ?_; go_must (first | refine quiet_at sw_st (fun w hS => run_ld _ _ rfl hS) ?_ | refine quiet_at sw_st (fun w hS => run_lda _ _ rfl hS) ?_ | refine quiet_at sw_st (fun w hS => run_ld0 _ _ rfl hS) ?_ | refine quiet_at sw_st (fun w hS => run_lda0 _ _ rfl hS) ?_); go_big_quiet_on) | (refine quiet_is (.binOp .eql _ _ (.const (.slice none _ _)) _) rfl ?_; refine quiet_val (fun w _ => run_nse _ _ _ rfl) ?_; go_big_quiet_on) | (refine quiet_is (.binOp .neq _ _ (.const (.slice none _ _)) _) rfl ?_; refine quiet_val (fun w _ => run_nsn _ _ _ rfl) ?_; go_big_quiet_on) | (refine quiet_is (.call { callee := .builtin .len, args := #[_], argTypes := #[_] }) rfl ?_; refine quiet_val (fun w _ => run_lenv _ _ rfl) ?_; go_big_quiet_on) | (refine quiet_is (.indexAddr _ _ _) rfl ?_; refine quiet_val (fun w _ => run_idxv _ _ _ rfl) ?_; go_big_quiet_on) | (refine quiet_is (.binOp .eql _ _ _ _) rfl ?_; refine quiet_val (fun w _ => run_aeq _ _ _ _ rfl) ?_; go_big_quiet_on) | (refine quiet_is (.binOp .neq _ _ _ _) rfl ?_; refine quiet_val (fun w _ => run_ane _ _ _ _ rfl) ?_; go_big_quiet_on) | (go_big_quiet_op; go_big_quiet_on)))); refine wpQuiet_nil ?_; clear hS hne; intro w hS))
    exact hR _ hS.chg
  have q : decide (200 < (n : Int)) = false := decide_eq_false (by omega)
  obtain ⟨a0, a1⟩ := bounds_u8 wa
  obtain ⟨b0, b1⟩ := bounds_u16 wb
  have hf := bounds_u32 wf
  obtain ⟨fn, rfl⟩ : ∃ q : Nat, f = q := ⟨f.toNat, by omega⟩
  obtain ⟨g1, hg1⟩ : ∃ g1, max 1 fn = g1 := ⟨_, rfl⟩
  have hmx : MaxIs 1 (fn : Int) (g1 : Int) := ⟨by rw [Nat.max_def] at hg1; split at hg1 <;> (split <;> omega)⟩
  have hg1b : 1 ≤ g1 ∧ g1 ≤ 4294967295 := by omega
  obtain ⟨e1, e2⟩ := nw_B (f := (g1 : Int)) a0 b0 (by omega)
  have e1' := Lib.hid e1
  have e2' := Lib.hid e2
  have hid := idB_is a0
  have hNm0 : Nm (moB b) (g1 : Int) (idB a) 0 (L0B a g1) [] [] [] := Nm.start (by omega) (by unfold moB; omega) (by omega)
  have hNm0' := Lib.hid hNm0
  have hid' := Lib.hid hid
  clear e1 e2 hg1 wa wb wf hNm0 hid
  go_enter Try.func3, Try.ntmps3
  go_wp2_with (first
    | go_skip | (refine wpList_is (.call { callee := .builtin .max, args := #[_, _], argTypes := #[_, _] }) rfl ?_; refine wpList_stp (by kernel_rfl) (stp_val (run_maxv _ _ rfl) ?_))
    | (go_at_call 11; go_must (with_reducible refine pb_new hS (1 + a % 64) (1 + b % 4000) g1 (by omega) _ 0 e1'.out e2'.out ?_); clear hS; intro p E1 w hT hS; have hpn := hT.nil; unfold Ret)
    | (refine wpList_is (.makeMap _ _) rfl ?_; go_must (refine wpList_stp (by kernel_rfl) (stp_mm rfl hS ?_)); clear hS; intro w0 M hB hS)
    | go_skip | (refine wpList_is (.call { callee := .builtin .len, args := #[_], argTypes := #[_] }) rfl ?_; refine wpList_stp (by kernel_rfl) (stp_val (run_lenv _ _ rfl) ?_)) | (refine wpList_is (.slice _ _ none (some _) none) rfl ?_; refine wpList_stp (by kernel_rfl) (stp_val (run_prev _ _ _ rfl) ?_)) | (refine wpList_is (.indexAddr _ _ _) rfl ?_; refine wpList_stp (by kernel_rfl) (stp_val (run_idxv _ _ _ rfl) ?_)) | go_skip | (refine wpList_is (.build _ _) rfl ?_; go_must (refine wpList_stp (by kernel_rfl) (stp_val (run_bd _ _ rfl) ?_))) | (refine wpList_is (.call { callee := .builtin .clear, args := #[_], argTypes := #[_] }) rfl ?_; go_must (refine wpList_stp (by kernel_rfl) (stp_cl _ _ rfl hS (by decide) ?_)); clear hS; intro w hS) | (refine wpList_is (.load _ _) rfl ?_; go_must (first | refine wpList_stp (by kernel_rfl) (stp_val (run_ld _ _ rfl hS) ?_) | refine wpList_stp (by kernel_rfl) (stp_val (run_lda _ _ rfl hS) ?_) | refine wpList_stp (by kernel_rfl) (stp_val (run_ld0 _ _ rfl hS) ?_) | refine wpList_stp (by kernel_rfl) (stp_val (run_lda0 _ _ rfl hS) ?_))) | (refine wpList_is (.store _ _ _) rfl ?_; go_must (first | refine wpList_stp (by kernel_rfl) (stp_st _ _ _ rfl hS ?_) | refine wpList_stp (by kernel_rfl) (stp_sta _ _ _ rfl hS ?_)); clear hS; intro w hS) | (refine wpList_is (.alloc _) rfl ?_; go_must (refine wpList_stp (by kernel_rfl) (stp_al _ rfl hS ?_)); clear hS; intro bN w hbN hS) | (refine wpList_is (.box _ _) rfl ?_; go_must (refine wpList_stp (by kernel_rfl) (stp_bx _ _ rfl hS ?_)); clear hS; intro bN w hbN hS) | (refine wpList_is (.binOp .eql _ _ (.const (.slice none _ _)) _) rfl ?_; refine wpList_stp (by kernel_rfl) (stp_val (run_nse _ _ _ rfl) ?_)) | (refine wpList_is (.binOp .neq _ _ (.const (.slice none _ _)) _) rfl ?_; refine wpList_stp (by kernel_rfl) (stp_val (run_nsn _ _ _ rfl) ?_)))
  have hB0 := hB
  have hS0 := hS
  have hT0 := hT
  clear hB hS hT e1' e2' hpn
  go_loopw [12, 13, 14] (fun u1 u2 s0 wr => ∃ (vi vg : Value) (k : Nat) (w0 : World) (bs : List Nat) (L : List Bf) (seen : List Ot) (ins : List Hd) (gone : List Ot) (E Ei Eg : List Ent), k ≤ n ∧ s0 = .int .i64 k ∧ Base W w0 bs M (seen.map snV) ∧ St w0 bs wr (E ++ (Ei ++ Eg)) ∧ PA p (some (some (moB b, L))) E ∧ vi = u1 ∧ vg = u2 ∧ HS vi ins Ei ∧ OS vg gone Eg ∧ Nm (moB b) (g1 : Int) (idB a) k L seen ins gone) (fun _ _ s0 _ => n - (intOf s0).toNat)
  case atStart => exact ⟨_, _, 0, _, _, _, [], [], [], E1, [], [], Nat.zero_le _, rfl, hB0, by simpa using hS0, hT0, rfl, rfl, HS.nil, OS.nil, hNm0'.out⟩
  case round =>
    clear hS0 hB0 hT0 hNm0'
    obtain ⟨vi, vg, k, w0, bs, L, seen, ins, gone, E, Ei, Eg, hk, rfl, hB, hS, hT, rfl, rfl, hvi, hvg, hNm⟩ := hrel
    have hone := hvi.one
    have hone2 := hvg.one
    by_cases hlt : k < n
    · have hidx := hv.idxz (t := 24) (z := 2) (i := k) rfl Try.underlying24 (by kernel_rfl) hlt
      obtain ⟨c0, c1, w255⟩ := turnB_cells hv hlt
      have hc0 := hv.cellz (z := 2) rfl (i := k) (j := 0) hlt (by decide)
      have hc1 := hv.cellz (z := 2) rfl (i := k) (j := 1) hlt (by decide)
      rw [c0, Nat.add_zero] at hc0
      rw [c1] at hc1
      clear c0 c1
      obtain ⟨wh, hwh⟩ : ∃ wh, whB F k = wh := ⟨_, rfl⟩
      rw [hwh] at hc1 w255
      clear hwh
      cases hg : gvB F k with
      | true =>
        rw [hg] at hc0
        clear hg
        cases hI : piI (moB b) L ((wh : Int) % 300) with
        | none =>
          have t1 : piT (some (some (moB b, L))) ((wh : Int) % 300) = some (some (moB b, L)) := by rw [piT_L]; simp only [piL, hI]
          have t3 : piR (some (some (moB b, L))) ((wh : Int) % 300) = (0, 0, 0) := by simp only [piR, hI]
          obtain ⟨e, he⟩ : ∃ e, piE (some (some (moB b, L))) ((wh : Int) % 300) = e := ⟨_, rfl⟩
          have hene : (e != 0) = true := by
            rw [← he]
            simp only [piE, hI]
            split <;> simp
          have t1' := Lib.hid t1
          have t2' := Lib.hid he
          have t3' := Lib.hid t3
          have hNm2 := Lib.hid hNm.more
          clear t1 he t3 hI
          go_wp2_with (first
            | go_skip | (refine wpList_is (.load 22 (.tmp 62)) rfl ?_; refine wpList_stp (by kernel_rfl) (stp_val (run_ld0 _ _ rfl (hB.stw hS)) ?_)) | (refine wpList_is (.load 4 (.tmp 68)) rfl ?_; refine wpList_stp (by kernel_rfl) (stp_val (run_ld0 _ _ rfl (hB.stw hS)) ?_))
            | (refine wpList_is (.alloc 36) rfl ?_; go_must (refine wpList_stp (by kernel_rfl) (stp_al _ rfl hS ?_)); clear hS; intro bo w _ hS)
            | (go_at_call 12; go_must (with_reducible refine pb_pin hS hT ((wh : Int) % 300) _ e (0, 0, 0) t1'.out t2'.out t3'.out ?_); clear hS hT; intro E1 w hT hS; unfold Ret)
            | go_skip | (refine wpList_is (.call { callee := .builtin .len, args := #[_], argTypes := #[_] }) rfl ?_; refine wpList_stp (by kernel_rfl) (stp_val (run_lenv _ _ rfl) ?_)) | (refine wpList_is (.slice _ _ none (some _) none) rfl ?_; refine wpList_stp (by kernel_rfl) (stp_val (run_prev _ _ _ rfl) ?_)) | (refine wpList_is (.indexAddr _ _ _) rfl ?_; refine wpList_stp (by kernel_rfl) (stp_val (run_idxv _ _ _ rfl) ?_)) | go_skip | (refine wpList_is (.build _ _) rfl ?_; go_must (refine wpList_stp (by kernel_rfl) (stp_val (run_bd _ _ rfl) ?_))) | (refine wpList_is (.call { callee := .builtin .clear, args := #[_], argTypes := #[_] }) rfl ?_; go_must (refine wpList_stp (by kernel_rfl) (stp_cl _ _ rfl hS (by decide) ?_)); clear hS; intro w hS) | (refine wpList_is (.load _ _) rfl ?_; go_must (first | refine wpList_stp (by kernel_rfl) (stp_val (run_ld _ _ rfl hS) ?_) | refine wpList_stp (by kernel_rfl) (stp_val (run_lda _ _ rfl hS) ?_) | refine wpList_stp (by kernel_rfl) (stp_val (run_ld0 _ _ rfl hS) ?_) | refine wpList_stp (by kernel_rfl) (stp_val (run_lda0 _ _ rfl hS) ?_))) | (refine wpList_is (.store _ _ _) rfl ?_; go_must (first | refine wpList_stp (by kernel_rfl) (stp_st _ _ _ rfl hS ?_) | refine wpList_stp (by kernel_rfl) (stp_sta _ _ _ rfl hS ?_)); clear hS; intro w hS) | (refine wpList_is (.alloc _) rfl ?_; go_must (refine wpList_stp (by kernel_rfl) (stp_al _ rfl hS ?_)); clear hS; intro bN w hbN hS) | (refine wpList_is (.box _ _) rfl ?_; go_must (refine wpList_stp (by kernel_rfl) (stp_bx _ _ rfl hS ?_)); clear hS; intro bN w hbN hS) | (refine wpList_is (.binOp .eql _ _ (.const (.slice none _ _)) _) rfl ?_; refine wpList_stp (by kernel_rfl) (stp_val (run_nse _ _ _ rfl) ?_)) | (refine wpList_is (.binOp .neq _ _ (.const (.slice none _ _)) _) rfl ?_; refine wpList_stp (by kernel_rfl) (stp_val (run_nsn _ _ _ rfl) ?_)))
          go_roundw
          case rel => exact ⟨_, _, k + 1, w0, bs, L, seen, ins, gone, E1, Ei, Eg, by omega, by go_num, hB, hS.pick, hT, rfl, rfl, hvi, hvg, hNm2.out⟩
          case measure => simp [intOf]; omega
        | some i =>
          obtain ⟨hiN, hgf, hfr, hNm1⟩ := hNm.pin hI
          obtain ⟨g, hgg⟩ : ∃ g, (bfA L i).2.1 = g := ⟨_, rfl⟩
          rw [hgg] at hgf hfr hNm1
          have t1 : piT (some (some (moB b, L))) ((wh : Int) % 300) = some (some (moB b, piN L i ((wh : Int) % 300))) := by rw [piT_L]; simp only [piL, hI]
          have t2 : piE (some (some (moB b, L))) ((wh : Int) % 300) = 0 := by
            have := (piI_some hI).1
            simp only [piE, hI, Option.isSome_some, if_true]
            rw [if_pos (by simp only [Bool.and_eq_true, decide_eq_true_eq]; omega)]
          have t3 : piR (some (some (moB b, L))) ((wh : Int) % 300) = (2, (i : Int), g) := by simp only [piR, hI]; rw [← hgg]
          have t1' := Lib.hid t1
          have t2' := Lib.hid t2
          have t3' := Lib.hid t3
          have hNm1' := Lib.hid hNm1
          have hfr' := Lib.hid hfr
          have d1 : decide ((i : Int) < 0) = false := decide_eq_false (by omega)
          have d2 : decide (a % 64 < (i : Int)) = false := decide_eq_false (by have := hid'.out; omega)
          have d3 : decide (g < (g1 : Int)) = false := decide_eq_false (by omega)
          have hlk : ∀ w H, St w0 bs w H → LookIs Try.prog w 30 M #[.int .i64 2, .int .i64 i, .int .u32 g] false (.bool false) := fun w H hS => seen_no (hB.now hS) hfr'.out
          have h64i := hNm.le64
          clear t1 t2 t3 hI hfr hNm1 hgg hNm
          go_wp2_with (first
            | go_skip | (refine wpList_is (.load 22 (.tmp 62)) rfl ?_; refine wpList_stp (by kernel_rfl) (stp_val (run_ld0 _ _ rfl (hB.stw hS)) ?_)) | (refine wpList_is (.load 4 (.tmp 68)) rfl ?_; refine wpList_stp (by kernel_rfl) (stp_val (run_ld0 _ _ rfl (hB.stw hS)) ?_))
            | (refine wpList_is (.alloc 36) rfl ?_; go_must (refine wpList_stp (by kernel_rfl) (stp_al _ rfl hS ?_)); clear hS; intro bo w _ hS)
            | (refine wpList_is (.call { callee := .builtin .max, args := #[_, _], argTypes := #[_, _] }) rfl ?_; refine wpList_stp (by kernel_rfl) (stp_val (run_maxv _ _ rfl) ?_))
            | (go_at_call 12; go_must (with_reducible refine pb_pin hS hT ((wh : Int) % 300) _ 0 (2, (i : Int), g) t1'.out t2'.out t3'.out ?_); clear hS hT; intro E1 w hT hS; unfold Ret)
            | (refine wpList_is (.lookup _ _ _ _) rfl ?_; refine wpList_stp (by kernel_rfl) (stp_val (run_look _ _ _ rfl (hlk _ _ hS)) ?_))
            | (refine wpList_is (.mapUpdate _ _ _ _) rfl ?_; go_must (refine wpList_stp (by kernel_rfl) (stp_upd _ _ _ _ rfl ?_); obtain ⟨es, ck, hr, he⟩ := put_seen (hB.now hS) hfr'.out; refine ⟨_, hr, ?_⟩; obtain ⟨hB1, hS1⟩ := hB.turn hS he; have hS := hS1))
            | (refine wpList_is (.buildSlice _ _ _) rfl ?_; go_must (refine wpList_stp (by kernel_rfl) (stp_bsl (size := 4) (e := 40) _ 1 [(0, _)] rfl hS (by decide) rfl (by decide) (by decide) ?_)); clear hS; intro bc w _ hS)
            | (refine wpList_is (.call { callee := .builtin .append, args := #[_, _], argTypes := #[_, _] }) rfl ?_; go_must (refine wpList_stp (by kernel_rfl) (stp_ap _ _ _ _ rfl rfl hS (by rfl) (show Sl 40 4 vi ins.length (ins.flatMap hlf) Ei from hvi) (by rfl) (by simp only [maxLen]; omega) (by omega) ?_)); clear hS; intro v5 E5 w hsl5 _ hS; have hvi5 := HS.snoc (x := ((2, (i : Int), g), (wh : Int) % 300)) hsl5; clear hsl5; have hone5 := hvi5.one)
            | go_skip | (refine wpList_is (.call { callee := .builtin .len, args := #[_], argTypes := #[_] }) rfl ?_; refine wpList_stp (by kernel_rfl) (stp_val (run_lenv _ _ rfl) ?_)) | (refine wpList_is (.slice _ _ none (some _) none) rfl ?_; refine wpList_stp (by kernel_rfl) (stp_val (run_prev _ _ _ rfl) ?_)) | (refine wpList_is (.indexAddr _ _ _) rfl ?_; refine wpList_stp (by kernel_rfl) (stp_val (run_idxv _ _ _ rfl) ?_)) | go_skip | (refine wpList_is (.build _ _) rfl ?_; go_must (refine wpList_stp (by kernel_rfl) (stp_val (run_bd _ _ rfl) ?_))) | (refine wpList_is (.call { callee := .builtin .clear, args := #[_], argTypes := #[_] }) rfl ?_; go_must (refine wpList_stp (by kernel_rfl) (stp_cl _ _ rfl hS (by decide) ?_)); clear hS; intro w hS) | (refine wpList_is (.load _ _) rfl ?_; go_must (first | refine wpList_stp (by kernel_rfl) (stp_val (run_ld _ _ rfl hS) ?_) | refine wpList_stp (by kernel_rfl) (stp_val (run_lda _ _ rfl hS) ?_) | refine wpList_stp (by kernel_rfl) (stp_val (run_ld0 _ _ rfl hS) ?_) | refine wpList_stp (by kernel_rfl) (stp_val (run_lda0 _ _ rfl hS) ?_))) | (refine wpList_is (.store _ _ _) rfl ?_; go_must (first | refine wpList_stp (by kernel_rfl) (stp_st _ _ _ rfl hS ?_) | refine wpList_stp (by kernel_rfl) (stp_sta _ _ _ rfl hS ?_)); clear hS; intro w hS) | (refine wpList_is (.alloc _) rfl ?_; go_must (refine wpList_stp (by kernel_rfl) (stp_al _ rfl hS ?_)); clear hS; intro bN w hbN hS) | (refine wpList_is (.box _ _) rfl ?_; go_must (refine wpList_stp (by kernel_rfl) (stp_bx _ _ rfl hS ?_)); clear hS; intro bN w hbN hS) | (refine wpList_is (.binOp .eql _ _ (.const (.slice none _ _)) _) rfl ?_; refine wpList_stp (by kernel_rfl) (stp_val (run_nse _ _ _ rfl) ?_)) | (refine wpList_is (.binOp .neq _ _ (.const (.slice none _ _)) _) rfl ?_; refine wpList_stp (by kernel_rfl) (stp_val (run_nsn _ _ _ rfl) ?_)))
          have hNm := hNm1'.out
          obtain ⟨w0, bs, hB, hS⟩ : ∃ w0 bs, Base W w0 bs M ((seen ++ [(2, (i : Int), g)]).map snV) ∧ St w0 bs _ (E1 ++ (E5 ++ Eg)) := ⟨_, _, hB1, hS.pick⟩
          clear hNm1' t1' t2' t3' hfr' d1 d2 d3 hone hvi hone5
          obtain ⟨L2, hL2⟩ : ∃ q, piN L i ((wh : Int) % 300) = q := ⟨_, rfl⟩
          obtain ⟨in2, hin2⟩ : ∃ q, ins ++ [((2, (i : Int), g), (wh : Int) % 300)] = q := ⟨_, rfl⟩
          obtain ⟨sn2, hsn2⟩ : ∃ q, seen ++ [(2, (i : Int), g)] = q := ⟨_, rfl⟩
          rw [hL2] at hT hNm
          rw [hin2] at hvi5 hNm
          rw [hsn2] at hB hNm
          have hvi := hvi5
          clear hvi5 hL2 hin2 hsn2 h64i
          have hS : St w0 bs _ (E1 ++ (E5 ++ Eg)) := hS.pick
          obtain ⟨m, hm⟩ : ∃ m, in2.length = m := ⟨_, rfl⟩
          have hm' := Lib.hid hm
          have hln : LenV Try.prog 31 v5 m := hvi.len hm
          have hone := hvi.one
          have hone2 := hvg.one
          have h64 := hNm.le64
          rw [hm] at h64
          obtain ⟨us, hus⟩ : ∃ us, ((in2.map (·.2)).sum : Int) = us := ⟨_, rfl⟩
          have hu' : Hid (usP (some (some (moB b, L2))) = us) := Lib.hid (by rw [← hus, ← hNm.us]; rfl)
          have hl' : Hid ((allP (some (some (moB b, L2)))).length = m) := Lib.hid (by rw [allP_L, hNm.cnt, hm])
          have hus' := Lib.hid hus
          have hbd : ∀ x ∈ in2, 0 ≤ x.2 ∧ x.2 ≤ 65536 := fun x hx => by
            obtain ⟨i, hi, _, _, h3⟩ := hNm.ins_ x hx
            have := (hNm.w.by_ _ (getDm hi)).1 (by show (bfA L2 i).1 = 1; rw [h3])
            rw [show L2.getD i (0, 0, 0) = (1, x.1.2.2, x.2) from h3] at this
            simp only at this
            omega
          clear hm hus
          obtain ⟨wo, hwo⟩ : ∃ wo : World, wo = w := ⟨_, rfl⟩
          clear hwo
          go_loopw [19, 20] (fun u0 s0 wz => ∃ (q : Nat) (_ : Unit), q ≤ m ∧ u0 = .int .i64 (((in2.take q).map (·.2)).sum) ∧ s0 = .int .i64 q ∧ St w0 bs wz (E1 ++ (E5 ++ Eg))) (fun _ s0 _ => m - (intOf s0).toNat)
          case atStart => exact ⟨0, (), Nat.zero_le _, rfl, rfl, hS⟩
          case round =>
            clear hS
            obtain ⟨q, _, hq, rfl, rfl, hS⟩ := hrel
            by_cases hlq : q < m
            · have hql : q < in2.length := by rw [hm'.out]; exact hlq
              obtain ⟨⟨⟨xk, xi, xg⟩, xn⟩, hx⟩ : ∃ x, in2[q]? = some x := ⟨_, List.getElem?_eq_getElem hql⟩
              have hxm := List.mem_of_getElem? hx
              obtain ⟨f1, f2⟩ := hNm.isIn hxm
              simp only at f1 f2
              have f1' := Lib.hid f1
              have f2' := Lib.hid f2
              obtain ⟨gq, spq, iq, hHq, cq, cq3⟩ := hvi.at hql hx
              have iq := iq q rfl
              simp only at cq cq3
              obtain ⟨uq, huq⟩ : ∃ uq, (((in2.take q).map (·.2)).sum : Int) = uq := ⟨_, rfl⟩
              have huq2 : (((in2.take (q + 1)).map (·.2)).sum : Int) = uq + xn := by
                rw [List.take_add_one, hx, List.map_append, List.sum_append, huq]
                simp
              have hb1 := sum_bd0 (f := fun x : Hd => x.2) (in2.take q) (fun x hx => hbd x (List.mem_of_mem_take hx))
              have hb2 := hbd _ hxm
              rw [List.length_take, huq] at hb1
              have sq : SumIs uq xn (uq + xn) := ⟨rfl, by simp only at hb2; omega, by simp only at hb2; omega⟩
              have huq2' := Lib.hid huq2
              rw [huq]
              clear hxm f1 f2 hx huq huq2 hb1 hb2
              go_wp2_with (first
                | go_skip
                | (refine wpList_is (.binOp .add _ (.tmp 176) _ _) rfl ?_; refine wpList_stp (by kernel_rfl) (stp_val (run_sumv _ _ _ _ rfl) ?_))
                | (go_at_call 14; go_must (with_reducible refine pb_bytes hS hT xk xi xg xn 0 f2'.out f1'.out ?_); clear hS; intro w _ hS; unfold Ret)
                | go_skip | (refine wpList_is (.call { callee := .builtin .len, args := #[_], argTypes := #[_] }) rfl ?_; refine wpList_stp (by kernel_rfl) (stp_val (run_lenv _ _ rfl) ?_)) | (refine wpList_is (.slice _ _ none (some _) none) rfl ?_; refine wpList_stp (by kernel_rfl) (stp_val (run_prev _ _ _ rfl) ?_)) | (refine wpList_is (.indexAddr _ _ _) rfl ?_; refine wpList_stp (by kernel_rfl) (stp_val (run_idxv _ _ _ rfl) ?_)) | go_skip | (refine wpList_is (.build _ _) rfl ?_; go_must (refine wpList_stp (by kernel_rfl) (stp_val (run_bd _ _ rfl) ?_))) | (refine wpList_is (.call { callee := .builtin .clear, args := #[_], argTypes := #[_] }) rfl ?_; go_must (refine wpList_stp (by kernel_rfl) (stp_cl _ _ rfl hS (by decide) ?_)); clear hS; intro w hS) | (refine wpList_is (.load _ _) rfl ?_; go_must (first | refine wpList_stp (by kernel_rfl) (stp_val (run_ld _ _ rfl hS) ?_) | refine wpList_stp (by kernel_rfl) (stp_val (run_lda _ _ rfl hS) ?_) | refine wpList_stp (by kernel_rfl) (stp_val (run_ld0 _ _ rfl hS) ?_) | refine wpList_stp (by kernel_rfl) (stp_val (run_lda0 _ _ rfl hS) ?_))) | (refine wpList_is (.store _ _ _) rfl ?_; go_must (first | refine wpList_stp (by kernel_rfl) (stp_st _ _ _ rfl hS ?_) | refine wpList_stp (by kernel_rfl) (stp_sta _ _ _ rfl hS ?_)); clear hS; intro w hS) | (refine wpList_is (.alloc _) rfl ?_; go_must (refine wpList_stp (by kernel_rfl) (stp_al _ rfl hS ?_)); clear hS; intro bN w hbN hS) | (refine wpList_is (.box _ _) rfl ?_; go_must (refine wpList_stp (by kernel_rfl) (stp_bx _ _ rfl hS ?_)); clear hS; intro bN w hbN hS) | (refine wpList_is (.binOp .eql _ _ (.const (.slice none _ _)) _) rfl ?_; refine wpList_stp (by kernel_rfl) (stp_val (run_nse _ _ _ rfl) ?_)) | (refine wpList_is (.binOp .neq _ _ (.const (.slice none _ _)) _) rfl ?_; refine wpList_stp (by kernel_rfl) (stp_val (run_nsn _ _ _ rfl) ?_)))
              go_roundw
              case rel => exact ⟨q + 1, (), by omega, by rw [huq2'.out], by go_num, hS.pick⟩
              case measure => simp [intOf]; omega
            · obtain rfl : q = m := by omega
              have hfull : (((in2.take q).map (·.2)).sum : Int) = us := by rw [List.take_of_length_le (by rw [hm'.out]; exact Nat.le_refl _)]; exact hus'.out
              rw [hfull]
              clear hfull hlq
              go_wp2_with (first
                | go_skip
                | (go_at_call 15; refine pb_used hS hT us hu'.out ?_; clear hS; intro w hS; unfold Ret)
                | (go_at_call 16; refine pb_len hS hT q hl'.out ?_; clear hS; intro w hS; unfold Ret)
                | (go_at_call 17; go_must (refine pb_all hS hT ?_); clear hS; intro v9 E9 w hL hS; have hone9 := hL.one; have hln9 := hL.len hl'.out; unfold Ret)
                | go_skip | (refine wpList_is (.call { callee := .builtin .len, args := #[_], argTypes := #[_] }) rfl ?_; refine wpList_stp (by kernel_rfl) (stp_val (run_lenv _ _ rfl) ?_)) | (refine wpList_is (.slice _ _ none (some _) none) rfl ?_; refine wpList_stp (by kernel_rfl) (stp_val (run_prev _ _ _ rfl) ?_)) | (refine wpList_is (.indexAddr _ _ _) rfl ?_; refine wpList_stp (by kernel_rfl) (stp_val (run_idxv _ _ _ rfl) ?_)) | go_skip | (refine wpList_is (.build _ _) rfl ?_; go_must (refine wpList_stp (by kernel_rfl) (stp_val (run_bd _ _ rfl) ?_))) | (refine wpList_is (.call { callee := .builtin .clear, args := #[_], argTypes := #[_] }) rfl ?_; go_must (refine wpList_stp (by kernel_rfl) (stp_cl _ _ rfl hS (by decide) ?_)); clear hS; intro w hS) | (refine wpList_is (.load _ _) rfl ?_; go_must (first | refine wpList_stp (by kernel_rfl) (stp_val (run_ld _ _ rfl hS) ?_) | refine wpList_stp (by kernel_rfl) (stp_val (run_lda _ _ rfl hS) ?_) | refine wpList_stp (by kernel_rfl) (stp_val (run_ld0 _ _ rfl hS) ?_) | refine wpList_stp (by kernel_rfl) (stp_val (run_lda0 _ _ rfl hS) ?_))) | (refine wpList_is (.store _ _ _) rfl ?_; go_must (first | refine wpList_stp (by kernel_rfl) (stp_st _ _ _ rfl hS ?_) | refine wpList_stp (by kernel_rfl) (stp_sta _ _ _ rfl hS ?_)); clear hS; intro w hS) | (refine wpList_is (.alloc _) rfl ?_; go_must (refine wpList_stp (by kernel_rfl) (stp_al _ rfl hS ?_)); clear hS; intro bN w hbN hS) | (refine wpList_is (.box _ _) rfl ?_; go_must (refine wpList_stp (by kernel_rfl) (stp_bx _ _ rfl hS ?_)); clear hS; intro bN w hbN hS) | (refine wpList_is (.binOp .eql _ _ (.const (.slice none _ _)) _) rfl ?_; refine wpList_stp (by kernel_rfl) (stp_val (run_nse _ _ _ rfl) ?_)) | (refine wpList_is (.binOp .neq _ _ (.const (.slice none _ _)) _) rfl ?_; refine wpList_stp (by kernel_rfl) (stp_val (run_nsn _ _ _ rfl) ?_)))
              go_roundw
              case rel => exact ⟨_, _, k + 1, w0, bs, L2, sn2, in2, gone, E1, E5, Eg, by omega, by go_num, hB, hS.pick, hT, rfl, rfl, hvi, hvg, hNm⟩
              case measure => simp [intOf]; omega
      | false =>
        rw [hg] at hc0
        clear hg
        obtain ⟨m0, hm0⟩ : ∃ m, ins.length = m := ⟨_, rfl⟩
        have hm0' := Lib.hid hm0
        have hln0 : LenV Try.prog 31 vi m0 := hvi.len hm0
        have h64i := hNm.le64
        rw [hm0] at h64i
        by_cases hz : m0 = 0
        · have d1 : decide (0 < (m0 : Int)) = false := decide_eq_false (by omega)
          have d1' : decide (0 < m0) = false := decide_eq_false (by omega)
          clear hm0 h64i hz
          go_wp2_with (first | go_skip | (refine wpList_is (.load 22 (.tmp 62)) rfl ?_; refine wpList_stp (by kernel_rfl) (stp_val (run_ld0 _ _ rfl (hB.stw hS)) ?_)) | (refine wpList_is (.load 4 (.tmp 68)) rfl ?_; refine wpList_stp (by kernel_rfl) (stp_val (run_ld0 _ _ rfl (hB.stw hS)) ?_)) | go_skip | (refine wpList_is (.call { callee := .builtin .len, args := #[_], argTypes := #[_] }) rfl ?_; refine wpList_stp (by kernel_rfl) (stp_val (run_lenv _ _ rfl) ?_)) | (refine wpList_is (.slice _ _ none (some _) none) rfl ?_; refine wpList_stp (by kernel_rfl) (stp_val (run_prev _ _ _ rfl) ?_)) | (refine wpList_is (.indexAddr _ _ _) rfl ?_; refine wpList_stp (by kernel_rfl) (stp_val (run_idxv _ _ _ rfl) ?_)) | go_skip | (refine wpList_is (.build _ _) rfl ?_; go_must (refine wpList_stp (by kernel_rfl) (stp_val (run_bd _ _ rfl) ?_))) | (refine wpList_is (.call { callee := .builtin .clear, args := #[_], argTypes := #[_] }) rfl ?_; go_must (refine wpList_stp (by kernel_rfl) (stp_cl _ _ rfl hS (by decide) ?_)); clear hS; intro w hS) | (refine wpList_is (.load _ _) rfl ?_; go_must (first | refine wpList_stp (by kernel_rfl) (stp_val (run_ld _ _ rfl hS) ?_) | refine wpList_stp (by kernel_rfl) (stp_val (run_lda _ _ rfl hS) ?_) | refine wpList_stp (by kernel_rfl) (stp_val (run_ld0 _ _ rfl hS) ?_) | refine wpList_stp (by kernel_rfl) (stp_val (run_lda0 _ _ rfl hS) ?_))) | (refine wpList_is (.store _ _ _) rfl ?_; go_must (first | refine wpList_stp (by kernel_rfl) (stp_st _ _ _ rfl hS ?_) | refine wpList_stp (by kernel_rfl) (stp_sta _ _ _ rfl hS ?_)); clear hS; intro w hS) | (refine wpList_is (.alloc _) rfl ?_; go_must (refine wpList_stp (by kernel_rfl) (stp_al _ rfl hS ?_)); clear hS; intro bN w hbN hS) | (refine wpList_is (.box _ _) rfl ?_; go_must (refine wpList_stp (by kernel_rfl) (stp_bx _ _ rfl hS ?_)); clear hS; intro bN w hbN hS) | (refine wpList_is (.binOp .eql _ _ (.const (.slice none _ _)) _) rfl ?_; refine wpList_stp (by kernel_rfl) (stp_val (run_nse _ _ _ rfl) ?_)) | (refine wpList_is (.binOp .neq _ _ (.const (.slice none _ _)) _) rfl ?_; refine wpList_stp (by kernel_rfl) (stp_val (run_nsn _ _ _ rfl) ?_)))
          have hNm2 := hNm.more
          clear hNm hln0 hm0' d1 d1'
          have hNm := hNm2
          clear hNm2
          have hS : St w0 bs _ (E ++ (Ei ++ Eg)) := hS.pick
          obtain ⟨m, hm⟩ : ∃ m, ins.length = m := ⟨_, rfl⟩
          have hm' := Lib.hid hm
          have hln : LenV Try.prog 31 vi m := hvi.len hm
          have hone := hvi.one
          have hone2 := hvg.one
          have h64 := hNm.le64
          rw [hm] at h64
          obtain ⟨us, hus⟩ : ∃ us, ((ins.map (·.2)).sum : Int) = us := ⟨_, rfl⟩
          have hu' : Hid (usP (some (some (moB b, L))) = us) := Lib.hid (by rw [← hus, ← hNm.us]; rfl)
          have hl' : Hid ((allP (some (some (moB b, L)))).length = m) := Lib.hid (by rw [allP_L, hNm.cnt, hm])
          have hus' := Lib.hid hus
          have hbd : ∀ x ∈ ins, 0 ≤ x.2 ∧ x.2 ≤ 65536 := fun x hx => by
            obtain ⟨i, hi, _, _, h3⟩ := hNm.ins_ x hx
            have := (hNm.w.by_ _ (getDm hi)).1 (by show (bfA L i).1 = 1; rw [h3])
            rw [show L.getD i (0, 0, 0) = (1, x.1.2.2, x.2) from h3] at this
            simp only at this
            omega
          clear hm hus
          obtain ⟨wo, hwo⟩ : ∃ wo : World, wo = w := ⟨_, rfl⟩
          clear hwo
          go_loopw [19, 20] (fun u0 s0 wz => ∃ (q : Nat) (_ : Unit), q ≤ m ∧ u0 = .int .i64 (((ins.take q).map (·.2)).sum) ∧ s0 = .int .i64 q ∧ St w0 bs wz (E ++ (Ei ++ Eg))) (fun _ s0 _ => m - (intOf s0).toNat)
          case atStart => exact ⟨0, (), Nat.zero_le _, rfl, rfl, hS⟩
          case round =>
            clear hS
            obtain ⟨q, _, hq, rfl, rfl, hS⟩ := hrel
            by_cases hlq : q < m
            · have hql : q < ins.length := by rw [hm'.out]; exact hlq
              obtain ⟨⟨⟨xk, xi, xg⟩, xn⟩, hx⟩ : ∃ x, ins[q]? = some x := ⟨_, List.getElem?_eq_getElem hql⟩
              have hxm := List.mem_of_getElem? hx
              obtain ⟨f1, f2⟩ := hNm.isIn hxm
              simp only at f1 f2
              have f1' := Lib.hid f1
              have f2' := Lib.hid f2
              obtain ⟨gq, spq, iq, hHq, cq, cq3⟩ := hvi.at hql hx
              have iq := iq q rfl
              simp only at cq cq3
              obtain ⟨uq, huq⟩ : ∃ uq, (((ins.take q).map (·.2)).sum : Int) = uq := ⟨_, rfl⟩
              have huq2 : (((ins.take (q + 1)).map (·.2)).sum : Int) = uq + xn := by
                rw [List.take_add_one, hx, List.map_append, List.sum_append, huq]
                simp
              have hb1 := sum_bd0 (f := fun x : Hd => x.2) (ins.take q) (fun x hx => hbd x (List.mem_of_mem_take hx))
              have hb2 := hbd _ hxm
              rw [List.length_take, huq] at hb1
              have sq : SumIs uq xn (uq + xn) := ⟨rfl, by simp only at hb2; omega, by simp only at hb2; omega⟩
              have huq2' := Lib.hid huq2
              rw [huq]
              clear hxm f1 f2 hx huq huq2 hb1 hb2
              go_wp2_with (first
                | go_skip
                | (refine wpList_is (.binOp .add _ (.tmp 176) _ _) rfl ?_; refine wpList_stp (by kernel_rfl) (stp_val (run_sumv _ _ _ _ rfl) ?_))
                | (go_at_call 14; go_must (with_reducible refine pb_bytes hS hT xk xi xg xn 0 f2'.out f1'.out ?_); clear hS; intro w _ hS; unfold Ret)
                | go_skip | (refine wpList_is (.call { callee := .builtin .len, args := #[_], argTypes := #[_] }) rfl ?_; refine wpList_stp (by kernel_rfl) (stp_val (run_lenv _ _ rfl) ?_)) | (refine wpList_is (.slice _ _ none (some _) none) rfl ?_; refine wpList_stp (by kernel_rfl) (stp_val (run_prev _ _ _ rfl) ?_)) | (refine wpList_is (.indexAddr _ _ _) rfl ?_; refine wpList_stp (by kernel_rfl) (stp_val (run_idxv _ _ _ rfl) ?_)) | go_skip | (refine wpList_is (.build _ _) rfl ?_; go_must (refine wpList_stp (by kernel_rfl) (stp_val (run_bd _ _ rfl) ?_))) | (refine wpList_is (.call { callee := .builtin .clear, args := #[_], argTypes := #[_] }) rfl ?_; go_must (refine wpList_stp (by kernel_rfl) (stp_cl _ _ rfl hS (by decide) ?_)); clear hS; intro w hS) | (refine wpList_is (.load _ _) rfl ?_; go_must (first | refine wpList_stp (by kernel_rfl) (stp_val (run_ld _ _ rfl hS) ?_) | refine wpList_stp (by kernel_rfl) (stp_val (run_lda _ _ rfl hS) ?_) | refine wpList_stp (by kernel_rfl) (stp_val (run_ld0 _ _ rfl hS) ?_) | refine wpList_stp (by kernel_rfl) (stp_val (run_lda0 _ _ rfl hS) ?_))) | (refine wpList_is (.store _ _ _) rfl ?_; go_must (first | refine wpList_stp (by kernel_rfl) (stp_st _ _ _ rfl hS ?_) | refine wpList_stp (by kernel_rfl) (stp_sta _ _ _ rfl hS ?_)); clear hS; intro w hS) | (refine wpList_is (.alloc _) rfl ?_; go_must (refine wpList_stp (by kernel_rfl) (stp_al _ rfl hS ?_)); clear hS; intro bN w hbN hS) | (refine wpList_is (.box _ _) rfl ?_; go_must (refine wpList_stp (by kernel_rfl) (stp_bx _ _ rfl hS ?_)); clear hS; intro bN w hbN hS) | (refine wpList_is (.binOp .eql _ _ (.const (.slice none _ _)) _) rfl ?_; refine wpList_stp (by kernel_rfl) (stp_val (run_nse _ _ _ rfl) ?_)) | (refine wpList_is (.binOp .neq _ _ (.const (.slice none _ _)) _) rfl ?_; refine wpList_stp (by kernel_rfl) (stp_val (run_nsn _ _ _ rfl) ?_)))
              go_roundw
              case rel => exact ⟨q + 1, (), by omega, by rw [huq2'.out], by go_num, hS.pick⟩
              case measure => simp [intOf]; omega
            · obtain rfl : q = m := by omega
              have hfull : (((ins.take q).map (·.2)).sum : Int) = us := by rw [List.take_of_length_le (by rw [hm'.out]; exact Nat.le_refl _)]; exact hus'.out
              rw [hfull]
              clear hfull hlq
              go_wp2_with (first
                | go_skip
                | (go_at_call 15; refine pb_used hS hT us hu'.out ?_; clear hS; intro w hS; unfold Ret)
                | (go_at_call 16; refine pb_len hS hT q hl'.out ?_; clear hS; intro w hS; unfold Ret)
                | (go_at_call 17; go_must (refine pb_all hS hT ?_); clear hS; intro v9 E9 w hL hS; have hone9 := hL.one; have hln9 := hL.len hl'.out; unfold Ret)
                | go_skip | (refine wpList_is (.call { callee := .builtin .len, args := #[_], argTypes := #[_] }) rfl ?_; refine wpList_stp (by kernel_rfl) (stp_val (run_lenv _ _ rfl) ?_)) | (refine wpList_is (.slice _ _ none (some _) none) rfl ?_; refine wpList_stp (by kernel_rfl) (stp_val (run_prev _ _ _ rfl) ?_)) | (refine wpList_is (.indexAddr _ _ _) rfl ?_; refine wpList_stp (by kernel_rfl) (stp_val (run_idxv _ _ _ rfl) ?_)) | go_skip | (refine wpList_is (.build _ _) rfl ?_; go_must (refine wpList_stp (by kernel_rfl) (stp_val (run_bd _ _ rfl) ?_))) | (refine wpList_is (.call { callee := .builtin .clear, args := #[_], argTypes := #[_] }) rfl ?_; go_must (refine wpList_stp (by kernel_rfl) (stp_cl _ _ rfl hS (by decide) ?_)); clear hS; intro w hS) | (refine wpList_is (.load _ _) rfl ?_; go_must (first | refine wpList_stp (by kernel_rfl) (stp_val (run_ld _ _ rfl hS) ?_) | refine wpList_stp (by kernel_rfl) (stp_val (run_lda _ _ rfl hS) ?_) | refine wpList_stp (by kernel_rfl) (stp_val (run_ld0 _ _ rfl hS) ?_) | refine wpList_stp (by kernel_rfl) (stp_val (run_lda0 _ _ rfl hS) ?_))) | (refine wpList_is (.store _ _ _) rfl ?_; go_must (first | refine wpList_stp (by kernel_rfl) (stp_st _ _ _ rfl hS ?_) | refine wpList_stp (by kernel_rfl) (stp_sta _ _ _ rfl hS ?_)); clear hS; intro w hS) | (refine wpList_is (.alloc _) rfl ?_; go_must (refine wpList_stp (by kernel_rfl) (stp_al _ rfl hS ?_)); clear hS; intro bN w hbN hS) | (refine wpList_is (.box _ _) rfl ?_; go_must (refine wpList_stp (by kernel_rfl) (stp_bx _ _ rfl hS ?_)); clear hS; intro bN w hbN hS) | (refine wpList_is (.binOp .eql _ _ (.const (.slice none _ _)) _) rfl ?_; refine wpList_stp (by kernel_rfl) (stp_val (run_nse _ _ _ rfl) ?_)) | (refine wpList_is (.binOp .neq _ _ (.const (.slice none _ _)) _) rfl ?_; refine wpList_stp (by kernel_rfl) (stp_val (run_nsn _ _ _ rfl) ?_)))
              go_roundw
              case rel => exact ⟨_, _, k + 1, w0, bs, L, seen, ins, gone, E, Ei, Eg, by omega, by go_num, hB, hS.pick, hT, rfl, rfl, hvi, hvg, hNm⟩
              case measure => simp [intOf]; omega
        · obtain ⟨q, hq⟩ : ∃ q, wh % m0 = q := ⟨_, rfl⟩
          have hqm : q < m0 := by rw [← hq]; exact Nat.mod_lt _ (by omega)
          have rq : RemIs (wh : Int) (m0 : Int) (q : Int) := ⟨by rw [Int.tmod_eq_emod_of_nonneg (by omega)]; omega, by omega⟩
          obtain ⟨q1, hq1⟩ : ∃ q1, q + 1 = q1 := ⟨_, rfl⟩
          have s1 : SumIs (q : Int) 1 (q1 : Int) := ⟨by omega, by omega, by omega⟩
          have d1 : decide (0 < (m0 : Int)) = true := decide_eq_true (by omega)
          have d1' : decide (0 < m0) = true := decide_eq_true (by omega)
          have hql : q < ins.length := by rw [hm0]; exact hqm
          obtain ⟨⟨⟨xk, xi, xg⟩, xn⟩, hx⟩ : ∃ x, ins[q]? = some x := ⟨_, List.getElem?_eq_getElem hql⟩
          obtain ⟨L', h1, hNm1⟩ := hNm.unpin hx
          have h2 := (hNm.isIn (List.mem_of_getElem? hx)).1
          simp only at h1 h2 hNm1
          rw [hq1] at hNm1
          have hgl := hNm.c
          obtain ⟨gi, cap, spi, rfl, rfl, hc1', hc2', hc3'⟩ := Sl.some hvi (by omega)
          rw [hm0] at hc1'
          have c1 := hd3 (sp := spi) hx
          simp only at c1
          have c2 := fl_pre hlf_len (l := ins) (sp := spi) (q := q) (by omega)
          have c3 := fl_suf' hlf_len (l := ins) (sp := spi) (q := q1) (cap := cap) (by omega) (by rw [hm0]; exact hc1')
          have o2 := fl_ones hlf_one (ins.take q)
          have o3 := fl_ones hlf_one (ins.drop q1)
          simp only [List.cons_append, List.nil_append] at hS
          rw [hm0] at hone hln0 c3
          have x1 := idx_of (P := Try.prog) (t := 31) (g := gi) (n := m0) (cap := cap) Try.underlying31 (z := 4) (by kernel_rfl) hqm
          have x2 := pre_of (P := Try.prog) (t := 31) (g := gi) (n := m0) (cap := cap) (m := q) Try.underlying31 (z := 4) (by kernel_rfl) (by omega) (by omega)
          have x3 := suf_of (P := Try.prog) (t := 31) (g := gi) (n := m0) (cap := cap) (m := q1) Try.underlying31 (z := 4) (by kernel_rfl) (by omega) (by omega)
          obtain ⟨of, hof⟩ : ∃ of, (if q1 = cap then 0 else q1 * 4) = of := ⟨_, rfl⟩
          rw [hof] at x3 c3
          have lt' : Hid ((ins.take q).length = q) := Lib.hid (by rw [List.length_take]; omega)
          have ld' : Hid ((ins.drop q1).length = m0 - q1) := Lib.hid (by rw [List.length_drop, hm0])
          have h1' := Lib.hid h1
          have h2' := Lib.hid h2
          have c2' := Lib.hid c2
          have c3' := Lib.hid c3
          have hNm1' := Lib.hid hNm1
          rw [hm0]
          clear h1 h2 c2 c3 hNm1 hof hm0 hq hq1 hx hNm hc3'
          go_wp2_with (first
            | go_skip | (refine wpList_is (.load 22 (.tmp 62)) rfl ?_; refine wpList_stp (by kernel_rfl) (stp_val (run_ld0 _ _ rfl (hB.stw hS)) ?_)) | (refine wpList_is (.load 4 (.tmp 68)) rfl ?_; refine wpList_stp (by kernel_rfl) (stp_val (run_ld0 _ _ rfl (hB.stw hS)) ?_)) | (refine wpList_is (.binOp .rem _ _ _ _) rfl ?_; refine wpList_stp (by kernel_rfl) (stp_val (run_remv _ _ _ _ rfl) ?_))
            | (go_at_call 13; go_must (with_reducible refine pb_unpin hS hT xk xi xg _ 0 h1'.out h2'.out ?_); clear hS hT; intro E1 w hT hS; unfold Ret)
            | (refine wpList_is (.buildSlice _ _ _) rfl ?_; go_must (refine wpList_stp (by kernel_rfl) (stp_bsl (size := 3) (e := 36) _ 1 [(0, _)] rfl hS (by decide) rfl (by decide) (by decide) ?_)); clear hS; intro bc w _ hS)
            | (refine wpList_is (.call { callee := .builtin .append, args := #[_, _], argTypes := #[_, _] }) rfl ?_; go_must (refine wpList_stp (by kernel_rfl) (stp_ap _ _ _ _ rfl rfl hS (by rfl) (show Sl 36 3 vg gone.length (gone.flatMap olf) Eg from hvg) (by rfl) (by simp only [maxLen]; omega) (by omega) ?_)); clear hS; intro v6 E6 w hsl6 _ hS; have hvg6 := OS.snoc (x := (xk, xi, xg)) hsl6; clear hsl6; have hone6 := hvg6.one)
            | go_skip | (refine wpList_is (.call { callee := .builtin .len, args := #[_], argTypes := #[_] }) rfl ?_; refine wpList_stp (by kernel_rfl) (stp_val (run_lenv _ _ rfl) ?_)) | (refine wpList_is (.slice _ _ none (some _) none) rfl ?_; refine wpList_stp (by kernel_rfl) (stp_val (run_prev _ _ _ rfl) ?_)) | (refine wpList_is (.indexAddr _ _ _) rfl ?_; refine wpList_stp (by kernel_rfl) (stp_val (run_idxv _ _ _ rfl) ?_)) | go_skip | (refine wpList_is (.build _ _) rfl ?_; go_must (refine wpList_stp (by kernel_rfl) (stp_val (run_bd _ _ rfl) ?_))) | (refine wpList_is (.call { callee := .builtin .clear, args := #[_], argTypes := #[_] }) rfl ?_; go_must (refine wpList_stp (by kernel_rfl) (stp_cl _ _ rfl hS (by decide) ?_)); clear hS; intro w hS) | (refine wpList_is (.load _ _) rfl ?_; go_must (first | refine wpList_stp (by kernel_rfl) (stp_val (run_ld _ _ rfl hS) ?_) | refine wpList_stp (by kernel_rfl) (stp_val (run_lda _ _ rfl hS) ?_) | refine wpList_stp (by kernel_rfl) (stp_val (run_ld0 _ _ rfl hS) ?_) | refine wpList_stp (by kernel_rfl) (stp_val (run_lda0 _ _ rfl hS) ?_))) | (refine wpList_is (.store _ _ _) rfl ?_; go_must (first | refine wpList_stp (by kernel_rfl) (stp_st _ _ _ rfl hS ?_) | refine wpList_stp (by kernel_rfl) (stp_sta _ _ _ rfl hS ?_)); clear hS; intro w hS) | (refine wpList_is (.alloc _) rfl ?_; go_must (refine wpList_stp (by kernel_rfl) (stp_al _ rfl hS ?_)); clear hS; intro bN w hbN hS) | (refine wpList_is (.box _ _) rfl ?_; go_must (refine wpList_stp (by kernel_rfl) (stp_bx _ _ rfl hS ?_)); clear hS; intro bN w hbN hS) | (refine wpList_is (.binOp .eql _ _ (.const (.slice none _ _)) _) rfl ?_; refine wpList_stp (by kernel_rfl) (stp_val (run_nse _ _ _ rfl) ?_)) | (refine wpList_is (.binOp .neq _ _ (.const (.slice none _ _)) _) rfl ?_; refine wpList_stp (by kernel_rfl) (stp_val (run_nsn _ _ _ rfl) ?_)))
          have c2 := c2'.out
          have c3 := c3'.out
          have hS : St w0 bs _ (⟨gi, (ins.flatMap hlf ++ spi).toArray, 40, true⟩ :: (E1 ++ E6)) := hS.pick
          refine region_depsE [⟨(undef, []), [(0, [], fun _ _ x => ∃ b', x = (.slice (some ⟨b', 0, none⟩) 0 0, [⟨b', #[], 40, true⟩])), (4, [], fun _ _ x => HS x.1 (ins.take q) x.2), (9, [], fun _ _ x => HS x.1 (ins.take q ++ ins.drop q1) x.2)]⟩]
            (⟨gi, (ins.flatMap hlf ++ spi).toArray, 40, true⟩ :: (E1 ++ E6)) (⟨gi, (ins.flatMap hlf ++ spi).toArray, 40, true⟩ :: (E1 ++ E6)) (by simp) hS (by kernel_rfl) (by kernel_rfl) ?_
          refine dx_turn0 0 0 rfl rfl (by kernel_rfl) (by kernel_rfl) (by kernel_rfl) (by kernel_rfl) (fun _ => rfl) (fun x => x.1) ?_ ?_
          · intro χ X w _ hS
            exact stepX_to 139 rfl (by simp) (stp_bs0 _ rfl (show St w0 bs w (X ++ _) from hS) (fun b' w' _ hS' => ⟨_, rfl, (.slice (some ⟨b', 0, none⟩) 0 0, [⟨b', #[], 40, true⟩]), rfl, ⟨b', rfl⟩, hS'⟩))
          first | (refine dx_val (fun _ => rfl) rfl (fun χ w hw => run_prev _ _ _ rfl) ?_) | (refine dx_val (fun _ => rfl) rfl (fun χ w hw => run_sufv _ _ _ rfl) ?_) | (refine dx_val (fun _ => rfl) rfl (fun χ w hw => run_sumv _ _ _ _ rfl) ?_) | (first | (refine dx_val (fun _ => rfl) rfl (fun χ w hw => run_mv _ rfl) ?_) | (refine dx_val (fun _ => rfl) rfl (fun χ w hw => run_as _ rfl) ?_) | (refine dx_val (fun _ => rfl) rfl (fun χ w hw => run_fa _ _ _ rfl) ?_) | (refine dx_val (fun _ => rfl) rfl (fun χ w hw => run_ld _ _ rfl hw) ?_) | (refine dx_val (fun _ => rfl) rfl (fun χ w hw => run_lda _ _ rfl hw) ?_) | (refine dx_val (fun _ => rfl) rfl (fun χ w hw => run_ld0 _ _ rfl hw) ?_) | (refine dx_val (fun _ => rfl) rfl (fun χ w hw => run_lda0 _ _ rfl hw) ?_) | (refine dx_val (fun _ => rfl) rfl (fun χ w hw => run_ine _ _ _ _ rfl) ?_) | (refine dx_val (fun _ => rfl) rfl (fun χ w hw => run_aeq _ _ _ _ rfl) ?_) | (refine dx_val (fun _ => rfl) rfl (fun χ w hw => run_ane _ _ _ _ rfl) ?_) | (refine dx_val (fun _ => rfl) rfl (fun χ w hw => run_lenv _ _ rfl) ?_) | (refine dx_val (fun _ => rfl) rfl (fun χ w hw => run_idxv _ _ _ rfl) ?_) | (refine dx_val (fun _ => rfl) rfl (fun χ w hw => run_pk1 _ _ _ rfl) ?_) | (refine dx_val (fun _ => rfl) rfl (fun χ w hw => run_pk2 _ _ _ rfl) ?_) | (refine dx_val (fun _ => rfl) rfl (fun χ w hw => run_nse _ _ _ rfl) ?_) | (refine dx_val (fun _ => rfl) rfl (fun χ w hw => run_nsn _ _ _ rfl) ?_) | (refine dx_val (fun _ => rfl) rfl (fun χ w hw => run_bd _ _ rfl) ?_) | (refine dx_val (fun _ => rfl) rfl (fun χ w hw => run_ieq _ _ _ _ rfl) ?_) | (refine dx_val (fun _ => rfl) rfl (fun χ w hw => run_beq _ _ _ _ rfl) ?_) | (refine dx_val (fun _ => rfl) rfl (fun χ w hw => run_bne _ _ _ _ rfl) ?_) | (refine dx_val (fun _ => rfl) rfl (fun χ w hw => run_bnot _ _ rfl) ?_) | (refine dx_val (fun _ => rfl) rfl (fun χ w hw => run_ext _ _ rfl) ?_) | (refine dx_val (fun _ => rfl) rfl (fun χ w hw => run_ilit _ _ _ _ rfl) ?_) | (refine dx_val (fun _ => rfl) rfl (fun χ w hw => run_cvn _ _ _ rfl) ?_) | (refine dx_val (fun _ => rfl) rfl (fun χ w hw => run_remn _ _ _ _ rfl (by decide)) ?_) | (refine dx_val (fun _ => rfl) rfl (fun χ w hw => run_nc _ rfl) ?_) | (refine dx_val (fun _ => rfl) rfl (fun χ w hw => run_inlit _ _ _ _ rfl) ?_) | (refine dx_skip (fun _ => rfl) ?_))
          first | (refine dx_val (fun _ => rfl) rfl (fun χ w hw => run_prev _ _ _ rfl) ?_) | (refine dx_val (fun _ => rfl) rfl (fun χ w hw => run_sufv _ _ _ rfl) ?_) | (refine dx_val (fun _ => rfl) rfl (fun χ w hw => run_sumv _ _ _ _ rfl) ?_) | (first | (refine dx_val (fun _ => rfl) rfl (fun χ w hw => run_mv _ rfl) ?_) | (refine dx_val (fun _ => rfl) rfl (fun χ w hw => run_as _ rfl) ?_) | (refine dx_val (fun _ => rfl) rfl (fun χ w hw => run_fa _ _ _ rfl) ?_) | (refine dx_val (fun _ => rfl) rfl (fun χ w hw => run_ld _ _ rfl hw) ?_) | (refine dx_val (fun _ => rfl) rfl (fun χ w hw => run_lda _ _ rfl hw) ?_) | (refine dx_val (fun _ => rfl) rfl (fun χ w hw => run_ld0 _ _ rfl hw) ?_) | (refine dx_val (fun _ => rfl) rfl (fun χ w hw => run_lda0 _ _ rfl hw) ?_) | (refine dx_val (fun _ => rfl) rfl (fun χ w hw => run_ine _ _ _ _ rfl) ?_) | (refine dx_val (fun _ => rfl) rfl (fun χ w hw => run_aeq _ _ _ _ rfl) ?_) | (refine dx_val (fun _ => rfl) rfl (fun χ w hw => run_ane _ _ _ _ rfl) ?_) | (refine dx_val (fun _ => rfl) rfl (fun χ w hw => run_lenv _ _ rfl) ?_) | (refine dx_val (fun _ => rfl) rfl (fun χ w hw => run_idxv _ _ _ rfl) ?_) | (refine dx_val (fun _ => rfl) rfl (fun χ w hw => run_pk1 _ _ _ rfl) ?_) | (refine dx_val (fun _ => rfl) rfl (fun χ w hw => run_pk2 _ _ _ rfl) ?_) | (refine dx_val (fun _ => rfl) rfl (fun χ w hw => run_nse _ _ _ rfl) ?_) | (refine dx_val (fun _ => rfl) rfl (fun χ w hw => run_nsn _ _ _ rfl) ?_) | (refine dx_val (fun _ => rfl) rfl (fun χ w hw => run_bd _ _ rfl) ?_) | (refine dx_val (fun _ => rfl) rfl (fun χ w hw => run_ieq _ _ _ _ rfl) ?_) | (refine dx_val (fun _ => rfl) rfl (fun χ w hw => run_beq _ _ _ _ rfl) ?_) | (refine dx_val (fun _ => rfl) rfl (fun χ w hw => run_bne _ _ _ _ rfl) ?_) | (refine dx_val (fun _ => rfl) rfl (fun χ w hw => run_bnot _ _ rfl) ?_) | (refine dx_val (fun _ => rfl) rfl (fun χ w hw => run_ext _ _ rfl) ?_) | (refine dx_val (fun _ => rfl) rfl (fun χ w hw => run_ilit _ _ _ _ rfl) ?_) | (refine dx_val (fun _ => rfl) rfl (fun χ w hw => run_cvn _ _ _ rfl) ?_) | (refine dx_val (fun _ => rfl) rfl (fun χ w hw => run_remn _ _ _ _ rfl (by decide)) ?_) | (refine dx_val (fun _ => rfl) rfl (fun χ w hw => run_nc _ rfl) ?_) | (refine dx_val (fun _ => rfl) rfl (fun χ w hw => run_inlit _ _ _ _ rfl) ?_) | (refine dx_skip (fun _ => rfl) ?_))
          first | (refine dx_val (fun _ => rfl) rfl (fun χ w hw => run_prev _ _ _ rfl) ?_) | (refine dx_val (fun _ => rfl) rfl (fun χ w hw => run_sufv _ _ _ rfl) ?_) | (refine dx_val (fun _ => rfl) rfl (fun χ w hw => run_sumv _ _ _ _ rfl) ?_) | (first | (refine dx_val (fun _ => rfl) rfl (fun χ w hw => run_mv _ rfl) ?_) | (refine dx_val (fun _ => rfl) rfl (fun χ w hw => run_as _ rfl) ?_) | (refine dx_val (fun _ => rfl) rfl (fun χ w hw => run_fa _ _ _ rfl) ?_) | (refine dx_val (fun _ => rfl) rfl (fun χ w hw => run_ld _ _ rfl hw) ?_) | (refine dx_val (fun _ => rfl) rfl (fun χ w hw => run_lda _ _ rfl hw) ?_) | (refine dx_val (fun _ => rfl) rfl (fun χ w hw => run_ld0 _ _ rfl hw) ?_) | (refine dx_val (fun _ => rfl) rfl (fun χ w hw => run_lda0 _ _ rfl hw) ?_) | (refine dx_val (fun _ => rfl) rfl (fun χ w hw => run_ine _ _ _ _ rfl) ?_) | (refine dx_val (fun _ => rfl) rfl (fun χ w hw => run_aeq _ _ _ _ rfl) ?_) | (refine dx_val (fun _ => rfl) rfl (fun χ w hw => run_ane _ _ _ _ rfl) ?_) | (refine dx_val (fun _ => rfl) rfl (fun χ w hw => run_lenv _ _ rfl) ?_) | (refine dx_val (fun _ => rfl) rfl (fun χ w hw => run_idxv _ _ _ rfl) ?_) | (refine dx_val (fun _ => rfl) rfl (fun χ w hw => run_pk1 _ _ _ rfl) ?_) | (refine dx_val (fun _ => rfl) rfl (fun χ w hw => run_pk2 _ _ _ rfl) ?_) | (refine dx_val (fun _ => rfl) rfl (fun χ w hw => run_nse _ _ _ rfl) ?_) | (refine dx_val (fun _ => rfl) rfl (fun χ w hw => run_nsn _ _ _ rfl) ?_) | (refine dx_val (fun _ => rfl) rfl (fun χ w hw => run_bd _ _ rfl) ?_) | (refine dx_val (fun _ => rfl) rfl (fun χ w hw => run_ieq _ _ _ _ rfl) ?_) | (refine dx_val (fun _ => rfl) rfl (fun χ w hw => run_beq _ _ _ _ rfl) ?_) | (refine dx_val (fun _ => rfl) rfl (fun χ w hw => run_bne _ _ _ _ rfl) ?_) | (refine dx_val (fun _ => rfl) rfl (fun χ w hw => run_bnot _ _ rfl) ?_) | (refine dx_val (fun _ => rfl) rfl (fun χ w hw => run_ext _ _ rfl) ?_) | (refine dx_val (fun _ => rfl) rfl (fun χ w hw => run_ilit _ _ _ _ rfl) ?_) | (refine dx_val (fun _ => rfl) rfl (fun χ w hw => run_cvn _ _ _ rfl) ?_) | (refine dx_val (fun _ => rfl) rfl (fun χ w hw => run_remn _ _ _ _ rfl (by decide)) ?_) | (refine dx_val (fun _ => rfl) rfl (fun χ w hw => run_nc _ rfl) ?_) | (refine dx_val (fun _ => rfl) rfl (fun χ w hw => run_inlit _ _ _ _ rfl) ?_) | (refine dx_skip (fun _ => rfl) ?_))
          refine dx_turn0 0 1 rfl rfl (by kernel_rfl) (by kernel_rfl) (by kernel_rfl) (by kernel_rfl) (fun _ => rfl) (fun x => x.1) ?_ ?_
          · rintro χ X w ⟨⟨b', hb'⟩, _⟩ hS
            have hS : St w0 bs w ((χ 0).2 ++ (X ++ (⟨gi, (ins.flatMap hlf ++ spi).toArray, 40, true⟩ :: (E1 ++ E6)))) := hS
            rw [hb'] at hS
            simp only [List.cons_append, List.nil_append] at hS
            simp only [hb']
            refine stepX_to 143 rfl (by simp) (stp_ap _ _ _ _ rfl rfl hS (by rfl) sl_zero (by rfl) (by simp only [maxLen]; omega) (by omega) ?_)
            intro v' E' w' hsl' _ hS'
            exact ⟨_, rfl, (v', E'), rfl, HS.of hsl' (by rw [lt'.out]; omega) (by simp), hS'.pick⟩
          first | (refine dx_val (fun _ => rfl) rfl (fun χ w hw => run_prev _ _ _ rfl) ?_) | (refine dx_val (fun _ => rfl) rfl (fun χ w hw => run_sufv _ _ _ rfl) ?_) | (refine dx_val (fun _ => rfl) rfl (fun χ w hw => run_sumv _ _ _ _ rfl) ?_) | (first | (refine dx_val (fun _ => rfl) rfl (fun χ w hw => run_mv _ rfl) ?_) | (refine dx_val (fun _ => rfl) rfl (fun χ w hw => run_as _ rfl) ?_) | (refine dx_val (fun _ => rfl) rfl (fun χ w hw => run_fa _ _ _ rfl) ?_) | (refine dx_val (fun _ => rfl) rfl (fun χ w hw => run_ld _ _ rfl hw) ?_) | (refine dx_val (fun _ => rfl) rfl (fun χ w hw => run_lda _ _ rfl hw) ?_) | (refine dx_val (fun _ => rfl) rfl (fun χ w hw => run_ld0 _ _ rfl hw) ?_) | (refine dx_val (fun _ => rfl) rfl (fun χ w hw => run_lda0 _ _ rfl hw) ?_) | (refine dx_val (fun _ => rfl) rfl (fun χ w hw => run_ine _ _ _ _ rfl) ?_) | (refine dx_val (fun _ => rfl) rfl (fun χ w hw => run_aeq _ _ _ _ rfl) ?_) | (refine dx_val (fun _ => rfl) rfl (fun χ w hw => run_ane _ _ _ _ rfl) ?_) | (refine dx_val (fun _ => rfl) rfl (fun χ w hw => run_lenv _ _ rfl) ?_) | (refine dx_val (fun _ => rfl) rfl (fun χ w hw => run_idxv _ _ _ rfl) ?_) | (refine dx_val (fun _ => rfl) rfl (fun χ w hw => run_pk1 _ _ _ rfl) ?_) | (refine dx_val (fun _ => rfl) rfl (fun χ w hw => run_pk2 _ _ _ rfl) ?_) | (refine dx_val (fun _ => rfl) rfl (fun χ w hw => run_nse _ _ _ rfl) ?_) | (refine dx_val (fun _ => rfl) rfl (fun χ w hw => run_nsn _ _ _ rfl) ?_) | (refine dx_val (fun _ => rfl) rfl (fun χ w hw => run_bd _ _ rfl) ?_) | (refine dx_val (fun _ => rfl) rfl (fun χ w hw => run_ieq _ _ _ _ rfl) ?_) | (refine dx_val (fun _ => rfl) rfl (fun χ w hw => run_beq _ _ _ _ rfl) ?_) | (refine dx_val (fun _ => rfl) rfl (fun χ w hw => run_bne _ _ _ _ rfl) ?_) | (refine dx_val (fun _ => rfl) rfl (fun χ w hw => run_bnot _ _ rfl) ?_) | (refine dx_val (fun _ => rfl) rfl (fun χ w hw => run_ext _ _ rfl) ?_) | (refine dx_val (fun _ => rfl) rfl (fun χ w hw => run_ilit _ _ _ _ rfl) ?_) | (refine dx_val (fun _ => rfl) rfl (fun χ w hw => run_cvn _ _ _ rfl) ?_) | (refine dx_val (fun _ => rfl) rfl (fun χ w hw => run_remn _ _ _ _ rfl (by decide)) ?_) | (refine dx_val (fun _ => rfl) rfl (fun χ w hw => run_nc _ rfl) ?_) | (refine dx_val (fun _ => rfl) rfl (fun χ w hw => run_inlit _ _ _ _ rfl) ?_) | (refine dx_skip (fun _ => rfl) ?_))
          first | (refine dx_val (fun _ => rfl) rfl (fun χ w hw => run_prev _ _ _ rfl) ?_) | (refine dx_val (fun _ => rfl) rfl (fun χ w hw => run_sufv _ _ _ rfl) ?_) | (refine dx_val (fun _ => rfl) rfl (fun χ w hw => run_sumv _ _ _ _ rfl) ?_) | (first | (refine dx_val (fun _ => rfl) rfl (fun χ w hw => run_mv _ rfl) ?_) | (refine dx_val (fun _ => rfl) rfl (fun χ w hw => run_as _ rfl) ?_) | (refine dx_val (fun _ => rfl) rfl (fun χ w hw => run_fa _ _ _ rfl) ?_) | (refine dx_val (fun _ => rfl) rfl (fun χ w hw => run_ld _ _ rfl hw) ?_) | (refine dx_val (fun _ => rfl) rfl (fun χ w hw => run_lda _ _ rfl hw) ?_) | (refine dx_val (fun _ => rfl) rfl (fun χ w hw => run_ld0 _ _ rfl hw) ?_) | (refine dx_val (fun _ => rfl) rfl (fun χ w hw => run_lda0 _ _ rfl hw) ?_) | (refine dx_val (fun _ => rfl) rfl (fun χ w hw => run_ine _ _ _ _ rfl) ?_) | (refine dx_val (fun _ => rfl) rfl (fun χ w hw => run_aeq _ _ _ _ rfl) ?_) | (refine dx_val (fun _ => rfl) rfl (fun χ w hw => run_ane _ _ _ _ rfl) ?_) | (refine dx_val (fun _ => rfl) rfl (fun χ w hw => run_lenv _ _ rfl) ?_) | (refine dx_val (fun _ => rfl) rfl (fun χ w hw => run_idxv _ _ _ rfl) ?_) | (refine dx_val (fun _ => rfl) rfl (fun χ w hw => run_pk1 _ _ _ rfl) ?_) | (refine dx_val (fun _ => rfl) rfl (fun χ w hw => run_pk2 _ _ _ rfl) ?_) | (refine dx_val (fun _ => rfl) rfl (fun χ w hw => run_nse _ _ _ rfl) ?_) | (refine dx_val (fun _ => rfl) rfl (fun χ w hw => run_nsn _ _ _ rfl) ?_) | (refine dx_val (fun _ => rfl) rfl (fun χ w hw => run_bd _ _ rfl) ?_) | (refine dx_val (fun _ => rfl) rfl (fun χ w hw => run_ieq _ _ _ _ rfl) ?_) | (refine dx_val (fun _ => rfl) rfl (fun χ w hw => run_beq _ _ _ _ rfl) ?_) | (refine dx_val (fun _ => rfl) rfl (fun χ w hw => run_bne _ _ _ _ rfl) ?_) | (refine dx_val (fun _ => rfl) rfl (fun χ w hw => run_bnot _ _ rfl) ?_) | (refine dx_val (fun _ => rfl) rfl (fun χ w hw => run_ext _ _ rfl) ?_) | (refine dx_val (fun _ => rfl) rfl (fun χ w hw => run_ilit _ _ _ _ rfl) ?_) | (refine dx_val (fun _ => rfl) rfl (fun χ w hw => run_cvn _ _ _ rfl) ?_) | (refine dx_val (fun _ => rfl) rfl (fun χ w hw => run_remn _ _ _ _ rfl (by decide)) ?_) | (refine dx_val (fun _ => rfl) rfl (fun χ w hw => run_nc _ rfl) ?_) | (refine dx_val (fun _ => rfl) rfl (fun χ w hw => run_inlit _ _ _ _ rfl) ?_) | (refine dx_skip (fun _ => rfl) ?_))
          first | (refine dx_val (fun _ => rfl) rfl (fun χ w hw => run_prev _ _ _ rfl) ?_) | (refine dx_val (fun _ => rfl) rfl (fun χ w hw => run_sufv _ _ _ rfl) ?_) | (refine dx_val (fun _ => rfl) rfl (fun χ w hw => run_sumv _ _ _ _ rfl) ?_) | (first | (refine dx_val (fun _ => rfl) rfl (fun χ w hw => run_mv _ rfl) ?_) | (refine dx_val (fun _ => rfl) rfl (fun χ w hw => run_as _ rfl) ?_) | (refine dx_val (fun _ => rfl) rfl (fun χ w hw => run_fa _ _ _ rfl) ?_) | (refine dx_val (fun _ => rfl) rfl (fun χ w hw => run_ld _ _ rfl hw) ?_) | (refine dx_val (fun _ => rfl) rfl (fun χ w hw => run_lda _ _ rfl hw) ?_) | (refine dx_val (fun _ => rfl) rfl (fun χ w hw => run_ld0 _ _ rfl hw) ?_) | (refine dx_val (fun _ => rfl) rfl (fun χ w hw => run_lda0 _ _ rfl hw) ?_) | (refine dx_val (fun _ => rfl) rfl (fun χ w hw => run_ine _ _ _ _ rfl) ?_) | (refine dx_val (fun _ => rfl) rfl (fun χ w hw => run_aeq _ _ _ _ rfl) ?_) | (refine dx_val (fun _ => rfl) rfl (fun χ w hw => run_ane _ _ _ _ rfl) ?_) | (refine dx_val (fun _ => rfl) rfl (fun χ w hw => run_lenv _ _ rfl) ?_) | (refine dx_val (fun _ => rfl) rfl (fun χ w hw => run_idxv _ _ _ rfl) ?_) | (refine dx_val (fun _ => rfl) rfl (fun χ w hw => run_pk1 _ _ _ rfl) ?_) | (refine dx_val (fun _ => rfl) rfl (fun χ w hw => run_pk2 _ _ _ rfl) ?_) | (refine dx_val (fun _ => rfl) rfl (fun χ w hw => run_nse _ _ _ rfl) ?_) | (refine dx_val (fun _ => rfl) rfl (fun χ w hw => run_nsn _ _ _ rfl) ?_) | (refine dx_val (fun _ => rfl) rfl (fun χ w hw => run_bd _ _ rfl) ?_) | (refine dx_val (fun _ => rfl) rfl (fun χ w hw => run_ieq _ _ _ _ rfl) ?_) | (refine dx_val (fun _ => rfl) rfl (fun χ w hw => run_beq _ _ _ _ rfl) ?_) | (refine dx_val (fun _ => rfl) rfl (fun χ w hw => run_bne _ _ _ _ rfl) ?_) | (refine dx_val (fun _ => rfl) rfl (fun χ w hw => run_bnot _ _ rfl) ?_) | (refine dx_val (fun _ => rfl) rfl (fun χ w hw => run_ext _ _ rfl) ?_) | (refine dx_val (fun _ => rfl) rfl (fun χ w hw => run_ilit _ _ _ _ rfl) ?_) | (refine dx_val (fun _ => rfl) rfl (fun χ w hw => run_cvn _ _ _ rfl) ?_) | (refine dx_val (fun _ => rfl) rfl (fun χ w hw => run_remn _ _ _ _ rfl (by decide)) ?_) | (refine dx_val (fun _ => rfl) rfl (fun χ w hw => run_nc _ rfl) ?_) | (refine dx_val (fun _ => rfl) rfl (fun χ w hw => run_inlit _ _ _ _ rfl) ?_) | (refine dx_skip (fun _ => rfl) ?_))
          first | (refine dx_val (fun _ => rfl) rfl (fun χ w hw => run_prev _ _ _ rfl) ?_) | (refine dx_val (fun _ => rfl) rfl (fun χ w hw => run_sufv _ _ _ rfl) ?_) | (refine dx_val (fun _ => rfl) rfl (fun χ w hw => run_sumv _ _ _ _ rfl) ?_) | (first | (refine dx_val (fun _ => rfl) rfl (fun χ w hw => run_mv _ rfl) ?_) | (refine dx_val (fun _ => rfl) rfl (fun χ w hw => run_as _ rfl) ?_) | (refine dx_val (fun _ => rfl) rfl (fun χ w hw => run_fa _ _ _ rfl) ?_) | (refine dx_val (fun _ => rfl) rfl (fun χ w hw => run_ld _ _ rfl hw) ?_) | (refine dx_val (fun _ => rfl) rfl (fun χ w hw => run_lda _ _ rfl hw) ?_) | (refine dx_val (fun _ => rfl) rfl (fun χ w hw => run_ld0 _ _ rfl hw) ?_) | (refine dx_val (fun _ => rfl) rfl (fun χ w hw => run_lda0 _ _ rfl hw) ?_) | (refine dx_val (fun _ => rfl) rfl (fun χ w hw => run_ine _ _ _ _ rfl) ?_) | (refine dx_val (fun _ => rfl) rfl (fun χ w hw => run_aeq _ _ _ _ rfl) ?_) | (refine dx_val (fun _ => rfl) rfl (fun χ w hw => run_ane _ _ _ _ rfl) ?_) | (refine dx_val (fun _ => rfl) rfl (fun χ w hw => run_lenv _ _ rfl) ?_) | (refine dx_val (fun _ => rfl) rfl (fun χ w hw => run_idxv _ _ _ rfl) ?_) | (refine dx_val (fun _ => rfl) rfl (fun χ w hw => run_pk1 _ _ _ rfl) ?_) | (refine dx_val (fun _ => rfl) rfl (fun χ w hw => run_pk2 _ _ _ rfl) ?_) | (refine dx_val (fun _ => rfl) rfl (fun χ w hw => run_nse _ _ _ rfl) ?_) | (refine dx_val (fun _ => rfl) rfl (fun χ w hw => run_nsn _ _ _ rfl) ?_) | (refine dx_val (fun _ => rfl) rfl (fun χ w hw => run_bd _ _ rfl) ?_) | (refine dx_val (fun _ => rfl) rfl (fun χ w hw => run_ieq _ _ _ _ rfl) ?_) | (refine dx_val (fun _ => rfl) rfl (fun χ w hw => run_beq _ _ _ _ rfl) ?_) | (refine dx_val (fun _ => rfl) rfl (fun χ w hw => run_bne _ _ _ _ rfl) ?_) | (refine dx_val (fun _ => rfl) rfl (fun χ w hw => run_bnot _ _ rfl) ?_) | (refine dx_val (fun _ => rfl) rfl (fun χ w hw => run_ext _ _ rfl) ?_) | (refine dx_val (fun _ => rfl) rfl (fun χ w hw => run_ilit _ _ _ _ rfl) ?_) | (refine dx_val (fun _ => rfl) rfl (fun χ w hw => run_cvn _ _ _ rfl) ?_) | (refine dx_val (fun _ => rfl) rfl (fun χ w hw => run_remn _ _ _ _ rfl (by decide)) ?_) | (refine dx_val (fun _ => rfl) rfl (fun χ w hw => run_nc _ rfl) ?_) | (refine dx_val (fun _ => rfl) rfl (fun χ w hw => run_inlit _ _ _ _ rfl) ?_) | (refine dx_skip (fun _ => rfl) ?_))
          refine dx_turn0 0 2 rfl rfl (by kernel_rfl) (by kernel_rfl) (by kernel_rfl) (by kernel_rfl) (fun _ => rfl) (fun x => x.1) ?_ ?_
          · rintro χ X w ⟨_, hA1, _⟩ hS
            have hS : St w0 bs w ((χ 4).2 ++ (X ++ (⟨gi, (ins.flatMap hlf ++ spi).toArray, 40, true⟩ :: (E1 ++ E6)))) := hS
            have hA1 : HS (χ 4).1 (ins.take q) (χ 4).2 := hA1
            generalize χ 4 = y at hS hA1 ⊢
            have ho8 := hA1.one
            refine stepX_to 148 rfl (by simp) (stp_ap _ _ _ _ rfl rfl hS (by rfl) (show Sl 40 4 y.1 (ins.take q).length ((ins.take q).flatMap hlf) y.2 from hA1) (by rfl) (by rw [lt'.out]; simp only [maxLen]; omega) (by rw [lt'.out]; omega) ?_)
            intro v' E' w' hsl' _ hS'
            exact ⟨_, rfl, (v', E'), rfl, HS.of hsl' (by rw [List.length_append, ld'.out]) (by rw [List.flatMap_append]), hS'.pick⟩
          first | (refine dx_gval (fun _ => rfl) rfl _ (supp_of (j := 9) (by kernel_rfl) (fun x => x.1)) (fun χ w hw => run_mv _ rfl) ?_) | (refine dx_gval (fun _ => rfl) rfl _ (supp_of (j := 9) (by kernel_rfl) (fun x => x.1)) (fun χ w hw => run_as _ rfl) ?_)
          refine dx_end rfl ?_
          intro χ w hok hS
          obtain ⟨_, _, hA2, _⟩ := hok _ (.head _)
          have hA2 : HS (χ 9).1 (ins.take q ++ ins.drop q1) (χ 9).2 := hA2
          have hS : St w0 bs w (((χ 9).2 ++ []) ++ (⟨gi, (ins.flatMap hlf ++ spi).toArray, 40, true⟩ :: (E1 ++ E6))) := hS
          clear hok c2 c3 x1 x2 x3 c1
          generalize (χ 0).1 = v0
          generalize (χ (0 + 1 + 1 + 1 + 1)).1 = v4
          generalize (χ (0 + 1 + 1 + 1 + 1 + 1 + 1 + 1 + 1 + 1)).1 = v5 at hS hA2 ⊢
          generalize (χ 9).2 = E5 at hS hA2
          simp only [List.append_nil] at hS
          have hNm := hNm1'.out
          have hS : St w0 bs _ (E1 ++ (E5 ++ E6)) := hS.pick
          have hvg := hvg6
          have hvi := hA2
          have hone5 := hA2.one
          clear hone hone2 hvg6 hA2 hNm1' h1' h2' hln0 c2' c3'
          obtain ⟨in2, hin2⟩ : ∃ r, ins.take q ++ ins.drop q1 = r := ⟨_, rfl⟩
          obtain ⟨go2, hgo2⟩ : ∃ r, gone ++ [(xk, xi, xg)] = r := ⟨_, rfl⟩
          rw [hin2] at hvi hNm
          rw [hgo2] at hvg hNm
          clear hin2 hgo2 lt' ld' o2 o3 hqm rq s1 d1 d1'
          go_wp2_with (first | go_skip | go_skip | (refine wpList_is (.build _ _) rfl ?_; go_must (refine wpList_stp (by kernel_rfl) (stp_val (run_bd _ _ rfl) ?_))) | (refine wpList_is (.call { callee := .builtin .clear, args := #[_], argTypes := #[_] }) rfl ?_; go_must (refine wpList_stp (by kernel_rfl) (stp_cl _ _ rfl hS (by decide) ?_)); clear hS; intro w hS) | (refine wpList_is (.load _ _) rfl ?_; go_must (first | refine wpList_stp (by kernel_rfl) (stp_val (run_ld _ _ rfl hS) ?_) | refine wpList_stp (by kernel_rfl) (stp_val (run_lda _ _ rfl hS) ?_) | refine wpList_stp (by kernel_rfl) (stp_val (run_ld0 _ _ rfl hS) ?_) | refine wpList_stp (by kernel_rfl) (stp_val (run_lda0 _ _ rfl hS) ?_))) | (refine wpList_is (.store _ _ _) rfl ?_; go_must (first | refine wpList_stp (by kernel_rfl) (stp_st _ _ _ rfl hS ?_) | refine wpList_stp (by kernel_rfl) (stp_sta _ _ _ rfl hS ?_)); clear hS; intro w hS) | (refine wpList_is (.alloc _) rfl ?_; go_must (refine wpList_stp (by kernel_rfl) (stp_al _ rfl hS ?_)); clear hS; intro bN w hbN hS) | (refine wpList_is (.box _ _) rfl ?_; go_must (refine wpList_stp (by kernel_rfl) (stp_bx _ _ rfl hS ?_)); clear hS; intro bN w hbN hS) | (refine wpList_is (.binOp .eql _ _ (.const (.slice none _ _)) _) rfl ?_; refine wpList_stp (by kernel_rfl) (stp_val (run_nse _ _ _ rfl) ?_)) | (refine wpList_is (.binOp .neq _ _ (.const (.slice none _ _)) _) rfl ?_; refine wpList_stp (by kernel_rfl) (stp_val (run_nsn _ _ _ rfl) ?_)))
          have hS : St w0 bs _ (E1 ++ (E5 ++ E6)) := hS.pick
          obtain ⟨m, hm⟩ : ∃ m, in2.length = m := ⟨_, rfl⟩
          have hm' := Lib.hid hm
          have hln : LenV Try.prog 31 v5 m := hvi.len hm
          have hone := hvi.one
          have hone2 := hvg.one
          have h64 := hNm.le64
          rw [hm] at h64
          obtain ⟨us, hus⟩ : ∃ us, ((in2.map (·.2)).sum : Int) = us := ⟨_, rfl⟩
          have hu' : Hid (usP (some (some (moB b, L'))) = us) := Lib.hid (by rw [← hus, ← hNm.us]; rfl)
          have hl' : Hid ((allP (some (some (moB b, L')))).length = m) := Lib.hid (by rw [allP_L, hNm.cnt, hm])
          have hus' := Lib.hid hus
          have hbd : ∀ x ∈ in2, 0 ≤ x.2 ∧ x.2 ≤ 65536 := fun x hx => by
            obtain ⟨i, hi, _, _, h3⟩ := hNm.ins_ x hx
            have := (hNm.w.by_ _ (getDm hi)).1 (by show (bfA L' i).1 = 1; rw [h3])
            rw [show L'.getD i (0, 0, 0) = (1, x.1.2.2, x.2) from h3] at this
            simp only at this
            omega
          clear hm hus
          obtain ⟨wo, hwo⟩ : ∃ wo : World, wo = w := ⟨_, rfl⟩
          clear hwo
          go_loopw [19, 20] (fun u0 s0 wz => ∃ (q : Nat) (_ : Unit), q ≤ m ∧ u0 = .int .i64 (((in2.take q).map (·.2)).sum) ∧ s0 = .int .i64 q ∧ St w0 bs wz (E1 ++ (E5 ++ E6))) (fun _ s0 _ => m - (intOf s0).toNat)
          case atStart => exact ⟨0, (), Nat.zero_le _, rfl, rfl, hS⟩
          case round =>
            clear hS
            obtain ⟨q, _, hq, rfl, rfl, hS⟩ := hrel
            by_cases hlq : q < m
            · have hql : q < in2.length := by rw [hm'.out]; exact hlq
              obtain ⟨⟨⟨xk, xi, xg⟩, xn⟩, hx⟩ : ∃ x, in2[q]? = some x := ⟨_, List.getElem?_eq_getElem hql⟩
              have hxm := List.mem_of_getElem? hx
              obtain ⟨f1, f2⟩ := hNm.isIn hxm
              simp only at f1 f2
              have f1' := Lib.hid f1
              have f2' := Lib.hid f2
              obtain ⟨gq, spq, iq, hHq, cq, cq3⟩ := hvi.at hql hx
              have iq := iq q rfl
              simp only at cq cq3
              obtain ⟨uq, huq⟩ : ∃ uq, (((in2.take q).map (·.2)).sum : Int) = uq := ⟨_, rfl⟩
              have huq2 : (((in2.take (q + 1)).map (·.2)).sum : Int) = uq + xn := by
                rw [List.take_add_one, hx, List.map_append, List.sum_append, huq]
                simp
              have hb1 := sum_bd0 (f := fun x : Hd => x.2) (in2.take q) (fun x hx => hbd x (List.mem_of_mem_take hx))
              have hb2 := hbd _ hxm
              rw [List.length_take, huq] at hb1
              have sq : SumIs uq xn (uq + xn) := ⟨rfl, by simp only at hb2; omega, by simp only at hb2; omega⟩
              have huq2' := Lib.hid huq2
              rw [huq]
              clear hxm f1 f2 hx huq huq2 hb1 hb2
              go_wp2_with (first
                | go_skip
                | (refine wpList_is (.binOp .add _ (.tmp 176) _ _) rfl ?_; refine wpList_stp (by kernel_rfl) (stp_val (run_sumv _ _ _ _ rfl) ?_))
                | (go_at_call 14; go_must (with_reducible refine pb_bytes hS hT xk xi xg xn 0 f2'.out f1'.out ?_); clear hS; intro w _ hS; unfold Ret)
                | go_skip | (refine wpList_is (.call { callee := .builtin .len, args := #[_], argTypes := #[_] }) rfl ?_; refine wpList_stp (by kernel_rfl) (stp_val (run_lenv _ _ rfl) ?_)) | (refine wpList_is (.slice _ _ none (some _) none) rfl ?_; refine wpList_stp (by kernel_rfl) (stp_val (run_prev _ _ _ rfl) ?_)) | (refine wpList_is (.indexAddr _ _ _) rfl ?_; refine wpList_stp (by kernel_rfl) (stp_val (run_idxv _ _ _ rfl) ?_)) | go_skip | (refine wpList_is (.build _ _) rfl ?_; go_must (refine wpList_stp (by kernel_rfl) (stp_val (run_bd _ _ rfl) ?_))) | (refine wpList_is (.call { callee := .builtin .clear, args := #[_], argTypes := #[_] }) rfl ?_; go_must (refine wpList_stp (by kernel_rfl) (stp_cl _ _ rfl hS (by decide) ?_)); clear hS; intro w hS) | (refine wpList_is (.load _ _) rfl ?_; go_must (first | refine wpList_stp (by kernel_rfl) (stp_val (run_ld _ _ rfl hS) ?_) | refine wpList_stp (by kernel_rfl) (stp_val (run_lda _ _ rfl hS) ?_) | refine wpList_stp (by kernel_rfl) (stp_val (run_ld0 _ _ rfl hS) ?_) | refine wpList_stp (by kernel_rfl) (stp_val (run_lda0 _ _ rfl hS) ?_))) | (refine wpList_is (.store _ _ _) rfl ?_; go_must (first | refine wpList_stp (by kernel_rfl) (stp_st _ _ _ rfl hS ?_) | refine wpList_stp (by kernel_rfl) (stp_sta _ _ _ rfl hS ?_)); clear hS; intro w hS) | (refine wpList_is (.alloc _) rfl ?_; go_must (refine wpList_stp (by kernel_rfl) (stp_al _ rfl hS ?_)); clear hS; intro bN w hbN hS) | (refine wpList_is (.box _ _) rfl ?_; go_must (refine wpList_stp (by kernel_rfl) (stp_bx _ _ rfl hS ?_)); clear hS; intro bN w hbN hS) | (refine wpList_is (.binOp .eql _ _ (.const (.slice none _ _)) _) rfl ?_; refine wpList_stp (by kernel_rfl) (stp_val (run_nse _ _ _ rfl) ?_)) | (refine wpList_is (.binOp .neq _ _ (.const (.slice none _ _)) _) rfl ?_; refine wpList_stp (by kernel_rfl) (stp_val (run_nsn _ _ _ rfl) ?_)))
              go_roundw
              case rel => exact ⟨q + 1, (), by omega, by rw [huq2'.out], by go_num, hS.pick⟩
              case measure => simp [intOf]; omega
            · obtain rfl : q = m := by omega
              have hfull : (((in2.take q).map (·.2)).sum : Int) = us := by rw [List.take_of_length_le (by rw [hm'.out]; exact Nat.le_refl _)]; exact hus'.out
              rw [hfull]
              clear hfull hlq
              go_wp2_with (first
                | go_skip
                | (go_at_call 15; refine pb_used hS hT us hu'.out ?_; clear hS; intro w hS; unfold Ret)
                | (go_at_call 16; refine pb_len hS hT q hl'.out ?_; clear hS; intro w hS; unfold Ret)
                | (go_at_call 17; go_must (refine pb_all hS hT ?_); clear hS; intro v9 E9 w hL hS; have hone9 := hL.one; have hln9 := hL.len hl'.out; unfold Ret)
                | go_skip | (refine wpList_is (.call { callee := .builtin .len, args := #[_], argTypes := #[_] }) rfl ?_; refine wpList_stp (by kernel_rfl) (stp_val (run_lenv _ _ rfl) ?_)) | (refine wpList_is (.slice _ _ none (some _) none) rfl ?_; refine wpList_stp (by kernel_rfl) (stp_val (run_prev _ _ _ rfl) ?_)) | (refine wpList_is (.indexAddr _ _ _) rfl ?_; refine wpList_stp (by kernel_rfl) (stp_val (run_idxv _ _ _ rfl) ?_)) | go_skip | (refine wpList_is (.build _ _) rfl ?_; go_must (refine wpList_stp (by kernel_rfl) (stp_val (run_bd _ _ rfl) ?_))) | (refine wpList_is (.call { callee := .builtin .clear, args := #[_], argTypes := #[_] }) rfl ?_; go_must (refine wpList_stp (by kernel_rfl) (stp_cl _ _ rfl hS (by decide) ?_)); clear hS; intro w hS) | (refine wpList_is (.load _ _) rfl ?_; go_must (first | refine wpList_stp (by kernel_rfl) (stp_val (run_ld _ _ rfl hS) ?_) | refine wpList_stp (by kernel_rfl) (stp_val (run_lda _ _ rfl hS) ?_) | refine wpList_stp (by kernel_rfl) (stp_val (run_ld0 _ _ rfl hS) ?_) | refine wpList_stp (by kernel_rfl) (stp_val (run_lda0 _ _ rfl hS) ?_))) | (refine wpList_is (.store _ _ _) rfl ?_; go_must (first | refine wpList_stp (by kernel_rfl) (stp_st _ _ _ rfl hS ?_) | refine wpList_stp (by kernel_rfl) (stp_sta _ _ _ rfl hS ?_)); clear hS; intro w hS) | (refine wpList_is (.alloc _) rfl ?_; go_must (refine wpList_stp (by kernel_rfl) (stp_al _ rfl hS ?_)); clear hS; intro bN w hbN hS) | (refine wpList_is (.box _ _) rfl ?_; go_must (refine wpList_stp (by kernel_rfl) (stp_bx _ _ rfl hS ?_)); clear hS; intro bN w hbN hS) | (refine wpList_is (.binOp .eql _ _ (.const (.slice none _ _)) _) rfl ?_; refine wpList_stp (by kernel_rfl) (stp_val (run_nse _ _ _ rfl) ?_)) | (refine wpList_is (.binOp .neq _ _ (.const (.slice none _ _)) _) rfl ?_; refine wpList_stp (by kernel_rfl) (stp_val (run_nsn _ _ _ rfl) ?_)))
              go_roundw
              case rel => exact ⟨_, _, k + 1, w0, bs, L', seen, in2, go2, E1, E5, E6, by omega, by go_num, hB, hS.pick, hT, rfl, rfl, hvi, hvg, hNm⟩
              case measure => simp [intOf]; omega
    · obtain rfl : k = n := by omega
      obtain ⟨ng, hng⟩ : ∃ ng, gone.length = ng := ⟨_, rfl⟩
      have hng' := Lib.hid hng
      have hlg : LenV Try.prog 32 vg ng := hvg.len hng
      have hgl := hNm.c
      obtain ⟨m, hm⟩ : ∃ m, (allL L).length = m := ⟨_, rfl⟩
      have hm64 := hNm.le64
      rw [← hNm.cnt, hm] at hm64
      have hl' : Hid ((allP (some (some (moB b, L)))).length = m) := Lib.hid hm
      have hm' := Lib.hid hm
      clear hng hm
      go_wp2_with (first | go_skip | go_skip | (refine wpList_is (.call { callee := .builtin .len, args := #[_], argTypes := #[_] }) rfl ?_; refine wpList_stp (by kernel_rfl) (stp_val (run_lenv _ _ rfl) ?_)) | (refine wpList_is (.slice _ _ none (some _) none) rfl ?_; refine wpList_stp (by kernel_rfl) (stp_val (run_prev _ _ _ rfl) ?_)) | (refine wpList_is (.indexAddr _ _ _) rfl ?_; refine wpList_stp (by kernel_rfl) (stp_val (run_idxv _ _ _ rfl) ?_)) | go_skip | (refine wpList_is (.build _ _) rfl ?_; go_must (refine wpList_stp (by kernel_rfl) (stp_val (run_bd _ _ rfl) ?_))) | (refine wpList_is (.call { callee := .builtin .clear, args := #[_], argTypes := #[_] }) rfl ?_; go_must (refine wpList_stp (by kernel_rfl) (stp_cl _ _ rfl hS (by decide) ?_)); clear hS; intro w hS) | (refine wpList_is (.load _ _) rfl ?_; go_must (first | refine wpList_stp (by kernel_rfl) (stp_val (run_ld _ _ rfl hS) ?_) | refine wpList_stp (by kernel_rfl) (stp_val (run_lda _ _ rfl hS) ?_) | refine wpList_stp (by kernel_rfl) (stp_val (run_ld0 _ _ rfl hS) ?_) | refine wpList_stp (by kernel_rfl) (stp_val (run_lda0 _ _ rfl hS) ?_))) | (refine wpList_is (.store _ _ _) rfl ?_; go_must (first | refine wpList_stp (by kernel_rfl) (stp_st _ _ _ rfl hS ?_) | refine wpList_stp (by kernel_rfl) (stp_sta _ _ _ rfl hS ?_)); clear hS; intro w hS) | (refine wpList_is (.alloc _) rfl ?_; go_must (refine wpList_stp (by kernel_rfl) (stp_al _ rfl hS ?_)); clear hS; intro bN w hbN hS) | (refine wpList_is (.box _ _) rfl ?_; go_must (refine wpList_stp (by kernel_rfl) (stp_bx _ _ rfl hS ?_)); clear hS; intro bN w hbN hS) | (refine wpList_is (.binOp .eql _ _ (.const (.slice none _ _)) _) rfl ?_; refine wpList_stp (by kernel_rfl) (stp_val (run_nse _ _ _ rfl) ?_)) | (refine wpList_is (.binOp .neq _ _ (.const (.slice none _ _)) _) rfl ?_; refine wpList_stp (by kernel_rfl) (stp_val (run_nsn _ _ _ rfl) ?_)))
      obtain ⟨wo, hwo⟩ : ∃ wo : World, wo = w := ⟨_, rfl⟩
      clear hwo
      have hS0 := hS
      have hT0 := hT
      clear hS hT
      go_loopw [23] (fun s0 wz => ∃ (q : Nat) (E : List Ent), q ≤ ng ∧ s0 = .int .i64 q ∧ PA p (some (some (moB b, L))) E ∧ St w0 bs wz (E ++ Eg)) (fun s0 _ => ng - (intOf s0).toNat)
      case atStart => exact ⟨0, E, Nat.zero_le _, rfl, hT0, hS0.pick⟩
      case round =>
        clear hS0 hT0
        obtain ⟨q, E, hq, rfl, hT, hS⟩ := hrel
        by_cases hlq : q < ng
        · have hql : q < gone.length := by rw [hng'.out]; exact hlq
          obtain ⟨⟨xk, xi, xg⟩, hx⟩ : ∃ x, gone.getD q (0, 0, 0) = x := ⟨_, rfl⟩
          have hxm : (xk, xi, xg) ∈ gone := by rw [← hx, List.getD_eq_getElem?_getD, List.getElem?_eq_getElem hql]; exact List.getElem_mem hql
          obtain ⟨f1, f2, f3⟩ := hNm.isGone hxm
          simp only at f1 f2 f3
          have f1' := Lib.hid f1
          have f2' := Lib.hid f2
          have f3' := Lib.hid f3
          obtain ⟨gq, spq, iq, hHq, cq⟩ := hvg.at hql hx
          have iq := iq q rfl
          simp only at cq
          clear hxm f1 f2 f3 hx
          go_wp2_with (first
            | go_skip
            | (go_at_call 14; go_must (with_reducible refine pb_bytes hS hT xk xi xg 0 7 f2'.out f1'.out ?_); clear hS; intro w _ hS; unfold Ret)
            | (go_at_call 13; go_must (with_reducible refine pb_unpin hS hT xk xi xg _ 7 f3'.out f1'.out ?_); clear hS hT; intro E w hT hS; unfold Ret)
            | go_skip | (refine wpList_is (.call { callee := .builtin .len, args := #[_], argTypes := #[_] }) rfl ?_; refine wpList_stp (by kernel_rfl) (stp_val (run_lenv _ _ rfl) ?_)) | (refine wpList_is (.slice _ _ none (some _) none) rfl ?_; refine wpList_stp (by kernel_rfl) (stp_val (run_prev _ _ _ rfl) ?_)) | (refine wpList_is (.indexAddr _ _ _) rfl ?_; refine wpList_stp (by kernel_rfl) (stp_val (run_idxv _ _ _ rfl) ?_)) | go_skip | (refine wpList_is (.build _ _) rfl ?_; go_must (refine wpList_stp (by kernel_rfl) (stp_val (run_bd _ _ rfl) ?_))) | (refine wpList_is (.call { callee := .builtin .clear, args := #[_], argTypes := #[_] }) rfl ?_; go_must (refine wpList_stp (by kernel_rfl) (stp_cl _ _ rfl hS (by decide) ?_)); clear hS; intro w hS) | (refine wpList_is (.load _ _) rfl ?_; go_must (first | refine wpList_stp (by kernel_rfl) (stp_val (run_ld _ _ rfl hS) ?_) | refine wpList_stp (by kernel_rfl) (stp_val (run_lda _ _ rfl hS) ?_) | refine wpList_stp (by kernel_rfl) (stp_val (run_ld0 _ _ rfl hS) ?_) | refine wpList_stp (by kernel_rfl) (stp_val (run_lda0 _ _ rfl hS) ?_))) | (refine wpList_is (.store _ _ _) rfl ?_; go_must (first | refine wpList_stp (by kernel_rfl) (stp_st _ _ _ rfl hS ?_) | refine wpList_stp (by kernel_rfl) (stp_sta _ _ _ rfl hS ?_)); clear hS; intro w hS) | (refine wpList_is (.alloc _) rfl ?_; go_must (refine wpList_stp (by kernel_rfl) (stp_al _ rfl hS ?_)); clear hS; intro bN w hbN hS) | (refine wpList_is (.box _ _) rfl ?_; go_must (refine wpList_stp (by kernel_rfl) (stp_bx _ _ rfl hS ?_)); clear hS; intro bN w hbN hS) | (refine wpList_is (.binOp .eql _ _ (.const (.slice none _ _)) _) rfl ?_; refine wpList_stp (by kernel_rfl) (stp_val (run_nse _ _ _ rfl) ?_)) | (refine wpList_is (.binOp .neq _ _ (.const (.slice none _ _)) _) rfl ?_; refine wpList_stp (by kernel_rfl) (stp_val (run_nsn _ _ _ rfl) ?_)))
          go_roundw
          case rel => exact ⟨q + 1, _, by omega, by go_num, hT, hS.pick⟩
          case measure => simp [intOf]; omega
        · obtain rfl : q = ng := by omega
          clear hlq
          go_wp2_with (first
            | go_skip
            | (go_at_call 17; go_must (refine pb_all hS hT ?_); clear hS; intro v9 E9 w hL hS; have hone9 := hL.one; have hln9 := hL.len hl'.out; unfold Ret)
            | go_skip | (refine wpList_is (.call { callee := .builtin .len, args := #[_], argTypes := #[_] }) rfl ?_; refine wpList_stp (by kernel_rfl) (stp_val (run_lenv _ _ rfl) ?_)) | (refine wpList_is (.slice _ _ none (some _) none) rfl ?_; refine wpList_stp (by kernel_rfl) (stp_val (run_prev _ _ _ rfl) ?_)) | (refine wpList_is (.indexAddr _ _ _) rfl ?_; refine wpList_stp (by kernel_rfl) (stp_val (run_idxv _ _ _ rfl) ?_)) | go_skip | (refine wpList_is (.build _ _) rfl ?_; go_must (refine wpList_stp (by kernel_rfl) (stp_val (run_bd _ _ rfl) ?_))) | (refine wpList_is (.call { callee := .builtin .clear, args := #[_], argTypes := #[_] }) rfl ?_; go_must (refine wpList_stp (by kernel_rfl) (stp_cl _ _ rfl hS (by decide) ?_)); clear hS; intro w hS) | (refine wpList_is (.load _ _) rfl ?_; go_must (first | refine wpList_stp (by kernel_rfl) (stp_val (run_ld _ _ rfl hS) ?_) | refine wpList_stp (by kernel_rfl) (stp_val (run_lda _ _ rfl hS) ?_) | refine wpList_stp (by kernel_rfl) (stp_val (run_ld0 _ _ rfl hS) ?_) | refine wpList_stp (by kernel_rfl) (stp_val (run_lda0 _ _ rfl hS) ?_))) | (refine wpList_is (.store _ _ _) rfl ?_; go_must (first | refine wpList_stp (by kernel_rfl) (stp_st _ _ _ rfl hS ?_) | refine wpList_stp (by kernel_rfl) (stp_sta _ _ _ rfl hS ?_)); clear hS; intro w hS) | (refine wpList_is (.alloc _) rfl ?_; go_must (refine wpList_stp (by kernel_rfl) (stp_al _ rfl hS ?_)); clear hS; intro bN w hbN hS) | (refine wpList_is (.box _ _) rfl ?_; go_must (refine wpList_stp (by kernel_rfl) (stp_bx _ _ rfl hS ?_)); clear hS; intro bN w hbN hS) | (refine wpList_is (.binOp .eql _ _ (.const (.slice none _ _)) _) rfl ?_; refine wpList_stp (by kernel_rfl) (stp_val (run_nse _ _ _ rfl) ?_)) | (refine wpList_is (.binOp .neq _ _ (.const (.slice none _ _)) _) rfl ?_; refine wpList_stp (by kernel_rfl) (stp_val (run_nsn _ _ _ rfl) ?_)))
          have hL : OS v9 (allL L) E9 := hL
          have hS : St w0 bs _ E9 := hS.pick
          obtain ⟨wo2, hwo2⟩ : ∃ wo : World, wo = w := ⟨_, rfl⟩
          clear hwo2 hT
          have hS0 := hS
          clear hS
          go_loopw [27] (fun s0 wz => ∃ (q : Nat) (_ : Unit), q ≤ m ∧ s0 = .int .i64 q ∧ St w0 bs wz E9) (fun s0 _ => m - (intOf s0).toNat)
          case atStart => exact ⟨0, (), Nat.zero_le _, rfl, hS0⟩
          case round =>
            clear hS0
            obtain ⟨q, _, hq, rfl, hS⟩ := hrel
            by_cases hlq : q < m
            · have hql : q < (allL L).length := by rw [hm'.out]; exact hlq
              obtain ⟨⟨s1, s2, s3⟩, hx⟩ : ∃ x, (allL L).getD q (0, 0, 0) = x := ⟨_, rfl⟩
              have hin := hNm.allIn hql
              rw [hx] at hin
              obtain ⟨ga, spa, ia, hHa, hca⟩ := hL.at hql hx
              have ia := ia q rfl
              simp only at hca
              have ca1 : CellAt (blk [] olf (allL L) spa) (q * 3 + 1) (.int .i64 s2) := ⟨by have := hca.h 1 (by decide); simpa using this⟩
              have hlk : ∀ w H, St w0 bs w H → LookIs Try.prog w 30 M #[.int .i64 s1, .int .i64 s2, .int .u32 s3] false (.bool true) := fun w H hS => seen_yes (hB.now hS) hin
              clear hin
              by_cases h0 : q = 0
              · have d0 : decide (0 < (q : Int)) = false := decide_eq_false (by omega)
                have d0' : decide (0 < q) = false := decide_eq_false (by omega)
                clear hx
                go_wp2_with (first | go_skip | (refine region_quiet hS (by kernel_rfl) (by kernel_rfl) (fun hne => ?_); (repeat (first | go_big_quiet_skip | (go_big_quiet_want; first | (refine quiet_is (.lookup _ _ _ _) rfl ?_; refine quiet_at sw_st (fun w hS => run_look _ _ _ rfl (hlk _ _ hS)) ?_; go_big_quiet_on) | (refine quiet_is (.load _ _) rfl ?_; go_must (first | refine quiet_at sw_st (fun w hS => run_ld _ _ rfl hS) ?_ | refine quiet_at sw_st (fun w hS => run_lda _ _ rfl hS) ?_ | refine quiet_at sw_st (fun w hS => run_ld0 _ _ rfl hS) ?_ | refine quiet_at sw_st (fun w hS => run_lda0 _ _ rfl hS) ?_); go_big_quiet_on) | (refine quiet_is (.binOp .eql _ _ (.const (.slice none _ _)) _) rfl ?_; refine quiet_val (fun w _ => run_nse _ _ _ rfl) ?_; go_big_quiet_on) | (refine quiet_is (.binOp .neq _ _ (.const (.slice none _ _)) _) rfl ?_; refine quiet_val (fun w _ => run_nsn _ _ _ rfl) ?_; go_big_quiet_on) | (refine quiet_is (.call { callee := .builtin .len, args := #[_], argTypes := #[_] }) rfl ?_; refine quiet_val (fun w _ => run_lenv _ _ rfl) ?_; go_big_quiet_on) | (refine quiet_is (.indexAddr _ _ _) rfl ?_; refine quiet_val (fun w _ => run_idxv _ _ _ rfl) ?_; go_big_quiet_on) | (refine quiet_is (.binOp .eql _ _ _ _) rfl ?_; refine quiet_val (fun w _ => run_aeq _ _ _ _ rfl) ?_; go_big_quiet_on) | (refine quiet_is (.binOp .neq _ _ _ _) rfl ?_; refine quiet_val (fun w _ => run_ane _ _ _ _ rfl) ?_; go_big_quiet_on) | (go_big_quiet_op; go_big_quiet_on)))); refine wpQuiet_nil ?_; clear hS hne; intro w hS) | go_skip | (refine wpList_is (.call { callee := .builtin .len, args := #[_], argTypes := #[_] }) rfl ?_; refine wpList_stp (by kernel_rfl) (stp_val (run_lenv _ _ rfl) ?_)) | (refine wpList_is (.slice _ _ none (some _) none) rfl ?_; refine wpList_stp (by kernel_rfl) (stp_val (run_prev _ _ _ rfl) ?_)) | (refine wpList_is (.indexAddr _ _ _) rfl ?_; refine wpList_stp (by kernel_rfl) (stp_val (run_idxv _ _ _ rfl) ?_)) | go_skip | (refine wpList_is (.build _ _) rfl ?_; go_must (refine wpList_stp (by kernel_rfl) (stp_val (run_bd _ _ rfl) ?_))) | (refine wpList_is (.call { callee := .builtin .clear, args := #[_], argTypes := #[_] }) rfl ?_; go_must (refine wpList_stp (by kernel_rfl) (stp_cl _ _ rfl hS (by decide) ?_)); clear hS; intro w hS) | (refine wpList_is (.load _ _) rfl ?_; go_must (first | refine wpList_stp (by kernel_rfl) (stp_val (run_ld _ _ rfl hS) ?_) | refine wpList_stp (by kernel_rfl) (stp_val (run_lda _ _ rfl hS) ?_) | refine wpList_stp (by kernel_rfl) (stp_val (run_ld0 _ _ rfl hS) ?_) | refine wpList_stp (by kernel_rfl) (stp_val (run_lda0 _ _ rfl hS) ?_))) | (refine wpList_is (.store _ _ _) rfl ?_; go_must (first | refine wpList_stp (by kernel_rfl) (stp_st _ _ _ rfl hS ?_) | refine wpList_stp (by kernel_rfl) (stp_sta _ _ _ rfl hS ?_)); clear hS; intro w hS) | (refine wpList_is (.alloc _) rfl ?_; go_must (refine wpList_stp (by kernel_rfl) (stp_al _ rfl hS ?_)); clear hS; intro bN w hbN hS) | (refine wpList_is (.box _ _) rfl ?_; go_must (refine wpList_stp (by kernel_rfl) (stp_bx _ _ rfl hS ?_)); clear hS; intro bN w hbN hS) | (refine wpList_is (.binOp .eql _ _ (.const (.slice none _ _)) _) rfl ?_; refine wpList_stp (by kernel_rfl) (stp_val (run_nse _ _ _ rfl) ?_)) | (refine wpList_is (.binOp .neq _ _ (.const (.slice none _ _)) _) rfl ?_; refine wpList_stp (by kernel_rfl) (stp_val (run_nsn _ _ _ rfl) ?_)))
                go_roundw
                case rel => exact ⟨q + 1, (), by omega, by go_num, hS.pick⟩
                case measure => simp [intOf]; omega
              · have d0 : decide (0 < (q : Int)) = true := decide_eq_true (by omega)
                have d0' : decide (0 < q) = true := decide_eq_true (by omega)
                obtain ⟨⟨t1, t2, t3⟩, hy⟩ : ∃ x, (allL L).getD (q - 1) (0, 0, 0) = x := ⟨_, rfl⟩
                have hql1 : q - 1 < (allL L).length := by omega
                have hlt13 : t2 < s2 := by
                  have hs := List.pairwise_iff_getElem.1 (al_sortedB L) (q - 1) q hql1 hql (by omega)
                  have e1 : (allL L)[q] = (s1, s2, s3) := by rw [← hx, List.getD_eq_getElem?_getD, List.getElem?_eq_getElem hql]; rfl
                  have e2 : (allL L)[q - 1] = (t1, t2, t3) := by rw [← hy, List.getD_eq_getElem?_getD, List.getElem?_eq_getElem hql1]; rfl
                  rw [e1, e2] at hs
                  exact hs
                have d3 : decide (s2 ≤ t2) = false := decide_eq_false (by omega)
                obtain ⟨gc, spc, ic, hHc, hcc⟩ := hL.at hql1 hy
                have ic := ic ((q : Int) - 1) (by omega)
                simp only at hcc
                have cc1 : CellAt (blk [] olf (allL L) spc) ((q - 1) * 3 + 1) (.int .i64 t2) := ⟨by have := hcc.h 1 (by decide); simpa using this⟩
                clear hx hy hlt13
                go_wp2_with (first | go_skip | (refine region_quiet hS (by kernel_rfl) (by kernel_rfl) (fun hne => ?_); (repeat (first | go_big_quiet_skip | (go_big_quiet_want; first | (refine quiet_is (.lookup _ _ _ _) rfl ?_; refine quiet_at sw_st (fun w hS => run_look _ _ _ rfl (hlk _ _ hS)) ?_; go_big_quiet_on) | (refine quiet_is (.load _ _) rfl ?_; go_must (first | refine quiet_at sw_st (fun w hS => run_ld _ _ rfl hS) ?_ | refine quiet_at sw_st (fun w hS => run_lda _ _ rfl hS) ?_ | refine quiet_at sw_st (fun w hS => run_ld0 _ _ rfl hS) ?_ | refine quiet_at sw_st (fun w hS => run_lda0 _ _ rfl hS) ?_); go_big_quiet_on) | (refine quiet_is (.binOp .eql _ _ (.const (.slice none _ _)) _) rfl ?_; refine quiet_val (fun w _ => run_nse _ _ _ rfl) ?_; go_big_quiet_on) | (refine quiet_is (.binOp .neq _ _ (.const (.slice none _ _)) _) rfl ?_; refine quiet_val (fun w _ => run_nsn _ _ _ rfl) ?_; go_big_quiet_on) | (refine quiet_is (.call { callee := .builtin .len, args := #[_], argTypes := #[_] }) rfl ?_; refine quiet_val (fun w _ => run_lenv _ _ rfl) ?_; go_big_quiet_on) | (refine quiet_is (.indexAddr _ _ _) rfl ?_; refine quiet_val (fun w _ => run_idxv _ _ _ rfl) ?_; go_big_quiet_on) | (refine quiet_is (.binOp .eql _ _ _ _) rfl ?_; refine quiet_val (fun w _ => run_aeq _ _ _ _ rfl) ?_; go_big_quiet_on) | (refine quiet_is (.binOp .neq _ _ _ _) rfl ?_; refine quiet_val (fun w _ => run_ane _ _ _ _ rfl) ?_; go_big_quiet_on) | (go_big_quiet_op; go_big_quiet_on)))); refine wpQuiet_nil ?_; clear hS hne; intro w hS) | go_skip | (refine wpList_is (.call { callee := .builtin .len, args := #[_], argTypes := #[_] }) rfl ?_; refine wpList_stp (by kernel_rfl) (stp_val (run_lenv _ _ rfl) ?_)) | (refine wpList_is (.slice _ _ none (some _) none) rfl ?_; refine wpList_stp (by kernel_rfl) (stp_val (run_prev _ _ _ rfl) ?_)) | (refine wpList_is (.indexAddr _ _ _) rfl ?_; refine wpList_stp (by kernel_rfl) (stp_val (run_idxv _ _ _ rfl) ?_)) | go_skip | (refine wpList_is (.build _ _) rfl ?_; go_must (refine wpList_stp (by kernel_rfl) (stp_val (run_bd _ _ rfl) ?_))) | (refine wpList_is (.call { callee := .builtin .clear, args := #[_], argTypes := #[_] }) rfl ?_; go_must (refine wpList_stp (by kernel_rfl) (stp_cl _ _ rfl hS (by decide) ?_)); clear hS; intro w hS) | (refine wpList_is (.load _ _) rfl ?_; go_must (first | refine wpList_stp (by kernel_rfl) (stp_val (run_ld _ _ rfl hS) ?_) | refine wpList_stp (by kernel_rfl) (stp_val (run_lda _ _ rfl hS) ?_) | refine wpList_stp (by kernel_rfl) (stp_val (run_ld0 _ _ rfl hS) ?_) | refine wpList_stp (by kernel_rfl) (stp_val (run_lda0 _ _ rfl hS) ?_))) | (refine wpList_is (.store _ _ _) rfl ?_; go_must (first | refine wpList_stp (by kernel_rfl) (stp_st _ _ _ rfl hS ?_) | refine wpList_stp (by kernel_rfl) (stp_sta _ _ _ rfl hS ?_)); clear hS; intro w hS) | (refine wpList_is (.alloc _) rfl ?_; go_must (refine wpList_stp (by kernel_rfl) (stp_al _ rfl hS ?_)); clear hS; intro bN w hbN hS) | (refine wpList_is (.box _ _) rfl ?_; go_must (refine wpList_stp (by kernel_rfl) (stp_bx _ _ rfl hS ?_)); clear hS; intro bN w hbN hS) | (refine wpList_is (.binOp .eql _ _ (.const (.slice none _ _)) _) rfl ?_; refine wpList_stp (by kernel_rfl) (stp_val (run_nse _ _ _ rfl) ?_)) | (refine wpList_is (.binOp .neq _ _ (.const (.slice none _ _)) _) rfl ?_; refine wpList_stp (by kernel_rfl) (stp_val (run_nsn _ _ _ rfl) ?_)))
                go_roundw
                case rel => exact ⟨q + 1, (), by omega, by go_num, hS.pick⟩
                case measure => simp [intOf]; omega
            · obtain rfl : q = m := by omega
              go_wp2_with (first | go_skip | (go_at_call 10; refine works_ok hS ?_; clear hS; intro w hS; unfold Ret) | go_skip | (refine wpList_is (.call { callee := .builtin .len, args := #[_], argTypes := #[_] }) rfl ?_; refine wpList_stp (by kernel_rfl) (stp_val (run_lenv _ _ rfl) ?_)) | (refine wpList_is (.slice _ _ none (some _) none) rfl ?_; refine wpList_stp (by kernel_rfl) (stp_val (run_prev _ _ _ rfl) ?_)) | (refine wpList_is (.indexAddr _ _ _) rfl ?_; refine wpList_stp (by kernel_rfl) (stp_val (run_idxv _ _ _ rfl) ?_)) | go_skip | (refine wpList_is (.build _ _) rfl ?_; go_must (refine wpList_stp (by kernel_rfl) (stp_val (run_bd _ _ rfl) ?_))) | (refine wpList_is (.call { callee := .builtin .clear, args := #[_], argTypes := #[_] }) rfl ?_; go_must (refine wpList_stp (by kernel_rfl) (stp_cl _ _ rfl hS (by decide) ?_)); clear hS; intro w hS) | (refine wpList_is (.load _ _) rfl ?_; go_must (first | refine wpList_stp (by kernel_rfl) (stp_val (run_ld _ _ rfl hS) ?_) | refine wpList_stp (by kernel_rfl) (stp_val (run_lda _ _ rfl hS) ?_) | refine wpList_stp (by kernel_rfl) (stp_val (run_ld0 _ _ rfl hS) ?_) | refine wpList_stp (by kernel_rfl) (stp_val (run_lda0 _ _ rfl hS) ?_))) | (refine wpList_is (.store _ _ _) rfl ?_; go_must (first | refine wpList_stp (by kernel_rfl) (stp_st _ _ _ rfl hS ?_) | refine wpList_stp (by kernel_rfl) (stp_sta _ _ _ rfl hS ?_)); clear hS; intro w hS) | (refine wpList_is (.alloc _) rfl ?_; go_must (refine wpList_stp (by kernel_rfl) (stp_al _ rfl hS ?_)); clear hS; intro bN w hbN hS) | (refine wpList_is (.box _ _) rfl ?_; go_must (refine wpList_stp (by kernel_rfl) (stp_bx _ _ rfl hS ?_)); clear hS; intro bN w hbN hS) | (refine wpList_is (.binOp .eql _ _ (.const (.slice none _ _)) _) rfl ?_; refine wpList_stp (by kernel_rfl) (stp_val (run_nse _ _ _ rfl) ?_)) | (refine wpList_is (.binOp .neq _ _ (.const (.slice none _ _)) _) rfl ?_; refine wpList_stp (by kernel_rfl) (stp_val (run_nsn _ _ _ rfl) ?_)))
              exact hR _ (hB.all hS)
end Go.Proofs.Ytmhldlcjfmnkpaa
