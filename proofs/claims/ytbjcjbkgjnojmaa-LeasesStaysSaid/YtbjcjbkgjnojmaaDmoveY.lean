/-
  Moves on a desk of leases: all moves.
-/
import Derived.Test.YtbjcjbkgjnojmaaDmoveV
import Derived.Test.YtbjcjbkgjnojmaaArg
set_option linter.unusedSimpArgs false
set_option linter.unusedVariables false
namespace Go.Proofs.Ytbjcjbkgjnojmaa
open Go.RowKit Go.Mm
variable {R : Ending → World → Prop} {w : World} {w0 : World} {bs : List Nat} {H H' H1 E : List Ent}

theorem bounds_u8m {n : Int} (h : (Lit.int .u8 n).wf = true) : 0 ≤ n ∧ n ≤ 255 := by
  simp [Lit.wf, IntKind.min, IntKind.max, IntKind.signed, IntKind.bits] at h
  omega
theorem step_any {b : Nat} {p : Option Addr} {L : List Ls} {l : List Ot} {us : List Int} {now : Int} {ok : Bool} (hO : St w0 bs w H) (hX : DX b p L l us now ok E) [hc : Cut H E H1] (hI : DInv L l us now) (hb : now ≤ 1000000) (hl : l.length ≤ 500) (x y z t : Int)
    (hx : 0 ≤ x ∧ x ≤ 255) (hy : 0 ≤ y ∧ y ≤ 255) (hz : 0 ≤ z ∧ z ≤ 255) (ht : 0 ≤ t ∧ t ≤ 255)
    (hR : ∀ L' l' us' now' E' w', DX b p L' l' us' now' ok E' → DInv L' l' us' now' → now ≤ now' → now' ≤ now + 7 → l'.length ≤ l.length + 1 → Nx us us' → Kin L L' → St w0 bs w' (E' ++ H1) → Ret R (.bool true) w') :
    Calls Try.prog 21 #[.pointer (some ⟨b, 0, none⟩), .agg #[.int .u8 x, .int .u8 y, .int .u8 z, .int .u8 t]] w R := by
  by_cases h1 : y % 4 < 2
  · exact step_gr hO hX hI hb hl x y z t hx hy hz ht (.inl h1) hR
  by_cases h2 : l = []
  · exact step_gr hO hX hI hb hl x y z t hx hy hz ht (.inr ⟨h1, h2⟩) hR
  obtain ⟨wh, rfl⟩ := Int.eq_ofNat_of_zero_le hz.1
  by_cases h3 : y % 4 = 2
  · exact step_rt hO hX hI hb hl x y t wh hx hy (by omega) ht h1 h3 h2 hR
  · exact step_rn hO hX hI hb hl x y t wh hx hy (by omega) ht h1 h3 h2 hR

set_option maxHeartbeats 1000000 in
theorem there_ok {b : Nat} {p : Option Addr} {L : List Ls} {l : List Ot} {us : List Int} {now : Int} {ok : Bool} (hO : St w0 bs w H) (hX : DX b p L l us now ok E) [hc : Cut H E H1] (hl : us.length ≤ 500) (m : Nat) (hm : posN us = m)
    (hR : ∀ w', DX b p L l us now ok E → St w0 bs w' (E ++ H1) → Ret R (.int .i64 m) w') : Calls Try.prog 22 #[.pointer (some ⟨b, 0, none⟩)] w R := by
  have hS := hO.front (E := E) (H1 := H1)
  clear hO
  have hX' := Lib.hid hX
  obtain ⟨v1, v2, E1, E2, E3, hT, hA, hU, rfl⟩ := hX
  simp only [List.cons_append, List.append_assoc] at hS
  obtain ⟨n, hn⟩ : ∃ n, us.length = n := ⟨_, rfl⟩
  have hl8 := hU.len hn
  have ho1 := hA.one
  have ho2 := hU.one
  subst hm
  have hn5 : n ≤ 500 := by rw [← hn]; exact hl
  have hn' := Lib.hid hn
  clear hn hl
  go_enter Try.func22, Try.ntmps22
  go_wp2_with (first | go_skip | go_skip | (refine wpList_is (.call { callee := .builtin .len, args := #[_], argTypes := #[_] }) rfl ?_; refine wpList_stp rfl (stp_val (run_lenv _ _ rfl) ?_)) | (refine wpList_is (.slice _ _ none (some _) none) rfl ?_; refine wpList_stp rfl (stp_val (run_prev _ _ _ rfl) ?_)) | (refine wpList_is (.indexAddr _ _ _) rfl ?_; refine wpList_stp rfl (stp_val (run_idxv _ _ _ rfl) ?_)) | go_skip | (refine wpList_is (.build _ _) rfl ?_; go_must (refine wpList_stp rfl (stp_val (run_bd _ _ rfl) ?_))) | (refine wpList_is (.call { callee := .builtin .clear, args := #[_], argTypes := #[_] }) rfl ?_; go_must (refine wpList_stp rfl (stp_cl _ _ rfl hS (by decide) ?_)); clear hS; intro w hS) | (refine wpList_is (.load _ _) rfl ?_; go_must (first | refine wpList_stp rfl (stp_val (run_ld _ _ rfl hS) ?_) | refine wpList_stp rfl (stp_val (run_lda _ _ rfl hS) ?_) | refine wpList_stp rfl (stp_val (run_ld0 _ _ rfl hS) ?_) | refine wpList_stp rfl (stp_val (run_lda0 _ _ rfl hS) ?_))) | (refine wpList_is (.store _ _ _) rfl ?_; go_must (first | refine wpList_stp rfl (stp_st _ _ _ rfl hS ?_) | refine wpList_stp rfl (stp_sta _ _ _ rfl hS ?_)); clear hS; intro w hS) | (refine wpList_is (.alloc _) rfl ?_; go_must (refine wpList_stp rfl (stp_al _ rfl hS ?_)); clear hS; intro bN w hbN hS) | (refine wpList_is (.box _ _) rfl ?_; go_must (refine wpList_stp rfl (stp_bx _ _ rfl hS ?_)); clear hS; intro bN w hbN hS) | (refine wpList_is (.binOp .eql _ _ (.const (.slice none _ _)) _) rfl ?_; refine wpList_stp rfl (stp_val (run_nse _ _ _ rfl) ?_)) | (refine wpList_is (.binOp .neq _ _ (.const (.slice none _ _)) _) rfl ?_; refine wpList_stp rfl (stp_val (run_nsn _ _ _ rfl) ?_)))
  go_loopw [11, 3] (fun u c wr => ∃ k : Nat, k ≤ n ∧ u = .int .i64 k ∧ c = .int .i64 (posN (us.take k)) ∧ St w0 bs wr (⟨b, #[.pointer p, v1, v2, .int .i64 now, .bool ok], 52, true⟩ :: (E1 ++ (E2 ++ (E3 ++ H1))))) (fun u _ _ => n - (intOf u).toNat)
  case atStart => exact ⟨0, Nat.zero_le _, rfl, rfl, hS⟩
  case round =>
    clear hS
    obtain ⟨k, hk, rfl, rfl, hS⟩ := hrel
    have hle := posN_le (us.take k)
    rw [List.length_take] at hle
    by_cases hlt : k < n
    · have hku : k < us.length := by rw [hn'.out]; exact hlt
      obtain ⟨u, hu⟩ : ∃ u, us.getD k 0 = u := ⟨_, rfl⟩
      obtain ⟨g3, cap3, sp3, -, rfl, i3, c3, _, _⟩ := hU.at hku hu
      have i3 := i3 k rfl
      simp only [List.cons_append, List.nil_append] at hS
      have hnext : posN (us.take (k + 1)) = posN (us.take k) + (if 0 < u then 1 else 0) := by
        rw [List.take_succ_eq_append_getElem hku, posN_snoc]
        rw [getU hku] at hu
        rw [hu]
      obtain ⟨m, hm⟩ : ∃ m, posN (us.take k) = m := ⟨_, rfl⟩
      rw [hm] at hnext hle ⊢
      have hnext' := Lib.hid hnext
      clear hnext hu hku hm
      by_cases h0 : 0 < u
      · have d1 : decide (0 < u) = true := decide_eq_true h0
        rw [if_pos h0] at hnext'
        go_wp2_with (first | go_skip | go_skip | (refine wpList_is (.call { callee := .builtin .len, args := #[_], argTypes := #[_] }) rfl ?_; refine wpList_stp rfl (stp_val (run_lenv _ _ rfl) ?_)) | (refine wpList_is (.slice _ _ none (some _) none) rfl ?_; refine wpList_stp rfl (stp_val (run_prev _ _ _ rfl) ?_)) | (refine wpList_is (.indexAddr _ _ _) rfl ?_; refine wpList_stp rfl (stp_val (run_idxv _ _ _ rfl) ?_)) | go_skip | (refine wpList_is (.build _ _) rfl ?_; go_must (refine wpList_stp rfl (stp_val (run_bd _ _ rfl) ?_))) | (refine wpList_is (.call { callee := .builtin .clear, args := #[_], argTypes := #[_] }) rfl ?_; go_must (refine wpList_stp rfl (stp_cl _ _ rfl hS (by decide) ?_)); clear hS; intro w hS) | (refine wpList_is (.load _ _) rfl ?_; go_must (first | refine wpList_stp rfl (stp_val (run_ld _ _ rfl hS) ?_) | refine wpList_stp rfl (stp_val (run_lda _ _ rfl hS) ?_) | refine wpList_stp rfl (stp_val (run_ld0 _ _ rfl hS) ?_) | refine wpList_stp rfl (stp_val (run_lda0 _ _ rfl hS) ?_))) | (refine wpList_is (.store _ _ _) rfl ?_; go_must (first | refine wpList_stp rfl (stp_st _ _ _ rfl hS ?_) | refine wpList_stp rfl (stp_sta _ _ _ rfl hS ?_)); clear hS; intro w hS) | (refine wpList_is (.alloc _) rfl ?_; go_must (refine wpList_stp rfl (stp_al _ rfl hS ?_)); clear hS; intro bN w hbN hS) | (refine wpList_is (.box _ _) rfl ?_; go_must (refine wpList_stp rfl (stp_bx _ _ rfl hS ?_)); clear hS; intro bN w hbN hS) | (refine wpList_is (.binOp .eql _ _ (.const (.slice none _ _)) _) rfl ?_; refine wpList_stp rfl (stp_val (run_nse _ _ _ rfl) ?_)) | (refine wpList_is (.binOp .neq _ _ (.const (.slice none _ _)) _) rfl ?_; refine wpList_stp rfl (stp_val (run_nsn _ _ _ rfl) ?_)))
        go_roundw
        case rel => exact ⟨k + 1, by omega, by go_num, by rw [hnext'.out]; go_num, hS.pick⟩
        case measure => simp [intOf]; omega
      · have d1 : decide (0 < u) = false := decide_eq_false h0
        rw [if_neg h0] at hnext'
        go_wp2_with (first | go_skip | go_skip | (refine wpList_is (.call { callee := .builtin .len, args := #[_], argTypes := #[_] }) rfl ?_; refine wpList_stp rfl (stp_val (run_lenv _ _ rfl) ?_)) | (refine wpList_is (.slice _ _ none (some _) none) rfl ?_; refine wpList_stp rfl (stp_val (run_prev _ _ _ rfl) ?_)) | (refine wpList_is (.indexAddr _ _ _) rfl ?_; refine wpList_stp rfl (stp_val (run_idxv _ _ _ rfl) ?_)) | go_skip | (refine wpList_is (.build _ _) rfl ?_; go_must (refine wpList_stp rfl (stp_val (run_bd _ _ rfl) ?_))) | (refine wpList_is (.call { callee := .builtin .clear, args := #[_], argTypes := #[_] }) rfl ?_; go_must (refine wpList_stp rfl (stp_cl _ _ rfl hS (by decide) ?_)); clear hS; intro w hS) | (refine wpList_is (.load _ _) rfl ?_; go_must (first | refine wpList_stp rfl (stp_val (run_ld _ _ rfl hS) ?_) | refine wpList_stp rfl (stp_val (run_lda _ _ rfl hS) ?_) | refine wpList_stp rfl (stp_val (run_ld0 _ _ rfl hS) ?_) | refine wpList_stp rfl (stp_val (run_lda0 _ _ rfl hS) ?_))) | (refine wpList_is (.store _ _ _) rfl ?_; go_must (first | refine wpList_stp rfl (stp_st _ _ _ rfl hS ?_) | refine wpList_stp rfl (stp_sta _ _ _ rfl hS ?_)); clear hS; intro w hS) | (refine wpList_is (.alloc _) rfl ?_; go_must (refine wpList_stp rfl (stp_al _ rfl hS ?_)); clear hS; intro bN w hbN hS) | (refine wpList_is (.box _ _) rfl ?_; go_must (refine wpList_stp rfl (stp_bx _ _ rfl hS ?_)); clear hS; intro bN w hbN hS) | (refine wpList_is (.binOp .eql _ _ (.const (.slice none _ _)) _) rfl ?_; refine wpList_stp rfl (stp_val (run_nse _ _ _ rfl) ?_)) | (refine wpList_is (.binOp .neq _ _ (.const (.slice none _ _)) _) rfl ?_; refine wpList_stp rfl (stp_val (run_nsn _ _ _ rfl) ?_)))
        go_roundw
        case rel => exact ⟨k + 1, by omega, by go_num, by rw [hnext'.out]; rfl, hS.pick⟩
        case measure => simp [intOf]; omega
    · obtain rfl : k = n := by omega
      rw [List.take_of_length_le (by rw [hn'.out]; exact Nat.le_refl _)]
      go_wp2_with (first | go_skip | go_skip | (refine wpList_is (.call { callee := .builtin .len, args := #[_], argTypes := #[_] }) rfl ?_; refine wpList_stp rfl (stp_val (run_lenv _ _ rfl) ?_)) | (refine wpList_is (.slice _ _ none (some _) none) rfl ?_; refine wpList_stp rfl (stp_val (run_prev _ _ _ rfl) ?_)) | (refine wpList_is (.indexAddr _ _ _) rfl ?_; refine wpList_stp rfl (stp_val (run_idxv _ _ _ rfl) ?_)) | go_skip | (refine wpList_is (.build _ _) rfl ?_; go_must (refine wpList_stp rfl (stp_val (run_bd _ _ rfl) ?_))) | (refine wpList_is (.call { callee := .builtin .clear, args := #[_], argTypes := #[_] }) rfl ?_; go_must (refine wpList_stp rfl (stp_cl _ _ rfl hS (by decide) ?_)); clear hS; intro w hS) | (refine wpList_is (.load _ _) rfl ?_; go_must (first | refine wpList_stp rfl (stp_val (run_ld _ _ rfl hS) ?_) | refine wpList_stp rfl (stp_val (run_lda _ _ rfl hS) ?_) | refine wpList_stp rfl (stp_val (run_ld0 _ _ rfl hS) ?_) | refine wpList_stp rfl (stp_val (run_lda0 _ _ rfl hS) ?_))) | (refine wpList_is (.store _ _ _) rfl ?_; go_must (first | refine wpList_stp rfl (stp_st _ _ _ rfl hS ?_) | refine wpList_stp rfl (stp_sta _ _ _ rfl hS ?_)); clear hS; intro w hS) | (refine wpList_is (.alloc _) rfl ?_; go_must (refine wpList_stp rfl (stp_al _ rfl hS ?_)); clear hS; intro bN w hbN hS) | (refine wpList_is (.box _ _) rfl ?_; go_must (refine wpList_stp rfl (stp_bx _ _ rfl hS ?_)); clear hS; intro bN w hbN hS) | (refine wpList_is (.binOp .eql _ _ (.const (.slice none _ _)) _) rfl ?_; refine wpList_stp rfl (stp_val (run_nse _ _ _ rfl) ?_)) | (refine wpList_is (.binOp .neq _ _ (.const (.slice none _ _)) _) rfl ?_; refine wpList_stp rfl (stp_val (run_nsn _ _ _ rfl) ?_)))
      exact hR _ hX'.out (by simp only [List.cons_append, List.append_assoc]; exact hS.pick)

set_option maxHeartbeats 2000000 in
set_option maxRecDepth 100000 in
/-- A desk behind at most 100 moves. -/
theorem played_ok {W : World} (hO : St W [] w H) (z f : Int) (hz : 0 ≤ z ∧ z ≤ 255) (hf : 0 ≤ f ∧ f ≤ 4294967295) {v : Value} {n sb so : Nat} {F : Nat → Nat → Value} (hv : Flat W [.i .u8, .i .u8, .i .u8, .i .u8] v n sb so F)
    (hR : ∀ b p L l us now E' w', DX b p L l us now true E' → DInv L l us now → now ≤ 700 → l.length ≤ 100 → L.length = (1 + z % 64).toNat ∧ (∀ x ∈ L, x.2.1 ≤ (if (1 : Int) > f then 1 else f) + 100) → St W [] w' (E' ++ H) → Ret R (.pointer (some ⟨b, 0, none⟩)) w') :
    Calls Try.prog 19 #[.int .u8 z, .int .u32 f, v] w R := by
  have hS := hO
  clear hO
  have hlen := hv.len (t := 44) Try.underlying44
  obtain ⟨z0, z1⟩ := hz
  obtain ⟨g, hg⟩ : ∃ g, (if (1 : Int) > f then 1 else f) = g := ⟨_, rfl⟩
  have hmax : MaxIs f 1 g := ⟨hg⟩
  have hgb : 1 ≤ g ∧ g ≤ 4294967295 := by rw [← hg]; split <;> omega
  obtain ⟨m, hm⟩ : ∃ m : Nat, m = min n 100 := ⟨_, rfl⟩
  have hmn : m ≤ n ∧ m ≤ 100 := by omega
  have hmin : MinIs n 100 m := ⟨by split <;> omega⟩
  obtain ⟨v', hpre, hv'⟩ := hv.pre (t := 44) Try.underlying44 (by kernel_rfl) hmn.1
  have hlen' := hv'.len (t := 44) Try.underlying44
  have hN : nwD (1 + z % 64) g = some (some (List.replicate (1 + z % 64).toNat (0, g, 0))) ∧ nwDE (1 + z % 64) g = 0 := by
    have : nwOkD (1 + z % 64) g = true := by simp only [nwOkD, Bool.and_eq_true, decide_eq_true_eq]; omega
    unfold nwD nwDE
    rw [this]; exact ⟨rfl, rfl⟩
  have hI0 := DInv.new (1 + z % 64).toNat g (by omega) hgb
  have hL0 : (List.replicate (1 + z % 64).toNat ((0, g, 0) : Ls)).length = (1 + z % 64).toNat := List.length_replicate
  obtain ⟨N, hN2⟩ : ∃ N, (1 + z % 64).toNat = N := ⟨_, rfl⟩
  rw [hN2] at hN hI0 hL0 hR
  rw [hg] at hR
  have hN' := Lib.hid hN
  have hI0' := Lib.hid hI0
  have hL0' := Lib.hid hL0
  clear hg hm hN hI0 hL0 hN2
  go_enter Try.func19, Try.ntmps19
  go_wp2_with (first | go_skip | (refine wpList_is (.call { callee := .builtin .max, args := #[_, _], argTypes := #[_, _] }) rfl ?_; refine wpList_stp rfl (stp_val (run_maxv _ _ rfl) ?_)) | (refine wpList_is (.call { callee := .builtin .min, args := #[_, _], argTypes := #[_, _] }) rfl ?_; refine wpList_stp rfl (stp_val (run_minv _ _ rfl) ?_)) | (go_at_call 10; refine dk_new hS (1 + z % 64) g ⟨by omega, hgb.2⟩ _ 0 hN'.out.1 hN'.out.2 ?_; clear hS; intro p E1 w hT hS; unfold Ret) | (refine wpList_is (.box 52 _) rfl ?_; go_must (refine wpList_stp rfl (stp_bx _ _ rfl hS ?_)); clear hS; intro b w _ hS) | go_skip | (refine wpList_is (.call { callee := .builtin .len, args := #[_], argTypes := #[_] }) rfl ?_; refine wpList_stp rfl (stp_val (run_lenv _ _ rfl) ?_)) | (refine wpList_is (.slice _ _ none (some _) none) rfl ?_; refine wpList_stp rfl (stp_val (run_prev _ _ _ rfl) ?_)) | (refine wpList_is (.indexAddr _ _ _) rfl ?_; refine wpList_stp rfl (stp_val (run_idxv _ _ _ rfl) ?_)) | go_skip | (refine wpList_is (.build _ _) rfl ?_; go_must (refine wpList_stp rfl (stp_val (run_bd _ _ rfl) ?_))) | (refine wpList_is (.call { callee := .builtin .clear, args := #[_], argTypes := #[_] }) rfl ?_; go_must (refine wpList_stp rfl (stp_cl _ _ rfl hS (by decide) ?_)); clear hS; intro w hS) | (refine wpList_is (.load _ _) rfl ?_; go_must (first | refine wpList_stp rfl (stp_val (run_ld _ _ rfl hS) ?_) | refine wpList_stp rfl (stp_val (run_lda _ _ rfl hS) ?_) | refine wpList_stp rfl (stp_val (run_ld0 _ _ rfl hS) ?_) | refine wpList_stp rfl (stp_val (run_lda0 _ _ rfl hS) ?_))) | (refine wpList_is (.store _ _ _) rfl ?_; go_must (first | refine wpList_stp rfl (stp_st _ _ _ rfl hS ?_) | refine wpList_stp rfl (stp_sta _ _ _ rfl hS ?_)); clear hS; intro w hS) | (refine wpList_is (.alloc _) rfl ?_; go_must (refine wpList_stp rfl (stp_al _ rfl hS ?_)); clear hS; intro bN w hbN hS) | (refine wpList_is (.box _ _) rfl ?_; go_must (refine wpList_stp rfl (stp_bx _ _ rfl hS ?_)); clear hS; intro bN w hbN hS) | (refine wpList_is (.binOp .eql _ _ (.const (.slice none _ _)) _) rfl ?_; refine wpList_stp rfl (stp_val (run_nse _ _ _ rfl) ?_)) | (refine wpList_is (.binOp .neq _ _ (.const (.slice none _ _)) _) rfl ?_; refine wpList_stp rfl (stp_val (run_nsn _ _ _ rfl) ?_)))
  go_loopw [33] (fun u wr => ∃ (k : Nat) (L : List Ls) (l : List Ot) (us : List Int) (now : Int) (E : List Ent), k ≤ m ∧ u = .int .i64 k ∧ DX b p L l us now true E ∧ DInv L l us now ∧ now ≤ 7 * k ∧ l.length ≤ k ∧ (L.length = N ∧ ∀ x ∈ L, x.2.1 ≤ g + k) ∧ St W [] wr (E ++ H)) (fun u _ => m - (intOf u).toNat)
  case atStart => exact ⟨0, _, [], [], 0, _, Nat.zero_le _, rfl, ⟨_, _, E1, [], [], hT, OS.nil, US.nil, rfl⟩, hI0'.out, by omega, Nat.le_refl _, ⟨hL0'.out, fun x hx => by rw [(List.mem_replicate.1 hx).2]; simp⟩, by simp only [List.append_nil, List.cons_append]; exact hS.pick⟩
  case round =>
    clear hS hT
    obtain ⟨k, L, l, us, now, E, hk, rfl, hX, hI, hnow, hll, hLN, hS⟩ := hrel
    by_cases hlt : k < m
    · have hidx := hv'.idxz (t := 44) (z := 4) (i := k) rfl Try.underlying44 (by kernel_rfl) hlt
      have hcell := hv'.cellsz (z := 4) (i := k) rfl hlt
      obtain ⟨xa, h0, wa⟩ := hv'.int (i := k) (j := 0) hlt rfl
      obtain ⟨xb, h1, wb⟩ := hv'.int (i := k) (j := 1) hlt rfl
      obtain ⟨xc, h2, wc⟩ := hv'.int (i := k) (j := 2) hlt rfl
      obtain ⟨xd, h3, wd⟩ := hv'.int (i := k) (j := 3) hlt rfl
      simp only [List.range_succ, List.range_zero, List.nil_append, List.map_append, List.map_cons, List.map_nil, List.cons_append, h0, h1, h2, h3] at hcell
      have ba := bounds_u8m wa
      have bb := bounds_u8m wb
      have bc := bounds_u8m wc
      have bd := bounds_u8m wd
      clear h0 h1 h2 h3 wa wb wc wd
      have hlN' := Lib.hid hLN
      clear hLN
      obtain ⟨v1, v2, E1, E2, E3, hT, hA, hU, hEe⟩ := id hX
      rw [hEe] at hS
      simp only [List.cons_append] at hS
      have hE := Lib.hid hEe
      clear hEe
      go_wp2_with (first | go_skip | (refine wpList_is (.alloc 46) rfl ?_; go_must (refine wpList_stp rfl (stp_al _ rfl hS ?_)); clear hS; intro bx w _ hS) | (go_at_call 21; go_must (refine step_any (H1 := ⟨bx, #[.int .u8 xa, .int .u8 xb, .int .u8 xc, .int .u8 xd], 46, true⟩ :: H) (show St W [] w (E ++ (⟨bx, #[.int .u8 xa, .int .u8 xb, .int .u8 xc, .int .u8 xd], 46, true⟩ :: H)) from by rw [hE.out]; exact hS.pick) hX hI (by omega) (by omega) xa xb xc xd ba bb bc bd ?_); clear hS hX hI; intro L' l' us' now' E' w hX hI hn1 hn2 hl2 hnx hL2 hS; have hL2' := Lib.hid hL2; clear hL2; obtain ⟨u1, u2, F1, F2, F3, hT1, hA1, hU1, hE1⟩ := id hX; rw [hE1] at hS; have hE2 := Lib.hid hE1; clear hE1; simp only [List.cons_append] at hS; unfold Ret) | go_skip | (refine wpList_is (.call { callee := .builtin .len, args := #[_], argTypes := #[_] }) rfl ?_; refine wpList_stp rfl (stp_val (run_lenv _ _ rfl) ?_)) | (refine wpList_is (.slice _ _ none (some _) none) rfl ?_; refine wpList_stp rfl (stp_val (run_prev _ _ _ rfl) ?_)) | (refine wpList_is (.indexAddr _ _ _) rfl ?_; refine wpList_stp rfl (stp_val (run_idxv _ _ _ rfl) ?_)) | go_skip | (refine wpList_is (.build _ _) rfl ?_; go_must (refine wpList_stp rfl (stp_val (run_bd _ _ rfl) ?_))) | (refine wpList_is (.call { callee := .builtin .clear, args := #[_], argTypes := #[_] }) rfl ?_; go_must (refine wpList_stp rfl (stp_cl _ _ rfl hS (by decide) ?_)); clear hS; intro w hS) | (refine wpList_is (.load _ _) rfl ?_; go_must (first | refine wpList_stp rfl (stp_val (run_ld _ _ rfl hS) ?_) | refine wpList_stp rfl (stp_val (run_lda _ _ rfl hS) ?_) | refine wpList_stp rfl (stp_val (run_ld0 _ _ rfl hS) ?_) | refine wpList_stp rfl (stp_val (run_lda0 _ _ rfl hS) ?_))) | (refine wpList_is (.store _ _ _) rfl ?_; go_must (first | refine wpList_stp rfl (stp_st _ _ _ rfl hS ?_) | refine wpList_stp rfl (stp_sta _ _ _ rfl hS ?_)); clear hS; intro w hS) | (refine wpList_is (.alloc _) rfl ?_; go_must (refine wpList_stp rfl (stp_al _ rfl hS ?_)); clear hS; intro bN w hbN hS) | (refine wpList_is (.box _ _) rfl ?_; go_must (refine wpList_stp rfl (stp_bx _ _ rfl hS ?_)); clear hS; intro bN w hbN hS) | (refine wpList_is (.binOp .eql _ _ (.const (.slice none _ _)) _) rfl ?_; refine wpList_stp rfl (stp_val (run_nse _ _ _ rfl) ?_)) | (refine wpList_is (.binOp .neq _ _ (.const (.slice none _ _)) _) rfl ?_; refine wpList_stp rfl (stp_val (run_nsn _ _ _ rfl) ?_)))
      go_roundw
      case rel => exact ⟨k + 1, L', l', us', now', E', by omega, by go_num, hX, hI, by omega, by omega, ⟨hL2'.out.len.trans hlN'.out.1, fun x hx => by have := hL2'.out.up _ hlN'.out.2 x hx; push_cast; omega⟩, by rw [hE2.out]; exact hS.pick⟩
      case measure => simp [intOf]; omega
    · obtain rfl : k = m := by omega
      clear hk hlt
      go_wp2_with (first | go_skip | go_skip | (refine wpList_is (.call { callee := .builtin .len, args := #[_], argTypes := #[_] }) rfl ?_; refine wpList_stp rfl (stp_val (run_lenv _ _ rfl) ?_)) | (refine wpList_is (.slice _ _ none (some _) none) rfl ?_; refine wpList_stp rfl (stp_val (run_prev _ _ _ rfl) ?_)) | (refine wpList_is (.indexAddr _ _ _) rfl ?_; refine wpList_stp rfl (stp_val (run_idxv _ _ _ rfl) ?_)) | go_skip | (refine wpList_is (.build _ _) rfl ?_; go_must (refine wpList_stp rfl (stp_val (run_bd _ _ rfl) ?_))) | (refine wpList_is (.call { callee := .builtin .clear, args := #[_], argTypes := #[_] }) rfl ?_; go_must (refine wpList_stp rfl (stp_cl _ _ rfl hS (by decide) ?_)); clear hS; intro w hS) | (refine wpList_is (.load _ _) rfl ?_; go_must (first | refine wpList_stp rfl (stp_val (run_ld _ _ rfl hS) ?_) | refine wpList_stp rfl (stp_val (run_lda _ _ rfl hS) ?_) | refine wpList_stp rfl (stp_val (run_ld0 _ _ rfl hS) ?_) | refine wpList_stp rfl (stp_val (run_lda0 _ _ rfl hS) ?_))) | (refine wpList_is (.store _ _ _) rfl ?_; go_must (first | refine wpList_stp rfl (stp_st _ _ _ rfl hS ?_) | refine wpList_stp rfl (stp_sta _ _ _ rfl hS ?_)); clear hS; intro w hS) | (refine wpList_is (.alloc _) rfl ?_; go_must (refine wpList_stp rfl (stp_al _ rfl hS ?_)); clear hS; intro bN w hbN hS) | (refine wpList_is (.box _ _) rfl ?_; go_must (refine wpList_stp rfl (stp_bx _ _ rfl hS ?_)); clear hS; intro bN w hbN hS) | (refine wpList_is (.binOp .eql _ _ (.const (.slice none _ _)) _) rfl ?_; refine wpList_stp rfl (stp_val (run_nse _ _ _ rfl) ?_)) | (refine wpList_is (.binOp .neq _ _ (.const (.slice none _ _)) _) rfl ?_; refine wpList_stp rfl (stp_val (run_nsn _ _ _ rfl) ?_)))
      exact hR _ _ _ _ _ _ _ _ hX hI (by omega) (by omega) ⟨hLN.1, fun x hx => by have := hLN.2 x hx; omega⟩ hS.pick
end Go.Proofs.Ytbjcjbkgjnojmaa
