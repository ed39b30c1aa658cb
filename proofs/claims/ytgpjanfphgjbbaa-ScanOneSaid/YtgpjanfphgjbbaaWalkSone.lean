/-
  The walk of ScanOne.
-/
import Derived.Test.YtgpjanfphgjbbaaSone
set_option linter.unusedSimpArgs false
set_option linter.unusedVariables false
namespace Go.Proofs.Ytgpjanfphgjbbaa
open Go Go.RowKit Go.Mm
variable {R : Ending → World → Prop}
theorem fb_255 {W : World} {v : Value} {n b off : Nat} {F : Nat → Nat → Value} {l : List Nat} (h : Flat W [.i .u8] v n b off F) (hb : FB n F l) : ∀ x ∈ l, x ≤ 255 := by
  intro x hx
  obtain ⟨i, hi, rfl⟩ := List.mem_iff_getElem.1 hx
  have hin : i < n := by rw [← hb.1]; exact hi
  obtain ⟨y, hy, wy⟩ := h.int (i := i) (j := 0) hin rfl
  have h2 := hb.2 i hin
  rw [hy] at h2
  have e : y = ((l.getD i 0 : Nat) : Int) := by injection h2
  have := bounds_u8S wy
  rw [List.getD_eq_getElem?_getD, List.getElem?_eq_getElem hi] at e
  simp only [Option.getD_some] at e
  omega
set_option maxHeartbeats 8000000 in
set_option maxRecDepth 100000 in
theorem walk_sone {W : World} (n : Int) (w1 : (Lit.int .u8 n).wf = true) (v : Value) {nn sb so : Nat} {F : Nat → Nat → Value} (hv : Flat W [.i .u8, .i .u8, .i .u8] v nn sb so F)
    (vf : Value) {nf bf of : Nat} {Ff : Nat → Nat → Value} (hvf : Flat W [.i .u8] vf nf bf of Ff) (wh : Int) (w4 : (Lit.int .u8 wh).wf = true) (pl : Int) (w5 : (Lit.int .u8 pl).wf = true) (hR : ∀ w', Chg W w' [] → Ret R (.bool true) w') :
    Calls Try.prog 5 #[.int .u8 n, v, vf, .int .u8 wh, .int .u8 pl] W R := by
  obtain ⟨Hz, hz⟩ : ∃ Hz : List Ent, [] = Hz := ⟨_, rfl⟩
  have hS : St W [] W Hz := hz ▸ St.start0
  clear hz
  have hn := bounds_u8S w1
  have hpl := bounds_u8S w5
  have hwh := bounds_u8S w4
  obtain ⟨x, rfl⟩ : ∃ x : Nat, wh = x := ⟨wh.toNat, by omega⟩
  obtain ⟨m, hm0⟩ : ∃ m : Nat, 1 + n % 40 = m := ⟨(1 + n % 40).toNat, by omega⟩
  have hm1 : 1 ≤ m ∧ m ≤ 40 := by omega
  have hm := Lib.hid hm0
  obtain ⟨z, hz0⟩ : ∃ z : Nat, 1 + pl % 64 = z := ⟨(1 + pl % 64).toNat, by omega⟩
  have hz1 : 1 ≤ z ∧ z ≤ 64 := by omega
  have rp : RemIs pl 64 (pl % 64) := ⟨Int.tmod_eq_emod_of_nonneg hpl.1, by decide⟩
  have sp : Small pl := ⟨by omega, by omega⟩
  have hsn := Lib.hid (show nwS (1 + pl % 64) = sq z false [] from by rw [hz0, nwS, if_pos (by omega), Int.toNat_natCast])
  have hse := Lib.hid (show (if 1 ≤ 1 + pl % 64 ∧ 1 + pl % 64 ≤ 64 then (0 : Int) else 2) = 0 from if_pos (by omega))
  obtain ⟨N, hN⟩ : ∃ N, min nf 9 = N := ⟨_, rfl⟩
  have hmin : MinIs (nf : Int) 9 (N : Nat) := ⟨by split <;> omega⟩
  have hlenf := hvf.len (t := 64) Try.underlying64
  obtain ⟨v2, hpre, hvf2⟩ := hvf.pre (t := 64) (e := 5) Try.underlying64 (by kernel_rfl) (m := N) (by omega)
  obtain ⟨lb9, hfb9⟩ := fb_of hvf2
  have hb9 := fb_255 hvf2 hfb9
  have hl9 : lb9.length = N := hfb9.1
  have hl9' : lb9.length ≤ 9 := by omega
  have hlx : (lb9 ++ [x]).length ≤ 1000 := by rw [List.length_append]; simp; omega
  have hbb : ∀ y ∈ lb9 ++ [x], y ≤ 255 := fun y hy => by
    rcases List.mem_append.1 hy with h | h
    · exact hb9 y h
    · obtain rfl := List.mem_singleton.1 h; omega
  have hN9 : N ≤ 9 := by omega
  have htk := Lib.hid (show (lb9 ++ [x]).take 10 = lb9 ++ [x] from List.take_of_length_le (by rw [List.length_append]; simp; omega))
  obtain ⟨N1, hN1⟩ : ∃ N1, N + 1 = N1 := ⟨_, rfl⟩
  have hst := Lib.hid (show (pkL m (lb9 ++ [x])).length = N1 from by rw [← hN1, pkL_len, List.length_append, hl9]; rfl)
  have hN1' := Lib.hid hN1
  clear hm0 hz0 hN hl9 w1 w4 w5 hN1
  go_enter Try.func5, Try.ntmps5
  go_wp2_with (first | go_skip | (refine wpList_is (.convert _ _ _) rfl ?_; refine wpList_stp (by kernel_rfl) (stp_val (run_cvn _ _ _ rfl) ?_)) | (refine wpList_is (.binOp .rem _ _ _ _) rfl ?_; refine wpList_stp (by kernel_rfl) (stp_val (run_remv _ _ _ _ rfl) ?_)) | (refine wpList_is (.call { callee := .builtin .min, args := #[_, _], argTypes := #[_, _] }) rfl ?_; refine wpList_stp (by kernel_rfl) (stp_val (run_minv _ _ rfl) ?_)) | (go_at_call 17; (with_reducible refine gr_graph hS n hn hv m hm.out ?_); clear hS; intro pa E0 Hs lv Ev w hH hG hRS hS; have hone := hRS.one; have hln := hRS.len (nmS_len m); have hG' := Lib.hid hG; clear hG; unfold Ret) | (go_at_call 8; (with_reducible refine pn_new hS 40 (cq Col.zerosL) 0 rfl (by decide) ?_); clear hS; intro pq E1 w hT hS; unfold Ret) | (go_at_call 9; (with_reducible refine sq_new hS (1 + pl % 64) (sq z false []) 0 hsn.out hse.out ?_); clear hS; intro pr E2 w hU hS; unfold Ret) | (go_at_call 24; go_must (refine clone_fb hS hvf2 hfb9 (by omega) ?_); clear hS; intro vc Ex w hBY hS; unfold Ret; have hsl : Sl 5 1 vc lb9.length (lb9.flatMap b1f) Ex := hBY; have hone9 := hBY.one) | (go_at_call 18; go_must (refine picked_own (lb := lb9 ++ [x]) (Ev := Ev) (Eb := E') (H1 := E1 ++ (E2 ++ (E0 ++ Hz))) (BY.snoc hsl') hlx hbb hS.pick hRS hm1 ?_); clear hS; intro vs Es w hPK hS; unfold Ret; rw [htk.out] at hPK; have honeS := hPK.one; have hlnS := hPK.len hst.out) | (refine wpList_is (.buildSlice _ _ _) rfl ?_; go_must (refine wpList_stp (by kernel_rfl) (stp_bsl _ _ _ rfl hS (by decide) rfl (by decide) (by decide) ?_)); clear hS; intro bN w hbN hS) | (refine wpList_is (.call { callee := .builtin .append, args := #[_, _], argTypes := #[_, _] }) rfl ?_; go_must (refine wpList_stp (by kernel_rfl) (stp_ap _ _ _ _ rfl rfl hS (by rfl) hsl (by rfl) (by simp only [maxLen]; omega) (by omega) ?_)); clear hS; intro v' E' w hsl' hne hS; have hone := hsl'.one) | go_skip | (refine wpList_is (.call { callee := .builtin .len, args := #[_], argTypes := #[_] }) rfl ?_; refine wpList_stp (by kernel_rfl) (stp_val (run_lenv _ _ rfl) ?_)) | (refine wpList_is (.slice _ _ none (some _) none) rfl ?_; refine wpList_stp (by kernel_rfl) (stp_val (run_prev _ _ _ rfl) ?_)) | (refine wpList_is (.indexAddr _ _ _) rfl ?_; refine wpList_stp (by kernel_rfl) (stp_val (run_idxv _ _ _ rfl) ?_)) | go_skip | (refine wpList_is (.build _ _) rfl ?_; go_must (refine wpList_stp (by kernel_rfl) (stp_val (run_bd _ _ rfl) ?_))) | (refine wpList_is (.call { callee := .builtin .clear, args := #[_], argTypes := #[_] }) rfl ?_; go_must (refine wpList_stp (by kernel_rfl) (stp_cl _ _ rfl hS (by decide) ?_)); clear hS; intro w hS) | (refine wpList_is (.load _ _) rfl ?_; go_must (first | refine wpList_stp (by kernel_rfl) (stp_val (run_ld _ _ rfl hS) ?_) | refine wpList_stp (by kernel_rfl) (stp_val (run_lda _ _ rfl hS) ?_) | refine wpList_stp (by kernel_rfl) (stp_val (run_ld0 _ _ rfl hS) ?_) | refine wpList_stp (by kernel_rfl) (stp_val (run_lda0 _ _ rfl hS) ?_))) | (refine wpList_is (.store _ _ _) rfl ?_; go_must (first | refine wpList_stp (by kernel_rfl) (stp_st _ _ _ rfl hS ?_) | refine wpList_stp (by kernel_rfl) (stp_sta _ _ _ rfl hS ?_)); clear hS; intro w hS) | (refine wpList_is (.alloc _) rfl ?_; go_must (refine wpList_stp (by kernel_rfl) (stp_al _ rfl hS ?_)); clear hS; intro bN w hbN hS) | (refine wpList_is (.box _ _) rfl ?_; go_must (refine wpList_stp (by kernel_rfl) (stp_bx _ _ rfl hS ?_)); clear hS; intro bN w hbN hS) | (refine wpList_is (.binOp .eql _ _ (.const (.slice none _ _)) _) rfl ?_; refine wpList_stp (by kernel_rfl) (stp_val (run_nse _ _ _ rfl) ?_)) | (refine wpList_is (.binOp .neq _ _ (.const (.slice none _ _)) _) rfl ?_; refine wpList_stp (by kernel_rfl) (stp_val (run_nsn _ _ _ rfl) ?_)))
  have hS0 : St W [] w (E1 ++ (E2 ++ (Es ++ (E0 ++ Hz)))) := hS.pick
  have hT0 := hT
  have hU0 := hU
  have hSG : ∀ k, k < N1 → ∃ q : Nat, (pkL m (lb9 ++ [x])).getD k (0, 0) = ((q : Int), 1) ∧ q < m := fun k hk => by
    obtain ⟨q, h1, h2, _⟩ := pkL_get (m := m) (k := k) (l := lb9 ++ [x]) (by have := hst.out; rw [pkL_len] at this; omega)
    exact ⟨q, h1, h2 (by omega)⟩
  obtain ⟨st, hst2⟩ : ∃ st, pkL m (lb9 ++ [x]) = st := ⟨_, rfl⟩
  rw [hst2] at hPK hSG
  have hstl : st.length = N1 := by rw [← hst2]; exact hst.out
  clear hS hT hU hst2 hone9 hsl hsl'
  go_loopw [79] (fun u wr => ∃ (k : Nat) (L l : List Int) (o : Bool) (E1 E2 : List Ent), k ≤ N1 ∧ u = .int .i64 k ∧ KA pq (cq L) E1 ∧ SA pr (sq z o l) E2 ∧ Mk m Hs anyP L l ∧ (∀ j, L.getD j 0 ≠ 2) ∧ (∀ j, j < k → L.getD ((st.getD j (0, 0)).1.toNat) 0 ≠ 0) ∧ St W [] wr (E1 ++ (E2 ++ (Es ++ (E0 ++ Hz))))) (fun u _ => N1 - (intOf u).toNat)
  case atStart => exact ⟨0, Col.zerosL, [], false, E1, E2, Nat.zero_le _, rfl, hT0, hU0, Mk.new, fun j h => by rw [zeros_get] at h; exact absurd h (by decide), fun j hj => absurd hj (Nat.not_lt_zero _), hS0⟩
  case round =>
    clear hS0 hT0 hU0
    obtain ⟨k, L, l, o, E1, E2, hk, rfl, hT, hU, hM, hnb, hdn, hS⟩ := hrel
    have hM' := Lib.hid hM
    have hnb' := Lib.hid hnb
    have hdn' := Lib.hid hdn
    clear hM hnb hdn
    by_cases hlt : k < N1
    · obtain ⟨q, hq, hqm⟩ := hSG k hlt
      obtain ⟨gx, sx, ix, hh, hcx⟩ := hPK.at (i := k) (by rw [hstl]; exact hlt) hq
      have ix := ix k rfl
      simp only at hcx
      obtain ⟨L', o', l', e1, e2, e3, hM2, hne, hst3, _⟩ := hM'.out.shade (z := z) (o := o) hm1.2 hqm (rch_any q)
      have hnb2 := nb_shade hM'.out.len hnb'.out (by omega) e1
      have e1' := Lib.hid e1
      have e2' := Lib.hid e2
      have e3' := Lib.hid e3
      have hq' := Lib.hid hq
      have hM2' := Lib.hid hM2
      have hnb2' := Lib.hid hnb2
      have hne' := Lib.hid hne
      have hst3' := Lib.hid hst3
      have hkI : (k : Int) < (N1 : Int) := by omega
      have hN10 : N1 ≤ 10 := by have := hN1'.out; omega
      clear e1 e2 e3 hq hM2 hnb2 hne hst3
      go_wp2_with (first | go_skip | (refine wpList_is (.alloc 24) rfl ?_; go_must (refine wpList_stp (by kernel_rfl) (stp_al _ rfl hS ?_)); clear hS; intro b19 w _ hS) | (go_at_call 11; (with_reducible refine sc_shade hS hT hU (q : Int) _ _ _ _ e1'.out e2'.out rfl e3'.out ?_); clear hS hT hU; intro E1 E2 w hT hU hS; unfold Ret) | go_skip | (refine wpList_is (.call { callee := .builtin .len, args := #[_], argTypes := #[_] }) rfl ?_; refine wpList_stp (by kernel_rfl) (stp_val (run_lenv _ _ rfl) ?_)) | (refine wpList_is (.slice _ _ none (some _) none) rfl ?_; refine wpList_stp (by kernel_rfl) (stp_val (run_prev _ _ _ rfl) ?_)) | (refine wpList_is (.indexAddr _ _ _) rfl ?_; refine wpList_stp (by kernel_rfl) (stp_val (run_idxv _ _ _ rfl) ?_)) | go_skip | (refine wpList_is (.build _ _) rfl ?_; go_must (refine wpList_stp (by kernel_rfl) (stp_val (run_bd _ _ rfl) ?_))) | (refine wpList_is (.call { callee := .builtin .clear, args := #[_], argTypes := #[_] }) rfl ?_; go_must (refine wpList_stp (by kernel_rfl) (stp_cl _ _ rfl hS (by decide) ?_)); clear hS; intro w hS) | (refine wpList_is (.load _ _) rfl ?_; go_must (first | refine wpList_stp (by kernel_rfl) (stp_val (run_ld _ _ rfl hS) ?_) | refine wpList_stp (by kernel_rfl) (stp_val (run_lda _ _ rfl hS) ?_) | refine wpList_stp (by kernel_rfl) (stp_val (run_ld0 _ _ rfl hS) ?_) | refine wpList_stp (by kernel_rfl) (stp_val (run_lda0 _ _ rfl hS) ?_))) | (refine wpList_is (.store _ _ _) rfl ?_; go_must (first | refine wpList_stp (by kernel_rfl) (stp_st _ _ _ rfl hS ?_) | refine wpList_stp (by kernel_rfl) (stp_sta _ _ _ rfl hS ?_)); clear hS; intro w hS) | (refine wpList_is (.alloc _) rfl ?_; go_must (refine wpList_stp (by kernel_rfl) (stp_al _ rfl hS ?_)); clear hS; intro bN w hbN hS) | (refine wpList_is (.box _ _) rfl ?_; go_must (refine wpList_stp (by kernel_rfl) (stp_bx _ _ rfl hS ?_)); clear hS; intro bN w hbN hS) | (refine wpList_is (.binOp .eql _ _ (.const (.slice none _ _)) _) rfl ?_; refine wpList_stp (by kernel_rfl) (stp_val (run_nse _ _ _ rfl) ?_)) | (refine wpList_is (.binOp .neq _ _ (.const (.slice none _ _)) _) rfl ?_; refine wpList_stp (by kernel_rfl) (stp_val (run_nsn _ _ _ rfl) ?_)))
      go_roundw
      case rel =>
        refine ⟨k + 1, L', l', o', E1, E2, by omega, by go_num, hT, hU, hM2'.out, hnb2'.out, fun j hj => ?_, hS.pick⟩
        by_cases e : j = k
        · subst e; rw [hq'.out]; simpa using hne'.out
        · have := hdn'.out j (by omega)
          rw [hst3'.out _ this]; exact this
      case measure => simp [intOf]; omega
    · obtain rfl : k = N1 := by omega
      have hNN : N < k := by have := hN1'.out; omega
      obtain ⟨i, hi, him⟩ := hSG N hNN
      have hc1 : L.getD i 0 = 1 := by
        have h1 := hdn'.out N hNN
        rw [hi] at h1
        have h1 : L.getD i 0 ≠ 0 := by simpa using h1
        rcases hM'.out.c i with e | e | e
        · exact absurd e h1
        · exact e
        · exact absurd e (hnb'.out i)
      have hc1' := Lib.hid hc1
      obtain ⟨gx, sx, ix, hh, hcx⟩ := hPK.at (i := N) (by rw [hstl]; exact hNN) hi
      have ix := ix N rfl
      simp only at hcx
      obtain ⟨hkid, hkm, hkl⟩ := hG'.out.kids him
      obtain ⟨ks, hks⟩ : ∃ ks, kid Hs i = ks := ⟨_, rfl⟩
      rw [hks] at hkid hkm hkl
      have hwi := hG'.out.is him
      have dfN : DifIs (k : Int) 1 (N : Int) := by have := hN1'.out; exact ⟨by omega, by omega, by omega⟩
      have hkid' := Lib.hid hkid
      have hks' := Lib.hid hks
      clear hi hc1 hkid hks
      go_wp2_with (first | go_skip | (refine wpList_is (o := ⟨some 22, _, _, _, _, _⟩) (.alloc _) rfl ?_; go_must (refine wpList_stp (by kernel_rfl) (stp_al _ rfl hS ?_)); clear hS; intro b22 w _ hS) | (refine wpList_is (.alloc 76) rfl ?_; go_must (refine wpList_stp (by kernel_rfl) (stp_al _ rfl hS ?_)); clear hS; intro b24 w _ hS) | (go_at_call 10; (with_reducible refine sc_children hS hH (i : Int) 1 _ _ hkid'.out hwi ?_); clear hS; intro vc2 Ec w hI _ hS; unfold Ret; have honeC := hI.one; have hlnC := hI.len (List.length_map _)) | (refine wpList_is (.binOp .sub _ _ _ _) rfl ?_; refine wpList_stp (by kernel_rfl) (stp_val (run_difv _ _ _ _ rfl) ?_)) | go_skip | (refine wpList_is (.call { callee := .builtin .len, args := #[_], argTypes := #[_] }) rfl ?_; refine wpList_stp (by kernel_rfl) (stp_val (run_lenv _ _ rfl) ?_)) | (refine wpList_is (.slice _ _ none (some _) none) rfl ?_; refine wpList_stp (by kernel_rfl) (stp_val (run_prev _ _ _ rfl) ?_)) | (refine wpList_is (.indexAddr _ _ _) rfl ?_; refine wpList_stp (by kernel_rfl) (stp_val (run_idxv _ _ _ rfl) ?_)) | go_skip | (refine wpList_is (.build _ _) rfl ?_; go_must (refine wpList_stp (by kernel_rfl) (stp_val (run_bd _ _ rfl) ?_))) | (refine wpList_is (.call { callee := .builtin .clear, args := #[_], argTypes := #[_] }) rfl ?_; go_must (refine wpList_stp (by kernel_rfl) (stp_cl _ _ rfl hS (by decide) ?_)); clear hS; intro w hS) | (refine wpList_is (.load _ _) rfl ?_; go_must (first | refine wpList_stp (by kernel_rfl) (stp_val (run_ld _ _ rfl hS) ?_) | refine wpList_stp (by kernel_rfl) (stp_val (run_lda _ _ rfl hS) ?_) | refine wpList_stp (by kernel_rfl) (stp_val (run_ld0 _ _ rfl hS) ?_) | refine wpList_stp (by kernel_rfl) (stp_val (run_lda0 _ _ rfl hS) ?_))) | (refine wpList_is (.store _ _ _) rfl ?_; go_must (first | refine wpList_stp (by kernel_rfl) (stp_st _ _ _ rfl hS ?_) | refine wpList_stp (by kernel_rfl) (stp_sta _ _ _ rfl hS ?_)); clear hS; intro w hS) | (refine wpList_is (.alloc _) rfl ?_; go_must (refine wpList_stp (by kernel_rfl) (stp_al _ rfl hS ?_)); clear hS; intro bN w hbN hS) | (refine wpList_is (.box _ _) rfl ?_; go_must (refine wpList_stp (by kernel_rfl) (stp_bx _ _ rfl hS ?_)); clear hS; intro bN w hbN hS) | (refine wpList_is (.binOp .eql _ _ (.const (.slice none _ _)) _) rfl ?_; refine wpList_stp (by kernel_rfl) (stp_val (run_nse _ _ _ rfl) ?_)) | (refine wpList_is (.binOp .neq _ _ (.const (.slice none _ _)) _) rfl ?_; refine wpList_stp (by kernel_rfl) (stp_val (run_nsn _ _ _ rfl) ?_)))
      have hS0 : St W [] w (⟨b24, wtC (List.replicate 40 0), 76, true⟩ :: (⟨b22, #[.int .i64 (i : Nat), .int .u32 1], 24, true⟩ :: (Ec ++ (E1 ++ (E2 ++ (E0 ++ Hz)))))) := hS.pick
      clear hS
      go_loopw [108] (fun u wr => ∃ k : Nat, k ≤ 40 ∧ u = .int .i64 k ∧ St W [] wr (⟨b24, wtC (wK L k), 76, true⟩ :: (⟨b22, #[.int .i64 (i : Nat), .int .u32 1], 24, true⟩ :: (Ec ++ (E1 ++ (E2 ++ (E0 ++ Hz))))))) (fun u _ => 40 - (intOf u).toNat)
      case atStart => exact ⟨0, Nat.zero_le _, rfl, by rw [wK_zero]; exact hS0⟩
      case round =>
        clear hS0
        obtain ⟨k, hk, rfl, hS⟩ := hrel
        by_cases hlt : k < 40
        · obtain ⟨f1, f2⟩ := of_at (L := L) hlt
          obtain ⟨c, hc⟩ : ∃ c, L.getD k 0 = c := ⟨_, rfl⟩
          rw [hc] at f2
          have ixk := idxArrS (P := Try.prog) (t := 76) (b := b24) (off := 0) (i := k) Try.underlying76 (by kernel_rfl) hlt
          have hset := wt_set (l := wK L k) (i := k) (by rw [wK_len]; exact hlt) c
          rw [wK_set hlt hc] at hset
          have hkI : (k : Int) < 40 := by omega
          clear hc
          go_wp2_with (first | go_skip | (go_at_call 23; (with_reducible refine pn_of hS hT (k : Int) _ _ f2 f1 ?_); clear hS; intro w hS; unfold Ret) | go_skip | (refine wpList_is (.call { callee := .builtin .len, args := #[_], argTypes := #[_] }) rfl ?_; refine wpList_stp (by kernel_rfl) (stp_val (run_lenv _ _ rfl) ?_)) | (refine wpList_is (.slice _ _ none (some _) none) rfl ?_; refine wpList_stp (by kernel_rfl) (stp_val (run_prev _ _ _ rfl) ?_)) | (refine wpList_is (.indexAddr _ _ _) rfl ?_; refine wpList_stp (by kernel_rfl) (stp_val (run_idxv _ _ _ rfl) ?_)) | go_skip | (refine wpList_is (.build _ _) rfl ?_; go_must (refine wpList_stp (by kernel_rfl) (stp_val (run_bd _ _ rfl) ?_))) | (refine wpList_is (.call { callee := .builtin .clear, args := #[_], argTypes := #[_] }) rfl ?_; go_must (refine wpList_stp (by kernel_rfl) (stp_cl _ _ rfl hS (by decide) ?_)); clear hS; intro w hS) | (refine wpList_is (.load _ _) rfl ?_; go_must (first | refine wpList_stp (by kernel_rfl) (stp_val (run_ld _ _ rfl hS) ?_) | refine wpList_stp (by kernel_rfl) (stp_val (run_lda _ _ rfl hS) ?_) | refine wpList_stp (by kernel_rfl) (stp_val (run_ld0 _ _ rfl hS) ?_) | refine wpList_stp (by kernel_rfl) (stp_val (run_lda0 _ _ rfl hS) ?_))) | (refine wpList_is (.store _ _ _) rfl ?_; go_must (first | refine wpList_stp (by kernel_rfl) (stp_st _ _ _ rfl hS ?_) | refine wpList_stp (by kernel_rfl) (stp_sta _ _ _ rfl hS ?_)); clear hS; intro w hS) | (refine wpList_is (.alloc _) rfl ?_; go_must (refine wpList_stp (by kernel_rfl) (stp_al _ rfl hS ?_)); clear hS; intro bN w hbN hS) | (refine wpList_is (.box _ _) rfl ?_; go_must (refine wpList_stp (by kernel_rfl) (stp_bx _ _ rfl hS ?_)); clear hS; intro bN w hbN hS) | (refine wpList_is (.binOp .eql _ _ (.const (.slice none _ _)) _) rfl ?_; refine wpList_stp (by kernel_rfl) (stp_val (run_nse _ _ _ rfl) ?_)) | (refine wpList_is (.binOp .neq _ _ (.const (.slice none _ _)) _) rfl ?_; refine wpList_stp (by kernel_rfl) (stp_val (run_nsn _ _ _ rfl) ?_)))
          go_roundw
          case rel => exact ⟨k + 1, by omega, by go_num, hS.pick⟩
          case measure => simp [intOf]; omega
        · obtain rfl : k = 40 := by omega
          rw [wK_all] at hS
          go_wp2_with (first | go_skip | (go_at_call 25; (with_reducible refine sq_copy hS hU (sq z o l) rfl ?_); clear hS; intro pt Et w hU2 hS; unfold Ret) | go_skip | (refine wpList_is (.call { callee := .builtin .len, args := #[_], argTypes := #[_] }) rfl ?_; refine wpList_stp (by kernel_rfl) (stp_val (run_lenv _ _ rfl) ?_)) | (refine wpList_is (.slice _ _ none (some _) none) rfl ?_; refine wpList_stp (by kernel_rfl) (stp_val (run_prev _ _ _ rfl) ?_)) | (refine wpList_is (.indexAddr _ _ _) rfl ?_; refine wpList_stp (by kernel_rfl) (stp_val (run_idxv _ _ _ rfl) ?_)) | go_skip | (refine wpList_is (.build _ _) rfl ?_; go_must (refine wpList_stp (by kernel_rfl) (stp_val (run_bd _ _ rfl) ?_))) | (refine wpList_is (.call { callee := .builtin .clear, args := #[_], argTypes := #[_] }) rfl ?_; go_must (refine wpList_stp (by kernel_rfl) (stp_cl _ _ rfl hS (by decide) ?_)); clear hS; intro w hS) | (refine wpList_is (.load _ _) rfl ?_; go_must (first | refine wpList_stp (by kernel_rfl) (stp_val (run_ld _ _ rfl hS) ?_) | refine wpList_stp (by kernel_rfl) (stp_val (run_lda _ _ rfl hS) ?_) | refine wpList_stp (by kernel_rfl) (stp_val (run_ld0 _ _ rfl hS) ?_) | refine wpList_stp (by kernel_rfl) (stp_val (run_lda0 _ _ rfl hS) ?_))) | (refine wpList_is (.store _ _ _) rfl ?_; go_must (first | refine wpList_stp (by kernel_rfl) (stp_st _ _ _ rfl hS ?_) | refine wpList_stp (by kernel_rfl) (stp_sta _ _ _ rfl hS ?_)); clear hS; intro w hS) | (refine wpList_is (.alloc _) rfl ?_; go_must (refine wpList_stp (by kernel_rfl) (stp_al _ rfl hS ?_)); clear hS; intro bN w hbN hS) | (refine wpList_is (.box _ _) rfl ?_; go_must (refine wpList_stp (by kernel_rfl) (stp_bx _ _ rfl hS ?_)); clear hS; intro bN w hbN hS) | (refine wpList_is (.binOp .eql _ _ (.const (.slice none _ _)) _) rfl ?_; refine wpList_stp (by kernel_rfl) (stp_val (run_nse _ _ _ rfl) ?_)) | (refine wpList_is (.binOp .neq _ _ (.const (.slice none _ _)) _) rfl ?_; refine wpList_stp (by kernel_rfl) (stp_val (run_nsn _ _ _ rfl) ?_)))
          obtain ⟨at_, rfl, _⟩ := sq_some hU2
          have hS0 : St W [] w (⟨b24, wtC (w40 L), 76, true⟩ :: (⟨b22, #[.int .i64 (i : Nat), .int .u32 1], 24, true⟩ :: (Ec ++ (Et ++ (E1 ++ (E2 ++ (E0 ++ Hz))))))) := hS.pick
          have hU20 := hU2
          obtain ⟨l2, hl2⟩ : ∃ l2, ks.map (fun j : Nat => (j : Int)) = l2 := ⟨_, rfl⟩
          rw [hl2] at hI
          have hl2n : l2.length = ks.length := by rw [← hl2, List.length_map]
          have hl2' := Lib.hid hl2
          clear hS hU2 hl2
          go_loopw [27, 126] (fun g u wr => ∃ (k : Nat) (Lk lk : List Int) (ok : Bool) (nk : Nat) (Et : List Ent), k ≤ l2.length ∧ u = .int .i64 k ∧ g = .int .i64 nk ∧ (l2.take k).foldl shF (cq L, sq z o l, 0) = (cq Lk, sq z ok lk, nk) ∧ Lk.length = 256 ∧ nk ≤ k ∧ SA (some at_) (sq z ok lk) Et ∧ St W [] wr (⟨b24, wtC (w40 Lk), 76, true⟩ :: (⟨b22, #[.int .i64 (i : Nat), .int .u32 1], 24, true⟩ :: (Ec ++ (Et ++ (E1 ++ (E2 ++ (E0 ++ Hz)))))))) (fun _ u _ => l2.length - (intOf u).toNat)
          case atStart => exact ⟨0, L, l, o, 0, Et, Nat.zero_le _, rfl, rfl, rfl, hM'.out.len, Nat.le_refl _, hU20, hS0⟩
          case round =>
            clear hS0 hU20
            obtain ⟨k, Lk, lk, ok, nk, Et, hk, rfl, rfl, hfo, hLk, hnk, hU2, hS⟩ := hrel
            have hfo' := Lib.hid hfo
            clear hfo
            by_cases hlt : k < l2.length
            · obtain ⟨j, hj⟩ : ∃ j, ks.getD k 0 = j := ⟨_, rfl⟩
              have hjm : j < m := by
                refine hkm j ?_
                rw [← hj, List.getD_eq_getElem?_getD, List.getElem?_eq_getElem (by omega)]
                exact List.getElem_mem _
              have hx : l2.getD k 0 = (j : Int) := by
                rw [← hl2'.out, List.getD_eq_getElem?_getD, List.getElem?_map, List.getElem?_eq_getElem (by omega), ← hj, List.getD_eq_getElem?_getD, List.getElem?_eq_getElem (by omega)]; rfl
              have hst3 := shF_step hlt (x := (cq L, sq z o l, 0))
              rw [hfo'.out, hx] at hst3
              obtain ⟨gx, sx, ix, hh, hcx⟩ := hI.at hlt hx
              have ix := ix k rfl
              have ixj := idxArrS (P := Try.prog) (t := 76) (b := b24) (off := 0) (i := j) Try.underlying76 (by kernel_rfl) (by omega)
              obtain ⟨c, hc⟩ : ∃ c, Lk.getD j 0 = c := ⟨_, rfl⟩
              have hcw := wt_at (l := w40 Lk) (i := j) (x := c) (by rw [w40_get (by omega), hc])
              have q1 : decide ((j : Int) < 0) = false := decide_eq_false (by omega)
              have q2 : decide ((40 : Int) ≤ (j : Int)) = false := decide_eq_false (by omega)
              have q3 : decide (40 ≤ j) = false := decide_eq_false (by omega)
              have hj40 : j < 40 := by omega
              have hkI : (k : Int) < (l2.length : Int) := by omega
              have hkl5 : l2.length ≤ 4 := by omega
              by_cases h0 : c = 0
              · subst h0
                rw [shF_white (n := nk) hj40 hc] at hst3
                obtain ⟨o', l', hpu⟩ := pu_sq (z := z) (o := ok) (l := lk) hj40
                rw [hpu] at hst3
                have hset := wt_set (l := w40 Lk) (i := j) (by rw [w40_len]; exact hj40) 1
                rw [w40_set hLk hj40] at hset
                have hpu' := Lib.hid hpu
                have hst3' := Lib.hid hst3
                clear hpu hst3 hc hx hj
                go_wp2_with (first | go_skip | (go_at_call 26; (with_reducible refine sq_push hS hU2 (j : Int) _ _ _ hpu'.out rfl rfl ?_); clear hS hU2; intro Et w hU2 hS; unfold Ret) | go_skip | (refine wpList_is (.call { callee := .builtin .len, args := #[_], argTypes := #[_] }) rfl ?_; refine wpList_stp (by kernel_rfl) (stp_val (run_lenv _ _ rfl) ?_)) | (refine wpList_is (.slice _ _ none (some _) none) rfl ?_; refine wpList_stp (by kernel_rfl) (stp_val (run_prev _ _ _ rfl) ?_)) | (refine wpList_is (.indexAddr _ _ _) rfl ?_; refine wpList_stp (by kernel_rfl) (stp_val (run_idxv _ _ _ rfl) ?_)) | go_skip | (refine wpList_is (.build _ _) rfl ?_; go_must (refine wpList_stp (by kernel_rfl) (stp_val (run_bd _ _ rfl) ?_))) | (refine wpList_is (.call { callee := .builtin .clear, args := #[_], argTypes := #[_] }) rfl ?_; go_must (refine wpList_stp (by kernel_rfl) (stp_cl _ _ rfl hS (by decide) ?_)); clear hS; intro w hS) | (refine wpList_is (.load _ _) rfl ?_; go_must (first | refine wpList_stp (by kernel_rfl) (stp_val (run_ld _ _ rfl hS) ?_) | refine wpList_stp (by kernel_rfl) (stp_val (run_lda _ _ rfl hS) ?_) | refine wpList_stp (by kernel_rfl) (stp_val (run_ld0 _ _ rfl hS) ?_) | refine wpList_stp (by kernel_rfl) (stp_val (run_lda0 _ _ rfl hS) ?_))) | (refine wpList_is (.store _ _ _) rfl ?_; go_must (first | refine wpList_stp (by kernel_rfl) (stp_st _ _ _ rfl hS ?_) | refine wpList_stp (by kernel_rfl) (stp_sta _ _ _ rfl hS ?_)); clear hS; intro w hS) | (refine wpList_is (.alloc _) rfl ?_; go_must (refine wpList_stp (by kernel_rfl) (stp_al _ rfl hS ?_)); clear hS; intro bN w hbN hS) | (refine wpList_is (.box _ _) rfl ?_; go_must (refine wpList_stp (by kernel_rfl) (stp_bx _ _ rfl hS ?_)); clear hS; intro bN w hbN hS) | (refine wpList_is (.binOp .eql _ _ (.const (.slice none _ _)) _) rfl ?_; refine wpList_stp (by kernel_rfl) (stp_val (run_nse _ _ _ rfl) ?_)) | (refine wpList_is (.binOp .neq _ _ (.const (.slice none _ _)) _) rfl ?_; refine wpList_stp (by kernel_rfl) (stp_val (run_nsn _ _ _ rfl) ?_)))
                go_roundw
                case rel => exact ⟨k + 1, Lk.set j 1, l', o', nk + 1, Et, by omega, by go_num, by go_num, hst3'.out, by rw [List.length_set]; exact hLk, by omega, hU2, hS.pick⟩
                case measure => simp [intOf]; omega
              · rw [shF_not (n := nk) hj40 (by rw [hc]; exact h0)] at hst3
                have q4 : decide (c = 0) = false := decide_eq_false h0
                have q5 : (c == 0) = false := beq_eq_false_iff_ne.2 h0
                have hst3' := Lib.hid hst3
                clear hst3 hc hx hj
                go_wp2_with (first | go_skip | go_skip | (refine wpList_is (.call { callee := .builtin .len, args := #[_], argTypes := #[_] }) rfl ?_; refine wpList_stp (by kernel_rfl) (stp_val (run_lenv _ _ rfl) ?_)) | (refine wpList_is (.slice _ _ none (some _) none) rfl ?_; refine wpList_stp (by kernel_rfl) (stp_val (run_prev _ _ _ rfl) ?_)) | (refine wpList_is (.indexAddr _ _ _) rfl ?_; refine wpList_stp (by kernel_rfl) (stp_val (run_idxv _ _ _ rfl) ?_)) | go_skip | (refine wpList_is (.build _ _) rfl ?_; go_must (refine wpList_stp (by kernel_rfl) (stp_val (run_bd _ _ rfl) ?_))) | (refine wpList_is (.call { callee := .builtin .clear, args := #[_], argTypes := #[_] }) rfl ?_; go_must (refine wpList_stp (by kernel_rfl) (stp_cl _ _ rfl hS (by decide) ?_)); clear hS; intro w hS) | (refine wpList_is (.load _ _) rfl ?_; go_must (first | refine wpList_stp (by kernel_rfl) (stp_val (run_ld _ _ rfl hS) ?_) | refine wpList_stp (by kernel_rfl) (stp_val (run_lda _ _ rfl hS) ?_) | refine wpList_stp (by kernel_rfl) (stp_val (run_ld0 _ _ rfl hS) ?_) | refine wpList_stp (by kernel_rfl) (stp_val (run_lda0 _ _ rfl hS) ?_))) | (refine wpList_is (.store _ _ _) rfl ?_; go_must (first | refine wpList_stp (by kernel_rfl) (stp_st _ _ _ rfl hS ?_) | refine wpList_stp (by kernel_rfl) (stp_sta _ _ _ rfl hS ?_)); clear hS; intro w hS) | (refine wpList_is (.alloc _) rfl ?_; go_must (refine wpList_stp (by kernel_rfl) (stp_al _ rfl hS ?_)); clear hS; intro bN w hbN hS) | (refine wpList_is (.box _ _) rfl ?_; go_must (refine wpList_stp (by kernel_rfl) (stp_bx _ _ rfl hS ?_)); clear hS; intro bN w hbN hS) | (refine wpList_is (.binOp .eql _ _ (.const (.slice none _ _)) _) rfl ?_; refine wpList_stp (by kernel_rfl) (stp_val (run_nse _ _ _ rfl) ?_)) | (refine wpList_is (.binOp .neq _ _ (.const (.slice none _ _)) _) rfl ?_; refine wpList_stp (by kernel_rfl) (stp_val (run_nsn _ _ _ rfl) ?_)))
                go_roundw
                case rel => exact ⟨k + 1, Lk, lk, ok, nk, Et, by omega, by go_num, rfl, hst3'.out, hLk, by omega, hU2, hS.pick⟩
                case measure => simp [intOf]; omega
            · obtain rfl : k = l2.length := by omega
              have hfo := hfo'.out
              rw [List.take_length] at hfo
              have hki : Lk.getD i 0 = 1 := by
                obtain ⟨La, oa, la, na, ha, _, _, hb, _⟩ := Mk.fold (z := z) hm1.2 ks (fun j hj => ⟨hkm j hj, rch_any j⟩) L l o 0 hM'.out
                rw [hl2'.out, hfo] at ha
                have e : Lk = La := by injection ha with ha _; injection ha with ha; injection ha with ha; injection ha
                rw [e, hb i (by rw [hc1'.out]; decide), hc1'.out]
              obtain ⟨g1, g2, g3, g4⟩ := sc_good (H := Hs) (T := cq L) (S := sq z o l) (s := (i : Int)) (g := 1) rfl hwi (hG'.out.near him 40 hm1.2 L) (by rw [(of_at (L := L) (i := i) (by omega)).2]; exact hc1'.out)
              have hsf : scF (some (some Hs)) (cq L) (sq z o l) i 1 = (cq Lk, sq z ok lk, nk) := by rw [scF, hkid'.out, hl2'.out]; exact hfo
              obtain ⟨b1, b2⟩ := bk_at (L := Lk) (i := i) (by omega) hki
              rw [hsf] at g1 g2 g3 g4
              simp only at g1 g2 g3 g4
              rw [b1] at g1
              rw [b2] at g4
              have g1' := Lib.hid g1
              have g2' := Lib.hid g2
              have g3' := Lib.hid g3
              have g4' := Lib.hid g4
              obtain ⟨L2, hL2⟩ : ∃ L2, Lk.set i 2 = L2 := ⟨_, rfl⟩
              have hset := wt_set (l := w40 Lk) (i := i) (by rw [w40_len]; omega) 2
              rw [w40_set hLk (by omega), hL2] at hset
              have hL2i : L2.getD i 0 = 2 := by rw [← hL2, getD_set1 _ _ _ _ (by omega), if_pos rfl]
              have hvl2 : ∀ S, okS S = true → vlE (cq L2) S = true := fun S hS => by rw [vlE, hS]; rfl
              have hfin : ∀ o l, scG (some (some Hs)) (cq L2) (sq z o l) i 1 = false ∧ scE (some (some Hs)) (cq L2) (sq z o l) i 1 = 8 := fun o l => sc_e3 (hvl2 _ rfl) hwi (hG'.out.near him 40 hm1.2 L2) (by rw [(of_at (L := L2) (i := i) (by omega)).2, hL2i]; decide)
              have hfin' := Lib.hid hfin
              rw [hL2] at g1'
              have ixi := idxArrS (P := Try.prog) (t := 76) (b := b24) (off := 0) (i := i) Try.underlying76 (by kernel_rfl) (by omega)
              clear g1 g2 g3 g4 hsf b1 b2 hfo hki hL2 hL2i hvl2 hfin
              go_wp2_with (first | go_skip | (go_at_call 12; (with_reducible refine sc_scan hS hH hT hU (i : Int) 1 _ _ _ _ g1'.out g2'.out g3'.out g4'.out ?_); clear hS hT hU; intro E1 E2 w hT hU hS; unfold Ret) | (go_at_call 27; (with_reducible refine sq_len hS hU lk.length rfl ?_); clear hS; intro w hS; unfold Ret) | (go_at_call 27; (with_reducible refine sq_len hS hU2 lk.length rfl ?_); clear hS; intro w hS; unfold Ret) | (go_at_call 28; (with_reducible refine sq_over hS hU ok rfl ?_); clear hS; intro w hS; unfold Ret) | (go_at_call 28; (with_reducible refine sq_over hS hU2 ok rfl ?_); clear hS; intro w hS; unfold Ret) | go_skip | (refine wpList_is (.call { callee := .builtin .len, args := #[_], argTypes := #[_] }) rfl ?_; refine wpList_stp (by kernel_rfl) (stp_val (run_lenv _ _ rfl) ?_)) | (refine wpList_is (.slice _ _ none (some _) none) rfl ?_; refine wpList_stp (by kernel_rfl) (stp_val (run_prev _ _ _ rfl) ?_)) | (refine wpList_is (.indexAddr _ _ _) rfl ?_; refine wpList_stp (by kernel_rfl) (stp_val (run_idxv _ _ _ rfl) ?_)) | go_skip | (refine wpList_is (.build _ _) rfl ?_; go_must (refine wpList_stp (by kernel_rfl) (stp_val (run_bd _ _ rfl) ?_))) | (refine wpList_is (.call { callee := .builtin .clear, args := #[_], argTypes := #[_] }) rfl ?_; go_must (refine wpList_stp (by kernel_rfl) (stp_cl _ _ rfl hS (by decide) ?_)); clear hS; intro w hS) | (refine wpList_is (.load _ _) rfl ?_; go_must (first | refine wpList_stp (by kernel_rfl) (stp_val (run_ld _ _ rfl hS) ?_) | refine wpList_stp (by kernel_rfl) (stp_val (run_lda _ _ rfl hS) ?_) | refine wpList_stp (by kernel_rfl) (stp_val (run_ld0 _ _ rfl hS) ?_) | refine wpList_stp (by kernel_rfl) (stp_val (run_lda0 _ _ rfl hS) ?_))) | (refine wpList_is (.store _ _ _) rfl ?_; go_must (first | refine wpList_stp (by kernel_rfl) (stp_st _ _ _ rfl hS ?_) | refine wpList_stp (by kernel_rfl) (stp_sta _ _ _ rfl hS ?_)); clear hS; intro w hS) | (refine wpList_is (.alloc _) rfl ?_; go_must (refine wpList_stp (by kernel_rfl) (stp_al _ rfl hS ?_)); clear hS; intro bN w hbN hS) | (refine wpList_is (.box _ _) rfl ?_; go_must (refine wpList_stp (by kernel_rfl) (stp_bx _ _ rfl hS ?_)); clear hS; intro bN w hbN hS) | (refine wpList_is (.binOp .eql _ _ (.const (.slice none _ _)) _) rfl ?_; refine wpList_stp (by kernel_rfl) (stp_val (run_nse _ _ _ rfl) ?_)) | (refine wpList_is (.binOp .neq _ _ (.const (.slice none _ _)) _) rfl ?_; refine wpList_stp (by kernel_rfl) (stp_val (run_nsn _ _ _ rfl) ?_)))
              have hS0 : St W [] w (⟨b24, wtC (w40 L2), 76, true⟩ :: (⟨b22, #[.int .i64 (i : Nat), .int .u32 1], 24, true⟩ :: (Et ++ (E1 ++ (E2 ++ (E0 ++ Hz)))))) := hS.pick
              clear hS hset
              obtain ⟨wo, hwo⟩ : ∃ wo : World, wo = w := ⟨_, rfl⟩
              clear hwo
              go_loopw [187] (fun u wr => ∃ k : Nat, k ≤ 40 ∧ u = .int .i64 k ∧ St W [] wr (⟨b24, wtC (w40 L2), 76, true⟩ :: (⟨b22, #[.int .i64 (i : Nat), .int .u32 1], 24, true⟩ :: (Et ++ (E1 ++ (E2 ++ (E0 ++ Hz))))))) (fun u _ => 40 - (intOf u).toNat)
              case atStart => exact ⟨0, Nat.zero_le _, rfl, hS0⟩
              case round =>
                clear hS0
                obtain ⟨k, hk, rfl, hS⟩ := hrel
                by_cases hlt : k < 40
                · obtain ⟨f1, f2⟩ := of_at (L := L2) hlt
                  obtain ⟨c, hc⟩ : ∃ c, L2.getD k 0 = c := ⟨_, rfl⟩
                  rw [hc] at f2
                  have ixk := idxArrS (P := Try.prog) (t := 76) (b := b24) (off := 0) (i := k) Try.underlying76 (by kernel_rfl) hlt
                  have hcw := wt_at (l := w40 L2) (i := k) (x := c) (by rw [w40_get hlt, hc])
                  have hkI : (k : Int) < 40 := by omega
                  clear hc
                  go_wp2_with (first | go_skip | (go_at_call 23; (with_reducible refine pn_of hS hT (k : Int) _ _ f2 f1 ?_); clear hS; intro w hS; unfold Ret) | go_skip | (refine wpList_is (.call { callee := .builtin .len, args := #[_], argTypes := #[_] }) rfl ?_; refine wpList_stp (by kernel_rfl) (stp_val (run_lenv _ _ rfl) ?_)) | (refine wpList_is (.slice _ _ none (some _) none) rfl ?_; refine wpList_stp (by kernel_rfl) (stp_val (run_prev _ _ _ rfl) ?_)) | (refine wpList_is (.indexAddr _ _ _) rfl ?_; refine wpList_stp (by kernel_rfl) (stp_val (run_idxv _ _ _ rfl) ?_)) | go_skip | (refine wpList_is (.build _ _) rfl ?_; go_must (refine wpList_stp (by kernel_rfl) (stp_val (run_bd _ _ rfl) ?_))) | (refine wpList_is (.call { callee := .builtin .clear, args := #[_], argTypes := #[_] }) rfl ?_; go_must (refine wpList_stp (by kernel_rfl) (stp_cl _ _ rfl hS (by decide) ?_)); clear hS; intro w hS) | (refine wpList_is (.load _ _) rfl ?_; go_must (first | refine wpList_stp (by kernel_rfl) (stp_val (run_ld _ _ rfl hS) ?_) | refine wpList_stp (by kernel_rfl) (stp_val (run_lda _ _ rfl hS) ?_) | refine wpList_stp (by kernel_rfl) (stp_val (run_ld0 _ _ rfl hS) ?_) | refine wpList_stp (by kernel_rfl) (stp_val (run_lda0 _ _ rfl hS) ?_))) | (refine wpList_is (.store _ _ _) rfl ?_; go_must (first | refine wpList_stp (by kernel_rfl) (stp_st _ _ _ rfl hS ?_) | refine wpList_stp (by kernel_rfl) (stp_sta _ _ _ rfl hS ?_)); clear hS; intro w hS) | (refine wpList_is (.alloc _) rfl ?_; go_must (refine wpList_stp (by kernel_rfl) (stp_al _ rfl hS ?_)); clear hS; intro bN w hbN hS) | (refine wpList_is (.box _ _) rfl ?_; go_must (refine wpList_stp (by kernel_rfl) (stp_bx _ _ rfl hS ?_)); clear hS; intro bN w hbN hS) | (refine wpList_is (.binOp .eql _ _ (.const (.slice none _ _)) _) rfl ?_; refine wpList_stp (by kernel_rfl) (stp_val (run_nse _ _ _ rfl) ?_)) | (refine wpList_is (.binOp .neq _ _ (.const (.slice none _ _)) _) rfl ?_; refine wpList_stp (by kernel_rfl) (stp_val (run_nsn _ _ _ rfl) ?_)))
                  go_roundw
                  case rel => exact ⟨k + 1, by omega, by go_num, hS.pick⟩
                  case measure => simp [intOf]; omega
                · have d1 : decide ((k : Int) < 40) = false := decide_eq_false (by omega)
                  have d2 : decide (k < 40) = false := decide_eq_false (by omega)
                  go_wp2_with (first | go_skip | go_skip | (refine wpList_is (.call { callee := .builtin .len, args := #[_], argTypes := #[_] }) rfl ?_; refine wpList_stp (by kernel_rfl) (stp_val (run_lenv _ _ rfl) ?_)) | (refine wpList_is (.slice _ _ none (some _) none) rfl ?_; refine wpList_stp (by kernel_rfl) (stp_val (run_prev _ _ _ rfl) ?_)) | (refine wpList_is (.indexAddr _ _ _) rfl ?_; refine wpList_stp (by kernel_rfl) (stp_val (run_idxv _ _ _ rfl) ?_)) | go_skip | (refine wpList_is (.build _ _) rfl ?_; go_must (refine wpList_stp (by kernel_rfl) (stp_val (run_bd _ _ rfl) ?_))) | (refine wpList_is (.call { callee := .builtin .clear, args := #[_], argTypes := #[_] }) rfl ?_; go_must (refine wpList_stp (by kernel_rfl) (stp_cl _ _ rfl hS (by decide) ?_)); clear hS; intro w hS) | (refine wpList_is (.load _ _) rfl ?_; go_must (first | refine wpList_stp (by kernel_rfl) (stp_val (run_ld _ _ rfl hS) ?_) | refine wpList_stp (by kernel_rfl) (stp_val (run_lda _ _ rfl hS) ?_) | refine wpList_stp (by kernel_rfl) (stp_val (run_ld0 _ _ rfl hS) ?_) | refine wpList_stp (by kernel_rfl) (stp_val (run_lda0 _ _ rfl hS) ?_))) | (refine wpList_is (.store _ _ _) rfl ?_; go_must (first | refine wpList_stp (by kernel_rfl) (stp_st _ _ _ rfl hS ?_) | refine wpList_stp (by kernel_rfl) (stp_sta _ _ _ rfl hS ?_)); clear hS; intro w hS) | (refine wpList_is (.alloc _) rfl ?_; go_must (refine wpList_stp (by kernel_rfl) (stp_al _ rfl hS ?_)); clear hS; intro bN w hbN hS) | (refine wpList_is (.box _ _) rfl ?_; go_must (refine wpList_stp (by kernel_rfl) (stp_bx _ _ rfl hS ?_)); clear hS; intro bN w hbN hS) | (refine wpList_is (.binOp .eql _ _ (.const (.slice none _ _)) _) rfl ?_; refine wpList_stp (by kernel_rfl) (stp_val (run_nse _ _ _ rfl) ?_)) | (refine wpList_is (.binOp .neq _ _ (.const (.slice none _ _)) _) rfl ?_; refine wpList_stp (by kernel_rfl) (stp_val (run_nsn _ _ _ rfl) ?_)))
                  have hS0 : St W [] wr (⟨b22, #[.int .i64 (i : Nat), .int .u32 1], 24, true⟩ :: (Et ++ (E1 ++ (E2 ++ (E0 ++ Hz))))) := hS.pick
                  have hU0 := hU
                  have hU20 := hU2
                  obtain ⟨wo, hwo⟩ : ∃ wo : World, wo = w := ⟨_, rfl⟩
                  clear hwo hS hU hU2
                  go_loopw [206] (fun u wr => ∃ (k : Nat) (l : List Int) (o : Bool) (E2 Et : List Ent), k ≤ 64 ∧ u = .int .i64 k ∧ SA pr (sq z o l) E2 ∧ SA (some at_) (sq z o l) Et ∧ St W [] wr (⟨b22, #[.int .i64 (i : Nat), .int .u32 1], 24, true⟩ :: (Et ++ (E1 ++ (E2 ++ (E0 ++ Hz)))))) (fun u _ => 64 - (intOf u).toNat)
                  case atStart => exact ⟨0, _, _, E2, Et, Nat.zero_le _, rfl, hU0, hU20, hS0⟩
                  case round =>
                    clear hS0 hU0 hU20
                    obtain ⟨kk, l, o, E2, Et, hk, rfl, hU, hU2, hS⟩ := hrel
                    by_cases hlt : kk < 64
                    · obtain ⟨r, hr⟩ : ∃ r, ppR (sq z o l) = r := ⟨_, rfl⟩
                      obtain ⟨b, hb⟩ : ∃ b, ppB (sq z o l) = b := ⟨_, rfl⟩
                      have hr' := Lib.hid hr
                      have hkI : (kk : Int) < 64 := by omega
                      clear hr
                      cases b with
                      | true =>
                        go_wp2_with (first | go_skip | (go_at_call 29; (with_reducible refine sq_pop hS hU (sq z o l.dropLast) _ _ rfl hr'.out hb ?_); clear hS hU; intro E2 w hU hS; unfold Ret) | (go_at_call 29; (with_reducible refine sq_pop hS hU2 (sq z o l.dropLast) _ _ rfl hr'.out hb ?_); clear hS hU2; intro Et w hU2 hS; unfold Ret) | go_skip | (refine wpList_is (.call { callee := .builtin .len, args := #[_], argTypes := #[_] }) rfl ?_; refine wpList_stp (by kernel_rfl) (stp_val (run_lenv _ _ rfl) ?_)) | (refine wpList_is (.slice _ _ none (some _) none) rfl ?_; refine wpList_stp (by kernel_rfl) (stp_val (run_prev _ _ _ rfl) ?_)) | (refine wpList_is (.indexAddr _ _ _) rfl ?_; refine wpList_stp (by kernel_rfl) (stp_val (run_idxv _ _ _ rfl) ?_)) | go_skip | (refine wpList_is (.build _ _) rfl ?_; go_must (refine wpList_stp (by kernel_rfl) (stp_val (run_bd _ _ rfl) ?_))) | (refine wpList_is (.call { callee := .builtin .clear, args := #[_], argTypes := #[_] }) rfl ?_; go_must (refine wpList_stp (by kernel_rfl) (stp_cl _ _ rfl hS (by decide) ?_)); clear hS; intro w hS) | (refine wpList_is (.load _ _) rfl ?_; go_must (first | refine wpList_stp (by kernel_rfl) (stp_val (run_ld _ _ rfl hS) ?_) | refine wpList_stp (by kernel_rfl) (stp_val (run_lda _ _ rfl hS) ?_) | refine wpList_stp (by kernel_rfl) (stp_val (run_ld0 _ _ rfl hS) ?_) | refine wpList_stp (by kernel_rfl) (stp_val (run_lda0 _ _ rfl hS) ?_))) | (refine wpList_is (.store _ _ _) rfl ?_; go_must (first | refine wpList_stp (by kernel_rfl) (stp_st _ _ _ rfl hS ?_) | refine wpList_stp (by kernel_rfl) (stp_sta _ _ _ rfl hS ?_)); clear hS; intro w hS) | (refine wpList_is (.alloc _) rfl ?_; go_must (refine wpList_stp (by kernel_rfl) (stp_al _ rfl hS ?_)); clear hS; intro bN w hbN hS) | (refine wpList_is (.box _ _) rfl ?_; go_must (refine wpList_stp (by kernel_rfl) (stp_bx _ _ rfl hS ?_)); clear hS; intro bN w hbN hS) | (refine wpList_is (.binOp .eql _ _ (.const (.slice none _ _)) _) rfl ?_; refine wpList_stp (by kernel_rfl) (stp_val (run_nse _ _ _ rfl) ?_)) | (refine wpList_is (.binOp .neq _ _ (.const (.slice none _ _)) _) rfl ?_; refine wpList_stp (by kernel_rfl) (stp_val (run_nsn _ _ _ rfl) ?_)))
                        go_roundw
                        case rel => exact ⟨kk + 1, _, o, E2, Et, by omega, by go_num, hU, hU2, hS.pick⟩
                        case measure => simp [intOf]; omega
                      | false =>
                        go_wp2_with (first | go_skip | (go_at_call 29; (with_reducible refine sq_pop hS hU (sq z o l.dropLast) _ _ rfl hr'.out hb ?_); clear hS hU; intro E2 w hU hS; unfold Ret) | (go_at_call 29; (with_reducible refine sq_pop hS hU2 (sq z o l.dropLast) _ _ rfl hr'.out hb ?_); clear hS hU2; intro Et w hU2 hS; unfold Ret) | go_skip | (refine wpList_is (.call { callee := .builtin .len, args := #[_], argTypes := #[_] }) rfl ?_; refine wpList_stp (by kernel_rfl) (stp_val (run_lenv _ _ rfl) ?_)) | (refine wpList_is (.slice _ _ none (some _) none) rfl ?_; refine wpList_stp (by kernel_rfl) (stp_val (run_prev _ _ _ rfl) ?_)) | (refine wpList_is (.indexAddr _ _ _) rfl ?_; refine wpList_stp (by kernel_rfl) (stp_val (run_idxv _ _ _ rfl) ?_)) | go_skip | (refine wpList_is (.build _ _) rfl ?_; go_must (refine wpList_stp (by kernel_rfl) (stp_val (run_bd _ _ rfl) ?_))) | (refine wpList_is (.call { callee := .builtin .clear, args := #[_], argTypes := #[_] }) rfl ?_; go_must (refine wpList_stp (by kernel_rfl) (stp_cl _ _ rfl hS (by decide) ?_)); clear hS; intro w hS) | (refine wpList_is (.load _ _) rfl ?_; go_must (first | refine wpList_stp (by kernel_rfl) (stp_val (run_ld _ _ rfl hS) ?_) | refine wpList_stp (by kernel_rfl) (stp_val (run_lda _ _ rfl hS) ?_) | refine wpList_stp (by kernel_rfl) (stp_val (run_ld0 _ _ rfl hS) ?_) | refine wpList_stp (by kernel_rfl) (stp_val (run_lda0 _ _ rfl hS) ?_))) | (refine wpList_is (.store _ _ _) rfl ?_; go_must (first | refine wpList_stp (by kernel_rfl) (stp_st _ _ _ rfl hS ?_) | refine wpList_stp (by kernel_rfl) (stp_sta _ _ _ rfl hS ?_)); clear hS; intro w hS) | (refine wpList_is (.alloc _) rfl ?_; go_must (refine wpList_stp (by kernel_rfl) (stp_al _ rfl hS ?_)); clear hS; intro bN w hbN hS) | (refine wpList_is (.box _ _) rfl ?_; go_must (refine wpList_stp (by kernel_rfl) (stp_bx _ _ rfl hS ?_)); clear hS; intro bN w hbN hS) | (refine wpList_is (.binOp .eql _ _ (.const (.slice none _ _)) _) rfl ?_; refine wpList_stp (by kernel_rfl) (stp_val (run_nse _ _ _ rfl) ?_)) | (refine wpList_is (.binOp .neq _ _ (.const (.slice none _ _)) _) rfl ?_; refine wpList_stp (by kernel_rfl) (stp_val (run_nsn _ _ _ rfl) ?_)))
                        go_roundw
                        case rel => exact ⟨kk + 1, _, o, E2, Et, by omega, by go_num, hU, hU2, hS.pick⟩
                        case measure => simp [intOf]; omega
                    · obtain rfl : kk = 64 := by omega
                      obtain ⟨f1, f2⟩ := hfin'.out o l
                      go_wp2_with (first | go_skip | (go_at_call 12; (with_reducible refine sc_scan hS hH hT hU (i : Int) 1 _ _ _ _ (sc_refused f1).1 (sc_refused f1).2.1 (sc_refused f1).2.2 f2 ?_); clear hS hT hU; intro E1 E2 w hT hU hS; unfold Ret) | (go_at_call 16; refine works_ok hS ?_; clear hS; intro w hS; unfold Ret) | go_skip | (refine wpList_is (.call { callee := .builtin .len, args := #[_], argTypes := #[_] }) rfl ?_; refine wpList_stp (by kernel_rfl) (stp_val (run_lenv _ _ rfl) ?_)) | (refine wpList_is (.slice _ _ none (some _) none) rfl ?_; refine wpList_stp (by kernel_rfl) (stp_val (run_prev _ _ _ rfl) ?_)) | (refine wpList_is (.indexAddr _ _ _) rfl ?_; refine wpList_stp (by kernel_rfl) (stp_val (run_idxv _ _ _ rfl) ?_)) | go_skip | (refine wpList_is (.build _ _) rfl ?_; go_must (refine wpList_stp (by kernel_rfl) (stp_val (run_bd _ _ rfl) ?_))) | (refine wpList_is (.call { callee := .builtin .clear, args := #[_], argTypes := #[_] }) rfl ?_; go_must (refine wpList_stp (by kernel_rfl) (stp_cl _ _ rfl hS (by decide) ?_)); clear hS; intro w hS) | (refine wpList_is (.load _ _) rfl ?_; go_must (first | refine wpList_stp (by kernel_rfl) (stp_val (run_ld _ _ rfl hS) ?_) | refine wpList_stp (by kernel_rfl) (stp_val (run_lda _ _ rfl hS) ?_) | refine wpList_stp (by kernel_rfl) (stp_val (run_ld0 _ _ rfl hS) ?_) | refine wpList_stp (by kernel_rfl) (stp_val (run_lda0 _ _ rfl hS) ?_))) | (refine wpList_is (.store _ _ _) rfl ?_; go_must (first | refine wpList_stp (by kernel_rfl) (stp_st _ _ _ rfl hS ?_) | refine wpList_stp (by kernel_rfl) (stp_sta _ _ _ rfl hS ?_)); clear hS; intro w hS) | (refine wpList_is (.alloc _) rfl ?_; go_must (refine wpList_stp (by kernel_rfl) (stp_al _ rfl hS ?_)); clear hS; intro bN w hbN hS) | (refine wpList_is (.box _ _) rfl ?_; go_must (refine wpList_stp (by kernel_rfl) (stp_bx _ _ rfl hS ?_)); clear hS; intro bN w hbN hS) | (refine wpList_is (.binOp .eql _ _ (.const (.slice none _ _)) _) rfl ?_; refine wpList_stp (by kernel_rfl) (stp_val (run_nse _ _ _ rfl) ?_)) | (refine wpList_is (.binOp .neq _ _ (.const (.slice none _ _)) _) rfl ?_; refine wpList_stp (by kernel_rfl) (stp_val (run_nsn _ _ _ rfl) ?_)))
                      exact hR _ hS.chg
end Go.Proofs.Ytgpjanfphgjbbaa
