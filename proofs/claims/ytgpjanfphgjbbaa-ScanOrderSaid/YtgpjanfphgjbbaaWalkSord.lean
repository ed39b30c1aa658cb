/-
  The walk of ScanOrder.
-/
import Derived.Test.YtgpjanfphgjbbaaMrr
set_option linter.unusedSimpArgs false
set_option linter.unusedVariables false
namespace Go.Proofs.Ytgpjanfphgjbbaa
open Go Go.RowKit Go.Mm
variable {R : Ending → World → Prop} {w : World} {w0 : World} {bs : List Nat} {H H1 E : List Ent}
theorem rev_all {l l' : List (Int × Int)} {m : Nat} (h : ∀ k, k < l.length → ∃ q : Nat, l.getD k (0, 0) = ((q : Int), 1) ∧ q < m) (hm : ∀ r, r ∈ l' ↔ r ∈ l) : ∀ k, k < l'.length → ∃ q : Nat, l'.getD k (0, 0) = ((q : Int), 1) ∧ q < m := by
  intro k hk
  have h1 : l'.getD k (0, 0) ∈ l := (hm _).1 (getD_mem hk)
  obtain ⟨j, hj, hjl⟩ := List.mem_iff_getElem.1 h1
  obtain ⟨q, hq, hqm⟩ := h j hj
  refine ⟨q, ?_, hqm⟩
  rw [← hq, ← hjl, List.getD_eq_getElem?_getD, List.getElem?_eq_getElem hj]; rfl
set_option maxRecDepth 100000 in
theorem rs_clone {v : Value} {l : List (Int × Int)} (hO : St w0 bs w H) (hA : RS v l E) [hc : Cut H E H1] (hl : l.length ≤ 1000) (hR : ∀ v' E' w', RS v' l E' → RS v l E → St w0 bs w' (E' ++ (E ++ H1)) → Ret R v' w') :
    Calls Try.prog 21 #[v] w R := by
  have hS := hO.front (E := E) (H1 := H1)
  clear hO
  rcases hA.or with ⟨rfl, h0, rfl⟩ | ⟨g, cap, sp, rfl, rfl, h1, h2, h3⟩
  · obtain rfl : l = [] := List.eq_nil_of_length_eq_zero h0
    go_enter Try.func21, Try.ntmps21
    go_wp2_with (first | go_skip | (refine wpList_is (.binOp .eql _ _ (.const (.slice none _ _)) _) rfl ?_; refine wpList_stp (by kernel_rfl) (stp_val (run_nseN _ _ _ rfl) ?_)) | go_skip | (refine wpList_is (.build _ _) rfl ?_; go_must (refine wpList_stp (by kernel_rfl) (stp_val (run_bd _ _ rfl) ?_))) | (refine wpList_is (.call { callee := .builtin .clear, args := #[_], argTypes := #[_] }) rfl ?_; go_must (refine wpList_stp (by kernel_rfl) (stp_cl _ _ rfl hS (by decide) ?_)); clear hS; intro w hS) | (refine wpList_is (.load _ _) rfl ?_; go_must (first | refine wpList_stp (by kernel_rfl) (stp_val (run_ld _ _ rfl hS) ?_) | refine wpList_stp (by kernel_rfl) (stp_val (run_lda _ _ rfl hS) ?_) | refine wpList_stp (by kernel_rfl) (stp_val (run_ld0 _ _ rfl hS) ?_) | refine wpList_stp (by kernel_rfl) (stp_val (run_lda0 _ _ rfl hS) ?_))) | (refine wpList_is (.store _ _ _) rfl ?_; go_must (first | refine wpList_stp (by kernel_rfl) (stp_st _ _ _ rfl hS ?_) | refine wpList_stp (by kernel_rfl) (stp_sta _ _ _ rfl hS ?_)); clear hS; intro w hS) | (refine wpList_is (.alloc _) rfl ?_; go_must (refine wpList_stp (by kernel_rfl) (stp_al _ rfl hS ?_)); clear hS; intro bN w hbN hS) | (refine wpList_is (.box _ _) rfl ?_; go_must (refine wpList_stp (by kernel_rfl) (stp_bx _ _ rfl hS ?_)); clear hS; intro bN w hbN hS) | (refine wpList_is (.binOp .eql _ _ (.const (.slice none _ _)) _) rfl ?_; refine wpList_stp (by kernel_rfl) (stp_val (run_nse _ _ _ rfl) ?_)) | (refine wpList_is (.binOp .neq _ _ (.const (.slice none _ _)) _) rfl ?_; refine wpList_stp (by kernel_rfl) (stp_val (run_nsn _ _ _ rfl) ?_)))
    exact hR _ [] _ RS.nil hA hS
  · have hS : St w0 bs w (⟨g, (l.flatMap slf ++ sp).toArray, 24, true⟩ :: H1) := hS
    refine ref_clone (b := g) (off := 0) (m := l.length) (c := cap) (l := l) hS rfl ?_ hl (fun v' E' w' h hS => hR v' E' w' h hA hS)
    exact ⟨fun j hj => by
      rw [Nat.zero_add, List.getElem?_toArray, List.getElem?_toArray, List.getElem?_append_left (by rw [flat_len slf_len]; exact hj)], by rw [List.size_toArray, flat_len slf_len]⟩
set_option maxHeartbeats 8000000 in
set_option maxRecDepth 100000 in
theorem walk_sord {W : World} (n : Int) (w1 : (Lit.int .u8 n).wf = true) (v : Value) {nn sb so : Nat} {F : Nat → Nat → Value} (hv : Flat W [.i .u8, .i .u8, .i .u8] v nn sb so F)
    (vf : Value) {nf bf of : Nat} {Ff : Nat → Nat → Value} (hvf : Flat W [.i .u8] vf nf bf of Ff) (pl : Int) (w4 : (Lit.int .u8 pl).wf = true) (ot : Int) (w5 : (Lit.int .u8 ot).wf = true) (hR : ∀ w', Chg W w' [] → Ret R (.bool true) w') :
    Calls Try.prog 4 #[.int .u8 n, v, vf, .int .u8 pl, .int .u8 ot] W R := by
  obtain ⟨Hz, hz⟩ : ∃ Hz : List Ent, [] = Hz := ⟨_, rfl⟩
  have hS : St W [] W Hz := hz ▸ St.start0
  clear hz
  have hn := bounds_u8S w1
  have hpl := bounds_u8S w4
  have hot := bounds_u8S w5
  obtain ⟨m, hm0⟩ : ∃ m : Nat, 1 + n % 40 = m := ⟨(1 + n % 40).toNat, by omega⟩
  have hm1 : 1 ≤ m ∧ m ≤ 40 := by omega
  have hm := Lib.hid hm0
  obtain ⟨z, hz0⟩ : ∃ z : Nat, 1 + pl % 64 = z := ⟨(1 + pl % 64).toNat, by omega⟩
  obtain ⟨y, hy0⟩ : ∃ z : Nat, 1 + ot % 64 = z := ⟨(1 + ot % 64).toNat, by omega⟩
  have hz1 : 1 ≤ z ∧ z ≤ 64 := by omega
  have hy1 : 1 ≤ y ∧ y ≤ 64 := by omega
  have rp : RemIs pl 64 (pl % 64) := ⟨Int.tmod_eq_emod_of_nonneg hpl.1, by decide⟩
  have sp : Small pl := ⟨by omega, by omega⟩
  have ro : RemIs ot 64 (ot % 64) := ⟨Int.tmod_eq_emod_of_nonneg hot.1, by decide⟩
  have so2 : Small ot := ⟨by omega, by omega⟩
  have hz0' := Lib.hid hz0
  have hy0' := Lib.hid hy0
  obtain ⟨lb, hfb⟩ := fb_of hvf
  obtain ⟨st, hst⟩ : ∃ st, pkL m (lb.take 10) = st := ⟨_, rfl⟩
  have hl10 : st.length ≤ 10 := by rw [← hst, pkL_len, List.length_take]; omega
  have hlf : ∀ k, k < st.length → ∃ q : Nat, st.getD k (0, 0) = ((q : Int), 1) ∧ q < m := fun k hk => by
    rw [← hst, pkL_len] at hk
    obtain ⟨q, h1, h2, _⟩ := pkL_get (m := m) (k := k) (l := lb.take 10) hk
    rw [← hst]
    exact ⟨q, h1, h2 (by omega)⟩
  have hlf' := Lib.hid hlf
  have hst' := Lib.hid hst
  clear hm0 hz0 hy0 w1 w4 w5 hlf hst
  go_enter Try.func4, Try.ntmps4
  go_wp2_with (first | go_skip | (refine wpList_is (.convert _ _ _) rfl ?_; refine wpList_stp (by kernel_rfl) (stp_val (run_cvn _ _ _ rfl) ?_)) | (refine wpList_is (.binOp .rem _ _ _ _) rfl ?_; refine wpList_stp (by kernel_rfl) (stp_val (run_remv _ _ _ _ rfl) ?_)) | (go_at_call 17; (with_reducible refine gr_graph hS n hn hv m hm.out ?_); clear hS; intro pa E0 Hs lv Ev w hH hG hRS hS; have hone := hRS.one; have hG' := Lib.hid hG; clear hG; unfold Ret) | (go_at_call 18; go_must (refine picked_arg hvf hfb (Ev := Ev) (H1 := E0 ++ Hz) hS.pick hRS hm1 ?_); clear hS; intro vs Es w hPK hS; unfold Ret; rw [hst'.out] at hPK; have honeS := hPK.one) | (go_at_call 20; (with_reducible refine mark_ok hS hH hRS hPK hG'.out hm1 (by omega) hlf'.out hz1 (1 + pl % 64) hz0'.out ?_); clear hS; intro ap L l1 E1 w hT hM1 hs1 hg1 hS; unfold Ret; have hM1' := Lib.hid hM1; have hs1' := Lib.hid hs1; have hg1' := Lib.hid hg1; clear hM1 hs1 hg1) | (go_at_call 21; (with_reducible refine rs_clone hS hPK (by omega) ?_); clear hS; intro vb Eb w hCL _ hS; unfold Ret; have honeB := hCL.one) | (go_at_call 22; (with_reducible refine ref_reverse hS hCL (by omega) ?_); clear hS hCL; intro st2 Eb w hCL hl2 hmem hS; unfold Ret; have hmem' := Lib.hid hmem; have hlf2 : ∀ k, k < st2.length → ∃ q : Nat, st2.getD k (0, 0) = ((q : Int), 1) ∧ q < m := rev_all hlf'.out hmem; have hlf2' := Lib.hid hlf2; clear hmem hlf2) | (go_at_call 20; (with_reducible refine mark_ok hS hH hRS hCL hG'.out hm1 (by omega) hlf2'.out hy1 (1 + ot % 64) hy0'.out ?_); clear hS; intro aq L' l2 Eq w hT2 hM2 hs2 hg2 hS; unfold Ret; have hM2' := Lib.hid hM2; have hs2' := Lib.hid hs2; have hg2' := Lib.hid hg2; clear hM2 hs2 hg2) | go_skip | (refine wpList_is (.call { callee := .builtin .len, args := #[_], argTypes := #[_] }) rfl ?_; refine wpList_stp (by kernel_rfl) (stp_val (run_lenv _ _ rfl) ?_)) | (refine wpList_is (.slice _ _ none (some _) none) rfl ?_; refine wpList_stp (by kernel_rfl) (stp_val (run_prev _ _ _ rfl) ?_)) | (refine wpList_is (.indexAddr _ _ _) rfl ?_; refine wpList_stp (by kernel_rfl) (stp_val (run_idxv _ _ _ rfl) ?_)) | go_skip | (refine wpList_is (.build _ _) rfl ?_; go_must (refine wpList_stp (by kernel_rfl) (stp_val (run_bd _ _ rfl) ?_))) | (refine wpList_is (.call { callee := .builtin .clear, args := #[_], argTypes := #[_] }) rfl ?_; go_must (refine wpList_stp (by kernel_rfl) (stp_cl _ _ rfl hS (by decide) ?_)); clear hS; intro w hS) | (refine wpList_is (.load _ _) rfl ?_; go_must (first | refine wpList_stp (by kernel_rfl) (stp_val (run_ld _ _ rfl hS) ?_) | refine wpList_stp (by kernel_rfl) (stp_val (run_lda _ _ rfl hS) ?_) | refine wpList_stp (by kernel_rfl) (stp_val (run_ld0 _ _ rfl hS) ?_) | refine wpList_stp (by kernel_rfl) (stp_val (run_lda0 _ _ rfl hS) ?_))) | (refine wpList_is (.store _ _ _) rfl ?_; go_must (first | refine wpList_stp (by kernel_rfl) (stp_st _ _ _ rfl hS ?_) | refine wpList_stp (by kernel_rfl) (stp_sta _ _ _ rfl hS ?_)); clear hS; intro w hS) | (refine wpList_is (.alloc _) rfl ?_; go_must (refine wpList_stp (by kernel_rfl) (stp_al _ rfl hS ?_)); clear hS; intro bN w hbN hS) | (refine wpList_is (.box _ _) rfl ?_; go_must (refine wpList_stp (by kernel_rfl) (stp_bx _ _ rfl hS ?_)); clear hS; intro bN w hbN hS) | (refine wpList_is (.binOp .eql _ _ (.const (.slice none _ _)) _) rfl ?_; refine wpList_stp (by kernel_rfl) (stp_val (run_nse _ _ _ rfl) ?_)) | (refine wpList_is (.binOp .neq _ _ (.const (.slice none _ _)) _) rfl ?_; refine wpList_stp (by kernel_rfl) (stp_val (run_nsn _ _ _ rfl) ?_)))
  have hsame : ∀ i, L.getD i 0 = L'.getD i 0 := fun i => Mk.same (P := fun i => ((i : Int), (1 : Int)) ∈ st) (P' := fun i => ((i : Int), (1 : Int)) ∈ st2) (fun i => (hmem'.out ((i : Int), (1 : Int))).symm) hM1'.out hM2'.out hs1'.out hs2'.out hg1'.out hg2'.out hm1.2 i
  have hsame' := Lib.hid hsame
  have hS0 : St W [] w (E1 ++ (Eq ++ Hz)) := hS.pick
  clear hS hsame
  go_loopw [62] (fun u wr => ∃ k : Nat, k ≤ 40 ∧ u = .int .i64 k ∧ St W [] wr (E1 ++ (Eq ++ Hz))) (fun u _ => 40 - (intOf u).toNat)
  case atStart => exact ⟨0, Nat.zero_le _, rfl, hS0⟩
  case round =>
    clear hS0
    obtain ⟨k, hk, rfl, hS⟩ := hrel
    by_cases hlt : k < 40
    · obtain ⟨f1, f2⟩ := of_at (L := L) hlt
      obtain ⟨f3, f4⟩ := of_at (L := L') hlt
      rw [← hsame'.out] at f4
      obtain ⟨c, hc⟩ : ∃ c, L.getD k 0 = c := ⟨_, rfl⟩
      rw [hc] at f2 f4
      have hkI : (k : Int) < 40 := by omega
      clear hc
      go_wp2_with (first | go_skip | (go_at_call 23; (with_reducible refine pn_of hS hT (k : Int) _ _ f2 f1 ?_); clear hS; intro w hS; unfold Ret) | (go_at_call 23; (with_reducible refine pn_of hS hT2 (k : Int) _ _ f4 f3 ?_); clear hS; intro w hS; unfold Ret) | go_skip | (refine wpList_is (.call { callee := .builtin .len, args := #[_], argTypes := #[_] }) rfl ?_; refine wpList_stp (by kernel_rfl) (stp_val (run_lenv _ _ rfl) ?_)) | (refine wpList_is (.slice _ _ none (some _) none) rfl ?_; refine wpList_stp (by kernel_rfl) (stp_val (run_prev _ _ _ rfl) ?_)) | (refine wpList_is (.indexAddr _ _ _) rfl ?_; refine wpList_stp (by kernel_rfl) (stp_val (run_idxv _ _ _ rfl) ?_)) | go_skip | (refine wpList_is (.build _ _) rfl ?_; go_must (refine wpList_stp (by kernel_rfl) (stp_val (run_bd _ _ rfl) ?_))) | (refine wpList_is (.call { callee := .builtin .clear, args := #[_], argTypes := #[_] }) rfl ?_; go_must (refine wpList_stp (by kernel_rfl) (stp_cl _ _ rfl hS (by decide) ?_)); clear hS; intro w hS) | (refine wpList_is (.load _ _) rfl ?_; go_must (first | refine wpList_stp (by kernel_rfl) (stp_val (run_ld _ _ rfl hS) ?_) | refine wpList_stp (by kernel_rfl) (stp_val (run_lda _ _ rfl hS) ?_) | refine wpList_stp (by kernel_rfl) (stp_val (run_ld0 _ _ rfl hS) ?_) | refine wpList_stp (by kernel_rfl) (stp_val (run_lda0 _ _ rfl hS) ?_))) | (refine wpList_is (.store _ _ _) rfl ?_; go_must (first | refine wpList_stp (by kernel_rfl) (stp_st _ _ _ rfl hS ?_) | refine wpList_stp (by kernel_rfl) (stp_sta _ _ _ rfl hS ?_)); clear hS; intro w hS) | (refine wpList_is (.alloc _) rfl ?_; go_must (refine wpList_stp (by kernel_rfl) (stp_al _ rfl hS ?_)); clear hS; intro bN w hbN hS) | (refine wpList_is (.box _ _) rfl ?_; go_must (refine wpList_stp (by kernel_rfl) (stp_bx _ _ rfl hS ?_)); clear hS; intro bN w hbN hS) | (refine wpList_is (.binOp .eql _ _ (.const (.slice none _ _)) _) rfl ?_; refine wpList_stp (by kernel_rfl) (stp_val (run_nse _ _ _ rfl) ?_)) | (refine wpList_is (.binOp .neq _ _ (.const (.slice none _ _)) _) rfl ?_; refine wpList_stp (by kernel_rfl) (stp_val (run_nsn _ _ _ rfl) ?_)))
      go_roundw
      case rel => exact ⟨k + 1, by omega, by go_num, hS.pick⟩
      case measure => simp [intOf]; omega
    · obtain rfl : k = 40 := by omega
      go_wp2_with (first | go_skip | (go_at_call 16; refine works_ok hS ?_; clear hS; intro w hS; unfold Ret) | go_skip | (refine wpList_is (.call { callee := .builtin .len, args := #[_], argTypes := #[_] }) rfl ?_; refine wpList_stp (by kernel_rfl) (stp_val (run_lenv _ _ rfl) ?_)) | (refine wpList_is (.slice _ _ none (some _) none) rfl ?_; refine wpList_stp (by kernel_rfl) (stp_val (run_prev _ _ _ rfl) ?_)) | (refine wpList_is (.indexAddr _ _ _) rfl ?_; refine wpList_stp (by kernel_rfl) (stp_val (run_idxv _ _ _ rfl) ?_)) | go_skip | (refine wpList_is (.build _ _) rfl ?_; go_must (refine wpList_stp (by kernel_rfl) (stp_val (run_bd _ _ rfl) ?_))) | (refine wpList_is (.call { callee := .builtin .clear, args := #[_], argTypes := #[_] }) rfl ?_; go_must (refine wpList_stp (by kernel_rfl) (stp_cl _ _ rfl hS (by decide) ?_)); clear hS; intro w hS) | (refine wpList_is (.load _ _) rfl ?_; go_must (first | refine wpList_stp (by kernel_rfl) (stp_val (run_ld _ _ rfl hS) ?_) | refine wpList_stp (by kernel_rfl) (stp_val (run_lda _ _ rfl hS) ?_) | refine wpList_stp (by kernel_rfl) (stp_val (run_ld0 _ _ rfl hS) ?_) | refine wpList_stp (by kernel_rfl) (stp_val (run_lda0 _ _ rfl hS) ?_))) | (refine wpList_is (.store _ _ _) rfl ?_; go_must (first | refine wpList_stp (by kernel_rfl) (stp_st _ _ _ rfl hS ?_) | refine wpList_stp (by kernel_rfl) (stp_sta _ _ _ rfl hS ?_)); clear hS; intro w hS) | (refine wpList_is (.alloc _) rfl ?_; go_must (refine wpList_stp (by kernel_rfl) (stp_al _ rfl hS ?_)); clear hS; intro bN w hbN hS) | (refine wpList_is (.box _ _) rfl ?_; go_must (refine wpList_stp (by kernel_rfl) (stp_bx _ _ rfl hS ?_)); clear hS; intro bN w hbN hS) | (refine wpList_is (.binOp .eql _ _ (.const (.slice none _ _)) _) rfl ?_; refine wpList_stp (by kernel_rfl) (stp_val (run_nse _ _ _ rfl) ?_)) | (refine wpList_is (.binOp .neq _ _ (.const (.slice none _ _)) _) rfl ?_; refine wpList_stp (by kernel_rfl) (stp_val (run_nsn _ _ _ rfl) ?_)))
      exact hR _ hS.chg
end Go.Proofs.Ytgpjanfphgjbbaa
