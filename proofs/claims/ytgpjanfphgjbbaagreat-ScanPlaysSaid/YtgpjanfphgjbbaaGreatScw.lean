/-
  shows: program and document answer alike.
-/
import Derived.Test.YtgpjanfphgjbbaaGreatRsf
import Derived.Test.YtgpjanfphgjbbaaGreatWks
set_option linter.unusedSimpArgs false
set_option linter.unusedVariables false
namespace Go.Proofs.YtgpjanfphgjbbaaGreat
open Go Go.RowKit Go.Mm
variable {R : Ending → World → Prop} {w : World} {w0 : World} {bs : List Nat} {H H1 H2 H3 H4 H5 H6 Ea Eb Ec Ed Ee Ef : List Ent}
set_option maxHeartbeats 4000000 in
set_option maxRecDepth 100000 in
theorem shows_ok {ph p q ph2 p2 q2 : Option Addr} {Hh : Hp} {T : Cq} {S : Sq} (hO : St w0 bs w H) (hH : HA ph Hh Ea) (hT : KA p T Eb) (hU : SA q S Ec) (hH2 : RH ph2 Hh Ed) (hT2 : KR p2 T Ee) (hU2 : SR q2 S Ef)
    [c1 : Cut H Ea H1] [c2 : Cut H1 Eb H2] [c3 : Cut H2 Ec H3] [c4 : Cut H3 Ed H4] [c5 : Cut H4 Ee H5] [c6 : Cut H5 Ef H6] (s g : Int)
    (hR : ∀ w', St w0 bs w' (Ea ++ (Eb ++ (Ec ++ (Ed ++ (Ee ++ (Ef ++ H6)))))) → Ret R (.bool true) w') : Calls Tryz.prog 27 #[.pointer ph, .pointer p, .pointer q, .pointer ph2, .pointer p2, .pointer q2, .agg #[.int .i64 s, .int .u32 g]] w R := by
  have hS := (hO.front (E := Ea) (H1 := H1))
  have hS : St w0 bs w (Ea ++ (Eb ++ (Ec ++ (Ed ++ (Ee ++ (Ef ++ H6)))))) := hS.pick
  clear hO
  obtain ⟨l, hl⟩ : ∃ l, chdR Hh s g = l := ⟨_, rfl⟩
  obtain ⟨e, he⟩ : ∃ e, wiH Hh s g = e := ⟨_, rfl⟩
  have hl4 : l.length ≤ 4 := by rw [← hl]; exact chdR_len Hh s g
  obtain ⟨x1, hd1⟩ : ∃ x, dnB T S = x := ⟨_, rfl⟩
  obtain ⟨x2, hd2⟩ : ∃ x, dnE T S = x := ⟨_, rfl⟩
  obtain ⟨⟨x3, x4⟩, hso⟩ : ∃ x, soR Hh T = x := ⟨_, rfl⟩
  obtain ⟨x5, hls⟩ : ∃ x, lnS S = x := ⟨_, rfl⟩
  obtain ⟨x6, hov⟩ : ∃ x, ovS S = x := ⟨_, rfl⟩
  go_enter Tryz.func27, Tryz.ntmps27
  go_wp2_with (first | (refine wpList_is (.box 47 _) rfl ?_; go_must (refine wpList_stp (by kernel_rfl) (stp_bx _ _ rfl hS ?_)); clear hS; intro br w _ hS) | (go_at_call 28; refine sc_children hS hH s g _ _ hl he ?_; clear hS; intro v1 E1 w hI1 _ hS; have hone := hI1.one; have hln := hI1.len rfl; unfold Ret) | (go_at_call 64; refine rc_children hS hH2 s g _ _ hl he ?_; clear hS hH2; intro v2 E2 w hI2 hH2 hS; have hone2 := hI2.one; have hln2 := hI2.len rfl; unfold Ret) | (go_at_call 30; refine sc_done hS hT hU _ _ hd1 hd2 ?_; clear hS; intro w hS; unfold Ret) | (go_at_call 76; refine rc_done hS hT2 hU2 _ _ hd1 hd2 ?_; clear hS hT2 hU2; intro w hT2 hU2 hS; unfold Ret) | (go_at_call 31; refine sc_sound hS hH hT _ _ hso ?_; clear hS; intro w hS; unfold Ret) | (go_at_call 77; refine rc_sound hS hH2 hT2 _ _ hso ?_; clear hS hH2 hT2; intro w hH2 hT2 hS; unfold Ret) | (go_at_call 29; refine is_equal hS hI1 hI2 (by omega) true (decide_eq_true rfl) ?_; clear hS; intro w hS; unfold Ret) | (go_at_call 78; refine sq_len hS hU _ hls ?_; clear hS; intro w hS; unfold Ret) | (go_at_call 79; refine sr_len hS hU2 _ hls ?_; clear hS hU2; intro w hU2 hS; unfold Ret) | (go_at_call 32; refine sq_over hS hU _ hov ?_; clear hS; intro w hS; unfold Ret) | (go_at_call 80; refine sr_over hS hU2 _ hov ?_; clear hS hU2; intro w hU2 hS; unfold Ret) | (refine wpList_is (.load _ _) rfl ?_; go_must ((refine wpList_stp (by kernel_rfl) (stp_val (run_lda _ _ rfl hS) ?_)))))
  have hS0 : St w0 bs w (Ea ++ (Eb ++ (Ec ++ (Ed ++ (Ee ++ (Ef ++ H6)))))) := hS.pick
  have hT0 := hT2
  clear hS hl he hd1 hd2 hso hls hov hT2
  go_loopw [111] (fun u wr => ∃ k : Nat, k ≤ 12 ∧ u = .int .i64 k ∧ KR p2 T Ee ∧ St w0 bs wr (Ea ++ (Eb ++ (Ec ++ (Ed ++ (Ee ++ (Ef ++ H6))))))) (fun u _ => 12 - (intOf u).toNat)
  case atStart => exact ⟨0, by omega, rfl, hT0, hS0⟩
  case round =>
    clear hS0 hT0
    obtain ⟨k, hk, rfl, hT2, hS⟩ := hrel
    by_cases hlt : k < 12
    · obtain ⟨c, hc⟩ : ∃ c, ofR T k = c := ⟨_, rfl⟩
      obtain ⟨e, he⟩ : ∃ c, ofE T k = c := ⟨_, rfl⟩
      go_wp2_with (first | (go_at_call 60; refine pn_of hS hT k _ _ hc he ?_; clear hS; intro w hS; unfold Ret) | (go_at_call 65; refine kr_of hS hT2 k _ _ hc he ?_; clear hS hT2; intro w hT2 hS; unfold Ret))
      go_roundw
      case rel => exact ⟨k + 1, by omega, by go_num, hT2, hS.pick⟩
      case measure => simp [intOf]; omega
    · obtain ⟨d, hd⟩ : ∃ d : Nat, k = 12 + d := ⟨k - 12, by omega⟩
      have hk12 : (12 : Int) ≤ k := by omega
      clear hd
      go_wp2_with ((go_skip))
      exact hR _ hS.pick
end Go.Proofs.YtgpjanfphgjbbaaGreat
