/-
  shows: program and document show the same.
-/
import Derived.Test.YtjlihigodggfcaaGreatRarF
import Derived.Test.YtjlihigodggfcaaGreatArnQ
set_option linter.unusedSimpArgs false
set_option linter.unusedVariables false
namespace Go.Proofs.YtjlihigodggfcaaGreat
open Go Go.RowKit Go.Mm
variable {R : Ending → World → Prop} {w : World} {w0 : World} {bs : List Nat} {H H1 H2 H3 Ea Er Z : List Ent}
set_option maxRecDepth 100000 in
theorem arrEq4 {F F' : List (Int × Int)} (h4 : F.length = 4) (h4' : F'.length = 4) : AggEq Tryz.prog 37 (fdC F) (fdC F') (decide (F = F')) := by
  have hr : ∀ w, (Op.equalIn 10000 37 (.agg (fdC F)) (.agg (fdC F'))).run Tryz.prog w = .ok (decide (F = F')) w := by
    intro w
    have hc : Program.cellsOf Tryz.prog 25 = 2 := by kernel_rfl
    obtain ⟨inf, _, hinf, _⟩ := e_ref.parts
    have hg : ∀ {L : List (Int × Int)}, L.length = 4 → ∀ i, i < 4 → L[i]? = some (L.getD i (0, 0)) := fun h i hi => by rw [List.getD_eq_getElem?_getD, List.getElem?_eq_getElem (by omega)]; rfl
    rw [arr_items 9999 (e := 25) (len := 4) (fdC F) (fdC F') (by kernel_rfl) hinf (fun i => .agg #[.int .i64 (F.getD i (0, 0)).1, .int .u32 (F.getD i (0, 0)).2])
      (fun i => .agg #[.int .i64 (F'.getD i (0, 0)).1, .int .u32 (F'.getD i (0, 0)).2]) (fun i => refB (F.getD i (0, 0)).1 (F.getD i (0, 0)).2 (F'.getD i (0, 0)).1 (F'.getD i (0, 0)).2)
      (fun i hi w => by rw [hc]; exact run_part_agg a_ref (blkCells (pre := []) slf_len (hg h4 i hi) (by simp)) w)
      (fun i hi w => by rw [hc]; exact run_part_agg a_ref (blkCells (pre := []) slf_len (hg h4' i hi) (by simp)) w)
      (fun i _ w => refEqIn 9997 _ _ _ _ w)]
    congr 1
    rw [Bool.eq_iff_iff, List.all_eq_true, decide_eq_true_eq]
    constructor
    · intro h
      refine List.ext_getElem (h4.trans h4'.symm) (fun i h1 h2 => ?_)
      have := refB_iff.1 (h i (List.mem_range.2 (by omega)))
      simpa [h1, h2] using this
    · rintro rfl i _
      exact refB_self _ _
  exact ⟨fun w => by rw [run_eql_struct, hr]; rfl, fun w => by rw [run_neq_struct, hr]; rfl, by kernel_rfl⟩
theorem arrSelf4 {F : List (Int × Int)} (h4 : F.length = 4) : AggEq Tryz.prog 37 (fdC F) (fdC F) true := by
  have := arrEq4 h4 h4
  rwa [decide_eq_true rfl] at this
theorem ar_g8 {p : Option Addr} {T : Ar} (h : AR p T Er Z) : T.2.2.length = 8 := by
  obtain ⟨b, ph, Eh, g, cap, vs, sp, _, _, _, _, _, _, _, hG8, _⟩ := h
  exact hG8
theorem ar_k4 {p : Option Addr} {T : Ar} (h : AR p T Er Z) : T.2.1.length ≤ 4 := by
  obtain ⟨b, ph, Eh, g, cap, vs, sp, _, _, h1, _, _, h4, _⟩ := h
  omega
theorem ar_ob {p : Option Addr} {T : Ar} (h : AR p T Er Z) (s g : Int) : ObW (obR (some (some T.1)) s g) := by
  obtain ⟨b, ph, Eh, g, cap, vs, sp, _, hH, _⟩ := h
  exact hH.obw _ _
theorem ar_al {p : Option Addr} {T : Ar} (h : AR p T Er Z) : (alH (some (some T.1))).length ≤ 256 := by
  obtain ⟨b, ph, Eh, g, cap, vs, sp, _, hH, _⟩ := h
  exact tkL_256 hH.1.tb
theorem rtS_le {p : Option Addr} {T : Ar} (h : AA p T Ea) (m : Int) : (if inM T m then rtL T m else []).length ≤ 256 := by
  split
  · have := rtL_le h m; omega
  · simp
set_option maxHeartbeats 4000000 in
set_option maxRecDepth 100000 in
theorem shows_ok {p q : Option Addr} {T : Ar} (hO : St w0 bs w H) (hA : AA p T Ea) (hB : AR q T Er Z) [c1 : Cut H Ea H1] [c2 : Cut H1 Er H2] [c3 : Cut H2 Z H3]
    (hR : ∀ w', St w0 bs w' (Ea ++ (Er ++ (Z ++ H3))) → Ret R (.bool true) w') : Calls Tryz.prog 13 #[.pointer p, .pointer q] w R := by
  have hS := hO.front (E := Ea) (H1 := H1)
  have hS : St w0 bs w (Ea ++ (Er ++ (Z ++ H3))) := hS.pick
  clear hO c1 c2 c3
  obtain ⟨z, hz⟩ : ∃ z, T.1.length = z := ⟨_, rfl⟩
  obtain ⟨k, hk⟩ : ∃ z, T.2.1.length = z := ⟨_, rfl⟩
  obtain ⟨G0, hG⟩ : ∃ z, alV (some (true, T.2.2)) = z := ⟨_, rfl⟩
  have h256 : G0.length ≤ 256 := by
    rw [← hG]
    have h8 := ar_g8 hB
    have : (T.2.2.filter nzR).length ≤ T.2.2.length := List.length_filter_le _ _
    show (T.2.2.filter nzR).length ≤ 256
    omega
  have hk4 : k ≤ 4 := by rw [← hk]; exact ar_k4 hB
  have hz' := Lib.hid hz
  have hk' := Lib.hid hk
  have hG' := Lib.hid hG
  clear hz hk hG
  go_enter Tryz.func13, Tryz.ntmps13
  go_wp2_with (first | (go_at_call 40; refine ar_sizes hS hA z k hz'.out hk'.out ?_; clear hS; intro w _ hS; unfold Ret) | (go_at_call 41; refine rr_sizes hS hB z k hz'.out hk'.out ?_; clear hS; intro w hS; unfold Ret) | (go_at_call 43; refine ar_globals hS hA G0 hG'.out ?_; clear hS; intro v1 E1 w _ hI1 hS; have hone1 := hI1.one; unfold Ret) | (go_at_call 44; refine rr_globals hS hB G0 hG'.out ?_; clear hS; intro v2 E2 w hI2 hS; have hone2 := hI2.one; unfold Ret) | (go_at_call 42; refine rh_same hS hI1 hI2 h256 ?_; clear hS; intro w hS; unfold Ret))
  have hS0 : St w0 bs w (Ea ++ (Er ++ (Z ++ H3))) := hS.pick
  clear hS hI1 hI2 hone1 hone2 h256
  go_loopw [9] (fun u wr => ∃ i : Nat, i ≤ k ∧ u = .int .i64 i ∧ St w0 bs wr (Ea ++ (Er ++ (Z ++ H3)))) (fun u _ => k - (intOf u).toNat)
  case atStart => exact ⟨0, by omega, rfl, hS0⟩
  case round =>
    clear hS0
    obtain ⟨i, hik, rfl, hS⟩ := hrel
    by_cases hlt : i < k
    · obtain ⟨l, hl⟩ : ∃ l, (if inM T i then rtL T i else []) = l := ⟨_, rfl⟩
      obtain ⟨e, he⟩ : ∃ e, muE T i = e := ⟨_, rfl⟩
      have h256 : l.length ≤ 256 := by rw [← hl]; exact rtS_le hA i
      have hl' := Lib.hid hl
      have he' := Lib.hid he
      clear hl he
      go_wp2_with (first | (go_at_call 45; refine ar_stack hS hA i l e hl'.out he'.out ?_; clear hS; intro v1 E1 w _ hI1 hS; have hone1 := hI1.one; unfold Ret) | (go_at_call 46; refine rr_stack hS hB i l e hl'.out he'.out ?_; clear hS; intro v2 E2 w hI2 hS; have hone2 := hI2.one; unfold Ret) | (go_at_call 42; refine rh_same hS hI1 hI2 h256 ?_; clear hS; intro w hS; unfold Ret))
      go_roundw
      case rel => exact ⟨i + 1, by omega, by go_num, hS.pick⟩
      case measure => simp [intOf]; omega
    · obtain rfl : i = k := by omega
      obtain ⟨la, hla⟩ : ∃ l, alH (some (some T.1)) = l := ⟨_, rfl⟩
      obtain ⟨lf, hlf⟩ : ∃ l, lfH (some (some T.1)) = l := ⟨_, rfl⟩
      have h256 : la.length ≤ 256 := by rw [← hla]; exact ar_al hB
      have hla' := Lib.hid hla
      have hlf' := Lib.hid hlf
      clear hla hlf hlt
      go_wp2_with (first | (go_at_call 49; refine ar_heap hS hA ?_; clear hS; intro q1 F1 w _ hH1 hS; unfold Ret) | (go_at_call 47; refine rr_heap hS hB ?_; clear hS; intro q2 F2 w hH2 hS; unfold Ret) | (go_at_call 50; refine hp_all hS hH1 la hla'.out ?_; clear hS; intro v1 E1 w hI1 hS; have hone1 := hI1.one; unfold Ret) | (go_at_call 51; refine hp_left hS hH1 lf hlf'.out ?_; clear hS; intro w _ hS; unfold Ret) | (go_at_call 52; refine rh_left hS hH2 lf hlf'.out ?_; clear hS; intro w _ hS; unfold Ret) | (go_at_call 48; refine rh_all hS hH2 la hla'.out ?_; clear hS; intro v2 E2 w hI2 hS; have hone2 := hI2.one; unfold Ret) | (go_at_call 42; refine rh_same hS hI1 hI2 h256 ?_; clear hS; intro w hS; unfold Ret))
      have hS0 : St w0 bs w (E2 ++ (Ea ++ (Er ++ (Z ++ H3)))) := hS.pick
      have hln := hI2.len rfl
      clear hS hI1 hH1 hH2 hone1
      go_loopw [15] (fun u wr => ∃ j : Nat, j ≤ la.length ∧ u = .int .i64 j ∧ St w0 bs wr (E2 ++ (Ea ++ (Er ++ (Z ++ H3))))) (fun u _ => la.length - (intOf u).toNat)
      case atStart => exact ⟨0, by omega, rfl, hS0⟩
      case round =>
        clear hS0
        obtain ⟨j, hj, rfl, hS⟩ := hrel
        by_cases hlj : j < la.length
        · obtain ⟨⟨ys, yg⟩, hy⟩ : ∃ y, la.getD j (0, 0) = y := ⟨_, rfl⟩
          obtain ⟨gy, spy, iy, hhy, hcy⟩ := hI2.at hlj hy
          have iy := iy j rfl
          simp only at hcy
          obtain ⟨e, he⟩ : ∃ e, wiH (some (some T.1)) ys yg = e := ⟨_, rfl⟩
          obtain ⟨⟨n, F, h⟩, ho⟩ : ∃ o, obR (some (some T.1)) ys yg = o := ⟨_, rfl⟩
          have hF : F.length = 4 := by have := (ar_ob hB ys yg).len; rw [ho] at this; exact this
          have hO2 := objOver (n := 0) (n' := n) (h := false) (h' := h) (F := zero4) rfl hF
          have hA2 := objAll (n := n) (h := h) hF
          have hZ2 := objSize (n := n) (h := h) hF
          have hF1 := objF (n := n) (h := h) hF
          have hF2 := objH (n := n) (h := h) hF
          have q1 := arrSelf4 hF
          have q2 : BoolEq Tryz.prog 4 h h true := ⟨by simp, Tryz.underlying4⟩
          have he' := Lib.hid he
          have ho' := Lib.hid ho
          clear he ho hy hF
          go_wp2_with (first | (go_at_call 9; refine ar_object hS hA ys yg (n, F, h) e ho'.out he'.out ?_; clear hS; intro w _ hS; have hz3 : obC (n, F, h) = objC n F h := rfl; rw [hz3]; clear hz3; unfold Ret) | (go_at_call 10; refine rr_object hS hB ys yg (n, F, h) e ho'.out he'.out ?_; clear hS; intro w hS; have hz3 : obC (n, F, h) = objC n F h := rfl; rw [hz3]; clear hz3; unfold Ret) | (refine wpList_is (.alloc 39) rfl ?_; go_must (refine wpList_stp (by kernel_rfl) (stp_al _ rfl hS ?_)); clear hS; intro b16 w _ hS) | (refine wpList_is (.alloc 42) rfl ?_; go_must (refine wpList_stp (by kernel_rfl) (stp_al _ rfl hS ?_)); clear hS; intro b18 w _ hS) | (refine wpList_is (.binOp .neq 37 _ _ _) rfl ?_; refine wpList_stp (by kernel_rfl) (stp_val (run_ane _ _ _ _ rfl) ?_)) | (refine wpList_is (.binOp .neq 4 _ _ _) rfl ?_; refine wpList_stp (by kernel_rfl) (stp_val (run_bne _ _ _ _ rfl) ?_)) | (refine wpList_is (.call { callee := .builtin .len, args := #[_], argTypes := #[_] }) rfl ?_; refine wpList_stp (by kernel_rfl) (stp_val (run_lenv _ _ rfl) ?_)) | (refine wpList_is (.indexAddr _ _ _) rfl ?_; refine wpList_stp (by kernel_rfl) (stp_val (run_idxv _ _ _ rfl) ?_)) | (refine wpList_is (.load _ _) rfl ?_; go_must (first | refine wpList_stp (by kernel_rfl) (stp_val (run_ld _ _ rfl hS) ?_) | refine wpList_stp (by kernel_rfl) (stp_val (run_lda _ _ rfl hS) ?_))) | (refine wpList_is (.store _ _ _) rfl ?_; go_must ((refine wpList_stp (by kernel_rfl) (stp_sta _ _ _ rfl hS ?_))); clear hS; intro w hS))
          go_roundw
          case rel => exact ⟨j + 1, by omega, by go_num, hS.pick⟩
          case measure => simp [intOf]; omega
        · obtain rfl : j = la.length := by omega
          go_wp2_with ((refine wpList_is (.call { callee := .builtin .len, args := #[_], argTypes := #[_] }) rfl ?_; refine wpList_stp (by kernel_rfl) (stp_val (run_lenv _ _ rfl) ?_)))
          exact hR _ hS.pick
end Go.Proofs.YtjlihigodggfcaaGreat
