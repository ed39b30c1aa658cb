/-
  estraylaw23.graph where no object is freed, and picked.
-/
import Derived.Test.YtgpjanfphgjbbaaGmo
import Derived.Test.YtgpjanfphgjbbaaRgn
import Derived.Test.YtgpjanfphgjbbaaHeapF
set_option linter.unusedSimpArgs false
set_option linter.unusedVariables false
namespace Go.Proofs.Ytgpjanfphgjbbaa
open Go Go.RowKit Go.Mm
variable {R : Ending → World → Prop} {w : World} {H : List Ent}
instance gr_ed : AggT Try.prog 109 3 := ⟨by kernel_rfl, by kernel_rfl⟩
instance gr_ez : ZeroT Try.prog 109 #[.int .u8 0, .int .u8 0, .int .u8 0] := ⟨by kernel_rfl⟩
instance gr_e0 {b off : Nat} : FieldAt Try.prog 109 0 b off off := ⟨fun w => by kernel_rfl⟩
instance gr_e1 {b off : Nat} : FieldAt Try.prog 109 1 b off (off + 1) := ⟨fun w => by kernel_rfl⟩
instance gr_e2 {b off : Nat} : FieldAt Try.prog 109 2 b off (off + 2) := ⟨fun w => by kernel_rfl⟩
instance gr_u8 : ScalarT Try.prog 5 := ⟨by kernel_rfl, by kernel_rfl⟩
instance gr_cv : CvI Try.prog 5 3 .i64 := ⟨by kernel_rfl, by kernel_rfl, by kernel_rfl⟩
theorem bounds_u8S {n : Int} (h : (Lit.int .u8 n).wf = true) : 0 ≤ n ∧ n ≤ 255 := by
  simp [Lit.wf, IntKind.min, IntKind.max, IntKind.signed, IntKind.bits] at h
  omega
theorem ed_cells {W : World} {v : Value} {n sb so : Nat} {F : Nat → Nat → Value} (hv : Flat W [.i .u8, .i .u8, .i .u8] v n sb so F) {i : Nat} (hlt : i < n) :
    ∃ a b c : Nat, a ≤ 255 ∧ b ≤ 255 ∧ c ≤ 255 ∧ F i 0 = .int .u8 a ∧ F i 1 = .int .u8 b ∧ F i 2 = .int .u8 c := by
  obtain ⟨a, f0, wa⟩ := hv.int (i := i) (j := 0) hlt rfl
  obtain ⟨b, f1, wb⟩ := hv.int (i := i) (j := 1) hlt rfl
  obtain ⟨c, f2, wc⟩ := hv.int (i := i) (j := 2) hlt rfl
  have ha := bounds_u8S wa
  have hb := bounds_u8S wb
  have hc := bounds_u8S wc
  refine ⟨a.toNat, b.toNat, c.toNat, by omega, by omega, by omega, ?_, ?_, ?_⟩
  · rw [f0, Int.toNat_of_nonneg ha.1]
  · rw [f1, Int.toNat_of_nonneg hb.1]
  · rw [f2, Int.toNat_of_nonneg hc.1]
theorem rem_nat {a m q : Nat} (hq : a % m = q) (hm : 0 < m) : RemIs (a : Int) (m : Int) (q : Int) := ⟨by rw [Int.tmod_eq_emod_of_nonneg (by omega)]; omega, by omega⟩
/-- A slice that is nil, as an argument. -/
theorem flat_nil {W : World} {ks : List Lk} : Flat W ks (.slice none 0 0) 0 0 0 (fun _ _ => undef) :=
  ⟨⟨none, 0, rfl, Nat.le_refl _, by simp [maxLen], fun h => absurd h (Nat.lt_irrefl 0)⟩, fun i hi => absurd hi (Nat.not_lt_zero _), fun i hi => absurd hi (Nat.not_lt_zero _)⟩
set_option maxHeartbeats 4000000 in
set_option maxRecDepth 100000 in
theorem gr_graph {W : World} (hO : St W [] w H) (n : Int) (hn : 0 ≤ n ∧ n ≤ 255) {v : Value} {nn sb so : Nat} {F : Nat → Nat → Value} (hv : Flat W [.i .u8, .i .u8, .i .u8] v nn sb so F) (m : Nat) (hm : 1 + n % 40 = m)
    (hR : ∀ (a : Addr) E0 L lv Ev w', HA (some a) (some (some L)) E0 → Gr m L → RS lv (nmS m) Ev → St W [] w' (E0 ++ (Ev ++ H)) → Ret R (.tuple #[.pointer (some a), lv]) w') :
    Calls Try.prog 17 #[.int .u8 n, v, .slice none 0 0] w R := by
  have hS := hO
  clear hO
  have hm40 : 1 ≤ m ∧ m ≤ 40 := by omega
  have rm : RemIs n 40 (n % 40) := ⟨Int.tmod_eq_emod_of_nonneg hn.1, by decide⟩
  obtain ⟨N, hN⟩ : ∃ N, min nn 120 = N := ⟨_, rfl⟩
  have hmin : MinIs (nn : Int) 120 (N : Nat) := ⟨by split <;> omega⟩
  have hlen := hv.len (t := 63) Try.underlying63
  obtain ⟨v2, hpre, hv2⟩ := hv.pre (t := 63) (e := 109) Try.underlying63 (by kernel_rfl) (m := N) (by omega)
  have hlen2 := hv2.len (t := 63) Try.underlying63
  have hg := flat_nil (W := W) (ks := [.i .u8])
  have hleng := hg.len (t := 64) Try.underlying64
  have hming : MinIs ((0 : Nat) : Int) 10 ((0 : Nat) : Int) := ⟨by decide⟩
  obtain ⟨v3, hpreg, hv3⟩ := hg.pre (t := 64) (e := 5) Try.underlying64 (by kernel_rfl) (m := 0) (by omega)
  have hleng3 := hv3.len (t := 64) Try.underlying64
  have e1 : 1 + n % 40 = (m : Int) := hm
  have hm' := Lib.hid hm
  clear hm
  go_enter Try.func17, Try.ntmps17
  go_wp2_with (first | go_skip | (refine wpList_is (.binOp .rem _ _ _ _) rfl ?_; refine wpList_stp (by kernel_rfl) (stp_val (run_remv _ _ _ _ rfl) ?_)) | (go_at_call 7; (with_reducible refine hp_new hS 40 1 (by decide) (some (some (List.replicate 40 (0, 1, zOb)))) 0 gr_nw (by decide) ?_); clear hS; intro ph E0 w hH hS; unfold Ret) | go_skip | (refine wpList_is (.call { callee := .builtin .len, args := #[_], argTypes := #[_] }) rfl ?_; refine wpList_stp (by kernel_rfl) (stp_val (run_lenv _ _ rfl) ?_)) | (refine wpList_is (.slice _ _ none (some _) none) rfl ?_; refine wpList_stp (by kernel_rfl) (stp_val (run_prev _ _ _ rfl) ?_)) | (refine wpList_is (.indexAddr _ _ _) rfl ?_; refine wpList_stp (by kernel_rfl) (stp_val (run_idxv _ _ _ rfl) ?_)) | go_skip | (refine wpList_is (.build _ _) rfl ?_; go_must (refine wpList_stp (by kernel_rfl) (stp_val (run_bd _ _ rfl) ?_))) | (refine wpList_is (.call { callee := .builtin .clear, args := #[_], argTypes := #[_] }) rfl ?_; go_must (refine wpList_stp (by kernel_rfl) (stp_cl _ _ rfl hS (by decide) ?_)); clear hS; intro w hS) | (refine wpList_is (.load _ _) rfl ?_; go_must (first | refine wpList_stp (by kernel_rfl) (stp_val (run_ld _ _ rfl hS) ?_) | refine wpList_stp (by kernel_rfl) (stp_val (run_lda _ _ rfl hS) ?_) | refine wpList_stp (by kernel_rfl) (stp_val (run_ld0 _ _ rfl hS) ?_) | refine wpList_stp (by kernel_rfl) (stp_val (run_lda0 _ _ rfl hS) ?_))) | (refine wpList_is (.store _ _ _) rfl ?_; go_must (first | refine wpList_stp (by kernel_rfl) (stp_st _ _ _ rfl hS ?_) | refine wpList_stp (by kernel_rfl) (stp_sta _ _ _ rfl hS ?_)); clear hS; intro w hS) | (refine wpList_is (.alloc _) rfl ?_; go_must (refine wpList_stp (by kernel_rfl) (stp_al _ rfl hS ?_)); clear hS; intro bN w hbN hS) | (refine wpList_is (.box _ _) rfl ?_; go_must (refine wpList_stp (by kernel_rfl) (stp_bx _ _ rfl hS ?_)); clear hS; intro bN w hbN hS) | (refine wpList_is (.binOp .eql _ _ (.const (.slice none _ _)) _) rfl ?_; refine wpList_stp (by kernel_rfl) (stp_val (run_nse _ _ _ rfl) ?_)) | (refine wpList_is (.binOp .neq _ _ (.const (.slice none _ _)) _) rfl ?_; refine wpList_stp (by kernel_rfl) (stp_val (run_nsn _ _ _ rfl) ?_)))
  have hph : ∃ a, ph = some a := by obtain ⟨_, b, bt, Et, rfl, _⟩ := hH; exact ⟨_, rfl⟩
  obtain ⟨pa, rfl⟩ := hph
  have hS0 := hS
  have hH0 := hH
  clear hS hH
  go_loopw [10, 30] (fun lv u wr => ∃ (k : Nat) (L : List Hs) (E0 Ev : List Ent), k ≤ m ∧ u = .int .i64 k ∧ HA (some pa) (some (some L)) E0 ∧ Gr k L ∧ RS lv (nmS k) Ev ∧ St W [] wr (E0 ++ (Ev ++ H))) (fun _ u _ => m - (intOf u).toNat)
  case atStart => exact ⟨0, _, E0, [], Nat.zero_le _, rfl, hH0, Gr.new, RS.nil, hS0⟩
  case round =>
    clear hS0 hH0
    obtain ⟨k, L, E0, Ev, hk, rfl, hH, hG, hRS, hS⟩ := hrel
    have hone0 := hRS.one
    by_cases hlt : k < m
    · obtain ⟨L', h1, h2, h3, hG'⟩ := hG.made (by omega)
      have d1 : decide ((k : Int) < 1 + n % 40) = true := decide_eq_true (by rw [hm'.out]; omega)
      have hkl : (nmS k).length ≤ 40 := by rw [nmS_len]; omega
      have hsl : Sl 24 2 u10 (nmS k).length ((nmS k).flatMap slf) Ev := hRS
      have h1' := Lib.hid h1
      have h2' := Lib.hid h2
      have h3' := Lib.hid h3
      clear h1 h2 h3
      go_wp2_with (first | go_skip | (go_at_call 45; (with_reducible refine hp_make hS hH 4 false _ _ _ h1'.out h2'.out h3'.out ?_); clear hS hH; intro E0 w hH hS; unfold Ret) | (refine wpList_is (.buildSlice _ _ _) rfl ?_; go_must (refine wpList_stp (by kernel_rfl) (stp_bsl _ _ _ rfl hS (by decide) rfl (by decide) (by decide) ?_)); clear hS; intro bN w hbN hS) | (refine wpList_is (.call { callee := .builtin .append, args := #[_, _], argTypes := #[_, _] }) rfl ?_; go_must (refine wpList_stp (by kernel_rfl) (stp_ap _ _ _ _ rfl rfl hS (by rfl) hsl (by rfl) (by simp only [maxLen]; omega) (by omega) ?_)); clear hS; intro v' E' w hsl' hne hS; have hone := hsl'.one) | go_skip | (refine wpList_is (.call { callee := .builtin .len, args := #[_], argTypes := #[_] }) rfl ?_; refine wpList_stp (by kernel_rfl) (stp_val (run_lenv _ _ rfl) ?_)) | (refine wpList_is (.slice _ _ none (some _) none) rfl ?_; refine wpList_stp (by kernel_rfl) (stp_val (run_prev _ _ _ rfl) ?_)) | (refine wpList_is (.indexAddr _ _ _) rfl ?_; refine wpList_stp (by kernel_rfl) (stp_val (run_idxv _ _ _ rfl) ?_)) | go_skip | (refine wpList_is (.build _ _) rfl ?_; go_must (refine wpList_stp (by kernel_rfl) (stp_val (run_bd _ _ rfl) ?_))) | (refine wpList_is (.call { callee := .builtin .clear, args := #[_], argTypes := #[_] }) rfl ?_; go_must (refine wpList_stp (by kernel_rfl) (stp_cl _ _ rfl hS (by decide) ?_)); clear hS; intro w hS) | (refine wpList_is (.load _ _) rfl ?_; go_must (first | refine wpList_stp (by kernel_rfl) (stp_val (run_ld _ _ rfl hS) ?_) | refine wpList_stp (by kernel_rfl) (stp_val (run_lda _ _ rfl hS) ?_) | refine wpList_stp (by kernel_rfl) (stp_val (run_ld0 _ _ rfl hS) ?_) | refine wpList_stp (by kernel_rfl) (stp_val (run_lda0 _ _ rfl hS) ?_))) | (refine wpList_is (.store _ _ _) rfl ?_; go_must (first | refine wpList_stp (by kernel_rfl) (stp_st _ _ _ rfl hS ?_) | refine wpList_stp (by kernel_rfl) (stp_sta _ _ _ rfl hS ?_)); clear hS; intro w hS) | (refine wpList_is (.alloc _) rfl ?_; go_must (refine wpList_stp (by kernel_rfl) (stp_al _ rfl hS ?_)); clear hS; intro bN w hbN hS) | (refine wpList_is (.box _ _) rfl ?_; go_must (refine wpList_stp (by kernel_rfl) (stp_bx _ _ rfl hS ?_)); clear hS; intro bN w hbN hS) | (refine wpList_is (.binOp .eql _ _ (.const (.slice none _ _)) _) rfl ?_; refine wpList_stp (by kernel_rfl) (stp_val (run_nse _ _ _ rfl) ?_)) | (refine wpList_is (.binOp .neq _ _ (.const (.slice none _ _)) _) rfl ?_; refine wpList_stp (by kernel_rfl) (stp_val (run_nsn _ _ _ rfl) ?_)))
      go_roundw
      case rel =>
        refine ⟨k + 1, L', E0, E', by omega, by go_num, hH, hG', ?_, hS.pick⟩
        rw [← nmS_snoc]
        exact RS.snoc hsl'
      case measure => simp [intOf]; omega
    · have d1 : decide ((k : Int) < 1 + n % 40) = false := decide_eq_false (by rw [hm'.out]; omega)
      obtain rfl : k = m := by omega
      obtain ⟨lv, rfl⟩ : ∃ lv, lv = u10 := ⟨_, rfl⟩
      have hlnk := hRS.len (nmS_len k)
      go_wp2_with (first | go_skip | (refine wpList_is (.call { callee := .builtin .min, args := #[_, _], argTypes := #[_, _] }) rfl ?_; refine wpList_stp (by kernel_rfl) (stp_val (run_minv _ _ rfl) ?_)) | go_skip | (refine wpList_is (.call { callee := .builtin .len, args := #[_], argTypes := #[_] }) rfl ?_; refine wpList_stp (by kernel_rfl) (stp_val (run_lenv _ _ rfl) ?_)) | (refine wpList_is (.slice _ _ none (some _) none) rfl ?_; refine wpList_stp (by kernel_rfl) (stp_val (run_prev _ _ _ rfl) ?_)) | (refine wpList_is (.indexAddr _ _ _) rfl ?_; refine wpList_stp (by kernel_rfl) (stp_val (run_idxv _ _ _ rfl) ?_)) | go_skip | (refine wpList_is (.build _ _) rfl ?_; go_must (refine wpList_stp (by kernel_rfl) (stp_val (run_bd _ _ rfl) ?_))) | (refine wpList_is (.call { callee := .builtin .clear, args := #[_], argTypes := #[_] }) rfl ?_; go_must (refine wpList_stp (by kernel_rfl) (stp_cl _ _ rfl hS (by decide) ?_)); clear hS; intro w hS) | (refine wpList_is (.load _ _) rfl ?_; go_must (first | refine wpList_stp (by kernel_rfl) (stp_val (run_ld _ _ rfl hS) ?_) | refine wpList_stp (by kernel_rfl) (stp_val (run_lda _ _ rfl hS) ?_) | refine wpList_stp (by kernel_rfl) (stp_val (run_ld0 _ _ rfl hS) ?_) | refine wpList_stp (by kernel_rfl) (stp_val (run_lda0 _ _ rfl hS) ?_))) | (refine wpList_is (.store _ _ _) rfl ?_; go_must (first | refine wpList_stp (by kernel_rfl) (stp_st _ _ _ rfl hS ?_) | refine wpList_stp (by kernel_rfl) (stp_sta _ _ _ rfl hS ?_)); clear hS; intro w hS) | (refine wpList_is (.alloc _) rfl ?_; go_must (refine wpList_stp (by kernel_rfl) (stp_al _ rfl hS ?_)); clear hS; intro bN w hbN hS) | (refine wpList_is (.box _ _) rfl ?_; go_must (refine wpList_stp (by kernel_rfl) (stp_bx _ _ rfl hS ?_)); clear hS; intro bN w hbN hS) | (refine wpList_is (.binOp .eql _ _ (.const (.slice none _ _)) _) rfl ?_; refine wpList_stp (by kernel_rfl) (stp_val (run_nse _ _ _ rfl) ?_)) | (refine wpList_is (.binOp .neq _ _ (.const (.slice none _ _)) _) rfl ?_; refine wpList_stp (by kernel_rfl) (stp_val (run_nsn _ _ _ rfl) ?_)))
      have hS0 := hS
      have hH0 := hH
      have hG0 := hG
      obtain ⟨wo, hwo⟩ : ∃ wo : World, wo = w := ⟨_, rfl⟩
      clear hS hH hG hwo
      go_loopw [50] (fun u wr => ∃ (i : Nat) (L : List Hs) (E0 : List Ent), i ≤ N ∧ u = .int .i64 i ∧ HA (some pa) (some (some L)) E0 ∧ Gr k L ∧ St W [] wr (E0 ++ (Ev ++ H))) (fun u _ => N - (intOf u).toNat)
      case atStart => exact ⟨0, L, E0, Nat.zero_le _, rfl, hH0, hG0, hS0⟩
      case round =>
        clear hS0 hH0 hG0
        obtain ⟨i, L, E0, hi, rfl, hH, hG, hS⟩ := hrel
        by_cases hlt : i < N
        · have hidx := hv2.idxz (t := 63) (z := 3) (i := i) rfl Try.underlying63 (by kernel_rfl) hlt
          have hcell := hv2.cellsz (z := 3) (i := i) rfl hlt
          obtain ⟨a, b, c, ha, hb, hc, f0, f1, f2⟩ := ed_cells hv2 hlt
          simp only [List.range_succ, List.range_zero, List.nil_append, List.map_append, List.map_cons, List.map_nil, List.cons_append, f0, f1, f2] at hcell
          obtain ⟨q1, hq1⟩ : ∃ q, a % k = q := ⟨_, rfl⟩
          obtain ⟨q2, hq2⟩ : ∃ q, c % k = q := ⟨_, rfl⟩
          obtain ⟨qf, hqf⟩ : ∃ q, b % 4 = q := ⟨_, rfl⟩
          have l1 : q1 < k := by rw [← hq1]; exact Nat.mod_lt _ (by omega)
          have l2 : q2 < k := by rw [← hq2]; exact Nat.mod_lt _ (by omega)
          have lf : qf < 4 := by rw [← hqf]; exact Nat.mod_lt _ (by decide)
          have r1 := rem_nat hq1 (by omega)
          have r2 := rem_nat hq2 (by omega)
          have rf : RemIs (b : Int) 4 (qf : Int) := rem_nat (m := 4) hqf (by decide)
          obtain ⟨gx1, sp1, ix1, hh1, hcx1⟩ := hRS.at (i := q1) (by rw [nmS_len]; exact l1) (nmS_get l1)
          have ix1 := ix1 q1 rfl
          obtain ⟨gx2, sp2, ix2, hh2, hcx2⟩ := hRS.at (i := q2) (by rw [nmS_len]; exact l2) (nmS_get l2)
          have ix2 := ix2 q2 rfl
          simp only at hcx1 hcx2
          obtain ⟨L2, g1, g3, hG2⟩ := hG.st (f := qf) l1 lf l2
          obtain ⟨⟨r1, r2⟩, g2⟩ : ∃ r, stR (some (some L)) q1 1 qf ((q2 : Int), 1) = r := ⟨_, rfl⟩
          have g1' := Lib.hid g1
          have g2' := Lib.hid g2
          have g3' := Lib.hid g3
          have hiI : (i : Int) < N := by omega
          have sa : Small (a : Int) := ⟨by omega, by omega⟩
          have sc : Small (c : Int) := ⟨by omega, by omega⟩
          have sf : Small (qf : Int) := ⟨by omega, by omega⟩
          clear g1 g2 g3 f0 f1 f2 hq1 hq2 hqf
          go_wp2_with (first | go_skip | (refine wpList_is (.alloc 109) rfl ?_; go_must (refine wpList_stp (by kernel_rfl) (stp_al _ rfl hS ?_)); clear hS; intro b14 w _ hS) | go_skip | (refine wpList_is (.call { callee := .builtin .len, args := #[_], argTypes := #[_] }) rfl ?_; refine wpList_stp (by kernel_rfl) (stp_val (run_lenv _ _ rfl) ?_)) | (refine wpList_is (.slice _ _ none (some _) none) rfl ?_; refine wpList_stp (by kernel_rfl) (stp_val (run_prev _ _ _ rfl) ?_)) | (refine wpList_is (.indexAddr _ _ _) rfl ?_; refine wpList_stp (by kernel_rfl) (stp_val (run_idxv _ _ _ rfl) ?_)) | go_skip | (refine wpList_is (.build _ _) rfl ?_; go_must (refine wpList_stp (by kernel_rfl) (stp_val (run_bd _ _ rfl) ?_))) | (refine wpList_is (.call { callee := .builtin .clear, args := #[_], argTypes := #[_] }) rfl ?_; go_must (refine wpList_stp (by kernel_rfl) (stp_cl _ _ rfl hS (by decide) ?_)); clear hS; intro w hS) | (refine wpList_is (.load _ _) rfl ?_; go_must (first | refine wpList_stp (by kernel_rfl) (stp_val (run_ld _ _ rfl hS) ?_) | refine wpList_stp (by kernel_rfl) (stp_val (run_lda _ _ rfl hS) ?_) | refine wpList_stp (by kernel_rfl) (stp_val (run_ld0 _ _ rfl hS) ?_) | refine wpList_stp (by kernel_rfl) (stp_val (run_lda0 _ _ rfl hS) ?_))) | (refine wpList_is (.store _ _ _) rfl ?_; go_must (first | refine wpList_stp (by kernel_rfl) (stp_st _ _ _ rfl hS ?_) | refine wpList_stp (by kernel_rfl) (stp_sta _ _ _ rfl hS ?_)); clear hS; intro w hS) | (refine wpList_is (.alloc _) rfl ?_; go_must (refine wpList_stp (by kernel_rfl) (stp_al _ rfl hS ?_)); clear hS; intro bN w hbN hS) | (refine wpList_is (.box _ _) rfl ?_; go_must (refine wpList_stp (by kernel_rfl) (stp_bx _ _ rfl hS ?_)); clear hS; intro bN w hbN hS) | (refine wpList_is (.binOp .eql _ _ (.const (.slice none _ _)) _) rfl ?_; refine wpList_stp (by kernel_rfl) (stp_val (run_nse _ _ _ rfl) ?_)) | (refine wpList_is (.binOp .neq _ _ (.const (.slice none _ _)) _) rfl ?_; refine wpList_stp (by kernel_rfl) (stp_val (run_nsn _ _ _ rfl) ?_)))
          have hS : St W [] _ (E0 ++ (⟨b14, #[.int .u8 a, .int .u8 b, .int .u8 c], 109, true⟩ :: (Ev ++ H))) := hS.pick
          refine region_itemsE [⟨(undef, E0), [(23, fun _ x => HA (some pa) (some (some L2)) x.2)]⟩, ⟨(undef, []), [(27, fun _ x => ∃ b, x = (.pointer (some ⟨b, 0, none⟩), [⟨b, #[.int .i64 0, .int .u32 0], 24, true⟩])), (28, fun y x => ∃ b, y.1 = .pointer (some ⟨b, 0, none⟩) ∧ x.2 = [⟨b, #[.int .i64 r1, .int .u32 r2], 24, true⟩])]⟩]
            (⟨b14, #[.int .u8 a, .int .u8 b, .int .u8 c], 109, true⟩ :: (Ev ++ H)) (E0 ++ (⟨b14, #[.int .u8 a, .int .u8 b, .int .u8 c], 109, true⟩ :: (Ev ++ H))) (by simp) hS (by kernel_rfl) (by kernel_rfl) ?_
          refine fx_val (fun _ => rfl) rfl (fun χ w hw => run_mv _ rfl) ?_
          refine fx_val (fun _ => rfl) rfl (fun χ w hw => run_mv _ rfl) ?_
          refine fx_val (fun _ => rfl) rfl (fun χ w hw => run_fa _ _ _ rfl) ?_
          first | (refine fx_val (fun _ => rfl) rfl (fun χ w hw => run_ld _ _ rfl hw) ?_) | (refine fx_val (fun _ => rfl) rfl (fun χ w hw => run_ld0 _ _ rfl hw) ?_)
          refine fx_val (fun _ => rfl) rfl (fun χ w hw => run_cvn _ _ _ rfl) ?_
          refine fx_val (fun _ => rfl) rfl (fun χ w hw => run_mv _ rfl) ?_
          refine fx_val (fun _ => rfl) rfl (fun χ w hw => run_lenv _ _ rfl) ?_
          first | (refine fx_val (fun _ => rfl) rfl (fun χ w hw => run_remv _ _ _ _ rfl) ?_) | (refine fx_val (fun _ => rfl) rfl (fun χ w hw => run_remn _ _ _ _ rfl (by decide)) ?_)
          refine fx_val (fun _ => rfl) rfl (fun χ w hw => run_idxv _ _ _ rfl) ?_
          first | (refine fx_val (fun _ => rfl) rfl (fun χ w hw => run_lda _ _ rfl hw) ?_) | (refine fx_val (fun _ => rfl) rfl (fun χ w hw => run_lda0 _ _ rfl hw) ?_)
          refine fx_val (fun _ => rfl) rfl (fun χ w hw => run_fa _ _ _ rfl) ?_
          first | (refine fx_val (fun _ => rfl) rfl (fun χ w hw => run_ld _ _ rfl hw) ?_) | (refine fx_val (fun _ => rfl) rfl (fun χ w hw => run_ld0 _ _ rfl hw) ?_)
          first | (refine fx_val (fun _ => rfl) rfl (fun χ w hw => run_remv _ _ _ _ rfl) ?_) | (refine fx_val (fun _ => rfl) rfl (fun χ w hw => run_remn _ _ _ _ rfl (by decide)) ?_)
          refine fx_val (fun _ => rfl) rfl (fun χ w hw => run_cvn _ _ _ rfl) ?_
          refine fx_val (fun _ => rfl) rfl (fun χ w hw => run_mv _ rfl) ?_
          refine fx_val (fun _ => rfl) rfl (fun χ w hw => run_fa _ _ _ rfl) ?_
          first | (refine fx_val (fun _ => rfl) rfl (fun χ w hw => run_ld _ _ rfl hw) ?_) | (refine fx_val (fun _ => rfl) rfl (fun χ w hw => run_ld0 _ _ rfl hw) ?_)
          refine fx_val (fun _ => rfl) rfl (fun χ w hw => run_cvn _ _ _ rfl) ?_
          refine fx_val (fun _ => rfl) rfl (fun χ w hw => run_mv _ rfl) ?_
          refine fx_val (fun _ => rfl) rfl (fun χ w hw => run_lenv _ _ rfl) ?_
          first | (refine fx_val (fun _ => rfl) rfl (fun χ w hw => run_remv _ _ _ _ rfl) ?_) | (refine fx_val (fun _ => rfl) rfl (fun χ w hw => run_remn _ _ _ _ rfl (by decide)) ?_)
          refine fx_val (fun _ => rfl) rfl (fun χ w hw => run_idxv _ _ _ rfl) ?_
          first | (refine fx_val (fun _ => rfl) rfl (fun χ w hw => run_lda _ _ rfl hw) ?_) | (refine fx_val (fun _ => rfl) rfl (fun χ w hw => run_lda0 _ _ rfl hw) ?_)
          refine fx_turn 0 0 rfl rfl (by kernel_rfl) (by kernel_rfl) (by kernel_rfl) 46 [_, _, _, _] _ rfl (fun _ => rfl) (enters _ (by kernel_rfl)) (fun _ => .tuple #[.agg #[.int .i64 r1, .int .u32 r2], .int .i64 0]) ?_ ?_
          · intro χ X w _ hS
            exact hp_store (show St W [] w (E0 ++ (X ++ _)) from hS) hH (q1 : Nat) 1 (qf : Nat) (q2 : Nat) 1 (by decide) _ (r1, r2) _ g1'.out g2'.out g3'.out (fun E' w' hT' hS' => ⟨(undef, E'), rfl, hT', show St W [] w' (E' ++ (X ++ _)) from hS'.pick⟩)
          refine fx_val (fun _ => rfl) rfl (fun χ w hw => run_mv _ rfl) ?_
          refine fx_val (fun _ => rfl) rfl (fun χ w hw => run_ext _ _ rfl) ?_
          refine fx_val (fun _ => rfl) rfl (fun χ w hw => run_ext _ _ rfl) ?_
          refine fx_turn0 1 0 rfl rfl (by kernel_rfl) (by kernel_rfl) (by kernel_rfl) (fun _ => rfl) (fun x => x.1) ?_ ?_
          · intro χ X w _ hS
            exact stepX_al _ rfl (show St W [] w (X ++ _) from hS) (fun b w' _ hS' => ⟨(_, [_]), rfl, ⟨b, rfl⟩, hS'⟩)
          refine fx_turn0 1 1 rfl rfl (by kernel_rfl) (by kernel_rfl) (by kernel_rfl) (fun _ => rfl) (fun _ => undef) ?_ ?_
          · rintro χ X w ⟨⟨b, hb⟩, _⟩ hS
            have hS : St W [] w ((χ 27).2 ++ (X ++ _)) := hS
            rw [hb] at hS
            have hS : St W [] w (⟨b, #[.int .i64 0, .int .u32 0], 24, true⟩ :: (X ++ _)) := hS
            have hb1 : (χ 27).1 = .pointer (some ⟨b, 0, none⟩) := by rw [hb]
            exact stepX_stb _ _ _ rfl hS hb1 (fun w' hS' => ⟨(undef, [⟨b, #[.int .i64 r1, .int .u32 r2], 24, true⟩]), rfl, ⟨b, hb1, rfl⟩, hS'⟩)
          refine fx_val (fun _ => rfl) rfl (fun χ w hw => run_as _ rfl) ?_
          refine fx_end rfl ?_
          intro χ w hok hS
          obtain ⟨hH2, _⟩ := hok _ (.head _)
          have hH2 : HA (some pa) (some (some L2)) (χ 23).2 := hH2
          obtain ⟨⟨b15, hb0⟩, ⟨_, hbx, hc0⟩, _⟩ := hok _ (.tail _ (.head _))
          rw [hb0] at hbx
          obtain ⟨⟩ := hbx
          have hS : St W [] w (((χ 23).2 ++ ((χ 28).2 ++ [])) ++ (⟨b14, #[.int .u8 a, .int .u8 b, .int .u8 c], 109, true⟩ :: (Ev ++ H))) := hS
          rw [hc0, List.append_nil, List.append_assoc] at hS
          generalize (χ 23).2 = E0 at hS hH2
          simp only [hb0]
          simp only [List.cons_append, List.nil_append, List.append_assoc] at hS
          clear hok hb0 hc0
          go_wp2_with (first | go_skip | go_skip | (refine wpList_is (.call { callee := .builtin .len, args := #[_], argTypes := #[_] }) rfl ?_; refine wpList_stp (by kernel_rfl) (stp_val (run_lenv _ _ rfl) ?_)) | (refine wpList_is (.slice _ _ none (some _) none) rfl ?_; refine wpList_stp (by kernel_rfl) (stp_val (run_prev _ _ _ rfl) ?_)) | (refine wpList_is (.indexAddr _ _ _) rfl ?_; refine wpList_stp (by kernel_rfl) (stp_val (run_idxv _ _ _ rfl) ?_)) | go_skip | (refine wpList_is (.build _ _) rfl ?_; go_must (refine wpList_stp (by kernel_rfl) (stp_val (run_bd _ _ rfl) ?_))) | (refine wpList_is (.call { callee := .builtin .clear, args := #[_], argTypes := #[_] }) rfl ?_; go_must (refine wpList_stp (by kernel_rfl) (stp_cl _ _ rfl hS (by decide) ?_)); clear hS; intro w hS) | (refine wpList_is (.load _ _) rfl ?_; go_must (first | refine wpList_stp (by kernel_rfl) (stp_val (run_ld _ _ rfl hS) ?_) | refine wpList_stp (by kernel_rfl) (stp_val (run_lda _ _ rfl hS) ?_) | refine wpList_stp (by kernel_rfl) (stp_val (run_ld0 _ _ rfl hS) ?_) | refine wpList_stp (by kernel_rfl) (stp_val (run_lda0 _ _ rfl hS) ?_))) | (refine wpList_is (.store _ _ _) rfl ?_; go_must (first | refine wpList_stp (by kernel_rfl) (stp_st _ _ _ rfl hS ?_) | refine wpList_stp (by kernel_rfl) (stp_sta _ _ _ rfl hS ?_)); clear hS; intro w hS) | (refine wpList_is (.alloc _) rfl ?_; go_must (refine wpList_stp (by kernel_rfl) (stp_al _ rfl hS ?_)); clear hS; intro bN w hbN hS) | (refine wpList_is (.box _ _) rfl ?_; go_must (refine wpList_stp (by kernel_rfl) (stp_bx _ _ rfl hS ?_)); clear hS; intro bN w hbN hS) | (refine wpList_is (.binOp .eql _ _ (.const (.slice none _ _)) _) rfl ?_; refine wpList_stp (by kernel_rfl) (stp_val (run_nse _ _ _ rfl) ?_)) | (refine wpList_is (.binOp .neq _ _ (.const (.slice none _ _)) _) rfl ?_; refine wpList_stp (by kernel_rfl) (stp_val (run_nsn _ _ _ rfl) ?_)))
          go_roundw
          case rel => exact ⟨i + 1, L2, E0, by omega, by go_num, hH2, hG2, hS.pick⟩
          case measure => simp [intOf]; omega
        · obtain rfl : i = N := by omega
          go_wp2_with (first | go_skip | (refine wpList_is (.call { callee := .builtin .min, args := #[_, _], argTypes := #[_, _] }) rfl ?_; refine wpList_stp (by kernel_rfl) (stp_val (run_minv _ _ rfl) ?_)) | go_skip | (refine wpList_is (.call { callee := .builtin .len, args := #[_], argTypes := #[_] }) rfl ?_; refine wpList_stp (by kernel_rfl) (stp_val (run_lenv _ _ rfl) ?_)) | (refine wpList_is (.slice _ _ none (some _) none) rfl ?_; refine wpList_stp (by kernel_rfl) (stp_val (run_prev _ _ _ rfl) ?_)) | (refine wpList_is (.indexAddr _ _ _) rfl ?_; refine wpList_stp (by kernel_rfl) (stp_val (run_idxv _ _ _ rfl) ?_)) | go_skip | (refine wpList_is (.build _ _) rfl ?_; go_must (refine wpList_stp (by kernel_rfl) (stp_val (run_bd _ _ rfl) ?_))) | (refine wpList_is (.call { callee := .builtin .clear, args := #[_], argTypes := #[_] }) rfl ?_; go_must (refine wpList_stp (by kernel_rfl) (stp_cl _ _ rfl hS (by decide) ?_)); clear hS; intro w hS) | (refine wpList_is (.load _ _) rfl ?_; go_must (first | refine wpList_stp (by kernel_rfl) (stp_val (run_ld _ _ rfl hS) ?_) | refine wpList_stp (by kernel_rfl) (stp_val (run_lda _ _ rfl hS) ?_) | refine wpList_stp (by kernel_rfl) (stp_val (run_ld0 _ _ rfl hS) ?_) | refine wpList_stp (by kernel_rfl) (stp_val (run_lda0 _ _ rfl hS) ?_))) | (refine wpList_is (.store _ _ _) rfl ?_; go_must (first | refine wpList_stp (by kernel_rfl) (stp_st _ _ _ rfl hS ?_) | refine wpList_stp (by kernel_rfl) (stp_sta _ _ _ rfl hS ?_)); clear hS; intro w hS) | (refine wpList_is (.alloc _) rfl ?_; go_must (refine wpList_stp (by kernel_rfl) (stp_al _ rfl hS ?_)); clear hS; intro bN w hbN hS) | (refine wpList_is (.box _ _) rfl ?_; go_must (refine wpList_stp (by kernel_rfl) (stp_bx _ _ rfl hS ?_)); clear hS; intro bN w hbN hS) | (refine wpList_is (.binOp .eql _ _ (.const (.slice none _ _)) _) rfl ?_; refine wpList_stp (by kernel_rfl) (stp_val (run_nse _ _ _ rfl) ?_)) | (refine wpList_is (.binOp .neq _ _ (.const (.slice none _ _)) _) rfl ?_; refine wpList_stp (by kernel_rfl) (stp_val (run_nsn _ _ _ rfl) ?_)))
          have hS0 := hS
          clear hS
          go_loopw [10, 90] (fun x u wr => u = .int .i64 0 ∧ x = lv ∧ St W [] wr (E0 ++ (Ev ++ H))) (fun _ u _ => 0)
          case atStart => exact ⟨rfl, rfl, hS0⟩
          case round =>
            clear hS0
            obtain ⟨rfl, rfl, hS⟩ := hrel
            go_wp2_with (first | go_skip | go_skip | (refine wpList_is (.call { callee := .builtin .len, args := #[_], argTypes := #[_] }) rfl ?_; refine wpList_stp (by kernel_rfl) (stp_val (run_lenv _ _ rfl) ?_)) | (refine wpList_is (.slice _ _ none (some _) none) rfl ?_; refine wpList_stp (by kernel_rfl) (stp_val (run_prev _ _ _ rfl) ?_)) | (refine wpList_is (.indexAddr _ _ _) rfl ?_; refine wpList_stp (by kernel_rfl) (stp_val (run_idxv _ _ _ rfl) ?_)) | go_skip | (refine wpList_is (.build _ _) rfl ?_; go_must (refine wpList_stp (by kernel_rfl) (stp_val (run_bd _ _ rfl) ?_))) | (refine wpList_is (.call { callee := .builtin .clear, args := #[_], argTypes := #[_] }) rfl ?_; go_must (refine wpList_stp (by kernel_rfl) (stp_cl _ _ rfl hS (by decide) ?_)); clear hS; intro w hS) | (refine wpList_is (.load _ _) rfl ?_; go_must (first | refine wpList_stp (by kernel_rfl) (stp_val (run_ld _ _ rfl hS) ?_) | refine wpList_stp (by kernel_rfl) (stp_val (run_lda _ _ rfl hS) ?_) | refine wpList_stp (by kernel_rfl) (stp_val (run_ld0 _ _ rfl hS) ?_) | refine wpList_stp (by kernel_rfl) (stp_val (run_lda0 _ _ rfl hS) ?_))) | (refine wpList_is (.store _ _ _) rfl ?_; go_must (first | refine wpList_stp (by kernel_rfl) (stp_st _ _ _ rfl hS ?_) | refine wpList_stp (by kernel_rfl) (stp_sta _ _ _ rfl hS ?_)); clear hS; intro w hS) | (refine wpList_is (.alloc _) rfl ?_; go_must (refine wpList_stp (by kernel_rfl) (stp_al _ rfl hS ?_)); clear hS; intro bN w hbN hS) | (refine wpList_is (.box _ _) rfl ?_; go_must (refine wpList_stp (by kernel_rfl) (stp_bx _ _ rfl hS ?_)); clear hS; intro bN w hbN hS) | (refine wpList_is (.binOp .eql _ _ (.const (.slice none _ _)) _) rfl ?_; refine wpList_stp (by kernel_rfl) (stp_val (run_nse _ _ _ rfl) ?_)) | (refine wpList_is (.binOp .neq _ _ (.const (.slice none _ _)) _) rfl ?_; refine wpList_stp (by kernel_rfl) (stp_val (run_nsn _ _ _ rfl) ?_)))
            exact hR pa E0 L _ Ev _ hH hG hRS hS
end Go.Proofs.Ytgpjanfphgjbbaa
