/-
  step: program and document do the same.
-/
import Derived.Test.YtjlihigodggfcaaGreatRarF
import Derived.Test.YtjlihigodggfcaaGreatArnQ
set_option linter.unusedSimpArgs false
set_option linter.unusedVariables false
namespace Go.Proofs.YtjlihigodggfcaaGreat
open Go Go.RowKit Go.Mm
variable {R : Ending → World → Prop} {w : World} {w0 : World} {bs : List Nat} {H H1 H2 H3 Ea Er Z : List Ent}
instance sw_z : ZeroT Tryz.prog 35 #[.int .i64 0, .int .i64 0, .int .i64 0, .int .i64 0, .int .i64 0] := ⟨by kernel_rfl⟩
instance sw_a : AggT Tryz.prog 35 5 := ⟨by kernel_rfl, by kernel_rfl⟩
instance sw_f0 {b off : Nat} : FieldAt Tryz.prog 35 0 b off off := ⟨fun w => by kernel_rfl⟩
instance sw_f1 {b off : Nat} : FieldAt Tryz.prog 35 1 b off (off + 1) := ⟨fun w => by kernel_rfl⟩
instance sw_f2 {b off : Nat} : FieldAt Tryz.prog 35 2 b off (off + 2) := ⟨fun w => by kernel_rfl⟩
instance sw_f3 {b off : Nat} : FieldAt Tryz.prog 35 3 b off (off + 3) := ⟨fun w => by kernel_rfl⟩
instance sw_f4 {b off : Nat} : FieldAt Tryz.prog 35 4 b off (off + 4) := ⟨fun w => by kernel_rfl⟩

set_option maxHeartbeats 4000000 in
set_option maxRecDepth 100000 in
theorem step_0t {p q : Option Addr} {T : Ar} (hO : St w0 bs w H) (hA : AA p T Ea) (hB : AR q T Er Z) [c1 : Cut H Ea H1] [c2 : Cut H1 Er H2] [c3 : Cut H2 Z H3] (m a b : Int)
    (hR : ∀ T' Ea' Er' X w', AA p T' Ea' → AR q T' Er' (X ++ Z) → St w0 bs w' (Ea' ++ (Er' ++ (X ++ (Z ++ H3)))) → Ret R (.bool true) w') :
    Calls Tryz.prog 8 #[.pointer p, .pointer q, .agg #[.int .i64 0, .int .i64 m, .int .i64 a, .int .i64 b, .int .i64 1]] w R := by
  have hS := hO.front (E := Ea) (H1 := H1)
  have hS : St w0 bs w (Ea ++ (Er ++ (Z ++ H3))) := hS.pick
  clear hO c1 c2 c3
  have q0 : AggEq Tryz.prog 25 #[.int .i64 0, .int .u32 0] #[.int .i64 0, .int .u32 0] true := refE (refB_self 0 0)
  obtain ⟨T', h1⟩ : ∃ x, mkAT T m a true = x := ⟨_, rfl⟩
  obtain ⟨⟨r1, r2⟩, h2⟩ : ∃ x, mkAR T m a true = x := ⟨_, rfl⟩
  obtain ⟨e, h3⟩ : ∃ x, mkAE T m a true = x := ⟨_, rfl⟩
  have h1' := Lib.hid h1
  have h2' := Lib.hid h2
  have h3' := Lib.hid h3
  clear h1 h2 h3
  have q1 := refE (refB_self r1 r2)
  obtain ⟨⟨y1, y2⟩, hx⟩ : ∃ x, rtR T' m a = x := ⟨_, rfl⟩
  obtain ⟨ye, he⟩ : ∃ x, rtE T' m a = x := ⟨_, rfl⟩
  have qy := refE (refB_self y1 y2)
  have hx' := Lib.hid hx
  have he' := Lib.hid he
  clear hx he
  go_enter Tryz.func8, Tryz.ntmps8
  go_wp2_with (first | (refine wpList_is (.box 35 _) rfl ?_; go_must (refine wpList_stp (by kernel_rfl) (stp_bx _ _ rfl hS ?_)); clear hS; intro bx w _ hS) | (refine wpList_is (o := ⟨some 7, _, _, _, _, _⟩) (.alloc _) rfl ?_; go_must (refine wpList_stp (by kernel_rfl) (stp_al _ rfl hS ?_)); clear hS; intro b7 w _ hS) | (refine wpList_is (o := ⟨some 8, _, _, _, _, _⟩) (.alloc _) rfl ?_; go_must (refine wpList_stp (by kernel_rfl) (stp_al _ rfl hS ?_)); clear hS; intro b8 w _ hS) | (refine wpList_is (o := ⟨some 9, _, _, _, _, _⟩) (.alloc _) rfl ?_; go_must (refine wpList_stp (by kernel_rfl) (stp_al _ rfl hS ?_)); clear hS; intro b9 w _ hS) | (refine wpList_is (o := ⟨some 10, _, _, _, _, _⟩) (.alloc _) rfl ?_; go_must (refine wpList_stp (by kernel_rfl) (stp_al _ rfl hS ?_)); clear hS; intro b10 w _ hS) | (refine wpList_is (o := ⟨some 15, _, _, _, _, _⟩) (.alloc _) rfl ?_; go_must (refine wpList_stp (by kernel_rfl) (stp_al _ rfl hS ?_)); clear hS; intro b15 w _ hS) | (refine wpList_is (o := ⟨some 17, _, _, _, _, _⟩) (.alloc _) rfl ?_; go_must (refine wpList_stp (by kernel_rfl) (stp_al _ rfl hS ?_)); clear hS; intro b17 w _ hS) | (go_at_call 16; refine ar_make hS hA m a true _ _ _ h1'.out h2'.out h3'.out ?_; clear hS hA; intro Ea w hA hS; unfold Ret) | (go_at_call 27; refine rr_make hS hB m a true _ _ _ h1'.out h2'.out h3'.out ?_; clear hS hB; intro Er X w hB hS; obtain ⟨Z2, hZ2⟩ : ∃ Z2, X ++ Z = Z2 := ⟨_, rfl⟩; rw [← List.append_assoc X Z, hZ2] at hS; rw [hZ2] at hB; have hZ' := Lib.hid hZ2; clear hZ2; unfold Ret) | (go_at_call 22; refine ar_root hS hA m a _ _ hx'.out he'.out ?_; clear hS; intro w _ hS; unfold Ret) | (go_at_call 33; refine rr_root hS hB m a _ _ hx'.out he'.out ?_; clear hS; intro w hS; unfold Ret) | (refine wpList_is (.binOp .eql 25 _ _ _) rfl ?_; refine wpList_stp (by kernel_rfl) (stp_val (run_aeq _ _ _ _ rfl) ?_)) | (refine wpList_is (.load _ _) rfl ?_; go_must (first | refine wpList_stp (by kernel_rfl) (stp_val (run_ld _ _ rfl hS) ?_) | refine wpList_stp (by kernel_rfl) (stp_val (run_lda _ _ rfl hS) ?_))) | (refine wpList_is (.store _ _ _) rfl ?_; go_must ((refine wpList_stp (by kernel_rfl) (stp_sta _ _ _ rfl hS ?_))); clear hS; intro w hS))
  exact hR T' Ea Er X _ hA (by rw [hZ'.out]; exact hB) (by rw [← List.append_assoc X Z, hZ'.out]; exact hS.pick)

set_option maxHeartbeats 4000000 in
set_option maxRecDepth 100000 in
theorem step_0f {p q : Option Addr} {T : Ar} (hO : St w0 bs w H) (hA : AA p T Ea) (hB : AR q T Er Z) [c1 : Cut H Ea H1] [c2 : Cut H1 Er H2] [c3 : Cut H2 Z H3] (m a b c : Int) (hc1 : c ≠ 1)
    (hR : ∀ T' Ea' Er' X w', AA p T' Ea' → AR q T' Er' (X ++ Z) → St w0 bs w' (Ea' ++ (Er' ++ (X ++ (Z ++ H3)))) → Ret R (.bool true) w') :
    Calls Tryz.prog 8 #[.pointer p, .pointer q, .agg #[.int .i64 0, .int .i64 m, .int .i64 a, .int .i64 b, .int .i64 c]] w R := by
  have hS := hO.front (E := Ea) (H1 := H1)
  have hS : St w0 bs w (Ea ++ (Er ++ (Z ++ H3))) := hS.pick
  clear hO c1 c2 c3
  have q0 : AggEq Tryz.prog 25 #[.int .i64 0, .int .u32 0] #[.int .i64 0, .int .u32 0] true := refE (refB_self 0 0)
  obtain ⟨T', h1⟩ : ∃ x, mkAT T m a false = x := ⟨_, rfl⟩
  obtain ⟨⟨r1, r2⟩, h2⟩ : ∃ x, mkAR T m a false = x := ⟨_, rfl⟩
  obtain ⟨e, h3⟩ : ∃ x, mkAE T m a false = x := ⟨_, rfl⟩
  have h1' := Lib.hid h1
  have h2' := Lib.hid h2
  have h3' := Lib.hid h3
  clear h1 h2 h3
  have d1 : (c == 1) = false := beq_eq_false_iff_ne.2 hc1
  have d2 : decide (c = 1) = false := decide_eq_false hc1
  have q1 := refE (refB_self r1 r2)
  obtain ⟨⟨y1, y2⟩, hx⟩ : ∃ x, rtR T' m a = x := ⟨_, rfl⟩
  obtain ⟨ye, he⟩ : ∃ x, rtE T' m a = x := ⟨_, rfl⟩
  have qy := refE (refB_self y1 y2)
  have hx' := Lib.hid hx
  have he' := Lib.hid he
  clear hx he
  go_enter Tryz.func8, Tryz.ntmps8
  go_wp2_with (first | (refine wpList_is (.box 35 _) rfl ?_; go_must (refine wpList_stp (by kernel_rfl) (stp_bx _ _ rfl hS ?_)); clear hS; intro bx w _ hS) | (refine wpList_is (o := ⟨some 7, _, _, _, _, _⟩) (.alloc _) rfl ?_; go_must (refine wpList_stp (by kernel_rfl) (stp_al _ rfl hS ?_)); clear hS; intro b7 w _ hS) | (refine wpList_is (o := ⟨some 8, _, _, _, _, _⟩) (.alloc _) rfl ?_; go_must (refine wpList_stp (by kernel_rfl) (stp_al _ rfl hS ?_)); clear hS; intro b8 w _ hS) | (refine wpList_is (o := ⟨some 9, _, _, _, _, _⟩) (.alloc _) rfl ?_; go_must (refine wpList_stp (by kernel_rfl) (stp_al _ rfl hS ?_)); clear hS; intro b9 w _ hS) | (refine wpList_is (o := ⟨some 10, _, _, _, _, _⟩) (.alloc _) rfl ?_; go_must (refine wpList_stp (by kernel_rfl) (stp_al _ rfl hS ?_)); clear hS; intro b10 w _ hS) | (refine wpList_is (o := ⟨some 15, _, _, _, _, _⟩) (.alloc _) rfl ?_; go_must (refine wpList_stp (by kernel_rfl) (stp_al _ rfl hS ?_)); clear hS; intro b15 w _ hS) | (refine wpList_is (o := ⟨some 17, _, _, _, _, _⟩) (.alloc _) rfl ?_; go_must (refine wpList_stp (by kernel_rfl) (stp_al _ rfl hS ?_)); clear hS; intro b17 w _ hS) | (go_at_call 16; refine ar_make hS hA m a false _ _ _ h1'.out h2'.out h3'.out ?_; clear hS hA; intro Ea w hA hS; unfold Ret) | (go_at_call 27; refine rr_make hS hB m a false _ _ _ h1'.out h2'.out h3'.out ?_; clear hS hB; intro Er X w hB hS; obtain ⟨Z2, hZ2⟩ : ∃ Z2, X ++ Z = Z2 := ⟨_, rfl⟩; rw [← List.append_assoc X Z, hZ2] at hS; rw [hZ2] at hB; have hZ' := Lib.hid hZ2; clear hZ2; unfold Ret) | (go_at_call 22; refine ar_root hS hA m a _ _ hx'.out he'.out ?_; clear hS; intro w _ hS; unfold Ret) | (go_at_call 33; refine rr_root hS hB m a _ _ hx'.out he'.out ?_; clear hS; intro w hS; unfold Ret) | (refine wpList_is (.binOp .eql 25 _ _ _) rfl ?_; refine wpList_stp (by kernel_rfl) (stp_val (run_aeq _ _ _ _ rfl) ?_)) | (refine wpList_is (.load _ _) rfl ?_; go_must (first | refine wpList_stp (by kernel_rfl) (stp_val (run_ld _ _ rfl hS) ?_) | refine wpList_stp (by kernel_rfl) (stp_val (run_lda _ _ rfl hS) ?_))) | (refine wpList_is (.store _ _ _) rfl ?_; go_must ((refine wpList_stp (by kernel_rfl) (stp_sta _ _ _ rfl hS ?_))); clear hS; intro w hS))
  exact hR T' Ea Er X _ hA (by rw [hZ'.out]; exact hB) (by rw [← List.append_assoc X Z, hZ'.out]; exact hS.pick)

set_option maxHeartbeats 4000000 in
set_option maxRecDepth 100000 in
theorem step_1 {p q : Option Addr} {T : Ar} (hO : St w0 bs w H) (hA : AA p T Ea) (hB : AR q T Er Z) [c1 : Cut H Ea H1] [c2 : Cut H1 Er H2] [c3 : Cut H2 Z H3] (m a b c : Int)
    (hR : ∀ T' Ea' Er' X w', AA p T' Ea' → AR q T' Er' (X ++ Z) → St w0 bs w' (Ea' ++ (Er' ++ (X ++ (Z ++ H3)))) → Ret R (.bool true) w') :
    Calls Tryz.prog 8 #[.pointer p, .pointer q, .agg #[.int .i64 1, .int .i64 m, .int .i64 a, .int .i64 b, .int .i64 c]] w R := by
  have hS := hO.front (E := Ea) (H1 := H1)
  have hS : St w0 bs w (Ea ++ (Er ++ (Z ++ H3))) := hS.pick
  clear hO c1 c2 c3
  have q0 : AggEq Tryz.prog 25 #[.int .i64 0, .int .u32 0] #[.int .i64 0, .int .u32 0] true := refE (refB_self 0 0)
  obtain ⟨T', h1⟩ : ∃ x, ldAT T m a b = x := ⟨_, rfl⟩
  obtain ⟨⟨r1, r2⟩, h2⟩ : ∃ x, ldAR T m a b = x := ⟨_, rfl⟩
  obtain ⟨e, h3⟩ : ∃ x, ldAE T m a b = x := ⟨_, rfl⟩
  have h1' := Lib.hid h1
  have h2' := Lib.hid h2
  have h3' := Lib.hid h3
  clear h1 h2 h3
  have q1 := refE (refB_self r1 r2)
  obtain ⟨⟨y1, y2⟩, hx⟩ : ∃ x, rtR T' m a = x := ⟨_, rfl⟩
  obtain ⟨ye, he⟩ : ∃ x, rtE T' m a = x := ⟨_, rfl⟩
  have qy := refE (refB_self y1 y2)
  have hx' := Lib.hid hx
  have he' := Lib.hid he
  clear hx he
  go_enter Tryz.func8, Tryz.ntmps8
  go_wp2_with (first | (refine wpList_is (.box 35 _) rfl ?_; go_must (refine wpList_stp (by kernel_rfl) (stp_bx _ _ rfl hS ?_)); clear hS; intro bx w _ hS) | (refine wpList_is (o := ⟨some 7, _, _, _, _, _⟩) (.alloc _) rfl ?_; go_must (refine wpList_stp (by kernel_rfl) (stp_al _ rfl hS ?_)); clear hS; intro b7 w _ hS) | (refine wpList_is (o := ⟨some 8, _, _, _, _, _⟩) (.alloc _) rfl ?_; go_must (refine wpList_stp (by kernel_rfl) (stp_al _ rfl hS ?_)); clear hS; intro b8 w _ hS) | (refine wpList_is (o := ⟨some 9, _, _, _, _, _⟩) (.alloc _) rfl ?_; go_must (refine wpList_stp (by kernel_rfl) (stp_al _ rfl hS ?_)); clear hS; intro b9 w _ hS) | (refine wpList_is (o := ⟨some 10, _, _, _, _, _⟩) (.alloc _) rfl ?_; go_must (refine wpList_stp (by kernel_rfl) (stp_al _ rfl hS ?_)); clear hS; intro b10 w _ hS) | (refine wpList_is (o := ⟨some 15, _, _, _, _, _⟩) (.alloc _) rfl ?_; go_must (refine wpList_stp (by kernel_rfl) (stp_al _ rfl hS ?_)); clear hS; intro b15 w _ hS) | (refine wpList_is (o := ⟨some 17, _, _, _, _, _⟩) (.alloc _) rfl ?_; go_must (refine wpList_stp (by kernel_rfl) (stp_al _ rfl hS ?_)); clear hS; intro b17 w _ hS) | (go_at_call 18; refine ar_load hS hA m a b _ _ _ h1'.out h2'.out h3'.out ?_; clear hS hA; intro Ea w hA hS; unfold Ret) | (go_at_call 28; refine rr_load hS hB m a b _ _ _ h1'.out h2'.out h3'.out ?_; clear hS hB; intro Er X w hB hS; obtain ⟨Z2, hZ2⟩ : ∃ Z2, X ++ Z = Z2 := ⟨_, rfl⟩; rw [← List.append_assoc X Z, hZ2] at hS; rw [hZ2] at hB; have hZ' := Lib.hid hZ2; clear hZ2; unfold Ret) | (go_at_call 22; refine ar_root hS hA m a _ _ hx'.out he'.out ?_; clear hS; intro w _ hS; unfold Ret) | (go_at_call 33; refine rr_root hS hB m a _ _ hx'.out he'.out ?_; clear hS; intro w hS; unfold Ret) | (refine wpList_is (.binOp .eql 25 _ _ _) rfl ?_; refine wpList_stp (by kernel_rfl) (stp_val (run_aeq _ _ _ _ rfl) ?_)) | (refine wpList_is (.load _ _) rfl ?_; go_must (first | refine wpList_stp (by kernel_rfl) (stp_val (run_ld _ _ rfl hS) ?_) | refine wpList_stp (by kernel_rfl) (stp_val (run_lda _ _ rfl hS) ?_))) | (refine wpList_is (.store _ _ _) rfl ?_; go_must ((refine wpList_stp (by kernel_rfl) (stp_sta _ _ _ rfl hS ?_))); clear hS; intro w hS))
  exact hR T' Ea Er X _ hA (by rw [hZ'.out]; exact hB) (by rw [← List.append_assoc X Z, hZ'.out]; exact hS.pick)

set_option maxHeartbeats 4000000 in
set_option maxRecDepth 100000 in
theorem step_2 {p q : Option Addr} {T : Ar} (hO : St w0 bs w H) (hA : AA p T Ea) (hB : AR q T Er Z) [c1 : Cut H Ea H1] [c2 : Cut H1 Er H2] [c3 : Cut H2 Z H3] (m a b c : Int)
    (hR : ∀ T' Ea' Er' X w', AA p T' Ea' → AR q T' Er' (X ++ Z) → St w0 bs w' (Ea' ++ (Er' ++ (X ++ (Z ++ H3)))) → Ret R (.bool true) w') :
    Calls Tryz.prog 8 #[.pointer p, .pointer q, .agg #[.int .i64 2, .int .i64 m, .int .i64 a, .int .i64 b, .int .i64 c]] w R := by
  have hS := hO.front (E := Ea) (H1 := H1)
  have hS : St w0 bs w (Ea ++ (Er ++ (Z ++ H3))) := hS.pick
  clear hO c1 c2 c3
  have q0 : AggEq Tryz.prog 25 #[.int .i64 0, .int .u32 0] #[.int .i64 0, .int .u32 0] true := refE (refB_self 0 0)
  obtain ⟨T', h1⟩ : ∃ x, stAT T m a b c = x := ⟨_, rfl⟩
  obtain ⟨⟨r1, r2⟩, h2⟩ : ∃ x, stAW T m a b c = x := ⟨_, rfl⟩
  obtain ⟨⟨v1, v2⟩, h4⟩ : ∃ x, stAV T m a b c = x := ⟨_, rfl⟩
  obtain ⟨e, h3⟩ : ∃ x, stAE T m a b c = x := ⟨_, rfl⟩
  have hvg := (vaR_wr hA m c).2
  have hvg' := Lib.hid hvg
  clear hvg
  have h1' := Lib.hid h1
  have h2' := Lib.hid h2
  have h3' := Lib.hid h3
  have h4' := Lib.hid h4
  clear h1 h2 h3 h4
  have q1 := refE (refB_self r1 r2)
  have q2 := refE (refB_self v1 v2)
  obtain ⟨⟨y1, y2⟩, hx⟩ : ∃ x, rtR T' m a = x := ⟨_, rfl⟩
  obtain ⟨ye, he⟩ : ∃ x, rtE T' m a = x := ⟨_, rfl⟩
  have qy := refE (refB_self y1 y2)
  have hx' := Lib.hid hx
  have he' := Lib.hid he
  clear hx he
  go_enter Tryz.func8, Tryz.ntmps8
  go_wp2_with (first | (refine wpList_is (.box 35 _) rfl ?_; go_must (refine wpList_stp (by kernel_rfl) (stp_bx _ _ rfl hS ?_)); clear hS; intro bx w _ hS) | (refine wpList_is (o := ⟨some 7, _, _, _, _, _⟩) (.alloc _) rfl ?_; go_must (refine wpList_stp (by kernel_rfl) (stp_al _ rfl hS ?_)); clear hS; intro b7 w _ hS) | (refine wpList_is (o := ⟨some 8, _, _, _, _, _⟩) (.alloc _) rfl ?_; go_must (refine wpList_stp (by kernel_rfl) (stp_al _ rfl hS ?_)); clear hS; intro b8 w _ hS) | (refine wpList_is (o := ⟨some 9, _, _, _, _, _⟩) (.alloc _) rfl ?_; go_must (refine wpList_stp (by kernel_rfl) (stp_al _ rfl hS ?_)); clear hS; intro b9 w _ hS) | (refine wpList_is (o := ⟨some 10, _, _, _, _, _⟩) (.alloc _) rfl ?_; go_must (refine wpList_stp (by kernel_rfl) (stp_al _ rfl hS ?_)); clear hS; intro b10 w _ hS) | (refine wpList_is (o := ⟨some 15, _, _, _, _, _⟩) (.alloc _) rfl ?_; go_must (refine wpList_stp (by kernel_rfl) (stp_al _ rfl hS ?_)); clear hS; intro b15 w _ hS) | (refine wpList_is (o := ⟨some 17, _, _, _, _, _⟩) (.alloc _) rfl ?_; go_must (refine wpList_stp (by kernel_rfl) (stp_al _ rfl hS ?_)); clear hS; intro b17 w _ hS) | (go_at_call 17; refine ar_store hS hA m a b c _ _ _ _ h1'.out h2'.out h4'.out h3'.out ?_; clear hS hA; intro Ea w hA hS; unfold Ret) | (go_at_call 29; refine rr_store hS hB m a b c hvg'.out _ _ _ _ h1'.out h2'.out h4'.out h3'.out ?_; clear hS hB; intro Er X w hB hS; obtain ⟨Z2, hZ2⟩ : ∃ Z2, X ++ Z = Z2 := ⟨_, rfl⟩; rw [← List.append_assoc X Z, hZ2] at hS; rw [hZ2] at hB; have hZ' := Lib.hid hZ2; clear hZ2; unfold Ret) | (go_at_call 22; refine ar_root hS hA m a _ _ hx'.out he'.out ?_; clear hS; intro w _ hS; unfold Ret) | (go_at_call 33; refine rr_root hS hB m a _ _ hx'.out he'.out ?_; clear hS; intro w hS; unfold Ret) | (refine wpList_is (.binOp .eql 25 _ _ _) rfl ?_; refine wpList_stp (by kernel_rfl) (stp_val (run_aeq _ _ _ _ rfl) ?_)) | (refine wpList_is (.load _ _) rfl ?_; go_must (first | refine wpList_stp (by kernel_rfl) (stp_val (run_ld _ _ rfl hS) ?_) | refine wpList_stp (by kernel_rfl) (stp_val (run_lda _ _ rfl hS) ?_))) | (refine wpList_is (.store _ _ _) rfl ?_; go_must ((refine wpList_stp (by kernel_rfl) (stp_sta _ _ _ rfl hS ?_))); clear hS; intro w hS))
  exact hR T' Ea Er X _ hA (by rw [hZ'.out]; exact hB) (by rw [← List.append_assoc X Z, hZ'.out]; exact hS.pick)

set_option maxHeartbeats 4000000 in
set_option maxRecDepth 100000 in
theorem step_3 {p q : Option Addr} {T : Ar} (hO : St w0 bs w H) (hA : AA p T Ea) (hB : AR q T Er Z) [c1 : Cut H Ea H1] [c2 : Cut H1 Er H2] [c3 : Cut H2 Z H3] (m a b c : Int)
    (hR : ∀ T' Ea' Er' X w', AA p T' Ea' → AR q T' Er' (X ++ Z) → St w0 bs w' (Ea' ++ (Er' ++ (X ++ (Z ++ H3)))) → Ret R (.bool true) w') :
    Calls Tryz.prog 8 #[.pointer p, .pointer q, .agg #[.int .i64 3, .int .i64 m, .int .i64 a, .int .i64 b, .int .i64 c]] w R := by
  have hS := hO.front (E := Ea) (H1 := H1)
  have hS : St w0 bs w (Ea ++ (Er ++ (Z ++ H3))) := hS.pick
  clear hO c1 c2 c3
  have q0 : AggEq Tryz.prog 25 #[.int .i64 0, .int .u32 0] #[.int .i64 0, .int .u32 0] true := refE (refB_self 0 0)
  obtain ⟨T', h1⟩ : ∃ x, drT T m a = x := ⟨_, rfl⟩
  obtain ⟨⟨r1, r2⟩, h2⟩ : ∃ x, rtR T m a = x := ⟨_, rfl⟩
  obtain ⟨e, h3⟩ : ∃ x, rtE T m a = x := ⟨_, rfl⟩
  have h1' := Lib.hid h1
  have h2' := Lib.hid h2
  have h3' := Lib.hid h3
  clear h1 h2 h3
  have q1 := refE (refB_self r1 r2)
  obtain ⟨⟨y1, y2⟩, hx⟩ : ∃ x, rtR T' m a = x := ⟨_, rfl⟩
  obtain ⟨ye, he⟩ : ∃ x, rtE T' m a = x := ⟨_, rfl⟩
  have qy := refE (refB_self y1 y2)
  have hx' := Lib.hid hx
  have he' := Lib.hid he
  clear hx he
  go_enter Tryz.func8, Tryz.ntmps8
  go_wp2_with (first | (refine wpList_is (.box 35 _) rfl ?_; go_must (refine wpList_stp (by kernel_rfl) (stp_bx _ _ rfl hS ?_)); clear hS; intro bx w _ hS) | (refine wpList_is (o := ⟨some 7, _, _, _, _, _⟩) (.alloc _) rfl ?_; go_must (refine wpList_stp (by kernel_rfl) (stp_al _ rfl hS ?_)); clear hS; intro b7 w _ hS) | (refine wpList_is (o := ⟨some 8, _, _, _, _, _⟩) (.alloc _) rfl ?_; go_must (refine wpList_stp (by kernel_rfl) (stp_al _ rfl hS ?_)); clear hS; intro b8 w _ hS) | (refine wpList_is (o := ⟨some 9, _, _, _, _, _⟩) (.alloc _) rfl ?_; go_must (refine wpList_stp (by kernel_rfl) (stp_al _ rfl hS ?_)); clear hS; intro b9 w _ hS) | (refine wpList_is (o := ⟨some 10, _, _, _, _, _⟩) (.alloc _) rfl ?_; go_must (refine wpList_stp (by kernel_rfl) (stp_al _ rfl hS ?_)); clear hS; intro b10 w _ hS) | (refine wpList_is (o := ⟨some 15, _, _, _, _, _⟩) (.alloc _) rfl ?_; go_must (refine wpList_stp (by kernel_rfl) (stp_al _ rfl hS ?_)); clear hS; intro b15 w _ hS) | (refine wpList_is (o := ⟨some 17, _, _, _, _, _⟩) (.alloc _) rfl ?_; go_must (refine wpList_stp (by kernel_rfl) (stp_al _ rfl hS ?_)); clear hS; intro b17 w _ hS) | (go_at_call 21; refine ar_drop hS hA m a _ _ _ h1'.out h2'.out h3'.out ?_; clear hS hA; intro Ea w hA hS; unfold Ret) | (go_at_call 30; refine rr_drop hS hB m a _ _ _ h1'.out h2'.out h3'.out ?_; clear hS hB; intro Er X w hB hS; obtain ⟨Z2, hZ2⟩ : ∃ Z2, X ++ Z = Z2 := ⟨_, rfl⟩; rw [← List.append_assoc X Z, hZ2] at hS; rw [hZ2] at hB; have hZ' := Lib.hid hZ2; clear hZ2; unfold Ret) | (go_at_call 22; refine ar_root hS hA m a _ _ hx'.out he'.out ?_; clear hS; intro w _ hS; unfold Ret) | (go_at_call 33; refine rr_root hS hB m a _ _ hx'.out he'.out ?_; clear hS; intro w hS; unfold Ret) | (refine wpList_is (.binOp .eql 25 _ _ _) rfl ?_; refine wpList_stp (by kernel_rfl) (stp_val (run_aeq _ _ _ _ rfl) ?_)) | (refine wpList_is (.load _ _) rfl ?_; go_must (first | refine wpList_stp (by kernel_rfl) (stp_val (run_ld _ _ rfl hS) ?_) | refine wpList_stp (by kernel_rfl) (stp_val (run_lda _ _ rfl hS) ?_))) | (refine wpList_is (.store _ _ _) rfl ?_; go_must ((refine wpList_stp (by kernel_rfl) (stp_sta _ _ _ rfl hS ?_))); clear hS; intro w hS))
  exact hR T' Ea Er X _ hA (by rw [hZ'.out]; exact hB) (by rw [← List.append_assoc X Z, hZ'.out]; exact hS.pick)

set_option maxHeartbeats 4000000 in
set_option maxRecDepth 100000 in
theorem step_4 {p q : Option Addr} {T : Ar} (hO : St w0 bs w H) (hA : AA p T Ea) (hB : AR q T Er Z) [c1 : Cut H Ea H1] [c2 : Cut H1 Er H2] [c3 : Cut H2 Z H3] (m a b c : Int)
    (hR : ∀ T' Ea' Er' X w', AA p T' Ea' → AR q T' Er' (X ++ Z) → St w0 bs w' (Ea' ++ (Er' ++ (X ++ (Z ++ H3)))) → Ret R (.bool true) w') :
    Calls Tryz.prog 8 #[.pointer p, .pointer q, .agg #[.int .i64 4, .int .i64 m, .int .i64 a, .int .i64 b, .int .i64 c]] w R := by
  have hS := hO.front (E := Ea) (H1 := H1)
  have hS : St w0 bs w (Ea ++ (Er ++ (Z ++ H3))) := hS.pick
  clear hO c1 c2 c3
  have q0 : AggEq Tryz.prog 25 #[.int .i64 0, .int .u32 0] #[.int .i64 0, .int .u32 0] true := refE (refB_self 0 0)
  obtain ⟨T', h1⟩ : ∃ x, ptAT T m a b = x := ⟨_, rfl⟩
  obtain ⟨⟨r1, r2⟩, h2⟩ : ∃ x, ptAW T m a b = x := ⟨_, rfl⟩
  obtain ⟨⟨v1, v2⟩, h4⟩ : ∃ x, ptAV T m a b = x := ⟨_, rfl⟩
  obtain ⟨e, h3⟩ : ∃ x, ptAE T m a b = x := ⟨_, rfl⟩
  have h1' := Lib.hid h1
  have h2' := Lib.hid h2
  have h3' := Lib.hid h3
  have h4' := Lib.hid h4
  clear h1 h2 h3 h4
  have q1 := refE (refB_self r1 r2)
  have q2 := refE (refB_self v1 v2)
  obtain ⟨⟨y1, y2⟩, hx⟩ : ∃ x, rtR T' m a = x := ⟨_, rfl⟩
  obtain ⟨ye, he⟩ : ∃ x, rtE T' m a = x := ⟨_, rfl⟩
  have qy := refE (refB_self y1 y2)
  have hx' := Lib.hid hx
  have he' := Lib.hid he
  clear hx he
  go_enter Tryz.func8, Tryz.ntmps8
  go_wp2_with (first | (refine wpList_is (.box 35 _) rfl ?_; go_must (refine wpList_stp (by kernel_rfl) (stp_bx _ _ rfl hS ?_)); clear hS; intro bx w _ hS) | (refine wpList_is (o := ⟨some 7, _, _, _, _, _⟩) (.alloc _) rfl ?_; go_must (refine wpList_stp (by kernel_rfl) (stp_al _ rfl hS ?_)); clear hS; intro b7 w _ hS) | (refine wpList_is (o := ⟨some 8, _, _, _, _, _⟩) (.alloc _) rfl ?_; go_must (refine wpList_stp (by kernel_rfl) (stp_al _ rfl hS ?_)); clear hS; intro b8 w _ hS) | (refine wpList_is (o := ⟨some 9, _, _, _, _, _⟩) (.alloc _) rfl ?_; go_must (refine wpList_stp (by kernel_rfl) (stp_al _ rfl hS ?_)); clear hS; intro b9 w _ hS) | (refine wpList_is (o := ⟨some 10, _, _, _, _, _⟩) (.alloc _) rfl ?_; go_must (refine wpList_stp (by kernel_rfl) (stp_al _ rfl hS ?_)); clear hS; intro b10 w _ hS) | (refine wpList_is (o := ⟨some 15, _, _, _, _, _⟩) (.alloc _) rfl ?_; go_must (refine wpList_stp (by kernel_rfl) (stp_al _ rfl hS ?_)); clear hS; intro b15 w _ hS) | (refine wpList_is (o := ⟨some 17, _, _, _, _, _⟩) (.alloc _) rfl ?_; go_must (refine wpList_stp (by kernel_rfl) (stp_al _ rfl hS ?_)); clear hS; intro b17 w _ hS) | (go_at_call 19; refine ar_put hS hA m a b _ _ _ _ h1'.out h2'.out h4'.out h3'.out ?_; clear hS hA; intro Ea w hA hS; unfold Ret) | (go_at_call 31; refine rr_put hS hB m a b _ _ _ _ h1'.out h2'.out h4'.out h3'.out ?_; clear hS hB; intro Er X w hB hS; obtain ⟨Z2, hZ2⟩ : ∃ Z2, X ++ Z = Z2 := ⟨_, rfl⟩; rw [← List.append_assoc X Z, hZ2] at hS; rw [hZ2] at hB; have hZ' := Lib.hid hZ2; clear hZ2; unfold Ret) | (go_at_call 22; refine ar_root hS hA m a _ _ hx'.out he'.out ?_; clear hS; intro w _ hS; unfold Ret) | (go_at_call 33; refine rr_root hS hB m a _ _ hx'.out he'.out ?_; clear hS; intro w hS; unfold Ret) | (refine wpList_is (.binOp .eql 25 _ _ _) rfl ?_; refine wpList_stp (by kernel_rfl) (stp_val (run_aeq _ _ _ _ rfl) ?_)) | (refine wpList_is (.load _ _) rfl ?_; go_must (first | refine wpList_stp (by kernel_rfl) (stp_val (run_ld _ _ rfl hS) ?_) | refine wpList_stp (by kernel_rfl) (stp_val (run_lda _ _ rfl hS) ?_))) | (refine wpList_is (.store _ _ _) rfl ?_; go_must ((refine wpList_stp (by kernel_rfl) (stp_sta _ _ _ rfl hS ?_))); clear hS; intro w hS))
  exact hR T' Ea Er X _ hA (by rw [hZ'.out]; exact hB) (by rw [← List.append_assoc X Z, hZ'.out]; exact hS.pick)

set_option maxHeartbeats 4000000 in
set_option maxRecDepth 100000 in
theorem step_5 {p q : Option Addr} {T : Ar} (hO : St w0 bs w H) (hA : AA p T Ea) (hB : AR q T Er Z) [c1 : Cut H Ea H1] [c2 : Cut H1 Er H2] [c3 : Cut H2 Z H3] (m a b c : Int)
    (hR : ∀ T' Ea' Er' X w', AA p T' Ea' → AR q T' Er' (X ++ Z) → St w0 bs w' (Ea' ++ (Er' ++ (X ++ (Z ++ H3)))) → Ret R (.bool true) w') :
    Calls Tryz.prog 8 #[.pointer p, .pointer q, .agg #[.int .i64 5, .int .i64 m, .int .i64 a, .int .i64 b, .int .i64 c]] w R := by
  have hS := hO.front (E := Ea) (H1 := H1)
  have hS : St w0 bs w (Ea ++ (Er ++ (Z ++ H3))) := hS.pick
  clear hO c1 c2 c3
  have q0 : AggEq Tryz.prog 25 #[.int .i64 0, .int .u32 0] #[.int .i64 0, .int .u32 0] true := refE (refB_self 0 0)
  obtain ⟨T', h1⟩ : ∃ x, gtAT T m b = x := ⟨_, rfl⟩
  obtain ⟨⟨r1, r2⟩, h2⟩ : ∃ x, gtAR T m b = x := ⟨_, rfl⟩
  obtain ⟨e, h3⟩ : ∃ x, gtAE T m b = x := ⟨_, rfl⟩
  have h1' := Lib.hid h1
  have h2' := Lib.hid h2
  have h3' := Lib.hid h3
  clear h1 h2 h3
  have q1 := refE (refB_self r1 r2)
  obtain ⟨⟨y1, y2⟩, hx⟩ : ∃ x, rtR T' m a = x := ⟨_, rfl⟩
  obtain ⟨ye, he⟩ : ∃ x, rtE T' m a = x := ⟨_, rfl⟩
  have qy := refE (refB_self y1 y2)
  have hx' := Lib.hid hx
  have he' := Lib.hid he
  clear hx he
  go_enter Tryz.func8, Tryz.ntmps8
  go_wp2_with (first | (refine wpList_is (.box 35 _) rfl ?_; go_must (refine wpList_stp (by kernel_rfl) (stp_bx _ _ rfl hS ?_)); clear hS; intro bx w _ hS) | (refine wpList_is (o := ⟨some 7, _, _, _, _, _⟩) (.alloc _) rfl ?_; go_must (refine wpList_stp (by kernel_rfl) (stp_al _ rfl hS ?_)); clear hS; intro b7 w _ hS) | (refine wpList_is (o := ⟨some 8, _, _, _, _, _⟩) (.alloc _) rfl ?_; go_must (refine wpList_stp (by kernel_rfl) (stp_al _ rfl hS ?_)); clear hS; intro b8 w _ hS) | (refine wpList_is (o := ⟨some 9, _, _, _, _, _⟩) (.alloc _) rfl ?_; go_must (refine wpList_stp (by kernel_rfl) (stp_al _ rfl hS ?_)); clear hS; intro b9 w _ hS) | (refine wpList_is (o := ⟨some 10, _, _, _, _, _⟩) (.alloc _) rfl ?_; go_must (refine wpList_stp (by kernel_rfl) (stp_al _ rfl hS ?_)); clear hS; intro b10 w _ hS) | (refine wpList_is (o := ⟨some 15, _, _, _, _, _⟩) (.alloc _) rfl ?_; go_must (refine wpList_stp (by kernel_rfl) (stp_al _ rfl hS ?_)); clear hS; intro b15 w _ hS) | (refine wpList_is (o := ⟨some 17, _, _, _, _, _⟩) (.alloc _) rfl ?_; go_must (refine wpList_stp (by kernel_rfl) (stp_al _ rfl hS ?_)); clear hS; intro b17 w _ hS) | (go_at_call 20; refine ar_get hS hA m b _ _ _ h1'.out h2'.out h3'.out ?_; clear hS hA; intro Ea w hA hS; unfold Ret) | (go_at_call 32; refine rr_get hS hB m b _ _ _ h1'.out h2'.out h3'.out ?_; clear hS hB; intro Er X w hB hS; obtain ⟨Z2, hZ2⟩ : ∃ Z2, X ++ Z = Z2 := ⟨_, rfl⟩; rw [← List.append_assoc X Z, hZ2] at hS; rw [hZ2] at hB; have hZ' := Lib.hid hZ2; clear hZ2; unfold Ret) | (go_at_call 22; refine ar_root hS hA m a _ _ hx'.out he'.out ?_; clear hS; intro w _ hS; unfold Ret) | (go_at_call 33; refine rr_root hS hB m a _ _ hx'.out he'.out ?_; clear hS; intro w hS; unfold Ret) | (refine wpList_is (.binOp .eql 25 _ _ _) rfl ?_; refine wpList_stp (by kernel_rfl) (stp_val (run_aeq _ _ _ _ rfl) ?_)) | (refine wpList_is (.load _ _) rfl ?_; go_must (first | refine wpList_stp (by kernel_rfl) (stp_val (run_ld _ _ rfl hS) ?_) | refine wpList_stp (by kernel_rfl) (stp_val (run_lda _ _ rfl hS) ?_))) | (refine wpList_is (.store _ _ _) rfl ?_; go_must ((refine wpList_stp (by kernel_rfl) (stp_sta _ _ _ rfl hS ?_))); clear hS; intro w hS))
  exact hR T' Ea Er X _ hA (by rw [hZ'.out]; exact hB) (by rw [← List.append_assoc X Z, hZ'.out]; exact hS.pick)

set_option maxHeartbeats 4000000 in
set_option maxRecDepth 100000 in
theorem step_6 {p q : Option Addr} {T : Ar} (hO : St w0 bs w H) (hA : AA p T Ea) (hB : AR q T Er Z) [c1 : Cut H Ea H1] [c2 : Cut H1 Er H2] [c3 : Cut H2 Z H3] (m a b c : Int)
    (hR : ∀ T' Ea' Er' X w', AA p T' Ea' → AR q T' Er' (X ++ Z) → St w0 bs w' (Ea' ++ (Er' ++ (X ++ (Z ++ H3)))) → Ret R (.bool true) w') :
    Calls Tryz.prog 8 #[.pointer p, .pointer q, .agg #[.int .i64 6, .int .i64 m, .int .i64 a, .int .i64 b, .int .i64 c]] w R := by
  have hS := hO.front (E := Ea) (H1 := H1)
  have hS : St w0 bs w (Ea ++ (Er ++ (Z ++ H3))) := hS.pick
  clear hO c1 c2 c3
  have q0 : AggEq Tryz.prog 25 #[.int .i64 0, .int .u32 0] #[.int .i64 0, .int .u32 0] true := refE (refB_self 0 0)
  obtain ⟨⟨r1, r2⟩, h4⟩ : ∃ x, rtR T m a = x := ⟨_, rfl⟩
  obtain ⟨e0, h5⟩ : ∃ x, rtE T m a = x := ⟨_, rfl⟩
  have hvg := (rtR_wr hA m a).2
  rw [h4] at hvg
  have hvg' := Lib.hid hvg
  clear hvg
  obtain ⟨T', h1⟩ : ∃ x, frA T r1 r2 = x := ⟨_, rfl⟩
  obtain ⟨e, h3⟩ : ∃ x, wiH (some (some T.1)) r1 r2 = x := ⟨_, rfl⟩
  have h1' := Lib.hid h1
  have h3' := Lib.hid h3
  have h4' := Lib.hid h4
  have h5' := Lib.hid h5
  clear h1 h3 h4 h5
  have q1 := refE (refB_self r1 r2)
  obtain ⟨⟨y1, y2⟩, hx⟩ : ∃ x, rtR T' m a = x := ⟨_, rfl⟩
  obtain ⟨ye, he⟩ : ∃ x, rtE T' m a = x := ⟨_, rfl⟩
  have qy := refE (refB_self y1 y2)
  have hx' := Lib.hid hx
  have he' := Lib.hid he
  clear hx he
  go_enter Tryz.func8, Tryz.ntmps8
  go_wp2_with (first | (refine wpList_is (.box 35 _) rfl ?_; go_must (refine wpList_stp (by kernel_rfl) (stp_bx _ _ rfl hS ?_)); clear hS; intro bx w _ hS) | (refine wpList_is (o := ⟨some 7, _, _, _, _, _⟩) (.alloc _) rfl ?_; go_must (refine wpList_stp (by kernel_rfl) (stp_al _ rfl hS ?_)); clear hS; intro b7 w _ hS) | (refine wpList_is (o := ⟨some 8, _, _, _, _, _⟩) (.alloc _) rfl ?_; go_must (refine wpList_stp (by kernel_rfl) (stp_al _ rfl hS ?_)); clear hS; intro b8 w _ hS) | (refine wpList_is (o := ⟨some 9, _, _, _, _, _⟩) (.alloc _) rfl ?_; go_must (refine wpList_stp (by kernel_rfl) (stp_al _ rfl hS ?_)); clear hS; intro b9 w _ hS) | (refine wpList_is (o := ⟨some 10, _, _, _, _, _⟩) (.alloc _) rfl ?_; go_must (refine wpList_stp (by kernel_rfl) (stp_al _ rfl hS ?_)); clear hS; intro b10 w _ hS) | (refine wpList_is (o := ⟨some 13, _, _, _, _, _⟩) (.alloc _) rfl ?_; go_must (refine wpList_stp (by kernel_rfl) (stp_al _ rfl hS ?_)); clear hS; intro b13 w _ hS) | (refine wpList_is (o := ⟨some 15, _, _, _, _, _⟩) (.alloc _) rfl ?_; go_must (refine wpList_stp (by kernel_rfl) (stp_al _ rfl hS ?_)); clear hS; intro b15 w _ hS) | (refine wpList_is (o := ⟨some 17, _, _, _, _, _⟩) (.alloc _) rfl ?_; go_must (refine wpList_stp (by kernel_rfl) (stp_al _ rfl hS ?_)); clear hS; intro b17 w _ hS) | (go_at_call 33; refine rr_root hS hB m a _ _ h4'.out h5'.out ?_; clear hS; intro w hS; unfold Ret) | (go_at_call 11; refine ar_free hS hA r1 r2 _ _ h1'.out h3'.out ?_; clear hS hA; intro Ea w hA hS; unfold Ret) | (go_at_call 12; refine rr_free hS hB r1 r2 hvg'.out _ _ h1'.out h3'.out ?_; clear hS hB; intro Er X w hB hS; obtain ⟨Z2, hZ2⟩ : ∃ Z2, X ++ Z = Z2 := ⟨_, rfl⟩; rw [← List.append_assoc X Z, hZ2] at hS; rw [hZ2] at hB; have hZ' := Lib.hid hZ2; clear hZ2; unfold Ret) | (go_at_call 22; refine ar_root hS hA m a _ _ hx'.out he'.out ?_; clear hS; intro w _ hS; unfold Ret) | (go_at_call 33; refine rr_root hS hB m a _ _ hx'.out he'.out ?_; clear hS; intro w hS; unfold Ret) | (refine wpList_is (.binOp .eql 25 _ _ _) rfl ?_; refine wpList_stp (by kernel_rfl) (stp_val (run_aeq _ _ _ _ rfl) ?_)) | (refine wpList_is (.load _ _) rfl ?_; go_must (first | refine wpList_stp (by kernel_rfl) (stp_val (run_ld _ _ rfl hS) ?_) | refine wpList_stp (by kernel_rfl) (stp_val (run_lda _ _ rfl hS) ?_))) | (refine wpList_is (.store _ _ _) rfl ?_; go_must ((refine wpList_stp (by kernel_rfl) (stp_sta _ _ _ rfl hS ?_))); clear hS; intro w hS))
  exact hR T' Ea Er X _ hA (by rw [hZ'.out]; exact hB) (by rw [← List.append_assoc X Z, hZ'.out]; exact hS.pick)

set_option maxHeartbeats 4000000 in
set_option maxRecDepth 100000 in
theorem step_x {p q : Option Addr} {T : Ar} (hO : St w0 bs w H) (hA : AA p T Ea) (hB : AR q T Er Z) [c1 : Cut H Ea H1] [c2 : Cut H1 Er H2] [c3 : Cut H2 Z H3] (d m a b c : Int) (n0 : d ≠ 0) (n1 : d ≠ 1) (n2 : d ≠ 2) (n3 : d ≠ 3) (n4 : d ≠ 4) (n5 : d ≠ 5) (n6 : d ≠ 6)
    (hR : ∀ T' Ea' Er' X w', AA p T' Ea' → AR q T' Er' (X ++ Z) → St w0 bs w' (Ea' ++ (Er' ++ (X ++ (Z ++ H3)))) → Ret R (.bool true) w') :
    Calls Tryz.prog 8 #[.pointer p, .pointer q, .agg #[.int .i64 d, .int .i64 m, .int .i64 a, .int .i64 b, .int .i64 c]] w R := by
  have hS := hO.front (E := Ea) (H1 := H1)
  have hS : St w0 bs w (Ea ++ (Er ++ (Z ++ H3))) := hS.pick
  clear hO c1 c2 c3
  have q0 : AggEq Tryz.prog 25 #[.int .i64 0, .int .u32 0] #[.int .i64 0, .int .u32 0] true := refE (refB_self 0 0)
  have d0 : (d == 0) = false := beq_eq_false_iff_ne.2 n0
  have d0' : decide (d = 0) = false := decide_eq_false n0
  have d1 : (d == 1) = false := beq_eq_false_iff_ne.2 n1
  have d1' : decide (d = 1) = false := decide_eq_false n1
  have d2 : (d == 2) = false := beq_eq_false_iff_ne.2 n2
  have d2' : decide (d = 2) = false := decide_eq_false n2
  have d3 : (d == 3) = false := beq_eq_false_iff_ne.2 n3
  have d3' : decide (d = 3) = false := decide_eq_false n3
  have d4 : (d == 4) = false := beq_eq_false_iff_ne.2 n4
  have d4' : decide (d = 4) = false := decide_eq_false n4
  have d5 : (d == 5) = false := beq_eq_false_iff_ne.2 n5
  have d5' : decide (d = 5) = false := decide_eq_false n5
  have d6 : (d == 6) = false := beq_eq_false_iff_ne.2 n6
  have d6' : decide (d = 6) = false := decide_eq_false n6
  clear n0 n1 n2 n3 n4 n5 n6
  obtain ⟨⟨y1, y2⟩, hx⟩ : ∃ x, rtR T m a = x := ⟨_, rfl⟩
  obtain ⟨ye, he⟩ : ∃ x, rtE T m a = x := ⟨_, rfl⟩
  have qy := refE (refB_self y1 y2)
  have hx' := Lib.hid hx
  have he' := Lib.hid he
  clear hx he
  go_enter Tryz.func8, Tryz.ntmps8
  go_wp2_with (first | (refine wpList_is (.box 35 _) rfl ?_; go_must (refine wpList_stp (by kernel_rfl) (stp_bx _ _ rfl hS ?_)); clear hS; intro bx w _ hS) | (refine wpList_is (o := ⟨some 7, _, _, _, _, _⟩) (.alloc _) rfl ?_; go_must (refine wpList_stp (by kernel_rfl) (stp_al _ rfl hS ?_)); clear hS; intro b7 w _ hS) | (refine wpList_is (o := ⟨some 8, _, _, _, _, _⟩) (.alloc _) rfl ?_; go_must (refine wpList_stp (by kernel_rfl) (stp_al _ rfl hS ?_)); clear hS; intro b8 w _ hS) | (refine wpList_is (o := ⟨some 9, _, _, _, _, _⟩) (.alloc _) rfl ?_; go_must (refine wpList_stp (by kernel_rfl) (stp_al _ rfl hS ?_)); clear hS; intro b9 w _ hS) | (refine wpList_is (o := ⟨some 10, _, _, _, _, _⟩) (.alloc _) rfl ?_; go_must (refine wpList_stp (by kernel_rfl) (stp_al _ rfl hS ?_)); clear hS; intro b10 w _ hS) | (refine wpList_is (o := ⟨some 15, _, _, _, _, _⟩) (.alloc _) rfl ?_; go_must (refine wpList_stp (by kernel_rfl) (stp_al _ rfl hS ?_)); clear hS; intro b15 w _ hS) | (refine wpList_is (o := ⟨some 17, _, _, _, _, _⟩) (.alloc _) rfl ?_; go_must (refine wpList_stp (by kernel_rfl) (stp_al _ rfl hS ?_)); clear hS; intro b17 w _ hS) | (go_at_call 22; refine ar_root hS hA m a _ _ hx'.out he'.out ?_; clear hS; intro w _ hS; unfold Ret) | (go_at_call 33; refine rr_root hS hB m a _ _ hx'.out he'.out ?_; clear hS; intro w hS; unfold Ret) | (refine wpList_is (.binOp .eql 25 _ _ _) rfl ?_; refine wpList_stp (by kernel_rfl) (stp_val (run_aeq _ _ _ _ rfl) ?_)) | (refine wpList_is (.load _ _) rfl ?_; go_must (first | refine wpList_stp (by kernel_rfl) (stp_val (run_ld _ _ rfl hS) ?_) | refine wpList_stp (by kernel_rfl) (stp_val (run_lda _ _ rfl hS) ?_))) | (refine wpList_is (.store _ _ _) rfl ?_; go_must ((refine wpList_stp (by kernel_rfl) (stp_sta _ _ _ rfl hS ?_))); clear hS; intro w hS))
  exact hR T Ea Er [] _ hA hB (by simp only [List.nil_append]; exact hS.pick)

set_option maxHeartbeats 4000000 in
set_option maxRecDepth 100000 in
theorem step_ok {p q : Option Addr} {T : Ar} (hO : St w0 bs w H) (hA : AA p T Ea) (hB : AR q T Er Z) [c1 : Cut H Ea H1] [c2 : Cut H1 Er H2] [c3 : Cut H2 Z H3] (d m a b c : Int)
    (hR : ∀ T' Ea' Er' X w', AA p T' Ea' → AR q T' Er' (X ++ Z) → St w0 bs w' (Ea' ++ (Er' ++ (X ++ (Z ++ H3)))) → Ret R (.bool true) w') :
    Calls Tryz.prog 8 #[.pointer p, .pointer q, .agg #[.int .i64 d, .int .i64 m, .int .i64 a, .int .i64 b, .int .i64 c]] w R := by
  by_cases n0 : d = 0
  · subst n0
    by_cases hc1 : c = 1
    · subst hc1
      exact step_0t hO hA hB m a b hR
    · exact step_0f hO hA hB m a b c hc1 hR
  by_cases n1 : d = 1
  · subst n1
    exact step_1 hO hA hB m a b c hR
  by_cases n2 : d = 2
  · subst n2
    exact step_2 hO hA hB m a b c hR
  by_cases n3 : d = 3
  · subst n3
    exact step_3 hO hA hB m a b c hR
  by_cases n4 : d = 4
  · subst n4
    exact step_4 hO hA hB m a b c hR
  by_cases n5 : d = 5
  · subst n5
    exact step_5 hO hA hB m a b c hR
  by_cases n6 : d = 6
  · subst n6
    exact step_6 hO hA hB m a b c hR
  exact step_x hO hA hB d m a b c n0 n1 n2 n3 n4 n5 n6 hR

end Go.Proofs.YtjlihigodggfcaaGreat
