/-
  The document's arenas: New, Copy.
-/
import Derived.Test.YtjlihigodggfcaaGreatRarE
set_option linter.unusedSimpArgs false
set_option linter.unusedVariables false
namespace Go.Proofs.YtjlihigodggfcaaGreat
open Go Go.RowKit Go.Mm
variable {R : Ending → World → Prop} {w : World} {w0 : World} {bs : List Nat} {H H' H1 H2 E Z : List Ent}
theorem list8 {G : List Rf} (h : G.length = 8) : ∃ a b c d e f g i, G = [a, b, c, d, e, f, g, i] := by
  match G, h with
  | [a, b, c, d, e, f, g, i], _ => exact ⟨a, b, c, d, e, f, g, i, rfl⟩
instance rr_b3 {z : Int} {p : Option Addr} {a : Option Addr} {n c : Nat} : BuildT Tryz.prog 77 [(0, .bool true), (1, .int .i64 z), (2, .pointer p), (3, .slice a n c)] (arR z p (.slice a n c) zero8) := ⟨fun w => by kernel_rfl⟩
theorem rr_b4 {z : Int} {p : Option Addr} {a : Option Addr} {n c : Nat} {G : List Rf} (hG : G.length = 8) : BuildT Tryz.prog 77 [(0, .bool true), (1, .int .i64 z), (2, .pointer p), (3, .slice a n c), (4, .agg (G.flatMap slf).toArray)] (arR z p (.slice a n c) G) := by
  obtain ⟨⟨a1, a2⟩, ⟨b1, b2⟩, ⟨c1, c2⟩, ⟨d1, d2⟩, ⟨e1, e2⟩, ⟨f1, f2⟩, ⟨g1, g2⟩, ⟨i1, i2⟩, rfl⟩ := list8 hG
  exact ⟨fun w => by kernel_rfl⟩
instance rr_agg8 : AggT Tryz.prog 75 16 := ⟨by kernel_rfl, by kernel_rfl⟩
theorem made_nil {k : Nat} (h : k ≤ 4) : madeCells #[.slice none 0 0] (k * 1) = ovB (List.replicate k (.slice none 0 0)) [] :=
  match k, h with
  | 0, _ => by show (_ : Array Value) = _; kernel_rfl
  | 1, _ => by show (_ : Array Value) = _; kernel_rfl
  | 2, _ => by show (_ : Array Value) = _; kernel_rfl
  | 3, _ => by show (_ : Array Value) = _; kernel_rfl
  | 4, _ => by show (_ : Array Value) = _; kernel_rfl
set_option maxHeartbeats 1000000 in
set_option maxRecDepth 100000 in
theorem rr_new (hO : St w0 bs w H) (z g : Int) (k : Nat) (hg : 0 ≤ g ∧ g ≤ 4294967295) (hn : nwOk z g = true) (hk : 1 ≤ k ∧ k ≤ 4) (T' : Ar) (hT' : nwA z k g = T')
    (hR : ∀ p E w', AR p T' E [] → St w0 bs w' (E ++ H) → Ret R (.tuple #[.pointer p, .int .i64 0]) w') : Calls Tryz.prog 7 #[.int .i64 z, .int .i64 k, .int .u32 g] w R := by
  have hS := hO
  clear hO
  subst hT'
  have hT0 : nwH z g = some (some (hpL (nwH z g))) := by unfold nwH; rw [hn]; rfl
  have he0 : nwE z g = 0 := by unfold nwE; rw [hn]; rfl
  have hz : z = ((hpL (nwH z g)).length : Int) := by
    simp only [nwOk, Bool.and_eq_true, decide_eq_true_eq] at hn
    rw [show (hpL (nwH z g)).length = z.toNat from ?_]
    · omega
    · unfold nwH
      rw [show nwOk z g = true from ?_]
      · simp [hpL]
      · simp only [nwOk, Bool.and_eq_true, decide_eq_true_eq]; exact hn
  obtain ⟨L, hL⟩ : ∃ L, hpL (nwH z g) = L := ⟨_, rfl⟩
  rw [hL] at hT0 hz
  have hTA : nwA z k g = (L, List.replicate k [], zero8) := by simp only [nwA, hL, Int.toNat_natCast]
  rw [hTA] at hR
  have hT0' := Lib.hid hT0
  have he0' := Lib.hid he0
  have hz' := Lib.hid hz
  obtain ⟨k1, k4⟩ := hk
  have d1 : decide ((k : Int) < 1) = false := decide_eq_false (by omega)
  have d2 : decide (4 < (k : Int)) = false := decide_eq_false (by omega)
  have d1' : decide (k < 1) = false := decide_eq_false (by omega)
  have d2' : decide (4 < k) = false := decide_eq_false (by omega)
  clear hT0 he0 hz hL hTA hn
  go_enter Tryz.func7, Tryz.ntmps7
  go_wp2_with (first | go_skip | (go_at_call 26; go_must (refine rh_new hS z g hg _ 0 hT0'.out he0'.out ?_); clear hS; intro ph Eh w hH hS; unfold Ret) | (refine wpList_is (.makeSlice _ _ _) rfl ?_; go_must (refine wpList_stp (by kernel_rfl) (stp_mk _ _ _ rfl hS (by omega) (by omega) (by omega) (by omega) ?_)); clear hS; intro bM w _ hS; simp only [Int.toNat_natCast] at hS ⊢; rw [made_nil k4] at hS) | (refine wpList_is (.box 77 _) rfl ?_; go_must (refine wpList_stp (by kernel_rfl) (stp_bx _ _ rfl hS ?_)); clear hS; intro b w _ hS) | go_skip | (refine wpList_is (.build _ _) rfl ?_; go_must (refine wpList_stp (by kernel_rfl) (stp_val (run_bd _ _ rfl) ?_))) | (refine wpList_is (.call { callee := .builtin .clear, args := #[_], argTypes := #[_] }) rfl ?_; go_must (refine wpList_stp (by kernel_rfl) (stp_cl _ _ rfl hS (by decide) ?_)); clear hS; intro w hS) | (refine wpList_is (.load _ _) rfl ?_; go_must (first | refine wpList_stp (by kernel_rfl) (stp_val (run_ld _ _ rfl hS) ?_) | refine wpList_stp (by kernel_rfl) (stp_val (run_lda _ _ rfl hS) ?_) | refine wpList_stp (by kernel_rfl) (stp_val (run_ld0 _ _ rfl hS) ?_) | refine wpList_stp (by kernel_rfl) (stp_val (run_lda0 _ _ rfl hS) ?_))) | (refine wpList_is (.store _ _ _) rfl ?_; go_must (first | refine wpList_stp (by kernel_rfl) (stp_st _ _ _ rfl hS ?_) | refine wpList_stp (by kernel_rfl) (stp_sta _ _ _ rfl hS ?_)); clear hS; intro w hS) | (refine wpList_is (.alloc _) rfl ?_; go_must (refine wpList_stp (by kernel_rfl) (stp_al _ rfl hS ?_)); clear hS; intro bN w hbN hS) | (refine wpList_is (.box _ _) rfl ?_; go_must (refine wpList_stp (by kernel_rfl) (stp_bx _ _ rfl hS ?_)); clear hS; intro bN w hbN hS) | (refine wpList_is (.binOp .eql _ _ (.const (.slice none _ _)) _) rfl ?_; refine wpList_stp (by kernel_rfl) (stp_val (run_nse _ _ _ rfl) ?_)) | (refine wpList_is (.binOp .neq _ _ (.const (.slice none _ _)) _) rfl ?_; refine wpList_stp (by kernel_rfl) (stp_val (run_nsn _ _ _ rfl) ?_)))
  refine hR (some ⟨b, 0, none⟩) (⟨b, arR L.length ph (.slice (some ⟨bM, 0, none⟩) (List.replicate k (Value.slice none 0 0)).length k) zero8, 77, true⟩ :: ⟨bM, ovB (List.replicate k (.slice none 0 0)) [], 81, true⟩ :: Eh) _ ⟨b, ph, Eh, bM, k, List.replicate k (.slice none 0 0), [], rfl, hH, by simp, fun j v hv => ?_, by simpa using k1, by simpa using k4, ⟨by simp, by simp only [maxLen]; omega, by simp⟩, rfl, fun l hl => ?_, rfl⟩ ?_
  · rw [List.getElem?_replicate] at hv
    split at hv
    · obtain rfl := Option.some.inj hv
      have : (List.replicate k ([] : List Rf)).getD j [] = [] := by
        rw [List.getD_eq_getElem?_getD, List.getElem?_replicate]
        split <;> rfl
      show RZ _ ((List.replicate k ([] : List Rf)).getD j []) []
      rw [this]
      exact ⟨[], [], RS.nil, inferInstance⟩
    · cases hv
  · rw [(List.mem_replicate.1 hl).2]; simp
  · simp only [List.length_replicate]
    rw [← hz'.out]
    exact hS.pick
set_option maxHeartbeats 1000000 in
set_option maxRecDepth 100000 in
theorem rr_new_no (hO : St w0 bs w H) (z k g : Int) (hg : 0 ≤ g ∧ g ≤ 4294967295) (hn : nwOk z g = false ∨ k < 1 ∨ 4 < k)
    (hR : ∀ w', St w0 bs w' H → Ret R (.tuple #[.pointer none, .int .i64 2]) w') : Calls Tryz.prog 7 #[.int .i64 z, .int .i64 k, .int .u32 g] w R := by
  have hS := hO
  clear hO
  obtain ⟨x, hx⟩ : ∃ x, nwE z g = x := ⟨_, rfl⟩
  by_cases h0 : x = 0
  · subst h0
    have hok : nwOk z g = true := by
      cases h : nwOk z g with
      | true => rfl
      | false => unfold nwE at hx; rw [h] at hx; cases hx
    have hx' := Lib.hid hx
    by_cases hk : k < 1
    · have d1 : decide (k < 1) = true := decide_eq_true hk
      clear hx hok hn hk
      go_enter Tryz.func7, Tryz.ntmps7
      go_wp2_with (first | go_skip | (go_at_call 26; go_must (refine rh_new hS z g hg _ 0 rfl hx'.out ?_); clear hS; intro ph Eh w hH hS; unfold Ret) | go_skip | (refine wpList_is (.build _ _) rfl ?_; go_must (refine wpList_stp (by kernel_rfl) (stp_val (run_bd _ _ rfl) ?_))) | (refine wpList_is (.call { callee := .builtin .clear, args := #[_], argTypes := #[_] }) rfl ?_; go_must (refine wpList_stp (by kernel_rfl) (stp_cl _ _ rfl hS (by decide) ?_)); clear hS; intro w hS) | (refine wpList_is (.load _ _) rfl ?_; go_must (first | refine wpList_stp (by kernel_rfl) (stp_val (run_ld _ _ rfl hS) ?_) | refine wpList_stp (by kernel_rfl) (stp_val (run_lda _ _ rfl hS) ?_) | refine wpList_stp (by kernel_rfl) (stp_val (run_ld0 _ _ rfl hS) ?_) | refine wpList_stp (by kernel_rfl) (stp_val (run_lda0 _ _ rfl hS) ?_))) | (refine wpList_is (.store _ _ _) rfl ?_; go_must (first | refine wpList_stp (by kernel_rfl) (stp_st _ _ _ rfl hS ?_) | refine wpList_stp (by kernel_rfl) (stp_sta _ _ _ rfl hS ?_)); clear hS; intro w hS) | (refine wpList_is (.alloc _) rfl ?_; go_must (refine wpList_stp (by kernel_rfl) (stp_al _ rfl hS ?_)); clear hS; intro bN w hbN hS) | (refine wpList_is (.box _ _) rfl ?_; go_must (refine wpList_stp (by kernel_rfl) (stp_bx _ _ rfl hS ?_)); clear hS; intro bN w hbN hS) | (refine wpList_is (.binOp .eql _ _ (.const (.slice none _ _)) _) rfl ?_; refine wpList_stp (by kernel_rfl) (stp_val (run_nse _ _ _ rfl) ?_)) | (refine wpList_is (.binOp .neq _ _ (.const (.slice none _ _)) _) rfl ?_; refine wpList_stp (by kernel_rfl) (stp_val (run_nsn _ _ _ rfl) ?_)))
      exact hR _ hS.weak
    · have hk4 : 4 < k := by
        rcases hn with h | h | h
        · rw [hok] at h; cases h
        · exact absurd h hk
        · exact h
      have d1 : decide (k < 1) = false := decide_eq_false hk
      have d2 : decide (4 < k) = true := decide_eq_true hk4
      clear hx hok hn hk hk4
      go_enter Tryz.func7, Tryz.ntmps7
      go_wp2_with (first | go_skip | (go_at_call 26; go_must (refine rh_new hS z g hg _ 0 rfl hx'.out ?_); clear hS; intro ph Eh w hH hS; unfold Ret) | go_skip | (refine wpList_is (.build _ _) rfl ?_; go_must (refine wpList_stp (by kernel_rfl) (stp_val (run_bd _ _ rfl) ?_))) | (refine wpList_is (.call { callee := .builtin .clear, args := #[_], argTypes := #[_] }) rfl ?_; go_must (refine wpList_stp (by kernel_rfl) (stp_cl _ _ rfl hS (by decide) ?_)); clear hS; intro w hS) | (refine wpList_is (.load _ _) rfl ?_; go_must (first | refine wpList_stp (by kernel_rfl) (stp_val (run_ld _ _ rfl hS) ?_) | refine wpList_stp (by kernel_rfl) (stp_val (run_lda _ _ rfl hS) ?_) | refine wpList_stp (by kernel_rfl) (stp_val (run_ld0 _ _ rfl hS) ?_) | refine wpList_stp (by kernel_rfl) (stp_val (run_lda0 _ _ rfl hS) ?_))) | (refine wpList_is (.store _ _ _) rfl ?_; go_must (first | refine wpList_stp (by kernel_rfl) (stp_st _ _ _ rfl hS ?_) | refine wpList_stp (by kernel_rfl) (stp_sta _ _ _ rfl hS ?_)); clear hS; intro w hS) | (refine wpList_is (.alloc _) rfl ?_; go_must (refine wpList_stp (by kernel_rfl) (stp_al _ rfl hS ?_)); clear hS; intro bN w hbN hS) | (refine wpList_is (.box _ _) rfl ?_; go_must (refine wpList_stp (by kernel_rfl) (stp_bx _ _ rfl hS ?_)); clear hS; intro bN w hbN hS) | (refine wpList_is (.binOp .eql _ _ (.const (.slice none _ _)) _) rfl ?_; refine wpList_stp (by kernel_rfl) (stp_val (run_nse _ _ _ rfl) ?_)) | (refine wpList_is (.binOp .neq _ _ (.const (.slice none _ _)) _) rfl ?_; refine wpList_stp (by kernel_rfl) (stp_val (run_nsn _ _ _ rfl) ?_)))
      exact hR _ hS.weak
  · have hx' := Lib.hid hx
    have q : (x != 0) = true := by simpa using h0
    have d0 : decide (x = 0) = false := decide_eq_false h0
    clear hx hn
    go_enter Tryz.func7, Tryz.ntmps7
    go_wp2_with (first | go_skip | (go_at_call 26; go_must (refine rh_new hS z g hg _ x rfl hx'.out ?_); clear hS; intro ph Eh w hH hS; unfold Ret) | go_skip | (refine wpList_is (.build _ _) rfl ?_; go_must (refine wpList_stp (by kernel_rfl) (stp_val (run_bd _ _ rfl) ?_))) | (refine wpList_is (.call { callee := .builtin .clear, args := #[_], argTypes := #[_] }) rfl ?_; go_must (refine wpList_stp (by kernel_rfl) (stp_cl _ _ rfl hS (by decide) ?_)); clear hS; intro w hS) | (refine wpList_is (.load _ _) rfl ?_; go_must (first | refine wpList_stp (by kernel_rfl) (stp_val (run_ld _ _ rfl hS) ?_) | refine wpList_stp (by kernel_rfl) (stp_val (run_lda _ _ rfl hS) ?_) | refine wpList_stp (by kernel_rfl) (stp_val (run_ld0 _ _ rfl hS) ?_) | refine wpList_stp (by kernel_rfl) (stp_val (run_lda0 _ _ rfl hS) ?_))) | (refine wpList_is (.store _ _ _) rfl ?_; go_must (first | refine wpList_stp (by kernel_rfl) (stp_st _ _ _ rfl hS ?_) | refine wpList_stp (by kernel_rfl) (stp_sta _ _ _ rfl hS ?_)); clear hS; intro w hS) | (refine wpList_is (.alloc _) rfl ?_; go_must (refine wpList_stp (by kernel_rfl) (stp_al _ rfl hS ?_)); clear hS; intro bN w hbN hS) | (refine wpList_is (.box _ _) rfl ?_; go_must (refine wpList_stp (by kernel_rfl) (stp_bx _ _ rfl hS ?_)); clear hS; intro bN w hbN hS) | (refine wpList_is (.binOp .eql _ _ (.const (.slice none _ _)) _) rfl ?_; refine wpList_stp (by kernel_rfl) (stp_val (run_nse _ _ _ rfl) ?_)) | (refine wpList_is (.binOp .neq _ _ (.const (.slice none _ _)) _) rfl ?_; refine wpList_stp (by kernel_rfl) (stp_val (run_nsn _ _ _ rfl) ?_)))
    exact hR _ hS.weak
set_option maxHeartbeats 1000000 in
set_option maxRecDepth 100000 in
theorem rr_copy {p : Option Addr} {T : Ar} (hO : St w0 bs w H) (hT : AR p T E Z) [hc : Cut H E H1] [hz : Cut H1 Z H2]
    (hR : ∀ p' E' w', AR p' T E' Z → St w0 bs w' (E' ++ (E ++ (Z ++ H2))) → Ret R (.pointer p') w') : Calls Tryz.prog 15 #[.pointer p] w R := by
  have hS := hO.front (E := E) (H1 := H1)
  have hS : St w0 bs w (E ++ (Z ++ H2)) := hS.pick
  clear hO
  obtain ⟨L, ks, G⟩ := T
  obtain ⟨b, ph, Eh, g, cap, vs, sp, rfl, hH, hvl, hvz, h1, h4, hcap, hG8, h32, hE⟩ := id hT
  have hE' := Lib.hid hE
  clear hE
  simp only at hvl hvz hG8 h32 hH
  have hall : ∀ v ∈ vs, v.oneCell' = true := fun v hv => by
    obtain ⟨i, hi, rfl⟩ := List.mem_iff_getElem.1 hv
    obtain ⟨_, _, h, _⟩ := hvz i _ (List.getElem?_eq_getElem hi)
    exact h.one.h
  have hone2 : OneCells vs.toArray := ⟨by intro v hv; exact hall v (by simpa using hv)⟩
  have call : CellsAt (ovB vs sp) 0 (vs.length * 1) vs.toArray := ⟨fun i hi => by rw [ovB, Nat.zero_add, List.getElem?_toArray, List.getElem?_toArray, List.getElem?_append_left (by omega)], by rw [List.size_toArray]; omega⟩
  have hgc : CellsAt (arR L.length ph (.slice (some ⟨g, 0, none⟩) vs.length cap) G) (0 + 4) 16 (G.flatMap slf).toArray := ⟨fun i hi => by
    have e : (G.flatMap slf).length = 16 := by rw [flat_len slf_len, hG8]
    simp only [arR, blk, List.getElem?_toArray, List.append_nil]
    rw [List.getElem?_append_right (by simp only [List.length_cons, List.length_nil]; omega)]
    congr 1
    simp only [List.length_cons, List.length_nil]; omega, by rw [List.size_toArray, flat_len slf_len, hG8]⟩
  have hgb1 := fun p a n c => rr_b4 (z := L.length) (p := p) (a := a) (n := n) (c := c) (G := G) hG8
  have hgo := flatOnes G
  have hTn : ∀ bn q E8 g' cap' sp', (vs.length ≤ cap' ∧ cap' ≤ maxLen ∧ vs.length + sp'.length = cap') → RH q (some (some L)) E8 → AR (some ⟨bn, 0, none⟩) (L, ks, G) (⟨bn, arR L.length q (.slice (some ⟨g', 0, none⟩) vs.length cap') G, 77, true⟩ :: ⟨g', ovB vs sp', 81, true⟩ :: E8) Z := by
    intro bn q E8 g' cap' sp' hb hH8
    exact ⟨bn, q, E8, g', cap', vs, sp', rfl, hH8, hvl, hvz, h1, h4, hb, hG8, h32, rfl⟩
  have hTn' := Lib.hid hTn
  have hR : ∀ p' E' w', AR p' (L, ks, G) E' Z → St w0 bs w' (E' ++ (⟨b, arR L.length ph (.slice (some ⟨g, 0, none⟩) vs.length cap) G, 77, true⟩ :: ⟨g, ovB vs sp, 81, true⟩ :: (Eh ++ (Z ++ H2)))) → Ret R (.pointer p') w' := fun p' E' w' h1 h2 => hR p' E' w' h1 (by rw [hE'.out]; simp only [List.cons_append]; exact h2)
  have hR' := Lib.hid hR
  rw [hE'.out] at hS
  simp only [List.cons_append] at hS
  clear hTn hvz h32 hR hall
  go_enter Tryz.func15, Tryz.ntmps15
  go_wp2_with (first | go_skip | (go_at_call 36; refine rr_valid hS ?_; clear hS; intro w hS; unfold Ret) | go_skip | (refine wpList_is (.build _ _) rfl ?_; go_must (refine wpList_stp (by kernel_rfl) (stp_val (run_bd _ _ rfl) ?_))) | (refine wpList_is (.call { callee := .builtin .clear, args := #[_], argTypes := #[_] }) rfl ?_; go_must (refine wpList_stp (by kernel_rfl) (stp_cl _ _ rfl hS (by decide) ?_)); clear hS; intro w hS) | (refine wpList_is (.load _ _) rfl ?_; go_must (first | refine wpList_stp (by kernel_rfl) (stp_val (run_ld _ _ rfl hS) ?_) | refine wpList_stp (by kernel_rfl) (stp_val (run_lda _ _ rfl hS) ?_) | refine wpList_stp (by kernel_rfl) (stp_val (run_ld0 _ _ rfl hS) ?_) | refine wpList_stp (by kernel_rfl) (stp_val (run_lda0 _ _ rfl hS) ?_))) | (refine wpList_is (.store _ _ _) rfl ?_; go_must (first | refine wpList_stp (by kernel_rfl) (stp_st _ _ _ rfl hS ?_) | refine wpList_stp (by kernel_rfl) (stp_sta _ _ _ rfl hS ?_)); clear hS; intro w hS) | (refine wpList_is (.alloc _) rfl ?_; go_must (refine wpList_stp (by kernel_rfl) (stp_al _ rfl hS ?_)); clear hS; intro bN w hbN hS) | (refine wpList_is (.box _ _) rfl ?_; go_must (refine wpList_stp (by kernel_rfl) (stp_bx _ _ rfl hS ?_)); clear hS; intro bN w hbN hS) | (refine wpList_is (.binOp .eql _ _ (.const (.slice none _ _)) _) rfl ?_; refine wpList_stp (by kernel_rfl) (stp_val (run_nse _ _ _ rfl) ?_)) | (refine wpList_is (.binOp .neq _ _ (.const (.slice none _ _)) _) rfl ?_; refine wpList_stp (by kernel_rfl) (stp_val (run_nsn _ _ _ rfl) ?_)))
  have hS : St w0 bs w (⟨b, arR L.length ph (.slice (some ⟨g, 0, none⟩) vs.length cap) G, 77, true⟩ :: ⟨g, ovB vs sp, 81, true⟩ :: (Eh ++ (Z ++ H2))) := hS.pick
  refine region_depsE [⟨(undef, []), [(9, [], fun _ _ x => ∃ b', x = (.slice (some ⟨b', 0, none⟩) 0 0, [⟨b', #[], 81, true⟩])), (14, [], fun _ _ x => ∃ g' cap' sp', (vs.length ≤ cap' ∧ cap' ≤ maxLen ∧ vs.length + sp'.length = cap') ∧ x = (.slice (some ⟨g', 0, none⟩) vs.length cap', [⟨g', ovB vs sp', 81, true⟩])), (19, [8], fun z y x => ∃ q, (z.getD 0 default).1 = .pointer q ∧ x = (.agg (arR L.length q y.1 G), y.2)), (20, [], fun _ y x => ∃ cs b', y.1 = .agg cs ∧ x = (.pointer (some ⟨b', 0, none⟩), ⟨b', cs, 77, true⟩ :: y.2))]⟩,
      ⟨(undef, []), [(8, [], fun _ _ x => ∃ q, x.1 = .pointer q ∧ RH q (some (some L)) x.2)]⟩]
    (⟨b, arR L.length ph (.slice (some ⟨g, 0, none⟩) vs.length cap) G, 77, true⟩ :: ⟨g, ovB vs sp, 81, true⟩ :: (Eh ++ (Z ++ H2))) (⟨b, arR L.length ph (.slice (some ⟨g, 0, none⟩) vs.length cap) G, 77, true⟩ :: ⟨g, ovB vs sp, 81, true⟩ :: (Eh ++ (Z ++ H2))) (by simp) hS (by kernel_rfl) (by kernel_rfl) ?_
  refine dx_val (fun _ => rfl) rfl (fun χ w hw => run_mv _ rfl) ?_
  refine dx_val (fun _ => rfl) rfl (fun χ w hw => run_nc _ rfl) ?_
  refine dx_val (fun _ => rfl) rfl (fun χ w hw => run_fa _ _ _ rfl) ?_
  first | (refine dx_val (fun _ => rfl) rfl (fun χ w hw => run_ld _ _ rfl hw) ?_) | (refine dx_val (fun _ => rfl) rfl (fun χ w hw => run_ld0 _ _ rfl hw) ?_)
  refine dx_val (fun _ => rfl) rfl (fun χ w hw => run_mv _ rfl) ?_
  refine dx_val (fun _ => rfl) rfl (fun χ w hw => run_nc _ rfl) ?_
  refine dx_val (fun _ => rfl) rfl (fun χ w hw => run_fa _ _ _ rfl) ?_
  first | (refine dx_val (fun _ => rfl) rfl (fun χ w hw => run_ld _ _ rfl hw) ?_) | (refine dx_val (fun _ => rfl) rfl (fun χ w hw => run_ld0 _ _ rfl hw) ?_)
  refine dx_turn 1 0 rfl rfl (by kernel_rfl) (by kernel_rfl) (by kernel_rfl) (by kernel_rfl) 56 [_] _ rfl (fun _ => rfl) (enters _ (by kernel_rfl)) (fun x => x.1) ?_ ?_
  · intro χ X w _ hS
    exact rh_copy (show St w0 bs w (X ++ (_ :: _ :: (Eh ++ _))) from hS) hH (fun q E' w' h1 _ hS' => ⟨(.pointer q, E'), rfl, ⟨q, rfl, h1⟩, show St w0 bs w' (E' ++ (X ++ (⟨b, arR L.length ph (.slice (some ⟨g, 0, none⟩) vs.length cap) G, 77, true⟩ :: ⟨g, ovB vs sp, 81, true⟩ :: (Eh ++ (Z ++ H2))))) from hS'.pick⟩)
  refine dx_turn0 0 0 rfl rfl (by kernel_rfl) (by kernel_rfl) (by kernel_rfl) (by kernel_rfl) (fun _ => rfl) (fun x => x.1) ?_ ?_
  · intro χ X w _ hS
    exact stepX_to 15 rfl (by simp) (stp_bs0 _ rfl (show St w0 bs w (X ++ _) from hS) (fun b' w' _ hS' => ⟨_, rfl, (.slice (some ⟨b', 0, none⟩) 0 0, [⟨b', #[], 81, true⟩]), rfl, ⟨b', rfl⟩, hS'⟩))
  refine dx_val (fun _ => rfl) rfl (fun χ w hw => run_mv _ rfl) ?_
  refine dx_val (fun _ => rfl) rfl (fun χ w hw => run_nc _ rfl) ?_
  refine dx_val (fun _ => rfl) rfl (fun χ w hw => run_fa _ _ _ rfl) ?_
  first | (refine dx_val (fun _ => rfl) rfl (fun χ w hw => run_ld _ _ rfl hw) ?_) | (refine dx_val (fun _ => rfl) rfl (fun χ w hw => run_ld0 _ _ rfl hw) ?_)
  refine dx_turn0 0 1 rfl rfl (by kernel_rfl) (by kernel_rfl) (by kernel_rfl) (by kernel_rfl) (fun _ => rfl) (fun x => x.1) ?_ ?_
  · rintro χ X w ⟨⟨b', hb'⟩, _⟩ hS
    have hS : St w0 bs w ((χ 9).2 ++ (X ++ (⟨b, arR L.length ph (.slice (some ⟨g, 0, none⟩) vs.length cap) G, 77, true⟩ :: ⟨g, ovB vs sp, 81, true⟩ :: (Eh ++ (Z ++ H2))))) := hS
    rw [hb'] at hS
    simp only [List.cons_append, List.nil_append] at hS
    simp only [hb']
    refine stepX_to 20 rfl (by simp) (stp_ap (size := 1) (n := 0) (m := vs.length) _ _ _ _ rfl rfl hS (by rfl) (show Sl 81 1 _ 0 [] [_] from sl_zero) (by rfl) (by simp only [maxLen]; omega) (by omega) ?_)
    intro v' E' w' hsl' _ hS'
    rw [Nat.zero_add, List.nil_append] at hsl'
    obtain ⟨g2, cap2, sp2, rfl, rfl, hc1, hc2, hc3⟩ := Sl.some hsl' (by omega)
    have hc3 : vs.length + sp2.length = cap2 * 1 := hc3
    exact ⟨_, rfl, (.slice (some ⟨g2, 0, none⟩) vs.length cap2, [⟨g2, ovB vs sp2, 81, true⟩]), rfl, ⟨g2, cap2, sp2, ⟨hc1, hc2, by omega⟩, rfl⟩, hS'⟩
  refine dx_val (fun _ => rfl) rfl (fun χ w hw => run_mv _ rfl) ?_
  refine dx_val (fun _ => rfl) rfl (fun χ w hw => run_nc _ rfl) ?_
  refine dx_val (fun _ => rfl) rfl (fun χ w hw => run_fa _ _ _ rfl) ?_
  first | (refine dx_val (fun _ => rfl) rfl (fun χ w hw => run_lda _ _ rfl hw) ?_) | (refine dx_val (fun _ => rfl) rfl (fun χ w hw => run_lda0 _ _ rfl hw) ?_)
  refine dx_turnW 0 2 0 1 rfl rfl rfl (by kernel_rfl) (by kernel_rfl) (by kernel_rfl) (by kernel_rfl) (by kernel_rfl) (fun _ => rfl) (fun x => x.1) ?_ ?_
  · rintro χ X w ⟨_, ⟨g', cap', sp', _, hx⟩, _⟩ ⟨⟨q, hq, _⟩, _⟩ hS
    have hx : χ 14 = _ := hx
    have hq : (χ 8).1 = .pointer q := hq
    simp only [hx, hq]
    exact stepX_to 25 rfl (by simp) (stp_val (run_bd _ _ rfl) ⟨_, rfl, (.agg (arR L.length q (.slice (some ⟨g', 0, none⟩) vs.length cap') G), (χ 14).2), rfl, ⟨q, hq, by show _ = (Value.agg (arR L.length q (χ 14).1 G), (χ 14).2); rw [hx]⟩, hS⟩)
  refine dx_turn0 0 3 rfl rfl (by kernel_rfl) (by kernel_rfl) (by kernel_rfl) (by kernel_rfl) (fun _ => rfl) (fun x => x.1) ?_ ?_
  · rintro χ X w ⟨_, _, ⟨q, _, hx⟩, _⟩ hS
    have hx : χ 19 = (.agg (arR L.length q (χ 14).1 G), (χ 14).2) := hx
    have hS : St w0 bs w ((χ 19).2 ++ (X ++ (⟨b, arR L.length ph (.slice (some ⟨g, 0, none⟩) vs.length cap) G, 77, true⟩ :: ⟨g, ovB vs sp, 81, true⟩ :: (Eh ++ (Z ++ H2))))) := hS
    have hx1 : (χ 19).1 = .agg (arR L.length q (χ 14).1 G) := by rw [hx]
    simp only [hx1]
    exact stepX_to 26 rfl (by simp) (stp_bx _ _ rfl hS (fun b' w' _ hS' => ⟨_, rfl, (.pointer (some ⟨b', 0, none⟩), ⟨b', arR L.length q (χ 14).1 G, 77, true⟩ :: (χ 19).2), rfl, ⟨_, b', hx1, rfl⟩, hS'⟩))
  refine dx_gval (fun _ => rfl) rfl _ (supp_of (j := 20) (by kernel_rfl) (fun x => x.1)) (fun χ w hw => run_as _ rfl) ?_
  refine dx_end rfl ?_
  intro χ w hok hS
  obtain ⟨_, ⟨g', cap', sp', hb', hx⟩, ⟨q, hq, hy⟩, ⟨cs, bn, hz1, hz2⟩, _⟩ := hok _ (.head _)
  obtain ⟨⟨q', hq', hH2⟩, _⟩ := hok _ (.tail _ (.head _))
  have hx : χ 14 = _ := hx
  have hy : χ 19 = (.agg (arR L.length q (χ 14).1 G), (χ 14).2) := hy
  have hz1 : (χ 19).1 = .agg cs := hz1
  have hz2 : χ 20 = (.pointer (some ⟨bn, 0, none⟩), ⟨bn, cs, 77, true⟩ :: (χ 19).2) := hz2
  have hq : (χ 8).1 = .pointer q := hq
  have hq' : (χ 8).1 = .pointer q' := hq'
  have hH2 : RH q' (some (some L)) (χ 8).2 := hH2
  obtain rfl : q' = q := Value.pointer.inj (hq'.symm.trans hq)
  have hS : St w0 bs w (((χ 20).2 ++ ((χ 8).2 ++ [])) ++ (⟨b, arR L.length ph (.slice (some ⟨g, 0, none⟩) vs.length cap) G, 77, true⟩ :: ⟨g, ovB vs sp, 81, true⟩ :: (Eh ++ (Z ++ H2)))) := hS
  rw [hy] at hz1 hz2
  obtain rfl := Value.agg.inj hz1
  rw [hx] at hz2
  rw [hz2] at hS
  simp only [hz2]
  generalize (χ 8).2 = E8 at hS hH2
  clear hok hz1 hz2 hy hx hq hq'
  simp only [List.cons_append, List.nil_append, List.append_assoc, List.append_nil] at hS
  go_wp2_with (first | go_skip | go_skip | (refine wpList_is (.build _ _) rfl ?_; go_must (refine wpList_stp (by kernel_rfl) (stp_val (run_bd _ _ rfl) ?_))) | (refine wpList_is (.call { callee := .builtin .clear, args := #[_], argTypes := #[_] }) rfl ?_; go_must (refine wpList_stp (by kernel_rfl) (stp_cl _ _ rfl hS (by decide) ?_)); clear hS; intro w hS) | (refine wpList_is (.load _ _) rfl ?_; go_must (first | refine wpList_stp (by kernel_rfl) (stp_val (run_ld _ _ rfl hS) ?_) | refine wpList_stp (by kernel_rfl) (stp_val (run_lda _ _ rfl hS) ?_) | refine wpList_stp (by kernel_rfl) (stp_val (run_ld0 _ _ rfl hS) ?_) | refine wpList_stp (by kernel_rfl) (stp_val (run_lda0 _ _ rfl hS) ?_))) | (refine wpList_is (.store _ _ _) rfl ?_; go_must (first | refine wpList_stp (by kernel_rfl) (stp_st _ _ _ rfl hS ?_) | refine wpList_stp (by kernel_rfl) (stp_sta _ _ _ rfl hS ?_)); clear hS; intro w hS) | (refine wpList_is (.alloc _) rfl ?_; go_must (refine wpList_stp (by kernel_rfl) (stp_al _ rfl hS ?_)); clear hS; intro bN w hbN hS) | (refine wpList_is (.box _ _) rfl ?_; go_must (refine wpList_stp (by kernel_rfl) (stp_bx _ _ rfl hS ?_)); clear hS; intro bN w hbN hS) | (refine wpList_is (.binOp .eql _ _ (.const (.slice none _ _)) _) rfl ?_; refine wpList_stp (by kernel_rfl) (stp_val (run_nse _ _ _ rfl) ?_)) | (refine wpList_is (.binOp .neq _ _ (.const (.slice none _ _)) _) rfl ?_; refine wpList_stp (by kernel_rfl) (stp_val (run_nsn _ _ _ rfl) ?_)))
  exact hR'.out _ (_ :: _ :: E8) _ (hTn'.out bn q' E8 g' cap' sp' hb' hH2) (by simp only [List.cons_append]; exact hS.pick)
end Go.Proofs.YtjlihigodggfcaaGreat
