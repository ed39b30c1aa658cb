/-
  The document's heap: its contracts, second part.
-/
import Derived.Test.YtjlihigodggfcaaGreatRheap
set_option linter.unusedSimpArgs false
set_option linter.unusedVariables false
namespace Go.Proofs.YtjlihigodggfcaaGreat
open Go.RowKit Go.Mm
variable {R : Ending → World → Prop} {w : World} {w0 : World} {bs : List Nat} {H H' H1 E : List Ent}

set_option maxHeartbeats 1000000 in
set_option maxRecDepth 100000 in
theorem rh_new (hO : St w0 bs w H) (z g : Int) (hg : 0 ≤ g ∧ g ≤ 4294967295) (T : Hp) (e : Int) (hT0 : nwH z g = T) (he0 : nwE z g = e) (hR : ∀ p E w', RH p T E → St w0 bs w' (E ++ H) → Ret R (.tuple #[.pointer p, .int .i64 e]) w') :
    Calls Tryz.prog 26 #[.int .i64 z, .int .u32 g] w R := by
  have hS := hO
  subst hT0 he0
  clear hO
  cases hok : nwOk z g with
  | true =>
    have e2 : nwE z g = 0 := by unfold nwE; rw [hok]; rfl
    unfold nwH at hR
    rw [hok, e2] at hR
    simp only [if_true] at hR
    have hok' := hok
    simp only [nwOk, Bool.and_eq_true, decide_eq_true_eq] at hok'
    obtain ⟨⟨h1, h2⟩, h5⟩ := hok'
    have q1 : decide (z < 1) = false := decide_eq_false (by omega)
    have q2 : decide (256 < z) = false := decide_eq_false (by omega)
    have q3 : decide (g < 1) = false := decide_eq_false (by omega)
    obtain ⟨n, rfl⟩ := Int.eq_ofNat_of_zero_le (show 0 ≤ z by omega)
    rw [Int.toNat_natCast] at hR
    have hW : HpW (List.replicate n (0, g, zOb)) := ⟨by rw [List.length_replicate]; omega, by rw [List.length_replicate]; omega, by rw [tbH_rep]; exact TbW.rep (by omega) (by omega), fun x hx => by rw [(List.mem_replicate.1 hx).2]; exact zOb_w⟩
    have hW' := Lib.hid hW
    clear hok e2 hW
    go_enter Tryz.func26, Tryz.ntmps26
    go_wp2_with (first | (refine wpList_is (.box 113 _) rfl ?_; go_must (refine wpList_stp (by kernel_rfl) (stp_bx _ _ rfl hS ?_)); clear hS; intro b w _ hS) | (refine wpList_is (.build _ _) rfl ?_; go_must (refine wpList_stp (by kernel_rfl) (stp_val (run_bd _ _ rfl) ?_))))
    go_loopw [7] (fun u wr => ∃ (k : Nat) (v : Value) (E2 : List Ent), k ≤ n ∧ u = .int .i64 k ∧ Sl 115 13 v k ((List.replicate k ((0, g, zOb) : Hs)).flatMap hsf) E2 ∧ St w0 bs wr (⟨b, #[.bool true, v], 113, true⟩ :: (E2 ++ H))) (fun u _ => n - (intOf u).toNat)
    case atStart => exact ⟨0, _, [], Nat.zero_le _, rfl, sl_nil, hS⟩
    case round =>
      clear hS
      obtain ⟨k, v, E2, hk, rfl, hsl, hS⟩ := hrel
      have hone := hsl.one
      by_cases hlt : k < n
      · have hnext : (List.replicate (k + 1) ((0, g, zOb) : Hs)).flatMap hsf = (List.replicate k ((0, g, zOb) : Hs)).flatMap hsf ++ hsf (0, g, zOb) := by rw [List.replicate_succ', List.flatMap_append]; simp
        have hnext' := Lib.hid hnext
        have hc13 : CellsAt (hsf (0, g, zOb)).toArray 0 13 (hsf (0, g, zOb)).toArray := ⟨fun j hj => by simp, rfl⟩
        have hc1 : OneCells (hsf (0, g, zOb)).toArray := ⟨fun u hu => hsf_one _ u (by simpa using hu)⟩
        have hsz : SizeIs (hsf (0, g, zOb)).toArray 13 := ⟨rfl⟩
        have hfl : FlatOf [Value.agg (hsf (0, g, zOb)).toArray] (hsf (0, g, zOb)) := ⟨by simp [Value.cells]⟩
        clear hnext
        go_wp2_with (first | (refine wpList_is (.buildSlice _ _ _) rfl ?_; go_must (refine wpList_stp rfl (stp_bsl (size := 13) (e := 115) _ 1 [(0, _)] rfl hS (by decide) rfl (by decide) (by decide) ?_)); clear hS; intro bc w _ hS) | (refine wpList_is (.call { callee := .builtin .append, args := #[_, _], argTypes := #[_, _] }) rfl ?_; go_must (refine wpList_stp rfl (stp_ap _ _ _ _ rfl rfl hS (by rfl) hsl (by rfl) (by simp only [maxLen]; omega) (by omega) ?_)); clear hS; intro v' E' w hsl' hne hS; have hone' := hsl'.one) | (refine wpList_is (.build _ _) rfl ?_; go_must (refine wpList_stp (by kernel_rfl) (stp_val (run_bd _ _ rfl) ?_))) | (refine wpList_is (.load _ _) rfl ?_; go_must ((refine wpList_stp (by kernel_rfl) (stp_val (run_ld _ _ rfl hS) ?_)))) | (refine wpList_is (.store _ _ _) rfl ?_; go_must ((refine wpList_stp (by kernel_rfl) (stp_st _ _ _ rfl hS ?_))); clear hS; intro w hS))
        go_roundw
        case rel => exact ⟨k + 1, v', E', by omega, by go_num, by rw [hnext'.out]; exact hsl', hS.pick⟩
        case measure => simp [intOf]; omega
      · obtain rfl : k = n := by omega
        have hsl' := Lib.hid hsl
        clear hk hlt hsl
        go_wp2_with ((go_skip))
        obtain ⟨g', cap, sp, rfl, rfl, _⟩ := hsl'.out.some (by omega)
        refine hR _ [⟨b, #[.bool true, .slice (some ⟨g', 0, none⟩) (List.replicate k ((0, g, zOb) : Hs)).length cap], 113, true⟩, ⟨g', blk [] hsf (List.replicate k (0, g, zOb)) sp, 115, true⟩] _ ⟨hW'.out, b, g', cap, sp, rfl, rfl⟩ ?_
        rw [List.length_replicate]
        have hcell : ((List.replicate k ((0, g, zOb) : Hs)).flatMap hsf ++ sp).toArray = blk [] hsf (List.replicate k (0, g, zOb)) sp := by simp [blk]
        rw [hcell] at hS
        simp only [List.cons_append, List.nil_append] at hS ⊢
        exact hS
  | false =>
    have e2 : nwE z g = 2 := by unfold nwE; rw [hok]; rfl
    unfold nwH at hR
    rw [hok, e2] at hR
    have hno : ¬ nwOk z g = true := by rw [hok]; simp
    simp only [nwOk, Bool.and_eq_true, decide_eq_true_eq] at hno
    clear hok e2
    by_cases h1 : z < 1
    · have q1 : decide (z < 1) = true := decide_eq_true h1
      go_enter Tryz.func26, Tryz.ntmps26
      go_wp2_with ((go_skip))
      exact hR Option.none [] _ RH.none hS
    have q1 : decide (z < 1) = false := decide_eq_false h1
    by_cases h2 : 256 < z
    · have q2 : decide (256 < z) = true := decide_eq_true h2
      go_enter Tryz.func26, Tryz.ntmps26
      go_wp2_with ((go_skip))
      exact hR Option.none [] _ RH.none hS
    have q2 : decide (256 < z) = false := decide_eq_false h2
    have q3 : decide (g < 1) = true := decide_eq_true (by omega)
    go_enter Tryz.func26, Tryz.ntmps26
    go_wp2_with ((go_skip))
    exact hR Option.none [] _ RH.none hS.pick

set_option maxHeartbeats 1000000 in
set_option maxRecDepth 100000 in
theorem rh_copy {p : Option Addr} {T : Hp} (hO : St w0 bs w H) (hT : RH p T E) [hc : Cut H E H1]
    (hR : ∀ p' E' w', RH p' T E' → RH p T E → St w0 bs w' (E' ++ (E ++ H1)) → Ret R (.pointer p') w') : Calls Tryz.prog 56 #[.pointer p] w R := by
  have hS := hO.front (E := E) (H1 := H1)
  clear hO
  rcases T with _ | _ | L
  · go_enter Tryz.func56, Tryz.ntmps56
    go_wp2_with ((go_at_call 92; refine rh_valid hS hT false rfl ?_; clear hS; intro w hS; (try simp only [List.cons_append, List.nil_append] at hS); unfold Ret))
    exact hR _ [] _ RH.none hT hS.pick
  · exact hT.elim
  obtain ⟨hW, b, bl, cap, sp, rfl, rfl⟩ := id hT
  have hlo := hW.lo
  have hhi := hW.hi
  have hfl : (L.flatMap hsf).length = L.length * 13 := flat_len hsf_len L
  have i1 : CellsAt (blk [] hsf L sp) 0 (L.length * 13) (L.flatMap hsf).toArray := ⟨fun j hj => by simp [blk, List.getElem?_append_left, hfl, hj], by simp [hfl]⟩
  have i2 : OneCells (L.flatMap hsf).toArray := ⟨fun u hu => by
    simp only [List.mem_flatMap] at hu
    obtain ⟨x, _, hx⟩ := hu
    exact hsf_one x u hx⟩
  go_enter Tryz.func56, Tryz.ntmps56
  go_wp2_with (first | (go_at_call 92; refine rh_valid hS hT true rfl ?_; clear hS; intro w hS; (try simp only [List.cons_append, List.nil_append] at hS); unfold Ret) | (refine wpList_is (.buildSlice _ 0 _) rfl ?_; go_must (refine wpList_stp rfl (stp_bs0 _ rfl hS ?_)); clear hS; intro bz w _ hS) | (refine wpList_is (.call { callee := .builtin .append, args := #[_, _], argTypes := #[_, _] }) rfl ?_; go_must (refine wpList_stp rfl (stp_ap _ _ _ _ rfl rfl hS (by rfl) sl_zero (by rfl) (by simp only [maxLen]; omega) (by omega) ?_)); clear hS; intro v' E' w hsl' hne hS; obtain ⟨g', cap', sp', rfl, rfl, _⟩ := hsl'.some (by omega); rw [slCells] at hS; simp only [Nat.zero_add, List.cons_append, List.nil_append] at hS ⊢) | (refine wpList_is (.box 113 _) rfl ?_; go_must (refine wpList_stp (by kernel_rfl) (stp_bx _ _ rfl hS ?_)); clear hS; intro bn w _ hS) | (refine wpList_is (.build _ _) rfl ?_; go_must (refine wpList_stp (by kernel_rfl) (stp_val (run_bd _ _ rfl) ?_))) | (refine wpList_is (.load _ _) rfl ?_; go_must ((refine wpList_stp (by kernel_rfl) (stp_val (run_ld _ _ rfl hS) ?_)))))
  exact hR _ [⟨bn, #[.bool true, .slice (some ⟨g', 0, none⟩) L.length cap'], 113, true⟩, ⟨g', blk [] hsf L sp', 115, true⟩] _ ⟨hW, bn, g', cap', sp', rfl, rfl⟩ hT (by simp only [List.cons_append, List.nil_append]; exact hS.pick)

theorem set_at {L : List Hs} {b bl cap : Nat} {sp : List Value} (hO : St w0 bs w H) (hW : HpW L) [hc : Cut H [⟨b, #[.bool true, .slice (some ⟨bl, 0, none⟩) L.length cap], 113, true⟩, ⟨bl, blk [] hsf L sp, 115, true⟩] H1] {i : Nat} (hi : i < L.length) {s : Int} (hs : s = i) (y : Hs)
    (hR : ∀ bl' cap' sp' w', St w0 bs w' ([⟨b, #[.bool true, .slice (some ⟨bl', 0, none⟩) L.length cap'], 113, true⟩, ⟨bl', blk [] hsf (L.set i y) sp', 115, true⟩] ++ H1) → R (.returned (.tuple #[])) w') : Calls Tryz.prog 89 #[.pointer (some ⟨b, 0, none⟩), .int .i64 s, .agg (hsf y).toArray] w R := by
  subst hs; exact rh_set (bl := bl) (cap := cap) (sp := sp) hO hW hi y hR
set_option maxHeartbeats 1000000 in
set_option maxRecDepth 100000 in
theorem rh_free {p : Option Addr} {T : Hp} (hO : St w0 bs w H) (hT : RH p T E) [hc : Cut H E H1] (s g : Int) (hg : 0 ≤ g ∧ g ≤ 4294967295) (T' : Hp) (e : Int) (hT' : frT T s g = T') (he : wiH T s g = e)
    (hR : ∀ E' w', RH p T' E' → St w0 bs w' (E' ++ H1) → Ret R (.int .i64 e) w') : Calls Tryz.prog 39 #[.pointer p, .agg #[.int .i64 s, .int .u32 g]] w R := by
  have hS := hO.front (E := E) (H1 := H1)
  clear hO
  have he' := Lib.hid he
  by_cases h0 : e = 0
  case neg =>
    have hE2 : frT T s g = T := by unfold frT; rw [he, if_neg h0]
    rw [hE2] at hT'
    subst hT'
    have q : (e != 0) = true := by simpa using h0
    clear he hE2
    go_enter Tryz.func39, Tryz.ntmps39
    go_wp2_with (first | (refine wpList_is (.box 25 _) rfl ?_; go_must (refine wpList_stp (by kernel_rfl) (stp_bx _ _ rfl hS ?_)); clear hS; intro bo w _ hS) | (go_at_call 86; refine rh_check hS hT s g e he'.out ?_; clear hS; intro w _ hS; (try simp only [List.cons_append, List.nil_append] at hS); unfold Ret) | (refine wpList_is (.load _ _) rfl ?_; go_must ((refine wpList_stp (by kernel_rfl) (stp_val (run_lda _ _ rfl hS) ?_)))))
    exact hR _ _ hT hS.pick
  case pos =>
  subst h0
  obtain ⟨L, j, rfl, rfl, hj, hck, _, _, _⟩ := wi_zero he
  obtain ⟨hW, b, bl, cap, sp, rfl, rfl⟩ := id hT
  obtain ⟨hW2, _, _, hl2⟩ := frN_w hW hj hck
  have hT2 : T' = some (some (frN L j g)) := by rw [← hT']; unfold frT; rw [if_pos he, Int.toNat_natCast]; rfl
  subst hT2
  have hW2' := Lib.hid hW2
  have hW' := Lib.hid hW
  have hl2' := Lib.hid hl2
  obtain ⟨s, hs⟩ : ∃ s : Int, s = (j : Int) := ⟨_, rfl⟩
  rw [← hs] at he'
  show Calls Tryz.prog _ #[_, .agg #[.int .i64 ((j : Nat) : Int), .int .u32 g]] w R
  rw [← hs]
  have hs' := Lib.hid hs
  clear hT' he hW hW2 hl2 hck hs
  by_cases hm : g = 4294967295
  · have hfr : frN L j g = L.set j (2, g, zOb) := by unfold frN; rw [if_neg (by omega)]
    have q1 : (g == 4294967295) = true := by simp [hm]
    have q2 : decide (g = 4294967295) = true := decide_eq_true hm
    have hfr' := Lib.hid hfr
    clear hfr hm
    go_enter Tryz.func39, Tryz.ntmps39
    go_wp2_with (first | (refine wpList_is (.box 25 _) rfl ?_; go_must (refine wpList_stp (by kernel_rfl) (stp_bx _ _ rfl hS ?_)); clear hS; intro bo w _ hS) | (go_at_call 86; refine rh_check hS hT s g 0 he'.out ?_; clear hS; intro w _ hS; (try simp only [List.cons_append, List.nil_append] at hS); unfold Ret) | (go_at_call 89; go_must (refine set_at (i := j) (bl := bl) (cap := cap) (sp := sp) (H1 := ⟨bo, #[.int .i64 s, .int .u32 g], 25, true⟩ :: H1) (show St w0 bs w ([⟨b, #[.bool true, .slice (some ⟨bl, 0, none⟩) L.length cap], 113, true⟩, ⟨bl, blk [] hsf L sp, 115, true⟩] ++ (⟨bo, #[.int .i64 s, .int .u32 g], 25, true⟩ :: H1)) from by simp only [List.cons_append, List.nil_append]; exact hS.pick) hW'.out hj hs'.out (2, g, zOb) ?_); clear hS; intro bl2 cap2 sp2 w hS; simp only [List.cons_append, List.nil_append] at hS) | (refine wpList_is (.build _ _) rfl ?_; go_must (refine wpList_stp (by kernel_rfl) (stp_val (run_bd _ _ rfl) ?_))) | (refine wpList_is (.load _ _) rfl ?_; go_must (first | refine wpList_stp (by kernel_rfl) (stp_val (run_ld _ _ rfl hS) ?_) | refine wpList_stp (by kernel_rfl) (stp_val (run_lda _ _ rfl hS) ?_))))
    refine hR [⟨b, #[.bool true, .slice (some ⟨bl2, 0, none⟩) L.length cap2], 113, true⟩, ⟨bl2, blk [] hsf (L.set j (2, g, zOb)) sp2, 115, true⟩] _ ⟨hW2'.out, b, bl2, cap2, sp2, rfl, ?_⟩ (by simp only [List.cons_append, List.nil_append]; exact hS.pick)
    rw [hl2'.out, hfr'.out]
  · have hfr : frN L j g = L.set j (0, g + 1, zOb) := by unfold frN; rw [if_pos (by omega)]
    have q1 : (g == 4294967295) = false := beq_eq_false_iff_ne.2 hm
    have q2 : decide (g = 4294967295) = false := decide_eq_false hm
    have hfr' := Lib.hid hfr
    obtain ⟨g0, g1⟩ := hg
    have g2 : g + 1 ≤ 4294967295 := by omega
    clear hfr
    go_enter Tryz.func39, Tryz.ntmps39
    go_wp2_with (first | (refine wpList_is (.box 25 _) rfl ?_; go_must (refine wpList_stp (by kernel_rfl) (stp_bx _ _ rfl hS ?_)); clear hS; intro bo w _ hS) | (go_at_call 86; refine rh_check hS hT s g 0 he'.out ?_; clear hS; intro w _ hS; (try simp only [List.cons_append, List.nil_append] at hS); unfold Ret) | (go_at_call 89; go_must (refine set_at (i := j) (bl := bl) (cap := cap) (sp := sp) (H1 := ⟨bo, #[.int .i64 s, .int .u32 g], 25, true⟩ :: H1) (show St w0 bs w ([⟨b, #[.bool true, .slice (some ⟨bl, 0, none⟩) L.length cap], 113, true⟩, ⟨bl, blk [] hsf L sp, 115, true⟩] ++ (⟨bo, #[.int .i64 s, .int .u32 g], 25, true⟩ :: H1)) from by simp only [List.cons_append, List.nil_append]; exact hS.pick) hW'.out hj hs'.out (0, g + 1, zOb) ?_); clear hS; intro bl2 cap2 sp2 w hS; simp only [List.cons_append, List.nil_append] at hS) | (refine wpList_is (.build _ _) rfl ?_; go_must (refine wpList_stp (by kernel_rfl) (stp_val (run_bd _ _ rfl) ?_))) | (refine wpList_is (.load _ _) rfl ?_; go_must (first | refine wpList_stp (by kernel_rfl) (stp_val (run_ld _ _ rfl hS) ?_) | refine wpList_stp (by kernel_rfl) (stp_val (run_lda _ _ rfl hS) ?_))))
    refine hR [⟨b, #[.bool true, .slice (some ⟨bl2, 0, none⟩) L.length cap2], 113, true⟩, ⟨bl2, blk [] hsf (L.set j (0, g + 1, zOb)) sp2, 115, true⟩] _ ⟨hW2'.out, b, bl2, cap2, sp2, rfl, ?_⟩ (by simp only [List.cons_append, List.nil_append]; exact hS.pick)
    rw [hl2'.out, hfr'.out]
end Go.Proofs.YtjlihigodggfcaaGreat
