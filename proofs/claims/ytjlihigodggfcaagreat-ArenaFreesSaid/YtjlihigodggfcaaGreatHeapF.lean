/-
  Heaps: what a store does.
-/
import Derived.Test.YtjlihigodggfcaaGreatHeapE
set_option linter.unusedSimpArgs false
set_option linter.unusedVariables false
namespace Go.Proofs.YtjlihigodggfcaaGreat
open Go.RowKit Go.Mm
variable {R : Ending → World → Prop} {w : World} {w0 : World} {bs : List Nat} {H H' H1 E : List Ent}

def stE (T : Hp) (s g i : Int) (v : Int × Int) : Int :=
  if wiH T s g = 0 then (if gtOE (obAt T s) i = 0 then (if refB v.1 v.2 0 0 then 0 else wiH T v.1 v.2) else gtOE (obAt T s) i) else wiH T s g
def stR (T : Hp) (s g i : Int) (v : Int × Int) : Int × Int := if stE T s g i v = 0 then gtO (obAt T s) i else (0, 0)
def seN (L : List Hs) (j : Nat) (g : Int) (o : Ob) : List Hs := L.set j (1, g, o)
def stT (T : Hp) (s g i : Int) (v : Int × Int) : Hp := if stE T s g i v = 0 then some (some (seN (hpL T) s.toNat g (stO (obAt T s) i v))) else T
/-- The name of an object that is there is possible. -/
theorem wr_name {p : Option Addr} {T : Hp} (hT : HA p T E) {s g : Int} (h : wiH T s g = 0) : wrR (s, g) = false := by
  obtain ⟨L, j, rfl, rfl, hj, hck, _, h2, _⟩ := wi_zero h
  have hW := hT.1
  have hg := hW.tb.gn _ (getD_mem (L := tbH L) (i := j) (by rw [tbH_len]; exact hj))
  rw [tbH_get, h2] at hg
  have := hW.hi
  unfold wrR
  have d1 : decide ((j : Int) < 0) = false := decide_eq_false (by omega)
  have d2 : decide ((256 : Int) ≤ (j : Int)) = false := decide_eq_false (by omega)
  have d3 : decide (g < 1) = false := decide_eq_false (by simp only at hg; omega)
  simp [d1, d2, d3]
theorem seN_w {L : List Hs} (hW : HpW L) {j : Nat} {g : Int} {o : Ob} (hj : j < L.length) (hck : ckE (some (tbH L)) j g = 0) (ho : ObW o) : HpW (seN L j g o) ∧ tbH (seN L j g o) = tbH L ∧ padH (seN L j g o) = (padH L).set j o ∧ (seN L j g o).length = L.length := by
  have hx : (tbH L).getD j (0, 0) = (1, g) := by
    obtain ⟨k, hk, _, h⟩ := ck_zero hck
    rw [show j = k by omega]; exact h
  have hg := hW.tb.gn _ (getD_mem (L := tbH L) (i := j) (by rw [tbH_len]; exact hj))
  rw [hx] at hg
  refine ⟨hW.set (.inr (.inl rfl)) hg ho, ?_, (padH_set hj _).symm, by unfold seN; rw [List.length_set]⟩
  unfold seN
  rw [tbH_set]
  apply List.ext_getElem?
  intro k
  rw [List.getElem?_set]
  split
  · next e =>
    subst e
    have hl : j < (tbH L).length := by rw [tbH_len]; exact hj
    rw [if_pos hl, List.getElem?_eq_getElem hl]
    rw [List.getD_eq_getElem?_getD, List.getElem?_eq_getElem hl] at hx
    exact congrArg some hx.symm
  · rfl

set_option maxHeartbeats 1000000 in
theorem store11 {q : Value} (hO : St w0 bs w H) (hR : ∀ w', St w0 bs w' H → Ret R (.int .i64 0) w') : Calls Tryz.prog 104 #[q] w R := by
  have hS := hO
  clear hO
  go_enter Tryz.func104, Tryz.ntmps104
  go_wp2_with ((go_skip))
  exact hR _ hS.pick

theorem with_ok {L : List Hs} {j : Nat} {s g : Int} {b bt : Nat} {Et : List Ent} (hO : St w0 bs w H) (hW : HpW L) (hTt : TA (some ⟨bt, 0, none⟩) (some (tbH L)) Et)
    [hc : Cut H (⟨b, hpC (some ⟨bt, 0, none⟩) L.length (padH L), 104, true⟩ :: Et) H1] (hj : j < L.length) (hck : ckE (some (tbH L)) j g = 0) (hs : s = j)
    (hR : ∀ w', St w0 bs w' ((⟨b, hpC (some ⟨bt, 0, none⟩) L.length (padH L), 104, true⟩ :: Et) ++ H1) → Ret R (.int .i64 0) w') : Calls Tryz.prog 84 #[.pointer (some ⟨b, 0, none⟩), .agg #[.int .i64 s, .int .u32 g], .func (.func 104) #[] #[]] w R := by
  subst hs
  refine wh_do (L := L) hO hW hTt hj hck 104 [] 0 (fun x => x = ⟨b, hpC (some ⟨bt, 0, none⟩) L.length (padH L), 104, true⟩ :: (Et ++ H1)) (enters _ (by kernel_rfl)) (fun X w' hS => store11 hS (fun w'' hS'' => ⟨_, rfl, rfl, hS''⟩)) (fun x w' hx hS' => ?_)
  subst hx
  exact hR _ hS'
def DoPost (w0 : World) (bs : List Nat) (Y : List Ent) (v : Int) (Φ : List Ent → Prop) (e : Ending) (w : World) : Prop := ∃ x, e = .returned (.int .i64 v) ∧ Φ x ∧ St w0 bs w (x ++ Y)
set_option maxHeartbeats 2000000 in
set_option maxRecDepth 100000 in
/-- What the store's function does with an object that is there. -/
theorem store1 {L : List Hs} {j : Nat} {g i vs vg : Int} {b bt : Nat} {Et : List Ent} (hW : HpW L) (hTt : TA (some ⟨bt, 0, none⟩) (some (tbH L)) Et) (hj : j < L.length) (hck : ckE (some (tbH L)) j g = 0) (hvg : 0 ≤ vg ∧ vg ≤ 4294967295)
    (T' : Hp) (r : Int × Int) (e : Int) (hT' : stT (some (some L)) j g i (vs, vg) = T') (hr : stR (some (some L)) j g i (vs, vg) = r) (he : stE (some (some L)) j g i (vs, vg) = e) :
    ∀ (bi bv bd bu : Nat) (Z Y : List Ent) (Φ : List Ent → Prop) (hΦ : ∀ E', HA (some ⟨b, 0, none⟩) T' E' → Φ (E' ++ (⟨bu, #[.int .i64 r.1, .int .u32 r.2], 25, true⟩ :: ⟨bd, #[.pointer (some ⟨b, 0, none⟩)], 58, true⟩ :: ⟨bv, #[.int .i64 vs, .int .u32 vg], 25, true⟩ :: ⟨bi, #[.int .i64 i], 3, true⟩ :: Z))) w', St w0 bs w' ((⟨b, hpC (some ⟨bt, 0, none⟩) L.length (padH L), 104, true⟩ :: (Et ++ (⟨bu, #[.int .i64 0, .int .u32 0], 25, true⟩ :: ⟨bd, #[.pointer (some ⟨b, 0, none⟩)], 58, true⟩ :: ⟨bv, #[.int .i64 vs, .int .u32 vg], 25, true⟩ :: ⟨bi, #[.int .i64 i], 3, true⟩ :: Z))) ++ Y) →
      Calls Tryz.prog 102 #[.pointer (some ⟨b, 2 + j * 10, none⟩), .pointer (some ⟨bi, 0, none⟩), .pointer (some ⟨bv, 0, none⟩), .pointer (some ⟨bd, 0, none⟩), .pointer (some ⟨bu, 0, none⟩)] w' (DoPost w0 bs Y e Φ) := by
  intro bi bv bd bu Z Y Φ hΦ w hS
  simp only [List.cons_append, List.append_assoc] at hS
  have hT : HA (some ⟨b, 0, none⟩) (some (some L)) (⟨b, hpC (some ⟨bt, 0, none⟩) L.length (padH L), 104, true⟩ :: Et) := ⟨hW, b, bt, Et, rfl, hTt, rfl⟩
  have hwi : wiH (some (some L)) j g = 0 := hck
  obtain ⟨o, ho⟩ : ∃ o, (L.getD j zHs).2.2 = o := ⟨_, rfl⟩
  have hob : obAt (some (some L)) j = o := by unfold obAt; rw [Int.toNat_natCast]; exact ho
  have hoW : ObW o := by rw [← ho]; exact hW.at hj
  have hcell := hpOb (t := some ⟨bt, 0, none⟩) (z := L.length) (padH_get hj rfl) (show ObW (L.getD j zHs).2.2 by rw [ho]; exact hoW)
  rw [ho] at hcell
  obtain ⟨r0, hr0⟩ : ∃ r, gtO o i = r := ⟨_, rfl⟩
  have hr' := Lib.hid hr0
  cases hin : inF o i with
  | false =>
    have hg : gtOE o i = 3 := by unfold gtOE; rw [hin]; rfl
    have hr00 : gtO o i = (0, 0) := by unfold gtO; rw [hin]; rfl
    have hE : stE (some (some L)) j g i (vs, vg) = 3 := by unfold stE; rw [hwi, if_pos rfl, hob, hg, if_neg (by decide)]
    have hR2 : stR (some (some L)) j g i (vs, vg) = (0, 0) := by unfold stR; rw [hE, if_neg (by decide)]
    have hT2 : stT (some (some L)) j g i (vs, vg) = some (some L) := by unfold stT; rw [hE, if_neg (by decide)]
    rw [hE] at he
    rw [hR2] at hr
    rw [hT2] at hT'
    rw [hr00] at hr0
    subst he hr hT' hr0
    have hg' := Lib.hid hg
    clear hg hr00 hE hR2 hT2 hin ho hob hwi
    go_enter Tryz.func102, Tryz.ntmps102
    go_wp2_with ((go_skip))
    refine region_itemsE [⟨(undef, []), [(8, fun _ x => ∃ b7, x = (.pointer (some ⟨b7, 0, none⟩), [⟨b7, #[.int .i64 0, .int .u32 0], 25, true⟩])), (9, fun y x => ∃ b7, y.1 = .pointer (some ⟨b7, 0, none⟩) ∧ x.2 = [⟨b7, #[.int .i64 (((0, 0) : Int × Int)).1, .int .u32 (((0, 0) : Int × Int)).2], 25, true⟩])]⟩] (⟨b, hpC (some ⟨bt, 0, none⟩) L.length (padH L), 104, true⟩ :: (Et ++ (⟨bu, #[.int .i64 0, .int .u32 0], 25, true⟩ :: ⟨bd, #[.pointer (some ⟨b, 0, none⟩)], 58, true⟩ :: ⟨bv, #[.int .i64 vs, .int .u32 vg], 25, true⟩ :: ⟨bi, #[.int .i64 i], 3, true⟩ :: (Z ++ Y)))) (⟨b, hpC (some ⟨bt, 0, none⟩) L.length (padH L), 104, true⟩ :: (Et ++ (⟨bu, #[.int .i64 0, .int .u32 0], 25, true⟩ :: ⟨bd, #[.pointer (some ⟨b, 0, none⟩)], 58, true⟩ :: ⟨bv, #[.int .i64 vs, .int .u32 vg], 25, true⟩ :: ⟨bi, #[.int .i64 i], 3, true⟩ :: (Z ++ Y)))) (by simp) hS.pick (by kernel_rfl) (by kernel_rfl) ?_
    (refine fx_val (fun _ => rfl) rfl (fun χ w hw => run_mv _ rfl) ?_)
    (refine fx_val (fun _ => rfl) rfl (fun χ w hw => run_nc _ rfl) ?_)
    (refine fx_val (fun _ => rfl) rfl (fun χ w hw => run_lda _ _ rfl hw) ?_)
    (refine fx_val (fun _ => rfl) rfl (fun χ w hw => run_ld _ _ rfl hw) ?_)
    refine fx_ask 103 [_, _] _ rfl (fun _ => rfl) rfl (enters _ (by kernel_rfl)) (.tuple #[.agg #[.int .i64 (((0, 0) : Int × Int)).1, .int .u32 (((0, 0) : Int × Int)).2], .int .i64 3]) (fun X w hS => ob_get hS hoW i ((0, 0) : Int × Int) 3 hr'.out hg'.out (fun w' hS' => ⟨rfl, hS'⟩)) ?_
    (refine fx_val (fun _ => rfl) rfl (fun χ w hw => run_mv _ rfl) ?_)
    (refine fx_val (fun _ => rfl) rfl (fun χ w hw => run_ext _ _ rfl) ?_)
    (refine fx_val (fun _ => rfl) rfl (fun χ w hw => run_ext _ _ rfl) ?_)
    refine fx_turn0 0 0 rfl rfl (by (rfl)) (by (rfl)) (by (kernel_rfl)) (fun _ => rfl) (fun x => x.1) ?_ ?_
    · intro χ X w _ hS
      exact stepX_al _ rfl (show St w0 bs w (X ++ _) from hS) (fun b' w' _ hS' => ⟨(_, [_]), rfl, ⟨b', rfl⟩, hS'⟩)
    refine fx_turn0 0 1 rfl rfl (by (rfl)) (by (kernel_rfl)) (by (rfl)) (fun _ => rfl) (fun _ => undef) ?_ ?_
    · rintro χ X w ⟨⟨b7, hb⟩, _⟩ hS
      have hS : St w0 bs w ((χ 8).2 ++ (X ++ _)) := hS
      rw [hb] at hS
      have hS : St w0 bs w (⟨b7, #[.int .i64 0, .int .u32 0], 25, true⟩ :: (X ++ _)) := hS
      have hb1 : (χ 8).1 = .pointer (some ⟨b7, 0, none⟩) := by rw [hb]
      exact stepX_stb _ _ _ rfl hS hb1 (fun w' hS' => ⟨(undef, [⟨b7, #[.int .i64 (((0, 0) : Int × Int)).1, .int .u32 (((0, 0) : Int × Int)).2], 25, true⟩]), rfl, ⟨b7, hb1, rfl⟩, hS'⟩)
    (refine fx_val (fun _ => rfl) rfl (fun χ w hw => run_as _ rfl) ?_)
    refine fx_end rfl ?_
    intro χ w hok hS
    obtain ⟨⟨b7, hb⟩, ⟨b7', hb1, hb2⟩, _⟩ := hok _ (.head _)
    rw [hb] at hb1
    obtain ⟨⟩ := hb1
    have hS : St w0 bs w (((χ 9).2 ++ []) ++ (⟨b, hpC (some ⟨bt, 0, none⟩) L.length (padH L), 104, true⟩ :: (Et ++ (⟨bu, #[.int .i64 0, .int .u32 0], 25, true⟩ :: ⟨bd, #[.pointer (some ⟨b, 0, none⟩)], 58, true⟩ :: ⟨bv, #[.int .i64 vs, .int .u32 vg], 25, true⟩ :: ⟨bi, #[.int .i64 i], 3, true⟩ :: (Z ++ Y))))) := hS
    rw [hb2] at hS
    simp only [hb]
    simp only [List.cons_append, List.nil_append, List.append_nil] at hS
    clear hok hb2 hb
    go_wp2_with ((go_skip))
    refine bodyPost_ret (res_tmp1 rfl) rfl ?_
    refine ⟨_, rfl, hΦ _ hT, ?_⟩
    simp only [List.cons_append, List.append_assoc]
    exact hS.pick
  | true =>
    have hg : gtOE o i = 0 := by unfold gtOE; rw [hin]; rfl
    obtain ⟨ev, hev⟩ : ∃ ev, wiH (some (some L)) vs vg = ev := ⟨_, rfl⟩
    by_cases hbad : refB vs vg 0 0 = false ∧ ev ≠ 0
    · obtain ⟨hv0, hv1⟩ := hbad
      have hE : stE (some (some L)) j g i (vs, vg) = ev := by unfold stE; rw [hwi, if_pos rfl, hob, hg, if_pos rfl, hv0, if_neg (by decide)]; exact hev
      have hR2 : stR (some (some L)) j g i (vs, vg) = (0, 0) := by unfold stR; rw [hE, if_neg hv1]
      have hT2 : stT (some (some L)) j g i (vs, vg) = some (some L) := by unfold stT; rw [hE, if_neg hv1]
      rw [hE] at he
      rw [hR2] at hr
      rw [hT2] at hT'
      subst he hr hT'
      have hz := refE hv0
      have hg' := Lib.hid hg
      have hev' := Lib.hid hev
      have q : (ev != 0) = true := by simpa using hv1
      clear hg hE hR2 hT2 hin ho hob hwi hv0 hev hr0
      go_enter Tryz.func102, Tryz.ntmps102
      go_wp2_with ((go_skip))
      refine region_itemsE [⟨(undef, []), [(8, fun _ x => ∃ b7, x = (.pointer (some ⟨b7, 0, none⟩), [⟨b7, #[.int .i64 0, .int .u32 0], 25, true⟩])), (9, fun y x => ∃ b7, y.1 = .pointer (some ⟨b7, 0, none⟩) ∧ x.2 = [⟨b7, #[.int .i64 (r0).1, .int .u32 (r0).2], 25, true⟩])]⟩] (⟨b, hpC (some ⟨bt, 0, none⟩) L.length (padH L), 104, true⟩ :: (Et ++ (⟨bu, #[.int .i64 0, .int .u32 0], 25, true⟩ :: ⟨bd, #[.pointer (some ⟨b, 0, none⟩)], 58, true⟩ :: ⟨bv, #[.int .i64 vs, .int .u32 vg], 25, true⟩ :: ⟨bi, #[.int .i64 i], 3, true⟩ :: (Z ++ Y)))) (⟨b, hpC (some ⟨bt, 0, none⟩) L.length (padH L), 104, true⟩ :: (Et ++ (⟨bu, #[.int .i64 0, .int .u32 0], 25, true⟩ :: ⟨bd, #[.pointer (some ⟨b, 0, none⟩)], 58, true⟩ :: ⟨bv, #[.int .i64 vs, .int .u32 vg], 25, true⟩ :: ⟨bi, #[.int .i64 i], 3, true⟩ :: (Z ++ Y)))) (by simp) hS.pick (by kernel_rfl) (by kernel_rfl) ?_
      (refine fx_val (fun _ => rfl) rfl (fun χ w hw => run_mv _ rfl) ?_)
      (refine fx_val (fun _ => rfl) rfl (fun χ w hw => run_nc _ rfl) ?_)
      (refine fx_val (fun _ => rfl) rfl (fun χ w hw => run_lda _ _ rfl hw) ?_)
      (refine fx_val (fun _ => rfl) rfl (fun χ w hw => run_ld _ _ rfl hw) ?_)
      refine fx_ask 103 [_, _] _ rfl (fun _ => rfl) rfl (enters _ (by kernel_rfl)) (.tuple #[.agg #[.int .i64 (r0).1, .int .u32 (r0).2], .int .i64 0]) (fun X w hS => ob_get hS hoW i r0 0 hr'.out hg'.out (fun w' hS' => ⟨rfl, hS'⟩)) ?_
      (refine fx_val (fun _ => rfl) rfl (fun χ w hw => run_mv _ rfl) ?_)
      (refine fx_val (fun _ => rfl) rfl (fun χ w hw => run_ext _ _ rfl) ?_)
      (refine fx_val (fun _ => rfl) rfl (fun χ w hw => run_ext _ _ rfl) ?_)
      refine fx_turn0 0 0 rfl rfl (by (rfl)) (by (rfl)) (by (kernel_rfl)) (fun _ => rfl) (fun x => x.1) ?_ ?_
      · intro χ X w _ hS
        exact stepX_al _ rfl (show St w0 bs w (X ++ _) from hS) (fun b' w' _ hS' => ⟨(_, [_]), rfl, ⟨b', rfl⟩, hS'⟩)
      refine fx_turn0 0 1 rfl rfl (by (rfl)) (by (kernel_rfl)) (by (rfl)) (fun _ => rfl) (fun _ => undef) ?_ ?_
      · rintro χ X w ⟨⟨b7, hb⟩, _⟩ hS
        have hS : St w0 bs w ((χ 8).2 ++ (X ++ _)) := hS
        rw [hb] at hS
        have hS : St w0 bs w (⟨b7, #[.int .i64 0, .int .u32 0], 25, true⟩ :: (X ++ _)) := hS
        have hb1 : (χ 8).1 = .pointer (some ⟨b7, 0, none⟩) := by rw [hb]
        exact stepX_stb _ _ _ rfl hS hb1 (fun w' hS' => ⟨(undef, [⟨b7, #[.int .i64 (r0).1, .int .u32 (r0).2], 25, true⟩]), rfl, ⟨b7, hb1, rfl⟩, hS'⟩)
      (refine fx_val (fun _ => rfl) rfl (fun χ w hw => run_as _ rfl) ?_)
      refine fx_end rfl ?_
      intro χ w hok hS
      obtain ⟨⟨b7, hb⟩, ⟨b7', hb1, hb2⟩, _⟩ := hok _ (.head _)
      rw [hb] at hb1
      obtain ⟨⟩ := hb1
      have hS : St w0 bs w (((χ 9).2 ++ []) ++ (⟨b, hpC (some ⟨bt, 0, none⟩) L.length (padH L), 104, true⟩ :: (Et ++ (⟨bu, #[.int .i64 0, .int .u32 0], 25, true⟩ :: ⟨bd, #[.pointer (some ⟨b, 0, none⟩)], 58, true⟩ :: ⟨bv, #[.int .i64 vs, .int .u32 vg], 25, true⟩ :: ⟨bi, #[.int .i64 i], 3, true⟩ :: (Z ++ Y))))) := hS
      rw [hb2] at hS
      simp only [hb]
      simp only [List.cons_append, List.nil_append, List.append_nil] at hS
      clear hok hb2 hb
      go_wp2_with (first | (go_at_call 84; go_must (refine wh_err (show St w0 bs w ((⟨b, hpC (some ⟨bt, 0, none⟩) L.length (padH L), 104, true⟩ :: Et) ++ (⟨b7, #[.int .i64 r0.1, .int .u32 r0.2], 25, true⟩ :: ⟨bu, #[.int .i64 0, .int .u32 0], 25, true⟩ :: ⟨bd, #[.pointer (some ⟨b, 0, none⟩)], 58, true⟩ :: ⟨bv, #[.int .i64 vs, .int .u32 vg], 25, true⟩ :: ⟨bi, #[.int .i64 i], 3, true⟩ :: (Z ++ Y))) from by simp only [List.cons_append]; exact hS.pick) hT vs vg _ ev hev'.out hv1 ?_); clear hS; intro w _ hS; simp only [List.cons_append] at hS; unfold Ret) | (refine wpList_is (.binOp .neq _ _ _ _) rfl ?_; refine wpList_stp (by kernel_rfl) (stp_val (run_ane _ _ _ _ rfl) ?_)) | (refine wpList_is (.build _ _) rfl ?_; go_must (refine wpList_stp (by kernel_rfl) (stp_val (run_bd _ _ rfl) ?_))) | (refine wpList_is (.load _ _) rfl ?_; go_must (first | refine wpList_stp (by kernel_rfl) (stp_val (run_ld _ _ rfl hS) ?_) | refine wpList_stp (by kernel_rfl) (stp_val (run_lda _ _ rfl hS) ?_))))
      refine bodyPost_ret (res_tmp1 rfl) rfl ?_
      refine ⟨_, rfl, hΦ _ hT, ?_⟩
      simp only [List.cons_append, List.append_assoc]
      exact hS.pick
    · have hE : stE (some (some L)) j g i (vs, vg) = 0 := by
        unfold stE
        rw [hwi, if_pos rfl, hob, hg, if_pos rfl]
        cases hv0 : refB vs vg 0 0 with
        | true => rfl
        | false =>
          rw [if_neg (by decide)]
          show wiH (some (some L)) vs vg = 0
          rw [hev]
          exact Decidable.byContradiction fun h => hbad ⟨hv0, h⟩
      have hw : wrR (vs, vg) = false := by
        cases hv0 : refB vs vg 0 0 with
        | true =>
          unfold wrR nzR
          rw [hv0]; rfl
        | false =>
          refine wr_name hT ?_
          rw [hev]
          exact Decidable.byContradiction fun h => hbad ⟨hv0, h⟩
      obtain ⟨o', ho'⟩ : ∃ o', stO o i (vs, vg) = o' := ⟨_, rfl⟩
      have ho'W : ObW o' := by rw [← ho']; exact hoW.set hin hw hvg
      have hst1 : st1 o i (vs, vg) = o' := by unfold st1; rw [hin]; exact ho'
      have hR2 : stR (some (some L)) j g i (vs, vg) = r0 := by unfold stR; rw [hE, if_pos rfl, hob]; exact hr0
      have hT2 : stT (some (some L)) j g i (vs, vg) = some (some (seN L j g o')) := by unfold stT; rw [hE, if_pos rfl, hob, Int.toNat_natCast, ho']; rfl
      have hWN := seN_w hW hj hck ho'W
      have hset := hpObSet (t := some ⟨bt, 0, none⟩) (z := L.length) (O := padH L) (i := j) (by rw [padH_len hW.hi]; have := hW.hi; omega) ho'W
      rw [← hWN.2.2.1] at hset
      rw [hE] at he
      rw [hR2] at hr
      rw [hT2] at hT'
      subst he hr hT'
      have ho'e := Lib.hid hst1
      have hg' := Lib.hid hg
      have hWN' := Lib.hid hWN
      have hev0 : refB vs vg 0 0 = false → wiH (some (some L)) vs vg = 0 := fun h => by rw [hev]; exact Decidable.byContradiction fun q => hbad ⟨h, q⟩
      clear hg hE hR2 hT2 hin ho hob hwi hr0 hbad hev ho' hst1 hWN
      cases hv0 : refB vs vg 0 0 with
      | true =>
        have hz := refE hv0
        clear hv0 hev0
        go_enter Tryz.func102, Tryz.ntmps102
        go_wp2_with ((go_skip))
        refine region_itemsE [⟨(undef, []), [(8, fun _ x => ∃ b7, x = (.pointer (some ⟨b7, 0, none⟩), [⟨b7, #[.int .i64 0, .int .u32 0], 25, true⟩])), (9, fun y x => ∃ b7, y.1 = .pointer (some ⟨b7, 0, none⟩) ∧ x.2 = [⟨b7, #[.int .i64 (r0).1, .int .u32 (r0).2], 25, true⟩])]⟩] (⟨b, hpC (some ⟨bt, 0, none⟩) L.length (padH L), 104, true⟩ :: (Et ++ (⟨bu, #[.int .i64 0, .int .u32 0], 25, true⟩ :: ⟨bd, #[.pointer (some ⟨b, 0, none⟩)], 58, true⟩ :: ⟨bv, #[.int .i64 vs, .int .u32 vg], 25, true⟩ :: ⟨bi, #[.int .i64 i], 3, true⟩ :: (Z ++ Y)))) (⟨b, hpC (some ⟨bt, 0, none⟩) L.length (padH L), 104, true⟩ :: (Et ++ (⟨bu, #[.int .i64 0, .int .u32 0], 25, true⟩ :: ⟨bd, #[.pointer (some ⟨b, 0, none⟩)], 58, true⟩ :: ⟨bv, #[.int .i64 vs, .int .u32 vg], 25, true⟩ :: ⟨bi, #[.int .i64 i], 3, true⟩ :: (Z ++ Y)))) (by simp) hS.pick (by kernel_rfl) (by kernel_rfl) ?_
        (refine fx_val (fun _ => rfl) rfl (fun χ w hw => run_mv _ rfl) ?_)
        (refine fx_val (fun _ => rfl) rfl (fun χ w hw => run_nc _ rfl) ?_)
        (refine fx_val (fun _ => rfl) rfl (fun χ w hw => run_lda _ _ rfl hw) ?_)
        (refine fx_val (fun _ => rfl) rfl (fun χ w hw => run_ld _ _ rfl hw) ?_)
        refine fx_ask 103 [_, _] _ rfl (fun _ => rfl) rfl (enters _ (by kernel_rfl)) (.tuple #[.agg #[.int .i64 (r0).1, .int .u32 (r0).2], .int .i64 0]) (fun X w hS => ob_get hS hoW i r0 0 hr'.out hg'.out (fun w' hS' => ⟨rfl, hS'⟩)) ?_
        (refine fx_val (fun _ => rfl) rfl (fun χ w hw => run_mv _ rfl) ?_)
        (refine fx_val (fun _ => rfl) rfl (fun χ w hw => run_ext _ _ rfl) ?_)
        (refine fx_val (fun _ => rfl) rfl (fun χ w hw => run_ext _ _ rfl) ?_)
        refine fx_turn0 0 0 rfl rfl (by (rfl)) (by (rfl)) (by (kernel_rfl)) (fun _ => rfl) (fun x => x.1) ?_ ?_
        · intro χ X w _ hS
          exact stepX_al _ rfl (show St w0 bs w (X ++ _) from hS) (fun b' w' _ hS' => ⟨(_, [_]), rfl, ⟨b', rfl⟩, hS'⟩)
        refine fx_turn0 0 1 rfl rfl (by (rfl)) (by (kernel_rfl)) (by (rfl)) (fun _ => rfl) (fun _ => undef) ?_ ?_
        · rintro χ X w ⟨⟨b7, hb⟩, _⟩ hS
          have hS : St w0 bs w ((χ 8).2 ++ (X ++ _)) := hS
          rw [hb] at hS
          have hS : St w0 bs w (⟨b7, #[.int .i64 0, .int .u32 0], 25, true⟩ :: (X ++ _)) := hS
          have hb1 : (χ 8).1 = .pointer (some ⟨b7, 0, none⟩) := by rw [hb]
          exact stepX_stb _ _ _ rfl hS hb1 (fun w' hS' => ⟨(undef, [⟨b7, #[.int .i64 (r0).1, .int .u32 (r0).2], 25, true⟩]), rfl, ⟨b7, hb1, rfl⟩, hS'⟩)
        (refine fx_val (fun _ => rfl) rfl (fun χ w hw => run_as _ rfl) ?_)
        refine fx_end rfl ?_
        intro χ w hok hS
        obtain ⟨⟨b7, hb⟩, ⟨b7', hb1, hb2⟩, _⟩ := hok _ (.head _)
        rw [hb] at hb1
        obtain ⟨⟩ := hb1
        have hS : St w0 bs w (((χ 9).2 ++ []) ++ (⟨b, hpC (some ⟨bt, 0, none⟩) L.length (padH L), 104, true⟩ :: (Et ++ (⟨bu, #[.int .i64 0, .int .u32 0], 25, true⟩ :: ⟨bd, #[.pointer (some ⟨b, 0, none⟩)], 58, true⟩ :: ⟨bv, #[.int .i64 vs, .int .u32 vg], 25, true⟩ :: ⟨bi, #[.int .i64 i], 3, true⟩ :: (Z ++ Y))))) := hS
        rw [hb2] at hS
        simp only [hb]
        simp only [List.cons_append, List.nil_append, List.append_nil] at hS
        clear hok hb2 hb
        go_wp2_with (first | (refine wpList_is (.binOp .neq _ _ _ _) rfl ?_; refine wpList_stp (by kernel_rfl) (stp_val (run_ane _ _ _ _ rfl) ?_)) | (refine wpList_is (.build _ _) rfl ?_; go_must (refine wpList_stp (by kernel_rfl) (stp_val (run_bd _ _ rfl) ?_))) | (refine wpList_is (.load _ _) rfl ?_; go_must ((refine wpList_stp (by kernel_rfl) (stp_val (run_lda _ _ rfl hS) ?_)))))
        have hO4 := objOver (n := 0) (n' := o'.1) (h := false) (h' := o'.2.2) (F := zero4) rfl ho'W.len
        have hZ4 := objSize (n := o'.1) (h := o'.2.2) ho'W.len
        have hA4 := objAll (n := o'.1) (h := o'.2.2) ho'W.len
        refine region_itemsE [⟨(undef, []), [(10, fun _ x => ∃ b7, x = (.pointer (some ⟨b7, 0, none⟩), [⟨b7, objC 0 zero4 false, 39, true⟩])), (12, fun y x => ∃ b7, y.1 = .pointer (some ⟨b7, 0, none⟩) ∧ x.2 = [⟨b7, obC o', 39, true⟩])]⟩,
            ⟨(undef, []), [(11, fun _ x => ∃ b7, x = (.pointer (some ⟨b7, 0, none⟩), [⟨b7, #[.int .i64 0, .int .u32 0], 25, true⟩])), (13, fun y x => ∃ b7, y.1 = .pointer (some ⟨b7, 0, none⟩) ∧ x.2 = [⟨b7, #[.int .i64 r0.1, .int .u32 r0.2], 25, true⟩])]⟩] (⟨b, hpC (some ⟨bt, 0, none⟩) L.length (padH L), 104, true⟩ :: (Et ++ (⟨b7, #[.int .i64 r0.1, .int .u32 r0.2], 25, true⟩ :: ⟨bu, #[.int .i64 0, .int .u32 0], 25, true⟩ :: ⟨bd, #[.pointer (some ⟨b, 0, none⟩)], 58, true⟩ :: ⟨bv, #[.int .i64 vs, .int .u32 vg], 25, true⟩ :: ⟨bi, #[.int .i64 i], 3, true⟩ :: (Z ++ Y)))) (⟨b, hpC (some ⟨bt, 0, none⟩) L.length (padH L), 104, true⟩ :: (Et ++ (⟨b7, #[.int .i64 r0.1, .int .u32 r0.2], 25, true⟩ :: ⟨bu, #[.int .i64 0, .int .u32 0], 25, true⟩ :: ⟨bd, #[.pointer (some ⟨b, 0, none⟩)], 58, true⟩ :: ⟨bv, #[.int .i64 vs, .int .u32 vg], 25, true⟩ :: ⟨bi, #[.int .i64 i], 3, true⟩ :: (Z ++ Y)))) (by simp) hS.pick (by kernel_rfl) (by kernel_rfl) ?_
        (refine fx_val (fun _ => rfl) rfl (fun χ w hw => run_mv _ rfl) ?_)
        (refine fx_val (fun _ => rfl) rfl (fun χ w hw => run_nc _ rfl) ?_)
        (refine fx_val (fun _ => rfl) rfl (fun χ w hw => run_lda _ _ rfl hw) ?_)
        (refine fx_val (fun _ => rfl) rfl (fun χ w hw => run_ld _ _ rfl hw) ?_)
        (refine fx_val (fun _ => rfl) rfl (fun χ w hw => run_lda _ _ rfl hw) ?_)
        refine fx_ask 105 [_, _, _] _ rfl (fun _ => rfl) rfl (enters _ (by kernel_rfl)) (.tuple #[.agg (obC o'), .agg #[.int .i64 r0.1, .int .u32 r0.2], .int .i64 0]) (fun X w hS => ob_set hS hoW i vs vg hw hvg o' r0 0 ho'e.out hr'.out hg'.out (fun w' hS' => ⟨rfl, hS'⟩)) ?_
        (refine fx_val (fun _ => rfl) rfl (fun χ w hw => run_mv _ rfl) ?_)
        (refine fx_val (fun _ => rfl) rfl (fun χ w hw => run_ext _ _ rfl) ?_)
        (refine fx_val (fun _ => rfl) rfl (fun χ w hw => run_ext _ _ rfl) ?_)
        (refine fx_val (fun _ => rfl) rfl (fun χ w hw => run_ext _ _ rfl) ?_)
        refine fx_turn0 0 0 rfl rfl (by (rfl)) (by (rfl)) (by (kernel_rfl)) (fun _ => rfl) (fun x => x.1) ?_ ?_
        · intro χ X w _ hS
          exact stepX_al _ rfl (show St w0 bs w (X ++ _) from hS) (fun b' w' _ hS' => ⟨(_, [_]), rfl, ⟨b', rfl⟩, hS'⟩)
        refine fx_turn0 1 0 rfl rfl (by (rfl)) (by (rfl)) (by (kernel_rfl)) (fun _ => rfl) (fun x => x.1) ?_ ?_
        · intro χ X w _ hS
          exact stepX_al _ rfl (show St w0 bs w (X ++ _) from hS) (fun b' w' _ hS' => ⟨(_, [_]), rfl, ⟨b', rfl⟩, hS'⟩)
        refine fx_turn0 0 1 rfl rfl (by (rfl)) (by (kernel_rfl)) (by (rfl)) (fun _ => rfl) (fun _ => undef) ?_ ?_
        · rintro χ X w ⟨⟨b7, hb⟩, _⟩ hS
          have hS : St w0 bs w ((χ 10).2 ++ (X ++ _)) := hS
          rw [hb] at hS
          have hS : St w0 bs w (⟨b7, objC 0 zero4 false, 39, true⟩ :: (X ++ _)) := hS
          have hb1 : (χ 10).1 = .pointer (some ⟨b7, 0, none⟩) := by rw [hb]
          exact stepX_stb _ _ _ rfl hS hb1 (fun w' hS' => ⟨(undef, [⟨b7, obC o', 39, true⟩]), rfl, ⟨b7, hb1, rfl⟩, hS'⟩)
        refine fx_turn0 1 1 rfl rfl (by (rfl)) (by (kernel_rfl)) (by (rfl)) (fun _ => rfl) (fun _ => undef) ?_ ?_
        · rintro χ X w ⟨⟨b7, hb⟩, _⟩ hS
          have hS : St w0 bs w ((χ 11).2 ++ (X ++ _)) := hS
          rw [hb] at hS
          have hS : St w0 bs w (⟨b7, #[.int .i64 0, .int .u32 0], 25, true⟩ :: (X ++ _)) := hS
          have hb1 : (χ 11).1 = .pointer (some ⟨b7, 0, none⟩) := by rw [hb]
          exact stepX_stb _ _ _ rfl hS hb1 (fun w' hS' => ⟨(undef, [⟨b7, #[.int .i64 r0.1, .int .u32 r0.2], 25, true⟩]), rfl, ⟨b7, hb1, rfl⟩, hS'⟩)
        (refine fx_val (fun _ => rfl) rfl (fun χ w hw => run_as _ rfl) ?_)
        refine fx_end rfl ?_
        intro χ w hok hS
        obtain ⟨⟨b10, hb⟩, ⟨b10', hb1, hb2⟩, _⟩ := hok _ (.head _)
        rw [hb] at hb1
        obtain ⟨⟩ := hb1
        obtain ⟨⟨b11, hc⟩, ⟨b11', hc1, hc2⟩, _⟩ := hok _ (.tail _ (.head _))
        rw [hc] at hc1
        obtain ⟨⟩ := hc1
        have hS : St w0 bs w (((χ 12).2 ++ ((χ 13).2 ++ [])) ++ (⟨b, hpC (some ⟨bt, 0, none⟩) L.length (padH L), 104, true⟩ :: (Et ++ (⟨b7, #[.int .i64 r0.1, .int .u32 r0.2], 25, true⟩ :: ⟨bu, #[.int .i64 0, .int .u32 0], 25, true⟩ :: ⟨bd, #[.pointer (some ⟨b, 0, none⟩)], 58, true⟩ :: ⟨bv, #[.int .i64 vs, .int .u32 vg], 25, true⟩ :: ⟨bi, #[.int .i64 i], 3, true⟩ :: (Z ++ Y))))) := hS
        rw [hb2, hc2] at hS
        simp only [hb, hc]
        simp only [List.cons_append, List.nil_append, List.append_nil] at hS
        clear hok hb2 hb hc2 hc
        go_wp2_with ((go_skip))
        refine region_itemsE [⟨(undef, [⟨b, hpC (some ⟨bt, 0, none⟩) L.length (padH L), 104, true⟩]), [(4, fun _ y => y.2 = [⟨b, hpC (some ⟨bt, 0, none⟩) L.length (padH (seN L j g o')), 104, true⟩])]⟩, ⟨(undef, [⟨bu, #[.int .i64 0, .int .u32 0], 25, true⟩]), [(5, fun _ y => y.2 = [⟨bu, #[.int .i64 r0.1, .int .u32 r0.2], 25, true⟩])]⟩]
          (⟨b10, obC o', 39, true⟩ :: ⟨b11, #[.int .i64 r0.1, .int .u32 r0.2], 25, true⟩ :: (Et ++ (⟨b7, #[.int .i64 r0.1, .int .u32 r0.2], 25, true⟩ :: ⟨bd, #[.pointer (some ⟨b, 0, none⟩)], 58, true⟩ :: ⟨bv, #[.int .i64 vs, .int .u32 vg], 25, true⟩ :: ⟨bi, #[.int .i64 i], 3, true⟩ :: (Z ++ Y))))
          (⟨b, hpC (some ⟨bt, 0, none⟩) L.length (padH L), 104, true⟩ :: ⟨bu, #[.int .i64 0, .int .u32 0], 25, true⟩ :: ⟨b10, obC o', 39, true⟩ :: ⟨b11, #[.int .i64 r0.1, .int .u32 r0.2], 25, true⟩ :: (Et ++ (⟨b7, #[.int .i64 r0.1, .int .u32 r0.2], 25, true⟩ :: ⟨bd, #[.pointer (some ⟨b, 0, none⟩)], 58, true⟩ :: ⟨bv, #[.int .i64 vs, .int .u32 vg], 25, true⟩ :: ⟨bi, #[.int .i64 i], 3, true⟩ :: (Z ++ Y)))) (by simp) hS.pick (by kernel_rfl) (by kernel_rfl) ?_
        (refine fx_val (fun _ => rfl) rfl (fun χ w hw => run_mv _ rfl) ?_)
        (refine fx_val (fun _ => rfl) rfl (fun χ w hw => run_lda _ _ rfl hw) ?_)
        (refine fx_val (fun _ => rfl) rfl (fun χ w hw => run_lda _ _ rfl hw) ?_)
        (refine fx_val (fun _ => rfl) rfl (fun χ w hw => run_nc _ rfl) ?_)
        refine fx_turn0 0 0 rfl rfl (by (rfl)) (by (rfl)) (by (rfl)) (fun _ => rfl) (fun _ => undef) ?_ ?_
        · intro χ X w _ hS
          exact stepX_sta _ _ _ rfl (show St w0 bs w (⟨b, hpC (some ⟨bt, 0, none⟩) L.length (padH L), 104, true⟩ :: (X ++ _)) from hS) (fun w' hS' => ⟨(undef, [⟨b, hpC (some ⟨bt, 0, none⟩) L.length (padH (seN L j g o')), 104, true⟩]), rfl, rfl, hS'⟩)
        refine fx_turn0 1 0 rfl rfl (by (rfl)) (by (rfl)) (by (rfl)) (fun _ => rfl) (fun _ => undef) ?_ ?_
        · intro χ X w _ hS
          exact stepX_sta _ _ _ rfl (show St w0 bs w (⟨bu, #[.int .i64 0, .int .u32 0], 25, true⟩ :: (X ++ _)) from hS) (fun w' hS' => ⟨(undef, [⟨bu, #[.int .i64 r0.1, .int .u32 r0.2], 25, true⟩]), rfl, rfl, hS'⟩)
        refine fx_end rfl ?_
        intro χ w hok hS
        obtain ⟨h1, _⟩ := hok _ (.head _)
        obtain ⟨h2, _⟩ := hok _ (.tail _ (.head _))
        have hS : St w0 bs w (((χ 4).2 ++ ((χ 5).2 ++ [])) ++ (⟨b10, obC o', 39, true⟩ :: ⟨b11, #[.int .i64 r0.1, .int .u32 r0.2], 25, true⟩ :: (Et ++ (⟨b7, #[.int .i64 r0.1, .int .u32 r0.2], 25, true⟩ :: ⟨bd, #[.pointer (some ⟨b, 0, none⟩)], 58, true⟩ :: ⟨bv, #[.int .i64 vs, .int .u32 vg], 25, true⟩ :: ⟨bi, #[.int .i64 i], 3, true⟩ :: (Z ++ Y))))) := hS
        rw [h1, h2] at hS
        simp only [List.cons_append, List.nil_append, List.append_nil] at hS
        clear hok h1 h2
        go_wp2_with ((go_skip))
        refine bodyPost_ret (res_tmp1 rfl) rfl ?_
        refine ⟨_, rfl, hΦ (⟨b, hpC (some ⟨bt, 0, none⟩) L.length (padH (seN L j g o')), 104, true⟩ :: Et) ⟨hWN'.out.1, b, bt, Et, rfl, by rw [hWN'.out.2.1]; exact hTt, by rw [hWN'.out.2.2.2]⟩, ?_⟩
        simp only [List.cons_append, List.append_assoc]
        exact hS.pick
      | false =>
        have hz := refE hv0
        obtain ⟨L2, k, hL2, hk1, hk, hckk, _, _, _⟩ := wi_zero (hev0 hv0)
        obtain ⟨⟩ := hL2
        have hk1' := Lib.hid hk1
        clear hv0 hev0 hk1
        go_enter Tryz.func102, Tryz.ntmps102
        go_wp2_with ((go_skip))
        refine region_itemsE [⟨(undef, []), [(8, fun _ x => ∃ b7, x = (.pointer (some ⟨b7, 0, none⟩), [⟨b7, #[.int .i64 0, .int .u32 0], 25, true⟩])), (9, fun y x => ∃ b7, y.1 = .pointer (some ⟨b7, 0, none⟩) ∧ x.2 = [⟨b7, #[.int .i64 (r0).1, .int .u32 (r0).2], 25, true⟩])]⟩] (⟨b, hpC (some ⟨bt, 0, none⟩) L.length (padH L), 104, true⟩ :: (Et ++ (⟨bu, #[.int .i64 0, .int .u32 0], 25, true⟩ :: ⟨bd, #[.pointer (some ⟨b, 0, none⟩)], 58, true⟩ :: ⟨bv, #[.int .i64 vs, .int .u32 vg], 25, true⟩ :: ⟨bi, #[.int .i64 i], 3, true⟩ :: (Z ++ Y)))) (⟨b, hpC (some ⟨bt, 0, none⟩) L.length (padH L), 104, true⟩ :: (Et ++ (⟨bu, #[.int .i64 0, .int .u32 0], 25, true⟩ :: ⟨bd, #[.pointer (some ⟨b, 0, none⟩)], 58, true⟩ :: ⟨bv, #[.int .i64 vs, .int .u32 vg], 25, true⟩ :: ⟨bi, #[.int .i64 i], 3, true⟩ :: (Z ++ Y)))) (by simp) hS.pick (by kernel_rfl) (by kernel_rfl) ?_
        (refine fx_val (fun _ => rfl) rfl (fun χ w hw => run_mv _ rfl) ?_)
        (refine fx_val (fun _ => rfl) rfl (fun χ w hw => run_nc _ rfl) ?_)
        (refine fx_val (fun _ => rfl) rfl (fun χ w hw => run_lda _ _ rfl hw) ?_)
        (refine fx_val (fun _ => rfl) rfl (fun χ w hw => run_ld _ _ rfl hw) ?_)
        refine fx_ask 103 [_, _] _ rfl (fun _ => rfl) rfl (enters _ (by kernel_rfl)) (.tuple #[.agg #[.int .i64 (r0).1, .int .u32 (r0).2], .int .i64 0]) (fun X w hS => ob_get hS hoW i r0 0 hr'.out hg'.out (fun w' hS' => ⟨rfl, hS'⟩)) ?_
        (refine fx_val (fun _ => rfl) rfl (fun χ w hw => run_mv _ rfl) ?_)
        (refine fx_val (fun _ => rfl) rfl (fun χ w hw => run_ext _ _ rfl) ?_)
        (refine fx_val (fun _ => rfl) rfl (fun χ w hw => run_ext _ _ rfl) ?_)
        refine fx_turn0 0 0 rfl rfl (by (rfl)) (by (rfl)) (by (kernel_rfl)) (fun _ => rfl) (fun x => x.1) ?_ ?_
        · intro χ X w _ hS
          exact stepX_al _ rfl (show St w0 bs w (X ++ _) from hS) (fun b' w' _ hS' => ⟨(_, [_]), rfl, ⟨b', rfl⟩, hS'⟩)
        refine fx_turn0 0 1 rfl rfl (by (rfl)) (by (kernel_rfl)) (by (rfl)) (fun _ => rfl) (fun _ => undef) ?_ ?_
        · rintro χ X w ⟨⟨b7, hb⟩, _⟩ hS
          have hS : St w0 bs w ((χ 8).2 ++ (X ++ _)) := hS
          rw [hb] at hS
          have hS : St w0 bs w (⟨b7, #[.int .i64 0, .int .u32 0], 25, true⟩ :: (X ++ _)) := hS
          have hb1 : (χ 8).1 = .pointer (some ⟨b7, 0, none⟩) := by rw [hb]
          exact stepX_stb _ _ _ rfl hS hb1 (fun w' hS' => ⟨(undef, [⟨b7, #[.int .i64 (r0).1, .int .u32 (r0).2], 25, true⟩]), rfl, ⟨b7, hb1, rfl⟩, hS'⟩)
        (refine fx_val (fun _ => rfl) rfl (fun χ w hw => run_as _ rfl) ?_)
        refine fx_end rfl ?_
        intro χ w hok hS
        obtain ⟨⟨b7, hb⟩, ⟨b7', hb1, hb2⟩, _⟩ := hok _ (.head _)
        rw [hb] at hb1
        obtain ⟨⟩ := hb1
        have hS : St w0 bs w (((χ 9).2 ++ []) ++ (⟨b, hpC (some ⟨bt, 0, none⟩) L.length (padH L), 104, true⟩ :: (Et ++ (⟨bu, #[.int .i64 0, .int .u32 0], 25, true⟩ :: ⟨bd, #[.pointer (some ⟨b, 0, none⟩)], 58, true⟩ :: ⟨bv, #[.int .i64 vs, .int .u32 vg], 25, true⟩ :: ⟨bi, #[.int .i64 i], 3, true⟩ :: (Z ++ Y))))) := hS
        rw [hb2] at hS
        simp only [hb]
        simp only [List.cons_append, List.nil_append, List.append_nil] at hS
        clear hok hb2 hb
        go_wp2_with (first | (go_at_call 84; go_must (refine with_ok (L := L) (j := k) (show St w0 bs w ((⟨b, hpC (some ⟨bt, 0, none⟩) L.length (padH L), 104, true⟩ :: Et) ++ (⟨b7, #[.int .i64 r0.1, .int .u32 r0.2], 25, true⟩ :: ⟨bu, #[.int .i64 0, .int .u32 0], 25, true⟩ :: ⟨bd, #[.pointer (some ⟨b, 0, none⟩)], 58, true⟩ :: ⟨bv, #[.int .i64 vs, .int .u32 vg], 25, true⟩ :: ⟨bi, #[.int .i64 i], 3, true⟩ :: (Z ++ Y))) from by simp only [List.cons_append]; exact hS.pick) hW hTt hk hckk hk1'.out ?_); clear hS; intro w hS; simp only [List.cons_append] at hS; unfold Ret) | (refine wpList_is (.binOp .neq _ _ _ _) rfl ?_; refine wpList_stp (by kernel_rfl) (stp_val (run_ane _ _ _ _ rfl) ?_)) | (refine wpList_is (.build _ _) rfl ?_; go_must (refine wpList_stp (by kernel_rfl) (stp_val (run_bd _ _ rfl) ?_))) | (refine wpList_is (.load _ _) rfl ?_; go_must (first | refine wpList_stp (by kernel_rfl) (stp_val (run_ld _ _ rfl hS) ?_) | refine wpList_stp (by kernel_rfl) (stp_val (run_lda _ _ rfl hS) ?_))))
        have hO4 := objOver (n := 0) (n' := o'.1) (h := false) (h' := o'.2.2) (F := zero4) rfl ho'W.len
        have hZ4 := objSize (n := o'.1) (h := o'.2.2) ho'W.len
        have hA4 := objAll (n := o'.1) (h := o'.2.2) ho'W.len
        refine region_itemsE [⟨(undef, []), [(10, fun _ x => ∃ b7, x = (.pointer (some ⟨b7, 0, none⟩), [⟨b7, objC 0 zero4 false, 39, true⟩])), (12, fun y x => ∃ b7, y.1 = .pointer (some ⟨b7, 0, none⟩) ∧ x.2 = [⟨b7, obC o', 39, true⟩])]⟩,
            ⟨(undef, []), [(11, fun _ x => ∃ b7, x = (.pointer (some ⟨b7, 0, none⟩), [⟨b7, #[.int .i64 0, .int .u32 0], 25, true⟩])), (13, fun y x => ∃ b7, y.1 = .pointer (some ⟨b7, 0, none⟩) ∧ x.2 = [⟨b7, #[.int .i64 r0.1, .int .u32 r0.2], 25, true⟩])]⟩] (⟨b, hpC (some ⟨bt, 0, none⟩) L.length (padH L), 104, true⟩ :: (Et ++ (⟨b7, #[.int .i64 r0.1, .int .u32 r0.2], 25, true⟩ :: ⟨bu, #[.int .i64 0, .int .u32 0], 25, true⟩ :: ⟨bd, #[.pointer (some ⟨b, 0, none⟩)], 58, true⟩ :: ⟨bv, #[.int .i64 vs, .int .u32 vg], 25, true⟩ :: ⟨bi, #[.int .i64 i], 3, true⟩ :: (Z ++ Y)))) (⟨b, hpC (some ⟨bt, 0, none⟩) L.length (padH L), 104, true⟩ :: (Et ++ (⟨b7, #[.int .i64 r0.1, .int .u32 r0.2], 25, true⟩ :: ⟨bu, #[.int .i64 0, .int .u32 0], 25, true⟩ :: ⟨bd, #[.pointer (some ⟨b, 0, none⟩)], 58, true⟩ :: ⟨bv, #[.int .i64 vs, .int .u32 vg], 25, true⟩ :: ⟨bi, #[.int .i64 i], 3, true⟩ :: (Z ++ Y)))) (by simp) hS.pick (by kernel_rfl) (by kernel_rfl) ?_
        (refine fx_val (fun _ => rfl) rfl (fun χ w hw => run_mv _ rfl) ?_)
        (refine fx_val (fun _ => rfl) rfl (fun χ w hw => run_nc _ rfl) ?_)
        (refine fx_val (fun _ => rfl) rfl (fun χ w hw => run_lda _ _ rfl hw) ?_)
        (refine fx_val (fun _ => rfl) rfl (fun χ w hw => run_ld _ _ rfl hw) ?_)
        (refine fx_val (fun _ => rfl) rfl (fun χ w hw => run_lda _ _ rfl hw) ?_)
        refine fx_ask 105 [_, _, _] _ rfl (fun _ => rfl) rfl (enters _ (by kernel_rfl)) (.tuple #[.agg (obC o'), .agg #[.int .i64 r0.1, .int .u32 r0.2], .int .i64 0]) (fun X w hS => ob_set hS hoW i vs vg hw hvg o' r0 0 ho'e.out hr'.out hg'.out (fun w' hS' => ⟨rfl, hS'⟩)) ?_
        (refine fx_val (fun _ => rfl) rfl (fun χ w hw => run_mv _ rfl) ?_)
        (refine fx_val (fun _ => rfl) rfl (fun χ w hw => run_ext _ _ rfl) ?_)
        (refine fx_val (fun _ => rfl) rfl (fun χ w hw => run_ext _ _ rfl) ?_)
        (refine fx_val (fun _ => rfl) rfl (fun χ w hw => run_ext _ _ rfl) ?_)
        refine fx_turn0 0 0 rfl rfl (by (rfl)) (by (rfl)) (by (kernel_rfl)) (fun _ => rfl) (fun x => x.1) ?_ ?_
        · intro χ X w _ hS
          exact stepX_al _ rfl (show St w0 bs w (X ++ _) from hS) (fun b' w' _ hS' => ⟨(_, [_]), rfl, ⟨b', rfl⟩, hS'⟩)
        refine fx_turn0 1 0 rfl rfl (by (rfl)) (by (rfl)) (by (kernel_rfl)) (fun _ => rfl) (fun x => x.1) ?_ ?_
        · intro χ X w _ hS
          exact stepX_al _ rfl (show St w0 bs w (X ++ _) from hS) (fun b' w' _ hS' => ⟨(_, [_]), rfl, ⟨b', rfl⟩, hS'⟩)
        refine fx_turn0 0 1 rfl rfl (by (rfl)) (by (kernel_rfl)) (by (rfl)) (fun _ => rfl) (fun _ => undef) ?_ ?_
        · rintro χ X w ⟨⟨b7, hb⟩, _⟩ hS
          have hS : St w0 bs w ((χ 10).2 ++ (X ++ _)) := hS
          rw [hb] at hS
          have hS : St w0 bs w (⟨b7, objC 0 zero4 false, 39, true⟩ :: (X ++ _)) := hS
          have hb1 : (χ 10).1 = .pointer (some ⟨b7, 0, none⟩) := by rw [hb]
          exact stepX_stb _ _ _ rfl hS hb1 (fun w' hS' => ⟨(undef, [⟨b7, obC o', 39, true⟩]), rfl, ⟨b7, hb1, rfl⟩, hS'⟩)
        refine fx_turn0 1 1 rfl rfl (by (rfl)) (by (kernel_rfl)) (by (rfl)) (fun _ => rfl) (fun _ => undef) ?_ ?_
        · rintro χ X w ⟨⟨b7, hb⟩, _⟩ hS
          have hS : St w0 bs w ((χ 11).2 ++ (X ++ _)) := hS
          rw [hb] at hS
          have hS : St w0 bs w (⟨b7, #[.int .i64 0, .int .u32 0], 25, true⟩ :: (X ++ _)) := hS
          have hb1 : (χ 11).1 = .pointer (some ⟨b7, 0, none⟩) := by rw [hb]
          exact stepX_stb _ _ _ rfl hS hb1 (fun w' hS' => ⟨(undef, [⟨b7, #[.int .i64 r0.1, .int .u32 r0.2], 25, true⟩]), rfl, ⟨b7, hb1, rfl⟩, hS'⟩)
        (refine fx_val (fun _ => rfl) rfl (fun χ w hw => run_as _ rfl) ?_)
        refine fx_end rfl ?_
        intro χ w hok hS
        obtain ⟨⟨b10, hb⟩, ⟨b10', hb1, hb2⟩, _⟩ := hok _ (.head _)
        rw [hb] at hb1
        obtain ⟨⟩ := hb1
        obtain ⟨⟨b11, hc⟩, ⟨b11', hc1, hc2⟩, _⟩ := hok _ (.tail _ (.head _))
        rw [hc] at hc1
        obtain ⟨⟩ := hc1
        have hS : St w0 bs w (((χ 12).2 ++ ((χ 13).2 ++ [])) ++ (⟨b, hpC (some ⟨bt, 0, none⟩) L.length (padH L), 104, true⟩ :: (Et ++ (⟨b7, #[.int .i64 r0.1, .int .u32 r0.2], 25, true⟩ :: ⟨bu, #[.int .i64 0, .int .u32 0], 25, true⟩ :: ⟨bd, #[.pointer (some ⟨b, 0, none⟩)], 58, true⟩ :: ⟨bv, #[.int .i64 vs, .int .u32 vg], 25, true⟩ :: ⟨bi, #[.int .i64 i], 3, true⟩ :: (Z ++ Y))))) := hS
        rw [hb2, hc2] at hS
        simp only [hb, hc]
        simp only [List.cons_append, List.nil_append, List.append_nil] at hS
        clear hok hb2 hb hc2 hc
        go_wp2_with ((go_skip))
        refine region_itemsE [⟨(undef, [⟨b, hpC (some ⟨bt, 0, none⟩) L.length (padH L), 104, true⟩]), [(4, fun _ y => y.2 = [⟨b, hpC (some ⟨bt, 0, none⟩) L.length (padH (seN L j g o')), 104, true⟩])]⟩, ⟨(undef, [⟨bu, #[.int .i64 0, .int .u32 0], 25, true⟩]), [(5, fun _ y => y.2 = [⟨bu, #[.int .i64 r0.1, .int .u32 r0.2], 25, true⟩])]⟩]
          (⟨b10, obC o', 39, true⟩ :: ⟨b11, #[.int .i64 r0.1, .int .u32 r0.2], 25, true⟩ :: (Et ++ (⟨b7, #[.int .i64 r0.1, .int .u32 r0.2], 25, true⟩ :: ⟨bd, #[.pointer (some ⟨b, 0, none⟩)], 58, true⟩ :: ⟨bv, #[.int .i64 vs, .int .u32 vg], 25, true⟩ :: ⟨bi, #[.int .i64 i], 3, true⟩ :: (Z ++ Y))))
          (⟨b, hpC (some ⟨bt, 0, none⟩) L.length (padH L), 104, true⟩ :: ⟨bu, #[.int .i64 0, .int .u32 0], 25, true⟩ :: ⟨b10, obC o', 39, true⟩ :: ⟨b11, #[.int .i64 r0.1, .int .u32 r0.2], 25, true⟩ :: (Et ++ (⟨b7, #[.int .i64 r0.1, .int .u32 r0.2], 25, true⟩ :: ⟨bd, #[.pointer (some ⟨b, 0, none⟩)], 58, true⟩ :: ⟨bv, #[.int .i64 vs, .int .u32 vg], 25, true⟩ :: ⟨bi, #[.int .i64 i], 3, true⟩ :: (Z ++ Y)))) (by simp) hS.pick (by kernel_rfl) (by kernel_rfl) ?_
        (refine fx_val (fun _ => rfl) rfl (fun χ w hw => run_mv _ rfl) ?_)
        (refine fx_val (fun _ => rfl) rfl (fun χ w hw => run_lda _ _ rfl hw) ?_)
        (refine fx_val (fun _ => rfl) rfl (fun χ w hw => run_lda _ _ rfl hw) ?_)
        (refine fx_val (fun _ => rfl) rfl (fun χ w hw => run_nc _ rfl) ?_)
        refine fx_turn0 0 0 rfl rfl (by (rfl)) (by (rfl)) (by (rfl)) (fun _ => rfl) (fun _ => undef) ?_ ?_
        · intro χ X w _ hS
          exact stepX_sta _ _ _ rfl (show St w0 bs w (⟨b, hpC (some ⟨bt, 0, none⟩) L.length (padH L), 104, true⟩ :: (X ++ _)) from hS) (fun w' hS' => ⟨(undef, [⟨b, hpC (some ⟨bt, 0, none⟩) L.length (padH (seN L j g o')), 104, true⟩]), rfl, rfl, hS'⟩)
        refine fx_turn0 1 0 rfl rfl (by (rfl)) (by (rfl)) (by (rfl)) (fun _ => rfl) (fun _ => undef) ?_ ?_
        · intro χ X w _ hS
          exact stepX_sta _ _ _ rfl (show St w0 bs w (⟨bu, #[.int .i64 0, .int .u32 0], 25, true⟩ :: (X ++ _)) from hS) (fun w' hS' => ⟨(undef, [⟨bu, #[.int .i64 r0.1, .int .u32 r0.2], 25, true⟩]), rfl, rfl, hS'⟩)
        refine fx_end rfl ?_
        intro χ w hok hS
        obtain ⟨h1, _⟩ := hok _ (.head _)
        obtain ⟨h2, _⟩ := hok _ (.tail _ (.head _))
        have hS : St w0 bs w (((χ 4).2 ++ ((χ 5).2 ++ [])) ++ (⟨b10, obC o', 39, true⟩ :: ⟨b11, #[.int .i64 r0.1, .int .u32 r0.2], 25, true⟩ :: (Et ++ (⟨b7, #[.int .i64 r0.1, .int .u32 r0.2], 25, true⟩ :: ⟨bd, #[.pointer (some ⟨b, 0, none⟩)], 58, true⟩ :: ⟨bv, #[.int .i64 vs, .int .u32 vg], 25, true⟩ :: ⟨bi, #[.int .i64 i], 3, true⟩ :: (Z ++ Y))))) := hS
        rw [h1, h2] at hS
        simp only [List.cons_append, List.nil_append, List.append_nil] at hS
        clear hok h1 h2
        go_wp2_with ((go_skip))
        refine bodyPost_ret (res_tmp1 rfl) rfl ?_
        refine ⟨_, rfl, hΦ (⟨b, hpC (some ⟨bt, 0, none⟩) L.length (padH (seN L j g o')), 104, true⟩ :: Et) ⟨hWN'.out.1, b, bt, Et, rfl, by rw [hWN'.out.2.1]; exact hTt, by rw [hWN'.out.2.2.2]⟩, ?_⟩
        simp only [List.cons_append, List.append_assoc]
        exact hS.pick

set_option maxHeartbeats 1000000 in
set_option maxRecDepth 100000 in
theorem hp_store {p : Option Addr} {T : Hp} (hO : St w0 bs w H) (hT : HA p T E) [hc : Cut H E H1] (s g i vs vg : Int) (hvg : 0 ≤ vg ∧ vg ≤ 4294967295) (T' : Hp) (r : Int × Int) (e : Int) (hT' : stT T s g i (vs, vg) = T') (hr : stR T s g i (vs, vg) = r) (he : stE T s g i (vs, vg) = e)
    (hR : ∀ E' w', HA p T' E' → St w0 bs w' (E' ++ H1) → Ret R (.tuple #[.agg #[.int .i64 r.1, .int .u32 r.2], .int .i64 e]) w') : Calls Tryz.prog 63 #[.pointer p, .agg #[.int .i64 s, .int .u32 g], .int .i64 i, .agg #[.int .i64 vs, .int .u32 vg]] w R := by
  have hS := hO.front (E := E) (H1 := H1)
  clear hO
  obtain ⟨e0, he0⟩ : ∃ e, wiH T s g = e := ⟨_, rfl⟩
  by_cases h0 : e0 = 0
  case neg =>
    have hE1 : stE T s g i (vs, vg) = e0 := by unfold stE; rw [he0, if_neg h0]
    have hE2 : stR T s g i (vs, vg) = (0, 0) := by unfold stR; rw [hE1, if_neg h0]
    have hE3 : stT T s g i (vs, vg) = T := by unfold stT; rw [hE1, if_neg h0]
    rw [hE1] at he
    rw [hE2] at hr
    rw [hE3] at hT'
    subst he hr hT'
    have he' := Lib.hid he0
    clear he0 hE1 hE2 hE3
    go_enter Tryz.func63, Tryz.ntmps63
    go_wp2_with (first | (refine wpList_is (.box 58 _) rfl ?_; go_must (refine wpList_stp (by kernel_rfl) (stp_bx _ _ rfl hS ?_)); clear hS; intro bd w _ hS) | (refine wpList_is (.box 3 _) rfl ?_; go_must (refine wpList_stp (by kernel_rfl) (stp_bx _ _ rfl hS ?_)); clear hS; intro bi w _ hS) | (refine wpList_is (.box 25 _) rfl ?_; go_must (refine wpList_stp (by kernel_rfl) (stp_bx _ _ rfl hS ?_)); clear hS; intro bv w _ hS) | (go_at_call 84; refine wh_err hS hT s g _ e0 he'.out h0 ?_; clear hS; intro w _ hS; unfold Ret) | (refine wpList_is (.load _ _) rfl ?_; go_must (first | refine wpList_stp (by kernel_rfl) (stp_val (run_ld _ _ rfl hS) ?_) | refine wpList_stp (by kernel_rfl) (stp_val (run_lda _ _ rfl hS) ?_))) | (refine wpList_is (.store _ _ _) rfl ?_; go_must ((refine wpList_stp (by kernel_rfl) (stp_sta _ _ _ rfl hS ?_))); clear hS; intro w hS) | (refine wpList_is (.alloc _) rfl ?_; go_must (refine wpList_stp (by kernel_rfl) (stp_al _ rfl hS ?_)); clear hS; intro bN w hbN hS))
    refine bodyPost_ret (res_ct rfl hS) rfl ?_
    exact hR _ _ hT hS.pick
  case pos =>
  subst h0
  obtain ⟨L, j, rfl, rfl, hj, hck, _, _, _⟩ := wi_zero he0
  obtain ⟨hW, b, bt, Et, rfl, hTt, rfl⟩ := id hT
  have hdo := fun bi bv bd bu (Z Y : List Ent) (Φ : List Ent → Prop) hΦ (w' : World) hS => store1 (w0 := w0) (bs := bs) (b := b) (bt := bt) hW hTt hj hck hvg T' r e hT' hr he bi bv bd bu Z Y Φ hΦ w' hS
  have hdo' := Lib.hid hdo
  clear he0 hT' hr he hdo
  simp only [List.cons_append] at hS
  go_enter Tryz.func63, Tryz.ntmps63
  go_wp2_with (first | (refine wpList_is (.box 58 _) rfl ?_; go_must (refine wpList_stp (by kernel_rfl) (stp_bx _ _ rfl hS ?_)); clear hS; intro bd w _ hS) | (refine wpList_is (.box 3 _) rfl ?_; go_must (refine wpList_stp (by kernel_rfl) (stp_bx _ _ rfl hS ?_)); clear hS; intro bi w _ hS) | (refine wpList_is (o := ⟨some 5, _, _, _, _, _⟩) (.box _ _) rfl ?_; go_must (refine wpList_stp rfl (stp_bx _ _ rfl hS ?_)); clear hS; intro bo w _ hS) | (refine wpList_is (.box 25 _) rfl ?_; go_must (refine wpList_stp (by kernel_rfl) (stp_bx _ _ rfl hS ?_)); clear hS; intro bv w _ hS) | (refine wpList_is (o := ⟨some 8, _, _, _, _, _⟩) (.alloc _) rfl ?_; go_must (refine wpList_stp rfl (stp_al _ rfl hS ?_)); clear hS; intro b8 w _ hS) | (refine wpList_is (.alloc 25) rfl ?_; go_must (refine wpList_stp (by kernel_rfl) (stp_al _ rfl hS ?_)); clear hS; intro bu w _ hS) | (go_at_call 84; go_must (refine wh_do (H1 := ⟨bu, #[.int .i64 0, .int .u32 0], 25, true⟩ :: ⟨bd, #[.pointer (some ⟨b, 0, none⟩)], 58, true⟩ :: ⟨bv, #[.int .i64 vs, .int .u32 vg], 25, true⟩ :: ⟨bi, #[.int .i64 i], 3, true⟩ :: ⟨b8, #[.int .i64 0, .int .u32 0], 25, true⟩ :: ⟨bo, #[.int .i64 j, .int .u32 g], 25, true⟩ :: H1) (show St w0 bs w ((⟨b, hpC (some ⟨bt, 0, none⟩) L.length (padH L), 104, true⟩ :: Et) ++ (⟨bu, #[.int .i64 0, .int .u32 0], 25, true⟩ :: ⟨bd, #[.pointer (some ⟨b, 0, none⟩)], 58, true⟩ :: ⟨bv, #[.int .i64 vs, .int .u32 vg], 25, true⟩ :: ⟨bi, #[.int .i64 i], 3, true⟩ :: ⟨b8, #[.int .i64 0, .int .u32 0], 25, true⟩ :: ⟨bo, #[.int .i64 j, .int .u32 g], 25, true⟩ :: H1)) from by simp only [List.cons_append]; exact hS.pick) hW hTt hj hck 102 [.pointer (some ⟨bi, 0, none⟩), .pointer (some ⟨bv, 0, none⟩), .pointer (some ⟨bd, 0, none⟩), .pointer (some ⟨bu, 0, none⟩)] e (fun x => ∃ E', HA (some ⟨b, 0, none⟩) T' E' ∧ x = E' ++ (⟨bu, #[.int .i64 r.1, .int .u32 r.2], 25, true⟩ :: ⟨bd, #[.pointer (some ⟨b, 0, none⟩)], 58, true⟩ :: ⟨bv, #[.int .i64 vs, .int .u32 vg], 25, true⟩ :: ⟨bi, #[.int .i64 i], 3, true⟩ :: ⟨b8, #[.int .i64 0, .int .u32 0], 25, true⟩ :: ⟨bo, #[.int .i64 j, .int .u32 g], 25, true⟩ :: H1)) (enters _ (by kernel_rfl)) (fun Y w' hS => hdo'.out bi bv bd bu _ Y _ (fun E' h => ⟨E', h, rfl⟩) w' hS) ?_); clear hS; rintro x w ⟨E2, hT2, rfl⟩ hS; unfold Ret) | (refine wpList_is (.load _ _) rfl ?_; go_must (first | refine wpList_stp (by kernel_rfl) (stp_val (run_ld _ _ rfl hS) ?_) | refine wpList_stp (by kernel_rfl) (stp_val (run_lda _ _ rfl hS) ?_))) | (refine wpList_is (.store _ _ _) rfl ?_; go_must ((refine wpList_stp (by kernel_rfl) (stp_sta _ _ _ rfl hS ?_))); clear hS; intro w hS))
  refine bodyPost_ret (res_ct rfl hS) rfl ?_
  exact hR _ _ hT2 hS.pick
end Go.Proofs.YtjlihigodggfcaaGreat
