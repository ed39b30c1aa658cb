/-
  Arenas: New.
-/
import Derived.Test.YtjlihigodggfcaaGreatArnK
set_option linter.unusedSimpArgs false
set_option linter.unusedVariables false
namespace Go.Proofs.YtjlihigodggfcaaGreat
open Go Go.RowKit Go.Mm
variable {R : Ending → World → Prop} {w : World} {w0 : World} {bs : List Nat} {H H' H1 E : List Ent}

def nwA (z k g : Int) : Ar := (hpL (nwH z g), List.replicate k.toNat [], zero8)
theorem spL_snoc {sts : List Sk} (h : sts.length < 4) (b : Nat) (x : List Rf × List Rf) : (spL sts).set sts.length (some ⟨b, 0, none⟩) = spL (sts ++ [(b, x)]) := by
  unfold spL
  rw [List.set_append_right _ _ (by simp)]
  have e : 4 - sts.length = (4 - (sts ++ [(b, x)]).length) + 1 := by simp; omega
  simp only [List.length_map, Nat.sub_self, List.map_append, List.map_cons, List.map_nil, List.append_assoc]
  rw [e, List.replicate_succ, List.set_cons_zero]
  rfl
theorem skW_new (b : Nat) : SkW (b, [], zero32) := ⟨by simp [zero32], fun r hr => by cases hr⟩

set_option maxHeartbeats 2000000 in
set_option maxRecDepth 100000 in
theorem ar_new_ok (hO : St w0 bs w H) (z g : Int) (k : Nat) (hg : 0 ≤ g ∧ g ≤ 4294967295) (hn : nwOk z g = true) (hk : 1 ≤ k ∧ k ≤ 4) (T' : Ar) (hT' : nwA z k g = T')
    (hR : ∀ p E w', AA p T' E → St w0 bs w' (E ++ H) → Ret R (.tuple #[.pointer p, .int .i64 0]) w') : Calls Tryz.prog 6 #[.int .i64 z, .int .i64 k, .int .u32 g] w R := by
  have hS := hO
  clear hO
  subst hT'
  have hT0 : nwH z g = some (some (hpL (nwH z g))) := by unfold nwH; rw [hn]; rfl
  have he0 : nwE z g = 0 := by unfold nwE; rw [hn]; rfl
  have hz : z = ((hpL (nwH z g)).length : Int) := by
    simp only [nwOk, Bool.and_eq_true, decide_eq_true_eq] at hn
    rw [show (hpL (nwH z g)).length = z.toNat from ?_]
    · omega
    · unfold nwH
      rw [show nwOk z g = true from ?_]
      · simp [hpL]
      · simp only [nwOk, Bool.and_eq_true, decide_eq_true_eq]; exact hn
  obtain ⟨L, hL⟩ : ∃ L, hpL (nwH z g) = L := ⟨_, rfl⟩
  rw [hL] at hT0 hz
  have hTA : nwA z k g = (L, List.replicate k [], zero8) := by simp only [nwA, hL, Int.toNat_natCast]
  rw [hTA] at hR
  have hT0' := Lib.hid hT0
  have he0' := Lib.hid he0
  have hz' := Lib.hid hz
  obtain ⟨k1, k4⟩ := hk
  have d1 : decide ((k : Int) < 1) = false := decide_eq_false (by omega)
  have d2 : decide (4 < (k : Int)) = false := decide_eq_false (by omega)
  have d1' : decide (k < 1) = false := decide_eq_false (by omega)
  have d2' : decide (4 < k) = false := decide_eq_false (by omega)
  clear hT0 he0 hz hL hTA hn
  go_enter Tryz.func6, Tryz.ntmps6
  go_wp2_with (first | (go_at_call 23; go_must (refine hp_new hS z g hg _ 0 hT0'.out he0'.out ?_); clear hS; intro ph Eh w hH hS; unfold Ret) | (go_at_call 24; go_must (refine gv_new hS ?_); clear hS; intro pg Eg w hG hS; unfold Ret) | (refine wpList_is (.box 63 _) rfl ?_; go_must (refine wpList_stp (by kernel_rfl) (stp_bx _ _ rfl hS ?_)); clear hS; intro bo w _ hS) | (refine wpList_is (.box 69 _) rfl ?_; go_must (refine wpList_stp (by kernel_rfl) (stp_bx _ _ rfl hS ?_)); clear hS; intro b w _ hS) | (refine wpList_is (.build _ _) rfl ?_; go_must (refine wpList_stp (by kernel_rfl) (stp_val (run_bd _ _ rfl) ?_))))
  have hS0 : St w0 bs _ (⟨b, arC (some ⟨bo, 0, none⟩) z k (spL []) pg, 69, true⟩ :: ⟨bo, #[.pointer ph], 63, true⟩ :: (Eh ++ (Eg ++ (([] : List Sk).map skE ++ H)))) := (show St w0 bs _ (⟨b, arC (some ⟨bo, 0, none⟩) z k [none, none, none, none] pg, 69, true⟩ :: ⟨bo, #[.pointer ph], 63, true⟩ :: (Eh ++ (Eg ++ H))) from hS.pick)
  clear hS
  go_loopw [37] (fun u wr => ∃ (i : Nat) (sts : List Sk), i ≤ k ∧ u = .int .i64 i ∧ sts.length = i ∧ sts.map (·.2.1) = List.replicate i [] ∧ (∀ x ∈ sts, SkW x) ∧ St w0 bs wr (⟨b, arC (some ⟨bo, 0, none⟩) z k (spL sts) pg, 69, true⟩ :: ⟨bo, #[.pointer ph], 63, true⟩ :: (Eh ++ (Eg ++ (sts.map skE ++ H))))) (fun u _ => k - (intOf u).toNat)
  case atStart => exact ⟨0, [], Nat.zero_le _, rfl, rfl, rfl, by simp, hS0⟩
  case round =>
    clear hS0
    obtain ⟨i, sts, hi, rfl, hl, hks, hW, hS⟩ := hrel
    by_cases hlt : i < k
    · have hls : (spL sts).length = 4 := spL_len (by omega)
      have hix := idxArr (P := Tryz.prog) (t := 67) (b := b) (off := 0 + 3) (i := i) Tryz.underlying67 (z := 1) (by kernel_rfl) (by omega)
      rw [Nat.zero_add, Nat.mul_one] at hix
      obtain ⟨q0, hq0⟩ : ∃ q0, (spL sts)[i]? = some q0 := ⟨_, List.getElem?_eq_getElem (by omega)⟩
      have dk : decide ((i : Int) < (k : Int)) = true := decide_eq_true (by omega)
      have dk' : decide (i < k) = true := decide_eq_true hlt
      have hsn : ∀ nb, (spL sts).set i (some ⟨nb, 0, none⟩) = spL (sts ++ [(nb, [], zero32)]) := fun nb => by
        have := spL_snoc (sts := sts) (by omega) nb ([], zero32)
        rw [hl] at this
        exact this
      go_wp2_with ((go_skip))
      refine region_depsE [⟨(undef, []), [(2, [], fun _ _ x => ∃ nb, x = (.pointer (some ⟨nb, 0, none⟩), [skE (nb, [], zero32)]))]⟩, ⟨(undef, [⟨b, arC (some ⟨bo, 0, none⟩) z k (spL sts) pg, 69, true⟩]), [(6, [2], fun q _ x => ∃ a, (q.getD 0 default).1 = .pointer a ∧ x.2 = [⟨b, arC (some ⟨bo, 0, none⟩) z k ((spL sts).set i a) pg, 69, true⟩])]⟩] (⟨bo, #[.pointer ph], 63, true⟩ :: (Eh ++ (Eg ++ (sts.map skE ++ H)))) (⟨b, arC (some ⟨bo, 0, none⟩) z k (spL sts) pg, 69, true⟩ :: ⟨bo, #[.pointer ph], 63, true⟩ :: (Eh ++ (Eg ++ (sts.map skE ++ H)))) (by simp) hS (by kernel_rfl) (by kernel_rfl) ?_
      (refine dx_val (fun _ => rfl) rfl (fun χ w hw => run_mv _ rfl) ?_)
      (refine dx_val (fun _ => rfl) rfl (fun χ w hw => run_mv _ rfl) ?_)
      refine dx_turn 0 0 rfl rfl (by kernel_rfl) (by kernel_rfl) (by kernel_rfl) (by kernel_rfl) 25 [] _ rfl (fun _ => rfl) (enters _ (by kernel_rfl)) (fun x => x.1) ?_ ?_
      · intro χ X w _ hS
        exact rk_new (show St w0 bs w (X ++ _) from hS) (fun nb w' hS' => ⟨(.pointer (some ⟨nb, 0, none⟩), [skE (nb, [], zero32)]), rfl, ⟨nb, rfl⟩, hS'⟩)
      refine dx_val (fun _ => rfl) rfl (fun χ w hw => run_nc _ rfl) ?_
      (refine dx_val (fun _ => rfl) rfl (fun χ w hw => run_fa _ _ _ rfl) ?_)
      (refine dx_val (fun _ => rfl) rfl (fun χ w hw => run_idxv _ _ _ rfl) ?_)
      refine dx_turnW 1 0 0 1 rfl rfl rfl (by kernel_rfl) (by kernel_rfl) (by kernel_rfl) (by kernel_rfl) (by kernel_rfl) (fun _ => rfl) (fun _ => undef) ?_ ?_
      · rintro χ X w _ ⟨⟨nb, hnb⟩, _⟩ hS
        have hset : SetAt (arC (some ⟨bo, 0, none⟩) z k (spL sts) pg) (3 + i) (χ 2).1 (arC (some ⟨bo, 0, none⟩) z k ((spL sts).set i (some ⟨nb, 0, none⟩)) pg) := by rw [hnb]; exact arSet hq0 _
        have hone : OneCell (χ 2).1 := by rw [hnb]; infer_instance
        exact stepX_st _ _ _ rfl (show St w0 bs w (⟨b, arC (some ⟨bo, 0, none⟩) z k (spL sts) pg, 69, true⟩ :: ((χ 2).2 ++ (X ++ _))) from hS) (fun w' hS' => ⟨(undef, [⟨b, arC (some ⟨bo, 0, none⟩) z k ((spL sts).set i (some ⟨nb, 0, none⟩)) pg, 69, true⟩]), rfl, ⟨_, by show (χ 2).1 = _; rw [hnb], rfl⟩, hS'⟩)
      refine dx_end rfl ?_
      intro χ w hok hS
      obtain ⟨⟨nb, hnb⟩, _⟩ := hok _ (.head _)
      obtain ⟨⟨a, ha, hD⟩, _⟩ := hok _ (.tail _ (.head _))
      have ha : (χ 2).1 = .pointer a := ha
      rw [hnb] at ha
      obtain ⟨⟩ := ha
      have hS : St w0 bs w (((χ 2).2 ++ ((χ 6).2 ++ [])) ++ (⟨bo, #[.pointer ph], 63, true⟩ :: (Eh ++ (Eg ++ (sts.map skE ++ H))))) := hS
      have hD : (χ 6).2 = [⟨b, arC (some ⟨bo, 0, none⟩) z k ((spL sts).set i (some ⟨nb, 0, none⟩)) pg, 69, true⟩] := hD
      rw [hD, hnb, hsn nb] at hS
      simp only [List.cons_append, List.nil_append] at hS
      simp only [hnb]
      clear hok hD hnb
      go_wp2_with ((go_skip))
      go_roundw
      case rel =>
        refine ⟨i + 1, sts ++ [(nb, [], zero32)], by omega, by go_num, by simp [hl], by rw [List.map_append, hks, List.replicate_succ']; rfl, fun x hx => ?_, ?_⟩
        · rcases List.mem_append.1 hx with hx | hx
          · exact hW x hx
          · rw [List.mem_singleton.1 hx]; exact skW_new nb
        · have e : (sts ++ [(nb, [], zero32)]).map skE = sts.map skE ++ [skE (nb, [], zero32)] := by rw [List.map_append]; rfl
          rw [e]
          simp only [List.append_assoc, List.cons_append, List.nil_append]
          exact hS.pick
      case measure => simp [intOf]; omega
    · obtain rfl : k = i := by omega
      have dk : decide ((k : Int) < (k : Int)) = false := decide_eq_false (by omega)
      have dk' : decide (k < k) = false := decide_eq_false (by omega)
      go_wp2_with ((go_skip))
      refine hR _ (⟨b, arC (some ⟨bo, 0, none⟩) z k (spL sts) pg, 69, true⟩ :: ⟨bo, #[.pointer ph], 63, true⟩ :: (Eh ++ (Eg ++ sts.map skE))) _ ⟨b, bo, ph, Eh, pg, Eg, sts, rfl, hH, hG, by rw [hks], hW, fun x hx => ?_, by omega, by omega, by rw [hl, ← hz'.out]⟩ (by simp only [List.cons_append, List.append_assoc]; exact hS.pick)
      have : x = (0, 0) := (List.mem_replicate.1 hx).2
      rw [this]
      exact ⟨by decide, by decide, by decide⟩
end Go.Proofs.YtjlihigodggfcaaGreat
