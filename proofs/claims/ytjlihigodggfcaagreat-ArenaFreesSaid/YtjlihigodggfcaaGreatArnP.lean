/-
  Arenas: what is refused.
-/
import Derived.Test.YtjlihigodggfcaaGreatArnO
import Derived.Test.YtjlihigodggfcaaGreatWmo
set_option linter.unusedSimpArgs false
set_option linter.unusedVariables false
namespace Go.Proofs.YtjlihigodggfcaaGreat
open Go Go.RowKit Go.Mm
variable {R : Ending → World → Prop} {w : World} {w0 : World} {bs : List Nat} {H H' H1 E : List Ent}

set_option maxHeartbeats 2000000 in
set_option maxRecDepth 100000 in
theorem ar_new_no (hO : St w0 bs w H) (z k g : Int) (hg : 0 ≤ g ∧ g ≤ 4294967295) (hn : nwOk z g = false ∨ k < 1 ∨ 4 < k)
    (hR : ∀ w', St w0 bs w' H → Ret R (.tuple #[.pointer none, .int .i64 2]) w') : Calls Tryz.prog 6 #[.int .i64 z, .int .i64 k, .int .u32 g] w R := by
  have hS := hO
  clear hO
  obtain ⟨x, hx⟩ : ∃ x, nwE z g = x := ⟨_, rfl⟩
  by_cases h0 : x = 0
  · subst h0
    have hok : nwOk z g = true := by
      cases h : nwOk z g with
      | true => rfl
      | false => unfold nwE at hx; rw [h] at hx; cases hx
    have hx' := Lib.hid hx
    by_cases hk : k < 1
    · have d1 : decide (k < 1) = true := decide_eq_true hk
      clear hx hok hn hk
      go_enter Tryz.func6, Tryz.ntmps6
      go_wp2_with ((go_at_call 23; go_must (refine hp_new hS z g hg _ 0 rfl hx'.out ?_); clear hS; intro ph Eh w hH hS; unfold Ret))
      exact hR _ hS.weak
    · have hk4 : 4 < k := by
        rcases hn with h | h | h
        · rw [hok] at h; cases h
        · exact absurd h hk
        · exact h
      have d1 : decide (k < 1) = false := decide_eq_false hk
      have d2 : decide (4 < k) = true := decide_eq_true hk4
      clear hx hok hn hk hk4
      go_enter Tryz.func6, Tryz.ntmps6
      go_wp2_with ((go_at_call 23; go_must (refine hp_new hS z g hg _ 0 rfl hx'.out ?_); clear hS; intro ph Eh w hH hS; unfold Ret))
      exact hR _ hS.weak
  · have hx' := Lib.hid hx
    have q : (x != 0) = true := by simpa using h0
    clear hx hn h0
    go_enter Tryz.func6, Tryz.ntmps6
    go_wp2_with ((go_at_call 23; go_must (refine hp_new hS z g hg _ x rfl hx'.out ?_); clear hS; intro ph Eh w hH hS; unfold Ret))
    exact hR _ hS.weak

/-! A mutator that there is not -/
section
variable {T : Ar} {m : Int} (h : inM T m = false)
include h
theorem no_rtE (i : Int) : rtE T m i = 3 := by unfold rtE; rw [h]; rfl
theorem no_rtR (i : Int) : rtR T m i = (0, 0) := by unfold rtR; rw [no_rtE h]; rfl
theorem no_vaE (i : Int) : vaE T m i = 3 := by unfold vaE; rw [h]; exact no_rtE h i
theorem no_mk (n : Int) (b : Bool) : mkAT T m n b = T ∧ mkAR T m n b = (0, 0) ∧ mkAE T m n b = 3 := by
  have e : mkAE T m n b = 3 := by unfold mkAE; rw [h]; rfl
  exact ⟨by unfold mkAT; rw [e]; rfl, by unfold mkAR; rw [e]; rfl, e⟩
theorem no_ld (i f : Int) : ldAT T m i f = T ∧ ldAR T m i f = (0, 0) ∧ ldAE T m i f = 3 := by
  have e : ldAE T m i f = 3 := by unfold ldAE; rw [h]; rfl
  exact ⟨by unfold ldAT; rw [e]; rfl, by unfold ldAR; rw [e]; rfl, e⟩
theorem no_gt (g : Int) : gtAT T m g = T ∧ gtAR T m g = (0, 0) ∧ gtAE T m g = 3 := by
  have e : gtAE T m g = 3 := by unfold gtAE; rw [h]; rfl
  exact ⟨by unfold gtAT; rw [e]; rfl, by unfold gtAR; rw [e]; rfl, e⟩
theorem no_st (i f c : Int) : stAT T m i f c = T ∧ stAW T m i f c = (0, 0) ∧ stAV T m i f c = (0, 0) ∧ stAE T m i f c = 3 := by
  have e : stAE T m i f c = 3 := by unfold stAE; rw [no_rtE h]; rfl
  exact ⟨by unfold stAT; rw [e]; rfl, by unfold stAW; rw [e]; rfl, by unfold stAV; rw [e]; rfl, e⟩
theorem no_pt (i g : Int) : ptAT T m i g = T ∧ ptAW T m i g = (0, 0) ∧ ptAV T m i g = (0, 0) ∧ ptAE T m i g = 3 := by
  have e : ptAE T m i g = 3 := by unfold ptAE; rw [no_vaE h]; rfl
  exact ⟨by unfold ptAT; rw [e]; rfl, by unfold ptAW; rw [e]; rfl, by unfold ptAV; rw [e]; rfl, e⟩
theorem no_dr (i : Int) : drT T m i = T ∧ rtR T m i = (0, 0) ∧ rtE T m i = 3 := ⟨by unfold drT; rw [no_rtE h]; rfl, no_rtR h i, no_rtE h i⟩
theorem no_sk : (if inM T m then rtL T m else []) = [] ∧ muE T m = 3 := ⟨by rw [h]; rfl, by unfold muE; rw [h]; rfl⟩
end

/-! A root that there is not -/
section
variable {T : Ar} {m i : Int} (hm : inM T m = true) (h : rtE T m i = 3)
include h
theorem nr_dr : drT T m i = T ∧ rtR T m i = (0, 0) := ⟨by unfold drT; rw [h]; rfl, by unfold rtR; rw [h]; rfl⟩
theorem nr_va (h1 : i ≠ -1) : vaE T m i = 3 := by unfold vaE; rw [decide_eq_false h1, Bool.and_false]; exact h
theorem nr_pt (h1 : i ≠ -1) (g : Int) : ptAT T m i g = T ∧ ptAW T m i g = (0, 0) ∧ ptAV T m i g = (0, 0) ∧ ptAE T m i g = 3 := by
  have e : ptAE T m i g = 3 := by unfold ptAE; rw [nr_va h h1]; rfl
  exact ⟨by unfold ptAT; rw [e]; rfl, by unfold ptAW; rw [e]; rfl, by unfold ptAV; rw [e]; rfl, e⟩
include hm
theorem nr_ld (f : Int) : ldAT T m i f = T ∧ ldAR T m i f = (0, 0) ∧ ldAE T m i f = 3 := by
  have hx : ldX T m i f = 3 := by unfold ldX; rw [h]; rfl
  have e : ldAE T m i f = 3 := by unfold ldAE; rw [hm, hx]; rfl
  exact ⟨by unfold ldAT; rw [e]; rfl, by unfold ldAR; rw [e]; rfl, e⟩
end
section
variable {T : Ar} {m : Int} (hm : inM T m = true)
include hm
theorem va_one : vaE T m (-1) = 0 := by unfold vaE; rw [hm]; rfl
theorem nv_pt {g : Int} (hg : inV g = false) : ptAT T m (-1) g = T ∧ ptAW T m (-1) g = (0, 0) ∧ ptAV T m (-1) g = (0, 0) ∧ ptAE T m (-1) g = 3 := by
  have e : ptAE T m (-1) g = 3 := by unfold ptAE; rw [va_one hm, hg]; rfl
  exact ⟨by unfold ptAT; rw [e]; rfl, by unfold ptAW; rw [e]; rfl, by unfold ptAV; rw [e]; rfl, e⟩
theorem nv_gt {g : Int} (hg : inV g = false) : gtAT T m g = T ∧ gtAR T m g = (0, 0) ∧ gtAE T m g = 3 := by
  have hv : vE (some (true, T.2.2)) g = 3 := by
    show (if true then (if inV g then 0 else 3) else 1) = 3
    rw [hg]; rfl
  have hx : gtX T g = 3 := by unfold gtX ldxE; rw [hv]; rfl
  have e : gtAE T m g = 3 := by unfold gtAE; rw [hm, hx]; rfl
  exact ⟨by unfold gtAT; rw [e]; rfl, by unfold gtAR; rw [e]; rfl, e⟩
theorem nf_mk {n : Int} {b : Bool} (hn : nwB n b = false) : mkAT T m n b = T ∧ mkAR T m n b = (0, 0) ∧ mkAE T m n b = 2 := by
  have hx : nwOE n b = 2 := by unfold nwOE; rw [hn]; rfl
  have e : mkAE T m n b = 2 := by unfold mkAE; rw [hm, hx]; rfl
  exact ⟨by unfold mkAT; rw [e]; rfl, by unfold mkAR; rw [e]; rfl, e⟩
end
theorem nc_st {T : Ar} {m i f c : Int} (h0 : rtE T m i = 0) (hc : vaE T m c = 3) : stAT T m i f c = T ∧ stAW T m i f c = (0, 0) ∧ stAV T m i f c = (0, 0) ∧ stAE T m i f c = 3 := by
  have e : stAE T m i f c = 3 := by unfold stAE; rw [h0, hc]; rfl
  exact ⟨by unfold stAT; rw [e]; rfl, by unfold stAW; rw [e]; rfl, by unfold stAV; rw [e]; rfl, e⟩
end Go.Proofs.YtjlihigodggfcaaGreat
