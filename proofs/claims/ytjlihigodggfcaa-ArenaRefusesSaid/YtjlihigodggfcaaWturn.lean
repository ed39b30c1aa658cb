/-
  Arenas with what the statements know of them: any turn.
-/
import Derived.Test.YtjlihigodggfcaaWtA
import Derived.Test.YtjlihigodggfcaaWtB
import Derived.Test.YtjlihigodggfcaaWtC
import Derived.Test.YtjlihigodggfcaaWtD
import Derived.Test.YtjlihigodggfcaaWtE
set_option linter.unusedSimpArgs false
set_option linter.unusedVariables false
namespace Go.Proofs.Ytjlihigodggfcaa
open Go Go.RowKit Go.Mm
variable {R : Ending → World → Prop} {w : World}

theorem WX.wo {W : World} {bm n mu k : Nat} {H : List Ent} {T : Ar} {ms : List Me} (h : WX W bm n mu k H w T ms) : Wo n mu k T ms := by
  obtain ⟨_, _, _, _, _, _, _, _, _, _, _, _, _, _, _, h⟩ := h
  exact h
theorem Wo.ms_le {n mu k : Nat} {T : Ar} {ms : List Me} (h : Wo n mu k T ms) (hk : k ≤ 400) : ms.length ≤ n := by
  obtain ⟨_, h2⟩ := h.cnt hk
  have r3 : (0 : Int) ≤ lfH (HL T.1) := Int.natCast_nonneg _
  omega
theorem wturn_nx {W : World} {bm n mu k : Nat} {H : List Ent} {T : Ar} {ms : List Me} (hk : k ≤ 400) (hX : WX W bm n mu k H w T ms) (hmu : 1 ≤ mu ∧ mu ≤ 4) (a mb i b c : Nat) (ha : a ≤ 255) (hmb : mb ≤ 255) (hi : i ≤ 255) (hb : b ≤ 255) (hc : c ≤ 255)
    (hR : ∀ w', WX W bm n mu (k + 1) H w' (nxT n mu T ms a mb i b c).1 (nxT n mu T ms a mb i b c).2 → Ret R (.bool true) w') : Calls Try.prog 31 #[.pointer (some ⟨bm, 0, none⟩), .agg #[.int .u8 a, .int .u8 mb, .int .u8 i, .int .u8 b, .int .u8 c]] w R := by
  have hWo := hX.wo
  have hml : mb % mu < mu := Nat.mod_lt _ (by omega)
  have h32 : (rtL T (mb % mu : Nat)).length ≤ 32 := hWo.r32 _ (hWo.rtl hml)
  by_cases h0 : a % 8 = 0
  · by_cases hf : (rtL T (mb % mu : Nat)).length = 32
    · exact wt_mkF1 hk hX hmu a mb i b c ha hmb hi hb hc h0 hf hR
    · have := hWo.ms_le hk
      by_cases hn : ms.length = n
      · exact wt_mkF2 hk hX hmu a mb i b c ha hmb hi hb hc h0 (by omega) hn hR
      · exact wt_mk hk hX hmu a mb i b c ha hmb hi hb hc h0 (by omega) (by omega) hR
  by_cases h5 : a % 8 = 5
  · by_cases hg : T.2.2.getD (b % 8) (0, 0) = (0, 0)
    · exact wt_getN hk hX hmu a mb i b c ha hmb hi hb hc h5 hg hR
    · by_cases hf : (rtL T (mb % mu : Nat)).length = 32
      · exact wt_getF hk hX hmu a mb i b c ha hmb hi hb hc h5 hg hf hR
      · exact wt_get hk hX hmu a mb i b c ha hmb hi hb hc h5 hg (by omega) hR
  by_cases h7 : a % 8 = 7
  · exact wt_put0 hk hX hmu a mb i b c ha hmb hi hb hc h7 hR
  by_cases hz : (rtL T (mb % mu : Nat)).length = 0
  · exact wt_none hk hX hmu a mb i b c ha hmb hi hb hc h0 h5 h7 hz hR
  have hpos : 0 < (rtL T (mb % mu : Nat)).length := by omega
  have hql : i % (rtL T (mb % mu : Nat)).length < (rtL T (mb % mu : Nat)).length := Nat.mod_lt _ hpos
  obtain ⟨j, b0, l, hj, _, _⟩ := hWo.ent (hWo.rt hml hql).2.2
  have one : ∀ (P : List Rf → Prop), P l → ∀ (j' b1 : Nat) (l' : List Rf), ms[j']? = some ((rtL T (mb % mu : Nat)).getD (i % (rtL T (mb % mu : Nat)).length) (0, 0), b1, l') → P l' := by
    intro P hP j' b1 l' hj'
    have e := key_one hWo.mo.ks hj hj' rfl
    subst e
    rw [hj] at hj'
    have e2 := congrArg (fun m : Me => m.2.2) (Option.some.inj hj')
    simp only at e2
    rw [← e2]; exact hP
  by_cases h3 : a % 8 = 3
  · exact wt_drop hk hX hmu a mb i b c ha hmb hi hb hc h3 hpos hR
  by_cases h4 : a % 8 = 4
  · exact wt_put hk hX hmu a mb i b c ha hmb hi hb hc h4 hpos hR
  by_cases h1 : a % 8 = 1
  · by_cases hl : b % 4 < l.length
    · by_cases hz : l.getD (b % 4) (0, 0) = (0, 0)
      · exact wt_ldN hk hX hmu a mb i b c ha hmb hi hb hc h1 hpos (one _ ⟨hl, hz⟩) hR
      · by_cases hf : (rtL T (mb % mu : Nat)).length = 32
        · exact wt_ldF hk hX hmu a mb i b c ha hmb hi hb hc h1 hpos hf (one (fun l => b % 4 < l.length ∧ l.getD (b % 4) (0, 0) ≠ (0, 0)) ⟨hl, hz⟩) hR
        · exact wt_ld hk hX hmu a mb i b c ha hmb hi hb hc h1 hpos (by omega) (one (fun l => b % 4 < l.length ∧ l.getD (b % 4) (0, 0) ≠ (0, 0)) ⟨hl, hz⟩) hR
    · exact wt_ldR hk hX hmu a mb i b c ha hmb hi hb hc h1 hpos (one (fun l => l.length ≤ b % 4) (by omega)) hR
  by_cases h2 : a % 8 = 2
  · by_cases hl : b % 4 < l.length
    · exact wt_st2 hk hX hmu a mb i b c ha hmb hi hb hc h2 hpos (one (fun l => b % 4 < l.length) hl) hR
    · exact wt_stR2 hk hX hmu a mb i b c ha hmb hi hb hc h2 hpos (one (fun l => l.length ≤ b % 4) (by omega)) hR
  · have h6 : a % 8 = 6 := by omega
    by_cases hl : b % 4 < l.length
    · exact wt_st6 hk hX hmu a mb i b c ha hmb hi hb hc h6 hpos (one (fun l => b % 4 < l.length) hl) hR
    · exact wt_stR6 hk hX hmu a mb i b c ha hmb hi hb hc h6 hpos (one (fun l => l.length ≤ b % 4) (by omega)) hR
theorem wturn_ok {W : World} {bm n mu k : Nat} {H : List Ent} (hk : k ≤ 400) (hA : WA W bm n mu k H w) (hmu : 1 ≤ mu ∧ mu ≤ 4) (a mb i b c : Nat) (ha : a ≤ 255) (hmb : mb ≤ 255) (hi : i ≤ 255) (hb : b ≤ 255) (hc : c ≤ 255)
    (hR : ∀ w', WA W bm n mu (k + 1) H w' → Ret R (.bool true) w') : Calls Try.prog 31 #[.pointer (some ⟨bm, 0, none⟩), .agg #[.int .u8 a, .int .u8 mb, .int .u8 i, .int .u8 b, .int .u8 c]] w R := by
  obtain ⟨T, ms, hX⟩ := hA
  exact wturn_nx hk hX hmu a mb i b c ha hmb hi hb hc (fun w' h => hR w' h.wa)
end Go.Proofs.Ytjlihigodggfcaa
