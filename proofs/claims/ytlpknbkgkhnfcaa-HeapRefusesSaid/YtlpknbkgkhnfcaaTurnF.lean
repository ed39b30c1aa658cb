/-
  Heaps with what the statements know of them: any turn.
-/
import Derived.Test.YtlpknbkgkhnfcaaTurnB
import Derived.Test.YtlpknbkgkhnfcaaTurnC
import Derived.Test.YtlpknbkgkhnfcaaTurnE
set_option linter.unusedSimpArgs false
set_option linter.unusedVariables false
namespace Go.Proofs.Ytlpknbkgkhnfcaa
open Go Go.Mm Go.RowKit
variable {R : Ending → World → Prop} {w : World}

theorem turn_ok {W : World} {bm n : Nat} {f : Int} {k : Nat} {H : List Ent} (hk : k ≤ 400) (hMA : MA W bm n f k H w) (a i c : Nat) (ha : a ≤ 255) (hi : i ≤ 255) (hc : c ≤ 255) (hR : ∀ w', MA W bm n f (k + 1) H w' → Ret R (.bool true) w') :
    Calls Try.prog 13 #[.pointer (some ⟨bm, 0, none⟩), .agg #[.int .u8 a, .int .u8 i, .int .u8 c]] w R := by
  by_cases h4 : a % 4 < 2
  · by_cases hz : 0 < i % 5
    · exact turn_mk0 hk hMA a i c ha hi hc h4 rfl hz hR
    · by_cases h2 : c % 2 = 1
      · exact turn_mk1 hk hMA a i c ha hi hc h4 rfl (by omega) h2 hR
      · exact turn_mk2 hk hMA a i c ha hi hc h4 rfl (by omega) h2 hR
  · have hMA0 := hMA
    obtain ⟨w0, bs, M, ph, vi, vg, L, ins, gone, ms, E, Ei, Eg, hB, hS, hT, hvi, hvg, hMo⟩ := hMA
    have hi1 : MAi W bm n f k H w ins := ⟨w0, bs, M, ph, vi, vg, L, gone, ms, E, Ei, Eg, hB, hS, hT, hvi, hvg, hMo⟩
    by_cases h0 : ins = []
    · exact turn_none hk hi1 a i c ha hi hc (by omega) h0 hR
    by_cases h5 : a % 4 = 2
    · exact turn_free hk hi1 a i c ha hi hc h5 h0 hR
    have hpos : 0 < ins.length := List.length_pos_iff.2 h0
    have hql : i % ins.length < ins.length := Nat.mod_lt _ hpos
    obtain ⟨⟨rs, rg⟩, hr⟩ : ∃ r, ins.getD (i % ins.length) (0, 0) = r := ⟨_, rfl⟩
    have hrm : (rs, rg) ∈ ins := by rw [← hr, List.getD_eq_getElem?_getD, List.getElem?_eq_getElem hql]; exact List.getElem_mem hql
    obtain ⟨j, ⟨kr, gb, l⟩, hj, hkr, hob⟩ := hMo.obj _ hrm
    simp only at hkr hob
    subst hkr
    by_cases hl : l.length ≤ c % 4
    · by_cases h7 : c % 8 = 7
      · exact turn_out7 hk hMA0 a i c ha hi hc (by omega) h7 hR hB hS hT hvi hvg hMo rfl hpos hr hj hob hl
      · exact turn_out hk hMA0 a i c ha hi hc (by omega) h7 hR hB hS hT hvi hvg hMo rfl hpos hr hj hob hl
    · by_cases h7 : c % 8 = 7
      · exact turn_put7 hk hMA0 a i c ha hi hc (by omega) h7 hR hB hS hT hvi hvg hMo rfl hpos hr hj hob (by omega)
      · exact turn_put hk hMA0 a i c ha hi hc (by omega) h7 hR hB hS hT hvi hvg hMo rfl hpos hr hj hob (by omega)
end Go.Proofs.Ytlpknbkgkhnfcaa
