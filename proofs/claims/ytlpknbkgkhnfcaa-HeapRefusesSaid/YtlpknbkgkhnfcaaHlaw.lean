/-
  Heaps with what the statements know of them: what the laws share.
-/
import Derived.Test.YtlpknbkgkhnfcaaTurnF
import Derived.Test.YtlpknbkgkhnfcaaAgr
set_option linter.unusedSimpArgs false
set_option linter.unusedVariables false
namespace Go.Proofs.Ytlpknbkgkhnfcaa
open Go Go.Mm Go.RowKit

theorem MA.st {W : World} {bm n : Nat} {f : Int} {k : Nat} {H : List Ent} {w : World} (h : MA W bm n f k H w) : St W [] w H := by
  obtain ⟨w0, bs, M, ph, vi, vg, L, ins, gone, ms, E, Ei, Eg, hB, hS, _⟩ := h
  have hS2 : St w0 bs w H := (show St w0 bs w ((moE bm ph M vi vg :: (E ++ (Ei ++ (Eg ++ ms.map meE)))) ++ H) from by simpa using hS).weak
  refine ⟨hB.all hS, hS2.get, hS2.nd, fun e he hw => .inr ?_⟩
  exact (hB.wrs hS2 e.b (mem_wb.2 ⟨e, he, hw, rfl⟩)).1
theorem bounds_u8L {n : Int} (h : (Lit.int .u8 n).wf = true) : 0 ≤ n ∧ n ≤ 255 := by
  simp [Lit.wf, IntKind.min, IntKind.max, IntKind.signed, IntKind.bits] at h
  omega
theorem tr_cells {W : World} {v : Value} {n sb so : Nat} {F : Nat → Nat → Value} (hv : Flat W [.i .u8, .i .u8, .i .u8] v n sb so F) {i : Nat} (hlt : i < n) :
    ∃ a b c : Nat, a ≤ 255 ∧ b ≤ 255 ∧ c ≤ 255 ∧ F i 0 = .int .u8 a ∧ F i 1 = .int .u8 b ∧ F i 2 = .int .u8 c := by
  obtain ⟨x, hx, wx⟩ := hv.int (i := i) (j := 0) hlt rfl
  obtain ⟨y, hy, wy⟩ := hv.int (i := i) (j := 1) hlt rfl
  obtain ⟨z, hz, wz⟩ := hv.int (i := i) (j := 2) hlt rfl
  have h1 := bounds_u8L wx
  have h2 := bounds_u8L wy
  have h3 := bounds_u8L wz
  refine ⟨x.toNat, y.toNat, z.toNat, by omega, by omega, by omega, ?_, ?_, ?_⟩
  · rw [hx, Int.toNat_of_nonneg h1.1]
  · rw [hy, Int.toNat_of_nonneg h2.1]
  · rw [hz, Int.toNat_of_nonneg h3.1]
theorem ok_turn {cs : List Value} (h : OkCells [.i .u8, .i .u8, .i .u8] cs) : ∃ a b c : Nat, cs = [.int .u8 a, .int .u8 b, .int .u8 c] ∧ a ≤ 255 ∧ b ≤ 255 ∧ c ≤ 255 := by
  cases h with
  | cons h1 h2 =>
    cases h2 with
    | cons h3 h4 =>
      cases h4 with
      | cons h5 h6 =>
        cases h6
        obtain ⟨a, rfl, wa⟩ := h1
        obtain ⟨b, rfl, wb⟩ := h3
        obtain ⟨c, rfl, wc⟩ := h5
        have h1 := bounds_u8L wa
        have h2 := bounds_u8L wb
        have h3 := bounds_u8L wc
        exact ⟨a.toNat, b.toNat, c.toNat, by rw [Int.toNat_of_nonneg h1.1, Int.toNat_of_nonneg h2.1, Int.toNat_of_nonneg h3.1], by omega, by omega, by omega⟩
end Go.Proofs.Ytlpknbkgkhnfcaa
