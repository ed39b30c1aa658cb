/-
  Arenas with what the statements know of them: begin; the plain law of a full mutator.
-/
import Derived.Test.YtjlihigodggfcaaArnN
import Derived.Test.YtjlihigodggfcaaRgn
set_option linter.unusedSimpArgs false
set_option linter.unusedVariables false
namespace Go.Proofs.Ytjlihigodggfcaa
open Go Go.RowKit Go.Mm
variable {R : Ending → World → Prop} {w : World} {w0 : World} {bs : List Nat} {H H' H1 E : List Ent}

/-- The block of what the statements know. -/
def wrC (p : Option Addr) (M : Nat) (v : Value) (G : List Rf) : Array Value := blk [.pointer p, .map (some M), v] slf G []
section
variable {p : Option Addr} {M : Nat} {v : Value} {G : List Rf}
instance wr0 : CellAt (wrC p M v G) 0 (.pointer p) := blkPre rfl
instance wr1 : CellAt (wrC p M v G) 1 (.map (some M)) := blkPre rfl
instance wr2 : CellAt (wrC p M v G) 2 v := blkPre rfl
end
instance wr_a : AggT Try.prog 32 19 := ⟨by kernel_rfl, by kernel_rfl⟩
instance wr_sp : ScalarT Try.prog 22 := ⟨by kernel_rfl, by kernel_rfl⟩
instance wr_sr : ScalarT Try.prog 26 := ⟨by kernel_rfl, by kernel_rfl⟩
instance wr_b {p : Option Addr} {M n c : Nat} {q : Option Addr} : BuildT Try.prog 32 [(0, .pointer p), (1, .map (some M)), (2, .slice q n c)] (wrC p M (.slice q n c) zero8) := ⟨fun w => by kernel_rfl⟩
instance wr_sm : ScalarT Try.prog 25 := ⟨by kernel_rfl, by kernel_rfl⟩
instance wr_f0 {b off : Nat} : FieldAt Try.prog 32 0 b off off := ⟨fun w => by kernel_rfl⟩
instance wr_f1 {b off : Nat} : FieldAt Try.prog 32 1 b off (off + 1) := ⟨fun w => by kernel_rfl⟩
instance wr_f2 {b off : Nat} : FieldAt Try.prog 32 2 b off (off + 2) := ⟨fun w => by kernel_rfl⟩
instance wr_s : SliceT Try.prog 26 44 := ⟨by kernel_rfl⟩
instance wr_e : ElemT Try.prog 44 1 24 #[.slice none 0 0] := ⟨by kernel_rfl⟩

abbrev wfl : Hs := (0, 1, zOb)
def FL0 : List Hs := List.replicate 256 wfl
def FL1 : List Hs := FL0.set 0 (1, 1, (1, zero4, false))
def FL2 : List Hs := FL0.set 0 (1, 1, (1, [(0, 1), (0, 0), (0, 0), (0, 0)], false))
theorem fl_new : nwH 256 1 = some (some FL0) ∧ nwOk 256 1 = true := by decide +kernel
theorem fl_mk : mkT (some (some FL0)) 1 false = some (some FL1) ∧ mkR (some (some FL0)) 1 false = (0, 1) ∧ mkE (some (some FL0)) 1 false = 0 := by decide +kernel
theorem fl_st : stT (some (some FL1)) 0 1 0 (0, 1) = some (some FL2) ∧ stE (some (some FL1)) 0 1 0 (0, 1) = 0 ∧ stR (some (some FL1)) 0 1 0 (0, 1) = (0, 0) := by decide +kernel
theorem fl_ld : ldE (some (some FL2)) 0 1 0 = 0 ∧ ldR (some (some FL2)) 0 1 0 = (0, 1) := by decide +kernel
theorem fl_al : (alH (some (some FL2))).length = 1 := by decide +kernel

set_option maxHeartbeats 2000000 in
set_option maxRecDepth 100000 in
theorem begin_okc {W : World} (hO : St W [] w H) (a b : Int) (ha : 0 ≤ a ∧ a ≤ 255) (hb : 0 ≤ b ∧ b ≤ 255) (k : Nat) (hk : 1 + b % 4 = (k : Int)) (T : Ar) (hT : nwA (1 + a) k 1 = T)
    (hR : ∀ bm bv M p E w0 bs w', Base W w0 bs M [] → AA p T E → St w0 bs w' (⟨bm, wrC p M (.slice (some ⟨bv, 0, none⟩) k k) zero8, 32, true⟩ :: ⟨bv, madeCells #[.slice none 0 0] (k * 1), 44, true⟩ :: (E ++ H)) → Ret R (.pointer (some ⟨bm, 0, none⟩)) w') :
    Calls Try.prog 9 #[.int .u8 a, .int .u8 b] w R := by
  have hS := hO
  clear hO
  obtain ⟨a0, a1⟩ := ha
  obtain ⟨b0, b1⟩ := hb
  have hkb : 1 ≤ k ∧ k ≤ 4 := by omega
  have hok : nwOk (1 + a) 1 = true := by simp only [nwOk, Bool.and_eq_true, decide_eq_true_eq]; omega
  have hT' := Lib.hid hT
  have hok' := Lib.hid hok
  clear hT hok
  go_enter Try.func9, Try.ntmps9
  go_wp2_with (first | (go_at_call 26; go_must (with_reducible refine ar_new_ok hS (1 + a) 1 k (by decide) hok'.out hkb T hT'.out ?_); clear hS; intro p E w hT hS; have hpn : p.isNone = false := (by obtain ⟨b, _, _, _, _, _, _, rfl, _⟩ := hT; rfl); unfold Ret) | (refine wpList_is (.makeMap _ _) rfl ?_; go_must (refine wpList_stp (by kernel_rfl) (stp_mm rfl hS ?_)); clear hS; intro w0 M hB hS) | (refine wpList_is (.makeSlice _ _ _) rfl ?_; go_must (refine wpList_stp (by kernel_rfl) (stp_mk (l := (k : Int)) (c := (k : Int)) _ _ _ rfl hS (by omega) (by omega) (by omega) (by omega) ?_)); clear hS; intro bv w _ hS; simp only [Int.toNat_natCast]) | (refine wpList_is (.box 32 _) rfl ?_; go_must (refine wpList_stp (by kernel_rfl) (stp_bx _ _ rfl hS ?_)); clear hS; intro bm w _ hS) | (refine wpList_is (.build _ _) rfl ?_; go_must (refine wpList_stp (by kernel_rfl) (stp_val (run_bd _ _ rfl) ?_))))
  exact hR _ _ _ _ _ _ _ _ hB hT hS
theorem begin_ok {W : World} (hO : St W [] w H) (a b : Int) (ha : 0 ≤ a ∧ a ≤ 255) (hb : 0 ≤ b ∧ b ≤ 255) (k : Nat) (hk : 1 + b % 4 = (k : Int)) (T : Ar) (hT : nwA (1 + a) k 1 = T)
    (hR : ∀ bm bv M p E cv w0 bs w', Base W w0 bs M [] → AA p T E → St w0 bs w' (⟨bm, wrC p M (.slice (some ⟨bv, 0, none⟩) k k) zero8, 32, true⟩ :: ⟨bv, cv, 44, true⟩ :: (E ++ H)) → Ret R (.pointer (some ⟨bm, 0, none⟩)) w') :
    Calls Try.prog 9 #[.int .u8 a, .int .u8 b] w R := begin_okc hO a b ha hb k hk T hT (fun bm bv M p E w0 bs w' hB hT hS => hR bm bv M p E _ w0 bs w' hB hT hS)
end Go.Proofs.Ytjlihigodggfcaa
