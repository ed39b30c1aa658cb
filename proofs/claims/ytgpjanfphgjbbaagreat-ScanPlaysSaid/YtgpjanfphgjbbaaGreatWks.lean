/-
  estraylaw23.works: the chapter's examples.
-/
import Derived.Test.YtgpjanfphgjbbaaGreatSnd
import Derived.Test.YtgpjanfphgjbbaaGreatEqi
import Derived.Test.YtgpjanfphgjbbaaGreatHeapF
import Derived.Test.YtgpjanfphgjbbaaGreatRgn
set_option linter.unusedSimpArgs false
set_option linter.unusedVariables false
namespace Go.Proofs.YtgpjanfphgjbbaaGreat
open Go Go.RowKit Go.Mm
variable {R : Ending → World → Prop} {w : World} {w0 : World} {bs : List Nat} {H H' H1 H2 E0 E1 E2 : List Ent}
instance a_a3i : AggT Tryz.prog 67 3 := ⟨by kernel_rfl, by kernel_rfl⟩
instance z_a3i : ZeroT Tryz.prog 67 #[.int .i64 0, .int .i64 0, .int .i64 0] := ⟨by kernel_rfl⟩
instance b_a3i {x y z : Int} : BuildT Tryz.prog 67 [(0, .int .i64 x), (1, .int .i64 y), (2, .int .i64 z)] #[.int .i64 x, .int .i64 y, .int .i64 z] := ⟨fun w => by kernel_rfl⟩
instance sli_a3 : SliceT Tryz.prog 68 67 := ⟨by kernel_rfl⟩
instance eli_a3 : ElemT Tryz.prog 67 3 24 #[.int .i64 0, .int .i64 0, .int .i64 0] := ⟨by kernel_rfl⟩
instance flatThree {u v x : Value} {us cs : List Value} [h : FlatOf us cs] : FlatOf (.agg (List.toArray [u, v, x]) :: us) (u :: v :: x :: cs) := ⟨by rw [List.flatMap_cons, h.h]; rfl⟩
instance a_a3r : AggT Tryz.prog 66 6 := ⟨by kernel_rfl, by kernel_rfl⟩
/-- The examples' three names, of which the first k have been set. -/
def ar3 : Nat → Array Value
  | 0 => #[.int .i64 0, .int .u32 0, .int .i64 0, .int .u32 0, .int .i64 0, .int .u32 0]
  | 1 => #[.int .i64 0, .int .u32 1, .int .i64 0, .int .u32 0, .int .i64 0, .int .u32 0]
  | 2 => #[.int .i64 0, .int .u32 1, .int .i64 1, .int .u32 1, .int .i64 0, .int .u32 0]
  | _ => #[.int .i64 0, .int .u32 1, .int .i64 1, .int .u32 1, .int .i64 2, .int .u32 1]
instance z_a3r : ZeroT Tryz.prog 66 (ar3 0) := ⟨by kernel_rfl⟩
theorem ar3_set0 : SetsAt (ar3 0) 0 #[.int .i64 0, .int .u32 1] (ar3 1) := ⟨rfl, by decide⟩
theorem ar3_set1 : SetsAt (ar3 1) 2 #[.int .i64 1, .int .u32 1] (ar3 2) := ⟨rfl, by decide⟩
theorem ar3_set2 : SetsAt (ar3 2) 4 #[.int .i64 2, .int .u32 1] (ar3 3) := ⟨rfl, by decide⟩
theorem ar3_at0 : CellsAt (ar3 3) 0 2 #[.int .i64 0, .int .u32 1] := ⟨fun j hj => by match j, hj with | 0, _ => rfl | 1, _ => rfl, rfl⟩
theorem ar3_at1 : CellsAt (ar3 3) 2 2 #[.int .i64 1, .int .u32 1] := ⟨fun j hj => by match j, hj with | 0, _ => rfl | 1, _ => rfl, rfl⟩
theorem ar3_at2 : CellsAt (ar3 3) 4 2 #[.int .i64 2, .int .u32 1] := ⟨fun j hj => by match j, hj with | 0, _ => rfl | 1, _ => rfl, rfl⟩
/-- The examples' edges. -/
def wkC : Array Value := #[.int .i64 0, .int .i64 0, .int .i64 1, .int .i64 0, .int .i64 2, .int .i64 2, .int .i64 0, .int .i64 3, .int .i64 1, .int .i64 2, .int .i64 1, .int .i64 0]
theorem wkC_at0 : CellsAt wkC 0 3 #[.int .i64 0, .int .i64 0, .int .i64 1] := ⟨fun j hj => by match j, hj with | 0, _ => rfl | 1, _ => rfl | 2, _ => rfl, rfl⟩
theorem wkC_at1 : CellsAt wkC 3 3 #[.int .i64 0, .int .i64 2, .int .i64 2] := ⟨fun j hj => by match j, hj with | 0, _ => rfl | 1, _ => rfl | 2, _ => rfl, rfl⟩
theorem wkC_at2 : CellsAt wkC 6 3 #[.int .i64 0, .int .i64 3, .int .i64 1] := ⟨fun j hj => by match j, hj with | 0, _ => rfl | 1, _ => rfl | 2, _ => rfl, rfl⟩
theorem wkC_at3 : CellsAt wkC 9 3 #[.int .i64 2, .int .i64 1, .int .i64 0] := ⟨fun j hj => by match j, hj with | 0, _ => rfl | 1, _ => rfl | 2, _ => rfl, rfl⟩
theorem idxA3 {b off i : Nat} (hi : i < 3) : IdxV Tryz.prog 66 (.pointer (some ⟨b, off, none⟩)) i ⟨b, off + i * 2, none⟩ := idxArr Tryz.underlying66 (by kernel_rfl) hi
theorem idxI3 {b off i : Nat} (hi : i < 3) : IdxV Tryz.prog 67 (.pointer (some ⟨b, off, none⟩)) i ⟨b, off + i, none⟩ := idxArrS Tryz.underlying67 (by kernel_rfl) hi
theorem idxS3 {b i : Nat} (hi : i < 4) : IdxV Tryz.prog 68 (.slice (some ⟨b, 0, none⟩) 4 4) i ⟨b, i * 3, none⟩ := ⟨fun w => by
  have h2 : 0 ≤ (i : Int) := by omega
  simp [Instr.indexAt, asIntOf, run_underlying Tryz.underlying68, hi, run_sizeOf' (P := Tryz.prog) (t := 67) (n := 3) (by kernel_rfl), Addr.add_lit]⟩
theorem lenS3 {b : Nat} : LenV Tryz.prog 68 (.slice (some ⟨b, 0, none⟩) 4 4) (4 : Nat) := ⟨⟨_, 4, rfl⟩, 67, Tryz.underlying68⟩

theorem isX {g : Nat} : IS (.slice (some ⟨g, 0, none⟩) 3 3) [1, 2, 1] [⟨g, #[.int .i64 1, .int .i64 2, .int .i64 1], 3, true⟩] := ⟨rfl, .inr ⟨g, 3, [], rfl, rfl, Nat.le_refl _, by simp [maxLen], rfl⟩⟩
/-! ### What the examples' calls make of heap, paint and stack -/
def wkM : Nat → Hp
  | 0 => nwH 6 1
  | k + 1 => mkT (wkM k) 4 false
theorem wkM0 : nwE 6 1 = 0 := by decide
theorem wkM1 : mkR (wkM 0) 4 false = (0, 1) ∧ mkE (wkM 0) 4 false = 0 := by decide +kernel
theorem wkM2 : mkR (wkM 1) 4 false = (1, 1) ∧ mkE (wkM 1) 4 false = 0 := by decide +kernel
theorem wkM3 : mkR (wkM 2) 4 false = (2, 1) ∧ mkE (wkM 2) 4 false = 0 := by decide +kernel
def wkRow : Nat → Int × Int × Int
  | 0 => (0, 0, 1)
  | 1 => (0, 2, 2)
  | 2 => (0, 3, 1)
  | _ => (2, 1, 0)
def wkS : Nat → Hp
  | 0 => wkM 3
  | k + 1 => stT (wkS k) (wkRow k).1 1 (wkRow k).2.1 ((wkRow k).2.2, 1)
def wkR (k : Nat) : Int × Int := stR (wkS k) (wkRow k).1 1 (wkRow k).2.1 ((wkRow k).2.2, 1)
theorem wkE0 : stE (wkS 0) 0 1 0 (1, 1) = 0 := by decide +kernel
theorem wkE1 : stE (wkS 1) 0 1 2 (2, 1) = 0 := by decide +kernel
theorem wkE2 : stE (wkS 2) 0 1 3 (1, 1) = 0 := by decide +kernel
theorem wkE3 : stE (wkS 3) 2 1 1 (0, 1) = 0 := by decide +kernel
theorem wkCh : chdR (wkS 4) 0 1 = [1, 2, 1] ∧ wiH (wkS 4) 0 1 = 0 := by decide +kernel
def wkT0 : Cq := nwC 3
def wkU0 : Sq := nwS 1
def wkT1 : Cq := skT wkT0 wkU0 0
def wkU1 : Sq := skS wkT0 wkU0 0
theorem wkF1 : skB wkT0 wkU0 0 = true ∧ skE wkT0 wkU0 0 = 0 := by decide +kernel
def wkT2 : Cq := scT (wkS 4) wkT1 wkU1 1 1
def wkU2 : Sq := scS (wkS 4) wkT1 wkU1 1 1
theorem wkF2 : scN (wkS 4) wkT1 wkU1 1 1 = 0 ∧ scE (wkS 4) wkT1 wkU1 1 1 = 8 := by decide +kernel
def wkU3 : Sq := ppT wkU2
def wkT4 : Cq := scT (wkS 4) wkT2 wkU3 0 1
def wkU4 : Sq := scS (wkS 4) wkT2 wkU3 0 1
theorem wkF4 : scN (wkS 4) wkT2 wkU3 0 1 = 2 ∧ scE (wkS 4) wkT2 wkU3 0 1 = 0 := by decide +kernel
theorem wkF4d : dnB wkT4 wkU4 = false ∧ dnE wkT4 wkU4 = 0 := by decide +kernel
theorem wkF4s : soR (wkS 4) wkT4 = (true, 0) := by decide +kernel
def wkU5 : Sq := rsS wkT4 wkU4 2
theorem wkF5 : rsE wkT4 wkU4 2 = 4 ∧ ovS wkU5 = true := by decide +kernel
def wkU6 : Sq := ppT wkU5
def wkT7 : Cq := scT (wkS 4) wkT4 wkU6 1 1
def wkU7 : Sq := scS (wkS 4) wkT4 wkU6 1 1
theorem wkF7 : scN (wkS 4) wkT4 wkU6 1 1 = 0 ∧ scE (wkS 4) wkT4 wkU6 1 1 = 0 := by decide +kernel
def wkU8 : Sq := rsS wkT7 wkU7 0
theorem wkF8 : rsI wkT7 wkU7 0 = 2 ∧ rsB wkT7 wkU7 0 = true ∧ rsE wkT7 wkU7 0 = 0 := by decide +kernel
def wkU9 : Sq := ppT wkU8
def wkTA : Cq := scT (wkS 4) wkT7 wkU9 2 1
def wkUA : Sq := scS (wkS 4) wkT7 wkU9 2 1
theorem wkFA : scN (wkS 4) wkT7 wkU9 2 1 = 0 ∧ scE (wkS 4) wkT7 wkU9 2 1 = 0 := by decide +kernel
theorem wkFAd : dnB wkTA wkUA = true ∧ dnE wkTA wkUA = 0 := by decide +kernel
set_option maxHeartbeats 8000000 in
set_option maxRecDepth 100000 in
theorem works_ok (hO : St w0 bs w H) (hR : ∀ w', St w0 bs w' H → Ret R (.bool true) w') : Calls Tryz.prog 4 #[] w R := by
  have hS := hO
  clear hO
  go_enter Tryz.func4, Tryz.ntmps4
  go_wp2_with (first | (go_at_call 5; (with_reducible refine hp_new hS 6 1 (by decide) (wkM 0) 0 rfl wkM0 ?_); clear hS; intro ph E0 w hH hS; unfold Ret) | (go_at_call 6; (with_reducible refine pn_new hS 3 wkT0 0 rfl (by decide) ?_); clear hS; intro q E1 w hT hS; unfold Ret) | (go_at_call 7; (with_reducible refine sq_new hS 1 wkU0 0 rfl (by decide) ?_); clear hS; intro r E2 w hU hS; unfold Ret) | (refine wpList_is (.alloc 66) rfl ?_; go_must (refine wpList_stp (by kernel_rfl) (stp_al _ rfl hS ?_)); clear hS; intro b7 w _ hS))
  have hS0 : St w0 bs _ (⟨b7, ar3 0, 66, true⟩ :: (E0 ++ (E1 ++ (E2 ++ H)))) := hS.pick
  have hH0 := hH
  clear hS hH
  go_loopw [46] (fun u wr => ∃ (k : Nat) (E0 : List Ent), k ≤ 3 ∧ u = .int .i64 k ∧ HA ph (wkM k) E0 ∧ St w0 bs wr (⟨b7, ar3 k, 66, true⟩ :: (E0 ++ (E1 ++ (E2 ++ H))))) (fun u _ => 3 - (intOf u).toNat)
  case atStart => exact ⟨0, E0, by omega, rfl, hH0, hS0⟩
  case round =>
    clear hS0 hH0
    obtain ⟨k, E0, hk, rfl, hH, hS⟩ := hrel
    by_cases hlt : k < 3
    · have ix := idxA3 (b := b7) (off := 0) hlt
      obtain rfl | rfl | rfl : k = 0 ∨ k = 1 ∨ k = 2 := by omega
      · have hst := ar3_set0
        go_wp2_with (first | (go_at_call 11; (with_reducible refine hp_make hS hH 4 false (wkM 1) _ _ rfl wkM1.1 wkM1.2 ?_); clear hS hH; intro E0 w hH hS; unfold Ret) | (refine wpList_is (.indexAddr _ _ _) rfl ?_; refine wpList_stp (by kernel_rfl) (stp_val (run_idxv _ _ _ rfl) ?_)) | (refine wpList_is (.store _ _ _) rfl ?_; go_must ((refine wpList_stp (by kernel_rfl) (stp_sta _ _ _ rfl hS ?_))); clear hS; intro w hS))
        go_roundw
        case rel => exact ⟨1, E0, by omega, rfl, hH, hS.pick⟩
        case measure => simp [intOf]
      · have hst := ar3_set1
        go_wp2_with (first | (go_at_call 11; (with_reducible refine hp_make hS hH 4 false (wkM 2) _ _ rfl wkM2.1 wkM2.2 ?_); clear hS hH; intro E0 w hH hS; unfold Ret) | (refine wpList_is (.indexAddr _ _ _) rfl ?_; refine wpList_stp (by kernel_rfl) (stp_val (run_idxv _ _ _ rfl) ?_)) | (refine wpList_is (.store _ _ _) rfl ?_; go_must ((refine wpList_stp (by kernel_rfl) (stp_sta _ _ _ rfl hS ?_))); clear hS; intro w hS))
        go_roundw
        case rel => exact ⟨2, E0, by omega, rfl, hH, hS.pick⟩
        case measure => simp [intOf]
      · have hst := ar3_set2
        go_wp2_with (first | (go_at_call 11; (with_reducible refine hp_make hS hH 4 false (wkM 3) _ _ rfl wkM3.1 wkM3.2 ?_); clear hS hH; intro E0 w hH hS; unfold Ret) | (refine wpList_is (.indexAddr _ _ _) rfl ?_; refine wpList_stp (by kernel_rfl) (stp_val (run_idxv _ _ _ rfl) ?_)) | (refine wpList_is (.store _ _ _) rfl ?_; go_must ((refine wpList_stp (by kernel_rfl) (stp_sta _ _ _ rfl hS ?_))); clear hS; intro w hS))
        go_roundw
        case rel => exact ⟨3, E0, by omega, rfl, hH, hS.pick⟩
        case measure => simp [intOf]
    · obtain rfl : k = 3 := by omega
      go_wp2_with (first | (refine wpList_is (.buildSlice _ _ _) rfl ?_; go_must (refine wpList_stp (by kernel_rfl) (stp_bsl _ _ _ rfl hS (by decide) rfl (by decide) (by decide) ?_)); clear hS; intro bz w _ hS) | (refine wpList_is (.call { callee := .builtin .len, args := #[_], argTypes := #[_] }) rfl ?_; refine wpList_stp (by kernel_rfl) (stp_val (run_lenv (hl := lenS3) _ _ rfl) ?_)) | (refine wpList_is (.build _ _) rfl ?_; go_must (refine wpList_stp (by kernel_rfl) (stp_val (run_bd _ _ rfl) ?_))))
      have hS : St w0 bs _ (⟨bz, wkC, 67, true⟩ :: ⟨b7, ar3 3, 66, true⟩ :: (E0 ++ (E1 ++ (E2 ++ H)))) := hS
      have hS0 : St w0 bs _ (⟨b7, ar3 3, 66, true⟩ :: ⟨bz, wkC, 67, true⟩ :: (E0 ++ (E1 ++ (E2 ++ H)))) := hS.pick
      have hH0 := hH
      obtain ⟨wo, hwo⟩ : ∃ wo : World, wo = w := ⟨_, rfl⟩
      clear hS hH hwo
      go_loopw [65] (fun u wr => ∃ (k : Nat) (E0 : List Ent), k ≤ 4 ∧ u = .int .i64 k ∧ HA ph (wkS k) E0 ∧ St w0 bs wr (⟨b7, ar3 3, 66, true⟩ :: ⟨bz, wkC, 67, true⟩ :: (E0 ++ (E1 ++ (E2 ++ H))))) (fun u _ => 4 - (intOf u).toNat)
      case atStart => exact ⟨0, E0, by omega, rfl, hH0, hS0⟩
      case round =>
        clear hS0 hH0
        obtain ⟨k, E0, hk, rfl, hH, hS⟩ := hrel
        by_cases hlt : k < 4
        · have ixs := idxS3 (b := bz) hlt
          obtain rfl | rfl | rfl | rfl : k = 0 ∨ k = 1 ∨ k = 2 ∨ k = 3 := by omega
          · have hca := wkC_at0
            have a0 := ar3_at0
            have a1 := ar3_at1
            have i0 : IdxV Tryz.prog 66 (.pointer (some ⟨b7, 0, none⟩)) 0 ⟨b7, 0, none⟩ := idxA3 (i := 0) (by decide)
            have i1 : IdxV Tryz.prog 66 (.pointer (some ⟨b7, 0, none⟩)) 1 ⟨b7, 2, none⟩ := idxA3 (i := 1) (by decide)
            go_wp2_with (first | (refine wpList_is (.alloc 67) rfl ?_; go_must (refine wpList_stp (by kernel_rfl) (stp_al _ rfl hS ?_)); clear hS; intro b10 w _ hS) | (refine wpList_is (.indexAddr _ _ _) rfl ?_; refine wpList_stp (by kernel_rfl) (stp_val (run_idxv _ _ _ rfl) ?_)) | (refine wpList_is (.load _ _) rfl ?_; go_must ((refine wpList_stp (by kernel_rfl) (stp_val (run_lda _ _ rfl hS) ?_)))) | (refine wpList_is (.store _ _ _) rfl ?_; go_must ((refine wpList_stp (by kernel_rfl) (stp_sta _ _ _ rfl hS ?_))); clear hS; intro w hS))
            have j0 : IdxV Tryz.prog 67 (.pointer (some ⟨b10, 0, none⟩)) 0 ⟨b10, 0, none⟩ := idxI3 (i := 0) (by decide)
            have j1 : IdxV Tryz.prog 67 (.pointer (some ⟨b10, 0, none⟩)) 1 ⟨b10, 1, none⟩ := idxI3 (i := 1) (by decide)
            have j2 : IdxV Tryz.prog 67 (.pointer (some ⟨b10, 0, none⟩)) 2 ⟨b10, 2, none⟩ := idxI3 (i := 2) (by decide)
            have hS : St w0 bs _ (E0 ++ (⟨b7, ar3 3, 66, true⟩ :: ⟨b10, #[.int .i64 0, .int .i64 0, .int .i64 1], 67, true⟩ :: ⟨bz, wkC, 67, true⟩ :: (E1 ++ (E2 ++ H)))) := hS.pick
            refine region_itemsE [⟨(undef, E0), [(11, fun _ x => HA ph (wkS 1) x.2)]⟩, ⟨(undef, []), [(15, fun _ x => ∃ b, x = (.pointer (some ⟨b, 0, none⟩), [⟨b, #[.int .i64 0, .int .u32 0], 47, true⟩])), (16, fun y x => ∃ b, y.1 = .pointer (some ⟨b, 0, none⟩) ∧ x.2 = [⟨b, #[.int .i64 (wkR 0).1, .int .u32 (wkR 0).2], 47, true⟩])]⟩]
              (⟨b7, ar3 3, 66, true⟩ :: ⟨b10, #[.int .i64 0, .int .i64 0, .int .i64 1], 67, true⟩ :: ⟨bz, wkC, 67, true⟩ :: (E1 ++ (E2 ++ H))) (E0 ++ (⟨b7, ar3 3, 66, true⟩ :: ⟨b10, #[.int .i64 0, .int .i64 0, .int .i64 1], 67, true⟩ :: ⟨bz, wkC, 67, true⟩ :: (E1 ++ (E2 ++ H)))) (by simp) hS (by kernel_rfl) (by kernel_rfl) ?_
            refine fx_val (fun _ => rfl) rfl (fun χ w hw => run_mv _ rfl) ?_
            refine fx_val (fun _ => rfl) rfl (fun χ w hw => run_idxv _ _ _ rfl) ?_
            (refine fx_val (fun _ => rfl) rfl (fun χ w hw => run_ld _ _ rfl hw) ?_)
            refine fx_val (fun _ => rfl) rfl (fun χ w hw => run_idxv _ _ _ rfl) ?_
            (refine fx_val (fun _ => rfl) rfl (fun χ w hw => run_lda _ _ rfl hw) ?_)
            refine fx_val (fun _ => rfl) rfl (fun χ w hw => run_idxv _ _ _ rfl) ?_
            (refine fx_val (fun _ => rfl) rfl (fun χ w hw => run_ld _ _ rfl hw) ?_)
            refine fx_val (fun _ => rfl) rfl (fun χ w hw => run_idxv _ _ _ rfl) ?_
            (refine fx_val (fun _ => rfl) rfl (fun χ w hw => run_ld _ _ rfl hw) ?_)
            refine fx_val (fun _ => rfl) rfl (fun χ w hw => run_idxv _ _ _ rfl) ?_
            (refine fx_val (fun _ => rfl) rfl (fun χ w hw => run_lda _ _ rfl hw) ?_)
            refine fx_turn 0 0 rfl rfl (by kernel_rfl) (by kernel_rfl) (by kernel_rfl) 13 [_, _, _, _] _ rfl (fun _ => rfl) (enters _ (by kernel_rfl)) (fun _ => .tuple #[.agg #[.int .i64 (wkR 0).1, .int .u32 (wkR 0).2], .int .i64 0]) ?_ ?_
            · intro χ X w _ hS
              exact hp_store (show St w0 bs w (E0 ++ (X ++ _)) from hS) hH 0 1 0 1 1 (by decide) _ _ _ rfl rfl wkE0 (fun E' w' hT' hS' => ⟨(undef, E'), rfl, hT', show St w0 bs w' (E' ++ (X ++ _)) from hS'.pick⟩)
            refine fx_val (fun _ => rfl) rfl (fun χ w hw => run_mv _ rfl) ?_
            refine fx_val (fun _ => rfl) rfl (fun χ w hw => run_ext _ _ rfl) ?_
            refine fx_val (fun _ => rfl) rfl (fun χ w hw => run_ext _ _ rfl) ?_
            refine fx_turn0 1 0 rfl rfl (by kernel_rfl) (by kernel_rfl) (by kernel_rfl) (fun _ => rfl) (fun x => x.1) ?_ ?_
            · intro χ X w _ hS
              exact stepX_al _ rfl (show St w0 bs w (X ++ _) from hS) (fun b w' _ hS' => ⟨(_, [_]), rfl, ⟨b, rfl⟩, hS'⟩)
            refine fx_turn0 1 1 rfl rfl (by kernel_rfl) (by kernel_rfl) (by kernel_rfl) (fun _ => rfl) (fun _ => undef) ?_ ?_
            · rintro χ X w ⟨⟨b, hb⟩, _⟩ hS
              have hS : St w0 bs w ((χ 15).2 ++ (X ++ _)) := hS
              rw [hb] at hS
              have hS : St w0 bs w (⟨b, #[.int .i64 0, .int .u32 0], 47, true⟩ :: (X ++ _)) := hS
              have hb1 : (χ 15).1 = .pointer (some ⟨b, 0, none⟩) := by rw [hb]
              exact stepX_stb _ _ _ rfl hS hb1 (fun w' hS' => ⟨(undef, [⟨b, #[.int .i64 (wkR 0).1, .int .u32 (wkR 0).2], 47, true⟩]), rfl, ⟨b, hb1, rfl⟩, hS'⟩)
            refine fx_val (fun _ => rfl) rfl (fun χ w hw => run_as _ rfl) ?_
            refine fx_end rfl ?_
            intro χ w hok hS
            obtain ⟨hH2, _⟩ := hok _ (.head _)
            have hH2 : HA ph (wkS 1) (χ 11).2 := hH2
            obtain ⟨⟨b11, hb0⟩, ⟨_, hbx, hc0⟩, _⟩ := hok _ (.tail _ (.head _))
            rw [hb0] at hbx
            obtain ⟨⟩ := hbx
            have hS : St w0 bs w (((χ 11).2 ++ ((χ 16).2 ++ [])) ++ (⟨b7, ar3 3, 66, true⟩ :: ⟨b10, #[.int .i64 0, .int .i64 0, .int .i64 1], 67, true⟩ :: ⟨bz, wkC, 67, true⟩ :: (E1 ++ (E2 ++ H)))) := hS
            rw [hc0, List.append_nil, List.append_assoc] at hS
            generalize (χ 11).2 = E0 at hS hH2
            simp only [hb0]
            simp only [List.cons_append, List.nil_append, List.append_assoc] at hS
            clear hok hb0 hc0
            go_wp2_with ((go_skip))
            go_roundw
            case rel => exact ⟨1, E0, by omega, rfl, hH2, hS.pick⟩
            case measure => simp [intOf]
          · have hca := wkC_at1
            have a0 := ar3_at0
            have a1 := ar3_at2
            have i0 : IdxV Tryz.prog 66 (.pointer (some ⟨b7, 0, none⟩)) 0 ⟨b7, 0, none⟩ := idxA3 (i := 0) (by decide)
            have i1 : IdxV Tryz.prog 66 (.pointer (some ⟨b7, 0, none⟩)) 2 ⟨b7, 4, none⟩ := idxA3 (i := 2) (by decide)
            go_wp2_with (first | (refine wpList_is (.alloc 67) rfl ?_; go_must (refine wpList_stp (by kernel_rfl) (stp_al _ rfl hS ?_)); clear hS; intro b10 w _ hS) | (refine wpList_is (.indexAddr _ _ _) rfl ?_; refine wpList_stp (by kernel_rfl) (stp_val (run_idxv _ _ _ rfl) ?_)) | (refine wpList_is (.load _ _) rfl ?_; go_must ((refine wpList_stp (by kernel_rfl) (stp_val (run_lda _ _ rfl hS) ?_)))) | (refine wpList_is (.store _ _ _) rfl ?_; go_must ((refine wpList_stp (by kernel_rfl) (stp_sta _ _ _ rfl hS ?_))); clear hS; intro w hS))
            have j0 : IdxV Tryz.prog 67 (.pointer (some ⟨b10, 0, none⟩)) 0 ⟨b10, 0, none⟩ := idxI3 (i := 0) (by decide)
            have j1 : IdxV Tryz.prog 67 (.pointer (some ⟨b10, 0, none⟩)) 1 ⟨b10, 1, none⟩ := idxI3 (i := 1) (by decide)
            have j2 : IdxV Tryz.prog 67 (.pointer (some ⟨b10, 0, none⟩)) 2 ⟨b10, 2, none⟩ := idxI3 (i := 2) (by decide)
            have hS : St w0 bs _ (E0 ++ (⟨b7, ar3 3, 66, true⟩ :: ⟨b10, #[.int .i64 0, .int .i64 2, .int .i64 2], 67, true⟩ :: ⟨bz, wkC, 67, true⟩ :: (E1 ++ (E2 ++ H)))) := hS.pick
            refine region_itemsE [⟨(undef, E0), [(11, fun _ x => HA ph (wkS 2) x.2)]⟩, ⟨(undef, []), [(15, fun _ x => ∃ b, x = (.pointer (some ⟨b, 0, none⟩), [⟨b, #[.int .i64 0, .int .u32 0], 47, true⟩])), (16, fun y x => ∃ b, y.1 = .pointer (some ⟨b, 0, none⟩) ∧ x.2 = [⟨b, #[.int .i64 (wkR 1).1, .int .u32 (wkR 1).2], 47, true⟩])]⟩]
              (⟨b7, ar3 3, 66, true⟩ :: ⟨b10, #[.int .i64 0, .int .i64 2, .int .i64 2], 67, true⟩ :: ⟨bz, wkC, 67, true⟩ :: (E1 ++ (E2 ++ H))) (E0 ++ (⟨b7, ar3 3, 66, true⟩ :: ⟨b10, #[.int .i64 0, .int .i64 2, .int .i64 2], 67, true⟩ :: ⟨bz, wkC, 67, true⟩ :: (E1 ++ (E2 ++ H)))) (by simp) hS (by kernel_rfl) (by kernel_rfl) ?_
            refine fx_val (fun _ => rfl) rfl (fun χ w hw => run_mv _ rfl) ?_
            refine fx_val (fun _ => rfl) rfl (fun χ w hw => run_idxv _ _ _ rfl) ?_
            (refine fx_val (fun _ => rfl) rfl (fun χ w hw => run_ld _ _ rfl hw) ?_)
            refine fx_val (fun _ => rfl) rfl (fun χ w hw => run_idxv _ _ _ rfl) ?_
            (refine fx_val (fun _ => rfl) rfl (fun χ w hw => run_lda _ _ rfl hw) ?_)
            refine fx_val (fun _ => rfl) rfl (fun χ w hw => run_idxv _ _ _ rfl) ?_
            (refine fx_val (fun _ => rfl) rfl (fun χ w hw => run_ld _ _ rfl hw) ?_)
            refine fx_val (fun _ => rfl) rfl (fun χ w hw => run_idxv _ _ _ rfl) ?_
            (refine fx_val (fun _ => rfl) rfl (fun χ w hw => run_ld _ _ rfl hw) ?_)
            refine fx_val (fun _ => rfl) rfl (fun χ w hw => run_idxv _ _ _ rfl) ?_
            (refine fx_val (fun _ => rfl) rfl (fun χ w hw => run_lda _ _ rfl hw) ?_)
            refine fx_turn 0 0 rfl rfl (by kernel_rfl) (by kernel_rfl) (by kernel_rfl) 13 [_, _, _, _] _ rfl (fun _ => rfl) (enters _ (by kernel_rfl)) (fun _ => .tuple #[.agg #[.int .i64 (wkR 1).1, .int .u32 (wkR 1).2], .int .i64 0]) ?_ ?_
            · intro χ X w _ hS
              exact hp_store (show St w0 bs w (E0 ++ (X ++ _)) from hS) hH 0 1 2 2 1 (by decide) _ _ _ rfl rfl wkE1 (fun E' w' hT' hS' => ⟨(undef, E'), rfl, hT', show St w0 bs w' (E' ++ (X ++ _)) from hS'.pick⟩)
            refine fx_val (fun _ => rfl) rfl (fun χ w hw => run_mv _ rfl) ?_
            refine fx_val (fun _ => rfl) rfl (fun χ w hw => run_ext _ _ rfl) ?_
            refine fx_val (fun _ => rfl) rfl (fun χ w hw => run_ext _ _ rfl) ?_
            refine fx_turn0 1 0 rfl rfl (by kernel_rfl) (by kernel_rfl) (by kernel_rfl) (fun _ => rfl) (fun x => x.1) ?_ ?_
            · intro χ X w _ hS
              exact stepX_al _ rfl (show St w0 bs w (X ++ _) from hS) (fun b w' _ hS' => ⟨(_, [_]), rfl, ⟨b, rfl⟩, hS'⟩)
            refine fx_turn0 1 1 rfl rfl (by kernel_rfl) (by kernel_rfl) (by kernel_rfl) (fun _ => rfl) (fun _ => undef) ?_ ?_
            · rintro χ X w ⟨⟨b, hb⟩, _⟩ hS
              have hS : St w0 bs w ((χ 15).2 ++ (X ++ _)) := hS
              rw [hb] at hS
              have hS : St w0 bs w (⟨b, #[.int .i64 0, .int .u32 0], 47, true⟩ :: (X ++ _)) := hS
              have hb1 : (χ 15).1 = .pointer (some ⟨b, 0, none⟩) := by rw [hb]
              exact stepX_stb _ _ _ rfl hS hb1 (fun w' hS' => ⟨(undef, [⟨b, #[.int .i64 (wkR 1).1, .int .u32 (wkR 1).2], 47, true⟩]), rfl, ⟨b, hb1, rfl⟩, hS'⟩)
            refine fx_val (fun _ => rfl) rfl (fun χ w hw => run_as _ rfl) ?_
            refine fx_end rfl ?_
            intro χ w hok hS
            obtain ⟨hH2, _⟩ := hok _ (.head _)
            have hH2 : HA ph (wkS 2) (χ 11).2 := hH2
            obtain ⟨⟨b11, hb0⟩, ⟨_, hbx, hc0⟩, _⟩ := hok _ (.tail _ (.head _))
            rw [hb0] at hbx
            obtain ⟨⟩ := hbx
            have hS : St w0 bs w (((χ 11).2 ++ ((χ 16).2 ++ [])) ++ (⟨b7, ar3 3, 66, true⟩ :: ⟨b10, #[.int .i64 0, .int .i64 2, .int .i64 2], 67, true⟩ :: ⟨bz, wkC, 67, true⟩ :: (E1 ++ (E2 ++ H)))) := hS
            rw [hc0, List.append_nil, List.append_assoc] at hS
            generalize (χ 11).2 = E0 at hS hH2
            simp only [hb0]
            simp only [List.cons_append, List.nil_append, List.append_assoc] at hS
            clear hok hb0 hc0
            go_wp2_with ((go_skip))
            go_roundw
            case rel => exact ⟨2, E0, by omega, rfl, hH2, hS.pick⟩
            case measure => simp [intOf]
          · have hca := wkC_at2
            have a0 := ar3_at0
            have a1 := ar3_at1
            have i0 : IdxV Tryz.prog 66 (.pointer (some ⟨b7, 0, none⟩)) 0 ⟨b7, 0, none⟩ := idxA3 (i := 0) (by decide)
            have i1 : IdxV Tryz.prog 66 (.pointer (some ⟨b7, 0, none⟩)) 1 ⟨b7, 2, none⟩ := idxA3 (i := 1) (by decide)
            go_wp2_with (first | (refine wpList_is (.alloc 67) rfl ?_; go_must (refine wpList_stp (by kernel_rfl) (stp_al _ rfl hS ?_)); clear hS; intro b10 w _ hS) | (refine wpList_is (.indexAddr _ _ _) rfl ?_; refine wpList_stp (by kernel_rfl) (stp_val (run_idxv _ _ _ rfl) ?_)) | (refine wpList_is (.load _ _) rfl ?_; go_must ((refine wpList_stp (by kernel_rfl) (stp_val (run_lda _ _ rfl hS) ?_)))) | (refine wpList_is (.store _ _ _) rfl ?_; go_must ((refine wpList_stp (by kernel_rfl) (stp_sta _ _ _ rfl hS ?_))); clear hS; intro w hS))
            have j0 : IdxV Tryz.prog 67 (.pointer (some ⟨b10, 0, none⟩)) 0 ⟨b10, 0, none⟩ := idxI3 (i := 0) (by decide)
            have j1 : IdxV Tryz.prog 67 (.pointer (some ⟨b10, 0, none⟩)) 1 ⟨b10, 1, none⟩ := idxI3 (i := 1) (by decide)
            have j2 : IdxV Tryz.prog 67 (.pointer (some ⟨b10, 0, none⟩)) 2 ⟨b10, 2, none⟩ := idxI3 (i := 2) (by decide)
            have hS : St w0 bs _ (E0 ++ (⟨b7, ar3 3, 66, true⟩ :: ⟨b10, #[.int .i64 0, .int .i64 3, .int .i64 1], 67, true⟩ :: ⟨bz, wkC, 67, true⟩ :: (E1 ++ (E2 ++ H)))) := hS.pick
            refine region_itemsE [⟨(undef, E0), [(11, fun _ x => HA ph (wkS 3) x.2)]⟩, ⟨(undef, []), [(15, fun _ x => ∃ b, x = (.pointer (some ⟨b, 0, none⟩), [⟨b, #[.int .i64 0, .int .u32 0], 47, true⟩])), (16, fun y x => ∃ b, y.1 = .pointer (some ⟨b, 0, none⟩) ∧ x.2 = [⟨b, #[.int .i64 (wkR 2).1, .int .u32 (wkR 2).2], 47, true⟩])]⟩]
              (⟨b7, ar3 3, 66, true⟩ :: ⟨b10, #[.int .i64 0, .int .i64 3, .int .i64 1], 67, true⟩ :: ⟨bz, wkC, 67, true⟩ :: (E1 ++ (E2 ++ H))) (E0 ++ (⟨b7, ar3 3, 66, true⟩ :: ⟨b10, #[.int .i64 0, .int .i64 3, .int .i64 1], 67, true⟩ :: ⟨bz, wkC, 67, true⟩ :: (E1 ++ (E2 ++ H)))) (by simp) hS (by kernel_rfl) (by kernel_rfl) ?_
            refine fx_val (fun _ => rfl) rfl (fun χ w hw => run_mv _ rfl) ?_
            refine fx_val (fun _ => rfl) rfl (fun χ w hw => run_idxv _ _ _ rfl) ?_
            (refine fx_val (fun _ => rfl) rfl (fun χ w hw => run_ld _ _ rfl hw) ?_)
            refine fx_val (fun _ => rfl) rfl (fun χ w hw => run_idxv _ _ _ rfl) ?_
            (refine fx_val (fun _ => rfl) rfl (fun χ w hw => run_lda _ _ rfl hw) ?_)
            refine fx_val (fun _ => rfl) rfl (fun χ w hw => run_idxv _ _ _ rfl) ?_
            (refine fx_val (fun _ => rfl) rfl (fun χ w hw => run_ld _ _ rfl hw) ?_)
            refine fx_val (fun _ => rfl) rfl (fun χ w hw => run_idxv _ _ _ rfl) ?_
            (refine fx_val (fun _ => rfl) rfl (fun χ w hw => run_ld _ _ rfl hw) ?_)
            refine fx_val (fun _ => rfl) rfl (fun χ w hw => run_idxv _ _ _ rfl) ?_
            (refine fx_val (fun _ => rfl) rfl (fun χ w hw => run_lda _ _ rfl hw) ?_)
            refine fx_turn 0 0 rfl rfl (by kernel_rfl) (by kernel_rfl) (by kernel_rfl) 13 [_, _, _, _] _ rfl (fun _ => rfl) (enters _ (by kernel_rfl)) (fun _ => .tuple #[.agg #[.int .i64 (wkR 2).1, .int .u32 (wkR 2).2], .int .i64 0]) ?_ ?_
            · intro χ X w _ hS
              exact hp_store (show St w0 bs w (E0 ++ (X ++ _)) from hS) hH 0 1 3 1 1 (by decide) _ _ _ rfl rfl wkE2 (fun E' w' hT' hS' => ⟨(undef, E'), rfl, hT', show St w0 bs w' (E' ++ (X ++ _)) from hS'.pick⟩)
            refine fx_val (fun _ => rfl) rfl (fun χ w hw => run_mv _ rfl) ?_
            refine fx_val (fun _ => rfl) rfl (fun χ w hw => run_ext _ _ rfl) ?_
            refine fx_val (fun _ => rfl) rfl (fun χ w hw => run_ext _ _ rfl) ?_
            refine fx_turn0 1 0 rfl rfl (by kernel_rfl) (by kernel_rfl) (by kernel_rfl) (fun _ => rfl) (fun x => x.1) ?_ ?_
            · intro χ X w _ hS
              exact stepX_al _ rfl (show St w0 bs w (X ++ _) from hS) (fun b w' _ hS' => ⟨(_, [_]), rfl, ⟨b, rfl⟩, hS'⟩)
            refine fx_turn0 1 1 rfl rfl (by kernel_rfl) (by kernel_rfl) (by kernel_rfl) (fun _ => rfl) (fun _ => undef) ?_ ?_
            · rintro χ X w ⟨⟨b, hb⟩, _⟩ hS
              have hS : St w0 bs w ((χ 15).2 ++ (X ++ _)) := hS
              rw [hb] at hS
              have hS : St w0 bs w (⟨b, #[.int .i64 0, .int .u32 0], 47, true⟩ :: (X ++ _)) := hS
              have hb1 : (χ 15).1 = .pointer (some ⟨b, 0, none⟩) := by rw [hb]
              exact stepX_stb _ _ _ rfl hS hb1 (fun w' hS' => ⟨(undef, [⟨b, #[.int .i64 (wkR 2).1, .int .u32 (wkR 2).2], 47, true⟩]), rfl, ⟨b, hb1, rfl⟩, hS'⟩)
            refine fx_val (fun _ => rfl) rfl (fun χ w hw => run_as _ rfl) ?_
            refine fx_end rfl ?_
            intro χ w hok hS
            obtain ⟨hH2, _⟩ := hok _ (.head _)
            have hH2 : HA ph (wkS 3) (χ 11).2 := hH2
            obtain ⟨⟨b11, hb0⟩, ⟨_, hbx, hc0⟩, _⟩ := hok _ (.tail _ (.head _))
            rw [hb0] at hbx
            obtain ⟨⟩ := hbx
            have hS : St w0 bs w (((χ 11).2 ++ ((χ 16).2 ++ [])) ++ (⟨b7, ar3 3, 66, true⟩ :: ⟨b10, #[.int .i64 0, .int .i64 3, .int .i64 1], 67, true⟩ :: ⟨bz, wkC, 67, true⟩ :: (E1 ++ (E2 ++ H)))) := hS
            rw [hc0, List.append_nil, List.append_assoc] at hS
            generalize (χ 11).2 = E0 at hS hH2
            simp only [hb0]
            simp only [List.cons_append, List.nil_append, List.append_assoc] at hS
            clear hok hb0 hc0
            go_wp2_with ((go_skip))
            go_roundw
            case rel => exact ⟨3, E0, by omega, rfl, hH2, hS.pick⟩
            case measure => simp [intOf]
          · have hca := wkC_at3
            have a0 := ar3_at2
            have a1 := ar3_at0
            have i0 : IdxV Tryz.prog 66 (.pointer (some ⟨b7, 0, none⟩)) 2 ⟨b7, 4, none⟩ := idxA3 (i := 2) (by decide)
            have i1 : IdxV Tryz.prog 66 (.pointer (some ⟨b7, 0, none⟩)) 0 ⟨b7, 0, none⟩ := idxA3 (i := 0) (by decide)
            go_wp2_with (first | (refine wpList_is (.alloc 67) rfl ?_; go_must (refine wpList_stp (by kernel_rfl) (stp_al _ rfl hS ?_)); clear hS; intro b10 w _ hS) | (refine wpList_is (.indexAddr _ _ _) rfl ?_; refine wpList_stp (by kernel_rfl) (stp_val (run_idxv _ _ _ rfl) ?_)) | (refine wpList_is (.load _ _) rfl ?_; go_must ((refine wpList_stp (by kernel_rfl) (stp_val (run_lda _ _ rfl hS) ?_)))) | (refine wpList_is (.store _ _ _) rfl ?_; go_must ((refine wpList_stp (by kernel_rfl) (stp_sta _ _ _ rfl hS ?_))); clear hS; intro w hS))
            have j0 : IdxV Tryz.prog 67 (.pointer (some ⟨b10, 0, none⟩)) 0 ⟨b10, 0, none⟩ := idxI3 (i := 0) (by decide)
            have j1 : IdxV Tryz.prog 67 (.pointer (some ⟨b10, 0, none⟩)) 1 ⟨b10, 1, none⟩ := idxI3 (i := 1) (by decide)
            have j2 : IdxV Tryz.prog 67 (.pointer (some ⟨b10, 0, none⟩)) 2 ⟨b10, 2, none⟩ := idxI3 (i := 2) (by decide)
            have hS : St w0 bs _ (E0 ++ (⟨b7, ar3 3, 66, true⟩ :: ⟨b10, #[.int .i64 2, .int .i64 1, .int .i64 0], 67, true⟩ :: ⟨bz, wkC, 67, true⟩ :: (E1 ++ (E2 ++ H)))) := hS.pick
            refine region_itemsE [⟨(undef, E0), [(11, fun _ x => HA ph (wkS 4) x.2)]⟩, ⟨(undef, []), [(15, fun _ x => ∃ b, x = (.pointer (some ⟨b, 0, none⟩), [⟨b, #[.int .i64 0, .int .u32 0], 47, true⟩])), (16, fun y x => ∃ b, y.1 = .pointer (some ⟨b, 0, none⟩) ∧ x.2 = [⟨b, #[.int .i64 (wkR 3).1, .int .u32 (wkR 3).2], 47, true⟩])]⟩]
              (⟨b7, ar3 3, 66, true⟩ :: ⟨b10, #[.int .i64 2, .int .i64 1, .int .i64 0], 67, true⟩ :: ⟨bz, wkC, 67, true⟩ :: (E1 ++ (E2 ++ H))) (E0 ++ (⟨b7, ar3 3, 66, true⟩ :: ⟨b10, #[.int .i64 2, .int .i64 1, .int .i64 0], 67, true⟩ :: ⟨bz, wkC, 67, true⟩ :: (E1 ++ (E2 ++ H)))) (by simp) hS (by kernel_rfl) (by kernel_rfl) ?_
            refine fx_val (fun _ => rfl) rfl (fun χ w hw => run_mv _ rfl) ?_
            refine fx_val (fun _ => rfl) rfl (fun χ w hw => run_idxv _ _ _ rfl) ?_
            (refine fx_val (fun _ => rfl) rfl (fun χ w hw => run_ld _ _ rfl hw) ?_)
            refine fx_val (fun _ => rfl) rfl (fun χ w hw => run_idxv _ _ _ rfl) ?_
            (refine fx_val (fun _ => rfl) rfl (fun χ w hw => run_lda _ _ rfl hw) ?_)
            refine fx_val (fun _ => rfl) rfl (fun χ w hw => run_idxv _ _ _ rfl) ?_
            (refine fx_val (fun _ => rfl) rfl (fun χ w hw => run_ld _ _ rfl hw) ?_)
            refine fx_val (fun _ => rfl) rfl (fun χ w hw => run_idxv _ _ _ rfl) ?_
            (refine fx_val (fun _ => rfl) rfl (fun χ w hw => run_ld _ _ rfl hw) ?_)
            refine fx_val (fun _ => rfl) rfl (fun χ w hw => run_idxv _ _ _ rfl) ?_
            (refine fx_val (fun _ => rfl) rfl (fun χ w hw => run_lda _ _ rfl hw) ?_)
            refine fx_turn 0 0 rfl rfl (by kernel_rfl) (by kernel_rfl) (by kernel_rfl) 13 [_, _, _, _] _ rfl (fun _ => rfl) (enters _ (by kernel_rfl)) (fun _ => .tuple #[.agg #[.int .i64 (wkR 3).1, .int .u32 (wkR 3).2], .int .i64 0]) ?_ ?_
            · intro χ X w _ hS
              exact hp_store (show St w0 bs w (E0 ++ (X ++ _)) from hS) hH 2 1 1 0 1 (by decide) _ _ _ rfl rfl wkE3 (fun E' w' hT' hS' => ⟨(undef, E'), rfl, hT', show St w0 bs w' (E' ++ (X ++ _)) from hS'.pick⟩)
            refine fx_val (fun _ => rfl) rfl (fun χ w hw => run_mv _ rfl) ?_
            refine fx_val (fun _ => rfl) rfl (fun χ w hw => run_ext _ _ rfl) ?_
            refine fx_val (fun _ => rfl) rfl (fun χ w hw => run_ext _ _ rfl) ?_
            refine fx_turn0 1 0 rfl rfl (by kernel_rfl) (by kernel_rfl) (by kernel_rfl) (fun _ => rfl) (fun x => x.1) ?_ ?_
            · intro χ X w _ hS
              exact stepX_al _ rfl (show St w0 bs w (X ++ _) from hS) (fun b w' _ hS' => ⟨(_, [_]), rfl, ⟨b, rfl⟩, hS'⟩)
            refine fx_turn0 1 1 rfl rfl (by kernel_rfl) (by kernel_rfl) (by kernel_rfl) (fun _ => rfl) (fun _ => undef) ?_ ?_
            · rintro χ X w ⟨⟨b, hb⟩, _⟩ hS
              have hS : St w0 bs w ((χ 15).2 ++ (X ++ _)) := hS
              rw [hb] at hS
              have hS : St w0 bs w (⟨b, #[.int .i64 0, .int .u32 0], 47, true⟩ :: (X ++ _)) := hS
              have hb1 : (χ 15).1 = .pointer (some ⟨b, 0, none⟩) := by rw [hb]
              exact stepX_stb _ _ _ rfl hS hb1 (fun w' hS' => ⟨(undef, [⟨b, #[.int .i64 (wkR 3).1, .int .u32 (wkR 3).2], 47, true⟩]), rfl, ⟨b, hb1, rfl⟩, hS'⟩)
            refine fx_val (fun _ => rfl) rfl (fun χ w hw => run_as _ rfl) ?_
            refine fx_end rfl ?_
            intro χ w hok hS
            obtain ⟨hH2, _⟩ := hok _ (.head _)
            have hH2 : HA ph (wkS 4) (χ 11).2 := hH2
            obtain ⟨⟨b11, hb0⟩, ⟨_, hbx, hc0⟩, _⟩ := hok _ (.tail _ (.head _))
            rw [hb0] at hbx
            obtain ⟨⟩ := hbx
            have hS : St w0 bs w (((χ 11).2 ++ ((χ 16).2 ++ [])) ++ (⟨b7, ar3 3, 66, true⟩ :: ⟨b10, #[.int .i64 2, .int .i64 1, .int .i64 0], 67, true⟩ :: ⟨bz, wkC, 67, true⟩ :: (E1 ++ (E2 ++ H)))) := hS
            rw [hc0, List.append_nil, List.append_assoc] at hS
            generalize (χ 11).2 = E0 at hS hH2
            simp only [hb0]
            simp only [List.cons_append, List.nil_append, List.append_assoc] at hS
            clear hok hb0 hc0
            go_wp2_with ((go_skip))
            go_roundw
            case rel => exact ⟨4, E0, by omega, rfl, hH2, hS.pick⟩
            case measure => simp [intOf]
        · obtain rfl : k = 4 := by omega
          have a0 := ar3_at0
          have a1 := ar3_at1
          have a2 := ar3_at2
          have i0 : IdxV Tryz.prog 66 (.pointer (some ⟨b7, 0, none⟩)) 0 ⟨b7, 0, none⟩ := idxA3 (i := 0) (by decide)
          have i1 : IdxV Tryz.prog 66 (.pointer (some ⟨b7, 0, none⟩)) 1 ⟨b7, 2, none⟩ := idxA3 (i := 1) (by decide)
          have i2 : IdxV Tryz.prog 66 (.pointer (some ⟨b7, 0, none⟩)) 2 ⟨b7, 4, none⟩ := idxA3 (i := 2) (by decide)
          go_wp2_with (first | (go_at_call 28; (with_reducible refine sc_children hS hH 0 1 _ _ wkCh.1 wkCh.2 ?_); clear hS; intro v Ev w hI _ hS; have hone := hI.one; unfold Ret) | (go_at_call 17; (with_reducible refine sc_shade hS hT hU 0 wkT1 wkU1 _ _ rfl rfl wkF1.1 wkF1.2 ?_); clear hS hT hU; intro E1 E2 w hT hU hS; unfold Ret) | (go_at_call 19; (with_reducible refine sc_scan hS hH hT hU 1 1 wkT2 wkU2 _ _ rfl rfl wkF2.1 wkF2.2 ?_); clear hS hT hU; intro E1 E2 w hT hU hS; unfold Ret) | (go_at_call 19; (with_reducible refine sc_scan hS hH hT hU 0 1 wkT4 wkU4 _ _ rfl rfl wkF4.1 wkF4.2 ?_); clear hS hT hU; intro E1 E2 w hT hU hS; unfold Ret) | (go_at_call 19; (with_reducible refine sc_scan hS hH hT hU 1 1 wkT7 wkU7 _ _ rfl rfl wkF7.1 wkF7.2 ?_); clear hS hT hU; intro E1 E2 w hT hU hS; unfold Ret) | (go_at_call 19; (with_reducible refine sc_scan hS hH hT hU 2 1 wkTA wkUA _ _ rfl rfl wkFA.1 wkFA.2 ?_); clear hS hT hU; intro E1 E2 w hT hU hS; unfold Ret) | (go_at_call 23; (with_reducible refine sq_pop hS hU wkU3 _ _ (show ppT wkU2 = wkU3 from rfl) rfl rfl ?_); clear hS hU; intro E2 w hU hS; unfold Ret) | (go_at_call 23; (with_reducible refine sq_pop hS hU wkU6 _ _ (show ppT wkU5 = wkU6 from rfl) rfl rfl ?_); clear hS hU; intro E2 w hU hS; unfold Ret) | (go_at_call 23; (with_reducible refine sq_pop hS hU wkU9 _ _ (show ppT wkU8 = wkU9 from rfl) rfl rfl ?_); clear hS hU; intro E2 w hU hS; unfold Ret) | (go_at_call 30; (with_reducible refine sc_done hS hT hU _ _ wkF4d.1 wkF4d.2 ?_); clear hS; intro w hS; unfold Ret) | (go_at_call 30; (with_reducible refine sc_done hS hT hU _ _ wkFAd.1 wkFAd.2 ?_); clear hS; intro w hS; unfold Ret) | (go_at_call 31; (with_reducible refine sc_sound hS hH hT _ _ wkF4s ?_); clear hS; intro w hS; unfold Ret) | (go_at_call 21; (with_reducible refine sc_rescan hS hT hU 2 wkU5 _ _ _ rfl rfl rfl wkF5.1 ?_); clear hS hU; intro E2 w hU hS; unfold Ret) | (go_at_call 21; (with_reducible refine sc_rescan hS hT hU 0 wkU8 _ _ _ rfl wkF8.1 wkF8.2.1 wkF8.2.2 ?_); clear hS hU; intro E2 w hU hS; unfold Ret) | (go_at_call 32; (with_reducible refine sq_over hS hU _ wkF5.2 ?_); clear hS; intro w hS; unfold Ret) | (go_at_call 29; go_must (refine is_equal (E1 := Ev) (E2 := [⟨bX, #[.int .i64 1, .int .i64 2, .int .i64 1], 3, true⟩]) (H1 := [⟨bX, #[.int .i64 1, .int .i64 2, .int .i64 1], 3, true⟩] ++ (⟨b7, ar3 3, 66, true⟩ :: ⟨bz, wkC, 67, true⟩ :: (E0 ++ (E1 ++ (E2 ++ H))))) (H2 := ⟨b7, ar3 3, 66, true⟩ :: ⟨bz, wkC, 67, true⟩ :: (E0 ++ (E1 ++ (E2 ++ H)))) (show St w0 bs w (Ev ++ ([⟨bX, #[.int .i64 1, .int .i64 2, .int .i64 1], 3, true⟩] ++ (⟨b7, ar3 3, 66, true⟩ :: ⟨bz, wkC, 67, true⟩ :: (E0 ++ (E1 ++ (E2 ++ H)))))) from by simp only [List.cons_append, List.nil_append]; exact hS.pick) hI isX (by decide) true (by decide) ?_); clear hS; intro w hS; simp only [List.cons_append, List.nil_append] at hS; unfold Ret) | (refine wpList_is (.buildSlice _ _ _) rfl ?_; go_must (refine wpList_stp (by kernel_rfl) (stp_bsl _ _ _ rfl hS (by decide) rfl (by decide) (by decide) ?_)); clear hS; intro bX w _ hS) | (refine wpList_is (.indexAddr _ _ _) rfl ?_; refine wpList_stp (by kernel_rfl) (stp_val (run_idxv _ _ _ rfl) ?_)) | (refine wpList_is (.load _ _) rfl ?_; go_must ((refine wpList_stp (by kernel_rfl) (stp_val (run_lda _ _ rfl hS) ?_)))))
          exact hR _ hS.pick
end Go.Proofs.YtgpjanfphgjbbaaGreat
