/-
  Arenas with what the statements know of them: play.
-/
import Derived.Test.YtjlihigodggfcaaWturn
import Derived.Test.YtjlihigodggfcaaBas
set_option linter.unusedSimpArgs false
set_option linter.unusedVariables false
namespace Go.Mm
theorem Base.stw {W w0 w : World} {bs : List Nat} {M : Nat} {ms : List (Value × Value)} {H : List Ent} (hB : Base W w0 bs M ms) (hS : St w0 bs w H) : St W [] w H := ⟨hB.all hS, hS.get, hS.nd, fun e he hw => .inr (hB.wrs hS e.b (mem_wb.2 ⟨e, he, hw, rfl⟩)).1⟩
end Go.Mm
namespace Go.Proofs.Ytjlihigodggfcaa
open Go Go.RowKit Go.Mm
variable {R : Ending → World → Prop} {w : World} {H : List Ent}

theorem bounds_u8L {n : Int} (h : (Lit.int .u8 n).wf = true) : 0 ≤ n ∧ n ≤ 255 := by
  simp [Lit.wf, IntKind.min, IntKind.max, IntKind.signed, IntKind.bits] at h
  omega
theorem tr5_cells {W : World} {v : Value} {n sb so : Nat} {F : Nat → Nat → Value} (hv : Flat W [.i .u8, .i .u8, .i .u8, .i .u8, .i .u8] v n sb so F) {i : Nat} (hlt : i < n) :
    ∃ a b c d e : Nat, (a ≤ 255 ∧ b ≤ 255 ∧ c ≤ 255 ∧ d ≤ 255 ∧ e ≤ 255) ∧ F i 0 = .int .u8 a ∧ F i 1 = .int .u8 b ∧ F i 2 = .int .u8 c ∧ F i 3 = .int .u8 d ∧ F i 4 = .int .u8 e := by
  obtain ⟨x, hx, wx⟩ := hv.int (i := i) (j := 0) hlt rfl
  obtain ⟨y, hy, wy⟩ := hv.int (i := i) (j := 1) hlt rfl
  obtain ⟨z, hz, wz⟩ := hv.int (i := i) (j := 2) hlt rfl
  obtain ⟨u, hu, wu⟩ := hv.int (i := i) (j := 3) hlt rfl
  obtain ⟨t, ht, wt⟩ := hv.int (i := i) (j := 4) hlt rfl
  have h1 := bounds_u8L wx
  have h2 := bounds_u8L wy
  have h3 := bounds_u8L wz
  have h4 := bounds_u8L wu
  have h5 := bounds_u8L wt
  refine ⟨x.toNat, y.toNat, z.toNat, u.toNat, t.toNat, by omega, ?_, ?_, ?_, ?_, ?_⟩
  · rw [hx, Int.toNat_of_nonneg h1.1]
  · rw [hy, Int.toNat_of_nonneg h2.1]
  · rw [hz, Int.toNat_of_nonneg h3.1]
  · rw [hu, Int.toNat_of_nonneg h4.1]
  · rw [ht, Int.toNat_of_nonneg h5.1]

/-- begin, and what is known then. -/
theorem begin_wx {W : World} (hO : St W [] w H) (z y : Nat) (hz : z ≤ 255) (hy : y ≤ 255) (hR : ∀ bm w', WX W bm (1 + z) (1 + y % 4) 0 H w' (List.replicate (1 + z) (0, 1, zOb), List.replicate (1 + y % 4) [], zero8) [] → Ret R (.pointer (some ⟨bm, 0, none⟩)) w') :
    Calls Try.prog 9 #[.int .u8 z, .int .u8 y] w R := by
  obtain ⟨mu, hmu⟩ : ∃ q, 1 + y % 4 = q := ⟨_, rfl⟩
  rw [hmu] at hR
  refine begin_okc hO z y (by omega) (by omega) mu (by omega) (List.replicate (1 + z) (0, 1, zOb), List.replicate mu [], zero8) ?_ (fun bm bv M p E w0 bs w' hB hT hS => ?_)
  · show ((hpL (nwH (1 + (z : Int)) 1)), _, _) = _
    have : nwOk (1 + (z : Int)) 1 = true := by simp only [nwOk, Bool.and_eq_true, decide_eq_true_eq]; omega
    unfold nwH
    rw [this, show (1 + (z : Int)).toNat = 1 + z by omega]
    rfl
  · rw [nilCells (by omega)] at hS
    exact hR bm w' ⟨w0, bs, M, p, bv, List.replicate mu (.slice none 0 0), [], E, [], [], hB, hS, hT, RL.nils mu, rfl, Wo.new (by omega)⟩
/-- A turn's number. -/
def tnN (F : Nat → Nat → Value) (i j : Nat) : Nat := match F i j with
  | .int _ x => x.toNat
  | _ => 0
/-- What i turns make of a new arena, and of what is known. -/
def plS (n mu : Nat) (F : Nat → Nat → Value) : Nat → Ar × List Me
  | 0 => ((List.replicate n (0, 1, zOb), List.replicate mu [], zero8), [])
  | i + 1 => nxT n mu (plS n mu F i).1 (plS n mu F i).2 (tnN F i 0) (tnN F i 1) (tnN F i 2) (tnN F i 3) (tnN F i 4)

set_option maxHeartbeats 2000000 in
set_option maxRecDepth 100000 in
theorem wplay_nx {W : World} (hO : St W [] w H) (z y : Nat) (hz : z ≤ 255) (hy : y ≤ 255) (v : Value) {n sb so : Nat} {F : Nat → Nat → Value} (hv : Flat W [.i .u8, .i .u8, .i .u8, .i .u8, .i .u8] v n sb so F) (hn : n ≤ 400)
    (hR : ∀ bm w', WX W bm (1 + z) (1 + y % 4) n H w' (plS (1 + z) (1 + y % 4) F n).1 (plS (1 + z) (1 + y % 4) F n).2 → Ret R (.pointer (some ⟨bm, 0, none⟩)) w') : Calls Try.prog 19 #[.int .u8 z, .int .u8 y, v] w R := by
  have hS := hO
  clear hO
  have hlen := hv.len (t := 49) Try.underlying49
  obtain ⟨mu, hmu⟩ : ∃ q, 1 + y % 4 = q := ⟨_, rfl⟩
  have hmu4 : 1 ≤ mu ∧ mu ≤ 4 := by omega
  have hmu' := Lib.hid hmu
  rw [hmu] at hR
  clear hmu
  go_enter Try.func19, Try.ntmps19
  go_wp2_with ((go_at_call 9; go_must (refine begin_wx hS z y hz hy ?_); clear hS; intro bm w hMA; rw [hmu'.out] at hMA; have hS := hMA.st; unfold Ret))
  clear hS
  go_loopw [8] (fun s0 wr => ∃ (i : Nat) (_ : Unit), i ≤ n ∧ s0 = .int .i64 i ∧ WX W bm (1 + z) mu i H wr (plS (1 + z) mu F i).1 (plS (1 + z) mu F i).2) (fun s0 _ => n - (intOf s0).toNat)
  case atStart => exact ⟨0, (), Nat.zero_le _, rfl, hMA⟩
  case round =>
    clear hMA
    obtain ⟨i, _, hi, rfl, hMA⟩ := hrel
    have hS := hMA.st
    by_cases hlt : i < n
    · have hidx := hv.idxz (t := 49) (z := 5) (i := i) rfl Try.underlying49 (by kernel_rfl) hlt
      have hcell := hv.cellsz (z := 5) (i := i) rfl hlt
      obtain ⟨a, b, c, d, e, ⟨ha, hb, hc, hd, he⟩, f0, f1, f2, f3, f4⟩ := tr5_cells hv hlt
      simp only [List.range_succ, List.range_zero, List.nil_append, List.map_append, List.map_cons, List.map_nil, List.cons_append, f0, f1, f2, f3, f4] at hcell
      have dlt : decide ((i : Int) < (n : Int)) = true := decide_eq_true (by omega)
      have dlt' : decide (i < n) = true := decide_eq_true hlt
      have hnx : plS (1 + z) mu F (i + 1) = nxT (1 + z) mu (plS (1 + z) mu F i).1 (plS (1 + z) mu F i).2 a b c d e := by
        simp only [plS, tnN, f0, f1, f2, f3, f4, Int.toNat_natCast]
      have hnx' := Lib.hid hnx
      clear f0 f1 f2 f3 f4 hnx
      go_wp2_with (first | (go_at_call 31; go_must (refine wturn_nx (by omega) hMA hmu4 a b c d e ha hb hc hd he ?_); clear hS hMA; intro w hMA; have hS := hMA.st; unfold Ret) | (refine wpList_is (.call { callee := .builtin .len, args := #[_], argTypes := #[_] }) rfl ?_; refine wpList_stp (by kernel_rfl) (stp_val (run_lenv _ _ rfl) ?_)) | (refine wpList_is (.indexAddr _ _ _) rfl ?_; refine wpList_stp (by kernel_rfl) (stp_val (run_idxv _ _ _ rfl) ?_)) | (refine wpList_is (.load _ _) rfl ?_; go_must ((refine wpList_stp (by kernel_rfl) (stp_val (run_lda0 _ _ rfl hS) ?_)))))
      go_roundw
      case rel => exact ⟨i + 1, (), by omega, by go_num, by rw [hnx'.out]; exact hMA⟩
      case measure => simp [intOf]; omega
    · obtain rfl : i = n := by omega
      have dlt : decide ((i : Int) < (i : Int)) = false := decide_eq_false (by omega)
      have dlt' : decide (i < i) = false := decide_eq_false (by omega)
      go_wp2_with ((refine wpList_is (.call { callee := .builtin .len, args := #[_], argTypes := #[_] }) rfl ?_; refine wpList_stp (by kernel_rfl) (stp_val (run_lenv _ _ rfl) ?_)))
      exact hR _ _ hMA
theorem wplay {W : World} (hO : St W [] w H) (z y : Nat) (hz : z ≤ 255) (hy : y ≤ 255) (v : Value) {n sb so : Nat} {F : Nat → Nat → Value} (hv : Flat W [.i .u8, .i .u8, .i .u8, .i .u8, .i .u8] v n sb so F) (hn : n ≤ 400)
    (hR : ∀ bm w', WA W bm (1 + z) (1 + y % 4) n H w' → Ret R (.pointer (some ⟨bm, 0, none⟩)) w') : Calls Try.prog 19 #[.int .u8 z, .int .u8 y, v] w R :=
  wplay_nx hO z y hz hy v hv hn (fun bm w' h => hR bm w' h.wa)
end Go.Proofs.Ytjlihigodggfcaa
