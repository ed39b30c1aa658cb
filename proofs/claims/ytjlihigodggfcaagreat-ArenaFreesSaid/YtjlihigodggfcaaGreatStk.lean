/-
  Roots of a mutator: the contracts of the package roots.
-/
import Derived.Test.YtjlihigodggfcaaGreatVarsB
import Derived.Test.YtjlihigodggfcaaGreatRgn
import Derived.Test.YtjlihigodggfcaaGreatHeapF
set_option linter.unusedSimpArgs false
set_option linter.unusedVariables false
namespace Go.Proofs.YtjlihigodggfcaaGreat
open Go Go.RowKit Go.Mm
variable {R : Ending → World → Prop} {w : World} {w0 : World} {bs : List Nat} {H H' H1 E : List Ent}

abbrev Rf := Int × Int
theorem ftake {l : List Rf} {q : Nat} (hq : q ≤ l.length) : (l.flatMap slf).take (q * 2) = (l.take q).flatMap slf := by
  have h1 : l.flatMap slf = (l.take q).flatMap slf ++ (l.drop q).flatMap slf := by
    conv => lhs; rw [← List.take_append_drop q l]
    rw [List.flatMap_append]
  have h2 : ((l.take q).flatMap slf).length = q * 2 := by rw [flat_len slf_len, List.length_take, Nat.min_eq_left hq]
  rw [h1, ← h2, List.take_left']
  rfl
theorem fdrop {l : List Rf} {q : Nat} (hq : q ≤ l.length) : (l.flatMap slf).drop (q * 2) = (l.drop q).flatMap slf := by
  have h1 : l.flatMap slf = (l.take q).flatMap slf ++ (l.drop q).flatMap slf := by
    conv => lhs; rw [← List.take_append_drop q l]
    rw [List.flatMap_append]
  have h2 : ((l.take q).flatMap slf).length = q * 2 := by rw [flat_len slf_len, List.length_take, Nat.min_eq_left hq]
  rw [h1, ← h2, List.drop_left']
  rfl
/-- x[lo:hi] of an array. -/
class MidV (P : Program) (t : TypeId) (v : Value) (lo hi : Int) (v' : outParam Value) : Prop where
  h : ∀ w, (Instr.sliceAt t v (some (.int .i64 lo)) (some (.int .i64 hi)) none).run P w = .ok v' w
theorem run_midv {P : Program} {o : Oper} {a : Act} {w : World} {v : Value} (t : TypeId) (x y z : Operand) (ho : o.op = .slice t x (some y) (some z) none) {lo hi : Int} {v' : Value} [hx : Ev a x v] [hy : Ev a y (.int .i64 lo)] [hz : Ev a z (.int .i64 hi)] [hp : MidV P t v lo hi v'] : OpVal P o a w v' := by
  unfold OpVal
  simp only [execOp, ho, hx.h, Option.map_none, Option.map_some, hy.h, hz.h, Sem.run_bind, hp.h, Result.andThen_ok, Sem.run_pure]
theorem mid_of {P : Program} {t e : TypeId} {m z b off lo hi : Nat} (ht : P.underlying t = some (.array m e)) (hs : (P.info? e).map (·.size) = some z) (hl : lo ≤ hi) (hh : hi ≤ m) : ∃ o2, (lo < m → o2 = off + lo * z) ∧ MidV P t (.pointer (some ⟨b, off, none⟩)) lo hi (.slice (some ⟨b, o2, none⟩) (hi - lo) (m - lo)) := by
  have h1 : 0 ≤ (lo : Int) := by omega
  have h2 : 0 ≤ (hi : Int) := by omega
  have h4 : lo ≤ m := by omega
  by_cases h3 : m = lo
  · refine ⟨off, fun h => by omega, ⟨fun w => ?_⟩⟩
    subst h3
    simp [Instr.sliceAt, run_underlying ht, Instr.sureAddr, Instr.slice, Instr.sliceBounds, Instr.sliceBound, asIntOf, hl, hh, run_sizeOf' hs, Addr.add]
  · refine ⟨off + lo * z, fun _ => rfl, ⟨fun w => ?_⟩⟩
    simp [Instr.sliceAt, run_underlying ht, Instr.sureAddr, Instr.slice, Instr.sliceBounds, Instr.sliceBound, asIntOf, hl, hh, h4, run_sizeOf' hs, h3, Addr.add_lit]
/-- A stack of roots: how many there are, and all the places. -/
def rkB (n : Int) (L : List Rf) : Array Value := blk [.bool true, .int .i64 n] slf L []
section
variable {n : Int} {L : List Rf}
instance rk0 : CellAt (rkB n L) 0 (.bool true) := blkPre rfl
instance rk1 : CellAt (rkB n L) 1 (.int .i64 n) := blkPre rfl
instance rkS (m : Int) : SetAt (rkB n L) 1 (.int .i64 m) (rkB m L) := blkPreSet (by simp) rfl
theorem rkAt {i : Nat} {x : Rf} (h : L[i]? = some x) : CellsAt (rkB n L) (2 + i * 2) 2 #[.int .i64 x.1, .int .u32 x.2] := blkCells slf_len h rfl
theorem rkSet {i : Nat} (h : i < L.length) (s g : Int) : SetsAt (rkB n L) (2 + i * 2) #[.int .i64 s, .int .u32 g] (rkB n (L.set i (s, g))) := blkSets slf_len (a' := (s, g)) h rfl
end
instance rk_agg : AggT Tryz.prog 110 66 := ⟨by kernel_rfl, by kernel_rfl⟩
instance rk_sp : ScalarT Tryz.prog 66 := ⟨by kernel_rfl, by kernel_rfl⟩
def zero32 : List Rf := List.replicate 32 (0, 0)
instance rk_bd : BuildT Tryz.prog 110 [(0, .bool true)] (rkB 0 zero32) := ⟨fun w => by kernel_rfl⟩
instance rk_z : ZeroT Tryz.prog 110 (blk [.bool false, .int .i64 0] slf zero32 []) := ⟨by kernel_rfl⟩
instance rk_f0 {b off : Nat} : FieldAt Tryz.prog 110 0 b off off := ⟨fun w => by kernel_rfl⟩
instance rk_f1 {b off : Nat} : FieldAt Tryz.prog 110 1 b off (off + 1) := ⟨fun w => by kernel_rfl⟩
instance rk_f2 {b off : Nat} : FieldAt Tryz.prog 110 2 b off (off + 2) := ⟨fun w => by kernel_rfl⟩

/-- A stack: its block, its roots, and what stands behind them. -/
abbrev Sk := Nat × List Rf × List Rf
def skE (x : Sk) : Ent := ⟨x.1, rkB x.2.1.length (x.2.1 ++ x.2.2), 110, true⟩
structure SkW (x : Sk) : Prop where
  len : x.2.1.length + x.2.2.length = 32
  ok : ∀ r ∈ x.2.1, (0 ≤ r.1 ∧ r.1 < 256) ∧ 1 ≤ r.2 ∧ r.2 ≤ 4294967295

set_option maxHeartbeats 1000000 in
set_option maxRecDepth 100000 in
theorem rk_new (hO : St w0 bs w H) (hR : ∀ b w', St w0 bs w' (skE (b, [], zero32) :: H) → Ret R (.pointer (some ⟨b, 0, none⟩)) w') : Calls Tryz.prog 25 #[] w R := by
  have hS := hO
  clear hO
  go_enter Tryz.func25, Tryz.ntmps25
  go_wp2_with (first | (refine wpList_is (.box 110 _) rfl ?_; go_must (refine wpList_stp (by kernel_rfl) (stp_bx _ _ rfl hS ?_)); clear hS; intro b w _ hS) | (refine wpList_is (.build _ _) rfl ?_; go_must (refine wpList_stp (by kernel_rfl) (stp_val (run_bd _ _ rfl) ?_))))
  exact hR b _ hS

set_option maxHeartbeats 1000000 in
set_option maxRecDepth 100000 in
theorem rk_valid (hO : St w0 bs w H) {b : Nat} {n : Int} {L : List Rf} [hH : Has H b (rkB n L) 110] (hR : ∀ w', St w0 bs w' H → Ret R (.bool true) w') : Calls Tryz.prog 97 #[.pointer (some ⟨b, 0, none⟩)] w R := by
  have hS := hO
  clear hO
  go_enter Tryz.func97, Tryz.ntmps97
  go_wp2_with ((refine wpList_is (.load _ _) rfl ?_; go_must ((refine wpList_stp (by kernel_rfl) (stp_val (run_ld _ _ rfl hS) ?_)))))
  exact hR _ hS

theorem arrPre {P : Program} {t e : TypeId} {m z b off n : Nat} (ht : P.underlying t = some (.array m e)) (hs : (P.info? e).map (·.size) = some z) (hn : n ≤ m) (hm : 0 < m) : PreV P t (.pointer (some ⟨b, off, none⟩)) n (.slice (some ⟨b, off, none⟩) n m) := ⟨fun w => by
  have h2 : 0 ≤ (n : Int) := by omega
  have h3 : m ≠ 0 := by omega
  simp [Instr.sliceAt, run_underlying ht, Instr.sureAddr, Instr.slice, Instr.sliceBounds, Instr.sliceBound, asIntOf, hn, run_sizeOf' hs, Addr.add]⟩
set_option maxHeartbeats 1000000 in
set_option maxRecDepth 100000 in
theorem rk_used (hO : St w0 bs w H) {b n : Nat} {L : List Rf} (hn : n ≤ 32) [hH : Has H b (rkB n L) 110] (hR : ∀ w', St w0 bs w' H → Ret R (.slice (some ⟨b, 2, none⟩) n 32) w') : Calls Tryz.prog 117 #[.pointer (some ⟨b, 0, none⟩)] w R := by
  have hS := hO
  clear hO
  have hp := arrPre (P := Tryz.prog) (t := 108) (b := b) (off := 0 + 2) (n := n) Tryz.underlying108 (z := 2) (by kernel_rfl) hn (by decide)
  go_enter Tryz.func117, Tryz.ntmps117
  go_wp2_with (first | (go_at_call 97; refine rk_valid hS ?_; clear hS; intro w hS; unfold Ret) | (refine region_quiet hS (by kernel_rfl) (by kernel_rfl) (fun hne => ?_); (repeat ((go_big_quiet_want; first | (refine quiet_is (.load _ _) rfl ?_; go_must ((refine quiet_at sw_st (fun w hS => run_ld _ _ rfl hS) ?_)); go_big_quiet_on) | (refine quiet_is (.slice _ _ none (some _) none) rfl ?_; refine quiet_val (fun w _ => run_prev _ _ _ rfl) ?_; go_big_quiet_on) | (go_big_quiet_op; go_big_quiet_on)))); refine wpQuiet_nil ?_; clear hS hne; intro w hS))
  exact hR _ hS

set_option maxHeartbeats 1000000 in
set_option maxRecDepth 100000 in
theorem rk_len (hO : St w0 bs w H) {b n : Nat} {L : List Rf} (hn : n ≤ 32) [hH : Has H b (rkB n L) 110] (hR : ∀ w', St w0 bs w' H → Ret R (.int .i64 n) w') : Calls Tryz.prog 98 #[.pointer (some ⟨b, 0, none⟩)] w R := by
  have hS := hO
  clear hO
  go_enter Tryz.func98, Tryz.ntmps98
  go_wp2_with ((go_at_call 117; refine rk_used hS hn ?_; clear hS; intro w hS; unfold Ret))
  exact hR _ hS

set_option maxHeartbeats 1000000 in
set_option maxRecDepth 100000 in
theorem rk_all (hO : St w0 bs w H) {b : Nat} {l r : List Rf} (hl : l.length + r.length = 32) [hH : Has H b (rkB l.length (l ++ r)) 110] (hR : ∀ v E' w', RS v l E' → St w0 bs w' (E' ++ H) → Ret R v w') : Calls Tryz.prog 91 #[.pointer (some ⟨b, 0, none⟩)] w R := by
  have hS := hO
  clear hO
  have hc : CellsAt (rkB l.length (l ++ r)) 2 (l.length * 2) (l.flatMap slf).toArray := ⟨fun j hj => by
    have h1 : (rkB l.length (l ++ r))[2 + j]? = ((l ++ r).flatMap slf)[j]? := by
      simp only [rkB, blk, List.getElem?_toArray, List.append_nil]
      rw [List.getElem?_append_right (by simp)]
      simp
    have h2 : (l.flatMap slf).length = l.length * 2 := flat_len slf_len l
    rw [h1, List.flatMap_append, List.getElem?_append_left (by omega)]
    simp, by rw [List.size_toArray, flat_len slf_len]⟩
  obtain ⟨n, hn⟩ : ∃ n, l.length = n := ⟨_, rfl⟩
  have hn' := Lib.hid hn
  rw [hn] at hc hH hl
  have hn32 : n ≤ 32 := by omega
  clear hn
  go_enter Tryz.func91, Tryz.ntmps91
  go_wp2_with (first | (go_at_call 117; refine rk_used hS hn32 ?_; clear hS; intro w hS; unfold Ret) | (go_at_call 115; refine ref_clone hS hn'.out hc (by omega) ?_; clear hS; intro v E1 w hA hS; have hone := hA.one; unfold Ret))
  exact hR _ _ _ hA hS

set_option maxHeartbeats 1000000 in
set_option maxRecDepth 100000 in
theorem rk_get {i : Int} {x : Rf} {e : Int} (hO : St w0 bs w H) {b n : Nat} {L : List Rf} [hH : Has H b (rkB n L) 110] (hL : L.length = 32) (hn : n ≤ 32) (hx : (if 0 ≤ i ∧ i < n then L.getD i.toNat (0, 0) else (0, 0)) = x) (he : (if 0 ≤ i ∧ i < n then 0 else 3) = e)
    (hR : ∀ w', St w0 bs w' H → Ret R (.tuple #[.agg #[.int .i64 x.1, .int .u32 x.2], .int .i64 e]) w') : Calls Tryz.prog 73 #[.pointer (some ⟨b, 0, none⟩), .int .i64 i] w R := by
  have hS := hO
  clear hO
  subst hx he
  by_cases hi : 0 ≤ i ∧ i < n
  · rw [if_pos hi, if_pos hi] at hR
    obtain ⟨k, rfl⟩ := Int.eq_ofNat_of_zero_le hi.1
    have hk : k < n := by omega
    rw [Int.toNat_natCast] at hR
    obtain ⟨x, hx⟩ : ∃ x, L.getD k (0, 0) = x := ⟨_, rfl⟩
    rw [hx] at hR
    have hc := rkAt (n := n) (getD_get (by omega) hx)
    have hix := idxArr (P := Tryz.prog) (t := 108) (b := b) (off := 0 + 2) (i := k) Tryz.underlying108 (z := 2) (by kernel_rfl) (by omega)
    rw [Nat.zero_add] at hix
    have d1 : decide ((k : Int) < 0) = false := decide_eq_false (by omega)
    have d2 : decide ((n : Int) ≤ (k : Int)) = false := decide_eq_false (by omega)
    have d2' : decide (n ≤ k) = false := decide_eq_false (by omega)
    clear hx hi hL
    go_enter Tryz.func73, Tryz.ntmps73
    go_wp2_with (first | (go_at_call 97; refine rk_valid hS ?_; clear hS; intro w hS; unfold Ret) | (refine wpList_is (.alloc 25) rfl ?_; go_must (refine wpList_stp (by kernel_rfl) (stp_al _ rfl hS ?_)); clear hS; intro br w _ hS) | (refine wpList_is (.indexAddr _ _ _) rfl ?_; refine wpList_stp (by kernel_rfl) (stp_val (run_idxv _ _ _ rfl) ?_)) | (refine wpList_is (.load _ _) rfl ?_; go_must (first | refine wpList_stp (by kernel_rfl) (stp_val (run_ld _ _ rfl hS) ?_) | refine wpList_stp (by kernel_rfl) (stp_val (run_lda _ _ rfl hS) ?_))) | (refine wpList_is (.store _ _ _) rfl ?_; go_must ((refine wpList_stp (by kernel_rfl) (stp_sta _ _ _ rfl hS ?_))); clear hS; intro w hS))
    refine bodyPost_ret (res_ct rfl hS) rfl ?_
    exact hR _ hS.pick
  · rw [if_neg hi, if_neg hi] at hR
    clear hL
    by_cases h0 : i < 0
    · have d1 : decide (i < 0) = true := decide_eq_true h0
      clear hi
      go_enter Tryz.func73, Tryz.ntmps73
      go_wp2_with (first | (go_at_call 97; refine rk_valid hS ?_; clear hS; intro w hS; unfold Ret) | (refine wpList_is (.alloc 25) rfl ?_; go_must (refine wpList_stp (by kernel_rfl) (stp_al _ rfl hS ?_)); clear hS; intro br w _ hS) | (refine wpList_is (.build _ _) rfl ?_; go_must (refine wpList_stp (by kernel_rfl) (stp_val (run_bd _ _ rfl) ?_))) | (refine wpList_is (.store _ _ _) rfl ?_; go_must ((refine wpList_stp (by kernel_rfl) (stp_sta _ _ _ rfl hS ?_))); clear hS; intro w hS))
      refine bodyPost_ret (res_ct rfl hS) rfl ?_
      exact hR _ hS.pick
    · have d1 : decide (i < 0) = false := decide_eq_false h0
      have d2 : decide ((n : Int) ≤ i) = true := decide_eq_true (by omega)
      clear hi
      go_enter Tryz.func73, Tryz.ntmps73
      go_wp2_with (first | (go_at_call 97; refine rk_valid hS ?_; clear hS; intro w hS; unfold Ret) | (refine wpList_is (.alloc 25) rfl ?_; go_must (refine wpList_stp (by kernel_rfl) (stp_al _ rfl hS ?_)); clear hS; intro br w _ hS) | (refine wpList_is (.build _ _) rfl ?_; go_must (refine wpList_stp (by kernel_rfl) (stp_val (run_bd _ _ rfl) ?_))) | (refine wpList_is (.load _ _) rfl ?_; go_must ((refine wpList_stp (by kernel_rfl) (stp_val (run_ld _ _ rfl hS) ?_)))) | (refine wpList_is (.store _ _ _) rfl ?_; go_must ((refine wpList_stp (by kernel_rfl) (stp_sta _ _ _ rfl hS ?_))); clear hS; intro w hS))
      refine bodyPost_ret (res_ct rfl hS) rfl ?_
      exact hR _ hS.pick

set_option maxHeartbeats 2000000 in
set_option maxRecDepth 100000 in
theorem rk_push {b n : Nat} {L : List Rf} (hO : St w0 bs w (⟨b, rkB n L, 110, true⟩ :: H)) (hL : L.length = 32) (hn : n < 32) (s g : Int) (hs : 0 ≤ s ∧ s < 256) (hg : 1 ≤ g)
    (hR : ∀ w', St w0 bs w' (⟨b, rkB ((n + 1 : Nat) : Int) (L.set n (s, g)), 110, true⟩ :: H) → Ret R (.tuple #[.int .i64 n, .int .i64 0]) w') : Calls Tryz.prog 99 #[.pointer (some ⟨b, 0, none⟩), .agg #[.int .i64 s, .int .u32 g]] w R := by
  have hS := hO
  clear hO
  have hix := idxArr (P := Tryz.prog) (t := 108) (b := b) (off := 0 + 2) (i := n) Tryz.underlying108 (z := 2) (by kernel_rfl) hn
  rw [Nat.zero_add] at hix
  have hset := rkSet (n := n) (L := L) (i := n) (by omega) s g
  have d1 : decide (s < 0) = false := decide_eq_false (by omega)
  have d2 : decide (256 ≤ s) = false := decide_eq_false (by omega)
  have d3 : (g == 0) = false := beq_eq_false_iff_ne.2 (by omega)
  have d4 : ((n : Int) == 32) = false := beq_eq_false_iff_ne.2 (by omega)
  have d4' : decide ((n : Int) = 32) = false := decide_eq_false (by omega)
  have d4'' : decide (n = 32) = false := decide_eq_false (by omega)
  obtain ⟨n1, hn1⟩ : ∃ n1, n + 1 = n1 := ⟨_, rfl⟩
  have sm : SumIs (n : Int) 1 (n1 : Int) := ⟨by omega, by omega, by omega⟩
  have df : DifIs (n1 : Int) 1 (n : Int) := ⟨by omega, by omega, by omega⟩
  rw [hn1] at hR
  clear hL hs hg hn1
  go_enter Tryz.func99, Tryz.ntmps99
  go_wp2_with (first | (go_at_call 97; refine rk_valid hS ?_; clear hS; intro w hS; unfold Ret) | (refine wpList_is (.box 25 _) rfl ?_; go_must (refine wpList_stp (by kernel_rfl) (stp_bx _ _ rfl hS ?_)); clear hS; intro br w _ hS) | (refine wpList_is (.load _ _) rfl ?_; go_must ((refine wpList_stp (by kernel_rfl) (stp_val (run_ld _ _ rfl hS) ?_)))))
  have hS : St w0 bs w (⟨b, rkB n L, 110, true⟩ :: ⟨br, #[.int .i64 s, .int .u32 g], 25, true⟩ :: H) := hS.pick
  have hc01 : CellAt (rkB n L) (0 + 1) (.int .i64 n) := rk1
  refine region_depsE [⟨(undef, [⟨b, rkB n L, 110, true⟩]), [(9, [], fun _ _ x => x.2 = [⟨b, rkB n (L.set n (s, g)), 110, true⟩])]⟩]
    (⟨br, #[.int .i64 s, .int .u32 g], 25, true⟩ :: H) (⟨b, rkB n L, 110, true⟩ :: ⟨br, #[.int .i64 s, .int .u32 g], 25, true⟩ :: H) (by simp) hS (by kernel_rfl) (by kernel_rfl) ?_
  ((refine dx_val (fun _ => rfl) rfl (fun χ w hw => run_mv _ rfl) ?_))
  ((refine dx_val (fun _ => rfl) rfl (fun χ w hw => run_mv _ rfl) ?_))
  (refine dx_val (fun _ => rfl) rfl (fun χ w hw => run_nc _ rfl) ?_)
  ((refine dx_val (fun _ => rfl) rfl (fun χ w hw => run_fa _ _ _ rfl) ?_))
  refine dx_valS 0 0 rfl (by kernel_rfl) (fun _ => rfl) rfl (fun _ => .int .i64 n) (fun _ _ _ => rfl) (fun χ X w _ hS => run_ld _ _ rfl (show St w0 bs w (⟨b, rkB n L, 110, true⟩ :: (X ++ _)) from hS)) ?_
  ((refine dx_val (fun _ => rfl) rfl (fun χ w hw => run_lda _ _ rfl hw) ?_))
  (refine dx_val (fun _ => rfl) rfl (fun χ w hw => run_nc _ rfl) ?_)
  ((refine dx_val (fun _ => rfl) rfl (fun χ w hw => run_fa _ _ _ rfl) ?_))
  ((refine dx_val (fun _ => rfl) rfl (fun χ w hw => run_idxv _ _ _ rfl) ?_))
  refine dx_turn0 0 0 rfl rfl (by kernel_rfl) (by kernel_rfl) (by kernel_rfl) (by kernel_rfl) (fun _ => rfl) (fun _ => undef) ?_ ?_
  · rintro χ X w _ hS
    exact stepX_sta _ _ _ rfl (show St w0 bs w (⟨b, rkB n L, 110, true⟩ :: (X ++ _)) from hS) (fun w' hS' => ⟨(undef, [⟨b, rkB n (L.set n (s, g)), 110, true⟩]), rfl, rfl, hS'⟩)
  refine dx_end rfl ?_
  intro χ w hok hS
  obtain ⟨hD, _⟩ := hok _ (.head _)
  have hD : (χ 9).2 = [⟨b, rkB n (L.set n (s, g)), 110, true⟩] := hD
  have hS : St w0 bs w (((χ 9).2 ++ []) ++ (⟨br, #[.int .i64 s, .int .u32 g], 25, true⟩ :: H)) := hS
  rw [hD] at hS
  clear hok hD
  simp only [List.cons_append, List.nil_append] at hS
  go_wp2_with (first | (refine wpList_is (.binOp .add _ _ _ _) rfl ?_; refine wpList_stp (by kernel_rfl) (stp_val (run_sumv _ _ _ _ rfl) ?_)) | (refine wpList_is (.binOp .sub _ _ _ _) rfl ?_; refine wpList_stp (by kernel_rfl) (stp_val (run_difv _ _ _ _ rfl) ?_)) | (refine wpList_is (.load _ _) rfl ?_; go_must ((refine wpList_stp (by kernel_rfl) (stp_val (run_ld _ _ rfl hS) ?_)))) | (refine wpList_is (.store _ _ _) rfl ?_; go_must ((refine wpList_stp (by kernel_rfl) (stp_st _ _ _ rfl hS ?_))); clear hS; intro w hS))
  exact hR _ hS.pick

/-- One root is taken away: how the places stand then. -/
def drL (L : List Rf) (n i : Nat) : List Rf := L.take i ++ (L.take n).drop (i + 1) ++ L.drop (n - 1)
theorem drL_len {L : List Rf} {n i : Nat} (hn : n ≤ L.length) (hi : i < n) : (drL L n i).length = L.length := by
  simp only [drL, List.length_append, List.length_take, List.length_drop]
  omega
theorem rk_mid {n : Int} {L : List Rf} {m i : Nat} (hL : L.length = 32) (hm : m ≤ 32) (hi : i < m) : SetsAt (rkB n L) (2 + i * 2) ((((L.take m).drop (i + 1)).flatMap slf).toArray) (rkB n (drL L m i)) := by
  have h1 : (L.flatMap slf).length = 64 := by rw [flat_len slf_len, hL]
  have h2 : (((L.take m).drop (i + 1)).flatMap slf).length = (m - (i + 1)) * 2 := by rw [flat_len slf_len, List.length_drop, List.length_take, hL, Nat.min_eq_left hm]
  refine ⟨?_, ?_⟩
  · simp only [rkB, blk, List.append_nil, List.size_toArray, h2]
    have e1 : List.take (2 + i * 2) (.bool true :: .int .i64 n :: L.flatMap slf) = .bool true :: .int .i64 n :: (L.take i).flatMap slf := by
      rw [show 2 + i * 2 = i * 2 + 1 + 1 by omega, List.take_succ_cons, List.take_succ_cons, ftake (by omega)]
    have e2 : List.drop (2 + i * 2 + (m - (i + 1)) * 2) (.bool true :: .int .i64 n :: L.flatMap slf) = (L.drop (m - 1)).flatMap slf := by
      rw [show 2 + i * 2 + (m - (i + 1)) * 2 = (m - 1) * 2 + 1 + 1 by omega, List.drop_succ_cons, List.drop_succ_cons, fdrop (by omega)]
    show (List.take (2 + i * 2) (.bool true :: .int .i64 n :: L.flatMap slf) ++ _ ++ List.drop _ (.bool true :: .int .i64 n :: L.flatMap slf)).toArray = _
    rw [e1, e2]
    simp [drL, List.flatMap_append]
  · simp only [rkB, blk, List.append_nil, List.size_toArray, h2, List.length_append, h1, List.length_cons, List.length_nil]
    omega
theorem rk_src {n : Int} {L : List Rf} {m i off : Nat} (hL : L.length = 32) (hm : m ≤ 32) (hi : i < m) (hoff : i + 1 < m → off = 2 + (i + 1) * 2) : CellsAt (rkB n L) off ((m - (i + 1)) * 2) ((((L.take m).drop (i + 1)).flatMap slf).toArray) := by
  have h2 : (((L.take m).drop (i + 1)).flatMap slf).length = (m - (i + 1)) * 2 := by rw [flat_len slf_len, List.length_drop, List.length_take, hL, Nat.min_eq_left hm]
  refine ⟨fun j hj => ?_, by rw [List.size_toArray, h2]⟩
  have ho := hoff (by omega)
  subst ho
  have h3 : (rkB n L)[2 + (i + 1) * 2 + j]? = (L.flatMap slf)[(i + 1) * 2 + j]? := by
    simp only [rkB, blk, List.getElem?_toArray, List.append_nil]
    rw [List.getElem?_append_right (by simp; omega)]
    congr 1
    simp
    omega
  have h4 : (L.take m).flatMap slf = (L.flatMap slf).take (m * 2) := (ftake (by omega)).symm
  rw [h3, ← fdrop (l := L.take m) (by rw [List.length_take]; omega), h4, List.getElem?_toArray, List.getElem?_drop, List.getElem?_take, if_pos (by omega)]

set_option maxHeartbeats 2000000 in
set_option maxRecDepth 100000 in
theorem rk_drop {b n i : Nat} {L : List Rf} (hO : St w0 bs w (⟨b, rkB n L, 110, true⟩ :: H)) (hL : L.length = 32) (hn : n ≤ 32) (hi : i < n) {x : Rf} (hx : L.getD i (0, 0) = x)
    (hR : ∀ w', St w0 bs w' (⟨b, rkB ((n - 1 : Nat) : Int) (drL L n i), 110, true⟩ :: H) → Ret R (.tuple #[.agg #[.int .i64 x.1, .int .u32 x.2], .int .i64 0]) w') : Calls Tryz.prog 72 #[.pointer (some ⟨b, 0, none⟩), .int .i64 i] w R := by
  have hS := hO
  clear hO
  obtain ⟨o1, ho1, hm1⟩ := mid_of (P := Tryz.prog) (t := 108) (b := b) (off := 0 + 2) (lo := i) (hi := n) Tryz.underlying108 (z := 2) (by kernel_rfl) (by omega) hn
  obtain ⟨o2, ho2, hm2⟩ := mid_of (P := Tryz.prog) (t := 108) (b := b) (off := 0 + 2) (lo := i + 1) (hi := n) Tryz.underlying108 (z := 2) (by kernel_rfl) (by omega) hn
  have ho1' := ho1 (by omega)
  rw [Nat.zero_add] at ho1'
  subst ho1'
  have hset := rk_mid (n := n) hL hn hi
  have hsrc := rk_src (n := n) (off := o2) hL hn hi (fun h => by rw [ho2 (by omega)])
  have hones : OneCells ((((L.take n).drop (i + 1)).flatMap slf).toArray) := ⟨fun u hu => by
    simp only [List.mem_flatMap] at hu
    obtain ⟨y, _, hy⟩ := hu
    exact slf_one y u hy⟩
  obtain ⟨i1, hi1⟩ : ∃ i1, i + 1 = i1 := ⟨_, rfl⟩
  have sm : SumIs (i : Int) 1 (i1 : Int) := ⟨by omega, by omega, by omega⟩
  obtain ⟨n1, hn1⟩ : ∃ n1, n - 1 = n1 := ⟨_, rfl⟩
  have df : DifIs (n : Int) 1 (n1 : Int) := ⟨by omega, by omega, by omega⟩
  rw [hn1] at hR
  rw [hi1] at hm2 hsrc hset hones
  have hmin : Nat.min (n - i1) (n - i) = n - i1 := Nat.min_eq_left (by omega)
  have hgx : (if (0 : Int) ≤ (i : Int) ∧ (i : Int) < n then L.getD (i : Int).toNat (0, 0) else (0, 0)) = x := by rw [if_pos (by omega), Int.toNat_natCast]; exact hx
  have hge : (if (0 : Int) ≤ (i : Int) ∧ (i : Int) < n then (0 : Int) else 3) = 0 := by rw [if_pos (by omega)]
  have hgx' := Lib.hid hgx
  have hge' := Lib.hid hge
  have hset' := Lib.hid hset
  have hsrc' := Lib.hid hsrc
  have hones' := Lib.hid hones
  have hL' := Lib.hid hL
  obtain ⟨x1, x2⟩ := x
  clear hset hsrc hones hL hi1 hn1 hgx hge hx ho2 ho1
  have hc01 : CellAt (rkB n L) (0 + 1) (.int .i64 n) := rk1
  go_enter Tryz.func72, Tryz.ntmps72
  go_wp2_with (first | (refine wpList_is (o := ⟨some 4, _, _, _, _, _⟩) (.alloc _) rfl ?_; go_must (refine wpList_stp (by kernel_rfl) (stp_al _ rfl hS ?_)); clear hS; intro b4 w _ hS) | (refine wpList_is (.alloc 25) rfl ?_; go_must (refine wpList_stp (by kernel_rfl) (stp_al _ rfl hS ?_)); clear hS; intro br w _ hS) | (go_at_call 73; refine rk_get hS hL'.out hn hgx'.out hge'.out ?_; clear hS; intro w hS; unfold Ret) | (refine wpList_is (.store _ _ _) rfl ?_; go_must ((refine wpList_stp (by kernel_rfl) (stp_sta _ _ _ rfl hS ?_))); clear hS; intro w hS))
  have hS : St w0 bs w (⟨b, rkB n L, 110, true⟩ :: (⟨b4, #[.int .i64 0, .int .u32 0], 25, true⟩ :: ⟨br, #[.int .i64 x1, .int .u32 x2], 25, true⟩ :: H)) := hS.pick
  refine region_depsE [⟨(undef, [⟨b, rkB n L, 110, true⟩]), [(19, [], fun _ _ x => x.2 = [⟨b, rkB n (drL L n i), 110, true⟩])]⟩]
    (⟨b4, #[.int .i64 0, .int .u32 0], 25, true⟩ :: ⟨br, #[.int .i64 x1, .int .u32 x2], 25, true⟩ :: H) (⟨b, rkB n L, 110, true⟩ :: (⟨b4, #[.int .i64 0, .int .u32 0], 25, true⟩ :: ⟨br, #[.int .i64 x1, .int .u32 x2], 25, true⟩ :: H)) (by simp) hS (by kernel_rfl) (by kernel_rfl) ?_
  ((refine dx_val (fun _ => rfl) rfl (fun χ w hw => run_mv _ rfl) ?_))
  (refine dx_val (fun _ => rfl) rfl (fun χ w hw => run_nc _ rfl) ?_)
  ((refine dx_val (fun _ => rfl) rfl (fun χ w hw => run_fa _ _ _ rfl) ?_))
  ((refine dx_val (fun _ => rfl) rfl (fun χ w hw => run_mv _ rfl) ?_))
  ((refine dx_val (fun _ => rfl) rfl (fun χ w hw => run_mv _ rfl) ?_))
  (refine dx_val (fun _ => rfl) rfl (fun χ w hw => run_nc _ rfl) ?_)
  ((refine dx_val (fun _ => rfl) rfl (fun χ w hw => run_fa _ _ _ rfl) ?_))
  refine dx_valS 0 0 rfl (by kernel_rfl) (fun _ => rfl) rfl (fun _ => .int .i64 n) (fun _ _ _ => rfl) (fun χ X w _ hS => run_ld _ _ rfl (show St w0 bs w (⟨b, rkB n L, 110, true⟩ :: (X ++ _)) from hS)) ?_
  (refine dx_val (fun _ => rfl) rfl (fun χ w hw => run_midv _ _ _ _ rfl) ?_)
  ((refine dx_val (fun _ => rfl) rfl (fun χ w hw => run_mv _ rfl) ?_))
  (refine dx_val (fun _ => rfl) rfl (fun χ w hw => run_nc _ rfl) ?_)
  ((refine dx_val (fun _ => rfl) rfl (fun χ w hw => run_fa _ _ _ rfl) ?_))
  ((refine dx_val (fun _ => rfl) rfl (fun χ w hw => run_mv _ rfl) ?_))
  (refine dx_val (fun _ => rfl) rfl (fun χ w hw => run_sumv _ _ _ _ rfl) ?_)
  ((refine dx_val (fun _ => rfl) rfl (fun χ w hw => run_mv _ rfl) ?_))
  (refine dx_val (fun _ => rfl) rfl (fun χ w hw => run_nc _ rfl) ?_)
  ((refine dx_val (fun _ => rfl) rfl (fun χ w hw => run_fa _ _ _ rfl) ?_))
  refine dx_valS 0 0 rfl (by kernel_rfl) (fun _ => rfl) rfl (fun _ => .int .i64 n) (fun _ _ _ => rfl) (fun χ X w _ hS => run_ld _ _ rfl (show St w0 bs w (⟨b, rkB n L, 110, true⟩ :: (X ++ _)) from hS)) ?_
  (refine dx_val (fun _ => rfl) rfl (fun χ w hw => run_midv _ _ _ _ rfl) ?_)
  refine dx_turn0 0 0 rfl rfl (by kernel_rfl) (by kernel_rfl) (by kernel_rfl) (by kernel_rfl) (fun _ => rfl) (fun _ => .int .i64 ((n - i1 : Nat) : Int)) ?_ ?_
  · rintro χ X w _ hS
    refine stepX_to 37 rfl (by simp) (stp_cp (n := n - i1) (k := (n - i1) * 2) (size := 2) (hc := hsrc'.out) (h1 := hones'.out) (hsa := hset'.out) _ _ _ _ rfl (show St w0 bs w (⟨b, rkB n L, 110, true⟩ :: (X ++ _)) from hS) hmin rfl (fun w' hS' => ⟨_, rfl, (undef, [⟨b, rkB n (drL L n i), 110, true⟩]), rfl, rfl, hS'⟩))
  refine dx_end rfl ?_
  intro χ w hok hS
  obtain ⟨hD, _⟩ := hok _ (.head _)
  have hD : (χ 19).2 = [⟨b, rkB n (drL L n i), 110, true⟩] := hD
  have hS : St w0 bs w (((χ 19).2 ++ []) ++ (⟨b4, #[.int .i64 0, .int .u32 0], 25, true⟩ :: ⟨br, #[.int .i64 x1, .int .u32 x2], 25, true⟩ :: H)) := hS
  rw [hD] at hS
  clear hok hD hset' hsrc' hones'
  simp only [List.cons_append, List.nil_append] at hS
  go_wp2_with (first | (refine wpList_is (.binOp .sub _ _ _ _) rfl ?_; refine wpList_stp (by kernel_rfl) (stp_val (run_difv _ _ _ _ rfl) ?_)) | (refine wpList_is (.load _ _) rfl ?_; go_must (first | refine wpList_stp (by kernel_rfl) (stp_val (run_ld _ _ rfl hS) ?_) | refine wpList_stp (by kernel_rfl) (stp_val (run_lda _ _ rfl hS) ?_))) | (refine wpList_is (.store _ _ _) rfl ?_; go_must (first | refine wpList_stp (by kernel_rfl) (stp_st _ _ _ rfl hS ?_) | refine wpList_stp (by kernel_rfl) (stp_sta _ _ _ rfl hS ?_)); clear hS; intro w hS))
  refine bodyPost_ret (res_ct rfl hS) rfl ?_
  exact hR _ hS.pick
end Go.Proofs.YtjlihigodggfcaaGreat
