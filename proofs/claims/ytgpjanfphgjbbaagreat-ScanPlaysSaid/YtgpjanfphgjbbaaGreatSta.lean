/-
  Stacks of slots: the contracts of the package stack.
-/
import Derived.Test.YtgpjanfphgjbbaaGreatBas
import Derived.Test.YtgpjanfphgjbbaaGreatRgn
import Derived.Test.YtgpjanfphgjbbaaGreatRfs
set_option linter.unusedSimpArgs false
set_option linter.unusedVariables false
namespace Go.Mm
open Go Go.RowKit
theorem idxArrS {P : Program} {t e : TypeId} {m b off i : Nat} (ht : P.underlying t = some (.array m e)) (hs : (P.info? e).map (·.size) = some 1) (hi : i < m) : IdxV P t (.pointer (some ⟨b, off, none⟩)) i ⟨b, off + i, none⟩ := ⟨fun w => by
  have h2 : 0 ≤ (i : Int) := by omega
  simp [Instr.indexAt, asIntOf, run_underlying ht, Instr.sureAddr, hi, run_sizeOf' hs, Addr.add_lit]⟩
end Go.Mm
namespace Go.Proofs.YtgpjanfphgjbbaaGreat
open Go Go.RowKit Go.Mm
variable {R : Ending → World → Prop} {w : World} {w0 : World} {bs : List Nat} {H H' H1 E : List Ent}

def i1f (x : Int) : List Value := [.int .i64 x]
theorem i1f_len (x : Int) : (i1f x).length = 1 := rfl
theorem i1f_one (x : Int) : ∀ v ∈ i1f x, v.oneCell' = true := by
  intro v hv
  simp only [i1f, List.mem_cons, List.not_mem_nil, or_false] at hv
  rw [hv]; rfl
/-- A stack's block: whether something did not fit, how many there were at most, the places, how many there are, and what is in the places. -/
def sqC (o : Bool) (mo z n : Int) (L : List Int) : Array Value := blk [.bool o, .int .i64 mo, .int .i64 z, .int .i64 n] i1f L []
section
variable {o : Bool} {mo z n : Int} {L : List Int}
instance sq0 : CellAt (sqC o mo z n L) 0 (.bool o) := blkPre rfl
instance sq1 : CellAt (sqC o mo z n L) 1 (.int .i64 mo) := blkPre rfl
instance sq2 : CellAt (sqC o mo z n L) 2 (.int .i64 z) := blkPre rfl
instance sq3 : CellAt (sqC o mo z n L) 3 (.int .i64 n) := blkPre rfl
instance sq1' : CellAt (sqC o mo z n L) (0 + 1) (.int .i64 mo) := blkPre rfl
instance sq2' : CellAt (sqC o mo z n L) (0 + 2) (.int .i64 z) := blkPre rfl
instance sq3' : CellAt (sqC o mo z n L) (0 + 3) (.int .i64 n) := blkPre rfl
instance sqs0 (p : Bool) : SetAt (sqC o mo z n L) 0 (.bool p) (sqC p mo z n L) := blkPreSet (by simp) rfl
instance sqs1 (p : Int) : SetAt (sqC o mo z n L) (0 + 1) (.int .i64 p) (sqC o p z n L) := blkPreSet (by simp) rfl
instance sqs3 (p : Int) : SetAt (sqC o mo z n L) (0 + 3) (.int .i64 p) (sqC o mo z p L) := blkPreSet (by simp) rfl
theorem sqAt {i : Nat} {x : Int} (h : L[i]? = some x) : CellAt (sqC o mo z n L) (0 + 4 + i) (.int .i64 x) := blkCell i1f_len (i := i) (j := 0) h (by decide) rfl (by simp)
theorem sqSet {i : Nat} {x : Int} (h : L[i]? = some x) (y : Int) : SetAt (sqC o mo z n L) (0 + 4 + i) (.int .i64 y) (sqC o mo z n (L.set i y)) := blkSet i1f_len (i := i) (j := 0) h (by decide) rfl (by simp)
theorem sqAll (h : L.length = 64) : CellsAt (sqC o mo z n L) 0 (68) (sqC o mo z n L) := blkAll i1f_len (by simp [h])
theorem sqSize (h : L.length = 64) : SizeIs (sqC o mo z n L) (68) := blkSize i1f_len (by simp [h])
theorem sqOver {cs : Array Value} (hn : cs.size = 68) (h : L.length = 64) : SetsAt cs 0 (sqC o mo z n L) (sqC o mo z n L) := blkOver i1f_len (by simp [hn, h])
theorem sqOnes : OneCells (sqC o mo z n L) := blkOnes (by intro v hv; simp only [List.mem_cons, List.not_mem_nil, or_false] at hv; rcases hv with rfl | rfl | rfl | rfl <;> rfl) i1f_one (by intro v hv; cases hv)
end
def zeroS : List Int := List.replicate 64 0
instance sq_agg : AggT Tryz.prog 91 (68) := ⟨by kernel_rfl, by kernel_rfl⟩
instance sq_sp : ScalarT Tryz.prog 32 := ⟨by kernel_rfl, by kernel_rfl⟩
instance sq_int : ScalarT Tryz.prog 3 := ⟨by kernel_rfl, by kernel_rfl⟩
instance sq_bool : ScalarT Tryz.prog 4 := ⟨by kernel_rfl, by kernel_rfl⟩
instance sq_z : ZeroT Tryz.prog 91 (sqC false 0 0 0 zeroS) := ⟨by kernel_rfl⟩
instance sq_bd {z : Int} : BuildT Tryz.prog 91 [(1, .int .i64 z)] (sqC false 0 z 0 zeroS) := ⟨fun w => by kernel_rfl⟩
instance sq_f0 {b off : Nat} : FieldAt Tryz.prog 91 0 b off off := ⟨fun w => by kernel_rfl⟩
instance sq_f1 {b off : Nat} : FieldAt Tryz.prog 91 1 b off (off + 2) := ⟨fun w => by kernel_rfl⟩
instance sq_f2 {b off : Nat} : FieldAt Tryz.prog 91 2 b off (off + 3) := ⟨fun w => by kernel_rfl⟩
instance sq_f3 {b off : Nat} : FieldAt Tryz.prog 91 3 b off (off + 4) := ⟨fun w => by kernel_rfl⟩
instance sn_f0 {b off : Nat} : FieldAt Tryz.prog 88 0 b off off := ⟨fun w => by kernel_rfl⟩
instance sn_f1 {b off : Nat} : FieldAt Tryz.prog 88 1 b off (off + 1) := ⟨fun w => by kernel_rfl⟩

/-- A stack: none; one that New did not return; its places, whether something did not fit, and its slots. -/
abbrev Sq := Option (Option (Nat × Bool × List Int))
def SA (p : Option Addr) (T : Sq) (E : List Ent) : Prop := match T with
  | none => p = none ∧ E = []
  | some none => ∃ b, p = some ⟨b, 0, none⟩ ∧ E = [⟨b, sqC false 0 0 0 zeroS, 91, true⟩]
  | some (some (z, o, l)) => 1 ≤ z ∧ z ≤ 64 ∧ l.length ≤ z ∧ ∃ b mo sp, (0 ≤ mo ∧ mo ≤ 64) ∧ l.length + sp.length = 64 ∧ p = some ⟨b, 0, none⟩ ∧ E = [⟨b, sqC o mo z l.length (l ++ sp), 91, true⟩]
def okS : Sq → Bool
  | some (some _) => true
  | _ => false
theorem SA.nil {p : Option Addr} {T : Sq} {E : List Ent} (h : SA p T E) : p.isNone = T.isNone := by
  rcases T with _ | _ | ⟨z, o, l⟩
  · rw [h.1]; rfl
  · obtain ⟨b, rfl, _⟩ := h; rfl
  · obtain ⟨_, _, _, b, mo, sp, _, _, rfl, _⟩ := h; rfl
set_option maxRecDepth 100000 in
theorem sq_valid {p : Option Addr} {T : Sq} (hO : St w0 bs w H) (hT : SA p T E) [hc : Cut H E H1] (v : Bool) (hv : okS T = v) (hR : ∀ w', St w0 bs w' (E ++ H1) → Ret R (.bool v) w') :
    Calls Tryz.prog 71 #[.pointer p] w R := by
  have hS := hO.front (E := E) (H1 := H1)
  clear hO
  subst hv
  rcases T with _ | _ | ⟨z, o, l⟩
  · obtain ⟨rfl, rfl⟩ := hT
    go_enter Tryz.func71, Tryz.ntmps71
    go_wp2_with ((go_skip))
    exact hR _ hS
  · obtain ⟨b, rfl, rfl⟩ := hT
    simp only [List.cons_append, List.nil_append] at hS
    go_enter Tryz.func71, Tryz.ntmps71
    go_wp2_with ((refine wpList_is (.load _ _) rfl ?_; go_must ((refine wpList_stp (by kernel_rfl) (stp_val (run_ld _ _ rfl hS) ?_)))))
    exact hR _ hS
  · obtain ⟨h1, h2, h3, b, mo, sp, _, _, rfl, rfl⟩ := hT
    simp only [List.cons_append, List.nil_append] at hS
    have d : decide (0 < (z : Int)) = true := decide_eq_true (by omega)
    have d' : decide (0 < z) = true := decide_eq_true (by omega)
    go_enter Tryz.func71, Tryz.ntmps71
    go_wp2_with ((refine wpList_is (.load _ _) rfl ?_; go_must ((refine wpList_stp (by kernel_rfl) (stp_val (run_ld _ _ rfl hS) ?_)))))
    exact hR _ hS

def nwS (z : Int) : Sq := if 1 ≤ z ∧ z ≤ 64 then some (some (z.toNat, false, [])) else none
set_option maxRecDepth 100000 in
theorem sq_new (hO : St w0 bs w H) (z : Int) (T : Sq) (e : Int) (hT : nwS z = T) (he : (if 1 ≤ z ∧ z ≤ 64 then (0 : Int) else 2) = e) (hR : ∀ p E w', SA p T E → St w0 bs w' (E ++ H) → Ret R (.tuple #[.pointer p, .int .i64 e]) w') :
    Calls Tryz.prog 7 #[.int .i64 z] w R := by
  have hS := hO
  clear hO
  subst hT he
  by_cases hz : 1 ≤ z ∧ z ≤ 64
  · unfold nwS at hR
    rw [if_pos hz, if_pos hz] at hR
    obtain ⟨h1, h2⟩ := hz
    have d1 : decide (z < 1) = false := decide_eq_false (by omega)
    have d2 : decide (64 < z) = false := decide_eq_false (by omega)
    go_enter Tryz.func7, Tryz.ntmps7
    go_wp2_with (first | (refine wpList_is (.build _ _) rfl ?_; go_must (refine wpList_stp (by kernel_rfl) (stp_val (run_bd _ _ rfl) ?_))) | (refine wpList_is (.box _ _) rfl ?_; go_must (refine wpList_stp (by kernel_rfl) (stp_bx _ _ rfl hS ?_)); clear hS; intro bN w hbN hS))
    refine hR _ _ _ ⟨by omega, by omega, Nat.zero_le _, bN, 0, zeroS, ⟨by decide, by decide⟩, rfl, rfl, rfl⟩ ?_
    rw [Int.toNat_of_nonneg (by omega)]
    exact hS
  · unfold nwS at hR
    rw [if_neg hz, if_neg hz] at hR
    by_cases h1 : z < 1
    · have d1 : decide (z < 1) = true := decide_eq_true h1
      go_enter Tryz.func7, Tryz.ntmps7
      go_wp2_with ((go_skip))
      exact hR none [] _ ⟨rfl, rfl⟩ hS
    · have d1 : decide (z < 1) = false := decide_eq_false h1
      have d2 : decide (64 < z) = true := decide_eq_true (by omega)
      go_enter Tryz.func7, Tryz.ntmps7
      go_wp2_with ((go_skip))
      exact hR none [] _ ⟨rfl, rfl⟩ hS
def lnS : Sq → Nat
  | some (some (_, _, l)) => l.length
  | _ => 0
def ovS : Sq → Bool
  | some (some (_, o, _)) => o
  | _ => false
set_option maxRecDepth 100000 in
theorem sq_len {p : Option Addr} {T : Sq} (hO : St w0 bs w H) (hT : SA p T E) [hc : Cut H E H1] (n : Nat) (hn : lnS T = n) (hR : ∀ w', St w0 bs w' (E ++ H1) → Ret R (.int .i64 n) w') :
    Calls Tryz.prog 78 #[.pointer p] w R := by
  have hS := hO.front (E := E) (H1 := H1)
  clear hO
  subst hn
  rcases T with _ | _ | ⟨z, o, l⟩
  · go_enter Tryz.func78, Tryz.ntmps78
    go_wp2_with ((go_at_call 71; refine sq_valid hS hT _ rfl ?_; clear hS; intro w hS; unfold Ret))
    exact hR _ hS
  · go_enter Tryz.func78, Tryz.ntmps78
    go_wp2_with ((go_at_call 71; refine sq_valid hS hT _ rfl ?_; clear hS; intro w hS; unfold Ret))
    exact hR _ hS
  · obtain ⟨h1, h2, h3, b, mo, sp, _, _, rfl, rfl⟩ := id hT
    go_enter Tryz.func78, Tryz.ntmps78
    go_wp2_with (first | ((go_at_call 71; refine sq_valid hS hT _ rfl ?_; clear hS; intro w hS; unfold Ret); simp only [List.cons_append, List.nil_append] at hS) | (refine wpList_is (.load _ _) rfl ?_; go_must ((refine wpList_stp (by kernel_rfl) (stp_val (run_ld _ _ rfl hS) ?_)))))
    exact hR _ hS
set_option maxRecDepth 100000 in
theorem sq_over {p : Option Addr} {T : Sq} (hO : St w0 bs w H) (hT : SA p T E) [hc : Cut H E H1] (v : Bool) (hv : ovS T = v) (hR : ∀ w', St w0 bs w' (E ++ H1) → Ret R (.bool v) w') :
    Calls Tryz.prog 32 #[.pointer p] w R := by
  have hS := hO.front (E := E) (H1 := H1)
  clear hO
  subst hv
  rcases T with _ | _ | ⟨z, o, l⟩
  · go_enter Tryz.func32, Tryz.ntmps32
    go_wp2_with (first | go_skip | (go_at_call 71; refine sq_valid hS hT _ rfl ?_; clear hS; intro w hS; unfold Ret))
    exact hR _ hS
  · go_enter Tryz.func32, Tryz.ntmps32
    go_wp2_with (first | go_skip | (go_at_call 71; refine sq_valid hS hT _ rfl ?_; clear hS; intro w hS; unfold Ret))
    exact hR _ hS
  · obtain ⟨h1, h2, h3, b, mo, sp, _, _, rfl, rfl⟩ := id hT
    go_enter Tryz.func32, Tryz.ntmps32
    go_wp2_with (first | ((go_at_call 71; refine sq_valid hS hT _ rfl ?_; clear hS; intro w hS; unfold Ret); simp only [List.cons_append, List.nil_append] at hS) | (refine wpList_is (.load _ _) rfl ?_; go_must ((refine wpList_stp (by kernel_rfl) (stp_val (run_ld _ _ rfl hS) ?_)))))
    exact hR _ hS
def cpS : Sq → Sq
  | some (some x) => some (some x)
  | _ => none
set_option maxRecDepth 100000 in
theorem sq_copy {p : Option Addr} {T : Sq} (hO : St w0 bs w H) (hT : SA p T E) [hc : Cut H E H1] (T' : Sq) (hT' : cpS T = T') (hR : ∀ p' E' w', SA p' T' E' → St w0 bs w' (E' ++ (E ++ H1)) → Ret R (.pointer p') w') :
    Calls Tryz.prog 68 #[.pointer p] w R := by
  have hS := hO.front (E := E) (H1 := H1)
  clear hO
  subst hT'
  rcases T with _ | _ | ⟨z, o, l⟩
  · go_enter Tryz.func68, Tryz.ntmps68
    go_wp2_with ((go_at_call 71; refine sq_valid hS hT _ rfl ?_; clear hS; intro w hS; unfold Ret))
    exact hR none [] _ ⟨rfl, rfl⟩ hS
  · go_enter Tryz.func68, Tryz.ntmps68
    go_wp2_with ((go_at_call 71; refine sq_valid hS hT _ rfl ?_; clear hS; intro w hS; unfold Ret))
    exact hR none [] _ ⟨rfl, rfl⟩ hS
  · obtain ⟨h1, h2, h3, b, mo, sp, hmo, hl, rfl, rfl⟩ := id hT
    have hl64 : (l ++ sp).length = 64 := by rw [List.length_append]; exact hl
    have i1 := sqAll (o := o) (mo := mo) (z := z) (n := l.length) hl64
    have i2 := sqSize (o := o) (mo := mo) (z := z) (n := l.length) hl64
    have i3 : SetsAt (sqC false 0 0 0 zeroS) 0 (sqC o mo z l.length (l ++ sp)) (sqC o mo z l.length (l ++ sp)) := sqOver (by rw [sqC, blk_size i1f_len]; rfl) hl64
    have i4 := sqOnes (o := o) (mo := mo) (z := z) (n := l.length) (L := l ++ sp)
    go_enter Tryz.func68, Tryz.ntmps68
    go_wp2_with (first | ((go_at_call 71; refine sq_valid hS hT _ rfl ?_; clear hS; intro w hS; unfold Ret); simp only [List.cons_append, List.nil_append] at hS) | (refine wpList_is (.load _ _) rfl ?_; go_must ((refine wpList_stp (by kernel_rfl) (stp_val (run_lda _ _ rfl hS) ?_)))) | (refine wpList_is (.store _ _ _) rfl ?_; go_must ((refine wpList_stp (by kernel_rfl) (stp_sta _ _ _ rfl hS ?_))); clear hS; intro w hS) | (refine wpList_is (.alloc _) rfl ?_; go_must (refine wpList_stp (by kernel_rfl) (stp_al _ rfl hS ?_)); clear hS; intro bN w hbN hS))
    exact hR _ _ _ ⟨h1, h2, h3, _, mo, sp, hmo, hl, rfl, rfl⟩ hS
/-- A slot is pushed. -/
def puE (T : Sq) (x : Int) : Int := match T with
  | some (some _) => if x < 0 ∨ 256 ≤ x then 3 else 0
  | _ => 1
def puB (T : Sq) (x : Int) : Bool := match T with
  | some (some (z, _, l)) => if x < 0 ∨ 256 ≤ x then false else decide (l.length ≠ z)
  | _ => false
def puT (T : Sq) (x : Int) : Sq := match T with
  | some (some (z, o, l)) => if x < 0 ∨ 256 ≤ x then some (some (z, o, l)) else if l.length = z then some (some (z, true, l)) else some (some (z, o, l ++ [x]))
  | T => T
def ppR (T : Sq) : Int := match T with
  | some (some (_, _, l)) => l.getLastD 0
  | _ => 0
def ppB (T : Sq) : Bool := match T with
  | some (some (_, _, l)) => !l.isEmpty
  | _ => false
def ppT (T : Sq) : Sq := match T with
  | some (some (z, o, l)) => some (some (z, o, l.dropLast))
  | T => T
set_option maxHeartbeats 1000000 in
set_option maxRecDepth 100000 in
theorem sq_push {p : Option Addr} {T : Sq} (hO : St w0 bs w H) (hT : SA p T E) [hc : Cut H E H1] (x : Int) (T' : Sq) (v : Bool) (e : Int) (hT' : puT T x = T') (hv : puB T x = v) (he : puE T x = e)
    (hR : ∀ E' w', SA p T' E' → St w0 bs w' (E' ++ H1) → Ret R (.tuple #[.bool v, .int .i64 e]) w') : Calls Tryz.prog 53 #[.pointer p, .int .i64 x] w R := by
  have hS := hO.front (E := E) (H1 := H1)
  clear hO
  subst hT' hv he
  rcases T with _ | _ | ⟨z, o, l⟩
  · go_enter Tryz.func53, Tryz.ntmps53
    go_wp2_with ((go_at_call 71; refine sq_valid hS hT _ rfl ?_; clear hS; intro w hS; unfold Ret))
    exact hR _ _ hT hS
  · go_enter Tryz.func53, Tryz.ntmps53
    go_wp2_with ((go_at_call 71; refine sq_valid hS hT _ rfl ?_; clear hS; intro w hS; unfold Ret))
    exact hR _ _ hT hS
  · obtain ⟨h1, h2, h3, b, mo, sp, hmo, hl, rfl, rfl⟩ := id hT
    by_cases hx : x < 0 ∨ 256 ≤ x
    · have e1 : puE (some (some (z, o, l))) x = 3 := by simp only [puE, if_pos hx]
      have e2 : puB (some (some (z, o, l))) x = false := by simp only [puB, if_pos hx]
      have e3 : puT (some (some (z, o, l))) x = some (some (z, o, l)) := by simp only [puT, if_pos hx]
      rw [e1, e2, e3] at hR
      clear e1 e2 e3
      by_cases h0 : x < 0
      · have d1 : decide (x < 0) = true := decide_eq_true h0
        go_enter Tryz.func53, Tryz.ntmps53
        go_wp2_with ((go_at_call 71; refine sq_valid hS hT _ rfl ?_; clear hS; intro w hS; unfold Ret))
        exact hR _ _ hT hS
      · have d1 : decide (x < 0) = false := decide_eq_false h0
        have d2 : decide (256 ≤ x) = true := decide_eq_true (by omega)
        go_enter Tryz.func53, Tryz.ntmps53
        go_wp2_with ((go_at_call 71; refine sq_valid hS hT _ rfl ?_; clear hS; intro w hS; unfold Ret))
        exact hR _ _ hT hS
    · have d1 : decide (x < 0) = false := decide_eq_false (by omega)
      have d2 : decide (256 ≤ x) = false := decide_eq_false (by omega)
      have e1 : puE (some (some (z, o, l))) x = 0 := by simp only [puE, if_neg hx]
      rw [e1] at hR
      by_cases hf : l.length = z
      · have e2 : puB (some (some (z, o, l))) x = false := by simp only [puB, if_neg hx]; exact decide_eq_false (by omega)
        have e3 : puT (some (some (z, o, l))) x = some (some (z, true, l)) := by simp only [puT, if_neg hx, if_pos hf]
        rw [e2, e3] at hR
        clear e1 e2 e3 hx hT
        subst hf
        go_enter Tryz.func53, Tryz.ntmps53
        go_wp2_with (first | (go_at_call 71; refine sq_valid (T := some (some (_, o, l))) hS ⟨h1, h2, by omega, b, mo, _, hmo, hl, rfl, rfl⟩ _ rfl ?_; clear hS; intro w hS; unfold Ret; simp only [List.cons_append, List.nil_append] at hS) | (refine region_quiet hS (by kernel_rfl) (by kernel_rfl) (fun hne => ?_); (repeat ((go_big_quiet_want; first | (refine quiet_is (.load _ _) rfl ?_; go_must ((refine quiet_at sw_st (fun w hS => run_ld _ _ rfl hS) ?_)); go_big_quiet_on) | (go_big_quiet_op; go_big_quiet_on)))); refine wpQuiet_nil ?_; clear hS hne; intro w hS) | (refine wpList_is (.store _ _ _) rfl ?_; go_must ((refine wpList_stp (by kernel_rfl) (stp_st _ _ _ rfl hS ?_))); clear hS; intro w hS))
        exact hR _ _ ⟨h1, h2, Nat.le_refl _, b, mo, sp, hmo, hl, rfl, rfl⟩ hS
      · have e2 : puB (some (some (z, o, l))) x = true := by simp only [puB, if_neg hx]; exact decide_eq_true (by omega)
        have e3 : puT (some (some (z, o, l))) x = some (some (z, o, l ++ [x])) := by simp only [puT, if_neg hx, if_neg hf]
        rw [e2, e3] at hR
        obtain ⟨n, hn⟩ : ∃ n, l.length = n := ⟨_, rfl⟩
        have hnz : n < z := by omega
        obtain ⟨y, sp', rfl⟩ : ∃ y sp', sp = y :: sp' := by
          cases sp with
          | nil => simp at hl; omega
          | cons y sp' => exact ⟨y, sp', rfl⟩
        have hat : (l ++ y :: sp')[n]? = some y := by rw [List.getElem?_append_right (by omega), hn]; simp
        have hss := fun q : Int => sqSet (o := o) (mo := mo) (z := z) (n := (n : Int)) hat q
        have hnew : (l ++ y :: sp').set n x = l ++ [x] ++ sp' := by rw [List.set_append_right _ _ (by omega), hn]; simp
        have ix := idxArrS (P := Tryz.prog) (t := 89) (b := b) (off := 0 + 4) (i := n) Tryz.underlying89 (by kernel_rfl) (by omega)
        have f1 : ((n : Int) == (z : Int)) = false := beq_eq_false_iff_ne.2 (by omega)
        have f2 : decide ((n : Int) = (z : Int)) = false := decide_eq_false (by omega)
        have f3 : decide (n = z) = false := decide_eq_false (by omega)
        have s1 : SumIs (n : Int) 1 ((n + 1 : Nat) : Int) := ⟨by omega, by omega, by omega⟩
        obtain ⟨mo', hmo'⟩ : ∃ q : Int, (if ((n + 1 : Nat) : Int) > mo then ((n + 1 : Nat) : Int) else mo) = q := ⟨_, rfl⟩
        have mx : MaxIs mo ((n + 1 : Nat) : Int) mo' := ⟨hmo'⟩
        have hm2 : 0 ≤ mo' ∧ mo' ≤ 64 := by split at hmo' <;> omega
        have hnew' := Lib.hid hnew
        have hm2' := Lib.hid hm2
        have hl' := Lib.hid hl
        have hn' := Lib.hid hn
        clear e1 e2 e3 hx hT hf hat hnew hmo' hm2 hn
        go_enter Tryz.func53, Tryz.ntmps53
        go_wp2_with ((go_at_call 71; refine sq_valid (T := some (some (_, o, l))) hS ⟨h1, h2, by omega, b, mo, _, hmo, hl, rfl, rfl⟩ _ rfl ?_; clear hS; intro w hS; unfold Ret; simp only [List.cons_append, List.nil_append] at hS; rw [hn'.out] at hS))
        refine region_quiet hS (by kernel_rfl) (by kernel_rfl) (fun hne => ?_)
        go_big_quiet_want; (refine quiet_is (.move _) rfl ?_; refine quiet_val (fun w _ => run_mv _ rfl) ?_; go_big_quiet_on)
        go_big_quiet_want; (refine quiet_is (.nilCheck _) rfl ?_; refine quiet_val (fun w _ => run_nc _ rfl) ?_; go_big_quiet_on)
        go_big_quiet_want; (refine quiet_is (.fieldAddr _ _ _) rfl ?_; refine quiet_val (fun w _ => run_fa _ _ _ rfl) ?_; go_big_quiet_on)
        go_big_quiet_want; ((refine quiet_is (.load _ _) rfl ?_; refine quiet_at sw_st (fun w hS => run_ld _ _ rfl hS) ?_; go_big_quiet_on))
        go_big_quiet_want; (refine quiet_is (.move _) rfl ?_; refine quiet_val (fun w _ => run_mv _ rfl) ?_; go_big_quiet_on)
        go_big_quiet_want; (refine quiet_is (.nilCheck _) rfl ?_; refine quiet_val (fun w _ => run_nc _ rfl) ?_; go_big_quiet_on)
        go_big_quiet_want; (refine quiet_is (.fieldAddr _ _ _) rfl ?_; refine quiet_val (fun w _ => run_fa _ _ _ rfl) ?_; go_big_quiet_on)
        go_big_quiet_want; ((refine quiet_is (.load _ _) rfl ?_; refine quiet_at sw_st (fun w hS => run_ld _ _ rfl hS) ?_; go_big_quiet_on))
        go_big_quiet_want; (go_big_quiet_op; go_big_quiet_on)
        go_big_quiet_want; (refine quiet_is (.assign _) rfl ?_; refine quiet_val (fun w _ => run_as _ rfl) ?_; go_big_quiet_on)
        refine wpQuiet_nil ?_
        clear hS hne
        intro w hS
        go_wp2_with ((go_skip))
        have hS : St w0 bs _ (⟨b, sqC o mo z (n : Int) (l ++ y :: sp'), 91, true⟩ :: H1) := hS.pick
        refine region_depsE [⟨(undef, [⟨b, sqC o mo z (n : Int) (l ++ y :: sp'), 91, true⟩]), [(9, [], fun _ _ zz => zz.2 = [⟨b, sqC o mo z (n : Int) ((l ++ y :: sp').set n x), 91, true⟩])]⟩]
          H1 (⟨b, sqC o mo z (n : Int) (l ++ y :: sp'), 91, true⟩ :: H1) (by simp) hS (by kernel_rfl) (by kernel_rfl) ?_
        refine dx_val (fun _ => rfl) rfl (fun χ w hw => run_mv _ rfl) ?_
        refine dx_val (fun _ => rfl) rfl (fun χ w hw => run_mv _ rfl) ?_
        refine dx_val (fun _ => rfl) rfl (fun χ w hw => run_nc _ rfl) ?_
        refine dx_val (fun _ => rfl) rfl (fun χ w hw => run_fa _ _ _ rfl) ?_
        refine dx_valS 0 0 rfl (by kernel_rfl) (fun _ => rfl) rfl (fun _ => .int .i64 (n : Int)) (fun _ _ _ => rfl) (fun χ X w _ hS => run_ld _ _ rfl (show St w0 bs w (⟨b, sqC o mo z (n : Int) (l ++ y :: sp'), 91, true⟩ :: (X ++ _)) from hS)) ?_
        refine dx_val (fun _ => rfl) rfl (fun χ w hw => run_mv _ rfl) ?_
        refine dx_val (fun _ => rfl) rfl (fun χ w hw => run_nc _ rfl) ?_
        refine dx_val (fun _ => rfl) rfl (fun χ w hw => run_fa _ _ _ rfl) ?_
        refine dx_val (fun _ => rfl) rfl (fun χ w hw => run_idxv _ _ _ rfl) ?_
        refine dx_turn0 0 0 rfl rfl (by kernel_rfl) (by kernel_rfl) (by kernel_rfl) (by kernel_rfl) (fun _ => rfl) (fun _ => undef) ?_ ?_
        · intro χ X w _ hS
          exact stepX_st _ _ _ rfl (show St w0 bs w (⟨b, sqC o mo z (n : Int) (l ++ y :: sp'), 91, true⟩ :: (X ++ _)) from hS) (fun w' hS' => ⟨(undef, [⟨b, sqC o mo z (n : Int) ((l ++ y :: sp').set n x), 91, true⟩]), rfl, rfl, hS'⟩)
        refine dx_end rfl ?_
        intro χ w hok hS
        obtain ⟨hD, _⟩ := hok _ (.head _)
        have hD : (χ 9).2 = [⟨b, sqC o mo z (n : Int) ((l ++ y :: sp').set n x), 91, true⟩] := hD
        have hS : St w0 bs w (((χ 9).2 ++ []) ++ H1) := hS
        rw [hD] at hS
        simp only [List.cons_append, List.nil_append, List.append_assoc] at hS
        clear hok hD
        go_wp2_with (first | (refine wpList_is (.binOp .add _ _ _ _) rfl ?_; refine wpList_stp (by kernel_rfl) (stp_val (run_sumv _ _ _ _ rfl) ?_)) | (refine wpList_is (.load _ _) rfl ?_; go_must ((refine wpList_stp (by kernel_rfl) (stp_val (run_ld _ _ rfl hS) ?_)))) | (refine wpList_is (.store _ _ _) rfl ?_; go_must ((refine wpList_stp (by kernel_rfl) (stp_st _ _ _ rfl hS ?_))); clear hS; intro w hS))
        have hS : St w0 bs _ (⟨b, sqC o mo z ((n + 1 : Nat) : Int) ((l ++ y :: sp').set n x), 91, true⟩ :: H1) := hS.pick
        refine region_depsE [⟨(undef, [⟨b, sqC o mo z ((n + 1 : Nat) : Int) ((l ++ y :: sp').set n x), 91, true⟩]), [(14, [], fun _ _ zz => zz.2 = [⟨b, sqC o mo' z ((n + 1 : Nat) : Int) ((l ++ y :: sp').set n x), 91, true⟩])]⟩]
          H1 (⟨b, sqC o mo z ((n + 1 : Nat) : Int) ((l ++ y :: sp').set n x), 91, true⟩ :: H1) (by simp) hS (by kernel_rfl) (by kernel_rfl) ?_
        refine dx_val (fun _ => rfl) rfl (fun χ w hw => run_mv _ rfl) ?_
        refine dx_val (fun _ => rfl) rfl (fun χ w hw => run_mv _ rfl) ?_
        refine dx_val (fun _ => rfl) rfl (fun χ w hw => run_nc _ rfl) ?_
        refine dx_val (fun _ => rfl) rfl (fun χ w hw => run_fa _ _ _ rfl) ?_
        refine dx_val (fun _ => rfl) rfl (fun χ w hw => run_fa _ _ _ rfl) ?_
        refine dx_valS 0 0 rfl (by kernel_rfl) (fun _ => rfl) rfl (fun _ => .int .i64 mo) (fun _ _ _ => rfl) (fun χ X w _ hS => run_ld _ _ rfl (show St w0 bs w (⟨b, sqC o mo z ((n + 1 : Nat) : Int) ((l ++ y :: sp').set n x), 91, true⟩ :: (X ++ _)) from hS)) ?_
        refine dx_val (fun _ => rfl) rfl (fun χ w hw => run_mv _ rfl) ?_
        refine dx_val (fun _ => rfl) rfl (fun χ w hw => run_nc _ rfl) ?_
        refine dx_val (fun _ => rfl) rfl (fun χ w hw => run_fa _ _ _ rfl) ?_
        refine dx_valS 0 0 rfl (by kernel_rfl) (fun _ => rfl) rfl (fun _ => .int .i64 ((n + 1 : Nat) : Int)) (fun _ _ _ => rfl) (fun χ X w _ hS => run_ld _ _ rfl (show St w0 bs w (⟨b, sqC o mo z ((n + 1 : Nat) : Int) ((l ++ y :: sp').set n x), 91, true⟩ :: (X ++ _)) from hS)) ?_
        refine dx_val (fun _ => rfl) rfl (fun χ w hw => run_maxv _ _ rfl) ?_
        refine dx_val (fun _ => rfl) rfl (fun χ w hw => run_nc _ rfl) ?_
        refine dx_val (fun _ => rfl) rfl (fun χ w hw => run_fa _ _ _ rfl) ?_
        refine dx_val (fun _ => rfl) rfl (fun χ w hw => run_fa _ _ _ rfl) ?_
        refine dx_turn0 0 0 rfl rfl (by kernel_rfl) (by kernel_rfl) (by kernel_rfl) (by kernel_rfl) (fun _ => rfl) (fun _ => undef) ?_ ?_
        · intro χ X w _ hS
          exact stepX_st _ _ _ rfl (show St w0 bs w (⟨b, sqC o mo z ((n + 1 : Nat) : Int) ((l ++ y :: sp').set n x), 91, true⟩ :: (X ++ _)) from hS) (fun w' hS' => ⟨(undef, [⟨b, sqC o mo' z ((n + 1 : Nat) : Int) ((l ++ y :: sp').set n x), 91, true⟩]), rfl, rfl, hS'⟩)
        refine dx_end rfl ?_
        intro χ w hok hS
        obtain ⟨hD, _⟩ := hok _ (.head _)
        have hD : (χ 14).2 = [⟨b, sqC o mo' z ((n + 1 : Nat) : Int) ((l ++ y :: sp').set n x), 91, true⟩] := hD
        have hS : St w0 bs w (((χ 14).2 ++ []) ++ H1) := hS
        rw [hD] at hS
        simp only [List.cons_append, List.nil_append, List.append_assoc] at hS
        clear hok hD
        go_wp2_with ((go_skip))
        refine hR [⟨b, sqC o mo' z ((n + 1 : Nat) : Int) ((l ++ y :: sp').set n x), 91, true⟩] _ ⟨h1, h2, by rw [List.length_append, hn'.out]; simp; omega, b, mo', sp', hm2'.out, ?_, rfl, ?_⟩ hS
        · have := hl'.out
          simp at this ⊢
          omega
        · rw [hnew'.out, List.length_append, hn'.out]; rfl
set_option maxHeartbeats 1000000 in
set_option maxRecDepth 100000 in
theorem sq_pop {p : Option Addr} {T : Sq} (hO : St w0 bs w H) (hT : SA p T E) [hc : Cut H E H1] (T' : Sq) (r : Int) (v : Bool) (hT' : ppT T = T') (hr : ppR T = r) (hv : ppB T = v)
    (hR : ∀ E' w', SA p T' E' → St w0 bs w' (E' ++ H1) → Ret R (.tuple #[.int .i64 r, .bool v]) w') : Calls Tryz.prog 23 #[.pointer p] w R := by
  have hS := hO.front (E := E) (H1 := H1)
  clear hO
  subst hT' hr hv
  rcases T with _ | _ | ⟨z, o, l⟩
  · go_enter Tryz.func23, Tryz.ntmps23
    go_wp2_with (first | go_skip | (go_at_call 71; refine sq_valid hS hT _ rfl ?_; clear hS; intro w hS; unfold Ret))
    exact hR _ _ hT hS
  · go_enter Tryz.func23, Tryz.ntmps23
    go_wp2_with (first | go_skip | (go_at_call 71; refine sq_valid hS hT _ rfl ?_; clear hS; intro w hS; unfold Ret))
    exact hR _ _ hT hS
  · obtain ⟨h1, h2, h3, b, mo, sp, hmo, hl, rfl, rfl⟩ := id hT
    rcases List.eq_nil_or_concat l with rfl | ⟨l', y, rfl⟩
    · go_enter Tryz.func23, Tryz.ntmps23
      go_wp2_with (first | ((go_at_call 71; refine sq_valid hS hT _ rfl ?_; clear hS; intro w hS; unfold Ret); simp only [List.cons_append, List.nil_append, List.length_nil] at hS) | (refine wpList_is (.load _ _) rfl ?_; go_must ((refine wpList_stp (by kernel_rfl) (stp_val (run_ld _ _ rfl hS) ?_)))))
      exact hR _ _ ⟨h1, h2, h3, b, mo, sp, hmo, hl, rfl, rfl⟩ hS
    · have e1 : ppT (some (some (z, o, l'.concat y))) = some (some (z, o, l')) := by simp [ppT]
      have e2 : ppR (some (some (z, o, l'.concat y))) = y := by simp [ppR]
      have e3 : ppB (some (some (z, o, l'.concat y))) = true := by simp [ppB]
      rw [e1, e2, e3] at hR
      obtain ⟨n, hn⟩ : ∃ n, l'.length = n := ⟨_, rfl⟩
      have hcl : (l'.concat y).length = n + 1 := by rw [List.length_concat, hn]
      have hcc : l'.concat y ++ sp = l' ++ (y :: sp) := by simp
      have hat : (l' ++ (y :: sp))[n]? = some y := by rw [List.getElem?_append_right (by omega), hn]; simp
      have hca := sqAt (o := o) (mo := mo) (z := z) (n := (n : Int)) hat
      have hn64 : n < 64 := by rw [hcl] at hl; omega
      have ix := idxArrS (P := Tryz.prog) (t := 89) (b := b) (off := 0 + 4) (i := n) Tryz.underlying89 (by kernel_rfl) hn64
      have f1 : (((n + 1 : Nat) : Int) == 0) = false := beq_eq_false_iff_ne.2 (by omega)
      have f2 : decide (((n + 1 : Nat) : Int) = 0) = false := decide_eq_false (by omega)
      have f3 : decide (n + 1 = 0) = false := decide_eq_false (by omega)
      have s1 : DifIs ((n + 1 : Nat) : Int) 1 (n : Int) := ⟨by omega, by omega, by omega⟩
      have hcl' := Lib.hid hcl
      have hcc' := Lib.hid hcc
      have hn' := Lib.hid hn
      have hl' := Lib.hid hl
      clear e1 e2 e3 hat hn hcl hcc hl
      go_enter Tryz.func23, Tryz.ntmps23
      go_wp2_with (first | ((go_at_call 71; refine sq_valid hS hT _ rfl ?_; clear hS; intro w hS; unfold Ret); simp only [List.cons_append, List.nil_append] at hS; rw [hcl'.out, hcc'.out] at hS; clear hT) | (refine wpList_is (.binOp .sub _ _ _ _) rfl ?_; refine wpList_stp (by kernel_rfl) (stp_val (run_difv _ _ _ _ rfl) ?_)) | (refine wpList_is (.load _ _) rfl ?_; go_must ((refine wpList_stp (by kernel_rfl) (stp_val (run_ld _ _ rfl hS) ?_)))) | (refine wpList_is (.store _ _ _) rfl ?_; go_must ((refine wpList_stp (by kernel_rfl) (stp_st _ _ _ rfl hS ?_))); clear hS; intro w hS))
      refine region_quiet hS (by kernel_rfl) (by kernel_rfl) (fun hne => ?_)
      go_big_quiet_want; (refine quiet_is (.move _) rfl ?_; refine quiet_val (fun w _ => run_mv _ rfl) ?_; go_big_quiet_on)
      go_big_quiet_want; (refine quiet_is (.move _) rfl ?_; refine quiet_val (fun w _ => run_mv _ rfl) ?_; go_big_quiet_on)
      go_big_quiet_want; (refine quiet_is (.nilCheck _) rfl ?_; refine quiet_val (fun w _ => run_nc _ rfl) ?_; go_big_quiet_on)
      go_big_quiet_want; (refine quiet_is (.fieldAddr _ _ _) rfl ?_; refine quiet_val (fun w _ => run_fa _ _ _ rfl) ?_; go_big_quiet_on)
      go_big_quiet_want; ((refine quiet_is (.load _ _) rfl ?_; refine quiet_at sw_st (fun w hS => run_ld _ _ rfl hS) ?_; go_big_quiet_on))
      go_big_quiet_want; (refine quiet_is (.nilCheck _) rfl ?_; refine quiet_val (fun w _ => run_nc _ rfl) ?_; go_big_quiet_on)
      go_big_quiet_want; (refine quiet_is (.fieldAddr _ _ _) rfl ?_; refine quiet_val (fun w _ => run_fa _ _ _ rfl) ?_; go_big_quiet_on)
      go_big_quiet_want; (refine quiet_is (.indexAddr _ _ _) rfl ?_; refine quiet_val (fun w _ => run_idxv _ _ _ rfl) ?_; go_big_quiet_on)
      go_big_quiet_want; ((refine quiet_is (.load _ _) rfl ?_; refine quiet_at sw_st (fun w hS => run_ld _ _ rfl hS) ?_; go_big_quiet_on))
      go_big_quiet_want; (refine quiet_is (.assign _) rfl ?_; refine quiet_val (fun w _ => run_as _ rfl) ?_; go_big_quiet_on)
      go_big_quiet_want; (refine quiet_is (.assign _) rfl ?_; refine quiet_val (fun w _ => run_as _ rfl) ?_; go_big_quiet_on)
      refine wpQuiet_nil ?_
      clear hS hne
      intro w hS
      go_wp2_with ((go_skip))
      refine hR [⟨b, sqC o mo z (n : Int) (l' ++ y :: sp), 91, true⟩] _ ⟨h1, h2, ?_, b, mo, y :: sp, hmo, ?_, rfl, ?_⟩ hS
      · have := hcl'.out
        rw [hn'.out]; omega
      · have := hl'.out
        rw [hcl'.out] at this
        simp [hn'.out]; omega
      · rw [hn'.out]
end Go.Proofs.YtgpjanfphgjbbaaGreat
