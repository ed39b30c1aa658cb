/-
  Arenas: memory; the roots of a mutator; giving a root.
-/
import Derived.Test.YtjlihigodggfcaaGreatStk
set_option linter.unusedSimpArgs false
set_option linter.unusedVariables false
namespace Go.Mm
open Go Go.RowKit
/-- A call of a function value without arguments. -/
theorem wpList_clo {P : Program} {ops : Array Oper} {rest : List Oper} {o : Oper} {a : Act} {w : World} {Q : Exit → Act → World → Prop} {f : Nat} {cap : List Value} (y : Operand) (ts : Array TypeId) (hw : Region.wanted o (yielded ops a.tmps) = true)
    (ho : o.op = .call { callee := .value y, args := #[], argTypes := ts }) [hy : Ev a y (.func (.func f) #[] cap.toArray)] (he : ∀ args w, (callFunc f args).run P w = .ok (.enter f args) w) {a' : Value → Act} [hp : ∀ v, Put a o.dst v (a' v)]
    (h : Calls P f cap.toArray w (fun e w'' => ∃ v, e = .returned v ∧ wpList P ops Q rest (a' v) w'')) : wpList P ops Q (o :: rest) a w := by
  refine BigFrame.wpList_want hw fun K hK => ?_
  have hr : (execOp a.eval o).run P w = .ok (.enter f cap.toArray) w := by
    have hy' := hy.h
    simp [execOp, ho, resolve, invoke, Deferred.ofValue, Act.eval, he] at hy' ⊢
    simp [hy', resolve, invoke, Deferred.ofValue, he]
  unfold Oper.wp
  rw [hr, Oper.upon_enter]
  refine h.mono fun e w'' ⟨v, h1, h2⟩ => ?_
  subst h1
  rw [← (hp v).h] at h2
  exact hK _ _ h2
end Go.Mm
namespace Go.Proofs.YtjlihigodggfcaaGreat
open Go Go.RowKit Go.Mm
variable {R : Ending → World → Prop} {w : World} {w0 : World} {bs : List Nat} {H H' H1 E : List Ent}

def ptf (p : Option Addr) : List Value := [.pointer p]
theorem ptf_len (p : Option Addr) : (ptf p).length = 1 := rfl
theorem ptf_one (p : Option Addr) : ∀ v ∈ ptf p, v.oneCell' = true := by
  intro v hv
  simp only [ptf, List.mem_cons, List.not_mem_nil, or_false] at hv
  rw [hv]; rfl
/-- An arena's block. -/
def arC (po : Option Addr) (z k : Int) (ps : List (Option Addr)) (pg : Option Addr) : Array Value := blk [.pointer po, .int .i64 z, .int .i64 k] ptf ps [.pointer pg]
section
variable {po pg : Option Addr} {z k : Int} {ps : List (Option Addr)}
instance ar0 : CellAt (arC po z k ps pg) 0 (.pointer po) := blkPre rfl
instance ar1 : CellAt (arC po z k ps pg) 1 (.int .i64 z) := blkPre rfl
instance ar2 : CellAt (arC po z k ps pg) 2 (.int .i64 k) := blkPre rfl
theorem arAt {i : Nat} {x : Option Addr} (h : ps[i]? = some x) : CellAt (arC po z k ps pg) (3 + i) (.pointer x) := blkCell ptf_len (i := i) (j := 0) h (by decide) rfl (by simp)
theorem arSet {i : Nat} {x : Option Addr} (h : ps[i]? = some x) (y : Option Addr) : SetAt (arC po z k ps pg) (3 + i) (.pointer y) (arC po z k (ps.set i y) pg) := blkSet ptf_len (i := i) (j := 0) h (by decide) rfl (by simp)
theorem arG (h : ps.length = 4) : CellAt (arC po z k ps pg) 7 (.pointer pg) := ⟨by
  have h1 : (ps.flatMap ptf).length = 4 := by rw [flat_len ptf_len, h]
  simp only [arC, blk, List.getElem?_toArray]
  rw [List.getElem?_append_right (by simp [h1])]
  simp [h1]⟩
end
instance ar_agg : AggT Tryz.prog 69 8 := ⟨by kernel_rfl, by kernel_rfl⟩
instance ar_z : ZeroT Tryz.prog 69 (arC none 0 0 [none, none, none, none] none) := ⟨by kernel_rfl⟩
instance ar_sp : ScalarT Tryz.prog 27 := ⟨by kernel_rfl, by kernel_rfl⟩
instance ar_so : ScalarT Tryz.prog 61 := ⟨by kernel_rfl, by kernel_rfl⟩
instance ar_sh : ScalarT Tryz.prog 58 := ⟨by kernel_rfl, by kernel_rfl⟩
instance ar_sg : ScalarT Tryz.prog 64 := ⟨by kernel_rfl, by kernel_rfl⟩
instance ar_f0 {b off : Nat} : FieldAt Tryz.prog 69 0 b off off := ⟨fun w => by kernel_rfl⟩
instance ar_f1 {b off : Nat} : FieldAt Tryz.prog 69 1 b off (off + 1) := ⟨fun w => by kernel_rfl⟩
instance ar_f2 {b off : Nat} : FieldAt Tryz.prog 69 2 b off (off + 2) := ⟨fun w => by kernel_rfl⟩
instance ar_f3 {b off : Nat} : FieldAt Tryz.prog 69 3 b off (off + 3) := ⟨fun w => by kernel_rfl⟩
instance ar_f4 {b off : Nat} : FieldAt Tryz.prog 69 4 b off (off + 7) := ⟨fun w => by kernel_rfl⟩
instance ob_f0 {b off : Nat} : FieldAt Tryz.prog 63 0 b off off := ⟨fun w => by kernel_rfl⟩
instance ob_b {p : Option Addr} : BuildT Tryz.prog 63 [(0, .pointer p)] #[.pointer p] := ⟨fun w => by kernel_rfl⟩
instance ar_b {po pg : Option Addr} {z k : Int} : BuildT Tryz.prog 69 [(0, .pointer po), (1, .int .i64 z), (2, .int .i64 k), (4, .pointer pg)] (arC po z k [none, none, none, none] pg) := ⟨fun w => by kernel_rfl⟩

/-- No arena that New has made. -/
def NoA (p : Option Addr) (H : List Ent) : Prop := p = none ∨ ∃ b, p = some ⟨b, 0, none⟩ ∧ Has H b (arC none 0 0 [none, none, none, none] none) 69
theorem NoA.mono {p : Option Addr} (h : NoA p H) {X : List Ent} : NoA p (X ++ H) := by
  rcases h with h | ⟨b, h1, h2⟩
  · exact .inl h
  · exact .inr ⟨b, h1, ⟨h2.h.imp fun wr h => List.mem_append_right _ h⟩⟩
theorem NoA.cons {p : Option Addr} (h : NoA p H) {x : Ent} : NoA p (x :: H) := h.mono (X := [x])

set_option maxHeartbeats 1000000 in
set_option maxRecDepth 100000 in
theorem ar_no {p : Option Addr} (hO : St w0 bs w H) (hN : NoA p H) (hR : ∀ w', St w0 bs w' H → Ret R (.bool false) w') : Calls Tryz.prog 34 #[.pointer p] w R := by
  have hS := hO
  clear hO
  rcases hN with rfl | ⟨b, rfl, hH⟩
  · go_enter Tryz.func34, Tryz.ntmps34
    go_wp2_with ((go_skip))
    exact hR _ hS
  · go_enter Tryz.func34, Tryz.ntmps34
    go_wp2_with ((refine wpList_is (.load _ _) rfl ?_; go_must ((refine wpList_stp (by kernel_rfl) (stp_val (run_ld _ _ rfl hS) ?_)))))
    exact hR _ hS
set_option maxHeartbeats 1000000 in
set_option maxRecDepth 100000 in
theorem ar_yes {b bo : Nat} {z k : Int} {ps : List (Option Addr)} {pg : Option Addr} (hO : St w0 bs w H) [hH : Has H b (arC (some ⟨bo, 0, none⟩) z k ps pg) 69] (hR : ∀ w', St w0 bs w' H → Ret R (.bool true) w') : Calls Tryz.prog 34 #[.pointer (some ⟨b, 0, none⟩)] w R := by
  have hS := hO
  clear hO
  go_enter Tryz.func34, Tryz.ntmps34
  go_wp2_with ((refine wpList_is (.load _ _) rfl ?_; go_must ((refine wpList_stp (by kernel_rfl) (stp_val (run_ld _ _ rfl hS) ?_)))))
  exact hR _ hS
set_option maxHeartbeats 1000000 in
set_option maxRecDepth 100000 in
theorem ar_stkn {p : Option Addr} (hO : St w0 bs w H) (hN : NoA p H) (m : Int) (hR : ∀ w', St w0 bs w' H → Ret R (.tuple #[.pointer none, .int .i64 1]) w') : Calls Tryz.prog 71 #[.pointer p, .int .i64 m] w R := by
  have hS := hO
  clear hO
  go_enter Tryz.func71, Tryz.ntmps71
  go_wp2_with ((go_at_call 34; refine ar_no hS hN ?_; clear hS; intro w hS; unfold Ret))
  exact hR _ hS
set_option maxHeartbeats 1000000 in
set_option maxRecDepth 100000 in
/-- The roots of a mutator, or none. -/
theorem ar_stk {b bo : Nat} {z : Int} {k : Nat} {ps : List (Option Addr)} {pg : Option Addr} (hO : St w0 bs w H) [hH : Has H b (arC (some ⟨bo, 0, none⟩) z k ps pg) 69] (hk : k ≤ 4) (hps : ps.length = 4) (m : Int) (q : Option Addr) (e : Int)
    (hq : (if 0 ≤ m ∧ m < k then ps.getD m.toNat none else none) = q) (he : (if 0 ≤ m ∧ m < k then 0 else 3) = e)
    (hR : ∀ w', St w0 bs w' H → Ret R (.tuple #[.pointer q, .int .i64 e]) w') : Calls Tryz.prog 71 #[.pointer (some ⟨b, 0, none⟩), .int .i64 m] w R := by
  have hS := hO
  clear hO
  subst hq he
  by_cases hm : 0 ≤ m ∧ m < k
  · rw [if_pos hm, if_pos hm] at hR
    obtain ⟨i, rfl⟩ := Int.eq_ofNat_of_zero_le hm.1
    rw [Int.toNat_natCast] at hR
    obtain ⟨q, hq⟩ : ∃ q, ps.getD i none = q := ⟨_, rfl⟩
    rw [hq] at hR
    have hq2 : ps[i]? = some q := by rw [← hq, List.getD_eq_getElem?_getD, List.getElem?_eq_getElem (by omega)]; rfl
    have hc := arAt (po := some ⟨bo, 0, none⟩) (z := z) (k := k) (pg := pg) hq2
    have hix := idxArr (P := Tryz.prog) (t := 67) (b := b) (off := 0 + 3) (i := i) Tryz.underlying67 (z := 1) (by kernel_rfl) (by omega)
    rw [Nat.zero_add, Nat.mul_one] at hix
    have d1 : decide ((i : Int) < 0) = false := decide_eq_false (by omega)
    have d2 : decide ((k : Int) ≤ (i : Int)) = false := decide_eq_false (by omega)
    have d2' : decide (k ≤ i) = false := decide_eq_false (by omega)
    clear hq hq2 hm hps
    go_enter Tryz.func71, Tryz.ntmps71
    go_wp2_with (first | (go_at_call 34; refine ar_yes hS ?_; clear hS; intro w hS; unfold Ret) | (refine wpList_is (.indexAddr _ _ _) rfl ?_; refine wpList_stp (by kernel_rfl) (stp_val (run_idxv _ _ _ rfl) ?_)) | (refine wpList_is (.load _ _) rfl ?_; go_must ((refine wpList_stp (by kernel_rfl) (stp_val (run_ld _ _ rfl hS) ?_)))))
    exact hR _ hS
  · rw [if_neg hm, if_neg hm] at hR
    clear hps
    by_cases h0 : m < 0
    · have d1 : decide (m < 0) = true := decide_eq_true h0
      clear hm
      go_enter Tryz.func71, Tryz.ntmps71
      go_wp2_with ((go_at_call 34; refine ar_yes hS ?_; clear hS; intro w hS; unfold Ret))
      exact hR _ hS
    · have d1 : decide (m < 0) = false := decide_eq_false h0
      have d2 : decide ((k : Int) ≤ m) = true := decide_eq_true (by omega)
      clear hm
      go_enter Tryz.func71, Tryz.ntmps71
      go_wp2_with (first | (go_at_call 34; refine ar_yes hS ?_; clear hS; intro w hS; unfold Ret) | (refine wpList_is (.load _ _) rfl ?_; go_must ((refine wpList_stp (by kernel_rfl) (stp_val (run_ld _ _ rfl hS) ?_)))))
      exact hR _ hS
end Go.Proofs.YtjlihigodggfcaaGreat
