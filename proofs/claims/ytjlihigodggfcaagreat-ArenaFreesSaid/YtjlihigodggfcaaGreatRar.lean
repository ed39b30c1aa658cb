/-
  The document's arenas, in the same model as the program's: what is read.
-/
import Derived.Test.YtjlihigodggfcaaGreatArnP
import Derived.Test.YtjlihigodggfcaaGreatRheapE
import Derived.Test.YtjlihigodggfcaaGreatRfs
set_option linter.unusedSimpArgs false
set_option linter.unusedVariables false
namespace Go.Mm
open Go Go.RowKit
instance (priority := 700) cutL {A e A1 B : List Ent} [h : Cut A e A1] : Cut (A ++ B) e (A1 ++ B) := ⟨let ⟨X, Y, h1, h2⟩ := h.h; ⟨X, Y ++ B, by rw [h1, List.append_assoc, List.append_assoc], by rw [h2, List.append_assoc]⟩⟩
section
variable {P : Program} {o : Oper} {a : Act} {w w0 : World} {bs : List Nat} {H H1 : List Ent} {v : Value} {post : Act → World → Prop}
/-- Nothing is appended. -/
theorem stp_apy (s x : Operand) (t t' : TypeId) (ho : o.op = .call { callee := .builtin .append, args := #[s, x], argTypes := #[t, t'] }) (htt : t' = t) {e : TypeId} [ht : SliceT P t e] {size bytes : Nat} {zs : Array Value} [he : ElemT P e size bytes zs]
    {n : Nat} {xs : List Value} {E : List Ent} (hsl : Sl e size v n xs E) [hs : Ev a s v] [hx : Ev a x (.slice none 0 0)] {a' : Value → Act} [hp : ∀ v, Put a o.dst v (a' v)] (h : post (a' v) w) : Stp P o a w post := by
  subst htt
  obtain ⟨i, z, hi, hz, rfl, rfl, rfl⟩ := he.parts
  have hr : (Builtin.append_ #[t', t'] o.type #[v, .slice none 0 0]).run P w = .ok v w := by
    rcases hsl.or with ⟨rfl, rfl, _⟩ | ⟨g, cap, sp, rfl, _, hnc, _, _⟩
    · simp [Builtin.append_, run_underlying ht.h, sizeOf, typeInfo, hi, Builtin.lenOf, Builtin.firstCells, loadCells, loadCellsFrom]
    · simp [Builtin.append_, run_underlying ht.h, sizeOf, typeInfo, hi, Builtin.lenOf, Builtin.firstCells, loadCells, loadCellsFrom, hnc, storeCells]
  refine ⟨.value v, w, ?_, .inl ⟨_, rfl, by rw [(hp _).h]; exact h⟩⟩
  simp only [execOp, ho, resolve, invoke, builtin, Sem.run_bind, Sem.run_pure, Result.andThen_ok, List.map_toArray, List.map_cons, List.map_nil, hs.h, hx.h, hr]
end
end Go.Mm
namespace Go.Proofs.YtjlihigodggfcaaGreat
open Go Go.RowKit Go.Mm
variable {R : Ending → World → Prop} {w : World} {w0 : World} {bs : List Nat} {H H' H1 H2 E Z : List Ent}
/-- Append of a slice of references to one of the call's own. -/
theorem stp_apR {o : Oper} {a : Act} {v y : Value} {l0 l : List Rf} {E0 e : List Ent} {post : Act → World → Prop} (s x : Operand) (t t' : TypeId) (ho : o.op = .call { callee := .builtin .append, args := #[s, x], argTypes := #[t, t'] }) (htt : t' = t) (ht : t = 81)
    (hS : St w0 bs w H) (hs0 : RS v l0 E0) (hy : RS y l e) [hs : Ev a s v] [hx : Ev a x y] [hcut : Cut H E0 H1] [hc2 : Cut H e H'] {a' : Value → Act} [hp : ∀ v, Put a o.dst v (a' v)] (h32 : l0.length + l.length ≤ 1000)
    (h : ∀ v' E' w', RS v' (l0 ++ l) E' → St w0 bs w' (E' ++ H1) → post (a' v') w') : Stp Tryz.prog o a w post := by
  subst ht
  rcases hy.or with ⟨rfl, h0, rfl⟩ | ⟨g, cap, sp, rfl, he, hc1, _, _⟩
  · have hl : l = [] := List.eq_nil_of_length_eq_zero h0
    subst hl
    exact stp_apy s x _ t' ho htt hs0 (h _ _ _ (by simpa using hs0) hS.front)
  · have hb : Has H g ((l.flatMap slf ++ sp).toArray) 25 := by
      obtain ⟨A, B, e1, _⟩ := hc2.h
      rw [e1, he]
      infer_instance
    have c1 : CellsAt ((l.flatMap slf ++ sp).toArray) 0 (l.length * 2) (l.flatMap slf).toArray := by
      have := preCells (l := l) (sp := sp) (q := l.length) (Nat.le_refl _)
      rwa [List.take_length] at this
    have o1 := flatOnes l
    refine stp_ap (size := 2) s x _ t' ho htt hS rfl hs0 rfl (by simp only [maxLen]; omega) (by omega) (fun v' E' w' hsl' _ hS' => h _ _ _ (RS.of hsl' (by simp) (by simp)) hS')

/-! ### The block of an arena -/
def arR (z : Int) (ph : Option Addr) (v : Value) (G : List Rf) : Array Value := blk [.bool true, .int .i64 z, .pointer ph, v] slf G []
def ovB (vs sp : List Value) : Array Value := (vs ++ sp).toArray
section
variable {z : Int} {ph : Option Addr} {v : Value} {G : List Rf} {vs sp : List Value}
instance arR0 : CellAt (arR z ph v G) 0 (.bool true) := blkPre rfl
instance arR1 : CellAt (arR z ph v G) 1 (.int .i64 z) := blkPre rfl
instance arR2 : CellAt (arR z ph v G) 2 (.pointer ph) := blkPre rfl
instance arR3 : CellAt (arR z ph v G) 3 v := blkPre rfl
instance arR1' : CellAt (arR z ph v G) (0 + 1) (.int .i64 z) := arR1
instance arR2' : CellAt (arR z ph v G) (0 + 2) (.pointer ph) := arR2
instance arR3' : CellAt (arR z ph v G) (0 + 3) v := arR3
theorem arRS (v' : Value) : SetAt (arR z ph v G) 3 v' (arR z ph v' G) := blkPreSet (by simp) rfl
theorem arRG {i : Nat} {x : Rf} (h : G[i]? = some x) : CellsAt (arR z ph v G) (4 + i * 2) 2 #[.int .i64 x.1, .int .u32 x.2] := blkCells slf_len h rfl
theorem arRGS {i : Nat} (h : i < G.length) (s g : Int) : SetsAt (arR z ph v G) (4 + i * 2) #[.int .i64 s, .int .u32 g] (arR z ph v (G.set i (s, g))) := blkSets slf_len (a' := (s, g)) h rfl
theorem ovAt {j : Nat} {x : Value} (h : vs[j]? = some x) : CellAt (ovB vs sp) j x := ⟨by
  have hj := (List.getElem?_eq_some_iff.1 h).1
  rw [ovB, List.getElem?_toArray, List.getElem?_append_left hj, h]⟩
theorem ovSet {j : Nat} (h : j < vs.length) (x : Value) : SetAt (ovB vs sp) j x (ovB (vs.set j x) sp) := ⟨by simp [ovB, List.set_append_left _ _ h], by simp [ovB]; omega⟩
theorem ov_idx {g n cap j : Nat} (h : j < n) : IdxV Tryz.prog 74 (.slice (some ⟨g, 0, none⟩) n cap) j ⟨g, j, none⟩ := ⟨fun w => by
  have h2 : 0 ≤ (j : Int) := by omega
  simp [Instr.indexAt, asIntOf, run_underlying Tryz.underlying74, h, run_sizeOf' (P := Tryz.prog) (t := 81) (n := 1) (by kernel_rfl), Addr.add_lit]⟩
instance ov_len {g n cap : Nat} : LenV Tryz.prog 74 (.slice (some ⟨g, 0, none⟩) n cap) n := ⟨⟨_, _, rfl⟩, _, Tryz.underlying74⟩
end
instance rr_agg : AggT Tryz.prog 77 20 := ⟨by kernel_rfl, by kernel_rfl⟩
instance rr_sp : ScalarT Tryz.prog 31 := ⟨by kernel_rfl, by kernel_rfl⟩
instance rr_sh : ScalarT Tryz.prog 71 := ⟨by kernel_rfl, by kernel_rfl⟩
instance rr_so : ScalarT Tryz.prog 74 := ⟨by kernel_rfl, by kernel_rfl⟩
instance rr_f0 {b off : Nat} : FieldAt Tryz.prog 77 0 b off off := ⟨fun w => by kernel_rfl⟩
instance rr_f1 {b off : Nat} : FieldAt Tryz.prog 77 1 b off (off + 1) := ⟨fun w => by kernel_rfl⟩
instance rr_f2 {b off : Nat} : FieldAt Tryz.prog 77 2 b off (off + 2) := ⟨fun w => by kernel_rfl⟩
instance rr_f3 {b off : Nat} : FieldAt Tryz.prog 77 3 b off (off + 3) := ⟨fun w => by kernel_rfl⟩
instance rr_f4 {b off : Nat} : FieldAt Tryz.prog 77 4 b off (off + 4) := ⟨fun w => by kernel_rfl⟩
theorem rr_gi {b i : Nat} (h : i < 8) : IdxV Tryz.prog 75 (.pointer (some ⟨b, 0 + 4, none⟩)) i ⟨b, 4 + i * 2, none⟩ := idxArr (P := Tryz.prog) (t := 75) (m := 8) (z := 2) (e := 25) (b := b) (off := 0 + 4) (by kernel_rfl) (by kernel_rfl) h
/-- A slice whose block lies in a pool that is never written. -/
def RZ (v : Value) (l : List Rf) (Z : List Ent) : Prop := ∃ e Z1, RS v l e ∧ Cut Z e Z1
theorem RZ.mono {v : Value} {l : List Rf} (h : RZ v l Z) (X : List Ent) : RZ v l (X ++ Z) := by
  obtain ⟨e, Z1, h1, h2⟩ := h
  exact ⟨e, X ++ Z1, h1, inferInstance⟩
theorem RZ.new {v : Value} {l : List Rf} {X : List Ent} (h : RS v l X) : RZ v l (X ++ Z) := ⟨X, Z, h, inferInstance⟩
/-- An arena of the document. -/
def AR (p : Option Addr) (T : Ar) (E Z : List Ent) : Prop :=
  ∃ b ph Eh g cap vs sp, p = some ⟨b, 0, none⟩ ∧ RH ph (some (some T.1)) Eh ∧ vs.length = T.2.1.length ∧ (∀ j v, vs[j]? = some v → RZ v (T.2.1.getD j []) Z) ∧ 1 ≤ vs.length ∧ vs.length ≤ 4 ∧
    (vs.length ≤ cap ∧ cap ≤ maxLen ∧ vs.length + sp.length = cap) ∧ T.2.2.length = 8 ∧ (∀ l ∈ T.2.1, l.length ≤ 32) ∧
    E = ⟨b, arR T.1.length ph (.slice (some ⟨g, 0, none⟩) vs.length cap) T.2.2, 77, true⟩ :: ⟨g, ovB vs sp, 81, true⟩ :: Eh
theorem AR.mono {p : Option Addr} {T : Ar} (h : AR p T E Z) (X : List Ent) : AR p T E (X ++ Z) := by
  obtain ⟨b, ph, Eh, g, cap, vs, sp, h0, h1, h2, h3, h4⟩ := h
  exact ⟨b, ph, Eh, g, cap, vs, sp, h0, h1, h2, fun j v hv => (h3 j v hv).mono X, h4⟩
theorem AR.some {p : Option Addr} {T : Ar} (h : AR p T E Z) : ∃ b, p = some ⟨b, 0, none⟩ := by
  obtain ⟨b, _, _, _, _, _, _, rfl, _⟩ := h
  exact ⟨b, rfl⟩
theorem inM_nat {T : Ar} {m : Int} (h : inM T m = true) : ∃ j : Nat, m = j ∧ j < T.2.1.length := by
  unfold inM at h
  simp only [Bool.and_eq_true, decide_eq_true_eq] at h
  exact ⟨m.toNat, by omega, by omega⟩
theorem inM_not {T : Ar} {m : Int} (h : inM T m = false) : m < 0 ∨ (T.2.1.length : Int) ≤ m := by
  unfold inM at h
  simp only [Bool.and_eq_false_iff, decide_eq_false_iff_not] at h
  omega
theorem ks_mem {ks : List (List Rf)} {j : Nat} (h : j < ks.length) : ks.getD j [] ∈ ks := by
  rw [List.getD_eq_getElem?_getD, List.getElem?_eq_getElem h]
  exact List.getElem_mem h
set_option maxRecDepth 100000 in
theorem rr_valid {b : Nat} {z : Int} {ph : Option Addr} {v : Value} {G : List Rf} (hO : St w0 bs w H) [hH : Has H b (arR z ph v G) 77] (hR : ∀ w', St w0 bs w' H → Ret R (.bool true) w') : Calls Tryz.prog 36 #[.pointer (some ⟨b, 0, none⟩)] w R := by
  have hS := hO
  clear hO
  go_enter Tryz.func36, Tryz.ntmps36
  go_wp2_with ((refine wpList_is (.load _ _) rfl ?_; go_must ((refine wpList_stp (by kernel_rfl) (stp_val (run_ld _ _ rfl hS) ?_)))))
  exact hR _ hS
set_option maxRecDepth 100000 in
theorem rr_mutator {p : Option Addr} {T : Ar} (hO : St w0 bs w H) (hT : AR p T E Z) [hc : Cut H E H1] [hz : Cut H1 Z H2] (m e : Int) (he : muE T m = e) (hR : ∀ w', St w0 bs w' (E ++ (Z ++ H2)) → Ret R (.int .i64 e) w') : Calls Tryz.prog 75 #[.pointer p, .int .i64 m] w R := by
  have hS := hO.front (E := E) (H1 := H1)
  have hS : St w0 bs w (E ++ (Z ++ H2)) := hS.pick
  clear hO
  obtain ⟨L, ks, G⟩ := T
  obtain ⟨b, ph, Eh, g, cap, vs, sp, rfl, hH, hvl, hvz, h1, h4, hcap, hG8, h32, hE⟩ := id hT
  have hE' := Lib.hid hE
  clear hE
  simp only at hvl hvz hG8 h32 hH
  subst he
  rw [hE'.out] at hS
  simp only [List.cons_append] at hS
  unfold muE at hR
  cases hm : inM (L, ks, G) m with
  | false =>
    rw [hm] at hR
    simp only [Bool.false_eq_true, if_false] at hR
    have hm2 := inM_not hm
    simp only at hm2
    rw [← hvl] at hm2
    rcases hm2 with hm2 | hm2
    · have d1 : decide (m < 0) = true := decide_eq_true hm2
      go_enter Tryz.func75, Tryz.ntmps75
      go_wp2_with ((go_at_call 36; refine rr_valid hS ?_; clear hS; intro w hS; unfold Ret))
      exact hR _ (by rw [hE'.out]; simp only [List.cons_append]; exact hS)
    · have d1 : decide (m < 0) = false := decide_eq_false (by omega)
      have d2 : decide ((vs.length : Int) ≤ m) = true := decide_eq_true hm2
      go_enter Tryz.func75, Tryz.ntmps75
      go_wp2_with (first | (go_at_call 36; refine rr_valid hS ?_; clear hS; intro w hS; unfold Ret) | (refine wpList_is (.call { callee := .builtin .len, args := #[_], argTypes := #[_] }) rfl ?_; refine wpList_stp (by kernel_rfl) (stp_val (run_lenv _ _ rfl) ?_)) | (refine wpList_is (.load _ _) rfl ?_; go_must ((refine wpList_stp (by kernel_rfl) (stp_val (run_ld _ _ rfl hS) ?_)))))
      exact hR _ (by rw [hE'.out]; simp only [List.cons_append]; exact hS)
  | true =>
    rw [hm] at hR
    simp only [if_true] at hR
    obtain ⟨j, rfl, hj⟩ := inM_nat hm
    simp only at hj
    rw [← hvl] at hj
    have d2 : decide ((vs.length : Int) ≤ (j : Int)) = false := decide_eq_false (by omega)
    have d3 : decide (vs.length ≤ j) = false := decide_eq_false (by omega)
    go_enter Tryz.func75, Tryz.ntmps75
    go_wp2_with (first | (go_at_call 36; refine rr_valid hS ?_; clear hS; intro w hS; unfold Ret) | (refine wpList_is (.call { callee := .builtin .len, args := #[_], argTypes := #[_] }) rfl ?_; refine wpList_stp (by kernel_rfl) (stp_val (run_lenv _ _ rfl) ?_)) | (refine wpList_is (.load _ _) rfl ?_; go_must ((refine wpList_stp (by kernel_rfl) (stp_val (run_ld _ _ rfl hS) ?_)))))
    exact hR _ (by rw [hE'.out]; simp only [List.cons_append]; exact hS)
end Go.Proofs.YtjlihigodggfcaaGreat
