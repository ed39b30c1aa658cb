/-
  References: their types; slices of references of the call's own; two references held against each other.
-/
import Derived.Test.YtlpknbkgkhnfcaaRows
import Derived.Test.YtlpknbkgkhnfcaaBox
set_option linter.unusedSimpArgs false
set_option linter.unusedVariables false
namespace Go.Proofs.Ytlpknbkgkhnfcaa
open Go.RowKit Go.Mm
variable {R : Ending → World → Prop} {w : World} {w0 : World} {bs : List Nat} {H H' H1 E : List Ent}

instance s_int : ScalarT Try.prog 3 := ⟨by kernel_rfl, by kernel_rfl⟩
instance s_bool : ScalarT Try.prog 4 := ⟨by kernel_rfl, by kernel_rfl⟩
instance s_u32 : ScalarT Try.prog 26 := ⟨by kernel_rfl, by kernel_rfl⟩
instance z_bool : ZeroT Try.prog 4 #[.bool false] := ⟨by kernel_rfl⟩
instance z_int : ZeroT Try.prog 3 #[.int .i64 0] := ⟨by kernel_rfl⟩
instance z_u32 : ZeroT Try.prog 26 #[.int .u32 0] := ⟨by kernel_rfl⟩
instance a_ref : AggT Try.prog 38 2 := ⟨by kernel_rfl, by kernel_rfl⟩
instance z_ref : ZeroT Try.prog 38 #[.int .i64 0, .int .u32 0] := ⟨by kernel_rfl⟩
instance e_ref : ElemT Try.prog 38 2 16 #[.int .i64 0, .int .u32 0] := ⟨by kernel_rfl⟩
instance sl_ref : SliceT Try.prog 32 38 := ⟨by kernel_rfl⟩
def slf (x : Int × Int) : List Value := [.int .i64 x.1, .int .u32 x.2]
theorem slf_len (x : Int × Int) : (slf x).length = 2 := rfl
theorem slf_one (x : Int × Int) : ∀ v ∈ slf x, v.oneCell' = true := by
  intro v hv
  simp only [slf, List.mem_cons, List.not_mem_nil, or_false] at hv
  rcases hv with rfl | rfl <;> rfl
instance s_sref : ScalarT Try.prog 32 := ⟨by kernel_rfl, by kernel_rfl⟩
instance z_sref : ZeroT Try.prog 32 #[.slice none 0 0] := ⟨by kernel_rfl⟩
instance s_err : ScalarT Try.prog 39 := ⟨by kernel_rfl, by kernel_rfl⟩
instance z_err : ZeroT Try.prog 39 #[.int .i64 0] := ⟨by kernel_rfl⟩
instance b_ref {s g : Int} : BuildT Try.prog 38 [(0, .int .i64 s), (1, .int .u32 g)] #[.int .i64 s, .int .u32 g] := ⟨fun w => by kernel_rfl⟩
instance b_ref1 {g : Int} : BuildT Try.prog 38 [(1, .int .u32 g)] #[.int .i64 0, .int .u32 g] := ⟨fun w => by kernel_rfl⟩
instance b_ref2 {s : Int} : BuildT Try.prog 38 [(0, .int .i64 s)] #[.int .i64 s, .int .u32 0] := ⟨fun w => by kernel_rfl⟩
instance b_ref0 : BuildT Try.prog 38 [] #[.int .i64 0, .int .u32 0] := ⟨fun w => by kernel_rfl⟩

theorem enters (f : Nat) (h : (match Try.prog.funcs[f]? with | some fn => !(fn.name == "runtime.NumGoroutine") && fn.body.isSome | none => false) = true) : ∀ args w, (callFunc f args).run Try.prog w = .ok (.enter f args) w := by
  intro args w
  cases hf : Try.prog.funcs[f]? with
  | none => simp [hf] at h
  | some fn =>
    simp only [hf, Bool.and_eq_true, Bool.not_eq_true'] at h
    cases hb : fn.body with
    | none => simp [hb] at h
    | some c => have := h.1; simp at this; simp [callFunc, hf, this, hb]

/-! Generations -/
theorem gcheck {g : Int} (h1 : 1 ≤ g) (h2 : g ≤ 4294967295) (hR : Ret R (.int .i64 0) w) : Calls Try.prog 70 #[.int .u32 g] w R := by
  go_enter Try.func70, Try.ntmps70
  go_wp2
  exact hR
theorem gcheck_bad (hR : Ret R (.int .i64 2) w) : Calls Try.prog 70 #[.int .u32 0] w R := by
  go_enter Try.func70, Try.ntmps70
  go_wp2
  exact hR

/-! Slices of references -/
theorem refCells {l : List (Int × Int)} {sp : List Value} : (l.flatMap slf ++ sp).toArray = blk [] slf l sp := rfl
/-- A slice of references, of the call's own. -/
def RS (v : Value) (l : List (Int × Int)) (E : List Ent) : Prop := Sl 38 2 v l.length (l.flatMap slf) E
theorem RS.nil : RS (.slice none 0 0) [] [] := sl_nil
theorem RS.lit {g : Nat} {cs : Array Value} (l : List (Int × Int)) (h : (l.flatMap slf).toArray = cs) (hn : l.length ≤ 1000) : RS (.slice (some ⟨g, 0, none⟩) l.length l.length) l [⟨g, cs, 38, true⟩] := by
  subst h
  exact ⟨flat_len slf_len l, .inr ⟨g, l.length, [], rfl, by simp, Nat.le_refl _, by simp only [maxLen]; omega, by rw [flat_len slf_len]; simp⟩⟩
theorem RS.snoc {v : Value} {l : List (Int × Int)} {x : Int × Int} (h : Sl 38 2 v (l.length + 1) (l.flatMap slf ++ #[.int .i64 x.1, .int .u32 x.2].toList) E) : RS v (l ++ [x]) E := by
  unfold RS
  rw [List.length_append, List.flatMap_append]
  simpa [slf] using h
/-- Two references are one. -/
def refB (s g s' g' : Int) : Bool := decide (s = s') && decide (g = g')
theorem refB_iff {x y : Int × Int} : refB x.1 x.2 y.1 y.2 = true ↔ x = y := by
  simp [refB, Prod.ext_iff]
theorem refB_self (s g : Int) : refB s g s g = true := by simp [refB]
theorem refB_no {x y : Int × Int} (h : x ≠ y) : refB x.1 x.2 y.1 y.2 = false := by
  rw [← Bool.not_eq_true, refB_iff]; exact h
instance c_int {a b : Int} : CellEq Try.prog 3 (.int .i64 a) (.int .i64 b) (decide (a = b)) := cellEq_int Try.underlying3 s_int
instance c_u32 {a b : Int} : CellEq Try.prog 26 (.int .u32 a) (.int .u32 b) (decide (a = b)) := cellEq_int Try.underlying26 s_u32
instance ref_eq {s g s' g' : Int} : AggEq Try.prog 38 #[.int .i64 s, .int .u32 g] #[.int .i64 s', .int .u32 g'] (refB s g s' g') := by
  have h := aggEq_of (P := Try.prog) (t := 38) [(3, 0), (26, 1)] (by kernel_rfl) (by kernel_rfl) (by kernel_rfl) (by kernel_rfl) (xs := #[.int .i64 s, .int .u32 g]) (ys := #[.int .i64 s', .int .u32 g'])
  simpa [refB] using h

theorem refE {s g s' g' : Int} {b : Bool} (h : refB s g s' g' = b) : AggEq Try.prog 38 #[.int .i64 s, .int .u32 g] #[.int .i64 s', .int .u32 g'] b := by subst h; exact ref_eq
theorem RS.len {v : Value} {l : List (Int × Int)} (h : RS v l E) {n : Nat} (hn : l.length = n) : LenV Try.prog 32 v n := by
  subst hn
  refine ⟨?_, 38, Try.underlying32⟩
  rcases h.or with ⟨rfl, h0, _⟩ | ⟨g, cap, sp, rfl, _⟩
  · exact ⟨none, 0, by rw [h0]⟩
  · exact ⟨_, cap, rfl⟩
theorem RS.at {v : Value} {l : List (Int × Int)} (h : RS v l E) {i : Nat} (hi : i < l.length) {x : Int × Int} (hx : l.getD i (0, 0) = x) :
    ∃ g sp, (∀ j : Int, j = i → IdxV Try.prog 32 v j ⟨g, i * 2, none⟩) ∧ Has E g (blk [] slf l sp) 38 ∧ CellsAt (blk [] slf l sp) (i * 2) 2 #[.int .i64 x.1, .int .u32 x.2] := by
  subst hx
  obtain ⟨g, cap, sp, rfl, rfl, h1, h2, h3⟩ := Sl.some h (by omega)
  refine ⟨g, sp, fun j hj => ⟨fun w => ?_⟩, hasHead, ?_⟩
  · subst hj
    have h2 : 0 ≤ (i : Int) := by omega
    simp [Instr.indexAt, asIntOf, run_underlying Try.underlying32, hi, run_sizeOf' (P := Try.prog) (t := 38) (n := 2) (by kernel_rfl), Addr.add_lit]
  · refine blkCells (pre := []) slf_len (i := i) (a := l.getD i (0, 0)) ?_ (by simp)
    rw [List.getD_eq_getElem?_getD, List.getElem?_eq_getElem hi]; rfl
theorem RS.one {v : Value} {l : List (Int × Int)} (h : RS v l E) : OneCell v := Sl.one h

/-- A piece that is only read. -/
def ro (E : List Ent) : List Ent := E.map (fun e => { e with wr := false })
theorem ro_start {W : World} {E : List Ent} (hE : ∀ e ∈ E, W.heap[e.b]? = some (.cells e.cs e.T (0, 0))) (hnd : E.Pairwise (fun x y => x.b ≠ y.b)) : St W [] W (ro E) := by
  refine St.start (fun e he => ?_) ?_ (fun e he hw => ?_)
  · obtain ⟨x, hx, rfl⟩ := List.mem_map.1 he
    exact hE x hx
  · unfold ro
    rw [List.pairwise_map]
    exact hnd
  · obtain ⟨x, hx, rfl⟩ := List.mem_map.1 he
    cases hw

theorem kept_chg {bs : List Nat} {w w' : World} (h : Chg w w' []) (hb : ∀ x ∈ bs, x < w.heap.size) : Kept bs w w' := fun x hx => h.same x (hb x hx) (by simp)
theorem kept_lt {x : Nat} {w w' : World} (h : w'.heap[x]? = w.heap[x]?) (hb : x < w.heap.size) : x < w'.heap.size := by
  rw [Array.getElem?_eq_getElem hb] at h
  exact (Array.getElem?_eq_some_iff.1 h).1

end Go.Proofs.Ytlpknbkgkhnfcaa
