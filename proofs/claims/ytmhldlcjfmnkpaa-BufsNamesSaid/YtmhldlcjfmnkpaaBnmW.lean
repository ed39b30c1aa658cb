/-
  Names of buffers: what the statement keeps of them in memory.
-/
import Derived.Test.YtmhldlcjfmnkpaaBnm
import Derived.Test.YtmhldlcjfmnkpaaSubG
set_option linter.unusedSimpArgs false
set_option linter.unusedVariables false
namespace Go.Proofs.Ytmhldlcjfmnkpaa
open Go Go.RowKit Go.Mm
variable {R : Ending → World → Prop} {w : World} {w0 : World} {bs : List Nat} {H H' H1 E : List Ent}

def hlf (x : Hd) : List Value := [.int .i64 x.1.1, .int .i64 x.1.2.1, .int .u32 x.1.2.2, .int .i64 x.2]
theorem hlf_len (x : Hd) : (hlf x).length = 4 := rfl
theorem hlf_one (x : Hd) : ∀ v ∈ hlf x, v.oneCell' = true := by
  intro v hv
  simp only [hlf, List.mem_cons, List.not_mem_nil, or_false] at hv
  rcases hv with rfl | rfl | rfl | rfl <;> rfl
instance h_agg : AggT Try.prog 40 4 := ⟨by kernel_rfl, by kernel_rfl⟩
instance h_z : ZeroT Try.prog 40 #[.int .i64 0, .int .i64 0, .int .u32 0, .int .i64 0] := ⟨by kernel_rfl⟩
instance h_el : ElemT Try.prog 40 4 32 #[.int .i64 0, .int .i64 0, .int .u32 0, .int .i64 0] := ⟨by kernel_rfl⟩
instance h_sl : SliceT Try.prog 31 40 := ⟨by kernel_rfl⟩
instance h_ss : ScalarT Try.prog 31 := ⟨by kernel_rfl, by kernel_rfl⟩
instance h_f0 {b off : Nat} : FieldAt Try.prog 40 0 b off off := ⟨fun w => by kernel_rfl⟩
instance h_f1 {b off : Nat} : FieldAt Try.prog 40 1 b off (off + 3) := ⟨fun w => by kernel_rfl⟩
instance h_bd {k i g n : Int} : BuildT Try.prog 40 [(0, .agg #[.int .i64 k, .int .i64 i, .int .u32 g]), (1, .int .i64 n)] #[.int .i64 k, .int .i64 i, .int .u32 g, .int .i64 n] := ⟨fun w => by kernel_rfl⟩

instance flatFour {t u v x : Value} {us cs : List Value} [h : FlatOf us cs] : FlatOf (.agg (List.toArray [t, u, v, x]) :: us) (t :: u :: v :: x :: cs) := ⟨by rw [List.flatMap_cons, h.h]; rfl⟩
/-- A slice of what is held. -/
def HS (v : Value) (l : List Hd) (E : List Ent) : Prop := Sl 40 4 v l.length (l.flatMap hlf) E
theorem HS.nil : HS (.slice none 0 0) [] [] := sl_nil
theorem HS.snoc {v : Value} {l : List Hd} {x : Hd} (h : Sl 40 4 v (l.length + 1) (l.flatMap hlf ++ #[.int .i64 x.1.1, .int .i64 x.1.2.1, .int .u32 x.1.2.2, .int .i64 x.2].toList) E) : HS v (l ++ [x]) E := by
  unfold HS
  rw [List.length_append, List.flatMap_append]
  simpa [hlf] using h
theorem HS.of {v : Value} {l : List Hd} {E : List Ent} {n : Nat} {xs : List Value} (h : Sl 40 4 v n xs E) (hn : n = l.length) (hx : xs = l.flatMap hlf) : HS v l E := by subst hn hx; exact h
theorem HS.one {v : Value} {l : List Hd} (h : HS v l E) : OneCell v := Sl.one h
theorem HS.len {v : Value} {l : List Hd} (h : HS v l E) {n : Nat} (hn : l.length = n) : LenV Try.prog 31 v n := by
  subst hn
  refine ⟨?_, 40, Try.underlying31⟩
  rcases h.or with ⟨rfl, h0, _⟩ | ⟨g, cap, sp, rfl, _⟩
  · exact ⟨none, 0, by rw [h0]⟩
  · exact ⟨_, cap, rfl⟩
theorem HS.at {v : Value} {l : List Hd} (h : HS v l E) {i : Nat} (hi : i < l.length) {x : Hd} (hx : l[i]? = some x) :
    ∃ g sp, (∀ j : Int, j = i → IdxV Try.prog 31 v j ⟨g, i * 4, none⟩) ∧ Has E g (blk [] hlf l sp) 40 ∧
      CellsAt (blk [] hlf l sp) (i * 4) 3 #[.int .i64 x.1.1, .int .i64 x.1.2.1, .int .u32 x.1.2.2] ∧ CellAt (blk [] hlf l sp) (i * 4 + 3) (.int .i64 x.2) := by
  obtain ⟨g, cap, sp, rfl, rfl, h1, h2, h3⟩ := Sl.some h (by omega)
  have hc : CellsAt (blk [] hlf l sp) (i * 4) 4 #[.int .i64 x.1.1, .int .i64 x.1.2.1, .int .u32 x.1.2.2, .int .i64 x.2] := blkCells (pre := []) hlf_len (i := i) (a := x) hx (by simp)
  refine ⟨g, sp, fun j hj => ⟨fun w => ?_⟩, hasHead, ⟨fun j hj => ?_, rfl⟩, ⟨?_⟩⟩
  · subst hj
    have h2 : 0 ≤ (i : Int) := by omega
    simp [Instr.indexAt, asIntOf, run_underlying Try.underlying31, hi, run_sizeOf' (P := Try.prog) (t := 40) (n := 4) (by kernel_rfl), Addr.add_lit]
  · rw [hc.h j (by omega)]
    rcases j with _ | _ | _ | j
    · rfl
    · rfl
    · rfl
    · omega
  · exact hc.h 3 (by decide)

theorem hd3 {l : List Hd} {sp : List Value} {i : Nat} {x : Hd} (hx : l[i]? = some x) : CellsAt ((l.flatMap hlf ++ sp).toArray) (i * 4) 3 #[.int .i64 x.1.1, .int .i64 x.1.2.1, .int .u32 x.1.2.2] := by
  have hc : CellsAt (blk [] hlf l sp) (i * 4) 4 #[.int .i64 x.1.1, .int .i64 x.1.2.1, .int .u32 x.1.2.2, .int .i64 x.2] := blkCells (pre := []) hlf_len (i := i) (a := x) hx (by simp)
  refine ⟨fun j hj => ?_, rfl⟩
  rw [show ((l.flatMap hlf ++ sp).toArray) = blk [] hlf l sp from rfl, hc.h j (by omega)]
  rcases j with _ | _ | _ | j
  · rfl
  · rfl
  · rfl
  · omega

/-! The map of names -/
instance n_map : MapT Try.prog 30 36 4 := ⟨by kernel_rfl⟩
instance n_s : ScalarT Try.prog 30 := ⟨by kernel_rfl, by kernel_rfl⟩
instance n_key {k i g : Int} : KeyC Try.prog 36 #[.int .i64 k, .int .i64 i, .int .u32 g] := ⟨fun em w => by
  refine check_of (P := Try.prog) (t := 36) [(3, 0), (3, 1), (23, 2)] (by kernel_rfl) (by kernel_rfl) (fun x hx => ?_) em w
  simp only [List.mem_cons, List.not_mem_nil, or_false] at hx
  rcases hx with rfl | rfl | rfl
  · exact ⟨.i64, k, Try.underlying3, s_int, rfl⟩
  · exact ⟨.i64, i, Try.underlying3, s_int, rfl⟩
  · exact ⟨.u32, g, Try.underlying23, s_u32, rfl⟩, by kernel_rfl⟩
def outV (o : Ot) : Value := .agg #[.int .i64 o.1, .int .i64 o.2.1, .int .u32 o.2.2]
def snV (o : Ot) : Value × Value := (outV o, .bool true)
def keyO (k i g : Int) : Value → Bool
  | .agg cs => match cs.toList with
    | [.int .i64 a, .int .i64 b, .int .u32 c] => outB k i g a b c
    | _ => false
  | _ => false
theorem snKeys {k i g : Int} (ms : List Ot) : Keys Try.prog 36 #[.int .i64 k, .int .i64 i, .int .u32 g] (keyO k i g) (ms.map snV) := by
  intro x hx
  obtain ⟨m, _, rfl⟩ := List.mem_map.1 hx
  exact ⟨_, rfl, out_eq⟩
theorem outB_iff {k i g : Int} {o : Ot} : outB k i g o.1 o.2.1 o.2.2 = true ↔ o = (k, i, g) := by
  obtain ⟨a, b, c⟩ := o
  simp only [outB, Bool.and_eq_true, decide_eq_true_eq, Prod.mk.injEq]
  constructor
  · rintro ⟨⟨rfl, rfl⟩, rfl⟩; exact ⟨rfl, rfl, rfl⟩
  · rintro ⟨rfl, rfl, rfl⟩; exact ⟨⟨rfl, rfl⟩, rfl⟩
theorem seen_yes {w : World} {M : Nat} {ms : List Ot} (hM : MapAt w M (ms.map snV)) {k i g : Int} (hk : (k, i, g) ∈ ms) : LookIs Try.prog w 30 M #[.int .i64 k, .int .i64 i, .int .u32 g] false (.bool true) := by
  refine look_yes hM (snKeys ms) (fun x hx hf => ?_) ⟨snV (k, i, g), List.mem_map.2 ⟨_, hk, rfl⟩, ?_⟩ false
  · obtain ⟨y, hy, rfl⟩ := List.mem_map.1 hx
    rfl
  · exact outB_self k i g
theorem seen_no {w : World} {M : Nat} {ms : List Ot} (hM : MapAt w M (ms.map snV)) {k i g : Int} (hk : ∀ o ∈ ms, o ≠ (k, i, g)) : LookIs Try.prog w 30 M #[.int .i64 k, .int .i64 i, .int .u32 g] false (.bool false) := by
  refine look_no hM (snKeys ms) (fun x hx => ?_) (by kernel_rfl) false
  obtain ⟨y, hy, rfl⟩ := List.mem_map.1 hx
  show outB k i g y.1 y.2.1 y.2.2 = false
  cases h : outB k i g y.1 y.2.1 y.2.2 with
  | false => rfl
  | true => exact absurd (outB_iff.1 h) (hk y hy)
theorem put_seen {w : World} {M : Nat} {ms : List Ot} (hM : MapAt w M (ms.map snV)) {k i g : Int} (hk : ∀ o ∈ ms, o ≠ (k, i, g)) :
    ∃ es ck, (Instr.mapUpdate 30 (.map (some M)) (.agg #[.int .i64 k, .int .i64 i, .int .u32 g]) (.bool true)).run Try.prog w = .ok () (w.putCells M (.map es ck)) ∧
      es.toList.map (fun e => (e.key, e.val)) = (ms ++ [(k, i, g)]).map snV := by
  obtain ⟨es, ck, h1, h2⟩ := put_new (P := Try.prog) (t := 30) hM (snKeys (k := k) (i := i) (g := g) ms) (fun x hx => by
    obtain ⟨y, hy, rfl⟩ := List.mem_map.1 hx
    show outB k i g y.1 y.2.1 y.2.2 = false
    cases h : outB k i g y.1 y.2.1 y.2.2 with
    | false => rfl
    | true => exact absurd (outB_iff.1 h) (hk y hy)) (.bool true)
  exact ⟨es, ck, h1, by rw [h2, List.map_append]; rfl⟩
/-- 'm[k] = v' where the key is new. -/
theorem stp_upd {P : Program} {o : Oper} {a : Act} {post : Act → World → Prop} (t : TypeId) (x y z : Operand) (ho : o.op = .mapUpdate t x y z) {M : Nat} {xs : Array Value} {u : Value} [hx : Ev a x (.map (some M))] [hy : Ev a y (.agg xs)] [hz : Ev a z u] {a' : Act} [hp : Put a o.dst undef a']
    (h : ∃ w', (Instr.mapUpdate t (.map (some M)) (.agg xs) u).run P w = .ok () w' ∧ post a' w') : Stp P o a w post := by
  obtain ⟨w', hr, hC⟩ := h
  refine ⟨.skip, w', ?_, .inr ⟨rfl, by rw [hp.h]; exact hC⟩⟩
  simp only [execOp, ho, hx.h, hy.h, hz.h, Sem.run_bind, hr, Result.andThen_ok, Sem.run_pure]
end Go.Proofs.Ytmhldlcjfmnkpaa
