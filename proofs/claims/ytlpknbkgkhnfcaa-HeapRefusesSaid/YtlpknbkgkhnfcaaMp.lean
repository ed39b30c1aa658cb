/-
  Maps beside the known blocks: a map that the call has made, its keys structs of integers.
-/
import Derived.Test.YtlpknbkgkhnfcaaBox
import Derived.Test.YtlpknbkgkhnfcaaReg
import Derived.WideKeyRuns
set_option linter.unusedSimpArgs false
set_option linter.unusedVariables false
namespace Go.Mm
open Go Go.RowKit

/-- The blocks that may be written. -/
def wb (H : List Ent) : List Nat := (H.filter (fun e => e.wr)).map (fun e => e.b)
theorem mem_wb {H : List Ent} {x : Nat} : x ∈ wb H ↔ ∃ e ∈ H, e.wr = true ∧ e.b = x := by
  simp [wb, and_assoc]

/-- A map's block: its keys and their elements, as they came. -/
structure MapAt (w : World) (M : Nat) (ms : List (Value × Value)) : Prop where
  h : ∃ es ck, w.heap[M]? = some (.map es ck) ∧ es.toList.map (fun e => (e.key, e.val)) = ms

/-- Between W and w0 only new blocks have come; one of them is the map; those of bs are new, and none of them is the map. -/
structure Base (W w0 : World) (bs : List Nat) (M : Nat) (ms : List (Value × Value)) : Prop where
  chg : Chg W w0 []
  map : MapAt w0 M ms
  new : W.heap.size ≤ M
  bs : ∀ x ∈ bs, W.heap.size ≤ x ∧ x ≠ M

section
variable {W w0 w w1 : World} {bs : List Nat} {M : Nat} {ms ms' : List (Value × Value)} {H : List Ent}
theorem St.self (hS : St w0 bs w H) : St w (wb H) w H :=
  ⟨Chg.refl _ _, hS.get, hS.nd, fun e he hw => .inl (mem_wb.2 ⟨e, he, hw, rfl⟩)⟩

theorem Base.all (hB : Base W w0 bs M ms) (hS : St w0 bs w H) : Chg W w [] :=
  hB.chg.trans hS.chg (fun x hx hlt => absurd (hB.bs x hx).1 (by omega))

theorem Base.now (hB : Base W w0 bs M ms) (hS : St w0 bs w H) : MapAt w M ms := by
  obtain ⟨es, ck, h1, h2⟩ := hB.map.h
  exact ⟨es, ck, hS.chg.get h1 (fun hx => (hB.bs M hx).2 rfl), h2⟩

theorem Base.wrs (hB : Base W w0 bs M ms) (hS : St w0 bs w H) : ∀ x ∈ wb H, W.heap.size ≤ x ∧ x ≠ M := by
  intro x hx
  obtain ⟨e, he, hw, rfl⟩ := mem_wb.1 hx
  refine ⟨?_, fun hM => ?_⟩
  · rcases hS.wr e he hw with h | h
    · exact (hB.bs _ h).1
    · exact Nat.le_trans hB.chg.size h
  · obtain ⟨es, ck, h1, _⟩ := (hB.now hS).h
    have h2 := hS.get e he
    rw [hM, h1] at h2
    cases h2

/-- The known world is taken as the one to go on from. -/
theorem Base.here (hB : Base W w0 bs M ms) (hS : St w0 bs w H) : Base W w (wb H) M ms :=
  ⟨hB.all hS, hB.now hS, hB.new, hB.wrs hS⟩

/-- Behind a change of the map's block alone. -/
theorem Base.turn (hB : Base W w0 bs M ms) (hS : St w0 bs w H) {es : Array MapEntry} {ck : Nat} (he : es.toList.map (fun e => (e.key, e.val)) = ms') :
    Base W (w.putCells M (.map es ck)) (wb H) M ms' ∧ St (w.putCells M (.map es ck)) (wb H) (w.putCells M (.map es ck)) H := by
  have hlt : M < w.heap.size := by obtain ⟨_, _, h, _⟩ := (hB.now hS).h; exact lt_of_heap h
  refine ⟨⟨(hB.all hS).trans (Chg.put w M _) (fun x hx hl => ?_), ⟨es, ck, put_get hlt, he⟩, hB.new, hB.wrs hS⟩, ?_⟩
  · rw [List.mem_singleton] at hx
    subst hx
    exact absurd hB.new (by omega)
  · refine ⟨Chg.refl _ _, fun e he => ?_, hS.nd, fun e he hw => .inl (mem_wb.2 ⟨e, he, hw, rfl⟩)⟩
    have hne : e.b ∉ [M] := by
      rw [List.mem_singleton]
      intro hM
      obtain ⟨es', ck', h1, _⟩ := (hB.now hS).h
      have h2 := hS.get e he
      rw [hM, h1] at h2
      cases h2
    exact (Chg.put w M (.map es ck)).get (hS.get e he) hne

/-- The map is made. -/
theorem Base.made (hS : St W [] w H) : Base W (w.alloc (.map #[] 0)) (wb H) w.heap.size [] ∧ St (w.alloc (.map #[] 0)) (wb H) (w.alloc (.map #[] 0)) H := by
  have hc := hS.chg.nil (Chg.alloc w (.map #[] 0))
  refine ⟨⟨hc, ⟨#[], 0, alloc_new w _, rfl⟩, hS.chg.size, fun x hx => ?_⟩, (hS.nil (Chg.alloc w _)).self⟩
  obtain ⟨e, he, hw, rfl⟩ := mem_wb.1 hx
  refine ⟨?_, fun h => absurd (hS.lt he) (by omega)⟩
  rcases hS.wr e he hw with h | h
  · cases h
  · exact h

/-! Keys -/
theorem check_of {P : Program} {t : TypeId} {xs : Array Value} (l : List (TypeId × Nat)) (ht : P.underlying t = some (.struct (P.fieldsOf t)))
    (hl : (P.fieldsOf t).toList.map (fun f => (f.name == "_", f.type, f.offset)) = l.map (fun x => (false, x.1, x.2)))
    (hc : ∀ x ∈ l, ∃ q a, P.underlying x.1 = some (.int q) ∧ ScalarT P x.1 ∧ xs[x.2]? = some (.int q a)) (em : Bool) (w : World) : (Instr.checkKey em 10000 t (.agg xs)).run P w = .ok () w := by
  show (Instr.checkKey em (9998 + 1 + 1) t (.agg xs)).run P w = .ok () w
  rw [Instr.checkKey]
  simp only [Sem.run_bind, run_underlying ht, Result.andThen_ok]
  rw [← Array.forIn_toList]
  generalize (P.fieldsOf t).toList = L at hl
  clear ht
  revert l
  induction L with
  | nil => intro l _ _; simp
  | cons f L ih =>
    intro l hc hl
    cases l with
    | nil => simp at hl
    | cons x l =>
      simp only [List.map_cons, List.cons.injEq, Prod.mk.injEq] at hl
      obtain ⟨⟨hn, hty, ho⟩, hl⟩ := hl
      have hn' : f.name ≠ "_" := by simpa using hn
      obtain ⟨q, a, hu, hs, hcell⟩ := hc x (.head _)
      have hp := run_part_scalar hs hcell w
      rw [← ho] at hp
      rw [← hty] at hp hu
      have h2 : (Instr.checkKey em (9998 + 1) f.type (.int q a)).run P w = .ok () w := by
        rw [Instr.checkKey]
        simp [run_underlying hu]
      simp only [List.forIn_cons, Sem.run_bind, hn', ne_eq, not_false_eq_true, if_true, Result.andThen_ok, hp, h2, Sem.run_pure]
      exact ih l (fun y hy => hc y (.tail _ hy)) hl

/-- A key that may be asked for, held against the keys that there are. -/
class KeyC (P : Program) (t : TypeId) (xs : Array Value) : Prop where
  h : ∀ em w, (Instr.checkKey em 10000 t (.agg xs)).run P w = .ok () w
  s : (match P.underlying t with | some (.array _ _) | some (.struct _) => true | _ => false) = true

/-- What is found: the first one of those that are the same. -/
theorem find_of {P : Program} {t : TypeId} {xs : Array Value} (w : World) (f : Value → Bool) : ∀ (es : List MapEntry) (i : Nat), (∀ e ∈ es, ∃ ys, e.key = .agg ys ∧ AggEq P t xs ys (f e.key)) →
    ((∀ e ∈ es, f e.key = false) ∧ (Instr.findAsking t (.agg xs) es i).run P w = .ok none w) ∨
    ∃ j e, es[j]? = some e ∧ f e.key = true ∧ (Instr.findAsking t (.agg xs) es i).run P w = .ok (some (i + j, e.val)) w
  | [], i, _ => .inl ⟨by simp, by simp [Instr.findAsking]⟩
  | e :: es, i, h => by
    obtain ⟨ys, hk, hq⟩ := h e (.head _)
    have hr : (Op.equal t (.agg xs) e.key).run P w = .ok (f e.key) w := by
      have h1 := hq.h w
      rw [run_eql_struct] at h1
      have h2 : (Op.equal t (.agg xs) e.key) = Op.equalIn 10000 t (.agg xs) (.agg ys) := by rw [hk]; rfl
      rw [h2]
      generalize hx : (Op.equalIn 10000 t (.agg xs) (.agg ys)).run P w = r at h1
      cases r with
      | ok b w' =>
        simp only [Result.andThen_ok, Result.ok.injEq, Value.bool.injEq] at h1
        rw [h1.1, h1.2]
      | halt x w' => simp [Result.andThen] at h1
    cases hf : f e.key with
    | true => exact .inr ⟨0, e, rfl, hf, by simp [Instr.findAsking, hr, hf]⟩
    | false =>
      rcases find_of w f es (i + 1) (fun y hy => h y (.tail _ hy)) with ⟨h1, h2⟩ | ⟨j, e', h1, h2, h3⟩
      · refine .inl ⟨fun y hy => ?_, by simp [Instr.findAsking, hr, hf, h2]⟩
        rcases List.mem_cons.1 hy with rfl | hy
        · exact hf
        · exact h1 y hy
      · exact .inr ⟨j + 1, e', by simpa using h1, h2, by simp [Instr.findAsking, hr, hf, h3, Nat.add_assoc, Nat.add_comm 1 j]⟩

class MapT (P : Program) (t : TypeId) (k e : outParam TypeId) : Prop where
  h : P.underlying t = some (.map k e)

variable {P : Program} {t k e : TypeId} {xs : Array Value}
/-- All keys are of the kind that can be held against xs; f tells which is the same. -/
def Keys (P : Program) (k : TypeId) (xs : Array Value) (f : Value → Bool) (ms : List (Value × Value)) : Prop := ∀ m ∈ ms, ∃ ys, m.1 = .agg ys ∧ AggEq P k xs ys (f m.1)

theorem run_getMap {es : Array MapEntry} {ck : Nat} (h : w.heap[M]? = some (.map es ck)) : (getObj M).run P w = .ok (.map es ck) w := MapKept.run_getObj_map h

theorem look_yes [ht : MapT P t k e] [hk : KeyC P k xs] (hM : MapAt w M ms) {f : Value → Bool} (hK : Keys P k xs f ms) {v : Value} (hv : ∀ m ∈ ms, f m.1 = true → m.2 = v) (hex : ∃ m ∈ ms, f m.1 = true) (c : Bool) :
    (Instr.lookup t (.map (some M)) (.agg xs) c).run P w = .ok (if c then .tuple #[v, .bool true] else v) w := by
  obtain ⟨es, ck, h1, h2⟩ := hM.h
  subst h2
  have hf := find_of (P := P) (t := k) (xs := xs) w f es.toList 0 (fun x hx => by
    obtain ⟨ys, h3, h4⟩ := hK (x.key, x.val) (List.mem_map.2 ⟨x, hx, rfl⟩)
    exact ⟨ys, h3, h4⟩)
  have hg := run_getMap (P := P) h1
  rcases hf with ⟨h3, h4⟩ | ⟨j, x, h3, h4, h5⟩
  · obtain ⟨m, hm, hm2⟩ := hex
    obtain ⟨x, hx, rfl⟩ := List.mem_map.1 hm
    rw [h3 x hx] at hm2
    cases hm2
  · have hx : x.val = v := hv (x.key, x.val) (List.mem_map.2 ⟨x, List.mem_of_getElem? h3, rfl⟩) h4
    subst hx
    simp [Instr.lookup, run_underlying ht.h, hg, hk.h, run_findKey_eq w hk.s, h5, Result.andThen]

theorem look_no [ht : MapT P t k e] [hk : KeyC P k xs] (hM : MapAt w M ms) {f : Value → Bool} (hK : Keys P k xs f ms) (hno : ∀ m ∈ ms, f m.1 = false) {z : Value} (hz : (zeroValue e).run P w = .ok z w) (c : Bool) :
    (Instr.lookup t (.map (some M)) (.agg xs) c).run P w = .ok (if c then .tuple #[z, .bool false] else z) w := by
  obtain ⟨es, ck, h1, h2⟩ := hM.h
  subst h2
  have hf := find_of (P := P) (t := k) (xs := xs) w f es.toList 0 (fun x hx => by
    obtain ⟨ys, h3, h4⟩ := hK (x.key, x.val) (List.mem_map.2 ⟨x, hx, rfl⟩)
    exact ⟨ys, h3, h4⟩)
  have hg := run_getMap (P := P) h1
  rcases hf with ⟨h3, h4⟩ | ⟨j, x, h3, h4, h5⟩
  · simp [Instr.lookup, run_underlying ht.h, hg, hk.h, run_findKey_eq w hk.s, h4, Result.andThen, hz]
  · have := hno (x.key, x.val) (List.mem_map.2 ⟨x, List.mem_of_getElem? h3, rfl⟩)
    simp only at this
    rw [h4] at this
    cases this

/-- A key that there is not is put into the map. -/
theorem put_new [ht : MapT P t k e] [hk : KeyC P k xs] (hM : MapAt w M ms) {f : Value → Bool} (hK : Keys P k xs f ms) (hno : ∀ m ∈ ms, f m.1 = false) (v : Value) :
    ∃ es ck, (Instr.mapUpdate t (.map (some M)) (.agg xs) v).run P w = .ok () (w.putCells M (.map es ck)) ∧ es.toList.map (fun e => (e.key, e.val)) = ms ++ [(.agg xs, v)] := by
  obtain ⟨es, ck, h1, h2⟩ := hM.h
  subst h2
  have hf := find_of (P := P) (t := k) (xs := xs) w f es.toList 0 (fun x hx => by
    obtain ⟨ys, h3, h4⟩ := hK (x.key, x.val) (List.mem_map.2 ⟨x, hx, rfl⟩)
    exact ⟨ys, h3, h4⟩)
  have hg := run_getMap (P := P) h1
  have hlt := lt_of_heap h1
  rcases hf with ⟨h3, h4⟩ | ⟨j, x, h3, h4, h5⟩
  · refine ⟨es.push ⟨.agg xs, v, ck⟩, ck + 1, ?_, by simp⟩
    simp [Instr.mapUpdate, run_underlying ht.h, hg, hk.h, run_findKey_eq w hk.s, h4, MapKept.run_setObj_map _ h1, Result.andThen, World.putCells]
  · have := hno (x.key, x.val) (List.mem_map.2 ⟨x, List.mem_of_getElem? h3, rfl⟩)
    simp only at this
    rw [h4] at this
    cases this

/-! The operations -/
variable {o : Oper} {a a' : Act}
/-- What a look-up gives. -/
def LookIs (P : Program) (w : World) (t : TypeId) (M : Nat) (xs : Array Value) (c : Bool) (v : Value) : Prop := (Instr.lookup t (.map (some M)) (.agg xs) c).run P w = .ok v w
theorem run_look (x y : Operand) (c : Bool) (ho : o.op = .lookup t x y c) [hx : Ev a x (.map (some M))] [hy : Ev a y (.agg xs)] {v : Value} (h : LookIs P w t M xs c v) : OpVal P o a w v := by
  unfold OpVal
  unfold LookIs at h
  simp only [execOp, ho, hx.h, hy.h, Sem.run_bind, h, Result.andThen_ok, Sem.run_pure]
theorem stp_mm {post : Act → World → Prop} (ho : o.op = .makeMap t none) (hS : St W [] w H) {a' : Value → Act} [hp : ∀ v, Put a o.dst v (a' v)]
    (h : ∀ w0 M, Base W w0 (wb H) M [] → St w0 (wb H) w0 H → post (a' (.map (some M))) w0) : Stp P o a w post := by
  obtain ⟨h1, h2⟩ := Base.made hS
  refine ⟨.value _, _, ?_, .inl ⟨_, rfl, by rw [(hp _).h]; exact h _ _ h1 h2⟩⟩
  simp only [execOp, ho, Instr.makeMap, newObj, Sem.run_bind, Sem.run_pure, Result.andThen_ok]
  rfl
end
end Go.Mm
