/-
  'copy' between slices: all is read before anything is written.
-/
import Derived.Test.YtjlihigodggfcaaItemD
import Derived.Test.YtjlihigodggfcaaReg
set_option linter.unusedSimpArgs false
set_option linter.unusedVariables false
namespace Go.Mm
open Go Go.RowKit
section
variable {P : Program} {o : Oper} {a : Act} {w w0 : World} {bs : List Nat} {H : List Ent} {post : Act → World → Prop}
theorem cp_run (hS : St w0 bs w H) {t t' ty e : TypeId} [ht : SliceT P t e] {size bytes : Nat} {zs : Array Value} [he : ElemT P e size bytes zs] {b off dl dc b2 off2 sl sc n k : Nat} (hn : Nat.min sl dl = n) (hk : n * size = k)
    {cs2 : Array Value} {T2 : TypeId} [hH2 : Has H b2 cs2 T2] {news : Array Value} [hc : CellsAt cs2 off2 k news] [h1 : OneCells news] {cs cs' : Array Value} {T : TypeId} {H' : List Ent} [hH : Has H b cs T] [hsa : SetsAt cs off news cs'] [hu : Upd H b cs' T H'] :
    ∃ w', (Builtin.copy_ #[t, t'] ty #[.slice (some ⟨b, off, none⟩) dl dc, .slice (some ⟨b2, off2, none⟩) sl sc]).run P w = .ok (.int .i64 n) w' ∧ St w0 bs w' H' := by
  obtain ⟨i, z, hi, hz, rfl, rfl, rfl⟩ := he.parts
  have hb := hS.has hH
  have hnews := cells_news hc (w := w) (b := b2) (fun j => cell_of_has (hS.has hH2))
  have hl : news.toList.length = n * i.size := by rw [hk]; simpa using hc.s
  have hload := run_loadCells_list (P := P) w ⟨b2, off2, none⟩ news.toList hnews
  rw [hl] at hload
  have hr := run_storeCells_at P b off T news.toList 0 cs w hb (by have := hsa.le; simpa using this) h1.h
  simp only [Nat.add_zero] at hr
  rw [show news.toList.length = news.size by simp, hsa.h] at hr
  refine ⟨w.setRow b cs', ?_, hS.upd ⟨rfl, rfl, rfl, by simp, fun k _ hk => setRow_other w b k _ (by simpa [eq_comm] using hk)⟩ (setRow_heap w b cs _ T _ hb)⟩
  simp [Builtin.copy_, run_underlying ht.h, Builtin.lenOf, Builtin.firstCells, sizeOf, typeInfo, hi, hn, hload, hr, goInt]
theorem stp_cp (d s : Operand) (t t' : TypeId) (ho : o.op = .call { callee := .builtin .copy, args := #[d, s], argTypes := #[t, t'] }) (hS : St w0 bs w H) {e : TypeId} [ht : SliceT P t e] {size bytes : Nat} {zs : Array Value} [he : ElemT P e size bytes zs]
    {b off dl dc b2 off2 sl sc n k : Nat} [hd : Ev a d (.slice (some ⟨b, off, none⟩) dl dc)] [hs : Ev a s (.slice (some ⟨b2, off2, none⟩) sl sc)] (hn : Nat.min sl dl = n) (hk : n * size = k)
    {cs2 : Array Value} {T2 : TypeId} [hH2 : Has H b2 cs2 T2] {news : Array Value} [hc : CellsAt cs2 off2 k news] [h1 : OneCells news] {cs cs' : Array Value} {T : TypeId} {H' : List Ent} [hH : Has H b cs T] [hsa : SetsAt cs off news cs'] [hu : Upd H b cs' T H']
    {a' : Act} [hp : Put a o.dst (.int .i64 n) a'] (h : ∀ w', St w0 bs w' H' → post a' w') : Stp P o a w post := by
  obtain ⟨w', hr, hS'⟩ := cp_run (P := P) (t := t) (t' := t') (ty := o.type) (dc := dc) (sc := sc) hS hn hk (hH2 := hH2) (hc := hc) (h1 := h1) (hH := hH) (hsa := hsa) (hu := hu)
  refine ⟨.value (.int .i64 n), w', ?_, .inl ⟨_, rfl, by rw [hp.h]; exact h _ hS'⟩⟩
  simp only [execOp, ho, resolve, invoke, builtin, Sem.run_bind, Sem.run_pure, Result.andThen_ok, List.map_toArray, List.map_cons, List.map_nil, hd.h, hs.h, hr]
theorem stepAt_cp {C' : World → Prop} (d s : Operand) (t t' : TypeId) (ho : o.op = .call { callee := .builtin .copy, args := #[d, s], argTypes := #[t, t'] }) (hS : St w0 bs w H) {e : TypeId} [ht : SliceT P t e] {size bytes : Nat} {zs : Array Value} [he : ElemT P e size bytes zs]
    {b off dl dc b2 off2 sl sc n k : Nat} [hd : Ev a d (.slice (some ⟨b, off, none⟩) dl dc)] [hs : Ev a s (.slice (some ⟨b2, off2, none⟩) sl sc)] (hn : Nat.min sl dl = n) (hk : n * size = k)
    {cs2 : Array Value} {T2 : TypeId} [hH2 : Has H b2 cs2 T2] {news : Array Value} [hc : CellsAt cs2 off2 k news] [h1 : OneCells news] {cs cs' : Array Value} {T : TypeId} {H' : List Ent} [hH : Has H b cs T] [hsa : SetsAt cs off news cs'] [hu : Upd H b cs' T H']
    (h : ∀ w', St w0 bs w' H' → C' w') : stepAt P o a C' w (.int .i64 n) := by
  obtain ⟨w', hr, hS'⟩ := cp_run (P := P) (t := t) (t' := t') (ty := o.type) (dc := dc) (sc := sc) hS hn hk (hH2 := hH2) (hc := hc) (h1 := h1) (hH := hH) (hsa := hsa) (hu := hu)
  have hr2 : (execOp a.eval o).run P w = .ok (.value (.int .i64 n)) w' := by
    simp only [execOp, ho, resolve, invoke, builtin, Sem.run_bind, Sem.run_pure, Result.andThen_ok, List.map_toArray, List.map_cons, List.map_nil, hd.h, hs.h, hr]
  unfold stepAt
  rw [hr2]
  exact ⟨h _ hS', rfl⟩
end
end Go.Mm
