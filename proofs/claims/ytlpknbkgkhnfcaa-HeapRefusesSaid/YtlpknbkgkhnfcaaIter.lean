/-
  A range over a function, over the layer 'Mem': what a round keeps; rounds rebased; filters of ranges.
-/
import Derived.Test.YtlpknbkgkhnfcaaMem
import Derived.RangeFuncNested
import Derived.RangeFuncLeaves
import Derived.OwnWalkIn
import Derived.TacticsInMore
import Derived.LoopNIn
import Derived.LoopIn
set_option linter.unusedSimpArgs false
set_option linter.unusedVariables false
namespace Go.Mm
open Go Go.RowKit

/-- The blocks of bs lie as they lay. -/
def Kept (bs : List Nat) (W W' : World) : Prop := ∀ b ∈ bs, W'.heap[b]? = W.heap[b]?
theorem Kept.trans {bs : List Nat} {A B C : World} (h : Kept bs A B) (k : Kept bs B C) : Kept bs A C := fun b hb => (k b hb).trans (h b hb)
theorem kept_put {bs : List Nat} {w : World} (hb : ∀ b ∈ bs, b < w.heap.size) (W : World) (l : Nat) (o o' : Obj) (hl : w.heap.size ≤ l) (_ : W.heap[l]? = some o) (_ : o.isCells = false) (_ : o.isWalk = false) : Kept bs W (W.putObj l o') := by
  intro b h
  exact World.putObj_heap_other (by have := hb b h; omega)

/-- The blocks that may be written. -/
def wl (H : List Ent) : List Nat := (H.filter (·.wr)).map (·.b)
theorem mem_wl {H : List Ent} {b : Nat} : b ∈ wl H ↔ ∃ e ∈ H, e.wr = true ∧ e.b = b := by
  simp [wl, and_assoc]

section
variable {w0 w w' : World} {bs : List Nat} {H H' : List Ent}
theorem St.rebase (hS : St w0 bs w H) : St w (wl H) w H :=
  St.start hS.get hS.nd (fun e he hw => mem_wl.2 ⟨e, he, hw, rfl⟩)

theorem St.rejoin (hS : St w0 bs w H) (k : St w (wl H) w' H') : St w0 bs w' H' := by
  refine ⟨hS.chg.trans k.chg ?_, k.get, k.nd, ?_⟩
  · intro x hx hlt
    obtain ⟨e, he, hw, rfl⟩ := mem_wl.1 hx
    rcases hS.wr e he hw with h | h
    · exact h
    · omega
  · intro e he hw
    rcases k.wr e he hw with h | h
    · obtain ⟨x, hx, hxw, hxe⟩ := mem_wl.1 h
      rw [← hxe]; exact hS.wr x hx hxw
    · exact .inr (Nat.le_trans hS.chg.size h)

theorem St.keeps (hS : St w0 bs w H) (k : Chg w w' (wl H)) : KeepsOthers w w' :=
  ⟨k.size, fun i o hi ho => by
    refine k.get hi ?_
    intro hx
    obtain ⟨e, he, _, rfl⟩ := mem_wl.1 hx
    rw [hS.get e he] at hi
    cases hi; cases ho⟩

theorem Chg.grown {w w' : World} (h : Chg w w' []) (row : Option Nat) : w.grownBy w' row := ⟨h.os, h.tape, h.output, h.size, fun k hk _ => h.same k hk (by simp)⟩

/-- What is said by St abides the turn of a block that holds no cells and is not old. -/
theorem St.abide (hS : St w0 bs w H) {row : Option Nat} (hg : w.grownBy w' row) (hr : ∀ r, row = some r → w0.heap.size ≤ r ∧ ∃ o : Obj, w.heap[r]? = some o ∧ o.isCells = false) : St w0 bs w' H := by
  have keep : ∀ k o, w.heap[k]? = some o → (∀ r, row = some r → r ≠ k) → w'.heap[k]? = some o := fun k o hk hn => by
    rw [hg.block k (lt_of_heap hk) (fun e => hn k e.symm rfl)]; exact hk
  refine ⟨⟨hg.os.trans hS.chg.os, hg.tape.trans hS.chg.tape, hg.output.trans hS.chg.output, Nat.le_trans hS.chg.size hg.size, fun k hk hn => ?_⟩, fun e he => ?_, hS.nd, hS.wr⟩
  · rw [hg.block k (Nat.lt_of_lt_of_le hk hS.chg.size) (fun e => by have := (hr k e.symm).1; omega)]
    exact hS.chg.same k hk hn
  · refine keep e.b _ (hS.get e he) (fun r hrr q => ?_)
    obtain ⟨_, o, ho, hc⟩ := hr r hrr
    rw [q, hS.get e he] at ho
    cases ho; cases hc

theorem own_st {β : Type} {X : Type} {B : Nat} (hB : w0.heap.size ≤ B) (C : β → X → Prop) (Hf : β → X → List Ent) : OwnFrom B (fun (s : β) (W : World) => ∃ x, C s x ∧ St w0 bs W (Hf s x)) := by
  rintro s W W' row ⟨x, hc, hs⟩ hg hr
  exact ⟨x, hc, hs.abide hg (fun r e => by obtain ⟨h, o, ho, hoc⟩ := hr r e; exact ⟨by omega, o, ho, hoc⟩)⟩
end

/-! ### What a variable holds, by the list of blocks -/
class LoadV (P : Program) (H : List Ent) (t : TypeId) (b off : Nat) (v : outParam Value) : Prop where
  h : ∀ w0 bs w, St w0 bs w H → (loadVar t ⟨b, off, none⟩).run P w = .ok v w
instance loadScalar {P : Program} {H : List Ent} {t : TypeId} {b off : Nat} {v : Value} [hs : ScalarT P t] {cs : Array Value} {T : TypeId} [hH : Has H b cs T] [hc : CellAt cs off v] : LoadV P H t b off v :=
  ⟨fun w0 bs w hS => by
    simp only [loadVar, Sem.run_bind, hs.run, Result.andThen_ok, Bool.false_eq_true, if_false, run_load, cell_of_has (hS.has hH), hc.h]⟩
instance loadAgg {P : Program} {H : List Ent} {t : TypeId} {b off n : Nat} {vs : Array Value} [hs : AggT P t n] {cs : Array Value} {T : TypeId} [hH : Has H b cs T] [hc : CellsAt cs off n vs] : LoadV P H t b off (.agg vs) :=
  ⟨fun w0 bs w hS => by
    have hl : (loadCells ⟨b, off, none⟩ n).run P w = .ok vs w := by
      have := run_loadCells_list (P := P) w ⟨b, off, none⟩ vs.toList (fun j v hj => by
        have hj' : j < n := by
          have := (List.getElem?_eq_some_iff.1 hj).1
          simpa [hc.s] using this
        have := hc.h j hj'
        rw [Addr.add_lit, cell_of_has (hS.has hH), this]
        simpa using hj)
      simpa [hc.s] using this
    simp only [loadVar, Sem.run_bind, hs.run, Result.andThen_ok, if_true, run_sizeOf' hs.s, hl, Sem.run_pure]⟩

theorem res_cells1 {P : Program} {fn : Func} {p : Tmp} {t : TypeId} (h : fn.results = #[.cell p t]) {tmps : List Value} {b : Nat} [hp : Nth tmps p (.pointer (some ⟨b, 0, none⟩))]
    {w0 w : World} {bs : List Nat} {H : List Ent} (hS : St w0 bs w H) {v : Value} [hv : LoadV P H t b 0 v] : (results fn tmps.toArray).run P w = .ok v w := by
  have h1 : tmps[p]?.getD undef = .pointer (some ⟨b, 0, none⟩) := by simp [hp.h]
  simp [results, h, h1, asAddr, hv.h _ _ _ hS]
theorem res_cells2 {P : Program} {fn : Func} {p q : Tmp} {t u : TypeId} (h : fn.results = #[.cell p t, .cell q u]) {tmps : List Value} {b c : Nat} [hp : Nth tmps p (.pointer (some ⟨b, 0, none⟩))] [hq : Nth tmps q (.pointer (some ⟨c, 0, none⟩))]
    {w0 w : World} {bs : List Nat} {H : List Ent} (hS : St w0 bs w H) {v v' : Value} [hv : LoadV P H t b 0 v] [hv' : LoadV P H u c 0 v'] : (results fn tmps.toArray).run P w = .ok (.tuple #[v, v']) w := by
  have h1 : tmps[p]?.getD undef = .pointer (some ⟨b, 0, none⟩) := by simp [hp.h]
  have h2 : tmps[q]?.getD undef = .pointer (some ⟨c, 0, none⟩) := by simp [hq.h]
  simp [results, h, h1, h2, asAddr, hv.h _ _ _ hS, hv'.h _ _ _ hS]

theorem res_ct {P : Program} {fn : Func} {p q : Tmp} {t : TypeId} (h : fn.results = #[.cell p t, .tmp q]) {tmps : List Value} {b : Nat} {v' : Value} [hp : Nth tmps p (.pointer (some ⟨b, 0, none⟩))] [hq : Nth tmps q v']
    {w0 w : World} {bs : List Nat} {H : List Ent} (hS : St w0 bs w H) {v : Value} [hv : LoadV P H t b 0 v] : (results fn tmps.toArray).run P w = .ok (.tuple #[v, v']) w := by
  have h1 : tmps[p]?.getD undef = .pointer (some ⟨b, 0, none⟩) := by simp [hp.h]
  have h2 : tmps[q]?.getD undef = v' := by simp [hq.h]
  simp [results, h, h1, h2, asAddr, hv.h _ _ _ hS]

/-! ### The statement -/
section
variable {P : Program} {n : Nat} {w0 w : World} {bs : List Nat}

/-- How the body of a round may be left: at the round's start the blocks were Hr. -/
def RoundPost {α X Y : Type} (W : World) (Hr : List Ent) (xs : List α) (C : List α → X → Prop) (Hf : List α → X → List Ent) (D : Code → List α → Y → Prop) (Hx : Code → List α → Y → List Ent) : Exit → Act → World → Prop
  | .normal, _, W' => ∃ x, C xs x ∧ St W (wl Hr) W' (Hf xs x)
  | .ret, _, W' => ∃ y, D .ret xs y ∧ St W (wl Hr) W' (Hx .ret xs y)
  | .exit id, _, W' => ∃ y, D (.exit id) xs y ∧ St W (wl Hr) W' (Hx (.exit id) xs y)
  | _, _, _ => False

theorem range_st {α X Y : Type} {g : Operand} {ps : Array Tmp} {assign body : Code} {Q : Exit → Act → World → Prop} {a : Act}
    (h1 : 1 ≤ n) {gf : Nat} {lb : Array Value} (hg : a.eval g = .func (.func gf) #[] lb) (eg : ∀ args w, (callFunc gf args).run P w = .ok (.enter gf args) w)
    {encs : α → Array Value} {K : List Ent} {S Sp : List α → Prop} {N : Nat} (hw : w0.heap.size ≤ w.heap.size) (hKw : ∀ e ∈ K, e.b < w.heap.size)
    (hseq : SeqStopsK Fence.wide (n - 1) P gf lb encs (Kept (K.map (·.b))) S Sp N w) (hps : ∀ x, (encs x).size = ps.size)
    (C : List α → X → Prop) (Hf : List α → X → List Ent) (hK : ∀ xs x, C xs x → ∀ e ∈ K, e ∈ Hf xs x) (D : Code → List α → Y → Prop) (Hx : Code → List α → Y → List Ent) {x0 : X} (h0 : C [] x0) (hS : St w0 bs w (Hf [] x0)) (a₁ : α → Act)
    (hassign : ∀ (l : Nat) (x : α) (W : World) (K : Act → World → Prop), K (a₁ x) W →
      assign.wpIn (Fence.wide.inRound l) (n - 1 - 1) P (Exit.then K (fun _ _ _ => False)) { tmps := (ps.zip (encs x)).foldl (fun t (p, v) => t.setIfInBounds p v) a.tmps, defers := [] } W)
    (hbody : ∀ (l : Nat) (pre : List α) (el : α) (x : X) (W : World), C pre x → pre.length < N → St W (wl (Hf pre x)) W (Hf pre x) →
      body.wpIn (Fence.wide.inRound l) (n - 1 - 1) P (RoundPost W (Hf pre x) (pre ++ [el]) C Hf D Hx) (a₁ el) W)
    (hdone : ∀ (d : Nat) (xs : List α) (x : X) (W : World), S xs → C xs x → St w0 bs W (Hf xs x) → (w0.heap.size ≤ d ∧ W.heap[d]? = some (.deferred (some []))) → Q .normal { a with defers := { target := .collected d, args := #[] } :: a.defers } W)
    (hstop : ∀ (d : Nat) (c : Code) (pre : List α) (y : Y) (W : World), Sp pre → D c pre y → St w0 bs W (Hx c pre y) → (w0.heap.size ≤ d ∧ W.heap[d]? = some (.deferred (some []))) → c.wpIn Fence.wide n P Q { a with defers := { target := .collected d, args := #[] } :: a.defers } W) :
    (Code.rangeFunc g ps assign body).wpIn Fence.wide n P Q a w := by
  refine wpIn_rangeFunc_ownF rfl h1 (gf := gf) (lb := lb) hg trivial eg hseq Kept.trans (kept_put (by simpa using hKw)) (Below.refl _ _) hps
    (fun s W => ∃ x, C s x ∧ St w0 bs W (Hf s x)) (fun c s W => ∃ y, D c s y ∧ St w0 bs W (Hx c s y)) (own_st hw C Hf) (fun c => own_st hw (D c) (Hx c)) ⟨x0, h0, hS⟩ a₁ hassign ?_ ?_ ?_
  · rintro l pre el W ⟨x, hc, hs⟩ hlen
    refine wpIn_mono (hbody l pre el x W hc hlen hs.rebase) ?_
    intro e a' W' hp
    cases e with
    | normal =>
      obtain ⟨x', hc', hs'⟩ := hp
      refine ⟨hs.keeps hs'.chg, ?_, x', hc', hs.rejoin hs'⟩
      intro b hb
      obtain ⟨k, hk, rfl⟩ := List.mem_map.1 hb
      rw [hs.get k (hK _ _ hc k hk), hs'.get k (hK _ _ hc' k hk)]
    | ret => obtain ⟨y, hd, hs'⟩ := hp; exact ⟨hs.keeps hs'.chg, y, hd, hs.rejoin hs'⟩
    | exit id => obtain ⟨y, hd, hs'⟩ := hp; exact ⟨hs.keeps hs'.chg, y, hd, hs.rejoin hs'⟩
    | goto t => exact hp.elim
    | panic ch => exact hp.elim
    | outgrown => exact hp.elim
  · rintro d xs W hd hs ⟨x, hc, hS'⟩ hk
    exact hdone d xs x W hs hc hS' ⟨Nat.le_trans hw hd, hk⟩
  · rintro d c pre W hd hsp ⟨y, hD, hS'⟩ hk
    exact hstop d c pre y W hsp hD hS' ⟨Nat.le_trans hw hd, hk⟩

/-- The same where the assigning code lays a block for the variable: the blocks of the caller's are older than the range, or of another type. -/
theorem range_sta {α X Y : Type} {g : Operand} {ps : Array Tmp} {assign body : Code} {Q : Exit → Act → World → Prop} {a : Act}
    (h1 : 1 ≤ n) {gf : Nat} {lb : Array Value} (hg : a.eval g = .func (.func gf) #[] lb) (eg : ∀ args w, (callFunc gf args).run P w = .ok (.enter gf args) w)
    {encs : α → Array Value} {K : List Ent} {S Sp : List α → Prop} {N : Nat} (hw : w0.heap.size ≤ w.heap.size) (hKw : ∀ e ∈ K, e.b < w.heap.size)
    (hseq : SeqStopsK Fence.wide (n - 1) P gf lb encs (Kept (K.map (·.b))) S Sp N w) (hps : ∀ x, (encs x).size = ps.size)
    (C : List α → X → Prop) (Hf : List α → X → List Ent) (hK : ∀ xs x, C xs x → ∀ e ∈ K, e ∈ Hf xs x) (D : Code → List α → Y → Prop) (Hx : Code → List α → Y → List Ent) {x0 : X} (h0 : C [] x0) (hS : St w0 bs w (Hf [] x0))
    (Tv : TypeId) (vcs : α → Array Value) (hT : ∀ xs x, C xs x → ∀ e ∈ Hf xs x, e.b < w.heap.size ∨ e.T ≠ Tv) (a₁ : α → Nat → Act)
    (hassign : ∀ (l : Nat) (pre : List α) (el : α) (x : X) (W : World), C pre x → w.heap.size ≤ W.heap.size → St W (wl (Hf pre x)) W (Hf pre x) →
      assign.wpIn (Fence.wide.inRound l) (n - 1 - 1) P (Exit.then (fun a' W' => ∃ bv, w.heap.size ≤ bv ∧ a' = a₁ el bv ∧ St W (wl (Hf pre x)) W' (⟨bv, vcs el, Tv, true⟩ :: Hf pre x)) (fun _ _ _ => False)) { tmps := (ps.zip (encs el)).foldl (fun t (p, v) => t.setIfInBounds p v) a.tmps, defers := [] } W)
    (hbody : ∀ (l : Nat) (pre : List α) (el : α) (x : X) (bv : Nat) (W : World), C pre x → pre.length < N → w.heap.size ≤ W.heap.size → St W (wl (⟨bv, vcs el, Tv, true⟩ :: Hf pre x)) W (⟨bv, vcs el, Tv, true⟩ :: Hf pre x) →
      body.wpIn (Fence.wide.inRound l) (n - 1 - 1) P (RoundPost W (⟨bv, vcs el, Tv, true⟩ :: Hf pre x) (pre ++ [el]) C Hf D Hx) (a₁ el bv) W)
    (hdone : ∀ (d : Nat) (xs : List α) (x : X) (W : World), S xs → C xs x → St w0 bs W (Hf xs x) → (w0.heap.size ≤ d ∧ W.heap[d]? = some (.deferred (some []))) → Q .normal { a with defers := { target := .collected d, args := #[] } :: a.defers } W)
    (hstop : ∀ (d : Nat) (c : Code) (pre : List α) (y : Y) (W : World), Sp pre → D c pre y → St w0 bs W (Hx c pre y) → (w0.heap.size ≤ d ∧ W.heap[d]? = some (.deferred (some []))) → c.wpIn Fence.wide n P Q { a with defers := { target := .collected d, args := #[] } :: a.defers } W) :
    (Code.rangeFunc g ps assign body).wpIn Fence.wide n P Q a w := by
  refine wpIn_rangeFunc_ownH rfl h1 (gf := gf) (lb := lb) hg trivial eg hseq Kept.trans (kept_put (by simpa using hKw)) (Below.refl _ _) hps
    (fun s W => w.heap.size ≤ W.heap.size ∧ ∃ x, C s x ∧ St w0 bs W (Hf s x)) (fun c s W => ∃ y, D c s y ∧ St w0 bs W (Hx c s y)) (OwnFrom.and (fun _ _ _ _ h hg _ => Nat.le_trans h hg.size) (own_st hw C Hf)) (fun c => own_st hw (D c) (Hx c)) ⟨Nat.le_refl _, x0, h0, hS⟩
    (fun el a' W => ∃ bv, w.heap.size ≤ bv ∧ a' = a₁ el bv ∧ W.heap[bv]? = some (.cells (vcs el) Tv (0, 0))) ?_ ?_ ?_ ?_ ?_
  · rintro x a' s W W' row ⟨bv, h1, h2, h3⟩ hg' hr
    refine ⟨bv, h1, h2, ?_⟩
    rw [hg'.block bv (lt_of_heap h3) (fun e => ?_)]
    · exact h3
    · obtain ⟨_, o, ho, hc⟩ := hr bv e.symm
      rw [h3] at ho
      cases ho; cases hc
  · rintro l pre el W K' ⟨hsz, x, hc, hs⟩ hK'
    refine wpIn_mono (hassign l pre el x W hc hsz hs.rebase) ?_
    intro e a' W' hp
    cases e with
    | normal =>
      obtain ⟨bv, hb1, hb2, hs'⟩ := hp
      have hs2 : St W (wl (Hf pre x)) W' (Hf pre x) := hs'.weak
      refine hK' a' W' ((hs.keeps hs'.chg).from _) ?_ ⟨Nat.le_trans hsz hs'.chg.size, x, hc, hs.rejoin hs2⟩ ⟨bv, hb1, hb2, hs'.get _ (.head _)⟩
      intro b hb
      obtain ⟨k, hk, rfl⟩ := List.mem_map.1 hb
      rw [hs.get k (hK _ _ hc k hk), hs2.get k (hK _ _ hc k hk)]
    | _ => exact hp.elim
  · rintro l pre el a' W _ _ ⟨hsz, x, hc, hs⟩ ⟨bv, hb1, rfl, hb3⟩ hlen
    have hbig : St W (wl (⟨bv, vcs el, Tv, true⟩ :: Hf pre x)) W (⟨bv, vcs el, Tv, true⟩ :: Hf pre x) := by
      refine St.start (fun e he => ?_) (List.pairwise_cons.2 ⟨fun e he q => ?_, hs.nd⟩) (fun e he hw' => mem_wl.2 ⟨e, he, hw', rfl⟩)
      · rcases List.mem_cons.1 he with rfl | he
        · exact hb3
        · exact hs.get e he
      · simp only at q
        rcases hT _ _ hc e he with h | h
        · omega
        · have := hs.get e he
          rw [← q, hb3] at this
          simp only [Option.some.injEq, Obj.cells.injEq] at this
          exact h this.2.1.symm
    -- the block of the variable: a new one, for the caller
    have join : ∀ {W' : World} {H' : List Ent}, St W (wl (⟨bv, vcs el, Tv, true⟩ :: Hf pre x)) W' H' → St w0 bs W' H' := by
      intro W' H' hs'
      refine ⟨hs.chg.trans hs'.chg ?_, hs'.get, hs'.nd, ?_⟩
      · intro z hz hlt
        obtain ⟨e, he, hw', rfl⟩ := mem_wl.1 hz
        rcases List.mem_cons.1 he with rfl | he
        · simp only at hlt; omega
        · rcases hs.wr e he hw' with h | h
          · exact h
          · omega
      · intro e he hw'
        rcases hs'.wr e he hw' with h | h
        · obtain ⟨y, hy, hyw, hye⟩ := mem_wl.1 h
          rcases List.mem_cons.1 hy with rfl | hy
          · exact .inr (by rw [← hye]; simp only; omega)
          · rw [← hye]; exact hs.wr y hy hyw
        · exact .inr (Nat.le_trans hs.chg.size h)
    refine wpIn_mono (hbody l pre el x bv W hc hlen (by have := lt_of_heap hb3; omega) hbig) ?_
    intro e a' W' hp
    cases e with
    | normal =>
      obtain ⟨x', hc', hs'⟩ := hp
      refine ⟨(hbig.keeps hs'.chg).from _, ?_, Nat.le_trans hsz hs'.chg.size, x', hc', join hs'⟩
      intro b hb
      obtain ⟨k, hk, rfl⟩ := List.mem_map.1 hb
      rw [hs.get k (hK _ _ hc k hk), hs'.get k (hK _ _ hc' k hk)]
    | ret => obtain ⟨y, hd, hs'⟩ := hp; exact ⟨(hbig.keeps hs'.chg).from _, y, hd, join hs'⟩
    | exit id => obtain ⟨y, hd, hs'⟩ := hp; exact ⟨(hbig.keeps hs'.chg).from _, y, hd, join hs'⟩
    | goto t => exact hp.elim
    | panic ch => exact hp.elim
    | outgrown => exact hp.elim
  · rintro d xs W hd hs ⟨_, x, hc, hS'⟩ hk
    exact hdone d xs x W hs hc hS' ⟨Nat.le_trans hw hd, hk⟩
  · rintro d c pre W hd hsp ⟨y, hD, hS'⟩ hk
    exact hstop d c pre y W hsp hD hS' ⟨Nat.le_trans hw hd, hk⟩

/-- The way out of a function in which a range over a function has ended: from W on the blocks are those of H2. -/
theorem leave_st {fn : Func} {tmps : Array Value} {R : Ending → World → Prop} {W W2 : World} {H H2 : List Ent} {d : Nat} (hd : w0.heap.size ≤ d ∧ W.heap[d]? = some (.deferred (some []))) (hS0 : St w0 bs W H) (hS : St W (wl H) W2 H2)
    (h : ∀ W3, St w0 bs W3 H2 → ∃ v, (results fn tmps).run P W3 = .ok v W3 ∧ R (.returned v) W3) : LeavesInM Fence.wide n P fn tmps R [{ target := .collected d, args := #[] }] .returning W2 := by
  have hd2 : W2.heap[d]? = some (.deferred (some [])) := by
    refine hS.chg.get hd.2 ?_
    intro hx
    obtain ⟨e, he, _, rfl⟩ := mem_wl.1 hx
    rw [hS0.get e he] at hd
    cases hd.2
  refine ⟨by simp, .inl ⟨_, _, rfl, run_takeDeferred hd2, ?_⟩⟩
  obtain ⟨v, hr, hR⟩ := h _ ((hS0.rejoin hS).abide (grownBy_putObj' W2 d (.deferred none)) (fun r e => by cases e; exact ⟨hd.1, _, hd2, rfl⟩))
  exact ⟨v, hr, hR⟩
end

/-- Those below k of which p holds. -/
def gl (p : Nat → Bool) (k : Nat) : List Nat := (List.range k).filter p
theorem gl_zero (p : Nat → Bool) : gl p 0 = [] := rfl
theorem gl_yes {p : Nat → Bool} {k : Nat} (h : p k = true) : gl p (k + 1) = gl p k ++ [k] := by
  simp [gl, List.range_succ, List.filter_append, h]
theorem gl_no {p : Nat → Bool} {k : Nat} (h : p k = false) : gl p (k + 1) = gl p k := by
  simp [gl, List.range_succ, List.filter_append, h]
theorem gl_len (p : Nat → Bool) (k : Nat) : (gl p k).length ≤ k := by
  unfold gl; exact Nat.le_trans (List.length_filter_le _ _) (by simp)
theorem mem_gl {p : Nat → Bool} {k i : Nat} : i ∈ gl p k ↔ i < k ∧ p i = true := by simp [gl]

theorem wide_fn (f : FuncId) : Fence.wide.fn f := trivial
theorem wide_in (l : Nat) (f : FuncId) : (Fence.wide.inRound l).fn f := trivial
end Go.Mm
