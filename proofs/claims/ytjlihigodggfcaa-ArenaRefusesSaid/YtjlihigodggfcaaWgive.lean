/-
  Arenas with what the statements know of them: give and size.
-/
import Derived.Test.YtjlihigodggfcaaWmem
set_option linter.unusedSimpArgs false
set_option linter.unusedVariables false
namespace Go.Mm
open Go Go.RowKit
/-- Wide frames. -/
instance (priority := 1200) nthTail32 {x0 x1 x2 x3 x4 x5 x6 x7 x8 x9 x10 x11 x12 x13 x14 x15 x16 x17 x18 x19 x20 x21 x22 x23 x24 x25 x26 x27 x28 x29 x30 x31 v : Value} {l : List Value} {n : Nat} [h : Nth l n v] : Nth (x0 :: x1 :: x2 :: x3 :: x4 :: x5 :: x6 :: x7 :: x8 :: x9 :: x10 :: x11 :: x12 :: x13 :: x14 :: x15 :: x16 :: x17 :: x18 :: x19 :: x20 :: x21 :: x22 :: x23 :: x24 :: x25 :: x26 :: x27 :: x28 :: x29 :: x30 :: x31 :: l) (n + 32) v := ⟨by simpa using h.h⟩
instance (priority := 1200) setNTail32 {x0 x1 x2 x3 x4 x5 x6 x7 x8 x9 x10 x11 x12 x13 x14 x15 x16 x17 x18 x19 x20 x21 x22 x23 x24 x25 x26 x27 x28 x29 x30 x31 v : Value} {l l' : List Value} {n : Nat} [h : SetN l n v l'] : SetN (x0 :: x1 :: x2 :: x3 :: x4 :: x5 :: x6 :: x7 :: x8 :: x9 :: x10 :: x11 :: x12 :: x13 :: x14 :: x15 :: x16 :: x17 :: x18 :: x19 :: x20 :: x21 :: x22 :: x23 :: x24 :: x25 :: x26 :: x27 :: x28 :: x29 :: x30 :: x31 :: l) (n + 32) v (x0 :: x1 :: x2 :: x3 :: x4 :: x5 :: x6 :: x7 :: x8 :: x9 :: x10 :: x11 :: x12 :: x13 :: x14 :: x15 :: x16 :: x17 :: x18 :: x19 :: x20 :: x21 :: x22 :: x23 :: x24 :: x25 :: x26 :: x27 :: x28 :: x29 :: x30 :: x31 :: l') := ⟨by simp [h.h]⟩
theorem idx_of1 {P : Program} {t e : TypeId} {g n cap i : Nat} (ht : P.underlying t = some (.slice e)) (hs : (P.info? e).map (·.size) = some 1) (hi : i < n) : IdxV P t (.slice (some ⟨g, 0, none⟩) n cap) i ⟨g, i, none⟩ := by simpa using idx_of (g := g) (cap := cap) ht hs hi
section
variable {P : Program} {ops : Array Oper} {C : Nat → World → Prop} {m : Nat → Bool} {Q : Nat → Act → Prop} {k p : Nat} {o : Oper} {rest : List Oper} {a a' : Act} {v : Value}
/-- A marked operation. -/
theorem lex_mark (hw : Region.wanted o (yielded ops a.tmps) = true) (hm : m k = true) (v : Value) (hv : ∀ w, C p w → stepAt P o a (C (p + 1)) w v) [hp : Put a o.dst v a'] (h : wpLex P ops C m Q (k + 1) (p + 1) rest a') :
    wpLex P ops C m Q k p (o :: rest) a := by
  unfold wpLex
  rw [if_pos hw]
  refine ⟨v, ?_, ?_⟩
  · unfold Yv
    rw [if_pos hm]
    exact hv
  · rw [nx, if_pos hm, hp.h]
    exact h
variable {C' : World → Prop} {w w0 : World} {bs : List Nat} {H : List Ent}
theorem stepAt_mk (t : TypeId) (x y : Operand) (ho : o.op = .makeSlice t x y) (hS : St w0 bs w H) {e : TypeId} [ht : SliceT P t e] {size bytes : Nat} {zs : Array Value} [he : ElemT P e size bytes zs]
    {k k' : IntKind} {z : Nat} [hx : Ev a x (.int k z)] [hy : Ev a y (.int k' z)] (h2 : (bytes : Int) * z ≤ 281474976710656) (h3 : (z : Int) ≤ 9223372036854775807)
    (h : ∀ w', St w0 bs w' (⟨w.heap.size, madeCells zs (z * size), e, true⟩ :: H) → C' w') : stepAt P o a C' w (.slice (some ⟨w.heap.size, 0, none⟩) z z) := by
  obtain ⟨i, zv, hi, hz, rfl, rfl, rfl⟩ := he.parts
  have hr := run_make (P := P) w t e i zv ht.h hi hz k k' z z (by omega) (by omega) h2 h3
  have hS' := hS.new (Chg.alloc w (.cells (madeCells zv.cells (z * i.size)) e (0, 0))) (Nat.le_refl _) (alloc_new w _)
  have hr2 : (execOp a.eval o).run P w = .ok (.value (.slice (some ⟨w.heap.size, 0, none⟩) z z)) (w.alloc (.cells (madeCells zv.cells (z * i.size)) e (0, 0))) := by
    simp only [execOp, ho, hx.h, hy.h, Sem.run_bind, hr, Result.andThen_ok, Sem.run_pure, Int.toNat_natCast]
  unfold stepAt
  rw [hr2]
  exact ⟨h _ hS', rfl⟩
theorem stepAt_upd (t : TypeId) (x y z : Operand) (ho : o.op = .mapUpdate t x y z) {M : Nat} {xs : Array Value} {u : Value} [hx : Ev a x (.map (some M))] [hy : Ev a y (.agg xs)] [hz : Ev a z u]
    (h : ∃ w', (Instr.mapUpdate t (.map (some M)) (.agg xs) u).run P w = .ok () w' ∧ C' w') : stepAt P o a C' w undef := by
  obtain ⟨w', hr, hC⟩ := h
  have hr2 : (execOp a.eval o).run P w = .ok .skip w' := by
    simp only [execOp, ho, hx.h, hy.h, hz.h, Sem.run_bind, hr, Result.andThen_ok, Sem.run_pure]
  unfold stepAt
  rw [hr2]
  exact ⟨hC, rfl⟩
end
section
variable {P : Program} {o : Oper} {a : Act} {w : World}
theorem stepX_upd (t : TypeId) (x y z : Operand) (ho : o.op = .mapUpdate t x y z) {M : Nat} {xs : Array Value} {u : Value} {Φ : Value → World → Prop} [hx : Ev a x (.map (some M))] [hy : Ev a y (.agg xs)] [hz : Ev a z u]
    (h : ∃ w', (Instr.mapUpdate t (.map (some M)) (.agg xs) u).run P w = .ok () w' ∧ Φ undef w') : stepX P o a w Φ := by
  obtain ⟨w', hr, hC⟩ := h
  have hr2 : (execOp a.eval o).run P w = .ok .skip w' := by
    simp only [execOp, ho, hx.h, hy.h, hz.h, Sem.run_bind, hr, Result.andThen_ok, Sem.run_pure]
  unfold stepX
  rw [hr2]
  exact hC
end
end Go.Mm
namespace Go.Proofs.Ytjlihigodggfcaa
open Go Go.RowKit Go.Mm
variable {R : Ending → World → Prop} {w : World} {w0 : World} {bs : List Nat} {H H' H1 E : List Ent}
variable {P : Program}

theorem made_cells {z : Nat} (hz : z ≤ 4) : madeCells #[.int .i64 0, .int .u32 0] (z * 2) = ((List.replicate z ((0, 0) : Int × Int)).flatMap slf).toArray := by
  rcases z with _ | _ | _ | _ | _ | z <;> first | omega | (show (_ : Array Value) = _; kernel_rfl)

/-- The phases of a region that makes a slice and puts it into the map. -/
def Ph7 (W w0 : World) (bs : List Nat) (M N : Nat) (X : List Ent) (e : Ent) (ms : List (Value × Value)) : Nat → World → Prop
  | 0, w => St w0 bs w X ∧ w.heap.size = N
  | 1, w => St w0 bs w (e :: X)
  | _ + 2, w => ∃ w1 bs1, Base W w1 bs1 M ms ∧ St w1 bs1 w (e :: X)
theorem ph7_com {W w0 : World} {bs : List Nat} {M N : Nat} {X : List Ent} {e : Ent} {ms : List (Value × Value)} : ∀ q w, Ph7 W w0 bs M N X e ms q w → St w (wb X) w X := by
  intro q w h
  match q, h with
  | 0, h => exact h.1.self
  | 1, h => exact (St.weak (show St _ _ w ([e] ++ X) from h)).self
  | _ + 2, ⟨_, _, _, h⟩ => exact (St.weak (show St _ _ w ([e] ++ X) from h)).self

/-- append(v, y...) of slices of references. -/
theorem stp_apR {o : Oper} {a : Act} {v y : Value} {l0 l : List Rf} {E0 e : List Ent} {post : Act → World → Prop} (s x : Operand) (t t' : TypeId) (ho : o.op = .call { callee := .builtin .append, args := #[s, x], argTypes := #[t, t'] }) (htt : t' = t) (ht : t = 44)
    (hS : St w0 bs w H) (hs0 : RS v l0 E0) (hy : RS y l e) [hs : Ev a s v] [hx : Ev a x y] [hcut : Cut H E0 H1] [hc2 : Cut H e H'] {a' : Value → Act} [hp : ∀ v, Put a o.dst v (a' v)] (h32 : l0.length + l.length ≤ 1000)
    (h : ∀ v' E' w', RS v' (l0 ++ l) E' → St w0 bs w' (E' ++ H1) → post (a' v') w') : Stp Try.prog o a w post := by
  subst ht
  rcases hy.or with ⟨rfl, h0, rfl⟩ | ⟨g, cap, sp, rfl, he, hc1, _, _⟩
  · have hl : l = [] := List.eq_nil_of_length_eq_zero h0
    subst hl
    exact stp_apz s x _ t' ho htt hs0 (h _ _ _ (by simpa using hs0) hS.front)
  · have hb : Has H g ((l.flatMap slf ++ sp).toArray) 29 := by
      obtain ⟨A, B, e1, _⟩ := hc2.h
      rw [e1, he]
      infer_instance
    have c1 : CellsAt ((l.flatMap slf ++ sp).toArray) 0 (l.length * 2) (l.flatMap slf).toArray := by
      have := preCells (l := l) (sp := sp) (q := l.length) (Nat.le_refl _)
      rwa [List.take_length] at this
    have o1 := flatOnes l
    refine stp_ap (size := 2) s x _ t' ho htt hS rfl hs0 rfl (by simp only [maxLen]; omega) (by omega) (fun v' E' w' hsl' _ hS' => h _ _ _ (RS.of hsl' (by simp) (by simp)) hS')

theorem RS.cell {u : Value} {l : List Rf} {e : List Ent} (h : RS u l e) (h0 : 0 < l.length) : ∃ g cap sp, u = .slice (some ⟨g, 0, none⟩) l.length cap ∧ e = [⟨g, blk [] slf l sp, 29, true⟩] ∧ l.length ≤ cap ∧ ∀ l', l'.length = l.length → RS u l' [⟨g, blk [] slf l' sp, 29, true⟩] := by
  obtain ⟨g, cap, sp, rfl, rfl, h1, h2, h3⟩ := Sl.some h h0
  refine ⟨g, cap, sp, rfl, rfl, h1, fun l' hl => ?_⟩
  rw [← hl]
  exact ⟨flat_len slf_len l', .inr ⟨g, cap, sp, rfl, rfl, by omega, h2, by rw [flat_len slf_len, hl, ← flat_len slf_len l]; exact h3⟩⟩
theorem mpV_set {ms : List Me} {us : List Value} {j : Nat} {m m' : Me} (hj : ms[j]? = some m) (h : m'.1 = m.1) : mpV (ms.set j m') us = mpV ms us := by
  have hjl := (List.getElem?_eq_some_iff.1 hj).1
  have hj2 := (List.getElem?_eq_some_iff.1 hj).2
  unfold mpV
  congr 1
  rw [List.map_set, h]
  have : refV m.1 = (ms.map (fun m => refV m.1))[j]'(by simpa using hjl) := by rw [List.getElem_map, hj2]
  rw [this, List.set_getElem_self]
theorem mpF_set {ms : List Me} {j : Nat} {m' : Me} : mpF (ms.set j m') = (mpF ms).set j m'.2.2 := by simp [mpF, List.map_set]
/-- The phases of a region that copies a list of fields, and puts the copy into the map. -/
def C54 (W w0 : World) (bs : List Nat) (M : Nat) (X : List Ent) (l : List Rf) (K : Value → List (Value × Value)) : Gs → (Nat → Gx) → World → Prop := fun G χ w =>
  if G 13 then RS (χ 12).1 l (χ 12).2 ∧ ∃ w1 bs1, Base W w1 bs1 M (K (χ 12).1) ∧ St w1 bs1 w ((χ 12).2 ++ X)
  else if G 12 then RS (χ 12).1 l (χ 12).2 ∧ St w0 bs w ((χ 12).2 ++ X)
  else if G 5 then (∃ b', χ 5 = (.slice (some ⟨b', 0, none⟩) 0 0, [⟨b', #[], 29, true⟩])) ∧ St w0 bs w ((χ 5).2 ++ X)
  else St w0 bs w X
theorem c54_com {W w0 : World} {bs : List Nat} {M : Nat} {X : List Ent} {l : List Rf} {K : Value → List (Value × Value)} : ∀ G χ w, C54 W w0 bs M X l K G χ w → St w (wb X) w X := by
  intro G χ w h
  unfold C54 at h
  split at h
  · obtain ⟨_, _, _, _, h⟩ := h
    exact (St.weak h).self
  · split at h
    · exact (St.weak h.2).self
    · split at h
      · exact (St.weak h.2).self
      · exact h.self
/-- The indices of the world's slices. -/
theorem rv_idx {bv mu m : Nat} (hm : m < mu) : IdxV Try.prog 26 (.slice (some ⟨bv, 0, none⟩) mu mu) m ⟨bv, m, none⟩ := idx_of1 Try.underlying26 (by kernel_rfl) hm
theorem rv_len {bv mu : Nat} : LenV Try.prog 26 (.slice (some ⟨bv, 0, none⟩) mu mu) mu := ⟨⟨_, _, rfl⟩, _, Try.underlying26⟩

set_option maxHeartbeats 1000000 in
set_option maxRecDepth 100000 in
theorem wgive {bm M bv mu m : Nat} {p : Option Addr} {G : List Rf} {vs : List Value} {v : Value} {l : List Rf} {e : List Ent} (hO : St w0 bs w (wdE bm p M bv mu G :: rvE bv vs :: (e ++ H1))) (hm : m < mu) (hl : vs.length = mu) (hv1 : vs[m]? = some v) (hv : RS v l e)
    (h32 : l.length ≤ 32) (r : Rf) (hR : ∀ v' e' w', RS v' (l ++ [r]) e' → St w0 bs w' (wdE bm p M bv mu G :: rvE bv (vs.set m v') :: (e' ++ H1)) → Ret R (.tuple #[]) w') :
    Calls Try.prog 66 #[.pointer (some ⟨bm, 0, none⟩), .int .i64 m, .agg #[.int .i64 r.1, .int .u32 r.2]] w R := by
  have hS := hO
  clear hO
  have hone := hv.one
  have cv := cellV hv1
  have sv := fun x => setV (vs := vs) (m := m) (by omega) x
  have ix := rv_idx (bv := bv) hm
  obtain ⟨r1, r2⟩ := r
  have hv1' := Lib.hid hv1
  clear hl hv1
  go_enter Try.func66, Try.ntmps66
  go_wp2_with ((refine wpList_is (.box 29 _) rfl ?_; go_must (refine wpList_stp (by kernel_rfl) (stp_bx _ _ rfl hS ?_)); clear hS; intro b5 w _ hS))
  have hS : St w0 bs w (rvE bv vs :: (e ++ (⟨b5, #[.int .i64 r1, .int .u32 r2], 29, true⟩ :: wdE bm p M bv mu G :: H1))) := hS.pick
  refine region_depsE [⟨(undef, []), [(5, [], fun _ _ x => ∃ b', x = (.slice (some ⟨b', 0, none⟩) 0 0, [⟨b', #[], 29, true⟩])), (13, [], fun _ _ x => RS x.1 l x.2), (16, [], fun _ _ x => RS x.1 (l ++ [(r1, r2)]) x.2)]⟩,
      ⟨(undef, []), [(15, [], fun _ _ x => ∃ b', x = (.slice (some ⟨b', 0, none⟩) 1 1, [⟨b', #[.int .i64 r1, .int .u32 r2], 29, true⟩]))]⟩,
      ⟨(undef, [rvE bv vs]), [(18, [16], fun q _ x => x.2 = [rvE bv (vs.set m (q.getD 0 default).1)])]⟩]
    (e ++ (⟨b5, #[.int .i64 r1, .int .u32 r2], 29, true⟩ :: wdE bm p M bv mu G :: H1)) (rvE bv vs :: (e ++ (⟨b5, #[.int .i64 r1, .int .u32 r2], 29, true⟩ :: wdE bm p M bv mu G :: H1))) (by simp) hS (by kernel_rfl) (by kernel_rfl) ?_
  refine dx_val (fun _ => rfl) rfl (fun χ w hw => run_mv _ rfl) ?_
  refine dx_val (fun _ => rfl) rfl (fun χ w hw => run_nc _ rfl) ?_
  refine dx_val (fun _ => rfl) rfl (fun χ w hw => run_fa _ _ _ rfl) ?_
  refine dx_val (fun _ => rfl) rfl (fun χ w hw => run_ld _ _ rfl hw) ?_
  refine dx_val (fun _ => rfl) rfl (fun χ w hw => run_mv _ rfl) ?_
  refine dx_turn0 0 0 rfl rfl (by kernel_rfl) (by kernel_rfl) (by kernel_rfl) (by kernel_rfl) (fun _ => rfl) (fun x => x.1) ?_ ?_
  · intro χ X w _ hS
    exact stepX_to 11 rfl (by simp) (stp_bs0 _ rfl (show St w0 bs w (X ++ _) from hS) (fun b' w' _ hS' => ⟨_, rfl, (.slice (some ⟨b', 0, none⟩) 0 0, [⟨b', #[], 29, true⟩]), rfl, ⟨b', rfl⟩, hS'⟩))
  refine dx_val (fun _ => rfl) rfl (fun χ w hw => run_mv _ rfl) ?_
  refine dx_val (fun _ => rfl) rfl (fun χ w hw => run_nc _ rfl) ?_
  refine dx_val (fun _ => rfl) rfl (fun χ w hw => run_fa _ _ _ rfl) ?_
  refine dx_val (fun _ => rfl) rfl (fun χ w hw => run_ld _ _ rfl hw) ?_
  refine dx_val (fun _ => rfl) rfl (fun χ w hw => run_mv _ rfl) ?_
  refine dx_val (fun _ => rfl) rfl (fun χ w hw => run_idxv _ _ _ rfl) ?_
  refine dx_valS 2 0 rfl (by kernel_rfl) (fun _ => rfl) rfl (fun _ => v) (fun _ _ _ => rfl) (fun χ X w _ hS => run_ld _ _ rfl (show St w0 bs w (rvE bv vs :: (X ++ _)) from hS)) ?_
  refine dx_turn0 0 1 rfl rfl (by kernel_rfl) (by kernel_rfl) (by kernel_rfl) (by kernel_rfl) (fun _ => rfl) (fun x => x.1) ?_ ?_
  · rintro χ X w ⟨⟨b', hb'⟩, _⟩ hS
    have hS : St w0 bs w ((χ 5).2 ++ (X ++ (e ++ (⟨b5, #[.int .i64 r1, .int .u32 r2], 29, true⟩ :: wdE bm p M bv mu G :: H1)))) := hS
    rw [hb'] at hS
    simp only [List.cons_append, List.nil_append] at hS
    simp only [hb']
    refine stepX_to 19 rfl (by simp) (stp_apR _ _ _ _ rfl rfl rfl hS (show RS _ [] [_] from sl_zero) hv (by simp; omega) ?_)
    intro v' E' w' hsl' hS'
    exact ⟨_, rfl, (v', E'), rfl, by simpa using hsl', hS'.pick⟩
  refine dx_val (fun _ => rfl) rfl (fun χ w hw => run_lda _ _ rfl hw) ?_
  refine dx_turn0 1 0 rfl rfl (by kernel_rfl) (by kernel_rfl) (by kernel_rfl) (by kernel_rfl) (fun _ => rfl) (fun x => x.1) ?_ ?_
  · intro χ X w _ hS
    exact stepX_to 21 rfl (by simp) (stp_bsl (size := 2) (e := 29) _ 1 [(0, _)] rfl (show St w0 bs w (X ++ _) from hS) (by decide) rfl (by decide) (by decide) (fun b' w' _ hS' => ⟨_, rfl, (.slice (some ⟨b', 0, none⟩) 1 1, [⟨b', #[.int .i64 r1, .int .u32 r2], 29, true⟩]), rfl, ⟨b', rfl⟩, hS'⟩))
  refine dx_turnW 0 2 0 1 rfl rfl rfl (by kernel_rfl) (by kernel_rfl) (by kernel_rfl) (by kernel_rfl) (by kernel_rfl) (fun _ => rfl) (fun x => x.1) ?_ ?_
  · rintro χ X w ⟨_, hA1, _⟩ ⟨⟨b', hb'⟩, _⟩ hS
    have hS : St w0 bs w ((χ 13).2 ++ ((χ 15).2 ++ (X ++ (e ++ (⟨b5, #[.int .i64 r1, .int .u32 r2], 29, true⟩ :: wdE bm p M bv mu G :: H1))))) := hS
    have hA1 : RS (χ 13).1 l (χ 13).2 := hA1
    rw [hb'] at hS
    simp only [List.cons_append, List.nil_append] at hS
    simp only [hb']
    generalize χ 13 = y at hS hA1 ⊢
    have ho8 := hA1.one
    refine stepX_to 22 rfl (by simp) (stp_ap _ _ _ _ rfl rfl hS (by rfl) (show Sl 29 2 y.1 l.length (l.flatMap slf) y.2 from hA1) (by rfl) (by simp only [maxLen]; omega) (by omega) ?_)
    intro v' E' w' hsl' _ hS'
    refine ⟨_, rfl, (v', E'), rfl, RS.snoc (x := (r1, r2)) hsl', ?_⟩
    show St w0 bs w' (E' ++ ((χ 15).2 ++ (X ++ _)))
    rw [hb']
    exact hS'.pick
  refine dx_val (fun _ => rfl) rfl (fun χ w hw => run_idxv _ _ _ rfl) ?_
  refine dx_turnW 2 0 0 3 rfl rfl rfl (by kernel_rfl) (by kernel_rfl) (by kernel_rfl) (by kernel_rfl) (by kernel_rfl) (fun _ => rfl) (fun _ => undef) ?_ ?_
  · rintro χ X w _ ⟨_, _, hA2, _⟩ hS
    have ho8 := hA2.one
    exact stepX_st _ _ _ rfl (show St w0 bs w (rvE bv vs :: ((χ 16).2 ++ (X ++ _))) from hS) (fun w' hS' => ⟨(undef, [rvE bv (vs.set m (χ 16).1)]), rfl, rfl, hS'⟩)
  refine dx_end rfl ?_
  intro χ w hok hS
  obtain ⟨_, _, hA2, _⟩ := hok _ (.head _)
  obtain ⟨hD, _⟩ := hok _ (.tail _ (.tail _ (.head _)))
  have hD : (χ 18).2 = [rvE bv (vs.set m (χ 16).1)] := hD
  have hS : St w0 bs w (((χ 16).2 ++ ((χ 15).2 ++ ((χ 18).2 ++ []))) ++ (e ++ (⟨b5, #[.int .i64 r1, .int .u32 r2], 29, true⟩ :: wdE bm p M bv mu G :: H1))) := hS
  rw [hD] at hS
  clear hok hD
  have hA2 : RS (χ 16).1 (l ++ [(r1, r2)]) (χ 16).2 := hA2
  generalize (χ 16).1 = v5 at hS hA2
  generalize (χ 16).2 = E5 at hS hA2
  generalize (χ 15).2 = E6 at hS
  simp only [List.cons_append, List.nil_append, List.append_assoc] at hS
  go_wp2_with ((go_skip))
  refine bodyPost_end (results_none rfl _ _ _) rfl ?_
  exact hR _ _ _ hA2 hS.pick

set_option maxHeartbeats 1000000 in
set_option maxRecDepth 100000 in
theorem wsize {bm M bv mu : Nat} {p : Option Addr} {G : List Rf} {T : Ar} (hO : St w0 bs w (wdE bm p M bv mu G :: (E ++ H1))) (hT : AA p T E) (n : Nat) (hn : T.1.length = n)
    (hR : ∀ w', St w0 bs w' (wdE bm p M bv mu G :: (E ++ H1)) → Ret R (.int .i64 n) w') : Calls Try.prog 65 #[.pointer (some ⟨bm, 0, none⟩)] w R := by
  have hS := hO
  clear hO
  go_enter Try.func65, Try.ntmps65
  go_wp2_with (first | (go_at_call 28; refine ar_sizes hS hT n _ hn rfl ?_; clear hS; intro w _ hS; unfold Ret) | (refine wpList_is (.load _ _) rfl ?_; go_must ((refine wpList_stp (by kernel_rfl) (stp_val (run_ld _ _ rfl hS) ?_)))))
  exact hR _ hS.pick
end Go.Proofs.Ytjlihigodggfcaa
