/-
  Arenas with what the statements know of them: the world's memory.
-/
import Derived.Test.YtjlihigodggfcaaWmo
import Derived.Test.YtjlihigodggfcaaHmap
import Derived.Test.YtjlihigodggfcaaBgn
import Derived.Test.YtjlihigodggfcaaRfs
import Derived.Test.YtjlihigodggfcaaRgn
set_option linter.unusedSimpArgs false
set_option linter.unusedVariables false
namespace Go.Mm
open Go Go.RowKit
section
variable {P : Program} {t k e : TypeId} {xs : Array Value} {w : World} {M : Nat} {ms : List (Value × Value)} {o : Oper} {a : Act}
/-- A key that there is gets another element. -/
theorem put_old [ht : MapT P t k e] [hk : KeyC P k xs] (hM : MapAt w M ms) {f : Value → Bool} (hK : Keys P k xs f ms) {j : Nat} {u : Value} (hj : ms[j]? = some (.agg xs, u)) (hf1 : f (.agg xs) = true)
    (hun : ∀ i x, ms[i]? = some x → f x.1 = true → i = j) (hs : Instr.sameBits 10000 (.agg xs) (.agg xs) = true) (v : Value) :
    ∃ es ck, (Instr.mapUpdate t (.map (some M)) (.agg xs) v).run P w = .ok () (w.putCells M (.map es ck)) ∧ es.toList.map (fun e => (e.key, e.val)) = ms.set j (.agg xs, v) := by
  obtain ⟨es, ck, h1, h2⟩ := hM.h
  subst h2
  have hf := find_of (P := P) (t := k) (xs := xs) w f es.toList 0 (fun x hx => by
    obtain ⟨ys, h3, h4⟩ := hK (x.key, x.val) (List.mem_map.2 ⟨x, hx, rfl⟩)
    exact ⟨ys, h3, h4⟩)
  have hg := run_getMap (P := P) h1
  rcases hf with ⟨h3, h4⟩ | ⟨i, x, h3, h4, h5⟩
  · obtain ⟨y, hy, hy2⟩ := List.mem_map.1 (List.mem_of_getElem? hj)
    have h6 := h3 y hy
    rw [Prod.mk.injEq] at hy2
    rw [hy2.1, hf1] at h6
    cases h6
  · obtain rfl : i = j := hun i (x.key, x.val) (by rw [List.getElem?_map, h3]; rfl) h4
    have hx : x.key = .agg xs := by
      rw [List.getElem?_map, h3] at hj
      exact congrArg Prod.fst (Option.some.inj hj)
    have h6 : es[i]? = some x := by rw [← Array.getElem?_toList]; exact h3
    refine ⟨es.modify i fun e => { e with key := .agg xs, val := v }, ck, ?_, ?_⟩
    · simp [Instr.mapUpdate, run_underlying ht.h, hg, hk.h, run_findKey_eq w hk.s, h5, Instr.keyThatStays, h6, hx, hs, MapKept.run_setObj_map _ h1, Result.andThen, World.putCells]
    · have hil : i < es.size := by
        rcases Nat.lt_or_ge i es.size with h | h
        · exact h
        · rw [Array.getElem?_eq_none h] at h6; cases h6
      apply List.ext_getElem?
      intro q
      rw [Array.toList_modify, List.getElem?_map, List.getElem?_modify, List.getElem?_set, List.getElem?_map, List.length_map, Array.length_toList]
      by_cases e : i = q
      · subst e
        rw [if_pos rfl, if_pos hil, h3]
        simp
      · rw [if_neg e]
        cases es.toList[q]? <;> simp [e]
theorem run_mlen (x : Operand) (t : TypeId) (ho : o.op = .call { callee := .builtin .len, args := #[x], argTypes := #[t] }) [hx : Ev a x (.map (some M))] [ht : MapT P t k e] (hM : MapAt w M ms) {n : Nat} (hn : ms.length = n) : OpVal P o a w (.int .i64 n) := by
  obtain ⟨es, ck, h1, h2⟩ := hM.h
  have hn2 : es.size = n := by rw [← hn, ← h2]; simp
  have hg := run_getMap (P := P) h1
  unfold OpVal
  simp only [execOp, ho, resolve, invoke, builtin, Sem.run_bind, Sem.run_pure, Result.andThen_ok, List.map_toArray, List.map_cons, List.map_nil, hx.h, Builtin.len_, List.getElem?_toArray, List.getElem?_cons_zero, run_underlying ht.h, goInt, hg, hn2]
end
section
variable {P : Program} {o : Oper} {a : Act} {w w0 : World} {bs : List Nat} {H H1 : List Ent} {v : Value} {post : Act → World → Prop}
/-- Nothing is appended. -/
theorem stp_apz (s x : Operand) (t t' : TypeId) (ho : o.op = .call { callee := .builtin .append, args := #[s, x], argTypes := #[t, t'] }) (htt : t' = t) {e : TypeId} [ht : SliceT P t e] {size bytes : Nat} {zs : Array Value} [he : ElemT P e size bytes zs]
    {n : Nat} {xs : List Value} {E : List Ent} (hsl : Sl e size v n xs E) [hs : Ev a s v] [hx : Ev a x (.slice none 0 0)] {a' : Value → Act} [hp : ∀ v, Put a o.dst v (a' v)] (h : post (a' v) w) : Stp P o a w post := by
  subst htt
  obtain ⟨i, z, hi, hz, rfl, rfl, rfl⟩ := he.parts
  have hr : (Builtin.append_ #[t', t'] o.type #[v, .slice none 0 0]).run P w = .ok v w := by
    rcases hsl.or with ⟨rfl, rfl, _⟩ | ⟨g, cap, sp, rfl, _, hnc, _, _⟩
    · simp [Builtin.append_, run_underlying ht.h, sizeOf, typeInfo, hi, Builtin.lenOf, Builtin.firstCells, loadCells, loadCellsFrom]
    · simp [Builtin.append_, run_underlying ht.h, sizeOf, typeInfo, hi, Builtin.lenOf, Builtin.firstCells, loadCells, loadCellsFrom, hnc, storeCells]
  refine ⟨.value v, w, ?_, .inl ⟨_, rfl, by rw [(hp _).h]; exact h⟩⟩
  simp only [execOp, ho, resolve, invoke, builtin, Sem.run_bind, Sem.run_pure, Result.andThen_ok, List.map_toArray, List.map_cons, List.map_nil, hs.h, hx.h, hr]
end
section
variable {P : Program} {ops : Array Oper} {md : Region.Mode} {X : Type} {C : Gs → (Nat → X) → World → Prop} {m : Nat → Bool}
variable {EE : List Nat → ((Nat → X) → Act) → Prop} {k : Nat} {M : List Nat} {o : Oper} {rest : List Oper} {A A' : (Nat → X) → Act}
/-- A plain operation, its value known ahead; what waits for it has not been done. -/
theorem gx_valF (hw : ∀ χ, Region.wanted o (yielded ops (A χ).tmps) = true) (hm : m k = false) {v : Value} (hv : ∀ G χ w, (∀ s ∈ M, anc md ops s k = true → G s = true) → (∀ j, anc md ops k j = true → G j = false) → C G χ w → OpVal P o (A χ) w v) [hp : ∀ χ, Put (A χ) o.dst v (A' χ)]
    (h : wpFx P md ops C m EE (k + 1) M rest A') : wpFx P md ops C m EE k M (o :: rest) A := by
  refine .inl ⟨hw, fun _ => v, fun _ _ _ => rfl, ?_, ?_⟩
  · unfold Yy
    rw [if_neg (by rw [hm]; simp)]
    intro G χ w hM hF hC
    unfold stepX
    rw [hv G χ w hM hF hC]
    exact ⟨rfl, hC⟩
  · rw [if_neg (by rw [hm]; simp), show (fun χ => (A χ).put o.dst v) = A' from funext fun χ => (hp χ).h]
    exact h
/-- An operation that turns the world, and leaves a ghost. -/
theorem gx_do (hw : ∀ χ, Region.wanted o (yielded ops (A χ).tmps) = true) (hm : m k = true) (v : X → Value)
    (hv : ∀ G χ w, G k = false → (∀ s ∈ M, anc md ops s k = true → G s = true) → (∀ j, anc md ops k j = true → G j = false) → C G χ w → stepX P o (A χ) w (fun u w' => ∃ x, u = v x ∧ C (up G k true) (up χ k x) w')) [hp : ∀ χ, Put (A χ) o.dst (v (χ k)) (A' χ)]
    (h : wpFx P md ops C m EE (k + 1) (k :: M) rest A') : wpFx P md ops C m EE k M (o :: rest) A := by
  refine .inl ⟨hw, fun χ => v (χ k), fun χ χ' h => by show v (χ k) = v (χ' k); rw [h k (.inl rfl)], ?_, ?_⟩
  · unfold Yy
    rw [if_pos hm]
    intro G χ w hk hM hF hC
    have h1 := hv G χ w hk hM hF hC
    exact (sx_plain (P := P)).mono _ _ _ _ _ (fun u w' ⟨x, h2, h3⟩ => ⟨x, by show u = v (up χ k x k); rw [up_same]; exact h2, h3⟩) h1
  · rw [if_pos hm, show (fun χ => (A χ).put o.dst (v (χ k))) = A' from funext fun χ => (hp χ).h]
    exact h
end
end Go.Mm
namespace Go.Proofs.Ytjlihigodggfcaa
open Go Go.RowKit Go.Mm
variable {R : Ending → World → Prop} {w : World} {w0 : World} {bs : List Nat} {H H' H1 E : List Ent}

/-- Slices of references, each with blocks of its own. -/
def RL : List Value → List (List Rf) → List Ent → Prop
  | [], [], E => E = []
  | v :: vs, l :: ks, E => ∃ e E', E = e ++ E' ∧ RS v l e ∧ RL vs ks E'
  | _, _, _ => False
theorem RL.len : ∀ {vs : List Value} {ks : List (List Rf)} {E : List Ent}, RL vs ks E → vs.length = ks.length
  | [], [], _, _ => rfl
  | v :: vs, l :: ks, E, ⟨e, E', _, _, h⟩ => by simp [h.len]
  | [], _ :: _, _, h => h.elim
  | _ :: _, [], _, h => h.elim
theorem RL.one : ∀ {vs : List Value} {ks : List (List Rf)} {E : List Ent}, RL vs ks E → ∀ v ∈ vs, OneCell v
  | [], [], _, _ => fun v hv => nomatch hv
  | v :: vs, l :: ks, E, ⟨e, E', _, h1, h⟩ => fun x hx => by
    rcases List.mem_cons.1 hx with rfl | hx
    · exact h1.one
    · exact h.one x hx
  | [], _ :: _, _, h => h.elim
  | _ :: _, [], _, h => h.elim
theorem RL.at : ∀ {vs : List Value} {ks : List (List Rf)} {E : List Ent}, RL vs ks E → ∀ (m : Nat) (l : List Rf), ks[m]? = some l →
    ∃ v E1 e E2, vs[m]? = some v ∧ E = E1 ++ (e ++ E2) ∧ RS v l e ∧ ∀ v' l' e', RS v' l' e' → RL (vs.set m v') (ks.set m l') (E1 ++ (e' ++ E2))
  | [], [], _, _ => fun _ _ h => nomatch h
  | v :: vs, l :: ks, E, ⟨e, E', he, h1, h⟩ => by
    intro m l0 hm
    cases m with
    | zero =>
      simp only [List.getElem?_cons_zero, Option.some.injEq] at hm
      subst hm
      exact ⟨v, [], e, E', rfl, by simpa using he, h1, fun v' l' e' h' => ⟨e', E', rfl, h', h⟩⟩
    | succ m =>
      simp only [List.getElem?_cons_succ] at hm
      obtain ⟨v1, A, e1, B, g1, g2, g3, g4⟩ := h.at m l0 hm
      refine ⟨v1, e ++ A, e1, B, by simpa using g1, by rw [he, g2]; simp, g3, fun v' l' e' h' => ?_⟩
      exact ⟨e, A ++ (e' ++ B), by simp, h1, g4 v' l' e' h'⟩
  | [], _ :: _, _, h => h.elim
  | _ :: _, [], _, h => h.elim
theorem RL.nils : ∀ k : Nat, RL (List.replicate k (.slice none 0 0)) (List.replicate k []) []
  | 0 => rfl
  | k + 1 => ⟨[], [], rfl, RS.nil, RL.nils k⟩
theorem RL.snoc : ∀ {vs : List Value} {ks : List (List Rf)} {E : List Ent} {v : Value} {l : List Rf} {e : List Ent}, RL vs ks E → RS v l e → RL (vs ++ [v]) (ks ++ [l]) (E ++ e)
  | [], [], _, v, l, e, h, h1 => by
    have h : _ = [] := h
    subst h
    exact ⟨e, [], by simp, h1, rfl⟩
  | v0 :: vs, l0 :: ks, E, v, l, e, ⟨e0, E', he, h1, h⟩, h2 => ⟨e0, E' ++ e, by rw [he]; simp, h1, h.snoc h2⟩
  | [], _ :: _, _, _, _, _, h, _ => h.elim
  | _ :: _, [], _, _, _, _, h, _ => h.elim
theorem cellV {vs : List Value} {m : Nat} {v : Value} (h : vs[m]? = some v) : CellAt vs.toArray m v := ⟨by simpa using h⟩
theorem setV {vs : List Value} {m : Nat} (h : m < vs.length) (v : Value) : SetAt vs.toArray m v (vs.set m v).toArray := ⟨by simp, by simpa using h⟩

/-! The map of fields -/
def mpV (ms : List Me) (us : List Value) : List (Value × Value) := (ms.map (fun m => refV m.1)).zip us
abbrev mpF (ms : List Me) : List (List Rf) := ms.map (fun m => m.2.2)
theorem mpV_len {ms : List Me} {us : List Value} (h : us.length = ms.length) : (mpV ms us).length = ms.length := by simp [mpV, h]
theorem mpV_get {ms : List Me} {us : List Value} {i : Nat} {x : Value × Value} (h : (mpV ms us)[i]? = some x) : ∃ m, ms[i]? = some m ∧ x.1 = refV m.1 ∧ us[i]? = some x.2 := by
  unfold mpV at h
  rw [List.getElem?_zip_eq_some] at h
  obtain ⟨h1, h2⟩ := h
  rw [List.getElem?_map] at h1
  cases hm : ms[i]? with
  | none => rw [hm] at h1; cases h1
  | some m => rw [hm] at h1; exact ⟨m, rfl, (Option.some.inj h1).symm, h2⟩
theorem mpV_at {ms : List Me} {us : List Value} {i : Nat} {m : Me} {u : Value} (h1 : ms[i]? = some m) (h2 : us[i]? = some u) : (mpV ms us)[i]? = some (refV m.1, u) := by
  unfold mpV
  rw [List.getElem?_zip_eq_some, List.getElem?_map, h1]
  exact ⟨rfl, h2⟩
theorem mpKeys {s g : Int} (ms : List Me) (us : List Value) : Keys Try.prog 29 #[.int .i64 s, .int .u32 g] (keyB s g) (mpV ms us) := by
  intro x hx
  obtain ⟨i, hi⟩ := List.getElem?_of_mem hx
  obtain ⟨m, _, h2, _⟩ := mpV_get hi
  rw [h2]
  exact ⟨_, rfl, ref_eq⟩
theorem key_one {ms : List Me} (hk : ms.Pairwise (fun x y => x.1 ≠ y.1)) {j i : Nat} {m x : Me} (hj : ms[j]? = some m) (hi : ms[i]? = some x) (h : m.1 = x.1) : i = j := by
  have hjl := (List.getElem?_eq_some_iff.1 hj).1
  have hj2 := (List.getElem?_eq_some_iff.1 hj).2
  have hil := (List.getElem?_eq_some_iff.1 hi).1
  have hi2 := (List.getElem?_eq_some_iff.1 hi).2
  have hks := List.pairwise_iff_getElem.1 hk
  rcases Nat.lt_trichotomy i j with e | e | e
  · exact absurd (by rw [hi2, hj2, h]) (hks i j hil hjl e)
  · exact e
  · exact absurd (by rw [hi2, hj2, h]) (hks j i hjl hil e)
theorem look_mp {w : World} {M : Nat} {ms : List Me} {us : List Value} (hM : MapAt w M (mpV ms us)) (hk : ms.Pairwise (fun x y => x.1 ≠ y.1)) {j : Nat} {m : Me} {u : Value} (hj : ms[j]? = some m) (hu : us[j]? = some u) {s g : Int} (hr : m.1 = (s, g)) (c : Bool) :
    LookIs Try.prog w 25 M #[.int .i64 s, .int .u32 g] c (if c then .tuple #[u, .bool true] else u) := by
  refine look_yes hM (mpKeys ms us) (fun x hx hf => ?_) ⟨(refV m.1, u), List.mem_of_getElem? (mpV_at hj hu), ?_⟩ c
  · obtain ⟨i, hi⟩ := List.getElem?_of_mem hx
    obtain ⟨y, h1, h2, h3⟩ := mpV_get hi
    rw [h2, keyB_ref] at hf
    have h4 : (s, g) = y.1 := refB_iff.1 hf
    obtain rfl := key_one hk hj h1 (hr.trans h4)
    rw [hu] at h3
    exact (Option.some.inj h3).symm
  · show refB s g m.1.1 m.1.2 = true
    rw [hr]; exact refB_self s g
theorem look_mpn {w : World} {M : Nat} {ms : List Me} {us : List Value} (hM : MapAt w M (mpV ms us)) {s g : Int} (hk : ∀ m ∈ ms, m.1 ≠ (s, g)) (c : Bool) :
    LookIs Try.prog w 25 M #[.int .i64 s, .int .u32 g] c (if c then .tuple #[.slice none 0 0, .bool false] else .slice none 0 0) := by
  refine look_no hM (mpKeys ms us) (fun x hx => ?_) (by kernel_rfl) c
  obtain ⟨i, hi⟩ := List.getElem?_of_mem hx
  obtain ⟨y, h1, h2, _⟩ := mpV_get hi
  rw [h2, keyB_ref]
  exact refB_no (x := (s, g)) (y := y.1) (fun e => hk y (List.mem_of_getElem? h1) e.symm)
theorem put_mp {w : World} {M : Nat} {ms : List Me} {us : List Value} (hM : MapAt w M (mpV ms us)) (hl : us.length = ms.length) {s g : Int} (hk : ∀ m ∈ ms, m.1 ≠ (s, g)) (u : Value) (l : List Rf) :
    ∃ es ck, (Instr.mapUpdate 25 (.map (some M)) (.agg #[.int .i64 s, .int .u32 g]) u).run Try.prog w = .ok () (w.putCells M (.map es ck)) ∧
      es.toList.map (fun e => (e.key, e.val)) = mpV (ms ++ [((s, g), 0, l)]) (us ++ [u]) := by
  obtain ⟨es, ck, h1, h2⟩ := put_new (P := Try.prog) (t := 25) hM (mpKeys (s := s) (g := g) ms us) (fun x hx => by
    obtain ⟨i, hi⟩ := List.getElem?_of_mem hx
    obtain ⟨y, g1, g2, _⟩ := mpV_get hi
    rw [g2, keyB_ref]
    exact refB_no (x := (s, g)) (y := y.1) (fun e => hk y (List.mem_of_getElem? g1) e.symm)) u
  refine ⟨es, ck, h1, ?_⟩
  rw [h2]
  unfold mpV
  rw [List.map_append, List.zip_append (by simp [hl])]
  rfl
theorem put_mpo {w : World} {M : Nat} {ms : List Me} {us : List Value} (hM : MapAt w M (mpV ms us)) (hk : ms.Pairwise (fun x y => x.1 ≠ y.1)) {j : Nat} {s g : Int} {b : Nat} {l : List Rf} {u0 : Value} (hj : ms[j]? = some ((s, g), b, l)) (hu : us[j]? = some u0) (u : Value) :
    ∃ es ck, (Instr.mapUpdate 25 (.map (some M)) (.agg #[.int .i64 s, .int .u32 g]) u).run Try.prog w = .ok () (w.putCells M (.map es ck)) ∧
      es.toList.map (fun e => (e.key, e.val)) = mpV ms (us.set j u) := by
  obtain ⟨es, ck, h1, h2⟩ := put_old (P := Try.prog) (t := 25) hM (mpKeys (s := s) (g := g) ms us) (mpV_at hj hu) (refB_self s g) (fun i x hi hf => by
    obtain ⟨y, g1, g2, _⟩ := mpV_get hi
    rw [g2, keyB_ref] at hf
    exact key_one hk hj g1 (refB_iff.1 hf)) (by simp [Instr.sameBits]) u
  refine ⟨es, ck, h1, ?_⟩
  rw [h2]
  apply List.ext_getElem?
  intro q
  unfold mpV
  rw [List.getElem?_set, List.zip_eq_zipWith, List.zip_eq_zipWith, List.getElem?_zipWith, List.getElem?_zipWith, List.getElem?_map, List.getElem?_set]
  have hjl := (List.getElem?_eq_some_iff.1 hj).1
  have hul := (List.getElem?_eq_some_iff.1 hu).1
  by_cases e : j = q
  · subst e
    rw [if_pos rfl, if_pos rfl, if_pos hul, hj, if_pos (by simp; omega)]
    rfl
  · rw [if_neg e, if_neg e]

instance wr1' {p : Option Addr} {M : Nat} {v : Value} {G : List Rf} : CellAt (wrC p M v G) (0 + 1) (.map (some M)) := wr1
instance wr2' {p : Option Addr} {M : Nat} {v : Value} {G : List Rf} : CellAt (wrC p M v G) (0 + 2) v := wr2
instance wd_cv : CvI Try.prog 5 3 .i64 := ⟨by kernel_rfl, by kernel_rfl, by kernel_rfl⟩
instance wd_u8 : ScalarT Try.prog 5 := ⟨by kernel_rfl, by kernel_rfl⟩
instance wd_t : AggT Try.prog 80 5 := ⟨by kernel_rfl, by kernel_rfl⟩
instance wd_t0 {b off : Nat} : FieldAt Try.prog 80 0 b off off := ⟨fun w => by kernel_rfl⟩
instance wd_t1 {b off : Nat} : FieldAt Try.prog 80 1 b off (off + 1) := ⟨fun w => by kernel_rfl⟩
instance wd_t2 {b off : Nat} : FieldAt Try.prog 80 2 b off (off + 2) := ⟨fun w => by kernel_rfl⟩
instance wd_t3 {b off : Nat} : FieldAt Try.prog 80 3 b off (off + 3) := ⟨fun w => by kernel_rfl⟩
instance wd_t4 {b off : Nat} : FieldAt Try.prog 80 4 b off (off + 4) := ⟨fun w => by kernel_rfl⟩
instance wr_f3 {b off : Nat} : FieldAt Try.prog 32 3 b off (off + 3) := ⟨fun w => by kernel_rfl⟩

/-- The block of what the statements know. -/
abbrev wdE (bm : Nat) (p : Option Addr) (M bv mu : Nat) (G : List Rf) : Ent := ⟨bm, wrC p M (.slice (some ⟨bv, 0, none⟩) mu mu) G, 32, true⟩
abbrev rvE (bv : Nat) (vs : List Value) : Ent := ⟨bv, vs.toArray, 44, true⟩
/-- What the statements know behind k turns; T: the arena, ms: what was made. -/
def WX (W : World) (bm n mu k : Nat) (H : List Ent) (w : World) (T : Ar) (ms : List Me) : Prop :=
  ∃ w0 bs M p bv vs us E Er Em, Base W w0 bs M (mpV ms us) ∧ St w0 bs w (wdE bm p M bv mu T.2.2 :: rvE bv vs :: (E ++ (Er ++ (Em ++ H)))) ∧ AA p T E ∧ RL vs T.2.1 Er ∧ RL us (mpF ms) Em ∧ Wo n mu k T ms
def WA (W : World) (bm n mu k : Nat) (H : List Ent) (w : World) : Prop := ∃ T ms, WX W bm n mu k H w T ms
theorem WX.wa {W : World} {bm n mu k : Nat} {T : Ar} {ms : List Me} (h : WX W bm n mu k H w T ms) : WA W bm n mu k H w := ⟨T, ms, h⟩
theorem WX.st {W : World} {bm n mu k : Nat} {T : Ar} {ms : List Me} (h : WX W bm n mu k H w T ms) : St W [] w H := by
  obtain ⟨w0, bs, M, p, bv, vs, us, E, Er, Em, hB, hS, _⟩ := h
  have hS2 : St w0 bs w H := (show St w0 bs w ((wdE bm p M bv mu T.2.2 :: rvE bv vs :: (E ++ (Er ++ Em))) ++ H) from by simpa using hS).weak
  refine ⟨hB.all hS, hS2.get, hS2.nd, fun e he hw => .inr ?_⟩
  exact (hB.wrs hS2 e.b (mem_wb.2 ⟨e, he, hw, rfl⟩)).1
theorem WA.st {W : World} {bm n mu k : Nat} (h : WA W bm n mu k H w) : St W [] w H := by
  obtain ⟨T, ms, h⟩ := h
  exact h.st
theorem nilCells {k : Nat} (hk : 1 ≤ k ∧ k ≤ 4) : madeCells #[.slice none 0 0] (k * 1) = (List.replicate k (.slice none 0 0)).toArray := by
  rcases k with _ | _ | _ | _ | _ | k <;> first | omega | (show (_ : Array Value) = _; kernel_rfl)

theorem Wo.rtq {n mu k : Nat} {T : Ar} {ms : List Me} (h : Wo n mu k T ms) {m : Nat} (hm : m < mu) : T.2.1[m]? = some (rtL T m) := by
  have := h.mu
  unfold rtL
  rw [Int.toNat_natCast, List.getD_eq_getElem?_getD, List.getElem?_eq_getElem (by omega)]
  rfl

/-- begin. -/
theorem begin_wa {W : World} (hO : St W [] w H) (z y : Nat) (hz : z ≤ 255) (hy : y ≤ 255) (hR : ∀ bm w', WA W bm (1 + z) (1 + y % 4) 0 H w' → Ret R (.pointer (some ⟨bm, 0, none⟩)) w') :
    Calls Try.prog 9 #[.int .u8 z, .int .u8 y] w R := by
  obtain ⟨mu, hmu⟩ : ∃ q, 1 + y % 4 = q := ⟨_, rfl⟩
  rw [hmu] at hR
  refine begin_okc hO z y (by omega) (by omega) mu (by omega) (List.replicate (1 + z) (0, 1, zOb), List.replicate mu [], zero8) ?_ (fun bm bv M p E w0 bs w' hB hT hS => ?_)
  · show ((hpL (nwH (1 + (z : Int)) 1)), _, _) = _
    have : nwOk (1 + (z : Int)) 1 = true := by simp only [nwOk, Bool.and_eq_true, decide_eq_true_eq]; omega
    unfold nwH
    rw [this, show (1 + (z : Int)).toNat = 1 + z by omega]
    rfl
  · rw [nilCells (by omega)] at hS
    exact hR bm w' ⟨_, [], w0, bs, M, p, bv, List.replicate mu (.slice none 0 0), [], E, [], [], hB, hS, hT, RL.nils mu, rfl, Wo.new (by omega)⟩
end Go.Proofs.Ytjlihigodggfcaa
