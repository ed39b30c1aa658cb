/-
  Arenas with what the statements know of them: two of them beside each other; freeing all objects.
-/
import Derived.Test.YtjlihigodggfcaaWplay
import Derived.Test.YtjlihigodggfcaaArnQ
set_option linter.unusedSimpArgs false
set_option linter.unusedVariables false
namespace Go.Mm
open Go Go.RowKit
section
variable {W W1 w0 w w1 w2 w3 w5 : World} {bs : List Nat} {M : Nat} {ms : List (Value × Value)} {A A2 A3 X : List Ent}
/-- A piece that is only read from here on. -/
def rdo (E : List Ent) : List Ent := E.map (fun e => { e with wr := false })
theorem rdo_wr {E : List Ent} {e : Ent} (h : e ∈ rdo E) : e.wr = false := by
  obtain ⟨x, _, rfl⟩ := List.mem_map.1 h
  rfl
theorem mem_rdo {E : List Ent} {e : Ent} (h : e ∈ E) : { e with wr := false } ∈ rdo E := List.mem_map.2 ⟨e, h, rfl⟩
theorem wb_rdo {A X : List Ent} : wb (A ++ rdo X) = wb A := by
  unfold wb
  rw [List.filter_append, List.map_append]
  have : (rdo X).filter (fun e => e.wr) = [] := by
    rw [List.filter_eq_nil_iff]
    intro e he
    rw [rdo_wr he]; decide
  rw [this]; simp
theorem rdo_nd {A X : List Ent} (h : (A ++ X).Pairwise (fun x y => x.b ≠ y.b)) : (A ++ rdo X).Pairwise (fun x y => x.b ≠ y.b) := by
  have e : (A ++ rdo X).map (fun e => e.b) = (A ++ X).map (fun e => e.b) := by simp [rdo, List.map_map, Function.comp_def]
  have h1 := List.pairwise_map.2 h
  rw [← e] at h1
  exact List.pairwise_map.1 h1
theorem rdo_nd' {A X : List Ent} (h : (A ++ rdo X).Pairwise (fun x y => x.b ≠ y.b)) : (A ++ X).Pairwise (fun x y => x.b ≠ y.b) := by
  have e : (A ++ rdo X).map (fun e => e.b) = (A ++ X).map (fun e => e.b) := by simp [rdo, List.map_map, Function.comp_def]
  have h1 := List.pairwise_map.2 h
  rw [e] at h1
  exact List.pairwise_map.1 h1
theorem rdo_start (hS : St w0 bs w X) : St w [] w (rdo X) := by
  refine ⟨Chg.refl _ _, fun e he => ?_, ?_, fun e he hw => ?_⟩
  · obtain ⟨x, hx, rfl⟩ := List.mem_map.1 he
    exact hS.get x hx
  · have := rdo_nd (A := []) (X := X) (by simpa using hS.nd)
    simpa using this
  · rw [rdo_wr he] at hw; cases hw
/-- All may be written again. -/
theorem St.reopen (hS : St w0 bs w (A ++ rdo X)) : St w (wb (A ++ X)) w (A ++ X) := by
  refine ⟨Chg.refl _ _, fun e he => ?_, rdo_nd' hS.nd, fun e he hw => .inl (mem_wb.2 ⟨e, he, hw, rfl⟩)⟩
  rcases List.mem_append.1 he with h | h
  · exact hS.get e (List.mem_append_left _ h)
  · exact (hS.get { e with wr := false } (List.mem_append_right _ (mem_rdo h)) :)
/-- What was only read is only read again. -/
theorem Base.close (hB : Base W1 w0 bs M ms) (hS2 : St w0 bs w2 (A2 ++ rdo X)) (hX : ∀ e ∈ X, W1.heap[e.b]? = some (.cells e.cs e.T (0, 0))) (hS3 : St w2 (wb (A2 ++ X)) w3 (A3 ++ X)) :
    Base W1 w3 (wb A3) M ms ∧ St w3 (wb A3) w3 (A3 ++ rdo X) := by
  have hltX : ∀ e ∈ X, e.b < W1.heap.size := fun e he => lt_of_heap (hX e he)
  obtain ⟨es, ck, m1, m2⟩ := (hB.now hS2).h
  have hA2 : ∀ e ∈ A2, e.wr = true → W1.heap.size ≤ e.b := fun e he hw => (hB.wrs hS2 e.b (mem_wb.2 ⟨e, List.mem_append_left _ he, hw, rfl⟩)).1
  have chg2 := hB.all hS2
  have hM : M ∉ wb (A2 ++ X) := by
    intro hx
    obtain ⟨e, he, _, hb⟩ := mem_wb.1 hx
    rcases List.mem_append.1 he with h | h
    · have := hS2.get e (List.mem_append_left _ h)
      rw [hb, m1] at this; cases this
    · have := hS2.get _ (List.mem_append_right _ (mem_rdo h))
      simp only at this
      rw [hb, m1] at this; cases this
  have m3 := hS3.chg.get m1 hM
  have hnd := List.pairwise_append.1 hS3.nd
  refine ⟨⟨⟨hS3.chg.os.trans chg2.os, hS3.chg.tape.trans chg2.tape, hS3.chg.output.trans chg2.output, Nat.le_trans chg2.size hS3.chg.size, fun k hk _ => ?_⟩, ⟨es, ck, m3, m2⟩, hB.new, fun x hx => ?_⟩, ?_⟩
  · by_cases hkb : k ∈ wb (A2 ++ X)
    · obtain ⟨e, he, hw, rfl⟩ := mem_wb.1 hkb
      rcases List.mem_append.1 he with h | h
      · exact absurd (hA2 e h hw) (by omega)
      · rw [hX e h]
        exact hS3.get e (List.mem_append_right _ h)
    · rw [hS3.chg.same k (Nat.lt_of_lt_of_le hk chg2.size) hkb]
      exact chg2.same k hk (by simp)
  · obtain ⟨e, he, hw, rfl⟩ := mem_wb.1 hx
    refine ⟨?_, fun hb => ?_⟩
    · rcases hS3.wr e (List.mem_append_left _ he) hw with h | h
      · obtain ⟨y, hy, hyw, hyb⟩ := mem_wb.1 h
        rcases List.mem_append.1 hy with h2 | h2
        · rw [← hyb]; exact hA2 y h2 hyw
        · exact absurd hyb.symm (hnd.2.2 e he y h2)
      · exact Nat.le_trans chg2.size h
    · have := hS3.get e (List.mem_append_left _ he)
      rw [hb, m3] at this; cases this
  · refine ⟨Chg.refl _ _, fun e he => ?_, rdo_nd hS3.nd, fun e he hw => ?_⟩
    · rcases List.mem_append.1 he with h | h
      · exact hS3.get e (List.mem_append_left _ h)
      · obtain ⟨x, hx, rfl⟩ := List.mem_map.1 h
        exact hS3.get x (List.mem_append_right _ hx)
    · rcases List.mem_append.1 he with h | h
      · exact .inl (mem_wb.2 ⟨e, h, hw, rfl⟩)
      · rw [rdo_wr h] at hw; cases hw
/-- What was only read may be written again, and its map is as it was. -/
theorem Base.again (hB : Base W w0 bs M ms) (hS1 : St w0 bs w1 X) (hS5 : St w1 [] w5 (rdo X)) : Base W w5 (wb X) M ms ∧ St w5 (wb X) w5 X := by
  obtain ⟨es, ck, m1, m2⟩ := (hB.now hS1).h
  refine ⟨⟨(hB.all hS1).trans hS5.chg (fun x hx => by cases hx), ⟨es, ck, hS5.chg.get m1 (by simp), m2⟩, hB.new, hB.wrs hS1⟩, Chg.refl _ _, fun e he => (hS5.get { e with wr := false } (mem_rdo he) :), ?_, fun e he hw => .inl (mem_wb.2 ⟨e, he, hw, rfl⟩)⟩
  have := rdo_nd' (A := []) (X := X) (by simpa using hS5.nd)
  simpa using this
/-- The argument's cells lie where they lay. -/
theorem Flat.move {ks : List Lk} {v : Value} {n b off : Nat} {F : Nat → Nat → Value} (h : Flat W ks v n b off F) (hS : St W [] w X) : Flat w ks v n b off F := ⟨h.v, fun i hi j hj => cell0 hS (h.c i hi j hj), h.k⟩
end
end Go.Mm
namespace Go.Proofs.Ytjlihigodggfcaa
open Go Go.RowKit Go.Mm

theorem alH_nodup (L : List Hs) : (alH (HL L)).Nodup := by
  show (stL 1 (tbH L) (tbH L).length).Nodup
  unfold stL
  refine List.Pairwise.map _ (fun a b (hab : a ≠ b) e => hab ?_) (List.nodup_range.filter _)
  have := congrArg Prod.fst e
  simp only [refOf] at this
  omega
/-- Behind the first i objects that were freed. -/
structure Fr (n k : Nat) (ms : List Me) (all : List Rf) (i : Nat) (L : List Hs) : Prop where
  h : ∃ ins gone, Mo n 1 (k + i) L ins gone ms ∧ ∀ q, i ≤ q → q < all.length → all.getD q (0, 0) ∈ ins
theorem Fr.start {n mu k : Nat} {T : Ar} {ms : List Me} (h : Wo n mu k T ms) : Fr n k ms (alH (HL T.1)) 0 T.1 := ⟨_, [], h.mo, fun q _ hq => by
  refine h.mo.all _ ?_
  have hr : (alH (HL T.1)).getD q (0, 0) ∈ tkL (some (tbH T.1)) := by
    rw [List.getD_eq_getElem?_getD, List.getElem?_eq_getElem hq]
    exact List.getElem_mem hq
  rwa [tkL_ck (by rw [tbH_len]; exact h.mo.w.lo)] at hr⟩
theorem Fr.step {n k : Nat} {ms : List Me} {all : List Rf} (hnd : all.Nodup) {i : Nat} {L : List Hs} (h : Fr n k ms all i L) (hi : i < all.length) :
    ∃ L', frT (HL L) (all.getD i (0, 0)).1 (all.getD i (0, 0)).2 = HL L' ∧ wiH (HL L) (all.getD i (0, 0)).1 (all.getD i (0, 0)).2 = 0 ∧ Fr n k ms all (i + 1) L' := by
  obtain ⟨ins, gone, hMo, hin⟩ := h.h
  obtain ⟨q, hq⟩ := List.getElem?_of_mem (hin i (Nat.le_refl _) hi)
  obtain ⟨L', h1, h2, _, hMo'⟩ := hMo.free hq
  refine ⟨L', h1, h2, ⟨_, _, hMo', fun z hz hzl => ?_⟩⟩
  have hzi := hin z (by omega) hzl
  have hne : all.getD z (0, 0) ≠ all.getD i (0, 0) := by
    rw [List.getD_eq_getElem?_getD, List.getD_eq_getElem?_getD, List.getElem?_eq_getElem hzl, List.getElem?_eq_getElem hi]
    intro e
    have := (List.getElem_inj hnd).1 (show all[z] = all[i] from e)
    omega
  have hql := (List.getElem?_eq_some_iff.1 hq).1
  have hq2 := (List.getElem?_eq_some_iff.1 hq).2
  have hsp : ins = ins.take q ++ (ins[q] :: ins.drop (q + 1)) := by
    conv => lhs; rw [← List.take_append_drop q ins]
    rw [List.drop_eq_getElem_cons hql]
  rw [hsp] at hzi
  rcases List.mem_append.1 hzi with h | h
  · exact List.mem_append_left _ h
  · rcases List.mem_cons.1 h with h | h
    · rw [hq2] at h; exact absurd h hne
    · exact List.mem_append_right _ h
end Go.Proofs.Ytjlihigodggfcaa
