/-
  Paints: Bleach, and the document's paints, in the same model as the program's.
-/
import Derived.Test.YtgpjanfphgjbbaaGreatKRefB
import Derived.Test.YtgpjanfphgjbbaaGreatPnt
set_option linter.unusedSimpArgs false
set_option linter.unusedVariables false
namespace Go.Proofs.YtgpjanfphgjbbaaGreat
open Go Go.RowKit Go.Mm
variable {R : Ending → World → Prop} {w : World} {w0 : World} {bs : List Nat} {H H' H1 E : List Ent}
def blT (T : Cq) (s : Int) : Cq := match T with
  | some (some (n, L)) => if 0 ≤ s ∧ s < n then some (some (n, L.set s.toNat 0)) else some (some (n, L))
  | T => T
theorem pn_bleach {p : Option Addr} {T : Cq} (hO : St w0 bs w H) (hT : KA p T E) [hc : Cut H E H1] (s : Int) (T' : Cq) (e : Int) (hT' : blT T s = T') (he : ofE T s = e)
    (hR : ∀ E' w', KA p T' E' → St w0 bs w' (E' ++ H1) → Ret R (.int .i64 e) w') : Calls Tryz.prog 25 #[.pointer p, .int .i64 s] w R := by
  have hS := hO.front (E := E) (H1 := H1)
  clear hO
  subst hT' he
  rcases T with _ | _ | ⟨n, L⟩
  · have hT0 := hT
    obtain ⟨rfl, rfl⟩ := hT
    exact Col.bleach_nil s (fun w' hc => hR _ w' hT0 (hS.nil hc))
  · have hT0 := hT
    obtain ⟨b, rfl, rfl⟩ := hT
    exact Col.bleach_zero (hS.has inferInstance) s (fun w' hc => hR _ w' hT0 (hS.nil hc))
  · have hT0 := hT
    obtain ⟨h1, h2, h3, h4, b, rfl, rfl⟩ := hT
    unfold blT ofE at hR
    by_cases hs : 0 ≤ s ∧ s < n
    · simp only [if_pos hs] at hR
      obtain ⟨i, rfl⟩ : ∃ i : Nat, s = i := ⟨s.toNat, by omega⟩
      rw [Int.toNat_natCast] at hR
      exact Col.bleach_ok (n := n) (L := L) (H' := ⟨b, Col.paintCells n (L.set i 0), 86, true⟩ :: H1) hS (by omega) (by omega) i hs.2 (hu := updHead) (fun w' hS' => hR [⟨b, Col.paintCells n (L.set i 0), 86, true⟩] w' ⟨h1, h2, (col_set (c := 0) h3 h4 (.inl rfl)).1, (col_set (c := 0) h3 h4 (.inl rfl)).2, b, rfl, rfl⟩ hS')
    · simp only [if_neg hs] at hR
      exact Col.bleach_range (n := n) (L := L) hS (by omega) s (by omega) (fun w' hS' => hR _ w' hT0 hS')
/-- A paint of the document: none; its size and its colours. -/
def KR (p : Option Addr) (T : Cq) (E : List Ent) : Prop := match T with
  | none => p = none ∧ E = []
  | some none => False
  | some (some (n, L)) => 1 ≤ n ∧ n ≤ 256 ∧ L.length = 256 ∧ (∀ c ∈ L, c = 0 ∨ c = 1 ∨ c = 2) ∧ ∃ rb rc cap sp, p = some ⟨rb, 0, none⟩ ∧ E = [⟨rb, #[.slice (some ⟨rc, 0, none⟩) n cap], 99, true⟩, ⟨rc, Col.rowC (L.take n) sp, 3, true⟩]
theorem KR.nil {p : Option Addr} {T : Cq} {E : List Ent} (h : KR p T E) : p.isNone = T.isNone := by
  rcases T with _ | _ | ⟨n, L⟩
  · rw [h.1]; rfl
  · exact h.elim
  · obtain ⟨_, _, _, _, rb, rc, cap, sp, rfl, _⟩ := h; rfl
theorem tk_len {n : Nat} {L : List Int} (h2 : n ≤ 256) (h3 : L.length = 256) : (L.take n).length = n := by rw [List.length_take]; omega
theorem tk_get {n i : Nat} {L : List Int} (h : i < n) : (L.take n).getD i 0 = L.getD i 0 := by
  rw [List.getD_eq_getElem?_getD, List.getD_eq_getElem?_getD, List.getElem?_take, if_pos h]
theorem kr_of {p : Option Addr} {T : Cq} (hO : St w0 bs w H) (hT : KR p T E) [hc : Cut H E H1] (s r e : Int) (hr : ofR T s = r) (he : ofE T s = e) (hR : ∀ w', KR p T E → St w0 bs w' (E ++ H1) → Ret R (.tuple #[.int .i64 r, .int .i64 e]) w') :
    Calls Tryz.prog 65 #[.pointer p, .int .i64 s] w R := by
  have hS := hO.front (E := E) (H1 := H1)
  clear hO
  subst hr he
  have hT0 := hT
  rcases T with _ | _ | ⟨n, L⟩
  · obtain ⟨rfl, rfl⟩ := hT
    exact Col.rof_nil s (hR w hT0 hS)
  · exact hT.elim
  · obtain ⟨h1, h2, h3, h4, rb, rc, cap, sp, rfl, rfl⟩ := hT
    simp only [List.cons_append, List.nil_append] at hS
    unfold ofR ofE at hR
    by_cases hs : 0 ≤ s ∧ s < n
    · simp only [if_pos hs] at hR
      obtain ⟨i, rfl⟩ : ∃ i : Nat, s = i := ⟨s.toNat, by omega⟩
      rw [Int.toNat_natCast] at hR
      exact Col.rof_ok hS (tk_len h2 h3) i _ rfl (by omega) _ (tk_get (by omega)) (fun w' => hR w' hT0)
    · simp only [if_neg hs] at hR
      exact Col.rof_range hS (by omega) s (by omega) (fun w' => hR w' hT0)
theorem kr_shade {p : Option Addr} {T : Cq} (hO : St w0 bs w H) (hT : KR p T E) [hc : Cut H E H1] (s : Int) (T' : Cq) (v : Bool) (e : Int) (hT' : shC T s = T') (hv : shB T s = v) (he : ofE T s = e)
    (hR : ∀ E' w', KR p T' E' → St w0 bs w' (E' ++ H1) → Ret R (.tuple #[.bool v, .int .i64 e]) w') : Calls Tryz.prog 56 #[.pointer p, .int .i64 s] w R := by
  have hS := hO.front (E := E) (H1 := H1)
  clear hO
  subst hT' hv he
  have hT0 := hT
  rcases T with _ | _ | ⟨n, L⟩
  · obtain ⟨rfl, rfl⟩ := hT
    exact Col.rshade_nil s (hR _ w hT0 hS)
  · exact hT.elim
  · obtain ⟨h1, h2, h3, h4, rb, rc, cap, sp, rfl, rfl⟩ := hT
    simp only [List.cons_append, List.nil_append] at hS
    unfold shC shB ofE at hR
    by_cases hs : 0 ≤ s ∧ s < n
    · simp only [if_pos hs] at hR
      obtain ⟨i, rfl⟩ : ∃ i : Nat, s = i := ⟨s.toNat, by omega⟩
      rw [Int.toNat_natCast] at hR
      by_cases h0 : L.getD i 0 = 0
      · rw [Col.shadeL, if_pos h0, decide_eq_true h0] at hR
        refine Col.rshade_yes hS (tk_len h2 h3) i _ rfl (by omega) (by rw [tk_get (by omega)]; exact h0) (fun w' hS => hR _ w' ⟨h1, h2, (col_set (c := 1) h3 h4 (.inr (.inl rfl))).1, (col_set (c := 1) h3 h4 (.inr (.inl rfl))).2, rb, rc, cap, sp, rfl, rfl⟩ ?_)
        rw [List.take_set]
        exact hS
      · rw [Col.shadeL, if_neg h0, decide_eq_false h0] at hR
        exact Col.rshade_no hS (tk_len h2 h3) i _ rfl (by omega) _ (tk_get (by omega)) (by simpa using h0) (fun w' hS => hR _ w' hT0 hS)
    · simp only [if_neg hs] at hR
      exact Col.rshade_range hS (by omega) s (by omega) (fun w' hS => hR _ w' hT0 hS)
theorem kr_blacken {p : Option Addr} {T : Cq} (hO : St w0 bs w H) (hT : KR p T E) [hc : Cut H E H1] (s : Int) (T' : Cq) (e : Int) (hT' : bkT T s = T') (he : bkE T s = e)
    (hR : ∀ E' w', KR p T' E' → St w0 bs w' (E' ++ H1) → Ret R (.int .i64 e) w') : Calls Tryz.prog 66 #[.pointer p, .int .i64 s] w R := by
  have hS := hO.front (E := E) (H1 := H1)
  clear hO
  subst hT' he
  have hT0 := hT
  rcases T with _ | _ | ⟨n, L⟩
  · obtain ⟨rfl, rfl⟩ := hT
    exact Col.rblacken_nil s (hR _ w hT0 hS)
  · exact hT.elim
  · obtain ⟨h1, h2, h3, h4, rb, rc, cap, sp, rfl, rfl⟩ := hT
    simp only [List.cons_append, List.nil_append] at hS
    unfold bkT bkE at hR
    by_cases hs : 0 ≤ s ∧ s < n
    · simp only [if_pos hs] at hR
      obtain ⟨i, rfl⟩ : ∃ i : Nat, s = i := ⟨s.toNat, by omega⟩
      rw [Int.toNat_natCast] at hR
      by_cases h0 : L.getD i 0 = 1
      · rw [Col.blackL, if_pos h0, Col.blackE, if_pos h0] at hR
        refine Col.rblacken_yes hS (tk_len h2 h3) i _ rfl (by omega) (by rw [tk_get (by omega)]; exact h0) (fun w' hS => hR _ w' ⟨h1, h2, (col_set (c := 2) h3 h4 (.inr (.inr rfl))).1, (col_set (c := 2) h3 h4 (.inr (.inr rfl))).2, rb, rc, cap, sp, rfl, rfl⟩ ?_)
        rw [List.take_set]
        exact hS
      · rw [Col.blackL, if_neg h0, Col.blackE, if_neg h0] at hR
        exact Col.rblacken_no hS (tk_len h2 h3) i _ rfl (by omega) _ (tk_get (by omega)) (by simpa using h0) (fun w' hS => hR _ w' hT0 hS)
    · simp only [if_neg hs] at hR
      exact Col.rblacken_range hS (by omega) s (by omega) (fun w' hS => hR _ w' hT0 hS)
theorem kr_bleach {p : Option Addr} {T : Cq} (hO : St w0 bs w H) (hT : KR p T E) [hc : Cut H E H1] (s : Int) (T' : Cq) (e : Int) (hT' : blT T s = T') (he : ofE T s = e)
    (hR : ∀ E' w', KR p T' E' → St w0 bs w' (E' ++ H1) → Ret R (.int .i64 e) w') : Calls Tryz.prog 26 #[.pointer p, .int .i64 s] w R := by
  have hS := hO.front (E := E) (H1 := H1)
  clear hO
  subst hT' he
  have hT0 := hT
  rcases T with _ | _ | ⟨n, L⟩
  · obtain ⟨rfl, rfl⟩ := hT
    exact Col.rbleach_nil s (hR _ w hT0 hS)
  · exact hT.elim
  · obtain ⟨h1, h2, h3, h4, rb, rc, cap, sp, rfl, rfl⟩ := hT
    simp only [List.cons_append, List.nil_append] at hS
    unfold blT ofE at hR
    by_cases hs : 0 ≤ s ∧ s < n
    · simp only [if_pos hs] at hR
      obtain ⟨i, rfl⟩ : ∃ i : Nat, s = i := ⟨s.toNat, by omega⟩
      rw [Int.toNat_natCast] at hR
      refine Col.rbleach_ok hS (tk_len h2 h3) i _ rfl (by omega) (fun w' hS => hR _ w' ⟨h1, h2, (col_set (c := 0) h3 h4 (.inl rfl)).1, (col_set (c := 0) h3 h4 (.inl rfl)).2, rb, rc, cap, sp, rfl, rfl⟩ ?_)
      rw [List.take_set]
      exact hS
    · simp only [if_neg hs] at hR
      exact Col.rbleach_range hS (by omega) s (by omega) (fun w' hS => hR _ w' hT0 hS)
theorem first_eq {p q : Nat → Bool} : ∀ n, (∀ j, j < n → p j = q j) → Col.firstOf p n = Col.firstOf q n := fun n h => by
  unfold Col.firstOf
  have : ∀ l : List Nat, (∀ j ∈ l, p j = q j) → l.find? p = l.find? q := by
    intro l
    induction l with
    | nil => intro _; rfl
    | cons a l ih =>
      intro h
      rw [List.find?_cons, List.find?_cons, h a (.head _), ih (fun j hj => h j (.tail _ hj))]
  exact this _ (fun j hj => h j (List.mem_range.1 hj))
theorem kr_grey {p : Option Addr} {T : Cq} (hO : St w0 bs w H) (hT : KR p T E) [hc : Cut H E H1] (f r : Int) (v : Bool) (hr : gyI T f = r) (hv : gyB T f = v) (hR : ∀ w', KR p T E → St w0 bs w' (E ++ H1) → Ret R (.tuple #[.int .i64 r, .bool v]) w') :
    Calls Tryz.prog 69 #[.pointer p, .int .i64 f] w R := by
  have hS := hO.front (E := E) (H1 := H1)
  clear hO
  subst hr hv
  have hT0 := hT
  rcases T with _ | _ | ⟨n, L⟩
  · obtain ⟨rfl, rfl⟩ := hT
    exact Col.rgrey_nil f (hR w hT0 hS)
  · exact hT.elim
  · obtain ⟨h1, h2, h3, h4, rb, rc, cap, sp, rfl, rfl⟩ := hT
    simp only [List.cons_append, List.nil_append] at hS
    have e : Col.firstOf (Col.isGrey (L.take n) f) n = Col.firstOf (Col.isGrey L f) n := first_eq n (fun j hj => by rw [Col.isGrey, Col.isGrey, tk_get hj])
    simp only [gyI, gyB, ← e] at hR
    exact Col.rgrey_ok hS (tk_len h2 h3) (by omega) h2 (fun w' => hR w' hT0)
theorem kr_copy {p : Option Addr} {T : Cq} (hO : St w0 bs w H) (hT : KR p T E) [hc : Cut H E H1] (hR : ∀ p' E' w', KR p' T E' → KR p T E → St w0 bs w' (E' ++ (E ++ H1)) → Ret R (.pointer p') w') :
    Calls Tryz.prog 96 #[.pointer p] w R := by
  have hS := hO.front (E := E) (H1 := H1)
  clear hO
  have hT0 := hT
  rcases T with _ | _ | ⟨n, L⟩
  · obtain ⟨rfl, rfl⟩ := hT
    exact Col.rcopy_nil (hR none [] w ⟨rfl, rfl⟩ hT0 hS)
  · exact hT.elim
  · obtain ⟨h1, h2, h3, h4, rb, rc, cap, sp, rfl, rfl⟩ := hT
    simp only [List.cons_append, List.nil_append] at hS
    exact Col.rcopy_ok hS (tk_len h2 h3) (by omega) h2 (fun rb' rc' cap' sp' w' hS => hR _ _ w' ⟨h1, h2, h3, h4, rb', rc', cap', sp', rfl, rfl⟩ hT0 hS)
theorem kr_new (hO : St w0 bs w H) (z : Int) (T : Cq) (e : Int) (hT : nwC z = T) (he : (if 1 ≤ z ∧ z ≤ 256 then (0 : Int) else 2) = e) (hR : ∀ p E w', KR p T E → St w0 bs w' (E ++ H) → Ret R (.tuple #[.pointer p, .int .i64 e]) w') :
    Calls Tryz.prog 9 #[.int .i64 z] w R := by
  subst hT he
  unfold nwC at hR
  by_cases hz : 1 ≤ z ∧ z ≤ 256
  · rw [if_pos hz, if_pos hz] at hR
    refine Col.rnew_ok hO (m := z.toNat) (by omega) (by omega) z (by omega) ?_
    intro rb rc w' hS
    refine hR _ _ w' ⟨by omega, by omega, Col.zerosLen, fun c hc => .inl (List.mem_replicate.1 hc).2, rb, rc, z.toNat, [], rfl, rfl⟩ ?_
    rw [Col.zerosL, List.take_replicate, Nat.min_eq_left (by omega)]
    exact hS
  · rw [if_neg hz, if_neg hz] at hR
    exact Col.rnew_bad z (by omega) (hR none [] w ⟨rfl, rfl⟩ hO)
end Go.Proofs.YtgpjanfphgjbbaaGreat
