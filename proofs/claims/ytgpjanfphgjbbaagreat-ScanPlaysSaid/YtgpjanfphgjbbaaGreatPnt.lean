/-
  Paints: the contracts of the package colour, whether a paint is there or not.
-/
import Derived.Test.YtgpjanfphgjbbaaGreatKGreyN
import Derived.Test.YtgpjanfphgjbbaaGreatKColB
import Derived.Test.YtgpjanfphgjbbaaGreatRfs
set_option linter.unusedSimpArgs false
set_option linter.unusedVariables false
namespace Go.Proofs.YtgpjanfphgjbbaaGreat
open Go Go.RowKit Go.Mm
variable {R : Ending → World → Prop} {w : World} {w0 : World} {bs : List Nat} {H H' H1 E : List Ent}

/-- A paint: none; one that New did not return; its size and its colours. -/
abbrev Cq := Option (Option (Nat × List Int))
def KA (p : Option Addr) (T : Cq) (E : List Ent) : Prop := match T with
  | none => p = none ∧ E = []
  | some none => ∃ b, p = some ⟨b, 0, none⟩ ∧ E = [⟨b, Col.paintCells 0 Col.zerosL, 86, true⟩]
  | some (some (n, L)) => 1 ≤ n ∧ n ≤ 256 ∧ L.length = 256 ∧ (∀ c ∈ L, c = 0 ∨ c = 1 ∨ c = 2) ∧ ∃ b, p = some ⟨b, 0, none⟩ ∧ E = [⟨b, Col.paintCells n L, 86, true⟩]
theorem KA.nil {p : Option Addr} {T : Cq} {E : List Ent} (h : KA p T E) : p.isNone = T.isNone := by
  rcases T with _ | _ | ⟨n, L⟩
  · rw [h.1]; rfl
  · obtain ⟨b, rfl, _⟩ := h; rfl
  · obtain ⟨_, _, _, _, b, rfl, _⟩ := h; rfl
def nwC (z : Int) : Cq := if 1 ≤ z ∧ z ≤ 256 then some (some (z.toNat, Col.zerosL)) else none
theorem pn_new (hO : St w0 bs w H) (z : Int) (T : Cq) (e : Int) (hT : nwC z = T) (he : (if 1 ≤ z ∧ z ≤ 256 then (0 : Int) else 2) = e) (hR : ∀ p E w', KA p T E → St w0 bs w' (E ++ H) → Ret R (.tuple #[.pointer p, .int .i64 e]) w') :
    Calls Tryz.prog 6 #[.int .i64 z] w R := by
  subst hT he
  unfold nwC at hR
  by_cases hz : 1 ≤ z ∧ z ≤ 256
  · rw [if_pos hz, if_pos hz] at hR
    refine Col.new_ok hO z hz.1 hz.2 (fun b w' hS => hR (some ⟨b, 0, none⟩) [⟨b, Col.paintCells z Col.zerosL, 86, true⟩] w' ⟨by omega, by omega, Col.zerosLen, fun c hc => .inl (List.mem_replicate.1 hc).2, b, rfl, ?_⟩ hS)
    rw [Int.toNat_of_nonneg (by omega)]
  · rw [if_neg hz, if_neg hz] at hR
    exact Col.new_bad z (by omega) (hR none [] w ⟨rfl, rfl⟩ hO)
def cpC : Cq → Cq
  | some (some x) => some (some x)
  | _ => none
theorem pn_copy {p : Option Addr} {T : Cq} (hO : St w0 bs w H) (hT : KA p T E) [hc : Cut H E H1] (T' : Cq) (hT' : cpC T = T') (hR : ∀ p' E' w', KA p' T' E' → St w0 bs w' (E' ++ (E ++ H1)) → Ret R (.pointer p') w') :
    Calls Tryz.prog 84 #[.pointer p] w R := by
  have hS := hO.front (E := E) (H1 := H1)
  clear hO
  subst hT'
  rcases T with _ | _ | ⟨n, L⟩
  · obtain ⟨rfl, rfl⟩ := hT
    exact Col.copy_nil (hR none [] w ⟨rfl, rfl⟩ hS)
  · obtain ⟨b, rfl, rfl⟩ := hT
    exact Col.copy_zero (hS.has inferInstance) (hR none [] w ⟨rfl, rfl⟩ hS)
  · obtain ⟨h1, h2, h3, h4, b, rfl, rfl⟩ := hT
    exact Col.copy_ok hS (by omega) h3 (fun b' w' hS' => hR _ [⟨b', Col.paintCells n L, 86, true⟩] w' ⟨h1, h2, h3, h4, b', rfl, rfl⟩ hS')
def ofE (T : Cq) (s : Int) : Int := match T with
  | some (some (n, _)) => if 0 ≤ s ∧ s < n then 0 else 3
  | _ => 1
def ofR (T : Cq) (s : Int) : Int := match T with
  | some (some (n, L)) => if 0 ≤ s ∧ s < n then L.getD s.toNat 0 else 0
  | _ => 0
theorem pn_of {p : Option Addr} {T : Cq} (hO : St w0 bs w H) (hT : KA p T E) [hc : Cut H E H1] (s r e : Int) (hr : ofR T s = r) (he : ofE T s = e) (hR : ∀ w', St w0 bs w' (E ++ H1) → Ret R (.tuple #[.int .i64 r, .int .i64 e]) w') :
    Calls Tryz.prog 60 #[.pointer p, .int .i64 s] w R := by
  have hS := hO.front (E := E) (H1 := H1)
  clear hO
  subst hr he
  rcases T with _ | _ | ⟨n, L⟩
  · obtain ⟨rfl, rfl⟩ := hT
    exact Col.of_nil s (fun w' hc => hR w' (hS.nil hc))
  · obtain ⟨b, rfl, rfl⟩ := hT
    exact Col.of_zero (hS.has inferInstance) s (fun w' hc => hR w' (hS.nil hc))
  · obtain ⟨h1, h2, h3, h4, b, rfl, rfl⟩ := hT
    unfold ofR ofE at hR
    by_cases hs : 0 ≤ s ∧ s < n
    · simp only [if_pos hs] at hR
      obtain ⟨i, rfl⟩ : ∃ i : Nat, s = i := ⟨s.toNat, by omega⟩
      rw [Int.toNat_natCast] at hR
      exact Col.of_ok (n := n) (L := L) hS (by omega) (by omega) (fun c hc => by rcases h4 c hc with rfl | rfl | rfl <;> decide) i hs.2 hR
    · simp only [if_neg hs] at hR
      exact Col.of_range (n := n) (L := L) hS (by omega) s (by omega) hR
def shB (T : Cq) (s : Int) : Bool := match T with
  | some (some (n, L)) => if 0 ≤ s ∧ s < n then decide (L.getD s.toNat 0 = 0) else false
  | _ => false
def shC (T : Cq) (s : Int) : Cq := match T with
  | some (some (n, L)) => if 0 ≤ s ∧ s < n then some (some (n, Col.shadeL L s.toNat)) else some (some (n, L))
  | T => T
theorem col_set {L : List Int} {i : Nat} {c : Int} (h3 : L.length = 256) (h4 : ∀ c ∈ L, c = 0 ∨ c = 1 ∨ c = 2) (hc : c = 0 ∨ c = 1 ∨ c = 2) : (L.set i c).length = 256 ∧ ∀ d ∈ L.set i c, d = 0 ∨ d = 1 ∨ d = 2 := by
  refine ⟨by rw [List.length_set]; exact h3, fun x hx => ?_⟩
  rcases List.mem_or_eq_of_mem_set hx with hx | hx
  · exact h4 x hx
  · rw [hx]; exact hc
theorem pn_shade {p : Option Addr} {T : Cq} (hO : St w0 bs w H) (hT : KA p T E) [hc : Cut H E H1] (s : Int) (T' : Cq) (v : Bool) (e : Int) (hT' : shC T s = T') (hv : shB T s = v) (he : ofE T s = e)
    (hR : ∀ E' w', KA p T' E' → St w0 bs w' (E' ++ H1) → Ret R (.tuple #[.bool v, .int .i64 e]) w') : Calls Tryz.prog 52 #[.pointer p, .int .i64 s] w R := by
  have hS := hO.front (E := E) (H1 := H1)
  clear hO
  subst hT' hv he
  rcases T with _ | _ | ⟨n, L⟩
  · have hT0 := hT
    obtain ⟨rfl, rfl⟩ := hT
    exact Col.shade_nil s (fun w' hc => hR _ w' hT0 (hS.nil hc))
  · have hT0 := hT
    obtain ⟨b, rfl, rfl⟩ := hT
    exact Col.shade_zero (hS.has inferInstance) s (fun w' hc => hR _ w' hT0 (hS.nil hc))
  · have hT0 := hT
    obtain ⟨h1, h2, h3, h4, b, rfl, rfl⟩ := hT
    unfold shC shB ofE at hR
    by_cases hs : 0 ≤ s ∧ s < n
    · simp only [if_pos hs] at hR
      obtain ⟨i, rfl⟩ : ∃ i : Nat, s = i := ⟨s.toNat, by omega⟩
      rw [Int.toNat_natCast] at hR
      refine Col.shade_ok (n := n) (L := L) (H' := ⟨b, Col.paintCells n (Col.shadeL L i), 86, true⟩ :: H1) hS (by omega) (by omega) i hs.2 (hu := updHead) (fun w' hS' => hR [⟨b, Col.paintCells n (Col.shadeL L i), 86, true⟩] w' ⟨h1, h2, ?_, ?_, b, rfl, rfl⟩ hS')
      · unfold Col.shadeL; split
        · exact (col_set (c := 1) h3 h4 (.inr (.inl rfl))).1
        · exact h3
      · unfold Col.shadeL; split
        · exact (col_set (c := 1) h3 h4 (.inr (.inl rfl))).2
        · exact h4
    · simp only [if_neg hs] at hR
      exact Col.shade_range (n := n) (L := L) hS (by omega) s (by omega) (fun w' hS' => hR _ w' hT0 hS')
def bkE (T : Cq) (s : Int) : Int := match T with
  | some (some (n, L)) => if 0 ≤ s ∧ s < n then Col.blackE 1 L s.toNat else 3
  | _ => 1
def bkT (T : Cq) (s : Int) : Cq := match T with
  | some (some (n, L)) => if 0 ≤ s ∧ s < n then some (some (n, Col.blackL 1 L s.toNat)) else some (some (n, L))
  | T => T
theorem pn_blacken {p : Option Addr} {T : Cq} (hO : St w0 bs w H) (hT : KA p T E) [hc : Cut H E H1] (s : Int) (T' : Cq) (e : Int) (hT' : bkT T s = T') (he : bkE T s = e)
    (hR : ∀ E' w', KA p T' E' → St w0 bs w' (E' ++ H1) → Ret R (.int .i64 e) w') : Calls Tryz.prog 100 #[.pointer p, .int .i64 s, .int .u8 1] w R := by
  have hS := hO.front (E := E) (H1 := H1)
  clear hO
  subst hT' he
  rcases T with _ | _ | ⟨n, L⟩
  · have hT0 := hT
    obtain ⟨rfl, rfl⟩ := hT
    exact Col.blacken_nil s 1 (fun w' hc => hR _ w' hT0 (hS.nil hc))
  · have hT0 := hT
    obtain ⟨b, rfl, rfl⟩ := hT
    exact Col.blacken_zero (hS.has inferInstance) s 1 (fun w' hc => hR _ w' hT0 (hS.nil hc))
  · have hT0 := hT
    obtain ⟨h1, h2, h3, h4, b, rfl, rfl⟩ := hT
    unfold bkT bkE at hR
    by_cases hs : 0 ≤ s ∧ s < n
    · simp only [if_pos hs] at hR
      obtain ⟨i, rfl⟩ : ∃ i : Nat, s = i := ⟨s.toNat, by omega⟩
      rw [Int.toNat_natCast] at hR
      refine Col.blacken_ok (n := n) (L := L) (H' := ⟨b, Col.paintCells n (Col.blackL 1 L i), 86, true⟩ :: H1) hS (by omega) (by omega) i hs.2 1 (hu := updHead) (fun w' hS' => hR [⟨b, Col.paintCells n (Col.blackL 1 L i), 86, true⟩] w' ⟨h1, h2, ?_, ?_, b, rfl, rfl⟩ hS')
      · unfold Col.blackL; split
        · exact (col_set (c := 2) h3 h4 (.inr (.inr rfl))).1
        · exact h3
      · unfold Col.blackL; split
        · exact (col_set (c := 2) h3 h4 (.inr (.inr rfl))).2
        · exact h4
    · simp only [if_neg hs] at hR
      exact Col.blacken_range (n := n) (L := L) hS (by omega) s 1 (by omega) (fun w' hS' => hR _ w' hT0 hS')
set_option maxRecDepth 100000 in
theorem pn_Blacken {p : Option Addr} {T : Cq} (hO : St w0 bs w H) (hT : KA p T E) [hc : Cut H E H1] (s : Int) (T' : Cq) (e : Int) (hT' : bkT T s = T') (he : bkE T s = e)
    (hR : ∀ E' w', KA p T' E' → St w0 bs w' (E' ++ H1) → Ret R (.int .i64 e) w') : Calls Tryz.prog 62 #[.pointer p, .int .i64 s] w R := by
  have hS := hO.front (E := E) (H1 := H1)
  clear hO
  go_enter Tryz.func62, Tryz.ntmps62
  go_wp2_with ((go_at_call 100; refine pn_blacken hS hT s T' e hT' he ?_; clear hS; intro E' w hT' hS; unfold Ret))
  exact hR _ _ hT' hS
def gyI (T : Cq) (f : Int) : Int := match T with
  | some (some (n, L)) => ((Col.firstOf (Col.isGrey L f) n).getD 0 : Nat)
  | _ => 0
def gyB (T : Cq) (f : Int) : Bool := match T with
  | some (some (n, L)) => (Col.firstOf (Col.isGrey L f) n).isSome
  | _ => false
theorem pn_grey {p : Option Addr} {T : Cq} (hO : St w0 bs w H) (hT : KA p T E) [hc : Cut H E H1] (f r : Int) (v : Bool) (hr : gyI T f = r) (hv : gyB T f = v) (hR : ∀ w', St w0 bs w' (E ++ H1) → Ret R (.tuple #[.int .i64 r, .bool v]) w') :
    Calls Tryz.prog 67 #[.pointer p, .int .i64 f] w R := by
  have hS := hO.front (E := E) (H1 := H1)
  clear hO
  subst hr hv
  rcases T with _ | _ | ⟨n, L⟩
  · obtain ⟨rfl, rfl⟩ := hT
    exact Col.grey_nil (fun w' hc => hR w' (hS.nil hc))
  · obtain ⟨b, rfl, rfl⟩ := hT
    exact Col.grey_zero (hS.has inferInstance) (fun w' hc => hR w' (hS.nil hc))
  · obtain ⟨h1, h2, h3, h4, b, rfl, rfl⟩ := hT
    exact Col.grey_ok (n := n) (L := L) hS (by omega) h2 h3 hR
end Go.Proofs.YtgpjanfphgjbbaaGreat
