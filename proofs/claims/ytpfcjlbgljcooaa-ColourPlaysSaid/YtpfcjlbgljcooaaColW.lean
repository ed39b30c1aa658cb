/-
  The colours of slots: the examples of the chapter hold.
-/
import Derived.Test.YtpfcjlbgljcooaaColC
namespace Go.Proofs.Ytpfcjlbgljcooaa
open Go.RowKit Go.Mm

variable {R : Ending → World → Prop} {w : World} {b : Nat} {n : Int} {L : List Int} {w0 : World} {bs : List Nat} {H H' : List Ent}

theorem shade_eq (hO : St w0 bs w H) [hH : Has H b (paintCells n L) 59] (hn : n ≤ 256) (hl : n ≤ L.length) (i : Nat) (j : Int) (hj : j = i) (hi : (i : Int) < n) (r : Bool) (L' : List Int) (h1 : decide (L.getD i 0 = 0) = r) (h2 : shadeL L i = L')
    [hu : Upd H b (paintCells n L') 59 H'] (hR : ∀ w', St w0 bs w' H' → Ret R (.tuple #[.bool r, .int .i64 0]) w') :
    Calls Try.prog 10 #[.pointer (some ⟨b, 0, none⟩), .int .i64 j] w R := by
  subst hj; subst h1; subst h2; exact shade_ok hO hn hl i hi hR

theorem blacken_eq (hO : St w0 bs w H) [hH : Has H b (paintCells n L) 59] (hn : n ≤ 256) (hl : n ≤ L.length) (i : Nat) (j : Int) (hj : j = i) (hi : (i : Int) < n) (e : Int) (L' : List Int) (h1 : blackE 1 L i = e) (h2 : blackL 1 L i = L')
    [hu : Upd H b (paintCells n L') 59 H'] (hR : ∀ w', St w0 bs w' H' → Ret R (.int .i64 e) w') :
    Calls Try.prog 11 #[.pointer (some ⟨b, 0, none⟩), .int .i64 j] w R := by
  subst hj; subst h1; subst h2
  have hS := hO
  go_enter Try.func11, Try.ntmps11
  go_wp2_with (first | (go_at_call 32; refine blacken_ok hS hn hl i hi 1 ?_; clear hS; intro w hS; unfold Ret))
  exact hR _ hS

theorem born_eq (hO : St w0 bs w H) [hH : Has H b (paintCells n L) 59] (hn : n ≤ 256) (hl : n ≤ L.length) (i : Nat) (j : Int) (hj : j = i) (hi : (i : Int) < n) (e : Int) (L' : List Int) (h1 : blackE 0 L i = e) (h2 : blackL 0 L i = L')
    [hu : Upd H b (paintCells n L') 59 H'] (hR : ∀ w', St w0 bs w' H' → Ret R (.int .i64 e) w') :
    Calls Try.prog 16 #[.pointer (some ⟨b, 0, none⟩), .int .i64 j] w R := by
  subst hj; subst h1; subst h2
  have hS := hO
  go_enter Try.func16, Try.ntmps16
  go_wp2_with (first | (go_at_call 32; refine blacken_ok hS hn hl i hi 0 ?_; clear hS; intro w hS; unfold Ret))
  exact hR _ hS

theorem bleach_eq (hO : St w0 bs w H) [hH : Has H b (paintCells n L) 59] (hn : n ≤ 256) (hl : n ≤ L.length) (i : Nat) (j : Int) (hj : j = i) (hi : (i : Int) < n) (L' : List Int) (h2 : L.set i 0 = L')
    [hu : Upd H b (paintCells n L') 59 H'] (hR : ∀ w', St w0 bs w' H' → Ret R (.int .i64 0) w') :
    Calls Try.prog 17 #[.pointer (some ⟨b, 0, none⟩), .int .i64 j] w R := by
  subst hj; subst h2; exact bleach_ok hO hn hl i hi hR

theorem of_eq (hO : St w0 bs w H) [hH : Has H b (paintCells n L) 59] (hn : n ≤ 256) (hl : n ≤ L.length) (hc : ∀ c ∈ L, 0 ≤ c ∧ c ≤ 255) (i : Nat) (j : Int) (hj : j = i) (hi : (i : Int) < n) (c : Int) (h1 : L.getD i 0 = c)
    (hR : ∀ w', St w0 bs w' H → Ret R (.tuple #[.int .i64 c, .int .i64 0]) w') :
    Calls Try.prog 12 #[.pointer (some ⟨b, 0, none⟩), .int .i64 j] w R := by
  subst hj; subst h1; exact of_ok hO hn hl hc i hi hR

/-! ### The examples -/
def mk4 (a b c d : Int) : List Int := a :: b :: c :: d :: List.replicate 252 0
theorem mk4_zero : zerosL = mk4 0 0 0 0 := rfl
theorem mk4_len {a b c d : Int} : (mk4 a b c d).length = 256 := by unfold mk4; simp only [List.length_cons, List.length_replicate]
theorem mk4_all {a b c d : Int} {p : Int → Prop} (ha : p a) (hb : p b) (hc : p c) (hd : p d) (h0 : p 0) : ∀ x ∈ mk4 a b c d, p x := by
  intro x hx
  unfold mk4 at hx
  simp only [List.mem_cons, List.mem_replicate] at hx
  rcases hx with rfl | rfl | rfl | rfl | ⟨_, rfl⟩ <;> assumption

set_option maxRecDepth 100000 in
theorem works_ok (hO : St w0 bs w H) (hR : ∀ w', St w0 bs w' H → Ret R (.bool true) w') : Calls Try.prog 13 #[] w R := by
  have hS := hO
  have l3 : ∀ {a b c d : Int}, (4 : Int) ≤ (mk4 a b c d).length := by intro a b c d; rw [mk4_len]; decide
  have c3 : ∀ x ∈ mk4 0 0 2 2, 0 ≤ x ∧ x ≤ 255 := mk4_all (by decide) (by decide) (by decide) (by decide) (by decide)
  have c4 : ∀ x ∈ mk4 0 0 2 2, x = 0 ∨ x = 1 ∨ x = 2 := mk4_all (by decide) (by decide) (by decide) (by decide) (by decide)
  have c5 : ∀ x ∈ mk4 0 0 1 0, x = 0 ∨ x = 1 ∨ x = 2 := mk4_all (by decide) (by decide) (by decide) (by decide) (by decide)
  go_enter Try.func13, Try.ntmps13
  go_wp2_with (first
    | (go_at_call 9; refine new_ok hS 4 (by decide) (by decide) ?_; clear hS; intro b w hS; rw [mk4_zero] at hS; unfold Ret)
    | (go_at_call 10; refine shade_eq hS (by decide) l3 2 _ (by decide) (by decide) true (mk4 0 0 1 0) (by decide) (by rfl) ?_; clear hS; intro w hS; unfold Ret)
    | (go_at_call 10; refine shade_eq hS (by decide) l3 2 _ (by decide) (by decide) false (mk4 0 0 1 0) (by decide) (by rfl) ?_; clear hS; intro w hS; unfold Ret)
    | (go_at_call 20; refine counts_eq hS (by decide) (by decide) mk4_len c5 3 1 0 (by decide) (by decide) (by decide) ?_; clear hS; intro w hS; unfold Ret)
    | (go_at_call 20; refine counts_eq hS (by decide) (by decide) mk4_len c4 2 0 2 (by decide) (by decide) (by decide) ?_; clear hS; intro w hS; unfold Ret)
    | (go_at_call 11; refine blacken_eq hS (by decide) l3 2 _ (by decide) (by decide) 0 (mk4 0 0 2 0) (by decide) (by rfl) ?_; clear hS; intro w hS; unfold Ret)
    | (go_at_call 11; refine blacken_eq hS (by decide) l3 2 _ (by decide) (by decide) 8 (mk4 0 0 2 0) (by decide) (by rfl) ?_; clear hS; intro w hS; unfold Ret)
    | (go_at_call 11; refine blacken_eq hS (by decide) l3 1 _ (by decide) (by decide) 8 (mk4 0 0 2 0) (by decide) (by rfl) ?_; clear hS; intro w hS; unfold Ret)
    | (go_at_call 16; refine born_eq hS (by decide) l3 3 _ (by decide) (by decide) 0 (mk4 0 0 2 2) (by decide) (by rfl) ?_; clear hS; intro w hS; unfold Ret)
    | (go_at_call 16; refine born_eq hS (by decide) l3 3 _ (by decide) (by decide) 8 (mk4 0 0 2 2) (by decide) (by rfl) ?_; clear hS; intro w hS; unfold Ret)
    | (go_at_call 12; refine of_eq hS (by decide) l3 c3 2 _ (by decide) (by decide) 2 (by decide) ?_; clear hS; intro w hS; unfold Ret)
    | (go_at_call 12; refine of_range hS (by decide) _ (.inr (by decide)) ?_; clear hS; intro w hS; unfold Ret)
    | (go_at_call 17; refine bleach_eq hS (by decide) l3 2 _ (by decide) (by decide) (mk4 0 0 0 2) (by rfl) ?_; clear hS; intro w hS; unfold Ret))
  exact hR _ hS.weak
end Go.Proofs.Ytpfcjlbgljcooaa
