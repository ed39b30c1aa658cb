/-
  The colours of slots: a paint of the program and one of the document, of the same colours or both nil, call by call.
-/
import Derived.Test.YtpfcjlbgljcooaaRefB
import Derived.Test.YtpfcjlbgljcooaaBox
namespace Go.Proofs.Ytpfcjlbgljcooaa
open Go.RowKit Go.Mm
variable {R : Ending → World → Prop} {w : World} {w0 : World} {bs : List Nat} {H H' H1 E : List Ent}

section
variable {L LP : List Int}
theorem first_same {p q : Nat → Bool} : ∀ n, (∀ j, j < n → p j = q j) → firstOf p n = firstOf q n
  | 0, _ => rfl
  | n + 1, h => by
    have ih := first_same n (fun j hj => h j (by omega))
    unfold firstOf at *
    rw [List.range_succ, List.find?_append, List.find?_append, ih, List.find?_cons, List.find?_cons, h n (by omega)]
    rfl
theorem cnt_same {c : Int} : ∀ n, n ≤ L.length → n ≤ LP.length → (∀ j, j < n → L.getD j 0 = LP.getD j 0) → cnt c L n = cnt c LP n
  | 0, _, _, _ => by simp [cnt]
  | n + 1, h1, h2, h => by
    rw [cnt_succ c L n (by omega), cnt_succ c LP n (by omega), cnt_same n (by omega) (by omega) (fun j hj => h j (by omega)), h n (by omega)]
end
/-- Colours, none for nil. -/
abbrev Pt := Option (List Int)
structure Good (L : List Int) : Prop where
  lo : 0 < L.length
  hi : L.length ≤ 256
  c : ∀ c ∈ L, c = 0 ∨ c = 1 ∨ c = 2
def PA (p : Option Addr) (P : Pt) (E : List Ent) : Prop :=
  match P with
  | none => p = none ∧ E = []
  | some L => Good L ∧ ∃ b LP, p = some ⟨b, 0, none⟩ ∧ E = [⟨b, paintCells L.length LP, 59, true⟩] ∧ Cols LP ∧ Same L LP L.length
def RA (p : Option Addr) (P : Pt) (E : List Ent) : Prop :=
  match P with
  | none => p = none ∧ E = []
  | some L => Good L ∧ ∃ rb rc cap sp, p = some ⟨rb, 0, none⟩ ∧ E = [⟨rb, #[.slice (some ⟨rc, 0, none⟩) L.length cap], 70, true⟩, ⟨rc, rowC L sp, 3, true⟩]

theorem Same.set {L LP : List Int} {m : Nat} (h : Same L LP m) (hl : LP.length = 256) (hm : m ≤ 256) {i : Nat} (hi : i < m) (c : Int) : Same (L.set i c) (LP.set i c) m := by
  refine ⟨by rw [List.length_set]; exact h.l, fun j hj => ?_⟩
  rw [getD_set _ _ _ _ (by rw [h.l]; exact hi), getD_set _ _ _ _ (by omega), h.eq j hj]
theorem Good.set {L : List Int} (h : Good L) (i : Nat) {c : Int} (hc : c = 0 ∨ c = 1 ∨ c = 2) : Good (L.set i c) :=
  ⟨by rw [List.length_set]; exact h.lo, by rw [List.length_set]; exact h.hi, mem_set_of h.c hc⟩
theorem Good.zero {n : Nat} (h : 0 < n) (h2 : n ≤ 256) : Good (List.replicate n 0) := ⟨by simpa using h, by simpa using h2, fun c hc => .inl (List.mem_replicate.1 hc).2⟩

/-! What the document says -/
def isIn (L : List Int) (s : Int) : Bool := decide (0 ≤ s) && decide (s < L.length)
def ptE : Pt → Int → Int
  | none, _ => 1
  | some L, s => if isIn L s then 0 else 3
def ptOf : Pt → Int → Int
  | none, _ => 0
  | some L, s => if isIn L s then L.getD s.toNat 0 else 0
def ptWas : Pt → Int → Bool
  | none, _ => false
  | some L, s => isIn L s && (L.getD s.toNat 0 == 0)
def ptShade : Pt → Int → Pt
  | none, _ => none
  | some L, s => some (if isIn L s && (L.getD s.toNat 0 == 0) then L.set s.toNat 1 else L)
def ptBlE (f : Int) : Pt → Int → Int
  | none, _ => 1
  | some L, s => if isIn L s then (if L.getD s.toNat 0 == f then 0 else 8) else 3
def ptBl (f : Int) : Pt → Int → Pt
  | none, _ => none
  | some L, s => some (if isIn L s && (L.getD s.toNat 0 == f) then L.set s.toNat 2 else L)
def ptBleach : Pt → Int → Pt
  | none, _ => none
  | some L, s => some (if isIn L s then L.set s.toNat 0 else L)
def ptClear : Pt → Pt
  | none => none
  | some L => some (List.replicate L.length 0)
def ptGreyR : Pt → Int → Option Nat
  | none, _ => none
  | some L, f => firstOf (isGrey L f) L.length
def ptGrey (P : Pt) (f : Int) : Int := ((ptGreyR P f).getD 0 : Nat)
def ptGreyIs (P : Pt) (f : Int) : Bool := (ptGreyR P f).isSome
def ptCnt (c : Int) : Pt → Int
  | none => 0
  | some L => cnt c L L.length
def ptNew (s : Int) : Pt := if isIn (List.replicate 256 0) (s - 1) then some (List.replicate s.toNat 0) else none
def ptNewE (s : Int) : Int := if isIn (List.replicate 256 0) (s - 1) then 0 else 2

theorem in_yes {L : List Int} {s : Int} (h : isIn L s = true) : ∃ i : Nat, s = i ∧ i < L.length ∧ s.toNat = i := by
  simp [isIn] at h
  exact ⟨s.toNat, by omega, by omega, rfl⟩
theorem in_no {L : List Int} {s : Int} (h : isIn L s = false) : s < 0 ∨ (L.length : Int) ≤ s := by
  simp [isIn] at h
  omega

/-! The program's paint -/
theorem p_of {p : Option Addr} {P : Pt} (hO : St w0 bs w H) (hP : PA p P E) [hc : Cut H E H1] (s : Int)
    (hR : ∀ w', PA p P E → St w0 bs w' (E ++ H1) → Ret R (.tuple #[.int .i64 (ptOf P s), .int .i64 (ptE P s)]) w') : Calls Try.prog 12 #[.pointer p, .int .i64 s] w R := by
  have hS := hO.front (E := E) (H1 := H1)
  rcases P with _ | L
  · obtain ⟨rfl, rfl⟩ := hP
    exact of_nil s (fun w' hc => hR w' ⟨rfl, rfl⟩ (hS.nil hc))
  · obtain ⟨hG, b, LP, rfl, rfl, hC, hT⟩ := hP
    simp only [List.cons_append, List.nil_append] at hS
    have hR := fun w' => hR w' ⟨hG, b, LP, rfl, rfl, hC, hT⟩
    have h256 := hG.hi
    by_cases hin : isIn L s = true
    · obtain ⟨i, rfl, hi, _⟩ := in_yes hin
      simp only [ptOf, ptE, hin, if_true, Int.toNat_natCast, hT.eq i hi] at hR
      exact of_ok hS (by omega) (by rw [hC.l]; omega) hC.u8 i (by omega) hR
    · simp only [ptOf, ptE, hin] at hR
      exact of_range hS (by have := hG.lo; omega) s (in_no (by simpa using hin)) hR
theorem p_shade {p : Option Addr} {P : Pt} (hO : St w0 bs w H) (hP : PA p P E) [hc : Cut H E H1] (s : Int)
    (hR : ∀ E' w', PA p (ptShade P s) E' → St w0 bs w' (E' ++ H1) → Ret R (.tuple #[.bool (ptWas P s), .int .i64 (ptE P s)]) w') : Calls Try.prog 10 #[.pointer p, .int .i64 s] w R := by
  have hS := hO.front (E := E) (H1 := H1)
  rcases P with _ | L
  · obtain ⟨rfl, rfl⟩ := hP
    exact shade_nil s (fun w' hc => hR [] w' ⟨rfl, rfl⟩ (hS.nil hc))
  · obtain ⟨hG, b, LP, rfl, rfl, hC, hT⟩ := hP
    simp only [List.cons_append, List.nil_append] at hS
    have h256 := hG.hi
    by_cases hin : isIn L s = true
    · obtain ⟨i, rfl, hi, _⟩ := in_yes hin
      have hi2 : ((i : Int)) < (L.length : Int) := by omega
      have e := hT.eq i hi
      simp only [ptShade, ptWas, ptE, hin, if_true, Int.toNat_natCast, Bool.true_and] at hR
      refine shade_eq hS (by omega) (by rw [hC.l]; omega) i _ rfl hi2 _ _ rfl rfl ?_
      intro w' hS
      unfold shadeL at hS
      by_cases h0 : L.getD i 0 = 0
      · rw [← e, if_pos h0] at hS
        have e1 : (L.getD i 0 == 0) = true := by simpa using h0
        simp only [e1, if_true, Bool.false_eq_true, if_false] at hR
        rw [← e, decide_eq_true h0]
        refine hR _ w' ⟨hG.set i (by simp), b, _, rfl, rfl, hC.set i (c := 1) (by simp), ?_⟩ ?_
        · simpa using hT.set hC.l h256 hi 1
        · simpa using hS
      · rw [← e, if_neg h0] at hS
        have e1 : (L.getD i 0 == 0) = false := by simpa using h0
        simp only [e1, if_true, Bool.false_eq_true, if_false] at hR
        rw [← e, decide_eq_false h0]
        exact hR _ w' ⟨hG, b, _, rfl, rfl, hC, hT⟩ hS
    · simp only [ptShade, ptWas, ptE, hin, Bool.false_and] at hR
      exact shade_range hS (by have := hG.lo; omega) s (in_no (by simpa using hin)) (fun w' hS => hR _ w' ⟨hG, b, _, rfl, rfl, hC, hT⟩ hS)
theorem p_blacken {p : Option Addr} {P : Pt} (hO : St w0 bs w H) (hP : PA p P E) [hc : Cut H E H1] (s : Int)
    (hR : ∀ E' w', PA p (ptBl 1 P s) E' → St w0 bs w' (E' ++ H1) → Ret R (.int .i64 (ptBlE 1 P s)) w') : Calls Try.prog 11 #[.pointer p, .int .i64 s] w R := by
  have hS := hO.front (E := E) (H1 := H1)
  rcases P with _ | L
  · obtain ⟨rfl, rfl⟩ := hP
    go_enter Try.func11, Try.ntmps11
    go_wp2_with (first | (go_at_call 32; refine blacken_nil _ _ ?_; intro w hc; replace hS := hS.nil hc; clear hc; unfold Ret))
    exact hR [] _ ⟨rfl, rfl⟩ hS
  · obtain ⟨hG, b, LP, rfl, rfl, hC, hT⟩ := hP
    simp only [List.cons_append, List.nil_append] at hS
    have h256 := hG.hi
    by_cases hin : isIn L s = true
    · obtain ⟨i, rfl, hi, _⟩ := in_yes hin
      have hi2 : ((i : Int)) < (L.length : Int) := by omega
      have e := hT.eq i hi
      simp only [ptBl, ptBlE, hin, if_true, Int.toNat_natCast, Bool.true_and] at hR
      refine blacken_eq hS (by omega) (by rw [hC.l]; omega) i _ rfl hi2 _ _ rfl rfl ?_
      intro w' hS
      unfold blackL at hS
      unfold blackE
      by_cases h0 : L.getD i 0 = 1
      · rw [← e, if_pos h0] at hS
        have e1 : (L.getD i 0 == 1) = true := by simpa using h0
        simp only [e1, if_true, Bool.false_eq_true, if_false] at hR
        rw [← e, if_pos h0]
        refine hR _ w' ⟨hG.set i (by simp), b, _, rfl, rfl, hC.set i (c := 2) (by simp), ?_⟩ ?_
        · simpa using hT.set hC.l h256 hi 2
        · simpa using hS
      · rw [← e, if_neg h0] at hS
        have e1 : (L.getD i 0 == 1) = false := by simpa using h0
        simp only [e1, if_true, Bool.false_eq_true, if_false] at hR
        rw [← e, if_neg h0]
        exact hR _ w' ⟨hG, b, _, rfl, rfl, hC, hT⟩ hS
    · simp only [ptBl, ptBlE, hin, Bool.false_and] at hR
      have hr := in_no (L := L) (s := s) (by simpa using hin)
      have hlo := hG.lo
      go_enter Try.func11, Try.ntmps11
      go_wp2_with (first | (go_at_call 32; refine blacken_range hS (by omega) _ _ hr ?_; clear hS; intro w hS; unfold Ret))
      exact hR _ _ ⟨hG, b, _, rfl, rfl, hC, hT⟩ hS
theorem p_born {p : Option Addr} {P : Pt} (hO : St w0 bs w H) (hP : PA p P E) [hc : Cut H E H1] (s : Int)
    (hR : ∀ E' w', PA p (ptBl 0 P s) E' → St w0 bs w' (E' ++ H1) → Ret R (.int .i64 (ptBlE 0 P s)) w') : Calls Try.prog 16 #[.pointer p, .int .i64 s] w R := by
  have hS := hO.front (E := E) (H1 := H1)
  rcases P with _ | L
  · obtain ⟨rfl, rfl⟩ := hP
    go_enter Try.func16, Try.ntmps16
    go_wp2_with (first | (go_at_call 32; refine blacken_nil _ _ ?_; intro w hc; replace hS := hS.nil hc; clear hc; unfold Ret))
    exact hR [] _ ⟨rfl, rfl⟩ hS
  · obtain ⟨hG, b, LP, rfl, rfl, hC, hT⟩ := hP
    simp only [List.cons_append, List.nil_append] at hS
    have h256 := hG.hi
    by_cases hin : isIn L s = true
    · obtain ⟨i, rfl, hi, _⟩ := in_yes hin
      have hi2 : ((i : Int)) < (L.length : Int) := by omega
      have e := hT.eq i hi
      simp only [ptBl, ptBlE, hin, if_true, Int.toNat_natCast, Bool.true_and] at hR
      refine born_eq hS (by omega) (by rw [hC.l]; omega) i _ rfl hi2 _ _ rfl rfl ?_
      intro w' hS
      unfold blackL at hS
      unfold blackE
      by_cases h0 : L.getD i 0 = 0
      · rw [← e, if_pos h0] at hS
        have e1 : (L.getD i 0 == 0) = true := by simpa using h0
        simp only [e1, if_true, Bool.false_eq_true, if_false] at hR
        rw [← e, if_pos h0]
        refine hR _ w' ⟨hG.set i (by simp), b, _, rfl, rfl, hC.set i (c := 2) (by simp), ?_⟩ ?_
        · simpa using hT.set hC.l h256 hi 2
        · simpa using hS
      · rw [← e, if_neg h0] at hS
        have e1 : (L.getD i 0 == 0) = false := by simpa using h0
        simp only [e1, if_true, Bool.false_eq_true, if_false] at hR
        rw [← e, if_neg h0]
        exact hR _ w' ⟨hG, b, _, rfl, rfl, hC, hT⟩ hS
    · simp only [ptBl, ptBlE, hin, Bool.false_and] at hR
      have hr := in_no (L := L) (s := s) (by simpa using hin)
      have hlo := hG.lo
      go_enter Try.func16, Try.ntmps16
      go_wp2_with (first | (go_at_call 32; refine blacken_range hS (by omega) _ _ hr ?_; clear hS; intro w hS; unfold Ret))
      exact hR _ _ ⟨hG, b, _, rfl, rfl, hC, hT⟩ hS
theorem p_bleach {p : Option Addr} {P : Pt} (hO : St w0 bs w H) (hP : PA p P E) [hc : Cut H E H1] (s : Int)
    (hR : ∀ E' w', PA p (ptBleach P s) E' → St w0 bs w' (E' ++ H1) → Ret R (.int .i64 (ptE P s)) w') : Calls Try.prog 17 #[.pointer p, .int .i64 s] w R := by
  have hS := hO.front (E := E) (H1 := H1)
  rcases P with _ | L
  · obtain ⟨rfl, rfl⟩ := hP
    exact bleach_nil s (fun w' hc => hR [] w' ⟨rfl, rfl⟩ (hS.nil hc))
  · obtain ⟨hG, b, LP, rfl, rfl, hC, hT⟩ := hP
    simp only [List.cons_append, List.nil_append] at hS
    have h256 := hG.hi
    by_cases hin : isIn L s = true
    · obtain ⟨i, rfl, hi, _⟩ := in_yes hin
      have hi2 : ((i : Int)) < (L.length : Int) := by omega
      simp only [ptBleach, ptE, hin, if_true, Int.toNat_natCast] at hR
      refine bleach_eq hS (by omega) (by rw [hC.l]; omega) i _ rfl hi2 _ rfl ?_
      intro w' hS
      refine hR _ w' ⟨hG.set i (by simp), b, _, rfl, rfl, hC.set i (c := 0) (by simp), ?_⟩ ?_
      · simpa using hT.set hC.l h256 hi 0
      · simpa using hS
    · simp only [ptBleach, ptE, hin] at hR
      exact bleach_range hS (by have := hG.lo; omega) s (in_no (by simpa using hin)) (fun w' hS => hR _ w' ⟨hG, b, _, rfl, rfl, hC, hT⟩ hS)
theorem p_clear {p : Option Addr} {P : Pt} (hO : St w0 bs w H) (hP : PA p P E) [hc : Cut H E H1]
    (hR : ∀ E' w', PA p (ptClear P) E' → St w0 bs w' (E' ++ H1) → Ret R (.tuple #[]) w') : Calls Try.prog 19 #[.pointer p] w R := by
  have hS := hO.front (E := E) (H1 := H1)
  rcases P with _ | L
  · obtain ⟨rfl, rfl⟩ := hP
    exact clear_nil (hR [] w ⟨rfl, rfl⟩ hS)
  · obtain ⟨hG, b, LP, rfl, rfl, hC, hT⟩ := hP
    simp only [List.cons_append, List.nil_append] at hS
    refine clear_ok hS (by have := hG.lo; omega) hC.l ?_
    intro w' hS
    refine hR _ w' ⟨Good.zero hG.lo hG.hi, b, _, rfl, rfl, Cols.zero, ?_⟩ ?_
    · exact ⟨by simp, fun i _ => (repAt _ i).trans (repAt 256 i).symm⟩
    · simpa using hS
theorem p_copy {p : Option Addr} {P : Pt} (hO : St w0 bs w H) (hP : PA p P E) [hc : Cut H E H1]
    (hR : ∀ p' E' w', PA p' P E' → PA p P E → St w0 bs w' (E' ++ (E ++ H1)) → Ret R (.pointer p') w') : Calls Try.prog 18 #[.pointer p] w R := by
  have hS := hO.front (E := E) (H1 := H1)
  rcases P with _ | L
  · obtain ⟨rfl, rfl⟩ := hP
    exact copy_nil (hR none [] w ⟨rfl, rfl⟩ ⟨rfl, rfl⟩ hS)
  · obtain ⟨hG, b, LP, rfl, rfl, hC, hT⟩ := hP
    simp only [List.cons_append, List.nil_append] at hS
    refine copy_ok hS (by have := hG.lo; omega) hC.l ?_
    intro b' w' hS
    exact hR _ _ w' ⟨hG, b', LP, rfl, rfl, hC, hT⟩ ⟨hG, b, LP, rfl, rfl, hC, hT⟩ hS
theorem p_grey {p : Option Addr} {P : Pt} (hO : St w0 bs w H) (hP : PA p P E) [hc : Cut H E H1] (s : Int)
    (hR : ∀ w', PA p P E → St w0 bs w' (E ++ H1) → Ret R (.tuple #[.int .i64 (ptGrey P s), .bool (ptGreyIs P s)]) w') : Calls Try.prog 21 #[.pointer p, .int .i64 s] w R := by
  have hS := hO.front (E := E) (H1 := H1)
  rcases P with _ | L
  · obtain ⟨rfl, rfl⟩ := hP
    exact grey_nil (fun w' hc => hR w' ⟨rfl, rfl⟩ (hS.nil hc))
  · obtain ⟨hG, b, LP, rfl, rfl, hC, hT⟩ := hP
    simp only [List.cons_append, List.nil_append] at hS
    have hR := fun w' => hR w' ⟨hG, b, LP, rfl, rfl, hC, hT⟩
    have e : firstOf (isGrey LP s) L.length = firstOf (isGrey L s) L.length := first_same L.length (fun j hj => by unfold isGrey; rw [hT.eq j hj])
    refine grey_ok hS hG.lo hG.hi hC.l ?_
    rw [e]
    exact hR
theorem p_counts {p : Option Addr} {P : Pt} (hO : St w0 bs w H) (hP : PA p P E) [hc : Cut H E H1]
    (hR : ∀ w', PA p P E → St w0 bs w' (E ++ H1) → Ret R (.tuple #[.int .i64 (ptCnt 0 P), .int .i64 (ptCnt 1 P), .int .i64 (ptCnt 2 P)]) w') : Calls Try.prog 20 #[.pointer p] w R := by
  have hS := hO.front (E := E) (H1 := H1)
  rcases P with _ | L
  · obtain ⟨rfl, rfl⟩ := hP
    exact counts_nil (fun w' hc => hR w' ⟨rfl, rfl⟩ (hS.nil hc))
  · obtain ⟨hG, b, LP, rfl, rfl, hC, hT⟩ := hP
    simp only [List.cons_append, List.nil_append] at hS
    have hR := fun w' => hR w' ⟨hG, b, LP, rfl, rfl, hC, hT⟩
    have e : ∀ c, cnt c L L.length = cnt c LP L.length := fun c => cnt_same L.length (Nat.le_refl _) (by rw [hC.l]; exact hG.hi) hT.eq
    simp only [ptCnt, e] at hR
    exact counts_ok hS hG.lo hG.hi hC.l hC.c hR
theorem p_new (hO : St w0 bs w H) (s : Int) (hR : ∀ p' E' w', PA p' (ptNew s) E' → St w0 bs w' (E' ++ H) →
    Ret R (.tuple #[.pointer p', .int .i64 (ptNewE s)]) w') : Calls Try.prog 9 #[.int .i64 s] w R := by
  by_cases h : 1 ≤ s ∧ s ≤ 256
  · have e : isIn (List.replicate 256 0) (s - 1) = true := by simp only [isIn, List.length_replicate, Bool.and_eq_true, decide_eq_true_eq]; omega
    unfold ptNew ptNewE at hR
    rw [e] at hR
    have hl : ((List.replicate s.toNat (0 : Int)).length : Int) = s := by rw [List.length_replicate]; omega
    refine new_ok hO s h.1 h.2 ?_
    intro b w' hS
    refine hR _ _ w' ⟨Good.zero (by omega) (by omega), b, zerosL, rfl, rfl, Cols.zero, ⟨rfl, fun i _ => (repAt _ i).trans (repAt 256 i).symm⟩⟩ ?_
    rw [hl]; exact hS
  · have e : isIn (List.replicate 256 0) (s - 1) = false := by
      rw [← Bool.not_eq_true]; simp only [isIn, List.length_replicate, Bool.and_eq_true, decide_eq_true_eq]; omega
    unfold ptNew ptNewE at hR
    rw [e] at hR
    exact new_bad s (by omega) (hR none [] w ⟨rfl, rfl⟩ hO)

/-! The document's paint -/
theorem r_of {p : Option Addr} {P : Pt} (hO : St w0 bs w H) (hP : RA p P E) [hc : Cut H E H1] (s : Int)
    (hR : ∀ w', RA p P E → St w0 bs w' (E ++ H1) → Ret R (.tuple #[.int .i64 (ptOf P s), .int .i64 (ptE P s)]) w') : Calls Try.prog 39 #[.pointer p, .int .i64 s] w R := by
  have hS := hO.front (E := E) (H1 := H1)
  rcases P with _ | L
  · obtain ⟨rfl, rfl⟩ := hP
    exact rof_nil s (hR w ⟨rfl, rfl⟩ hS)
  · obtain ⟨hG, rb, rc, cap, sp, rfl, rfl⟩ := hP
    simp only [List.cons_append, List.nil_append] at hS
    have hR := fun w' => hR w' ⟨hG, rb, rc, cap, sp, rfl, rfl⟩
    by_cases hin : isIn L s = true
    · obtain ⟨i, rfl, hi, _⟩ := in_yes hin
      simp only [ptOf, ptE, hin, if_true, Int.toNat_natCast] at hR
      exact rof_ok hS rfl i _ rfl hi _ rfl hR
    · simp only [ptOf, ptE, hin] at hR
      exact rof_range hS hG.lo s (in_no (by simpa using hin)) hR
theorem r_shade {p : Option Addr} {P : Pt} (hO : St w0 bs w H) (hP : RA p P E) [hc : Cut H E H1] (s : Int)
    (hR : ∀ E' w', RA p (ptShade P s) E' → St w0 bs w' (E' ++ H1) → Ret R (.tuple #[.bool (ptWas P s), .int .i64 (ptE P s)]) w') : Calls Try.prog 23 #[.pointer p, .int .i64 s] w R := by
  have hS := hO.front (E := E) (H1 := H1)
  rcases P with _ | L
  · obtain ⟨rfl, rfl⟩ := hP
    exact rshade_nil s (hR [] w ⟨rfl, rfl⟩ hS)
  · obtain ⟨hG, rb, rc, cap, sp, rfl, rfl⟩ := hP
    simp only [List.cons_append, List.nil_append] at hS
    by_cases hin : isIn L s = true
    · obtain ⟨i, rfl, hi, _⟩ := in_yes hin
      simp only [ptShade, ptWas, ptE, hin, if_true, Int.toNat_natCast, Bool.true_and] at hR
      by_cases h0 : L.getD i 0 = 0
      · have e1 : (L.getD i 0 == 0) = true := by simpa using h0
        simp only [e1, if_true, Bool.false_eq_true, if_false] at hR
        exact rshade_yes hS rfl i _ rfl hi h0 (fun w' hS => hR _ w' ⟨hG.set i (by simp), rb, rc, cap, sp, rfl, rfl⟩ (by simpa using hS))
      · have e1 : (L.getD i 0 == 0) = false := by simpa using h0
        simp only [e1, if_true, Bool.false_eq_true, if_false] at hR
        exact rshade_no hS rfl i _ rfl hi _ rfl (by simpa using h0) (fun w' hS => hR _ w' ⟨hG, rb, rc, cap, sp, rfl, rfl⟩ hS)
    · simp only [ptShade, ptWas, ptE, hin, Bool.false_and] at hR
      exact rshade_range hS hG.lo s (in_no (by simpa using hin)) (fun w' hS => hR _ w' ⟨hG, rb, rc, cap, sp, rfl, rfl⟩ hS)
theorem r_blacken {p : Option Addr} {P : Pt} (hO : St w0 bs w H) (hP : RA p P E) [hc : Cut H E H1] (s : Int)
    (hR : ∀ E' w', RA p (ptBl 1 P s) E' → St w0 bs w' (E' ++ H1) → Ret R (.int .i64 (ptBlE 1 P s)) w') : Calls Try.prog 24 #[.pointer p, .int .i64 s] w R := by
  have hS := hO.front (E := E) (H1 := H1)
  rcases P with _ | L
  · obtain ⟨rfl, rfl⟩ := hP
    exact rblacken_nil s (hR [] w ⟨rfl, rfl⟩ hS)
  · obtain ⟨hG, rb, rc, cap, sp, rfl, rfl⟩ := hP
    simp only [List.cons_append, List.nil_append] at hS
    by_cases hin : isIn L s = true
    · obtain ⟨i, rfl, hi, _⟩ := in_yes hin
      simp only [ptBl, ptBlE, hin, if_true, Int.toNat_natCast, Bool.true_and] at hR
      by_cases h0 : L.getD i 0 = 1
      · have e1 : (L.getD i 0 == 1) = true := by simpa using h0
        simp only [e1, if_true, Bool.false_eq_true, if_false] at hR
        exact rblacken_yes hS rfl i _ rfl hi h0 (fun w' hS => hR _ w' ⟨hG.set i (by simp), rb, rc, cap, sp, rfl, rfl⟩ (by simpa using hS))
      · have e1 : (L.getD i 0 == 1) = false := by simpa using h0
        simp only [e1, if_true, Bool.false_eq_true, if_false] at hR
        exact rblacken_no hS rfl i _ rfl hi _ rfl (by simpa using h0) (fun w' hS => hR _ w' ⟨hG, rb, rc, cap, sp, rfl, rfl⟩ hS)
    · simp only [ptBl, ptBlE, hin, Bool.false_and] at hR
      exact rblacken_range hS hG.lo s (in_no (by simpa using hin)) (fun w' hS => hR _ w' ⟨hG, rb, rc, cap, sp, rfl, rfl⟩ hS)
theorem r_born {p : Option Addr} {P : Pt} (hO : St w0 bs w H) (hP : RA p P E) [hc : Cut H E H1] (s : Int)
    (hR : ∀ E' w', RA p (ptBl 0 P s) E' → St w0 bs w' (E' ++ H1) → Ret R (.int .i64 (ptBlE 0 P s)) w') : Calls Try.prog 25 #[.pointer p, .int .i64 s] w R := by
  have hS := hO.front (E := E) (H1 := H1)
  rcases P with _ | L
  · obtain ⟨rfl, rfl⟩ := hP
    exact rborn_nil s (hR [] w ⟨rfl, rfl⟩ hS)
  · obtain ⟨hG, rb, rc, cap, sp, rfl, rfl⟩ := hP
    simp only [List.cons_append, List.nil_append] at hS
    by_cases hin : isIn L s = true
    · obtain ⟨i, rfl, hi, _⟩ := in_yes hin
      simp only [ptBl, ptBlE, hin, if_true, Int.toNat_natCast, Bool.true_and] at hR
      by_cases h0 : L.getD i 0 = 0
      · have e1 : (L.getD i 0 == 0) = true := by simpa using h0
        simp only [e1, if_true, Bool.false_eq_true, if_false] at hR
        exact rborn_yes hS rfl i _ rfl hi h0 (fun w' hS => hR _ w' ⟨hG.set i (by simp), rb, rc, cap, sp, rfl, rfl⟩ (by simpa using hS))
      · have e1 : (L.getD i 0 == 0) = false := by simpa using h0
        simp only [e1, if_true, Bool.false_eq_true, if_false] at hR
        exact rborn_no hS rfl i _ rfl hi _ rfl (by simpa using h0) (fun w' hS => hR _ w' ⟨hG, rb, rc, cap, sp, rfl, rfl⟩ hS)
    · simp only [ptBl, ptBlE, hin, Bool.false_and] at hR
      exact rborn_range hS hG.lo s (in_no (by simpa using hin)) (fun w' hS => hR _ w' ⟨hG, rb, rc, cap, sp, rfl, rfl⟩ hS)
theorem r_bleach {p : Option Addr} {P : Pt} (hO : St w0 bs w H) (hP : RA p P E) [hc : Cut H E H1] (s : Int)
    (hR : ∀ E' w', RA p (ptBleach P s) E' → St w0 bs w' (E' ++ H1) → Ret R (.int .i64 (ptE P s)) w') : Calls Try.prog 26 #[.pointer p, .int .i64 s] w R := by
  have hS := hO.front (E := E) (H1 := H1)
  rcases P with _ | L
  · obtain ⟨rfl, rfl⟩ := hP
    exact rbleach_nil s (hR [] w ⟨rfl, rfl⟩ hS)
  · obtain ⟨hG, rb, rc, cap, sp, rfl, rfl⟩ := hP
    simp only [List.cons_append, List.nil_append] at hS
    by_cases hin : isIn L s = true
    · obtain ⟨i, rfl, hi, _⟩ := in_yes hin
      simp only [ptBleach, ptE, hin, if_true, Int.toNat_natCast] at hR
      exact rbleach_ok hS rfl i _ rfl hi (fun w' hS => hR _ w' ⟨hG.set i (by simp), rb, rc, cap, sp, rfl, rfl⟩ (by simpa using hS))
    · simp only [ptBleach, ptE, hin] at hR
      exact rbleach_range hS hG.lo s (in_no (by simpa using hin)) (fun w' hS => hR _ w' ⟨hG, rb, rc, cap, sp, rfl, rfl⟩ hS)
theorem r_clear {p : Option Addr} {P : Pt} (hO : St w0 bs w H) (hP : RA p P E) [hc : Cut H E H1]
    (hR : ∀ E' w', RA p (ptClear P) E' → St w0 bs w' (E' ++ H1) → Ret R (.tuple #[]) w') : Calls Try.prog 27 #[.pointer p] w R := by
  have hS := hO.front (E := E) (H1 := H1)
  rcases P with _ | L
  · obtain ⟨rfl, rfl⟩ := hP
    exact rclear_nil (hR [] w ⟨rfl, rfl⟩ hS)
  · obtain ⟨hG, rb, rc, cap, sp, rfl, rfl⟩ := hP
    simp only [List.cons_append, List.nil_append] at hS
    refine rclear_ok hS hG.lo hG.hi (fun c => ⟨rb, #[.slice (some ⟨c, 0, none⟩) L.length L.length], 70, true⟩ :: ⟨rc, rowC L sp, 3, true⟩ :: H1) ?_
    intro c w' hS
    refine hR _ w' ⟨Good.zero hG.lo hG.hi, rb, c, L.length, [], rfl, rfl⟩ ?_
    rw [List.length_replicate]
    simp only [List.cons_append, List.nil_append]
    exact hS.pick
theorem r_copy {p : Option Addr} {P : Pt} (hO : St w0 bs w H) (hP : RA p P E) [hc : Cut H E H1]
    (hR : ∀ p' E' w', RA p' P E' → RA p P E → St w0 bs w' (E' ++ (E ++ H1)) → Ret R (.pointer p') w') : Calls Try.prog 28 #[.pointer p] w R := by
  have hS := hO.front (E := E) (H1 := H1)
  rcases P with _ | L
  · obtain ⟨rfl, rfl⟩ := hP
    exact rcopy_nil (hR none [] w ⟨rfl, rfl⟩ ⟨rfl, rfl⟩ hS)
  · obtain ⟨hG, rb, rc, cap, sp, rfl, rfl⟩ := hP
    simp only [List.cons_append, List.nil_append] at hS
    refine rcopy_ok hS rfl hG.lo hG.hi ?_
    intro rb' rc' cap' sp' w' hS
    exact hR _ _ w' ⟨hG, rb', rc', cap', sp', rfl, rfl⟩ ⟨hG, rb, rc, cap, sp, rfl, rfl⟩ hS
theorem r_grey {p : Option Addr} {P : Pt} (hO : St w0 bs w H) (hP : RA p P E) [hc : Cut H E H1] (s : Int)
    (hR : ∀ w', RA p P E → St w0 bs w' (E ++ H1) → Ret R (.tuple #[.int .i64 (ptGrey P s), .bool (ptGreyIs P s)]) w') : Calls Try.prog 40 #[.pointer p, .int .i64 s] w R := by
  have hS := hO.front (E := E) (H1 := H1)
  rcases P with _ | L
  · obtain ⟨rfl, rfl⟩ := hP
    exact rgrey_nil s (hR w ⟨rfl, rfl⟩ hS)
  · obtain ⟨hG, rb, rc, cap, sp, rfl, rfl⟩ := hP
    simp only [List.cons_append, List.nil_append] at hS
    exact rgrey_ok hS rfl hG.lo hG.hi (fun w' => hR w' ⟨hG, rb, rc, cap, sp, rfl, rfl⟩)
theorem r_counts {p : Option Addr} {P : Pt} (hO : St w0 bs w H) (hP : RA p P E) [hc : Cut H E H1]
    (hR : ∀ w', RA p P E → St w0 bs w' (E ++ H1) → Ret R (.tuple #[.int .i64 (ptCnt 0 P), .int .i64 (ptCnt 1 P), .int .i64 (ptCnt 2 P)]) w') : Calls Try.prog 41 #[.pointer p] w R := by
  have hS := hO.front (E := E) (H1 := H1)
  rcases P with _ | L
  · obtain ⟨rfl, rfl⟩ := hP
    exact rcounts_nil (fun w' hc => hR w' ⟨rfl, rfl⟩ (hS.nil hc))
  · obtain ⟨hG, rb, rc, cap, sp, rfl, rfl⟩ := hP
    simp only [List.cons_append, List.nil_append] at hS
    exact rcounts_ok hS rfl hG.lo hG.hi hG.c (fun w' => hR w' ⟨hG, rb, rc, cap, sp, rfl, rfl⟩)
theorem r_new (hO : St w0 bs w H) (s : Int) (hR : ∀ p' E' w', RA p' (ptNew s) E' → St w0 bs w' (E' ++ H) →
    Ret R (.tuple #[.pointer p', .int .i64 (ptNewE s)]) w') : Calls Try.prog 22 #[.int .i64 s] w R := by
  by_cases h : 1 ≤ s ∧ s ≤ 256
  · have e : isIn (List.replicate 256 0) (s - 1) = true := by simp only [isIn, List.length_replicate, Bool.and_eq_true, decide_eq_true_eq]; omega
    unfold ptNew ptNewE at hR
    rw [e] at hR
    refine rnew_ok hO (m := s.toNat) (by omega) (by omega) s (by omega) ?_
    intro rb rc w' hS
    refine hR _ _ w' ⟨Good.zero (by omega) (by omega), rb, rc, s.toNat, [], rfl, rfl⟩ ?_
    rw [List.length_replicate]; exact hS
  · have e : isIn (List.replicate 256 0) (s - 1) = false := by
      rw [← Bool.not_eq_true]; simp only [isIn, List.length_replicate, Bool.and_eq_true, decide_eq_true_eq]; omega
    unfold ptNew ptNewE at hR
    rw [e] at hR
    exact rnew_bad s (by omega) (hR none [] w ⟨rfl, rfl⟩ hO)

theorem PA.nil {p : Option Addr} {P : Pt} (h : PA p P E) : p.isNone = P.isNone := by
  cases P with
  | none => obtain ⟨rfl, _⟩ := h; rfl
  | some L => obtain ⟨_, b, LP, rfl, _⟩ := h; rfl
theorem RA.nil {p : Option Addr} {P : Pt} (h : RA p P E) : p.isNone = P.isNone := by
  cases P with
  | none => obtain ⟨rfl, _⟩ := h; rfl
  | some L => obtain ⟨_, b, LP, cap, sp, rfl, _⟩ := h; rfl
theorem PA.none : PA none none [] := ⟨rfl, rfl⟩
theorem RA.none : RA none none [] := ⟨rfl, rfl⟩

/-- Both show the same. -/
theorem shows_duo {p r : Option Addr} {P : Pt} {E2 H2 : List Ent} (hO : St w0 bs w H) (hP : PA p P E) [hc : Cut H E H1] (hQ : RA r P E2) [hc2 : Cut H1 E2 H2] (s : Int)
    (hR : ∀ w', PA p P E → RA r P E2 → St w0 bs w' (E ++ (E2 ++ H2)) → Ret R (.bool true) w') : Calls Try.prog 29 #[.pointer p, .pointer r, .int .i64 s] w R := by
  have hS0 := hO.front (E := E) (H1 := H1)
  have hS1 := hS0.front (E := E2) (H1 := E ++ H2)
  have hS := hS1.front (E := E) (H1 := E2 ++ H2)
  clear hS0 hS1 hO
  go_enter Try.func29, Try.ntmps29
  go_wp2_with (first | (go_at_call 12; refine p_of hS hP _ ?_; clear hS hP; intro w hP hS; unfold Ret) | (go_at_call 39; refine r_of hS hQ _ ?_; clear hS hQ; intro w hQ hS; unfold Ret) | (go_at_call 21; refine p_grey hS hP _ ?_; clear hS hP; intro w hP hS; unfold Ret) | (go_at_call 40; refine r_grey hS hQ _ ?_; clear hS hQ; intro w hQ hS; unfold Ret) | (go_at_call 20; refine p_counts hS hP ?_; clear hS hP; intro w hP hS; unfold Ret) | (go_at_call 41; refine r_counts hS hQ ?_; clear hS hQ; intro w hQ hS; unfold Ret))
  exact hR _ hP hQ hS.front
end Go.Proofs.Ytpfcjlbgljcooaa
