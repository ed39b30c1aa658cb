/-
  Heaps with what the statements know of them: the model's memory.
-/
import Derived.Test.YtjlihigodggfcaaHmo
import Derived.Test.YtjlihigodggfcaaRgn
set_option linter.unusedSimpArgs false
set_option linter.unusedVariables false
namespace Go.Proofs.Ytjlihigodggfcaa
open Go Go.Mm Go.RowKit

instance mm_map : MapT Try.prog 25 29 44 := ⟨by kernel_rfl⟩
instance mm_s : ScalarT Try.prog 25 := ⟨by kernel_rfl, by kernel_rfl⟩
instance mm_u8 : ScalarT Try.prog 5 := ⟨by kernel_rfl, by kernel_rfl⟩
instance mm_key {s g : Int} : KeyC Try.prog 29 #[.int .i64 s, .int .u32 g] := ⟨fun em w => by
  refine check_of (P := Try.prog) (t := 29) [(3, 0), (27, 1)] (by kernel_rfl) (by kernel_rfl) (fun x hx => ?_) em w
  simp only [List.mem_cons, List.not_mem_nil, or_false] at hx
  rcases hx with rfl | rfl
  · exact ⟨.i64, s, Try.underlying3, s_int, rfl⟩
  · exact ⟨.u32, g, Try.underlying27, s_u32, rfl⟩, by kernel_rfl⟩

def refV (r : Int × Int) : Value := .agg #[.int .i64 r.1, .int .u32 r.2]
def meV (m : Me) : Value × Value := (refV m.1, .slice (some ⟨m.2.1, 0, none⟩) m.2.2.length m.2.2.length)
def meE (m : Me) : Ent := ⟨m.2.1, (m.2.2.flatMap slf).toArray, 29, true⟩
/-- The key that is meant. -/
def keyB (s g : Int) : Value → Bool
  | .agg cs => match cs.toList with
    | [.int .i64 a, .int .u32 b] => refB s g a b
    | _ => false
  | _ => false
theorem keyB_ref {s g : Int} (r : Int × Int) : keyB s g (refV r) = refB s g r.1 r.2 := rfl
theorem meKeys {s g : Int} (ms : List Me) : Keys Try.prog 29 #[.int .i64 s, .int .u32 g] (keyB s g) (ms.map meV) := by
  intro x hx
  obtain ⟨m, _, rfl⟩ := List.mem_map.1 hx
  exact ⟨_, rfl, ref_eq⟩
theorem meRS (m : Me) (h : m.2.2.length ≤ 1000) : RS (meV m).2 m.2.2 [meE m] := RS.lit m.2.2 rfl h
theorem look_me {w : World} {M : Nat} {ms : List Me} (hM : MapAt w M (ms.map meV)) (hk : ms.Pairwise (fun x y => x.1 ≠ y.1)) {j : Nat} {m : Me} (hj : ms[j]? = some m) {s g : Int} (hr : m.1 = (s, g)) (c : Bool) :
    LookIs Try.prog w 25 M #[.int .i64 s, .int .u32 g] c (if c then .tuple #[(meV m).2, .bool true] else (meV m).2) := by
  refine look_yes hM (meKeys ms) (fun x hx hf => ?_) ⟨meV m, List.mem_map.2 ⟨m, List.mem_of_getElem? hj, rfl⟩, ?_⟩ c
  · obtain ⟨y, hy, rfl⟩ := List.mem_map.1 hx
    have h1 : refB s g y.1.1 y.1.2 = true := hf
    have h2 : (s, g) = y.1 := refB_iff.1 h1
    have : y = m := by
      obtain ⟨i, hi, hi2⟩ := List.getElem_of_mem hy
      have hjl := (List.getElem?_eq_some_iff.1 hj).1
      have hj2 := (List.getElem?_eq_some_iff.1 hj).2
      have hks := List.pairwise_iff_getElem.1 hk
      rcases Nat.lt_trichotomy i j with h | h | h
      · exact absurd (by rw [hi2, hj2, ← h2, hr]) (hks i j hi hjl h)
      · subst h; rw [← hi2, hj2]
      · exact absurd (by rw [hi2, hj2, ← h2, hr]) (hks j i hjl hi h)
    rw [this]
  · show refB s g m.1.1 m.1.2 = true
    rw [hr]; exact refB_self s g
theorem look_new {w : World} {M : Nat} {ms : List Me} (hM : MapAt w M (ms.map meV)) {s g : Int} (hk : ∀ m ∈ ms, m.1 ≠ (s, g)) (c : Bool) :
    LookIs Try.prog w 25 M #[.int .i64 s, .int .u32 g] c (if c then .tuple #[.slice none 0 0, .bool false] else .slice none 0 0) := by
  refine look_no hM (meKeys ms) (fun x hx => ?_) (by kernel_rfl) c
  obtain ⟨y, hy, rfl⟩ := List.mem_map.1 hx
  show refB s g y.1.1 y.1.2 = false
  exact refB_no (x := (s, g)) (y := y.1) (fun e => hk y hy e.symm)
theorem put_me {w : World} {M : Nat} {ms : List Me} (hM : MapAt w M (ms.map meV)) {s g : Int} (hk : ∀ m ∈ ms, m.1 ≠ (s, g)) (b : Nat) (l : List (Int × Int)) :
    ∃ es ck, (Instr.mapUpdate 25 (.map (some M)) (.agg #[.int .i64 s, .int .u32 g]) (.slice (some ⟨b, 0, none⟩) l.length l.length)).run Try.prog w = .ok () (w.putCells M (.map es ck)) ∧
      es.toList.map (fun e => (e.key, e.val)) = (ms ++ [((s, g), b, l)]).map meV := by
  obtain ⟨es, ck, h1, h2⟩ := put_new (P := Try.prog) (t := 25) hM (meKeys (s := s) (g := g) ms) (fun x hx => by
    obtain ⟨y, hy, rfl⟩ := List.mem_map.1 hx
    show refB s g y.1.1 y.1.2 = false
    exact refB_no (x := (s, g)) (y := y.1) (fun e => hk y hy e.symm)) (.slice (some ⟨b, 0, none⟩) l.length l.length)
  exact ⟨es, ck, h1, by rw [h2, List.map_append]; rfl⟩

/-- The block of one element, among the others. -/
theorem me_split {ms : List Me} {j : Nat} {m : Me} (hj : ms[j]? = some m) : ms.map meE = (ms.take j).map meE ++ (meE m :: (ms.drop (j + 1)).map meE) := by
  have hjl := (List.getElem?_eq_some_iff.1 hj).1
  have hj2 := (List.getElem?_eq_some_iff.1 hj).2
  conv => lhs; rw [← List.take_append_drop j ms]
  rw [List.drop_eq_getElem_cons hjl, hj2]
  simp
theorem me_set {ms : List Me} {j : Nat} {m : Me} (hj : ms[j]? = some m) (m' : Me) : (ms.set j m').map meE = (ms.take j).map meE ++ (meE m' :: (ms.drop (j + 1)).map meE) := by
  have hjl := (List.getElem?_eq_some_iff.1 hj).1
  rw [List.set_eq_take_append_cons_drop, if_pos hjl]
  simp
theorem me_setV {ms : List Me} {j : Nat} {m m' : Me} (hj : ms[j]? = some m) (h1 : m'.1 = m.1) (h2 : m'.2.1 = m.2.1) (h3 : m'.2.2.length = m.2.2.length) : (ms.set j m').map meV = ms.map meV := by
  have hjl := (List.getElem?_eq_some_iff.1 hj).1
  have hj2 := (List.getElem?_eq_some_iff.1 hj).2
  have e : meV m' = (ms.map meV)[j]'(by simpa using hjl) := by
    rw [List.getElem_map, hj2]
    unfold meV
    rw [h1, h2, h3]
  rw [List.map_set, e, List.set_getElem_self]

end Go.Proofs.Ytjlihigodggfcaa
