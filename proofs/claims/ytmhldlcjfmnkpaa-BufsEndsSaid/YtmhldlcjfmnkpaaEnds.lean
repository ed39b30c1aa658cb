/-
  Pools of buffers: generations that come to their end (the plain law).
-/
import Derived.Test.YtmhldlcjfmnkpaaBufsG
set_option linter.unusedSimpArgs false
set_option linter.unusedVariables false
namespace Go.Proofs.Ytmhldlcjfmnkpaa
open Go.RowKit Go.Mm

/-- Below id all are retired; then x; then those that were never pinned. -/
def enL (n id : Nat) (f : Int) (x : Bf) : List Bf := List.replicate id (2, 4294967295, 0) ++ x :: List.replicate (n - id - 1) (0, f, 0)
def ouL (n id : Nat) (f : Int) : List Bf := List.replicate id (2, 4294967295, 0) ++ List.replicate (n - id) (0, f, 0)
variable {n id : Nat} {f : Int} {x y : Bf}
theorem enL_len (h : id < n) : (enL n id f x).length = n := by simp [enL]; omega
theorem ouL_en (h : id < n) : ouL n id f = enL n id f (0, f, 0) := by
  unfold ouL enL
  rw [show n - id = (n - id - 1) + 1 by omega, List.replicate_succ]
  rfl
theorem enL_ou (h : id < n) : enL n id f (2, 4294967295, 0) = ouL n (id + 1) f := by
  unfold ouL enL
  rw [List.replicate_succ', List.append_assoc, show n - (id + 1) = n - id - 1 by omega]
  rfl
theorem enL_at : (enL n id f x).getD id (0, 0, 0) = x := by
  simp [enL, List.getD_eq_getElem?_getD]
theorem enL_lo {j : Nat} (h : j < id) : (enL n id f x).getD j (0, 0, 0) = (2, 4294967295, 0) := by
  simp [enL, List.getD_eq_getElem?_getD, List.getElem?_append, h]
theorem enL_set : (enL n id f x).set id y = enL n id f y := by
  simp [enL, List.set_append]
theorem sum_rep0 (m : Nat) : (List.replicate m (0 : Int)).sum = 0 := by
  induction m with
  | zero => rfl
  | succ m ih => rw [List.replicate_succ, List.sum_cons, ih]; rfl
theorem enL_us : usL (enL n id f x) = x.2.2 := by
  unfold usL enL
  simp [sum_rep0]
theorem ouL_us : usL (ouL n id f) = 0 := by
  unfold usL ouL
  simp [sum_rep0]
theorem enL_tk (h : id < n) {g : Int} : tkI (some (tbB (enL n id f (0, g, 0)))) = some id := by
  show firstOf _ _ = _
  rw [tbB_len, enL_len h]
  unfold firstOf
  rw [List.find?_range_eq_some]
  refine ⟨?_, List.mem_range.2 h, fun j hj => ?_⟩
  · rw [isSt, tbB_get, enL_at]; rfl
  · rw [isSt, tbB_get, enL_lo hj]; rfl
theorem ouL_tk : tkI (some (tbB (ouL n n f))) = none := by
  show firstOf _ _ = _
  unfold firstOf
  rw [List.find?_eq_none]
  intro j hj
  rw [tbB_len] at hj
  simp only [ouL, Nat.sub_self, List.replicate_zero, List.append_nil, List.length_replicate, List.mem_range] at hj
  rw [isSt, tbB_get]
  simp [ouL, List.getD_eq_getElem?_getD, hj]
theorem en_piI (h : id < n) {g : Int} : piI 100 (enL n id f (0, g, 0)) 1 = some id := by
  unfold piI
  rw [enL_us, if_pos (by simp), enL_tk h]
theorem en_piT (h : id < n) {g : Int} : piT (some (some (100, enL n id f (0, g, 0)))) 1 = some (some (100, enL n id f (1, g, 1))) := by
  simp only [piT, en_piI h, piN, enL_at, enL_set]
theorem en_piE (h : id < n) {g : Int} : piE (some (some (100, enL n id f (0, g, 0)))) 1 = 0 := by
  simp only [piE, en_piI h]; rfl
theorem en_piR (h : id < n) {g : Int} : piR (some (some (100, enL n id f (0, g, 0)))) 1 = (2, (id : Int), g) := by
  simp only [piR, en_piI h, enL_at]
theorem ou_piI : piI 100 (ouL n n f) 1 = none := by
  unfold piI
  rw [ouL_us, if_pos (by decide), ouL_tk]
theorem ou_piT : piT (some (some (100, ouL n n f))) 1 = some (some (100, ouL n n f)) := by simp only [piT, ou_piI]
theorem ou_piE : piE (some (some (100, ouL n n f))) 1 = 4 := by simp only [piE, ou_piI]; rfl
theorem ou_piR : piR (some (some (100, ouL n n f))) 1 = (0, 0, 0) := by simp only [piR, ou_piI]
theorem en_fd (h : id < n) {g : Int} : fdE (some (some (100, enL n id f (1, g, 1)))) 2 id g = 0 := by
  have h1 : inTb (tbB (enL n id f (1, g, 1))) id = true := by simp [inTb, tbB_len, enL_len h]; exact h
  have h2 : ckE (some (tbB (enL n id f (1, g, 1)))) id g = 0 := by
    rw [ck_at (by rw [tbB_len, enL_len h]; exact h), tbB_get, enL_at, if_pos rfl]
  simp only [fdE, if_true, h1, h2]
theorem en_upT (h : id < n) {g : Int} : upT (some (some (100, enL n id f (1, g, 1)))) 2 id g = some (some (100, enL n id f (if g < 4294967295 then (0, g + 1, 0) else (2, g, 0)))) := by
  simp only [upT]
  rw [if_pos (en_fd h), Int.toNat_natCast]
  simp only [upN, enL_set]
end Go.Proofs.Ytmhldlcjfmnkpaa
