/-
  The colours of slots: the document's paints.
-/
import Derived.Test.YtgpjanfphgjbbaaGreatKGreyN
import Derived.Test.YtgpjanfphgjbbaaGreatKColB
import Derived.Test.YtgpjanfphgjbbaaGreatBas
import Derived.Test.YtgpjanfphgjbbaaGreatSta
set_option linter.unusedSimpArgs false
set_option linter.unusedVariables false
namespace Go.Proofs.YtgpjanfphgjbbaaGreat.Col
open Go.RowKit Go.Mm
variable {R : Ending → World → Prop} {w : World} {rb rc m cap : Nat} {L : List Int} {sp : List Value} {w0 : World} {bs : List Nat} {H H' H1 : List Ent}

instance s_sl : ScalarT Tryz.prog 69 := ⟨by kernel_rfl, by kernel_rfl⟩
instance k_sli : SliceT Tryz.prog 69 3 := ⟨by kernel_rfl⟩
instance k_eli : ElemT Tryz.prog 3 1 8 #[.int .i64 0] := ⟨by kernel_rfl⟩
instance s_rp : ScalarT Tryz.prog 38 := ⟨by kernel_rfl, by kernel_rfl⟩
instance b_ref {a : Option Addr} {n c : Nat} : BuildT Tryz.prog 99 [(0, .slice a n c)] #[.slice a n c] := ⟨fun w => by kernel_rfl⟩

/-- A row of integers, and what else its block has room for. -/
def rowC (L : List Int) (sp : List Value) : Array Value := (L.map (Value.int .i64) ++ sp).toArray
theorem rowAt {i : Nat} (h : i < L.length) : CellAt (rowC L sp) i (.int .i64 (L.getD i 0)) := ⟨by simp [rowC, h, List.getElem?_append_left]⟩
theorem rowSet {i : Nat} (c : Int) (h : i < L.length) : SetAt (rowC L sp) i (.int .i64 c) (rowC (L.set i c) sp) := ⟨by simp [rowC, h, List.set_append_left], by simp [rowC]; omega⟩
theorem rowAll (h : L.length = m) : CellsAt (rowC L sp) 0 m (intsK .i64 L) := ⟨fun j hj => by simp [rowC, intsK, List.getElem?_append_left, h, hj], by simp [intsK, h]⟩
theorem rowInts : intsK .i64 L = rowC L [] := by simp [intsK, rowC]
theorem rowNews : ((intsK .i64 L).toList ++ sp).toArray = rowC L sp := by simp [intsK, rowC]
theorem intsOnes : OneCells (intsK .i64 L) := ⟨by intro v hv; simp [intsK] at hv; obtain ⟨_, _, rfl⟩ := hv; rfl⟩

abbrev RefAt (w : World) (rb rc m cap : Nat) : Prop := w.heap[rb]? = some (.cells #[.slice (some ⟨rc, 0, none⟩) m cap] 99 (0, 0))

theorem rcheck_nil (s : Int) (hR : Ret R (.int .i64 1) w) : Calls Tryz.prog 75 #[.pointer none, .int .i64 s] w R := by
  go_enter Tryz.func75, Tryz.ntmps75
  go_wp2
  exact hR
theorem rcheck_range (hP : RefAt w rb rc m cap) (hm : 0 < m) (s : Int) (hs : s < 0 ∨ (m : Int) ≤ s) (hR : Ret R (.int .i64 3) w) : Calls Tryz.prog 75 #[.pointer (some ⟨rb, 0, none⟩), .int .i64 s] w R := by
  have hS : St w [] w [⟨rb, _, _, false⟩] := St.start1 hP (by simp)
  have q0 : ((m : Int) == 0) = false := by simp; omega
  by_cases h0 : s < 0
  · have q1 : decide (s < 0) = true := by simpa using h0
    go_enter Tryz.func75, Tryz.ntmps75
    go_wp2_with ((refine wpList_is (.load _ _) rfl ?_; go_must ((refine wpList_stp (by kernel_rfl) (stp_val (run_ld _ _ rfl hS) ?_)))))
    exact hR
  · have q1 : decide (s < 0) = false := by simpa using h0
    have q2 : decide ((m : Int) ≤ s) = true := by simp; omega
    go_enter Tryz.func75, Tryz.ntmps75
    go_wp2_with ((refine wpList_is (.load _ _) rfl ?_; go_must ((refine wpList_stp (by kernel_rfl) (stp_val (run_ld _ _ rfl hS) ?_)))))
    exact hR
theorem rcheck_ok (hP : RefAt w rb rc m cap) (s : Int) (h0 : 0 ≤ s) (h1 : s < m) (hR : Ret R (.int .i64 0) w) : Calls Tryz.prog 75 #[.pointer (some ⟨rb, 0, none⟩), .int .i64 s] w R := by
  have hS : St w [] w [⟨rb, _, _, false⟩] := St.start1 hP (by simp)
  have q0 : ((m : Int) == 0) = false := by simp; omega
  have q1 : decide (s < 0) = false := by simp; omega
  have q2 : decide ((m : Int) ≤ s) = false := by simp; omega
  go_enter Tryz.func75, Tryz.ntmps75
  go_wp2_with ((refine wpList_is (.load _ _) rfl ?_; go_must ((refine wpList_stp (by kernel_rfl) (stp_val (run_ld _ _ rfl hS) ?_)))))
  exact hR


theorem rof_nil (s : Int) (hR : Ret R (.tuple #[.int .i64 0, .int .i64 1]) w) : Calls Tryz.prog 65 #[.pointer none, .int .i64 s] w R := by
  go_enter Tryz.func65, Tryz.ntmps65
  go_wp2_with ((go_at_call 75; refine rcheck_nil _ ?_; unfold Ret))
  exact hR
theorem rof_range (hO : St w0 bs w H) [hH : Has H rb #[.slice (some ⟨rc, 0, none⟩) m cap] 99] (hm : 0 < m) (s : Int) (hs : s < 0 ∨ (m : Int) ≤ s)
    (hR : ∀ w', St w0 bs w' H → Ret R (.tuple #[.int .i64 0, .int .i64 3]) w') : Calls Tryz.prog 65 #[.pointer (some ⟨rb, 0, none⟩), .int .i64 s] w R := by
  have hS := hO
  go_enter Tryz.func65, Tryz.ntmps65
  go_wp2_with ((go_at_call 75; refine rcheck_range (hS.has inferInstance) hm _ hs ?_; unfold Ret))
  exact hR _ hS
theorem rof_ok (hO : St w0 bs w H) [hH : Has H rb #[.slice (some ⟨rc, 0, none⟩) m cap] 99] [hC : Has H rc (rowC L sp) 3] (hl : L.length = m) (i : Nat) (j : Int) (hj : j = i) (hi : i < m) (c : Int) (h0 : L.getD i 0 = c)
    (hR : ∀ w', St w0 bs w' H → Ret R (.tuple #[.int .i64 c, .int .i64 0]) w') : Calls Tryz.prog 65 #[.pointer (some ⟨rb, 0, none⟩), .int .i64 j] w R := by
  subst hj
  have hS := hO
  have g := rowAt (sp := sp) (show i < L.length by omega)
  rw [h0] at g
  go_enter Tryz.func65, Tryz.ntmps65
  go_wp2_with (first | (go_at_call 75; refine rcheck_ok (hS.has inferInstance) _ (by omega) (by omega) ?_; unfold Ret) | (refine wpList_is (.load _ _) rfl ?_; go_must ((refine wpList_stp (by kernel_rfl) (stp_val (run_ld _ _ rfl hS) ?_)))))
  exact hR _ hS

theorem rshade_nil (s : Int) (hR : Ret R (.tuple #[.bool false, .int .i64 1]) w) : Calls Tryz.prog 56 #[.pointer none, .int .i64 s] w R := by
  go_enter Tryz.func56, Tryz.ntmps56
  go_wp2_with ((go_at_call 75; refine rcheck_nil _ ?_; unfold Ret))
  exact hR
theorem rshade_range (hO : St w0 bs w H) [hH : Has H rb #[.slice (some ⟨rc, 0, none⟩) m cap] 99] (hm : 0 < m) (s : Int) (hs : s < 0 ∨ (m : Int) ≤ s)
    (hR : ∀ w', St w0 bs w' H → Ret R (.tuple #[.bool false, .int .i64 3]) w') : Calls Tryz.prog 56 #[.pointer (some ⟨rb, 0, none⟩), .int .i64 s] w R := by
  have hS := hO
  go_enter Tryz.func56, Tryz.ntmps56
  go_wp2_with ((go_at_call 75; refine rcheck_range (hS.has inferInstance) hm _ hs ?_; unfold Ret))
  exact hR _ hS
theorem rshade_yes (hO : St w0 bs w H) [hH : Has H rb #[.slice (some ⟨rc, 0, none⟩) m cap] 99] [hC : Has H rc (rowC L sp) 3] (hl : L.length = m) (i : Nat) (j : Int) (hj : j = i) (hi : i < m) (h0 : L.getD i 0 = 0)
    [hu : Upd H rc (rowC (L.set i 1) sp) 3 H'] (hR : ∀ w', St w0 bs w' H' → Ret R (.tuple #[.bool true, .int .i64 0]) w') : Calls Tryz.prog 56 #[.pointer (some ⟨rb, 0, none⟩), .int .i64 j] w R := by
  subst hj
  have hS := hO
  have g := rowAt (sp := sp) (show i < L.length by omega)
  have g' := rowSet (sp := sp) 1 (show i < L.length by omega)
  rw [h0] at g
  go_enter Tryz.func56, Tryz.ntmps56
  go_wp2_with (first | (go_at_call 75; refine rcheck_ok (hS.has inferInstance) _ (by omega) (by omega) ?_; unfold Ret) | (refine wpList_is (.load _ _) rfl ?_; go_must ((refine wpList_stp (by kernel_rfl) (stp_val (run_ld _ _ rfl hS) ?_)))) | (refine wpList_is (.store _ _ _) rfl ?_; go_must ((refine wpList_stp (by kernel_rfl) (stp_st _ _ _ rfl hS ?_))); clear hS; intro w hS))
  exact hR _ hS
theorem rshade_no (hO : St w0 bs w H) [hH : Has H rb #[.slice (some ⟨rc, 0, none⟩) m cap] 99] [hC : Has H rc (rowC L sp) 3] (hl : L.length = m) (i : Nat) (j : Int) (hj : j = i) (hi : i < m) (c : Int) (h0 : L.getD i 0 = c) (hc : (c != 0) = true)
    (hR : ∀ w', St w0 bs w' H → Ret R (.tuple #[.bool false, .int .i64 0]) w') : Calls Tryz.prog 56 #[.pointer (some ⟨rb, 0, none⟩), .int .i64 j] w R := by
  subst hj
  have hS := hO
  have g := rowAt (sp := sp) (show i < L.length by omega)
  rw [h0] at g
  go_enter Tryz.func56, Tryz.ntmps56
  go_wp2_with (first | (go_at_call 75; refine rcheck_ok (hS.has inferInstance) _ (by omega) (by omega) ?_; unfold Ret) | (refine wpList_is (.load _ _) rfl ?_; go_must ((refine wpList_stp (by kernel_rfl) (stp_val (run_ld _ _ rfl hS) ?_)))))
  exact hR _ hS

theorem rblacken1_nil (s k : Int) (hR : Ret R (.int .i64 1) w) : Calls Tryz.prog 103 #[.pointer none, .int .i64 s, .int .i64 k] w R := by
  go_enter Tryz.func103, Tryz.ntmps103
  go_wp2_with ((go_at_call 75; refine rcheck_nil _ ?_; unfold Ret))
  exact hR
theorem rblacken1_range (hO : St w0 bs w H) [hH : Has H rb #[.slice (some ⟨rc, 0, none⟩) m cap] 99] (hm : 0 < m) (s k : Int) (hs : s < 0 ∨ (m : Int) ≤ s)
    (hR : ∀ w', St w0 bs w' H → Ret R (.int .i64 3) w') : Calls Tryz.prog 103 #[.pointer (some ⟨rb, 0, none⟩), .int .i64 s, .int .i64 k] w R := by
  have hS := hO
  go_enter Tryz.func103, Tryz.ntmps103
  go_wp2_with ((go_at_call 75; refine rcheck_range (hS.has inferInstance) hm _ hs ?_; unfold Ret))
  exact hR _ hS
theorem rblacken1_yes (hO : St w0 bs w H) [hH : Has H rb #[.slice (some ⟨rc, 0, none⟩) m cap] 99] [hC : Has H rc (rowC L sp) 3] (hl : L.length = m) (i : Nat) (k : Int) (hi : i < m) (h0 : L.getD i 0 = k)
    [hu : Upd H rc (rowC (L.set i 2) sp) 3 H'] (hR : ∀ w', St w0 bs w' H' → Ret R (.int .i64 0) w') : Calls Tryz.prog 103 #[.pointer (some ⟨rb, 0, none⟩), .int .i64 i, .int .i64 k] w R := by
  have hS := hO
  have g := rowAt (sp := sp) (show i < L.length by omega)
  have g' := rowSet (sp := sp) 2 (show i < L.length by omega)
  rw [h0] at g
  go_enter Tryz.func103, Tryz.ntmps103
  go_wp2_with (first | (go_at_call 75; refine rcheck_ok (hS.has inferInstance) _ (by omega) (by omega) ?_; unfold Ret) | (refine wpList_is (.load _ _) rfl ?_; go_must ((refine wpList_stp (by kernel_rfl) (stp_val (run_ld _ _ rfl hS) ?_)))) | (refine wpList_is (.store _ _ _) rfl ?_; go_must ((refine wpList_stp (by kernel_rfl) (stp_st _ _ _ rfl hS ?_))); clear hS; intro w hS))
  exact hR _ hS
theorem rblacken1_no (hO : St w0 bs w H) [hH : Has H rb #[.slice (some ⟨rc, 0, none⟩) m cap] 99] [hC : Has H rc (rowC L sp) 3] (hl : L.length = m) (i : Nat) (k : Int) (hi : i < m) (c : Int) (h0 : L.getD i 0 = c) (hc : (c != k) = true)
    (hR : ∀ w', St w0 bs w' H → Ret R (.int .i64 8) w') : Calls Tryz.prog 103 #[.pointer (some ⟨rb, 0, none⟩), .int .i64 i, .int .i64 k] w R := by
  have hS := hO
  have g := rowAt (sp := sp) (show i < L.length by omega)
  rw [h0] at g
  go_enter Tryz.func103, Tryz.ntmps103
  go_wp2_with (first | (go_at_call 75; refine rcheck_ok (hS.has inferInstance) _ (by omega) (by omega) ?_; unfold Ret) | (refine wpList_is (.load _ _) rfl ?_; go_must ((refine wpList_stp (by kernel_rfl) (stp_val (run_ld _ _ rfl hS) ?_)))))
  exact hR _ hS
theorem rblacken_nil (s : Int) (hR : Ret R (.int .i64 1) w) : Calls Tryz.prog 66 #[.pointer none, .int .i64 s] w R := by
  go_enter Tryz.func66, Tryz.ntmps66
  go_wp2_with ((go_at_call 103; refine rblacken1_nil _ _ ?_; unfold Ret))
  exact hR
theorem rblacken_range (hO : St w0 bs w H) [hH : Has H rb #[.slice (some ⟨rc, 0, none⟩) m cap] 99] (hm : 0 < m) (s : Int) (hs : s < 0 ∨ (m : Int) ≤ s)
    (hR : ∀ w', St w0 bs w' H → Ret R (.int .i64 3) w') : Calls Tryz.prog 66 #[.pointer (some ⟨rb, 0, none⟩), .int .i64 s] w R := by
  have hS := hO
  go_enter Tryz.func66, Tryz.ntmps66
  go_wp2_with ((go_at_call 103; refine rblacken1_range hS hm _ _ hs ?_; clear hS; intro w hS; unfold Ret))
  exact hR _ hS
theorem rblacken_yes (hO : St w0 bs w H) [hH : Has H rb #[.slice (some ⟨rc, 0, none⟩) m cap] 99] [hC : Has H rc (rowC L sp) 3] (hl : L.length = m) (i : Nat) (j : Int) (hj : j = i) (hi : i < m) (h0 : L.getD i 0 = 1)
    [hu : Upd H rc (rowC (L.set i 2) sp) 3 H'] (hR : ∀ w', St w0 bs w' H' → Ret R (.int .i64 0) w') : Calls Tryz.prog 66 #[.pointer (some ⟨rb, 0, none⟩), .int .i64 j] w R := by
  subst hj
  have hS := hO
  go_enter Tryz.func66, Tryz.ntmps66
  go_wp2_with ((go_at_call 103; refine rblacken1_yes hS hl i _ hi h0 ?_; clear hS; intro w hS; unfold Ret))
  exact hR _ hS
theorem rblacken_no (hO : St w0 bs w H) [hH : Has H rb #[.slice (some ⟨rc, 0, none⟩) m cap] 99] [hC : Has H rc (rowC L sp) 3] (hl : L.length = m) (i : Nat) (j : Int) (hj : j = i) (hi : i < m) (c : Int) (h0 : L.getD i 0 = c) (hc : (c != 1) = true)
    (hR : ∀ w', St w0 bs w' H → Ret R (.int .i64 8) w') : Calls Tryz.prog 66 #[.pointer (some ⟨rb, 0, none⟩), .int .i64 j] w R := by
  subst hj
  have hS := hO
  go_enter Tryz.func66, Tryz.ntmps66
  go_wp2_with ((go_at_call 103; refine rblacken1_no hS hl i _ hi c h0 hc ?_; clear hS; intro w hS; unfold Ret))
  exact hR _ hS


theorem rbleach_nil (s : Int) (hR : Ret R (.int .i64 1) w) : Calls Tryz.prog 26 #[.pointer none, .int .i64 s] w R := by
  go_enter Tryz.func26, Tryz.ntmps26
  go_wp2_with ((go_at_call 75; refine rcheck_nil _ ?_; unfold Ret))
  exact hR
theorem rbleach_range (hO : St w0 bs w H) [hH : Has H rb #[.slice (some ⟨rc, 0, none⟩) m cap] 99] (hm : 0 < m) (s : Int) (hs : s < 0 ∨ (m : Int) ≤ s)
    (hR : ∀ w', St w0 bs w' H → Ret R (.int .i64 3) w') : Calls Tryz.prog 26 #[.pointer (some ⟨rb, 0, none⟩), .int .i64 s] w R := by
  have hS := hO
  go_enter Tryz.func26, Tryz.ntmps26
  go_wp2_with ((go_at_call 75; refine rcheck_range (hS.has inferInstance) hm _ hs ?_; unfold Ret))
  exact hR _ hS
theorem rbleach_ok (hO : St w0 bs w H) [hH : Has H rb #[.slice (some ⟨rc, 0, none⟩) m cap] 99] [hC : Has H rc (rowC L sp) 3] (hl : L.length = m) (i : Nat) (j : Int) (hj : j = i) (hi : i < m)
    [hu : Upd H rc (rowC (L.set i 0) sp) 3 H'] (hR : ∀ w', St w0 bs w' H' → Ret R (.int .i64 0) w') : Calls Tryz.prog 26 #[.pointer (some ⟨rb, 0, none⟩), .int .i64 j] w R := by
  subst hj
  have hS := hO
  have g' := rowSet (sp := sp) 0 (show i < L.length by omega)
  go_enter Tryz.func26, Tryz.ntmps26
  go_wp2_with (first | (go_at_call 75; refine rcheck_ok (hS.has inferInstance) _ (by omega) (by omega) ?_; unfold Ret) | (refine wpList_is (.load _ _) rfl ?_; go_must ((refine wpList_stp (by kernel_rfl) (stp_val (run_ld _ _ rfl hS) ?_)))) | (refine wpList_is (.store _ _ _) rfl ?_; go_must ((refine wpList_stp (by kernel_rfl) (stp_st _ _ _ rfl hS ?_))); clear hS; intro w hS))
  exact hR _ hS

theorem rcopy_nil (hR : Ret R (.pointer none) w) : Calls Tryz.prog 96 #[.pointer none] w R := by
  go_enter Tryz.func96, Tryz.ntmps96
  go_wp2_with ((go_at_call 75; refine rcheck_nil _ ?_; unfold Ret))
  exact hR
theorem rcopy_ok (hO : St w0 bs w H) [hH : Has H rb #[.slice (some ⟨rc, 0, none⟩) m cap] 99] [hC : Has H rc (rowC L sp) 3] (hl : L.length = m) (hm : 0 < m) (hm2 : m ≤ 256)
    (hR : ∀ rb' rc' cap' sp' w', St w0 bs w' (⟨rb', #[.slice (some ⟨rc', 0, none⟩) m cap'], 99, true⟩ :: ⟨rc', rowC L sp', 3, true⟩ :: H) → Ret R (.pointer (some ⟨rb', 0, none⟩)) w') :
    Calls Tryz.prog 96 #[.pointer (some ⟨rb, 0, none⟩)] w R := by
  have hS := hO
  have i1 := rowAll (sp := sp) hl
  have i2 := intsOnes (L := L)
  go_enter Tryz.func96, Tryz.ntmps96
  go_wp2_with (first | (go_at_call 75; refine rcheck_ok (hS.has inferInstance) _ (by omega) (by omega) ?_; unfold Ret) | (refine wpList_is (.buildSlice _ 0 _) rfl ?_; go_must (refine wpList_stp rfl (stp_bs0 _ rfl hS ?_)); clear hS; intro bN w hbN hS) | (refine wpList_is (.call { callee := .builtin .append, args := #[_, _], argTypes := #[_, _] }) rfl ?_; go_must (refine wpList_stp rfl (stp_ap _ _ _ _ rfl rfl hS (by rfl) sl_zero (Nat.mul_one _) (by simp only [maxLen]; omega) (by omega) ?_)); clear hS; intro v' E' w hsl hne hS; obtain ⟨g, cap', sp', rfl, rfl, _⟩ := hsl.some (by omega); simp only [List.cons_append, List.nil_append] at hS) | (refine wpList_is (.build _ _) rfl ?_; go_must (refine wpList_stp (by kernel_rfl) (stp_val (run_bd _ _ rfl) ?_))) | (refine wpList_is (.load _ _) rfl ?_; go_must ((refine wpList_stp (by kernel_rfl) (stp_val (run_ld _ _ rfl hS) ?_)))) | (refine wpList_is (.box _ _) rfl ?_; go_must (refine wpList_stp (by kernel_rfl) (stp_bx _ _ rfl hS ?_)); clear hS; intro bN w hbN hS))
  rw [rowNews, Nat.zero_add] at hS
  exact hR _ _ _ _ _ hS

theorem rnew_bad (s : Int) (hs : s < 1 ∨ 256 < s) (hR : Ret R (.tuple #[.pointer none, .int .i64 2]) w) : Calls Tryz.prog 9 #[.int .i64 s] w R := by
  by_cases h0 : s < 1
  · have q1 : decide (s < 1) = true := by simpa using h0
    go_enter Tryz.func9, Tryz.ntmps9
    go_wp2
    exact hR
  · have q1 : decide (s < 1) = false := by simpa using h0
    have q2 : decide (256 < s) = true := by simp; omega
    go_enter Tryz.func9, Tryz.ntmps9
    go_wp2
    exact hR
theorem rnew_ok (hO : St w0 bs w H) (h1 : 1 ≤ m) (h2 : m ≤ 256) (s : Int) (hs : s = m)
    (hR : ∀ rb rc w', St w0 bs w' (⟨rb, #[.slice (some ⟨rc, 0, none⟩) m m], 99, true⟩ :: ⟨rc, rowC (List.replicate m 0) [], 3, true⟩ :: H) → Ret R (.tuple #[.pointer (some ⟨rb, 0, none⟩), .int .i64 0]) w') :
    Calls Tryz.prog 9 #[.int .i64 s] w R := by
  have hS := hO
  have q1 : decide (s < 1) = false := by simp; omega
  have q2 : decide (256 < s) = false := by simp; omega
  go_enter Tryz.func9, Tryz.ntmps9
  go_wp2_with (first | (refine wpList_is (.makeSlice _ _ _) rfl ?_; go_must (refine wpList_stp (by kernel_rfl) (stp_mki _ _ _ rfl hS (by (rfl)) (by omega) (by omega) ?_)); clear hS; intro bN w hbN hS) | (refine wpList_is (.build _ _) rfl ?_; go_must (refine wpList_stp (by kernel_rfl) (stp_val (run_bd _ _ rfl) ?_))) | (refine wpList_is (.box _ _) rfl ?_; go_must (refine wpList_stp (by kernel_rfl) (stp_bx _ _ rfl hS ?_)); clear hS; intro bN w hbN hS))
  rw [rowInts] at hS
  exact hR _ _ _ hS

end Go.Proofs.YtgpjanfphgjbbaaGreat.Col
