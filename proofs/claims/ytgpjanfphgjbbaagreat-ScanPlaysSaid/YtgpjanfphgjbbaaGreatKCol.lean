/-
  The colours of slots: contracts of the program's functions.
-/
import Derived.Test.YtgpjanfphgjbbaaGreatRows
import Derived.Test.YtgpjanfphgjbbaaGreatBas
set_option linter.unusedSimpArgs false
set_option linter.unusedVariables false
namespace Go.Proofs.YtgpjanfphgjbbaaGreat.Col
open Go.RowKit Go.Mm

/-- A paint: its size, and the colours of all 256 slots. -/
def paintCells (n : Int) (L : List Int) : Array Value := (Value.int .i64 n :: L.map (Value.int .u8)).toArray
instance paint0 {n : Int} {L : List Int} : CellAt (paintCells n L) 0 (.int .i64 n) := ⟨rfl⟩
theorem paint1 {n : Int} {L : List Int} {i : Nat} (h : i < L.length) : CellAt (paintCells n L) (1 + i) (.int .u8 (L.getD i 0)) :=
  ⟨by simp [paintCells, Nat.add_comm 1 i, h]⟩
theorem paint1s {n : Int} {L : List Int} {i : Nat} (c : Int) (h : i < L.length) : SetAt (paintCells n L) (1 + i) (.int .u8 c) (paintCells n (L.set i c)) :=
  ⟨by simp [paintCells, Nat.add_comm 1 i], by simp [paintCells]; omega⟩
instance s_int : ScalarT Tryz.prog 3 := ⟨by kernel_rfl, by kernel_rfl⟩
instance s_bool : ScalarT Tryz.prog 4 := ⟨by kernel_rfl, by kernel_rfl⟩
instance s_u8 : ScalarT Tryz.prog 5 := ⟨by kernel_rfl, by kernel_rfl⟩
instance z_bool : ZeroT Tryz.prog 4 #[.bool false] := ⟨by kernel_rfl⟩
instance z_int : ZeroT Tryz.prog 3 #[.int .i64 0] := ⟨by kernel_rfl⟩

abbrev PaintAt (w : World) (b : Nat) (n : Int) (L : List Int) : Prop := w.heap[b]? = some (.cells (paintCells n L) 86 (0, 0))

variable {R : Ending → World → Prop} {w : World} {b : Nat} {n : Int} {L : List Int}

theorem made_nil (hR : Ret R (.bool false) w) : Calls Tryz.prog 105 #[.pointer none] w R := by
  go_enter Tryz.func105, Tryz.ntmps105
  go_wp2
  exact hR

theorem made_at (hP : PaintAt w b n L) (hR : Ret R (.bool (decide (0 < n))) w) : Calls Tryz.prog 105 #[.pointer (some ⟨b, 0, none⟩)] w R := by
  have hS : St w [] w [⟨b, paintCells n L, 86, false⟩] := St.start1 hP (by simp)
  clear hP
  go_enter Tryz.func105, Tryz.ntmps105
  go_wp2_with ((refine wpList_is (.load _ _) rfl ?_; go_must ((refine wpList_stp (by kernel_rfl) (stp_val (run_ld _ _ rfl hS) ?_)))))
  exact hR

theorem with_nil (s : Int) (f : Value) (hR : Ret R (.int .i64 1) w) : Calls Tryz.prog 73 #[.pointer none, .int .i64 s, f] w R := by
  go_enter Tryz.func73, Tryz.ntmps73
  go_wp2_with ((go_at_call 105; refine made_nil ?_; unfold Ret))
  exact hR

theorem with_zero (hP : PaintAt w b 0 L) (s : Int) (f : Value) (hR : Ret R (.int .i64 1) w) : Calls Tryz.prog 73 #[.pointer (some ⟨b, 0, none⟩), .int .i64 s, f] w R := by
  go_enter Tryz.func73, Tryz.ntmps73
  go_wp2_with ((go_at_call 105; refine made_at hP ?_; unfold Ret))
  exact hR

theorem with_range (hP : PaintAt w b n L) (hn : 0 < n) (s : Int) (hs : s < 0 ∨ n ≤ s) (f : Value) (hR : Ret R (.int .i64 3) w) :
    Calls Tryz.prog 73 #[.pointer (some ⟨b, 0, none⟩), .int .i64 s, f] w R := by
  have hS : St w [] w [⟨b, paintCells n L, 86, false⟩] := St.start1 hP (by simp)
  by_cases h0 : s < 0
  · have d1 : decide (s < 0) = true := by simpa using h0
    go_enter Tryz.func73, Tryz.ntmps73
    go_wp2_with ((go_at_call 105; refine made_at hP ?_; unfold Ret))
    exact hR
  · have d1 : decide (s < 0) = false := by simpa using h0
    have d2 : decide (n ≤ s) = true := by simp; omega
    go_enter Tryz.func73, Tryz.ntmps73
    go_wp2_with (first | (go_at_call 105; refine made_at hP ?_; unfold Ret) | (refine wpList_is (.load _ _) rfl ?_; go_must ((refine wpList_stp (by kernel_rfl) (stp_val (run_ld _ _ rfl hS) ?_)))))
    exact hR

theorem with_ok (hP : PaintAt w b n L) (i : Nat) (hi : (i : Int) < n) (hn : n ≤ 256) (f : Nat) (caps : Array Value)
    (hC : Calls Tryz.prog f (#[.pointer (some ⟨b, 1 + i, none⟩)] ++ caps) w (Fwd R)) (he : ∀ args w, (callFunc f args).run Tryz.prog w = .ok (.enter f args) w) :
    Calls Tryz.prog 73 #[.pointer (some ⟨b, 0, none⟩), .int .i64 i, .func (.func f) #[] caps] w R := by
  have hS : St w [] w [⟨b, paintCells n L, 86, false⟩] := St.start1 hP (by simp)
  have hn0 : 0 < n := by omega
  go_enter Tryz.func73, Tryz.ntmps73
  go_wp2_with (first | (go_at_call 105; refine made_at hP ?_; unfold Ret) | (refine wpList_is (.load _ _) rfl ?_; go_must ((refine wpList_stp (by kernel_rfl) (stp_val (run_ld _ _ rfl hS) ?_)))))
  refine hC.mono ?_
  rintro e w' ⟨v, rfl, hr⟩
  go_wp2
  exact hr

variable {w0 : World} {bs : List Nat} {H H' : List Ent}

theorem enters (f : Nat) (h : (match Tryz.prog.funcs[f]? with | some fn => !(fn.name == "runtime.NumGoroutine") && fn.body.isSome | none => false) = true) : ∀ args w, (callFunc f args).run Tryz.prog w = .ok (.enter f args) w := by
  intro args w
  cases hf : Tryz.prog.funcs[f]? with
  | none => simp [hf] at h
  | some fn =>
    simp only [hf, Bool.and_eq_true, Bool.not_eq_true'] at h
    cases hb : fn.body with
    | none => simp [hb] at h
    | some c => have := h.1; simp at this; simp [callFunc, hf, this, hb]

/-! ### Of -/
theorem of1 {b2 : Nat} {T2 : TypeId} {c : Int} (hO : St w0 bs w H) {off : Nat} {cs : Array Value} {T : TypeId} [hH : Has H b cs T] [hc : CellAt cs off (.int .u8 c)] (h0 : 0 ≤ c) (h1 : c ≤ 255) [hu : Upd H b2 #[.int .i64 c] T2 H'] {v : Value} [hb2 : Has H b2 #[v] T2]
    (hR : ∀ w', St w0 bs w' H' → Ret R (.int .i64 0) w') : Calls Tryz.prog 98 #[.pointer (some ⟨b, off, none⟩), .pointer (some ⟨b2, 0, none⟩)] w R := by
  have hS := hO
  clear hO
  go_enter Tryz.func98, Tryz.ntmps98
  go_wp2_with (first | (refine wpList_is (.load _ _) rfl ?_; go_must ((refine wpList_stp (by kernel_rfl) (stp_val (run_ld _ _ rfl hS) ?_)))) | (refine wpList_is (.store _ _ _) rfl ?_; go_must ((refine wpList_stp (by kernel_rfl) (stp_st _ _ _ rfl hS ?_))); clear hS; intro w hS))
  exact hR _ hS

theorem of_nil (s : Int) (hR : ∀ w', Chg w w' [] → Ret R (.tuple #[.int .i64 0, .int .i64 1]) w') : Calls Tryz.prog 60 #[.pointer none, .int .i64 s] w R := by
  have hS : St w [] w [] := St.start0
  go_enter Tryz.func60, Tryz.ntmps60
  go_wp2_with (first | (go_at_call 73; refine with_nil _ _ ?_; unfold Ret) | (refine wpList_is (.load _ _) rfl ?_; go_must ((refine wpList_stp (by kernel_rfl) (stp_val (run_ld _ _ rfl hS) ?_)))) | (refine wpList_is (.store _ _ _) rfl ?_; go_must ((refine wpList_stp (by kernel_rfl) (stp_st _ _ _ rfl hS ?_))); clear hS; intro w hS) | (refine wpList_is (.alloc _) rfl ?_; go_must (refine wpList_stp (by kernel_rfl) (stp_al _ rfl hS ?_)); clear hS; intro bN w hbN hS))
  exact hR _ hS.chg

theorem of_zero (hP : PaintAt w b 0 L) (s : Int) (hR : ∀ w', Chg w w' [] → Ret R (.tuple #[.int .i64 0, .int .i64 1]) w') : Calls Tryz.prog 60 #[.pointer (some ⟨b, 0, none⟩), .int .i64 s] w R := by
  have hS : St w [] w [⟨b, paintCells 0 L, 86, false⟩] := St.start1 hP (by simp)
  go_enter Tryz.func60, Tryz.ntmps60
  go_wp2_with (first | (go_at_call 73; refine with_zero (hS.has inferInstance) _ _ ?_; unfold Ret) | (refine wpList_is (.load _ _) rfl ?_; go_must ((refine wpList_stp (by kernel_rfl) (stp_val (run_ld _ _ rfl hS) ?_)))) | (refine wpList_is (.store _ _ _) rfl ?_; go_must ((refine wpList_stp (by kernel_rfl) (stp_st _ _ _ rfl hS ?_))); clear hS; intro w hS) | (refine wpList_is (.alloc _) rfl ?_; go_must (refine wpList_stp (by kernel_rfl) (stp_al _ rfl hS ?_)); clear hS; intro bN w hbN hS))
  exact hR _ hS.chg

theorem of_range (hO : St w0 bs w H) [hH : Has H b (paintCells n L) 86] (hn : 0 < n) (s : Int) (hs : s < 0 ∨ n ≤ s) (hR : ∀ w', St w0 bs w' H → Ret R (.tuple #[.int .i64 0, .int .i64 3]) w') :
    Calls Tryz.prog 60 #[.pointer (some ⟨b, 0, none⟩), .int .i64 s] w R := by
  have hS : St w [] w [⟨b, paintCells n L, 86, false⟩] := St.start1 (hO.has hH) (by simp)
  go_enter Tryz.func60, Tryz.ntmps60
  go_wp2_with (first | (go_at_call 73; refine with_range (hS.has inferInstance) hn _ hs _ ?_; unfold Ret) | (refine wpList_is (.load _ _) rfl ?_; go_must ((refine wpList_stp (by kernel_rfl) (stp_val (run_ld _ _ rfl hS) ?_)))) | (refine wpList_is (.store _ _ _) rfl ?_; go_must ((refine wpList_stp (by kernel_rfl) (stp_st _ _ _ rfl hS ?_))); clear hS; intro w hS) | (refine wpList_is (.alloc _) rfl ?_; go_must (refine wpList_stp (by kernel_rfl) (stp_al _ rfl hS ?_)); clear hS; intro bN w hbN hS))
  exact hR _ (hO.nil hS.chg)

theorem of_ok (hO : St w0 bs w H) [hH : Has H b (paintCells n L) 86] (hn : n ≤ 256) (hl : n ≤ L.length) (hc : ∀ c ∈ L, 0 ≤ c ∧ c ≤ 255) (i : Nat) (hi : (i : Int) < n)
    (hR : ∀ w', St w0 bs w' H → Ret R (.tuple #[.int .i64 (L.getD i 0), .int .i64 0]) w') :
    Calls Tryz.prog 60 #[.pointer (some ⟨b, 0, none⟩), .int .i64 i] w R := by
  have hS : St w [] w [⟨b, paintCells n L, 86, false⟩] := St.start1 (hO.has hH) (by simp)
  have hil : i < L.length := by omega
  have hce := hc (L.getD i 0) (by simp [hil])
  have hcell := paint1 (n := n) hil
  generalize hcc : L.getD i 0 = c at *
  clear hcc
  obtain ⟨c0, c1⟩ := hce
  go_enter Tryz.func60, Tryz.ntmps60
  go_wp2_with (first | (go_at_call 73; refine with_ok (hS.has inferInstance) i hi hn _ _ (of1 hS c0 c1 ?_) (enters _ (by kernel_rfl)); clear hS; intro w hS; refine fwd ?_; unfold Ret) | (refine wpList_is (.load _ _) rfl ?_; go_must ((refine wpList_stp (by kernel_rfl) (stp_val (run_ld _ _ rfl hS) ?_)))) | (refine wpList_is (.store _ _ _) rfl ?_; go_must ((refine wpList_stp (by kernel_rfl) (stp_st _ _ _ rfl hS ?_))); clear hS; intro w hS) | (refine wpList_is (.alloc _) rfl ?_; go_must (refine wpList_stp (by kernel_rfl) (stp_al _ rfl hS ?_)); clear hS; intro bN w hbN hS))
  exact hR _ (hO.nil hS.chg)

/-! ### Shade -/
theorem shade1_white {b2 : Nat} {T2 : TypeId} (hO : St w0 bs w H) {off : Nat} {cs cs' : Array Value} {T : TypeId} [hH : Has H b cs T] [hc : CellAt cs off (.int .u8 0)] [hsc : SetAt cs off (.int .u8 1) cs'] {H1 : List Ent} {v : Value} [hb2 : Has H b2 #[v] T2]
    [hu : Upd H b2 #[.bool true] T2 H1] [hH2 : Has H1 b2 #[.bool true] T2] [hH1 : Has H1 b cs T] [hu1 : Upd H1 b cs' T H']
    (hR : ∀ w', St w0 bs w' H' → Ret R (.int .i64 0) w') : Calls Tryz.prog 95 #[.pointer (some ⟨b, off, none⟩), .pointer (some ⟨b2, 0, none⟩)] w R := by
  have hS := hO
  clear hO
  go_enter Tryz.func95, Tryz.ntmps95
  go_wp2_with (first | (refine wpList_is (.load _ _) rfl ?_; go_must ((refine wpList_stp (by kernel_rfl) (stp_val (run_ld _ _ rfl hS) ?_)))) | (refine wpList_is (.store _ _ _) rfl ?_; go_must ((refine wpList_stp (by kernel_rfl) (stp_st _ _ _ rfl hS ?_))); clear hS; intro w hS))
  exact hR _ hS

theorem shade1_other {b2 : Nat} {T2 : TypeId} {c : Int} (hO : St w0 bs w H) {off : Nat} {cs : Array Value} {T : TypeId} [hH : Has H b cs T] [hc : CellAt cs off (.int .u8 c)] (hcz : (c == 0) = false) {v : Value} [hb2 : Has H b2 #[v] T2]
    [hu : Upd H b2 #[.bool false] T2 H'] [hH1 : Has H' b2 #[.bool false] T2]
    (hR : ∀ w', St w0 bs w' H' → Ret R (.int .i64 0) w') : Calls Tryz.prog 95 #[.pointer (some ⟨b, off, none⟩), .pointer (some ⟨b2, 0, none⟩)] w R := by
  have hS := hO
  clear hO
  go_enter Tryz.func95, Tryz.ntmps95
  go_wp2_with (first | (refine wpList_is (.load _ _) rfl ?_; go_must ((refine wpList_stp (by kernel_rfl) (stp_val (run_ld _ _ rfl hS) ?_)))) | (refine wpList_is (.store _ _ _) rfl ?_; go_must ((refine wpList_stp (by kernel_rfl) (stp_st _ _ _ rfl hS ?_))); clear hS; intro w hS))
  exact hR _ hS

theorem shade_nil (s : Int) (hR : ∀ w', Chg w w' [] → Ret R (.tuple #[.bool false, .int .i64 1]) w') : Calls Tryz.prog 52 #[.pointer none, .int .i64 s] w R := by
  have hS : St w [] w [] := St.start0
  go_enter Tryz.func52, Tryz.ntmps52
  go_wp2_with (first | (go_at_call 73; refine with_nil _ _ ?_; unfold Ret) | (refine wpList_is (.load _ _) rfl ?_; go_must ((refine wpList_stp (by kernel_rfl) (stp_val (run_ld _ _ rfl hS) ?_)))) | (refine wpList_is (.store _ _ _) rfl ?_; go_must ((refine wpList_stp (by kernel_rfl) (stp_st _ _ _ rfl hS ?_))); clear hS; intro w hS) | (refine wpList_is (.alloc _) rfl ?_; go_must (refine wpList_stp (by kernel_rfl) (stp_al _ rfl hS ?_)); clear hS; intro bN w hbN hS))
  exact hR _ hS.chg

theorem shade_zero (hP : PaintAt w b 0 L) (s : Int) (hR : ∀ w', Chg w w' [] → Ret R (.tuple #[.bool false, .int .i64 1]) w') : Calls Tryz.prog 52 #[.pointer (some ⟨b, 0, none⟩), .int .i64 s] w R := by
  have hS : St w [] w [⟨b, paintCells 0 L, 86, false⟩] := St.start1 hP (by simp)
  go_enter Tryz.func52, Tryz.ntmps52
  go_wp2_with (first | (go_at_call 73; refine with_zero (hS.has inferInstance) _ _ ?_; unfold Ret) | (refine wpList_is (.load _ _) rfl ?_; go_must ((refine wpList_stp (by kernel_rfl) (stp_val (run_ld _ _ rfl hS) ?_)))) | (refine wpList_is (.store _ _ _) rfl ?_; go_must ((refine wpList_stp (by kernel_rfl) (stp_st _ _ _ rfl hS ?_))); clear hS; intro w hS) | (refine wpList_is (.alloc _) rfl ?_; go_must (refine wpList_stp (by kernel_rfl) (stp_al _ rfl hS ?_)); clear hS; intro bN w hbN hS))
  exact hR _ hS.chg

theorem shade_range (hO : St w0 bs w H) [hH : Has H b (paintCells n L) 86] (hn : 0 < n) (s : Int) (hs : s < 0 ∨ n ≤ s) (hR : ∀ w', St w0 bs w' H → Ret R (.tuple #[.bool false, .int .i64 3]) w') :
    Calls Tryz.prog 52 #[.pointer (some ⟨b, 0, none⟩), .int .i64 s] w R := by
  have hS : St w [] w [⟨b, paintCells n L, 86, false⟩] := St.start1 (hO.has hH) (by simp)
  go_enter Tryz.func52, Tryz.ntmps52
  go_wp2_with (first | (go_at_call 73; refine with_range (hS.has inferInstance) hn _ hs _ ?_; unfold Ret) | (refine wpList_is (.load _ _) rfl ?_; go_must ((refine wpList_stp (by kernel_rfl) (stp_val (run_ld _ _ rfl hS) ?_)))) | (refine wpList_is (.store _ _ _) rfl ?_; go_must ((refine wpList_stp (by kernel_rfl) (stp_st _ _ _ rfl hS ?_))); clear hS; intro w hS) | (refine wpList_is (.alloc _) rfl ?_; go_must (refine wpList_stp (by kernel_rfl) (stp_al _ rfl hS ?_)); clear hS; intro bN w hbN hS))
  exact hR _ (hO.nil hS.chg)

def shadeL (L : List Int) (i : Nat) : List Int := if L.getD i 0 = 0 then L.set i 1 else L

theorem shade_ok (hO : St w0 bs w H) [hH : Has H b (paintCells n L) 86] (hn : n ≤ 256) (hl : n ≤ L.length) (i : Nat) (hi : (i : Int) < n)
    [hu : Upd H b (paintCells n (shadeL L i)) 86 H']
    (hR : ∀ w', St w0 bs w' H' → Ret R (.tuple #[.bool (decide (L.getD i 0 = 0)), .int .i64 0]) w') :
    Calls Tryz.prog 52 #[.pointer (some ⟨b, 0, none⟩), .int .i64 i] w R := by
  have hS : St w [b] w [⟨b, paintCells n L, 86, true⟩] := St.start1 (hO.has hH) (by simp)
  have hil : i < L.length := by omega
  have hcell := paint1 (n := n) hil
  have hset := paint1s (n := n) 1 hil
  unfold shadeL at hu
  generalize hcc : L.getD i 0 = c at *
  by_cases hz : c = 0
  · rw [if_pos hz] at hu
    simp only [hz, decide_true] at hR hcell
    clear hcc hz
    go_enter Tryz.func52, Tryz.ntmps52
    go_wp2_with (first | (go_at_call 73; refine with_ok (hS.has inferInstance) i hi hn _ _ (shade1_white hS ?_) (enters _ (by kernel_rfl)); clear hS; intro w hS; refine fwd ?_; unfold Ret) | (refine wpList_is (.load _ _) rfl ?_; go_must ((refine wpList_stp (by kernel_rfl) (stp_val (run_ld _ _ rfl hS) ?_)))) | (refine wpList_is (.store _ _ _) rfl ?_; go_must ((refine wpList_stp (by kernel_rfl) (stp_st _ _ _ rfl hS ?_))); clear hS; intro w hS) | (refine wpList_is (.alloc _) rfl ?_; go_must (refine wpList_stp (by kernel_rfl) (stp_al _ rfl hS ?_)); clear hS; intro bN w hbN hS))
    exact hR _ (hO.upd hS.chg (hS.has inferInstance))
  · rw [if_neg hz] at hu
    have hz' : (c == 0) = false := by simpa using hz
    simp only [hz, decide_false] at hR
    clear hcc hz
    go_enter Tryz.func52, Tryz.ntmps52
    go_wp2_with (first | (go_at_call 73; refine with_ok (hS.has inferInstance) i hi hn _ _ (shade1_other hS hz' ?_) (enters _ (by kernel_rfl)); clear hS; intro w hS; refine fwd ?_; unfold Ret) | (refine wpList_is (.load _ _) rfl ?_; go_must ((refine wpList_stp (by kernel_rfl) (stp_val (run_ld _ _ rfl hS) ?_)))) | (refine wpList_is (.store _ _ _) rfl ?_; go_must ((refine wpList_stp (by kernel_rfl) (stp_st _ _ _ rfl hS ?_))); clear hS; intro w hS) | (refine wpList_is (.alloc _) rfl ?_; go_must (refine wpList_stp (by kernel_rfl) (stp_al _ rfl hS ?_)); clear hS; intro bN w hbN hS))
    exact hR _ (hO.upd hS.chg (hS.has inferInstance))

/-! ### Blacken, Born, Bleach -/
theorem blacken1_yes {b2 : Nat} {T2 : TypeId} {f : Int} (hO : St w0 bs w H) {off : Nat} {cs cs' : Array Value} {T : TypeId} [hH : Has H b cs T] [hc : CellAt cs off (.int .u8 f)] [hsc : SetAt cs off (.int .u8 2) cs'] [hb2 : Has H b2 #[.int .u8 f] T2]
    [hu1 : Upd H b cs' T H']
    (hR : ∀ w', St w0 bs w' H' → Ret R (.int .i64 0) w') : Calls Tryz.prog 117 #[.pointer (some ⟨b, off, none⟩), .pointer (some ⟨b2, 0, none⟩)] w R := by
  have hS := hO
  clear hO
  go_enter Tryz.func117, Tryz.ntmps117
  go_wp2_with (first | (refine wpList_is (.store _ _ _) rfl ?_; go_must ((refine wpList_stp (by kernel_rfl) (stp_st _ _ _ rfl hS ?_))); clear hS; intro w hS) | (refine region_quiet hS (by kernel_rfl) (by kernel_rfl) (fun hne => ?_); (repeat ((go_big_quiet_want; first | (refine quiet_is (.load _ _) rfl ?_; go_must ((refine quiet_at sw_st (fun w hS => run_ld _ _ rfl hS) ?_)); go_big_quiet_on) | (go_big_quiet_op; go_big_quiet_on)))); refine wpQuiet_nil ?_; clear hS hne; intro w hS))
  exact hR _ hS

theorem blacken1_no {b2 : Nat} {T2 : TypeId} {c f : Int} (hO : St w0 bs w H) {off : Nat} {cs : Array Value} {T : TypeId} [hH : Has H b cs T] [hc : CellAt cs off (.int .u8 c)] (hcz : (c != f) = true) [hb2 : Has H b2 #[.int .u8 f] T2]
    (hR : ∀ w', St w0 bs w' H → Ret R (.int .i64 8) w') : Calls Tryz.prog 117 #[.pointer (some ⟨b, off, none⟩), .pointer (some ⟨b2, 0, none⟩)] w R := by
  have hS := hO
  clear hO
  go_enter Tryz.func117, Tryz.ntmps117
  go_wp2_with ((refine region_quiet hS (by kernel_rfl) (by kernel_rfl) (fun hne => ?_); (repeat ((go_big_quiet_want; first | (refine quiet_is (.load _ _) rfl ?_; go_must ((refine quiet_at sw_st (fun w hS => run_ld _ _ rfl hS) ?_)); go_big_quiet_on) | (go_big_quiet_op; go_big_quiet_on)))); refine wpQuiet_nil ?_; clear hS hne; intro w hS))
  exact hR _ hS

theorem blacken_nil (s f : Int) (hR : ∀ w', Chg w w' [] → Ret R (.int .i64 1) w') : Calls Tryz.prog 100 #[.pointer none, .int .i64 s, .int .u8 f] w R := by
  have hS : St w [] w [] := St.start0
  go_enter Tryz.func100, Tryz.ntmps100
  go_wp2_with (first | (go_at_call 73; refine with_nil _ _ ?_; unfold Ret) | (refine wpList_is (.box _ _) rfl ?_; go_must (refine wpList_stp (by kernel_rfl) (stp_bx _ _ rfl hS ?_)); clear hS; intro bN w hbN hS))
  exact hR _ hS.chg

theorem blacken_zero (hP : PaintAt w b 0 L) (s f : Int) (hR : ∀ w', Chg w w' [] → Ret R (.int .i64 1) w') : Calls Tryz.prog 100 #[.pointer (some ⟨b, 0, none⟩), .int .i64 s, .int .u8 f] w R := by
  have hS : St w [] w [⟨b, paintCells 0 L, 86, false⟩] := St.start1 hP (by simp)
  go_enter Tryz.func100, Tryz.ntmps100
  go_wp2_with (first | (go_at_call 73; refine with_zero (hS.has inferInstance) _ _ ?_; unfold Ret) | (refine wpList_is (.box _ _) rfl ?_; go_must (refine wpList_stp (by kernel_rfl) (stp_bx _ _ rfl hS ?_)); clear hS; intro bN w hbN hS))
  exact hR _ hS.chg

theorem blacken_range (hO : St w0 bs w H) [hH : Has H b (paintCells n L) 86] (hn : 0 < n) (s f : Int) (hs : s < 0 ∨ n ≤ s) (hR : ∀ w', St w0 bs w' H → Ret R (.int .i64 3) w') :
    Calls Tryz.prog 100 #[.pointer (some ⟨b, 0, none⟩), .int .i64 s, .int .u8 f] w R := by
  have hS : St w [] w [⟨b, paintCells n L, 86, false⟩] := St.start1 (hO.has hH) (by simp)
  go_enter Tryz.func100, Tryz.ntmps100
  go_wp2_with (first | (go_at_call 73; refine with_range (hS.has inferInstance) hn _ hs _ ?_; unfold Ret) | (refine wpList_is (.box _ _) rfl ?_; go_must (refine wpList_stp (by kernel_rfl) (stp_bx _ _ rfl hS ?_)); clear hS; intro bN w hbN hS))
  exact hR _ (hO.nil hS.chg)

def blackL (f : Int) (L : List Int) (i : Nat) : List Int := if L.getD i 0 = f then L.set i 2 else L
def blackE (f : Int) (L : List Int) (i : Nat) : Int := if L.getD i 0 = f then 0 else 8

theorem blacken_ok (hO : St w0 bs w H) [hH : Has H b (paintCells n L) 86] (hn : n ≤ 256) (hl : n ≤ L.length) (i : Nat) (hi : (i : Int) < n) (f : Int)
    [hu : Upd H b (paintCells n (blackL f L i)) 86 H']
    (hR : ∀ w', St w0 bs w' H' → Ret R (.int .i64 (blackE f L i)) w') :
    Calls Tryz.prog 100 #[.pointer (some ⟨b, 0, none⟩), .int .i64 i, .int .u8 f] w R := by
  have hS : St w [b] w [⟨b, paintCells n L, 86, true⟩] := St.start1 (hO.has hH) (by simp)
  have hil : i < L.length := by omega
  have hcell := paint1 (n := n) hil
  have hset := paint1s (n := n) 2 hil
  unfold blackL at hu
  unfold blackE at hR
  generalize hcc : L.getD i 0 = c at *
  by_cases hz : c = f
  · rw [if_pos hz] at hu hR
    rw [hz] at hcell
    clear hcc hz
    go_enter Tryz.func100, Tryz.ntmps100
    go_wp2_with (first | (go_at_call 73; refine with_ok (hS.has inferInstance) i hi hn _ _ (blacken1_yes hS ?_) (enters _ (by kernel_rfl)); clear hS; intro w hS; refine fwd ?_; unfold Ret) | (refine wpList_is (.box _ _) rfl ?_; go_must (refine wpList_stp (by kernel_rfl) (stp_bx _ _ rfl hS ?_)); clear hS; intro bN w hbN hS))
    exact hR _ (hO.upd hS.chg (hS.has inferInstance))
  · rw [if_neg hz] at hu hR
    have hz' : (c != f) = true := by simpa using hz
    clear hcc hz
    go_enter Tryz.func100, Tryz.ntmps100
    go_wp2_with (first | (go_at_call 73; refine with_ok (hS.has inferInstance) i hi hn _ _ (blacken1_no hS hz' ?_) (enters _ (by kernel_rfl)); clear hS; intro w hS; refine fwd ?_; unfold Ret) | (refine wpList_is (.box _ _) rfl ?_; go_must (refine wpList_stp (by kernel_rfl) (stp_bx _ _ rfl hS ?_)); clear hS; intro bN w hbN hS))
    exact hR _ (hO.upd hS.chg (hS.has inferInstance))

theorem bleach1 (hO : St w0 bs w H) {off : Nat} {cs cs' : Array Value} {T : TypeId} [hH : Has H b cs T] [hsc : SetAt cs off (.int .u8 0) cs'] [hu1 : Upd H b cs' T H']
    (hR : ∀ w', St w0 bs w' H' → Ret R (.int .i64 0) w') : Calls Tryz.prog 74 #[.pointer (some ⟨b, off, none⟩)] w R := by
  have hS := hO
  clear hO
  go_enter Tryz.func74, Tryz.ntmps74
  go_wp2_with ((refine wpList_is (.store _ _ _) rfl ?_; go_must ((refine wpList_stp (by kernel_rfl) (stp_st _ _ _ rfl hS ?_))); clear hS; intro w hS))
  exact hR _ hS

theorem bleach_nil (s : Int) (hR : ∀ w', Chg w w' [] → Ret R (.int .i64 1) w') : Calls Tryz.prog 25 #[.pointer none, .int .i64 s] w R := by
  have hS : St w [] w [] := St.start0
  go_enter Tryz.func25, Tryz.ntmps25
  go_wp2_with ((go_at_call 73; refine with_nil _ _ ?_; unfold Ret))
  exact hR _ hS.chg

theorem bleach_zero (hP : PaintAt w b 0 L) (s : Int) (hR : ∀ w', Chg w w' [] → Ret R (.int .i64 1) w') : Calls Tryz.prog 25 #[.pointer (some ⟨b, 0, none⟩), .int .i64 s] w R := by
  have hS : St w [] w [⟨b, paintCells 0 L, 86, false⟩] := St.start1 hP (by simp)
  go_enter Tryz.func25, Tryz.ntmps25
  go_wp2_with ((go_at_call 73; refine with_zero (hS.has inferInstance) _ _ ?_; unfold Ret))
  exact hR _ hS.chg

theorem bleach_range (hO : St w0 bs w H) [hH : Has H b (paintCells n L) 86] (hn : 0 < n) (s : Int) (hs : s < 0 ∨ n ≤ s) (hR : ∀ w', St w0 bs w' H → Ret R (.int .i64 3) w') :
    Calls Tryz.prog 25 #[.pointer (some ⟨b, 0, none⟩), .int .i64 s] w R := by
  have hS : St w [] w [⟨b, paintCells n L, 86, false⟩] := St.start1 (hO.has hH) (by simp)
  go_enter Tryz.func25, Tryz.ntmps25
  go_wp2_with ((go_at_call 73; refine with_range (hS.has inferInstance) hn _ hs _ ?_; unfold Ret))
  exact hR _ (hO.nil hS.chg)

theorem bleach_ok (hO : St w0 bs w H) [hH : Has H b (paintCells n L) 86] (hn : n ≤ 256) (hl : n ≤ L.length) (i : Nat) (hi : (i : Int) < n)
    [hu : Upd H b (paintCells n (L.set i 0)) 86 H']
    (hR : ∀ w', St w0 bs w' H' → Ret R (.int .i64 0) w') :
    Calls Tryz.prog 25 #[.pointer (some ⟨b, 0, none⟩), .int .i64 i] w R := by
  have hS : St w [b] w [⟨b, paintCells n L, 86, true⟩] := St.start1 (hO.has hH) (by simp)
  have hil : i < L.length := by omega
  have hset := paint1s (n := n) 0 hil
  go_enter Tryz.func25, Tryz.ntmps25
  go_wp2_with ((go_at_call 73; refine with_ok (hS.has inferInstance) i hi hn _ _ (bleach1 hS ?_) (enters _ (by kernel_rfl)); clear hS; intro w hS; refine fwd ?_; unfold Ret))
  exact hR _ (hO.upd hS.chg (hS.has inferInstance))

/-! ### New, Copy, Clear -/
def zerosL : List Int := List.replicate 256 0
instance b_paint {n : Int} : BuildT Tryz.prog 86 [(0, .int .i64 n)] (paintCells n zerosL) := ⟨fun w => by kernel_rfl⟩
instance z_paint : ZeroT Tryz.prog 86 (paintCells 0 zerosL) := ⟨by kernel_rfl⟩
instance a_paint : AggT Tryz.prog 86 257 := ⟨by kernel_rfl, by kernel_rfl⟩

theorem paintAll {n : Int} {L : List Int} (h : L.length = 256) : CellsAt (paintCells n L) 0 257 (paintCells n L) :=
  ⟨fun j _ => by simp, by simp [paintCells, h]⟩
theorem paintSets {n m : Int} {L M : List Int} (h : L.length = 256) (h' : M.length = 256) : SetsAt (paintCells n L) 0 (paintCells m M) (paintCells m M) :=
  ⟨by simp [paintCells, h, h'], by simp [paintCells, h, h']⟩
theorem paintOne {n : Int} {L : List Int} : OneCells (paintCells n L) := ⟨by
  intro v hv
  simp [paintCells] at hv
  rcases hv with rfl | ⟨_, _, rfl⟩ <;> rfl⟩
theorem paintSize {n : Int} {L : List Int} (h : L.length = 256) : SizeIs (paintCells n L) 257 := ⟨by simp [paintCells, h]⟩
theorem zerosLen : zerosL.length = 256 := List.length_replicate

theorem new_bad (s : Int) (hs : s < 1 ∨ 256 < s) (hR : Ret R (.tuple #[.pointer none, .int .i64 2]) w) : Calls Tryz.prog 6 #[.int .i64 s] w R := by
  by_cases h0 : s < 1
  · have d1 : decide (s < 1) = true := by simpa using h0
    go_enter Tryz.func6, Tryz.ntmps6
    go_wp2
    exact hR
  · have d1 : decide (s < 1) = false := by simpa using h0
    have d2 : decide (256 < s) = true := by simp; omega
    go_enter Tryz.func6, Tryz.ntmps6
    go_wp2
    exact hR

theorem new_ok (hO : St w0 bs w H) (s : Int) (h1 : 1 ≤ s) (h2 : s ≤ 256)
    (hR : ∀ b w', St w0 bs w' (⟨b, paintCells s zerosL, 86, true⟩ :: H) → Ret R (.tuple #[.pointer (some ⟨b, 0, none⟩), .int .i64 0]) w') : Calls Tryz.prog 6 #[.int .i64 s] w R := by
  have hS := hO
  have d1 : decide (s < 1) = false := by simp; omega
  have d2 : decide (256 < s) = false := by simp; omega
  go_enter Tryz.func6, Tryz.ntmps6
  go_wp2_with (first | (refine wpList_is (.build _ _) rfl ?_; go_must (refine wpList_stp (by kernel_rfl) (stp_val (run_bd _ _ rfl) ?_))) | (refine wpList_is (.box _ _) rfl ?_; go_must (refine wpList_stp (by kernel_rfl) (stp_bx _ _ rfl hS ?_)); clear hS; intro bN w hbN hS))
  exact hR _ _ hS

theorem copy_nil (hR : Ret R (.pointer none) w) : Calls Tryz.prog 84 #[.pointer none] w R := by
  go_enter Tryz.func84, Tryz.ntmps84
  go_wp2_with ((go_at_call 105; refine made_nil ?_; unfold Ret))
  exact hR

theorem copy_zero (hP : PaintAt w b 0 L) (hR : Ret R (.pointer none) w) : Calls Tryz.prog 84 #[.pointer (some ⟨b, 0, none⟩)] w R := by
  go_enter Tryz.func84, Tryz.ntmps84
  go_wp2_with ((go_at_call 105; refine made_at hP ?_; unfold Ret))
  exact hR

theorem copy_ok (hO : St w0 bs w H) [hH : Has H b (paintCells n L) 86] (hn : 0 < n) (hl : L.length = 256)
    (hR : ∀ b' w', St w0 bs w' (⟨b', paintCells n L, 86, true⟩ :: H) → Ret R (.pointer (some ⟨b', 0, none⟩)) w') : Calls Tryz.prog 84 #[.pointer (some ⟨b, 0, none⟩)] w R := by
  have hS := hO
  have i1 := paintAll (n := n) hl
  have i2 := paintSets (n := 0) (m := n) zerosLen hl
  have i3 := paintOne (n := n) (L := L)
  have i4 := paintSize (n := n) hl
  go_enter Tryz.func84, Tryz.ntmps84
  go_wp2_with (first | (go_at_call 105; refine made_at (hS.has hH) ?_; unfold Ret) | (refine wpList_is (.load _ _) rfl ?_; go_must ((refine wpList_stp (by kernel_rfl) (stp_val (run_lda _ _ rfl hS) ?_)))) | (refine wpList_is (.store _ _ _) rfl ?_; go_must ((refine wpList_stp (by kernel_rfl) (stp_sta _ _ _ rfl hS ?_))); clear hS; intro w hS) | (refine wpList_is (.alloc _) rfl ?_; go_must (refine wpList_stp (by kernel_rfl) (stp_al _ rfl hS ?_)); clear hS; intro bN w hbN hS))
  exact hR _ _ hS

instance e_u8 : ElemT Tryz.prog 5 1 1 #[.int .u8 0] := ⟨by kernel_rfl⟩
theorem zeroU8 : Builtin.zeroCells #[.int .u8 0] 256 = (zerosL.map (Value.int .u8)).toArray := by kernel_rfl
theorem paintClear {n : Int} {L : List Int} (h : L.length = 256) : SetsAt (paintCells n L) 1 (Builtin.zeroCells #[.int .u8 0] 256) (paintCells n zerosL) :=
  ⟨by rw [zeroU8]; simp [paintCells, h, zerosLen], by rw [zeroU8]; simp [paintCells, h, zerosLen]⟩
theorem oneZeros : OneCells (Builtin.zeroCells #[.int .u8 0] 256) := ⟨by
  rw [zeroU8]; intro v hv; simp at hv; obtain ⟨_, _, rfl⟩ := hv; rfl⟩

end Go.Proofs.YtgpjanfphgjbbaaGreat.Col
