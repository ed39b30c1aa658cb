/-
  The colours of slots: paints that are nil or zero have no grey slot.
-/
import Derived.Test.YtgpjanfphgjbbaaGreatKColC
set_option linter.unusedSimpArgs false
set_option linter.unusedVariables false
namespace Go.Proofs.YtgpjanfphgjbbaaGreat.Col
open Go.RowKit Go.Mm
attribute [local go_sem] Oper.semAt_some
variable {R : Ending → World → Prop} {w : World} {b : Nat} {n : Int} {L : List Int} {w0 : World} {bs : List Nat} {H H' : List Ent}

/-- There is no such paint. -/
def MadeNo (p : Option Addr) (E : List Ent) : Prop := ∀ (R : Ending → World → Prop) (w0 : World) (bs : List Nat) (w : World), St w0 bs w E → Ret R (.bool false) w → Calls Tryz.prog 105 #[.pointer p] w R
theorem no_nil : MadeNo none [] := fun _ _ _ _ _ h => made_nil h
theorem no_zero {wr : Bool} : MadeNo (some ⟨b, 0, none⟩) [⟨b, paintCells 0 L, 86, wr⟩] := fun _ _ _ _ hS h => made_at (hS.has inferInstance) h

theorem grey_stops_no {m : Nat} {f : Int} {p : Option Addr} {E : List Ent} (h1 : 1 ≤ m) (bp bf : Nat) {W : World} (hp : W.heap[bp]? = some (.cells #[.pointer p] 29 (0, 0))) (hf : W.heap[bf]? = some (.cells #[.int .i64 f] 3 (0, 0)))
    (hE : ∀ e ∈ E, W.heap[e.b]? = some (.cells e.cs e.T (0, 0))) (hnd : ((⟨bp, #[.pointer p], 29, false⟩ : Ent) :: ⟨bf, #[.int .i64 f], 3, false⟩ :: E).Pairwise (fun x y => x.b ≠ y.b)) (hwr : ∀ e ∈ E, e.wr = false) (hM : MadeNo p E) :
    SeqStopsK Fence.wide m Tryz.prog 118 #[.pointer (some ⟨bp, 0, none⟩), .pointer (some ⟨bf, 0, none⟩)] (fun i : Nat => #[.int .i64 i]) (Kept (bp :: bf :: E.map (·.b)))
      (fun xs => xs = []) (fun _ => False) 0 W := by
  intro l J Jx W1 hW hJ hJx hY h0
  have hF := wide_fn
  have g : ∀ x o, W.heap[x]? = some o → W1.heap[x]? = some o := fun x o ho => by rw [hW.block x (lt_of_heap ho)]; exact ho
  have hS : St W1 [] W1 (⟨bp, #[.pointer p], 29, false⟩ :: ⟨bf, #[.int .i64 f], 3, false⟩ :: E) := by
    refine St.start (fun e he => ?_) hnd (fun e he hw => ?_)
    · rcases List.mem_cons.1 he with rfl | he
      · exact g _ _ hp
      · rcases List.mem_cons.1 he with rfl | he
        · exact g _ _ hf
        · exact g _ _ (hE e he)
    · rcases List.mem_cons.1 he with rfl | he
      · cases hw
      · rcases List.mem_cons.1 he with rfl | he
        · cases hw
        · rw [hwr e he] at hw; cases hw
  have hM' := Lib.hid hM
  clear hE hnd hwr hp hf g hM hY hJx hJ hW
  refine callsIn_of_wp Tryz.func118 rfl trivial ?_ rfl
  simp only [Tryz.ntmps118, List.size_toArray, List.length_cons, List.length_nil, Nat.reduceAdd, Nat.reduceSub, Array.replicate_succ, Array.replicate_zero, List.push_toArray, List.append_toArray, List.nil_append, List.cons_append]
  gi_wp2_with (first | (gi_at_call 105; refine callsIn_wide.2 (hM'.out _ _ _ _ (hS.weak (H' := E)) ?_); unfold Ret) | (refine wpListIn_is (.build _ _) rfl ?_; go_must (refine wpListIn_stp hF rfl rfl (stp_val (run_bd _ _ rfl) ?_))) | (refine wpListIn_is (.call { callee := .builtin .clear, args := #[_], argTypes := #[_] }) rfl ?_; go_must (refine wpListIn_stp hF rfl rfl (stp_cl _ _ rfl hS (by decide) ?_)); clear hS; intro w hS) | (refine wpListIn_is (.load _ _) rfl ?_; go_must (first | refine wpListIn_stp hF rfl rfl (stp_val (run_ld _ _ rfl hS) ?_) | refine wpListIn_stp hF rfl rfl (stp_val (run_lda _ _ rfl hS) ?_) | refine wpListIn_stp hF rfl rfl (stp_val (run_ld0 _ _ rfl hS) ?_) | refine wpListIn_stp hF rfl rfl (stp_val (run_lda0 _ _ rfl hS) ?_))) | (refine wpListIn_is (.store _ _ _) rfl ?_; go_must (first | refine wpListIn_stp hF rfl rfl (stp_st _ _ _ rfl hS ?_) | refine wpListIn_stp hF rfl rfl (stp_sta _ _ _ rfl hS ?_)); clear hS; intro w hS) | (refine wpListIn_is (.alloc _) rfl ?_; go_must (refine wpListIn_stp hF rfl rfl (stp_al _ rfl hS ?_)); clear hS; intro bN w hbN hS) | (refine wpListIn_is (.box _ _) rfl ?_; go_must (refine wpListIn_stp hF rfl rfl (stp_bx _ _ rfl hS ?_)); clear hS; intro bN w hbN hS))
  refine bodyPost_ret (results_none rfl _ _ _) rfl ?_
  exact ⟨⟨_, rfl⟩, .inl ⟨[], rfl, h0⟩⟩

theorem grey_no {W : World} {f : Int} {p : Option Addr} {E : List Ent} (hE : ∀ e ∈ E, W.heap[e.b]? = some (.cells e.cs e.T (0, 0))) (hndE : E.Pairwise (fun x y => x.b ≠ y.b)) (hwr : ∀ e ∈ E, e.wr = false) (hM : MadeNo p E)
    (hR : ∀ w', Chg W w' [] → Ret R (.tuple #[.int .i64 0, .bool false]) w') : Calls Tryz.prog 67 #[.pointer p, .int .i64 f] W R := by
  have hS : St W [] W E := St.start hE hndE (fun e he hw => by rw [hwr e he] at hw; cases hw)
  refine (callsIn_wide (n := 3)).1 ?_
  have hF := wide_fn
  refine callsIn_of_wp_marks Tryz.func67 rfl trivial ?_ rfl
  simp only [Tryz.ntmps67, List.size_toArray, List.length_cons, List.length_nil, Nat.reduceAdd, Nat.reduceSub, Array.replicate_succ, Array.replicate_zero, List.push_toArray, List.append_toArray, List.nil_append, List.cons_append]
  gi_wp2_with (first | (gi_at_call 104; refine callsIn_wide.2 (grey_clo hS ?_); clear hS; intro bp bf w hS; unfold Ret) | (refine wpListIn_is (.build _ _) rfl ?_; go_must (refine wpListIn_stp hF rfl rfl (stp_val (run_bd _ _ rfl) ?_))) | (refine wpListIn_is (.call { callee := .builtin .clear, args := #[_], argTypes := #[_] }) rfl ?_; go_must (refine wpListIn_stp hF rfl rfl (stp_cl _ _ rfl hS (by decide) ?_)); clear hS; intro w hS) | (refine wpListIn_is (.load _ _) rfl ?_; go_must (first | refine wpListIn_stp hF rfl rfl (stp_val (run_ld _ _ rfl hS) ?_) | refine wpListIn_stp hF rfl rfl (stp_val (run_lda _ _ rfl hS) ?_) | refine wpListIn_stp hF rfl rfl (stp_val (run_ld0 _ _ rfl hS) ?_) | refine wpListIn_stp hF rfl rfl (stp_val (run_lda0 _ _ rfl hS) ?_))) | (refine wpListIn_is (.store _ _ _) rfl ?_; go_must (first | refine wpListIn_stp hF rfl rfl (stp_st _ _ _ rfl hS ?_) | refine wpListIn_stp hF rfl rfl (stp_sta _ _ _ rfl hS ?_)); clear hS; intro w hS) | (refine wpListIn_is (.alloc _) rfl ?_; go_must (refine wpListIn_stp hF rfl rfl (stp_al _ rfl hS ?_)); clear hS; intro bN w hbN hS) | (refine wpListIn_is (.box _ _) rfl ?_; go_must (refine wpListIn_stp hF rfl rfl (stp_bx _ _ rfl hS ?_)); clear hS; intro bN w hbN hS))
  rename_i c0 _ _ _ _ _
  have hnd := hS.nd
  simp only [List.pairwise_cons, List.mem_cons, forall_eq_or_imp] at hnd
  obtain ⟨⟨n1, n2, n3, n4⟩, ⟨n5, n6, n7⟩, ⟨n8, n9⟩, n10, n11⟩ := hnd
  refine range_st (w0 := W) (bs := []) (X := Unit) (Y := Nat) (by omega) (gf := 118) (lb := #[.pointer (some ⟨bp, 0, none⟩), .pointer (some ⟨bf, 0, none⟩)]) rfl (enters _ (by kernel_rfl))
    (K := ⟨bp, #[.pointer p], 29, true⟩ :: ⟨bf, #[.int .i64 f], 3, true⟩ :: E) hS.chg.size ?_
    (grey_stops_no (by omega) bp bf (hS.has inferInstance) (hS.has inferInstance) (fun e he => hS.get e (by simp [he])) (List.pairwise_cons.2 ⟨fun y hy => ?_, List.pairwise_cons.2 ⟨fun y hy => n4 y hy, hndE⟩⟩) hwr hM) (fun _ => rfl)
    (fun pre _ => pre = []) (fun _ _ => ⟨bf, #[.int .i64 f], 3, true⟩ :: ⟨bp, #[.pointer p], 29, true⟩ :: ⟨bN, #[.bool false], 4, true⟩ :: ⟨c0, #[.int .i64 0], 3, true⟩ :: E) ?_
    (fun c pre y => False) (fun _ _ y => [])
    (x0 := ()) rfl hS
    (fun x => { tmps := #[.pointer p, .int .i64 f, undef, undef, .pointer (some ⟨c0, 0, none⟩), .pointer (some ⟨bN, 0, none⟩), .int .i64 x, .pointer p, .int .i64 f, .func (.func 118) #[] #[.pointer (some ⟨bp, 0, none⟩), .pointer (some ⟨bf, 0, none⟩)], .int .i64 x, undef], defers := [] }) ?assign ?body ?done ?stop
  · intro e he
    refine hS.lt ?_
    simp only [List.mem_cons] at he ⊢
    rcases he with rfl | rfl | he <;> simp [*]
  · rcases List.mem_cons.1 hy with rfl | hy
    · exact fun e => n1 e.symm
    · exact n7 y hy
  · intro _ _ _ e he
    simp only [List.mem_cons] at he ⊢
    rcases he with rfl | rfl | he <;> simp [*]
  case assign =>
    clear hE hndE hwr hM hS n1 n2 n3 n4 n5 n6 n7 n8 n9 n10 n11 hR
    intro l x W K hK
    have hF := wide_in l
    gi_wp2
    exact hK
  case body =>
    rintro l pre el ⟨⟩ w2 rfl hlt _
    exact absurd hlt (Nat.not_lt_zero _)
  case done =>
    rintro d xs ⟨⟩ w2 hxs hnil hS0 hd
    have hS := hS0.rebase
    gi_wp2_with (first | (refine wpListIn_is (.build _ _) rfl ?_; go_must (refine wpListIn_stp hF rfl rfl (stp_val (run_bd _ _ rfl) ?_))) | (refine wpListIn_is (.call { callee := .builtin .clear, args := #[_], argTypes := #[_] }) rfl ?_; go_must (refine wpListIn_stp hF rfl rfl (stp_cl _ _ rfl hS (by decide) ?_)); clear hS; intro w hS) | (refine wpListIn_is (.load _ _) rfl ?_; go_must (first | refine wpListIn_stp hF rfl rfl (stp_val (run_ld _ _ rfl hS) ?_) | refine wpListIn_stp hF rfl rfl (stp_val (run_lda _ _ rfl hS) ?_) | refine wpListIn_stp hF rfl rfl (stp_val (run_ld0 _ _ rfl hS) ?_) | refine wpListIn_stp hF rfl rfl (stp_val (run_lda0 _ _ rfl hS) ?_))) | (refine wpListIn_is (.store _ _ _) rfl ?_; go_must (first | refine wpListIn_stp hF rfl rfl (stp_st _ _ _ rfl hS ?_) | refine wpListIn_stp hF rfl rfl (stp_sta _ _ _ rfl hS ?_)); clear hS; intro w hS) | (refine wpListIn_is (.alloc _) rfl ?_; go_must (refine wpListIn_stp hF rfl rfl (stp_al _ rfl hS ?_)); clear hS; intro bN w hbN hS) | (refine wpListIn_is (.box _ _) rfl ?_; go_must (refine wpListIn_stp hF rfl rfl (stp_bx _ _ rfl hS ?_)); clear hS; intro bN w hbN hS))
    refine leave_st hd hS0 hS (fun W3 hS3 => ⟨_, res_cells2 rfl hS3, ?_⟩)
    exact hR _ hS3.chg
  case stop =>
    rintro d c pre y w2 hf _ _ _
    exact hf.elim

theorem grey_nil {W : World} {f : Int} (hR : ∀ w', Chg W w' [] → Ret R (.tuple #[.int .i64 0, .bool false]) w') : Calls Tryz.prog 67 #[.pointer none, .int .i64 f] W R :=
  grey_no (E := []) (by simp) .nil (by simp) no_nil hR
theorem grey_zero {W : World} {f : Int} (hP : PaintAt W b 0 L) (hR : ∀ w', Chg W w' [] → Ret R (.tuple #[.int .i64 0, .bool false]) w') : Calls Tryz.prog 67 #[.pointer (some ⟨b, 0, none⟩), .int .i64 f] W R :=
  grey_no (E := [⟨b, paintCells 0 L, 86, false⟩]) (by simpa using hP) (by simp) (by simp) no_zero hR

end Go.Proofs.YtgpjanfphgjbbaaGreat.Col
