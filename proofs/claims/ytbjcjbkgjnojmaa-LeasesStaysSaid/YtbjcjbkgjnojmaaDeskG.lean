/-
  Desks of leases: copies; the chapter's examples.
-/
import Derived.Test.YtbjcjbkgjnojmaaOutSl
set_option linter.unusedSimpArgs false
set_option linter.unusedVariables false
namespace Go.Mm
open Go Go.RowKit
section
variable {G : Gs} {χ : Nat → Gx} {k : Nat}
theorem okI_take : ∀ (l : List (Nat × (Gx → Gx → Prop))) (s : Nat) (y : Gx), (∀ q ∈ l.take s, G q.1 = true) → okI G χ y l → okL χ y (l.take s)
  | [], s, y, _, _ => by simp [okL]
  | (j, p) :: l, 0, y, _, _ => trivial
  | (j, p) :: l, s + 1, y, h, hok => by
    rw [List.take_succ_cons] at h ⊢
    unfold okI at hok
    rw [if_pos (h (j, p) (by simp))] at hok
    exact ⟨hok.1, okI_take l s (χ j) (fun q hq => h q (by simp [hq])) hok.2⟩
variable {P : Program} {ops : Array Oper} {md : Region.Mode} {w0 : World} {bs : List Nat} {H : List Ent} {items : List Item}
variable {EE : List Nat → ((Nat → Gx) → Act) → Prop} {M : List Nat} {o : Oper} {rest : List Oper} {A A' : (Nat → Gx) → Act}
/-- A plain operation that needs to know of the first stages of a piece. -/
theorem fx_gvalS (n s : Nat) {it : Item} (hit : items[n]? = some it) (hpre : ((it.st.take s).all fun q => M.contains q.1 && anc md ops q.1 k) = true)
    (hw : ∀ χ, Region.wanted o (yielded ops (A χ).tmps) = true) (hm : mI items k = false) (v : (Nat → Gx) → Value) (hs : Supp md ops k v)
    (hv : ∀ χ w, okL χ it.x0 (it.st.take s) → St w0 bs w H → OpVal P o (A χ) w (v χ)) [hp : ∀ χ, Put (A χ) o.dst (v χ) (A' χ)]
    (h : wpFx P md ops (CI w0 bs items H) (mI items) EE (k + 1) M rest A') : wpFx P md ops (CI w0 bs items H) (mI items) EE k M (o :: rest) A := by
  refine .inl ⟨hw, v, hs, ?_, ?_⟩
  · unfold Yy
    rw [if_neg (by rw [hm]; simp)]
    intro G χ w hT _ hC
    have hG : ∀ q ∈ it.st.take s, G q.1 = true := fun q hq => by
      have := List.all_eq_true.1 hpre q hq
      simp only [Bool.and_eq_true] at this
      exact hT q.1 (by simpa using this.1) this.2
    have hok := okI_take it.st s it.x0 hG (hC.1 it (List.mem_of_getElem? hit))
    unfold stepX
    rw [hv χ w hok (CI.base hC)]
    exact ⟨rfl, hC⟩
  · rw [if_neg (by rw [hm]; simp), show (fun χ => (A χ).put o.dst (v χ)) = A' from funext fun χ => (hp χ).h]
    exact h
theorem stepX_bx {a : Act} {w : World} (t : TypeId) (x : Operand) (ho : o.op = .box t x) (hS : St w0 bs w H) {u : Value} [hx : Ev a x u] {cs : Array Value} [hc : CellsOf u cs] {Φ : Value → World → Prop}
    (h : ∀ b w', w.heap.size ≤ b → St w0 bs w' (⟨b, cs, t, true⟩ :: H) → Φ (.pointer (some ⟨b, 0, none⟩)) w') : stepX P o a w Φ := by
  have hS' : St w0 bs (w.alloc (.cells cs t (0, 0))) (⟨w.heap.size, cs, t, true⟩ :: H) := hS.new (Chg.alloc w _) (Nat.le_refl _) (alloc_new w _)
  have hr : (execOp a.eval o).run P w = .ok (.value (.pointer (some ⟨w.heap.size, 0, none⟩))) (w.alloc (.cells cs t (0, 0))) := by
    simp only [execOp, ho, Instr.box, Sem.run_bind, Sem.run_pure, Result.andThen_ok, hx.h, newVar, newRow, hc.h, run_newObj]
    rfl
  unfold stepX
  rw [hr]
  exact h _ _ (Nat.le_refl _) hS'
end
end Go.Mm
namespace Go.Proofs.Ytbjcjbkgjnojmaa
open Go.RowKit Go.Mm
variable {R : Ending → World → Prop} {w : World} {w0 : World} {bs : List Nat} {H H' H1 E : List Ent}

theorem cons_of {L : List Int} {n : Nat} (h : L.length = n + 1) : ∃ a L', L = a :: L' ∧ L'.length = n := by
  cases L with
  | nil => cases h
  | cons a L => exact ⟨a, L, rfl, by simpa using h⟩
set_option maxHeartbeats 1000000 in
set_option maxRecDepth 100000 in
theorem build_desk {B : List Int} (hB : B.length = 64) (p : Option Addr) : BuildT Try.prog 72 [(0, .pointer p), (1, .agg (B.flatMap j64f).toArray)] (deskC p B) := by
  obtain ⟨a0, B0, rfl, h0⟩ := cons_of hB
  obtain ⟨a1, B1, rfl, h1⟩ := cons_of h0
  obtain ⟨a2, B2, rfl, h2⟩ := cons_of h1
  obtain ⟨a3, B3, rfl, h3⟩ := cons_of h2
  obtain ⟨a4, B4, rfl, h4⟩ := cons_of h3
  obtain ⟨a5, B5, rfl, h5⟩ := cons_of h4
  obtain ⟨a6, B6, rfl, h6⟩ := cons_of h5
  obtain ⟨a7, B7, rfl, h7⟩ := cons_of h6
  obtain ⟨a8, B8, rfl, h8⟩ := cons_of h7
  obtain ⟨a9, B9, rfl, h9⟩ := cons_of h8
  obtain ⟨a10, B10, rfl, h10⟩ := cons_of h9
  obtain ⟨a11, B11, rfl, h11⟩ := cons_of h10
  obtain ⟨a12, B12, rfl, h12⟩ := cons_of h11
  obtain ⟨a13, B13, rfl, h13⟩ := cons_of h12
  obtain ⟨a14, B14, rfl, h14⟩ := cons_of h13
  obtain ⟨a15, B15, rfl, h15⟩ := cons_of h14
  obtain ⟨a16, B16, rfl, h16⟩ := cons_of h15
  obtain ⟨a17, B17, rfl, h17⟩ := cons_of h16
  obtain ⟨a18, B18, rfl, h18⟩ := cons_of h17
  obtain ⟨a19, B19, rfl, h19⟩ := cons_of h18
  obtain ⟨a20, B20, rfl, h20⟩ := cons_of h19
  obtain ⟨a21, B21, rfl, h21⟩ := cons_of h20
  obtain ⟨a22, B22, rfl, h22⟩ := cons_of h21
  obtain ⟨a23, B23, rfl, h23⟩ := cons_of h22
  obtain ⟨a24, B24, rfl, h24⟩ := cons_of h23
  obtain ⟨a25, B25, rfl, h25⟩ := cons_of h24
  obtain ⟨a26, B26, rfl, h26⟩ := cons_of h25
  obtain ⟨a27, B27, rfl, h27⟩ := cons_of h26
  obtain ⟨a28, B28, rfl, h28⟩ := cons_of h27
  obtain ⟨a29, B29, rfl, h29⟩ := cons_of h28
  obtain ⟨a30, B30, rfl, h30⟩ := cons_of h29
  obtain ⟨a31, B31, rfl, h31⟩ := cons_of h30
  obtain ⟨a32, B32, rfl, h32⟩ := cons_of h31
  obtain ⟨a33, B33, rfl, h33⟩ := cons_of h32
  obtain ⟨a34, B34, rfl, h34⟩ := cons_of h33
  obtain ⟨a35, B35, rfl, h35⟩ := cons_of h34
  obtain ⟨a36, B36, rfl, h36⟩ := cons_of h35
  obtain ⟨a37, B37, rfl, h37⟩ := cons_of h36
  obtain ⟨a38, B38, rfl, h38⟩ := cons_of h37
  obtain ⟨a39, B39, rfl, h39⟩ := cons_of h38
  obtain ⟨a40, B40, rfl, h40⟩ := cons_of h39
  obtain ⟨a41, B41, rfl, h41⟩ := cons_of h40
  obtain ⟨a42, B42, rfl, h42⟩ := cons_of h41
  obtain ⟨a43, B43, rfl, h43⟩ := cons_of h42
  obtain ⟨a44, B44, rfl, h44⟩ := cons_of h43
  obtain ⟨a45, B45, rfl, h45⟩ := cons_of h44
  obtain ⟨a46, B46, rfl, h46⟩ := cons_of h45
  obtain ⟨a47, B47, rfl, h47⟩ := cons_of h46
  obtain ⟨a48, B48, rfl, h48⟩ := cons_of h47
  obtain ⟨a49, B49, rfl, h49⟩ := cons_of h48
  obtain ⟨a50, B50, rfl, h50⟩ := cons_of h49
  obtain ⟨a51, B51, rfl, h51⟩ := cons_of h50
  obtain ⟨a52, B52, rfl, h52⟩ := cons_of h51
  obtain ⟨a53, B53, rfl, h53⟩ := cons_of h52
  obtain ⟨a54, B54, rfl, h54⟩ := cons_of h53
  obtain ⟨a55, B55, rfl, h55⟩ := cons_of h54
  obtain ⟨a56, B56, rfl, h56⟩ := cons_of h55
  obtain ⟨a57, B57, rfl, h57⟩ := cons_of h56
  obtain ⟨a58, B58, rfl, h58⟩ := cons_of h57
  obtain ⟨a59, B59, rfl, h59⟩ := cons_of h58
  obtain ⟨a60, B60, rfl, h60⟩ := cons_of h59
  obtain ⟨a61, B61, rfl, h61⟩ := cons_of h60
  obtain ⟨a62, B62, rfl, h62⟩ := cons_of h61
  obtain ⟨a63, B63, rfl, h63⟩ := cons_of h62
  obtain rfl : B63 = [] := List.eq_nil_of_length_eq_zero h63
  exact ⟨fun w => by kernel_rfl⟩
theorem deskArr {t : Option Addr} {B : List Int} (hB : B.length = 64) : CellsAt (deskC t B) (0 + 1) 64 (B.flatMap j64f).toArray := by
  have hl := flat_len j64f_len B
  refine ⟨fun j hj => ?_, by simp [hl, hB]⟩
  unfold deskC blk
  simp
  rw [Nat.add_comm 1 j, List.getElem?_cons_succ]
instance a_arr : AggT Try.prog 70 64 := ⟨by kernel_rfl, by kernel_rfl⟩

theorem lease_ok (hO : St w0 bs w H) (i g : Int) (hR : ∀ w', St w0 bs w' H → Ret R (.agg #[.int .i64 3, .int .i64 i, .int .u32 g]) w') : Calls Try.prog 17 #[.int .i64 i, .int .u32 g] w R := by
  have hS := hO
  clear hO
  go_enter Try.func17, Try.ntmps17
  go_wp2_with (first | go_skip | (refine wpList_is (.alloc 29) rfl ?_; go_must (refine wpList_stp rfl (stp_al _ rfl hS ?_)); clear hS; intro bo w _ hS) | go_skip | (refine wpList_is (.build _ _) rfl ?_; go_must (refine wpList_stp rfl (stp_val (run_bd _ _ rfl) ?_))) | (refine wpList_is (.call { callee := .builtin .clear, args := #[_], argTypes := #[_] }) rfl ?_; go_must (refine wpList_stp rfl (stp_cl _ _ rfl hS (by decide) ?_)); clear hS; intro w hS) | (refine wpList_is (.load _ _) rfl ?_; go_must (first | refine wpList_stp rfl (stp_val (run_ld _ _ rfl hS) ?_) | refine wpList_stp rfl (stp_val (run_lda _ _ rfl hS) ?_) | refine wpList_stp rfl (stp_val (run_ld0 _ _ rfl hS) ?_) | refine wpList_stp rfl (stp_val (run_lda0 _ _ rfl hS) ?_))) | (refine wpList_is (.store _ _ _) rfl ?_; go_must (first | refine wpList_stp rfl (stp_st _ _ _ rfl hS ?_) | refine wpList_stp rfl (stp_sta _ _ _ rfl hS ?_)); clear hS; intro w hS) | (refine wpList_is (.alloc _) rfl ?_; go_must (refine wpList_stp rfl (stp_al _ rfl hS ?_)); clear hS; intro bN w hbN hS) | (refine wpList_is (.box _ _) rfl ?_; go_must (refine wpList_stp rfl (stp_bx _ _ rfl hS ?_)); clear hS; intro bN w hbN hS) | (refine wpList_is (.binOp .eql _ _ (.const (.slice none _ _)) _) rfl ?_; refine wpList_stp rfl (stp_val (run_nse _ _ _ rfl) ?_)) | (refine wpList_is (.binOp .neq _ _ (.const (.slice none _ _)) _) rfl ?_; refine wpList_stp rfl (stp_val (run_nsn _ _ _ rfl) ?_)))
  refine bodyPost_ret (res_cells1 rfl hS) rfl ?_
  exact hR _ hS.pick

set_option maxHeartbeats 1000000 in
set_option maxRecDepth 100000 in
theorem dk_copy {p : Option Addr} {T : Dk} (hO : St w0 bs w H) (hT : DA p T E) [hc : Cut H E H1] (T' : Dk) (hT' : cpD T = T')
    (hR : ∀ p' E' w', DA p' T' E' → DA p T E → St w0 bs w' (E' ++ (E ++ H1)) → Ret R (.pointer p') w') : Calls Try.prog 31 #[.pointer p] w R := by
  have hS := hO.front (E := E) (H1 := H1)
  clear hO
  subst hT'
  rcases T with _ | _ | L
  · go_enter Try.func31, Try.ntmps31
    go_wp2_with (first | go_skip | (go_at_call 37; refine dmade hS hT false rfl ?_; clear hS; intro w hS; unfold Ret) | go_skip | (refine wpList_is (.build _ _) rfl ?_; go_must (refine wpList_stp rfl (stp_val (run_bd _ _ rfl) ?_))) | (refine wpList_is (.call { callee := .builtin .clear, args := #[_], argTypes := #[_] }) rfl ?_; go_must (refine wpList_stp rfl (stp_cl _ _ rfl hS (by decide) ?_)); clear hS; intro w hS) | (refine wpList_is (.load _ _) rfl ?_; go_must (first | refine wpList_stp rfl (stp_val (run_ld _ _ rfl hS) ?_) | refine wpList_stp rfl (stp_val (run_lda _ _ rfl hS) ?_) | refine wpList_stp rfl (stp_val (run_ld0 _ _ rfl hS) ?_) | refine wpList_stp rfl (stp_val (run_lda0 _ _ rfl hS) ?_))) | (refine wpList_is (.store _ _ _) rfl ?_; go_must (first | refine wpList_stp rfl (stp_st _ _ _ rfl hS ?_) | refine wpList_stp rfl (stp_sta _ _ _ rfl hS ?_)); clear hS; intro w hS) | (refine wpList_is (.alloc _) rfl ?_; go_must (refine wpList_stp rfl (stp_al _ rfl hS ?_)); clear hS; intro bN w hbN hS) | (refine wpList_is (.box _ _) rfl ?_; go_must (refine wpList_stp rfl (stp_bx _ _ rfl hS ?_)); clear hS; intro bN w hbN hS) | (refine wpList_is (.binOp .eql _ _ (.const (.slice none _ _)) _) rfl ?_; refine wpList_stp rfl (stp_val (run_nse _ _ _ rfl) ?_)) | (refine wpList_is (.binOp .neq _ _ (.const (.slice none _ _)) _) rfl ?_; refine wpList_stp rfl (stp_val (run_nsn _ _ _ rfl) ?_)))
    exact hR _ _ _ DA.none hT hS.pick
  · go_enter Try.func31, Try.ntmps31
    go_wp2_with (first | go_skip | (go_at_call 37; refine dmade hS hT false rfl ?_; clear hS; intro w hS; unfold Ret) | go_skip | (refine wpList_is (.build _ _) rfl ?_; go_must (refine wpList_stp rfl (stp_val (run_bd _ _ rfl) ?_))) | (refine wpList_is (.call { callee := .builtin .clear, args := #[_], argTypes := #[_] }) rfl ?_; go_must (refine wpList_stp rfl (stp_cl _ _ rfl hS (by decide) ?_)); clear hS; intro w hS) | (refine wpList_is (.load _ _) rfl ?_; go_must (first | refine wpList_stp rfl (stp_val (run_ld _ _ rfl hS) ?_) | refine wpList_stp rfl (stp_val (run_lda _ _ rfl hS) ?_) | refine wpList_stp rfl (stp_val (run_ld0 _ _ rfl hS) ?_) | refine wpList_stp rfl (stp_val (run_lda0 _ _ rfl hS) ?_))) | (refine wpList_is (.store _ _ _) rfl ?_; go_must (first | refine wpList_stp rfl (stp_st _ _ _ rfl hS ?_) | refine wpList_stp rfl (stp_sta _ _ _ rfl hS ?_)); clear hS; intro w hS) | (refine wpList_is (.alloc _) rfl ?_; go_must (refine wpList_stp rfl (stp_al _ rfl hS ?_)); clear hS; intro bN w hbN hS) | (refine wpList_is (.box _ _) rfl ?_; go_must (refine wpList_stp rfl (stp_bx _ _ rfl hS ?_)); clear hS; intro bN w hbN hS) | (refine wpList_is (.binOp .eql _ _ (.const (.slice none _ _)) _) rfl ?_; refine wpList_stp rfl (stp_val (run_nse _ _ _ rfl) ?_)) | (refine wpList_is (.binOp .neq _ _ (.const (.slice none _ _)) _) rfl ?_; refine wpList_stp rfl (stp_val (run_nsn _ _ _ rfl) ?_)))
    exact hR _ _ _ DA.none hT hS.pick
  obtain ⟨hW, b, bt, Et, rfl, hTt, rfl⟩ := id hT
  have hl64 := padD_len hW.hi
  obtain ⟨B, hB⟩ : ∃ B, padD L = B := ⟨_, rfl⟩
  rw [hB] at hl64
  have i1 := deskArr (t := some ⟨bt, 0, none⟩) hl64
  have i2 := fun q => build_desk hl64 q
  have hcp : cpT (some (tbD L)) = some (tbD L) := by
    have := hW.lo
    simp [cpT, tbOk, tbD_len, this]
  have hcp' := Lib.hid hcp
  have hB' := Lib.hid hB
  rw [hB] at hS
  clear hcp
  go_enter Try.func31, Try.ntmps31
  go_wp2_with (first | go_skip | (go_at_call 37; refine dmade hS (show DA (some ⟨b, 0, none⟩) (some (some L)) (⟨b, deskC (some ⟨bt, 0, none⟩) B, 72, true⟩ :: Et) from ⟨hW, b, bt, Et, rfl, hTt, by rw [hB]⟩) true rfl ?_; clear hS; intro w hS; simp only [List.cons_append] at hS; unfold Ret) | go_skip | (refine wpList_is (.build _ _) rfl ?_; go_must (refine wpList_stp rfl (stp_val (run_bd _ _ rfl) ?_))) | (refine wpList_is (.call { callee := .builtin .clear, args := #[_], argTypes := #[_] }) rfl ?_; go_must (refine wpList_stp rfl (stp_cl _ _ rfl hS (by decide) ?_)); clear hS; intro w hS) | (refine wpList_is (.load _ _) rfl ?_; go_must (first | refine wpList_stp rfl (stp_val (run_ld _ _ rfl hS) ?_) | refine wpList_stp rfl (stp_val (run_lda _ _ rfl hS) ?_) | refine wpList_stp rfl (stp_val (run_ld0 _ _ rfl hS) ?_) | refine wpList_stp rfl (stp_val (run_lda0 _ _ rfl hS) ?_))) | (refine wpList_is (.store _ _ _) rfl ?_; go_must (first | refine wpList_stp rfl (stp_st _ _ _ rfl hS ?_) | refine wpList_stp rfl (stp_sta _ _ _ rfl hS ?_)); clear hS; intro w hS) | (refine wpList_is (.alloc _) rfl ?_; go_must (refine wpList_stp rfl (stp_al _ rfl hS ?_)); clear hS; intro bN w hbN hS) | (refine wpList_is (.box _ _) rfl ?_; go_must (refine wpList_stp rfl (stp_bx _ _ rfl hS ?_)); clear hS; intro bN w hbN hS) | (refine wpList_is (.binOp .eql _ _ (.const (.slice none _ _)) _) rfl ?_; refine wpList_stp rfl (stp_val (run_nse _ _ _ rfl) ?_)) | (refine wpList_is (.binOp .neq _ _ (.const (.slice none _ _)) _) rfl ?_; refine wpList_stp rfl (stp_val (run_nsn _ _ _ rfl) ?_)))
  refine region_itemsE [⟨(undef, []), [(4, fun _ x => ∃ q, x.1 = .pointer q ∧ TA q (some (tbD L)) x.2), (10, fun y x => ∃ b' q, y.1 = .pointer q ∧ x.1 = .pointer (some ⟨b', 0, none⟩) ∧ x.2 = ⟨b', deskC q B, 72, true⟩ :: y.2)]⟩] (⟨b, deskC (some ⟨bt, 0, none⟩) B, 72, true⟩ :: (Et ++ H1)) (⟨b, deskC (some ⟨bt, 0, none⟩) B, 72, true⟩ :: (Et ++ H1)) (by simp) hS.pick (by kernel_rfl) (by kernel_rfl) ?_
  first | (refine fx_val (fun _ => rfl) rfl (fun χ w hw => run_mv _ rfl) ?_) | (refine fx_val (fun _ => rfl) rfl (fun χ w hw => run_as _ rfl) ?_) | (refine fx_val (fun _ => rfl) rfl (fun χ w hw => run_fa _ _ _ rfl) ?_) | (refine fx_val (fun _ => rfl) rfl (fun χ w hw => run_ld _ _ rfl hw) ?_) | (refine fx_val (fun _ => rfl) rfl (fun χ w hw => run_lda _ _ rfl hw) ?_) | (refine fx_val (fun _ => rfl) rfl (fun χ w hw => run_ld0 _ _ rfl hw) ?_) | (refine fx_val (fun _ => rfl) rfl (fun χ w hw => run_lda0 _ _ rfl hw) ?_) | (refine fx_val (fun _ => rfl) rfl (fun χ w hw => run_ine _ _ _ _ rfl) ?_) | (refine fx_val (fun _ => rfl) rfl (fun χ w hw => run_aeq _ _ _ _ rfl) ?_) | (refine fx_val (fun _ => rfl) rfl (fun χ w hw => run_ane _ _ _ _ rfl) ?_) | (refine fx_val (fun _ => rfl) rfl (fun χ w hw => run_lenv _ _ rfl) ?_) | (refine fx_val (fun _ => rfl) rfl (fun χ w hw => run_idxv _ _ _ rfl) ?_) | (refine fx_val (fun _ => rfl) rfl (fun χ w hw => run_pk1 _ _ _ rfl) ?_) | (refine fx_val (fun _ => rfl) rfl (fun χ w hw => run_pk2 _ _ _ rfl) ?_) | (refine fx_val (fun _ => rfl) rfl (fun χ w hw => run_nse _ _ _ rfl) ?_) | (refine fx_val (fun _ => rfl) rfl (fun χ w hw => run_nsn _ _ _ rfl) ?_) | (refine fx_val (fun _ => rfl) rfl (fun χ w hw => run_bd _ _ rfl) ?_) | (refine fx_val (fun _ => rfl) rfl (fun χ w hw => run_ieq _ _ _ _ rfl) ?_) | (refine fx_val (fun _ => rfl) rfl (fun χ w hw => run_beq _ _ _ _ rfl) ?_) | (refine fx_val (fun _ => rfl) rfl (fun χ w hw => run_bne _ _ _ _ rfl) ?_) | (refine fx_val (fun _ => rfl) rfl (fun χ w hw => run_bnot _ _ rfl) ?_) | (refine fx_val (fun _ => rfl) rfl (fun χ w hw => run_ext _ _ rfl) ?_) | (refine fx_val (fun _ => rfl) rfl (fun χ w hw => run_ilit _ _ _ _ rfl) ?_) | (refine fx_val (fun _ => rfl) rfl (fun χ w hw => run_cvn _ _ _ rfl) ?_) | (refine fx_val (fun _ => rfl) rfl (fun χ w hw => run_remn _ _ _ _ rfl (by decide)) ?_) | (refine fx_val (fun _ => rfl) rfl (fun χ w hw => run_nc _ rfl) ?_) | (refine fx_val (fun _ => rfl) rfl (fun χ w hw => run_inlit _ _ _ _ rfl) ?_) | (refine fx_skip (fun _ => rfl) ?_)
  first | (refine fx_val (fun _ => rfl) rfl (fun χ w hw => run_mv _ rfl) ?_) | (refine fx_val (fun _ => rfl) rfl (fun χ w hw => run_as _ rfl) ?_) | (refine fx_val (fun _ => rfl) rfl (fun χ w hw => run_fa _ _ _ rfl) ?_) | (refine fx_val (fun _ => rfl) rfl (fun χ w hw => run_ld _ _ rfl hw) ?_) | (refine fx_val (fun _ => rfl) rfl (fun χ w hw => run_lda _ _ rfl hw) ?_) | (refine fx_val (fun _ => rfl) rfl (fun χ w hw => run_ld0 _ _ rfl hw) ?_) | (refine fx_val (fun _ => rfl) rfl (fun χ w hw => run_lda0 _ _ rfl hw) ?_) | (refine fx_val (fun _ => rfl) rfl (fun χ w hw => run_ine _ _ _ _ rfl) ?_) | (refine fx_val (fun _ => rfl) rfl (fun χ w hw => run_aeq _ _ _ _ rfl) ?_) | (refine fx_val (fun _ => rfl) rfl (fun χ w hw => run_ane _ _ _ _ rfl) ?_) | (refine fx_val (fun _ => rfl) rfl (fun χ w hw => run_lenv _ _ rfl) ?_) | (refine fx_val (fun _ => rfl) rfl (fun χ w hw => run_idxv _ _ _ rfl) ?_) | (refine fx_val (fun _ => rfl) rfl (fun χ w hw => run_pk1 _ _ _ rfl) ?_) | (refine fx_val (fun _ => rfl) rfl (fun χ w hw => run_pk2 _ _ _ rfl) ?_) | (refine fx_val (fun _ => rfl) rfl (fun χ w hw => run_nse _ _ _ rfl) ?_) | (refine fx_val (fun _ => rfl) rfl (fun χ w hw => run_nsn _ _ _ rfl) ?_) | (refine fx_val (fun _ => rfl) rfl (fun χ w hw => run_bd _ _ rfl) ?_) | (refine fx_val (fun _ => rfl) rfl (fun χ w hw => run_ieq _ _ _ _ rfl) ?_) | (refine fx_val (fun _ => rfl) rfl (fun χ w hw => run_beq _ _ _ _ rfl) ?_) | (refine fx_val (fun _ => rfl) rfl (fun χ w hw => run_bne _ _ _ _ rfl) ?_) | (refine fx_val (fun _ => rfl) rfl (fun χ w hw => run_bnot _ _ rfl) ?_) | (refine fx_val (fun _ => rfl) rfl (fun χ w hw => run_ext _ _ rfl) ?_) | (refine fx_val (fun _ => rfl) rfl (fun χ w hw => run_ilit _ _ _ _ rfl) ?_) | (refine fx_val (fun _ => rfl) rfl (fun χ w hw => run_cvn _ _ _ rfl) ?_) | (refine fx_val (fun _ => rfl) rfl (fun χ w hw => run_remn _ _ _ _ rfl (by decide)) ?_) | (refine fx_val (fun _ => rfl) rfl (fun χ w hw => run_nc _ rfl) ?_) | (refine fx_val (fun _ => rfl) rfl (fun χ w hw => run_inlit _ _ _ _ rfl) ?_) | (refine fx_skip (fun _ => rfl) ?_)
  first | (refine fx_val (fun _ => rfl) rfl (fun χ w hw => run_mv _ rfl) ?_) | (refine fx_val (fun _ => rfl) rfl (fun χ w hw => run_as _ rfl) ?_) | (refine fx_val (fun _ => rfl) rfl (fun χ w hw => run_fa _ _ _ rfl) ?_) | (refine fx_val (fun _ => rfl) rfl (fun χ w hw => run_ld _ _ rfl hw) ?_) | (refine fx_val (fun _ => rfl) rfl (fun χ w hw => run_lda _ _ rfl hw) ?_) | (refine fx_val (fun _ => rfl) rfl (fun χ w hw => run_ld0 _ _ rfl hw) ?_) | (refine fx_val (fun _ => rfl) rfl (fun χ w hw => run_lda0 _ _ rfl hw) ?_) | (refine fx_val (fun _ => rfl) rfl (fun χ w hw => run_ine _ _ _ _ rfl) ?_) | (refine fx_val (fun _ => rfl) rfl (fun χ w hw => run_aeq _ _ _ _ rfl) ?_) | (refine fx_val (fun _ => rfl) rfl (fun χ w hw => run_ane _ _ _ _ rfl) ?_) | (refine fx_val (fun _ => rfl) rfl (fun χ w hw => run_lenv _ _ rfl) ?_) | (refine fx_val (fun _ => rfl) rfl (fun χ w hw => run_idxv _ _ _ rfl) ?_) | (refine fx_val (fun _ => rfl) rfl (fun χ w hw => run_pk1 _ _ _ rfl) ?_) | (refine fx_val (fun _ => rfl) rfl (fun χ w hw => run_pk2 _ _ _ rfl) ?_) | (refine fx_val (fun _ => rfl) rfl (fun χ w hw => run_nse _ _ _ rfl) ?_) | (refine fx_val (fun _ => rfl) rfl (fun χ w hw => run_nsn _ _ _ rfl) ?_) | (refine fx_val (fun _ => rfl) rfl (fun χ w hw => run_bd _ _ rfl) ?_) | (refine fx_val (fun _ => rfl) rfl (fun χ w hw => run_ieq _ _ _ _ rfl) ?_) | (refine fx_val (fun _ => rfl) rfl (fun χ w hw => run_beq _ _ _ _ rfl) ?_) | (refine fx_val (fun _ => rfl) rfl (fun χ w hw => run_bne _ _ _ _ rfl) ?_) | (refine fx_val (fun _ => rfl) rfl (fun χ w hw => run_bnot _ _ rfl) ?_) | (refine fx_val (fun _ => rfl) rfl (fun χ w hw => run_ext _ _ rfl) ?_) | (refine fx_val (fun _ => rfl) rfl (fun χ w hw => run_ilit _ _ _ _ rfl) ?_) | (refine fx_val (fun _ => rfl) rfl (fun χ w hw => run_cvn _ _ _ rfl) ?_) | (refine fx_val (fun _ => rfl) rfl (fun χ w hw => run_remn _ _ _ _ rfl (by decide)) ?_) | (refine fx_val (fun _ => rfl) rfl (fun χ w hw => run_nc _ rfl) ?_) | (refine fx_val (fun _ => rfl) rfl (fun χ w hw => run_inlit _ _ _ _ rfl) ?_) | (refine fx_skip (fun _ => rfl) ?_)
  first | (refine fx_val (fun _ => rfl) rfl (fun χ w hw => run_mv _ rfl) ?_) | (refine fx_val (fun _ => rfl) rfl (fun χ w hw => run_as _ rfl) ?_) | (refine fx_val (fun _ => rfl) rfl (fun χ w hw => run_fa _ _ _ rfl) ?_) | (refine fx_val (fun _ => rfl) rfl (fun χ w hw => run_ld _ _ rfl hw) ?_) | (refine fx_val (fun _ => rfl) rfl (fun χ w hw => run_lda _ _ rfl hw) ?_) | (refine fx_val (fun _ => rfl) rfl (fun χ w hw => run_ld0 _ _ rfl hw) ?_) | (refine fx_val (fun _ => rfl) rfl (fun χ w hw => run_lda0 _ _ rfl hw) ?_) | (refine fx_val (fun _ => rfl) rfl (fun χ w hw => run_ine _ _ _ _ rfl) ?_) | (refine fx_val (fun _ => rfl) rfl (fun χ w hw => run_aeq _ _ _ _ rfl) ?_) | (refine fx_val (fun _ => rfl) rfl (fun χ w hw => run_ane _ _ _ _ rfl) ?_) | (refine fx_val (fun _ => rfl) rfl (fun χ w hw => run_lenv _ _ rfl) ?_) | (refine fx_val (fun _ => rfl) rfl (fun χ w hw => run_idxv _ _ _ rfl) ?_) | (refine fx_val (fun _ => rfl) rfl (fun χ w hw => run_pk1 _ _ _ rfl) ?_) | (refine fx_val (fun _ => rfl) rfl (fun χ w hw => run_pk2 _ _ _ rfl) ?_) | (refine fx_val (fun _ => rfl) rfl (fun χ w hw => run_nse _ _ _ rfl) ?_) | (refine fx_val (fun _ => rfl) rfl (fun χ w hw => run_nsn _ _ _ rfl) ?_) | (refine fx_val (fun _ => rfl) rfl (fun χ w hw => run_bd _ _ rfl) ?_) | (refine fx_val (fun _ => rfl) rfl (fun χ w hw => run_ieq _ _ _ _ rfl) ?_) | (refine fx_val (fun _ => rfl) rfl (fun χ w hw => run_beq _ _ _ _ rfl) ?_) | (refine fx_val (fun _ => rfl) rfl (fun χ w hw => run_bne _ _ _ _ rfl) ?_) | (refine fx_val (fun _ => rfl) rfl (fun χ w hw => run_bnot _ _ rfl) ?_) | (refine fx_val (fun _ => rfl) rfl (fun χ w hw => run_ext _ _ rfl) ?_) | (refine fx_val (fun _ => rfl) rfl (fun χ w hw => run_ilit _ _ _ _ rfl) ?_) | (refine fx_val (fun _ => rfl) rfl (fun χ w hw => run_cvn _ _ _ rfl) ?_) | (refine fx_val (fun _ => rfl) rfl (fun χ w hw => run_remn _ _ _ _ rfl (by decide)) ?_) | (refine fx_val (fun _ => rfl) rfl (fun χ w hw => run_nc _ rfl) ?_) | (refine fx_val (fun _ => rfl) rfl (fun χ w hw => run_inlit _ _ _ _ rfl) ?_) | (refine fx_skip (fun _ => rfl) ?_)
  refine fx_turn 0 0 rfl rfl (by first | rfl | kernel_rfl) (by first | rfl | kernel_rfl) (by first | rfl | kernel_rfl) 59 [_] _ rfl (fun _ => rfl) (enters _ (by kernel_rfl)) (fun x => x.1) ?_ ?_
  · intro χ X w _ hS
    exact sl_copy (show St w0 bs w (X ++ (⟨b, deskC (some ⟨bt, 0, none⟩) B, 72, true⟩ :: (Et ++ H1))) from hS) hTt (fun q E2 w' h2 _ hS' => by rw [hcp'.out] at h2; exact ⟨(.pointer q, E2), rfl, ⟨q, rfl, h2⟩, show St w0 bs w' (E2 ++ (X ++ (⟨b, deskC (some ⟨bt, 0, none⟩) B, 72, true⟩ :: (Et ++ H1)))) from hS'.pick⟩)
  first | (refine fx_val (fun _ => rfl) rfl (fun χ w hw => run_mv _ rfl) ?_) | (refine fx_val (fun _ => rfl) rfl (fun χ w hw => run_as _ rfl) ?_) | (refine fx_val (fun _ => rfl) rfl (fun χ w hw => run_fa _ _ _ rfl) ?_) | (refine fx_val (fun _ => rfl) rfl (fun χ w hw => run_ld _ _ rfl hw) ?_) | (refine fx_val (fun _ => rfl) rfl (fun χ w hw => run_lda _ _ rfl hw) ?_) | (refine fx_val (fun _ => rfl) rfl (fun χ w hw => run_ld0 _ _ rfl hw) ?_) | (refine fx_val (fun _ => rfl) rfl (fun χ w hw => run_lda0 _ _ rfl hw) ?_) | (refine fx_val (fun _ => rfl) rfl (fun χ w hw => run_ine _ _ _ _ rfl) ?_) | (refine fx_val (fun _ => rfl) rfl (fun χ w hw => run_aeq _ _ _ _ rfl) ?_) | (refine fx_val (fun _ => rfl) rfl (fun χ w hw => run_ane _ _ _ _ rfl) ?_) | (refine fx_val (fun _ => rfl) rfl (fun χ w hw => run_lenv _ _ rfl) ?_) | (refine fx_val (fun _ => rfl) rfl (fun χ w hw => run_idxv _ _ _ rfl) ?_) | (refine fx_val (fun _ => rfl) rfl (fun χ w hw => run_pk1 _ _ _ rfl) ?_) | (refine fx_val (fun _ => rfl) rfl (fun χ w hw => run_pk2 _ _ _ rfl) ?_) | (refine fx_val (fun _ => rfl) rfl (fun χ w hw => run_nse _ _ _ rfl) ?_) | (refine fx_val (fun _ => rfl) rfl (fun χ w hw => run_nsn _ _ _ rfl) ?_) | (refine fx_val (fun _ => rfl) rfl (fun χ w hw => run_bd _ _ rfl) ?_) | (refine fx_val (fun _ => rfl) rfl (fun χ w hw => run_ieq _ _ _ _ rfl) ?_) | (refine fx_val (fun _ => rfl) rfl (fun χ w hw => run_beq _ _ _ _ rfl) ?_) | (refine fx_val (fun _ => rfl) rfl (fun χ w hw => run_bne _ _ _ _ rfl) ?_) | (refine fx_val (fun _ => rfl) rfl (fun χ w hw => run_bnot _ _ rfl) ?_) | (refine fx_val (fun _ => rfl) rfl (fun χ w hw => run_ext _ _ rfl) ?_) | (refine fx_val (fun _ => rfl) rfl (fun χ w hw => run_ilit _ _ _ _ rfl) ?_) | (refine fx_val (fun _ => rfl) rfl (fun χ w hw => run_cvn _ _ _ rfl) ?_) | (refine fx_val (fun _ => rfl) rfl (fun χ w hw => run_remn _ _ _ _ rfl (by decide)) ?_) | (refine fx_val (fun _ => rfl) rfl (fun χ w hw => run_nc _ rfl) ?_) | (refine fx_val (fun _ => rfl) rfl (fun χ w hw => run_inlit _ _ _ _ rfl) ?_) | (refine fx_skip (fun _ => rfl) ?_)
  first | (refine fx_val (fun _ => rfl) rfl (fun χ w hw => run_mv _ rfl) ?_) | (refine fx_val (fun _ => rfl) rfl (fun χ w hw => run_as _ rfl) ?_) | (refine fx_val (fun _ => rfl) rfl (fun χ w hw => run_fa _ _ _ rfl) ?_) | (refine fx_val (fun _ => rfl) rfl (fun χ w hw => run_ld _ _ rfl hw) ?_) | (refine fx_val (fun _ => rfl) rfl (fun χ w hw => run_lda _ _ rfl hw) ?_) | (refine fx_val (fun _ => rfl) rfl (fun χ w hw => run_ld0 _ _ rfl hw) ?_) | (refine fx_val (fun _ => rfl) rfl (fun χ w hw => run_lda0 _ _ rfl hw) ?_) | (refine fx_val (fun _ => rfl) rfl (fun χ w hw => run_ine _ _ _ _ rfl) ?_) | (refine fx_val (fun _ => rfl) rfl (fun χ w hw => run_aeq _ _ _ _ rfl) ?_) | (refine fx_val (fun _ => rfl) rfl (fun χ w hw => run_ane _ _ _ _ rfl) ?_) | (refine fx_val (fun _ => rfl) rfl (fun χ w hw => run_lenv _ _ rfl) ?_) | (refine fx_val (fun _ => rfl) rfl (fun χ w hw => run_idxv _ _ _ rfl) ?_) | (refine fx_val (fun _ => rfl) rfl (fun χ w hw => run_pk1 _ _ _ rfl) ?_) | (refine fx_val (fun _ => rfl) rfl (fun χ w hw => run_pk2 _ _ _ rfl) ?_) | (refine fx_val (fun _ => rfl) rfl (fun χ w hw => run_nse _ _ _ rfl) ?_) | (refine fx_val (fun _ => rfl) rfl (fun χ w hw => run_nsn _ _ _ rfl) ?_) | (refine fx_val (fun _ => rfl) rfl (fun χ w hw => run_bd _ _ rfl) ?_) | (refine fx_val (fun _ => rfl) rfl (fun χ w hw => run_ieq _ _ _ _ rfl) ?_) | (refine fx_val (fun _ => rfl) rfl (fun χ w hw => run_beq _ _ _ _ rfl) ?_) | (refine fx_val (fun _ => rfl) rfl (fun χ w hw => run_bne _ _ _ _ rfl) ?_) | (refine fx_val (fun _ => rfl) rfl (fun χ w hw => run_bnot _ _ rfl) ?_) | (refine fx_val (fun _ => rfl) rfl (fun χ w hw => run_ext _ _ rfl) ?_) | (refine fx_val (fun _ => rfl) rfl (fun χ w hw => run_ilit _ _ _ _ rfl) ?_) | (refine fx_val (fun _ => rfl) rfl (fun χ w hw => run_cvn _ _ _ rfl) ?_) | (refine fx_val (fun _ => rfl) rfl (fun χ w hw => run_remn _ _ _ _ rfl (by decide)) ?_) | (refine fx_val (fun _ => rfl) rfl (fun χ w hw => run_nc _ rfl) ?_) | (refine fx_val (fun _ => rfl) rfl (fun χ w hw => run_inlit _ _ _ _ rfl) ?_) | (refine fx_skip (fun _ => rfl) ?_)
  first | (refine fx_val (fun _ => rfl) rfl (fun χ w hw => run_mv _ rfl) ?_) | (refine fx_val (fun _ => rfl) rfl (fun χ w hw => run_as _ rfl) ?_) | (refine fx_val (fun _ => rfl) rfl (fun χ w hw => run_fa _ _ _ rfl) ?_) | (refine fx_val (fun _ => rfl) rfl (fun χ w hw => run_ld _ _ rfl hw) ?_) | (refine fx_val (fun _ => rfl) rfl (fun χ w hw => run_lda _ _ rfl hw) ?_) | (refine fx_val (fun _ => rfl) rfl (fun χ w hw => run_ld0 _ _ rfl hw) ?_) | (refine fx_val (fun _ => rfl) rfl (fun χ w hw => run_lda0 _ _ rfl hw) ?_) | (refine fx_val (fun _ => rfl) rfl (fun χ w hw => run_ine _ _ _ _ rfl) ?_) | (refine fx_val (fun _ => rfl) rfl (fun χ w hw => run_aeq _ _ _ _ rfl) ?_) | (refine fx_val (fun _ => rfl) rfl (fun χ w hw => run_ane _ _ _ _ rfl) ?_) | (refine fx_val (fun _ => rfl) rfl (fun χ w hw => run_lenv _ _ rfl) ?_) | (refine fx_val (fun _ => rfl) rfl (fun χ w hw => run_idxv _ _ _ rfl) ?_) | (refine fx_val (fun _ => rfl) rfl (fun χ w hw => run_pk1 _ _ _ rfl) ?_) | (refine fx_val (fun _ => rfl) rfl (fun χ w hw => run_pk2 _ _ _ rfl) ?_) | (refine fx_val (fun _ => rfl) rfl (fun χ w hw => run_nse _ _ _ rfl) ?_) | (refine fx_val (fun _ => rfl) rfl (fun χ w hw => run_nsn _ _ _ rfl) ?_) | (refine fx_val (fun _ => rfl) rfl (fun χ w hw => run_bd _ _ rfl) ?_) | (refine fx_val (fun _ => rfl) rfl (fun χ w hw => run_ieq _ _ _ _ rfl) ?_) | (refine fx_val (fun _ => rfl) rfl (fun χ w hw => run_beq _ _ _ _ rfl) ?_) | (refine fx_val (fun _ => rfl) rfl (fun χ w hw => run_bne _ _ _ _ rfl) ?_) | (refine fx_val (fun _ => rfl) rfl (fun χ w hw => run_bnot _ _ rfl) ?_) | (refine fx_val (fun _ => rfl) rfl (fun χ w hw => run_ext _ _ rfl) ?_) | (refine fx_val (fun _ => rfl) rfl (fun χ w hw => run_ilit _ _ _ _ rfl) ?_) | (refine fx_val (fun _ => rfl) rfl (fun χ w hw => run_cvn _ _ _ rfl) ?_) | (refine fx_val (fun _ => rfl) rfl (fun χ w hw => run_remn _ _ _ _ rfl (by decide)) ?_) | (refine fx_val (fun _ => rfl) rfl (fun χ w hw => run_nc _ rfl) ?_) | (refine fx_val (fun _ => rfl) rfl (fun χ w hw => run_inlit _ _ _ _ rfl) ?_) | (refine fx_skip (fun _ => rfl) ?_)
  first | (refine fx_val (fun _ => rfl) rfl (fun χ w hw => run_mv _ rfl) ?_) | (refine fx_val (fun _ => rfl) rfl (fun χ w hw => run_as _ rfl) ?_) | (refine fx_val (fun _ => rfl) rfl (fun χ w hw => run_fa _ _ _ rfl) ?_) | (refine fx_val (fun _ => rfl) rfl (fun χ w hw => run_ld _ _ rfl hw) ?_) | (refine fx_val (fun _ => rfl) rfl (fun χ w hw => run_lda _ _ rfl hw) ?_) | (refine fx_val (fun _ => rfl) rfl (fun χ w hw => run_ld0 _ _ rfl hw) ?_) | (refine fx_val (fun _ => rfl) rfl (fun χ w hw => run_lda0 _ _ rfl hw) ?_) | (refine fx_val (fun _ => rfl) rfl (fun χ w hw => run_ine _ _ _ _ rfl) ?_) | (refine fx_val (fun _ => rfl) rfl (fun χ w hw => run_aeq _ _ _ _ rfl) ?_) | (refine fx_val (fun _ => rfl) rfl (fun χ w hw => run_ane _ _ _ _ rfl) ?_) | (refine fx_val (fun _ => rfl) rfl (fun χ w hw => run_lenv _ _ rfl) ?_) | (refine fx_val (fun _ => rfl) rfl (fun χ w hw => run_idxv _ _ _ rfl) ?_) | (refine fx_val (fun _ => rfl) rfl (fun χ w hw => run_pk1 _ _ _ rfl) ?_) | (refine fx_val (fun _ => rfl) rfl (fun χ w hw => run_pk2 _ _ _ rfl) ?_) | (refine fx_val (fun _ => rfl) rfl (fun χ w hw => run_nse _ _ _ rfl) ?_) | (refine fx_val (fun _ => rfl) rfl (fun χ w hw => run_nsn _ _ _ rfl) ?_) | (refine fx_val (fun _ => rfl) rfl (fun χ w hw => run_bd _ _ rfl) ?_) | (refine fx_val (fun _ => rfl) rfl (fun χ w hw => run_ieq _ _ _ _ rfl) ?_) | (refine fx_val (fun _ => rfl) rfl (fun χ w hw => run_beq _ _ _ _ rfl) ?_) | (refine fx_val (fun _ => rfl) rfl (fun χ w hw => run_bne _ _ _ _ rfl) ?_) | (refine fx_val (fun _ => rfl) rfl (fun χ w hw => run_bnot _ _ rfl) ?_) | (refine fx_val (fun _ => rfl) rfl (fun χ w hw => run_ext _ _ rfl) ?_) | (refine fx_val (fun _ => rfl) rfl (fun χ w hw => run_ilit _ _ _ _ rfl) ?_) | (refine fx_val (fun _ => rfl) rfl (fun χ w hw => run_cvn _ _ _ rfl) ?_) | (refine fx_val (fun _ => rfl) rfl (fun χ w hw => run_remn _ _ _ _ rfl (by decide)) ?_) | (refine fx_val (fun _ => rfl) rfl (fun χ w hw => run_nc _ rfl) ?_) | (refine fx_val (fun _ => rfl) rfl (fun χ w hw => run_inlit _ _ _ _ rfl) ?_) | (refine fx_skip (fun _ => rfl) ?_)
  refine fx_gvalS 0 1 rfl (by first | rfl | kernel_rfl) (fun _ => rfl) rfl (fun χ => .agg (blk [(χ 4).1] j64f B [])) (supp_of (j := 4) (by kernel_rfl) (fun x => .agg (blk [x.1] j64f B []))) (fun χ w hok hw => ?_) ?_
  · obtain ⟨⟨q, hq, _⟩, _⟩ := hok
    simp only [hq]
    exact run_bd _ _ rfl
  refine fx_turn0 0 1 rfl rfl (by first | rfl | kernel_rfl) (by first | rfl | kernel_rfl) (by first | rfl | kernel_rfl) (fun _ => rfl) (fun x => x.1) ?_ ?_
  · rintro χ X w ⟨⟨q, hq, h2⟩, _⟩ hS
    exact stepX_bx _ _ rfl (show St w0 bs w ((χ 4).2 ++ (X ++ _)) from hS) (fun b' w' _ hS' => ⟨(.pointer (some ⟨b', 0, none⟩), ⟨b', blk [(χ 4).1] j64f B [], 72, true⟩ :: (χ 4).2), rfl, ⟨b', q, hq, rfl, by rw [hq]; rfl⟩, hS'⟩)
  refine fx_gval (fun _ => rfl) rfl _ (supp_of (j := 10) (by kernel_rfl) (fun x => x.1)) (fun χ w hw => run_as _ rfl) ?_
  refine fx_end rfl ?_
  intro χ w hok hS
  obtain ⟨⟨q, hq, h2⟩, ⟨b', q', hq', hx1, hx2⟩, _⟩ := hok _ (.head _)
  rw [hq] at hq'
  obtain ⟨⟩ := hq'
  have hS : St w0 bs w (((χ 10).2 ++ []) ++ (⟨b, deskC (some ⟨bt, 0, none⟩) B, 72, true⟩ :: (Et ++ H1))) := hS
  rw [hx2, List.append_nil] at hS
  simp only [hx1]
  generalize (χ 4).2 = E2 at hS h2
  simp only [List.cons_append] at hS
  clear hok hx1 hx2 hq
  go_wp2_with (first | go_skip | go_skip | (refine wpList_is (.build _ _) rfl ?_; go_must (refine wpList_stp rfl (stp_val (run_bd _ _ rfl) ?_))) | (refine wpList_is (.call { callee := .builtin .clear, args := #[_], argTypes := #[_] }) rfl ?_; go_must (refine wpList_stp rfl (stp_cl _ _ rfl hS (by decide) ?_)); clear hS; intro w hS) | (refine wpList_is (.load _ _) rfl ?_; go_must (first | refine wpList_stp rfl (stp_val (run_ld _ _ rfl hS) ?_) | refine wpList_stp rfl (stp_val (run_lda _ _ rfl hS) ?_) | refine wpList_stp rfl (stp_val (run_ld0 _ _ rfl hS) ?_) | refine wpList_stp rfl (stp_val (run_lda0 _ _ rfl hS) ?_))) | (refine wpList_is (.store _ _ _) rfl ?_; go_must (first | refine wpList_stp rfl (stp_st _ _ _ rfl hS ?_) | refine wpList_stp rfl (stp_sta _ _ _ rfl hS ?_)); clear hS; intro w hS) | (refine wpList_is (.alloc _) rfl ?_; go_must (refine wpList_stp rfl (stp_al _ rfl hS ?_)); clear hS; intro bN w hbN hS) | (refine wpList_is (.box _ _) rfl ?_; go_must (refine wpList_stp rfl (stp_bx _ _ rfl hS ?_)); clear hS; intro bN w hbN hS) | (refine wpList_is (.binOp .eql _ _ (.const (.slice none _ _)) _) rfl ?_; refine wpList_stp rfl (stp_val (run_nse _ _ _ rfl) ?_)) | (refine wpList_is (.binOp .neq _ _ (.const (.slice none _ _)) _) rfl ?_; refine wpList_stp rfl (stp_val (run_nsn _ _ _ rfl) ?_)))
  obtain ⟨bq, rfl⟩ : ∃ bq, q = some ⟨bq, 0, none⟩ := by obtain ⟨_, bq, h, _⟩ := id h2; exact ⟨bq, h⟩
  refine hR _ (⟨b', deskC (some ⟨bq, 0, none⟩) B, 72, true⟩ :: E2) _ ⟨hW, b', bq, E2, rfl, h2, by rw [hB]⟩ hT ?_
  rw [hB]
  simp only [List.cons_append]
  exact hS
end Go.Proofs.Ytbjcjbkgjnojmaa
