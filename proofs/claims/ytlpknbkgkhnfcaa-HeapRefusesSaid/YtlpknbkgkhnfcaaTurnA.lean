
/-
  Heaps with what the statements know of them: begin; the turns that make an object.
-/
import Derived.Test.YtlpknbkgkhnfcaaHmap
import Derived.Test.YtlpknbkgkhnfcaaOpv
set_option linter.unusedSimpArgs false
set_option linter.unusedVariables false
namespace Go.Mm
open Go Go.RowKit
section
variable {P : Program} {ops : Array Oper} {C : Nat → World → Prop} {m : Nat → Bool} {Q : Nat → Act → Prop} {k p : Nat} {o : Oper} {rest : List Oper} {a a' : Act} {v : Value}
/-- A marked operation. -/
theorem lex_mark (hw : Region.wanted o (yielded ops a.tmps) = true) (hm : m k = true) (v : Value) (hv : ∀ w, C p w → stepAt P o a (C (p + 1)) w v) [hp : Put a o.dst v a'] (h : wpLex P ops C m Q (k + 1) (p + 1) rest a') :
    wpLex P ops C m Q k p (o :: rest) a := by
  unfold wpLex
  rw [if_pos hw]
  refine ⟨v, ?_, ?_⟩
  · unfold Yv
    rw [if_pos hm]
    exact hv
  · rw [nx, if_pos hm, hp.h]
    exact h
variable {C' : World → Prop} {w w0 : World} {bs : List Nat} {H : List Ent}
theorem stepAt_mk (t : TypeId) (x y : Operand) (ho : o.op = .makeSlice t x y) (hS : St w0 bs w H) {e : TypeId} [ht : SliceT P t e] {size bytes : Nat} {zs : Array Value} [he : ElemT P e size bytes zs]
    {k k' : IntKind} {z : Nat} [hx : Ev a x (.int k z)] [hy : Ev a y (.int k' z)] (h2 : (bytes : Int) * z ≤ 281474976710656) (h3 : (z : Int) ≤ 9223372036854775807)
    (h : ∀ w', St w0 bs w' (⟨w.heap.size, madeCells zs (z * size), e, true⟩ :: H) → C' w') : stepAt P o a C' w (.slice (some ⟨w.heap.size, 0, none⟩) z z) := by
  obtain ⟨i, zv, hi, hz, rfl, rfl, rfl⟩ := he.parts
  have hr := run_make (P := P) w t e i zv ht.h hi hz k k' z z (by omega) (by omega) h2 h3
  have hS' := hS.new (Chg.alloc w (.cells (madeCells zv.cells (z * i.size)) e (0, 0))) (Nat.le_refl _) (alloc_new w _)
  have hr2 : (execOp a.eval o).run P w = .ok (.value (.slice (some ⟨w.heap.size, 0, none⟩) z z)) (w.alloc (.cells (madeCells zv.cells (z * i.size)) e (0, 0))) := by
    simp only [execOp, ho, hx.h, hy.h, Sem.run_bind, hr, Result.andThen_ok, Sem.run_pure, Int.toNat_natCast]
  unfold stepAt
  rw [hr2]
  exact ⟨h _ hS', rfl⟩
theorem stepAt_upd (t : TypeId) (x y z : Operand) (ho : o.op = .mapUpdate t x y z) {M : Nat} {xs : Array Value} {u : Value} [hx : Ev a x (.map (some M))] [hy : Ev a y (.agg xs)] [hz : Ev a z u]
    (h : ∃ w', (Instr.mapUpdate t (.map (some M)) (.agg xs) u).run P w = .ok () w' ∧ C' w') : stepAt P o a C' w undef := by
  obtain ⟨w', hr, hC⟩ := h
  have hr2 : (execOp a.eval o).run P w = .ok .skip w' := by
    simp only [execOp, ho, hx.h, hy.h, hz.h, Sem.run_bind, hr, Result.andThen_ok, Sem.run_pure]
  unfold stepAt
  rw [hr2]
  exact ⟨hC, rfl⟩
end
end Go.Mm
namespace Go.Proofs.Ytlpknbkgkhnfcaa
open Go Go.Mm Go.RowKit
variable {R : Ending → World → Prop} {w : World}

instance mt_cv : CvI Try.prog 5 3 .i64 := ⟨by kernel_rfl, by kernel_rfl, by kernel_rfl⟩
theorem fresh_of {w : World} {M : Nat} {ms : List Me} (hM : MapAt w M (ms.map meV)) {s g : Int} (hk : ∀ m ∈ ms, m.1 ≠ (s, g)) : LookIs Try.prog w 31 M #[.int .i64 s, .int .u32 g] true (.tuple #[.slice none 0 0, .bool false]) := look_new hM hk true
theorem made_cells {z : Nat} (hz : z ≤ 4) : madeCells #[.int .i64 0, .int .u32 0] (z * 2) = ((List.replicate z ((0, 0) : Int × Int)).flatMap slf).toArray := by
  rcases z with _ | _ | _ | _ | _ | z <;> first | omega | (show (_ : Array Value) = _; kernel_rfl)

/-- The phases of a region that makes a slice and puts it into the map. -/
def Ph7 (W w0 : World) (bs : List Nat) (M N : Nat) (X : List Ent) (e : Ent) (ms : List (Value × Value)) : Nat → World → Prop
  | 0, w => St w0 bs w X ∧ w.heap.size = N
  | 1, w => St w0 bs w (e :: X)
  | _ + 2, w => ∃ w1 bs1, Base W w1 bs1 M ms ∧ St w1 bs1 w (e :: X)
theorem ph7_com {W w0 : World} {bs : List Nat} {M N : Nat} {X : List Ent} {e : Ent} {ms : List (Value × Value)} : ∀ q w, Ph7 W w0 bs M N X e ms q w → St w (wb X) w X := by
  intro q w h
  match q, h with
  | 0, h => exact h.1.self
  | 1, h => exact (St.weak (show St _ _ w ([e] ++ X) from h)).self
  | _ + 2, ⟨_, _, _, h⟩ => exact (St.weak (show St _ _ w ([e] ++ X) from h)).self

set_option maxHeartbeats 1000000 in
set_option maxRecDepth 100000 in
theorem begin_ok {W : World} {H : List Ent} (hO : St W [] w H) (z g : Nat) (hz : z ≤ 255) (hg : g ≤ 4294967295) (g1 : Nat) (hg1 : max 1 g = g1) (hR : ∀ bm w', MA W bm (1 + z) g1 0 H w' → Ret R (.pointer (some ⟨bm, 0, none⟩)) w') :
    Calls Try.prog 12 #[.int .u8 z, .int .u32 g] w R := by
  have hS := hO
  clear hO
  have hmx : MaxIs 1 (g : Int) (g1 : Int) := ⟨by rw [Nat.max_def] at hg1; split at hg1 <;> (split <;> omega)⟩
  have hnw : nwH (1 + (z : Int)) g1 = HL (List.replicate (1 + z) (0, (g1 : Int), zOb)) ∧ nwE (1 + (z : Int)) g1 = 0 := by
    have : nwOk (1 + (z : Int)) g1 = true := by simp only [nwOk, Bool.and_eq_true, decide_eq_true_eq]; omega
    unfold nwH nwE
    rw [this, show (1 + (z : Int)).toNat = 1 + z by omega]; exact ⟨rfl, rfl⟩
  have hnw' := Lib.hid hnw
  have hMo := Mo.new (n := 1 + z) (f := (g1 : Int)) (by omega) (by omega)
  have hMo' := Lib.hid hMo
  clear hnw hMo
  obtain ⟨L0, hL0⟩ : ∃ L0, List.replicate (1 + z) ((0, (g1 : Int), zOb) : Hs) = L0 := ⟨_, rfl⟩
  rw [hL0] at hnw' hMo'
  clear hL0
  go_enter Try.func12, Try.ntmps12
  go_wp2_with (first | go_skip | (refine wpList_is (.call { callee := .builtin .max, args := #[_, _], argTypes := #[_, _] }) rfl ?_; refine wpList_stp (by kernel_rfl) (stp_val (run_maxv _ _ rfl) ?_)) | (go_at_call 19; go_must (refine hp_new hS (1 + (z : Int)) g1 (by omega) _ 0 hnw'.out.1 hnw'.out.2 ?_); clear hS; intro p E1 w hT hS; have hpn := hT.nil; unfold Ret) | (refine wpList_is (.makeMap _ _) rfl ?_; go_must (refine wpList_stp (by kernel_rfl) (stp_mm rfl hS ?_)); clear hS; intro w0 M hB hS) | go_skip | (refine wpList_is (.build _ _) rfl ?_; go_must (refine wpList_stp (by kernel_rfl) (stp_val (run_bd _ _ rfl) ?_))) | (refine wpList_is (.call { callee := .builtin .clear, args := #[_], argTypes := #[_] }) rfl ?_; go_must (refine wpList_stp (by kernel_rfl) (stp_cl _ _ rfl hS (by decide) ?_)); clear hS; intro w hS) | (refine wpList_is (.load _ _) rfl ?_; go_must (first | refine wpList_stp (by kernel_rfl) (stp_val (run_ld _ _ rfl hS) ?_) | refine wpList_stp (by kernel_rfl) (stp_val (run_lda _ _ rfl hS) ?_) | refine wpList_stp (by kernel_rfl) (stp_val (run_ld0 _ _ rfl hS) ?_) | refine wpList_stp (by kernel_rfl) (stp_val (run_lda0 _ _ rfl hS) ?_))) | (refine wpList_is (.store _ _ _) rfl ?_; go_must (first | refine wpList_stp (by kernel_rfl) (stp_st _ _ _ rfl hS ?_) | refine wpList_stp (by kernel_rfl) (stp_sta _ _ _ rfl hS ?_)); clear hS; intro w hS) | (refine wpList_is (.alloc _) rfl ?_; go_must (refine wpList_stp (by kernel_rfl) (stp_al _ rfl hS ?_)); clear hS; intro bN w hbN hS) | (refine wpList_is (.box _ _) rfl ?_; go_must (refine wpList_stp (by kernel_rfl) (stp_bx _ _ rfl hS ?_)); clear hS; intro bN w hbN hS) | (refine wpList_is (.binOp .eql _ _ (.const (.slice none _ _)) _) rfl ?_; refine wpList_stp (by kernel_rfl) (stp_val (run_nse _ _ _ rfl) ?_)) | (refine wpList_is (.binOp .neq _ _ (.const (.slice none _ _)) _) rfl ?_; refine wpList_stp (by kernel_rfl) (stp_val (run_nsn _ _ _ rfl) ?_)))
  exact hR _ _ ⟨_, _, M, p, .slice none 0 0, .slice none 0 0, L0, [], [], [], E1, [], [], hB, by simpa using hS, hT, RS.nil, RS.nil, hMo'.out⟩

set_option maxHeartbeats 2000000 in
set_option maxRecDepth 100000 in
theorem turn_mk0 {W : World} {bm n : Nat} {f : Int} {k : Nat} {H : List Ent} (hk : k ≤ 400) (hMA : MA W bm n f k H w) (a i c : Nat) (ha : a ≤ 255) (hi : i ≤ 255) (hc : c ≤ 255) (h4 : a % 4 < 2) {z : Nat} (hz : i % 5 = z) (hz0 : 0 < z) (hR : ∀ w', MA W bm n f (k + 1) H w' → Ret R (.bool true) w') : Calls Try.prog 13 #[.pointer (some ⟨bm, 0, none⟩), .agg #[.int .u8 a, .int .u8 i, .int .u8 c]] w R := by
  obtain ⟨w0, bs, M, ph, vi, vg, L, ins, gone, ms, E, Ei, Eg, hB, hS, hT, hvi, hvg, hMo⟩ := hMA
  have hone := hvi.one
  have hone2 := hvg.one
  obtain ⟨m, hm⟩ : ∃ m, ins.length = m := ⟨_, rfl⟩
  have hm' := Lib.hid hm
  have hln : LenV Try.prog 32 vi m := hvi.len hm
  have hmk : m ≤ k := by have := hMo.c1; omega
  have hil : ins.length ≤ 400 := by omega
  have hgl : gone.length ≤ 400 := by have := hMo.c2; omega
  clear hm
  obtain ⟨a4, ha4⟩ : ∃ q, a % 4 = q := ⟨_, rfl⟩
  have ra : RemIs (a : Int) 4 (a4 : Int) := ⟨by rw [Int.tmod_eq_emod_of_nonneg (by omega)]; omega, by decide⟩
  have hz4 : z ≤ 4 := by omega
  obtain ⟨c2, hc2'⟩ : ∃ q, c % 2 = q := ⟨_, rfl⟩
  have q0 : IntEq (z : Int) 0 false := ⟨decide_eq_false (by omega)⟩
  have hw : nwB (z : Nat) false = true := by simp [nwB]; omega
  cases ht : tkI (some (tbH L)) with
  | none =>
    obtain ⟨h1, h2, h3, h5⟩ := hMo.full ht z false hw
    have h5' := Lib.hid h5
    have q5 := refE (refB_self 0 0)
    clear ht hw h5
    have d2 : decide ((a4 : Int) < 2) = true := decide_eq_true (by omega)
    have d2' : decide (a4 < 2) = true := decide_eq_true (by omega)
    have ri : RemIs (i : Int) 5 (z : Int) := ⟨by rw [Int.tmod_eq_emod_of_nonneg (by omega)]; omega, by decide⟩
    have rc : RemIs (c : Int) 2 (c2 : Int) := ⟨by rw [Int.tmod_eq_emod_of_nonneg (by omega)]; omega, by decide⟩
    have sz : Small (z : Int) := ⟨by omega, by omega⟩
    have h1' := Lib.hid h1
    have h2' := Lib.hid h2
    have h3' := Lib.hid h3
    clear h1 h2 h3 ha4
    go_enter Try.func13, Try.ntmps13
    go_wp2_with (first | go_skip | (refine wpList_is (.box 29 _) rfl ?_; go_must (refine wpList_stp (by kernel_rfl) (stp_bx _ _ rfl hS ?_)); clear hS; intro bt w _ hS) | (refine wpList_is (.binOp .rem _ _ _ _) rfl ?_; refine wpList_stp (by kernel_rfl) (stp_val (run_remv _ _ _ _ rfl) ?_)) | go_skip | (refine wpList_is (.call { callee := .builtin .len, args := #[_], argTypes := #[_] }) rfl ?_; refine wpList_stp (by kernel_rfl) (stp_val (run_lenv _ _ rfl) ?_)) | (refine wpList_is (.slice _ _ none (some _) none) rfl ?_; refine wpList_stp (by kernel_rfl) (stp_val (run_prev _ _ _ rfl) ?_)) | (refine wpList_is (.indexAddr _ _ _) rfl ?_; refine wpList_stp (by kernel_rfl) (stp_val (run_idxv _ _ _ rfl) ?_)) | go_skip | (refine wpList_is (.build _ _) rfl ?_; go_must (refine wpList_stp (by kernel_rfl) (stp_val (run_bd _ _ rfl) ?_))) | (refine wpList_is (.call { callee := .builtin .clear, args := #[_], argTypes := #[_] }) rfl ?_; go_must (refine wpList_stp (by kernel_rfl) (stp_cl _ _ rfl hS (by decide) ?_)); clear hS; intro w hS) | (refine wpList_is (.load _ _) rfl ?_; go_must (first | refine wpList_stp (by kernel_rfl) (stp_val (run_ld _ _ rfl hS) ?_) | refine wpList_stp (by kernel_rfl) (stp_val (run_lda _ _ rfl hS) ?_) | refine wpList_stp (by kernel_rfl) (stp_val (run_ld0 _ _ rfl hS) ?_) | refine wpList_stp (by kernel_rfl) (stp_val (run_lda0 _ _ rfl hS) ?_))) | (refine wpList_is (.store _ _ _) rfl ?_; go_must (first | refine wpList_stp (by kernel_rfl) (stp_st _ _ _ rfl hS ?_) | refine wpList_stp (by kernel_rfl) (stp_sta _ _ _ rfl hS ?_)); clear hS; intro w hS) | (refine wpList_is (.alloc _) rfl ?_; go_must (refine wpList_stp (by kernel_rfl) (stp_al _ rfl hS ?_)); clear hS; intro bN w hbN hS) | (refine wpList_is (.box _ _) rfl ?_; go_must (refine wpList_stp (by kernel_rfl) (stp_bx _ _ rfl hS ?_)); clear hS; intro bN w hbN hS) | (refine wpList_is (.binOp .eql _ _ (.const (.slice none _ _)) _) rfl ?_; refine wpList_stp (by kernel_rfl) (stp_val (run_nse _ _ _ rfl) ?_)) | (refine wpList_is (.binOp .neq _ _ (.const (.slice none _ _)) _) rfl ?_; refine wpList_stp (by kernel_rfl) (stp_val (run_nsn _ _ _ rfl) ?_)))
    refine region_itemsE [⟨(undef, E), [(18, fun _ x => HA ph (HL L) x.2)]⟩, ⟨(undef, []), [(22, fun _ x => ∃ b, x = (.pointer (some ⟨b, 0, none⟩), [⟨b, #[.int .i64 0, .int .u32 0], 38, true⟩])), (23, fun y x => ∃ b, y.1 = .pointer (some ⟨b, 0, none⟩) ∧ x.2 = [⟨b, #[.int .i64 0, .int .u32 0], 38, true⟩])]⟩]
      (⟨bt, #[.int .u8 a, .int .u8 i, .int .u8 c], 29, true⟩ :: moE bm ph M vi vg :: (Ei ++ (Eg ++ (ms.map meE ++ H)))) (E ++ (⟨bt, #[.int .u8 a, .int .u8 i, .int .u8 c], 29, true⟩ :: moE bm ph M vi vg :: (Ei ++ (Eg ++ (ms.map meE ++ H))))) (by simp) hS.pick (by kernel_rfl) (by kernel_rfl) ?_
    first | (refine fx_val (fun _ => rfl) rfl (fun χ w hw => run_remv _ _ _ _ rfl) ?_) | (refine fx_val (fun _ => rfl) rfl (fun χ w hw => run_mv _ rfl) ?_)
    first | (refine fx_val (fun _ => rfl) rfl (fun χ w hw => run_remv _ _ _ _ rfl) ?_) | (refine fx_val (fun _ => rfl) rfl (fun χ w hw => run_nc _ rfl) ?_)
    first | (refine fx_val (fun _ => rfl) rfl (fun χ w hw => run_remv _ _ _ _ rfl) ?_) | (refine fx_val (fun _ => rfl) rfl (fun χ w hw => run_fa _ _ _ rfl) ?_)
    first | (refine fx_val (fun _ => rfl) rfl (fun χ w hw => run_remv _ _ _ _ rfl) ?_) | (refine fx_val (fun _ => rfl) rfl (fun χ w hw => run_ld _ _ rfl hw) ?_)
    first | (refine fx_val (fun _ => rfl) rfl (fun χ w hw => run_remv _ _ _ _ rfl) ?_) | (refine fx_val (fun _ => rfl) rfl (fun χ w hw => run_fa _ _ _ rfl) ?_)
    first | (refine fx_val (fun _ => rfl) rfl (fun χ w hw => run_remv _ _ _ _ rfl) ?_) | (refine fx_val (fun _ => rfl) rfl (fun χ w hw => run_ld _ _ rfl hw) ?_)
    first | (refine fx_val (fun _ => rfl) rfl (fun χ w hw => run_remv _ _ _ _ rfl) ?_) | (first | (refine fx_val (fun _ => rfl) rfl (fun χ w hw => run_mv _ rfl) ?_) | (refine fx_val (fun _ => rfl) rfl (fun χ w hw => run_as _ rfl) ?_) | (refine fx_val (fun _ => rfl) rfl (fun χ w hw => run_fa _ _ _ rfl) ?_) | (refine fx_val (fun _ => rfl) rfl (fun χ w hw => run_ld _ _ rfl hw) ?_) | (refine fx_val (fun _ => rfl) rfl (fun χ w hw => run_lda _ _ rfl hw) ?_) | (refine fx_val (fun _ => rfl) rfl (fun χ w hw => run_ld0 _ _ rfl hw) ?_) | (refine fx_val (fun _ => rfl) rfl (fun χ w hw => run_lda0 _ _ rfl hw) ?_) | (refine fx_val (fun _ => rfl) rfl (fun χ w hw => run_ine _ _ _ _ rfl) ?_) | (refine fx_val (fun _ => rfl) rfl (fun χ w hw => run_aeq _ _ _ _ rfl) ?_) | (refine fx_val (fun _ => rfl) rfl (fun χ w hw => run_ane _ _ _ _ rfl) ?_) | (refine fx_val (fun _ => rfl) rfl (fun χ w hw => run_lenv _ _ rfl) ?_) | (refine fx_val (fun _ => rfl) rfl (fun χ w hw => run_idxv _ _ _ rfl) ?_) | (refine fx_val (fun _ => rfl) rfl (fun χ w hw => run_pk1 _ _ _ rfl) ?_) | (refine fx_val (fun _ => rfl) rfl (fun χ w hw => run_pk2 _ _ _ rfl) ?_) | (refine fx_val (fun _ => rfl) rfl (fun χ w hw => run_nse _ _ _ rfl) ?_) | (refine fx_val (fun _ => rfl) rfl (fun χ w hw => run_nsn _ _ _ rfl) ?_) | (refine fx_val (fun _ => rfl) rfl (fun χ w hw => run_bd _ _ rfl) ?_) | (refine fx_val (fun _ => rfl) rfl (fun χ w hw => run_ieq _ _ _ _ rfl) ?_) | (refine fx_val (fun _ => rfl) rfl (fun χ w hw => run_beq _ _ _ _ rfl) ?_) | (refine fx_val (fun _ => rfl) rfl (fun χ w hw => run_bne _ _ _ _ rfl) ?_) | (refine fx_val (fun _ => rfl) rfl (fun χ w hw => run_bnot _ _ rfl) ?_) | (refine fx_val (fun _ => rfl) rfl (fun χ w hw => run_ext _ _ rfl) ?_) | (refine fx_val (fun _ => rfl) rfl (fun χ w hw => run_ilit _ _ _ _ rfl) ?_) | (refine fx_val (fun _ => rfl) rfl (fun χ w hw => run_cvn _ _ _ rfl) ?_) | (refine fx_val (fun _ => rfl) rfl (fun χ w hw => run_remn _ _ _ _ rfl (by decide)) ?_) | (refine fx_val (fun _ => rfl) rfl (fun χ w hw => run_nc _ rfl) ?_) | (refine fx_val (fun _ => rfl) rfl (fun χ w hw => run_inlit _ _ _ _ rfl) ?_) | (refine fx_skip (fun _ => rfl) ?_))
    first | (refine fx_val (fun _ => rfl) rfl (fun χ w hw => run_remv _ _ _ _ rfl) ?_) | (refine fx_val (fun _ => rfl) rfl (fun χ w hw => run_cvn _ _ _ rfl) ?_)
    first | (refine fx_val (fun _ => rfl) rfl (fun χ w hw => run_remv _ _ _ _ rfl) ?_) | (refine fx_val (fun _ => rfl) rfl (fun χ w hw => run_fa _ _ _ rfl) ?_)
    first | (refine fx_val (fun _ => rfl) rfl (fun χ w hw => run_remv _ _ _ _ rfl) ?_) | (refine fx_val (fun _ => rfl) rfl (fun χ w hw => run_ld _ _ rfl hw) ?_)
    first | (refine fx_val (fun _ => rfl) rfl (fun χ w hw => run_remv _ _ _ _ rfl) ?_) | (first | (refine fx_val (fun _ => rfl) rfl (fun χ w hw => run_mv _ rfl) ?_) | (refine fx_val (fun _ => rfl) rfl (fun χ w hw => run_as _ rfl) ?_) | (refine fx_val (fun _ => rfl) rfl (fun χ w hw => run_fa _ _ _ rfl) ?_) | (refine fx_val (fun _ => rfl) rfl (fun χ w hw => run_ld _ _ rfl hw) ?_) | (refine fx_val (fun _ => rfl) rfl (fun χ w hw => run_lda _ _ rfl hw) ?_) | (refine fx_val (fun _ => rfl) rfl (fun χ w hw => run_ld0 _ _ rfl hw) ?_) | (refine fx_val (fun _ => rfl) rfl (fun χ w hw => run_lda0 _ _ rfl hw) ?_) | (refine fx_val (fun _ => rfl) rfl (fun χ w hw => run_ine _ _ _ _ rfl) ?_) | (refine fx_val (fun _ => rfl) rfl (fun χ w hw => run_aeq _ _ _ _ rfl) ?_) | (refine fx_val (fun _ => rfl) rfl (fun χ w hw => run_ane _ _ _ _ rfl) ?_) | (refine fx_val (fun _ => rfl) rfl (fun χ w hw => run_lenv _ _ rfl) ?_) | (refine fx_val (fun _ => rfl) rfl (fun χ w hw => run_idxv _ _ _ rfl) ?_) | (refine fx_val (fun _ => rfl) rfl (fun χ w hw => run_pk1 _ _ _ rfl) ?_) | (refine fx_val (fun _ => rfl) rfl (fun χ w hw => run_pk2 _ _ _ rfl) ?_) | (refine fx_val (fun _ => rfl) rfl (fun χ w hw => run_nse _ _ _ rfl) ?_) | (refine fx_val (fun _ => rfl) rfl (fun χ w hw => run_nsn _ _ _ rfl) ?_) | (refine fx_val (fun _ => rfl) rfl (fun χ w hw => run_bd _ _ rfl) ?_) | (refine fx_val (fun _ => rfl) rfl (fun χ w hw => run_ieq _ _ _ _ rfl) ?_) | (refine fx_val (fun _ => rfl) rfl (fun χ w hw => run_beq _ _ _ _ rfl) ?_) | (refine fx_val (fun _ => rfl) rfl (fun χ w hw => run_bne _ _ _ _ rfl) ?_) | (refine fx_val (fun _ => rfl) rfl (fun χ w hw => run_bnot _ _ rfl) ?_) | (refine fx_val (fun _ => rfl) rfl (fun χ w hw => run_ext _ _ rfl) ?_) | (refine fx_val (fun _ => rfl) rfl (fun χ w hw => run_ilit _ _ _ _ rfl) ?_) | (refine fx_val (fun _ => rfl) rfl (fun χ w hw => run_cvn _ _ _ rfl) ?_) | (refine fx_val (fun _ => rfl) rfl (fun χ w hw => run_remn _ _ _ _ rfl (by decide)) ?_) | (refine fx_val (fun _ => rfl) rfl (fun χ w hw => run_nc _ rfl) ?_) | (refine fx_val (fun _ => rfl) rfl (fun χ w hw => run_inlit _ _ _ _ rfl) ?_) | (refine fx_skip (fun _ => rfl) ?_))
    first | (refine fx_val (fun _ => rfl) rfl (fun χ w hw => run_remv _ _ _ _ rfl) ?_) | (refine fx_val (fun _ => rfl) rfl (fun χ w hw => run_ilit _ _ _ _ rfl) ?_)
    first | (refine fx_val (fun _ => rfl) rfl (fun χ w hw => run_remv _ _ _ _ rfl) ?_) | (refine fx_val (fun _ => rfl) rfl (fun χ w hw => run_mv _ rfl) ?_)
    first | (refine fx_val (fun _ => rfl) rfl (fun χ w hw => run_remv _ _ _ _ rfl) ?_) | (refine fx_skip (fun _ => rfl) ?_)
    first | (refine fx_val (fun _ => rfl) rfl (fun χ w hw => run_remv _ _ _ _ rfl) ?_) | (refine fx_skip (fun _ => rfl) ?_)
    first | (refine fx_val (fun _ => rfl) rfl (fun χ w hw => run_remv _ _ _ _ rfl) ?_) | (refine fx_skip (fun _ => rfl) ?_)
    first | (refine fx_val (fun _ => rfl) rfl (fun χ w hw => run_remv _ _ _ _ rfl) ?_) | (refine fx_skip (fun _ => rfl) ?_)
    first | (refine fx_val (fun _ => rfl) rfl (fun χ w hw => run_remv _ _ _ _ rfl) ?_) | (refine fx_val (fun _ => rfl) rfl (fun χ w hw => run_pk2 _ _ _ rfl) ?_)
    refine fx_turn 0 0 rfl rfl (by kernel_rfl) (by kernel_rfl) (by kernel_rfl) 17 [_, _, _] _ rfl (fun _ => rfl) (enters _ (by kernel_rfl)) (fun _ => .tuple #[.agg #[.int .i64 0, .int .u32 0], .int .i64 4]) ?_ ?_
    · intro χ X w _ hS
      exact hp_make (show St w0 bs w (E ++ (X ++ _)) from hS) hT _ _ _ (0, 0) 4 h1'.out h2'.out h3'.out (fun E' w' hT' hS' => ⟨(undef, E'), rfl, hT', show St w0 bs w' (E' ++ (X ++ _)) from hS'.pick⟩)
    first | (refine fx_val (fun _ => rfl) rfl (fun χ w hw => run_remv _ _ _ _ rfl) ?_) | (refine fx_val (fun _ => rfl) rfl (fun χ w hw => run_mv _ rfl) ?_)
    first | (refine fx_val (fun _ => rfl) rfl (fun χ w hw => run_remv _ _ _ _ rfl) ?_) | (refine fx_val (fun _ => rfl) rfl (fun χ w hw => run_ext _ _ rfl) ?_)
    first | (refine fx_val (fun _ => rfl) rfl (fun χ w hw => run_remv _ _ _ _ rfl) ?_) | (refine fx_val (fun _ => rfl) rfl (fun χ w hw => run_ext _ _ rfl) ?_)
    refine fx_turn0 1 0 rfl rfl (by kernel_rfl) (by kernel_rfl) (by kernel_rfl) (fun _ => rfl) (fun x => x.1) ?_ ?_
    · intro χ X w _ hS
      exact stepX_al _ rfl (show St w0 bs w (X ++ _) from hS) (fun b w' _ hS' => ⟨(_, [_]), rfl, ⟨b, rfl⟩, hS'⟩)
    refine fx_turn0 1 1 rfl rfl (by kernel_rfl) (by kernel_rfl) (by kernel_rfl) (fun _ => rfl) (fun _ => undef) ?_ ?_
    · rintro χ X w ⟨⟨b, hb⟩, _⟩ hS
      have hS : St w0 bs w ((χ 22).2 ++ (X ++ _)) := hS
      rw [hb] at hS
      have hS : St w0 bs w (⟨b, #[.int .i64 0, .int .u32 0], 38, true⟩ :: (X ++ _)) := hS
      have hb1 : (χ 22).1 = .pointer (some ⟨b, 0, none⟩) := by rw [hb]
      exact stepX_stb _ _ _ rfl hS hb1 (fun w' hS' => ⟨(undef, [⟨b, #[.int .i64 0, .int .u32 0], 38, true⟩]), rfl, ⟨b, hb1, rfl⟩, hS'⟩)
    first | (refine fx_val (fun _ => rfl) rfl (fun χ w hw => run_remv _ _ _ _ rfl) ?_) | (refine fx_val (fun _ => rfl) rfl (fun χ w hw => run_as _ rfl) ?_)
    refine fx_end rfl ?_
    intro χ w hok hS
    obtain ⟨hT2, _⟩ := hok _ (.head _)
    obtain ⟨⟨bo, hb⟩, ⟨bo', hb1, hb2⟩, _⟩ := hok _ (.tail _ (.head _))
    rw [hb] at hb1
    obtain ⟨⟩ := hb1
    have hS : St w0 bs w (((χ 18).2 ++ ((χ 23).2 ++ [])) ++ (⟨bt, #[.int .u8 a, .int .u8 i, .int .u8 c], 29, true⟩ :: moE bm ph M vi vg :: (Ei ++ (Eg ++ (ms.map meE ++ H))))) := hS
    rw [hb2, List.append_nil, List.append_assoc] at hS
    generalize (χ 18).2 = E' at hS hT2
    simp only [hb]
    simp only [List.cons_append, List.nil_append] at hS
    clear hok hb2 hb
    go_wp2_with (first | go_skip | (go_at_call 14; go_must (refine hp_left hS hT2 0 h5'.out ?_); clear hS; intro w _ hS; unfold Ret) | (refine wpList_is (.binOp .eql _ _ _ _) rfl ?_; refine wpList_stp (by kernel_rfl) (stp_val (run_aeq _ _ _ _ rfl) ?_)) | (refine wpList_is (.binOp .neq _ _ _ _) rfl ?_; refine wpList_stp (by kernel_rfl) (stp_val (run_ane _ _ _ _ rfl) ?_)) | go_skip | (refine wpList_is (.build _ _) rfl ?_; go_must (refine wpList_stp (by kernel_rfl) (stp_val (run_bd _ _ rfl) ?_))) | (refine wpList_is (.call { callee := .builtin .clear, args := #[_], argTypes := #[_] }) rfl ?_; go_must (refine wpList_stp (by kernel_rfl) (stp_cl _ _ rfl hS (by decide) ?_)); clear hS; intro w hS) | (refine wpList_is (.load _ _) rfl ?_; go_must (first | refine wpList_stp (by kernel_rfl) (stp_val (run_ld _ _ rfl hS) ?_) | refine wpList_stp (by kernel_rfl) (stp_val (run_lda _ _ rfl hS) ?_) | refine wpList_stp (by kernel_rfl) (stp_val (run_ld0 _ _ rfl hS) ?_) | refine wpList_stp (by kernel_rfl) (stp_val (run_lda0 _ _ rfl hS) ?_))) | (refine wpList_is (.store _ _ _) rfl ?_; go_must (first | refine wpList_stp (by kernel_rfl) (stp_st _ _ _ rfl hS ?_) | refine wpList_stp (by kernel_rfl) (stp_sta _ _ _ rfl hS ?_)); clear hS; intro w hS) | (refine wpList_is (.alloc _) rfl ?_; go_must (refine wpList_stp (by kernel_rfl) (stp_al _ rfl hS ?_)); clear hS; intro bN w hbN hS) | (refine wpList_is (.box _ _) rfl ?_; go_must (refine wpList_stp (by kernel_rfl) (stp_bx _ _ rfl hS ?_)); clear hS; intro bN w hbN hS) | (refine wpList_is (.binOp .eql _ _ (.const (.slice none _ _)) _) rfl ?_; refine wpList_stp (by kernel_rfl) (stp_val (run_nse _ _ _ rfl) ?_)) | (refine wpList_is (.binOp .neq _ _ (.const (.slice none _ _)) _) rfl ?_; refine wpList_stp (by kernel_rfl) (stp_val (run_nsn _ _ _ rfl) ?_)))
    exact hR _ ⟨w0, bs, M, ph, vi, vg, L, ins, gone, ms, E', Ei, Eg, hB, hS.pick, hT2, hvi, hvg, hMo.more⟩
  | some j =>
    obtain ⟨L', g, h1, h2, h3, hg0, hg1, hfr, hMo'⟩ := hMo.make ht z false hz4 hw
    have hlk : ∀ w H, St w0 bs w H → LookIs Try.prog w 31 M #[.int .i64 j, .int .u32 g] true (.tuple #[.slice none 0 0, .bool false]) := fun w H hS => fresh_of (hB.now hS) hfr
    clear ht hw
    have d2 : decide ((a4 : Int) < 2) = true := decide_eq_true (by omega)
    have d2' : decide (a4 < 2) = true := decide_eq_true (by omega)
    have ri : RemIs (i : Int) 5 (z : Int) := ⟨by rw [Int.tmod_eq_emod_of_nonneg (by omega)]; omega, by decide⟩
    have rc : RemIs (c : Int) 2 (c2 : Int) := ⟨by rw [Int.tmod_eq_emod_of_nonneg (by omega)]; omega, by decide⟩
    have sz : Small (z : Int) := ⟨by omega, by omega⟩
    have h1' := Lib.hid h1
    have h2' := Lib.hid h2
    have h3' := Lib.hid h3
    clear h1 h2 h3 ha4
    go_enter Try.func13, Try.ntmps13
    go_wp2_with (first | go_skip | (refine wpList_is (.box 29 _) rfl ?_; go_must (refine wpList_stp (by kernel_rfl) (stp_bx _ _ rfl hS ?_)); clear hS; intro bt w _ hS) | (refine wpList_is (.binOp .rem _ _ _ _) rfl ?_; refine wpList_stp (by kernel_rfl) (stp_val (run_remv _ _ _ _ rfl) ?_)) | go_skip | (refine wpList_is (.call { callee := .builtin .len, args := #[_], argTypes := #[_] }) rfl ?_; refine wpList_stp (by kernel_rfl) (stp_val (run_lenv _ _ rfl) ?_)) | (refine wpList_is (.slice _ _ none (some _) none) rfl ?_; refine wpList_stp (by kernel_rfl) (stp_val (run_prev _ _ _ rfl) ?_)) | (refine wpList_is (.indexAddr _ _ _) rfl ?_; refine wpList_stp (by kernel_rfl) (stp_val (run_idxv _ _ _ rfl) ?_)) | go_skip | (refine wpList_is (.build _ _) rfl ?_; go_must (refine wpList_stp (by kernel_rfl) (stp_val (run_bd _ _ rfl) ?_))) | (refine wpList_is (.call { callee := .builtin .clear, args := #[_], argTypes := #[_] }) rfl ?_; go_must (refine wpList_stp (by kernel_rfl) (stp_cl _ _ rfl hS (by decide) ?_)); clear hS; intro w hS) | (refine wpList_is (.load _ _) rfl ?_; go_must (first | refine wpList_stp (by kernel_rfl) (stp_val (run_ld _ _ rfl hS) ?_) | refine wpList_stp (by kernel_rfl) (stp_val (run_lda _ _ rfl hS) ?_) | refine wpList_stp (by kernel_rfl) (stp_val (run_ld0 _ _ rfl hS) ?_) | refine wpList_stp (by kernel_rfl) (stp_val (run_lda0 _ _ rfl hS) ?_))) | (refine wpList_is (.store _ _ _) rfl ?_; go_must (first | refine wpList_stp (by kernel_rfl) (stp_st _ _ _ rfl hS ?_) | refine wpList_stp (by kernel_rfl) (stp_sta _ _ _ rfl hS ?_)); clear hS; intro w hS) | (refine wpList_is (.alloc _) rfl ?_; go_must (refine wpList_stp (by kernel_rfl) (stp_al _ rfl hS ?_)); clear hS; intro bN w hbN hS) | (refine wpList_is (.box _ _) rfl ?_; go_must (refine wpList_stp (by kernel_rfl) (stp_bx _ _ rfl hS ?_)); clear hS; intro bN w hbN hS) | (refine wpList_is (.binOp .eql _ _ (.const (.slice none _ _)) _) rfl ?_; refine wpList_stp (by kernel_rfl) (stp_val (run_nse _ _ _ rfl) ?_)) | (refine wpList_is (.binOp .neq _ _ (.const (.slice none _ _)) _) rfl ?_; refine wpList_stp (by kernel_rfl) (stp_val (run_nsn _ _ _ rfl) ?_)))
    refine region_itemsE [⟨(undef, E), [(18, fun _ x => HA ph (HL L') x.2)]⟩, ⟨(undef, []), [(22, fun _ x => ∃ b, x = (.pointer (some ⟨b, 0, none⟩), [⟨b, #[.int .i64 0, .int .u32 0], 38, true⟩])), (23, fun y x => ∃ b, y.1 = .pointer (some ⟨b, 0, none⟩) ∧ x.2 = [⟨b, #[.int .i64 j, .int .u32 g], 38, true⟩])]⟩]
      (⟨bt, #[.int .u8 a, .int .u8 i, .int .u8 c], 29, true⟩ :: moE bm ph M vi vg :: (Ei ++ (Eg ++ (ms.map meE ++ H)))) (E ++ (⟨bt, #[.int .u8 a, .int .u8 i, .int .u8 c], 29, true⟩ :: moE bm ph M vi vg :: (Ei ++ (Eg ++ (ms.map meE ++ H))))) (by simp) hS.pick (by kernel_rfl) (by kernel_rfl) ?_
    first | (refine fx_val (fun _ => rfl) rfl (fun χ w hw => run_remv _ _ _ _ rfl) ?_) | (refine fx_val (fun _ => rfl) rfl (fun χ w hw => run_mv _ rfl) ?_)
    first | (refine fx_val (fun _ => rfl) rfl (fun χ w hw => run_remv _ _ _ _ rfl) ?_) | (refine fx_val (fun _ => rfl) rfl (fun χ w hw => run_nc _ rfl) ?_)
    first | (refine fx_val (fun _ => rfl) rfl (fun χ w hw => run_remv _ _ _ _ rfl) ?_) | (refine fx_val (fun _ => rfl) rfl (fun χ w hw => run_fa _ _ _ rfl) ?_)
    first | (refine fx_val (fun _ => rfl) rfl (fun χ w hw => run_remv _ _ _ _ rfl) ?_) | (refine fx_val (fun _ => rfl) rfl (fun χ w hw => run_ld _ _ rfl hw) ?_)
    first | (refine fx_val (fun _ => rfl) rfl (fun χ w hw => run_remv _ _ _ _ rfl) ?_) | (refine fx_val (fun _ => rfl) rfl (fun χ w hw => run_fa _ _ _ rfl) ?_)
    first | (refine fx_val (fun _ => rfl) rfl (fun χ w hw => run_remv _ _ _ _ rfl) ?_) | (refine fx_val (fun _ => rfl) rfl (fun χ w hw => run_ld _ _ rfl hw) ?_)
    first | (refine fx_val (fun _ => rfl) rfl (fun χ w hw => run_remv _ _ _ _ rfl) ?_) | (first | (refine fx_val (fun _ => rfl) rfl (fun χ w hw => run_mv _ rfl) ?_) | (refine fx_val (fun _ => rfl) rfl (fun χ w hw => run_as _ rfl) ?_) | (refine fx_val (fun _ => rfl) rfl (fun χ w hw => run_fa _ _ _ rfl) ?_) | (refine fx_val (fun _ => rfl) rfl (fun χ w hw => run_ld _ _ rfl hw) ?_) | (refine fx_val (fun _ => rfl) rfl (fun χ w hw => run_lda _ _ rfl hw) ?_) | (refine fx_val (fun _ => rfl) rfl (fun χ w hw => run_ld0 _ _ rfl hw) ?_) | (refine fx_val (fun _ => rfl) rfl (fun χ w hw => run_lda0 _ _ rfl hw) ?_) | (refine fx_val (fun _ => rfl) rfl (fun χ w hw => run_ine _ _ _ _ rfl) ?_) | (refine fx_val (fun _ => rfl) rfl (fun χ w hw => run_aeq _ _ _ _ rfl) ?_) | (refine fx_val (fun _ => rfl) rfl (fun χ w hw => run_ane _ _ _ _ rfl) ?_) | (refine fx_val (fun _ => rfl) rfl (fun χ w hw => run_lenv _ _ rfl) ?_) | (refine fx_val (fun _ => rfl) rfl (fun χ w hw => run_idxv _ _ _ rfl) ?_) | (refine fx_val (fun _ => rfl) rfl (fun χ w hw => run_pk1 _ _ _ rfl) ?_) | (refine fx_val (fun _ => rfl) rfl (fun χ w hw => run_pk2 _ _ _ rfl) ?_) | (refine fx_val (fun _ => rfl) rfl (fun χ w hw => run_nse _ _ _ rfl) ?_) | (refine fx_val (fun _ => rfl) rfl (fun χ w hw => run_nsn _ _ _ rfl) ?_) | (refine fx_val (fun _ => rfl) rfl (fun χ w hw => run_bd _ _ rfl) ?_) | (refine fx_val (fun _ => rfl) rfl (fun χ w hw => run_ieq _ _ _ _ rfl) ?_) | (refine fx_val (fun _ => rfl) rfl (fun χ w hw => run_beq _ _ _ _ rfl) ?_) | (refine fx_val (fun _ => rfl) rfl (fun χ w hw => run_bne _ _ _ _ rfl) ?_) | (refine fx_val (fun _ => rfl) rfl (fun χ w hw => run_bnot _ _ rfl) ?_) | (refine fx_val (fun _ => rfl) rfl (fun χ w hw => run_ext _ _ rfl) ?_) | (refine fx_val (fun _ => rfl) rfl (fun χ w hw => run_ilit _ _ _ _ rfl) ?_) | (refine fx_val (fun _ => rfl) rfl (fun χ w hw => run_cvn _ _ _ rfl) ?_) | (refine fx_val (fun _ => rfl) rfl (fun χ w hw => run_remn _ _ _ _ rfl (by decide)) ?_) | (refine fx_val (fun _ => rfl) rfl (fun χ w hw => run_nc _ rfl) ?_) | (refine fx_val (fun _ => rfl) rfl (fun χ w hw => run_inlit _ _ _ _ rfl) ?_) | (refine fx_skip (fun _ => rfl) ?_))
    first | (refine fx_val (fun _ => rfl) rfl (fun χ w hw => run_remv _ _ _ _ rfl) ?_) | (refine fx_val (fun _ => rfl) rfl (fun χ w hw => run_cvn _ _ _ rfl) ?_)
    first | (refine fx_val (fun _ => rfl) rfl (fun χ w hw => run_remv _ _ _ _ rfl) ?_) | (refine fx_val (fun _ => rfl) rfl (fun χ w hw => run_fa _ _ _ rfl) ?_)
    first | (refine fx_val (fun _ => rfl) rfl (fun χ w hw => run_remv _ _ _ _ rfl) ?_) | (refine fx_val (fun _ => rfl) rfl (fun χ w hw => run_ld _ _ rfl hw) ?_)
    first | (refine fx_val (fun _ => rfl) rfl (fun χ w hw => run_remv _ _ _ _ rfl) ?_) | (first | (refine fx_val (fun _ => rfl) rfl (fun χ w hw => run_mv _ rfl) ?_) | (refine fx_val (fun _ => rfl) rfl (fun χ w hw => run_as _ rfl) ?_) | (refine fx_val (fun _ => rfl) rfl (fun χ w hw => run_fa _ _ _ rfl) ?_) | (refine fx_val (fun _ => rfl) rfl (fun χ w hw => run_ld _ _ rfl hw) ?_) | (refine fx_val (fun _ => rfl) rfl (fun χ w hw => run_lda _ _ rfl hw) ?_) | (refine fx_val (fun _ => rfl) rfl (fun χ w hw => run_ld0 _ _ rfl hw) ?_) | (refine fx_val (fun _ => rfl) rfl (fun χ w hw => run_lda0 _ _ rfl hw) ?_) | (refine fx_val (fun _ => rfl) rfl (fun χ w hw => run_ine _ _ _ _ rfl) ?_) | (refine fx_val (fun _ => rfl) rfl (fun χ w hw => run_aeq _ _ _ _ rfl) ?_) | (refine fx_val (fun _ => rfl) rfl (fun χ w hw => run_ane _ _ _ _ rfl) ?_) | (refine fx_val (fun _ => rfl) rfl (fun χ w hw => run_lenv _ _ rfl) ?_) | (refine fx_val (fun _ => rfl) rfl (fun χ w hw => run_idxv _ _ _ rfl) ?_) | (refine fx_val (fun _ => rfl) rfl (fun χ w hw => run_pk1 _ _ _ rfl) ?_) | (refine fx_val (fun _ => rfl) rfl (fun χ w hw => run_pk2 _ _ _ rfl) ?_) | (refine fx_val (fun _ => rfl) rfl (fun χ w hw => run_nse _ _ _ rfl) ?_) | (refine fx_val (fun _ => rfl) rfl (fun χ w hw => run_nsn _ _ _ rfl) ?_) | (refine fx_val (fun _ => rfl) rfl (fun χ w hw => run_bd _ _ rfl) ?_) | (refine fx_val (fun _ => rfl) rfl (fun χ w hw => run_ieq _ _ _ _ rfl) ?_) | (refine fx_val (fun _ => rfl) rfl (fun χ w hw => run_beq _ _ _ _ rfl) ?_) | (refine fx_val (fun _ => rfl) rfl (fun χ w hw => run_bne _ _ _ _ rfl) ?_) | (refine fx_val (fun _ => rfl) rfl (fun χ w hw => run_bnot _ _ rfl) ?_) | (refine fx_val (fun _ => rfl) rfl (fun χ w hw => run_ext _ _ rfl) ?_) | (refine fx_val (fun _ => rfl) rfl (fun χ w hw => run_ilit _ _ _ _ rfl) ?_) | (refine fx_val (fun _ => rfl) rfl (fun χ w hw => run_cvn _ _ _ rfl) ?_) | (refine fx_val (fun _ => rfl) rfl (fun χ w hw => run_remn _ _ _ _ rfl (by decide)) ?_) | (refine fx_val (fun _ => rfl) rfl (fun χ w hw => run_nc _ rfl) ?_) | (refine fx_val (fun _ => rfl) rfl (fun χ w hw => run_inlit _ _ _ _ rfl) ?_) | (refine fx_skip (fun _ => rfl) ?_))
    first | (refine fx_val (fun _ => rfl) rfl (fun χ w hw => run_remv _ _ _ _ rfl) ?_) | (refine fx_val (fun _ => rfl) rfl (fun χ w hw => run_ilit _ _ _ _ rfl) ?_)
    first | (refine fx_val (fun _ => rfl) rfl (fun χ w hw => run_remv _ _ _ _ rfl) ?_) | (refine fx_val (fun _ => rfl) rfl (fun χ w hw => run_mv _ rfl) ?_)
    first | (refine fx_val (fun _ => rfl) rfl (fun χ w hw => run_remv _ _ _ _ rfl) ?_) | (refine fx_skip (fun _ => rfl) ?_)
    first | (refine fx_val (fun _ => rfl) rfl (fun χ w hw => run_remv _ _ _ _ rfl) ?_) | (refine fx_skip (fun _ => rfl) ?_)
    first | (refine fx_val (fun _ => rfl) rfl (fun χ w hw => run_remv _ _ _ _ rfl) ?_) | (refine fx_skip (fun _ => rfl) ?_)
    first | (refine fx_val (fun _ => rfl) rfl (fun χ w hw => run_remv _ _ _ _ rfl) ?_) | (refine fx_skip (fun _ => rfl) ?_)
    first | (refine fx_val (fun _ => rfl) rfl (fun χ w hw => run_remv _ _ _ _ rfl) ?_) | (refine fx_val (fun _ => rfl) rfl (fun χ w hw => run_pk2 _ _ _ rfl) ?_)
    refine fx_turn 0 0 rfl rfl (by kernel_rfl) (by kernel_rfl) (by kernel_rfl) 17 [_, _, _] _ rfl (fun _ => rfl) (enters _ (by kernel_rfl)) (fun _ => .tuple #[.agg #[.int .i64 j, .int .u32 g], .int .i64 0]) ?_ ?_
    · intro χ X w _ hS
      exact hp_make (show St w0 bs w (E ++ (X ++ _)) from hS) hT _ _ _ (j, g) 0 h1'.out h2'.out h3'.out (fun E' w' hT' hS' => ⟨(undef, E'), rfl, hT', show St w0 bs w' (E' ++ (X ++ _)) from hS'.pick⟩)
    first | (refine fx_val (fun _ => rfl) rfl (fun χ w hw => run_remv _ _ _ _ rfl) ?_) | (refine fx_val (fun _ => rfl) rfl (fun χ w hw => run_mv _ rfl) ?_)
    first | (refine fx_val (fun _ => rfl) rfl (fun χ w hw => run_remv _ _ _ _ rfl) ?_) | (refine fx_val (fun _ => rfl) rfl (fun χ w hw => run_ext _ _ rfl) ?_)
    first | (refine fx_val (fun _ => rfl) rfl (fun χ w hw => run_remv _ _ _ _ rfl) ?_) | (refine fx_val (fun _ => rfl) rfl (fun χ w hw => run_ext _ _ rfl) ?_)
    refine fx_turn0 1 0 rfl rfl (by kernel_rfl) (by kernel_rfl) (by kernel_rfl) (fun _ => rfl) (fun x => x.1) ?_ ?_
    · intro χ X w _ hS
      exact stepX_al _ rfl (show St w0 bs w (X ++ _) from hS) (fun b w' _ hS' => ⟨(_, [_]), rfl, ⟨b, rfl⟩, hS'⟩)
    refine fx_turn0 1 1 rfl rfl (by kernel_rfl) (by kernel_rfl) (by kernel_rfl) (fun _ => rfl) (fun _ => undef) ?_ ?_
    · rintro χ X w ⟨⟨b, hb⟩, _⟩ hS
      have hS : St w0 bs w ((χ 22).2 ++ (X ++ _)) := hS
      rw [hb] at hS
      have hS : St w0 bs w (⟨b, #[.int .i64 0, .int .u32 0], 38, true⟩ :: (X ++ _)) := hS
      have hb1 : (χ 22).1 = .pointer (some ⟨b, 0, none⟩) := by rw [hb]
      exact stepX_stb _ _ _ rfl hS hb1 (fun w' hS' => ⟨(undef, [⟨b, #[.int .i64 j, .int .u32 g], 38, true⟩]), rfl, ⟨b, hb1, rfl⟩, hS'⟩)
    first | (refine fx_val (fun _ => rfl) rfl (fun χ w hw => run_remv _ _ _ _ rfl) ?_) | (refine fx_val (fun _ => rfl) rfl (fun χ w hw => run_as _ rfl) ?_)
    refine fx_end rfl ?_
    intro χ w hok hS
    obtain ⟨hT2, _⟩ := hok _ (.head _)
    obtain ⟨⟨bo, hb⟩, ⟨bo', hb1, hb2⟩, _⟩ := hok _ (.tail _ (.head _))
    rw [hb] at hb1
    obtain ⟨⟩ := hb1
    have hS : St w0 bs w (((χ 18).2 ++ ((χ 23).2 ++ [])) ++ (⟨bt, #[.int .u8 a, .int .u8 i, .int .u8 c], 29, true⟩ :: moE bm ph M vi vg :: (Ei ++ (Eg ++ (ms.map meE ++ H))))) := hS
    rw [hb2, List.append_nil, List.append_assoc] at hS
    generalize (χ 18).2 = E' at hS hT2
    simp only [hb]
    simp only [List.cons_append, List.nil_append] at hS
    clear hok hb2 hb
    go_wp2_with (first | go_skip | (refine region_quiet hS (by kernel_rfl) (by kernel_rfl) (fun hne => ?_); (repeat (first | go_big_quiet_skip | (go_big_quiet_want; first | (refine quiet_is (.lookup _ _ _ _) rfl ?_; refine quiet_at sw_st (fun w hS => run_look _ _ _ rfl (hlk _ _ hS)) ?_; go_big_quiet_on) | (refine quiet_is (.load _ _) rfl ?_; go_must (first | refine quiet_at sw_st (fun w hS => run_ld _ _ rfl hS) ?_ | refine quiet_at sw_st (fun w hS => run_lda _ _ rfl hS) ?_ | refine quiet_at sw_st (fun w hS => run_ld0 _ _ rfl hS) ?_ | refine quiet_at sw_st (fun w hS => run_lda0 _ _ rfl hS) ?_); go_big_quiet_on) | (refine quiet_is (.binOp .eql _ _ (.const (.slice none _ _)) _) rfl ?_; refine quiet_val (fun w _ => run_nse _ _ _ rfl) ?_; go_big_quiet_on) | (refine quiet_is (.binOp .neq _ _ (.const (.slice none _ _)) _) rfl ?_; refine quiet_val (fun w _ => run_nsn _ _ _ rfl) ?_; go_big_quiet_on) | (refine quiet_is (.call { callee := .builtin .len, args := #[_], argTypes := #[_] }) rfl ?_; refine quiet_val (fun w _ => run_lenv _ _ rfl) ?_; go_big_quiet_on) | (refine quiet_is (.indexAddr _ _ _) rfl ?_; refine quiet_val (fun w _ => run_idxv _ _ _ rfl) ?_; go_big_quiet_on) | (refine quiet_is (.binOp .eql _ _ _ _) rfl ?_; refine quiet_val (fun w _ => run_aeq _ _ _ _ rfl) ?_; go_big_quiet_on) | (refine quiet_is (.binOp .neq _ _ _ _) rfl ?_; refine quiet_val (fun w _ => run_ane _ _ _ _ rfl) ?_; go_big_quiet_on) | (go_big_quiet_op; go_big_quiet_on)))); refine wpQuiet_nil ?_; clear hS hne; intro w hS) | (refine wpList_is (.binOp .eql _ _ _ _) rfl ?_; refine wpList_stp (by kernel_rfl) (stp_val (run_aeq _ _ _ _ rfl) ?_)) | (refine wpList_is (.binOp .neq _ _ _ _) rfl ?_; refine wpList_stp (by kernel_rfl) (stp_val (run_ane _ _ _ _ rfl) ?_)) | go_skip | (refine wpList_is (.build _ _) rfl ?_; go_must (refine wpList_stp (by kernel_rfl) (stp_val (run_bd _ _ rfl) ?_))) | (refine wpList_is (.call { callee := .builtin .clear, args := #[_], argTypes := #[_] }) rfl ?_; go_must (refine wpList_stp (by kernel_rfl) (stp_cl _ _ rfl hS (by decide) ?_)); clear hS; intro w hS) | (refine wpList_is (.load _ _) rfl ?_; go_must (first | refine wpList_stp (by kernel_rfl) (stp_val (run_ld _ _ rfl hS) ?_) | refine wpList_stp (by kernel_rfl) (stp_val (run_lda _ _ rfl hS) ?_) | refine wpList_stp (by kernel_rfl) (stp_val (run_ld0 _ _ rfl hS) ?_) | refine wpList_stp (by kernel_rfl) (stp_val (run_lda0 _ _ rfl hS) ?_))) | (refine wpList_is (.store _ _ _) rfl ?_; go_must (first | refine wpList_stp (by kernel_rfl) (stp_st _ _ _ rfl hS ?_) | refine wpList_stp (by kernel_rfl) (stp_sta _ _ _ rfl hS ?_)); clear hS; intro w hS) | (refine wpList_is (.alloc _) rfl ?_; go_must (refine wpList_stp (by kernel_rfl) (stp_al _ rfl hS ?_)); clear hS; intro bN w hbN hS) | (refine wpList_is (.box _ _) rfl ?_; go_must (refine wpList_stp (by kernel_rfl) (stp_bx _ _ rfl hS ?_)); clear hS; intro bN w hbN hS) | (refine wpList_is (.binOp .eql _ _ (.const (.slice none _ _)) _) rfl ?_; refine wpList_stp (by kernel_rfl) (stp_val (run_nse _ _ _ rfl) ?_)) | (refine wpList_is (.binOp .neq _ _ (.const (.slice none _ _)) _) rfl ?_; refine wpList_stp (by kernel_rfl) (stp_val (run_nsn _ _ _ rfl) ?_)))
    have hS : St w0 bs w (⟨bo, #[.int .i64 j, .int .u32 g], 38, true⟩ :: ⟨bt, #[.int .u8 a, .int .u8 i, .int .u8 c], 29, true⟩ :: moE bm ph M vi vg :: (E' ++ (Ei ++ (Eg ++ (ms.map meE ++ H))))) := hS.pick
    obtain ⟨N, hN⟩ : ∃ N, w.heap.size = N := ⟨_, rfl⟩
    obtain ⟨me, hme⟩ : ∃ me : Me, me = (((j : Int), g), N, List.replicate z (0, 0)) := ⟨_, rfl⟩
    have hmeE : meE me = ⟨N, madeCells #[.int .i64 0, .int .u32 0] (z * 2), 38, true⟩ := by rw [made_cells hz4, hme]; rfl
    have hcom := ph7_com (W := W) (w0 := w0) (bs := bs) (M := M) (N := N) (X := (⟨bo, #[.int .i64 j, .int .u32 g], 38, true⟩ :: ⟨bt, #[.int .u8 a, .int .u8 i, .int .u8 c], 29, true⟩ :: moE bm ph M vi vg :: (E' ++ (Ei ++ (Eg ++ (ms.map meE ++ H)))))) (e := meE me) (ms := (ms ++ [me]).map meV)
    refine region_step (Ph7 W w0 bs M N (⟨bo, #[.int .i64 j, .int .u32 g], 38, true⟩ :: ⟨bt, #[.int .u8 a, .int .u8 i, .int .u8 c], 29, true⟩ :: moE bm ph M vi vg :: (E' ++ (Ei ++ (Eg ++ (ms.map meE ++ H))))) (meE me) ((ms ++ [me]).map meV)) (fun i => i == 9 || i == 10) (by kernel_rfl) (by kernel_rfl) (by kernel_rfl) ⟨hS.drawn _, hN⟩ ?_
    first | (refine lex_val rfl rfl (fun q w hw => run_nc _ rfl) ?_) | (refine lex_val rfl rfl (fun q w hw => run_remv _ _ _ _ rfl) ?_) | (refine lex_val rfl rfl (fun q w hw => run_cvn _ _ _ rfl) ?_) | (first | (refine lex_val rfl rfl (fun q w hw => run_mv _ rfl) ?_) | (refine lex_val rfl rfl (fun q w hw => run_as _ rfl) ?_) | (refine lex_val rfl rfl (fun q w hw => run_fa _ _ _ rfl) ?_) | (refine lex_val rfl rfl (fun q w hw => run_ld _ _ rfl (hcom q w hw)) ?_) | (refine lex_val rfl rfl (fun q w hw => run_lda _ _ rfl (hcom q w hw)) ?_) | (refine lex_val rfl rfl (fun q w hw => run_ine _ _ _ _ rfl) ?_) | (refine lex_val rfl rfl (fun q w hw => run_aeq _ _ _ _ rfl) ?_) | (refine lex_val rfl rfl (fun q w hw => run_ane _ _ _ _ rfl) ?_) | (refine lex_val rfl rfl (fun q w hw => run_lenv _ _ rfl) ?_) | (refine lex_val rfl rfl (fun q w hw => run_idxv _ _ _ rfl) ?_) | (refine lex_val rfl rfl (fun q w hw => run_pk1 _ _ _ rfl) ?_) | (refine lex_val rfl rfl (fun q w hw => run_pk2 _ _ _ rfl) ?_))
    first | (refine lex_val rfl rfl (fun q w hw => run_nc _ rfl) ?_) | (refine lex_val rfl rfl (fun q w hw => run_remv _ _ _ _ rfl) ?_) | (refine lex_val rfl rfl (fun q w hw => run_cvn _ _ _ rfl) ?_) | (first | (refine lex_val rfl rfl (fun q w hw => run_mv _ rfl) ?_) | (refine lex_val rfl rfl (fun q w hw => run_as _ rfl) ?_) | (refine lex_val rfl rfl (fun q w hw => run_fa _ _ _ rfl) ?_) | (refine lex_val rfl rfl (fun q w hw => run_ld _ _ rfl (hcom q w hw)) ?_) | (refine lex_val rfl rfl (fun q w hw => run_lda _ _ rfl (hcom q w hw)) ?_) | (refine lex_val rfl rfl (fun q w hw => run_ine _ _ _ _ rfl) ?_) | (refine lex_val rfl rfl (fun q w hw => run_aeq _ _ _ _ rfl) ?_) | (refine lex_val rfl rfl (fun q w hw => run_ane _ _ _ _ rfl) ?_) | (refine lex_val rfl rfl (fun q w hw => run_lenv _ _ rfl) ?_) | (refine lex_val rfl rfl (fun q w hw => run_idxv _ _ _ rfl) ?_) | (refine lex_val rfl rfl (fun q w hw => run_pk1 _ _ _ rfl) ?_) | (refine lex_val rfl rfl (fun q w hw => run_pk2 _ _ _ rfl) ?_))
    first | (refine lex_val rfl rfl (fun q w hw => run_nc _ rfl) ?_) | (refine lex_val rfl rfl (fun q w hw => run_remv _ _ _ _ rfl) ?_) | (refine lex_val rfl rfl (fun q w hw => run_cvn _ _ _ rfl) ?_) | (first | (refine lex_val rfl rfl (fun q w hw => run_mv _ rfl) ?_) | (refine lex_val rfl rfl (fun q w hw => run_as _ rfl) ?_) | (refine lex_val rfl rfl (fun q w hw => run_fa _ _ _ rfl) ?_) | (refine lex_val rfl rfl (fun q w hw => run_ld _ _ rfl (hcom q w hw)) ?_) | (refine lex_val rfl rfl (fun q w hw => run_lda _ _ rfl (hcom q w hw)) ?_) | (refine lex_val rfl rfl (fun q w hw => run_ine _ _ _ _ rfl) ?_) | (refine lex_val rfl rfl (fun q w hw => run_aeq _ _ _ _ rfl) ?_) | (refine lex_val rfl rfl (fun q w hw => run_ane _ _ _ _ rfl) ?_) | (refine lex_val rfl rfl (fun q w hw => run_lenv _ _ rfl) ?_) | (refine lex_val rfl rfl (fun q w hw => run_idxv _ _ _ rfl) ?_) | (refine lex_val rfl rfl (fun q w hw => run_pk1 _ _ _ rfl) ?_) | (refine lex_val rfl rfl (fun q w hw => run_pk2 _ _ _ rfl) ?_))
    first | (refine lex_val rfl rfl (fun q w hw => run_nc _ rfl) ?_) | (refine lex_val rfl rfl (fun q w hw => run_remv _ _ _ _ rfl) ?_) | (refine lex_val rfl rfl (fun q w hw => run_cvn _ _ _ rfl) ?_) | (first | (refine lex_val rfl rfl (fun q w hw => run_mv _ rfl) ?_) | (refine lex_val rfl rfl (fun q w hw => run_as _ rfl) ?_) | (refine lex_val rfl rfl (fun q w hw => run_fa _ _ _ rfl) ?_) | (refine lex_val rfl rfl (fun q w hw => run_ld _ _ rfl (hcom q w hw)) ?_) | (refine lex_val rfl rfl (fun q w hw => run_lda _ _ rfl (hcom q w hw)) ?_) | (refine lex_val rfl rfl (fun q w hw => run_ine _ _ _ _ rfl) ?_) | (refine lex_val rfl rfl (fun q w hw => run_aeq _ _ _ _ rfl) ?_) | (refine lex_val rfl rfl (fun q w hw => run_ane _ _ _ _ rfl) ?_) | (refine lex_val rfl rfl (fun q w hw => run_lenv _ _ rfl) ?_) | (refine lex_val rfl rfl (fun q w hw => run_idxv _ _ _ rfl) ?_) | (refine lex_val rfl rfl (fun q w hw => run_pk1 _ _ _ rfl) ?_) | (refine lex_val rfl rfl (fun q w hw => run_pk2 _ _ _ rfl) ?_))
    first | (refine lex_val rfl rfl (fun q w hw => run_nc _ rfl) ?_) | (refine lex_val rfl rfl (fun q w hw => run_remv _ _ _ _ rfl) ?_) | (refine lex_val rfl rfl (fun q w hw => run_cvn _ _ _ rfl) ?_) | (first | (refine lex_val rfl rfl (fun q w hw => run_mv _ rfl) ?_) | (refine lex_val rfl rfl (fun q w hw => run_as _ rfl) ?_) | (refine lex_val rfl rfl (fun q w hw => run_fa _ _ _ rfl) ?_) | (refine lex_val rfl rfl (fun q w hw => run_ld _ _ rfl (hcom q w hw)) ?_) | (refine lex_val rfl rfl (fun q w hw => run_lda _ _ rfl (hcom q w hw)) ?_) | (refine lex_val rfl rfl (fun q w hw => run_ine _ _ _ _ rfl) ?_) | (refine lex_val rfl rfl (fun q w hw => run_aeq _ _ _ _ rfl) ?_) | (refine lex_val rfl rfl (fun q w hw => run_ane _ _ _ _ rfl) ?_) | (refine lex_val rfl rfl (fun q w hw => run_lenv _ _ rfl) ?_) | (refine lex_val rfl rfl (fun q w hw => run_idxv _ _ _ rfl) ?_) | (refine lex_val rfl rfl (fun q w hw => run_pk1 _ _ _ rfl) ?_) | (refine lex_val rfl rfl (fun q w hw => run_pk2 _ _ _ rfl) ?_))
    first | (refine lex_val rfl rfl (fun q w hw => run_nc _ rfl) ?_) | (refine lex_val rfl rfl (fun q w hw => run_remv _ _ _ _ rfl) ?_) | (refine lex_val rfl rfl (fun q w hw => run_cvn _ _ _ rfl) ?_) | (first | (refine lex_val rfl rfl (fun q w hw => run_mv _ rfl) ?_) | (refine lex_val rfl rfl (fun q w hw => run_as _ rfl) ?_) | (refine lex_val rfl rfl (fun q w hw => run_fa _ _ _ rfl) ?_) | (refine lex_val rfl rfl (fun q w hw => run_ld _ _ rfl (hcom q w hw)) ?_) | (refine lex_val rfl rfl (fun q w hw => run_lda _ _ rfl (hcom q w hw)) ?_) | (refine lex_val rfl rfl (fun q w hw => run_ine _ _ _ _ rfl) ?_) | (refine lex_val rfl rfl (fun q w hw => run_aeq _ _ _ _ rfl) ?_) | (refine lex_val rfl rfl (fun q w hw => run_ane _ _ _ _ rfl) ?_) | (refine lex_val rfl rfl (fun q w hw => run_lenv _ _ rfl) ?_) | (refine lex_val rfl rfl (fun q w hw => run_idxv _ _ _ rfl) ?_) | (refine lex_val rfl rfl (fun q w hw => run_pk1 _ _ _ rfl) ?_) | (refine lex_val rfl rfl (fun q w hw => run_pk2 _ _ _ rfl) ?_))
    first | (refine lex_val rfl rfl (fun q w hw => run_nc _ rfl) ?_) | (refine lex_val rfl rfl (fun q w hw => run_remv _ _ _ _ rfl) ?_) | (refine lex_val rfl rfl (fun q w hw => run_cvn _ _ _ rfl) ?_) | (first | (refine lex_val rfl rfl (fun q w hw => run_mv _ rfl) ?_) | (refine lex_val rfl rfl (fun q w hw => run_as _ rfl) ?_) | (refine lex_val rfl rfl (fun q w hw => run_fa _ _ _ rfl) ?_) | (refine lex_val rfl rfl (fun q w hw => run_ld _ _ rfl (hcom q w hw)) ?_) | (refine lex_val rfl rfl (fun q w hw => run_lda _ _ rfl (hcom q w hw)) ?_) | (refine lex_val rfl rfl (fun q w hw => run_ine _ _ _ _ rfl) ?_) | (refine lex_val rfl rfl (fun q w hw => run_aeq _ _ _ _ rfl) ?_) | (refine lex_val rfl rfl (fun q w hw => run_ane _ _ _ _ rfl) ?_) | (refine lex_val rfl rfl (fun q w hw => run_lenv _ _ rfl) ?_) | (refine lex_val rfl rfl (fun q w hw => run_idxv _ _ _ rfl) ?_) | (refine lex_val rfl rfl (fun q w hw => run_pk1 _ _ _ rfl) ?_) | (refine lex_val rfl rfl (fun q w hw => run_pk2 _ _ _ rfl) ?_))
    first | (refine lex_val rfl rfl (fun q w hw => run_nc _ rfl) ?_) | (refine lex_val rfl rfl (fun q w hw => run_remv _ _ _ _ rfl) ?_) | (refine lex_val rfl rfl (fun q w hw => run_cvn _ _ _ rfl) ?_) | (first | (refine lex_val rfl rfl (fun q w hw => run_mv _ rfl) ?_) | (refine lex_val rfl rfl (fun q w hw => run_as _ rfl) ?_) | (refine lex_val rfl rfl (fun q w hw => run_fa _ _ _ rfl) ?_) | (refine lex_val rfl rfl (fun q w hw => run_ld _ _ rfl (hcom q w hw)) ?_) | (refine lex_val rfl rfl (fun q w hw => run_lda _ _ rfl (hcom q w hw)) ?_) | (refine lex_val rfl rfl (fun q w hw => run_ine _ _ _ _ rfl) ?_) | (refine lex_val rfl rfl (fun q w hw => run_aeq _ _ _ _ rfl) ?_) | (refine lex_val rfl rfl (fun q w hw => run_ane _ _ _ _ rfl) ?_) | (refine lex_val rfl rfl (fun q w hw => run_lenv _ _ rfl) ?_) | (refine lex_val rfl rfl (fun q w hw => run_idxv _ _ _ rfl) ?_) | (refine lex_val rfl rfl (fun q w hw => run_pk1 _ _ _ rfl) ?_) | (refine lex_val rfl rfl (fun q w hw => run_pk2 _ _ _ rfl) ?_))
    first | (refine lex_val rfl rfl (fun q w hw => run_nc _ rfl) ?_) | (refine lex_val rfl rfl (fun q w hw => run_remv _ _ _ _ rfl) ?_) | (refine lex_val rfl rfl (fun q w hw => run_cvn _ _ _ rfl) ?_) | (first | (refine lex_val rfl rfl (fun q w hw => run_mv _ rfl) ?_) | (refine lex_val rfl rfl (fun q w hw => run_as _ rfl) ?_) | (refine lex_val rfl rfl (fun q w hw => run_fa _ _ _ rfl) ?_) | (refine lex_val rfl rfl (fun q w hw => run_ld _ _ rfl (hcom q w hw)) ?_) | (refine lex_val rfl rfl (fun q w hw => run_lda _ _ rfl (hcom q w hw)) ?_) | (refine lex_val rfl rfl (fun q w hw => run_ine _ _ _ _ rfl) ?_) | (refine lex_val rfl rfl (fun q w hw => run_aeq _ _ _ _ rfl) ?_) | (refine lex_val rfl rfl (fun q w hw => run_ane _ _ _ _ rfl) ?_) | (refine lex_val rfl rfl (fun q w hw => run_lenv _ _ rfl) ?_) | (refine lex_val rfl rfl (fun q w hw => run_idxv _ _ _ rfl) ?_) | (refine lex_val rfl rfl (fun q w hw => run_pk1 _ _ _ rfl) ?_) | (refine lex_val rfl rfl (fun q w hw => run_pk2 _ _ _ rfl) ?_))
    refine lex_mark rfl rfl (.slice (some ⟨N, 0, none⟩) z z) ?_ ?_
    · rintro w ⟨hS, hN⟩
      rw [← hN]
      exact stepAt_mk (z := z) _ _ _ rfl hS (by omega) (by omega) (fun w' hS' => by
        rw [hN] at hS'
        show St w0 bs w' (meE me :: _)
        rw [hmeE]; exact hS')
    refine lex_mark rfl rfl undef ?_ ?_
    · intro w hS
      have hS : St w0 bs w (meE me :: (⟨bo, #[.int .i64 j, .int .u32 g], 38, true⟩ :: ⟨bt, #[.int .u8 a, .int .u8 i, .int .u8 c], 29, true⟩ :: moE bm ph M vi vg :: (E' ++ (Ei ++ (Eg ++ (ms.map meE ++ H)))))) := hS
      obtain ⟨es, ck, hr, he⟩ := put_me (hB.now hS) hfr N (List.replicate z (0, 0))
      rw [← hme] at he
      simp only [List.length_replicate] at hr
      exact stepAt_upd _ _ _ _ rfl ⟨_, hr, _, _, hB.turn hS he⟩
    refine lex_nil ?_
    clear hS hcom hlk
    rintro w ⟨w1, bs1, hB1, hS1⟩
    clear hB
    have hB := hB1
    have hS := hS1
    clear hB1 hS1
    obtain ⟨w0, rfl⟩ : ∃ q, q = w1 := ⟨_, rfl⟩
    obtain ⟨bs, rfl⟩ : ∃ q, q = bs1 := ⟨_, rfl⟩
    go_wp2_with (first | go_skip | go_skip | (refine wpList_is (.build _ _) rfl ?_; go_must (refine wpList_stp (by kernel_rfl) (stp_val (run_bd _ _ rfl) ?_))) | (refine wpList_is (.call { callee := .builtin .clear, args := #[_], argTypes := #[_] }) rfl ?_; go_must (refine wpList_stp (by kernel_rfl) (stp_cl _ _ rfl hS (by decide) ?_)); clear hS; intro w hS) | (refine wpList_is (.load _ _) rfl ?_; go_must (first | refine wpList_stp (by kernel_rfl) (stp_val (run_ld _ _ rfl hS) ?_) | refine wpList_stp (by kernel_rfl) (stp_val (run_lda _ _ rfl hS) ?_) | refine wpList_stp (by kernel_rfl) (stp_val (run_ld0 _ _ rfl hS) ?_) | refine wpList_stp (by kernel_rfl) (stp_val (run_lda0 _ _ rfl hS) ?_))) | (refine wpList_is (.store _ _ _) rfl ?_; go_must (first | refine wpList_stp (by kernel_rfl) (stp_st _ _ _ rfl hS ?_) | refine wpList_stp (by kernel_rfl) (stp_sta _ _ _ rfl hS ?_)); clear hS; intro w hS) | (refine wpList_is (.alloc _) rfl ?_; go_must (refine wpList_stp (by kernel_rfl) (stp_al _ rfl hS ?_)); clear hS; intro bN w hbN hS) | (refine wpList_is (.box _ _) rfl ?_; go_must (refine wpList_stp (by kernel_rfl) (stp_bx _ _ rfl hS ?_)); clear hS; intro bN w hbN hS) | (refine wpList_is (.binOp .eql _ _ (.const (.slice none _ _)) _) rfl ?_; refine wpList_stp (by kernel_rfl) (stp_val (run_nse _ _ _ rfl) ?_)) | (refine wpList_is (.binOp .neq _ _ (.const (.slice none _ _)) _) rfl ?_; refine wpList_stp (by kernel_rfl) (stp_val (run_nsn _ _ _ rfl) ?_)))
    have hS : St w0 bs w (Ei ++ (moE bm ph M vi vg :: (⟨bo, #[.int .i64 j, .int .u32 g], 38, true⟩ :: ⟨bt, #[.int .u8 a, .int .u8 i, .int .u8 c], 29, true⟩ :: (E' ++ (Eg ++ (meE me :: (ms.map meE ++ H))))))) := hS.pick
    refine region_depsE [⟨(undef, Ei), [(7, [], fun _ _ x => RS x.1 (ins ++ [((j : Int), g)]) x.2)]⟩, ⟨(undef, []), [(6, [], fun _ _ x => ∃ b', x = (.slice (some ⟨b', 0, none⟩) 1 1, [⟨b', #[.int .i64 j, .int .u32 g], 38, true⟩]))]⟩,
        ⟨(undef, [moE bm ph M vi vg]), [(10, [7], fun q _ x => x.2 = [moE bm ph M (q.getD 0 default).1 vg])]⟩]
      (⟨bo, #[.int .i64 j, .int .u32 g], 38, true⟩ :: ⟨bt, #[.int .u8 a, .int .u8 i, .int .u8 c], 29, true⟩ :: (E' ++ (Eg ++ (meE me :: (ms.map meE ++ H))))) (Ei ++ (moE bm ph M vi vg :: (⟨bo, #[.int .i64 j, .int .u32 g], 38, true⟩ :: ⟨bt, #[.int .u8 a, .int .u8 i, .int .u8 c], 29, true⟩ :: (E' ++ (Eg ++ (meE me :: (ms.map meE ++ H))))))) (by simp) hS (by kernel_rfl) (by kernel_rfl) ?_
    first | (refine dx_val (fun _ => rfl) rfl (fun χ w hw => run_nc _ rfl) ?_) | (refine dx_val (fun _ => rfl) rfl (fun χ w hw => run_mv _ rfl) ?_)
    first | (refine dx_val (fun _ => rfl) rfl (fun χ w hw => run_nc _ rfl) ?_) | (refine dx_val (fun _ => rfl) rfl (fun χ w hw => run_mv _ rfl) ?_)
    first | (refine dx_val (fun _ => rfl) rfl (fun χ w hw => run_nc _ rfl) ?_) | (first | (refine dx_val (fun _ => rfl) rfl (fun χ w hw => run_mv _ rfl) ?_) | (refine dx_val (fun _ => rfl) rfl (fun χ w hw => run_as _ rfl) ?_) | (refine dx_val (fun _ => rfl) rfl (fun χ w hw => run_fa _ _ _ rfl) ?_) | (refine dx_val (fun _ => rfl) rfl (fun χ w hw => run_ld _ _ rfl hw) ?_) | (refine dx_val (fun _ => rfl) rfl (fun χ w hw => run_lda _ _ rfl hw) ?_) | (refine dx_val (fun _ => rfl) rfl (fun χ w hw => run_ld0 _ _ rfl hw) ?_) | (refine dx_val (fun _ => rfl) rfl (fun χ w hw => run_lda0 _ _ rfl hw) ?_) | (refine dx_val (fun _ => rfl) rfl (fun χ w hw => run_ine _ _ _ _ rfl) ?_) | (refine dx_val (fun _ => rfl) rfl (fun χ w hw => run_aeq _ _ _ _ rfl) ?_) | (refine dx_val (fun _ => rfl) rfl (fun χ w hw => run_ane _ _ _ _ rfl) ?_) | (refine dx_val (fun _ => rfl) rfl (fun χ w hw => run_lenv _ _ rfl) ?_) | (refine dx_val (fun _ => rfl) rfl (fun χ w hw => run_idxv _ _ _ rfl) ?_) | (refine dx_val (fun _ => rfl) rfl (fun χ w hw => run_pk1 _ _ _ rfl) ?_) | (refine dx_val (fun _ => rfl) rfl (fun χ w hw => run_pk2 _ _ _ rfl) ?_) | (refine dx_val (fun _ => rfl) rfl (fun χ w hw => run_nse _ _ _ rfl) ?_) | (refine dx_val (fun _ => rfl) rfl (fun χ w hw => run_nsn _ _ _ rfl) ?_) | (refine dx_val (fun _ => rfl) rfl (fun χ w hw => run_bd _ _ rfl) ?_) | (refine dx_val (fun _ => rfl) rfl (fun χ w hw => run_ieq _ _ _ _ rfl) ?_) | (refine dx_val (fun _ => rfl) rfl (fun χ w hw => run_beq _ _ _ _ rfl) ?_) | (refine dx_val (fun _ => rfl) rfl (fun χ w hw => run_bne _ _ _ _ rfl) ?_) | (refine dx_val (fun _ => rfl) rfl (fun χ w hw => run_bnot _ _ rfl) ?_) | (refine dx_val (fun _ => rfl) rfl (fun χ w hw => run_ext _ _ rfl) ?_) | (refine dx_val (fun _ => rfl) rfl (fun χ w hw => run_ilit _ _ _ _ rfl) ?_) | (refine dx_val (fun _ => rfl) rfl (fun χ w hw => run_cvn _ _ _ rfl) ?_) | (refine dx_val (fun _ => rfl) rfl (fun χ w hw => run_remn _ _ _ _ rfl (by decide)) ?_) | (refine dx_val (fun _ => rfl) rfl (fun χ w hw => run_nc _ rfl) ?_) | (refine dx_val (fun _ => rfl) rfl (fun χ w hw => run_inlit _ _ _ _ rfl) ?_) | (refine dx_skip (fun _ => rfl) ?_))
    first | (refine dx_val (fun _ => rfl) rfl (fun χ w hw => run_nc _ rfl) ?_) | (refine dx_val (fun _ => rfl) rfl (fun χ w hw => run_fa _ _ _ rfl) ?_)
    refine dx_valS 2 0 rfl (by kernel_rfl) (fun _ => rfl) rfl (fun _ => vi) (fun _ _ _ => rfl) (fun χ X w _ hS => run_ld _ _ rfl (show St w0 bs w (moE bm ph M vi vg :: (X ++ _)) from hS)) ?_
    first | (refine dx_val (fun _ => rfl) rfl (fun χ w hw => run_nc _ rfl) ?_) | (refine dx_val (fun _ => rfl) rfl (fun χ w hw => run_lda _ _ rfl hw) ?_)
    refine dx_turn0 1 0 rfl rfl (by kernel_rfl) (by kernel_rfl) (by kernel_rfl) (by kernel_rfl) (fun _ => rfl) (fun x => x.1) ?_ ?_
    · intro χ X w _ hS
      exact stepX_to 92 rfl (by simp) (stp_bsl (size := 2) (e := 38) _ 1 [(0, _)] rfl (show St w0 bs w (X ++ _) from hS) (by decide) rfl (by decide) (by decide) (fun b' w' _ hS' => ⟨_, rfl, (.slice (some ⟨b', 0, none⟩) 1 1, [⟨b', #[.int .i64 j, .int .u32 g], 38, true⟩]), rfl, ⟨b', rfl⟩, hS'⟩))
    refine dx_turnW 0 0 0 1 rfl rfl rfl (by kernel_rfl) (by kernel_rfl) (by kernel_rfl) (by kernel_rfl) (by kernel_rfl) (fun _ => rfl) (fun x => x.1) ?_ ?_
    · rintro χ X w _ ⟨⟨b', hb'⟩, _⟩ hS
      have hS : St w0 bs w (Ei ++ ((χ 6).2 ++ (X ++ _))) := hS
      rw [hb'] at hS
      simp only [List.cons_append, List.nil_append] at hS
      simp only [hb']
      refine stepX_to 93 rfl (by simp) (stp_ap _ _ _ _ rfl rfl hS (by rfl) (show Sl 38 2 vi ins.length (ins.flatMap slf) Ei from hvi) (by rfl) (by simp only [maxLen]; omega) (by omega) ?_)
      intro v' E' w' hsl' _ hS'
      refine ⟨_, rfl, (v', E'), rfl, RS.snoc (x := ((j : Int), g)) hsl', ?_⟩
      show St w0 bs w' (E' ++ ((χ 6).2 ++ (X ++ _)))
      rw [hb']
      exact hS'.pick
    first | (refine dx_val (fun _ => rfl) rfl (fun χ w hw => run_nc _ rfl) ?_) | (first | (refine dx_val (fun _ => rfl) rfl (fun χ w hw => run_mv _ rfl) ?_) | (refine dx_val (fun _ => rfl) rfl (fun χ w hw => run_as _ rfl) ?_) | (refine dx_val (fun _ => rfl) rfl (fun χ w hw => run_fa _ _ _ rfl) ?_) | (refine dx_val (fun _ => rfl) rfl (fun χ w hw => run_ld _ _ rfl hw) ?_) | (refine dx_val (fun _ => rfl) rfl (fun χ w hw => run_lda _ _ rfl hw) ?_) | (refine dx_val (fun _ => rfl) rfl (fun χ w hw => run_ld0 _ _ rfl hw) ?_) | (refine dx_val (fun _ => rfl) rfl (fun χ w hw => run_lda0 _ _ rfl hw) ?_) | (refine dx_val (fun _ => rfl) rfl (fun χ w hw => run_ine _ _ _ _ rfl) ?_) | (refine dx_val (fun _ => rfl) rfl (fun χ w hw => run_aeq _ _ _ _ rfl) ?_) | (refine dx_val (fun _ => rfl) rfl (fun χ w hw => run_ane _ _ _ _ rfl) ?_) | (refine dx_val (fun _ => rfl) rfl (fun χ w hw => run_lenv _ _ rfl) ?_) | (refine dx_val (fun _ => rfl) rfl (fun χ w hw => run_idxv _ _ _ rfl) ?_) | (refine dx_val (fun _ => rfl) rfl (fun χ w hw => run_pk1 _ _ _ rfl) ?_) | (refine dx_val (fun _ => rfl) rfl (fun χ w hw => run_pk2 _ _ _ rfl) ?_) | (refine dx_val (fun _ => rfl) rfl (fun χ w hw => run_nse _ _ _ rfl) ?_) | (refine dx_val (fun _ => rfl) rfl (fun χ w hw => run_nsn _ _ _ rfl) ?_) | (refine dx_val (fun _ => rfl) rfl (fun χ w hw => run_bd _ _ rfl) ?_) | (refine dx_val (fun _ => rfl) rfl (fun χ w hw => run_ieq _ _ _ _ rfl) ?_) | (refine dx_val (fun _ => rfl) rfl (fun χ w hw => run_beq _ _ _ _ rfl) ?_) | (refine dx_val (fun _ => rfl) rfl (fun χ w hw => run_bne _ _ _ _ rfl) ?_) | (refine dx_val (fun _ => rfl) rfl (fun χ w hw => run_bnot _ _ rfl) ?_) | (refine dx_val (fun _ => rfl) rfl (fun χ w hw => run_ext _ _ rfl) ?_) | (refine dx_val (fun _ => rfl) rfl (fun χ w hw => run_ilit _ _ _ _ rfl) ?_) | (refine dx_val (fun _ => rfl) rfl (fun χ w hw => run_cvn _ _ _ rfl) ?_) | (refine dx_val (fun _ => rfl) rfl (fun χ w hw => run_remn _ _ _ _ rfl (by decide)) ?_) | (refine dx_val (fun _ => rfl) rfl (fun χ w hw => run_nc _ rfl) ?_) | (refine dx_val (fun _ => rfl) rfl (fun χ w hw => run_inlit _ _ _ _ rfl) ?_) | (refine dx_skip (fun _ => rfl) ?_))
    first | (refine dx_val (fun _ => rfl) rfl (fun χ w hw => run_nc _ rfl) ?_) | (refine dx_val (fun _ => rfl) rfl (fun χ w hw => run_fa _ _ _ rfl) ?_)
    refine dx_turnW 2 0 0 1 rfl rfl rfl (by kernel_rfl) (by kernel_rfl) (by kernel_rfl) (by kernel_rfl) (by kernel_rfl) (fun _ => rfl) (fun _ => undef) ?_ ?_
    · rintro χ X w _ ⟨hA2, _⟩ hS
      have ho8 := hA2.one
      exact stepX_st _ _ _ rfl (show St w0 bs w (moE bm ph M vi vg :: ((χ 7).2 ++ (X ++ _))) from hS) (fun w' hS' => ⟨(undef, [moE bm ph M (χ 7).1 vg]), rfl, rfl, hS'⟩)
    refine dx_end rfl ?_
    intro χ w hok hS
    obtain ⟨hA2, _⟩ := hok _ (.head _)
    obtain ⟨hD, _⟩ := hok _ (.tail _ (.tail _ (.head _)))
    have hD : (χ 10).2 = [moE bm ph M (χ 7).1 vg] := hD
    have hS : St w0 bs w (((χ 7).2 ++ ((χ 6).2 ++ ((χ 10).2 ++ []))) ++ (⟨bo, #[.int .i64 j, .int .u32 g], 38, true⟩ :: ⟨bt, #[.int .u8 a, .int .u8 i, .int .u8 c], 29, true⟩ :: (E' ++ (Eg ++ (meE me :: (ms.map meE ++ H)))))) := hS
    rw [hD] at hS
    clear hok hD
    have hA2 : RS (χ 7).1 (ins ++ [((j : Int), g)]) (χ 7).2 := hA2
    generalize (χ 7).1 = v5 at hS hA2
    generalize (χ 7).2 = E5 at hS hA2
    generalize (χ 6).2 = E6 at hS
    simp only [List.cons_append, List.nil_append, List.append_assoc] at hS
    go_wp2_with (first | go_skip | go_skip | (refine wpList_is (.build _ _) rfl ?_; go_must (refine wpList_stp (by kernel_rfl) (stp_val (run_bd _ _ rfl) ?_))) | (refine wpList_is (.call { callee := .builtin .clear, args := #[_], argTypes := #[_] }) rfl ?_; go_must (refine wpList_stp (by kernel_rfl) (stp_cl _ _ rfl hS (by decide) ?_)); clear hS; intro w hS) | (refine wpList_is (.load _ _) rfl ?_; go_must (first | refine wpList_stp (by kernel_rfl) (stp_val (run_ld _ _ rfl hS) ?_) | refine wpList_stp (by kernel_rfl) (stp_val (run_lda _ _ rfl hS) ?_) | refine wpList_stp (by kernel_rfl) (stp_val (run_ld0 _ _ rfl hS) ?_) | refine wpList_stp (by kernel_rfl) (stp_val (run_lda0 _ _ rfl hS) ?_))) | (refine wpList_is (.store _ _ _) rfl ?_; go_must (first | refine wpList_stp (by kernel_rfl) (stp_st _ _ _ rfl hS ?_) | refine wpList_stp (by kernel_rfl) (stp_sta _ _ _ rfl hS ?_)); clear hS; intro w hS) | (refine wpList_is (.alloc _) rfl ?_; go_must (refine wpList_stp (by kernel_rfl) (stp_al _ rfl hS ?_)); clear hS; intro bN w hbN hS) | (refine wpList_is (.box _ _) rfl ?_; go_must (refine wpList_stp (by kernel_rfl) (stp_bx _ _ rfl hS ?_)); clear hS; intro bN w hbN hS) | (refine wpList_is (.binOp .eql _ _ (.const (.slice none _ _)) _) rfl ?_; refine wpList_stp (by kernel_rfl) (stp_val (run_nse _ _ _ rfl) ?_)) | (refine wpList_is (.binOp .neq _ _ (.const (.slice none _ _)) _) rfl ?_; refine wpList_stp (by kernel_rfl) (stp_val (run_nsn _ _ _ rfl) ?_)))
    refine hR _ ⟨w0, bs, M, ph, v5, vg, L', _, gone, ms ++ [me], E', E5, Eg, hB, ?_, hT2, hA2, hvg, by rw [hme]; exact hMo' N⟩
    have hms : (ms ++ [me]).map meE = ms.map meE ++ [meE me] := by rw [List.map_append]; rfl
    rw [hms]
    simp only [List.append_assoc, List.cons_append, List.nil_append]
    exact hS.pick
end Go.Proofs.Ytlpknbkgkhnfcaa
