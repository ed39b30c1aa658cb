/-
  The walk of HeapCopies.
-/
import Derived.Test.YtlpknbkgkhnfcaaHlaw
import Derived.ChangeKeysEq
set_option linter.unusedSimpArgs false
set_option linter.unusedVariables false
namespace Go.Mm
open Go Go.RowKit
section
variable {W w0 w : World} {bs : List Nat} {M : Nat} {ms : List (Value × Value)} {H : List Ent}
theorem Base.stw (hB : Base W w0 bs M ms) (hS : St w0 bs w H) : St W [] w H := ⟨hB.all hS, hS.get, hS.nd, fun e he hw => .inr (hB.wrs hS e.b (mem_wb.2 ⟨e, he, hw, rfl⟩)).1⟩
variable {P : Program}
theorem eqItems_all (d : Nat) {e : TypeId} {n len : Nat} (xs ys : Array Value) (us vs : Nat → Value) (bb : Nat → Bool)
    (h1 : ∀ i, i < len → ∀ w, (part e xs (i * n)).run P w = .ok (us i) w) (h2 : ∀ i, i < len → ∀ w, (part e ys (i * n)).run P w = .ok (vs i) w) (h3 : ∀ i, i < len → ∀ w, (Op.equalIn d e (us i) (vs i)).run P w = .ok (bb i) w) (w : World) :
    ∀ is : List Nat, (∀ i ∈ is, i < len) → (Op.eqItems d e n xs ys is).run P w = .ok (is.all bb) w
  | [], _ => by simp [Op.eqItems]
  | i :: is, h => by
    have hi := h i (by simp)
    have ih := eqItems_all d xs ys us vs bb h1 h2 h3 w is (fun j hj => h j (by simp [hj]))
    simp only [Op.eqItems, Sem.run_bind, h1 i hi, h2 i hi, h3 i hi, Result.andThen_ok, List.all_cons]
    cases hb : bb i with
    | false => simp
    | true => simp [ih]
theorem arr_items (d : Nat) {t e : TypeId} {len : Nat} {i : TypeInfo} (xs ys : Array Value) (ht : P.underlying t = some (.array len e)) (hi : P.info? e = some i) (us vs : Nat → Value) (bb : Nat → Bool)
    (h1 : ∀ i, i < len → ∀ w, (part e xs (i * P.cellsOf e)).run P w = .ok (us i) w) (h2 : ∀ i, i < len → ∀ w, (part e ys (i * P.cellsOf e)).run P w = .ok (vs i) w) (h3 : ∀ i, i < len → ∀ w, (Op.equalIn d e (us i) (vs i)).run P w = .ok (bb i) w) (w : World) :
    (Op.equalIn (d + 1) t (.agg xs) (.agg ys)).run P w = .ok ((List.range len).all bb) w := by
  rw [run_equalIn_array w d xs ys ht hi]
  exact eqItems_all d xs ys us vs bb h1 h2 h3 w _ (fun i hi => List.mem_range.1 hi)
theorem eqF_step {xs ys : Array Value} {f : Field} {fs : List Field} {u v : Value} {d : Nat} {t o} (hn : (f.name == "_", f.type, f.offset) = (false, t, o)) (p1 : (part t xs o).run P w = .ok u w) (p2 : (part t ys o).run P w = .ok v w) (he : (Op.equalIn (d + 1) t u v).run P w = .ok true w)
    (ih : (Op.eqFields (d + 1) xs ys fs).run P w = .ok true w) : (Op.eqFields (d + 1) xs ys (f :: fs)).run P w = .ok true w := by
  simp only [Prod.mk.injEq] at hn
  obtain ⟨hn, rfl, rfl⟩ := hn
  have hn' : f.name ≠ "_" := by simpa using hn
  simp only [Op.eqFields, if_pos hn', Sem.run_bind, p1, p2, Result.andThen_ok, he, Sem.run_ite, Sem.run_pure, ih]
  simp
end
end Go.Mm
namespace Go.Proofs.Ytlpknbkgkhnfcaa
open Go.RowKit Go.Mm
variable {R : Ending → World → Prop}

theorem refEqIn (d : Nat) (s g s' g' : Int) (w : World) : (Op.equalIn (d + 2) 38 (.agg #[.int .i64 s, .int .u32 g]) (.agg #[.int .i64 s', .int .u32 g'])).run Try.prog w = .ok (refB s g s' g') w := by
  have h : EqSp Try.prog [(3, 0), (26, 1)] #[.int .i64 s, .int .u32 g] #[.int .i64 s', .int .u32 g'] (decide (s = s') && (decide (g = g') && true)) := inferInstance
  have := h.h d w (Program.fieldsOf Try.prog 38).toList (by kernel_rfl)
  rw [run_equalIn_agg w (d + 1) _ _ _ (by kernel_rfl) (by kernel_rfl), this]
  simp [refB]
def fdA (F : List (Int × Int)) : Array Value := blk [] slf F []
set_option maxRecDepth 100000 in
theorem arrSame {F : List (Int × Int)} (h4 : F.length = 4) (w : World) : (Op.equalIn 9999 53 (.agg (fdA F)) (.agg (fdA F))).run Try.prog w = .ok true w := by
  have hc : Program.cellsOf Try.prog 38 = 2 := by kernel_rfl
  obtain ⟨inf, _, hinf, _⟩ := e_ref.parts
  have hg : ∀ i, i < 4 → F[i]? = some (F.getD i (0, 0)) := fun i hi => by rw [List.getD_eq_getElem?_getD, List.getElem?_eq_getElem (by omega)]; rfl
  rw [arr_items 9998 (e := 38) (len := 4) (fdA F) (fdA F) (by kernel_rfl) hinf (fun i => .agg #[.int .i64 (F.getD i (0, 0)).1, .int .u32 (F.getD i (0, 0)).2])
    (fun i => .agg #[.int .i64 (F.getD i (0, 0)).1, .int .u32 (F.getD i (0, 0)).2]) (fun i => refB (F.getD i (0, 0)).1 (F.getD i (0, 0)).2 (F.getD i (0, 0)).1 (F.getD i (0, 0)).2)
    (fun i hi w => by rw [hc]; exact run_part_agg a_ref (blkCells (pre := []) slf_len (hg i hi) (by simp)) w)
    (fun i hi w => by rw [hc]; exact run_part_agg a_ref (blkCells (pre := []) slf_len (hg i hi) (by simp)) w)
    (fun i _ w => refEqIn 9996 _ _ _ _ w)]
  congr 1
  rw [List.all_eq_true]
  intro i _
  exact refB_self _ _
theorem fdPart {n : Int} {F : List (Int × Int)} {h : Bool} (h4 : F.length = 4) (w : World) : (part 53 (objC n F h) 1).run Try.prog w = .ok (.agg (fdA F)) w := by
  have ha : AggT Try.prog 53 8 := ⟨by kernel_rfl, by kernel_rfl⟩
  refine run_part_agg ha ⟨fun j hj => ?_, by rw [fdA, blk_size slf_len, h4]; rfl⟩ w
  obtain ⟨a, b, c, d, rfl⟩ : ∃ a b c d, F = [a, b, c, d] := by
    match F, h4 with
    | [a, b, c, d], _ => exact ⟨a, b, c, d, rfl⟩
  rcases j with _ | _ | _ | _ | _ | _ | _ | _ | j <;> first | rfl | omega
set_option maxRecDepth 100000 in
theorem objSame {n : Int} {F : List (Int × Int)} {h : Bool} (h4 : F.length = 4) : AggEq Try.prog 55 (objC n F h) (objC n F h) true := by
  have hr : ∀ w, (Op.equalIn 10000 55 (.agg (objC n F h)) (.agg (objC n F h))).run Try.prog w = .ok true w := fun w => by
    rw [run_equalIn_agg w 9999 _ _ _ (by kernel_rfl) (by kernel_rfl)]
    have hl : (Program.fieldsOf Try.prog 55).toList.map (fun f => (f.name == "_", f.type, f.offset)) = [(false, 3, 0), (false, 53, 1), (false, 4, 9)] := by kernel_rfl
    generalize (Program.fieldsOf Try.prog 55).toList = fs at hl
    rcases fs with _ | ⟨f1, _ | ⟨f2, _ | ⟨f3, _ | ⟨f4, fs⟩⟩⟩⟩ <;> simp only [List.map_cons, List.map_nil, List.cons.injEq, reduceCtorEq, and_false, false_and, and_true] at hl
    obtain ⟨e1, e2, e3⟩ := hl
    have c0 : (objC n F h)[0]? = some (.int .i64 n) := (obj0 (n := n) (F := F) (h := h)).h
    have c9 : (objC n F h)[9]? = some (.bool h) := by
      obtain ⟨a, b, c, d, rfl⟩ : ∃ a b c d, F = [a, b, c, d] := by
        match F, h4 with
        | [a, b, c, d], _ => exact ⟨a, b, c, d, rfl⟩
      rfl
    refine eqF_step (d := 9998) e1 (run_part_scalar s_int c0 w) (run_part_scalar s_int c0 w) ?_ (eqF_step (d := 9998) e2 (fdPart h4 w) (fdPart h4 w) (arrSame h4 w) (eqF_step (d := 9998) e3 (run_part_scalar s_bool c9 w) (run_part_scalar s_bool c9 w) ?_ ?_))
    · have := (c_int (a := n) (b := n)).h 9998 w
      simpa using this
    · rw [run_equalIn_bool' w 9998 _ _ _ (by kernel_rfl)]; simp
    · rfl
  exact ⟨fun w => by rw [run_eql_struct, hr]; rfl, fun w => by rw [run_neq_struct, hr]; rfl, by kernel_rfl⟩
instance z_trn : ZeroT Try.prog 29 #[.int .u8 0, .int .u8 0, .int .u8 0] := ⟨by kernel_rfl⟩
theorem mkT_HL (L : List Hs) (n : Int) (h : Bool) : ∃ L2, mkT (HL L) n h = HL L2 := by
  simp only [mkT]
  cases mkI L n h <;> exact ⟨_, rfl⟩
theorem stT_HL (L : List Hs) (s g i : Int) (v : Int × Int) : ∃ L2, stT (HL L) s g i v = HL L2 := by
  unfold stT
  split <;> exact ⟨_, rfl⟩
theorem frT_HL (L : List Hs) (s g : Int) : ∃ L2, frT (HL L) s g = HL L2 := by
  unfold frT
  split <;> exact ⟨_, rfl⟩
theorem al_gn {p : Option Addr} {L : List Hs} {E : List Ent} (hT : HA p (HL L) E) {r : Int × Int} (hr : r ∈ alH (HL L)) : 0 ≤ r.2 ∧ r.2 ≤ 4294967295 := by
  obtain ⟨i, h1, _, h3⟩ := mem_tkL.1 (show r ∈ tkL (some (tbH L)) from hr)
  have := hT.1.tb.gn _ (getD_mem (L := tbH L) h1)
  rw [h3] at this
  simp only at this
  omega
theorem al_256 {p : Option Addr} {L : List Hs} {E : List Ent} (hT : HA p (HL L) E) : (alH (HL L)).length ≤ 256 := tkL_256 hT.1.tb

set_option maxHeartbeats 4000000 in
set_option maxRecDepth 100000 in
theorem walk_hcop {W : World} (z : Int) (wz : (Lit.int .u8 z).wf = true) (v : Value) {n sb so : Nat} {F : Nat → Nat → Value} (hv : Flat W [.i .u8, .i .u8, .i .u8] v n sb so F)
    (v' : Value) {n' sb' so' : Nat} {F' : Nat → Nat → Value} (hv' : Flat W [.i .u8, .i .u8, .i .u8] v' n' sb' so' F') (hR : ∀ w', Chg W w' [] → Ret R (.bool true) w') :
    Calls Try.prog 10 #[.int .u8 z, v, v'] W R := by
  have hS : St W [] W [] := St.start0
  have hlen := hv.len (t := 22) Try.underlying22
  have hlen' := hv'.len (t := 22) Try.underlying22
  have hz := bounds_u8L wz
  obtain ⟨zn, rfl⟩ : ∃ q : Nat, z = q := ⟨z.toNat, by omega⟩
  clear wz
  by_cases hn : 60 < n
  · have q : decide (60 < (n : Int)) = true := decide_eq_true (by omega)
    go_enter Try.func10, Try.ntmps10
    go_wp2_with (first | go_skip | (go_at_call 11; refine works_ok hS ?_; clear hS; intro w hS; unfold Ret) | go_skip | (refine wpList_is (.call { callee := .builtin .len, args := #[_], argTypes := #[_] }) rfl ?_; refine wpList_stp (by kernel_rfl) (stp_val (run_lenv _ _ rfl) ?_)) | (refine wpList_is (.slice _ _ none (some _) none) rfl ?_; refine wpList_stp (by kernel_rfl) (stp_val (run_prev _ _ _ rfl) ?_)) | (refine wpList_is (.indexAddr _ _ _) rfl ?_; refine wpList_stp (by kernel_rfl) (stp_val (run_idxv _ _ _ rfl) ?_)) | go_skip | (refine wpList_is (.build _ _) rfl ?_; go_must (refine wpList_stp (by kernel_rfl) (stp_val (run_bd _ _ rfl) ?_))) | (refine wpList_is (.call { callee := .builtin .clear, args := #[_], argTypes := #[_] }) rfl ?_; go_must (refine wpList_stp (by kernel_rfl) (stp_cl _ _ rfl hS (by decide) ?_)); clear hS; intro w hS) | (refine wpList_is (.load _ _) rfl ?_; go_must (first | refine wpList_stp (by kernel_rfl) (stp_val (run_ld _ _ rfl hS) ?_) | refine wpList_stp (by kernel_rfl) (stp_val (run_lda _ _ rfl hS) ?_) | refine wpList_stp (by kernel_rfl) (stp_val (run_ld0 _ _ rfl hS) ?_) | refine wpList_stp (by kernel_rfl) (stp_val (run_lda0 _ _ rfl hS) ?_))) | (refine wpList_is (.store _ _ _) rfl ?_; go_must (first | refine wpList_stp (by kernel_rfl) (stp_st _ _ _ rfl hS ?_) | refine wpList_stp (by kernel_rfl) (stp_sta _ _ _ rfl hS ?_)); clear hS; intro w hS) | (refine wpList_is (.alloc _) rfl ?_; go_must (refine wpList_stp (by kernel_rfl) (stp_al _ rfl hS ?_)); clear hS; intro bN w hbN hS) | (refine wpList_is (.box _ _) rfl ?_; go_must (refine wpList_stp (by kernel_rfl) (stp_bx _ _ rfl hS ?_)); clear hS; intro bN w hbN hS) | (refine wpList_is (.binOp .eql _ _ (.const (.slice none _ _)) _) rfl ?_; refine wpList_stp (by kernel_rfl) (stp_val (run_nse _ _ _ rfl) ?_)) | (refine wpList_is (.binOp .neq _ _ (.const (.slice none _ _)) _) rfl ?_; refine wpList_stp (by kernel_rfl) (stp_val (run_nsn _ _ _ rfl) ?_)))
    exact hR _ hS.chg
  have q : decide (60 < (n : Int)) = false := decide_eq_false (by omega)
  by_cases hn' : 60 < n'
  · have q' : decide (60 < (n' : Int)) = true := decide_eq_true (by omega)
    go_enter Try.func10, Try.ntmps10
    go_wp2_with (first | go_skip | (go_at_call 11; refine works_ok hS ?_; clear hS; intro w hS; unfold Ret) | go_skip | (refine wpList_is (.call { callee := .builtin .len, args := #[_], argTypes := #[_] }) rfl ?_; refine wpList_stp (by kernel_rfl) (stp_val (run_lenv _ _ rfl) ?_)) | (refine wpList_is (.slice _ _ none (some _) none) rfl ?_; refine wpList_stp (by kernel_rfl) (stp_val (run_prev _ _ _ rfl) ?_)) | (refine wpList_is (.indexAddr _ _ _) rfl ?_; refine wpList_stp (by kernel_rfl) (stp_val (run_idxv _ _ _ rfl) ?_)) | go_skip | (refine wpList_is (.build _ _) rfl ?_; go_must (refine wpList_stp (by kernel_rfl) (stp_val (run_bd _ _ rfl) ?_))) | (refine wpList_is (.call { callee := .builtin .clear, args := #[_], argTypes := #[_] }) rfl ?_; go_must (refine wpList_stp (by kernel_rfl) (stp_cl _ _ rfl hS (by decide) ?_)); clear hS; intro w hS) | (refine wpList_is (.load _ _) rfl ?_; go_must (first | refine wpList_stp (by kernel_rfl) (stp_val (run_ld _ _ rfl hS) ?_) | refine wpList_stp (by kernel_rfl) (stp_val (run_lda _ _ rfl hS) ?_) | refine wpList_stp (by kernel_rfl) (stp_val (run_ld0 _ _ rfl hS) ?_) | refine wpList_stp (by kernel_rfl) (stp_val (run_lda0 _ _ rfl hS) ?_))) | (refine wpList_is (.store _ _ _) rfl ?_; go_must (first | refine wpList_stp (by kernel_rfl) (stp_st _ _ _ rfl hS ?_) | refine wpList_stp (by kernel_rfl) (stp_sta _ _ _ rfl hS ?_)); clear hS; intro w hS) | (refine wpList_is (.alloc _) rfl ?_; go_must (refine wpList_stp (by kernel_rfl) (stp_al _ rfl hS ?_)); clear hS; intro bN w hbN hS) | (refine wpList_is (.box _ _) rfl ?_; go_must (refine wpList_stp (by kernel_rfl) (stp_bx _ _ rfl hS ?_)); clear hS; intro bN w hbN hS) | (refine wpList_is (.binOp .eql _ _ (.const (.slice none _ _)) _) rfl ?_; refine wpList_stp (by kernel_rfl) (stp_val (run_nse _ _ _ rfl) ?_)) | (refine wpList_is (.binOp .neq _ _ (.const (.slice none _ _)) _) rfl ?_; refine wpList_stp (by kernel_rfl) (stp_val (run_nsn _ _ _ rfl) ?_)))
    exact hR _ hS.chg
  have q' : decide (60 < (n' : Int)) = false := decide_eq_false (by omega)
  go_enter Try.func10, Try.ntmps10
  go_wp2_with (first | go_skip | (go_at_call 12; go_must (refine begin_ok hS zn 2 (by omega) (by omega) 2 (by decide) ?_); clear hS; intro bm w hMA; have hS := hMA.st; unfold Ret) | go_skip | (refine wpList_is (.call { callee := .builtin .len, args := #[_], argTypes := #[_] }) rfl ?_; refine wpList_stp (by kernel_rfl) (stp_val (run_lenv _ _ rfl) ?_)) | (refine wpList_is (.slice _ _ none (some _) none) rfl ?_; refine wpList_stp (by kernel_rfl) (stp_val (run_prev _ _ _ rfl) ?_)) | (refine wpList_is (.indexAddr _ _ _) rfl ?_; refine wpList_stp (by kernel_rfl) (stp_val (run_idxv _ _ _ rfl) ?_)) | go_skip | (refine wpList_is (.build _ _) rfl ?_; go_must (refine wpList_stp (by kernel_rfl) (stp_val (run_bd _ _ rfl) ?_))) | (refine wpList_is (.call { callee := .builtin .clear, args := #[_], argTypes := #[_] }) rfl ?_; go_must (refine wpList_stp (by kernel_rfl) (stp_cl _ _ rfl hS (by decide) ?_)); clear hS; intro w hS) | (refine wpList_is (.load _ _) rfl ?_; go_must (first | refine wpList_stp (by kernel_rfl) (stp_val (run_ld _ _ rfl hS) ?_) | refine wpList_stp (by kernel_rfl) (stp_val (run_lda _ _ rfl hS) ?_) | refine wpList_stp (by kernel_rfl) (stp_val (run_ld0 _ _ rfl hS) ?_) | refine wpList_stp (by kernel_rfl) (stp_val (run_lda0 _ _ rfl hS) ?_))) | (refine wpList_is (.store _ _ _) rfl ?_; go_must (first | refine wpList_stp (by kernel_rfl) (stp_st _ _ _ rfl hS ?_) | refine wpList_stp (by kernel_rfl) (stp_sta _ _ _ rfl hS ?_)); clear hS; intro w hS) | (refine wpList_is (.alloc _) rfl ?_; go_must (refine wpList_stp (by kernel_rfl) (stp_al _ rfl hS ?_)); clear hS; intro bN w hbN hS) | (refine wpList_is (.box _ _) rfl ?_; go_must (refine wpList_stp (by kernel_rfl) (stp_bx _ _ rfl hS ?_)); clear hS; intro bN w hbN hS) | (refine wpList_is (.binOp .eql _ _ (.const (.slice none _ _)) _) rfl ?_; refine wpList_stp (by kernel_rfl) (stp_val (run_nse _ _ _ rfl) ?_)) | (refine wpList_is (.binOp .neq _ _ (.const (.slice none _ _)) _) rfl ?_; refine wpList_stp (by kernel_rfl) (stp_val (run_nsn _ _ _ rfl) ?_)))
  clear hS
  go_loopw [8] (fun s0 wr => ∃ (i : Nat) (_ : Unit), i ≤ n ∧ s0 = .int .i64 i ∧ MA W bm (1 + zn) ((2 : Nat) : Int) i [] wr) (fun s0 _ => n - (intOf s0).toNat)
  case atStart => exact ⟨0, (), Nat.zero_le _, rfl, hMA⟩
  case round =>
    clear hMA
    obtain ⟨i, _, hi, rfl, hMA⟩ := hrel
    have hS := hMA.st
    by_cases hlt : i < n
    · have hidx := hv.idxz (t := 22) (z := 3) (i := i) rfl Try.underlying22 (by kernel_rfl) hlt
      have hcell := hv.cellsz (z := 3) (i := i) rfl hlt
      obtain ⟨a, b, c, ha, hb, hc, f0, f1, f2⟩ := tr_cells hv hlt
      simp only [List.range_succ, List.range_zero, List.nil_append, List.map_append, List.map_cons, List.map_nil, List.cons_append, f0, f1, f2] at hcell
      clear f0 f1 f2
      go_wp2_with (first | go_skip | (go_at_call 13; go_must (refine turn_ok (by omega) hMA a b c (by omega) (by omega) (by omega) ?_); clear hS hMA; intro w hMA; have hS := hMA.st; unfold Ret) | go_skip | (refine wpList_is (.call { callee := .builtin .len, args := #[_], argTypes := #[_] }) rfl ?_; refine wpList_stp (by kernel_rfl) (stp_val (run_lenv _ _ rfl) ?_)) | (refine wpList_is (.slice _ _ none (some _) none) rfl ?_; refine wpList_stp (by kernel_rfl) (stp_val (run_prev _ _ _ rfl) ?_)) | (refine wpList_is (.indexAddr _ _ _) rfl ?_; refine wpList_stp (by kernel_rfl) (stp_val (run_idxv _ _ _ rfl) ?_)) | go_skip | (refine wpList_is (.build _ _) rfl ?_; go_must (refine wpList_stp (by kernel_rfl) (stp_val (run_bd _ _ rfl) ?_))) | (refine wpList_is (.call { callee := .builtin .clear, args := #[_], argTypes := #[_] }) rfl ?_; go_must (refine wpList_stp (by kernel_rfl) (stp_cl _ _ rfl hS (by decide) ?_)); clear hS; intro w hS) | (refine wpList_is (.load _ _) rfl ?_; go_must (first | refine wpList_stp (by kernel_rfl) (stp_val (run_ld _ _ rfl hS) ?_) | refine wpList_stp (by kernel_rfl) (stp_val (run_lda _ _ rfl hS) ?_) | refine wpList_stp (by kernel_rfl) (stp_val (run_ld0 _ _ rfl hS) ?_) | refine wpList_stp (by kernel_rfl) (stp_val (run_lda0 _ _ rfl hS) ?_))) | (refine wpList_is (.store _ _ _) rfl ?_; go_must (first | refine wpList_stp (by kernel_rfl) (stp_st _ _ _ rfl hS ?_) | refine wpList_stp (by kernel_rfl) (stp_sta _ _ _ rfl hS ?_)); clear hS; intro w hS) | (refine wpList_is (.alloc _) rfl ?_; go_must (refine wpList_stp (by kernel_rfl) (stp_al _ rfl hS ?_)); clear hS; intro bN w hbN hS) | (refine wpList_is (.box _ _) rfl ?_; go_must (refine wpList_stp (by kernel_rfl) (stp_bx _ _ rfl hS ?_)); clear hS; intro bN w hbN hS) | (refine wpList_is (.binOp .eql _ _ (.const (.slice none _ _)) _) rfl ?_; refine wpList_stp (by kernel_rfl) (stp_val (run_nse _ _ _ rfl) ?_)) | (refine wpList_is (.binOp .neq _ _ (.const (.slice none _ _)) _) rfl ?_; refine wpList_stp (by kernel_rfl) (stp_val (run_nsn _ _ _ rfl) ?_)))
      go_roundw
      case rel => exact ⟨i + 1, (), by omega, by go_num, hMA⟩
      case measure => simp [intOf]; omega
    · obtain ⟨k, hk⟩ : ∃ k, k = i := ⟨_, rfl⟩
      obtain rfl : i = n := by omega
      clear hS
      obtain ⟨w0, bs, M, ph, vi, vg, L, ins, gone, ms, E, Ei, Eg, hB, hS, hT, hvi, hvg, hMo⟩ := hMA
      rw [List.append_nil] at hS
      have hone := hvi.one
      have hone2 := hvg.one
      have hcp : cpH (HL L) = HL L := rfl
      have hcp' := Lib.hid hcp
      have tok1 : True := trivial
      clear hlt hcp
      go_wp2_with (first | go_skip | (go_at_call 30; have _t := tok1; refine hp_copy hS hT _ hcp'.out ?_; clear hS tok1 _t; intro pc Ec w hTc _ hS; have hpnc := hTc.nil; unfold Ret) | (go_at_call 30; refine hp_copy hS hT _ hcp'.out ?_; clear hS; intro pd Ed w hTd _ hS; have hpnd := hTd.nil; unfold Ret) | go_skip | (refine wpList_is (.call { callee := .builtin .len, args := #[_], argTypes := #[_] }) rfl ?_; refine wpList_stp (by kernel_rfl) (stp_val (run_lenv _ _ rfl) ?_)) | (refine wpList_is (.slice _ _ none (some _) none) rfl ?_; refine wpList_stp (by kernel_rfl) (stp_val (run_prev _ _ _ rfl) ?_)) | (refine wpList_is (.indexAddr _ _ _) rfl ?_; refine wpList_stp (by kernel_rfl) (stp_val (run_idxv _ _ _ rfl) ?_)) | go_skip | (refine wpList_is (.build _ _) rfl ?_; go_must (refine wpList_stp (by kernel_rfl) (stp_val (run_bd _ _ rfl) ?_))) | (refine wpList_is (.call { callee := .builtin .clear, args := #[_], argTypes := #[_] }) rfl ?_; go_must (refine wpList_stp (by kernel_rfl) (stp_cl _ _ rfl hS (by decide) ?_)); clear hS; intro w hS) | (refine wpList_is (.load _ _) rfl ?_; go_must (first | refine wpList_stp (by kernel_rfl) (stp_val (run_ld _ _ rfl hS) ?_) | refine wpList_stp (by kernel_rfl) (stp_val (run_lda _ _ rfl hS) ?_) | refine wpList_stp (by kernel_rfl) (stp_val (run_ld0 _ _ rfl hS) ?_) | refine wpList_stp (by kernel_rfl) (stp_val (run_lda0 _ _ rfl hS) ?_))) | (refine wpList_is (.store _ _ _) rfl ?_; go_must (first | refine wpList_stp (by kernel_rfl) (stp_st _ _ _ rfl hS ?_) | refine wpList_stp (by kernel_rfl) (stp_sta _ _ _ rfl hS ?_)); clear hS; intro w hS) | (refine wpList_is (.alloc _) rfl ?_; go_must (refine wpList_stp (by kernel_rfl) (stp_al _ rfl hS ?_)); clear hS; intro bN w hbN hS) | (refine wpList_is (.box _ _) rfl ?_; go_must (refine wpList_stp (by kernel_rfl) (stp_bx _ _ rfl hS ?_)); clear hS; intro bN w hbN hS) | (refine wpList_is (.binOp .eql _ _ (.const (.slice none _ _)) _) rfl ?_; refine wpList_stp (by kernel_rfl) (stp_val (run_nse _ _ _ rfl) ?_)) | (refine wpList_is (.binOp .neq _ _ (.const (.slice none _ _)) _) rfl ?_; refine wpList_stp (by kernel_rfl) (stp_val (run_nsn _ _ _ rfl) ?_)))
      clear hpnc hpnd
      obtain ⟨wo, hwo⟩ : ∃ wo : World, wo = w := ⟨_, rfl⟩
      clear hwo
      go_loopw [11] (fun s0 wz => ∃ (i : Nat) (Lc : List Hs) (Ec Ed : List Ent) (_ : Unit), i ≤ n' ∧ s0 = .int .i64 i ∧ HA pc (HL Lc) Ec ∧ HA pd (HL Lc) Ed ∧ St w0 bs wz (Ec ++ (Ed ++ (moE bm ph M vi vg :: (E ++ (Ei ++ (Eg ++ ms.map meE))))))) (fun s0 _ => n' - (intOf s0).toNat)
      case atStart => exact ⟨0, L, Ec, Ed, (), Nat.zero_le _, rfl, hTc, hTd, hS.pick⟩
      case round =>
        clear hS hTc hTd
        obtain ⟨i, Lc, Ec, Ed, _, hi', rfl, hTc, hTd, hS⟩ := hrel
        obtain ⟨m, hm⟩ : ∃ m, (alH (HL Lc)).length = m := ⟨_, rfl⟩
        have hm' := Lib.hid hm
        have hm256 : m ≤ 256 := by rw [← hm]; exact al_256 hTc
        clear hm
        by_cases hlt : i < n'
        · have hidx := hv'.idxz (t := 22) (z := 3) (i := i) rfl Try.underlying22 (by kernel_rfl) hlt
          have hcell := hv'.cellsz (z := 3) (i := i) rfl hlt
          obtain ⟨a, b, c, ha, hb, hc, f0, f1, f2⟩ := tr_cells hv' hlt
          simp only [List.range_succ, List.range_zero, List.nil_append, List.map_append, List.map_cons, List.map_nil, List.cons_append, f0, f1, f2] at hcell
          clear f0 f1 f2
          obtain ⟨a4, ha4⟩ : ∃ q, a % 4 = q := ⟨_, rfl⟩
          obtain ⟨b5, hb5⟩ : ∃ q, b % 5 = q := ⟨_, rfl⟩
          obtain ⟨c4, hc4⟩ : ∃ q, c % 4 = q := ⟨_, rfl⟩
          have ra : RemIs (a : Int) 4 (a4 : Int) := ⟨by rw [Int.tmod_eq_emod_of_nonneg (by omega)]; omega, by decide⟩
          have rb : RemIs (b : Int) 5 (b5 : Int) := ⟨by rw [Int.tmod_eq_emod_of_nonneg (by omega)]; omega, by decide⟩
          have rc : RemIs (c : Int) 4 (c4 : Int) := ⟨by rw [Int.tmod_eq_emod_of_nonneg (by omega)]; omega, by decide⟩
          have sb : Small (b : Int) := ⟨by omega, by omega⟩
          have sb5 : Small (b5 : Int) := ⟨by omega, by omega⟩
          have sc4 : Small (c4 : Int) := ⟨by omega, by omega⟩
          by_cases h2 : a4 < 2
          · have d2 : decide ((a4 : Int) < 2) = true := decide_eq_true (by omega)
            have d2' : decide (a4 < 2) = true := decide_eq_true h2
            obtain ⟨L2, h1⟩ := mkT_HL Lc b5 false
            obtain ⟨⟨r1, r2⟩, h2⟩ : ∃ r, mkR (HL Lc) b5 false = r := ⟨_, rfl⟩
            obtain ⟨e, h3⟩ : ∃ e, mkE (HL Lc) b5 false = e := ⟨_, rfl⟩
            have h1' := Lib.hid h1
            have h2' := Lib.hid h2
            have h3' := Lib.hid h3
            have q5 := refE (refB_self r1 r2)
            clear h1 h2 h3 ha4 hb5 hc4
            go_wp2_with (first | go_skip | (refine wpList_is (.load 29 _) rfl ?_; refine wpList_stp (by kernel_rfl) (stp_val (run_lda0 _ _ rfl (hB.stw hS)) ?_)) | (refine wpList_is (.alloc 29) rfl ?_; go_must (refine wpList_stp (by kernel_rfl) (stp_al _ rfl hS ?_)); clear hS; intro b12 w _ hS) | (go_at_call 16; go_must (refine hp_all hS hTc _ rfl ?_); clear hS; intro v13 E13 w hL hS; have hone13 := hL.one; have hln13 := hL.len hm'.out; unfold Ret) | (go_at_call 17; (with_reducible refine hp_make hS hTc _ false _ (r1, r2) e h1'.out h2'.out h3'.out ?_); clear hS hTc; intro Ec w hTc hS; unfold Ret) | (go_at_call 17; (with_reducible refine hp_make hS hTd _ false _ (r1, r2) e h1'.out h2'.out h3'.out ?_); clear hS hTd; intro Ed w hTd hS; unfold Ret) | (refine wpList_is (.convert _ _ _) rfl ?_; refine wpList_stp (by kernel_rfl) (stp_val (run_cvn _ _ _ rfl) ?_)) | (refine wpList_is (.binOp .rem _ _ _ _) rfl ?_; refine wpList_stp (by kernel_rfl) (stp_val (run_remv _ _ _ _ rfl) ?_)) | (refine wpList_is (.binOp .eql _ _ _ _) rfl ?_; refine wpList_stp (by kernel_rfl) (stp_val (run_aeq _ _ _ _ rfl) ?_)) | (refine wpList_is (.binOp .neq _ _ _ _) rfl ?_; refine wpList_stp (by kernel_rfl) (stp_val (run_ane _ _ _ _ rfl) ?_)) | go_skip | (refine wpList_is (.call { callee := .builtin .len, args := #[_], argTypes := #[_] }) rfl ?_; refine wpList_stp (by kernel_rfl) (stp_val (run_lenv _ _ rfl) ?_)) | (refine wpList_is (.slice _ _ none (some _) none) rfl ?_; refine wpList_stp (by kernel_rfl) (stp_val (run_prev _ _ _ rfl) ?_)) | (refine wpList_is (.indexAddr _ _ _) rfl ?_; refine wpList_stp (by kernel_rfl) (stp_val (run_idxv _ _ _ rfl) ?_)) | go_skip | (refine wpList_is (.build _ _) rfl ?_; go_must (refine wpList_stp (by kernel_rfl) (stp_val (run_bd _ _ rfl) ?_))) | (refine wpList_is (.call { callee := .builtin .clear, args := #[_], argTypes := #[_] }) rfl ?_; go_must (refine wpList_stp (by kernel_rfl) (stp_cl _ _ rfl hS (by decide) ?_)); clear hS; intro w hS) | (refine wpList_is (.load _ _) rfl ?_; go_must (first | refine wpList_stp (by kernel_rfl) (stp_val (run_ld _ _ rfl hS) ?_) | refine wpList_stp (by kernel_rfl) (stp_val (run_lda _ _ rfl hS) ?_) | refine wpList_stp (by kernel_rfl) (stp_val (run_ld0 _ _ rfl hS) ?_) | refine wpList_stp (by kernel_rfl) (stp_val (run_lda0 _ _ rfl hS) ?_))) | (refine wpList_is (.store _ _ _) rfl ?_; go_must (first | refine wpList_stp (by kernel_rfl) (stp_st _ _ _ rfl hS ?_) | refine wpList_stp (by kernel_rfl) (stp_sta _ _ _ rfl hS ?_)); clear hS; intro w hS) | (refine wpList_is (.alloc _) rfl ?_; go_must (refine wpList_stp (by kernel_rfl) (stp_al _ rfl hS ?_)); clear hS; intro bN w hbN hS) | (refine wpList_is (.box _ _) rfl ?_; go_must (refine wpList_stp (by kernel_rfl) (stp_bx _ _ rfl hS ?_)); clear hS; intro bN w hbN hS) | (refine wpList_is (.binOp .eql _ _ (.const (.slice none _ _)) _) rfl ?_; refine wpList_stp (by kernel_rfl) (stp_val (run_nse _ _ _ rfl) ?_)) | (refine wpList_is (.binOp .neq _ _ (.const (.slice none _ _)) _) rfl ?_; refine wpList_stp (by kernel_rfl) (stp_val (run_nsn _ _ _ rfl) ?_)))
            go_roundw
            case rel => exact ⟨i + 1, _, _, _, (), by omega, by go_num, hTc, hTd, hS.pick⟩
            case measure => simp [intOf]; omega
          have d2 : decide ((a4 : Int) < 2) = false := decide_eq_false (by omega)
          have d2' : decide (a4 < 2) = false := decide_eq_false h2
          by_cases hm0 : m = 0
          · have d0 : decide (0 < (m : Int)) = false := decide_eq_false (by omega)
            have d0' : decide (0 < m) = false := decide_eq_false (by omega)
            clear ha4 hb5 hc4
            go_wp2_with (first | go_skip | (refine wpList_is (.load 29 _) rfl ?_; refine wpList_stp (by kernel_rfl) (stp_val (run_lda0 _ _ rfl (hB.stw hS)) ?_)) | (refine wpList_is (.alloc 29) rfl ?_; go_must (refine wpList_stp (by kernel_rfl) (stp_al _ rfl hS ?_)); clear hS; intro b12 w _ hS) | (go_at_call 16; go_must (refine hp_all hS hTc _ rfl ?_); clear hS; intro v13 E13 w hL hS; have hone13 := hL.one; have hln13 := hL.len hm'.out; unfold Ret) | (refine wpList_is (.convert _ _ _) rfl ?_; refine wpList_stp (by kernel_rfl) (stp_val (run_cvn _ _ _ rfl) ?_)) | (refine wpList_is (.binOp .rem _ _ _ _) rfl ?_; refine wpList_stp (by kernel_rfl) (stp_val (run_remv _ _ _ _ rfl) ?_)) | (refine wpList_is (.binOp .eql _ _ _ _) rfl ?_; refine wpList_stp (by kernel_rfl) (stp_val (run_aeq _ _ _ _ rfl) ?_)) | (refine wpList_is (.binOp .neq _ _ _ _) rfl ?_; refine wpList_stp (by kernel_rfl) (stp_val (run_ane _ _ _ _ rfl) ?_)) | go_skip | (refine wpList_is (.call { callee := .builtin .len, args := #[_], argTypes := #[_] }) rfl ?_; refine wpList_stp (by kernel_rfl) (stp_val (run_lenv _ _ rfl) ?_)) | (refine wpList_is (.slice _ _ none (some _) none) rfl ?_; refine wpList_stp (by kernel_rfl) (stp_val (run_prev _ _ _ rfl) ?_)) | (refine wpList_is (.indexAddr _ _ _) rfl ?_; refine wpList_stp (by kernel_rfl) (stp_val (run_idxv _ _ _ rfl) ?_)) | go_skip | (refine wpList_is (.build _ _) rfl ?_; go_must (refine wpList_stp (by kernel_rfl) (stp_val (run_bd _ _ rfl) ?_))) | (refine wpList_is (.call { callee := .builtin .clear, args := #[_], argTypes := #[_] }) rfl ?_; go_must (refine wpList_stp (by kernel_rfl) (stp_cl _ _ rfl hS (by decide) ?_)); clear hS; intro w hS) | (refine wpList_is (.load _ _) rfl ?_; go_must (first | refine wpList_stp (by kernel_rfl) (stp_val (run_ld _ _ rfl hS) ?_) | refine wpList_stp (by kernel_rfl) (stp_val (run_lda _ _ rfl hS) ?_) | refine wpList_stp (by kernel_rfl) (stp_val (run_ld0 _ _ rfl hS) ?_) | refine wpList_stp (by kernel_rfl) (stp_val (run_lda0 _ _ rfl hS) ?_))) | (refine wpList_is (.store _ _ _) rfl ?_; go_must (first | refine wpList_stp (by kernel_rfl) (stp_st _ _ _ rfl hS ?_) | refine wpList_stp (by kernel_rfl) (stp_sta _ _ _ rfl hS ?_)); clear hS; intro w hS) | (refine wpList_is (.alloc _) rfl ?_; go_must (refine wpList_stp (by kernel_rfl) (stp_al _ rfl hS ?_)); clear hS; intro bN w hbN hS) | (refine wpList_is (.box _ _) rfl ?_; go_must (refine wpList_stp (by kernel_rfl) (stp_bx _ _ rfl hS ?_)); clear hS; intro bN w hbN hS) | (refine wpList_is (.binOp .eql _ _ (.const (.slice none _ _)) _) rfl ?_; refine wpList_stp (by kernel_rfl) (stp_val (run_nse _ _ _ rfl) ?_)) | (refine wpList_is (.binOp .neq _ _ (.const (.slice none _ _)) _) rfl ?_; refine wpList_stp (by kernel_rfl) (stp_val (run_nsn _ _ _ rfl) ?_)))
            go_roundw
            case rel => exact ⟨i + 1, _, _, _, (), by omega, by go_num, hTc, hTd, hS.pick⟩
            case measure => simp [intOf]; omega
          have d0 : decide (0 < (m : Int)) = true := decide_eq_true (by omega)
          have d0' : decide (0 < m) = true := decide_eq_true (by omega)
          obtain ⟨qb, hqb⟩ : ∃ q, b % m = q := ⟨_, rfl⟩
          have hqm : qb < m := by rw [← hqb]; exact Nat.mod_lt _ (by omega)
          have rm : RemIs (b : Int) (m : Int) (qb : Int) := ⟨by rw [Int.tmod_eq_emod_of_nonneg (by omega)]; omega, by omega⟩
          obtain ⟨⟨rs, rg⟩, hx⟩ : ∃ x, (alH (HL Lc)).getD qb (0, 0) = x := ⟨_, rfl⟩
          have hql : qb < (alH (HL Lc)).length := by rw [hm'.out]; exact hqm
          have hxm : (rs, rg) ∈ alH (HL Lc) := by rw [← hx, List.getD_eq_getElem?_getD, List.getElem?_eq_getElem hql]; exact List.getElem_mem hql
          have hrg := al_gn hTc hxm
          simp only at hrg
          obtain ⟨L2, h1⟩ := stT_HL Lc rs rg c4 (rs, rg)
          obtain ⟨⟨y1, y2⟩, h2⟩ : ∃ r, stR (HL Lc) rs rg c4 (rs, rg) = r := ⟨_, rfl⟩
          obtain ⟨e, h3⟩ : ∃ e, stE (HL Lc) rs rg c4 (rs, rg) = e := ⟨_, rfl⟩
          have h1' := Lib.hid h1
          have h2' := Lib.hid h2
          have h3' := Lib.hid h3
          have q5 := refE (refB_self y1 y2)
          have hx' := Lib.hid hx
          have ha4' := Lib.hid ha4
          clear h1 h2 h3 ha4 hb5 hc4 hqb hxm hx
          go_wp2_with (first | go_skip | (refine wpList_is (.load 29 _) rfl ?_; refine wpList_stp (by kernel_rfl) (stp_val (run_lda0 _ _ rfl (hB.stw hS)) ?_)) | (refine wpList_is (.alloc 29) rfl ?_; go_must (refine wpList_stp (by kernel_rfl) (stp_al _ rfl hS ?_)); clear hS; intro b12 w _ hS) | (refine wpList_is (o := ⟨some 18, _, _, _, _, _⟩) (.alloc 38) rfl ?_; go_must (refine wpList_stp (by kernel_rfl) (stp_al _ rfl hS ?_)); clear hS; intro b18 w _ hS) | (refine wpList_is (o := ⟨some 19, _, _, _, _, _⟩) (.alloc 38) rfl ?_; go_must (refine wpList_stp (by kernel_rfl) (stp_al _ rfl hS ?_)); clear hS; intro b19 w _ hS) | (refine wpList_is (o := ⟨some 21, _, _, _, _, _⟩) (.alloc 38) rfl ?_; go_must (refine wpList_stp (by kernel_rfl) (stp_al _ rfl hS ?_)); clear hS; intro b21 w _ hS) | (go_at_call 16; go_must (refine hp_all hS hTc _ rfl ?_); clear hS; intro v13 E13 w hL hS; have hone13 := hL.one; have hln13 := hL.len hm'.out; obtain ⟨ga, spa, ia, hHa, hca⟩ := hL.at hql hx'.out; have ia := ia qb rfl; simp only at hca; unfold Ret) | (go_at_call 22; (with_reducible refine hp_store hS hTc rs rg _ rs rg hrg _ (y1, y2) e h1'.out h2'.out h3'.out ?_); clear hS hTc; intro Ec w hTc hS; unfold Ret) | (go_at_call 22; (with_reducible refine hp_store hS hTd rs rg _ rs rg hrg _ (y1, y2) e h1'.out h2'.out h3'.out ?_); clear hS hTd; intro Ed w hTd hS; unfold Ret) | (refine wpList_is (.convert _ _ _) rfl ?_; refine wpList_stp (by kernel_rfl) (stp_val (run_cvn _ _ _ rfl) ?_)) | (refine wpList_is (.binOp .rem _ _ _ _) rfl ?_; refine wpList_stp (by kernel_rfl) (stp_val (run_remv _ _ _ _ rfl) ?_)) | (refine wpList_is (.binOp .eql _ _ _ _) rfl ?_; refine wpList_stp (by kernel_rfl) (stp_val (run_aeq _ _ _ _ rfl) ?_)) | (refine wpList_is (.binOp .neq _ _ _ _) rfl ?_; refine wpList_stp (by kernel_rfl) (stp_val (run_ane _ _ _ _ rfl) ?_)) | go_skip | (refine wpList_is (.call { callee := .builtin .len, args := #[_], argTypes := #[_] }) rfl ?_; refine wpList_stp (by kernel_rfl) (stp_val (run_lenv _ _ rfl) ?_)) | (refine wpList_is (.slice _ _ none (some _) none) rfl ?_; refine wpList_stp (by kernel_rfl) (stp_val (run_prev _ _ _ rfl) ?_)) | (refine wpList_is (.indexAddr _ _ _) rfl ?_; refine wpList_stp (by kernel_rfl) (stp_val (run_idxv _ _ _ rfl) ?_)) | go_skip | (refine wpList_is (.build _ _) rfl ?_; go_must (refine wpList_stp (by kernel_rfl) (stp_val (run_bd _ _ rfl) ?_))) | (refine wpList_is (.call { callee := .builtin .clear, args := #[_], argTypes := #[_] }) rfl ?_; go_must (refine wpList_stp (by kernel_rfl) (stp_cl _ _ rfl hS (by decide) ?_)); clear hS; intro w hS) | (refine wpList_is (.load _ _) rfl ?_; go_must (first | refine wpList_stp (by kernel_rfl) (stp_val (run_ld _ _ rfl hS) ?_) | refine wpList_stp (by kernel_rfl) (stp_val (run_lda _ _ rfl hS) ?_) | refine wpList_stp (by kernel_rfl) (stp_val (run_ld0 _ _ rfl hS) ?_) | refine wpList_stp (by kernel_rfl) (stp_val (run_lda0 _ _ rfl hS) ?_))) | (refine wpList_is (.store _ _ _) rfl ?_; go_must (first | refine wpList_stp (by kernel_rfl) (stp_st _ _ _ rfl hS ?_) | refine wpList_stp (by kernel_rfl) (stp_sta _ _ _ rfl hS ?_)); clear hS; intro w hS) | (refine wpList_is (.alloc _) rfl ?_; go_must (refine wpList_stp (by kernel_rfl) (stp_al _ rfl hS ?_)); clear hS; intro bN w hbN hS) | (refine wpList_is (.box _ _) rfl ?_; go_must (refine wpList_stp (by kernel_rfl) (stp_bx _ _ rfl hS ?_)); clear hS; intro bN w hbN hS) | (refine wpList_is (.binOp .eql _ _ (.const (.slice none _ _)) _) rfl ?_; refine wpList_stp (by kernel_rfl) (stp_val (run_nse _ _ _ rfl) ?_)) | (refine wpList_is (.binOp .neq _ _ (.const (.slice none _ _)) _) rfl ?_; refine wpList_stp (by kernel_rfl) (stp_val (run_nsn _ _ _ rfl) ?_)))
          by_cases h42 : a4 = 2
          · have i2 : IntEq (a4 : Int) 2 true := ⟨decide_eq_true (by omega)⟩
            obtain ⟨L3, hf⟩ := frT_HL L2 rs rg
            obtain ⟨e2, he2⟩ : ∃ e, wiH (HL L2) rs rg = e := ⟨_, rfl⟩
            have hf' := Lib.hid hf
            have he2' := Lib.hid he2
            clear hf he2
            have hS : St w0 bs _ (Ec ++ (Ed ++ (⟨b21, #[.int .i64 y1, .int .u32 y2], 38, true⟩ :: ⟨b19, #[.int .i64 y1, .int .u32 y2], 38, true⟩ :: ⟨b18, #[.int .i64 rs, .int .u32 rg], 38, true⟩ :: ⟨b12, #[.int .u8 a, .int .u8 b, .int .u8 c], 29, true⟩ :: (moE bm ph M vi vg :: (E ++ (Ei ++ (Eg ++ ms.map meE))))))) := hS.pick
            refine region_itemsE [⟨(undef, Ec), [(16, fun _ x => HA pc (HL L3) x.2)]⟩, ⟨(undef, Ed), [(19, fun _ x => HA pd (HL L3) x.2)]⟩] (⟨b21, #[.int .i64 y1, .int .u32 y2], 38, true⟩ :: ⟨b19, #[.int .i64 y1, .int .u32 y2], 38, true⟩ :: ⟨b18, #[.int .i64 rs, .int .u32 rg], 38, true⟩ :: ⟨b12, #[.int .u8 a, .int .u8 b, .int .u8 c], 29, true⟩ :: (moE bm ph M vi vg :: (E ++ (Ei ++ (Eg ++ ms.map meE))))) (Ec ++ (Ed ++ (⟨b21, #[.int .i64 y1, .int .u32 y2], 38, true⟩ :: ⟨b19, #[.int .i64 y1, .int .u32 y2], 38, true⟩ :: ⟨b18, #[.int .i64 rs, .int .u32 rg], 38, true⟩ :: ⟨b12, #[.int .u8 a, .int .u8 b, .int .u8 c], 29, true⟩ :: (moE bm ph M vi vg :: (E ++ (Ei ++ (Eg ++ ms.map meE))))))) (by simp) hS (by kernel_rfl) (by kernel_rfl) ?_
            first | (refine fx_val (fun _ => rfl) rfl (fun χ w hw => run_remv _ _ _ _ rfl) ?_) | (refine fx_val (fun _ => rfl) rfl (fun χ w hw => run_lda _ _ rfl hw) ?_)
            first | (refine fx_val (fun _ => rfl) rfl (fun χ w hw => run_remv _ _ _ _ rfl) ?_) | (refine fx_val (fun _ => rfl) rfl (fun χ w hw => run_lda _ _ rfl hw) ?_)
            first | (refine fx_val (fun _ => rfl) rfl (fun χ w hw => run_remv _ _ _ _ rfl) ?_) | (refine fx_val (fun _ => rfl) rfl (fun χ w hw => run_ane _ _ _ _ rfl) ?_)
            first | (refine fx_val (fun _ => rfl) rfl (fun χ w hw => run_remv _ _ _ _ rfl) ?_) | (refine fx_val (fun _ => rfl) rfl (fun χ w hw => run_mv _ rfl) ?_)
            first | (refine fx_val (fun _ => rfl) rfl (fun χ w hw => run_remv _ _ _ _ rfl) ?_) | (refine fx_val (fun _ => rfl) rfl (fun χ w hw => run_mv _ rfl) ?_)
            first | (refine fx_val (fun _ => rfl) rfl (fun χ w hw => run_remv _ _ _ _ rfl) ?_) | (refine fx_val (fun _ => rfl) rfl (fun χ w hw => run_mv _ rfl) ?_)
            first | (refine fx_val (fun _ => rfl) rfl (fun χ w hw => run_remv _ _ _ _ rfl) ?_) | (refine fx_val (fun _ => rfl) rfl (fun χ w hw => run_ine _ _ _ _ rfl) ?_)
            first | (refine fx_val (fun _ => rfl) rfl (fun χ w hw => run_remv _ _ _ _ rfl) ?_) | (refine fx_val (fun _ => rfl) rfl (fun χ w hw => run_pk2 _ _ _ rfl) ?_)
            first | (refine fx_val (fun _ => rfl) rfl (fun χ w hw => run_remv _ _ _ _ rfl) ?_) | (refine fx_val (fun _ => rfl) rfl (fun χ w hw => run_mv _ rfl) ?_)
            first | (refine fx_val (fun _ => rfl) rfl (fun χ w hw => run_remv _ _ _ _ rfl) ?_) | (refine fx_val (fun _ => rfl) rfl (fun χ w hw => run_fa _ _ _ rfl) ?_)
            first | (refine fx_val (fun _ => rfl) rfl (fun χ w hw => run_remv _ _ _ _ rfl) ?_) | (refine fx_val (fun _ => rfl) rfl (fun χ w hw => run_ld _ _ rfl hw) ?_)
            first | (refine fx_val (fun _ => rfl) rfl (fun χ w hw => run_remv _ _ _ _ rfl) ?_) | (first | (refine fx_val (fun _ => rfl) rfl (fun χ w hw => run_mv _ rfl) ?_) | (refine fx_val (fun _ => rfl) rfl (fun χ w hw => run_as _ rfl) ?_) | (refine fx_val (fun _ => rfl) rfl (fun χ w hw => run_fa _ _ _ rfl) ?_) | (refine fx_val (fun _ => rfl) rfl (fun χ w hw => run_ld _ _ rfl hw) ?_) | (refine fx_val (fun _ => rfl) rfl (fun χ w hw => run_lda _ _ rfl hw) ?_) | (refine fx_val (fun _ => rfl) rfl (fun χ w hw => run_ld0 _ _ rfl hw) ?_) | (refine fx_val (fun _ => rfl) rfl (fun χ w hw => run_lda0 _ _ rfl hw) ?_) | (refine fx_val (fun _ => rfl) rfl (fun χ w hw => run_ine _ _ _ _ rfl) ?_) | (refine fx_val (fun _ => rfl) rfl (fun χ w hw => run_aeq _ _ _ _ rfl) ?_) | (refine fx_val (fun _ => rfl) rfl (fun χ w hw => run_ane _ _ _ _ rfl) ?_) | (refine fx_val (fun _ => rfl) rfl (fun χ w hw => run_lenv _ _ rfl) ?_) | (refine fx_val (fun _ => rfl) rfl (fun χ w hw => run_idxv _ _ _ rfl) ?_) | (refine fx_val (fun _ => rfl) rfl (fun χ w hw => run_pk1 _ _ _ rfl) ?_) | (refine fx_val (fun _ => rfl) rfl (fun χ w hw => run_pk2 _ _ _ rfl) ?_) | (refine fx_val (fun _ => rfl) rfl (fun χ w hw => run_nse _ _ _ rfl) ?_) | (refine fx_val (fun _ => rfl) rfl (fun χ w hw => run_nsn _ _ _ rfl) ?_) | (refine fx_val (fun _ => rfl) rfl (fun χ w hw => run_bd _ _ rfl) ?_) | (refine fx_val (fun _ => rfl) rfl (fun χ w hw => run_ieq _ _ _ _ rfl) ?_) | (refine fx_val (fun _ => rfl) rfl (fun χ w hw => run_beq _ _ _ _ rfl) ?_) | (refine fx_val (fun _ => rfl) rfl (fun χ w hw => run_bne _ _ _ _ rfl) ?_) | (refine fx_val (fun _ => rfl) rfl (fun χ w hw => run_bnot _ _ rfl) ?_) | (refine fx_val (fun _ => rfl) rfl (fun χ w hw => run_ext _ _ rfl) ?_) | (refine fx_val (fun _ => rfl) rfl (fun χ w hw => run_ilit _ _ _ _ rfl) ?_) | (refine fx_val (fun _ => rfl) rfl (fun χ w hw => run_cvn _ _ _ rfl) ?_) | (refine fx_val (fun _ => rfl) rfl (fun χ w hw => run_remn _ _ _ _ rfl (by decide)) ?_) | (refine fx_val (fun _ => rfl) rfl (fun χ w hw => run_nc _ rfl) ?_) | (refine fx_val (fun _ => rfl) rfl (fun χ w hw => run_inlit _ _ _ _ rfl) ?_) | (refine fx_skip (fun _ => rfl) ?_))
            first | (refine fx_val (fun _ => rfl) rfl (fun χ w hw => run_remv _ _ _ _ rfl) ?_) | (refine fx_val (fun _ => rfl) rfl (fun χ w hw => run_ilit _ _ _ _ rfl) ?_)
            first | (refine fx_val (fun _ => rfl) rfl (fun χ w hw => run_remv _ _ _ _ rfl) ?_) | (refine fx_val (fun _ => rfl) rfl (fun χ w hw => run_mv _ rfl) ?_)
            first | (refine fx_val (fun _ => rfl) rfl (fun χ w hw => run_remv _ _ _ _ rfl) ?_) | (refine fx_val (fun _ => rfl) rfl (fun χ w hw => run_mv _ rfl) ?_)
            first | (refine fx_val (fun _ => rfl) rfl (fun χ w hw => run_remv _ _ _ _ rfl) ?_) | (refine fx_val (fun _ => rfl) rfl (fun χ w hw => run_lda _ _ rfl hw) ?_)
            refine fx_turn 0 0 rfl rfl (by kernel_rfl) (by kernel_rfl) (by kernel_rfl) 18 [_, _] _ rfl (fun _ => rfl) (enters _ (by kernel_rfl)) (fun _ => .int .i64 e2) ?_ ?_
            · intro χ X w _ hS
              exact hp_free (show St w0 bs w (Ec ++ (X ++ _)) from hS) hTc rs rg _ e2 hf'.out he2'.out (fun E' w' hT' hS' => ⟨(undef, E'), rfl, hT', show St w0 bs w' (E' ++ (X ++ _)) from hS'.pick⟩)
            first | (refine fx_val (fun _ => rfl) rfl (fun χ w hw => run_remv _ _ _ _ rfl) ?_) | (refine fx_val (fun _ => rfl) rfl (fun χ w hw => run_mv _ rfl) ?_)
            first | (refine fx_val (fun _ => rfl) rfl (fun χ w hw => run_remv _ _ _ _ rfl) ?_) | (refine fx_val (fun _ => rfl) rfl (fun χ w hw => run_lda _ _ rfl hw) ?_)
            refine fx_turn 1 0 rfl rfl (by kernel_rfl) (by kernel_rfl) (by kernel_rfl) 18 [_, _] _ rfl (fun _ => rfl) (enters _ (by kernel_rfl)) (fun _ => .int .i64 e2) ?_ ?_
            · intro χ X w _ hS
              exact hp_free (show St w0 bs w (Ed ++ (X ++ _)) from hS) hTd rs rg _ e2 hf'.out he2'.out (fun E' w' hT' hS' => ⟨(undef, E'), rfl, hT', show St w0 bs w' (E' ++ (X ++ _)) from hS'.pick⟩)
            first | (refine fx_val (fun _ => rfl) rfl (fun χ w hw => run_remv _ _ _ _ rfl) ?_) | (refine fx_val (fun _ => rfl) rfl (fun χ w hw => run_ine _ _ _ _ rfl) ?_)
            first | (refine fx_val (fun _ => rfl) rfl (fun χ w hw => run_remv _ _ _ _ rfl) ?_) | (refine fx_val (fun _ => rfl) rfl (fun χ w hw => run_pk1 _ _ _ rfl) ?_)
            first | (refine fx_val (fun _ => rfl) rfl (fun χ w hw => run_remv _ _ _ _ rfl) ?_) | (refine fx_val (fun _ => rfl) rfl (fun χ w hw => run_pk2 _ _ _ rfl) ?_)
            refine fx_end rfl ?_
            intro χ w hok hS
            obtain ⟨hTc2, _⟩ := hok _ (.head _)
            obtain ⟨hTd2, _⟩ := hok _ (.tail _ (.head _))
            have hTc2 : HA pc (HL L3) (χ 16).2 := hTc2
            have hTd2 : HA pd (HL L3) (χ 19).2 := hTd2
            have hS : St w0 bs w (((χ 16).2 ++ ((χ 19).2 ++ [])) ++ (⟨b21, #[.int .i64 y1, .int .u32 y2], 38, true⟩ :: ⟨b19, #[.int .i64 y1, .int .u32 y2], 38, true⟩ :: ⟨b18, #[.int .i64 rs, .int .u32 rg], 38, true⟩ :: ⟨b12, #[.int .u8 a, .int .u8 b, .int .u8 c], 29, true⟩ :: (moE bm ph M vi vg :: (E ++ (Ei ++ (Eg ++ ms.map meE)))))) := hS
            rw [List.append_nil, List.append_assoc] at hS
            generalize (χ 16).2 = Ec at hS hTc2
            generalize (χ 19).2 = Ed at hS hTd2
            clear hok
            go_wp2_with (first | go_skip | go_skip | (refine wpList_is (.build _ _) rfl ?_; go_must (refine wpList_stp (by kernel_rfl) (stp_val (run_bd _ _ rfl) ?_))) | (refine wpList_is (.call { callee := .builtin .clear, args := #[_], argTypes := #[_] }) rfl ?_; go_must (refine wpList_stp (by kernel_rfl) (stp_cl _ _ rfl hS (by decide) ?_)); clear hS; intro w hS) | (refine wpList_is (.load _ _) rfl ?_; go_must (first | refine wpList_stp (by kernel_rfl) (stp_val (run_ld _ _ rfl hS) ?_) | refine wpList_stp (by kernel_rfl) (stp_val (run_lda _ _ rfl hS) ?_) | refine wpList_stp (by kernel_rfl) (stp_val (run_ld0 _ _ rfl hS) ?_) | refine wpList_stp (by kernel_rfl) (stp_val (run_lda0 _ _ rfl hS) ?_))) | (refine wpList_is (.store _ _ _) rfl ?_; go_must (first | refine wpList_stp (by kernel_rfl) (stp_st _ _ _ rfl hS ?_) | refine wpList_stp (by kernel_rfl) (stp_sta _ _ _ rfl hS ?_)); clear hS; intro w hS) | (refine wpList_is (.alloc _) rfl ?_; go_must (refine wpList_stp (by kernel_rfl) (stp_al _ rfl hS ?_)); clear hS; intro bN w hbN hS) | (refine wpList_is (.box _ _) rfl ?_; go_must (refine wpList_stp (by kernel_rfl) (stp_bx _ _ rfl hS ?_)); clear hS; intro bN w hbN hS) | (refine wpList_is (.binOp .eql _ _ (.const (.slice none _ _)) _) rfl ?_; refine wpList_stp (by kernel_rfl) (stp_val (run_nse _ _ _ rfl) ?_)) | (refine wpList_is (.binOp .neq _ _ (.const (.slice none _ _)) _) rfl ?_; refine wpList_stp (by kernel_rfl) (stp_val (run_nsn _ _ _ rfl) ?_)))
            go_roundw
            case rel => exact ⟨i + 1, L3, _, _, (), by omega, by go_num, hTc2, hTd2, hS.pick⟩
            case measure => simp [intOf]; omega
          · have i2 : IntEq (a4 : Int) 2 false := ⟨decide_eq_false (by omega)⟩
            have hS : St w0 bs _ (Ec ++ (Ed ++ (⟨b21, #[.int .i64 y1, .int .u32 y2], 38, true⟩ :: ⟨b19, #[.int .i64 y1, .int .u32 y2], 38, true⟩ :: ⟨b18, #[.int .i64 rs, .int .u32 rg], 38, true⟩ :: ⟨b12, #[.int .u8 a, .int .u8 b, .int .u8 c], 29, true⟩ :: (moE bm ph M vi vg :: (E ++ (Ei ++ (Eg ++ ms.map meE))))))) := hS.pick
            refine region_new [] rfl hS _ (by kernel_rfl) (by kernel_rfl) (hpk := pickRefl) ?_
            first | (refine fx_val (fun _ => rfl) rfl (fun χ w hw => run_remv _ _ _ _ rfl) ?_) | (refine fx_val (fun _ => rfl) rfl (fun χ w hw => run_lda _ _ rfl hw) ?_)
            first | (refine fx_val (fun _ => rfl) rfl (fun χ w hw => run_remv _ _ _ _ rfl) ?_) | (refine fx_val (fun _ => rfl) rfl (fun χ w hw => run_lda _ _ rfl hw) ?_)
            first | (refine fx_val (fun _ => rfl) rfl (fun χ w hw => run_remv _ _ _ _ rfl) ?_) | (refine fx_val (fun _ => rfl) rfl (fun χ w hw => run_ane _ _ _ _ rfl) ?_)
            first | (refine fx_val (fun _ => rfl) rfl (fun χ w hw => run_remv _ _ _ _ rfl) ?_) | (refine fx_val (fun _ => rfl) rfl (fun χ w hw => run_mv _ rfl) ?_)
            first | (refine fx_val (fun _ => rfl) rfl (fun χ w hw => run_remv _ _ _ _ rfl) ?_) | (refine fx_val (fun _ => rfl) rfl (fun χ w hw => run_mv _ rfl) ?_)
            first | (refine fx_val (fun _ => rfl) rfl (fun χ w hw => run_remv _ _ _ _ rfl) ?_) | (refine fx_val (fun _ => rfl) rfl (fun χ w hw => run_mv _ rfl) ?_)
            first | (refine fx_val (fun _ => rfl) rfl (fun χ w hw => run_remv _ _ _ _ rfl) ?_) | (refine fx_val (fun _ => rfl) rfl (fun χ w hw => run_ine _ _ _ _ rfl) ?_)
            first | (refine fx_val (fun _ => rfl) rfl (fun χ w hw => run_remv _ _ _ _ rfl) ?_) | (refine fx_val (fun _ => rfl) rfl (fun χ w hw => run_pk2 _ _ _ rfl) ?_)
            first | (refine fx_val (fun _ => rfl) rfl (fun χ w hw => run_remv _ _ _ _ rfl) ?_) | (refine fx_val (fun _ => rfl) rfl (fun χ w hw => run_mv _ rfl) ?_)
            first | (refine fx_val (fun _ => rfl) rfl (fun χ w hw => run_remv _ _ _ _ rfl) ?_) | (refine fx_val (fun _ => rfl) rfl (fun χ w hw => run_fa _ _ _ rfl) ?_)
            first | (refine fx_val (fun _ => rfl) rfl (fun χ w hw => run_remv _ _ _ _ rfl) ?_) | (refine fx_val (fun _ => rfl) rfl (fun χ w hw => run_ld _ _ rfl hw) ?_)
            first | (refine fx_val (fun _ => rfl) rfl (fun χ w hw => run_remv _ _ _ _ rfl) ?_) | (first | (refine fx_val (fun _ => rfl) rfl (fun χ w hw => run_mv _ rfl) ?_) | (refine fx_val (fun _ => rfl) rfl (fun χ w hw => run_as _ rfl) ?_) | (refine fx_val (fun _ => rfl) rfl (fun χ w hw => run_fa _ _ _ rfl) ?_) | (refine fx_val (fun _ => rfl) rfl (fun χ w hw => run_ld _ _ rfl hw) ?_) | (refine fx_val (fun _ => rfl) rfl (fun χ w hw => run_lda _ _ rfl hw) ?_) | (refine fx_val (fun _ => rfl) rfl (fun χ w hw => run_ld0 _ _ rfl hw) ?_) | (refine fx_val (fun _ => rfl) rfl (fun χ w hw => run_lda0 _ _ rfl hw) ?_) | (refine fx_val (fun _ => rfl) rfl (fun χ w hw => run_ine _ _ _ _ rfl) ?_) | (refine fx_val (fun _ => rfl) rfl (fun χ w hw => run_aeq _ _ _ _ rfl) ?_) | (refine fx_val (fun _ => rfl) rfl (fun χ w hw => run_ane _ _ _ _ rfl) ?_) | (refine fx_val (fun _ => rfl) rfl (fun χ w hw => run_lenv _ _ rfl) ?_) | (refine fx_val (fun _ => rfl) rfl (fun χ w hw => run_idxv _ _ _ rfl) ?_) | (refine fx_val (fun _ => rfl) rfl (fun χ w hw => run_pk1 _ _ _ rfl) ?_) | (refine fx_val (fun _ => rfl) rfl (fun χ w hw => run_pk2 _ _ _ rfl) ?_) | (refine fx_val (fun _ => rfl) rfl (fun χ w hw => run_nse _ _ _ rfl) ?_) | (refine fx_val (fun _ => rfl) rfl (fun χ w hw => run_nsn _ _ _ rfl) ?_) | (refine fx_val (fun _ => rfl) rfl (fun χ w hw => run_bd _ _ rfl) ?_) | (refine fx_val (fun _ => rfl) rfl (fun χ w hw => run_ieq _ _ _ _ rfl) ?_) | (refine fx_val (fun _ => rfl) rfl (fun χ w hw => run_beq _ _ _ _ rfl) ?_) | (refine fx_val (fun _ => rfl) rfl (fun χ w hw => run_bne _ _ _ _ rfl) ?_) | (refine fx_val (fun _ => rfl) rfl (fun χ w hw => run_bnot _ _ rfl) ?_) | (refine fx_val (fun _ => rfl) rfl (fun χ w hw => run_ext _ _ rfl) ?_) | (refine fx_val (fun _ => rfl) rfl (fun χ w hw => run_ilit _ _ _ _ rfl) ?_) | (refine fx_val (fun _ => rfl) rfl (fun χ w hw => run_cvn _ _ _ rfl) ?_) | (refine fx_val (fun _ => rfl) rfl (fun χ w hw => run_remn _ _ _ _ rfl (by decide)) ?_) | (refine fx_val (fun _ => rfl) rfl (fun χ w hw => run_nc _ rfl) ?_) | (refine fx_val (fun _ => rfl) rfl (fun χ w hw => run_inlit _ _ _ _ rfl) ?_) | (refine fx_skip (fun _ => rfl) ?_))
            first | (refine fx_val (fun _ => rfl) rfl (fun χ w hw => run_remv _ _ _ _ rfl) ?_) | (refine fx_val (fun _ => rfl) rfl (fun χ w hw => run_ilit _ _ _ _ rfl) ?_)
            first | (refine fx_val (fun _ => rfl) rfl (fun χ w hw => run_remv _ _ _ _ rfl) ?_) | (refine fx_val (fun _ => rfl) rfl (fun χ w hw => run_mv _ rfl) ?_)
            first | (refine fx_val (fun _ => rfl) rfl (fun χ w hw => run_remv _ _ _ _ rfl) ?_) | (refine fx_skip (fun _ => rfl) ?_)
            first | (refine fx_val (fun _ => rfl) rfl (fun χ w hw => run_remv _ _ _ _ rfl) ?_) | (refine fx_skip (fun _ => rfl) ?_)
            first | (refine fx_val (fun _ => rfl) rfl (fun χ w hw => run_remv _ _ _ _ rfl) ?_) | (refine fx_skip (fun _ => rfl) ?_)
            first | (refine fx_val (fun _ => rfl) rfl (fun χ w hw => run_remv _ _ _ _ rfl) ?_) | (refine fx_skip (fun _ => rfl) ?_)
            first | (refine fx_val (fun _ => rfl) rfl (fun χ w hw => run_remv _ _ _ _ rfl) ?_) | (refine fx_skip (fun _ => rfl) ?_)
            first | (refine fx_val (fun _ => rfl) rfl (fun χ w hw => run_remv _ _ _ _ rfl) ?_) | (refine fx_skip (fun _ => rfl) ?_)
            first | (refine fx_val (fun _ => rfl) rfl (fun χ w hw => run_remv _ _ _ _ rfl) ?_) | (refine fx_skip (fun _ => rfl) ?_)
            first | (refine fx_val (fun _ => rfl) rfl (fun χ w hw => run_remv _ _ _ _ rfl) ?_) | (refine fx_val (fun _ => rfl) rfl (fun χ w hw => run_pk2 _ _ _ rfl) ?_)
            first | (refine fx_val (fun _ => rfl) rfl (fun χ w hw => run_remv _ _ _ _ rfl) ?_) | (refine fx_val (fun _ => rfl) rfl (fun χ w hw => run_pk2 _ _ _ rfl) ?_)
            refine fx_end rfl ?_
            intro χ w hok hS
            replace hS := st_drop hS
            clear hok
            go_wp2_with (first | go_skip | go_skip | (refine wpList_is (.build _ _) rfl ?_; go_must (refine wpList_stp (by kernel_rfl) (stp_val (run_bd _ _ rfl) ?_))) | (refine wpList_is (.call { callee := .builtin .clear, args := #[_], argTypes := #[_] }) rfl ?_; go_must (refine wpList_stp (by kernel_rfl) (stp_cl _ _ rfl hS (by decide) ?_)); clear hS; intro w hS) | (refine wpList_is (.load _ _) rfl ?_; go_must (first | refine wpList_stp (by kernel_rfl) (stp_val (run_ld _ _ rfl hS) ?_) | refine wpList_stp (by kernel_rfl) (stp_val (run_lda _ _ rfl hS) ?_) | refine wpList_stp (by kernel_rfl) (stp_val (run_ld0 _ _ rfl hS) ?_) | refine wpList_stp (by kernel_rfl) (stp_val (run_lda0 _ _ rfl hS) ?_))) | (refine wpList_is (.store _ _ _) rfl ?_; go_must (first | refine wpList_stp (by kernel_rfl) (stp_st _ _ _ rfl hS ?_) | refine wpList_stp (by kernel_rfl) (stp_sta _ _ _ rfl hS ?_)); clear hS; intro w hS) | (refine wpList_is (.alloc _) rfl ?_; go_must (refine wpList_stp (by kernel_rfl) (stp_al _ rfl hS ?_)); clear hS; intro bN w hbN hS) | (refine wpList_is (.box _ _) rfl ?_; go_must (refine wpList_stp (by kernel_rfl) (stp_bx _ _ rfl hS ?_)); clear hS; intro bN w hbN hS) | (refine wpList_is (.binOp .eql _ _ (.const (.slice none _ _)) _) rfl ?_; refine wpList_stp (by kernel_rfl) (stp_val (run_nse _ _ _ rfl) ?_)) | (refine wpList_is (.binOp .neq _ _ (.const (.slice none _ _)) _) rfl ?_; refine wpList_stp (by kernel_rfl) (stp_val (run_nsn _ _ _ rfl) ?_)))
            go_roundw
            case rel => exact ⟨i + 1, _, _, _, (), by omega, by go_num, hTc, hTd, hS.pick⟩
            case measure => simp [intOf]; omega
        · obtain rfl : i = n' := by omega
          obtain ⟨lf, hlf⟩ : ∃ q, lfH (HL Lc) = q := ⟨_, rfl⟩
          have hlf' := Lib.hid hlf
          have tok1 : True := trivial
          clear hlt hlf
          go_wp2_with (first | go_skip | (go_at_call 16; have _t := tok1; go_must (refine hp_all hS hTc _ rfl ?_); clear hS tok1 _t; intro v23 Ex w hLx hS; have honex := hLx.one; have hlnx := hLx.len hm'.out; unfold Ret) | (go_at_call 16; go_must (refine hp_all hS hTd _ rfl ?_); clear hS; intro v24 Ey w hLy hS; have honey := hLy.one; have hlny := hLy.len hm'.out; unfold Ret) | (go_at_call 14; (with_reducible refine hp_left hS hTc lf hlf'.out ?_); clear hS; intro w _ hS; unfold Ret) | (go_at_call 14; (with_reducible refine hp_left hS hTd lf hlf'.out ?_); clear hS; intro w _ hS; unfold Ret) | go_skip | (refine wpList_is (.call { callee := .builtin .len, args := #[_], argTypes := #[_] }) rfl ?_; refine wpList_stp (by kernel_rfl) (stp_val (run_lenv _ _ rfl) ?_)) | (refine wpList_is (.slice _ _ none (some _) none) rfl ?_; refine wpList_stp (by kernel_rfl) (stp_val (run_prev _ _ _ rfl) ?_)) | (refine wpList_is (.indexAddr _ _ _) rfl ?_; refine wpList_stp (by kernel_rfl) (stp_val (run_idxv _ _ _ rfl) ?_)) | go_skip | (refine wpList_is (.build _ _) rfl ?_; go_must (refine wpList_stp (by kernel_rfl) (stp_val (run_bd _ _ rfl) ?_))) | (refine wpList_is (.call { callee := .builtin .clear, args := #[_], argTypes := #[_] }) rfl ?_; go_must (refine wpList_stp (by kernel_rfl) (stp_cl _ _ rfl hS (by decide) ?_)); clear hS; intro w hS) | (refine wpList_is (.load _ _) rfl ?_; go_must (first | refine wpList_stp (by kernel_rfl) (stp_val (run_ld _ _ rfl hS) ?_) | refine wpList_stp (by kernel_rfl) (stp_val (run_lda _ _ rfl hS) ?_) | refine wpList_stp (by kernel_rfl) (stp_val (run_ld0 _ _ rfl hS) ?_) | refine wpList_stp (by kernel_rfl) (stp_val (run_lda0 _ _ rfl hS) ?_))) | (refine wpList_is (.store _ _ _) rfl ?_; go_must (first | refine wpList_stp (by kernel_rfl) (stp_st _ _ _ rfl hS ?_) | refine wpList_stp (by kernel_rfl) (stp_sta _ _ _ rfl hS ?_)); clear hS; intro w hS) | (refine wpList_is (.alloc _) rfl ?_; go_must (refine wpList_stp (by kernel_rfl) (stp_al _ rfl hS ?_)); clear hS; intro bN w hbN hS) | (refine wpList_is (.box _ _) rfl ?_; go_must (refine wpList_stp (by kernel_rfl) (stp_bx _ _ rfl hS ?_)); clear hS; intro bN w hbN hS) | (refine wpList_is (.binOp .eql _ _ (.const (.slice none _ _)) _) rfl ?_; refine wpList_stp (by kernel_rfl) (stp_val (run_nse _ _ _ rfl) ?_)) | (refine wpList_is (.binOp .neq _ _ (.const (.slice none _ _)) _) rfl ?_; refine wpList_stp (by kernel_rfl) (stp_val (run_nsn _ _ _ rfl) ?_)))
          have hS : St w0 bs _ (Ex ++ (Ey ++ (Ec ++ (Ed ++ (moE bm ph M vi vg :: (E ++ (Ei ++ (Eg ++ ms.map meE)))))))) := hS.pick
          obtain ⟨wo, hwo⟩ : ∃ wo : World, wo = w := ⟨_, rfl⟩
          clear hwo
          go_loopw [25] (fun s0 wz => ∃ (q : Nat) (_ : Unit), q ≤ m ∧ s0 = .int .i64 q ∧ St w0 bs wz (Ex ++ (Ey ++ (Ec ++ (Ed ++ (moE bm ph M vi vg :: (E ++ (Ei ++ (Eg ++ ms.map meE))))))))) (fun s0 _ => m - (intOf s0).toNat)
          case atStart => exact ⟨0, (), Nat.zero_le _, rfl, hS⟩
          case round =>
            clear hS
            obtain ⟨q, _, hq, rfl, hS⟩ := hrel
            by_cases hlq : q < m
            · obtain ⟨⟨s1, g2⟩, hx⟩ : ∃ x, (alH (HL Lc)).getD q (0, 0) = x := ⟨_, rfl⟩
              have hql : q < (alH (HL Lc)).length := by rw [hm'.out]; exact hlq
              obtain ⟨ga, spa, ia, hHa, hca⟩ := hLx.at hql hx
              have ia := ia q rfl
              simp only at hca
              obtain ⟨gc, spc, ic, hHc, hcc⟩ := hLy.at hql hx
              have ic := ic q rfl
              simp only at hcc
              have hxm : (s1, g2) ∈ alH (HL Lc) := by rw [← hx, List.getD_eq_getElem?_getD, List.getElem?_eq_getElem hql]; exact List.getElem_mem hql
              have hck : wiH (HL Lc) s1 g2 = 0 := (tkL_ck (by rw [tbH_len]; exact hTc.1.lo)).1 (show (s1, g2) ∈ tkL (some (tbH Lc)) from hxm)
              have hobr : obR (HL Lc) s1 g2 = obAt (HL Lc) s1 := by unfold obR; rw [if_pos hck]
              have hobW : ObW (obAt (HL Lc) s1) := by
                obtain ⟨j, j1, j2, _⟩ := wi_iff.1 hck
                rw [j1, obAt_at, List.getD_eq_getElem?_getD, List.getElem?_eq_getElem j2]
                exact hTc.1.ob _ (List.getElem_mem _)
              obtain ⟨o, ho⟩ : ∃ o, obAt (HL Lc) s1 = o := ⟨_, rfl⟩
              rw [ho] at hobr hobW
              obtain ⟨oN, oF, oH⟩ := o
              have hF4 : oF.length = 4 := hobW.len
              have hcO := objOver (n := 0) (n' := oN) (h := false) (h' := oH) (F := zero4) rfl hF4
              have hcZ := objSize (n := oN) (h := oH) hF4
              have hcA := objAll (n := oN) (h := oH) hF4
              have hcE := objSame (n := oN) (h := oH) hF4
              have q5 := refE (refB_self s1 g2)
              have hck' := Lib.hid hck
              have ho' := Lib.hid hobr
              clear hck hobr hobW ho hxm hx hF4
              go_wp2_with (first | go_skip | (go_at_call 23; (with_reducible refine hp_object hS hTc s1 g2 (oN, oF, oH) 0 ho'.out hck'.out ?_); clear hS; intro w _ hS; unfold Ret) | (go_at_call 23; (with_reducible refine hp_object hS hTd s1 g2 (oN, oF, oH) 0 ho'.out hck'.out ?_); clear hS; intro w _ hS; unfold Ret) | (refine region_quiet hS (by kernel_rfl) (by kernel_rfl) (fun hne => ?_); (repeat (first | go_big_quiet_skip | (go_big_quiet_want; first | (refine quiet_is (.load _ _) rfl ?_; go_must (first | refine quiet_at sw_st (fun w hS => run_ld _ _ rfl hS) ?_ | refine quiet_at sw_st (fun w hS => run_lda _ _ rfl hS) ?_ | refine quiet_at sw_st (fun w hS => run_ld0 _ _ rfl hS) ?_ | refine quiet_at sw_st (fun w hS => run_lda0 _ _ rfl hS) ?_); go_big_quiet_on) | (refine quiet_is (.binOp .eql _ _ (.const (.slice none _ _)) _) rfl ?_; refine quiet_val (fun w _ => run_nse _ _ _ rfl) ?_; go_big_quiet_on) | (refine quiet_is (.binOp .neq _ _ (.const (.slice none _ _)) _) rfl ?_; refine quiet_val (fun w _ => run_nsn _ _ _ rfl) ?_; go_big_quiet_on) | (refine quiet_is (.call { callee := .builtin .len, args := #[_], argTypes := #[_] }) rfl ?_; refine quiet_val (fun w _ => run_lenv _ _ rfl) ?_; go_big_quiet_on) | (refine quiet_is (.indexAddr _ _ _) rfl ?_; refine quiet_val (fun w _ => run_idxv _ _ _ rfl) ?_; go_big_quiet_on) | (refine quiet_is (.binOp .eql _ _ _ _) rfl ?_; refine quiet_val (fun w _ => run_aeq _ _ _ _ rfl) ?_; go_big_quiet_on) | (refine quiet_is (.binOp .neq _ _ _ _) rfl ?_; refine quiet_val (fun w _ => run_ane _ _ _ _ rfl) ?_; go_big_quiet_on) | (go_big_quiet_op; go_big_quiet_on)))); refine wpQuiet_nil ?_; clear hS hne; intro w hS) | go_skip | (refine wpList_is (.call { callee := .builtin .len, args := #[_], argTypes := #[_] }) rfl ?_; refine wpList_stp (by kernel_rfl) (stp_val (run_lenv _ _ rfl) ?_)) | (refine wpList_is (.slice _ _ none (some _) none) rfl ?_; refine wpList_stp (by kernel_rfl) (stp_val (run_prev _ _ _ rfl) ?_)) | (refine wpList_is (.indexAddr _ _ _) rfl ?_; refine wpList_stp (by kernel_rfl) (stp_val (run_idxv _ _ _ rfl) ?_)) | go_skip | (refine wpList_is (.build _ _) rfl ?_; go_must (refine wpList_stp (by kernel_rfl) (stp_val (run_bd _ _ rfl) ?_))) | (refine wpList_is (.call { callee := .builtin .clear, args := #[_], argTypes := #[_] }) rfl ?_; go_must (refine wpList_stp (by kernel_rfl) (stp_cl _ _ rfl hS (by decide) ?_)); clear hS; intro w hS) | (refine wpList_is (.load _ _) rfl ?_; go_must (first | refine wpList_stp (by kernel_rfl) (stp_val (run_ld _ _ rfl hS) ?_) | refine wpList_stp (by kernel_rfl) (stp_val (run_lda _ _ rfl hS) ?_) | refine wpList_stp (by kernel_rfl) (stp_val (run_ld0 _ _ rfl hS) ?_) | refine wpList_stp (by kernel_rfl) (stp_val (run_lda0 _ _ rfl hS) ?_))) | (refine wpList_is (.store _ _ _) rfl ?_; go_must (first | refine wpList_stp (by kernel_rfl) (stp_st _ _ _ rfl hS ?_) | refine wpList_stp (by kernel_rfl) (stp_sta _ _ _ rfl hS ?_)); clear hS; intro w hS) | (refine wpList_is (.alloc _) rfl ?_; go_must (refine wpList_stp (by kernel_rfl) (stp_al _ rfl hS ?_)); clear hS; intro bN w hbN hS) | (refine wpList_is (.box _ _) rfl ?_; go_must (refine wpList_stp (by kernel_rfl) (stp_bx _ _ rfl hS ?_)); clear hS; intro bN w hbN hS) | (refine wpList_is (.binOp .eql _ _ (.const (.slice none _ _)) _) rfl ?_; refine wpList_stp (by kernel_rfl) (stp_val (run_nse _ _ _ rfl) ?_)) | (refine wpList_is (.binOp .neq _ _ (.const (.slice none _ _)) _) rfl ?_; refine wpList_stp (by kernel_rfl) (stp_val (run_nsn _ _ _ rfl) ?_)))
              go_roundw
              case rel => exact ⟨q + 1, (), by omega, by go_num, hS.pick⟩
              case measure => simp [intOf]; omega
            · obtain rfl : q = m := by omega
              have hMA : MA W bm (1 + zn) ((2 : Nat) : Int) _ [] _ := ⟨w0, bs, M, ph, vi, vg, L, ins, gone, ms, E, Ei, Eg, hB, by rw [List.append_nil]; exact hS.pick, hT, hvi, hvg, hMo⟩
              clear hS
              have hS := hMA.st
              go_wp2_with (first | go_skip | (go_at_call 20; go_must (refine agrees_ok (by omega) hMA ?_); clear hS hMA; intro w hMA; have hS := hMA.st; unfold Ret) | (go_at_call 11; refine works_ok hS ?_; clear hS; intro w hS; unfold Ret) | go_skip | (refine wpList_is (.call { callee := .builtin .len, args := #[_], argTypes := #[_] }) rfl ?_; refine wpList_stp (by kernel_rfl) (stp_val (run_lenv _ _ rfl) ?_)) | (refine wpList_is (.slice _ _ none (some _) none) rfl ?_; refine wpList_stp (by kernel_rfl) (stp_val (run_prev _ _ _ rfl) ?_)) | (refine wpList_is (.indexAddr _ _ _) rfl ?_; refine wpList_stp (by kernel_rfl) (stp_val (run_idxv _ _ _ rfl) ?_)) | go_skip | (refine wpList_is (.build _ _) rfl ?_; go_must (refine wpList_stp (by kernel_rfl) (stp_val (run_bd _ _ rfl) ?_))) | (refine wpList_is (.call { callee := .builtin .clear, args := #[_], argTypes := #[_] }) rfl ?_; go_must (refine wpList_stp (by kernel_rfl) (stp_cl _ _ rfl hS (by decide) ?_)); clear hS; intro w hS) | (refine wpList_is (.load _ _) rfl ?_; go_must (first | refine wpList_stp (by kernel_rfl) (stp_val (run_ld _ _ rfl hS) ?_) | refine wpList_stp (by kernel_rfl) (stp_val (run_lda _ _ rfl hS) ?_) | refine wpList_stp (by kernel_rfl) (stp_val (run_ld0 _ _ rfl hS) ?_) | refine wpList_stp (by kernel_rfl) (stp_val (run_lda0 _ _ rfl hS) ?_))) | (refine wpList_is (.store _ _ _) rfl ?_; go_must (first | refine wpList_stp (by kernel_rfl) (stp_st _ _ _ rfl hS ?_) | refine wpList_stp (by kernel_rfl) (stp_sta _ _ _ rfl hS ?_)); clear hS; intro w hS) | (refine wpList_is (.alloc _) rfl ?_; go_must (refine wpList_stp (by kernel_rfl) (stp_al _ rfl hS ?_)); clear hS; intro bN w hbN hS) | (refine wpList_is (.box _ _) rfl ?_; go_must (refine wpList_stp (by kernel_rfl) (stp_bx _ _ rfl hS ?_)); clear hS; intro bN w hbN hS) | (refine wpList_is (.binOp .eql _ _ (.const (.slice none _ _)) _) rfl ?_; refine wpList_stp (by kernel_rfl) (stp_val (run_nse _ _ _ rfl) ?_)) | (refine wpList_is (.binOp .neq _ _ (.const (.slice none _ _)) _) rfl ?_; refine wpList_stp (by kernel_rfl) (stp_val (run_nsn _ _ _ rfl) ?_)))
              exact hR _ hS.chg
end Go.Proofs.Ytlpknbkgkhnfcaa
