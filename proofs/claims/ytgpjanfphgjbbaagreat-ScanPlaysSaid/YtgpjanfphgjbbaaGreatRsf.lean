/-
  Sound, as the document says.
-/
import Derived.Test.YtgpjanfphgjbbaaGreatRse
set_option linter.unusedSimpArgs false
set_option linter.unusedVariables false
namespace Go.Proofs.YtgpjanfphgjbbaaGreat
open Go Go.RowKit Go.Mm
class IntEq (n m : Int) (b : outParam Bool) : Prop where
  h : decide (n = m) = b
theorem run_ieqv {P : Program} {o : Oper} {a : Act} {w : World} (t t' : TypeId) (x y : Operand) (ho : o.op = .binOp .eql t x y t') {k : IntKind} {n m : Int} {b : Bool} [hx : Ev a x (.int k n)] [hy : Ev a y (.int k m)] [hr : IntEq n m b] : OpVal P o a w (.bool b) := by
  unfold OpVal
  have e : (n == m) = decide (n = m) := by rw [Bool.eq_iff_iff, beq_iff_eq, decide_eq_true_iff]
  simp [execOp, ho, hx.h, hy.h, eqGuard, binOp, Op.intCmp, ← hr.h, e]
variable {R : Ending → World → Prop} {w : World} {w0 : World} {bs : List Nat} {H H' H1 H2 H3 E E0 E1 E2 Ev : List Ent}
theorem al_wi {T : Hp} {p : Option Addr} (hT : RH p T E) (hok : hpOk T = true) {r : Int × Int} (h : r ∈ alH T) : wiH T r.1 r.2 = 0 := by
  rcases T with _ | _ | L
  · cases hok
  · cases hok
  · have h0 : 0 < (tbH L).length := by rw [tbH_len]; exact hT.1.lo
    exact (tkL_ck h0).1 h
set_option maxHeartbeats 4000000 in
set_option maxRecDepth 100000 in
theorem rc_sound {ph p : Option Addr} {Hh : Hp} {T : Cq} (hO : St w0 bs w H) (hH : RH ph Hh E0) (hT : KR p T E1) [hc : Cut H E0 H1] [hd : Cut H1 E1 H2] (b : Bool) (e : Int) (hb : soR Hh T = (b, e))
    (hR : ∀ w', RH ph Hh E0 → KR p T E1 → St w0 bs w' (E0 ++ (E1 ++ H2)) → Ret R (.tuple #[.bool b, .int .i64 e]) w') : Calls Tryz.prog 77 #[.pointer ph, .pointer p] w R := by
  have hS := (hO.front (E := E0) (H1 := H1))
  have hS : St w0 bs w (E0 ++ (E1 ++ H2)) := hS.pick
  clear hO
  unfold soR at hb
  cases hok : hpOk Hh with
  | false =>
    simp only [hok, Bool.false_and, Bool.false_eq_true, if_false] at hb
    obtain ⟨rfl, rfl⟩ := Prod.mk.inj hb
    clear hb
    go_enter Tryz.func77, Tryz.ntmps77
    go_wp2_with ((go_at_call 63; refine rc_heap hS hH _ hok ?_; clear hS; intro w hH hS; unfold Ret))
    exact hR _ hH hT hS.pick
  | true =>
    cases k1 : okC T with
    | false =>
      simp only [hok, k1, Bool.and_false, Bool.false_eq_true, if_false] at hb
      obtain ⟨rfl, rfl⟩ := Prod.mk.inj hb
      clear hb
      go_enter Tryz.func77, Tryz.ntmps77
      go_wp2_with (first | (go_at_call 63; refine rc_heap hS hH _ hok ?_; clear hS; intro w hH hS; unfold Ret) | (go_at_call 54; refine rc_paint hS hT _ k1 ?_; clear hS; intro w hT hS; unfold Ret))
      exact hR _ hH hT hS.pick
    | true =>
      simp only [hok, k1, Bool.and_self, if_true] at hb
      obtain ⟨l, hl⟩ : ∃ l, alH Hh = l := ⟨_, rfl⟩
      have hwi : ∀ r ∈ l, wiH Hh r.1 r.2 = 0 := fun r hr => al_wi hH hok (by rw [hl]; exact hr)
      have hl256 : l.length ≤ 256 := by
        rw [← hl]
        rcases Hh with _ | _ | L
        · exact Nat.zero_le _
        · exact Nat.zero_le _
        · exact tkL_256 hH.1.tb
      rw [hl] at hb
      have hb' := Lib.hid hb
      have hwi' := Lib.hid hwi
      clear hb hwi
      go_enter Tryz.func77, Tryz.ntmps77
      go_wp2_with (first | (go_at_call 63; refine rc_heap hS hH _ hok ?_; clear hS; intro w hH hS; unfold Ret) | (go_at_call 54; refine rc_paint hS hT _ k1 ?_; clear hS; intro w hT hS; unfold Ret) | (go_at_call 106; refine rh_all hS hH l hl ?_; clear hS; intro v Ev w hV hS; have hone := hV.one; have hlnV := hV.len rfl; unfold Ret))
      have hS0 : St w0 bs w (Ev ++ (E0 ++ (E1 ++ H2))) := hS.pick
      have hH0 := hH
      have hT0 := hT
      clear hS hl hok k1 hH hT
      go_loopw [6, 8] (fun x u wr => ∃ (k : Nat) (bb : Bool), k ≤ l.length ∧ u = .int .i64 k ∧ x = .bool bb ∧ soF Hh T bb (l.drop k) = (b, e) ∧ RH ph Hh E0 ∧ KR p T E1 ∧ St w0 bs wr (Ev ++ (E0 ++ (E1 ++ H2)))) (fun _ u _ => l.length - (intOf u).toNat)
      case atStart => exact ⟨0, true, Nat.zero_le _, rfl, rfl, hb'.out, hH0, hT0, hS0⟩
      case round =>
        clear hS0 hb' hH0 hT0
        obtain ⟨k, bb, hk, rfl, rfl, hso, hH, hT, hS⟩ := hrel
        by_cases hlt : k < l.length
        case neg =>
          obtain rfl : k = l.length := by omega
          rw [List.drop_length] at hso
          obtain ⟨rfl, rfl⟩ := Prod.mk.inj hso
          clear hso
          go_wp2_with ((refine wpList_is (.call { callee := .builtin .len, args := #[_], argTypes := #[_] }) rfl ?_; refine wpList_stp (by kernel_rfl) (stp_val (run_lenv _ _ rfl) ?_)))
          exact hR _ hH hT hS.pick
        obtain ⟨⟨s, g⟩, hx⟩ : ∃ r, l.getD k (0, 0) = r := ⟨_, rfl⟩
        obtain ⟨gx, sp, ix, hh, hcx⟩ := hV.at hlt hx
        have ix := ix k rfl
        have hcx1 : CellAt (blk [] slf l sp) (k * 2) (.int .i64 s) := ⟨by have := hcx.h 0 (by decide); simpa using this⟩
        have hkI : (k : Int) < l.length := by omega
        have hel : l[k] = (s, g) := by rw [List.getD_eq_getElem?_getD, List.getElem?_eq_getElem hlt] at hx; exact hx
        have hdr : l.drop k = (s, g) :: l.drop (k + 1) := by rw [List.drop_eq_getElem_cons hlt, hel]
        have hw := hwi'.out (s, g) (by rw [← hel]; exact List.getElem_mem hlt)
        simp only at hw
        rw [hdr] at hso
        simp only [soF] at hso
        rw [if_pos hw] at hso
        obtain ⟨e1, he1⟩ : ∃ q, ofE T s = q := ⟨_, rfl⟩
        obtain ⟨c, hc⟩ : ∃ q, ofR T s = q := ⟨_, rfl⟩
        rw [he1, hc] at hso
        clear hdr hel hx
        by_cases h1 : e1 = 0
        case neg =>
          have d1 : decide (e1 = 0) = false := decide_eq_false h1
          have q1 : (e1 != 0) = true := by simpa using h1
          rw [if_neg h1] at hso
          obtain ⟨rfl, rfl⟩ := Prod.mk.inj hso
          clear hso
          go_wp2_with (first | (go_at_call 65; refine kr_of hS hT s _ _ hc he1 ?_; clear hS; intro w hT hS; unfold Ret) | (refine wpList_is (.call { callee := .builtin .len, args := #[_], argTypes := #[_] }) rfl ?_; refine wpList_stp (by kernel_rfl) (stp_val (run_lenv _ _ rfl) ?_)) | (refine wpList_is (.indexAddr _ _ _) rfl ?_; refine wpList_stp (by kernel_rfl) (stp_val (run_idxv _ _ _ rfl) ?_)) | (refine wpList_is (.load _ _) rfl ?_; go_must ((refine wpList_stp (by kernel_rfl) (stp_val (run_ld _ _ rfl hS) ?_)))))
          exact hR _ hH hT hS.pick
        subst h1
        rw [if_pos rfl] at hso
        obtain ⟨lc, hlc⟩ : ∃ lc, chdR Hh s g = lc := ⟨_, rfl⟩
        have hlc4 : lc.length ≤ 4 := by rw [← hlc]; exact chdR_len Hh s g
        obtain ⟨⟨b1, e2⟩, hch⟩ : ∃ y, chS T c bb lc = y := ⟨_, rfl⟩
        rw [hlc, hch] at hso
        simp only at hso
        have hso' := Lib.hid hso
        have hch' := Lib.hid hch
        clear hso hch
        go_wp2_with (first | (go_at_call 65; refine kr_of hS hT s _ _ hc he1 ?_; clear hS; intro w hT hS; unfold Ret) | (go_at_call 64; refine rc_children hS hH s g _ _ hlc hw ?_; clear hS; intro vc Ec w hI hH hS; have hone2 := hI.one; have hln2 := hI.len rfl; unfold Ret) | (refine wpList_is (.call { callee := .builtin .len, args := #[_], argTypes := #[_] }) rfl ?_; refine wpList_stp (by kernel_rfl) (stp_val (run_lenv _ _ rfl) ?_)) | (refine wpList_is (.indexAddr _ _ _) rfl ?_; refine wpList_stp (by kernel_rfl) (stp_val (run_idxv _ _ _ rfl) ?_)) | (refine wpList_is (.load _ _) rfl ?_; go_must (first | refine wpList_stp (by kernel_rfl) (stp_val (run_ld _ _ rfl hS) ?_) | refine wpList_stp (by kernel_rfl) (stp_val (run_lda _ _ rfl hS) ?_))))
        have hS0 : St w0 bs w (Ec ++ (Ev ++ (E0 ++ (E1 ++ H2)))) := hS.pick
        have hH0 := hH
        have hT0 := hT
        clear hS hlc hw he1 hc hH hT ix hh hcx hcx1
        go_loopw [6, 13] (fun x u wr => ∃ (j : Nat) (bb : Bool), j ≤ lc.length ∧ u = .int .i64 j ∧ x = .bool bb ∧ chS T c bb (lc.drop j) = (b1, e2) ∧ RH ph Hh E0 ∧ KR p T E1 ∧ St w0 bs wr (Ec ++ (Ev ++ (E0 ++ (E1 ++ H2))))) (fun _ u _ => lc.length - (intOf u).toNat)
        case atStart => exact ⟨0, bb, Nat.zero_le _, rfl, rfl, hch'.out, hH0, hT0, hS0⟩
        case round =>
          clear hS0 hch' hH0 hT0
          obtain ⟨j, b2, hj, rfl, rfl, hch, hH, hT, hS⟩ := hrel
          by_cases hlj : j < lc.length
          case neg =>
            obtain rfl : j = lc.length := by omega
            rw [List.drop_length] at hch
            obtain ⟨rfl, rfl⟩ := Prod.mk.inj hch
            have hso := hso'.out
            rw [if_pos rfl] at hso
            have hso2 := Lib.hid hso
            clear hch hso hso'
            go_wp2_with ((refine wpList_is (.call { callee := .builtin .len, args := #[_], argTypes := #[_] }) rfl ?_; refine wpList_stp (by kernel_rfl) (stp_val (run_lenv _ _ rfl) ?_)))
            go_roundw
            case rel => exact ⟨k + 1, b2, by omega, by go_num, rfl, hso2.out, hH, hT, hS.pick⟩
            case measure => simp [intOf]; omega
          obtain ⟨x, hx⟩ : ∃ x, lc.getD j 0 = x := ⟨_, rfl⟩
          obtain ⟨gx, sp, ix, hh, hcx⟩ := hI.at hlj hx
          have ix := ix j rfl
          have hel : lc[j] = x := by rw [List.getD_eq_getElem?_getD, List.getElem?_eq_getElem hlj] at hx; exact hx
          have hdr : lc.drop j = x :: lc.drop (j + 1) := by rw [List.drop_eq_getElem_cons hlj, hel]
          rw [hdr] at hch
          simp only [chS] at hch
          obtain ⟨e3, he3⟩ : ∃ q, ofE T x = q := ⟨_, rfl⟩
          obtain ⟨c', hc'⟩ : ∃ q, ofR T x = q := ⟨_, rfl⟩
          rw [he3, hc'] at hch
          clear hdr hel hx
          by_cases h3 : e3 = 0
          case neg =>
            have d1 : decide (e3 = 0) = false := decide_eq_false h3
            have q1 : (e3 != 0) = true := by simpa using h3
            rw [if_neg h3] at hch
            obtain ⟨rfl, rfl⟩ := Prod.mk.inj hch
            have hso := hso'.out
            rw [if_neg h3] at hso
            obtain ⟨rfl, rfl⟩ := Prod.mk.inj hso
            clear hch hso hso'
            go_wp2_with (first | (go_at_call 65; refine kr_of hS hT x _ _ hc' he3 ?_; clear hS; intro w hT hS; unfold Ret) | (refine wpList_is (.call { callee := .builtin .len, args := #[_], argTypes := #[_] }) rfl ?_; refine wpList_stp (by kernel_rfl) (stp_val (run_lenv _ _ rfl) ?_)) | (refine wpList_is (.indexAddr _ _ _) rfl ?_; refine wpList_stp (by kernel_rfl) (stp_val (run_idxv _ _ _ rfl) ?_)) | (refine wpList_is (.load _ _) rfl ?_; go_must ((refine wpList_stp (by kernel_rfl) (stp_val (run_ld _ _ rfl hS) ?_)))))
            exact hR _ hH hT hS.pick
          subst h3
          rw [if_pos rfl] at hch
          by_cases h4 : c = 2
          case neg =>
            have d1 : decide (c = 2) = false := decide_eq_false h4
            have e4 : (decide (c ≠ 2) || decide (c' ≠ 0)) = true := by simp [h4]
            rw [e4, Bool.and_true] at hch
            have hch' := Lib.hid hch
            clear hch e4
            go_wp2_with (first | (go_at_call 65; refine kr_of hS hT x _ _ hc' he3 ?_; clear hS; intro w hT hS; unfold Ret) | (refine wpList_is (.call { callee := .builtin .len, args := #[_], argTypes := #[_] }) rfl ?_; refine wpList_stp (by kernel_rfl) (stp_val (run_lenv _ _ rfl) ?_)) | (refine wpList_is (.indexAddr _ _ _) rfl ?_; refine wpList_stp (by kernel_rfl) (stp_val (run_idxv _ _ _ rfl) ?_)) | (refine wpList_is (.load _ _) rfl ?_; go_must ((refine wpList_stp (by kernel_rfl) (stp_val (run_ld _ _ rfl hS) ?_)))))
            go_roundw
            case rel => exact ⟨j + 1, b2, by omega, by go_num, rfl, hch'.out, hH, hT, hS.pick⟩
            case measure => simp [intOf]; omega
          have q4 : IntEq c 2 true := ⟨decide_eq_true h4⟩
          by_cases h5 : c' = 0
          case neg =>
            have q5 : IntEq c' 0 false := ⟨decide_eq_false h5⟩
            have e4 : (decide (c ≠ 2) || decide (c' ≠ 0)) = true := by simp [h5]
            rw [e4, Bool.and_true] at hch
            have hch' := Lib.hid hch
            have h4' := Lib.hid h4
            clear hch e4 h4
            go_wp2_with (first | (go_at_call 65; refine kr_of hS hT x _ _ hc' he3 ?_; clear hS; intro w hT hS; unfold Ret) | (refine wpList_is (.binOp .eql _ _ _ _) rfl ?_; refine wpList_stp (by kernel_rfl) (stp_val (run_ieqv _ _ _ _ rfl) ?_)) | (refine wpList_is (.call { callee := .builtin .len, args := #[_], argTypes := #[_] }) rfl ?_; refine wpList_stp (by kernel_rfl) (stp_val (run_lenv _ _ rfl) ?_)) | (refine wpList_is (.indexAddr _ _ _) rfl ?_; refine wpList_stp (by kernel_rfl) (stp_val (run_idxv _ _ _ rfl) ?_)) | (refine wpList_is (.load _ _) rfl ?_; go_must ((refine wpList_stp (by kernel_rfl) (stp_val (run_ld _ _ rfl hS) ?_)))))
            go_roundw
            case rel => exact ⟨j + 1, b2, by omega, by go_num, rfl, hch'.out, hH, hT, hS.pick⟩
            case measure => simp [intOf]; omega
          have q5 : IntEq c' 0 true := ⟨decide_eq_true h5⟩
          have e4 : (decide (c ≠ 2) || decide (c' ≠ 0)) = false := by simp [h4, h5]
          rw [e4, Bool.and_false] at hch
          have hch' := Lib.hid hch
          have h4' := Lib.hid h4
          have h5' := Lib.hid h5
          clear hch e4 h4 h5
          go_wp2_with (first | (go_at_call 65; refine kr_of hS hT x _ _ hc' he3 ?_; clear hS; intro w hT hS; unfold Ret) | (refine wpList_is (.binOp .eql _ _ _ _) rfl ?_; refine wpList_stp (by kernel_rfl) (stp_val (run_ieqv _ _ _ _ rfl) ?_)) | (refine wpList_is (.call { callee := .builtin .len, args := #[_], argTypes := #[_] }) rfl ?_; refine wpList_stp (by kernel_rfl) (stp_val (run_lenv _ _ rfl) ?_)) | (refine wpList_is (.indexAddr _ _ _) rfl ?_; refine wpList_stp (by kernel_rfl) (stp_val (run_idxv _ _ _ rfl) ?_)) | (refine wpList_is (.load _ _) rfl ?_; go_must ((refine wpList_stp (by kernel_rfl) (stp_val (run_ld _ _ rfl hS) ?_)))))
          go_roundw
          case rel => exact ⟨j + 1, false, by omega, by go_num, rfl, hch'.out, hH, hT, hS.pick⟩
          case measure => simp [intOf]; omega
end Go.Proofs.YtgpjanfphgjbbaaGreat
