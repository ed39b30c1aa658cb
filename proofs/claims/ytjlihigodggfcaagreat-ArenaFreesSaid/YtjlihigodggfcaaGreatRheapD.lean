/-
  The document's heap: its contracts, last part.
-/
import Derived.Test.YtjlihigodggfcaaGreatRheapC
set_option linter.unusedSimpArgs false
set_option linter.unusedVariables false
namespace Go.Proofs.YtjlihigodggfcaaGreat
open Go.RowKit Go.Mm
variable {R : Ending → World → Prop} {w : World} {w0 : World} {bs : List Nat} {H H' H1 E : List Ent}

set_option maxHeartbeats 2000000 in
set_option maxRecDepth 100000 in
theorem rh_make {p : Option Addr} {T : Hp} (hO : St w0 bs w H) (hT : RH p T E) [hc : Cut H E H1] (n : Int) (h : Bool) (T' : Hp) (r : Int × Int) (e : Int) (hT' : mkT T n h = T') (hr : mkR T n h = r) (he : mkE T n h = e)
    (hR : ∀ E' w', RH p T' E' → St w0 bs w' (E' ++ H1) → Ret R (.tuple #[.agg #[.int .i64 r.1, .int .u32 r.2], .int .i64 e]) w') : Calls Tryz.prog 78 #[.pointer p, .int .i64 n, .bool h] w R := by
  have hS := hO.front (E := E) (H1 := H1)
  clear hO
  subst hT' he hr
  rcases T with _ | _ | L
  · simp only [mkT, mkE, mkR] at hR
    go_enter Tryz.func78, Tryz.ntmps78
    go_wp2_with (first | (refine wpList_is (.alloc 25) rfl ?_; go_must (refine wpList_stp (by kernel_rfl) (stp_al _ rfl hS ?_)); clear hS; intro br w _ hS) | (go_at_call 92; refine rh_valid hS hT false rfl ?_; clear hS; intro w hS; (try simp only [List.cons_append, List.nil_append] at hS); unfold Ret) | (refine wpList_is (.build _ _) rfl ?_; go_must (refine wpList_stp (by kernel_rfl) (stp_val (run_bd _ _ rfl) ?_))) | (refine wpList_is (.store _ _ _) rfl ?_; go_must ((refine wpList_stp (by kernel_rfl) (stp_sta _ _ _ rfl hS ?_))); clear hS; intro w hS))
    refine bodyPost_ret (res_ct rfl hS) rfl ?_
    exact hR _ _ hT hS.pick
  · exact hT.elim
  obtain ⟨hW, b, bl, cap, sp, rfl, rfl⟩ := id hT
  cases hb : nwB n h with
  | false =>
    have e1 : nwO n h = zOb := by unfold nwO; rw [hb]; rfl
    have e2 : nwOE n h = 2 := by unfold nwOE; rw [hb]; rfl
    simp only [mkT, mkE, mkR, mkI, hb, Bool.false_eq_true, if_false] at hR
    have e1' := Lib.hid e1
    have e2' := Lib.hid e2
    clear e1 e2 hW hb
    go_enter Tryz.func78, Tryz.ntmps78
    go_wp2_with (first | (refine wpList_is (.alloc 25) rfl ?_; go_must (refine wpList_stp (by kernel_rfl) (stp_al _ rfl hS ?_)); clear hS; intro br w _ hS) | (go_at_call 92; refine rh_valid hS hT true rfl ?_; clear hS; intro w hS; (try simp only [List.cons_append, List.nil_append] at hS); unfold Ret) | (go_at_call 76; refine rob_new hS n h _ 2 e1'.out e2'.out ?_; clear hS; intro w hS; have hz : obC zOb = objC 0 zero4 false := rfl; rw [hz]; unfold Ret) | (refine wpList_is (.build _ _) rfl ?_; go_must (refine wpList_stp (by kernel_rfl) (stp_val (run_bd _ _ rfl) ?_))) | (refine wpList_is (.store _ _ _) rfl ?_; go_must ((refine wpList_stp (by kernel_rfl) (stp_sta _ _ _ rfl hS ?_))); clear hS; intro w hS) | (refine wpList_is (.alloc _) rfl ?_; go_must (refine wpList_stp (by kernel_rfl) (stp_al _ rfl hS ?_)); clear hS; intro bN w hbN hS))
    refine bodyPost_ret (res_ct rfl hS) rfl ?_
    exact hR _ _ hT (by simp only [List.cons_append, List.nil_append]; exact hS.pick)
  | true =>
    have e1 : nwO n h = (n, zero4, h) := by unfold nwO; rw [hb]; rfl
    have e2 : nwOE n h = 0 := by unfold nwOE; rw [hb]; rfl
    have hoW := nwB_w hb
    simp only [mkT, mkE, mkR, mkI, hb, if_true, e1] at hR
    have e1' := Lib.hid e1
    have e2' := Lib.hid e2
    have hR' := Lib.hid hR
    have hbb := rh_b2 (n := n) (h := h) (F := zero4) rfl
    clear e1 e2 hb hR
    have hhi := hW.hi
    have hlo := hW.lo
    go_enter Tryz.func78, Tryz.ntmps78
    go_wp2_with (first | (refine wpList_is (.alloc 25) rfl ?_; go_must (refine wpList_stp (by kernel_rfl) (stp_al _ rfl hS ?_)); clear hS; intro b6 w _ hS) | (refine wpList_is (.alloc 42) rfl ?_; go_must (refine wpList_stp (by kernel_rfl) (stp_al _ rfl hS ?_)); clear hS; intro b8 w _ hS) | (go_at_call 92; refine rh_valid hS hT true rfl ?_; clear hS; intro w hS; (try simp only [List.cons_append, List.nil_append] at hS); unfold Ret) | (go_at_call 76; refine rob_new hS n h _ 0 e1'.out e2'.out ?_; clear hS; intro w hS; have hz : obC (n, zero4, h) = objC n zero4 h := rfl; rw [hz]; unfold Ret) | (refine wpList_is (.store _ _ _) rfl ?_; go_must ((refine wpList_stp (by kernel_rfl) (stp_sta _ _ _ rfl hS ?_))); clear hS; intro w hS))
    go_loopw [10] (fun u wr => ∃ k : Nat, k ≤ L.length ∧ u = .int .i64 k ∧ (∀ j, j < k → isSt 0 (tbH L) j = false) ∧ St w0 bs wr (⟨b, #[.bool true, .slice (some ⟨bl, 0, none⟩) L.length cap], 113, true⟩ :: ⟨bl, blk [] hsf L sp, 115, true⟩ :: ⟨b8, objC n zero4 h, 42, true⟩ :: ⟨b6, #[.int .i64 0, .int .u32 0], 25, true⟩ :: H1)) (fun u _ => L.length - (intOf u).toNat)
    case atStart => exact ⟨0, Nat.zero_le _, rfl, fun j hj => absurd hj (Nat.not_lt_zero _), hS.pick⟩
    case round =>
      clear hS
      obtain ⟨k, hk, rfl, hno, hS⟩ := hrel
      have hno' := Lib.hid hno
      clear hno
      by_cases hlt : k < L.length
      · obtain ⟨⟨st, gn, ob⟩, hx⟩ : ∃ x, L.getD k zHs = x := ⟨_, rfl⟩
        obtain ⟨a1, a2, a3, a4, a5, a6⟩ := rh_at hW hlt hx bl cap sp
        have a1 := a1 k rfl
        have h3 := st3 hW hlt
        have hst := isStH2 (L := L) (st := 0) (i := k)
        rw [hx] at h3 hst
        simp only at a2 a3 a4 a5 h3 hst
        rcases h3 with rfl | rfl | rfl
        · have htk : tkI (some (tbH L)) = some k := first_at (by rw [tbH_len]; exact hlt) hno'.out hst
          have hg1 : (L.getD k zHs).2.1 = gn := by rw [hx]
          have hmk : mkN L k (n, zero4, h) = L.set k (1, gn, (n, zero4, h)) := by unfold mkN; rw [hg1]
          have hWN := mkN_w hW hlt hoW
          have hlN : (mkN L k (n, zero4, h)).length = L.length := by unfold mkN; rw [List.length_set]
          have hR := hR'.out
          simp only [htk, Option.isSome_some, if_true, hg1] at hR
          have hmk' := Lib.hid hmk
          have hWN' := Lib.hid hWN
          have hlN' := Lib.hid hlN
          clear hst htk hg1 hmk hWN hlN hx a5 a6 hR'
          go_wp2_with (first | (go_at_call 89; go_must (refine set_at (i := k) (bl := bl) (cap := cap) (sp := sp) (H1 := ⟨b8, objC n zero4 h, 42, true⟩ :: ⟨b6, #[.int .i64 0, .int .u32 0], 25, true⟩ :: H1) (show St w0 bs _ ([⟨b, #[.bool true, .slice (some ⟨bl, 0, none⟩) L.length cap], 113, true⟩, ⟨bl, blk [] hsf L sp, 115, true⟩] ++ (⟨b8, objC n zero4 h, 42, true⟩ :: ⟨b6, #[.int .i64 0, .int .u32 0], 25, true⟩ :: H1)) from hS) hW hlt rfl (1, gn, (n, zero4, h)) ?_); clear hS; intro bl2 cap2 sp2 w hS; simp only [List.cons_append, List.nil_append] at hS) | (refine wpList_is (.indexAddr _ _ _) rfl ?_; refine wpList_stp (by kernel_rfl) (stp_val (run_idxv _ _ _ rfl) ?_)) | (refine wpList_is (.build _ _) rfl ?_; go_must (refine wpList_stp (by kernel_rfl) (stp_val (run_bd _ _ rfl) ?_))) | (refine wpList_is (.load _ _) rfl ?_; go_must (first | refine wpList_stp (by kernel_rfl) (stp_val (run_ld _ _ rfl hS) ?_) | refine wpList_stp (by kernel_rfl) (stp_val (run_lda _ _ rfl hS) ?_))) | (refine wpList_is (.store _ _ _) rfl ?_; go_must ((refine wpList_stp (by kernel_rfl) (stp_sta _ _ _ rfl hS ?_))); clear hS; intro w hS))
          refine bodyPost_ret (res_ct rfl hS) rfl ?_
          refine hR [⟨b, #[.bool true, .slice (some ⟨bl2, 0, none⟩) L.length cap2], 113, true⟩, ⟨bl2, blk [] hsf (L.set k (1, gn, (n, zero4, h))) sp2, 115, true⟩] _ ⟨hWN'.out, b, bl2, cap2, sp2, rfl, ?_⟩ (by simp only [List.cons_append, List.nil_append]; exact hS.pick)
          rw [hlN'.out, hmk'.out]
        · have hst' := Lib.hid hst
          clear hst hx a4 a5 a6
          go_wp2_with (first | (refine wpList_is (.indexAddr _ _ _) rfl ?_; refine wpList_stp (by kernel_rfl) (stp_val (run_idxv _ _ _ rfl) ?_)) | (refine wpList_is (.load _ _) rfl ?_; go_must ((refine wpList_stp (by kernel_rfl) (stp_val (run_ld _ _ rfl hS) ?_)))))
          go_roundw
          case rel => exact ⟨k + 1, by omega, by go_num, fun j hj => if e : j = k then e ▸ hst'.out else hno'.out j (by omega), hS.pick⟩
          case measure => simp [intOf]; omega
        · have hst' := Lib.hid hst
          clear hst hx a4 a5 a6
          go_wp2_with (first | (refine wpList_is (.indexAddr _ _ _) rfl ?_; refine wpList_stp (by kernel_rfl) (stp_val (run_idxv _ _ _ rfl) ?_)) | (refine wpList_is (.load _ _) rfl ?_; go_must ((refine wpList_stp (by kernel_rfl) (stp_val (run_ld _ _ rfl hS) ?_)))))
          go_roundw
          case rel => exact ⟨k + 1, by omega, by go_num, fun j hj => if e : j = k then e ▸ hst'.out else hno'.out j (by omega), hS.pick⟩
          case measure => simp [intOf]; omega
      · obtain rfl : k = L.length := by omega
        have htk : tkI (some (tbH L)) = none := first_no (fun j hj => hno'.out j (by rw [tbH_len] at hj; exact hj))
        have hR := hR'.out
        simp only [htk, Option.isSome_none, Bool.false_eq_true, if_false] at hR
        clear htk hR' hk hlt
        go_wp2_with (first | (refine wpList_is (.build _ _) rfl ?_; go_must (refine wpList_stp (by kernel_rfl) (stp_val (run_bd _ _ rfl) ?_))) | (refine wpList_is (.load _ _) rfl ?_; go_must ((refine wpList_stp (by kernel_rfl) (stp_val (run_ld _ _ rfl hS) ?_)))) | (refine wpList_is (.store _ _ _) rfl ?_; go_must ((refine wpList_stp (by kernel_rfl) (stp_sta _ _ _ rfl hS ?_))); clear hS; intro w hS))
        refine bodyPost_ret (res_ct rfl hS) rfl ?_
        exact hR _ _ hT (by simp only [List.cons_append, List.nil_append]; exact hS.pick)
end Go.Proofs.YtjlihigodggfcaaGreat
