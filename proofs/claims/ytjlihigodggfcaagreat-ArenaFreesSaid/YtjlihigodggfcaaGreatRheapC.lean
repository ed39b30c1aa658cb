/-
  The document's heap: its contracts, third part.
-/
import Derived.Test.YtjlihigodggfcaaGreatRheapB
set_option linter.unusedSimpArgs false
set_option linter.unusedVariables false
namespace Go.Proofs.YtjlihigodggfcaaGreat
open Go.RowKit Go.Mm
variable {R : Ending → World → Prop} {w : World} {w0 : World} {bs : List Nat} {H H' H1 E : List Ent}

theorem st3 {L : List Hs} (hW : HpW L) {i : Nat} (hi : i < L.length) : (L.getD i zHs).1 = 0 ∨ (L.getD i zHs).1 = 1 ∨ (L.getD i zHs).1 = 2 := by
  have := hW.tb.st _ (getD_mem (L := tbH L) (i := i) (by rw [tbH_len]; exact hi))
  rw [tbH_get] at this
  exact this
theorem isStH2 {L : List Hs} {st : Int} {i : Nat} : isSt st (tbH L) i = ((L.getD i zHs).1 == st) := by unfold isSt; rw [tbH_get]
theorem refOfH {L : List Hs} {i : Nat} : refOf (tbH L) i = ((i : Int), (L.getD i zHs).2.1) := by unfold refOf; rw [tbH_get]

set_option maxHeartbeats 1000000 in
set_option maxRecDepth 100000 in
theorem rh_left {p : Option Addr} {T : Hp} (hO : St w0 bs w H) (hT : RH p T E) [hc : Cut H E H1] (m : Int) (hm : lfH T = m)
    (hR : ∀ w', RH p T E → St w0 bs w' (E ++ H1) → Ret R (.int .i64 m) w') : Calls Tryz.prog 52 #[.pointer p] w R := by
  have hS := hO.front (E := E) (H1 := H1)
  clear hO hc
  rcases T with _ | _ | L
  · obtain rfl : 0 = m := hm
    go_enter Tryz.func52, Tryz.ntmps52
    go_wp2_with ((go_skip))
    obtain ⟨wo, rfl⟩ : ∃ wo : World, wo = w := ⟨_, rfl⟩
    go_loopw [4, 3] (fun u c wr => u = .int .i64 0 ∧ c = .int .i64 0 ∧ St w0 bs wr (E ++ H1)) (fun _ _ _ => 0)
    case atStart => exact ⟨rfl, rfl, hS⟩
    case round =>
      clear hS
      obtain ⟨rfl, rfl, hS⟩ := hrel
      go_wp2_with ((go_at_call 92; refine rh_valid hS hT false rfl ?_; clear hS; intro w hS; (try simp only [List.cons_append, List.nil_append] at hS); unfold Ret))
      exact hR _ hT hS.pick
  · exact hT.elim
  obtain ⟨hW, b, bl, cap, sp, rfl, rfl⟩ := id hT
  obtain rfl : ((stCnt 0 (tbH L) (tbH L).length : Nat) : Int) = m := hm
  simp only [List.cons_append, List.nil_append] at hS
  have hhi := hW.hi
  go_enter Tryz.func52, Tryz.ntmps52
  go_wp2_with ((go_skip))
  obtain ⟨wo, rfl⟩ : ∃ wo : World, wo = w := ⟨_, rfl⟩
  go_loopw [4, 3] (fun u c wr => ∃ k : Nat, k ≤ L.length ∧ u = .int .i64 k ∧ c = .int .i64 (stCnt 0 (tbH L) k) ∧ St w0 bs wr (⟨b, #[.bool true, .slice (some ⟨bl, 0, none⟩) L.length cap], 113, true⟩ :: ⟨bl, blk [] hsf L sp, 115, true⟩ :: H1)) (fun u _ _ => L.length - (intOf u).toNat)
  case atStart => exact ⟨0, Nat.zero_le _, rfl, rfl, hS⟩
  case round =>
    clear hS
    obtain ⟨k, hk, rfl, rfl, hS⟩ := hrel
    have hle := stCnt_le 0 (tbH L) k
    by_cases hlt : k < L.length
    · obtain ⟨⟨st, gn, ob⟩, hx⟩ : ∃ x, L.getD k zHs = x := ⟨_, rfl⟩
      obtain ⟨a1, a2, a3, a4, a5, a6⟩ := rh_at hW hlt hx bl cap sp
      have a1 := a1 k rfl
      have h3 := st3 hW hlt
      have hst := isStH2 (L := L) (st := 0) (i := k)
      rw [hx] at h3 hst
      simp only at a2 a3 a4 a5 h3 hst
      clear a4 a5 a6 hx
      rcases h3 with rfl | rfl | rfl
      · have hn' := Lib.hid (stCnt_yes (k := k) (st := 0) (L := tbH L) hst)
        clear hst
        go_wp2_with (first | (go_at_call 92; refine rh_valid (show St w0 bs _ ([⟨b, #[.bool true, .slice (some ⟨bl, 0, none⟩) L.length cap], 113, true⟩, ⟨bl, blk [] hsf L sp, 115, true⟩] ++ H1) from hS) hT true rfl ?_; clear hS; intro w hS; simp only [List.cons_append, List.nil_append] at hS; unfold Ret) | (refine wpList_is (.indexAddr _ _ _) rfl ?_; refine wpList_stp (by kernel_rfl) (stp_val (run_idxv _ _ _ rfl) ?_)) | (refine wpList_is (.load _ _) rfl ?_; go_must ((refine wpList_stp (by kernel_rfl) (stp_val (run_ld _ _ rfl hS) ?_)))))
        go_roundw
        case rel => exact ⟨k + 1, by omega, by go_num, by rw [hn'.out]; go_num, hS.pick⟩
        case measure => simp [intOf]; omega
      · have hn' := Lib.hid (stCnt_no (k := k) (st := 0) (L := tbH L) hst)
        clear hst
        go_wp2_with (first | (go_at_call 92; refine rh_valid (show St w0 bs _ ([⟨b, #[.bool true, .slice (some ⟨bl, 0, none⟩) L.length cap], 113, true⟩, ⟨bl, blk [] hsf L sp, 115, true⟩] ++ H1) from hS) hT true rfl ?_; clear hS; intro w hS; simp only [List.cons_append, List.nil_append] at hS; unfold Ret) | (refine wpList_is (.indexAddr _ _ _) rfl ?_; refine wpList_stp (by kernel_rfl) (stp_val (run_idxv _ _ _ rfl) ?_)) | (refine wpList_is (.load _ _) rfl ?_; go_must ((refine wpList_stp (by kernel_rfl) (stp_val (run_ld _ _ rfl hS) ?_)))))
        go_roundw
        case rel => exact ⟨k + 1, by omega, by go_num, by rw [hn'.out], hS.pick⟩
        case measure => simp [intOf]; omega
      · have hn' := Lib.hid (stCnt_no (k := k) (st := 0) (L := tbH L) hst)
        clear hst
        go_wp2_with (first | (go_at_call 92; refine rh_valid (show St w0 bs _ ([⟨b, #[.bool true, .slice (some ⟨bl, 0, none⟩) L.length cap], 113, true⟩, ⟨bl, blk [] hsf L sp, 115, true⟩] ++ H1) from hS) hT true rfl ?_; clear hS; intro w hS; simp only [List.cons_append, List.nil_append] at hS; unfold Ret) | (refine wpList_is (.indexAddr _ _ _) rfl ?_; refine wpList_stp (by kernel_rfl) (stp_val (run_idxv _ _ _ rfl) ?_)) | (refine wpList_is (.load _ _) rfl ?_; go_must ((refine wpList_stp (by kernel_rfl) (stp_val (run_ld _ _ rfl hS) ?_)))))
        go_roundw
        case rel => exact ⟨k + 1, by omega, by go_num, by rw [hn'.out], hS.pick⟩
        case measure => simp [intOf]; omega
    · obtain rfl : k = L.length := by omega
      rw [tbH_len] at hR
      clear hk hlt
      go_wp2_with (first | (go_at_call 92; refine rh_valid (show St w0 bs _ ([⟨b, #[.bool true, .slice (some ⟨bl, 0, none⟩) L.length cap], 113, true⟩, ⟨bl, blk [] hsf L sp, 115, true⟩] ++ H1) from hS) hT true rfl ?_; clear hS; intro w hS; simp only [List.cons_append, List.nil_append] at hS; unfold Ret) | (refine wpList_is (.load _ _) rfl ?_; go_must ((refine wpList_stp (by kernel_rfl) (stp_val (run_ld _ _ rfl hS) ?_)))))
      exact hR _ hT (by simp only [List.cons_append, List.nil_append]; exact hS.pick)

set_option maxHeartbeats 1000000 in
set_option maxRecDepth 100000 in
theorem rh_all {p : Option Addr} {T : Hp} (hO : St w0 bs w H) (hT : RH p T E) [hc : Cut H E H1] (l : List (Int × Int)) (hl : alH T = l)
    (hR : ∀ v E' w', RS v l E' → St w0 bs w' (E' ++ (E ++ H1)) → Ret R v w') : Calls Tryz.prog 48 #[.pointer p] w R := by
  have hS := hO.front (E := E) (H1 := H1)
  clear hO hc
  subst hl
  rcases T with _ | _ | L
  · go_enter Tryz.func48, Tryz.ntmps48
    go_wp2_with ((go_skip))
    obtain ⟨wo, rfl⟩ : ∃ wo : World, wo = w := ⟨_, rfl⟩
    go_loopw [4, 3] (fun u c wr => u = .int .i64 0 ∧ c = .slice none 0 0 ∧ St w0 bs wr (E ++ H1)) (fun _ _ _ => 0)
    case atStart => exact ⟨rfl, rfl, hS⟩
    case round =>
      clear hS
      obtain ⟨rfl, rfl, hS⟩ := hrel
      go_wp2_with ((go_at_call 92; refine rh_valid hS hT false rfl ?_; clear hS; intro w hS; (try simp only [List.cons_append, List.nil_append] at hS); unfold Ret))
      exact hR _ [] _ RS.nil hS.pick
  · exact hT.elim
  obtain ⟨hW, b, bl, cap, sp, rfl, rfl⟩ := id hT
  simp only [List.cons_append, List.nil_append] at hS
  have hhi := hW.hi
  go_enter Tryz.func48, Tryz.ntmps48
  go_wp2_with ((go_skip))
  obtain ⟨wo, rfl⟩ : ∃ wo : World, wo = w := ⟨_, rfl⟩
  go_loopw [4, 3] (fun u c wr => ∃ (k : Nat) (v : Value) (E2 : List Ent), k ≤ L.length ∧ u = .int .i64 k ∧ v = c ∧ RS v (stL 1 (tbH L) k) E2 ∧ St w0 bs wr (⟨b, #[.bool true, .slice (some ⟨bl, 0, none⟩) L.length cap], 113, true⟩ :: ⟨bl, blk [] hsf L sp, 115, true⟩ :: (E2 ++ H1))) (fun u _ _ => L.length - (intOf u).toNat)
  case atStart => exact ⟨0, _, [], Nat.zero_le _, rfl, rfl, RS.nil, hS⟩
  case round =>
    clear hS
    obtain ⟨k, v, E2, hk, rfl, rfl, hA, hS⟩ := hrel
    have hle : (stL 1 (tbH L) k).length ≤ k := by rw [stL_len]; exact stCnt_le 1 (tbH L) k
    have hone := hA.one
    by_cases hlt : k < L.length
    · obtain ⟨⟨st, gn, ob⟩, hx⟩ : ∃ x, L.getD k zHs = x := ⟨_, rfl⟩
      obtain ⟨a1, a2, a3, a4, a5, a6⟩ := rh_at hW hlt hx bl cap sp
      have a1 := a1 k rfl
      have h3 := st3 hW hlt
      have hst := isStH2 (L := L) (st := 1) (i := k)
      have hrf := refOfH (L := L) (i := k)
      rw [hx] at h3 hst hrf
      simp only at a2 a3 a4 a5 h3 hst hrf
      clear a5 a6 hx
      by_cases h1 : st = 1
      · subst h1
        have hn := stL_yes (k := k) (st := 1) (L := tbH L) hst
        rw [hrf] at hn
        have hn' := Lib.hid hn
        obtain ⟨l0, hl0⟩ : ∃ l0, stL 1 (tbH L) k = l0 := ⟨_, rfl⟩
        rw [hl0] at hA hn' hle
        have hsl : Sl 25 2 v l0.length (l0.flatMap slf) E2 := hA
        clear hst hrf hn hl0 h3
        go_wp2_with (first | (go_at_call 92; refine rh_valid (show St w0 bs _ ([⟨b, #[.bool true, .slice (some ⟨bl, 0, none⟩) L.length cap], 113, true⟩, ⟨bl, blk [] hsf L sp, 115, true⟩] ++ (E2 ++ H1)) from hS) hT true rfl ?_; clear hS; intro w hS; simp only [List.cons_append, List.nil_append] at hS; unfold Ret) | (refine wpList_is (.buildSlice _ _ _) rfl ?_; go_must (refine wpList_stp (by kernel_rfl) (stp_bsl _ _ _ rfl hS (by decide) rfl (by decide) (by decide) ?_)); clear hS; intro bN w hbN hS) | (refine wpList_is (.call { callee := .builtin .append, args := #[_, _], argTypes := #[_, _] }) rfl ?_; go_must (refine wpList_stp (by kernel_rfl) (stp_ap _ _ _ _ rfl rfl hS (by rfl) hsl (by rfl) (by simp only [maxLen]; omega) (by omega) ?_)); clear hS; intro v' E' w hsl' hne hS; have hone := hsl'.one) | (refine wpList_is (.indexAddr _ _ _) rfl ?_; refine wpList_stp (by kernel_rfl) (stp_val (run_idxv _ _ _ rfl) ?_)) | (refine wpList_is (.build _ _) rfl ?_; go_must (refine wpList_stp (by kernel_rfl) (stp_val (run_bd _ _ rfl) ?_))) | (refine wpList_is (.load _ _) rfl ?_; go_must ((refine wpList_stp (by kernel_rfl) (stp_val (run_ld _ _ rfl hS) ?_)))))
        go_roundw
        case rel => exact ⟨k + 1, v', E', by omega, by go_num, rfl, by rw [hn'.out]; exact RS.snoc hsl', hS.pick⟩
        case measure => simp [intOf]; omega
      · have d3 : (st == 1) = false := beq_eq_false_iff_ne.2 h1
        rw [d3] at a2 hst
        have hn' := Lib.hid (stL_no (k := k) (st := 1) (L := tbH L) hst)
        clear hst hrf h3 d3 a3 a4
        go_wp2_with (first | (go_at_call 92; refine rh_valid (show St w0 bs _ ([⟨b, #[.bool true, .slice (some ⟨bl, 0, none⟩) L.length cap], 113, true⟩, ⟨bl, blk [] hsf L sp, 115, true⟩] ++ (E2 ++ H1)) from hS) hT true rfl ?_; clear hS; intro w hS; simp only [List.cons_append, List.nil_append] at hS; unfold Ret) | (refine wpList_is (.indexAddr _ _ _) rfl ?_; refine wpList_stp (by kernel_rfl) (stp_val (run_idxv _ _ _ rfl) ?_)) | (refine wpList_is (.load _ _) rfl ?_; go_must ((refine wpList_stp (by kernel_rfl) (stp_val (run_ld _ _ rfl hS) ?_)))))
        go_roundw
        case rel => exact ⟨k + 1, v, E2, by omega, by go_num, rfl, by rw [hn'.out]; exact hA, hS.pick⟩
        case measure => simp [intOf]; omega
    · obtain rfl : k = L.length := by omega
      have hal : alH (some (some L)) = stL 1 (tbH L) L.length := by show stL 1 (tbH L) (tbH L).length = _; rw [tbH_len]
      rw [hal] at hR
      clear hk hlt hal
      go_wp2_with (first | (go_at_call 92; refine rh_valid (show St w0 bs _ ([⟨b, #[.bool true, .slice (some ⟨bl, 0, none⟩) L.length cap], 113, true⟩, ⟨bl, blk [] hsf L sp, 115, true⟩] ++ (E2 ++ H1)) from hS) hT true rfl ?_; clear hS; intro w hS; simp only [List.cons_append, List.nil_append] at hS; unfold Ret) | (refine wpList_is (.load _ _) rfl ?_; go_must ((refine wpList_stp (by kernel_rfl) (stp_val (run_ld _ _ rfl hS) ?_)))))
      exact hR _ _ _ hA (by simp only [List.cons_append, List.nil_append]; exact hS.pick)

set_option maxHeartbeats 2000000 in
set_option maxRecDepth 100000 in
theorem rh_same {v v' : Value} {l : List (Int × Int)} {E' : List Ent} (hO : St w0 bs w H) (hA : RS v l E) (hB : RS v' l E') (h256 : l.length ≤ 256) [hc : Cut H E H1] [hc' : Cut H1 E' H']
    (hR : ∀ w', St w0 bs w' (E ++ (E' ++ H')) → Ret R (.bool true) w') : Calls Tryz.prog 42 #[v, v'] w R := by
  have hS0 := hO.front (E := E) (H1 := H1)
  obtain ⟨A, B, rfl, rfl⟩ := hc'.h
  have hS : St w0 bs w (E ++ (E' ++ (A ++ B))) := hS0.perm (List.Perm.append_left E (by
    rw [← List.append_assoc, ← List.append_assoc]
    exact List.perm_append_comm.append_right B))
  clear hO hS0
  have hl1 := hA.len rfl
  have hl2 := hB.len rfl
  go_enter Tryz.func42, Tryz.ntmps42
  go_wp2_with ((refine wpList_is (.call { callee := .builtin .len, args := #[_], argTypes := #[_] }) rfl ?_; refine wpList_stp (by kernel_rfl) (stp_val (run_lenv _ _ rfl) ?_)))
  go_loopw [5] (fun u wr => ∃ k : Nat, k ≤ l.length ∧ u = .int .i64 k ∧ St w0 bs wr (E ++ (E' ++ (A ++ B)))) (fun u _ => l.length - (intOf u).toNat)
  case atStart => exact ⟨0, Nat.zero_le _, rfl, hS⟩
  case round =>
    clear hS
    obtain ⟨k, hk, rfl, hS⟩ := hrel
    by_cases hlk : k < l.length
    · obtain ⟨⟨ys, yg⟩, hy⟩ : ∃ y, l.getD k (0, 0) = y := ⟨_, rfl⟩
      obtain ⟨gy, spy, iy, hhy, hcy⟩ := hA.at hlk hy
      obtain ⟨gz, spz, iz, hhz, hcz⟩ := hB.at hlk hy
      have iy := iy k rfl
      have iz := iz k rfl
      simp only at hcy hcz
      have q5 := refE (show refB ys yg ys yg = true by simp [refB])
      clear hy
      go_wp2_with (first | (refine wpList_is (.call { callee := .builtin .len, args := #[_], argTypes := #[_] }) rfl ?_; refine wpList_stp (by kernel_rfl) (stp_val (run_lenv _ _ rfl) ?_)) | (refine region_quiet hS (by kernel_rfl) (by kernel_rfl) (fun hne => ?_); (repeat ((go_big_quiet_want; first | (refine quiet_is (.load _ _) rfl ?_; go_must ((refine quiet_at sw_st (fun w hS => run_lda _ _ rfl hS) ?_)); go_big_quiet_on) | (refine quiet_is (.indexAddr _ _ _) rfl ?_; refine quiet_val (fun w _ => run_idxv _ _ _ rfl) ?_; go_big_quiet_on) | (refine quiet_is (.binOp .neq _ _ _ _) rfl ?_; refine quiet_val (fun w _ => run_ane _ _ _ _ rfl) ?_; go_big_quiet_on) | (go_big_quiet_op; go_big_quiet_on)))); refine wpQuiet_nil ?_; clear hS hne; intro w hS))
      go_roundw
      case rel => exact ⟨k + 1, by omega, by go_num, hS⟩
      case measure => simp [intOf]; omega
    · obtain rfl : k = l.length := by omega
      go_wp2_with ((refine wpList_is (.call { callee := .builtin .len, args := #[_], argTypes := #[_] }) rfl ?_; refine wpList_stp (by kernel_rfl) (stp_val (run_lenv _ _ rfl) ?_)))
      exact hR _ hS
end Go.Proofs.YtjlihigodggfcaaGreat
