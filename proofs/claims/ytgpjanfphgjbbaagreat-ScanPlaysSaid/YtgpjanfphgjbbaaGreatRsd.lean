/-
  Scanning, as the document says: Children, Scan, Sound.
-/
import Derived.Test.YtgpjanfphgjbbaaGreatRsc
import Derived.Test.YtgpjanfphgjbbaaGreatRgn
set_option linter.unusedSimpArgs false
set_option linter.unusedVariables false
namespace Go.Proofs.YtgpjanfphgjbbaaGreat
open Go Go.RowKit Go.Mm
variable {R : Ending → World → Prop} {w : World} {w0 : World} {bs : List Nat} {H H' H1 H2 H3 E E0 E1 E2 : List Ent}
theorem RH.hpw {p : Option Addr} {T : Hp} (hT : RH p T E) : ∀ L, T = some (some L) → HpW L := fun L h => by subst h; exact hT.1
theorem RH.obw {p : Option Addr} {T : Hp} (hT : RH p T E) (s g : Int) : ObW (obR T s g) := by
  unfold obR
  split
  · next h =>
    obtain ⟨L, j, rfl, rfl, hj, _, _, _, ho⟩ := wi_zero h
    rw [ho]
    exact hT.1.at hj
  · exact ⟨rfl, rfl, fun x hx => by simp [zOb, zero4] at hx; subst hx; decide⟩
theorem ob_n {o : Ob} (h : ObW o) : ∃ n : Nat, o.1 = n ∧ n ≤ 4 := by
  have := (ok_iff.1 h.ok).1
  unfold nwB at this
  simp only [Bool.and_eq_true, decide_eq_true_eq] at this
  exact ⟨o.1.toNat, by omega, by omega⟩
set_option maxHeartbeats 2000000 in
set_option maxRecDepth 100000 in
theorem rc_children {p : Option Addr} {T : Hp} (hO : St w0 bs w H) (hT : RH p T E) [hc : Cut H E H1] (s g : Int) (l : List Int) (e : Int) (hl : chdR T s g = l) (he : wiH T s g = e)
    (hR : ∀ v E' w', IS v l E' → RH p T E → St w0 bs w' (E' ++ (E ++ H1)) → Ret R (.tuple #[v, .int .i64 e]) w') : Calls Tryz.prog 64 #[.pointer p, .agg #[.int .i64 s, .int .u32 g]] w R := by
  have hS := hO.front (E := E) (H1 := H1)
  clear hO
  cases k1 : hpOk T with
  | false =>
    have he1 : e = 1 := by
      rw [← he]
      rcases T with _ | _ | L
      · rfl
      · rfl
      · cases k1
    subst he1
    have hl0 : l = [] := by rw [← hl, chdR, if_neg (by rw [he]; decide)]
    subst hl0
    go_enter Tryz.func64, Tryz.ntmps64
    go_wp2_with (first | (refine wpList_is (.box 47 _) rfl ?_; go_must (refine wpList_stp (by kernel_rfl) (stp_bx _ _ rfl hS ?_)); clear hS; intro br w _ hS) | (go_at_call 63; refine rc_heap hS hT _ k1 ?_; clear hS; intro w hT hS; unfold Ret))
    exact hR _ _ _ IS.nil hT hS.pick
  | true =>
    have hW := hT.obw s g
    obtain ⟨o, ho⟩ : ∃ o, obR T s g = o := ⟨_, rfl⟩
    rw [ho] at hW
    by_cases h0 : e = 0
    case neg =>
      have ho0 : o = zOb := by rw [← ho, obR, if_neg (by rw [he]; exact h0)]
      subst ho0
      have hl0 : l = [] := by rw [← hl, chdR, if_neg (by rw [he]; exact h0)]
      subst hl0
      have d : decide (e = 0) = false := decide_eq_false h0
      have q : (e != 0) = true := by simpa using h0
      have hov : SetsAt (objC 0 zero4 false) 0 (obC zOb) (obC zOb) := objOver rfl rfl
      have hsz : SizeIs (obC zOb) 10 := objSize rfl
      have hon : OneCells (obC zOb) := objOnes
      go_enter Tryz.func64, Tryz.ntmps64
      go_wp2_with (first | (refine wpList_is (.box 47 _) rfl ?_; go_must (refine wpList_stp (by kernel_rfl) (stp_bx _ _ rfl hS ?_)); clear hS; intro br w _ hS) | (go_at_call 63; refine rc_heap hS hT _ k1 ?_; clear hS; intro w hT hS; unfold Ret) | (go_at_call 45; refine rh_object hS hT s g _ _ ho he ?_; clear hS; intro w hT hS; unfold Ret) | (refine wpList_is (.load _ _) rfl ?_; go_must ((refine wpList_stp (by kernel_rfl) (stp_val (run_lda _ _ rfl hS) ?_)))) | (refine wpList_is (.store _ _ _) rfl ?_; go_must ((refine wpList_stp (by kernel_rfl) (stp_sta _ _ _ rfl hS ?_))); clear hS; intro w hS) | (refine wpList_is (.alloc _) rfl ?_; go_must (refine wpList_stp (by kernel_rfl) (stp_al _ rfl hS ?_)); clear hS; intro bN w hbN hS))
      exact hR _ _ _ IS.nil hT hS.pick
    subst h0
    obtain ⟨n, hn, hn4⟩ := ob_n hW
    have hoa : obAt T s = o := by rw [← ho, obR, if_pos he]
    obtain ⟨n', F, hd⟩ := o
    simp only at hn
    subst hn
    have hF4 : F.length = 4 := hW.len
    have hl2 : chD T F n = l := by rw [chD_eq hT.hpw hW hn4, ← hl, chdR, if_pos he, hoa]
    have hobA := objAll (n := (n : Int)) (h := hd) hF4
    have hov : SetsAt (objC 0 zero4 false) 0 (obC ((n : Int), F, hd)) (objC n F hd) := objOver rfl hF4
    have hsz : SizeIs (obC ((n : Int), F, hd)) 10 := objSize hF4
    have hon : OneCells (obC ((n : Int), F, hd)) := objOnes
    have hl2' := Lib.hid hl2
    have hF4' := Lib.hid hF4
    clear hoa hl hl2 hW
    go_enter Tryz.func64, Tryz.ntmps64
    go_wp2_with (first | (refine wpList_is (.box 47 _) rfl ?_; go_must (refine wpList_stp (by kernel_rfl) (stp_bx _ _ rfl hS ?_)); clear hS; intro br w _ hS) | (refine wpList_is (.alloc 95) rfl ?_; go_must (refine wpList_stp (by kernel_rfl) (stp_al _ rfl hS ?_)); clear hS; intro bo w _ hS) | (go_at_call 63; refine rc_heap hS hT _ k1 ?_; clear hS; intro w hT hS; unfold Ret) | (go_at_call 45; refine rh_object hS hT s g _ _ ho he ?_; clear hS; intro w hT hS; unfold Ret) | (refine wpList_is (.load _ _) rfl ?_; go_must ((refine wpList_stp (by kernel_rfl) (stp_val (run_lda _ _ rfl hS) ?_)))) | (refine wpList_is (.store _ _ _) rfl ?_; go_must ((refine wpList_stp (by kernel_rfl) (stp_sta _ _ _ rfl hS ?_))); clear hS; intro w hS))
    have hS0 : St w0 bs w (⟨bo, objC n F hd, 95, true⟩ :: (E ++ H1)) := hS.pick
    have hT0 := hT
    clear hS
    go_loopw [8, 9] (fun x u wr => ∃ (k : Nat) (Eo : List Ent), k ≤ n ∧ u = .int .i64 k ∧ IS x (chD T F k) Eo ∧ St w0 bs wr (Eo ++ (⟨bo, objC n F hd, 95, true⟩ :: (E ++ H1)))) (fun _ u _ => n - (intOf u).toNat)
    case atStart => exact ⟨0, [], Nat.zero_le _, rfl, IS.nil, hS0⟩
    case round =>
      clear hS0
      obtain ⟨k, Eo, hk, rfl, hI, hS⟩ := hrel
      have hone0 := hI.one
      by_cases hlt : k < n
      · obtain ⟨⟨fs, fg⟩, hx⟩ : ∃ x, F.getD k (0, 0) = x := ⟨_, rfl⟩
        have hx2 : F[k]? = some (fs, fg) := by
          rw [← hx, List.getD_eq_getElem?_getD, List.getElem?_eq_getElem (by rw [hF4'.out]; omega)]; rfl
        have c1 := objFd (n := (n : Int)) (h := hd) hx2
        have c2 : CellAt (objC n F hd) (1 + k * 2) (.int .i64 fs) := ⟨by have := c1.h 0 (by decide); simpa using this⟩
        have hix : ∀ b : Nat, IdxV Tryz.prog 78 (.pointer (some ⟨b, 0 + 1, none⟩)) k ⟨b, 1 + k * 2, none⟩ := fun b => by
          have := idxArr (P := Tryz.prog) (t := 78) (m := 4) (z := 2) (e := 47) (b := b) (off := 0 + 1) (by kernel_rfl) (by kernel_rfl) (show k < 4 by omega)
          simpa using this
        have hkI : (k : Int) < (n : Int) := by omega
        have hlc : (chD T F k).length ≤ 4 := by rw [chD, List.length_map]; have := gl_len (fun i => hqR T (F.getD i (0, 0))) k; omega
        have hsl : Sl 3 1 u8 (chD T F k).length ((chD T F k).flatMap i1f) Eo := hI
        cases hz : hasH T fs fg with
        | true =>
          have hnx : chD T F (k + 1) = chD T F k ++ [fs] := by
            have hq : (fun i => hqR T (F.getD i (0, 0))) k = true := by simp only [hx]; exact hz
            rw [chD, gl_yes hq, List.map_append]
            simp only [List.map_cons, List.map_nil, hx]; rfl
          have hnx' := Lib.hid hnx
          clear hnx hx hx2
          go_wp2_with (first | (go_at_call 102; refine rh_has hS hT fs fg true hz ?_; clear hS; intro w hT hS; unfold Ret) | (refine wpList_is (.buildSlice _ _ _) rfl ?_; go_must (refine wpList_stp (by kernel_rfl) (stp_bsl _ _ _ rfl hS (by decide) rfl (by decide) (by decide) ?_)); clear hS; intro bN w hbN hS) | (refine wpList_is (.call { callee := .builtin .append, args := #[_, _], argTypes := #[_, _] }) rfl ?_; go_must (refine wpList_stp (by kernel_rfl) (stp_ap _ _ _ _ rfl rfl hS (by rfl) hsl (by rfl) (by simp only [maxLen]; omega) (by omega) ?_)); clear hS; intro v' E' w hsl' hne hS; have hone := hsl'.one) | (refine wpList_is (.indexAddr _ _ _) rfl ?_; refine wpList_stp (by kernel_rfl) (stp_val (run_idxv _ _ _ rfl) ?_)) | (refine wpList_is (.load _ _) rfl ?_; go_must (first | refine wpList_stp (by kernel_rfl) (stp_val (run_ld _ _ rfl hS) ?_) | refine wpList_stp (by kernel_rfl) (stp_val (run_lda _ _ rfl hS) ?_))))
          go_roundw
          case rel => exact ⟨k + 1, E', by omega, by go_num, by rw [hnx'.out]; exact IS.snoc hsl', hS.pick⟩
          case measure => simp [intOf]; omega
        | false =>
          have hnx : chD T F (k + 1) = chD T F k := by
            have hq : (fun i => hqR T (F.getD i (0, 0))) k = false := by simp only [hx]; exact hz
            rw [chD, gl_no hq]; rfl
          have hnx' := Lib.hid hnx
          clear hnx hx hx2
          go_wp2_with (first | (go_at_call 102; refine rh_has hS hT fs fg false hz ?_; clear hS; intro w hT hS; unfold Ret) | (refine wpList_is (.indexAddr _ _ _) rfl ?_; refine wpList_stp (by kernel_rfl) (stp_val (run_idxv _ _ _ rfl) ?_)) | (refine wpList_is (.load _ _) rfl ?_; go_must (first | refine wpList_stp (by kernel_rfl) (stp_val (run_ld _ _ rfl hS) ?_) | refine wpList_stp (by kernel_rfl) (stp_val (run_lda _ _ rfl hS) ?_))))
          go_roundw
          case rel => exact ⟨k + 1, Eo, by omega, by go_num, by rw [hnx'.out]; exact hI, hS.pick⟩
          case measure => simp [intOf]; omega
      · obtain rfl : k = n := by omega
        rw [hl2'.out] at hI
        go_wp2_with ((refine wpList_is (.load _ _) rfl ?_; go_must ((refine wpList_stp (by kernel_rfl) (stp_val (run_ld _ _ rfl hS) ?_)))))
        exact hR _ _ _ hI hT0 hS.pick

/-! ### Scan -/
theorem ofE_ge (T : Cq) (s : Int) : 0 ≤ ofE T s := by
  rcases T with _ | _ | ⟨n, L⟩
  · show (0 : Int) ≤ 1; decide
  · show (0 : Int) ≤ 1; decide
  · simp only [ofE]; split <;> decide
theorem set_get (L : List Int) (i j : Nat) (c : Int) (h : L.getD j 0 ≠ 0) (h0 : L.getD i 0 = 0) : (L.set i c).getD j 0 = L.getD j 0 := by
  rw [List.getD_eq_getElem?_getD, List.getD_eq_getElem?_getD, List.getElem?_set]
  by_cases e : i = j
  · subst e; exact absurd h0 h
  · rw [if_neg e]
theorem sh_grey {T : Cq} {x s : Int} (h1 : ofE T s = 0) (h2 : ofR T s = 1) : ofE (shC T x) s = 0 ∧ ofR (shC T x) s = 1 := by
  rcases T with _ | _ | ⟨n, L⟩
  · cases h1
  · cases h1
  simp only [ofE] at h1
  split at h1
  · rename_i hs
    simp only [ofR, if_pos hs] at h2
    simp only [shC]
    split
    · refine ⟨by simp only [ofE, if_pos hs], ?_⟩
      simp only [ofR, if_pos hs, Col.shadeL]
      split
      · rename_i h0
        rw [set_get _ _ _ _ (by rw [h2]; decide) h0, h2]
      · exact h2
    · exact ⟨by simp only [ofE, if_pos hs], by simp only [ofR, if_pos hs]; exact h2⟩
  · cases h1
theorem sk_grey {T : Cq} {S : Sq} {x s : Int} (h1 : ofE T s = 0) (h2 : ofR T s = 1) : ofE (skT T S x) s = 0 ∧ ofR (skT T S x) s = 1 := by
  unfold skT
  split
  · exact sh_grey h1 h2
  · exact ⟨h1, h2⟩
theorem fold_grey {s : Int} : ∀ (l : List Int) (x : Cq × Sq × Nat), ofE x.1 s = 0 → ofR x.1 s = 1 → ofE (l.foldl shF x).1 s = 0 ∧ ofR (l.foldl shF x).1 s = 1
  | [], x, h1, h2 => ⟨h1, h2⟩
  | a :: l, x, h1, h2 => fold_grey l (shF x a) (sk_grey h1 h2).1 (sk_grey h1 h2).2
theorem bk_grey {T : Cq} {s : Int} (h1 : ofE T s = 0) (h2 : ofR T s = 1) : bkE T s = 0 := by
  rcases T with _ | _ | ⟨n, L⟩
  · cases h1
  · cases h1
  simp only [ofE] at h1
  split at h1
  · rename_i hs
    simp only [ofR, if_pos hs] at h2
    simp only [bkE, if_pos hs, Col.blackE, if_pos h2]
  · cases h1
end Go.Proofs.YtgpjanfphgjbbaaGreat
