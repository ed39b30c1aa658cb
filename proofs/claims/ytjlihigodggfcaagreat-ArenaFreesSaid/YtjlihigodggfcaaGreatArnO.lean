
/-
  Arenas: the calls in all cases.
-/
import Derived.Test.YtjlihigodggfcaaGreatArnL
set_option linter.unusedSimpArgs false
set_option linter.unusedVariables false
namespace Go.Proofs.YtjlihigodggfcaaGreat
open Go Go.RowKit Go.Mm
variable {R : Ending → World → Prop} {w : World} {w0 : World} {bs : List Nat} {H H' H1 E : List Ent}

section
variable {b bo fl ff m : Nat} {capl capf : List Value} {z el : Int} {k : Nat} {ps : List (Option Addr)} {pg : Option Addr} {sk : Sk} {Hl : List Ent}
set_option maxHeartbeats 2000000 in
set_option maxRecDepth 100000 in
/-- What is found is refused. -/
theorem gi_ferr (hO : St w0 bs w H) [hH : Has H b (arC (some ⟨bo, 0, none⟩) z k ps pg) 69] (hk : k ≤ 4) (hps : ps.length = 4) (hm : m < k) (hp : ps.getD m none = some ⟨sk.1, 0, none⟩) (hW : SkW sk) (hlt : sk.2.1.length < 32)
    [hL : Has Hl sk.1 (rkB sk.2.1.length (sk.2.1 ++ sk.2.2)) 110] (henl : ∀ args w, (callFunc fl args).run Tryz.prog w = .ok (.enter fl args) w) (henf : ∀ args w, (callFunc ff args).run Tryz.prog w = .ok (.enter ff args) w)
    (x : Int) (hx : x ≠ 0) (Φ : List Ent → Prop)
    (hlook : ∀ X w', St w0 bs w' (H ++ X) → Calls Tryz.prog fl capl.toArray w' (fun e w'' => e = .returned (.int .i64 0) ∧ St w0 bs w'' (Hl ++ X)))
    (hfind : ∀ X w', St w0 bs w' (Hl ++ X) → Calls Tryz.prog ff capf.toArray w' (fun e w'' => ∃ Y, e = .returned (.tuple #[.agg #[.int .i64 0, .int .u32 0], .int .i64 x]) ∧ Φ Y ∧ St w0 bs w'' (Y ++ X)))
    (hR : ∀ Y w', Φ Y → St w0 bs w' Y → Ret R (.tuple #[.agg #[.int .i64 0, .int .u32 0], .int .i64 x]) w') :
    Calls Tryz.prog 57 #[.pointer (some ⟨b, 0, none⟩), .int .i64 (m : Int), .func (.func fl) #[] capl.toArray, .func (.func ff) #[] capf.toArray] w R := by
  have hS := hO
  clear hO
  have hq' := Lib.hid (show (if (0 : Int) ≤ (m : Int) ∧ (m : Int) < k then ps.getD (m : Int).toNat none else none) = some ⟨sk.1, 0, none⟩ by rw [if_pos (by omega), Int.toNat_natCast]; exact hp)
  have he' := Lib.hid (show (if (0 : Int) ≤ (m : Int) ∧ (m : Int) < k then (0 : Int) else 3) = 0 by rw [if_pos (by omega)])
  obtain ⟨n, hn⟩ : ∃ n, sk.2.1.length = n := ⟨_, rfl⟩
  have hlt' : n < 32 := by omega
  have d1 : decide (32 ≤ n) = false := decide_eq_false (by omega)
  have d1' : decide (32 ≤ (n : Int)) = false := decide_eq_false (by omega)
  have qx : (x == 0) = false := beq_eq_false_iff_ne.2 hx
  have qx2 : decide (x = 0) = false := decide_eq_false hx
  have qx3 : (x != 0) = true := by simpa using hx
  rw [hn] at hL
  clear hm hp hW hlt hn hx
  go_enter Tryz.func57, Tryz.ntmps57
  go_wp2_with (first | (refine wpList_is (o := ⟨some 8, _, _, _, _, _⟩) (.alloc _) rfl ?_; go_must (refine wpList_stp (by kernel_rfl) (stp_al _ rfl hS ?_)); clear hS; intro b8 w _ hS) | (refine wpList_is (.alloc 25) rfl ?_; go_must (refine wpList_stp (by kernel_rfl) (stp_al _ rfl hS ?_)); clear hS; intro b13 w _ hS) | (go_at_call 71; refine ar_stk hS hk hps m (some ⟨sk.1, 0, none⟩) 0 hq'.out he'.out ?_; clear hS; intro w hS; unfold Ret) | (refine wpList_is (.call { callee := .value (.tmp 24), args := #[], argTypes := #[] }) rfl ?_; refine wpList_clo _ _ (by kernel_rfl) rfl henl ?_; refine (hlook _ _ (show St w0 bs _ (H ++ [⟨b8, #[.int .i64 0, .int .u32 0], 25, true⟩]) from hS.pick)).mono ?_; clear hS; rintro e w ⟨rfl, hS⟩; refine ⟨_, rfl, ?_⟩) | (go_at_call 98; refine rk_len hS (n := n) (by omega) ?_; clear hS; intro w hS; unfold Ret) | (refine wpList_is (.call { callee := .value (.tmp 35), args := #[], argTypes := #[] }) rfl ?_; refine wpList_clo _ _ (by kernel_rfl) rfl henf ?_; refine (hfind _ _ hS).mono ?_; clear hS; rintro e2 w ⟨Y, rfl, hY, hS⟩; refine ⟨_, rfl, ?_⟩) | (refine wpList_is (.build _ _) rfl ?_; go_must (refine wpList_stp (by kernel_rfl) (stp_val (run_bd _ _ rfl) ?_))) | (refine wpList_is (.store _ _ _) rfl ?_; go_must ((refine wpList_stp (by kernel_rfl) (stp_sta _ _ _ rfl hS ?_))); clear hS; intro w hS))
  refine bodyPost_ret (res_ct rfl hS) rfl ?_
  exact hR Y _ hY hS.pick
end

/-! Make -/
def mkAE (T : Ar) (m n : Int) (h : Bool) : Int := if inM T m then (if nwOE n h ≠ 0 then nwOE n h else if 32 ≤ (rtL T m).length then 4 else mkE (some (some T.1)) n h) else 3
def mkAR (T : Ar) (m n : Int) (h : Bool) : Rf := if mkAE T m n h = 0 then mkR (some (some T.1)) n h else (0, 0)
def mkAT (T : Ar) (m n : Int) (h : Bool) : Ar := if mkAE T m n h = 0 then mkAr T m n h else T
theorem rtL_le {p : Option Addr} {T : Ar} (hT : AA p T E) (m : Int) : (rtL T m).length ≤ 32 := by
  obtain ⟨b, bo, ph, Eh, pg, Eg, sts, _, _, _, hks, hW, _⟩ := hT
  unfold rtL
  rw [← hks, List.getD_eq_getElem?_getD, List.getElem?_map]
  cases h : sts[m.toNat]? with
  | none => simp
  | some sk =>
    have := (hW sk (List.mem_of_getElem? h)).len
    simp; omega
set_option maxHeartbeats 2000000 in
set_option maxRecDepth 100000 in
theorem ar_make_mu {p : Option Addr} {T : Ar} (hO : St w0 bs w H) (hT : AA p T E) [hc : Cut H E H1] (m n : Int) (h : Bool) (hm : inM T m = false)
    (hR : ∀ w', AA p T E → St w0 bs w' (E ++ H1) → Ret R (.tuple #[.agg #[.int .i64 0, .int .u32 0], .int .i64 3]) w') : Calls Tryz.prog 16 #[.pointer p, .int .i64 m, .int .i64 n, .bool h] w R := by
  have hS := hO.front (E := E) (H1 := H1)
  clear hO
  obtain ⟨L, ks, G⟩ := T
  obtain ⟨b, bo, ph, Eh, pg, Eg, sts, rfl, hH, hG, hks, hW, hGw, h1, h4, rfl⟩ := id hT
  simp only [List.cons_append, List.append_assoc] at hS
  have hlp := spL_len h4
  have hno := inM_no hm hks
  have hno' := Lib.hid hno
  clear hm hks hW hGw hno
  go_enter Tryz.func16, Tryz.ntmps16
  go_wp2_with (first | (refine wpList_is (.box 27 _) rfl ?_; go_must (refine wpList_stp (by kernel_rfl) (stp_bx _ _ rfl hS ?_)); clear hS; intro b4 w _ hS) | (refine wpList_is (.box 3 _) rfl ?_; go_must (refine wpList_stp (by kernel_rfl) (stp_bx _ _ rfl hS ?_)); clear hS; intro b6 w _ hS) | (refine wpList_is (.box 4 _) rfl ?_; go_must (refine wpList_stp (by kernel_rfl) (stp_bx _ _ rfl hS ?_)); clear hS; intro b7 w _ hS) | (refine wpList_is (.alloc 25) rfl ?_; go_must (refine wpList_stp (by kernel_rfl) (stp_al _ rfl hS ?_)); clear hS; intro b8 w _ hS) | (refine wpList_is (.load _ _) rfl ?_; go_must ((refine wpList_stp (by kernel_rfl) (stp_val (run_ld _ _ rfl hS) ?_)))))
  refine gi_mu hS h4 hlp m hno'.out ?_
  clear hS
  intro w hS
  unfold Ret
  go_wp2_with ((refine wpList_is (.store _ _ _) rfl ?_; go_must ((refine wpList_stp (by kernel_rfl) (stp_sta _ _ _ rfl hS ?_))); clear hS; intro w hS))
  refine bodyPost_ret (res_ct rfl hS) rfl ?_
  exact hR _ hT (by simp only [List.cons_append, List.append_assoc]; exact hS.pick)
set_option maxHeartbeats 2000000 in
set_option maxRecDepth 100000 in
/-- The heap has no room. -/
theorem ar_make_full {p : Option Addr} {T : Ar} (hO : St w0 bs w H) (hT : AA p T E) [hc : Cut H E H1] (m n : Int) (h : Bool) (hm : inM T m = true) (hn : nwOE n h = 0) (hlt : (rtL T m).length < 32) (x : Int) (he : mkE (some (some T.1)) n h = x) (hx : x ≠ 0)
    (hR : ∀ E' w', AA p T E' → St w0 bs w' (E' ++ H1) → Ret R (.tuple #[.agg #[.int .i64 0, .int .u32 0], .int .i64 x]) w') : Calls Tryz.prog 16 #[.pointer p, .int .i64 m, .int .i64 n, .bool h] w R := by
  have hS := hO.front (E := E) (H1 := H1)
  clear hO
  obtain ⟨L, ks, G⟩ := T
  obtain ⟨b, bo, ph, Eh, pg, Eg, sts, rfl, hH, hG, hks, hW, hGw, h1, h4, rfl⟩ := id hT
  simp only [List.cons_append, List.append_assoc] at hS
  have hlp := spL_len h4
  obtain ⟨j, sk, rfl, hj, hsk, hrt⟩ := inM_yes hm hks
  have hWs := hW sk (List.mem_of_getElem? hsk)
  have hlen := hWs.len
  have hp := spL_at hsk
  have hq' := Lib.hid (show (if (0 : Int) ≤ (j : Int) ∧ (j : Int) < (sts.length : Int) then (spL sts).getD (j : Int).toNat none else none) = some ⟨sk.1, 0, none⟩ by rw [if_pos (by omega), Int.toNat_natCast]; exact hp)
  have he' := Lib.hid (show (if (0 : Int) ≤ (j : Int) ∧ (j : Int) < (sts.length : Int) then (0 : Int) else 3) = 0 by rw [if_pos (by omega)])
  have hspl := sk_split hsk
  have hL32 : (sk.2.1 ++ sk.2.2).length = 32 := by rw [List.length_append]; exact hlen
  have hn32 : sk.2.1.length ≤ 32 := by omega
  rw [hspl] at hS
  simp only [List.cons_append, List.append_assoc] at hS
  have hmk : mkT (some (some L)) n h = some (some L) ∧ mkR (some (some L)) n h = (0, 0) := by
    cases hi : mkI L n h with
    | none => exact ⟨by simp only [mkT, hi], by simp only [mkR, hi]⟩
    | some i =>
      exfalso
      have hb : nwB n h = true := by
        cases hb : nwB n h with
        | true => rfl
        | false => unfold mkI at hi; rw [hb] at hi; cases hi
      have he3 : mkE (some (some L)) n h = 0 := by simp only [mkE, hb, hi]; rfl
      exact hx (he.symm.trans he3)
  have hTn : ∀ Eh' Y, HA ph (some (some L)) Eh' → Y = ⟨b, arC (some ⟨bo, 0, none⟩) L.length sts.length (spL sts) pg, 69, true⟩ :: ⟨bo, #[.pointer ph], 63, true⟩ :: (Eh' ++ (Eg ++ sts.map skE)) → AA (some ⟨b, 0, none⟩) (L, ks, G) Y := by
    rintro Eh' Y hH' rfl
    exact ⟨b, bo, ph, Eh', pg, Eg, sts, rfl, hH', hG, hks, hW, hGw, h1, h4, rfl⟩
  have hTn' := Lib.hid hTn
  have hlt2 : sk.2.1.length < 32 := by rw [hrt]; exact hlt
  have hn' := Lib.hid hn
  have hx' := Lib.hid hx
  have hm2' := Lib.hid hmk.1
  have hr' := Lib.hid hmk.2
  have hme' := Lib.hid he
  have hp' := Lib.hid hp
  have hWs' := Lib.hid hWs
  clear hm hks hW hGw hWs hlen hp hL32 hrt hn hmk he hlt hTn hx
  go_enter Tryz.func16, Tryz.ntmps16
  go_wp2_with (first | (refine wpList_is (.box 27 _) rfl ?_; go_must (refine wpList_stp (by kernel_rfl) (stp_bx _ _ rfl hS ?_)); clear hS; intro b4 w _ hS) | (refine wpList_is (.box 3 _) rfl ?_; go_must (refine wpList_stp (by kernel_rfl) (stp_bx _ _ rfl hS ?_)); clear hS; intro b6 w _ hS) | (refine wpList_is (.box 4 _) rfl ?_; go_must (refine wpList_stp (by kernel_rfl) (stp_bx _ _ rfl hS ?_)); clear hS; intro b7 w _ hS) | (refine wpList_is (.alloc 25) rfl ?_; go_must (refine wpList_stp (by kernel_rfl) (stp_al _ rfl hS ?_)); clear hS; intro b8 w _ hS) | (refine wpList_is (.load _ _) rfl ?_; go_must ((refine wpList_stp (by kernel_rfl) (stp_val (run_ld _ _ rfl hS) ?_)))))
  refine gi_ferr (fl := 58) (ff := 60) (capl := [_, _]) (capf := [_, _, _]) (sk := sk) (Hl := ⟨b8, #[.int .i64 0, .int .u32 0], 25, true⟩ :: ⟨b7, #[.bool h], 4, true⟩ :: ⟨b6, #[.int .i64 n], 3, true⟩ :: ⟨b4, #[.pointer (some ⟨b, 0, none⟩)], 27, true⟩ :: ⟨b, arC (some ⟨bo, 0, none⟩) L.length sts.length (spL sts) pg, 69, true⟩ :: ⟨bo, #[.pointer ph], 63, true⟩ :: (Eh ++ (Eg ++ ((sts.take j).map skE ++ (skE sk :: ((sts.drop (j + 1)).map skE ++ H1)))))) hS h4 hlp hj hp'.out hWs'.out hlt2 (enters _ (by kernel_rfl)) (enters _ (by kernel_rfl)) x hx'.out
    (fun Y => ∃ Eh', HA ph (some (some L)) Eh' ∧ Y = ⟨b8, #[.int .i64 0, .int .u32 0], 25, true⟩ :: ⟨b7, #[.bool h], 4, true⟩ :: ⟨b6, #[.int .i64 n], 3, true⟩ :: ⟨b4, #[.pointer (some ⟨b, 0, none⟩)], 27, true⟩ :: ⟨b, arC (some ⟨bo, 0, none⟩) L.length sts.length (spL sts) pg, 69, true⟩ :: ⟨bo, #[.pointer ph], 63, true⟩ :: (Eh' ++ (Eg ++ ((sts.take j).map skE ++ (skE sk :: ((sts.drop (j + 1)).map skE ++ H1)))))) ?_ ?_ ?_
  · intro X w' hS'
    exact make1 (n := n) (h := h) hS' (fun w'' hS'' => ⟨by rw [hn'.out], hS''⟩)
  · intro X w' hS'
    refine make2 (b := b) (bo := bo) (bs := bs) (w0 := w0) (z := L.length) (k := sts.length) (ps := spL sts) (pg := pg) (Z := ⟨b8, #[.int .i64 0, .int .u32 0], 25, true⟩ :: (Eg ++ ((sts.take j).map skE ++ (skE sk :: ((sts.drop (j + 1)).map skE ++ (H1 ++ X)))))) hH (some (some L)) (0, 0) x hm2'.out hr'.out hme'.out ?_ (fun Eh' w'' hH' hS'' => ⟨_, rfl, ⟨Eh', hH', rfl⟩, ?_⟩)
    · simp only [List.cons_append, List.append_assoc] at hS'
      exact hS'.pick
    · simp only [List.cons_append, List.append_assoc]
      exact hS''.pick
  · rintro Y w ⟨Eh', hH', rfl⟩ hS
    unfold Ret
    go_wp2_with ((refine wpList_is (.store _ _ _) rfl ?_; go_must ((refine wpList_stp (by kernel_rfl) (stp_sta _ _ _ rfl hS ?_))); clear hS; intro w hS))
    refine bodyPost_ret (res_ct rfl hS) rfl ?_
    exact hR _ _ (hTn'.out _ _ hH' rfl) (by simp only [List.cons_append, List.append_assoc, hspl]; exact hS.pick)

theorem ar_make {p : Option Addr} {T : Ar} (hO : St w0 bs w H) (hT : AA p T E) [hc : Cut H E H1] (m n : Int) (h : Bool) (T' : Ar) (r : Rf) (e : Int) (hT' : mkAT T m n h = T') (hr : mkAR T m n h = r) (he : mkAE T m n h = e)
    (hR : ∀ E' w', AA p T' E' → St w0 bs w' (E' ++ H1) → Ret R (.tuple #[.agg #[.int .i64 r.1, .int .u32 r.2], .int .i64 e]) w') : Calls Tryz.prog 16 #[.pointer p, .int .i64 m, .int .i64 n, .bool h] w R := by
  have hle := rtL_le hT m
  subst hT' hr he
  cases hm : inM T m with
  | false =>
    have e1 : mkAE T m n h = 3 := by unfold mkAE; rw [hm]; rfl
    have e2 : mkAR T m n h = (0, 0) := by unfold mkAR; rw [e1, if_neg (by decide)]
    have e3 : mkAT T m n h = T := by unfold mkAT; rw [e1, if_neg (by decide)]
    rw [e1, e2, e3] at hR
    exact ar_make_mu hO hT m n h hm (fun w' hT hS => hR _ _ hT hS)
  | true =>
    by_cases hex : nwOE n h ≠ 0 ∨ (rtL T m).length = 32
    · have e1 : mkAE T m n h = if nwOE n h = 0 then 4 else nwOE n h := by
        unfold mkAE; rw [hm, if_pos rfl]
        by_cases h0 : nwOE n h = 0
        · rw [if_neg (by simpa using h0), if_pos h0, if_pos (by omega)]
        · rw [if_pos h0, if_neg h0]
      have e0 : mkAE T m n h ≠ 0 := by rw [e1]; split <;> omega
      have e2 : mkAR T m n h = (0, 0) := by unfold mkAR; rw [if_neg e0]
      have e3 : mkAT T m n h = T := by unfold mkAT; rw [if_neg e0]
      rw [e2, e3] at hR
      exact ar_make_err hO hT m n h hm hex _ e1 (fun w' hT hS => hR _ _ hT hS)
    · have hn : nwOE n h = 0 := by
        rcases Decidable.em (nwOE n h = 0) with h0 | h0
        · exact h0
        · exact absurd (.inl h0) hex
      have hlt : (rtL T m).length < 32 := by have : (rtL T m).length ≠ 32 := fun h => hex (.inr h); omega
      have e1 : mkAE T m n h = mkE (some (some T.1)) n h := by unfold mkAE; rw [hm, if_pos rfl, if_neg (by simpa using hn), if_neg (by omega)]
      by_cases h0 : mkE (some (some T.1)) n h = 0
      · have e2 : mkAR T m n h = mkR (some (some T.1)) n h := by unfold mkAR; rw [e1, if_pos h0]
        have e3 : mkAT T m n h = mkAr T m n h := by unfold mkAT; rw [e1, if_pos h0]
        rw [e1, e2, e3, h0] at hR
        exact ar_make_ok hO hT m n h hm hn hlt h0 _ _ rfl rfl hR
      · have e2 : mkAR T m n h = (0, 0) := by unfold mkAR; rw [e1, if_neg h0]
        have e3 : mkAT T m n h = T := by unfold mkAT; rw [e1, if_neg h0]
        rw [e1, e2, e3] at hR
        exact ar_make_full hO hT m n h hm hn hlt _ rfl h0 hR

/-! Load -/
def ldAE (T : Ar) (m i f : Int) : Int := if inM T m then (if ldX T m i f ≠ 0 then ldX T m i f else if 32 ≤ (rtL T m).length then 4 else 0) else 3
def ldAR (T : Ar) (m i f : Int) : Rf := if ldAE T m i f = 0 then ldV T m i f else (0, 0)
def ldAT (T : Ar) (m i f : Int) : Ar := if ldAE T m i f = 0 then giT T m (ldV T m i f) else T
set_option maxHeartbeats 2000000 in
set_option maxRecDepth 100000 in
theorem ar_load_mu {p : Option Addr} {T : Ar} (hO : St w0 bs w H) (hT : AA p T E) [hc : Cut H E H1] (m i f : Int) (hm : inM T m = false)
    (hR : ∀ w', AA p T E → St w0 bs w' (E ++ H1) → Ret R (.tuple #[.agg #[.int .i64 0, .int .u32 0], .int .i64 3]) w') : Calls Tryz.prog 18 #[.pointer p, .int .i64 m, .int .i64 i, .int .i64 f] w R := by
  have hS := hO.front (E := E) (H1 := H1)
  clear hO
  obtain ⟨L, ks, G⟩ := T
  obtain ⟨b, bo, ph, Eh, pg, Eg, sts, rfl, hH, hG, hks, hW, hGw, h1, h4, rfl⟩ := id hT
  simp only [List.cons_append, List.append_assoc] at hS
  have hlp := spL_len h4
  have hno := inM_no hm hks
  have hno' := Lib.hid hno
  clear hm hks hW hGw hno
  go_enter Tryz.func18, Tryz.ntmps18
  go_wp2_with (first | (refine wpList_is (o := ⟨some 4, _, _, _, _, _⟩) (.box _ _) rfl ?_; go_must (refine wpList_stp (by kernel_rfl) (stp_bx _ _ rfl hS ?_)); clear hS; intro b4 w _ hS) | (refine wpList_is (o := ⟨some 5, _, _, _, _, _⟩) (.box _ _) rfl ?_; go_must (refine wpList_stp (by kernel_rfl) (stp_bx _ _ rfl hS ?_)); clear hS; intro b5 w _ hS) | (refine wpList_is (o := ⟨some 6, _, _, _, _, _⟩) (.box _ _) rfl ?_; go_must (refine wpList_stp (by kernel_rfl) (stp_bx _ _ rfl hS ?_)); clear hS; intro b6 w _ hS) | (refine wpList_is (o := ⟨some 7, _, _, _, _, _⟩) (.box _ _) rfl ?_; go_must (refine wpList_stp (by kernel_rfl) (stp_bx _ _ rfl hS ?_)); clear hS; intro b7 w _ hS) | (refine wpList_is (o := ⟨some 8, _, _, _, _, _⟩) (.alloc _) rfl ?_; go_must (refine wpList_stp (by kernel_rfl) (stp_al _ rfl hS ?_)); clear hS; intro b8 w _ hS) | (refine wpList_is (o := ⟨some 10, _, _, _, _, _⟩) (.alloc _) rfl ?_; go_must (refine wpList_stp (by kernel_rfl) (stp_al _ rfl hS ?_)); clear hS; intro bv w _ hS) | (refine wpList_is (.load _ _) rfl ?_; go_must ((refine wpList_stp (by kernel_rfl) (stp_val (run_ld _ _ rfl hS) ?_)))))
  refine gi_mu hS h4 hlp m hno'.out ?_
  clear hS
  intro w hS
  unfold Ret
  go_wp2_with ((refine wpList_is (.store _ _ _) rfl ?_; go_must ((refine wpList_stp (by kernel_rfl) (stp_sta _ _ _ rfl hS ?_))); clear hS; intro w hS))
  refine bodyPost_ret (res_ct rfl hS) rfl ?_
  exact hR _ hT (by simp only [List.cons_append, List.append_assoc]; exact hS.pick)

theorem ar_load {p : Option Addr} {T : Ar} (hO : St w0 bs w H) (hT : AA p T E) [hc : Cut H E H1] (m i f : Int) (T' : Ar) (r : Rf) (e : Int) (hT' : ldAT T m i f = T') (hr : ldAR T m i f = r) (he : ldAE T m i f = e)
    (hR : ∀ E' w', AA p T' E' → St w0 bs w' (E' ++ H1) → Ret R (.tuple #[.agg #[.int .i64 r.1, .int .u32 r.2], .int .i64 e]) w') : Calls Tryz.prog 18 #[.pointer p, .int .i64 m, .int .i64 i, .int .i64 f] w R := by
  have hle := rtL_le hT m
  subst hT' hr he
  cases hm : inM T m with
  | false =>
    have e1 : ldAE T m i f = 3 := by unfold ldAE; rw [hm]; rfl
    have e2 : ldAR T m i f = (0, 0) := by unfold ldAR; rw [e1, if_neg (by decide)]
    have e3 : ldAT T m i f = T := by unfold ldAT; rw [e1, if_neg (by decide)]
    rw [e1, e2, e3] at hR
    exact ar_load_mu hO hT m i f hm (fun w' hT hS => hR _ _ hT hS)
  | true =>
    by_cases hex : ldX T m i f ≠ 0 ∨ (rtL T m).length = 32
    · have e1 : ldAE T m i f = if ldX T m i f = 0 then 4 else ldX T m i f := by
        unfold ldAE; rw [hm, if_pos rfl]
        by_cases h0 : ldX T m i f = 0
        · rw [if_neg (by simpa using h0), if_pos h0, if_pos (by omega)]
        · rw [if_pos h0, if_neg h0]
      have e0 : ldAE T m i f ≠ 0 := by rw [e1]; split <;> omega
      have e2 : ldAR T m i f = (0, 0) := by unfold ldAR; rw [if_neg e0]
      have e3 : ldAT T m i f = T := by unfold ldAT; rw [if_neg e0]
      rw [e2, e3] at hR
      exact ar_load_err hO hT m i f hm _ rfl hex _ e1 (fun w' hT hS => hR _ _ hT hS)
    · have hn : ldX T m i f = 0 := by
        rcases Decidable.em (ldX T m i f = 0) with h0 | h0
        · exact h0
        · exact absurd (.inl h0) hex
      have hlt : (rtL T m).length < 32 := by have : (rtL T m).length ≠ 32 := fun h => hex (.inr h); omega
      have e1 : ldAE T m i f = 0 := by unfold ldAE; rw [hm, if_pos rfl, if_neg (by simpa using hn), if_neg (by omega)]
      have e2 : ldAR T m i f = ldV T m i f := by unfold ldAR; rw [e1, if_pos rfl]
      have e3 : ldAT T m i f = giT T m (ldV T m i f) := by unfold ldAT; rw [e1, if_pos rfl]
      rw [e1, e2, e3] at hR
      exact ar_load_ok hO hT m i f hm hn hlt _ rfl hR

/-! Get -/
def gtAE (T : Ar) (m f : Int) : Int := if inM T m then (if gtX T f ≠ 0 then gtX T f else if 32 ≤ (rtL T m).length then 4 else 0) else 3
def gtAR (T : Ar) (m f : Int) : Rf := if gtAE T m f = 0 then gtR (some (true, T.2.2)) f else (0, 0)
def gtAT (T : Ar) (m f : Int) : Ar := if gtAE T m f = 0 then giT T m (gtR (some (true, T.2.2)) f) else T
set_option maxHeartbeats 2000000 in
set_option maxRecDepth 100000 in
theorem ar_get_mu {p : Option Addr} {T : Ar} (hO : St w0 bs w H) (hT : AA p T E) [hc : Cut H E H1] (m f : Int) (hm : inM T m = false)
    (hR : ∀ w', AA p T E → St w0 bs w' (E ++ H1) → Ret R (.tuple #[.agg #[.int .i64 0, .int .u32 0], .int .i64 3]) w') : Calls Tryz.prog 20 #[.pointer p, .int .i64 m, .int .i64 f] w R := by
  have hS := hO.front (E := E) (H1 := H1)
  clear hO
  obtain ⟨L, ks, G⟩ := T
  obtain ⟨b, bo, ph, Eh, pg, Eg, sts, rfl, hH, hG, hks, hW, hGw, h1, h4, rfl⟩ := id hT
  simp only [List.cons_append, List.append_assoc] at hS
  have hlp := spL_len h4
  have hno := inM_no hm hks
  have hno' := Lib.hid hno
  clear hm hks hW hGw hno
  go_enter Tryz.func20, Tryz.ntmps20
  go_wp2_with (first | (refine wpList_is (o := ⟨some 3, _, _, _, _, _⟩) (.box _ _) rfl ?_; go_must (refine wpList_stp (by kernel_rfl) (stp_bx _ _ rfl hS ?_)); clear hS; intro b4 w _ hS) | (refine wpList_is (o := ⟨some 5, _, _, _, _, _⟩) (.box _ _) rfl ?_; go_must (refine wpList_stp (by kernel_rfl) (stp_bx _ _ rfl hS ?_)); clear hS; intro b5 w _ hS) | (refine wpList_is (o := ⟨some 6, _, _, _, _, _⟩) (.alloc _) rfl ?_; go_must (refine wpList_stp (by kernel_rfl) (stp_al _ rfl hS ?_)); clear hS; intro b8 w _ hS) | (refine wpList_is (o := ⟨some 8, _, _, _, _, _⟩) (.alloc _) rfl ?_; go_must (refine wpList_stp (by kernel_rfl) (stp_al _ rfl hS ?_)); clear hS; intro bv w _ hS) | (refine wpList_is (.load _ _) rfl ?_; go_must ((refine wpList_stp (by kernel_rfl) (stp_val (run_ld _ _ rfl hS) ?_)))))
  refine gi_mu hS h4 hlp m hno'.out ?_
  clear hS
  intro w hS
  unfold Ret
  go_wp2_with ((refine wpList_is (.store _ _ _) rfl ?_; go_must ((refine wpList_stp (by kernel_rfl) (stp_sta _ _ _ rfl hS ?_))); clear hS; intro w hS))
  refine bodyPost_ret (res_ct rfl hS) rfl ?_
  exact hR _ hT (by simp only [List.cons_append, List.append_assoc]; exact hS.pick)

theorem ar_get {p : Option Addr} {T : Ar} (hO : St w0 bs w H) (hT : AA p T E) [hc : Cut H E H1] (m f : Int) (T' : Ar) (r : Rf) (e : Int) (hT' : gtAT T m f = T') (hr : gtAR T m f = r) (he : gtAE T m f = e)
    (hR : ∀ E' w', AA p T' E' → St w0 bs w' (E' ++ H1) → Ret R (.tuple #[.agg #[.int .i64 r.1, .int .u32 r.2], .int .i64 e]) w') : Calls Tryz.prog 20 #[.pointer p, .int .i64 m, .int .i64 f] w R := by
  have hle := rtL_le hT m
  subst hT' hr he
  cases hm : inM T m with
  | false =>
    have e1 : gtAE T m f = 3 := by unfold gtAE; rw [hm]; rfl
    have e2 : gtAR T m f = (0, 0) := by unfold gtAR; rw [e1, if_neg (by decide)]
    have e3 : gtAT T m f = T := by unfold gtAT; rw [e1, if_neg (by decide)]
    rw [e1, e2, e3] at hR
    exact ar_get_mu hO hT m f hm (fun w' hT hS => hR _ _ hT hS)
  | true =>
    by_cases hex : gtX T f ≠ 0 ∨ (rtL T m).length = 32
    · have e1 : gtAE T m f = if gtX T f = 0 then 4 else gtX T f := by
        unfold gtAE; rw [hm, if_pos rfl]
        by_cases h0 : gtX T f = 0
        · rw [if_neg (by simpa using h0), if_pos h0, if_pos (by omega)]
        · rw [if_pos h0, if_neg h0]
      have e0 : gtAE T m f ≠ 0 := by rw [e1]; split <;> omega
      have e2 : gtAR T m f = (0, 0) := by unfold gtAR; rw [if_neg e0]
      have e3 : gtAT T m f = T := by unfold gtAT; rw [if_neg e0]
      rw [e2, e3] at hR
      exact ar_get_err hO hT m f hm _ rfl hex _ e1 (fun w' hT hS => hR _ _ hT hS)
    · have hn : gtX T f = 0 := by
        rcases Decidable.em (gtX T f = 0) with h0 | h0
        · exact h0
        · exact absurd (.inl h0) hex
      have hlt : (rtL T m).length < 32 := by have : (rtL T m).length ≠ 32 := fun h => hex (.inr h); omega
      have e1 : gtAE T m f = 0 := by unfold gtAE; rw [hm, if_pos rfl, if_neg (by simpa using hn), if_neg (by omega)]
      have e2 : gtAR T m f = gtR (some (true, T.2.2)) f := by unfold gtAR; rw [e1, if_pos rfl]
      have e3 : gtAT T m f = giT T m (gtR (some (true, T.2.2)) f) := by unfold gtAT; rw [e1, if_pos rfl]
      rw [e1, e2, e3] at hR
      exact ar_get_ok hO hT m f hm hn hlt _ rfl hR

/-! Put -/
set_option maxHeartbeats 2000000 in
set_option maxRecDepth 100000 in
theorem ar_put_e {p : Option Addr} {T : Ar} (hO : St w0 bs w H) (hT : AA p T E) [hc : Cut H E H1] (m i g : Int) (he : vaE T m i = 0) (hg : inV g = false)
    (hR : ∀ E' w', AA p T E' → St w0 bs w' (E' ++ H1) → Ret R (.tuple #[.agg #[.int .i64 0, .int .u32 0], .agg #[.int .i64 0, .int .u32 0], .int .i64 3]) w') : Calls Tryz.prog 19 #[.pointer p, .int .i64 m, .int .i64 i, .int .i64 g] w R := by
  have hS := hO.front (E := E) (H1 := H1)
  clear hO
  have hvw := vaR_wr hT m i
  obtain ⟨⟨v1, v2⟩, hv⟩ : ∃ v, vaR T m i = v := ⟨_, rfl⟩
  rw [hv] at hvw
  have hv' := Lib.hid hv
  have he' := Lib.hid he
  clear hv he
  go_enter Tryz.func19, Tryz.ntmps19
  go_wp2_with (first | (refine wpList_is (o := ⟨some 8, _, _, _, _, _⟩) (.alloc _) rfl ?_; go_must (refine wpList_stp (by kernel_rfl) (stp_al _ rfl hS ?_)); clear hS; intro b8 w _ hS) | (refine wpList_is (o := ⟨some 9, _, _, _, _, _⟩) (.alloc _) rfl ?_; go_must (refine wpList_stp (by kernel_rfl) (stp_al _ rfl hS ?_)); clear hS; intro b9 w _ hS) | (go_at_call 62; go_must (refine ar_value hS hT m i (v1, v2) 0 hv'.out he'.out ?_); clear hS; intro w _ hS; unfold Ret) | (refine wpList_is (o := ⟨some 11, _, _, _, _, _⟩) (.alloc _) rfl ?_; go_must (refine wpList_stp (by kernel_rfl) (stp_al _ rfl hS ?_)); clear hS; intro b11 w _ hS) | (refine wpList_is (.store _ _ _) rfl ?_; go_must ((refine wpList_stp (by kernel_rfl) (stp_sta _ _ _ rfl hS ?_))); clear hS; intro w hS))
  obtain ⟨L, ks, G⟩ := T
  obtain ⟨b, bo, ph, Eh, pg, Eg, sts, rfl, hH, hG, hks, hW, hGw, h1, h4, rfl⟩ := id hT
  have hlp := spL_len h4
  have p1 : ptE (some (true, G)) g (v1, v2) = 3 := by unfold ptE vE vOk; simp only [hvw.1, hg]; rfl
  have p2 : ptR (some (true, G)) g (v1, v2) = (0, 0) := by unfold ptR; rw [p1, if_neg (by decide)]
  have p3 : ptT (some (true, G)) g (v1, v2) = some (true, G) := by unfold ptT; rw [p1, if_neg (by decide)]
  have p1' := Lib.hid p1
  have p2' := Lib.hid p2
  have p3' := Lib.hid p3
  have hvg' := Lib.hid hvw.2
  have hcg' : CellAt (arC (some ⟨bo, 0, none⟩) L.length sts.length (spL sts) pg) (0 + 7) (.pointer pg) := arG hlp
  have hS : St w0 bs w (Eg ++ (⟨b11, #[.int .i64 v1, .int .u32 v2], 25, true⟩ :: ⟨b9, #[.int .i64 0, .int .u32 0], 25, true⟩ :: ⟨b8, #[.int .i64 0, .int .u32 0], 25, true⟩ :: ⟨b, arC (some ⟨bo, 0, none⟩) L.length sts.length (spL sts) pg, 69, true⟩ :: ⟨bo, #[.pointer ph], 63, true⟩ :: (Eh ++ (sts.map skE ++ H1)))) := by
    simp only [List.cons_append, List.append_assoc] at hS
    exact hS.pick
  have hTn : ∀ Eg' Z, GA pg (some (true, G)) Eg' → Z = ⟨b, arC (some ⟨bo, 0, none⟩) L.length sts.length (spL sts) pg, 69, true⟩ :: ⟨bo, #[.pointer ph], 63, true⟩ :: (Eh ++ (Eg' ++ sts.map skE)) → AA (some ⟨b, 0, none⟩) (L, ks, G) Z := by
    rintro Eg' Z hG' rfl
    exact ⟨b, bo, ph, Eh, pg, Eg', sts, rfl, hH, hG', hks, hW, hGw, h1, h4, rfl⟩
  have hTn' := Lib.hid hTn
  obtain ⟨Y, hY⟩ : ∃ Y, ⟨b11, #[.int .i64 v1, .int .u32 v2], 25, true⟩ :: ⟨b9, #[.int .i64 0, .int .u32 0], 25, true⟩ :: ⟨b8, #[.int .i64 0, .int .u32 0], 25, true⟩ :: ⟨b, arC (some ⟨bo, 0, none⟩) L.length sts.length (spL sts) pg, 69, true⟩ :: ⟨bo, #[.pointer ph], 63, true⟩ :: (Eh ++ (sts.map skE ++ H1)) = Y := ⟨_, rfl⟩
  have y1 : Has Y b11 #[.int .i64 v1, .int .u32 v2] 25 := by rw [← hY]; infer_instance
  have y2 : Has Y b (arC (some ⟨bo, 0, none⟩) L.length sts.length (spL sts) pg) 69 := by rw [← hY]; infer_instance
  rw [hY] at hS
  clear hT p1 p2 p3 hvw hTn hks hW hGw hH
  refine region_itemsE [⟨(undef, Eg), [(6, fun _ x => GA pg (some (true, G)) x.2)]⟩, ⟨(undef, []), [(10, fun _ x => ∃ b, x = (.pointer (some ⟨b, 0, none⟩), [⟨b, #[.int .i64 0, .int .u32 0], 25, true⟩])), (11, fun y x => ∃ b, y.1 = .pointer (some ⟨b, 0, none⟩) ∧ x.2 = [⟨b, #[.int .i64 0, .int .u32 0], 25, true⟩])]⟩]
    Y (Eg ++ Y) (by simp) hS (by kernel_rfl) (by kernel_rfl) ?_
  refine fx_val (fun _ => rfl) rfl (fun χ w hw => run_mv _ rfl) ?_
  refine fx_val (fun _ => rfl) rfl (fun χ w hw => run_nc _ rfl) ?_
  refine fx_val (fun _ => rfl) rfl (fun χ w hw => run_fa _ _ _ rfl) ?_
  (refine fx_val (fun _ => rfl) rfl (fun χ w hw => run_ld _ _ rfl hw) ?_)
  refine fx_val (fun _ => rfl) rfl (fun χ w hw => run_mv _ rfl) ?_
  (refine fx_val (fun _ => rfl) rfl (fun χ w hw => run_lda _ _ rfl hw) ?_)
  refine fx_turn 0 0 rfl rfl (by kernel_rfl) (by kernel_rfl) (by kernel_rfl) 67 [_, _, _] _ rfl (fun _ => rfl) (enters _ (by kernel_rfl)) (fun _ => .tuple #[.agg #[.int .i64 0, .int .u32 0], .int .i64 3]) ?_ ?_
  · intro χ X w _ hS
    exact gv_put (show St w0 bs w (Eg ++ (X ++ _)) from hS) hG g v1 v2 hvg'.out _ (0, 0) 3 p3'.out p2'.out p1'.out (fun E' w' hT' hS' => ⟨(undef, E'), rfl, hT', show St w0 bs w' (E' ++ (X ++ _)) from hS'.pick⟩)
  refine fx_val (fun _ => rfl) rfl (fun χ w hw => run_mv _ rfl) ?_
  refine fx_val (fun _ => rfl) rfl (fun χ w hw => run_ext _ _ rfl) ?_
  refine fx_val (fun _ => rfl) rfl (fun χ w hw => run_ext _ _ rfl) ?_
  refine fx_turn0 1 0 rfl rfl (by kernel_rfl) (by kernel_rfl) (by kernel_rfl) (fun _ => rfl) (fun x => x.1) ?_ ?_
  · intro χ X w _ hS
    exact stepX_al _ rfl (show St w0 bs w (X ++ _) from hS) (fun b w' _ hS' => ⟨(_, [_]), rfl, ⟨b, rfl⟩, hS'⟩)
  refine fx_turn0 1 1 rfl rfl (by kernel_rfl) (by kernel_rfl) (by kernel_rfl) (fun _ => rfl) (fun _ => undef) ?_ ?_
  · rintro χ X w ⟨⟨b, hb⟩, _⟩ hS
    have hS : St w0 bs w ((χ 10).2 ++ (X ++ _)) := hS
    rw [hb] at hS
    have hS : St w0 bs w (⟨b, #[.int .i64 0, .int .u32 0], 25, true⟩ :: (X ++ _)) := hS
    have hb1 : (χ 10).1 = .pointer (some ⟨b, 0, none⟩) := by rw [hb]
    exact stepX_stb _ _ _ rfl hS hb1 (fun w' hS' => ⟨(undef, [⟨b, #[.int .i64 0, .int .u32 0], 25, true⟩]), rfl, ⟨b, hb1, rfl⟩, hS'⟩)
  refine fx_val (fun _ => rfl) rfl (fun χ w hw => run_as _ rfl) ?_
  refine fx_end rfl ?_
  intro χ w hok hS
  obtain ⟨hT2, _⟩ := hok _ (.head _)
  have hT2 : GA pg (some (true, G)) (χ 6).2 := hT2
  obtain ⟨⟨b13, hb⟩, ⟨bo', hb1, hb2⟩, _⟩ := hok _ (.tail _ (.head _))
  rw [hb] at hb1
  obtain ⟨⟩ := hb1
  have hS : St w0 bs w (((χ 6).2 ++ ((χ 11).2 ++ [])) ++ Y) := hS
  rw [hb2, List.append_nil, List.append_assoc] at hS
  generalize (χ 6).2 = E2 at hS hT2
  simp only [hb]
  simp only [List.cons_append, List.nil_append] at hS
  clear hok hb2 hb
  rw [← hY] at hS
  go_wp2_with (first | (refine wpList_is (.build _ _) rfl ?_; go_must (refine wpList_stp (by kernel_rfl) (stp_val (run_bd _ _ rfl) ?_))) | (refine wpList_is (.store _ _ _) rfl ?_; go_must ((refine wpList_stp (by kernel_rfl) (stp_sta _ _ _ rfl hS ?_))); clear hS; intro w hS))
  refine bodyPost_ret (res_cct rfl hS) rfl ?_
  exact hR _ _ (hTn'.out _ _ hT2 rfl) (by simp only [List.cons_append, List.append_assoc]; exact hS.pick)
set_option maxHeartbeats 2000000 in
set_option maxRecDepth 100000 in
theorem ar_put_v {p : Option Addr} {T : Ar} (hO : St w0 bs w H) (hT : AA p T E) [hc : Cut H E H1] (m i g : Int) (x : Int) (he : vaE T m i = x) (hx : x ≠ 0)
    (hR : ∀ E' w', AA p T E' → St w0 bs w' (E' ++ H1) → Ret R (.tuple #[.agg #[.int .i64 0, .int .u32 0], .agg #[.int .i64 0, .int .u32 0], .int .i64 x]) w') : Calls Tryz.prog 19 #[.pointer p, .int .i64 m, .int .i64 i, .int .i64 g] w R := by
  have hS := hO.front (E := E) (H1 := H1)
  clear hO
  obtain ⟨⟨v1, v2⟩, hv⟩ : ∃ v, vaR T m i = v := ⟨_, rfl⟩
  have hv' := Lib.hid hv
  have he' := Lib.hid he
  have q : (x != 0) = true := by simpa using hx
  clear hv he hx
  go_enter Tryz.func19, Tryz.ntmps19
  go_wp2_with (first | (refine wpList_is (o := ⟨some 8, _, _, _, _, _⟩) (.alloc _) rfl ?_; go_must (refine wpList_stp (by kernel_rfl) (stp_al _ rfl hS ?_)); clear hS; intro b8 w _ hS) | (refine wpList_is (o := ⟨some 9, _, _, _, _, _⟩) (.alloc _) rfl ?_; go_must (refine wpList_stp (by kernel_rfl) (stp_al _ rfl hS ?_)); clear hS; intro b9 w _ hS) | (go_at_call 62; go_must (refine ar_value hS hT m i (v1, v2) x hv'.out he'.out ?_); clear hS; intro w _ hS; unfold Ret) | (refine wpList_is (o := ⟨some 11, _, _, _, _, _⟩) (.alloc _) rfl ?_; go_must (refine wpList_stp (by kernel_rfl) (stp_al _ rfl hS ?_)); clear hS; intro b11 w _ hS) | (refine wpList_is (.build _ _) rfl ?_; go_must (refine wpList_stp (by kernel_rfl) (stp_val (run_bd _ _ rfl) ?_))) | (refine wpList_is (.store _ _ _) rfl ?_; go_must ((refine wpList_stp (by kernel_rfl) (stp_sta _ _ _ rfl hS ?_))); clear hS; intro w hS))
  refine bodyPost_ret (res_cct rfl hS) rfl ?_
  exact hR _ _ hT hS.pick

def ptAE (T : Ar) (m i g : Int) : Int := if vaE T m i ≠ 0 then vaE T m i else if inV g then 0 else 3
def ptAW (T : Ar) (m i g : Int) : Rf := if ptAE T m i g = 0 then T.2.2.getD g.toNat (0, 0) else (0, 0)
def ptAV (T : Ar) (m i g : Int) : Rf := if ptAE T m i g = 0 then vaR T m i else (0, 0)
def ptAT (T : Ar) (m i g : Int) : Ar := if ptAE T m i g = 0 then ptA T g (vaR T m i) else T
theorem ar_put {p : Option Addr} {T : Ar} (hO : St w0 bs w H) (hT : AA p T E) [hc : Cut H E H1] (m i g : Int) (T' : Ar) (u v : Rf) (e : Int) (hT' : ptAT T m i g = T') (hu : ptAW T m i g = u) (hv : ptAV T m i g = v) (he : ptAE T m i g = e)
    (hR : ∀ E' w', AA p T' E' → St w0 bs w' (E' ++ H1) → Ret R (.tuple #[.agg #[.int .i64 u.1, .int .u32 u.2], .agg #[.int .i64 v.1, .int .u32 v.2], .int .i64 e]) w') : Calls Tryz.prog 19 #[.pointer p, .int .i64 m, .int .i64 i, .int .i64 g] w R := by
  subst hT' hu hv he
  by_cases h0 : vaE T m i = 0
  · cases hg : inV g with
    | true =>
      have e1 : ptAE T m i g = 0 := by unfold ptAE; rw [if_neg (by simpa using h0), hg]; rfl
      have e2 : ptAW T m i g = T.2.2.getD g.toNat (0, 0) := by unfold ptAW; rw [if_pos e1]
      have e3 : ptAV T m i g = vaR T m i := by unfold ptAV; rw [if_pos e1]
      have e4 : ptAT T m i g = ptA T g (vaR T m i) := by unfold ptAT; rw [if_pos e1]
      rw [e1, e2, e3, e4] at hR
      exact ar_put_ok hO hT m i g h0 hg _ _ _ rfl rfl rfl hR
    | false =>
      have e1 : ptAE T m i g = 3 := by unfold ptAE; rw [if_neg (by simpa using h0), hg]; rfl
      have e2 : ptAW T m i g = (0, 0) := by unfold ptAW; rw [e1, if_neg (by decide)]
      have e3 : ptAV T m i g = (0, 0) := by unfold ptAV; rw [e1, if_neg (by decide)]
      have e4 : ptAT T m i g = T := by unfold ptAT; rw [e1, if_neg (by decide)]
      rw [e1, e2, e3, e4] at hR
      exact ar_put_e hO hT m i g h0 hg hR
  · have e1 : ptAE T m i g = vaE T m i := by unfold ptAE; rw [if_pos h0]
    have e2 : ptAW T m i g = (0, 0) := by unfold ptAW; rw [e1, if_neg h0]
    have e3 : ptAV T m i g = (0, 0) := by unfold ptAV; rw [e1, if_neg h0]
    have e4 : ptAT T m i g = T := by unfold ptAT; rw [e1, if_neg h0]
    rw [e1, e2, e3, e4] at hR
    exact ar_put_v hO hT m i g _ rfl h0 hR

/-! Store -/
set_option maxHeartbeats 2000000 in
set_option maxRecDepth 100000 in
theorem ar_store_e {p : Option Addr} {T : Ar} (hO : St w0 bs w H) (hT : AA p T E) [hc : Cut H E H1] (m i f c : Int) (her : rtE T m i = 0) (hev : vaE T m c = 0) (r v : Rf) (hr : rtR T m i = r) (hv : vaR T m c = v) (x : Int) (hes : stE (some (some T.1)) r.1 r.2 f v = x) (hx : x ≠ 0)
    (hR : ∀ E' w', AA p T E' → St w0 bs w' (E' ++ H1) → Ret R (.tuple #[.agg #[.int .i64 0, .int .u32 0], .agg #[.int .i64 0, .int .u32 0], .int .i64 x]) w') : Calls Tryz.prog 17 #[.pointer p, .int .i64 m, .int .i64 i, .int .i64 f, .int .i64 c] w R := by
  have hS := hO.front (E := E) (H1 := H1)
  clear hO
  have hvw := vaR_wr hT m c
  rw [hv] at hvw
  obtain ⟨v1, v2⟩ := v
  obtain ⟨r1, r2⟩ := r
  have hv' := Lib.hid hv
  have hev' := Lib.hid hev
  have hr' := Lib.hid hr
  have her' := Lib.hid her
  clear hv hev hr her
  go_enter Tryz.func17, Tryz.ntmps17
  go_wp2_with (first | (refine wpList_is (o := ⟨some 10, _, _, _, _, _⟩) (.alloc _) rfl ?_; go_must (refine wpList_stp (by kernel_rfl) (stp_al _ rfl hS ?_)); clear hS; intro b10 w _ hS) | (refine wpList_is (o := ⟨some 11, _, _, _, _, _⟩) (.alloc _) rfl ?_; go_must (refine wpList_stp (by kernel_rfl) (stp_al _ rfl hS ?_)); clear hS; intro b11 w _ hS) | (go_at_call 22; go_must (refine ar_root hS hT m i (r1, r2) 0 hr'.out her'.out ?_); clear hS; intro w _ hS; unfold Ret) | (go_at_call 62; go_must (refine ar_value hS hT m c (v1, v2) 0 hv'.out hev'.out ?_); clear hS; intro w _ hS; unfold Ret) | (refine wpList_is (o := ⟨some 13, _, _, _, _, _⟩) (.alloc _) rfl ?_; go_must (refine wpList_stp (by kernel_rfl) (stp_al _ rfl hS ?_)); clear hS; intro b13 w _ hS) | (refine wpList_is (o := ⟨some 15, _, _, _, _, _⟩) (.alloc _) rfl ?_; go_must (refine wpList_stp (by kernel_rfl) (stp_al _ rfl hS ?_)); clear hS; intro b15 w _ hS) | (refine wpList_is (.store _ _ _) rfl ?_; go_must ((refine wpList_stp (by kernel_rfl) (stp_sta _ _ _ rfl hS ?_))); clear hS; intro w hS))
  obtain ⟨L, ks, G⟩ := T
  obtain ⟨b, bo, ph, Eh, pg, Eg, sts, rfl, hH, hG, hks, hW, hGw, h1, h4, rfl⟩ := id hT
  have hes2 : stE (some (some L)) r1 r2 f (v1, v2) = x := hes
  have hu2 : stR (some (some L)) r1 r2 f (v1, v2) = (0, 0) := by unfold stR; rw [hes2, if_neg hx]
  have hL' : stT (some (some L)) r1 r2 f (v1, v2) = some (some L) := by unfold stT; rw [hes2, if_neg hx]
  have q : (x != 0) = true := by simpa using hx
  have hes' := Lib.hid hes2
  have hu' := Lib.hid hu2
  have hL2' := Lib.hid hL'
  have hvg' := Lib.hid hvw.2
  have hS : St w0 bs w (Eh ++ (⟨b15, #[.int .i64 v1, .int .u32 v2], 25, true⟩ :: ⟨b13, #[.int .i64 r1, .int .u32 r2], 25, true⟩ :: ⟨b11, #[.int .i64 0, .int .u32 0], 25, true⟩ :: ⟨b10, #[.int .i64 0, .int .u32 0], 25, true⟩ :: ⟨b, arC (some ⟨bo, 0, none⟩) L.length sts.length (spL sts) pg, 69, true⟩ :: ⟨bo, #[.pointer ph], 63, true⟩ :: (Eg ++ (sts.map skE ++ H1)))) := by
    simp only [List.cons_append, List.append_assoc] at hS
    exact hS.pick
  have hTn : ∀ Eh' Z, HA ph (some (some L)) Eh' → Z = ⟨b, arC (some ⟨bo, 0, none⟩) L.length sts.length (spL sts) pg, 69, true⟩ :: ⟨bo, #[.pointer ph], 63, true⟩ :: (Eh' ++ (Eg ++ sts.map skE)) → AA (some ⟨b, 0, none⟩) (L, ks, G) Z := by
    rintro Eh' Z hH' rfl
    exact ⟨b, bo, ph, Eh', pg, Eg, sts, rfl, hH', hG, hks, hW, hGw, h1, h4, rfl⟩
  have hTn' := Lib.hid hTn
  obtain ⟨Y, hY⟩ : ∃ Y, ⟨b15, #[.int .i64 v1, .int .u32 v2], 25, true⟩ :: ⟨b13, #[.int .i64 r1, .int .u32 r2], 25, true⟩ :: ⟨b11, #[.int .i64 0, .int .u32 0], 25, true⟩ :: ⟨b10, #[.int .i64 0, .int .u32 0], 25, true⟩ :: ⟨b, arC (some ⟨bo, 0, none⟩) L.length sts.length (spL sts) pg, 69, true⟩ :: ⟨bo, #[.pointer ph], 63, true⟩ :: (Eg ++ (sts.map skE ++ H1)) = Y := ⟨_, rfl⟩
  have y1 : Has Y b15 #[.int .i64 v1, .int .u32 v2] 25 := by rw [← hY]; infer_instance
  have y3 : Has Y b13 #[.int .i64 r1, .int .u32 r2] 25 := by rw [← hY]; infer_instance
  have y2 : Has Y b (arC (some ⟨bo, 0, none⟩) L.length sts.length (spL sts) pg) 69 := by rw [← hY]; infer_instance
  have y4 : Has Y bo #[.pointer ph] 63 := by rw [← hY]; infer_instance
  rw [hY] at hS
  clear hT hu2 hes hes2 hL' hvw hTn hks hW hGw hG hx
  refine region_itemsE [⟨(undef, Eh), [(10, fun _ x => HA ph (some (some L)) x.2)]⟩, ⟨(undef, []), [(14, fun _ x => ∃ b, x = (.pointer (some ⟨b, 0, none⟩), [⟨b, #[.int .i64 0, .int .u32 0], 25, true⟩])), (15, fun y x => ∃ b, y.1 = .pointer (some ⟨b, 0, none⟩) ∧ x.2 = [⟨b, #[.int .i64 0, .int .u32 0], 25, true⟩])]⟩]
    Y (Eh ++ Y) (by simp) hS (by kernel_rfl) (by kernel_rfl) ?_
  refine fx_val (fun _ => rfl) rfl (fun χ w hw => run_mv _ rfl) ?_
  refine fx_val (fun _ => rfl) rfl (fun χ w hw => run_nc _ rfl) ?_
  refine fx_val (fun _ => rfl) rfl (fun χ w hw => run_fa _ _ _ rfl) ?_
  (refine fx_val (fun _ => rfl) rfl (fun χ w hw => run_ld _ _ rfl hw) ?_)
  refine fx_val (fun _ => rfl) rfl (fun χ w hw => run_nc _ rfl) ?_
  refine fx_val (fun _ => rfl) rfl (fun χ w hw => run_fa _ _ _ rfl) ?_
  (refine fx_val (fun _ => rfl) rfl (fun χ w hw => run_ld _ _ rfl hw) ?_)
  (refine fx_val (fun _ => rfl) rfl (fun χ w hw => run_lda _ _ rfl hw) ?_)
  refine fx_val (fun _ => rfl) rfl (fun χ w hw => run_mv _ rfl) ?_
  (refine fx_val (fun _ => rfl) rfl (fun χ w hw => run_lda _ _ rfl hw) ?_)
  refine fx_turn 0 0 rfl rfl (by kernel_rfl) (by kernel_rfl) (by kernel_rfl) 63 [_, _, _, _] _ rfl (fun _ => rfl) (enters _ (by kernel_rfl)) (fun _ => .tuple #[.agg #[.int .i64 0, .int .u32 0], .int .i64 x]) ?_ ?_
  · intro χ X w _ hS
    exact hp_store (show St w0 bs w (Eh ++ (X ++ _)) from hS) hH r1 r2 f v1 v2 hvg'.out _ (0, 0) x hL2'.out hu'.out hes'.out (fun E' w' hT' hS' => ⟨(undef, E'), rfl, hT', show St w0 bs w' (E' ++ (X ++ _)) from hS'.pick⟩)
  refine fx_val (fun _ => rfl) rfl (fun χ w hw => run_mv _ rfl) ?_
  refine fx_val (fun _ => rfl) rfl (fun χ w hw => run_ext _ _ rfl) ?_
  refine fx_val (fun _ => rfl) rfl (fun χ w hw => run_ext _ _ rfl) ?_
  refine fx_turn0 1 0 rfl rfl (by kernel_rfl) (by kernel_rfl) (by kernel_rfl) (fun _ => rfl) (fun x => x.1) ?_ ?_
  · intro χ X w _ hS
    exact stepX_al _ rfl (show St w0 bs w (X ++ _) from hS) (fun b w' _ hS' => ⟨(_, [_]), rfl, ⟨b, rfl⟩, hS'⟩)
  refine fx_turn0 1 1 rfl rfl (by kernel_rfl) (by kernel_rfl) (by kernel_rfl) (fun _ => rfl) (fun _ => undef) ?_ ?_
  · rintro χ X w ⟨⟨b, hb⟩, _⟩ hS
    have hS : St w0 bs w ((χ 14).2 ++ (X ++ _)) := hS
    rw [hb] at hS
    have hS : St w0 bs w (⟨b, #[.int .i64 0, .int .u32 0], 25, true⟩ :: (X ++ _)) := hS
    have hb1 : (χ 14).1 = .pointer (some ⟨b, 0, none⟩) := by rw [hb]
    exact stepX_stb _ _ _ rfl hS hb1 (fun w' hS' => ⟨(undef, [⟨b, #[.int .i64 0, .int .u32 0], 25, true⟩]), rfl, ⟨b, hb1, rfl⟩, hS'⟩)
  refine fx_val (fun _ => rfl) rfl (fun χ w hw => run_as _ rfl) ?_
  refine fx_end rfl ?_
  intro χ w hok hS
  obtain ⟨hT2, _⟩ := hok _ (.head _)
  have hT2 : HA ph (some (some L)) (χ 10).2 := hT2
  obtain ⟨⟨b16, hb⟩, ⟨bo', hb1, hb2⟩, _⟩ := hok _ (.tail _ (.head _))
  rw [hb] at hb1
  obtain ⟨⟩ := hb1
  have hS : St w0 bs w (((χ 10).2 ++ ((χ 15).2 ++ [])) ++ Y) := hS
  rw [hb2, List.append_nil, List.append_assoc] at hS
  generalize (χ 10).2 = E2 at hS hT2
  simp only [hb]
  simp only [List.cons_append, List.nil_append] at hS
  clear hok hb2 hb
  rw [← hY] at hS
  go_wp2_with (first | (refine wpList_is (.build _ _) rfl ?_; go_must (refine wpList_stp (by kernel_rfl) (stp_val (run_bd _ _ rfl) ?_))) | (refine wpList_is (.store _ _ _) rfl ?_; go_must ((refine wpList_stp (by kernel_rfl) (stp_sta _ _ _ rfl hS ?_))); clear hS; intro w hS))
  refine bodyPost_ret (res_cct rfl hS) rfl ?_
  exact hR _ _ (hTn'.out _ _ hT2 rfl) (by simp only [List.cons_append, List.append_assoc]; exact hS.pick)
set_option maxHeartbeats 2000000 in
set_option maxRecDepth 100000 in
theorem ar_store_r {p : Option Addr} {T : Ar} (hO : St w0 bs w H) (hT : AA p T E) [hc : Cut H E H1] (m i f c : Int) (x : Int) (her : rtE T m i = x) (hx : x ≠ 0)
    (hR : ∀ E' w', AA p T E' → St w0 bs w' (E' ++ H1) → Ret R (.tuple #[.agg #[.int .i64 0, .int .u32 0], .agg #[.int .i64 0, .int .u32 0], .int .i64 x]) w') : Calls Tryz.prog 17 #[.pointer p, .int .i64 m, .int .i64 i, .int .i64 f, .int .i64 c] w R := by
  have hS := hO.front (E := E) (H1 := H1)
  clear hO
  obtain ⟨⟨r1, r2⟩, hr⟩ : ∃ v, rtR T m i = v := ⟨_, rfl⟩
  have hr' := Lib.hid hr
  have her' := Lib.hid her
  have q : (x != 0) = true := by simpa using hx
  clear hr her hx
  go_enter Tryz.func17, Tryz.ntmps17
  go_wp2_with (first | (refine wpList_is (o := ⟨some 10, _, _, _, _, _⟩) (.alloc _) rfl ?_; go_must (refine wpList_stp (by kernel_rfl) (stp_al _ rfl hS ?_)); clear hS; intro b10 w _ hS) | (refine wpList_is (o := ⟨some 11, _, _, _, _, _⟩) (.alloc _) rfl ?_; go_must (refine wpList_stp (by kernel_rfl) (stp_al _ rfl hS ?_)); clear hS; intro b11 w _ hS) | (go_at_call 22; go_must (refine ar_root hS hT m i (r1, r2) x hr'.out her'.out ?_); clear hS; intro w _ hS; unfold Ret) | (refine wpList_is (o := ⟨some 13, _, _, _, _, _⟩) (.alloc _) rfl ?_; go_must (refine wpList_stp (by kernel_rfl) (stp_al _ rfl hS ?_)); clear hS; intro b13 w _ hS) | (refine wpList_is (.build _ _) rfl ?_; go_must (refine wpList_stp (by kernel_rfl) (stp_val (run_bd _ _ rfl) ?_))) | (refine wpList_is (.store _ _ _) rfl ?_; go_must ((refine wpList_stp (by kernel_rfl) (stp_sta _ _ _ rfl hS ?_))); clear hS; intro w hS))
  refine bodyPost_ret (res_cct rfl hS) rfl ?_
  exact hR _ _ hT hS.pick
set_option maxHeartbeats 2000000 in
set_option maxRecDepth 100000 in
theorem ar_store_v {p : Option Addr} {T : Ar} (hO : St w0 bs w H) (hT : AA p T E) [hc : Cut H E H1] (m i f c : Int) (her : rtE T m i = 0) (x : Int) (hev : vaE T m c = x) (hx : x ≠ 0)
    (hR : ∀ E' w', AA p T E' → St w0 bs w' (E' ++ H1) → Ret R (.tuple #[.agg #[.int .i64 0, .int .u32 0], .agg #[.int .i64 0, .int .u32 0], .int .i64 x]) w') : Calls Tryz.prog 17 #[.pointer p, .int .i64 m, .int .i64 i, .int .i64 f, .int .i64 c] w R := by
  have hS := hO.front (E := E) (H1 := H1)
  clear hO
  obtain ⟨⟨r1, r2⟩, hr⟩ : ∃ v, rtR T m i = v := ⟨_, rfl⟩
  obtain ⟨⟨v1, v2⟩, hv⟩ : ∃ v, vaR T m c = v := ⟨_, rfl⟩
  have hr' := Lib.hid hr
  have her' := Lib.hid her
  have hv' := Lib.hid hv
  have hev' := Lib.hid hev
  have q : (x != 0) = true := by simpa using hx
  clear hr her hx hv hev
  go_enter Tryz.func17, Tryz.ntmps17
  go_wp2_with (first | (refine wpList_is (o := ⟨some 10, _, _, _, _, _⟩) (.alloc _) rfl ?_; go_must (refine wpList_stp (by kernel_rfl) (stp_al _ rfl hS ?_)); clear hS; intro b10 w _ hS) | (refine wpList_is (o := ⟨some 11, _, _, _, _, _⟩) (.alloc _) rfl ?_; go_must (refine wpList_stp (by kernel_rfl) (stp_al _ rfl hS ?_)); clear hS; intro b11 w _ hS) | (go_at_call 22; go_must (refine ar_root hS hT m i (r1, r2) 0 hr'.out her'.out ?_); clear hS; intro w _ hS; unfold Ret) | (go_at_call 62; go_must (refine ar_value hS hT m c (v1, v2) x hv'.out hev'.out ?_); clear hS; intro w _ hS; unfold Ret) | (refine wpList_is (o := ⟨some 13, _, _, _, _, _⟩) (.alloc _) rfl ?_; go_must (refine wpList_stp (by kernel_rfl) (stp_al _ rfl hS ?_)); clear hS; intro b13 w _ hS) | (refine wpList_is (o := ⟨some 15, _, _, _, _, _⟩) (.alloc _) rfl ?_; go_must (refine wpList_stp (by kernel_rfl) (stp_al _ rfl hS ?_)); clear hS; intro b15 w _ hS) | (refine wpList_is (.build _ _) rfl ?_; go_must (refine wpList_stp (by kernel_rfl) (stp_val (run_bd _ _ rfl) ?_))) | (refine wpList_is (.store _ _ _) rfl ?_; go_must ((refine wpList_stp (by kernel_rfl) (stp_sta _ _ _ rfl hS ?_))); clear hS; intro w hS))
  refine bodyPost_ret (res_cct rfl hS) rfl ?_
  exact hR _ _ hT hS.pick

def stAE (T : Ar) (m i f c : Int) : Int := if rtE T m i ≠ 0 then rtE T m i else if vaE T m c ≠ 0 then vaE T m c else stE (some (some T.1)) (rtR T m i).1 (rtR T m i).2 f (vaR T m c)
def stAW (T : Ar) (m i f c : Int) : Rf := if stAE T m i f c = 0 then stR (some (some T.1)) (rtR T m i).1 (rtR T m i).2 f (vaR T m c) else (0, 0)
def stAV (T : Ar) (m i f c : Int) : Rf := if stAE T m i f c = 0 then vaR T m c else (0, 0)
def stAT (T : Ar) (m i f c : Int) : Ar := if stAE T m i f c = 0 then stA T m i f c else T
theorem ar_store {p : Option Addr} {T : Ar} (hO : St w0 bs w H) (hT : AA p T E) [hc : Cut H E H1] (m i f c : Int) (T' : Ar) (u v : Rf) (e : Int) (hT' : stAT T m i f c = T') (hu : stAW T m i f c = u) (hv : stAV T m i f c = v) (he : stAE T m i f c = e)
    (hR : ∀ E' w', AA p T' E' → St w0 bs w' (E' ++ H1) → Ret R (.tuple #[.agg #[.int .i64 u.1, .int .u32 u.2], .agg #[.int .i64 v.1, .int .u32 v.2], .int .i64 e]) w') : Calls Tryz.prog 17 #[.pointer p, .int .i64 m, .int .i64 i, .int .i64 f, .int .i64 c] w R := by
  subst hT' hu hv he
  by_cases h0 : rtE T m i = 0
  · by_cases h1 : vaE T m c = 0
    · have e1 : stAE T m i f c = stE (some (some T.1)) (rtR T m i).1 (rtR T m i).2 f (vaR T m c) := by unfold stAE; rw [if_neg (by simpa using h0), if_neg (by simpa using h1)]
      by_cases h2 : stE (some (some T.1)) (rtR T m i).1 (rtR T m i).2 f (vaR T m c) = 0
      · have e2 : stAW T m i f c = stR (some (some T.1)) (rtR T m i).1 (rtR T m i).2 f (vaR T m c) := by unfold stAW; rw [e1, if_pos h2]
        have e3 : stAV T m i f c = vaR T m c := by unfold stAV; rw [e1, if_pos h2]
        have e4 : stAT T m i f c = stA T m i f c := by unfold stAT; rw [e1, if_pos h2]
        rw [e1, e2, e3, e4, h2] at hR
        exact ar_store_ok hO hT m i f c h0 h1 _ _ _ rfl rfl h2 rfl _ rfl hR
      · have e2 : stAW T m i f c = (0, 0) := by unfold stAW; rw [e1, if_neg h2]
        have e3 : stAV T m i f c = (0, 0) := by unfold stAV; rw [e1, if_neg h2]
        have e4 : stAT T m i f c = T := by unfold stAT; rw [e1, if_neg h2]
        rw [e1, e2, e3, e4] at hR
        exact ar_store_e hO hT m i f c h0 h1 _ _ rfl rfl _ rfl h2 hR
    · have e1 : stAE T m i f c = vaE T m c := by unfold stAE; rw [if_neg (by simpa using h0), if_pos h1]
      have e2 : stAW T m i f c = (0, 0) := by unfold stAW; rw [e1, if_neg h1]
      have e3 : stAV T m i f c = (0, 0) := by unfold stAV; rw [e1, if_neg h1]
      have e4 : stAT T m i f c = T := by unfold stAT; rw [e1, if_neg h1]
      rw [e1, e2, e3, e4] at hR
      exact ar_store_v hO hT m i f c h0 _ rfl h1 hR
  · have e1 : stAE T m i f c = rtE T m i := by unfold stAE; rw [if_pos h0]
    have e2 : stAW T m i f c = (0, 0) := by unfold stAW; rw [e1, if_neg h0]
    have e3 : stAV T m i f c = (0, 0) := by unfold stAV; rw [e1, if_neg h0]
    have e4 : stAT T m i f c = T := by unfold stAT; rw [e1, if_neg h0]
    rw [e1, e2, e3, e4] at hR
    exact ar_store_r hO hT m i f c _ rfl h0 hR

/-! Object, Free, Globals, Sizes -/
set_option maxHeartbeats 2000000 in
set_option maxRecDepth 100000 in
theorem ar_sizes {p : Option Addr} {T : Ar} (hO : St w0 bs w H) (hT : AA p T E) [hc : Cut H E H1] (z k : Nat) (hz : T.1.length = z) (hk : T.2.1.length = k)
    (hR : ∀ w', AA p T E → St w0 bs w' (E ++ H1) → Ret R (.tuple #[.int .i64 z, .int .i64 k]) w') : Calls Tryz.prog 40 #[.pointer p] w R := by
  have hS := hO.front (E := E) (H1 := H1)
  clear hO
  obtain ⟨L, ks, G⟩ := T
  obtain ⟨b, bo, ph, Eh, pg, Eg, sts, rfl, hH, hG, hks, hW, hGw, h1, h4, rfl⟩ := id hT
  simp only [List.cons_append, List.append_assoc] at hS
  have hlp := spL_len h4
  have e1 : L.length = z := hz
  have e2 : sts.length = k := by rw [← hk, ← hks, List.length_map]
  have hTn : ∀ w', St w0 bs w' (⟨b, arC (some ⟨bo, 0, none⟩) L.length sts.length (spL sts) pg, 69, true⟩ :: ⟨bo, #[.pointer ph], 63, true⟩ :: (Eh ++ (Eg ++ sts.map skE)) ++ H1) → Ret R (.tuple #[.int .i64 L.length, .int .i64 sts.length]) w' := fun w' h => by rw [e1, e2]; exact hR w' hT h
  have hTn' := Lib.hid hTn
  clear hks hW hGw e1 e2 hTn hz hk hR
  go_enter Tryz.func40, Tryz.ntmps40
  go_wp2_with (first | (go_at_call 34; refine ar_yes hS ?_; clear hS; intro w hS; unfold Ret) | (refine region_quiet hS (by kernel_rfl) (by kernel_rfl) (fun hne => ?_); (repeat ((go_big_quiet_want; first | (refine quiet_is (.load _ _) rfl ?_; go_must ((refine quiet_at sw_st (fun w hS => run_ld _ _ rfl hS) ?_)); go_big_quiet_on) | (go_big_quiet_op; go_big_quiet_on)))); refine wpQuiet_nil ?_; clear hS hne; intro w hS))
  exact hTn'.out _ (by simp only [List.cons_append, List.append_assoc]; exact hS.pick)
set_option maxHeartbeats 2000000 in
set_option maxRecDepth 100000 in
theorem ar_globals {p : Option Addr} {T : Ar} (hO : St w0 bs w H) (hT : AA p T E) [hc : Cut H E H1] (l : List Rf) (hl : alV (some (true, T.2.2)) = l)
    (hR : ∀ v E' w', AA p T E → RS v l E' → St w0 bs w' (E' ++ (E ++ H1)) → Ret R v w') : Calls Tryz.prog 43 #[.pointer p] w R := by
  have hS := hO.front (E := E) (H1 := H1)
  clear hO
  obtain ⟨L, ks, G⟩ := T
  obtain ⟨b, bo, ph, Eh, pg, Eg, sts, rfl, hH, hG, hks, hW, hGw, h1, h4, rfl⟩ := id hT
  simp only [List.cons_append, List.append_assoc] at hS
  have hlp := spL_len h4
  have hcg' : CellAt (arC (some ⟨bo, 0, none⟩) L.length sts.length (spL sts) pg) (0 + 7) (.pointer pg) := arG hlp
  have hl' := Lib.hid hl
  clear hks hW hGw hl
  go_enter Tryz.func43, Tryz.ntmps43
  go_wp2_with (first | (go_at_call 34; refine ar_yes hS ?_; clear hS; intro w hS; unfold Ret) | (go_at_call 90; go_must (refine gv_all hS hG ?_); clear hS; intro v E1 w hA _ hS; have hone := hA.one; unfold Ret) | (refine wpList_is (.load _ _) rfl ?_; go_must ((refine wpList_stp (by kernel_rfl) (stp_val (run_ld _ _ rfl hS) ?_)))))
  replace hA : RS v l E1 := by rw [← hl'.out]; exact hA
  exact hR _ _ _ hT hA (by simp only [List.cons_append, List.append_assoc]; exact hS.pick)
set_option maxHeartbeats 2000000 in
set_option maxRecDepth 100000 in
theorem ar_object {p : Option Addr} {T : Ar} (hO : St w0 bs w H) (hT : AA p T E) [hc : Cut H E H1] (s g : Int) (o : Ob) (e : Int) (ho : obR (some (some T.1)) s g = o) (he : wiH (some (some T.1)) s g = e)
    (hR : ∀ w', AA p T E → St w0 bs w' (E ++ H1) → Ret R (.tuple #[.agg (obC o), .int .i64 e]) w') : Calls Tryz.prog 9 #[.pointer p, .agg #[.int .i64 s, .int .u32 g]] w R := by
  have hS := hO.front (E := E) (H1 := H1)
  clear hO
  obtain ⟨L, ks, G⟩ := T
  obtain ⟨b, bo, ph, Eh, pg, Eg, sts, rfl, hH, hG, hks, hW, hGw, h1, h4, rfl⟩ := id hT
  simp only [List.cons_append, List.append_assoc] at hS
  have hlp := spL_len h4
  have hoW : ObW o := by rw [← ho]; exact hH.obw s g
  have ho' := Lib.hid ho
  have he' := Lib.hid he
  obtain ⟨on, oF, oh⟩ := o
  have hF4 : oF.length = 4 := hoW.len
  have hA := objAll (n := on) (h := oh) hF4
  have hZ := objSize (n := on) (h := oh) hF4
  have hO2 := objOver (n := 0) (n' := on) (h := false) (h' := oh) (F := zero4) rfl hF4
  clear hks hW hGw ho he hoW
  go_enter Tryz.func9, Tryz.ntmps9
  go_wp2_with (first | (refine wpList_is (.box 25 _) rfl ?_; go_must (refine wpList_stp (by kernel_rfl) (stp_bx _ _ rfl hS ?_)); clear hS; intro b3 w _ hS) | (refine wpList_is (.alloc 39) rfl ?_; go_must (refine wpList_stp (by kernel_rfl) (stp_al _ rfl hS ?_)); clear hS; intro b4 w _ hS) | (go_at_call 34; refine ar_yes hS ?_; clear hS; intro w hS; unfold Ret))
  refine region_itemsE [⟨(undef, [⟨b4, objC 0 zero4 false, 39, true⟩]), [(11, fun _ x => x.2 = [⟨b4, objC on oF oh, 39, true⟩])]⟩]
    (⟨b3, #[.int .i64 s, .int .u32 g], 25, true⟩ :: (⟨b, arC (some ⟨bo, 0, none⟩) L.length sts.length (spL sts) pg, 69, true⟩ :: ⟨bo, #[.pointer ph], 63, true⟩ :: (Eh ++ (Eg ++ (sts.map skE ++ H1))))) (⟨b4, objC 0 zero4 false, 39, true⟩ :: ⟨b3, #[.int .i64 s, .int .u32 g], 25, true⟩ :: (⟨b, arC (some ⟨bo, 0, none⟩) L.length sts.length (spL sts) pg, 69, true⟩ :: ⟨bo, #[.pointer ph], 63, true⟩ :: (Eh ++ (Eg ++ (sts.map skE ++ H1))))) (by simp) hS.pick (by kernel_rfl) (by kernel_rfl) ?_
  (refine fx_val (fun _ => rfl) rfl (fun χ w hw => run_mv _ rfl) ?_)
  (refine fx_val (fun _ => rfl) rfl (fun χ w hw => run_nc _ rfl) ?_)
  (refine fx_val (fun _ => rfl) rfl (fun χ w hw => run_fa _ _ _ rfl) ?_)
  (refine fx_val (fun _ => rfl) rfl (fun χ w hw => run_ld _ _ rfl hw) ?_)
  (refine fx_val (fun _ => rfl) rfl (fun χ w hw => run_nc _ rfl) ?_)
  (refine fx_val (fun _ => rfl) rfl (fun χ w hw => run_fa _ _ _ rfl) ?_)
  (refine fx_val (fun _ => rfl) rfl (fun χ w hw => run_ld _ _ rfl hw) ?_)
  (refine fx_val (fun _ => rfl) rfl (fun χ w hw => run_lda _ _ rfl hw) ?_)
  refine fx_ask 35 [_, _] _ rfl (fun _ => rfl) rfl (enters _ (by kernel_rfl)) (.tuple #[.agg (objC on oF oh), .int .i64 e]) (fun X w hS => hp_object (show St w0 bs w (X ++ (_ :: _ :: _ :: (Eh ++ _))) from hS) hH s g (on, oF, oh) e ho'.out he'.out (fun w' _ hS' => ⟨rfl, hS'.pick⟩)) ?_
  (refine fx_val (fun _ => rfl) rfl (fun χ w hw => run_ext _ _ rfl) ?_)
  (refine fx_val (fun _ => rfl) rfl (fun χ w hw => run_ext _ _ rfl) ?_)
  refine fx_turn0 0 0 rfl rfl (by kernel_rfl) (by kernel_rfl) (by kernel_rfl) (fun _ => rfl) (fun _ => undef) ?_ ?_
  · intro χ X w _ hS
    exact stepX_sta _ _ _ rfl (show St w0 bs w (⟨b4, objC 0 zero4 false, 39, true⟩ :: (X ++ _)) from hS) (fun w' hS' => ⟨(undef, [⟨b4, objC on oF oh, 39, true⟩]), rfl, rfl, hS'⟩)
  (refine fx_val (fun _ => rfl) rfl (fun χ w hw => run_as _ rfl) ?_)
  refine fx_end rfl ?_
  intro χ w hok hS
  obtain ⟨hD, _⟩ := hok _ (.head _)
  have hD : (χ 11).2 = [⟨b4, objC on oF oh, 39, true⟩] := hD
  have hS : St w0 bs w (((χ 11).2 ++ []) ++ (⟨b3, #[.int .i64 s, .int .u32 g], 25, true⟩ :: (⟨b, arC (some ⟨bo, 0, none⟩) L.length sts.length (spL sts) pg, 69, true⟩ :: ⟨bo, #[.pointer ph], 63, true⟩ :: (Eh ++ (Eg ++ (sts.map skE ++ H1)))))) := hS
  rw [hD] at hS
  simp only [List.cons_append, List.nil_append] at hS
  clear hok hD
  go_wp2_with ((go_skip))
  refine bodyPost_ret (res_ct rfl hS) rfl ?_
  exact hR _ hT (by simp only [List.cons_append, List.append_assoc]; exact hS.pick)
def frA (T : Ar) (s g : Int) : Ar := (hpL (frT (some (some T.1)) s g), T.2.1, T.2.2)
set_option maxHeartbeats 2000000 in
set_option maxRecDepth 100000 in
theorem ar_free {p : Option Addr} {T : Ar} (hO : St w0 bs w H) (hT : AA p T E) [hc : Cut H E H1] (s g : Int) (T' : Ar) (e : Int) (hT' : frA T s g = T') (he : wiH (some (some T.1)) s g = e)
    (hR : ∀ E' w', AA p T' E' → St w0 bs w' (E' ++ H1) → Ret R (.int .i64 e) w') : Calls Tryz.prog 11 #[.pointer p, .agg #[.int .i64 s, .int .u32 g]] w R := by
  have hS := hO.front (E := E) (H1 := H1)
  clear hO
  subst hT'
  obtain ⟨L, ks, G⟩ := T
  obtain ⟨b, bo, ph, Eh, pg, Eg, sts, rfl, hH, hG, hks, hW, hGw, h1, h4, rfl⟩ := id hT
  simp only [List.cons_append, List.append_assoc] at hS
  have hlp := spL_len h4
  obtain ⟨L', hL', hll⟩ : ∃ L', frT (some (some L)) s g = some (some L') ∧ L'.length = L.length := by
    unfold frT
    split
    · exact ⟨_, rfl, by simp [frN, hpL]⟩
    · exact ⟨_, rfl, rfl⟩
  have hTn : ∀ Eh' Z, HA ph (some (some L')) Eh' → Z = ⟨b, arC (some ⟨bo, 0, none⟩) L.length sts.length (spL sts) pg, 69, true⟩ :: ⟨bo, #[.pointer ph], 63, true⟩ :: (Eh' ++ (Eg ++ sts.map skE)) → AA (some ⟨b, 0, none⟩) (frA (L, ks, G) s g) Z := by
    rintro Eh' Z hH' rfl
    have e : frA (L, ks, G) s g = (L', ks, G) := by simp only [frA, hL', hpL]
    rw [e]
    exact ⟨b, bo, ph, Eh', pg, Eg, sts, rfl, hH', hG, hks, hW, hGw, h1, h4, by rw [hll]⟩
  have hTn' := Lib.hid hTn
  have hL2' := Lib.hid hL'
  have he' := Lib.hid he
  clear hks hW hGw hTn hL' he hll
  go_enter Tryz.func11, Tryz.ntmps11
  go_wp2_with (first | (refine wpList_is (.box 25 _) rfl ?_; go_must (refine wpList_stp (by kernel_rfl) (stp_bx _ _ rfl hS ?_)); clear hS; intro b3 w _ hS) | (go_at_call 34; refine ar_yes hS ?_; clear hS; intro w hS; unfold Ret))
  refine region_itemsE [⟨(undef, Eh), [(8, fun _ x => HA ph (some (some L')) x.2)]⟩]
    (⟨b3, #[.int .i64 s, .int .u32 g], 25, true⟩ :: (⟨b, arC (some ⟨bo, 0, none⟩) L.length sts.length (spL sts) pg, 69, true⟩ :: ⟨bo, #[.pointer ph], 63, true⟩ :: (Eg ++ (sts.map skE ++ H1)))) (Eh ++ (⟨b3, #[.int .i64 s, .int .u32 g], 25, true⟩ :: (⟨b, arC (some ⟨bo, 0, none⟩) L.length sts.length (spL sts) pg, 69, true⟩ :: ⟨bo, #[.pointer ph], 63, true⟩ :: (Eg ++ (sts.map skE ++ H1))))) (by simp) hS.pick (by kernel_rfl) (by kernel_rfl) ?_
  (refine fx_val (fun _ => rfl) rfl (fun χ w hw => run_mv _ rfl) ?_)
  (refine fx_val (fun _ => rfl) rfl (fun χ w hw => run_nc _ rfl) ?_)
  (refine fx_val (fun _ => rfl) rfl (fun χ w hw => run_fa _ _ _ rfl) ?_)
  (refine fx_val (fun _ => rfl) rfl (fun χ w hw => run_ld _ _ rfl hw) ?_)
  (refine fx_val (fun _ => rfl) rfl (fun χ w hw => run_nc _ rfl) ?_)
  (refine fx_val (fun _ => rfl) rfl (fun χ w hw => run_fa _ _ _ rfl) ?_)
  (refine fx_val (fun _ => rfl) rfl (fun χ w hw => run_ld _ _ rfl hw) ?_)
  (refine fx_val (fun _ => rfl) rfl (fun χ w hw => run_lda _ _ rfl hw) ?_)
  refine fx_turn 0 0 rfl rfl (by kernel_rfl) (by kernel_rfl) (by kernel_rfl) 38 [_, _] _ rfl (fun _ => rfl) (enters _ (by kernel_rfl)) (fun _ => .int .i64 e) ?_ ?_
  · intro χ X w _ hS
    exact hp_free (show St w0 bs w (Eh ++ (X ++ _)) from hS) hH s g _ e hL2'.out he'.out (fun E' w' hT' hS' => ⟨(undef, E'), rfl, hT', show St w0 bs w' (E' ++ (X ++ _)) from hS'.pick⟩)
  (refine fx_val (fun _ => rfl) rfl (fun χ w hw => run_as _ rfl) ?_)
  refine fx_end rfl ?_
  intro χ w hok hS
  obtain ⟨hD, _⟩ := hok _ (.head _)
  have hD : HA ph (some (some L')) (χ 8).2 := hD
  have hS : St w0 bs w (((χ 8).2 ++ []) ++ (⟨b3, #[.int .i64 s, .int .u32 g], 25, true⟩ :: (⟨b, arC (some ⟨bo, 0, none⟩) L.length sts.length (spL sts) pg, 69, true⟩ :: ⟨bo, #[.pointer ph], 63, true⟩ :: (Eg ++ (sts.map skE ++ H1))))) := hS
  rw [List.append_nil] at hS
  generalize (χ 8).2 = Eh' at hS hD
  clear hok
  go_wp2_with ((go_skip))
  exact hR _ _ (hTn'.out _ _ hD rfl) (by simp only [List.cons_append, List.append_assoc]; exact hS.pick)
end Go.Proofs.YtjlihigodggfcaaGreat
