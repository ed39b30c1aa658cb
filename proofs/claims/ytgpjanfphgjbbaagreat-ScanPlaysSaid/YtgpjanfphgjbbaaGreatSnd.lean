/-
  Scanning: Sound.
-/
import Derived.Test.YtgpjanfphgjbbaaGreatSca
import Derived.Test.YtgpjanfphgjbbaaGreatMrk
set_option linter.unusedSimpArgs false
set_option linter.unusedVariables false
namespace Go.Proofs.YtgpjanfphgjbbaaGreat
open Go.RowKit Go.Mm
attribute [local go_sem] Oper.semAt_some
variable {R : Ending → World → Prop} {w : World} {w0 : World} {bs : List Nat} {H H' H1 H2 H3 E E0 E1 E2 Ev : List Ent}
/-- The children of an object of a colour: whether all is sound so far, and an error. -/
def chS (T : Cq) (c : Int) : Bool → List Int → Bool × Int
  | b, [] => (b, 0)
  | b, s :: l => if ofE T s = 0 then chS T c (b && (decide (c ≠ 2) || decide (ofR T s ≠ 0))) l else (false, ofE T s)
theorem chS_snoc {T : Cq} {c : Int} : ∀ {b b' : Bool} {l : List Int}, chS T c b l = (b', 0) → ∀ l2, chS T c b (l ++ l2) = chS T c b' l2
  | b, b', [], h, l2 => by
    obtain ⟨rfl, _⟩ := Prod.mk.inj h
    rfl
  | b, b', s :: l, h, l2 => by
    simp only [chS, List.cons_append] at h ⊢
    split at h
    · rename_i hs
      rw [if_pos hs]
      exact chS_snoc h l2
    · rename_i hs
      exact absurd (Prod.mk.inj h).2 hs
theorem chS_bad {T : Cq} {c : Int} {e : Int} (he : e ≠ 0) : ∀ {b : Bool} {l : List Int}, chS T c b l = (false, e) → ∀ l2, chS T c b (l ++ l2) = (false, e)
  | b, [], h, l2 => absurd (Prod.mk.inj h).2.symm he
  | b, s :: l, h, l2 => by
    simp only [chS, List.cons_append] at h ⊢
    split at h
    · rename_i hs
      rw [if_pos hs]
      exact chS_bad he h l2
    · rename_i hs
      rw [if_neg hs]
      exact h
def soF (Hh : Hp) (T : Cq) : Bool → List (Int × Int) → Bool × Int
  | b, [] => (b, 0)
  | b, r :: l => if ofE T r.1 = 0 then (if wiH Hh r.1 r.2 = 0 then (if (chS T (ofR T r.1) b (chdR Hh r.1 r.2)).2 = 0 then soF Hh T (chS T (ofR T r.1) b (chdR Hh r.1 r.2)).1 l else chS T (ofR T r.1) b (chdR Hh r.1 r.2)) else (false, wiH Hh r.1 r.2)) else (false, ofE T r.1)
def soR (Hh : Hp) (T : Cq) : Bool × Int := if hpOk Hh && okC T then soF Hh T true (alH Hh) else (false, 1)
theorem gl_pre {p : Nat → Bool} {k : Nat} (hp : p k = true) : ∀ {n : Nat}, k < n → ∃ B, gl p n = (gl p k ++ [k]) ++ B
  | 0, h => by omega
  | n + 1, h => by
    by_cases e : k = n
    · subst e
      exact ⟨[], by rw [gl_yes hp, List.append_nil]⟩
    · obtain ⟨B, hB⟩ := gl_pre hp (n := n) (by omega)
      cases hn : p n with
      | true => exact ⟨B ++ [n], by rw [gl_yes hn, hB, List.append_assoc]⟩
      | false => exact ⟨B, by rw [gl_no hn, hB]⟩
theorem cpC_no {T : Cq} (h : okC T = false) : cpC T = none := by rcases T with _ | _ | _ <;> first | rfl | cases h
theorem leave_one {n : Nat} {P : Program} {fn : Func} {tmps : Array Value} {R : Ending → World → Prop} {W2 : World} {H2 : List Ent} (hS : St w0 bs W2 H2) (h : ∀ W3, St w0 bs W3 H2 → ∃ v, (results fn tmps).run P W3 = .ok v W3 ∧ R (.returned v) W3) :
    LeavesInM Fence.wide n P fn tmps R [] .returning W2 := leave_many (n := n) h [] W2 Marks.nil hS

set_option maxHeartbeats 4000000 in
set_option maxRecDepth 100000 in
theorem sc_sound {W : World} {ph q : Option Addr} {Hh : Hp} {T : Cq} (hO : St w0 bs W H) (hH : HA ph Hh E0) (hT : KA q T E1) [hc : Cut H E0 H1] [hd : Cut H1 E1 H2] (b : Bool) (e : Int) (hb : soR Hh T = (b, e))
    (hR : ∀ w', St w0 bs w' (E0 ++ (E1 ++ H2)) → Ret R (.tuple #[.bool b, .int .i64 e]) w') : Calls Tryz.prog 31 #[.pointer ph, .pointer q] W R := by
  have hS := (hO.front (E := E0) (H1 := H1))
  have hS : St w0 bs W (E0 ++ (E1 ++ H2)) := hS.pick
  clear hO
  have n1 := cpH_none Hh
  have n2 := cpC_none T
  unfold soR at hb
  refine (callsIn_wide (n := 3)).1 ?_
  have hF := wide_fn
  refine callsIn_of_wp_marks Tryz.func31 rfl trivial ?_ rfl
  simp only [Tryz.ntmps31, List.size_toArray, List.length_cons, List.length_nil, Nat.reduceAdd, Nat.reduceSub, Array.replicate_succ, Array.replicate_zero, List.push_toArray, List.append_toArray, List.nil_append, List.cons_append]
  cases hok : hpOk Hh with
  | false =>
    have hcp := cpH_no hok
    simp only [hok, Bool.false_and, Bool.false_eq_true, if_false] at hb
    obtain ⟨rfl, rfl⟩ := Prod.mk.inj hb
    clear hok n1 n2 hb
    gi_wp2_with (first | (refine wpListIn_off hF rfl rfl ?_) | (refine wpListIn_is (.box 29 _) rfl ?_; go_must (refine wpListIn_stp hF rfl rfl (stp_bx _ _ rfl hS ?_)); clear hS; intro b3 w _ hS) | (refine wpListIn_is (.alloc 4) rfl ?_; go_must (refine wpListIn_stp hF rfl rfl (stp_al _ rfl hS ?_)); clear hS; intro b4 w _ hS) | (refine wpListIn_is (.alloc 25) rfl ?_; go_must (refine wpListIn_stp hF rfl rfl (stp_al _ rfl hS ?_)); clear hS; intro b5 w _ hS) | (gi_at_call 58; refine callsIn_wide.2 (hp_copy hS hH none hcp ?_); clear hS; intro p9 E9 w hH9 _ hS; obtain ⟨rfl, rfl⟩ := hH9; simp only [List.nil_append] at hS; unfold Ret) | (refine wpListIn_is (.store _ _ _) rfl ?_; go_must ((refine wpListIn_stp hF rfl rfl (stp_st _ _ _ rfl hS ?_))); clear hS; intro w hS))
    exact leave_one hS (fun W3 hS3 => ⟨_, res_cells2 rfl hS3, hR _ hS3.pick⟩)
  | true =>
    rw [hok] at n1
    cases hok2 : okC T with
    | false =>
      have hcq := cpC_no hok2
      simp only [hok, hok2, Bool.and_false, Bool.false_eq_true, if_false] at hb
      obtain ⟨rfl, rfl⟩ := Prod.mk.inj hb
      clear hok n2 hb
      gi_wp2_with (first | (refine wpListIn_is (.box 29 _) rfl ?_; go_must (refine wpListIn_stp hF rfl rfl (stp_bx _ _ rfl hS ?_)); clear hS; intro b3 w _ hS) | (refine wpListIn_is (.alloc 4) rfl ?_; go_must (refine wpListIn_stp hF rfl rfl (stp_al _ rfl hS ?_)); clear hS; intro b4 w _ hS) | (refine wpListIn_is (.alloc 25) rfl ?_; go_must (refine wpListIn_stp hF rfl rfl (stp_al _ rfl hS ?_)); clear hS; intro b5 w _ hS) | (gi_at_call 58; refine callsIn_wide.2 (hp_copy hS hH _ rfl ?_); clear hS; intro p9 E9 w hH9 _ hS; obtain ⟨a9, rfl⟩ := some_of hH9.nil n1; clear hH9; unfold Ret) | (gi_at_call 84; refine callsIn_wide.2 (pn_copy hS hT none hcq ?_); clear hS; intro p8 E8 w hH8 hS; obtain ⟨rfl, rfl⟩ := hH8; simp only [List.nil_append] at hS; unfold Ret) | (refine wpListIn_is (.load _ _) rfl ?_; go_must ((refine wpListIn_stp hF rfl rfl (stp_val (run_ld _ _ rfl hS) ?_)))) | (refine wpListIn_is (.store _ _ _) rfl ?_; go_must ((refine wpListIn_stp hF rfl rfl (stp_st _ _ _ rfl hS ?_))); clear hS; intro w hS))
      exact leave_one hS (fun W3 hS3 => ⟨_, res_cells2 rfl hS3, hR _ hS3.pick⟩)
    | true =>
      rw [hok2] at n2
      simp only [hok, hok2, Bool.and_self, if_true] at hb
      clear hok hok2
      obtain ⟨l, hl⟩ : ∃ l, alH Hh = l := ⟨_, rfl⟩
      rw [hl] at hb
      have hb' := Lib.hid hb
      clear hb
      gi_wp2_with (first | (refine wpListIn_is (.box 29 _) rfl ?_; go_must (refine wpListIn_stp hF rfl rfl (stp_bx _ _ rfl hS ?_)); clear hS; intro b3 w _ hS) | (refine wpListIn_is (o := ⟨some 6, _, _, _, _, _⟩) (.alloc _) rfl ?_; go_must (refine wpListIn_stp hF rfl rfl (stp_al _ rfl hS ?_)); clear hS; intro b6 w _ hS) | (refine wpListIn_is (.alloc 4) rfl ?_; go_must (refine wpListIn_stp hF rfl rfl (stp_al _ rfl hS ?_)); clear hS; intro b4 w _ hS) | (refine wpListIn_is (.alloc 25) rfl ?_; go_must (refine wpListIn_stp hF rfl rfl (stp_al _ rfl hS ?_)); clear hS; intro b5 w _ hS) | (gi_at_call 58; refine callsIn_wide.2 (hp_copy hS hH _ rfl ?_); clear hS; intro p9 E9 w hH9 _ hS; obtain ⟨a9, rfl⟩ := some_of hH9.nil n1; clear hH9; unfold Ret) | (gi_at_call 84; refine callsIn_wide.2 (pn_copy hS hT _ rfl ?_); clear hS; intro p8 E8 w hH8 hS; obtain ⟨a8, rfl⟩ := some_of hH8.nil n2; clear hH8; unfold Ret) | (gi_at_call 85; refine callsIn_wide.2 (hp_all hS hH l hl ?_); clear hS; intro v Ev w hRS hS; have hone := hRS.one; have hln := hRS.len rfl; unfold Ret) | (refine wpListIn_is (.call { callee := .builtin .len, args := #[_], argTypes := #[_] }) rfl ?_; refine wpListIn_stp hF rfl rfl (stp_val (run_lenv _ _ rfl) ?_)) | (refine wpListIn_is (.load _ _) rfl ?_; go_must ((refine wpListIn_stp hF rfl rfl (stp_val (run_ld _ _ rfl hS) ?_)))) | (refine wpListIn_is (.store _ _ _) rfl ?_; go_must ((refine wpListIn_stp hF rfl rfl (stp_st _ _ _ rfl hS ?_))); clear hS; intro w hS))
      -- the loop
      have hS0 : St w0 bs w (⟨b6, #[.bool true], 4, true⟩ :: ⟨b5, #[.int .i64 0], 25, true⟩ :: ⟨b4, #[.bool false], 4, true⟩ :: ⟨b3, #[.pointer q], 29, true⟩ :: (Ev ++ (E0 ++ (E1 ++ H2)))) := hS.pick
      have hl256 : l.length ≤ 256 := by
        rw [← hl]
        rcases Hh with _ | _ | L
        · exact Nat.zero_le _
        · exact Nat.zero_le _
        · exact tkL_256 hH.1.tb
      clear hS n1 n2 hl
      have hb2 : soF Hh T true (l.drop 0) = (b, e) := hb'.out
      clear hb'
      obtain ⟨I, hI⟩ : ∃ I : Act → World → Prop, ∀ a w, I a w ↔ ∃ (k : Nat) (rs : List Nat) (x : Bool) (u8 u9 u10 u11 u27 u28 u29 u30 u31 u32 u33 u34 u35 u36 u37 u38 u39 u40 u41 u42 u43 u44 u45 u46 u47 u48 u49 u50 u51 u71 : Value), k ≤ l.length ∧ soF Hh T x (l.drop k) = (b, e) ∧ St w0 bs w (⟨b6, #[.bool x], 4, true⟩ :: ⟨b5, #[.int .i64 0], 25, true⟩ :: ⟨b4, #[.bool false], 4, true⟩ :: ⟨b3, #[.pointer q], 29, true⟩ :: (Ev ++ (E0 ++ (E1 ++ H2)))) ∧ Marks w0 w rs ∧ a = { tmps := #[.pointer ph, .pointer q, undef, .pointer (some ⟨b3, 0, none⟩), .pointer (some ⟨b4, 0, none⟩), .pointer (some ⟨b5, 0, none⟩), .pointer (some ⟨b6, 0, none⟩), undef, u8, u9, u10, u11, undef, undef, undef, .pointer ph, .pointer (some a9), .bool false, .bool false, .pointer q, .pointer (some a8), .bool false, .bool false, .pointer ph, v, .int .i64 l.length, .int .i64 (k : Nat), u27, u28, u29, u30, u31, u32, u33, u34, u35, u36, u37, u38, u39, u40, u41, u42, u43, u44, u45, u46, u47, u48, u49, u50, u51, undef, undef, undef, undef, undef, undef, undef, undef, undef, undef, undef, undef, undef, undef, undef, undef, undef, undef, undef, u71, undef], defers := rs.map mkD } := ⟨_, fun _ _ => Iff.rfl⟩
      refine wpIn_loop I (fun a _ => l.length - (intOf (a.tmps.getD 26 undef)).toNat) ((hI _ _).2 ⟨0, [], true, undef, undef, undef, undef, undef, undef, undef, undef, undef, undef, undef, undef, undef, undef, undef, undef, undef, undef, undef, undef, undef, undef, undef, undef, undef, undef, undef, undef, undef, undef, Nat.zero_le _, hb2, hS0, Marks.nil, rfl⟩) ?_
      have hI' := Lib.hid hI
      clear hS0 hb2 hI
      intro a wr ha
      obtain ⟨k, rs, x, u8, u9, u10, u11, u27, u28, u29, u30, u31, u32, u33, u34, u35, u36, u37, u38, u39, u40, u41, u42, u43, u44, u45, u46, u47, u48, u49, u50, u51, u71, hk, hso, hSr, hM, rfl⟩ := (hI'.out _ _).1 ha
      clear ha
      have hso' := Lib.hid hso
      have hSr' := Lib.hid hSr
      have hM' := Lib.hid hM
      have hS := hSr.rebase
      clear hso hSr hM
      by_cases hlt : k < l.length
      case neg =>
        obtain rfl : k = l.length := by omega
        have hfin := hso'.out
        rw [List.drop_length] at hfin
        obtain ⟨rfl, rfl⟩ := Prod.mk.inj hfin
        clear hso' hfin
        gi_wp2_with (first | (refine wpListIn_is (.load _ _) rfl ?_; go_must ((refine wpListIn_stp hF rfl rfl (stp_val (run_ld _ _ rfl hS) ?_)))) | (refine wpListIn_is (.store _ _ _) rfl ?_; go_must ((refine wpListIn_stp hF rfl rfl (stp_st _ _ _ rfl hS ?_))); clear hS; intro w hS))
        exact leave_many (fun W3 hS3 => ⟨_, res_cells2 rfl hS3, hR _ hS3.pick⟩) rs _ (hM'.out.keep hSr'.out hS) (hSr'.out.rejoin hS)
      obtain ⟨⟨s, g⟩, hx⟩ : ∃ r, l.getD k (0, 0) = r := ⟨_, rfl⟩
      obtain ⟨gx, sp, ix, hh, hcx⟩ := hRS.at hlt hx
      have ix := ix k rfl
      simp only at hcx
      have hkI : (k : Int) < l.length := by omega
      have hdr : l.drop k = (s, g) :: l.drop (k + 1) := by
        rw [List.drop_eq_getElem_cons hlt]
        rw [List.getD_eq_getElem?_getD, List.getElem?_eq_getElem hlt] at hx
        rw [← hx]; rfl
      have hso := hso'.out
      rw [hdr] at hso
      simp only [soF] at hso
      obtain ⟨e1, he1⟩ : ∃ q, ofE T s = q := ⟨_, rfl⟩
      obtain ⟨c, hc⟩ : ∃ q, ofR T s = q := ⟨_, rfl⟩
      obtain ⟨e2, he2⟩ : ∃ q, wiH Hh s g = q := ⟨_, rfl⟩
      rw [he1, he2, hc] at hso
      clear hso' hdr hx
      by_cases h1 : e1 = 0
      case neg =>
        have d1 : decide (e1 = 0) = false := decide_eq_false h1
        have q1 : (e1 != 0) = true := by simpa using h1
        rw [if_neg h1] at hso
        obtain ⟨rfl, rfl⟩ := Prod.mk.inj hso
        clear hso
        gi_wp2_with (first | (refine wpListIn_is (o := ⟨some 9, _, _, _, _, _⟩) (.alloc _) rfl ?_; go_must (refine wpListIn_stp hF rfl rfl (stp_al _ rfl hS ?_)); clear hS; intro b9 w _ hS) | (refine wpListIn_is (o := ⟨some 8, _, _, _, _, _⟩) (.alloc _) rfl ?_; go_must (refine wpListIn_stp hF rfl rfl (stp_al _ rfl hS ?_)); clear hS; intro b8 w _ hS) | (refine wpListIn_is (.indexAddr _ _ _) rfl ?_; refine wpListIn_stp hF rfl rfl (stp_val (run_idxv _ _ _ rfl) ?_)) | (gi_at_call 60; refine callsIn_wide.2 (pn_of hS hT s _ _ hc he1 ?_); clear hS; intro w hS; unfold Ret) | (refine wpListIn_is (.load _ _) rfl ?_; go_must (first | refine wpListIn_stp hF rfl rfl (stp_val (run_ld _ _ rfl hS) ?_) | refine wpListIn_stp hF rfl rfl (stp_val (run_lda _ _ rfl hS) ?_))) | (refine wpListIn_is (.store _ _ _) rfl ?_; go_must (first | refine wpListIn_stp hF rfl rfl (stp_st _ _ _ rfl hS ?_) | refine wpListIn_stp hF rfl rfl (stp_sta _ _ _ rfl hS ?_)); clear hS; intro w hS))
        exact leave_many (fun W3 hS3 => ⟨_, res_cells2 rfl hS3, hR _ hS3.pick⟩) rs _ (hM'.out.keep hSr'.out hS) (hSr'.out.rejoin hS)
      subst h1
      rw [if_pos rfl] at hso
      have hW := hH.obw s g
      obtain ⟨⟨n, F, hd⟩, hob⟩ : ∃ o, obR Hh s g = o := ⟨_, rfl⟩
      rw [hob] at hW
      have hob' := Lib.hid hob
      have hF4 : F.length = 4 := hW.len
      have hobA := objAll (n := n) (h := hd) hF4
      have hov : SetsAt (objC 0 zero4 false) 0 (obC (n, F, hd)) (objC n F hd) := objOver rfl hF4
      have hsz : SizeIs (obC (n, F, hd)) 10 := objSize hF4
      have hon : OneCells (obC (n, F, hd)) := objOnes
      by_cases h2 : e2 = 0
      case neg =>
        clear hob
        have d1 : decide (e2 = 0) = false := decide_eq_false h2
        have q1 : (e2 != 0) = true := by simpa using h2
        rw [if_neg h2] at hso
        obtain ⟨rfl, rfl⟩ := Prod.mk.inj hso
        clear hso
        gi_wp2_with (first | (refine wpListIn_is (o := ⟨some 9, _, _, _, _, _⟩) (.alloc _) rfl ?_; go_must (refine wpListIn_stp hF rfl rfl (stp_al _ rfl hS ?_)); clear hS; intro b9 w _ hS) | (refine wpListIn_is (o := ⟨some 8, _, _, _, _, _⟩) (.alloc _) rfl ?_; go_must (refine wpListIn_stp hF rfl rfl (stp_al _ rfl hS ?_)); clear hS; intro b8 w _ hS) | (refine wpListIn_is (o := ⟨some 11, _, _, _, _, _⟩) (.alloc _) rfl ?_; go_must (refine wpListIn_stp hF rfl rfl (stp_al _ rfl hS ?_)); clear hS; intro b11 w _ hS) | (refine wpListIn_is (.indexAddr _ _ _) rfl ?_; refine wpListIn_stp hF rfl rfl (stp_val (run_idxv _ _ _ rfl) ?_)) | (gi_at_call 60; refine callsIn_wide.2 (pn_of hS hT s _ _ hc he1 ?_); clear hS; intro w hS; unfold Ret) | (gi_at_call 81; refine callsIn_wide.2 (hp_object hS hH s g _ _ hob'.out he2 ?_); clear hS; intro w _ hS; unfold Ret) | (refine wpListIn_is (.load _ _) rfl ?_; go_must (first | refine wpListIn_stp hF rfl rfl (stp_val (run_ld _ _ rfl hS) ?_) | refine wpListIn_stp hF rfl rfl (stp_val (run_lda _ _ rfl hS) ?_))) | (refine wpListIn_is (.store _ _ _) rfl ?_; go_must (first | refine wpListIn_stp hF rfl rfl (stp_st _ _ _ rfl hS ?_) | refine wpListIn_stp hF rfl rfl (stp_sta _ _ _ rfl hS ?_)); clear hS; intro w hS))
        exact leave_many (fun W3 hS3 => ⟨_, res_cells2 rfl hS3, hR _ hS3.pick⟩) rs _ (hM'.out.keep hSr'.out hS) (hSr'.out.rejoin hS)
      subst h2
      rw [if_pos rfl] at hso
      have hcd : chdR Hh s g = chL Hh (rfF F) := by
        rw [chdR, if_pos he2]
        rw [obR, if_pos he2] at hob
        rw [hob]
      rw [hcd] at hso
      have hso' := Lib.hid hso
      clear hso hcd hob hW
      gi_wp2_with (first | (refine wpListIn_is (o := ⟨some 9, _, _, _, _, _⟩) (.alloc _) rfl ?_; go_must (refine wpListIn_stp hF rfl rfl (stp_al _ rfl hS ?_)); clear hS; intro b9 w _ hS) | (refine wpListIn_is (o := ⟨some 8, _, _, _, _, _⟩) (.alloc _) rfl ?_; go_must (refine wpListIn_stp hF rfl rfl (stp_al _ rfl hS ?_)); clear hS; intro b8 w _ hS) | (refine wpListIn_is (o := ⟨some 11, _, _, _, _, _⟩) (.alloc _) rfl ?_; go_must (refine wpListIn_stp hF rfl rfl (stp_al _ rfl hS ?_)); clear hS; intro b11 w _ hS) | (refine wpListIn_is (.indexAddr _ _ _) rfl ?_; refine wpListIn_stp hF rfl rfl (stp_val (run_idxv _ _ _ rfl) ?_)) | (gi_at_call 60; refine callsIn_wide.2 (pn_of hS hT s _ _ hc he1 ?_); clear hS; intro w hS; unfold Ret) | (gi_at_call 81; refine callsIn_wide.2 (hp_object hS hH s g _ _ hob'.out he2 ?_); clear hS; intro w _ hS; unfold Ret) | (gi_at_call 83; refine callsIn_wide.2 (chl_clo hF4 hS ?_); clear hS; intro bh bx w hS; unfold Ret) | (refine wpListIn_is (.load _ _) rfl ?_; go_must (first | refine wpListIn_stp hF rfl rfl (stp_val (run_ld _ _ rfl hS) ?_) | refine wpListIn_stp hF rfl rfl (stp_val (run_lda _ _ rfl hS) ?_))) | (refine wpListIn_is (.store _ _ _) rfl ?_; go_must (first | refine wpListIn_stp hF rfl rfl (stp_st _ _ _ rfl hS ?_) | refine wpListIn_stp hF rfl rfl (stp_sta _ _ _ rfl hS ?_)); clear hS; intro w hS))
      have hSr2 : St wr _ w (⟨b6, #[.bool x], 4, true⟩ :: ⟨bh, #[.pointer ph], 24, true⟩ :: ⟨bx, objC n F hd, 80, true⟩ :: ⟨b11, objC n F hd, 80, true⟩ :: ⟨b9, #[.int .i64 c], 3, true⟩ :: ⟨b8, #[.int .i64 s, .int .u32 g], 47, true⟩ :: ⟨b5, #[.int .i64 0], 25, true⟩ :: ⟨b4, #[.bool false], 4, true⟩ :: ⟨b3, #[.pointer q], 29, true⟩ :: (Ev ++ (E0 ++ (E1 ++ H2)))) := hS.pick
      clear hS
      have hSb := hSr2.rebase
      have hM2 := hM'.out.keep hSr'.out hSr2
      have hnd := hSb.nd
      obtain ⟨lr, hlr⟩ : ∃ lr, rfF F = lr := ⟨_, rfl⟩
      rw [hlr] at hso'
      have hstop := chl_stops (m := 3 - 1) (p := ph) (T := Hh) (n := n) (hd := hd) (E := E0) hlr hF4 (by omega) bh bx (W := w) (fun e he => hSb.get _ (by
        simp only [List.mem_cons, List.mem_append] at he ⊢
        rcases he with rfl | rfl | he <;> simp [*])) (hnd.sublist (.cons _ (.cons_cons _ (.cons_cons _ (.cons _ (.cons _ (.cons _ (.cons _ (.cons _ (.cons _ (List.sublist_append_of_sublist_right (List.sublist_append_left _ _)))))))))))) hH
      refine range_stT (w0 := w) (bs := _) (X := Bool) (Y := Bool × Int) (by omega) (gf := 109) (lb := #[.pointer (some ⟨bx, 0, none⟩), .pointer (some ⟨bh, 0, none⟩)]) rfl (enters _ (by kernel_rfl)) 47
        (K := ⟨bh, #[.pointer ph], 24, true⟩ :: ⟨bx, objC n F hd, 80, true⟩ :: E0) (Nat.le_refl _) ?_
        hstop (fun _ => rfl)
        (fun pre y => chS T c x (pre.map (fun a => (lr.getD a.i (0, 0)).1)) = (y, 0)) (fun _ y => (⟨b6, #[.bool y], 4, true⟩ :: ⟨bh, #[.pointer ph], 24, true⟩ :: ⟨bx, objC n F hd, 80, true⟩ :: ⟨b11, objC n F hd, 80, true⟩ :: ⟨b9, #[.int .i64 c], 3, true⟩ :: ⟨b8, #[.int .i64 s, .int .u32 g], 47, true⟩ :: ⟨b5, #[.int .i64 0], 25, true⟩ :: ⟨b4, #[.bool false], 4, true⟩ :: ⟨b3, #[.pointer q], 29, true⟩ :: (Ev ++ (E0 ++ (E1 ++ H2))))) ?_ ?_
        (fun cd pre y => cd = .ret ∧ y.2 ≠ 0 ∧ chS T c x (pre.map (fun a => (lr.getD a.i (0, 0)).1)) = (false, y.2)) (fun _ _ y => (⟨b6, #[.bool y.1], 4, true⟩ :: ⟨bh, #[.pointer ph], 24, true⟩ :: ⟨bx, objC n F hd, 80, true⟩ :: ⟨b11, objC n F hd, 80, true⟩ :: ⟨b9, #[.int .i64 c], 3, true⟩ :: ⟨b8, #[.int .i64 s, .int .u32 g], 47, true⟩ :: ⟨b5, #[.int .i64 y.2], 25, true⟩ :: ⟨b4, #[.bool false], 4, true⟩ :: ⟨b3, #[.pointer q], 29, true⟩ :: (Ev ++ (E0 ++ (E1 ++ H2)))))
        (x0 := x) rfl hSb (fun y => { tmps := #[.pointer ph, .pointer q, undef, .pointer (some ⟨b3, 0, none⟩), .pointer (some ⟨b4, 0, none⟩), .pointer (some ⟨b5, 0, none⟩), .pointer (some ⟨b6, 0, none⟩), undef, .pointer (some ⟨b8, 0, none⟩), .pointer (some ⟨b9, 0, none⟩), .int .i64 0, .pointer (some ⟨b11, 0, none⟩), .int .i64 (lr.getD y.i (0, 0)).1, undef, undef, .pointer ph, .pointer (some a9), .bool false, .bool false, .pointer q, .pointer (some a8), .bool false, .bool false, .pointer ph, v, .int .i64 l.length, .int .i64 (k : Nat), .bool true, .pointer (some ⟨gx, k * 2, none⟩), .agg #[.int .i64 s, .int .u32 g], .tuple #[.int .i64 c, .int .i64 0], .pointer q, .pointer (some ⟨b8, 0, none⟩), .int .i64 s, .tuple #[.int .i64 c, .int .i64 0], .int .i64 c, .int .i64 0, .int .i64 0, .bool false, u39, .tuple #[.agg (obC (n, F, hd)), .int .i64 0], .pointer ph, .agg #[.int .i64 s, .int .u32 g], .tuple #[.agg (obC (n, F, hd)), .int .i64 0], .agg (obC (n, F, hd)), .int .i64 0, .int .i64 0, .bool false, u48, .pointer ph, .agg (objC n F hd), .func (.func 109) #[] #[.pointer (some ⟨bx, 0, none⟩), .pointer (some ⟨bh, 0, none⟩)], .int .i64 (lr.getD y.i (0, 0)).1, undef, undef, undef, undef, undef, undef, undef, undef, undef, undef, undef, undef, undef, undef, undef, undef, undef, undef, u71, undef], defers := [] }) ?assign ?body ?done ?stop
      · intro e he
        refine hSb.lt ?_
        simp only [List.mem_cons, List.mem_append] at he ⊢
        rcases he with rfl | rfl | he <;> simp [*]
      · intro _ _ _ e he
        simp only [List.mem_cons, List.mem_append] at he ⊢
        rcases he with rfl | rfl | he <;> simp [*]
      · rintro _ y1 _ y2 _ _ e he ht
        simp only [List.mem_cons] at he ⊢
        rcases he with rfl | he
        · exact absurd (show 4 = 47 from ht) (by decide)
        · exact .inr he
      case assign =>
        clear hnd hstop hSb hSr2 hM2 hSr' hM' hR hso'
        intro l x W K hK
        have hF := wide_in l
        gi_wp2
        exact hK
      case body =>
        clear hnd hstop hSb hSr2 hM2 hSr' hM' hR hso'
        rintro l pre y el w2 hch hlt hS
        have hF := wide_in l
        obtain ⟨s', hs'⟩ : ∃ q, (lr.getD y.i (0, 0)).1 = q := ⟨_, rfl⟩
        have hsn := chS_snoc hch [s']
        have hmap : (pre ++ [y]).map (fun a : ChOf Hh lr => (lr.getD a.i (0, 0)).1) = pre.map (fun a => (lr.getD a.i (0, 0)).1) ++ [s'] := by rw [List.map_append, ← hs']; rfl
        simp only [chS] at hsn
        obtain ⟨e1, he1'⟩ : ∃ q, ofE T s' = q := ⟨_, rfl⟩
        obtain ⟨c', hc'⟩ : ∃ q, ofR T s' = q := ⟨_, rfl⟩
        rw [he1', hc'] at hsn
        by_cases h1 : e1 = 0
        case neg =>
          have d1 : decide (e1 = 0) = false := decide_eq_false h1
          have q1 : (e1 != 0) = true := by simpa using h1
          rw [if_neg h1] at hsn
          have hsn' := Lib.hid hsn
          have hmap' := Lib.hid hmap
          clear hsn hmap hch
          rw [hs']
          gi_wp2_with (first | (gi_at_call 60; refine callsIn_wide.2 (pn_of hS hT s' _ _ hc' he1' ?_); clear hS; intro w hS; unfold Ret) | (refine wpListIn_is (.load _ _) rfl ?_; go_must ((refine wpListIn_stp hF rfl rfl (stp_val (run_ld _ _ rfl hS) ?_)))) | (refine wpListIn_is (.store _ _ _) rfl ?_; go_must ((refine wpListIn_stp hF rfl rfl (stp_st _ _ _ rfl hS ?_))); clear hS; intro w hS))
          exact ⟨(el, e1), ⟨rfl, h1, (congrArg _ hmap'.out).trans hsn'.out⟩, hS.pick⟩
        subst h1
        rw [if_pos rfl] at hsn
        have hsn' := Lib.hid hsn
        have hmap' := Lib.hid hmap
        clear hsn hmap hch
        rw [hs']
        cases el with
        | false =>
          gi_wp2_with (first | (refine wpListIn_off hF rfl rfl ?_) | (gi_at_call 60; refine callsIn_wide.2 (pn_of hS hT s' _ _ hc' he1' ?_); clear hS; intro w hS; unfold Ret) | (refine wpListIn_is (.load _ _) rfl ?_; go_must ((refine wpListIn_stp hF rfl rfl (stp_val (run_ld _ _ rfl hS) ?_)))) | (refine wpListIn_is (.store _ _ _) rfl ?_; go_must ((refine wpListIn_stp hF rfl rfl (stp_st _ _ _ rfl hS ?_))); clear hS; intro w hS))
          exact ⟨false, (congrArg _ hmap'.out).trans hsn'.out, hS.pick⟩
        | true =>
          by_cases h2 : c = 2
          case neg =>
            have d1 : decide (c = 2) = false := decide_eq_false h2
            have q1 : (c != 2) = true := by simpa using h2
            gi_wp2_with (first | (gi_at_call 60; refine callsIn_wide.2 (pn_of hS hT s' _ _ hc' he1' ?_); clear hS; intro w hS; unfold Ret) | (refine wpListIn_is (.load _ _) rfl ?_; go_must ((refine wpListIn_stp hF rfl rfl (stp_val (run_ld _ _ rfl hS) ?_)))) | (refine wpListIn_is (.store _ _ _) rfl ?_; go_must ((refine wpListIn_stp hF rfl rfl (stp_st _ _ _ rfl hS ?_))); clear hS; intro w hS))
            exact ⟨true, (congrArg _ hmap'.out).trans (hsn'.out.trans (by simp [h2, chS])), hS.pick⟩
          subst h2
          by_cases h3 : c' = 0
          case neg =>
            have d1 : decide (c' = 0) = false := decide_eq_false h3
            have q1 : (c' != 0) = true := by simpa using h3
            gi_wp2_with (first | (gi_at_call 60; refine callsIn_wide.2 (pn_of hS hT s' _ _ hc' he1' ?_); clear hS; intro w hS; unfold Ret) | (refine wpListIn_is (.load _ _) rfl ?_; go_must ((refine wpListIn_stp hF rfl rfl (stp_val (run_ld _ _ rfl hS) ?_)))) | (refine wpListIn_is (.store _ _ _) rfl ?_; go_must ((refine wpListIn_stp hF rfl rfl (stp_st _ _ _ rfl hS ?_))); clear hS; intro w hS))
            exact ⟨true, (congrArg _ hmap'.out).trans (hsn'.out.trans (by simp [h3, chS])), hS.pick⟩
          subst h3
          gi_wp2_with (first | (gi_at_call 60; refine callsIn_wide.2 (pn_of hS hT s' _ _ hc' he1' ?_); clear hS; intro w hS; unfold Ret) | (refine wpListIn_is (.load _ _) rfl ?_; go_must ((refine wpListIn_stp hF rfl rfl (stp_val (run_ld _ _ rfl hS) ?_)))) | (refine wpListIn_is (.store _ _ _) rfl ?_; go_must ((refine wpListIn_stp hF rfl rfl (stp_st _ _ _ rfl hS ?_))); clear hS; intro w hS))
          exact ⟨false, (congrArg _ hmap'.out).trans hsn'.out, hS.pick⟩
      case done =>
        rintro d xs y w2 hxs hch hS0 hd
        have hSw := hSr2.rejoin hS0
        have hMw := (hM'.out.keep hSr'.out hSw).one hM2.lt (Nat.le_trans hSr'.out.chg.size hSr2.chg.size) hd
        have hch2 : chS T c x (chL Hh lr) = (y, 0) := by
          rw [← hch, chL, ← hxs, List.map_map]; rfl
        have hso := hso'.out
        rw [hch2, if_pos rfl] at hso
        have hso2 := Lib.hid hso
        have hS := hSr'.out.rejoin hSw
        have hS1 : St w0 bs w2 (⟨b6, #[.bool y], 4, true⟩ :: ⟨b5, #[.int .i64 0], 25, true⟩ :: ⟨b4, #[.bool false], 4, true⟩ :: ⟨b3, #[.pointer q], 29, true⟩ :: (Ev ++ (E0 ++ (E1 ++ H2)))) := hS.pick
        clear hso' hso hch hch2 hstop hnd hSb hSr2 hM2 hM' hSw hS0 hS
        gi_wp2_with ((refine wpListIn_off hF rfl rfl ?_))
        have ek : (k : Int) + 1 = ((k + 1 : Nat) : Int) := by omega
        try rw [ek]
        refine ⟨(hI'.out _ _).2 ⟨k + 1, d :: rs, y, _, _, _, _, _, _, _, _, _, _, _, _, _, _, _, _, _, _, _, _, _, _, _, _, _, _, _, _, _, _, by omega, hso2.out, hS1, hMw, rfl⟩, ?_⟩
        simp [intOf]; omega
      case stop =>
        rintro d cd pre y w2 ⟨kk, hk2, hst, hpre⟩ ⟨rfl, hne, hbad⟩ hS0 hd
        have hSw := hSr2.rejoin hS0
        have hMw := (hM'.out.keep hSr'.out hSw).one hM2.lt (Nat.le_trans hSr'.out.chg.size hSr2.chg.size) hd
        have hch2 : chS T c x (chL Hh lr) = (false, y.2) := by
          obtain ⟨B, hB⟩ := gl_pre hst hk2
          have := chS_bad hne hbad (B.map (fun i => (lr.getD i (0, 0)).1))
          rw [← this, chL, hB, ← hpre, List.map_append, List.map_map]
          rfl
        have hso := hso'.out
        rw [hch2, if_neg hne] at hso
        obtain ⟨rfl, rfl⟩ := Prod.mk.inj hso
        have hS := hSr'.out.rejoin hSw
        clear hso' hso hch2 hstop hnd hSb hSr2 hM2 hM' hSw hS0 hbad hpre hst
        gi_wp2
        exact leave_many (fun W3 hS3 => ⟨_, res_cells2 rfl hS3, hR _ hS3.pick⟩) (d :: rs) _ hMw hS
end Go.Proofs.YtgpjanfphgjbbaaGreat
