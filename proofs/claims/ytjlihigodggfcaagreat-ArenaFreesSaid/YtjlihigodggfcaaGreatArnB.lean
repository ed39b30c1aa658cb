/-
  Arenas: giving a root.
-/
import Derived.Test.YtjlihigodggfcaaGreatArn
set_option linter.unusedSimpArgs false
set_option linter.unusedVariables false
namespace Go.Proofs.YtjlihigodggfcaaGreat
open Go Go.RowKit Go.Mm
variable {R : Ending → World → Prop} {w : World} {w0 : World} {bs : List Nat} {H H' H1 E : List Ent}

/-- One root more. -/
def skP (x : Sk) (r : Rf) : Sk := (x.1, x.2.1 ++ [r], x.2.2.tail)
theorem skP_set {x : Sk} (hW : SkW x) (h : x.2.1.length < 32) (r : Rf) : (x.2.1 ++ x.2.2).set x.2.1.length r = (x.2.1 ++ [r]) ++ x.2.2.tail := by
  have := hW.len
  obtain ⟨b, l, s⟩ := x
  simp only at *
  cases s with
  | nil => simp at this; omega
  | cons y s => simp
theorem skP_w {x : Sk} (hW : SkW x) (h : x.2.1.length < 32) {r : Rf} (hr : (0 ≤ r.1 ∧ r.1 < 256) ∧ 1 ≤ r.2 ∧ r.2 ≤ 4294967295) : SkW (skP x r) := by
  have := hW.len
  refine ⟨by simp only [skP, List.length_append, List.length_tail, List.length_singleton]; omega, fun y hy => ?_⟩
  rcases List.mem_append.1 hy with hy | hy
  · exact hW.ok y hy
  · rw [List.mem_singleton.1 hy]; exact hr

section
variable {b bo fl ff m : Nat} {capl capf : List Value} {z el : Int} {k : Nat} {ps : List (Option Addr)} {pg : Option Addr} {sk : Sk} {Hl : List Ent}
set_option maxHeartbeats 1000000 in
set_option maxRecDepth 100000 in
/-- There is no such mutator. -/
theorem gi_mu {b bo : Nat} {z : Int} {k : Nat} {ps : List (Option Addr)} {pg : Option Addr} {fv gv : Value} [OneCell fv] [OneCell gv] (hO : St w0 bs w H) [hH : Has H b (arC (some ⟨bo, 0, none⟩) z k ps pg) 69] (hk : k ≤ 4) (hps : ps.length = 4) (m : Int) (hm : ¬ (0 ≤ m ∧ m < k))
    (hR : ∀ w', St w0 bs w' H → Ret R (.tuple #[.agg #[.int .i64 0, .int .u32 0], .int .i64 3]) w') : Calls Tryz.prog 57 #[.pointer (some ⟨b, 0, none⟩), .int .i64 m, fv, gv] w R := by
  have hS := hO
  clear hO
  have hq' := Lib.hid (show (if 0 ≤ m ∧ m < k then ps.getD m.toNat none else none) = none by rw [if_neg hm])
  have he' := Lib.hid (show (if 0 ≤ m ∧ m < k then (0 : Int) else 3) = 3 by rw [if_neg hm])
  clear hm
  go_enter Tryz.func57, Tryz.ntmps57
  go_wp2_with (first | (refine wpList_is (.alloc 25) rfl ?_; go_must (refine wpList_stp (by kernel_rfl) (stp_al _ rfl hS ?_)); clear hS; intro b8 w _ hS) | (go_at_call 71; refine ar_stk hS hk hps m none 3 hq'.out he'.out ?_; clear hS; intro w hS; unfold Ret) | (refine wpList_is (.build _ _) rfl ?_; go_must (refine wpList_stp (by kernel_rfl) (stp_val (run_bd _ _ rfl) ?_))) | (refine wpList_is (.store _ _ _) rfl ?_; go_must ((refine wpList_stp (by kernel_rfl) (stp_sta _ _ _ rfl hS ?_))); clear hS; intro w hS))
  refine bodyPost_ret (res_ct rfl hS) rfl ?_
  exact hR _ hS.pick
set_option maxHeartbeats 1000000 in
set_option maxRecDepth 100000 in
/-- No arena. -/
theorem gi_no {p : Option Addr} {fv gv : Value} [OneCell fv] [OneCell gv] (hO : St w0 bs w H) (hN : NoA p H) (m : Int)
    (hR : ∀ w', St w0 bs w' H → Ret R (.tuple #[.agg #[.int .i64 0, .int .u32 0], .int .i64 1]) w') : Calls Tryz.prog 57 #[.pointer p, .int .i64 m, fv, gv] w R := by
  have hS := hO
  clear hO
  go_enter Tryz.func57, Tryz.ntmps57
  go_wp2_with (first | (refine wpList_is (.alloc 25) rfl ?_; go_must (refine wpList_stp (by kernel_rfl) (stp_al _ rfl hS ?_)); clear hS; intro b8 w _ hS) | (go_at_call 71; refine ar_stkn hS hN.cons m ?_; clear hS; intro w hS; unfold Ret) | (refine wpList_is (.build _ _) rfl ?_; go_must (refine wpList_stp (by kernel_rfl) (stp_val (run_bd _ _ rfl) ?_))) | (refine wpList_is (.store _ _ _) rfl ?_; go_must ((refine wpList_stp (by kernel_rfl) (stp_sta _ _ _ rfl hS ?_))); clear hS; intro w hS))
  refine bodyPost_ret (res_ct rfl hS) rfl ?_
  exact hR _ hS.pick

set_option maxHeartbeats 1000000 in
set_option maxRecDepth 100000 in
/-- What is looked at is refused, or there is no room. -/
theorem gi_err (hO : St w0 bs w H) [hH : Has H b (arC (some ⟨bo, 0, none⟩) z k ps pg) 69] (hk : k ≤ 4) (hps : ps.length = 4) (hm : m < k) (hp : ps.getD m none = some ⟨sk.1, 0, none⟩) (hW : SkW sk)
    [hL : Has Hl sk.1 (rkB sk.2.1.length (sk.2.1 ++ sk.2.2)) 110] (henl : ∀ args w, (callFunc fl args).run Tryz.prog w = .ok (.enter fl args) w) (hex : el ≠ 0 ∨ sk.2.1.length = 32) (e : Int) (hee : e = if el = 0 then 4 else el) {gv : Value} [OneCell gv]
    (hlook : ∀ X w', St w0 bs w' (H ++ X) → Calls Tryz.prog fl capl.toArray w' (fun e w'' => e = .returned (.int .i64 el) ∧ St w0 bs w'' (Hl ++ X)))
    (hR : ∀ w', St w0 bs w' Hl → Ret R (.tuple #[.agg #[.int .i64 0, .int .u32 0], .int .i64 e]) w') : Calls Tryz.prog 57 #[.pointer (some ⟨b, 0, none⟩), .int .i64 (m : Int), .func (.func fl) #[] capl.toArray, gv] w R := by
  have hS := hO
  clear hO
  have hq' := Lib.hid (show (if (0 : Int) ≤ (m : Int) ∧ (m : Int) < k then ps.getD (m : Int).toNat none else none) = some ⟨sk.1, 0, none⟩ by rw [if_pos (by omega), Int.toNat_natCast]; exact hp)
  have he' := Lib.hid (show (if (0 : Int) ≤ (m : Int) ∧ (m : Int) < k then (0 : Int) else 3) = 0 by rw [if_pos (by omega)])
  have hlen := hW.len
  by_cases h0 : el = 0
  · subst h0
    have h32 : sk.2.1.length = 32 := by omega
    rw [if_pos rfl] at hee
    subst hee
    rw [h32] at hL
    clear hm hp hW hlen hex h32
    go_enter Tryz.func57, Tryz.ntmps57
    go_wp2_with (first | (refine wpList_is (.alloc 25) rfl ?_; go_must (refine wpList_stp (by kernel_rfl) (stp_al _ rfl hS ?_)); clear hS; intro b8 w _ hS) | (go_at_call 71; refine ar_stk hS hk hps m (some ⟨sk.1, 0, none⟩) 0 hq'.out he'.out ?_; clear hS; intro w hS; unfold Ret) | (refine wpList_is (.call { callee := .value (.tmp 24), args := #[], argTypes := #[] }) rfl ?_; refine wpList_clo _ _ (by kernel_rfl) rfl henl ?_; refine (hlook _ _ (show St w0 bs _ (H ++ [⟨b8, #[.int .i64 0, .int .u32 0], 25, true⟩]) from hS.pick)).mono ?_; clear hS; rintro e w ⟨rfl, hS⟩; refine ⟨_, rfl, ?_⟩) | (go_at_call 98; refine rk_len hS (n := 32) (by decide) ?_; clear hS; intro w hS; unfold Ret) | (refine wpList_is (.build _ _) rfl ?_; go_must (refine wpList_stp (by kernel_rfl) (stp_val (run_bd _ _ rfl) ?_))) | (refine wpList_is (.store _ _ _) rfl ?_; go_must ((refine wpList_stp (by kernel_rfl) (stp_sta _ _ _ rfl hS ?_))); clear hS; intro w hS))
    refine bodyPost_ret (res_ct rfl hS) rfl ?_
    exact hR _ hS.pick
  · rw [if_neg h0] at hee
    subst hee
    have q : (e != 0) = true := by simpa using h0
    clear hm hp hW hlen hex
    go_enter Tryz.func57, Tryz.ntmps57
    go_wp2_with (first | (refine wpList_is (.alloc 25) rfl ?_; go_must (refine wpList_stp (by kernel_rfl) (stp_al _ rfl hS ?_)); clear hS; intro b8 w _ hS) | (go_at_call 71; refine ar_stk hS hk hps m (some ⟨sk.1, 0, none⟩) 0 hq'.out he'.out ?_; clear hS; intro w hS; unfold Ret) | (refine wpList_is (.call { callee := .value (.tmp 24), args := #[], argTypes := #[] }) rfl ?_; refine wpList_clo _ _ (by kernel_rfl) rfl henl ?_; refine (hlook _ _ (show St w0 bs _ (H ++ [⟨b8, #[.int .i64 0, .int .u32 0], 25, true⟩]) from hS.pick)).mono ?_; clear hS; rintro e w ⟨rfl, hS⟩; refine ⟨_, rfl, ?_⟩) | (refine wpList_is (.build _ _) rfl ?_; go_must (refine wpList_stp (by kernel_rfl) (stp_val (run_bd _ _ rfl) ?_))) | (refine wpList_is (.store _ _ _) rfl ?_; go_must ((refine wpList_stp (by kernel_rfl) (stp_sta _ _ _ rfl hS ?_))); clear hS; intro w hS))
    refine bodyPost_ret (res_ct rfl hS) rfl ?_
    exact hR _ hS.pick

set_option maxHeartbeats 1000000 in
set_option maxRecDepth 100000 in
/-- It is given. -/
theorem gi_ok (hO : St w0 bs w H) [hH : Has H b (arC (some ⟨bo, 0, none⟩) z k ps pg) 69] (hk : k ≤ 4) (hps : ps.length = 4) (hm : m < k) (hp : ps.getD m none = some ⟨sk.1, 0, none⟩) (hW : SkW sk) (hlt : sk.2.1.length < 32)
    [hL : Has Hl sk.1 (rkB sk.2.1.length (sk.2.1 ++ sk.2.2)) 110] (henl : ∀ args w, (callFunc fl args).run Tryz.prog w = .ok (.enter fl args) w) (henf : ∀ args w, (callFunc ff args).run Tryz.prog w = .ok (.enter ff args) w)
    (r : Rf) (hr : (0 ≤ r.1 ∧ r.1 < 256) ∧ 1 ≤ r.2) (Φ : List Ent → Prop)
    (hlook : ∀ X w', St w0 bs w' (H ++ X) → Calls Tryz.prog fl capl.toArray w' (fun e w'' => e = .returned (.int .i64 0) ∧ St w0 bs w'' (Hl ++ X)))
    (hfind : ∀ X w', St w0 bs w' (Hl ++ X) → Calls Tryz.prog ff capf.toArray w' (fun e w'' => ∃ Y, e = .returned (.tuple #[.agg #[.int .i64 r.1, .int .u32 r.2], .int .i64 0]) ∧ Φ Y ∧ St w0 bs w'' (skE sk :: (Y ++ X))))
    (hR : ∀ Y w', Φ Y → St w0 bs w' (skE (skP sk r) :: Y) → Ret R (.tuple #[.agg #[.int .i64 r.1, .int .u32 r.2], .int .i64 0]) w') :
    Calls Tryz.prog 57 #[.pointer (some ⟨b, 0, none⟩), .int .i64 (m : Int), .func (.func fl) #[] capl.toArray, .func (.func ff) #[] capf.toArray] w R := by
  have hS := hO
  clear hO
  have hq' := Lib.hid (show (if (0 : Int) ≤ (m : Int) ∧ (m : Int) < k then ps.getD (m : Int).toNat none else none) = some ⟨sk.1, 0, none⟩ by rw [if_pos (by omega), Int.toNat_natCast]; exact hp)
  have he' := Lib.hid (show (if (0 : Int) ≤ (m : Int) ∧ (m : Int) < k then (0 : Int) else 3) = 0 by rw [if_pos (by omega)])
  have hlen := hW.len
  have hset := skP_set hW hlt r
  have hset' := Lib.hid hset
  obtain ⟨n, hn⟩ : ∃ n, sk.2.1.length = n := ⟨_, rfl⟩
  have hn' := Lib.hid hn
  obtain ⟨r1, r2⟩ := r
  obtain ⟨hr1, hr2⟩ := hr
  simp only at hr1 hr2
  have hlt' : n < 32 := by omega
  have hL32 : (sk.2.1 ++ sk.2.2).length = 32 := by rw [List.length_append]; exact hlen
  have hL32' := Lib.hid hL32
  have d1 : decide (32 ≤ n) = false := decide_eq_false (by omega)
  have d1' : decide (32 ≤ (n : Int)) = false := decide_eq_false (by omega)
  rw [hn] at hL
  clear hm hp hW hlen hset hlt hn hL32
  go_enter Tryz.func57, Tryz.ntmps57
  go_wp2_with (first | (refine wpList_is (o := ⟨some 8, _, _, _, _, _⟩) (.alloc _) rfl ?_; go_must (refine wpList_stp (by kernel_rfl) (stp_al _ rfl hS ?_)); clear hS; intro b8 w _ hS) | (refine wpList_is (.alloc 25) rfl ?_; go_must (refine wpList_stp (by kernel_rfl) (stp_al _ rfl hS ?_)); clear hS; intro b13 w _ hS) | (go_at_call 71; refine ar_stk hS hk hps m (some ⟨sk.1, 0, none⟩) 0 hq'.out he'.out ?_; clear hS; intro w hS; unfold Ret) | (refine wpList_is (.call { callee := .value (.tmp 24), args := #[], argTypes := #[] }) rfl ?_; refine wpList_clo _ _ (by kernel_rfl) rfl henl ?_; refine (hlook _ _ (show St w0 bs _ (H ++ [⟨b8, #[.int .i64 0, .int .u32 0], 25, true⟩]) from hS.pick)).mono ?_; clear hS; rintro e w ⟨rfl, hS⟩; refine ⟨_, rfl, ?_⟩) | (go_at_call 98; refine rk_len hS (n := n) (by omega) ?_; clear hS; intro w hS; unfold Ret) | (refine wpList_is (.call { callee := .value (.tmp 35), args := #[], argTypes := #[] }) rfl ?_; refine wpList_clo _ _ (by kernel_rfl) rfl henf ?_; refine (hfind _ _ hS).mono ?_; clear hS; rintro e w ⟨Y, rfl, hY, hS⟩; refine ⟨_, rfl, ?_⟩) | (go_at_call 99; refine rk_push (n := n) (L := sk.2.1 ++ sk.2.2) (H := ⟨b13, #[.int .i64 r1, .int .u32 r2], 25, true⟩ :: (Y ++ [⟨b8, #[.int .i64 0, .int .u32 0], 25, true⟩])) (by have hS := hS.pick (H' := skE sk :: (⟨b13, #[.int .i64 r1, .int .u32 r2], 25, true⟩ :: (Y ++ [⟨b8, #[.int .i64 0, .int .u32 0], 25, true⟩]))); unfold skE at hS; rw [hn'.out] at hS; exact hS) hL32'.out hlt' r1 r2 hr1 hr2 ?_; clear hS; intro w hS; unfold Ret) | (refine wpList_is (.load _ _) rfl ?_; go_must ((refine wpList_stp (by kernel_rfl) (stp_val (run_lda _ _ rfl hS) ?_)))) | (refine wpList_is (.store _ _ _) rfl ?_; go_must ((refine wpList_stp (by kernel_rfl) (stp_sta _ _ _ rfl hS ?_))); clear hS; intro w hS))
  refine bodyPost_ret (res_ct rfl hS) rfl ?_
  refine hR Y _ hY ?_
  have hS := hS.pick (H' := ⟨sk.1, rkB ((n + 1 : Nat) : Int) ((sk.2.1 ++ sk.2.2).set n (r1, r2)), 110, true⟩ :: Y)
  have h1 := hset'.out
  rw [hn'.out] at h1
  rw [h1] at hS
  have h2 : (skP sk (r1, r2)).2.1.length = n + 1 := by simp [skP, hn'.out]
  unfold skE
  rw [h2]
  exact hS
end
end Go.Proofs.YtjlihigodggfcaaGreat
