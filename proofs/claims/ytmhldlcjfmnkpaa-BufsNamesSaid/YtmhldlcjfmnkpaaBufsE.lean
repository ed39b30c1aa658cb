/-
  Pools of buffers: the buffers that are pinned, as a slice; how many.
-/
import Derived.Test.YtmhldlcjfmnkpaaBufsD
import Derived.Test.YtmhldlcjfmnkpaaIterP
set_option linter.unusedSimpArgs false
set_option linter.unusedVariables false
namespace Go.Mm
open Go Go.RowKit
instance flatThree {t u v : Value} {us cs : List Value} [h : FlatOf us cs] : FlatOf (.agg (List.toArray [t, u, v]) :: us) (t :: u :: v :: cs) := ⟨by rw [List.flatMap_cons, h.h]; rfl⟩
end Go.Mm
namespace Go.Proofs.Ytmhldlcjfmnkpaa
open Go.RowKit Go.Mm
attribute [local go_sem] Oper.semAt_some
variable {R : Ending → World → Prop} {w : World} {w0 : World} {bs : List Nat} {H H' H1 E : List Ent}

/-- An outer name. -/
abbrev Ot := Int × Int × Int
def olf (x : Ot) : List Value := [.int .i64 x.1, .int .i64 x.2.1, .int .u32 x.2.2]
theorem olf_len (x : Ot) : (olf x).length = 3 := rfl
theorem olf_one (x : Ot) : ∀ v ∈ olf x, v.oneCell' = true := by
  intro v hv
  simp only [olf, List.mem_cons, List.not_mem_nil, or_false] at hv
  rcases hv with rfl | rfl | rfl <;> rfl
instance e_out : ElemT Try.prog 36 3 24 #[.int .i64 0, .int .i64 0, .int .u32 0] := ⟨by kernel_rfl⟩
instance sl_out : SliceT Try.prog 32 36 := ⟨by kernel_rfl⟩
instance s_sout : ScalarT Try.prog 32 := ⟨by kernel_rfl, by kernel_rfl⟩
instance z_sout : ZeroT Try.prog 32 #[.slice none 0 0] := ⟨by kernel_rfl⟩
/-- A slice of outer names, of the call's own. -/
def OS (v : Value) (l : List Ot) (E : List Ent) : Prop := Sl 36 3 v l.length (l.flatMap olf) E
theorem OS.nil : OS (.slice none 0 0) [] [] := sl_nil
theorem OS.snoc {v : Value} {l : List Ot} {x : Ot} (h : Sl 36 3 v (l.length + 1) (l.flatMap olf ++ #[.int .i64 x.1, .int .i64 x.2.1, .int .u32 x.2.2].toList) E) : OS v (l ++ [x]) E := by
  unfold OS
  rw [List.length_append, List.flatMap_append]
  simpa [olf] using h
theorem OS.len {v : Value} {l : List Ot} (h : OS v l E) {n : Nat} (hn : l.length = n) : LenV Try.prog 32 v n := by
  subst hn
  refine ⟨?_, 36, Try.underlying32⟩
  rcases h.or with ⟨rfl, h0, _⟩ | ⟨g, cap, sp, rfl, _⟩
  · exact ⟨none, 0, by rw [h0]⟩
  · exact ⟨_, cap, rfl⟩
theorem OS.at {v : Value} {l : List Ot} (h : OS v l E) {i : Nat} (hi : i < l.length) {x : Ot} (hx : l.getD i (0, 0, 0) = x) :
    ∃ g sp, (∀ j : Int, j = i → IdxV Try.prog 32 v j ⟨g, i * 3, none⟩) ∧ Has E g (blk [] olf l sp) 36 ∧ CellsAt (blk [] olf l sp) (i * 3) 3 #[.int .i64 x.1, .int .i64 x.2.1, .int .u32 x.2.2] := by
  subst hx
  obtain ⟨g, cap, sp, rfl, rfl, h1, h2, h3⟩ := Sl.some h (by omega)
  refine ⟨g, sp, fun j hj => ⟨fun w => ?_⟩, hasHead, ?_⟩
  · subst hj
    have h2 : 0 ≤ (i : Int) := by omega
    simp [Instr.indexAt, asIntOf, run_underlying Try.underlying32, hi, run_sizeOf' (P := Try.prog) (t := 36) (n := 3) (by kernel_rfl), Addr.add_lit]
  · refine blkCells (pre := []) olf_len (i := i) (a := l.getD i (0, 0, 0)) ?_ (by simp)
    rw [List.getD_eq_getElem?_getD, List.getElem?_eq_getElem hi]; rfl
theorem OS.one {v : Value} {l : List Ot} (h : OS v l E) : OneCell v := Sl.one h
theorem OS.ty {v : Value} {l : List Ot} (h : OS v l E) : ∀ e ∈ E, e.T = 36 := by
  rcases h.or with ⟨_, _, rfl⟩ | ⟨g, cap, sp, _, rfl, _⟩
  · intro e he; cases he
  · intro e he
    obtain rfl := List.mem_singleton.1 he
    rfl
/-- What a slice points at. -/
def ptS (cs : Array Value) (y : Nat) : Prop := ∃ n c, cs = #[.slice (some ⟨y, 0, none⟩) n c]
theorem OS.pt {v : Value} {l : List Ot} (h : OS v l E) : (∀ y, ptS #[v] y → ∃ e ∈ E, e.b = y) ∧ ∀ e ∈ E, ptS #[v] e.b := by
  rcases h.or with ⟨rfl, _, rfl⟩ | ⟨g, cap, sp, rfl, rfl, _⟩
  · refine ⟨?_, fun e he => by cases he⟩
    rintro y ⟨n, c, hh⟩
    simp at hh
  · refine ⟨?_, fun e he => ?_⟩
    · rintro y ⟨n, c, hh⟩
      simp only [Array.mk.injEq, List.cons.injEq, Value.slice.injEq, Option.some.injEq, Addr.mk.injEq, and_true] at hh
      exact ⟨_, List.mem_singleton.2 rfl, hh.1⟩
    · obtain rfl := List.mem_singleton.1 he
      exact ⟨_, _, rfl⟩

/-- The buffers that are pinned. -/
def outOf (r : Int × Int) : Ot := (2, r.1, r.2)
def allP (T : Pl) : List Ot := (tkP (plL T)).map outOf
theorem allP_at (L : List Bf) : (List.range (tkP L).length).map (fun j => outOf (tkAt L j)) = (tkP L).map outOf := map_range_getD (tkP L) (0, 0) outOf

set_option maxRecDepth 100000 in
set_option maxHeartbeats 4000000 in
theorem pb_all {W : World} {p : Option Addr} {T : Pl} (hO : St w0 bs W H) (hT : PA p T E) [hc : Cut H E H1]
    (hR : ∀ v E' w', OS v (allP T) E' → St w0 bs w' (E' ++ (E ++ H1)) → Ret R v w') : Calls Try.prog 17 #[.pointer p] W R := by
  have hS := hO.front (E := E) (H1 := H1)
  clear hO
  obtain ⟨L, hL⟩ : ∃ L, plL T = L := ⟨_, rfl⟩
  have hall : allP T = (List.range (tkP L).length).map (fun j => outOf (tkAt L j)) := by rw [allP_at, ← hL]; rfl
  have hall' := Lib.hid hall
  clear hall
  refine (callsIn_wide (n := 3)).1 ?_
  have hF := wide_fn
  refine callsIn_of_wp_marks Try.func17 rfl trivial ?_ rfl
  simp only [Try.ntmps17, List.size_toArray, List.length_cons, List.length_nil, Nat.reduceAdd, Nat.reduceSub, Array.replicate_succ, Array.replicate_zero, List.push_toArray, List.append_toArray, List.nil_append, List.cons_append]
  gi_wp2_with (first | (refine wpListIn_is (.alloc 32) rfl ?_; go_must (refine wpListIn_stp hF rfl rfl (stp_al _ rfl hS ?_)); clear hS; intro bN w _ hS) | (gi_at_call 31; refine callsIn_wide.2 (pinned_clo hS ?_); clear hS; intro bp w hS; unfold Ret) | (refine wpListIn_is (.build _ _) rfl ?_; go_must (refine wpListIn_stp hF rfl rfl (stp_val (run_bd _ _ rfl) ?_))) | (refine wpListIn_is (.call { callee := .builtin .clear, args := #[_], argTypes := #[_] }) rfl ?_; go_must (refine wpListIn_stp hF rfl rfl (stp_cl _ _ rfl hS (by decide) ?_)); clear hS; intro w hS) | (refine wpListIn_is (.load _ _) rfl ?_; go_must (first | refine wpListIn_stp hF rfl rfl (stp_val (run_ld _ _ rfl hS) ?_) | refine wpListIn_stp hF rfl rfl (stp_val (run_lda _ _ rfl hS) ?_) | refine wpListIn_stp hF rfl rfl (stp_val (run_ld0 _ _ rfl hS) ?_) | refine wpListIn_stp hF rfl rfl (stp_val (run_lda0 _ _ rfl hS) ?_))) | (refine wpListIn_is (.store _ _ _) rfl ?_; go_must (first | refine wpListIn_stp hF rfl rfl (stp_st _ _ _ rfl hS ?_) | refine wpListIn_stp hF rfl rfl (stp_sta _ _ _ rfl hS ?_)); clear hS; intro w hS) | (refine wpListIn_is (.alloc _) rfl ?_; go_must (refine wpListIn_stp hF rfl rfl (stp_al _ rfl hS ?_)); clear hS; intro bN w hbN hS) | (refine wpListIn_is (.box _ _) rfl ?_; go_must (refine wpListIn_stp hF rfl rfl (stp_bx _ _ rfl hS ?_)); clear hS; intro bN w hbN hS))
  have hnd := hS.nd
  have hstop := pin_stops (m := 3 - 1) (p := p) (T := T) hL (E := E) (by omega) bp (W := w) (fun e he => by
    simp only [List.mem_cons] at he
    rcases he with rfl | he
    · exact hS.get _ (.head _)
    · exact hS.get _ (by simp [he])) (by
    simp only [List.pairwise_cons, List.mem_cons, List.mem_append, forall_eq_or_imp] at hnd ⊢
    exact ⟨fun a ha => hnd.1.2 a (.inl ha), (List.pairwise_append.1 hnd.2.2).1⟩) hT
  refine range_staP (w0 := w0) (bs := bs) (X := Value × List Ent) (Y := Unit) (by omega) (gf := 46) (lb := #[.pointer (some ⟨bp, 0, none⟩)]) rfl (enters _ (by kernel_rfl)) 72
    (K := ⟨bp, #[.pointer p], 26, true⟩ :: E) hS.chg.size ?_
    hstop (fun _ => rfl)
    (fun pre x => pre.length ≤ 257 ∧ OS x.1 (pre.map (fun a => outOf (tkAt L a.j))) x.2) (fun _ x => ⟨bp, #[.pointer p], 26, true⟩ :: ⟨bN, #[x.1], 32, true⟩ :: (x.2 ++ (E ++ H1))) ?_ ?_
    (fun _ _ _ => False) (fun _ _ _ => [])
    (x0 := (.slice none 0 0, [])) ⟨by simp, OS.nil⟩ hS 36 (by decide) (fun x => #[.int .i64 2, .int .i64 (tkAt L x.j).1, .int .u32 (tkAt L x.j).2]) bN ptS ?_ ?_
    (fun x bv => { tmps := #[.pointer p, undef, .slice none 0 0, .pointer (some ⟨bN, 0, none⟩), .pointer (some ⟨bv, 0, none⟩), .pointer p, .func (.func 46) #[] #[.pointer (some ⟨bp, 0, none⟩)], .agg #[.int .i64 2, .int .i64 (tkAt L x.j).1, .int .u32 (tkAt L x.j).2], .int .i64 (byAt L x.j), undef, undef, undef, undef, undef], defers := [] }) ?assign ?body ?done ?stop
  · intro e he
    refine hS.lt ?_
    simp only [List.mem_cons, List.mem_append] at he ⊢
    rcases he with rfl | he <;> simp [*]
  · intro _ _ _ e he
    simp only [List.mem_cons, List.mem_append] at he ⊢
    rcases he with rfl | he <;> simp [*]
  · rintro _ x _ x' ⟨_, hx⟩ _ e he ht
    simp only [List.mem_cons, List.mem_append] at he ⊢
    rcases he with rfl | rfl | he | he
    · exact .inl rfl
    · exact absurd (show 32 = 72 from ht) (by decide)
    · rw [hx.ty e he] at ht
      exact absurd ht (by decide)
    · exact .inr (.inr (.inr he))
  · rintro xs x ⟨_, hx⟩
    refine ⟨_, _, _, .tail _ (.head _), fun y hy => ?_⟩
    obtain ⟨e, he, hb⟩ := hx.pt.1 y hy
    exact ⟨e, by simp [he], hb⟩
  · rintro xs x ⟨_, hx⟩ e he
    simp only [List.mem_cons, List.mem_append] at he
    rcases he with rfl | rfl | he | he
    · exact .inl (hS.lt (e := ⟨bp, #[.pointer p], _, _⟩) (.head _))
    · exact .inl (hS.lt (e := ⟨bN, #[.slice none 0 0], 32, true⟩) (by simp))
    · exact .inr (.inr ⟨_, _, _, .tail _ (.head _), hx.pt.2 e he⟩)
    · exact .inl (hS.lt (by simp [he]))
  case assign =>
    clear hnd hstop hT hR
    intro l pre el x W0 hc hnew hS
    have hF := wide_in l
    simp only [List.zip_toArray, List.zip_cons_cons, List.zip_nil_right, List.zip_nil_left, List.size_toArray, List.foldl_toArray', List.foldl_toArray, List.foldl_cons, List.foldl_nil, List.setIfInBounds_toArray, List.set_cons_succ, List.set_cons_zero, List.length_cons, List.length_nil]
    gi_wp2_with (first | (refine wpListIn_is (.alloc 36) rfl ?_; go_must (refine wpListIn_stp hF rfl rfl (stp_al _ rfl hS ?_)); clear hS; intro bv w hbv hS) | (refine wpListIn_is (.build _ _) rfl ?_; go_must (refine wpListIn_stp hF rfl rfl (stp_val (run_bd _ _ rfl) ?_))) | (refine wpListIn_is (.call { callee := .builtin .clear, args := #[_], argTypes := #[_] }) rfl ?_; go_must (refine wpListIn_stp hF rfl rfl (stp_cl _ _ rfl hS (by decide) ?_)); clear hS; intro w hS) | (refine wpListIn_is (.load _ _) rfl ?_; go_must (first | refine wpListIn_stp hF rfl rfl (stp_val (run_ld _ _ rfl hS) ?_) | refine wpListIn_stp hF rfl rfl (stp_val (run_lda _ _ rfl hS) ?_) | refine wpListIn_stp hF rfl rfl (stp_val (run_ld0 _ _ rfl hS) ?_) | refine wpListIn_stp hF rfl rfl (stp_val (run_lda0 _ _ rfl hS) ?_))) | (refine wpListIn_is (.store _ _ _) rfl ?_; go_must (first | refine wpListIn_stp hF rfl rfl (stp_st _ _ _ rfl hS ?_) | refine wpListIn_stp hF rfl rfl (stp_sta _ _ _ rfl hS ?_)); clear hS; intro w hS) | (refine wpListIn_is (.alloc _) rfl ?_; go_must (refine wpListIn_stp hF rfl rfl (stp_al _ rfl hS ?_)); clear hS; intro bN w hbN hS) | (refine wpListIn_is (.box _ _) rfl ?_; go_must (refine wpListIn_stp hF rfl rfl (stp_bx _ _ rfl hS ?_)); clear hS; intro bN w hbN hS))
    exact ⟨_, by omega, rfl, hS⟩
  case body =>
    clear hnd hstop hS hR
    rintro l pre el ⟨v, E0⟩ bv w2 ⟨_, hsl⟩ hlt _ hS
    have hF := wide_in l
    have hpl : (pre.map (fun a => outOf (tkAt L a.j))).length ≤ 256 := by rw [List.length_map]; omega
    have hsl : Sl 36 3 v (pre.map (fun a => outOf (tkAt L a.j))).length ((pre.map (fun a => outOf (tkAt L a.j))).flatMap olf) E0 := hsl
    have hone0 := hsl.one
    simp only at hS
    gi_wp2_with (first | (refine wpListIn_is (.buildSlice _ _ _) rfl ?_; go_must (refine wpListIn_stp hF rfl rfl (stp_bsl _ _ _ rfl hS (by decide) rfl (by decide) (by decide) ?_)); clear hS; intro bN w hbN hS) | (refine wpListIn_is (.call { callee := .builtin .append, args := #[_, _], argTypes := #[_, _] }) rfl ?_; go_must (refine wpListIn_stp hF rfl rfl (stp_ap _ _ _ _ rfl rfl hS (by rfl) hsl (by rfl) (by simp only [maxLen]; omega) (by omega) ?_)); clear hS; intro v' E' w hsl' hne hS; have hone := hsl'.one) | (refine wpListIn_is (.build _ _) rfl ?_; go_must (refine wpListIn_stp hF rfl rfl (stp_val (run_bd _ _ rfl) ?_))) | (refine wpListIn_is (.call { callee := .builtin .clear, args := #[_], argTypes := #[_] }) rfl ?_; go_must (refine wpListIn_stp hF rfl rfl (stp_cl _ _ rfl hS (by decide) ?_)); clear hS; intro w hS) | (refine wpListIn_is (.load _ _) rfl ?_; go_must (first | refine wpListIn_stp hF rfl rfl (stp_val (run_ld _ _ rfl hS) ?_) | refine wpListIn_stp hF rfl rfl (stp_val (run_lda _ _ rfl hS) ?_) | refine wpListIn_stp hF rfl rfl (stp_val (run_ld0 _ _ rfl hS) ?_) | refine wpListIn_stp hF rfl rfl (stp_val (run_lda0 _ _ rfl hS) ?_))) | (refine wpListIn_is (.store _ _ _) rfl ?_; go_must (first | refine wpListIn_stp hF rfl rfl (stp_st _ _ _ rfl hS ?_) | refine wpListIn_stp hF rfl rfl (stp_sta _ _ _ rfl hS ?_)); clear hS; intro w hS) | (refine wpListIn_is (.alloc _) rfl ?_; go_must (refine wpListIn_stp hF rfl rfl (stp_al _ rfl hS ?_)); clear hS; intro bN w hbN hS) | (refine wpListIn_is (.box _ _) rfl ?_; go_must (refine wpListIn_stp hF rfl rfl (stp_bx _ _ rfl hS ?_)); clear hS; intro bN w hbN hS))
    refine ⟨(v', E'), ⟨by rw [List.length_append]; simp only [List.length_map] at hpl; simp only [List.length_cons, List.length_nil]; omega, ?_⟩, hS.pick⟩
    rw [List.map_append]
    exact OS.snoc hsl'
  case done =>
    rintro d xs ⟨v, E0⟩ w2 hxs ⟨_, hsl⟩ hS0 hd
    clear hnd hstop hS
    have hS := hS0.rebase
    have hone0 := Sl.one hsl
    simp only at hS
    gi_wp2_with (first | (refine wpListIn_is (.build _ _) rfl ?_; go_must (refine wpListIn_stp hF rfl rfl (stp_val (run_bd _ _ rfl) ?_))) | (refine wpListIn_is (.call { callee := .builtin .clear, args := #[_], argTypes := #[_] }) rfl ?_; go_must (refine wpListIn_stp hF rfl rfl (stp_cl _ _ rfl hS (by decide) ?_)); clear hS; intro w hS) | (refine wpListIn_is (.load _ _) rfl ?_; go_must (first | refine wpListIn_stp hF rfl rfl (stp_val (run_ld _ _ rfl hS) ?_) | refine wpListIn_stp hF rfl rfl (stp_val (run_lda _ _ rfl hS) ?_) | refine wpListIn_stp hF rfl rfl (stp_val (run_ld0 _ _ rfl hS) ?_) | refine wpListIn_stp hF rfl rfl (stp_val (run_lda0 _ _ rfl hS) ?_))) | (refine wpListIn_is (.store _ _ _) rfl ?_; go_must (first | refine wpListIn_stp hF rfl rfl (stp_st _ _ _ rfl hS ?_) | refine wpListIn_stp hF rfl rfl (stp_sta _ _ _ rfl hS ?_)); clear hS; intro w hS) | (refine wpListIn_is (.alloc _) rfl ?_; go_must (refine wpListIn_stp hF rfl rfl (stp_al _ rfl hS ?_)); clear hS; intro bN w hbN hS) | (refine wpListIn_is (.box _ _) rfl ?_; go_must (refine wpListIn_stp hF rfl rfl (stp_bx _ _ rfl hS ?_)); clear hS; intro bN w hbN hS))
    refine leave_st hd hS0 hS (fun W3 hS3 => ⟨v, res_tmp1 rfl, ?_⟩)
    have e : xs.map (fun a => outOf (tkAt L a.j)) = allP T := by rw [hall'.out, ← hxs, List.map_map]; rfl
    rw [e] at hsl
    exact hR v E0 W3 hsl hS3.pick
  case stop =>
    rintro d c pre y w2 _ hf
    exact hf.elim

theorem pb_len {W : World} {p : Option Addr} {T : Pl} (hO : St w0 bs W H) (hT : PA p T E) [hc : Cut H E H1] (n : Nat) (hn : (allP T).length = n)
    (hR : ∀ w', St w0 bs w' (E ++ H1) → Ret R (.int .i64 n) w') : Calls Try.prog 16 #[.pointer p] W R := by
  have hS := hO.front (E := E) (H1 := H1)
  clear hO hc
  go_enter Try.func16, Try.ntmps16
  go_wp2_with (first | go_skip | (go_at_call 17; go_must (refine pb_all hS hT ?_); clear hS; intro v Ev w hv hS; have hone := hv.one; have hln := hv.len hn; unfold Ret) | (refine wpList_is (.call { callee := .builtin .len, args := #[_], argTypes := #[_] }) rfl ?_; refine wpList_stp rfl (stp_val (run_lenv _ _ rfl) ?_)) | go_skip | (refine wpList_is (.build _ _) rfl ?_; go_must (refine wpList_stp (by kernel_rfl) (stp_val (run_bd _ _ rfl) ?_))) | (refine wpList_is (.call { callee := .builtin .clear, args := #[_], argTypes := #[_] }) rfl ?_; go_must (refine wpList_stp (by kernel_rfl) (stp_cl _ _ rfl hS (by decide) ?_)); clear hS; intro w hS) | (refine wpList_is (.load _ _) rfl ?_; go_must (first | refine wpList_stp (by kernel_rfl) (stp_val (run_ld _ _ rfl hS) ?_) | refine wpList_stp (by kernel_rfl) (stp_val (run_lda _ _ rfl hS) ?_) | refine wpList_stp (by kernel_rfl) (stp_val (run_ld0 _ _ rfl hS) ?_) | refine wpList_stp (by kernel_rfl) (stp_val (run_lda0 _ _ rfl hS) ?_))) | (refine wpList_is (.store _ _ _) rfl ?_; go_must (first | refine wpList_stp (by kernel_rfl) (stp_st _ _ _ rfl hS ?_) | refine wpList_stp (by kernel_rfl) (stp_sta _ _ _ rfl hS ?_)); clear hS; intro w hS) | (refine wpList_is (.alloc _) rfl ?_; go_must (refine wpList_stp (by kernel_rfl) (stp_al _ rfl hS ?_)); clear hS; intro bN w hbN hS) | (refine wpList_is (.box _ _) rfl ?_; go_must (refine wpList_stp (by kernel_rfl) (stp_bx _ _ rfl hS ?_)); clear hS; intro bN w hbN hS) | (refine wpList_is (.binOp .eql _ _ (.const (.slice none _ _)) _) rfl ?_; refine wpList_stp (by kernel_rfl) (stp_val (run_nse _ _ _ rfl) ?_)) | (refine wpList_is (.binOp .neq _ _ (.const (.slice none _ _)) _) rfl ?_; refine wpList_stp (by kernel_rfl) (stp_val (run_nsn _ _ _ rfl) ?_)) | (refine region_quiet hS (by kernel_rfl) (by kernel_rfl) (fun hne => ?_); (repeat (first | go_big_quiet_skip | (go_big_quiet_want; first | (refine quiet_is (.load _ _) rfl ?_; go_must (first | refine quiet_at sw_st (fun w hS => run_ld _ _ rfl hS) ?_ | refine quiet_at sw_st (fun w hS => run_lda _ _ rfl hS) ?_ | refine quiet_at sw_st (fun w hS => run_ld0 _ _ rfl hS) ?_ | refine quiet_at sw_st (fun w hS => run_lda0 _ _ rfl hS) ?_); go_big_quiet_on) | (refine quiet_is (.binOp .eql _ _ (.const (.slice none _ _)) _) rfl ?_; refine quiet_val (fun w _ => run_nse _ _ _ rfl) ?_; go_big_quiet_on) | (refine quiet_is (.binOp .neq _ _ (.const (.slice none _ _)) _) rfl ?_; refine quiet_val (fun w _ => run_nsn _ _ _ rfl) ?_; go_big_quiet_on) | (refine quiet_is (.call { callee := .builtin .len, args := #[_], argTypes := #[_] }) rfl ?_; refine quiet_val (fun w _ => run_lenv _ _ rfl) ?_; go_big_quiet_on) | (refine quiet_is (.indexAddr _ _ _) rfl ?_; refine quiet_val (fun w _ => run_idxv _ _ _ rfl) ?_; go_big_quiet_on) | (refine quiet_is (.binOp .eql _ _ _ _) rfl ?_; refine quiet_val (fun w _ => run_aeq _ _ _ _ rfl) ?_; go_big_quiet_on) | (refine quiet_is (.binOp .neq _ _ _ _) rfl ?_; refine quiet_val (fun w _ => run_ane _ _ _ _ rfl) ?_; go_big_quiet_on) | (go_big_quiet_op; go_big_quiet_on)))); refine wpQuiet_nil ?_; clear hS hne; intro w hS))
  exact hR _ hS.pick
end Go.Proofs.Ytmhldlcjfmnkpaa
