/-
  Moves on a desk of leases: the contract of a move.
-/
import Derived.Test.YtbjcjbkgjnojmaaDmove
import Derived.Test.YtbjcjbkgjnojmaaItemD
set_option linter.unusedSimpArgs false
set_option linter.unusedVariables false
namespace Go.Proofs.Ytbjcjbkgjnojmaa
open Go.RowKit Go.Mm
variable {R : Ending → World → Prop} {w : World} {w0 : World} {bs : List Nat} {H H' H1 E : List Ent}

instance dm_su8 : ScalarT Try.prog 5 := ⟨by kernel_rfl, by kernel_rfl⟩
instance dm_zmv : ZeroT Try.prog 46 #[.int .u8 0, .int .u8 0, .int .u8 0, .int .u8 0] := ⟨by kernel_rfl⟩
instance dm_amv : AggT Try.prog 46 4 := ⟨by kernel_rfl, by kernel_rfl⟩
instance dm_f0 {b off : Nat} : FieldAt Try.prog 46 0 b off off := ⟨fun w => by kernel_rfl⟩
instance dm_f1 {b off : Nat} : FieldAt Try.prog 46 1 b off (off + 1) := ⟨fun w => by kernel_rfl⟩
instance dm_f2 {b off : Nat} : FieldAt Try.prog 46 2 b off (off + 2) := ⟨fun w => by kernel_rfl⟩
instance dm_f3 {b off : Nat} : FieldAt Try.prog 46 3 b off (off + 3) := ⟨fun w => by kernel_rfl⟩
instance dm_g0 {b off : Nat} : FieldAt Try.prog 52 0 b off off := ⟨fun w => by kernel_rfl⟩
instance dm_g1 {b off : Nat} : FieldAt Try.prog 52 1 b off (off + 1) := ⟨fun w => by kernel_rfl⟩
instance dm_g2 {b off : Nat} : FieldAt Try.prog 52 2 b off (off + 2) := ⟨fun w => by kernel_rfl⟩
instance dm_g3 {b off : Nat} : FieldAt Try.prog 52 3 b off (off + 3) := ⟨fun w => by kernel_rfl⟩
instance dm_g4 {b off : Nat} : FieldAt Try.prog 52 4 b off (off + 4) := ⟨fun w => by kernel_rfl⟩
instance dm_agg : AggT Try.prog 52 5 := ⟨by kernel_rfl, by kernel_rfl⟩
instance dm_bld {p : Option Addr} {b : Bool} : BuildT Try.prog 52 [(0, .pointer p), (4, .bool b)] #[.pointer p, .slice none 0 0, .slice none 0 0, .int .i64 0, .bool b] := ⟨fun w => by kernel_rfl⟩
instance dm_si : ScalarT Try.prog 50 := ⟨by kernel_rfl, by kernel_rfl⟩
instance dm_ei : ElemT Try.prog 2 1 8 #[.int .i64 0] := ⟨by kernel_rfl⟩
instance dm_sl : SliceT Try.prog 50 2 := ⟨by kernel_rfl⟩
instance dm_c8 : CvI Try.prog 5 3 .i64 := ⟨by kernel_rfl, by kernel_rfl, by kernel_rfl⟩
instance dm_c64 : CvI Try.prog 5 2 .i64 := ⟨by kernel_rfl, by kernel_rfl, by kernel_rfl⟩

/-- A slice of times, of the call's own. -/
def US (v : Value) (l : List Int) (E : List Ent) : Prop := Sl 2 1 v l.length (l.flatMap j64f) E
theorem US.nil : US (.slice none 0 0) [] [] := sl_nil
theorem US.snoc {v : Value} {l : List Int} {x : Int} (h : Sl 2 1 v (l.length + 1) (l.flatMap j64f ++ #[.int .i64 x].toList) E) : US v (l ++ [x]) E := by
  unfold US
  rw [List.length_append, List.flatMap_append]
  simpa [j64f] using h
theorem US.len {v : Value} {l : List Int} (h : US v l E) {n : Nat} (hn : l.length = n) : LenV Try.prog 50 v n := by
  subst hn
  refine ⟨?_, 2, Try.underlying50⟩
  rcases h.or with ⟨rfl, h0, _⟩ | ⟨g, cap, sp, rfl, _⟩
  · exact ⟨none, 0, by rw [h0]⟩
  · exact ⟨_, cap, rfl⟩
theorem US.one {v : Value} {l : List Int} (h : US v l E) : OneCell v := Sl.one h
theorem US.at {v : Value} {l : List Int} (h : US v l E) {i : Nat} (hi : i < l.length) {x : Int} (hx : l.getD i 0 = x) :
    ∃ g cap sp, v = .slice (some ⟨g, 0, none⟩) l.length cap ∧ E = [⟨g, blk [] j64f l sp, 2, true⟩] ∧ (∀ j : Int, j = i → IdxV Try.prog 50 v j ⟨g, i * 1, none⟩) ∧ CellAt (blk [] j64f l sp) (i * 1) (.int .i64 x) ∧
      (∀ y, SetAt (blk [] j64f l sp) (i * 1) (.int .i64 y) (blk [] j64f (l.set i y) sp)) ∧ ∀ y, US v (l.set i y) [⟨g, blk [] j64f (l.set i y) sp, 2, true⟩] := by
  have hx' : l[i]? = some x := by rw [← hx, List.getD_eq_getElem?_getD, List.getElem?_eq_getElem hi]; rfl
  obtain ⟨g, cap, sp, rfl, rfl, h1, h2, h3⟩ := Sl.some h (by omega)
  refine ⟨g, cap, sp, rfl, rfl, fun j hj => ⟨fun w => ?_⟩, blkCell j64f_len (j := 0) hx' (by decide) rfl (by simp), fun y => blkSet j64f_len (i := i) (j := 0) hx' (by decide) rfl (by simp), fun y => ⟨by rw [flat_len j64f_len], .inr ⟨g, cap, sp, by rw [List.length_set], rfl, by rw [List.length_set]; exact h1, h2, ?_⟩⟩⟩
  · subst hj
    have h2 : 0 ≤ (i : Int) := by omega
    simp [Instr.indexAt, asIntOf, run_underlying Try.underlying50, hi, run_sizeOf' (P := Try.prog) (t := 2) (n := 1) (by kernel_rfl), Addr.add_lit]
  · rw [flat_len j64f_len] at h3 ⊢
    rw [List.length_set]; exact h3

theorem contains_eq {v : Value} {l : List Ot} (hO : St w0 bs w H) (hA : OS v l E) [hc : Cut H E H1] (hl : l.length ≤ 1000) (kd s g : Int) (b : Bool) (hb : decide ((kd, s, g) ∈ l) = b)
    (hR : ∀ w', St w0 bs w' (E ++ H1) → Ret R (.bool b) w') : Calls Try.prog 24 #[v, .agg #[.int .i64 kd, .int .i64 s, .int .u32 g]] w R := by
  subst hb; exact out_contains hO hA hl kd s g hR
/-- A desk with all leases that it has granted. -/
def DX (b : Nat) (p : Option Addr) (L : List Ls) (l : List Ot) (us : List Int) (now : Int) (ok : Bool) (E : List Ent) : Prop :=
  ∃ v1 v2 E1 E2 E3, DA p (some (some L)) E1 ∧ OS v1 l E2 ∧ US v2 us E3 ∧ E = ⟨b, #[.pointer p, v1, v2, .int .i64 now, .bool ok], 52, true⟩ :: (E1 ++ (E2 ++ E3))

set_option maxHeartbeats 2000000 in
set_option maxRecDepth 100000 in
/-- A lease is asked for. -/
theorem step_gr {b : Nat} {p : Option Addr} {L : List Ls} {l : List Ot} {us : List Int} {now : Int} {ok : Bool} (hO : St w0 bs w H) (hX : DX b p L l us now ok E) [hc : Cut H E H1] (hI : DInv L l us now) (hb : now ≤ 1000000) (hl : l.length ≤ 500) (x y z t : Int)
    (hx : 0 ≤ x ∧ x ≤ 255) (hy : 0 ≤ y ∧ y ≤ 255) (hz : 0 ≤ z ∧ z ≤ 255) (ht : 0 ≤ t ∧ t ≤ 255) (hg : y % 4 < 2 ∨ (¬ y % 4 < 2 ∧ l = []))
    (hR : ∀ L' l' us' now' E' w', DX b p L' l' us' now' ok E' → DInv L' l' us' now' → now ≤ now' → now' ≤ now + 7 → l'.length ≤ l.length + 1 → Nx us us' → Kin L L' → St w0 bs w' (E' ++ H1) → Ret R (.bool true) w') :
    Calls Try.prog 21 #[.pointer (some ⟨b, 0, none⟩), .agg #[.int .u8 x, .int .u8 y, .int .u8 z, .int .u8 t]] w R := by
  have hS := hO.front (E := E) (H1 := H1)
  clear hO
  obtain ⟨v1, v2, E1, E2, E3, hT, hA, hU, rfl⟩ := hX
  simp only [List.cons_append, List.append_assoc] at hS
  obtain ⟨x0, x1⟩ := hx
  obtain ⟨y0, y1⟩ := hy
  obtain ⟨z0, z1⟩ := hz
  obtain ⟨t0, t1⟩ := ht
  have hn0 := hI.n0
  obtain ⟨nw, hnw⟩ : ∃ nw, now + x % 8 = nw := ⟨_, rfl⟩
  have hnb : now ≤ nw ∧ nw ≤ now + 7 := by omega
  obtain ⟨tk, htk⟩ : ∃ tk, 1 + t % 16 = tk := ⟨_, rfl⟩
  have htb : 1 ≤ tk ∧ tk ≤ 16 := by omega
  have hI' : DInv L l us nw := by rw [← hnw]; exact hI.wait (by omega)
  have hwn : IntKind.i64.wrap (now + IntKind.i64.wrap (x.tmod 8)) = nw := by rw [Int.tmod_eq_emod_of_nonneg x0, IntWalk.i64_in (x % 8) (by omega), IntWalk.i64_in _ (by omega), hnw]
  have hwn' := Lib.hid hwn
  have hl8 := hU.len hI.len
  have hl1 := hA.len rfl
  have ho1 := hA.one
  have ho2 := hU.one
  have hcond : (decide (y % 4 < 2) = true) ∨ (decide (y % 4 < 2) = false ∧ l.length = 0) := by
    rcases hg with h | ⟨h, h'⟩
    · exact .inl (decide_eq_true h)
    · exact .inr ⟨decide_eq_false h, by rw [h']; rfl⟩
  clear hg
  rcases hI'.gr htb (by omega) with ⟨g1, g2, g3⟩ | ⟨i, g, hi, hs, hgn, g1, g2, g3⟩
  · have g1' := Lib.hid g1
    have g2' := Lib.hid g2
    have g3' := Lib.hid g3
    have q1 := outE (outB_self 0 0 0)
    clear g1 g2 g3 hnw hwn
    rcases hcond with hc1 | ⟨hc1, hc2⟩
    · go_enter Try.func21, Try.ntmps21
      go_wp2_with (first | go_skip | (refine wpList_is (.box 46 _) rfl ?_; go_must (refine wpList_stp rfl (stp_bx _ _ rfl hS ?_)); clear hS; intro bm w _ hS) | (refine region_tail 11 hS (by kernel_rfl) (by kernel_rfl) ?_; clear hS; intro w hS; simp only [List.take_succ_cons, List.take_zero, List.drop_succ_cons, List.drop_zero]; (repeat (first | (refine wpStill_is (.load _ _) rfl ?_; go_must (first | refine wpStill_val rfl (run_ld _ _ rfl hS) ?_ | refine wpStill_val rfl (run_lda _ _ rfl hS) ?_ | refine wpStill_val rfl (run_ld0 _ _ rfl hS) ?_ | refine wpStill_val rfl (run_lda0 _ _ rfl hS) ?_)) | still_step)); refine wpStill_nil ?_) | go_skip | (refine wpList_is (.call { callee := .builtin .len, args := #[_], argTypes := #[_] }) rfl ?_; refine wpList_stp rfl (stp_val (run_lenv _ _ rfl) ?_)) | (refine wpList_is (.slice _ _ none (some _) none) rfl ?_; refine wpList_stp rfl (stp_val (run_prev _ _ _ rfl) ?_)) | (refine wpList_is (.indexAddr _ _ _) rfl ?_; refine wpList_stp rfl (stp_val (run_idxv _ _ _ rfl) ?_)) | go_skip | (refine wpList_is (.build _ _) rfl ?_; go_must (refine wpList_stp rfl (stp_val (run_bd _ _ rfl) ?_))) | (refine wpList_is (.call { callee := .builtin .clear, args := #[_], argTypes := #[_] }) rfl ?_; go_must (refine wpList_stp rfl (stp_cl _ _ rfl hS (by decide) ?_)); clear hS; intro w hS) | (refine wpList_is (.load _ _) rfl ?_; go_must (first | refine wpList_stp rfl (stp_val (run_ld _ _ rfl hS) ?_) | refine wpList_stp rfl (stp_val (run_lda _ _ rfl hS) ?_) | refine wpList_stp rfl (stp_val (run_ld0 _ _ rfl hS) ?_) | refine wpList_stp rfl (stp_val (run_lda0 _ _ rfl hS) ?_))) | (refine wpList_is (.store _ _ _) rfl ?_; go_must (first | refine wpList_stp rfl (stp_st _ _ _ rfl hS ?_) | refine wpList_stp rfl (stp_sta _ _ _ rfl hS ?_)); clear hS; intro w hS) | (refine wpList_is (.alloc _) rfl ?_; go_must (refine wpList_stp rfl (stp_al _ rfl hS ?_)); clear hS; intro bN w hbN hS) | (refine wpList_is (.box _ _) rfl ?_; go_must (refine wpList_stp rfl (stp_bx _ _ rfl hS ?_)); clear hS; intro bN w hbN hS) | (refine wpList_is (.binOp .eql _ _ (.const (.slice none _ _)) _) rfl ?_; refine wpList_stp rfl (stp_val (run_nse _ _ _ rfl) ?_)) | (refine wpList_is (.binOp .neq _ _ (.const (.slice none _ _)) _) rfl ?_; refine wpList_stp rfl (stp_val (run_nsn _ _ _ rfl) ?_)))
      simp only [hwn'.out] at hS
      refine region_itemsE [⟨(undef, E1), [(9, fun _ x => DA p (some (some L)) x.2)]⟩, ⟨(undef, []), [(13, fun _ x => ∃ b, x = (.pointer (some ⟨b, 0, none⟩), [⟨b, #[.int .i64 0, .int .i64 0, .int .u32 0], 29, true⟩])), (14, fun y x => ∃ b, y.1 = .pointer (some ⟨b, 0, none⟩) ∧ x.2 = [⟨b, #[.int .i64 0, .int .i64 0, .int .u32 0], 29, true⟩])]⟩]
        (⟨b, #[.pointer p, v1, v2, .int .i64 nw, .bool ok], 52, true⟩ :: (E2 ++ (E3 ++ (⟨bm, #[.int .u8 x, .int .u8 y, .int .u8 z, .int .u8 t], 46, true⟩ :: H1)))) (E1 ++ (⟨b, #[.pointer p, v1, v2, .int .i64 nw, .bool ok], 52, true⟩ :: (E2 ++ (E3 ++ (⟨bm, #[.int .u8 x, .int .u8 y, .int .u8 z, .int .u8 t], 46, true⟩ :: H1))))) (by simp) hS.pick (by kernel_rfl) (by kernel_rfl) ?_
      refine fx_val (fun _ => rfl) rfl (fun χ w hw => run_mv _ rfl) ?_
      refine fx_val (fun _ => rfl) rfl (fun χ w hw => run_nc _ rfl) ?_
      refine fx_val (fun _ => rfl) rfl (fun χ w hw => run_fa _ _ _ rfl) ?_
      refine fx_val (fun _ => rfl) rfl (fun χ w hw => run_ld _ _ rfl hw) ?_
      refine fx_val (fun _ => rfl) rfl (fun χ w hw => run_mv _ rfl) ?_
      refine fx_val (fun _ => rfl) rfl (fun χ w hw => run_mv _ rfl) ?_
      refine fx_val (fun _ => rfl) rfl (fun χ w hw => run_nc _ rfl) ?_
      refine fx_val (fun _ => rfl) rfl (fun χ w hw => run_fa _ _ _ rfl) ?_
      refine fx_val (fun _ => rfl) rfl (fun χ w hw => run_ld _ _ rfl hw) ?_
      refine fx_turn 0 0 rfl rfl (by first | rfl | kernel_rfl) (by first | rfl | kernel_rfl) (by first | rfl | kernel_rfl) 11 [_, _, _] _ rfl (fun _ => rfl) (enters _ (by kernel_rfl)) (fun _ => .tuple #[.agg #[.int .i64 0, .int .i64 0, .int .u32 0], .int .i64 4]) ?_ ?_
      · intro χ X w _ hS
        exact dk_grant (show St w0 bs w (E1 ++ (X ++ _)) from hS) hT tk nw _ _ _ g1'.out g2'.out g3'.out (fun E' w' hT' hS' => ⟨(undef, E'), rfl, hT', show St w0 bs w' (E' ++ (X ++ _)) from hS'.pick⟩)
      refine fx_val (fun _ => rfl) rfl (fun χ w hw => run_mv _ rfl) ?_
      refine fx_val (fun _ => rfl) rfl (fun χ w hw => run_ext _ _ rfl) ?_
      refine fx_val (fun _ => rfl) rfl (fun χ w hw => run_ext _ _ rfl) ?_
      refine fx_turn0 1 0 rfl rfl (by first | rfl | kernel_rfl) (by first | rfl | kernel_rfl) (by first | rfl | kernel_rfl) (fun _ => rfl) (fun x => x.1) ?_ ?_
      · intro χ X w _ hS
        exact stepX_al _ rfl (show St w0 bs w (X ++ _) from hS) (fun b' w' _ hS' => ⟨(_, [_]), rfl, ⟨b', rfl⟩, hS'⟩)
      refine fx_turn0 1 1 rfl rfl (by first | rfl | kernel_rfl) (by first | rfl | kernel_rfl) (by first | rfl | kernel_rfl) (fun _ => rfl) (fun _ => undef) ?_ ?_
      · rintro χ X w ⟨⟨bo, hb⟩, _⟩ hS
        have hS : St w0 bs w ((χ 13).2 ++ (X ++ _)) := hS
        rw [hb] at hS
        have hS : St w0 bs w (⟨bo, #[.int .i64 0, .int .i64 0, .int .u32 0], 29, true⟩ :: (X ++ _)) := hS
        have hb1 : (χ 13).1 = .pointer (some ⟨bo, 0, none⟩) := by rw [hb]
        exact stepX_stb _ _ _ rfl hS hb1 (fun w' hS' => ⟨(undef, [⟨bo, #[.int .i64 0, .int .i64 0, .int .u32 0], 29, true⟩]), rfl, ⟨bo, hb1, rfl⟩, hS'⟩)
      refine fx_val (fun _ => rfl) rfl (fun χ w hw => run_as _ rfl) ?_
      refine fx_end rfl ?_
      intro χ w hok hS
      obtain ⟨hT2, _⟩ := hok _ (.head _)
      obtain ⟨⟨bo, hb⟩, ⟨bo', hb1, hb2⟩, _⟩ := hok _ (.tail _ (.head _))
      rw [hb] at hb1
      obtain ⟨⟩ := hb1
      have hS : St w0 bs w (((χ 9).2 ++ ((χ 14).2 ++ [])) ++ (⟨b, #[.pointer p, v1, v2, .int .i64 nw, .bool ok], 52, true⟩ :: (E2 ++ (E3 ++ (⟨bm, #[.int .u8 x, .int .u8 y, .int .u8 z, .int .u8 t], 46, true⟩ :: H1))))) := hS
      rw [hb2, List.append_nil, List.append_assoc] at hS
      generalize (χ 9).2 = E4 at hS hT2
      simp only [hb]
      simp only [List.cons_append, List.nil_append] at hS
      clear hok hb2 hb
      go_wp2_with (first | go_skip | (refine wpList_is (.binOp .eql _ _ _ _) rfl ?_; refine wpList_stp rfl (stp_val (run_aeq _ _ _ _ rfl) ?_)) | (refine wpList_is (.binOp .neq _ _ _ _) rfl ?_; refine wpList_stp rfl (stp_val (run_ane _ _ _ _ rfl) ?_)) | go_skip | (refine wpList_is (.build _ _) rfl ?_; go_must (refine wpList_stp rfl (stp_val (run_bd _ _ rfl) ?_))) | (refine wpList_is (.call { callee := .builtin .clear, args := #[_], argTypes := #[_] }) rfl ?_; go_must (refine wpList_stp rfl (stp_cl _ _ rfl hS (by decide) ?_)); clear hS; intro w hS) | (refine wpList_is (.load _ _) rfl ?_; go_must (first | refine wpList_stp rfl (stp_val (run_ld _ _ rfl hS) ?_) | refine wpList_stp rfl (stp_val (run_lda _ _ rfl hS) ?_) | refine wpList_stp rfl (stp_val (run_ld0 _ _ rfl hS) ?_) | refine wpList_stp rfl (stp_val (run_lda0 _ _ rfl hS) ?_))) | (refine wpList_is (.store _ _ _) rfl ?_; go_must (first | refine wpList_stp rfl (stp_st _ _ _ rfl hS ?_) | refine wpList_stp rfl (stp_sta _ _ _ rfl hS ?_)); clear hS; intro w hS) | (refine wpList_is (.alloc _) rfl ?_; go_must (refine wpList_stp rfl (stp_al _ rfl hS ?_)); clear hS; intro bN w hbN hS) | (refine wpList_is (.box _ _) rfl ?_; go_must (refine wpList_stp rfl (stp_bx _ _ rfl hS ?_)); clear hS; intro bN w hbN hS) | (refine wpList_is (.binOp .eql _ _ (.const (.slice none _ _)) _) rfl ?_; refine wpList_stp rfl (stp_val (run_nse _ _ _ rfl) ?_)) | (refine wpList_is (.binOp .neq _ _ (.const (.slice none _ _)) _) rfl ?_; refine wpList_stp rfl (stp_val (run_nsn _ _ _ rfl) ?_)))
      exact hR _ _ _ _ (⟨b, #[.pointer p, v1, v2, .int .i64 nw, .bool ok], 52, true⟩ :: (E4 ++ (E2 ++ E3))) _ ⟨v1, v2, E4, E2, E3, hT2, hA, hU, rfl⟩ hI' hnb.1 hnb.2 (by omega) (.inl rfl) Kin.refl (by simp only [List.cons_append, List.append_assoc]; exact hS.pick)
    · go_enter Try.func21, Try.ntmps21
      go_wp2_with (first | go_skip | (refine wpList_is (.box 46 _) rfl ?_; go_must (refine wpList_stp rfl (stp_bx _ _ rfl hS ?_)); clear hS; intro bm w _ hS) | (refine region_tail 11 hS (by kernel_rfl) (by kernel_rfl) ?_; clear hS; intro w hS; simp only [List.take_succ_cons, List.take_zero, List.drop_succ_cons, List.drop_zero]; (repeat (first | (refine wpStill_is (.load _ _) rfl ?_; go_must (first | refine wpStill_val rfl (run_ld _ _ rfl hS) ?_ | refine wpStill_val rfl (run_lda _ _ rfl hS) ?_ | refine wpStill_val rfl (run_ld0 _ _ rfl hS) ?_ | refine wpStill_val rfl (run_lda0 _ _ rfl hS) ?_)) | still_step)); refine wpStill_nil ?_) | go_skip | (refine wpList_is (.call { callee := .builtin .len, args := #[_], argTypes := #[_] }) rfl ?_; refine wpList_stp rfl (stp_val (run_lenv _ _ rfl) ?_)) | (refine wpList_is (.slice _ _ none (some _) none) rfl ?_; refine wpList_stp rfl (stp_val (run_prev _ _ _ rfl) ?_)) | (refine wpList_is (.indexAddr _ _ _) rfl ?_; refine wpList_stp rfl (stp_val (run_idxv _ _ _ rfl) ?_)) | go_skip | (refine wpList_is (.build _ _) rfl ?_; go_must (refine wpList_stp rfl (stp_val (run_bd _ _ rfl) ?_))) | (refine wpList_is (.call { callee := .builtin .clear, args := #[_], argTypes := #[_] }) rfl ?_; go_must (refine wpList_stp rfl (stp_cl _ _ rfl hS (by decide) ?_)); clear hS; intro w hS) | (refine wpList_is (.load _ _) rfl ?_; go_must (first | refine wpList_stp rfl (stp_val (run_ld _ _ rfl hS) ?_) | refine wpList_stp rfl (stp_val (run_lda _ _ rfl hS) ?_) | refine wpList_stp rfl (stp_val (run_ld0 _ _ rfl hS) ?_) | refine wpList_stp rfl (stp_val (run_lda0 _ _ rfl hS) ?_))) | (refine wpList_is (.store _ _ _) rfl ?_; go_must (first | refine wpList_stp rfl (stp_st _ _ _ rfl hS ?_) | refine wpList_stp rfl (stp_sta _ _ _ rfl hS ?_)); clear hS; intro w hS) | (refine wpList_is (.alloc _) rfl ?_; go_must (refine wpList_stp rfl (stp_al _ rfl hS ?_)); clear hS; intro bN w hbN hS) | (refine wpList_is (.box _ _) rfl ?_; go_must (refine wpList_stp rfl (stp_bx _ _ rfl hS ?_)); clear hS; intro bN w hbN hS) | (refine wpList_is (.binOp .eql _ _ (.const (.slice none _ _)) _) rfl ?_; refine wpList_stp rfl (stp_val (run_nse _ _ _ rfl) ?_)) | (refine wpList_is (.binOp .neq _ _ (.const (.slice none _ _)) _) rfl ?_; refine wpList_stp rfl (stp_val (run_nsn _ _ _ rfl) ?_)))
      simp only [hwn'.out] at hS
      refine region_itemsE [⟨(undef, E1), [(9, fun _ x => DA p (some (some L)) x.2)]⟩, ⟨(undef, []), [(13, fun _ x => ∃ b, x = (.pointer (some ⟨b, 0, none⟩), [⟨b, #[.int .i64 0, .int .i64 0, .int .u32 0], 29, true⟩])), (14, fun y x => ∃ b, y.1 = .pointer (some ⟨b, 0, none⟩) ∧ x.2 = [⟨b, #[.int .i64 0, .int .i64 0, .int .u32 0], 29, true⟩])]⟩]
        (⟨b, #[.pointer p, v1, v2, .int .i64 nw, .bool ok], 52, true⟩ :: (E2 ++ (E3 ++ (⟨bm, #[.int .u8 x, .int .u8 y, .int .u8 z, .int .u8 t], 46, true⟩ :: H1)))) (E1 ++ (⟨b, #[.pointer p, v1, v2, .int .i64 nw, .bool ok], 52, true⟩ :: (E2 ++ (E3 ++ (⟨bm, #[.int .u8 x, .int .u8 y, .int .u8 z, .int .u8 t], 46, true⟩ :: H1))))) (by simp) hS.pick (by kernel_rfl) (by kernel_rfl) ?_
      refine fx_val (fun _ => rfl) rfl (fun χ w hw => run_mv _ rfl) ?_
      refine fx_val (fun _ => rfl) rfl (fun χ w hw => run_nc _ rfl) ?_
      refine fx_val (fun _ => rfl) rfl (fun χ w hw => run_fa _ _ _ rfl) ?_
      refine fx_val (fun _ => rfl) rfl (fun χ w hw => run_ld _ _ rfl hw) ?_
      refine fx_val (fun _ => rfl) rfl (fun χ w hw => run_mv _ rfl) ?_
      refine fx_val (fun _ => rfl) rfl (fun χ w hw => run_mv _ rfl) ?_
      refine fx_val (fun _ => rfl) rfl (fun χ w hw => run_nc _ rfl) ?_
      refine fx_val (fun _ => rfl) rfl (fun χ w hw => run_fa _ _ _ rfl) ?_
      refine fx_val (fun _ => rfl) rfl (fun χ w hw => run_ld _ _ rfl hw) ?_
      refine fx_turn 0 0 rfl rfl (by first | rfl | kernel_rfl) (by first | rfl | kernel_rfl) (by first | rfl | kernel_rfl) 11 [_, _, _] _ rfl (fun _ => rfl) (enters _ (by kernel_rfl)) (fun _ => .tuple #[.agg #[.int .i64 0, .int .i64 0, .int .u32 0], .int .i64 4]) ?_ ?_
      · intro χ X w _ hS
        exact dk_grant (show St w0 bs w (E1 ++ (X ++ _)) from hS) hT tk nw _ _ _ g1'.out g2'.out g3'.out (fun E' w' hT' hS' => ⟨(undef, E'), rfl, hT', show St w0 bs w' (E' ++ (X ++ _)) from hS'.pick⟩)
      refine fx_val (fun _ => rfl) rfl (fun χ w hw => run_mv _ rfl) ?_
      refine fx_val (fun _ => rfl) rfl (fun χ w hw => run_ext _ _ rfl) ?_
      refine fx_val (fun _ => rfl) rfl (fun χ w hw => run_ext _ _ rfl) ?_
      refine fx_turn0 1 0 rfl rfl (by first | rfl | kernel_rfl) (by first | rfl | kernel_rfl) (by first | rfl | kernel_rfl) (fun _ => rfl) (fun x => x.1) ?_ ?_
      · intro χ X w _ hS
        exact stepX_al _ rfl (show St w0 bs w (X ++ _) from hS) (fun b' w' _ hS' => ⟨(_, [_]), rfl, ⟨b', rfl⟩, hS'⟩)
      refine fx_turn0 1 1 rfl rfl (by first | rfl | kernel_rfl) (by first | rfl | kernel_rfl) (by first | rfl | kernel_rfl) (fun _ => rfl) (fun _ => undef) ?_ ?_
      · rintro χ X w ⟨⟨bo, hb⟩, _⟩ hS
        have hS : St w0 bs w ((χ 13).2 ++ (X ++ _)) := hS
        rw [hb] at hS
        have hS : St w0 bs w (⟨bo, #[.int .i64 0, .int .i64 0, .int .u32 0], 29, true⟩ :: (X ++ _)) := hS
        have hb1 : (χ 13).1 = .pointer (some ⟨bo, 0, none⟩) := by rw [hb]
        exact stepX_stb _ _ _ rfl hS hb1 (fun w' hS' => ⟨(undef, [⟨bo, #[.int .i64 0, .int .i64 0, .int .u32 0], 29, true⟩]), rfl, ⟨bo, hb1, rfl⟩, hS'⟩)
      refine fx_val (fun _ => rfl) rfl (fun χ w hw => run_as _ rfl) ?_
      refine fx_end rfl ?_
      intro χ w hok hS
      obtain ⟨hT2, _⟩ := hok _ (.head _)
      obtain ⟨⟨bo, hb⟩, ⟨bo', hb1, hb2⟩, _⟩ := hok _ (.tail _ (.head _))
      rw [hb] at hb1
      obtain ⟨⟩ := hb1
      have hS : St w0 bs w (((χ 9).2 ++ ((χ 14).2 ++ [])) ++ (⟨b, #[.pointer p, v1, v2, .int .i64 nw, .bool ok], 52, true⟩ :: (E2 ++ (E3 ++ (⟨bm, #[.int .u8 x, .int .u8 y, .int .u8 z, .int .u8 t], 46, true⟩ :: H1))))) := hS
      rw [hb2, List.append_nil, List.append_assoc] at hS
      generalize (χ 9).2 = E4 at hS hT2
      simp only [hb]
      simp only [List.cons_append, List.nil_append] at hS
      clear hok hb2 hb
      go_wp2_with (first | go_skip | (refine wpList_is (.binOp .eql _ _ _ _) rfl ?_; refine wpList_stp rfl (stp_val (run_aeq _ _ _ _ rfl) ?_)) | (refine wpList_is (.binOp .neq _ _ _ _) rfl ?_; refine wpList_stp rfl (stp_val (run_ane _ _ _ _ rfl) ?_)) | go_skip | (refine wpList_is (.build _ _) rfl ?_; go_must (refine wpList_stp rfl (stp_val (run_bd _ _ rfl) ?_))) | (refine wpList_is (.call { callee := .builtin .clear, args := #[_], argTypes := #[_] }) rfl ?_; go_must (refine wpList_stp rfl (stp_cl _ _ rfl hS (by decide) ?_)); clear hS; intro w hS) | (refine wpList_is (.load _ _) rfl ?_; go_must (first | refine wpList_stp rfl (stp_val (run_ld _ _ rfl hS) ?_) | refine wpList_stp rfl (stp_val (run_lda _ _ rfl hS) ?_) | refine wpList_stp rfl (stp_val (run_ld0 _ _ rfl hS) ?_) | refine wpList_stp rfl (stp_val (run_lda0 _ _ rfl hS) ?_))) | (refine wpList_is (.store _ _ _) rfl ?_; go_must (first | refine wpList_stp rfl (stp_st _ _ _ rfl hS ?_) | refine wpList_stp rfl (stp_sta _ _ _ rfl hS ?_)); clear hS; intro w hS) | (refine wpList_is (.alloc _) rfl ?_; go_must (refine wpList_stp rfl (stp_al _ rfl hS ?_)); clear hS; intro bN w hbN hS) | (refine wpList_is (.box _ _) rfl ?_; go_must (refine wpList_stp rfl (stp_bx _ _ rfl hS ?_)); clear hS; intro bN w hbN hS) | (refine wpList_is (.binOp .eql _ _ (.const (.slice none _ _)) _) rfl ?_; refine wpList_stp rfl (stp_val (run_nse _ _ _ rfl) ?_)) | (refine wpList_is (.binOp .neq _ _ (.const (.slice none _ _)) _) rfl ?_; refine wpList_stp rfl (stp_val (run_nsn _ _ _ rfl) ?_)))
      exact hR _ _ _ _ (⟨b, #[.pointer p, v1, v2, .int .i64 nw, .bool ok], 52, true⟩ :: (E4 ++ (E2 ++ E3))) _ ⟨v1, v2, E4, E2, E3, hT2, hA, hU, rfl⟩ hI' hnb.1 hnb.2 (by omega) (.inl rfl) Kin.refl (by simp only [List.cons_append, List.append_assoc]; exact hS.pick)
  · obtain ⟨hIn, hno⟩ := hI'.grant hi hs htb (by omega)
    rw [hgn] at hIn hno
    have hkin' := Lib.hid (show Kin L (grN L i (nw + tk)) from Kin.set hi (show (lgD L i).2.1 ≤ (lgD L i).2.1 + 1 by omega))
    have hct := decide_eq_false hno
    have hct' := Lib.hid hct
    have g1' := Lib.hid g1
    have g2' := Lib.hid g2
    have g3' := Lib.hid g3
    have hIn' := Lib.hid hIn
    have hus := hI.len
    have hsum : SumIs nw tk (nw + tk) := ⟨rfl, by omega, by omega⟩
    clear g1 g2 g3 hnw hwn hct hno hIn hs hgn hi
    rcases hcond with hc1 | ⟨hc1, hc2⟩
    · go_enter Try.func21, Try.ntmps21
      go_wp2_with (first | go_skip | (refine wpList_is (.box 46 _) rfl ?_; go_must (refine wpList_stp rfl (stp_bx _ _ rfl hS ?_)); clear hS; intro bm w _ hS) | (refine region_tail 11 hS (by kernel_rfl) (by kernel_rfl) ?_; clear hS; intro w hS; simp only [List.take_succ_cons, List.take_zero, List.drop_succ_cons, List.drop_zero]; (repeat (first | (refine wpStill_is (.load _ _) rfl ?_; go_must (first | refine wpStill_val rfl (run_ld _ _ rfl hS) ?_ | refine wpStill_val rfl (run_lda _ _ rfl hS) ?_ | refine wpStill_val rfl (run_ld0 _ _ rfl hS) ?_ | refine wpStill_val rfl (run_lda0 _ _ rfl hS) ?_)) | still_step)); refine wpStill_nil ?_) | go_skip | (refine wpList_is (.call { callee := .builtin .len, args := #[_], argTypes := #[_] }) rfl ?_; refine wpList_stp rfl (stp_val (run_lenv _ _ rfl) ?_)) | (refine wpList_is (.slice _ _ none (some _) none) rfl ?_; refine wpList_stp rfl (stp_val (run_prev _ _ _ rfl) ?_)) | (refine wpList_is (.indexAddr _ _ _) rfl ?_; refine wpList_stp rfl (stp_val (run_idxv _ _ _ rfl) ?_)) | go_skip | (refine wpList_is (.build _ _) rfl ?_; go_must (refine wpList_stp rfl (stp_val (run_bd _ _ rfl) ?_))) | (refine wpList_is (.call { callee := .builtin .clear, args := #[_], argTypes := #[_] }) rfl ?_; go_must (refine wpList_stp rfl (stp_cl _ _ rfl hS (by decide) ?_)); clear hS; intro w hS) | (refine wpList_is (.load _ _) rfl ?_; go_must (first | refine wpList_stp rfl (stp_val (run_ld _ _ rfl hS) ?_) | refine wpList_stp rfl (stp_val (run_lda _ _ rfl hS) ?_) | refine wpList_stp rfl (stp_val (run_ld0 _ _ rfl hS) ?_) | refine wpList_stp rfl (stp_val (run_lda0 _ _ rfl hS) ?_))) | (refine wpList_is (.store _ _ _) rfl ?_; go_must (first | refine wpList_stp rfl (stp_st _ _ _ rfl hS ?_) | refine wpList_stp rfl (stp_sta _ _ _ rfl hS ?_)); clear hS; intro w hS) | (refine wpList_is (.alloc _) rfl ?_; go_must (refine wpList_stp rfl (stp_al _ rfl hS ?_)); clear hS; intro bN w hbN hS) | (refine wpList_is (.box _ _) rfl ?_; go_must (refine wpList_stp rfl (stp_bx _ _ rfl hS ?_)); clear hS; intro bN w hbN hS) | (refine wpList_is (.binOp .eql _ _ (.const (.slice none _ _)) _) rfl ?_; refine wpList_stp rfl (stp_val (run_nse _ _ _ rfl) ?_)) | (refine wpList_is (.binOp .neq _ _ (.const (.slice none _ _)) _) rfl ?_; refine wpList_stp rfl (stp_val (run_nsn _ _ _ rfl) ?_)))
      simp only [hwn'.out] at hS
      refine region_itemsE [⟨(undef, E1), [(9, fun _ x => DA p (some (some (grN L i (nw + tk)))) x.2)]⟩, ⟨(undef, []), [(13, fun _ x => ∃ b, x = (.pointer (some ⟨b, 0, none⟩), [⟨b, #[.int .i64 0, .int .i64 0, .int .u32 0], 29, true⟩])), (14, fun y x => ∃ b, y.1 = .pointer (some ⟨b, 0, none⟩) ∧ x.2 = [⟨b, #[.int .i64 3, .int .i64 i, .int .u32 g], 29, true⟩])]⟩]
        (⟨b, #[.pointer p, v1, v2, .int .i64 nw, .bool ok], 52, true⟩ :: (E2 ++ (E3 ++ (⟨bm, #[.int .u8 x, .int .u8 y, .int .u8 z, .int .u8 t], 46, true⟩ :: H1)))) (E1 ++ (⟨b, #[.pointer p, v1, v2, .int .i64 nw, .bool ok], 52, true⟩ :: (E2 ++ (E3 ++ (⟨bm, #[.int .u8 x, .int .u8 y, .int .u8 z, .int .u8 t], 46, true⟩ :: H1))))) (by simp) hS.pick (by kernel_rfl) (by kernel_rfl) ?_
      refine fx_val (fun _ => rfl) rfl (fun χ w hw => run_mv _ rfl) ?_
      refine fx_val (fun _ => rfl) rfl (fun χ w hw => run_nc _ rfl) ?_
      refine fx_val (fun _ => rfl) rfl (fun χ w hw => run_fa _ _ _ rfl) ?_
      refine fx_val (fun _ => rfl) rfl (fun χ w hw => run_ld _ _ rfl hw) ?_
      refine fx_val (fun _ => rfl) rfl (fun χ w hw => run_mv _ rfl) ?_
      refine fx_val (fun _ => rfl) rfl (fun χ w hw => run_mv _ rfl) ?_
      refine fx_val (fun _ => rfl) rfl (fun χ w hw => run_nc _ rfl) ?_
      refine fx_val (fun _ => rfl) rfl (fun χ w hw => run_fa _ _ _ rfl) ?_
      refine fx_val (fun _ => rfl) rfl (fun χ w hw => run_ld _ _ rfl hw) ?_
      refine fx_turn 0 0 rfl rfl (by first | rfl | kernel_rfl) (by first | rfl | kernel_rfl) (by first | rfl | kernel_rfl) 11 [_, _, _] _ rfl (fun _ => rfl) (enters _ (by kernel_rfl)) (fun _ => .tuple #[.agg #[.int .i64 3, .int .i64 i, .int .u32 g], .int .i64 0]) ?_ ?_
      · intro χ X w _ hS
        exact dk_grant (show St w0 bs w (E1 ++ (X ++ _)) from hS) hT tk nw _ _ _ g1'.out g2'.out g3'.out (fun E' w' hT' hS' => ⟨(undef, E'), rfl, hT', show St w0 bs w' (E' ++ (X ++ _)) from hS'.pick⟩)
      refine fx_val (fun _ => rfl) rfl (fun χ w hw => run_mv _ rfl) ?_
      refine fx_val (fun _ => rfl) rfl (fun χ w hw => run_ext _ _ rfl) ?_
      refine fx_val (fun _ => rfl) rfl (fun χ w hw => run_ext _ _ rfl) ?_
      refine fx_turn0 1 0 rfl rfl (by first | rfl | kernel_rfl) (by first | rfl | kernel_rfl) (by first | rfl | kernel_rfl) (fun _ => rfl) (fun x => x.1) ?_ ?_
      · intro χ X w _ hS
        exact stepX_al _ rfl (show St w0 bs w (X ++ _) from hS) (fun b' w' _ hS' => ⟨(_, [_]), rfl, ⟨b', rfl⟩, hS'⟩)
      refine fx_turn0 1 1 rfl rfl (by first | rfl | kernel_rfl) (by first | rfl | kernel_rfl) (by first | rfl | kernel_rfl) (fun _ => rfl) (fun _ => undef) ?_ ?_
      · rintro χ X w ⟨⟨bo, hb⟩, _⟩ hS
        have hS : St w0 bs w ((χ 13).2 ++ (X ++ _)) := hS
        rw [hb] at hS
        have hS : St w0 bs w (⟨bo, #[.int .i64 0, .int .i64 0, .int .u32 0], 29, true⟩ :: (X ++ _)) := hS
        have hb1 : (χ 13).1 = .pointer (some ⟨bo, 0, none⟩) := by rw [hb]
        exact stepX_stb _ _ _ rfl hS hb1 (fun w' hS' => ⟨(undef, [⟨bo, #[.int .i64 3, .int .i64 i, .int .u32 g], 29, true⟩]), rfl, ⟨bo, hb1, rfl⟩, hS'⟩)
      refine fx_val (fun _ => rfl) rfl (fun χ w hw => run_as _ rfl) ?_
      refine fx_end rfl ?_
      intro χ w hok hS
      obtain ⟨hT2, _⟩ := hok _ (.head _)
      obtain ⟨⟨bo, hb⟩, ⟨bo', hb1, hb2⟩, _⟩ := hok _ (.tail _ (.head _))
      rw [hb] at hb1
      obtain ⟨⟩ := hb1
      have hS : St w0 bs w (((χ 9).2 ++ ((χ 14).2 ++ [])) ++ (⟨b, #[.pointer p, v1, v2, .int .i64 nw, .bool ok], 52, true⟩ :: (E2 ++ (E3 ++ (⟨bm, #[.int .u8 x, .int .u8 y, .int .u8 z, .int .u8 t], 46, true⟩ :: H1))))) := hS
      rw [hb2, List.append_nil, List.append_assoc] at hS
      generalize (χ 9).2 = E4 at hS hT2
      simp only [hb]
      simp only [List.cons_append, List.nil_append] at hS
      clear hok hb2 hb
      go_wp2_with (first | go_skip | (refine region_quiet hS (by kernel_rfl) (by kernel_rfl) (fun hne => ?_); (repeat (first | go_big_quiet_skip | (go_big_quiet_want; first | (refine quiet_ask 24 [_, _] _ rfl (enters _ (by kernel_rfl)) (.bool false) (fun w hw => contains_eq (sw_st w hw) hA (by omega) _ _ _ _ hct'.out (fun w' h2 => ⟨rfl, ⟨w', h2.pick⟩, rfl⟩)) ?_; go_big_quiet_on) | (refine quiet_is (.load _ _) rfl ?_; go_must (first | refine quiet_at sw_st (fun w hS => run_ld _ _ rfl hS) ?_ | refine quiet_at sw_st (fun w hS => run_lda _ _ rfl hS) ?_ | refine quiet_at sw_st (fun w hS => run_ld0 _ _ rfl hS) ?_ | refine quiet_at sw_st (fun w hS => run_lda0 _ _ rfl hS) ?_); go_big_quiet_on) | (refine quiet_is (.binOp .eql _ _ (.const (.slice none _ _)) _) rfl ?_; refine quiet_val (fun w _ => run_nse _ _ _ rfl) ?_; go_big_quiet_on) | (refine quiet_is (.binOp .neq _ _ (.const (.slice none _ _)) _) rfl ?_; refine quiet_val (fun w _ => run_nsn _ _ _ rfl) ?_; go_big_quiet_on) | (refine quiet_is (.call { callee := .builtin .len, args := #[_], argTypes := #[_] }) rfl ?_; refine quiet_val (fun w _ => run_lenv _ _ rfl) ?_; go_big_quiet_on) | (refine quiet_is (.indexAddr _ _ _) rfl ?_; refine quiet_val (fun w _ => run_idxv _ _ _ rfl) ?_; go_big_quiet_on) | (refine quiet_is (.binOp .eql _ _ _ _) rfl ?_; refine quiet_val (fun w _ => run_aeq _ _ _ _ rfl) ?_; go_big_quiet_on) | (refine quiet_is (.binOp .neq _ _ _ _) rfl ?_; refine quiet_val (fun w _ => run_ane _ _ _ _ rfl) ?_; go_big_quiet_on) | (go_big_quiet_op; go_big_quiet_on)))); refine wpQuiet_nil ?_; clear hS hne; intro w hS) | (refine wpList_is (.binOp .eql _ _ _ _) rfl ?_; refine wpList_stp rfl (stp_val (run_aeq _ _ _ _ rfl) ?_)) | (refine wpList_is (.binOp .neq _ _ _ _) rfl ?_; refine wpList_stp rfl (stp_val (run_ane _ _ _ _ rfl) ?_)) | go_skip | (refine wpList_is (.build _ _) rfl ?_; go_must (refine wpList_stp rfl (stp_val (run_bd _ _ rfl) ?_))) | (refine wpList_is (.call { callee := .builtin .clear, args := #[_], argTypes := #[_] }) rfl ?_; go_must (refine wpList_stp rfl (stp_cl _ _ rfl hS (by decide) ?_)); clear hS; intro w hS) | (refine wpList_is (.load _ _) rfl ?_; go_must (first | refine wpList_stp rfl (stp_val (run_ld _ _ rfl hS) ?_) | refine wpList_stp rfl (stp_val (run_lda _ _ rfl hS) ?_) | refine wpList_stp rfl (stp_val (run_ld0 _ _ rfl hS) ?_) | refine wpList_stp rfl (stp_val (run_lda0 _ _ rfl hS) ?_))) | (refine wpList_is (.store _ _ _) rfl ?_; go_must (first | refine wpList_stp rfl (stp_st _ _ _ rfl hS ?_) | refine wpList_stp rfl (stp_sta _ _ _ rfl hS ?_)); clear hS; intro w hS) | (refine wpList_is (.alloc _) rfl ?_; go_must (refine wpList_stp rfl (stp_al _ rfl hS ?_)); clear hS; intro bN w hbN hS) | (refine wpList_is (.box _ _) rfl ?_; go_must (refine wpList_stp rfl (stp_bx _ _ rfl hS ?_)); clear hS; intro bN w hbN hS) | (refine wpList_is (.binOp .eql _ _ (.const (.slice none _ _)) _) rfl ?_; refine wpList_stp rfl (stp_val (run_nse _ _ _ rfl) ?_)) | (refine wpList_is (.binOp .neq _ _ (.const (.slice none _ _)) _) rfl ?_; refine wpList_stp rfl (stp_val (run_nsn _ _ _ rfl) ?_)))
      have hS : St w0 bs w (E2 ++ (E3 ++ (⟨b, #[.pointer p, v1, v2, .int .i64 nw, .bool ok], 52, true⟩ :: (E4 ++ (⟨bm, #[.int .u8 x, .int .u8 y, .int .u8 z, .int .u8 t], 46, true⟩ :: ⟨bo, #[.int .i64 3, .int .i64 i, .int .u32 g], 29, true⟩ :: H1))))) := hS.pick
      refine region_depsE [⟨(undef, E2), [(8, [], fun _ _ x => OS x.1 (l ++ [(3, (i : Int), g)]) x.2)]⟩, ⟨(undef, []), [(7, [], fun _ _ x => ∃ b', x = (.slice (some ⟨b', 0, none⟩) 1 1, [⟨b', #[.int .i64 3, .int .i64 i, .int .u32 g], 29, true⟩]))]⟩,
          ⟨(undef, []), [(19, [], fun _ _ x => ∃ b', x = (.slice (some ⟨b', 0, none⟩) 1 1, [⟨b', #[.int .i64 (nw + tk)], 2, true⟩]))]⟩, ⟨(undef, E3), [(20, [], fun _ _ x => US x.1 (us ++ [nw + tk]) x.2)]⟩,
          ⟨(undef, [⟨b, #[.pointer p, v1, v2, .int .i64 nw, .bool ok], 52, true⟩]), [(23, [8], fun q _ x => x.2 = [⟨b, #[.pointer p, (q.getD 0 default).1, v2, .int .i64 nw, .bool ok], 52, true⟩]), (26, [8, 20], fun q _ x => x.2 = [⟨b, #[.pointer p, (q.getD 0 default).1, (q.getD 1 default).1, .int .i64 nw, .bool ok], 52, true⟩])]⟩]
        (E4 ++ (⟨bm, #[.int .u8 x, .int .u8 y, .int .u8 z, .int .u8 t], 46, true⟩ :: ⟨bo, #[.int .i64 3, .int .i64 i, .int .u32 g], 29, true⟩ :: H1)) (E2 ++ (E3 ++ (⟨b, #[.pointer p, v1, v2, .int .i64 nw, .bool ok], 52, true⟩ :: (E4 ++ (⟨bm, #[.int .u8 x, .int .u8 y, .int .u8 z, .int .u8 t], 46, true⟩ :: ⟨bo, #[.int .i64 3, .int .i64 i, .int .u32 g], 29, true⟩ :: H1))))) (by simp) hS (by kernel_rfl) (by kernel_rfl) ?_
      refine dx_val (fun _ => rfl) rfl (fun χ w hw => run_mv _ rfl) ?_
      refine dx_val (fun _ => rfl) rfl (fun χ w hw => run_mv _ rfl) ?_
      refine dx_val (fun _ => rfl) rfl (fun χ w hw => run_mv _ rfl) ?_
      refine dx_val (fun _ => rfl) rfl (fun χ w hw => run_nc _ rfl) ?_
      refine dx_val (fun _ => rfl) rfl (fun χ w hw => run_fa _ _ _ rfl) ?_
      refine dx_valS 4 0 rfl (by kernel_rfl) (fun _ => rfl) rfl (fun _ => v1) (fun _ _ _ => rfl) (fun χ X w _ hS => run_ld _ _ rfl (show St w0 bs w (⟨b, #[.pointer p, v1, v2, .int .i64 nw, .bool ok], 52, true⟩ :: (X ++ _)) from hS)) ?_
      refine dx_val (fun _ => rfl) rfl (fun χ w hw => run_lda _ _ rfl hw) ?_
      refine dx_turn0 1 0 rfl rfl (by kernel_rfl) (by kernel_rfl) (by kernel_rfl) (by kernel_rfl) (fun _ => rfl) (fun x => x.1) ?_ ?_
      · intro χ X w _ hS
        exact stepX_to 79 rfl (by simp) (stp_bsl (size := 3) (e := 29) _ 1 [(0, _)] rfl (show St w0 bs w (X ++ _) from hS) (by decide) rfl (by decide) (by decide) (fun b' w' _ hS' => ⟨_, rfl, (.slice (some ⟨b', 0, none⟩) 1 1, [⟨b', #[.int .i64 3, .int .i64 i, .int .u32 g], 29, true⟩]), rfl, ⟨b', rfl⟩, hS'⟩))
      refine dx_turnW 0 0 0 1 rfl rfl rfl (by kernel_rfl) (by kernel_rfl) (by kernel_rfl) (by kernel_rfl) (by kernel_rfl) (fun _ => rfl) (fun x => x.1) ?_ ?_
      · rintro χ X w _ ⟨⟨b', hb'⟩, _⟩ hS
        have hS : St w0 bs w (E2 ++ ((χ 7).2 ++ (X ++ _))) := hS
        rw [hb'] at hS
        simp only [List.cons_append, List.nil_append] at hS
        simp only [hb']
        refine stepX_to 80 rfl (by simp) (stp_ap _ _ _ _ rfl rfl hS (by rfl) (show Sl 29 3 v1 l.length (l.flatMap olf) E2 from hA) (by rfl) (by simp only [maxLen]; omega) (by omega) ?_)
        intro v' E' w' hsl' _ hS'
        refine ⟨_, rfl, (v', E'), rfl, OS.snoc hsl', ?_⟩
        show St w0 bs w' (E' ++ ((χ 7).2 ++ (X ++ _)))
        rw [hb']
        exact hS'.pick
      refine dx_val (fun _ => rfl) rfl (fun χ w hw => run_mv _ rfl) ?_
      refine dx_val (fun _ => rfl) rfl (fun χ w hw => run_nc _ rfl) ?_
      refine dx_val (fun _ => rfl) rfl (fun χ w hw => run_fa _ _ _ rfl) ?_
      refine dx_valS 4 0 rfl (by kernel_rfl) (fun _ => rfl) rfl (fun _ => v2) (fun _ _ _ => rfl) (fun χ X w _ hS => run_ld _ _ rfl (show St w0 bs w (⟨b, #[.pointer p, v1, v2, .int .i64 nw, .bool ok], 52, true⟩ :: (X ++ _)) from hS)) ?_
      refine dx_val (fun _ => rfl) rfl (fun χ w hw => run_mv _ rfl) ?_
      refine dx_val (fun _ => rfl) rfl (fun χ w hw => run_nc _ rfl) ?_
      refine dx_val (fun _ => rfl) rfl (fun χ w hw => run_fa _ _ _ rfl) ?_
      refine dx_valS 4 0 rfl (by kernel_rfl) (fun _ => rfl) rfl (fun _ => .int .i64 nw) (fun _ _ _ => rfl) (fun χ X w _ hS => run_ld _ _ rfl (show St w0 bs w (⟨b, #[.pointer p, v1, v2, .int .i64 nw, .bool ok], 52, true⟩ :: (X ++ _)) from hS)) ?_
      refine dx_val (fun _ => rfl) rfl (fun χ w hw => run_mv _ rfl) ?_
      refine dx_val (fun _ => rfl) rfl (fun χ w hw => run_sumv _ _ _ _ rfl) ?_
      refine dx_turn0 2 0 rfl rfl (by kernel_rfl) (by kernel_rfl) (by kernel_rfl) (by kernel_rfl) (fun _ => rfl) (fun x => x.1) ?_ ?_
      · intro χ X w _ hS
        exact stepX_to 91 rfl (by simp) (stp_bsl (size := 1) (e := 2) _ 1 [(0, _)] rfl (show St w0 bs w (X ++ _) from hS) (by decide) rfl (by decide) (by decide) (fun b' w' _ hS' => ⟨_, rfl, (.slice (some ⟨b', 0, none⟩) 1 1, [⟨b', #[.int .i64 (nw + tk)], 2, true⟩]), rfl, ⟨b', rfl⟩, hS'⟩))
      refine dx_turnW 3 0 2 1 rfl rfl rfl (by kernel_rfl) (by kernel_rfl) (by kernel_rfl) (by kernel_rfl) (by kernel_rfl) (fun _ => rfl) (fun x => x.1) ?_ ?_
      · rintro χ X w _ ⟨⟨b', hb'⟩, _⟩ hS
        have hS : St w0 bs w (E3 ++ ((χ 19).2 ++ (X ++ _))) := hS
        rw [hb'] at hS
        simp only [List.cons_append, List.nil_append] at hS
        simp only [hb']
        refine stepX_to 92 rfl (by simp) (stp_ap _ _ _ _ rfl rfl hS (by rfl) (show Sl 2 1 v2 us.length (us.flatMap j64f) E3 from hU) (by rfl) (by simp only [maxLen]; omega) (by omega) ?_)
        intro v' E' w' hsl' _ hS'
        refine ⟨_, rfl, (v', E'), rfl, US.snoc hsl', ?_⟩
        show St w0 bs w' (E' ++ ((χ 19).2 ++ (X ++ _)))
        rw [hb']
        exact hS'.pick
      refine dx_val (fun _ => rfl) rfl (fun χ w hw => run_nc _ rfl) ?_
      refine dx_val (fun _ => rfl) rfl (fun χ w hw => run_fa _ _ _ rfl) ?_
      refine dx_turnW 4 0 0 1 rfl rfl rfl (by kernel_rfl) (by kernel_rfl) (by kernel_rfl) (by kernel_rfl) (by kernel_rfl) (fun _ => rfl) (fun _ => undef) ?_ ?_
      · rintro χ X w _ ⟨hA2, _⟩ hS
        have ho8 := hA2.one
        exact stepX_st _ _ _ rfl (show St w0 bs w (⟨b, #[.pointer p, v1, v2, .int .i64 nw, .bool ok], 52, true⟩ :: ((χ 8).2 ++ (X ++ _))) from hS) (fun w' hS' => ⟨(undef, [⟨b, #[.pointer p, (χ 8).1, v2, .int .i64 nw, .bool ok], 52, true⟩]), rfl, rfl, hS'⟩)
      refine dx_val (fun _ => rfl) rfl (fun χ w hw => run_nc _ rfl) ?_
      refine dx_val (fun _ => rfl) rfl (fun χ w hw => run_fa _ _ _ rfl) ?_
      refine dx_turnW 4 1 3 1 rfl rfl rfl (by kernel_rfl) (by kernel_rfl) (by kernel_rfl) (by kernel_rfl) (by kernel_rfl) (fun _ => rfl) (fun _ => undef) ?_ ?_
      · rintro χ X w ⟨hD, _⟩ ⟨hU2, _⟩ hS
        have ho20 := hU2.one
        have hS : St w0 bs w ((χ 23).2 ++ ((χ 20).2 ++ (X ++ _))) := hS
        have hD : (χ 23).2 = [⟨b, #[.pointer p, (χ 8).1, v2, .int .i64 nw, .bool ok], 52, true⟩] := hD
        rw [hD] at hS
        exact stepX_st _ _ _ rfl (show St w0 bs w (⟨b, #[.pointer p, (χ 8).1, v2, .int .i64 nw, .bool ok], 52, true⟩ :: ((χ 20).2 ++ (X ++ _))) from hS) (fun w' hS' => ⟨(undef, [⟨b, #[.pointer p, (χ 8).1, (χ 20).1, .int .i64 nw, .bool ok], 52, true⟩]), rfl, rfl, hS'⟩)
      refine dx_end rfl ?_
      intro χ w hok hS
      obtain ⟨hA2, _⟩ := hok _ (.head _)
      obtain ⟨hU2, _⟩ := hok _ (.tail _ (.tail _ (.tail _ (.head _))))
      obtain ⟨_, hD, _⟩ := hok _ (.tail _ (.tail _ (.tail _ (.tail _ (.head _)))))
      have hD : (χ 26).2 = [⟨b, #[.pointer p, (χ 8).1, (χ 20).1, .int .i64 nw, .bool ok], 52, true⟩] := hD
      have hS : St w0 bs w (((χ 8).2 ++ ((χ 7).2 ++ ((χ 19).2 ++ ((χ 20).2 ++ ((χ 26).2 ++ []))))) ++ (E4 ++ (⟨bm, #[.int .u8 x, .int .u8 y, .int .u8 z, .int .u8 t], 46, true⟩ :: ⟨bo, #[.int .i64 3, .int .i64 i, .int .u32 g], 29, true⟩ :: H1))) := hS
      rw [hD] at hS
      clear hok hD
      have hA2 : OS (χ 8).1 (l ++ [(3, (i : Int), g)]) (χ 8).2 := hA2
      have hU2 : US (χ 20).1 (us ++ [nw + tk]) (χ 20).2 := hU2
      generalize (χ 8).1 = v3 at hS hA2
      generalize (χ 8).2 = E5 at hS hA2
      generalize (χ 20).1 = v4 at hS hU2
      generalize (χ 20).2 = E6 at hS hU2
      generalize (χ 7).2 = E7 at hS
      generalize (χ 19).2 = E8 at hS
      simp only [List.cons_append, List.nil_append, List.append_assoc] at hS
      go_wp2_with (first | go_skip | go_skip | (refine wpList_is (.build _ _) rfl ?_; go_must (refine wpList_stp rfl (stp_val (run_bd _ _ rfl) ?_))) | (refine wpList_is (.call { callee := .builtin .clear, args := #[_], argTypes := #[_] }) rfl ?_; go_must (refine wpList_stp rfl (stp_cl _ _ rfl hS (by decide) ?_)); clear hS; intro w hS) | (refine wpList_is (.load _ _) rfl ?_; go_must (first | refine wpList_stp rfl (stp_val (run_ld _ _ rfl hS) ?_) | refine wpList_stp rfl (stp_val (run_lda _ _ rfl hS) ?_) | refine wpList_stp rfl (stp_val (run_ld0 _ _ rfl hS) ?_) | refine wpList_stp rfl (stp_val (run_lda0 _ _ rfl hS) ?_))) | (refine wpList_is (.store _ _ _) rfl ?_; go_must (first | refine wpList_stp rfl (stp_st _ _ _ rfl hS ?_) | refine wpList_stp rfl (stp_sta _ _ _ rfl hS ?_)); clear hS; intro w hS) | (refine wpList_is (.alloc _) rfl ?_; go_must (refine wpList_stp rfl (stp_al _ rfl hS ?_)); clear hS; intro bN w hbN hS) | (refine wpList_is (.box _ _) rfl ?_; go_must (refine wpList_stp rfl (stp_bx _ _ rfl hS ?_)); clear hS; intro bN w hbN hS) | (refine wpList_is (.binOp .eql _ _ (.const (.slice none _ _)) _) rfl ?_; refine wpList_stp rfl (stp_val (run_nse _ _ _ rfl) ?_)) | (refine wpList_is (.binOp .neq _ _ (.const (.slice none _ _)) _) rfl ?_; refine wpList_stp rfl (stp_val (run_nsn _ _ _ rfl) ?_)))
      exact hR _ _ _ _ (⟨b, #[.pointer p, v3, v4, .int .i64 nw, .bool ok], 52, true⟩ :: (E4 ++ (E5 ++ E6))) _ ⟨v3, v4, E4, E5, E6, hT2, hA2, hU2, rfl⟩ hIn'.out hnb.1 hnb.2 (by simp) (.inr (.inl ⟨_, rfl⟩)) hkin'.out (by simp only [List.cons_append, List.append_assoc]; exact hS.pick)
    · go_enter Try.func21, Try.ntmps21
      go_wp2_with (first | go_skip | (refine wpList_is (.box 46 _) rfl ?_; go_must (refine wpList_stp rfl (stp_bx _ _ rfl hS ?_)); clear hS; intro bm w _ hS) | (refine region_tail 11 hS (by kernel_rfl) (by kernel_rfl) ?_; clear hS; intro w hS; simp only [List.take_succ_cons, List.take_zero, List.drop_succ_cons, List.drop_zero]; (repeat (first | (refine wpStill_is (.load _ _) rfl ?_; go_must (first | refine wpStill_val rfl (run_ld _ _ rfl hS) ?_ | refine wpStill_val rfl (run_lda _ _ rfl hS) ?_ | refine wpStill_val rfl (run_ld0 _ _ rfl hS) ?_ | refine wpStill_val rfl (run_lda0 _ _ rfl hS) ?_)) | still_step)); refine wpStill_nil ?_) | go_skip | (refine wpList_is (.call { callee := .builtin .len, args := #[_], argTypes := #[_] }) rfl ?_; refine wpList_stp rfl (stp_val (run_lenv _ _ rfl) ?_)) | (refine wpList_is (.slice _ _ none (some _) none) rfl ?_; refine wpList_stp rfl (stp_val (run_prev _ _ _ rfl) ?_)) | (refine wpList_is (.indexAddr _ _ _) rfl ?_; refine wpList_stp rfl (stp_val (run_idxv _ _ _ rfl) ?_)) | go_skip | (refine wpList_is (.build _ _) rfl ?_; go_must (refine wpList_stp rfl (stp_val (run_bd _ _ rfl) ?_))) | (refine wpList_is (.call { callee := .builtin .clear, args := #[_], argTypes := #[_] }) rfl ?_; go_must (refine wpList_stp rfl (stp_cl _ _ rfl hS (by decide) ?_)); clear hS; intro w hS) | (refine wpList_is (.load _ _) rfl ?_; go_must (first | refine wpList_stp rfl (stp_val (run_ld _ _ rfl hS) ?_) | refine wpList_stp rfl (stp_val (run_lda _ _ rfl hS) ?_) | refine wpList_stp rfl (stp_val (run_ld0 _ _ rfl hS) ?_) | refine wpList_stp rfl (stp_val (run_lda0 _ _ rfl hS) ?_))) | (refine wpList_is (.store _ _ _) rfl ?_; go_must (first | refine wpList_stp rfl (stp_st _ _ _ rfl hS ?_) | refine wpList_stp rfl (stp_sta _ _ _ rfl hS ?_)); clear hS; intro w hS) | (refine wpList_is (.alloc _) rfl ?_; go_must (refine wpList_stp rfl (stp_al _ rfl hS ?_)); clear hS; intro bN w hbN hS) | (refine wpList_is (.box _ _) rfl ?_; go_must (refine wpList_stp rfl (stp_bx _ _ rfl hS ?_)); clear hS; intro bN w hbN hS) | (refine wpList_is (.binOp .eql _ _ (.const (.slice none _ _)) _) rfl ?_; refine wpList_stp rfl (stp_val (run_nse _ _ _ rfl) ?_)) | (refine wpList_is (.binOp .neq _ _ (.const (.slice none _ _)) _) rfl ?_; refine wpList_stp rfl (stp_val (run_nsn _ _ _ rfl) ?_)))
      simp only [hwn'.out] at hS
      refine region_itemsE [⟨(undef, E1), [(9, fun _ x => DA p (some (some (grN L i (nw + tk)))) x.2)]⟩, ⟨(undef, []), [(13, fun _ x => ∃ b, x = (.pointer (some ⟨b, 0, none⟩), [⟨b, #[.int .i64 0, .int .i64 0, .int .u32 0], 29, true⟩])), (14, fun y x => ∃ b, y.1 = .pointer (some ⟨b, 0, none⟩) ∧ x.2 = [⟨b, #[.int .i64 3, .int .i64 i, .int .u32 g], 29, true⟩])]⟩]
        (⟨b, #[.pointer p, v1, v2, .int .i64 nw, .bool ok], 52, true⟩ :: (E2 ++ (E3 ++ (⟨bm, #[.int .u8 x, .int .u8 y, .int .u8 z, .int .u8 t], 46, true⟩ :: H1)))) (E1 ++ (⟨b, #[.pointer p, v1, v2, .int .i64 nw, .bool ok], 52, true⟩ :: (E2 ++ (E3 ++ (⟨bm, #[.int .u8 x, .int .u8 y, .int .u8 z, .int .u8 t], 46, true⟩ :: H1))))) (by simp) hS.pick (by kernel_rfl) (by kernel_rfl) ?_
      refine fx_val (fun _ => rfl) rfl (fun χ w hw => run_mv _ rfl) ?_
      refine fx_val (fun _ => rfl) rfl (fun χ w hw => run_nc _ rfl) ?_
      refine fx_val (fun _ => rfl) rfl (fun χ w hw => run_fa _ _ _ rfl) ?_
      refine fx_val (fun _ => rfl) rfl (fun χ w hw => run_ld _ _ rfl hw) ?_
      refine fx_val (fun _ => rfl) rfl (fun χ w hw => run_mv _ rfl) ?_
      refine fx_val (fun _ => rfl) rfl (fun χ w hw => run_mv _ rfl) ?_
      refine fx_val (fun _ => rfl) rfl (fun χ w hw => run_nc _ rfl) ?_
      refine fx_val (fun _ => rfl) rfl (fun χ w hw => run_fa _ _ _ rfl) ?_
      refine fx_val (fun _ => rfl) rfl (fun χ w hw => run_ld _ _ rfl hw) ?_
      refine fx_turn 0 0 rfl rfl (by first | rfl | kernel_rfl) (by first | rfl | kernel_rfl) (by first | rfl | kernel_rfl) 11 [_, _, _] _ rfl (fun _ => rfl) (enters _ (by kernel_rfl)) (fun _ => .tuple #[.agg #[.int .i64 3, .int .i64 i, .int .u32 g], .int .i64 0]) ?_ ?_
      · intro χ X w _ hS
        exact dk_grant (show St w0 bs w (E1 ++ (X ++ _)) from hS) hT tk nw _ _ _ g1'.out g2'.out g3'.out (fun E' w' hT' hS' => ⟨(undef, E'), rfl, hT', show St w0 bs w' (E' ++ (X ++ _)) from hS'.pick⟩)
      refine fx_val (fun _ => rfl) rfl (fun χ w hw => run_mv _ rfl) ?_
      refine fx_val (fun _ => rfl) rfl (fun χ w hw => run_ext _ _ rfl) ?_
      refine fx_val (fun _ => rfl) rfl (fun χ w hw => run_ext _ _ rfl) ?_
      refine fx_turn0 1 0 rfl rfl (by first | rfl | kernel_rfl) (by first | rfl | kernel_rfl) (by first | rfl | kernel_rfl) (fun _ => rfl) (fun x => x.1) ?_ ?_
      · intro χ X w _ hS
        exact stepX_al _ rfl (show St w0 bs w (X ++ _) from hS) (fun b' w' _ hS' => ⟨(_, [_]), rfl, ⟨b', rfl⟩, hS'⟩)
      refine fx_turn0 1 1 rfl rfl (by first | rfl | kernel_rfl) (by first | rfl | kernel_rfl) (by first | rfl | kernel_rfl) (fun _ => rfl) (fun _ => undef) ?_ ?_
      · rintro χ X w ⟨⟨bo, hb⟩, _⟩ hS
        have hS : St w0 bs w ((χ 13).2 ++ (X ++ _)) := hS
        rw [hb] at hS
        have hS : St w0 bs w (⟨bo, #[.int .i64 0, .int .i64 0, .int .u32 0], 29, true⟩ :: (X ++ _)) := hS
        have hb1 : (χ 13).1 = .pointer (some ⟨bo, 0, none⟩) := by rw [hb]
        exact stepX_stb _ _ _ rfl hS hb1 (fun w' hS' => ⟨(undef, [⟨bo, #[.int .i64 3, .int .i64 i, .int .u32 g], 29, true⟩]), rfl, ⟨bo, hb1, rfl⟩, hS'⟩)
      refine fx_val (fun _ => rfl) rfl (fun χ w hw => run_as _ rfl) ?_
      refine fx_end rfl ?_
      intro χ w hok hS
      obtain ⟨hT2, _⟩ := hok _ (.head _)
      obtain ⟨⟨bo, hb⟩, ⟨bo', hb1, hb2⟩, _⟩ := hok _ (.tail _ (.head _))
      rw [hb] at hb1
      obtain ⟨⟩ := hb1
      have hS : St w0 bs w (((χ 9).2 ++ ((χ 14).2 ++ [])) ++ (⟨b, #[.pointer p, v1, v2, .int .i64 nw, .bool ok], 52, true⟩ :: (E2 ++ (E3 ++ (⟨bm, #[.int .u8 x, .int .u8 y, .int .u8 z, .int .u8 t], 46, true⟩ :: H1))))) := hS
      rw [hb2, List.append_nil, List.append_assoc] at hS
      generalize (χ 9).2 = E4 at hS hT2
      simp only [hb]
      simp only [List.cons_append, List.nil_append] at hS
      clear hok hb2 hb
      go_wp2_with (first | go_skip | (refine region_quiet hS (by kernel_rfl) (by kernel_rfl) (fun hne => ?_); (repeat (first | go_big_quiet_skip | (go_big_quiet_want; first | (refine quiet_ask 24 [_, _] _ rfl (enters _ (by kernel_rfl)) (.bool false) (fun w hw => contains_eq (sw_st w hw) hA (by omega) _ _ _ _ hct'.out (fun w' h2 => ⟨rfl, ⟨w', h2.pick⟩, rfl⟩)) ?_; go_big_quiet_on) | (refine quiet_is (.load _ _) rfl ?_; go_must (first | refine quiet_at sw_st (fun w hS => run_ld _ _ rfl hS) ?_ | refine quiet_at sw_st (fun w hS => run_lda _ _ rfl hS) ?_ | refine quiet_at sw_st (fun w hS => run_ld0 _ _ rfl hS) ?_ | refine quiet_at sw_st (fun w hS => run_lda0 _ _ rfl hS) ?_); go_big_quiet_on) | (refine quiet_is (.binOp .eql _ _ (.const (.slice none _ _)) _) rfl ?_; refine quiet_val (fun w _ => run_nse _ _ _ rfl) ?_; go_big_quiet_on) | (refine quiet_is (.binOp .neq _ _ (.const (.slice none _ _)) _) rfl ?_; refine quiet_val (fun w _ => run_nsn _ _ _ rfl) ?_; go_big_quiet_on) | (refine quiet_is (.call { callee := .builtin .len, args := #[_], argTypes := #[_] }) rfl ?_; refine quiet_val (fun w _ => run_lenv _ _ rfl) ?_; go_big_quiet_on) | (refine quiet_is (.indexAddr _ _ _) rfl ?_; refine quiet_val (fun w _ => run_idxv _ _ _ rfl) ?_; go_big_quiet_on) | (refine quiet_is (.binOp .eql _ _ _ _) rfl ?_; refine quiet_val (fun w _ => run_aeq _ _ _ _ rfl) ?_; go_big_quiet_on) | (refine quiet_is (.binOp .neq _ _ _ _) rfl ?_; refine quiet_val (fun w _ => run_ane _ _ _ _ rfl) ?_; go_big_quiet_on) | (go_big_quiet_op; go_big_quiet_on)))); refine wpQuiet_nil ?_; clear hS hne; intro w hS) | (refine wpList_is (.binOp .eql _ _ _ _) rfl ?_; refine wpList_stp rfl (stp_val (run_aeq _ _ _ _ rfl) ?_)) | (refine wpList_is (.binOp .neq _ _ _ _) rfl ?_; refine wpList_stp rfl (stp_val (run_ane _ _ _ _ rfl) ?_)) | go_skip | (refine wpList_is (.build _ _) rfl ?_; go_must (refine wpList_stp rfl (stp_val (run_bd _ _ rfl) ?_))) | (refine wpList_is (.call { callee := .builtin .clear, args := #[_], argTypes := #[_] }) rfl ?_; go_must (refine wpList_stp rfl (stp_cl _ _ rfl hS (by decide) ?_)); clear hS; intro w hS) | (refine wpList_is (.load _ _) rfl ?_; go_must (first | refine wpList_stp rfl (stp_val (run_ld _ _ rfl hS) ?_) | refine wpList_stp rfl (stp_val (run_lda _ _ rfl hS) ?_) | refine wpList_stp rfl (stp_val (run_ld0 _ _ rfl hS) ?_) | refine wpList_stp rfl (stp_val (run_lda0 _ _ rfl hS) ?_))) | (refine wpList_is (.store _ _ _) rfl ?_; go_must (first | refine wpList_stp rfl (stp_st _ _ _ rfl hS ?_) | refine wpList_stp rfl (stp_sta _ _ _ rfl hS ?_)); clear hS; intro w hS) | (refine wpList_is (.alloc _) rfl ?_; go_must (refine wpList_stp rfl (stp_al _ rfl hS ?_)); clear hS; intro bN w hbN hS) | (refine wpList_is (.box _ _) rfl ?_; go_must (refine wpList_stp rfl (stp_bx _ _ rfl hS ?_)); clear hS; intro bN w hbN hS) | (refine wpList_is (.binOp .eql _ _ (.const (.slice none _ _)) _) rfl ?_; refine wpList_stp rfl (stp_val (run_nse _ _ _ rfl) ?_)) | (refine wpList_is (.binOp .neq _ _ (.const (.slice none _ _)) _) rfl ?_; refine wpList_stp rfl (stp_val (run_nsn _ _ _ rfl) ?_)))
      have hS : St w0 bs w (E2 ++ (E3 ++ (⟨b, #[.pointer p, v1, v2, .int .i64 nw, .bool ok], 52, true⟩ :: (E4 ++ (⟨bm, #[.int .u8 x, .int .u8 y, .int .u8 z, .int .u8 t], 46, true⟩ :: ⟨bo, #[.int .i64 3, .int .i64 i, .int .u32 g], 29, true⟩ :: H1))))) := hS.pick
      refine region_depsE [⟨(undef, E2), [(8, [], fun _ _ x => OS x.1 (l ++ [(3, (i : Int), g)]) x.2)]⟩, ⟨(undef, []), [(7, [], fun _ _ x => ∃ b', x = (.slice (some ⟨b', 0, none⟩) 1 1, [⟨b', #[.int .i64 3, .int .i64 i, .int .u32 g], 29, true⟩]))]⟩,
          ⟨(undef, []), [(19, [], fun _ _ x => ∃ b', x = (.slice (some ⟨b', 0, none⟩) 1 1, [⟨b', #[.int .i64 (nw + tk)], 2, true⟩]))]⟩, ⟨(undef, E3), [(20, [], fun _ _ x => US x.1 (us ++ [nw + tk]) x.2)]⟩,
          ⟨(undef, [⟨b, #[.pointer p, v1, v2, .int .i64 nw, .bool ok], 52, true⟩]), [(23, [8], fun q _ x => x.2 = [⟨b, #[.pointer p, (q.getD 0 default).1, v2, .int .i64 nw, .bool ok], 52, true⟩]), (26, [8, 20], fun q _ x => x.2 = [⟨b, #[.pointer p, (q.getD 0 default).1, (q.getD 1 default).1, .int .i64 nw, .bool ok], 52, true⟩])]⟩]
        (E4 ++ (⟨bm, #[.int .u8 x, .int .u8 y, .int .u8 z, .int .u8 t], 46, true⟩ :: ⟨bo, #[.int .i64 3, .int .i64 i, .int .u32 g], 29, true⟩ :: H1)) (E2 ++ (E3 ++ (⟨b, #[.pointer p, v1, v2, .int .i64 nw, .bool ok], 52, true⟩ :: (E4 ++ (⟨bm, #[.int .u8 x, .int .u8 y, .int .u8 z, .int .u8 t], 46, true⟩ :: ⟨bo, #[.int .i64 3, .int .i64 i, .int .u32 g], 29, true⟩ :: H1))))) (by simp) hS (by kernel_rfl) (by kernel_rfl) ?_
      refine dx_val (fun _ => rfl) rfl (fun χ w hw => run_mv _ rfl) ?_
      refine dx_val (fun _ => rfl) rfl (fun χ w hw => run_mv _ rfl) ?_
      refine dx_val (fun _ => rfl) rfl (fun χ w hw => run_mv _ rfl) ?_
      refine dx_val (fun _ => rfl) rfl (fun χ w hw => run_nc _ rfl) ?_
      refine dx_val (fun _ => rfl) rfl (fun χ w hw => run_fa _ _ _ rfl) ?_
      refine dx_valS 4 0 rfl (by kernel_rfl) (fun _ => rfl) rfl (fun _ => v1) (fun _ _ _ => rfl) (fun χ X w _ hS => run_ld _ _ rfl (show St w0 bs w (⟨b, #[.pointer p, v1, v2, .int .i64 nw, .bool ok], 52, true⟩ :: (X ++ _)) from hS)) ?_
      refine dx_val (fun _ => rfl) rfl (fun χ w hw => run_lda _ _ rfl hw) ?_
      refine dx_turn0 1 0 rfl rfl (by kernel_rfl) (by kernel_rfl) (by kernel_rfl) (by kernel_rfl) (fun _ => rfl) (fun x => x.1) ?_ ?_
      · intro χ X w _ hS
        exact stepX_to 79 rfl (by simp) (stp_bsl (size := 3) (e := 29) _ 1 [(0, _)] rfl (show St w0 bs w (X ++ _) from hS) (by decide) rfl (by decide) (by decide) (fun b' w' _ hS' => ⟨_, rfl, (.slice (some ⟨b', 0, none⟩) 1 1, [⟨b', #[.int .i64 3, .int .i64 i, .int .u32 g], 29, true⟩]), rfl, ⟨b', rfl⟩, hS'⟩))
      refine dx_turnW 0 0 0 1 rfl rfl rfl (by kernel_rfl) (by kernel_rfl) (by kernel_rfl) (by kernel_rfl) (by kernel_rfl) (fun _ => rfl) (fun x => x.1) ?_ ?_
      · rintro χ X w _ ⟨⟨b', hb'⟩, _⟩ hS
        have hS : St w0 bs w (E2 ++ ((χ 7).2 ++ (X ++ _))) := hS
        rw [hb'] at hS
        simp only [List.cons_append, List.nil_append] at hS
        simp only [hb']
        refine stepX_to 80 rfl (by simp) (stp_ap _ _ _ _ rfl rfl hS (by rfl) (show Sl 29 3 v1 l.length (l.flatMap olf) E2 from hA) (by rfl) (by simp only [maxLen]; omega) (by omega) ?_)
        intro v' E' w' hsl' _ hS'
        refine ⟨_, rfl, (v', E'), rfl, OS.snoc hsl', ?_⟩
        show St w0 bs w' (E' ++ ((χ 7).2 ++ (X ++ _)))
        rw [hb']
        exact hS'.pick
      refine dx_val (fun _ => rfl) rfl (fun χ w hw => run_mv _ rfl) ?_
      refine dx_val (fun _ => rfl) rfl (fun χ w hw => run_nc _ rfl) ?_
      refine dx_val (fun _ => rfl) rfl (fun χ w hw => run_fa _ _ _ rfl) ?_
      refine dx_valS 4 0 rfl (by kernel_rfl) (fun _ => rfl) rfl (fun _ => v2) (fun _ _ _ => rfl) (fun χ X w _ hS => run_ld _ _ rfl (show St w0 bs w (⟨b, #[.pointer p, v1, v2, .int .i64 nw, .bool ok], 52, true⟩ :: (X ++ _)) from hS)) ?_
      refine dx_val (fun _ => rfl) rfl (fun χ w hw => run_mv _ rfl) ?_
      refine dx_val (fun _ => rfl) rfl (fun χ w hw => run_nc _ rfl) ?_
      refine dx_val (fun _ => rfl) rfl (fun χ w hw => run_fa _ _ _ rfl) ?_
      refine dx_valS 4 0 rfl (by kernel_rfl) (fun _ => rfl) rfl (fun _ => .int .i64 nw) (fun _ _ _ => rfl) (fun χ X w _ hS => run_ld _ _ rfl (show St w0 bs w (⟨b, #[.pointer p, v1, v2, .int .i64 nw, .bool ok], 52, true⟩ :: (X ++ _)) from hS)) ?_
      refine dx_val (fun _ => rfl) rfl (fun χ w hw => run_mv _ rfl) ?_
      refine dx_val (fun _ => rfl) rfl (fun χ w hw => run_sumv _ _ _ _ rfl) ?_
      refine dx_turn0 2 0 rfl rfl (by kernel_rfl) (by kernel_rfl) (by kernel_rfl) (by kernel_rfl) (fun _ => rfl) (fun x => x.1) ?_ ?_
      · intro χ X w _ hS
        exact stepX_to 91 rfl (by simp) (stp_bsl (size := 1) (e := 2) _ 1 [(0, _)] rfl (show St w0 bs w (X ++ _) from hS) (by decide) rfl (by decide) (by decide) (fun b' w' _ hS' => ⟨_, rfl, (.slice (some ⟨b', 0, none⟩) 1 1, [⟨b', #[.int .i64 (nw + tk)], 2, true⟩]), rfl, ⟨b', rfl⟩, hS'⟩))
      refine dx_turnW 3 0 2 1 rfl rfl rfl (by kernel_rfl) (by kernel_rfl) (by kernel_rfl) (by kernel_rfl) (by kernel_rfl) (fun _ => rfl) (fun x => x.1) ?_ ?_
      · rintro χ X w _ ⟨⟨b', hb'⟩, _⟩ hS
        have hS : St w0 bs w (E3 ++ ((χ 19).2 ++ (X ++ _))) := hS
        rw [hb'] at hS
        simp only [List.cons_append, List.nil_append] at hS
        simp only [hb']
        refine stepX_to 92 rfl (by simp) (stp_ap _ _ _ _ rfl rfl hS (by rfl) (show Sl 2 1 v2 us.length (us.flatMap j64f) E3 from hU) (by rfl) (by simp only [maxLen]; omega) (by omega) ?_)
        intro v' E' w' hsl' _ hS'
        refine ⟨_, rfl, (v', E'), rfl, US.snoc hsl', ?_⟩
        show St w0 bs w' (E' ++ ((χ 19).2 ++ (X ++ _)))
        rw [hb']
        exact hS'.pick
      refine dx_val (fun _ => rfl) rfl (fun χ w hw => run_nc _ rfl) ?_
      refine dx_val (fun _ => rfl) rfl (fun χ w hw => run_fa _ _ _ rfl) ?_
      refine dx_turnW 4 0 0 1 rfl rfl rfl (by kernel_rfl) (by kernel_rfl) (by kernel_rfl) (by kernel_rfl) (by kernel_rfl) (fun _ => rfl) (fun _ => undef) ?_ ?_
      · rintro χ X w _ ⟨hA2, _⟩ hS
        have ho8 := hA2.one
        exact stepX_st _ _ _ rfl (show St w0 bs w (⟨b, #[.pointer p, v1, v2, .int .i64 nw, .bool ok], 52, true⟩ :: ((χ 8).2 ++ (X ++ _))) from hS) (fun w' hS' => ⟨(undef, [⟨b, #[.pointer p, (χ 8).1, v2, .int .i64 nw, .bool ok], 52, true⟩]), rfl, rfl, hS'⟩)
      refine dx_val (fun _ => rfl) rfl (fun χ w hw => run_nc _ rfl) ?_
      refine dx_val (fun _ => rfl) rfl (fun χ w hw => run_fa _ _ _ rfl) ?_
      refine dx_turnW 4 1 3 1 rfl rfl rfl (by kernel_rfl) (by kernel_rfl) (by kernel_rfl) (by kernel_rfl) (by kernel_rfl) (fun _ => rfl) (fun _ => undef) ?_ ?_
      · rintro χ X w ⟨hD, _⟩ ⟨hU2, _⟩ hS
        have ho20 := hU2.one
        have hS : St w0 bs w ((χ 23).2 ++ ((χ 20).2 ++ (X ++ _))) := hS
        have hD : (χ 23).2 = [⟨b, #[.pointer p, (χ 8).1, v2, .int .i64 nw, .bool ok], 52, true⟩] := hD
        rw [hD] at hS
        exact stepX_st _ _ _ rfl (show St w0 bs w (⟨b, #[.pointer p, (χ 8).1, v2, .int .i64 nw, .bool ok], 52, true⟩ :: ((χ 20).2 ++ (X ++ _))) from hS) (fun w' hS' => ⟨(undef, [⟨b, #[.pointer p, (χ 8).1, (χ 20).1, .int .i64 nw, .bool ok], 52, true⟩]), rfl, rfl, hS'⟩)
      refine dx_end rfl ?_
      intro χ w hok hS
      obtain ⟨hA2, _⟩ := hok _ (.head _)
      obtain ⟨hU2, _⟩ := hok _ (.tail _ (.tail _ (.tail _ (.head _))))
      obtain ⟨_, hD, _⟩ := hok _ (.tail _ (.tail _ (.tail _ (.tail _ (.head _)))))
      have hD : (χ 26).2 = [⟨b, #[.pointer p, (χ 8).1, (χ 20).1, .int .i64 nw, .bool ok], 52, true⟩] := hD
      have hS : St w0 bs w (((χ 8).2 ++ ((χ 7).2 ++ ((χ 19).2 ++ ((χ 20).2 ++ ((χ 26).2 ++ []))))) ++ (E4 ++ (⟨bm, #[.int .u8 x, .int .u8 y, .int .u8 z, .int .u8 t], 46, true⟩ :: ⟨bo, #[.int .i64 3, .int .i64 i, .int .u32 g], 29, true⟩ :: H1))) := hS
      rw [hD] at hS
      clear hok hD
      have hA2 : OS (χ 8).1 (l ++ [(3, (i : Int), g)]) (χ 8).2 := hA2
      have hU2 : US (χ 20).1 (us ++ [nw + tk]) (χ 20).2 := hU2
      generalize (χ 8).1 = v3 at hS hA2
      generalize (χ 8).2 = E5 at hS hA2
      generalize (χ 20).1 = v4 at hS hU2
      generalize (χ 20).2 = E6 at hS hU2
      generalize (χ 7).2 = E7 at hS
      generalize (χ 19).2 = E8 at hS
      simp only [List.cons_append, List.nil_append, List.append_assoc] at hS
      go_wp2_with (first | go_skip | go_skip | (refine wpList_is (.build _ _) rfl ?_; go_must (refine wpList_stp rfl (stp_val (run_bd _ _ rfl) ?_))) | (refine wpList_is (.call { callee := .builtin .clear, args := #[_], argTypes := #[_] }) rfl ?_; go_must (refine wpList_stp rfl (stp_cl _ _ rfl hS (by decide) ?_)); clear hS; intro w hS) | (refine wpList_is (.load _ _) rfl ?_; go_must (first | refine wpList_stp rfl (stp_val (run_ld _ _ rfl hS) ?_) | refine wpList_stp rfl (stp_val (run_lda _ _ rfl hS) ?_) | refine wpList_stp rfl (stp_val (run_ld0 _ _ rfl hS) ?_) | refine wpList_stp rfl (stp_val (run_lda0 _ _ rfl hS) ?_))) | (refine wpList_is (.store _ _ _) rfl ?_; go_must (first | refine wpList_stp rfl (stp_st _ _ _ rfl hS ?_) | refine wpList_stp rfl (stp_sta _ _ _ rfl hS ?_)); clear hS; intro w hS) | (refine wpList_is (.alloc _) rfl ?_; go_must (refine wpList_stp rfl (stp_al _ rfl hS ?_)); clear hS; intro bN w hbN hS) | (refine wpList_is (.box _ _) rfl ?_; go_must (refine wpList_stp rfl (stp_bx _ _ rfl hS ?_)); clear hS; intro bN w hbN hS) | (refine wpList_is (.binOp .eql _ _ (.const (.slice none _ _)) _) rfl ?_; refine wpList_stp rfl (stp_val (run_nse _ _ _ rfl) ?_)) | (refine wpList_is (.binOp .neq _ _ (.const (.slice none _ _)) _) rfl ?_; refine wpList_stp rfl (stp_val (run_nsn _ _ _ rfl) ?_)))
      exact hR _ _ _ _ (⟨b, #[.pointer p, v3, v4, .int .i64 nw, .bool ok], 52, true⟩ :: (E4 ++ (E5 ++ E6))) _ ⟨v3, v4, E4, E5, E6, hT2, hA2, hU2, rfl⟩ hIn'.out hnb.1 hnb.2 (by simp) (.inr (.inl ⟨_, rfl⟩)) hkin'.out (by simp only [List.cons_append, List.append_assoc]; exact hS.pick)
end Go.Proofs.Ytbjcjbkgjnojmaa
