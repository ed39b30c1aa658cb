/-
  Pools of buffers: the document's functions that change a pool, and its lists.
-/
import Derived.Test.YtmhldlcjfmnkpaaBref
set_option linter.unusedSimpArgs false
set_option linter.unusedVariables false
namespace Go.Proofs.Ytmhldlcjfmnkpaa
open Go.RowKit Go.Mm
variable {R : Ending → World → Prop} {w : World} {w0 : World} {bs : List Nat} {H H' H1 E : List Ent} {L : List Bf} {sp : List Value}

theorem bufCells {l : List Bf} {sp : List Value} : (l.flatMap bff ++ sp).toArray = blk [] bff l sp := rfl
theorem rbAllC (L : List Bf) (sp : List Value) : CellsAt (blk [] bff L sp) 0 (L.length * 4) (L.flatMap bff).toArray := ⟨fun j hj => by
  simp [blk, List.getElem?_append_left, flat_len bff_len, hj], by simp [flat_len bff_len]⟩
theorem rbOnesC (L : List Bf) : OneCells (L.flatMap bff).toArray := ⟨by
  intro v hv
  simp only [List.mem_flatMap] at hv
  obtain ⟨x, _, h⟩ := hv
  exact bff_one x v h⟩

set_option maxHeartbeats 1000000 in
set_option maxRecDepth 100000 in
theorem rb_set {rb rc cap : Nat} {M : Int} (hO : St w0 bs w (⟨rb, #[.bool true, .int .i64 M, .slice (some ⟨rc, 0, none⟩) L.length cap], 82, true⟩ :: ⟨rc, blk [] bff L sp, 84, true⟩ :: H1)) (hl : 0 < L.length ∧ L.length ≤ 64) (x : Bf) (i : Nat) (hi : i < L.length) (b1 b2 : Bool) (hb1 : (x.1 == 1) = b1) (hb2 : (x.1 == 2) = b2)
    (hR : ∀ rc' cap' sp' w', St w0 bs w' (⟨rb, #[.bool true, .int .i64 M, .slice (some ⟨rc', 0, none⟩) L.length cap'], 82, true⟩ :: ⟨rc', blk [] bff (L.set i x) sp', 84, true⟩ :: H1) → Ret R (.tuple #[]) w') :
    Calls Try.prog 34 #[.pointer (some ⟨rb, 0, none⟩), .int .i64 i, .agg #[.bool b1, .bool b2, .int .u32 x.2.1, .int .i64 x.2.2]] w R := by
  have hS := hO
  clear hO
  obtain ⟨l0, l64⟩ := hl
  have i1 := rbAllC L sp
  have i2 := rbOnesC L
  have i3 := fun sp' => rbSet (sp := sp') hi x
  simp only [hb1, hb2] at i3
  have hil : (i : Int) < L.length := by omega
  go_enter Try.func34, Try.ntmps34
  go_wp2_with (first | go_skip | (refine wpList_is (.box 84 _) rfl ?_; go_must (refine wpList_stp rfl (stp_bx _ _ rfl hS ?_)); clear hS; intro bb w _ hS) | (refine wpList_is (.buildSlice _ 0 _) rfl ?_; go_must (refine wpList_stp rfl (stp_bs0 _ rfl hS ?_)); clear hS; intro bN w hbN hS) | (refine wpList_is (.call { callee := .builtin .append, args := #[_, _], argTypes := #[_, _] }) rfl ?_; go_must (refine wpList_stp rfl (stp_ap _ _ _ _ rfl rfl hS (by rfl) sl_zero rfl (by simp only [maxLen]; omega) (by omega) ?_)); clear hS; intro v' E' w hsl hne hS; obtain ⟨gN, cap', sp', rfl, rfl, _⟩ := hsl.some (by omega); simp only [List.cons_append, List.nil_append] at hS; (try rw [Nat.zero_add] at hS); (try rw [bufCells] at hS); (try rw [Nat.zero_add])) | go_skip | (refine wpList_is (.call { callee := .builtin .len, args := #[_], argTypes := #[_] }) rfl ?_; refine wpList_stp rfl (stp_val (run_lenv _ _ rfl) ?_)) | (refine wpList_is (.slice _ _ none (some _) none) rfl ?_; refine wpList_stp rfl (stp_val (run_prev _ _ _ rfl) ?_)) | (refine wpList_is (.indexAddr _ _ _) rfl ?_; refine wpList_stp rfl (stp_val (run_idxv _ _ _ rfl) ?_)) | go_skip | (refine wpList_is (.build _ _) rfl ?_; go_must (refine wpList_stp rfl (stp_val (run_bd _ _ rfl) ?_))) | (refine wpList_is (.call { callee := .builtin .clear, args := #[_], argTypes := #[_] }) rfl ?_; go_must (refine wpList_stp rfl (stp_cl _ _ rfl hS (by decide) ?_)); clear hS; intro w hS) | (refine wpList_is (.load _ _) rfl ?_; go_must (first | refine wpList_stp rfl (stp_val (run_ld _ _ rfl hS) ?_) | refine wpList_stp rfl (stp_val (run_lda _ _ rfl hS) ?_) | refine wpList_stp rfl (stp_val (run_ld0 _ _ rfl hS) ?_) | refine wpList_stp rfl (stp_val (run_lda0 _ _ rfl hS) ?_))) | (refine wpList_is (.store _ _ _) rfl ?_; go_must (first | refine wpList_stp rfl (stp_st _ _ _ rfl hS ?_) | refine wpList_stp rfl (stp_sta _ _ _ rfl hS ?_)); clear hS; intro w hS) | (refine wpList_is (.alloc _) rfl ?_; go_must (refine wpList_stp rfl (stp_al _ rfl hS ?_)); clear hS; intro bN w hbN hS) | (refine wpList_is (.box _ _) rfl ?_; go_must (refine wpList_stp rfl (stp_bx _ _ rfl hS ?_)); clear hS; intro bN w hbN hS) | (refine wpList_is (.binOp .eql _ _ (.const (.slice none _ _)) _) rfl ?_; refine wpList_stp rfl (stp_val (run_nse _ _ _ rfl) ?_)) | (refine wpList_is (.binOp .neq _ _ (.const (.slice none _ _)) _) rfl ?_; refine wpList_stp rfl (stp_val (run_nsn _ _ _ rfl) ?_)))
  refine bodyPost_end (results_none rfl _ _ _) rfl ?_
  exact hR gN cap' sp' _ hS.pick

set_option maxHeartbeats 1000000 in
set_option maxRecDepth 100000 in
theorem rb_unpin {p : Option Addr} {T : Pl} (hO : St w0 bs w H) (hT : PB p T E) [hc : Cut H E H1] (k i g : Int) (T' : Pl) (e : Int) (hT' : upT T k i g = T') (he : fdE T k i g = e)
    (hR : ∀ E' w', PB p T' E' → St w0 bs w' (E' ++ H1) → Ret R (.int .i64 e) w') : Calls Try.prog 22 #[.pointer p, .agg #[.int .i64 k, .int .i64 i, .int .u32 g]] w R := by
  have hS := hO.front (E := E) (H1 := H1)
  clear hO
  by_cases h0 : e = 0
  · subst h0
    rcases T with _ | _ | ⟨M, L⟩
    · cases he
    · cases he
    obtain ⟨hW, rb, rc, cap, sp, rfl, rfl⟩ := id hT
    obtain ⟨j, rfl, rfl, hj, hck, hx⟩ := fdE_zero he
    obtain ⟨hW2, _⟩ := up_w hW hj hck
    have hu : upT (some (some (M, L))) 2 j g = some (some (M, upN L j g)) := by simp only [upT]; rw [if_pos he, Int.toNat_natCast]
    rw [hu] at hT'
    subst hT'
    have hg := hW.tb.gn (1, g) (List.mem_map.2 ⟨_, getDm hj, by rw [hx]⟩)
    have hl : 0 < L.length ∧ L.length ≤ 64 := ⟨hW.lo, hW.hi⟩
    have hlen : (upN L j g).length = L.length := by unfold upN; rw [List.length_set]
    have he' := Lib.hid he
    have hW2' := Lib.hid hW2
    have hlen' := Lib.hid hlen
    by_cases hgm : g < 4294967295
    · have q1 : (g == 4294967295) = false := by simp; omega
      have hup : upN L j g = L.set j (0, g + 1, 0) := by unfold upN; rw [if_pos hgm]
      have hup' := Lib.hid hup
      obtain ⟨g0, g1⟩ := hg
      simp only at g0 g1
      clear he hu hx hW hW2 hlen hup
      go_enter Try.func22, Try.ntmps22
      go_wp2_with (first | go_skip | (refine wpList_is (.box 36 _) rfl ?_; go_must (refine wpList_stp rfl (stp_bx _ _ rfl hS ?_)); clear hS; intro bo w _ hS) | (go_at_call 39; refine rb_find hS hT 2 j g 0 he'.out ?_; clear hS; intro w _ hS; (try simp only [List.cons_append, List.nil_append] at hS); unfold Ret) | (go_at_call 34; go_must (refine rb_set (M := M) (L := L) (sp := sp) (rc := rc) (cap := cap) hS hl (0, g + 1, 0) j hj false false rfl rfl ?_); clear hS; intro rc' cap' sp' w hS; unfold Ret) | go_skip | (refine wpList_is (.build _ _) rfl ?_; go_must (refine wpList_stp rfl (stp_val (run_bd _ _ rfl) ?_))) | (refine wpList_is (.call { callee := .builtin .clear, args := #[_], argTypes := #[_] }) rfl ?_; go_must (refine wpList_stp rfl (stp_cl _ _ rfl hS (by decide) ?_)); clear hS; intro w hS) | (refine wpList_is (.load _ _) rfl ?_; go_must (first | refine wpList_stp rfl (stp_val (run_ld _ _ rfl hS) ?_) | refine wpList_stp rfl (stp_val (run_lda _ _ rfl hS) ?_) | refine wpList_stp rfl (stp_val (run_ld0 _ _ rfl hS) ?_) | refine wpList_stp rfl (stp_val (run_lda0 _ _ rfl hS) ?_))) | (refine wpList_is (.store _ _ _) rfl ?_; go_must (first | refine wpList_stp rfl (stp_st _ _ _ rfl hS ?_) | refine wpList_stp rfl (stp_sta _ _ _ rfl hS ?_)); clear hS; intro w hS) | (refine wpList_is (.alloc _) rfl ?_; go_must (refine wpList_stp rfl (stp_al _ rfl hS ?_)); clear hS; intro bN w hbN hS) | (refine wpList_is (.box _ _) rfl ?_; go_must (refine wpList_stp rfl (stp_bx _ _ rfl hS ?_)); clear hS; intro bN w hbN hS) | (refine wpList_is (.binOp .eql _ _ (.const (.slice none _ _)) _) rfl ?_; refine wpList_stp rfl (stp_val (run_nse _ _ _ rfl) ?_)) | (refine wpList_is (.binOp .neq _ _ (.const (.slice none _ _)) _) rfl ?_; refine wpList_stp rfl (stp_val (run_nsn _ _ _ rfl) ?_)))
      refine hR [_, _] _ ⟨hW2'.out, rb, rc', cap', sp', rfl, rfl⟩ ?_
      rw [hlen'.out, hup'.out]
      exact hS.pick
    · obtain ⟨g0, g1⟩ := hg
      simp only at g0 g1
      obtain rfl : g = 4294967295 := by omega
      have hup : upN L j 4294967295 = L.set j (2, 4294967295, 0) := by unfold upN; rw [if_neg hgm]
      have hup' := Lib.hid hup
      clear he hu hx hW hW2 hlen hup
      go_enter Try.func22, Try.ntmps22
      go_wp2_with (first | go_skip | (refine wpList_is (.box 36 _) rfl ?_; go_must (refine wpList_stp rfl (stp_bx _ _ rfl hS ?_)); clear hS; intro bo w _ hS) | (go_at_call 39; refine rb_find hS hT 2 j 4294967295 0 he'.out ?_; clear hS; intro w _ hS; (try simp only [List.cons_append, List.nil_append] at hS); unfold Ret) | (go_at_call 34; go_must (refine rb_set (M := M) (L := L) (sp := sp) (rc := rc) (cap := cap) hS hl (2, 4294967295, 0) j hj false true rfl rfl ?_); clear hS; intro rc' cap' sp' w hS; unfold Ret) | go_skip | (refine wpList_is (.build _ _) rfl ?_; go_must (refine wpList_stp rfl (stp_val (run_bd _ _ rfl) ?_))) | (refine wpList_is (.call { callee := .builtin .clear, args := #[_], argTypes := #[_] }) rfl ?_; go_must (refine wpList_stp rfl (stp_cl _ _ rfl hS (by decide) ?_)); clear hS; intro w hS) | (refine wpList_is (.load _ _) rfl ?_; go_must (first | refine wpList_stp rfl (stp_val (run_ld _ _ rfl hS) ?_) | refine wpList_stp rfl (stp_val (run_lda _ _ rfl hS) ?_) | refine wpList_stp rfl (stp_val (run_ld0 _ _ rfl hS) ?_) | refine wpList_stp rfl (stp_val (run_lda0 _ _ rfl hS) ?_))) | (refine wpList_is (.store _ _ _) rfl ?_; go_must (first | refine wpList_stp rfl (stp_st _ _ _ rfl hS ?_) | refine wpList_stp rfl (stp_sta _ _ _ rfl hS ?_)); clear hS; intro w hS) | (refine wpList_is (.alloc _) rfl ?_; go_must (refine wpList_stp rfl (stp_al _ rfl hS ?_)); clear hS; intro bN w hbN hS) | (refine wpList_is (.box _ _) rfl ?_; go_must (refine wpList_stp rfl (stp_bx _ _ rfl hS ?_)); clear hS; intro bN w hbN hS) | (refine wpList_is (.binOp .eql _ _ (.const (.slice none _ _)) _) rfl ?_; refine wpList_stp rfl (stp_val (run_nse _ _ _ rfl) ?_)) | (refine wpList_is (.binOp .neq _ _ (.const (.slice none _ _)) _) rfl ?_; refine wpList_stp rfl (stp_val (run_nsn _ _ _ rfl) ?_)))
      refine hR [_, _] _ ⟨hW2'.out, rb, rc', cap', sp', rfl, rfl⟩ ?_
      rw [hlen'.out, hup'.out]
      exact hS.pick
  · obtain ⟨_, _, b3⟩ := fd_bad (T := T) (k := k) (i := i) (g := g) (by rw [he]; exact h0)
    rw [b3] at hT'
    subst hT'
    have q : (e != 0) = true := by simpa using h0
    have he' := Lib.hid he
    clear he b3 h0
    go_enter Try.func22, Try.ntmps22
    go_wp2_with (first | go_skip | (refine wpList_is (.box 36 _) rfl ?_; go_must (refine wpList_stp rfl (stp_bx _ _ rfl hS ?_)); clear hS; intro bo w _ hS) | (go_at_call 39; refine rb_find hS hT k i g e he'.out ?_; clear hS; intro w _ hS; unfold Ret) | go_skip | (refine wpList_is (.build _ _) rfl ?_; go_must (refine wpList_stp rfl (stp_val (run_bd _ _ rfl) ?_))) | (refine wpList_is (.call { callee := .builtin .clear, args := #[_], argTypes := #[_] }) rfl ?_; go_must (refine wpList_stp rfl (stp_cl _ _ rfl hS (by decide) ?_)); clear hS; intro w hS) | (refine wpList_is (.load _ _) rfl ?_; go_must (first | refine wpList_stp rfl (stp_val (run_ld _ _ rfl hS) ?_) | refine wpList_stp rfl (stp_val (run_lda _ _ rfl hS) ?_) | refine wpList_stp rfl (stp_val (run_ld0 _ _ rfl hS) ?_) | refine wpList_stp rfl (stp_val (run_lda0 _ _ rfl hS) ?_))) | (refine wpList_is (.store _ _ _) rfl ?_; go_must (first | refine wpList_stp rfl (stp_st _ _ _ rfl hS ?_) | refine wpList_stp rfl (stp_sta _ _ _ rfl hS ?_)); clear hS; intro w hS) | (refine wpList_is (.alloc _) rfl ?_; go_must (refine wpList_stp rfl (stp_al _ rfl hS ?_)); clear hS; intro bN w hbN hS) | (refine wpList_is (.box _ _) rfl ?_; go_must (refine wpList_stp rfl (stp_bx _ _ rfl hS ?_)); clear hS; intro bN w hbN hS) | (refine wpList_is (.binOp .eql _ _ (.const (.slice none _ _)) _) rfl ?_; refine wpList_stp rfl (stp_val (run_nse _ _ _ rfl) ?_)) | (refine wpList_is (.binOp .neq _ _ (.const (.slice none _ _)) _) rfl ?_; refine wpList_stp rfl (stp_val (run_nsn _ _ _ rfl) ?_)))
    exact hR _ _ hT hS.pick

def usK (L : List Bf) (k : Nat) : Int := ((L.take k).map (·.2.2)).sum
theorem usK_succ {k : Nat} (hk : k < L.length) : usK L (k + 1) = usK L k + (L.getD k (0, 0, 0)).2.2 := by
  unfold usK
  rw [List.take_succ_eq_append_getElem hk, List.map_append, List.sum_append, List.getD_eq_getElem?_getD, List.getElem?_eq_getElem hk]
  simp
theorem usK_bd {M : Int} (hW : PlW M L) (k : Nat) : 0 ≤ usK L k ∧ usK L k ≤ 4194304 := by
  have h1 := sum_bd0 (f := fun x : Bf => x.2.2) (L.take k) (fun x hx => by
    have := hW.by_ x (List.mem_of_mem_take hx)
    by_cases q : x.1 = 1
    · have := this.1 q; omega
    · have := this.2 q; omega)
  have h2 := hW.hi
  have h3 : (L.take k).length ≤ 64 := by rw [List.length_take]; omega
  unfold usK
  omega
set_option maxHeartbeats 1000000 in
set_option maxRecDepth 100000 in
theorem rb_used {p : Option Addr} {T : Pl} (hO : St w0 bs w H) (hT : PB p T E) [hc : Cut H E H1] (u : Int) (hu : usP T = u)
    (hR : ∀ w', St w0 bs w' (E ++ H1) → Ret R (.int .i64 u) w') : Calls Try.prog 33 #[.pointer p] w R := by
  have hS := hO.front (E := E) (H1 := H1)
  clear hO
  rcases T with _ | _ | ⟨M, L⟩
  · obtain ⟨rfl, rfl⟩ := hT
    obtain rfl : 0 = u := hu
    go_enter Try.func33, Try.ntmps33
    go_wp2_with (first | go_skip | go_skip | (refine wpList_is (.build _ _) rfl ?_; go_must (refine wpList_stp rfl (stp_val (run_bd _ _ rfl) ?_))) | (refine wpList_is (.call { callee := .builtin .clear, args := #[_], argTypes := #[_] }) rfl ?_; go_must (refine wpList_stp rfl (stp_cl _ _ rfl hS (by decide) ?_)); clear hS; intro w hS) | (refine wpList_is (.load _ _) rfl ?_; go_must (first | refine wpList_stp rfl (stp_val (run_ld _ _ rfl hS) ?_) | refine wpList_stp rfl (stp_val (run_lda _ _ rfl hS) ?_) | refine wpList_stp rfl (stp_val (run_ld0 _ _ rfl hS) ?_) | refine wpList_stp rfl (stp_val (run_lda0 _ _ rfl hS) ?_))) | (refine wpList_is (.store _ _ _) rfl ?_; go_must (first | refine wpList_stp rfl (stp_st _ _ _ rfl hS ?_) | refine wpList_stp rfl (stp_sta _ _ _ rfl hS ?_)); clear hS; intro w hS) | (refine wpList_is (.alloc _) rfl ?_; go_must (refine wpList_stp rfl (stp_al _ rfl hS ?_)); clear hS; intro bN w hbN hS) | (refine wpList_is (.box _ _) rfl ?_; go_must (refine wpList_stp rfl (stp_bx _ _ rfl hS ?_)); clear hS; intro bN w hbN hS) | (refine wpList_is (.binOp .eql _ _ (.const (.slice none _ _)) _) rfl ?_; refine wpList_stp rfl (stp_val (run_nse _ _ _ rfl) ?_)) | (refine wpList_is (.binOp .neq _ _ (.const (.slice none _ _)) _) rfl ?_; refine wpList_stp rfl (stp_val (run_nsn _ _ _ rfl) ?_)))
    go_loopw [4, 3] (fun a b wr => a = .int .i64 0 ∧ b = .int .i64 0 ∧ St w0 bs wr ([] ++ H1)) (fun _ _ _ => 0)
    case atStart => exact ⟨rfl, rfl, hS⟩
    case round =>
      clear hS
      obtain ⟨rfl, rfl, hS⟩ := hrel
      go_wp2_with (first | go_skip | (go_at_call 32; refine rb_nil ?_; unfold Ret) | go_skip | (refine wpList_is (.build _ _) rfl ?_; go_must (refine wpList_stp rfl (stp_val (run_bd _ _ rfl) ?_))) | (refine wpList_is (.call { callee := .builtin .clear, args := #[_], argTypes := #[_] }) rfl ?_; go_must (refine wpList_stp rfl (stp_cl _ _ rfl hS (by decide) ?_)); clear hS; intro w hS) | (refine wpList_is (.load _ _) rfl ?_; go_must (first | refine wpList_stp rfl (stp_val (run_ld _ _ rfl hS) ?_) | refine wpList_stp rfl (stp_val (run_lda _ _ rfl hS) ?_) | refine wpList_stp rfl (stp_val (run_ld0 _ _ rfl hS) ?_) | refine wpList_stp rfl (stp_val (run_lda0 _ _ rfl hS) ?_))) | (refine wpList_is (.store _ _ _) rfl ?_; go_must (first | refine wpList_stp rfl (stp_st _ _ _ rfl hS ?_) | refine wpList_stp rfl (stp_sta _ _ _ rfl hS ?_)); clear hS; intro w hS) | (refine wpList_is (.alloc _) rfl ?_; go_must (refine wpList_stp rfl (stp_al _ rfl hS ?_)); clear hS; intro bN w hbN hS) | (refine wpList_is (.box _ _) rfl ?_; go_must (refine wpList_stp rfl (stp_bx _ _ rfl hS ?_)); clear hS; intro bN w hbN hS) | (refine wpList_is (.binOp .eql _ _ (.const (.slice none _ _)) _) rfl ?_; refine wpList_stp rfl (stp_val (run_nse _ _ _ rfl) ?_)) | (refine wpList_is (.binOp .neq _ _ (.const (.slice none _ _)) _) rfl ?_; refine wpList_stp rfl (stp_val (run_nsn _ _ _ rfl) ?_)))
      exact hR _ hS
  · exact hT.elim
  obtain ⟨hW, rb, rc, cap, sp, rfl, rfl⟩ := id hT
  simp only [List.cons_append, List.nil_append] at hS
  have h64 := hW.hi
  have hbd := usK_bd hW
  have hu2 : usK L L.length = u := by rw [← hu]; unfold usK usP plL; rw [List.take_length]
  have hW' := Lib.hid hW
  clear hT hu hW
  go_enter Try.func33, Try.ntmps33
  go_wp2_with (first | go_skip | go_skip | (refine wpList_is (.build _ _) rfl ?_; go_must (refine wpList_stp rfl (stp_val (run_bd _ _ rfl) ?_))) | (refine wpList_is (.call { callee := .builtin .clear, args := #[_], argTypes := #[_] }) rfl ?_; go_must (refine wpList_stp rfl (stp_cl _ _ rfl hS (by decide) ?_)); clear hS; intro w hS) | (refine wpList_is (.load _ _) rfl ?_; go_must (first | refine wpList_stp rfl (stp_val (run_ld _ _ rfl hS) ?_) | refine wpList_stp rfl (stp_val (run_lda _ _ rfl hS) ?_) | refine wpList_stp rfl (stp_val (run_ld0 _ _ rfl hS) ?_) | refine wpList_stp rfl (stp_val (run_lda0 _ _ rfl hS) ?_))) | (refine wpList_is (.store _ _ _) rfl ?_; go_must (first | refine wpList_stp rfl (stp_st _ _ _ rfl hS ?_) | refine wpList_stp rfl (stp_sta _ _ _ rfl hS ?_)); clear hS; intro w hS) | (refine wpList_is (.alloc _) rfl ?_; go_must (refine wpList_stp rfl (stp_al _ rfl hS ?_)); clear hS; intro bN w hbN hS) | (refine wpList_is (.box _ _) rfl ?_; go_must (refine wpList_stp rfl (stp_bx _ _ rfl hS ?_)); clear hS; intro bN w hbN hS) | (refine wpList_is (.binOp .eql _ _ (.const (.slice none _ _)) _) rfl ?_; refine wpList_stp rfl (stp_val (run_nse _ _ _ rfl) ?_)) | (refine wpList_is (.binOp .neq _ _ (.const (.slice none _ _)) _) rfl ?_; refine wpList_stp rfl (stp_val (run_nsn _ _ _ rfl) ?_)))
  go_loopw [4, 3] (fun a b wr => ∃ k : Nat, k ≤ L.length ∧ a = .int .i64 k ∧ b = .int .i64 (usK L k) ∧ St w0 bs wr (⟨rb, #[.bool true, .int .i64 M, .slice (some ⟨rc, 0, none⟩) L.length cap], 82, true⟩ :: ⟨rc, blk [] bff L sp, 84, true⟩ :: H1)) (fun a _ _ => L.length - (intOf a).toNat)
  case atStart => exact ⟨0, Nat.zero_le _, rfl, rfl, hS⟩
  case round =>
    clear hS
    obtain ⟨k, hk, rfl, rfl, hS⟩ := hrel
    have hb := hbd k
    by_cases hlt : k < L.length
    · have c3 := rb3 (sp := sp) (bGet hlt rfl)
      have e := usK_succ hlt
      have hb2 := hbd (k + 1)
      rw [e] at hb2
      have e' := Lib.hid e
      obtain ⟨y, hy⟩ : ∃ y, (L.getD k (0, 0, 0)).2.2 = y := ⟨_, rfl⟩
      obtain ⟨c, hc2⟩ : ∃ c, usK L k = c := ⟨_, rfl⟩
      rw [hy] at c3 hb2 e'
      rw [hc2] at hb hb2 e' ⊢
      clear e hy hc2 hbd
      go_wp2_with (first | go_skip | (go_at_call 32; refine rb_valid hS ?_; clear hS; intro w hS; unfold Ret) | go_skip | (refine wpList_is (.call { callee := .builtin .len, args := #[_], argTypes := #[_] }) rfl ?_; refine wpList_stp rfl (stp_val (run_lenv _ _ rfl) ?_)) | (refine wpList_is (.slice _ _ none (some _) none) rfl ?_; refine wpList_stp rfl (stp_val (run_prev _ _ _ rfl) ?_)) | (refine wpList_is (.indexAddr _ _ _) rfl ?_; refine wpList_stp rfl (stp_val (run_idxv _ _ _ rfl) ?_)) | go_skip | (refine wpList_is (.build _ _) rfl ?_; go_must (refine wpList_stp rfl (stp_val (run_bd _ _ rfl) ?_))) | (refine wpList_is (.call { callee := .builtin .clear, args := #[_], argTypes := #[_] }) rfl ?_; go_must (refine wpList_stp rfl (stp_cl _ _ rfl hS (by decide) ?_)); clear hS; intro w hS) | (refine wpList_is (.load _ _) rfl ?_; go_must (first | refine wpList_stp rfl (stp_val (run_ld _ _ rfl hS) ?_) | refine wpList_stp rfl (stp_val (run_lda _ _ rfl hS) ?_) | refine wpList_stp rfl (stp_val (run_ld0 _ _ rfl hS) ?_) | refine wpList_stp rfl (stp_val (run_lda0 _ _ rfl hS) ?_))) | (refine wpList_is (.store _ _ _) rfl ?_; go_must (first | refine wpList_stp rfl (stp_st _ _ _ rfl hS ?_) | refine wpList_stp rfl (stp_sta _ _ _ rfl hS ?_)); clear hS; intro w hS) | (refine wpList_is (.alloc _) rfl ?_; go_must (refine wpList_stp rfl (stp_al _ rfl hS ?_)); clear hS; intro bN w hbN hS) | (refine wpList_is (.box _ _) rfl ?_; go_must (refine wpList_stp rfl (stp_bx _ _ rfl hS ?_)); clear hS; intro bN w hbN hS) | (refine wpList_is (.binOp .eql _ _ (.const (.slice none _ _)) _) rfl ?_; refine wpList_stp rfl (stp_val (run_nse _ _ _ rfl) ?_)) | (refine wpList_is (.binOp .neq _ _ (.const (.slice none _ _)) _) rfl ?_; refine wpList_stp rfl (stp_val (run_nsn _ _ _ rfl) ?_)))
      go_roundw
      case rel => exact ⟨k + 1, by omega, by go_num, by rw [e'.out], hS.pick⟩
      case measure => simp [intOf]; omega
    · obtain rfl : k = L.length := by omega
      rw [hu2]
      go_wp2_with (first | go_skip | (go_at_call 32; refine rb_valid hS ?_; clear hS; intro w hS; unfold Ret) | go_skip | (refine wpList_is (.call { callee := .builtin .len, args := #[_], argTypes := #[_] }) rfl ?_; refine wpList_stp rfl (stp_val (run_lenv _ _ rfl) ?_)) | (refine wpList_is (.slice _ _ none (some _) none) rfl ?_; refine wpList_stp rfl (stp_val (run_prev _ _ _ rfl) ?_)) | (refine wpList_is (.indexAddr _ _ _) rfl ?_; refine wpList_stp rfl (stp_val (run_idxv _ _ _ rfl) ?_)) | go_skip | (refine wpList_is (.build _ _) rfl ?_; go_must (refine wpList_stp rfl (stp_val (run_bd _ _ rfl) ?_))) | (refine wpList_is (.call { callee := .builtin .clear, args := #[_], argTypes := #[_] }) rfl ?_; go_must (refine wpList_stp rfl (stp_cl _ _ rfl hS (by decide) ?_)); clear hS; intro w hS) | (refine wpList_is (.load _ _) rfl ?_; go_must (first | refine wpList_stp rfl (stp_val (run_ld _ _ rfl hS) ?_) | refine wpList_stp rfl (stp_val (run_lda _ _ rfl hS) ?_) | refine wpList_stp rfl (stp_val (run_ld0 _ _ rfl hS) ?_) | refine wpList_stp rfl (stp_val (run_lda0 _ _ rfl hS) ?_))) | (refine wpList_is (.store _ _ _) rfl ?_; go_must (first | refine wpList_stp rfl (stp_st _ _ _ rfl hS ?_) | refine wpList_stp rfl (stp_sta _ _ _ rfl hS ?_)); clear hS; intro w hS) | (refine wpList_is (.alloc _) rfl ?_; go_must (refine wpList_stp rfl (stp_al _ rfl hS ?_)); clear hS; intro bN w hbN hS) | (refine wpList_is (.box _ _) rfl ?_; go_must (refine wpList_stp rfl (stp_bx _ _ rfl hS ?_)); clear hS; intro bN w hbN hS) | (refine wpList_is (.binOp .eql _ _ (.const (.slice none _ _)) _) rfl ?_; refine wpList_stp rfl (stp_val (run_nse _ _ _ rfl) ?_)) | (refine wpList_is (.binOp .neq _ _ (.const (.slice none _ _)) _) rfl ?_; refine wpList_stp rfl (stp_val (run_nsn _ _ _ rfl) ?_)))
      exact hR _ hS.pick

set_option maxHeartbeats 1000000 in
set_option maxRecDepth 100000 in
theorem rb_all {p : Option Addr} {T : Pl} (hO : St w0 bs w H) (hT : PB p T E) [hc : Cut H E H1]
    (hR : ∀ v E' w', OS v (allP T) E' → St w0 bs w' (E' ++ (E ++ H1)) → Ret R v w') : Calls Try.prog 38 #[.pointer p] w R := by
  have hS := hO.front (E := E) (H1 := H1)
  clear hO
  rcases T with _ | _ | ⟨M, L⟩
  · obtain ⟨rfl, rfl⟩ := hT
    go_enter Try.func38, Try.ntmps38
    go_wp2_with (first | go_skip | go_skip | (refine wpList_is (.build _ _) rfl ?_; go_must (refine wpList_stp rfl (stp_val (run_bd _ _ rfl) ?_))) | (refine wpList_is (.call { callee := .builtin .clear, args := #[_], argTypes := #[_] }) rfl ?_; go_must (refine wpList_stp rfl (stp_cl _ _ rfl hS (by decide) ?_)); clear hS; intro w hS) | (refine wpList_is (.load _ _) rfl ?_; go_must (first | refine wpList_stp rfl (stp_val (run_ld _ _ rfl hS) ?_) | refine wpList_stp rfl (stp_val (run_lda _ _ rfl hS) ?_) | refine wpList_stp rfl (stp_val (run_ld0 _ _ rfl hS) ?_) | refine wpList_stp rfl (stp_val (run_lda0 _ _ rfl hS) ?_))) | (refine wpList_is (.store _ _ _) rfl ?_; go_must (first | refine wpList_stp rfl (stp_st _ _ _ rfl hS ?_) | refine wpList_stp rfl (stp_sta _ _ _ rfl hS ?_)); clear hS; intro w hS) | (refine wpList_is (.alloc _) rfl ?_; go_must (refine wpList_stp rfl (stp_al _ rfl hS ?_)); clear hS; intro bN w hbN hS) | (refine wpList_is (.box _ _) rfl ?_; go_must (refine wpList_stp rfl (stp_bx _ _ rfl hS ?_)); clear hS; intro bN w hbN hS) | (refine wpList_is (.binOp .eql _ _ (.const (.slice none _ _)) _) rfl ?_; refine wpList_stp rfl (stp_val (run_nse _ _ _ rfl) ?_)) | (refine wpList_is (.binOp .neq _ _ (.const (.slice none _ _)) _) rfl ?_; refine wpList_stp rfl (stp_val (run_nsn _ _ _ rfl) ?_)))
    go_loopw [4, 3] (fun a b wr => a = .int .i64 0 ∧ b = .slice none 0 0 ∧ St w0 bs wr ([] ++ H1)) (fun _ _ _ => 0)
    case atStart => exact ⟨rfl, rfl, hS⟩
    case round =>
      clear hS
      obtain ⟨rfl, rfl, hS⟩ := hrel
      go_wp2_with (first | go_skip | (go_at_call 32; refine rb_nil ?_; unfold Ret) | go_skip | (refine wpList_is (.build _ _) rfl ?_; go_must (refine wpList_stp rfl (stp_val (run_bd _ _ rfl) ?_))) | (refine wpList_is (.call { callee := .builtin .clear, args := #[_], argTypes := #[_] }) rfl ?_; go_must (refine wpList_stp rfl (stp_cl _ _ rfl hS (by decide) ?_)); clear hS; intro w hS) | (refine wpList_is (.load _ _) rfl ?_; go_must (first | refine wpList_stp rfl (stp_val (run_ld _ _ rfl hS) ?_) | refine wpList_stp rfl (stp_val (run_lda _ _ rfl hS) ?_) | refine wpList_stp rfl (stp_val (run_ld0 _ _ rfl hS) ?_) | refine wpList_stp rfl (stp_val (run_lda0 _ _ rfl hS) ?_))) | (refine wpList_is (.store _ _ _) rfl ?_; go_must (first | refine wpList_stp rfl (stp_st _ _ _ rfl hS ?_) | refine wpList_stp rfl (stp_sta _ _ _ rfl hS ?_)); clear hS; intro w hS) | (refine wpList_is (.alloc _) rfl ?_; go_must (refine wpList_stp rfl (stp_al _ rfl hS ?_)); clear hS; intro bN w hbN hS) | (refine wpList_is (.box _ _) rfl ?_; go_must (refine wpList_stp rfl (stp_bx _ _ rfl hS ?_)); clear hS; intro bN w hbN hS) | (refine wpList_is (.binOp .eql _ _ (.const (.slice none _ _)) _) rfl ?_; refine wpList_stp rfl (stp_val (run_nse _ _ _ rfl) ?_)) | (refine wpList_is (.binOp .neq _ _ (.const (.slice none _ _)) _) rfl ?_; refine wpList_stp rfl (stp_val (run_nsn _ _ _ rfl) ?_)))
      exact hR _ [] _ OS.nil hS
  · exact hT.elim
  obtain ⟨hW, rb, rc, cap, sp, rfl, rfl⟩ := id hT
  simp only [List.cons_append, List.nil_append] at hS
  have h64 := hW.hi
  clear hT hW
  go_enter Try.func38, Try.ntmps38
  go_wp2_with (first | go_skip | go_skip | (refine wpList_is (.build _ _) rfl ?_; go_must (refine wpList_stp rfl (stp_val (run_bd _ _ rfl) ?_))) | (refine wpList_is (.call { callee := .builtin .clear, args := #[_], argTypes := #[_] }) rfl ?_; go_must (refine wpList_stp rfl (stp_cl _ _ rfl hS (by decide) ?_)); clear hS; intro w hS) | (refine wpList_is (.load _ _) rfl ?_; go_must (first | refine wpList_stp rfl (stp_val (run_ld _ _ rfl hS) ?_) | refine wpList_stp rfl (stp_val (run_lda _ _ rfl hS) ?_) | refine wpList_stp rfl (stp_val (run_ld0 _ _ rfl hS) ?_) | refine wpList_stp rfl (stp_val (run_lda0 _ _ rfl hS) ?_))) | (refine wpList_is (.store _ _ _) rfl ?_; go_must (first | refine wpList_stp rfl (stp_st _ _ _ rfl hS ?_) | refine wpList_stp rfl (stp_sta _ _ _ rfl hS ?_)); clear hS; intro w hS) | (refine wpList_is (.alloc _) rfl ?_; go_must (refine wpList_stp rfl (stp_al _ rfl hS ?_)); clear hS; intro bN w hbN hS) | (refine wpList_is (.box _ _) rfl ?_; go_must (refine wpList_stp rfl (stp_bx _ _ rfl hS ?_)); clear hS; intro bN w hbN hS) | (refine wpList_is (.binOp .eql _ _ (.const (.slice none _ _)) _) rfl ?_; refine wpList_stp rfl (stp_val (run_nse _ _ _ rfl) ?_)) | (refine wpList_is (.binOp .neq _ _ (.const (.slice none _ _)) _) rfl ?_; refine wpList_stp rfl (stp_val (run_nsn _ _ _ rfl) ?_)))
  go_loopw [4, 3] (fun a b wr => ∃ (k : Nat) (v : Value) (E2 : List Ent), k ≤ L.length ∧ a = .int .i64 k ∧ v = b ∧ OS v ((stL 1 (tbB L) k).map outOf) E2 ∧ St w0 bs wr (E2 ++ (⟨rb, #[.bool true, .int .i64 M, .slice (some ⟨rc, 0, none⟩) L.length cap], 82, true⟩ :: ⟨rc, blk [] bff L sp, 84, true⟩ :: H1))) (fun a _ _ => L.length - (intOf a).toNat)
  case atStart => exact ⟨0, _, [], Nat.zero_le _, rfl, rfl, OS.nil, hS⟩
  case round =>
    clear hS
    obtain ⟨k, v, E2, hk, rfl, rfl, hA, hS⟩ := hrel
    have hAl : ((stL 1 (tbB L) k).map outOf).length ≤ k := by rw [List.length_map, stL_len]; exact stCnt_le _ _ _
    by_cases hlt : k < L.length
    · obtain ⟨⟨st, g, y⟩, hx⟩ : ∃ x, L.getD k (0, 0, 0) = x := ⟨_, rfl⟩
      have c0 := rb0 (sp := sp) (bGet hlt hx)
      have c2 := rb2 (sp := sp) (bGet hlt hx)
      simp only at c0 c2
      by_cases hs : st = 1
      · subst hs
        simp only [beq_self_eq_true] at c0
        have hst : isSt 1 (tbB L) k = true := by unfold isSt; rw [tbB_get, hx]; rfl
        have e : (stL 1 (tbB L) (k + 1)).map outOf = (stL 1 (tbB L) k).map outOf ++ [(2, (k : Int), g)] := by
          rw [stL_yes hst, List.map_append]
          have er : refOf (tbB L) k = ((k : Int), g) := by unfold refOf; rw [tbB_get, hx]
          simp [er, outOf]
        obtain ⟨A, hAe⟩ : ∃ A, (stL 1 (tbB L) k).map outOf = A := ⟨_, rfl⟩
        rw [hAe] at hA hAl e
        have e' := Lib.hid e
        have hsl : Sl 36 3 v A.length (A.flatMap olf) E2 := hA
        have hone := hA.one
        clear hx hst e hAe
        go_wp2_with (first | go_skip | (go_at_call 32; refine rb_valid hS ?_; clear hS; intro w hS; unfold Ret) | (refine wpList_is (.buildSlice _ _ _) rfl ?_; go_must (refine wpList_stp rfl (stp_bsl _ _ _ rfl hS (by decide) rfl (by decide) (by decide) ?_)); clear hS; intro bN w hbN hS) | (refine wpList_is (.call { callee := .builtin .append, args := #[_, _], argTypes := #[_, _] }) rfl ?_; go_must (refine wpList_stp rfl (stp_ap _ _ _ _ rfl rfl hS (by rfl) hsl (by rfl) (by simp only [maxLen]; omega) (by omega) ?_)); clear hS; intro v' E' w hsl' hne hS; have hone := hsl'.one) | go_skip | (refine wpList_is (.call { callee := .builtin .len, args := #[_], argTypes := #[_] }) rfl ?_; refine wpList_stp rfl (stp_val (run_lenv _ _ rfl) ?_)) | (refine wpList_is (.slice _ _ none (some _) none) rfl ?_; refine wpList_stp rfl (stp_val (run_prev _ _ _ rfl) ?_)) | (refine wpList_is (.indexAddr _ _ _) rfl ?_; refine wpList_stp rfl (stp_val (run_idxv _ _ _ rfl) ?_)) | go_skip | (refine wpList_is (.build _ _) rfl ?_; go_must (refine wpList_stp rfl (stp_val (run_bd _ _ rfl) ?_))) | (refine wpList_is (.call { callee := .builtin .clear, args := #[_], argTypes := #[_] }) rfl ?_; go_must (refine wpList_stp rfl (stp_cl _ _ rfl hS (by decide) ?_)); clear hS; intro w hS) | (refine wpList_is (.load _ _) rfl ?_; go_must (first | refine wpList_stp rfl (stp_val (run_ld _ _ rfl hS) ?_) | refine wpList_stp rfl (stp_val (run_lda _ _ rfl hS) ?_) | refine wpList_stp rfl (stp_val (run_ld0 _ _ rfl hS) ?_) | refine wpList_stp rfl (stp_val (run_lda0 _ _ rfl hS) ?_))) | (refine wpList_is (.store _ _ _) rfl ?_; go_must (first | refine wpList_stp rfl (stp_st _ _ _ rfl hS ?_) | refine wpList_stp rfl (stp_sta _ _ _ rfl hS ?_)); clear hS; intro w hS) | (refine wpList_is (.alloc _) rfl ?_; go_must (refine wpList_stp rfl (stp_al _ rfl hS ?_)); clear hS; intro bN w hbN hS) | (refine wpList_is (.box _ _) rfl ?_; go_must (refine wpList_stp rfl (stp_bx _ _ rfl hS ?_)); clear hS; intro bN w hbN hS) | (refine wpList_is (.binOp .eql _ _ (.const (.slice none _ _)) _) rfl ?_; refine wpList_stp rfl (stp_val (run_nse _ _ _ rfl) ?_)) | (refine wpList_is (.binOp .neq _ _ (.const (.slice none _ _)) _) rfl ?_; refine wpList_stp rfl (stp_val (run_nsn _ _ _ rfl) ?_)))
        go_roundw
        case rel => exact ⟨k + 1, v', E', by omega, by go_num, rfl, by rw [e'.out]; exact OS.snoc hsl', hS.pick⟩
        case measure => simp [intOf]; omega
      · have hst : isSt 1 (tbB L) k = false := by unfold isSt; rw [tbB_get, hx]; simpa using hs
        have q : (st == 1) = false := by simpa using hs
        rw [q] at c0
        have e' := Lib.hid (stL_no hst)
        have hone := hA.one
        clear hx hst hs
        go_wp2_with (first | go_skip | (go_at_call 32; refine rb_valid hS ?_; clear hS; intro w hS; unfold Ret) | go_skip | (refine wpList_is (.call { callee := .builtin .len, args := #[_], argTypes := #[_] }) rfl ?_; refine wpList_stp rfl (stp_val (run_lenv _ _ rfl) ?_)) | (refine wpList_is (.slice _ _ none (some _) none) rfl ?_; refine wpList_stp rfl (stp_val (run_prev _ _ _ rfl) ?_)) | (refine wpList_is (.indexAddr _ _ _) rfl ?_; refine wpList_stp rfl (stp_val (run_idxv _ _ _ rfl) ?_)) | go_skip | (refine wpList_is (.build _ _) rfl ?_; go_must (refine wpList_stp rfl (stp_val (run_bd _ _ rfl) ?_))) | (refine wpList_is (.call { callee := .builtin .clear, args := #[_], argTypes := #[_] }) rfl ?_; go_must (refine wpList_stp rfl (stp_cl _ _ rfl hS (by decide) ?_)); clear hS; intro w hS) | (refine wpList_is (.load _ _) rfl ?_; go_must (first | refine wpList_stp rfl (stp_val (run_ld _ _ rfl hS) ?_) | refine wpList_stp rfl (stp_val (run_lda _ _ rfl hS) ?_) | refine wpList_stp rfl (stp_val (run_ld0 _ _ rfl hS) ?_) | refine wpList_stp rfl (stp_val (run_lda0 _ _ rfl hS) ?_))) | (refine wpList_is (.store _ _ _) rfl ?_; go_must (first | refine wpList_stp rfl (stp_st _ _ _ rfl hS ?_) | refine wpList_stp rfl (stp_sta _ _ _ rfl hS ?_)); clear hS; intro w hS) | (refine wpList_is (.alloc _) rfl ?_; go_must (refine wpList_stp rfl (stp_al _ rfl hS ?_)); clear hS; intro bN w hbN hS) | (refine wpList_is (.box _ _) rfl ?_; go_must (refine wpList_stp rfl (stp_bx _ _ rfl hS ?_)); clear hS; intro bN w hbN hS) | (refine wpList_is (.binOp .eql _ _ (.const (.slice none _ _)) _) rfl ?_; refine wpList_stp rfl (stp_val (run_nse _ _ _ rfl) ?_)) | (refine wpList_is (.binOp .neq _ _ (.const (.slice none _ _)) _) rfl ?_; refine wpList_stp rfl (stp_val (run_nsn _ _ _ rfl) ?_)))
        go_roundw
        case rel => exact ⟨k + 1, v, E2, by omega, by go_num, rfl, by rw [e'.out]; exact hA, hS.pick⟩
        case measure => simp [intOf]; omega
    · obtain rfl : k = L.length := by omega
      have e : (stL 1 (tbB L) L.length).map outOf = allP (some (some (M, L))) := by
        unfold allP tkP tkL plL
        simp only [tbB_len]
      rw [e] at hA
      have hone := hA.one
      clear e
      go_wp2_with (first | go_skip | (go_at_call 32; refine rb_valid hS ?_; clear hS; intro w hS; unfold Ret) | go_skip | (refine wpList_is (.call { callee := .builtin .len, args := #[_], argTypes := #[_] }) rfl ?_; refine wpList_stp rfl (stp_val (run_lenv _ _ rfl) ?_)) | (refine wpList_is (.slice _ _ none (some _) none) rfl ?_; refine wpList_stp rfl (stp_val (run_prev _ _ _ rfl) ?_)) | (refine wpList_is (.indexAddr _ _ _) rfl ?_; refine wpList_stp rfl (stp_val (run_idxv _ _ _ rfl) ?_)) | go_skip | (refine wpList_is (.build _ _) rfl ?_; go_must (refine wpList_stp rfl (stp_val (run_bd _ _ rfl) ?_))) | (refine wpList_is (.call { callee := .builtin .clear, args := #[_], argTypes := #[_] }) rfl ?_; go_must (refine wpList_stp rfl (stp_cl _ _ rfl hS (by decide) ?_)); clear hS; intro w hS) | (refine wpList_is (.load _ _) rfl ?_; go_must (first | refine wpList_stp rfl (stp_val (run_ld _ _ rfl hS) ?_) | refine wpList_stp rfl (stp_val (run_lda _ _ rfl hS) ?_) | refine wpList_stp rfl (stp_val (run_ld0 _ _ rfl hS) ?_) | refine wpList_stp rfl (stp_val (run_lda0 _ _ rfl hS) ?_))) | (refine wpList_is (.store _ _ _) rfl ?_; go_must (first | refine wpList_stp rfl (stp_st _ _ _ rfl hS ?_) | refine wpList_stp rfl (stp_sta _ _ _ rfl hS ?_)); clear hS; intro w hS) | (refine wpList_is (.alloc _) rfl ?_; go_must (refine wpList_stp rfl (stp_al _ rfl hS ?_)); clear hS; intro bN w hbN hS) | (refine wpList_is (.box _ _) rfl ?_; go_must (refine wpList_stp rfl (stp_bx _ _ rfl hS ?_)); clear hS; intro bN w hbN hS) | (refine wpList_is (.binOp .eql _ _ (.const (.slice none _ _)) _) rfl ?_; refine wpList_stp rfl (stp_val (run_nse _ _ _ rfl) ?_)) | (refine wpList_is (.binOp .neq _ _ (.const (.slice none _ _)) _) rfl ?_; refine wpList_stp rfl (stp_val (run_nsn _ _ _ rfl) ?_)))
      exact hR _ _ _ hA hS.pick
theorem rb_len {p : Option Addr} {T : Pl} (hO : St w0 bs w H) (hT : PB p T E) [hc : Cut H E H1] (n : Nat) (hn : (allP T).length = n)
    (hR : ∀ w', St w0 bs w' (E ++ H1) → Ret R (.int .i64 n) w') : Calls Try.prog 36 #[.pointer p] w R := by
  have hS := hO.front (E := E) (H1 := H1)
  clear hO hc
  go_enter Try.func36, Try.ntmps36
  go_wp2_with (first | go_skip | (go_at_call 38; go_must (refine rb_all hS hT ?_); clear hS; intro v Ev w hv hS; have hone := hv.one; have hln := hv.len hn; unfold Ret) | go_skip | (refine wpList_is (.call { callee := .builtin .len, args := #[_], argTypes := #[_] }) rfl ?_; refine wpList_stp rfl (stp_val (run_lenv _ _ rfl) ?_)) | (refine wpList_is (.slice _ _ none (some _) none) rfl ?_; refine wpList_stp rfl (stp_val (run_prev _ _ _ rfl) ?_)) | (refine wpList_is (.indexAddr _ _ _) rfl ?_; refine wpList_stp rfl (stp_val (run_idxv _ _ _ rfl) ?_)) | go_skip | (refine wpList_is (.build _ _) rfl ?_; go_must (refine wpList_stp rfl (stp_val (run_bd _ _ rfl) ?_))) | (refine wpList_is (.call { callee := .builtin .clear, args := #[_], argTypes := #[_] }) rfl ?_; go_must (refine wpList_stp rfl (stp_cl _ _ rfl hS (by decide) ?_)); clear hS; intro w hS) | (refine wpList_is (.load _ _) rfl ?_; go_must (first | refine wpList_stp rfl (stp_val (run_ld _ _ rfl hS) ?_) | refine wpList_stp rfl (stp_val (run_lda _ _ rfl hS) ?_) | refine wpList_stp rfl (stp_val (run_ld0 _ _ rfl hS) ?_) | refine wpList_stp rfl (stp_val (run_lda0 _ _ rfl hS) ?_))) | (refine wpList_is (.store _ _ _) rfl ?_; go_must (first | refine wpList_stp rfl (stp_st _ _ _ rfl hS ?_) | refine wpList_stp rfl (stp_sta _ _ _ rfl hS ?_)); clear hS; intro w hS) | (refine wpList_is (.alloc _) rfl ?_; go_must (refine wpList_stp rfl (stp_al _ rfl hS ?_)); clear hS; intro bN w hbN hS) | (refine wpList_is (.box _ _) rfl ?_; go_must (refine wpList_stp rfl (stp_bx _ _ rfl hS ?_)); clear hS; intro bN w hbN hS) | (refine wpList_is (.binOp .eql _ _ (.const (.slice none _ _)) _) rfl ?_; refine wpList_stp rfl (stp_val (run_nse _ _ _ rfl) ?_)) | (refine wpList_is (.binOp .neq _ _ (.const (.slice none _ _)) _) rfl ?_; refine wpList_stp rfl (stp_val (run_nsn _ _ _ rfl) ?_)))
  exact hR _ hS.pick
end Go.Proofs.Ytmhldlcjfmnkpaa
