/-
  Marking: estraylaw23.mark and what it calls; slices.Reverse of references.
-/
import Derived.Test.YtgpjanfphgjbbaaSone
import Derived.Test.YtgpjanfphgjbbaaRgn
set_option linter.unusedSimpArgs false
set_option linter.unusedVariables false
namespace Go.Proofs.Ytgpjanfphgjbbaa
open Go Go.RowKit Go.Mm
variable {R : Ending → World → Prop} {w : World} {w0 : World} {bs : List Nat} {H H1 H2 H3 E E0 E1 Ev Ef : List Ent}
theorem getQ {l : List (Int × Int)} {i : Nat} {x : Int × Int} (hi : i < l.length) (h : l.getD i (0, 0) = x) : l[i]? = some x := by
  rw [List.getD_eq_getElem?_getD, List.getElem?_eq_getElem hi] at h
  rw [List.getElem?_eq_getElem hi, ← h]; rfl
theorem swap_mem {α : Type} {l : List α} {i j : Nat} {x y : α} (hi : l[i]? = some x) (hj : l[j]? = some y) (hij : i ≠ j) (r : α) : r ∈ (l.set i y).set j x ↔ r ∈ l := by
  have li := (List.getElem?_eq_some_iff.1 hi).1
  have lj := (List.getElem?_eq_some_iff.1 hj).1
  constructor
  · intro h
    rcases List.mem_or_eq_of_mem_set h with h | rfl
    · rcases List.mem_or_eq_of_mem_set h with h | rfl
      · exact h
      · exact List.mem_of_getElem? hj
    · exact List.mem_of_getElem? hi
  · intro h
    obtain ⟨k, hk, rfl⟩ := List.mem_iff_getElem.1 h
    rw [List.mem_iff_getElem?]
    by_cases e1 : k = i
    · subst e1
      refine ⟨j, ?_⟩
      rw [List.getElem?_set, if_pos rfl, if_pos (by simpa using lj)]
      rw [List.getElem?_eq_getElem hk] at hi
      exact hi.symm ▸ rfl
    · by_cases e2 : k = j
      · subst e2
        refine ⟨i, ?_⟩
        rw [List.getElem?_set, if_neg (fun e => hij e.symm), List.getElem?_set, if_pos rfl, if_pos li]
        rw [List.getElem?_eq_getElem hk] at hj
        exact hj.symm ▸ rfl
      · refine ⟨k, ?_⟩
        rw [List.getElem?_set, if_neg (fun e => e2 e.symm), List.getElem?_set, if_neg (fun e => e1 e.symm), List.getElem?_eq_getElem hk]
set_option maxHeartbeats 4000000 in
set_option maxRecDepth 100000 in
/-- slices.Reverse: the same members. -/
theorem ref_reverse {v : Value} {l0 : List (Int × Int)} (hO : St w0 bs w H) (hA : RS v l0 E) [hc : Cut H E H1] (hl : l0.length ≤ 1000)
    (hR : ∀ l' E' w', RS v l' E' → l'.length = l0.length → (∀ r, r ∈ l' ↔ r ∈ l0) → St w0 bs w' (E' ++ H1) → Ret R (.tuple #[]) w') : Calls Try.prog 22 #[v] w R := by
  have hS := hO.front (E := E) (H1 := H1)
  clear hO hc
  have hone := hA.one
  obtain ⟨n, hn⟩ : ∃ n, l0.length = n := ⟨_, rfl⟩
  have hlen := hA.len hn
  rcases hA.or with ⟨rfl, h0, rfl⟩ | ⟨g, cap, sp, hv, hE, h1, h2, h3⟩
  · rw [hn] at h0
    subst h0
    go_enter Try.func22, Try.ntmps22
    go_wp2_with (first | go_skip | go_skip | (refine wpList_is (.call { callee := .builtin .len, args := #[_], argTypes := #[_] }) rfl ?_; refine wpList_stp (by kernel_rfl) (stp_val (run_lenv _ _ rfl) ?_)) | (refine wpList_is (.slice _ _ none (some _) none) rfl ?_; refine wpList_stp (by kernel_rfl) (stp_val (run_prev _ _ _ rfl) ?_)) | (refine wpList_is (.indexAddr _ _ _) rfl ?_; refine wpList_stp (by kernel_rfl) (stp_val (run_idxv _ _ _ rfl) ?_)) | go_skip | (refine wpList_is (.build _ _) rfl ?_; go_must (refine wpList_stp (by kernel_rfl) (stp_val (run_bd _ _ rfl) ?_))) | (refine wpList_is (.call { callee := .builtin .clear, args := #[_], argTypes := #[_] }) rfl ?_; go_must (refine wpList_stp (by kernel_rfl) (stp_cl _ _ rfl hS (by decide) ?_)); clear hS; intro w hS) | (refine wpList_is (.load _ _) rfl ?_; go_must (first | refine wpList_stp (by kernel_rfl) (stp_val (run_ld _ _ rfl hS) ?_) | refine wpList_stp (by kernel_rfl) (stp_val (run_lda _ _ rfl hS) ?_) | refine wpList_stp (by kernel_rfl) (stp_val (run_ld0 _ _ rfl hS) ?_) | refine wpList_stp (by kernel_rfl) (stp_val (run_lda0 _ _ rfl hS) ?_))) | (refine wpList_is (.store _ _ _) rfl ?_; go_must (first | refine wpList_stp (by kernel_rfl) (stp_st _ _ _ rfl hS ?_) | refine wpList_stp (by kernel_rfl) (stp_sta _ _ _ rfl hS ?_)); clear hS; intro w hS) | (refine wpList_is (.alloc _) rfl ?_; go_must (refine wpList_stp (by kernel_rfl) (stp_al _ rfl hS ?_)); clear hS; intro bN w hbN hS) | (refine wpList_is (.box _ _) rfl ?_; go_must (refine wpList_stp (by kernel_rfl) (stp_bx _ _ rfl hS ?_)); clear hS; intro bN w hbN hS) | (refine wpList_is (.binOp .eql _ _ (.const (.slice none _ _)) _) rfl ?_; refine wpList_stp (by kernel_rfl) (stp_val (run_nse _ _ _ rfl) ?_)) | (refine wpList_is (.binOp .neq _ _ (.const (.slice none _ _)) _) rfl ?_; refine wpList_stp (by kernel_rfl) (stp_val (run_nsn _ _ _ rfl) ?_)))
    go_loopw [2, 3] (fun a b wr => a = .int .i64 0 ∧ b = .int .i64 (-1) ∧ St w0 bs wr H1) (fun _ _ _ => 0)
    case atStart => exact ⟨rfl, rfl, hS⟩
    case round =>
      obtain ⟨rfl, rfl, hS⟩ := hrel
      go_wp2_with (first | go_skip | go_skip | (refine wpList_is (.call { callee := .builtin .len, args := #[_], argTypes := #[_] }) rfl ?_; refine wpList_stp (by kernel_rfl) (stp_val (run_lenv _ _ rfl) ?_)) | (refine wpList_is (.slice _ _ none (some _) none) rfl ?_; refine wpList_stp (by kernel_rfl) (stp_val (run_prev _ _ _ rfl) ?_)) | (refine wpList_is (.indexAddr _ _ _) rfl ?_; refine wpList_stp (by kernel_rfl) (stp_val (run_idxv _ _ _ rfl) ?_)) | go_skip | (refine wpList_is (.build _ _) rfl ?_; go_must (refine wpList_stp (by kernel_rfl) (stp_val (run_bd _ _ rfl) ?_))) | (refine wpList_is (.call { callee := .builtin .clear, args := #[_], argTypes := #[_] }) rfl ?_; go_must (refine wpList_stp (by kernel_rfl) (stp_cl _ _ rfl hS (by decide) ?_)); clear hS; intro w hS) | (refine wpList_is (.load _ _) rfl ?_; go_must (first | refine wpList_stp (by kernel_rfl) (stp_val (run_ld _ _ rfl hS) ?_) | refine wpList_stp (by kernel_rfl) (stp_val (run_lda _ _ rfl hS) ?_) | refine wpList_stp (by kernel_rfl) (stp_val (run_ld0 _ _ rfl hS) ?_) | refine wpList_stp (by kernel_rfl) (stp_val (run_lda0 _ _ rfl hS) ?_))) | (refine wpList_is (.store _ _ _) rfl ?_; go_must (first | refine wpList_stp (by kernel_rfl) (stp_st _ _ _ rfl hS ?_) | refine wpList_stp (by kernel_rfl) (stp_sta _ _ _ rfl hS ?_)); clear hS; intro w hS) | (refine wpList_is (.alloc _) rfl ?_; go_must (refine wpList_stp (by kernel_rfl) (stp_al _ rfl hS ?_)); clear hS; intro bN w hbN hS) | (refine wpList_is (.box _ _) rfl ?_; go_must (refine wpList_stp (by kernel_rfl) (stp_bx _ _ rfl hS ?_)); clear hS; intro bN w hbN hS) | (refine wpList_is (.binOp .eql _ _ (.const (.slice none _ _)) _) rfl ?_; refine wpList_stp (by kernel_rfl) (stp_val (run_nse _ _ _ rfl) ?_)) | (refine wpList_is (.binOp .neq _ _ (.const (.slice none _ _)) _) rfl ?_; refine wpList_stp (by kernel_rfl) (stp_val (run_nsn _ _ _ rfl) ?_)))
      refine bodyPost_end (results_none rfl _ _ _) rfl ?_
      exact hR l0 [] _ hA rfl (fun _ => Iff.rfl) hS
  · have hE' : E = [⟨g, blk [] slf l0 sp, 24, true⟩] := by rw [hE]; simp [blk]
    have hRSl : ∀ l : List (Int × Int), l.length = n → RS v l [⟨g, blk [] slf l sp, 24, true⟩] := fun l hl => by
      refine ⟨flat_len slf_len l, .inr ⟨g, cap, sp, by rw [hv, hn, hl], by simp [blk], by omega, h2, ?_⟩⟩
      rw [flat_len slf_len, hn] at h3
      rw [flat_len slf_len, hl]; exact h3
    rw [hE'] at hS
    simp only [List.cons_append, List.nil_append] at hS
    rw [hn] at hl
    have hidx : ∀ i : Nat, i < n → IdxV Try.prog 65 v i ⟨g, i * 2, none⟩ := fun i hi => by
      rw [hn] at hv
      subst hv
      have h2 : 0 ≤ (i : Int) := by omega
      exact ⟨fun w => by simp [Instr.indexAt, asIntOf, run_underlying Try.underlying65, hi, run_sizeOf' (P := Try.prog) (t := 24) (n := 2) (by kernel_rfl), Addr.add_lit]⟩
    have hidx' := Lib.hid hidx
    clear hidx
    have hRSl' := Lib.hid hRSl
    have hn' := Lib.hid hn
    clear hv hE h1 h2 h3 hE' hRSl hn hA
    have hbound : n ≤ 1000 := hl
    go_enter Try.func22, Try.ntmps22
    go_wp2_with (first | go_skip | go_skip | (refine wpList_is (.call { callee := .builtin .len, args := #[_], argTypes := #[_] }) rfl ?_; refine wpList_stp (by kernel_rfl) (stp_val (run_lenv _ _ rfl) ?_)) | (refine wpList_is (.slice _ _ none (some _) none) rfl ?_; refine wpList_stp (by kernel_rfl) (stp_val (run_prev _ _ _ rfl) ?_)) | (refine wpList_is (.indexAddr _ _ _) rfl ?_; refine wpList_stp (by kernel_rfl) (stp_val (run_idxv _ _ _ rfl) ?_)) | go_skip | (refine wpList_is (.build _ _) rfl ?_; go_must (refine wpList_stp (by kernel_rfl) (stp_val (run_bd _ _ rfl) ?_))) | (refine wpList_is (.call { callee := .builtin .clear, args := #[_], argTypes := #[_] }) rfl ?_; go_must (refine wpList_stp (by kernel_rfl) (stp_cl _ _ rfl hS (by decide) ?_)); clear hS; intro w hS) | (refine wpList_is (.load _ _) rfl ?_; go_must (first | refine wpList_stp (by kernel_rfl) (stp_val (run_ld _ _ rfl hS) ?_) | refine wpList_stp (by kernel_rfl) (stp_val (run_lda _ _ rfl hS) ?_) | refine wpList_stp (by kernel_rfl) (stp_val (run_ld0 _ _ rfl hS) ?_) | refine wpList_stp (by kernel_rfl) (stp_val (run_lda0 _ _ rfl hS) ?_))) | (refine wpList_is (.store _ _ _) rfl ?_; go_must (first | refine wpList_stp (by kernel_rfl) (stp_st _ _ _ rfl hS ?_) | refine wpList_stp (by kernel_rfl) (stp_sta _ _ _ rfl hS ?_)); clear hS; intro w hS) | (refine wpList_is (.alloc _) rfl ?_; go_must (refine wpList_stp (by kernel_rfl) (stp_al _ rfl hS ?_)); clear hS; intro bN w hbN hS) | (refine wpList_is (.box _ _) rfl ?_; go_must (refine wpList_stp (by kernel_rfl) (stp_bx _ _ rfl hS ?_)); clear hS; intro bN w hbN hS) | (refine wpList_is (.binOp .eql _ _ (.const (.slice none _ _)) _) rfl ?_; refine wpList_stp (by kernel_rfl) (stp_val (run_nse _ _ _ rfl) ?_)) | (refine wpList_is (.binOp .neq _ _ (.const (.slice none _ _)) _) rfl ?_; refine wpList_stp (by kernel_rfl) (stp_val (run_nsn _ _ _ rfl) ?_)))
    have hS0 := hS
    clear hS
    go_loopw [2, 3] (fun a b wr => ∃ (i : Nat) (l : List (Int × Int)), i ≤ n ∧ a = .int .i64 i ∧ b = .int .i64 ((n : Int) - 1 - i) ∧ l.length = n ∧ (∀ r, r ∈ l ↔ r ∈ l0) ∧ St w0 bs wr (⟨g, blk [] slf l sp, 24, true⟩ :: H1)) (fun a _ _ => n - (intOf a).toNat)
    case atStart => exact ⟨0, l0, Nat.zero_le _, rfl, by simp, hn'.out, fun _ => Iff.rfl, hS0⟩
    case round =>
      clear hS0
      obtain ⟨i, l, hi, rfl, rfl, hll, hmem, hS⟩ := hrel
      have hmem' := Lib.hid hmem
      have hll' := Lib.hid hll
      clear hmem
      by_cases hlt : 2 * i + 1 < n
      · obtain ⟨j, hj⟩ : ∃ j : Nat, (n : Int) - 1 - i = j := ⟨n - 1 - i, by omega⟩
        rw [hj]
        have hj' := Lib.hid hj
        have hij : i < j := by omega
        have hjn : j < n := by omega
        clear hj
        obtain ⟨⟨x1, x2⟩, hx⟩ : ∃ x, l.getD i (0, 0) = x := ⟨_, rfl⟩
        obtain ⟨⟨y1, y2⟩, hy⟩ : ∃ y, l.getD j (0, 0) = y := ⟨_, rfl⟩
        have hxi := getQ (l := l) (i := i) (by omega) hx
        have hyj := getQ (l := l) (i := j) (by omega) hy
        have ixi := hidx'.out i (by omega)
        have ixj := hidx'.out j hjn
        have hci : CellsAt (blk [] slf l sp) (i * 2) 2 #[.int .i64 x1, .int .u32 x2] := blkCells (pre := []) slf_len hxi (by simp)
        have hcj : CellsAt (blk [] slf l sp) (j * 2) 2 #[.int .i64 y1, .int .u32 y2] := blkCells (pre := []) slf_len hyj (by simp)
        have hs1 : SetsAt (blk [] slf l sp) (i * 2) #[.int .i64 y1, .int .u32 y2] (blk [] slf (l.set i (y1, y2)) sp) := blkSets (pre := []) slf_len (a' := (y1, y2)) (by omega) (by simp)
        have hs2 : SetsAt (blk [] slf (l.set i (y1, y2)) sp) (j * 2) #[.int .i64 x1, .int .u32 x2] (blk [] slf ((l.set i (y1, y2)).set j (x1, x2)) sp) := blkSets (pre := []) slf_len (a' := (x1, x2)) (by rw [List.length_set]; omega) (by simp)
        have hsw := swap_mem hxi hyj (by omega)
        have hsw' := Lib.hid hsw
        have dlt : decide ((i : Int) < (j : Int)) = true := decide_eq_true (by omega)
        clear hx hy hxi hyj hsw
        go_wp2_with (first | go_skip | go_skip | (refine wpList_is (.call { callee := .builtin .len, args := #[_], argTypes := #[_] }) rfl ?_; refine wpList_stp (by kernel_rfl) (stp_val (run_lenv _ _ rfl) ?_)) | (refine wpList_is (.slice _ _ none (some _) none) rfl ?_; refine wpList_stp (by kernel_rfl) (stp_val (run_prev _ _ _ rfl) ?_)) | (refine wpList_is (.indexAddr _ _ _) rfl ?_; refine wpList_stp (by kernel_rfl) (stp_val (run_idxv _ _ _ rfl) ?_)) | go_skip | (refine wpList_is (.build _ _) rfl ?_; go_must (refine wpList_stp (by kernel_rfl) (stp_val (run_bd _ _ rfl) ?_))) | (refine wpList_is (.call { callee := .builtin .clear, args := #[_], argTypes := #[_] }) rfl ?_; go_must (refine wpList_stp (by kernel_rfl) (stp_cl _ _ rfl hS (by decide) ?_)); clear hS; intro w hS) | (refine wpList_is (.load _ _) rfl ?_; go_must (first | refine wpList_stp (by kernel_rfl) (stp_val (run_ld _ _ rfl hS) ?_) | refine wpList_stp (by kernel_rfl) (stp_val (run_lda _ _ rfl hS) ?_) | refine wpList_stp (by kernel_rfl) (stp_val (run_ld0 _ _ rfl hS) ?_) | refine wpList_stp (by kernel_rfl) (stp_val (run_lda0 _ _ rfl hS) ?_))) | (refine wpList_is (.store _ _ _) rfl ?_; go_must (first | refine wpList_stp (by kernel_rfl) (stp_st _ _ _ rfl hS ?_) | refine wpList_stp (by kernel_rfl) (stp_sta _ _ _ rfl hS ?_)); clear hS; intro w hS) | (refine wpList_is (.alloc _) rfl ?_; go_must (refine wpList_stp (by kernel_rfl) (stp_al _ rfl hS ?_)); clear hS; intro bN w hbN hS) | (refine wpList_is (.box _ _) rfl ?_; go_must (refine wpList_stp (by kernel_rfl) (stp_bx _ _ rfl hS ?_)); clear hS; intro bN w hbN hS) | (refine wpList_is (.binOp .eql _ _ (.const (.slice none _ _)) _) rfl ?_; refine wpList_stp (by kernel_rfl) (stp_val (run_nse _ _ _ rfl) ?_)) | (refine wpList_is (.binOp .neq _ _ (.const (.slice none _ _)) _) rfl ?_; refine wpList_stp (by kernel_rfl) (stp_val (run_nsn _ _ _ rfl) ?_)))
        refine region_depsE [⟨(undef, [⟨g, blk [] slf l sp, 24, true⟩]), [(13, [], fun _ _ zz => zz.2 = [⟨g, blk [] slf (l.set i (y1, y2)) sp, 24, true⟩]), (15, [], fun _ _ zz => zz.2 = [⟨g, blk [] slf ((l.set i (y1, y2)).set j (x1, x2)) sp, 24, true⟩])]⟩]
          H1 (⟨g, blk [] slf l sp, 24, true⟩ :: H1) (by simp) hS (by kernel_rfl) (by kernel_rfl) ?_
        refine dx_val (fun _ => rfl) rfl (fun χ w hw => run_mv _ rfl) ?_
        refine dx_val (fun _ => rfl) rfl (fun χ w hw => run_mv _ rfl) ?_
        refine dx_val (fun _ => rfl) rfl (fun χ w hw => run_mv _ rfl) ?_
        refine dx_val (fun _ => rfl) rfl (fun χ w hw => run_mv _ rfl) ?_
        refine dx_val (fun _ => rfl) rfl (fun χ w hw => run_mv _ rfl) ?_
        refine dx_val (fun _ => rfl) rfl (fun χ w hw => run_mv _ rfl) ?_
        refine dx_val (fun _ => rfl) rfl (fun χ w hw => run_idxv _ _ _ rfl) ?_
        refine dx_valS 0 0 rfl (by kernel_rfl) (fun _ => rfl) rfl (fun _ => .agg #[.int .i64 y1, .int .u32 y2]) (fun _ _ _ => rfl) (fun χ X w _ hS => run_lda _ _ rfl (show St w0 bs w (⟨g, blk [] slf l sp, 24, true⟩ :: (X ++ _)) from hS)) ?_
        refine dx_val (fun _ => rfl) rfl (fun χ w hw => run_mv _ rfl) ?_
        refine dx_val (fun _ => rfl) rfl (fun χ w hw => run_mv _ rfl) ?_
        refine dx_val (fun _ => rfl) rfl (fun χ w hw => run_idxv _ _ _ rfl) ?_
        refine dx_valS 0 0 rfl (by kernel_rfl) (fun _ => rfl) rfl (fun _ => .agg #[.int .i64 x1, .int .u32 x2]) (fun _ _ _ => rfl) (fun χ X w _ hS => run_lda _ _ rfl (show St w0 bs w (⟨g, blk [] slf l sp, 24, true⟩ :: (X ++ _)) from hS)) ?_
        refine dx_val (fun _ => rfl) rfl (fun χ w hw => run_idxv _ _ _ rfl) ?_
        refine dx_turn0 0 0 rfl rfl (by kernel_rfl) (by kernel_rfl) (by kernel_rfl) (by kernel_rfl) (fun _ => rfl) (fun _ => undef) ?_ ?_
        · intro χ X w _ hS
          exact stepX_sta _ _ _ rfl (show St w0 bs w (⟨g, blk [] slf l sp, 24, true⟩ :: (X ++ _)) from hS) (fun w' hS' => ⟨(undef, [⟨g, blk [] slf (l.set i (y1, y2)) sp, 24, true⟩]), rfl, rfl, hS'⟩)
        refine dx_val (fun _ => rfl) rfl (fun χ w hw => run_idxv _ _ _ rfl) ?_
        refine dx_turn0 0 1 rfl rfl (by kernel_rfl) (by kernel_rfl) (by kernel_rfl) (by kernel_rfl) (fun _ => rfl) (fun _ => undef) ?_ ?_
        · rintro χ X w ⟨hB, _⟩ hS
          have hB : (χ 13).2 = [⟨g, blk [] slf (l.set i (y1, y2)) sp, 24, true⟩] := hB
          have hS : St w0 bs w ((χ 13).2 ++ (X ++ _)) := hS
          rw [hB] at hS
          exact stepX_sta _ _ _ rfl (show St w0 bs w (⟨g, blk [] slf (l.set i (y1, y2)) sp, 24, true⟩ :: (X ++ _)) from hS) (fun w' hS' => ⟨(undef, [⟨g, blk [] slf ((l.set i (y1, y2)).set j (x1, x2)) sp, 24, true⟩]), rfl, rfl, hS'⟩)
        refine dx_end rfl ?_
        intro χ w hok hS
        obtain ⟨_, hD, _⟩ := hok _ (.head _)
        have hD : (χ 15).2 = [⟨g, blk [] slf ((l.set i (y1, y2)).set j (x1, x2)) sp, 24, true⟩] := hD
        have hS : St w0 bs w (((χ 15).2 ++ []) ++ H1) := hS
        rw [hD] at hS
        simp only [List.cons_append, List.nil_append, List.append_assoc] at hS
        clear hok hD
        go_wp2_with (first | go_skip | go_skip | (refine wpList_is (.call { callee := .builtin .len, args := #[_], argTypes := #[_] }) rfl ?_; refine wpList_stp (by kernel_rfl) (stp_val (run_lenv _ _ rfl) ?_)) | (refine wpList_is (.slice _ _ none (some _) none) rfl ?_; refine wpList_stp (by kernel_rfl) (stp_val (run_prev _ _ _ rfl) ?_)) | (refine wpList_is (.indexAddr _ _ _) rfl ?_; refine wpList_stp (by kernel_rfl) (stp_val (run_idxv _ _ _ rfl) ?_)) | go_skip | (refine wpList_is (.build _ _) rfl ?_; go_must (refine wpList_stp (by kernel_rfl) (stp_val (run_bd _ _ rfl) ?_))) | (refine wpList_is (.call { callee := .builtin .clear, args := #[_], argTypes := #[_] }) rfl ?_; go_must (refine wpList_stp (by kernel_rfl) (stp_cl _ _ rfl hS (by decide) ?_)); clear hS; intro w hS) | (refine wpList_is (.load _ _) rfl ?_; go_must (first | refine wpList_stp (by kernel_rfl) (stp_val (run_ld _ _ rfl hS) ?_) | refine wpList_stp (by kernel_rfl) (stp_val (run_lda _ _ rfl hS) ?_) | refine wpList_stp (by kernel_rfl) (stp_val (run_ld0 _ _ rfl hS) ?_) | refine wpList_stp (by kernel_rfl) (stp_val (run_lda0 _ _ rfl hS) ?_))) | (refine wpList_is (.store _ _ _) rfl ?_; go_must (first | refine wpList_stp (by kernel_rfl) (stp_st _ _ _ rfl hS ?_) | refine wpList_stp (by kernel_rfl) (stp_sta _ _ _ rfl hS ?_)); clear hS; intro w hS) | (refine wpList_is (.alloc _) rfl ?_; go_must (refine wpList_stp (by kernel_rfl) (stp_al _ rfl hS ?_)); clear hS; intro bN w hbN hS) | (refine wpList_is (.box _ _) rfl ?_; go_must (refine wpList_stp (by kernel_rfl) (stp_bx _ _ rfl hS ?_)); clear hS; intro bN w hbN hS) | (refine wpList_is (.binOp .eql _ _ (.const (.slice none _ _)) _) rfl ?_; refine wpList_stp (by kernel_rfl) (stp_val (run_nse _ _ _ rfl) ?_)) | (refine wpList_is (.binOp .neq _ _ (.const (.slice none _ _)) _) rfl ?_; refine wpList_stp (by kernel_rfl) (stp_val (run_nsn _ _ _ rfl) ?_)))
        go_roundw
        case rel => exact ⟨i + 1, (l.set i (y1, y2)).set j (x1, x2), by omega, by go_num, by have := hj'.out; go_num, by rw [List.length_set, List.length_set]; exact hll'.out, fun r => (hsw'.out r).trans (hmem'.out r), hS⟩
        case measure => simp [intOf]; omega
      · have dlt : decide ((i : Int) < (n : Int) - 1 - i) = false := decide_eq_false (by omega)
        go_wp2_with (first | go_skip | go_skip | (refine wpList_is (.call { callee := .builtin .len, args := #[_], argTypes := #[_] }) rfl ?_; refine wpList_stp (by kernel_rfl) (stp_val (run_lenv _ _ rfl) ?_)) | (refine wpList_is (.slice _ _ none (some _) none) rfl ?_; refine wpList_stp (by kernel_rfl) (stp_val (run_prev _ _ _ rfl) ?_)) | (refine wpList_is (.indexAddr _ _ _) rfl ?_; refine wpList_stp (by kernel_rfl) (stp_val (run_idxv _ _ _ rfl) ?_)) | go_skip | (refine wpList_is (.build _ _) rfl ?_; go_must (refine wpList_stp (by kernel_rfl) (stp_val (run_bd _ _ rfl) ?_))) | (refine wpList_is (.call { callee := .builtin .clear, args := #[_], argTypes := #[_] }) rfl ?_; go_must (refine wpList_stp (by kernel_rfl) (stp_cl _ _ rfl hS (by decide) ?_)); clear hS; intro w hS) | (refine wpList_is (.load _ _) rfl ?_; go_must (first | refine wpList_stp (by kernel_rfl) (stp_val (run_ld _ _ rfl hS) ?_) | refine wpList_stp (by kernel_rfl) (stp_val (run_lda _ _ rfl hS) ?_) | refine wpList_stp (by kernel_rfl) (stp_val (run_ld0 _ _ rfl hS) ?_) | refine wpList_stp (by kernel_rfl) (stp_val (run_lda0 _ _ rfl hS) ?_))) | (refine wpList_is (.store _ _ _) rfl ?_; go_must (first | refine wpList_stp (by kernel_rfl) (stp_st _ _ _ rfl hS ?_) | refine wpList_stp (by kernel_rfl) (stp_sta _ _ _ rfl hS ?_)); clear hS; intro w hS) | (refine wpList_is (.alloc _) rfl ?_; go_must (refine wpList_stp (by kernel_rfl) (stp_al _ rfl hS ?_)); clear hS; intro bN w hbN hS) | (refine wpList_is (.box _ _) rfl ?_; go_must (refine wpList_stp (by kernel_rfl) (stp_bx _ _ rfl hS ?_)); clear hS; intro bN w hbN hS) | (refine wpList_is (.binOp .eql _ _ (.const (.slice none _ _)) _) rfl ?_; refine wpList_stp (by kernel_rfl) (stp_val (run_nse _ _ _ rfl) ?_)) | (refine wpList_is (.binOp .neq _ _ (.const (.slice none _ _)) _) rfl ?_; refine wpList_stp (by kernel_rfl) (stp_val (run_nsn _ _ _ rfl) ?_)))
        refine bodyPost_end (results_none rfl _ _ _) rfl ?_
        exact hR l _ _ (hRSl'.out l hll) (by rw [hll, hn'.out]) hmem'.out hS

/-! ### Scans, and what mark asks -/
theorem mk_scan {m z i : Nat} {Hs : List Hs} {P : Nat → Prop} {L l : List Int} {o : Bool} (hG : Gr m Hs) (hM : Mk m Hs P L l) (hm : m ≤ 40) (hc : L.getD i 0 = 1) :
    ∃ L2 o2 l2 n2, scT (some (some Hs)) (cq L) (sq z o l) i 1 = cq L2 ∧ scS (some (some Hs)) (cq L) (sq z o l) i 1 = sq z o2 l2 ∧ scN (some (some Hs)) (cq L) (sq z o l) i 1 = n2 ∧ scE (some (some Hs)) (cq L) (sq z o l) i 1 = 0
      ∧ Mk m Hs P L2 l2 ∧ (∀ j, L.getD j 0 ≠ 0 → L2.getD j 0 ≠ 0) ∧ mu L2 l2 < mu L l := by
  have him := (hM.rch i (by rw [hc]; decide)).1
  obtain ⟨hkid, hkm, _⟩ := hG.kids him
  obtain ⟨L1, o1, l1, n1, e1, e2, L2, e3, hM2, h1, h2⟩ := hM.scan (z := z) (o := o) hm hkm hc 0
  obtain ⟨g1, g2, g3, g4⟩ := sc_good (H := Hs) (T := cq L) (S := sq z o l) (s := (i : Int)) (g := 1) rfl (hG.is him) (hG.near him 40 hm L) (by rw [(of_at (L := L) (i := i) (by omega)).2]; exact hc)
  have hsf : scF (some (some Hs)) (cq L) (sq z o l) i 1 = (cq L1, sq z o1 l1, n1) := by rw [scF, hkid]; exact e1
  rw [hsf] at g1 g2 g3 g4
  exact ⟨L2, o1, l1, n1, g1.trans e3, g2, g3, g4.trans e2, hM2, h1, h2⟩
set_option maxRecDepth 100000 in
theorem mk1_ok {b21 j : Nat} (hO : St w0 bs w (⟨b21, #[.int .i64 (j : Nat)], 3, true⟩ :: H1)) (s g : Int) (b : Bool) (hb : decide (s = (j : Int)) = b) (hR : ∀ w', St w0 bs w' (⟨b21, #[.int .i64 (j : Nat)], 3, true⟩ :: H1) → Ret R (.bool b) w') :
    Calls Try.prog 52 #[.agg #[.int .i64 s, .int .u32 g], .pointer (some ⟨b21, 0, none⟩)] w R := by
  have hS := hO
  clear hO
  go_enter Try.func52, Try.ntmps52
  go_wp2_with (first | go_skip | (refine wpList_is (.box 24 _) rfl ?_; go_must (refine wpList_stp (by kernel_rfl) (stp_bx _ _ rfl hS ?_)); clear hS; intro br w _ hS) | go_skip | (refine wpList_is (.build _ _) rfl ?_; go_must (refine wpList_stp (by kernel_rfl) (stp_val (run_bd _ _ rfl) ?_))) | (refine wpList_is (.call { callee := .builtin .clear, args := #[_], argTypes := #[_] }) rfl ?_; go_must (refine wpList_stp (by kernel_rfl) (stp_cl _ _ rfl hS (by decide) ?_)); clear hS; intro w hS) | (refine wpList_is (.load _ _) rfl ?_; go_must (first | refine wpList_stp (by kernel_rfl) (stp_val (run_ld _ _ rfl hS) ?_) | refine wpList_stp (by kernel_rfl) (stp_val (run_lda _ _ rfl hS) ?_) | refine wpList_stp (by kernel_rfl) (stp_val (run_ld0 _ _ rfl hS) ?_) | refine wpList_stp (by kernel_rfl) (stp_val (run_lda0 _ _ rfl hS) ?_))) | (refine wpList_is (.store _ _ _) rfl ?_; go_must (first | refine wpList_stp (by kernel_rfl) (stp_st _ _ _ rfl hS ?_) | refine wpList_stp (by kernel_rfl) (stp_sta _ _ _ rfl hS ?_)); clear hS; intro w hS) | (refine wpList_is (.alloc _) rfl ?_; go_must (refine wpList_stp (by kernel_rfl) (stp_al _ rfl hS ?_)); clear hS; intro bN w hbN hS) | (refine wpList_is (.box _ _) rfl ?_; go_must (refine wpList_stp (by kernel_rfl) (stp_bx _ _ rfl hS ?_)); clear hS; intro bN w hbN hS) | (refine wpList_is (.binOp .eql _ _ (.const (.slice none _ _)) _) rfl ?_; refine wpList_stp (by kernel_rfl) (stp_val (run_nse _ _ _ rfl) ?_)) | (refine wpList_is (.binOp .neq _ _ (.const (.slice none _ _)) _) rfl ?_; refine wpList_stp (by kernel_rfl) (stp_val (run_nsn _ _ _ rfl) ?_)))
  first
    | (rw [← hb] at hR; exact hR _ hS.pick)
    | exact hR _ hS.pick
set_option maxRecDepth 100000 in
theorem yes_ok (hO : St w0 bs w H) (p : Option Addr) (hR : ∀ w', St w0 bs w' H → Ret R (.bool true) w') : Calls Try.prog 19 #[.pointer p] w R := by
  have hS := hO
  clear hO
  go_enter Try.func19, Try.ntmps19
  go_wp2_with (first | go_skip | go_skip | (refine wpList_is (.build _ _) rfl ?_; go_must (refine wpList_stp (by kernel_rfl) (stp_val (run_bd _ _ rfl) ?_))) | (refine wpList_is (.call { callee := .builtin .clear, args := #[_], argTypes := #[_] }) rfl ?_; go_must (refine wpList_stp (by kernel_rfl) (stp_cl _ _ rfl hS (by decide) ?_)); clear hS; intro w hS) | (refine wpList_is (.load _ _) rfl ?_; go_must (first | refine wpList_stp (by kernel_rfl) (stp_val (run_ld _ _ rfl hS) ?_) | refine wpList_stp (by kernel_rfl) (stp_val (run_lda _ _ rfl hS) ?_) | refine wpList_stp (by kernel_rfl) (stp_val (run_ld0 _ _ rfl hS) ?_) | refine wpList_stp (by kernel_rfl) (stp_val (run_lda0 _ _ rfl hS) ?_))) | (refine wpList_is (.store _ _ _) rfl ?_; go_must (first | refine wpList_stp (by kernel_rfl) (stp_st _ _ _ rfl hS ?_) | refine wpList_stp (by kernel_rfl) (stp_sta _ _ _ rfl hS ?_)); clear hS; intro w hS) | (refine wpList_is (.alloc _) rfl ?_; go_must (refine wpList_stp (by kernel_rfl) (stp_al _ rfl hS ?_)); clear hS; intro bN w hbN hS) | (refine wpList_is (.box _ _) rfl ?_; go_must (refine wpList_stp (by kernel_rfl) (stp_bx _ _ rfl hS ?_)); clear hS; intro bN w hbN hS) | (refine wpList_is (.binOp .eql _ _ (.const (.slice none _ _)) _) rfl ?_; refine wpList_stp (by kernel_rfl) (stp_val (run_nse _ _ _ rfl) ?_)) | (refine wpList_is (.binOp .neq _ _ (.const (.slice none _ _)) _) rfl ?_; refine wpList_stp (by kernel_rfl) (stp_val (run_nsn _ _ _ rfl) ?_)))
  exact hR _ hS
set_option maxHeartbeats 1000000 in
set_option maxRecDepth 100000 in
/-- The object of a slot is found. -/
theorem idx_slot {b21 j m : Nat} {v : Value} (hO : St w0 bs w (Ev ++ (⟨b21, #[.int .i64 (j : Nat)], 3, true⟩ :: H1))) (hA : RS v (nmS m) Ev) (hj : j < m) (hm : m ≤ 40)
    (hR : ∀ w', St w0 bs w' (Ev ++ (⟨b21, #[.int .i64 (j : Nat)], 3, true⟩ :: H1)) → Ret R (.int .i64 j) w') : Calls Try.prog 51 #[v, .func (.func 52) #[] #[.pointer (some ⟨b21, 0, none⟩)]] w R := by
  have hS := hO
  clear hO
  have hlen := hA.len (nmS_len m)
  have hone := hA.one
  go_enter Try.func51, Try.ntmps51
  go_wp2_with (first | go_skip | go_skip | (refine wpList_is (.call { callee := .builtin .len, args := #[_], argTypes := #[_] }) rfl ?_; refine wpList_stp (by kernel_rfl) (stp_val (run_lenv _ _ rfl) ?_)) | (refine wpList_is (.slice _ _ none (some _) none) rfl ?_; refine wpList_stp (by kernel_rfl) (stp_val (run_prev _ _ _ rfl) ?_)) | (refine wpList_is (.indexAddr _ _ _) rfl ?_; refine wpList_stp (by kernel_rfl) (stp_val (run_idxv _ _ _ rfl) ?_)) | go_skip | (refine wpList_is (.build _ _) rfl ?_; go_must (refine wpList_stp (by kernel_rfl) (stp_val (run_bd _ _ rfl) ?_))) | (refine wpList_is (.call { callee := .builtin .clear, args := #[_], argTypes := #[_] }) rfl ?_; go_must (refine wpList_stp (by kernel_rfl) (stp_cl _ _ rfl hS (by decide) ?_)); clear hS; intro w hS) | (refine wpList_is (.load _ _) rfl ?_; go_must (first | refine wpList_stp (by kernel_rfl) (stp_val (run_ld _ _ rfl hS) ?_) | refine wpList_stp (by kernel_rfl) (stp_val (run_lda _ _ rfl hS) ?_) | refine wpList_stp (by kernel_rfl) (stp_val (run_ld0 _ _ rfl hS) ?_) | refine wpList_stp (by kernel_rfl) (stp_val (run_lda0 _ _ rfl hS) ?_))) | (refine wpList_is (.store _ _ _) rfl ?_; go_must (first | refine wpList_stp (by kernel_rfl) (stp_st _ _ _ rfl hS ?_) | refine wpList_stp (by kernel_rfl) (stp_sta _ _ _ rfl hS ?_)); clear hS; intro w hS) | (refine wpList_is (.alloc _) rfl ?_; go_must (refine wpList_stp (by kernel_rfl) (stp_al _ rfl hS ?_)); clear hS; intro bN w hbN hS) | (refine wpList_is (.box _ _) rfl ?_; go_must (refine wpList_stp (by kernel_rfl) (stp_bx _ _ rfl hS ?_)); clear hS; intro bN w hbN hS) | (refine wpList_is (.binOp .eql _ _ (.const (.slice none _ _)) _) rfl ?_; refine wpList_stp (by kernel_rfl) (stp_val (run_nse _ _ _ rfl) ?_)) | (refine wpList_is (.binOp .neq _ _ (.const (.slice none _ _)) _) rfl ?_; refine wpList_stp (by kernel_rfl) (stp_val (run_nsn _ _ _ rfl) ?_)) | (refine region_quiet hS (by kernel_rfl) (by kernel_rfl) (fun hne => ?_); (repeat (first | go_big_quiet_skip | (go_big_quiet_want; first | (refine quiet_is (.load _ _) rfl ?_; go_must (first | refine quiet_at sw_st (fun w hS => run_ld _ _ rfl hS) ?_ | refine quiet_at sw_st (fun w hS => run_lda _ _ rfl hS) ?_ | refine quiet_at sw_st (fun w hS => run_ld0 _ _ rfl hS) ?_ | refine quiet_at sw_st (fun w hS => run_lda0 _ _ rfl hS) ?_); go_big_quiet_on) | (refine quiet_is (.binOp .eql _ _ (.const (.slice none _ _)) _) rfl ?_; refine quiet_val (fun w _ => run_nse _ _ _ rfl) ?_; go_big_quiet_on) | (refine quiet_is (.binOp .neq _ _ (.const (.slice none _ _)) _) rfl ?_; refine quiet_val (fun w _ => run_nsn _ _ _ rfl) ?_; go_big_quiet_on) | (refine quiet_is (.call { callee := .builtin .len, args := #[_], argTypes := #[_] }) rfl ?_; refine quiet_val (fun w _ => run_lenv _ _ rfl) ?_; go_big_quiet_on) | (refine quiet_is (.indexAddr _ _ _) rfl ?_; refine quiet_val (fun w _ => run_idxv _ _ _ rfl) ?_; go_big_quiet_on) | (refine quiet_is (.binOp .eql _ _ _ _) rfl ?_; refine quiet_val (fun w _ => run_aeq _ _ _ _ rfl) ?_; go_big_quiet_on) | (refine quiet_is (.binOp .neq _ _ _ _) rfl ?_; refine quiet_val (fun w _ => run_ane _ _ _ _ rfl) ?_; go_big_quiet_on) | (go_big_quiet_op; go_big_quiet_on)))); refine wpQuiet_nil ?_; clear hS hne; intro w hS))
  go_loopw [8] (fun u wr => ∃ k : Nat, k ≤ j ∧ u = .int .i64 k ∧ St w0 bs wr (Ev ++ (⟨b21, #[.int .i64 (j : Nat)], 3, true⟩ :: H1))) (fun u _ => m - (intOf u).toNat)
  case atStart => exact ⟨0, Nat.zero_le _, rfl, hS⟩
  case round =>
    clear hS
    obtain ⟨k, hk, rfl, hS⟩ := hrel
    have hkm : k < m := by omega
    have hkI : (k : Int) < m := by omega
    obtain ⟨gx, sp, ix, hh, hcx⟩ := hA.at (i := k) (by rw [nmS_len]; exact hkm) (nmS_get hkm)
    have ix := ix k rfl
    simp only at hcx
    by_cases hkj : k = j
    · subst hkj
      have hb : decide ((k : Int) = (k : Int)) = true := decide_eq_true rfl
      have hb' := Lib.hid hb
      clear hb
      go_wp2_with (first | go_skip | (go_at_call 52; refine mk1_ok (j := k) (H1 := Ev ++ H1) hS.pick (k : Int) 1 true hb'.out ?_; clear hS; intro w hS; unfold Ret) | go_skip | (refine wpList_is (.call { callee := .builtin .len, args := #[_], argTypes := #[_] }) rfl ?_; refine wpList_stp (by kernel_rfl) (stp_val (run_lenv _ _ rfl) ?_)) | (refine wpList_is (.slice _ _ none (some _) none) rfl ?_; refine wpList_stp (by kernel_rfl) (stp_val (run_prev _ _ _ rfl) ?_)) | (refine wpList_is (.indexAddr _ _ _) rfl ?_; refine wpList_stp (by kernel_rfl) (stp_val (run_idxv _ _ _ rfl) ?_)) | go_skip | (refine wpList_is (.build _ _) rfl ?_; go_must (refine wpList_stp (by kernel_rfl) (stp_val (run_bd _ _ rfl) ?_))) | (refine wpList_is (.call { callee := .builtin .clear, args := #[_], argTypes := #[_] }) rfl ?_; go_must (refine wpList_stp (by kernel_rfl) (stp_cl _ _ rfl hS (by decide) ?_)); clear hS; intro w hS) | (refine wpList_is (.load _ _) rfl ?_; go_must (first | refine wpList_stp (by kernel_rfl) (stp_val (run_ld _ _ rfl hS) ?_) | refine wpList_stp (by kernel_rfl) (stp_val (run_lda _ _ rfl hS) ?_) | refine wpList_stp (by kernel_rfl) (stp_val (run_ld0 _ _ rfl hS) ?_) | refine wpList_stp (by kernel_rfl) (stp_val (run_lda0 _ _ rfl hS) ?_))) | (refine wpList_is (.store _ _ _) rfl ?_; go_must (first | refine wpList_stp (by kernel_rfl) (stp_st _ _ _ rfl hS ?_) | refine wpList_stp (by kernel_rfl) (stp_sta _ _ _ rfl hS ?_)); clear hS; intro w hS) | (refine wpList_is (.alloc _) rfl ?_; go_must (refine wpList_stp (by kernel_rfl) (stp_al _ rfl hS ?_)); clear hS; intro bN w hbN hS) | (refine wpList_is (.box _ _) rfl ?_; go_must (refine wpList_stp (by kernel_rfl) (stp_bx _ _ rfl hS ?_)); clear hS; intro bN w hbN hS) | (refine wpList_is (.binOp .eql _ _ (.const (.slice none _ _)) _) rfl ?_; refine wpList_stp (by kernel_rfl) (stp_val (run_nse _ _ _ rfl) ?_)) | (refine wpList_is (.binOp .neq _ _ (.const (.slice none _ _)) _) rfl ?_; refine wpList_stp (by kernel_rfl) (stp_val (run_nsn _ _ _ rfl) ?_)) | (refine region_quiet hS (by kernel_rfl) (by kernel_rfl) (fun hne => ?_); (repeat (first | go_big_quiet_skip | (go_big_quiet_want; first | (refine quiet_is (.load _ _) rfl ?_; go_must (first | refine quiet_at sw_st (fun w hS => run_ld _ _ rfl hS) ?_ | refine quiet_at sw_st (fun w hS => run_lda _ _ rfl hS) ?_ | refine quiet_at sw_st (fun w hS => run_ld0 _ _ rfl hS) ?_ | refine quiet_at sw_st (fun w hS => run_lda0 _ _ rfl hS) ?_); go_big_quiet_on) | (refine quiet_is (.binOp .eql _ _ (.const (.slice none _ _)) _) rfl ?_; refine quiet_val (fun w _ => run_nse _ _ _ rfl) ?_; go_big_quiet_on) | (refine quiet_is (.binOp .neq _ _ (.const (.slice none _ _)) _) rfl ?_; refine quiet_val (fun w _ => run_nsn _ _ _ rfl) ?_; go_big_quiet_on) | (refine quiet_is (.call { callee := .builtin .len, args := #[_], argTypes := #[_] }) rfl ?_; refine quiet_val (fun w _ => run_lenv _ _ rfl) ?_; go_big_quiet_on) | (refine quiet_is (.indexAddr _ _ _) rfl ?_; refine quiet_val (fun w _ => run_idxv _ _ _ rfl) ?_; go_big_quiet_on) | (refine quiet_is (.binOp .eql _ _ _ _) rfl ?_; refine quiet_val (fun w _ => run_aeq _ _ _ _ rfl) ?_; go_big_quiet_on) | (refine quiet_is (.binOp .neq _ _ _ _) rfl ?_; refine quiet_val (fun w _ => run_ane _ _ _ _ rfl) ?_; go_big_quiet_on) | (go_big_quiet_op; go_big_quiet_on)))); refine wpQuiet_nil ?_; clear hS hne; intro w hS))
      exact hR _ hS.pick
    · have hb : decide ((k : Int) = (j : Int)) = false := decide_eq_false (by omega)
      have hb' := Lib.hid hb
      clear hb
      go_wp2_with (first | go_skip | (go_at_call 52; refine mk1_ok (j := j) (H1 := Ev ++ H1) hS.pick (k : Int) 1 false hb'.out ?_; clear hS; intro w hS; unfold Ret) | go_skip | (refine wpList_is (.call { callee := .builtin .len, args := #[_], argTypes := #[_] }) rfl ?_; refine wpList_stp (by kernel_rfl) (stp_val (run_lenv _ _ rfl) ?_)) | (refine wpList_is (.slice _ _ none (some _) none) rfl ?_; refine wpList_stp (by kernel_rfl) (stp_val (run_prev _ _ _ rfl) ?_)) | (refine wpList_is (.indexAddr _ _ _) rfl ?_; refine wpList_stp (by kernel_rfl) (stp_val (run_idxv _ _ _ rfl) ?_)) | go_skip | (refine wpList_is (.build _ _) rfl ?_; go_must (refine wpList_stp (by kernel_rfl) (stp_val (run_bd _ _ rfl) ?_))) | (refine wpList_is (.call { callee := .builtin .clear, args := #[_], argTypes := #[_] }) rfl ?_; go_must (refine wpList_stp (by kernel_rfl) (stp_cl _ _ rfl hS (by decide) ?_)); clear hS; intro w hS) | (refine wpList_is (.load _ _) rfl ?_; go_must (first | refine wpList_stp (by kernel_rfl) (stp_val (run_ld _ _ rfl hS) ?_) | refine wpList_stp (by kernel_rfl) (stp_val (run_lda _ _ rfl hS) ?_) | refine wpList_stp (by kernel_rfl) (stp_val (run_ld0 _ _ rfl hS) ?_) | refine wpList_stp (by kernel_rfl) (stp_val (run_lda0 _ _ rfl hS) ?_))) | (refine wpList_is (.store _ _ _) rfl ?_; go_must (first | refine wpList_stp (by kernel_rfl) (stp_st _ _ _ rfl hS ?_) | refine wpList_stp (by kernel_rfl) (stp_sta _ _ _ rfl hS ?_)); clear hS; intro w hS) | (refine wpList_is (.alloc _) rfl ?_; go_must (refine wpList_stp (by kernel_rfl) (stp_al _ rfl hS ?_)); clear hS; intro bN w hbN hS) | (refine wpList_is (.box _ _) rfl ?_; go_must (refine wpList_stp (by kernel_rfl) (stp_bx _ _ rfl hS ?_)); clear hS; intro bN w hbN hS) | (refine wpList_is (.binOp .eql _ _ (.const (.slice none _ _)) _) rfl ?_; refine wpList_stp (by kernel_rfl) (stp_val (run_nse _ _ _ rfl) ?_)) | (refine wpList_is (.binOp .neq _ _ (.const (.slice none _ _)) _) rfl ?_; refine wpList_stp (by kernel_rfl) (stp_val (run_nsn _ _ _ rfl) ?_)) | (refine region_quiet hS (by kernel_rfl) (by kernel_rfl) (fun hne => ?_); (repeat (first | go_big_quiet_skip | (go_big_quiet_want; first | (refine quiet_is (.load _ _) rfl ?_; go_must (first | refine quiet_at sw_st (fun w hS => run_ld _ _ rfl hS) ?_ | refine quiet_at sw_st (fun w hS => run_lda _ _ rfl hS) ?_ | refine quiet_at sw_st (fun w hS => run_ld0 _ _ rfl hS) ?_ | refine quiet_at sw_st (fun w hS => run_lda0 _ _ rfl hS) ?_); go_big_quiet_on) | (refine quiet_is (.binOp .eql _ _ (.const (.slice none _ _)) _) rfl ?_; refine quiet_val (fun w _ => run_nse _ _ _ rfl) ?_; go_big_quiet_on) | (refine quiet_is (.binOp .neq _ _ (.const (.slice none _ _)) _) rfl ?_; refine quiet_val (fun w _ => run_nsn _ _ _ rfl) ?_; go_big_quiet_on) | (refine quiet_is (.call { callee := .builtin .len, args := #[_], argTypes := #[_] }) rfl ?_; refine quiet_val (fun w _ => run_lenv _ _ rfl) ?_; go_big_quiet_on) | (refine quiet_is (.indexAddr _ _ _) rfl ?_; refine quiet_val (fun w _ => run_idxv _ _ _ rfl) ?_; go_big_quiet_on) | (refine quiet_is (.binOp .eql _ _ _ _) rfl ?_; refine quiet_val (fun w _ => run_aeq _ _ _ _ rfl) ?_; go_big_quiet_on) | (refine quiet_is (.binOp .neq _ _ _ _) rfl ?_; refine quiet_val (fun w _ => run_ane _ _ _ _ rfl) ?_; go_big_quiet_on) | (go_big_quiet_op; go_big_quiet_on)))); refine wpQuiet_nil ?_; clear hS hne; intro w hS))
      go_roundw
      case rel => exact ⟨k + 1, by omega, by go_num, hS.pick⟩
      case measure => simp [intOf]; omega
theorem ka_some {p : Option Addr} {L : List Int} {E : List Ent} (h : KA p (cq L) E) : ∃ a, p = some a := by
  obtain ⟨_, _, _, _, b, rfl, _⟩ := h
  exact ⟨_, rfl⟩
theorem pp_last {z : Nat} {o : Bool} {l : List Int} {x : Int} : ppT (sq z o (l ++ [x])) = sq z o l ∧ ppR (sq z o (l ++ [x])) = x ∧ ppB (sq z o (l ++ [x])) = true := by
  refine ⟨?_, ?_, ?_⟩
  · simp [ppT]
  · simp [ppR, List.getLastD_concat]
  · simp [ppB]
theorem pp_nil {z : Nat} {o : Bool} : ppT (sq z o []) = sq z o [] ∧ ppR (sq z o []) = 0 ∧ ppB (sq z o []) = false := ⟨rfl, rfl, rfl⟩
theorem rs_nil {L : List Int} {z i : Nat} {o : Bool} (hz : 1 ≤ z) (hi : i < 40) (hg : gyB (cq L) 0 = true) (hI : gyI (cq L) 0 = i) : rsS (cq L) (sq z o []) 0 = sq z o [(i : Int)] ∧ rsI (cq L) (sq z o []) 0 = i ∧ rsB (cq L) (sq z o []) 0 = true ∧ rsE (cq L) (sq z o []) 0 = 0 := by
  have hp : ¬ ((i : Int) < 0 ∨ 256 ≤ (i : Int)) := by omega
  have hz0 : ¬ (([] : List Int).length = z) := by simp; omega
  have hv : vlE (cq L) (sq z o []) = true := rfl
  have hpb : puB (sq z o []) i = true := by simp only [puB, if_neg hp]; exact decide_eq_true hz0
  have hb : rsB (cq L) (sq z o []) 0 = true := by rw [rsB, hv, hg, hI, hpb]; rfl
  refine ⟨?_, ?_, hb, ?_⟩
  · rw [rsS, if_pos hb, hI]; simp only [puT, if_neg hp, if_neg hz0, List.nil_append]
  · rw [rsI, if_pos hb, hI]
  · rw [rsE, if_pos hv, if_pos hg, hI, if_pos hpb]; simp only [puE, if_neg hp]
set_option maxHeartbeats 8000000 in
set_option maxRecDepth 100000 in
theorem mark_ok {pa : Addr} {Hs : List Hs} {m z : Nat} {va vf : Value} {lf : List (Int × Int)} (hO : St w0 bs w H) (hH : HA (some pa) (some (some Hs)) E0) (hA : RS va (nmS m) Ev) (hF : RS vf lf Ef) [hc : Cut H E0 H1] [hd : Cut H1 Ev H2] [hf : Cut H2 Ef H3]
    (hG : Gr m Hs) (hm : 1 ≤ m ∧ m ≤ 40) (hl : lf.length ≤ 1000) (hlf : ∀ k, k < lf.length → ∃ q : Nat, lf.getD k (0, 0) = ((q : Int), 1) ∧ q < m) (hz : 1 ≤ z ∧ z ≤ 64) (zz : Int) (hzz : zz = z)
    (hR : ∀ (ap : Addr) (L l : List Int) (E1 : List Ent) w', KA (some ap) (cq L) E1 → Mk m Hs (fun i => ((i : Int), (1 : Int)) ∈ lf) L l → (∀ i : Nat, ((i : Int), (1 : Int)) ∈ lf → L.getD i 0 ≠ 0) → gyB (cq L) 0 = false → St w0 bs w' (E1 ++ (E0 ++ (Ev ++ (Ef ++ H3)))) → Ret R (.pointer (some ap)) w') :
    Calls Try.prog 20 #[.pointer (some pa), va, vf, .int .i64 zz, .func (.func 19) #[] #[]] w R := by
  subst hzz
  have hS := (hO.front (E := E0) (H1 := H1))
  have hS : St w0 bs w (E0 ++ (Ev ++ (Ef ++ H3))) := hS.pick
  clear hO
  have hone := hA.one
  have hone2 := hF.one
  obtain ⟨n, hn⟩ : ∃ n, lf.length = n := ⟨_, rfl⟩
  have hlenf := hF.len hn
  obtain ⟨P, hP⟩ : ∃ P : Nat → Prop, (fun i : Nat => ((i : Int), (1 : Int)) ∈ lf) = P := ⟨_, rfl⟩
  rw [hP] at hR
  have hPi : ∀ i, P i ↔ ((i : Int), (1 : Int)) ∈ lf := fun i => by rw [← hP]
  have hR' : ∀ (ap : Addr) (L l : List Int) (E1 : List Ent) w', KA (some ap) (cq L) E1 → Mk m Hs P L l → (∀ i, P i → L.getD i 0 ≠ 0) → gyB (cq L) 0 = false → St w0 bs w' (E1 ++ (E0 ++ (Ev ++ (Ef ++ H3)))) → Ret R (.pointer (some ap)) w' :=
    fun ap L l E1 w' h1 h2 h3 h4 h5 => hR ap L l E1 w' h1 h2 (fun i hi => h3 i ((hPi i).2 hi)) h4 h5
  have hPi' := Lib.hid hPi
  have hR2 := Lib.hid hR'
  have hn' := Lib.hid hn
  have hlf' := Lib.hid hlf
  have hG' := Lib.hid hG
  have hse := Lib.hid (show (if 1 ≤ (z : Int) ∧ (z : Int) ≤ 64 then (0 : Int) else 2) = 0 from if_pos (by omega))
  have hsn := Lib.hid (show nwS (z : Int) = sq z false [] from by rw [nwS, if_pos (by omega), Int.toNat_natCast])
  have hn1000 : n ≤ 1000 := by omega
  clear hP hR hPi hR' hn hlf hG hl
  go_enter Try.func20, Try.ntmps20
  go_wp2_with (first | go_skip | (go_at_call 8; (with_reducible refine pn_new hS 40 (cq Col.zerosL) 0 rfl (by decide) ?_); clear hS; intro pq E1 w hT hS; unfold Ret; obtain ⟨ap, rfl⟩ := ka_some hT) | (go_at_call 9; (with_reducible refine sq_new hS (z : Int) (sq z false []) 0 hsn.out hse.out ?_); clear hS; intro pr E2 w hU hS; unfold Ret) | go_skip | (refine wpList_is (.call { callee := .builtin .len, args := #[_], argTypes := #[_] }) rfl ?_; refine wpList_stp (by kernel_rfl) (stp_val (run_lenv _ _ rfl) ?_)) | (refine wpList_is (.slice _ _ none (some _) none) rfl ?_; refine wpList_stp (by kernel_rfl) (stp_val (run_prev _ _ _ rfl) ?_)) | (refine wpList_is (.indexAddr _ _ _) rfl ?_; refine wpList_stp (by kernel_rfl) (stp_val (run_idxv _ _ _ rfl) ?_)) | go_skip | (refine wpList_is (.build _ _) rfl ?_; go_must (refine wpList_stp (by kernel_rfl) (stp_val (run_bd _ _ rfl) ?_))) | (refine wpList_is (.call { callee := .builtin .clear, args := #[_], argTypes := #[_] }) rfl ?_; go_must (refine wpList_stp (by kernel_rfl) (stp_cl _ _ rfl hS (by decide) ?_)); clear hS; intro w hS) | (refine wpList_is (.load _ _) rfl ?_; go_must (first | refine wpList_stp (by kernel_rfl) (stp_val (run_ld _ _ rfl hS) ?_) | refine wpList_stp (by kernel_rfl) (stp_val (run_lda _ _ rfl hS) ?_) | refine wpList_stp (by kernel_rfl) (stp_val (run_ld0 _ _ rfl hS) ?_) | refine wpList_stp (by kernel_rfl) (stp_val (run_lda0 _ _ rfl hS) ?_))) | (refine wpList_is (.store _ _ _) rfl ?_; go_must (first | refine wpList_stp (by kernel_rfl) (stp_st _ _ _ rfl hS ?_) | refine wpList_stp (by kernel_rfl) (stp_sta _ _ _ rfl hS ?_)); clear hS; intro w hS) | (refine wpList_is (.alloc _) rfl ?_; go_must (refine wpList_stp (by kernel_rfl) (stp_al _ rfl hS ?_)); clear hS; intro bN w hbN hS) | (refine wpList_is (.box _ _) rfl ?_; go_must (refine wpList_stp (by kernel_rfl) (stp_bx _ _ rfl hS ?_)); clear hS; intro bN w hbN hS) | (refine wpList_is (.binOp .eql _ _ (.const (.slice none _ _)) _) rfl ?_; refine wpList_stp (by kernel_rfl) (stp_val (run_nse _ _ _ rfl) ?_)) | (refine wpList_is (.binOp .neq _ _ (.const (.slice none _ _)) _) rfl ?_; refine wpList_stp (by kernel_rfl) (stp_val (run_nsn _ _ _ rfl) ?_)))
  have hS0 : St w0 bs w (E1 ++ (E2 ++ (E0 ++ (Ev ++ (Ef ++ H3))))) := hS.pick
  have hT0 := hT
  have hU0 := hU
  clear hS hT hU
  go_loopw [47] (fun u wr => ∃ (k : Nat) (L l : List Int) (o : Bool) (E1 E2 : List Ent), k ≤ n ∧ u = .int .i64 k ∧ KA (some ap) (cq L) E1 ∧ SA pr (sq z o l) E2 ∧ Mk m Hs P L l ∧ mu L l ≤ 120 ∧ (∀ j, j < k → L.getD ((lf.getD j (0, 0)).1.toNat) 0 ≠ 0) ∧ St w0 bs wr (E1 ++ (E2 ++ (E0 ++ (Ev ++ (Ef ++ H3)))))) (fun u _ => n - (intOf u).toNat)
  case atStart => exact ⟨0, Col.zerosL, [], false, E1, E2, Nat.zero_le _, rfl, hT0, hU0, Mk.new, mu_start _, fun j hj => absurd hj (Nat.not_lt_zero _), hS0⟩
  case round =>
    clear hS0 hT0 hU0
    obtain ⟨k, L, l, o, E1, E2, hk, rfl, hT, hU, hM, hmu, hdn, hS⟩ := hrel
    have hM' := Lib.hid hM
    have hmu' := Lib.hid hmu
    have hdn' := Lib.hid hdn
    clear hM hmu hdn
    by_cases hlt : k < n
    · obtain ⟨q, hq, hqm⟩ := hlf'.out k (by rw [hn'.out]; exact hlt)
      obtain ⟨gx, sx, ix, hh, hcx⟩ := hF.at (i := k) (by rw [hn'.out]; exact hlt) hq
      have ix := ix k rfl
      simp only at hcx
      have hPq : P q := by
        rw [hPi'.out, ← hq, List.getD_eq_getElem?_getD, List.getElem?_eq_getElem (by rw [hn'.out]; exact hlt)]
        exact List.getElem_mem _
      obtain ⟨L', o', l', e1, e2, e3, hM2, hne, hst3, hmu2⟩ := hM'.out.shade (z := z) (o := o) hm.2 hqm (.src hPq)
      have e1' := Lib.hid e1
      have e2' := Lib.hid e2
      have e3' := Lib.hid e3
      have hq' := Lib.hid hq
      have hM2' := Lib.hid hM2
      have hne' := Lib.hid hne
      have hst3' := Lib.hid hst3
      have hmu2' := Lib.hid (Nat.le_trans hmu2 hmu'.out)
      have hkI : (k : Int) < (n : Int) := by omega
      clear e1 e2 e3 hq hM2 hne hst3 hmu2 hPq
      go_wp2_with (first | go_skip | (refine wpList_is (.alloc 24) rfl ?_; go_must (refine wpList_stp (by kernel_rfl) (stp_al _ rfl hS ?_)); clear hS; intro b16 w _ hS) | (go_at_call 11; (with_reducible refine sc_shade hS hT hU (q : Int) _ _ _ _ e1'.out e2'.out rfl e3'.out ?_); clear hS hT hU; intro E1 E2 w hT hU hS; unfold Ret) | go_skip | (refine wpList_is (.call { callee := .builtin .len, args := #[_], argTypes := #[_] }) rfl ?_; refine wpList_stp (by kernel_rfl) (stp_val (run_lenv _ _ rfl) ?_)) | (refine wpList_is (.slice _ _ none (some _) none) rfl ?_; refine wpList_stp (by kernel_rfl) (stp_val (run_prev _ _ _ rfl) ?_)) | (refine wpList_is (.indexAddr _ _ _) rfl ?_; refine wpList_stp (by kernel_rfl) (stp_val (run_idxv _ _ _ rfl) ?_)) | go_skip | (refine wpList_is (.build _ _) rfl ?_; go_must (refine wpList_stp (by kernel_rfl) (stp_val (run_bd _ _ rfl) ?_))) | (refine wpList_is (.call { callee := .builtin .clear, args := #[_], argTypes := #[_] }) rfl ?_; go_must (refine wpList_stp (by kernel_rfl) (stp_cl _ _ rfl hS (by decide) ?_)); clear hS; intro w hS) | (refine wpList_is (.load _ _) rfl ?_; go_must (first | refine wpList_stp (by kernel_rfl) (stp_val (run_ld _ _ rfl hS) ?_) | refine wpList_stp (by kernel_rfl) (stp_val (run_lda _ _ rfl hS) ?_) | refine wpList_stp (by kernel_rfl) (stp_val (run_ld0 _ _ rfl hS) ?_) | refine wpList_stp (by kernel_rfl) (stp_val (run_lda0 _ _ rfl hS) ?_))) | (refine wpList_is (.store _ _ _) rfl ?_; go_must (first | refine wpList_stp (by kernel_rfl) (stp_st _ _ _ rfl hS ?_) | refine wpList_stp (by kernel_rfl) (stp_sta _ _ _ rfl hS ?_)); clear hS; intro w hS) | (refine wpList_is (.alloc _) rfl ?_; go_must (refine wpList_stp (by kernel_rfl) (stp_al _ rfl hS ?_)); clear hS; intro bN w hbN hS) | (refine wpList_is (.box _ _) rfl ?_; go_must (refine wpList_stp (by kernel_rfl) (stp_bx _ _ rfl hS ?_)); clear hS; intro bN w hbN hS) | (refine wpList_is (.binOp .eql _ _ (.const (.slice none _ _)) _) rfl ?_; refine wpList_stp (by kernel_rfl) (stp_val (run_nse _ _ _ rfl) ?_)) | (refine wpList_is (.binOp .neq _ _ (.const (.slice none _ _)) _) rfl ?_; refine wpList_stp (by kernel_rfl) (stp_val (run_nsn _ _ _ rfl) ?_)))
      go_roundw
      case rel =>
        refine ⟨k + 1, L', l', o', E1, E2, by omega, by go_num, hT, hU, hM2'.out, hmu2'.out, fun j hj => ?_, hS.pick⟩
        by_cases e : j = k
        · subst e; rw [hq'.out]; simpa using hne'.out
        · have := hdn'.out j (by omega)
          rw [hst3'.out _ this]; exact this
      case measure => simp [intOf]; omega
    · have d1 : decide ((k : Int) < (n : Int)) = false := decide_eq_false (by omega)
      have d2 : decide (k < n) = false := decide_eq_false (by omega)
      have hsrc : ∀ i, P i → L.getD i 0 ≠ 0 := fun i hi => by
        obtain ⟨j, hj, hji⟩ := List.mem_iff_getElem.1 ((hPi'.out i).1 hi)
        have := hdn'.out j (by have := hn'.out; omega)
        have e : lf.getD j (0, 0) = ((i : Int), 1) := by rw [List.getD_eq_getElem?_getD, List.getElem?_eq_getElem hj, Option.getD_some, hji]
        rw [e] at this
        simpa using this
      have hsrc' := Lib.hid hsrc
      clear hsrc
      go_wp2_with (first | go_skip | go_skip | (refine wpList_is (.call { callee := .builtin .len, args := #[_], argTypes := #[_] }) rfl ?_; refine wpList_stp (by kernel_rfl) (stp_val (run_lenv _ _ rfl) ?_)) | (refine wpList_is (.slice _ _ none (some _) none) rfl ?_; refine wpList_stp (by kernel_rfl) (stp_val (run_prev _ _ _ rfl) ?_)) | (refine wpList_is (.indexAddr _ _ _) rfl ?_; refine wpList_stp (by kernel_rfl) (stp_val (run_idxv _ _ _ rfl) ?_)) | go_skip | (refine wpList_is (.build _ _) rfl ?_; go_must (refine wpList_stp (by kernel_rfl) (stp_val (run_bd _ _ rfl) ?_))) | (refine wpList_is (.call { callee := .builtin .clear, args := #[_], argTypes := #[_] }) rfl ?_; go_must (refine wpList_stp (by kernel_rfl) (stp_cl _ _ rfl hS (by decide) ?_)); clear hS; intro w hS) | (refine wpList_is (.load _ _) rfl ?_; go_must (first | refine wpList_stp (by kernel_rfl) (stp_val (run_ld _ _ rfl hS) ?_) | refine wpList_stp (by kernel_rfl) (stp_val (run_lda _ _ rfl hS) ?_) | refine wpList_stp (by kernel_rfl) (stp_val (run_ld0 _ _ rfl hS) ?_) | refine wpList_stp (by kernel_rfl) (stp_val (run_lda0 _ _ rfl hS) ?_))) | (refine wpList_is (.store _ _ _) rfl ?_; go_must (first | refine wpList_stp (by kernel_rfl) (stp_st _ _ _ rfl hS ?_) | refine wpList_stp (by kernel_rfl) (stp_sta _ _ _ rfl hS ?_)); clear hS; intro w hS) | (refine wpList_is (.alloc _) rfl ?_; go_must (refine wpList_stp (by kernel_rfl) (stp_al _ rfl hS ?_)); clear hS; intro bN w hbN hS) | (refine wpList_is (.box _ _) rfl ?_; go_must (refine wpList_stp (by kernel_rfl) (stp_bx _ _ rfl hS ?_)); clear hS; intro bN w hbN hS) | (refine wpList_is (.binOp .eql _ _ (.const (.slice none _ _)) _) rfl ?_; refine wpList_stp (by kernel_rfl) (stp_val (run_nse _ _ _ rfl) ?_)) | (refine wpList_is (.binOp .neq _ _ (.const (.slice none _ _)) _) rfl ?_; refine wpList_stp (by kernel_rfl) (stp_val (run_nsn _ _ _ rfl) ?_)))
      have hS0 : St w0 bs wr (E1 ++ (E2 ++ (E0 ++ (Ev ++ (Ef ++ H3))))) := hS.pick
      have hT0 := hT
      have hU0 := hU
      clear hS hT hU
      go_loopw [62] (fun u w => ∃ (k : Nat) (L l : List Int) (o : Bool) (E1 E2 : List Ent), k + mu L l ≤ 120 ∧ u = .int .i64 k ∧ KA (some ap) (cq L) E1 ∧ SA pr (sq z o l) E2 ∧ Mk m Hs P L l ∧ (∀ i, P i → L.getD i 0 ≠ 0) ∧ St w0 bs w (E1 ++ (E2 ++ (E0 ++ (Ev ++ (Ef ++ H3)))))) (fun u _ => 500 - (intOf u).toNat)
      case atStart => exact ⟨0, L, l, o, E1, E2, by have := hmu'.out; omega, rfl, hT0, hU0, hM'.out, hsrc'.out, hS0⟩
      case round =>
        clear hS0 hT0 hU0
        obtain ⟨c, L, l, o, E1, E2, hmu, rfl, hT, hU, hM, hsrc, hS⟩ := hrel
        have hmu' := Lib.hid hmu
        have hM' := Lib.hid hM
        have hsrc' := Lib.hid hsrc
        have hc500 : (c : Int) < 500 := by omega
        have hc5 : c < 500 := by omega
        have d3 : decide ((c : Int) < 500) = true := decide_eq_true (by omega)
        have hdE : dnE (cq L) (sq z o l) = 0 := rfl
        obtain ⟨gb, hgb⟩ : ∃ gb, gyB (cq L) 0 = gb := ⟨_, rfl⟩
        have hdB : dnB (cq L) (sq z o l) = !gb := by rw [dnB, hgb]; rfl
        have hdB' := Lib.hid hdB
        have hdE' := Lib.hid hdE
        have hgb' := Lib.hid hgb
        clear hmu hM hsrc hdB hdE hgb
        cases gb with
        | false =>
          go_wp2_with (first | go_skip | (go_at_call 14; (with_reducible refine sc_done hS hT hU _ _ hdB'.out hdE'.out ?_); clear hS; intro w hS; unfold Ret) | go_skip | (refine wpList_is (.call { callee := .builtin .len, args := #[_], argTypes := #[_] }) rfl ?_; refine wpList_stp (by kernel_rfl) (stp_val (run_lenv _ _ rfl) ?_)) | (refine wpList_is (.slice _ _ none (some _) none) rfl ?_; refine wpList_stp (by kernel_rfl) (stp_val (run_prev _ _ _ rfl) ?_)) | (refine wpList_is (.indexAddr _ _ _) rfl ?_; refine wpList_stp (by kernel_rfl) (stp_val (run_idxv _ _ _ rfl) ?_)) | go_skip | (refine wpList_is (.build _ _) rfl ?_; go_must (refine wpList_stp (by kernel_rfl) (stp_val (run_bd _ _ rfl) ?_))) | (refine wpList_is (.call { callee := .builtin .clear, args := #[_], argTypes := #[_] }) rfl ?_; go_must (refine wpList_stp (by kernel_rfl) (stp_cl _ _ rfl hS (by decide) ?_)); clear hS; intro w hS) | (refine wpList_is (.load _ _) rfl ?_; go_must (first | refine wpList_stp (by kernel_rfl) (stp_val (run_ld _ _ rfl hS) ?_) | refine wpList_stp (by kernel_rfl) (stp_val (run_lda _ _ rfl hS) ?_) | refine wpList_stp (by kernel_rfl) (stp_val (run_ld0 _ _ rfl hS) ?_) | refine wpList_stp (by kernel_rfl) (stp_val (run_lda0 _ _ rfl hS) ?_))) | (refine wpList_is (.store _ _ _) rfl ?_; go_must (first | refine wpList_stp (by kernel_rfl) (stp_st _ _ _ rfl hS ?_) | refine wpList_stp (by kernel_rfl) (stp_sta _ _ _ rfl hS ?_)); clear hS; intro w hS) | (refine wpList_is (.alloc _) rfl ?_; go_must (refine wpList_stp (by kernel_rfl) (stp_al _ rfl hS ?_)); clear hS; intro bN w hbN hS) | (refine wpList_is (.box _ _) rfl ?_; go_must (refine wpList_stp (by kernel_rfl) (stp_bx _ _ rfl hS ?_)); clear hS; intro bN w hbN hS) | (refine wpList_is (.binOp .eql _ _ (.const (.slice none _ _)) _) rfl ?_; refine wpList_stp (by kernel_rfl) (stp_val (run_nse _ _ _ rfl) ?_)) | (refine wpList_is (.binOp .neq _ _ (.const (.slice none _ _)) _) rfl ?_; refine wpList_stp (by kernel_rfl) (stp_val (run_nsn _ _ _ rfl) ?_)))
          exact hR2.out ap L l E1 _ hT hM'.out hsrc'.out hgb'.out hS.pick
        | true =>
          rcases List.eq_nil_or_concat l with rfl | ⟨l', x, rfl⟩
          · obtain ⟨i, hi1, hi2, hi3⟩ := grey_yes hgb'.out
            obtain ⟨r1, r2, r3, r4⟩ := rs_nil (o := o) hz.1 hi2 hgb'.out hi1
            obtain ⟨p1, p2, p3⟩ : ppT (sq z o [(i : Int)]) = sq z o [] ∧ ppR (sq z o [(i : Int)]) = i ∧ ppB (sq z o [(i : Int)]) = true := pp_last (z := z) (o := o) (l := []) (x := (i : Int))
            obtain ⟨p4, p5, p6⟩ := pp_nil (z := z) (o := o)
            obtain ⟨L2, o2, l2, n2, s1, s2, s3, s4, hM2, hup, hlt2⟩ := mk_scan (z := z) (o := o) hG'.out hM'.out hm.2 hi3
            have him : i < m := (hM'.out.rch i (by rw [hi3]; decide)).1
            obtain ⟨f1, f2⟩ := of_at (L := L) (i := i) (by omega)
            rw [hi3] at f2
            obtain ⟨gx, sx, ix, hh, hcx⟩ := hA.at (i := i) (by rw [nmS_len]; exact him) (nmS_get him)
            have ix := ix i rfl
            simp only at hcx
            have hiI : ¬ ((i : Int) < 0) := by omega
            have dI : decide ((i : Int) < 0) = false := decide_eq_false hiI
            have r1' := Lib.hid r1
            have r2' := Lib.hid r2
            have r3' := Lib.hid r3
            have r4' := Lib.hid r4
            have p1' := Lib.hid p1
            have p2' := Lib.hid p2
            have p3' := Lib.hid p3
            have p4' := Lib.hid p4
            have p5' := Lib.hid p5
            have p6' := Lib.hid p6
            have s1' := Lib.hid s1
            have s2' := Lib.hid s2
            have s3' := Lib.hid s3
            have s4' := Lib.hid s4
            have hM2' := Lib.hid hM2
            have hup' := Lib.hid hup
            have hlt2' := Lib.hid hlt2
            have f1' := Lib.hid f1
            have f2' := Lib.hid f2
            clear r1 r2 r3 r4 p1 p2 p3 p4 p5 p6 s1 s2 s3 s4 hM2 hup hlt2 f1 f2 hi1 hi3
            go_wp2_with (first | go_skip | (go_at_call 14; (with_reducible refine sc_done hS hT hU _ _ hdB'.out hdE'.out ?_); clear hS; intro w hS; unfold Ret) | (refine wpList_is (o := ⟨some 21, _, _, _, _, _⟩) (.alloc _) rfl ?_; go_must (refine wpList_stp (by kernel_rfl) (stp_al _ rfl hS ?_)); clear hS; intro b21 w _ hS) | (go_at_call 29; (with_reducible refine sq_pop hS hU _ _ _ p4'.out p5'.out p6'.out ?_); clear hS hU; intro E2 w hU hS; unfold Ret) | (go_at_call 29; (with_reducible refine sq_pop hS hU _ _ _ p1'.out p2'.out p3'.out ?_); clear hS hU; intro E2 w hU hS; unfold Ret) | (go_at_call 13; (with_reducible refine sc_rescan hS hT hU 0 _ _ _ _ r1'.out r2'.out r3'.out r4'.out ?_); clear hS hU; intro E2 w hU hS; unfold Ret) | (go_at_call 23; (with_reducible refine pn_of hS hT (i : Int) _ _ f2'.out f1'.out ?_); clear hS; intro w hS; unfold Ret) | (go_at_call 51; go_must (refine idx_slot (j := i) (Ev := Ev) (H1 := E1 ++ (E2 ++ (E0 ++ (Ef ++ H3)))) hS.pick hA him hm.2 ?_); clear hS; intro w hS; unfold Ret) | (go_at_call 12; (with_reducible refine sc_scan hS hH hT hU (i : Int) 1 _ _ _ _ s1'.out s2'.out s3'.out s4'.out ?_); clear hS hT hU; intro E1 E2 w hT hU hS; unfold Ret) | (go_at_call 19; refine yes_ok hS _ ?_; clear hS; intro w hS; unfold Ret) | go_skip | (refine wpList_is (.call { callee := .builtin .len, args := #[_], argTypes := #[_] }) rfl ?_; refine wpList_stp (by kernel_rfl) (stp_val (run_lenv _ _ rfl) ?_)) | (refine wpList_is (.slice _ _ none (some _) none) rfl ?_; refine wpList_stp (by kernel_rfl) (stp_val (run_prev _ _ _ rfl) ?_)) | (refine wpList_is (.indexAddr _ _ _) rfl ?_; refine wpList_stp (by kernel_rfl) (stp_val (run_idxv _ _ _ rfl) ?_)) | go_skip | (refine wpList_is (.build _ _) rfl ?_; go_must (refine wpList_stp (by kernel_rfl) (stp_val (run_bd _ _ rfl) ?_))) | (refine wpList_is (.call { callee := .builtin .clear, args := #[_], argTypes := #[_] }) rfl ?_; go_must (refine wpList_stp (by kernel_rfl) (stp_cl _ _ rfl hS (by decide) ?_)); clear hS; intro w hS) | (refine wpList_is (.load _ _) rfl ?_; go_must (first | refine wpList_stp (by kernel_rfl) (stp_val (run_ld _ _ rfl hS) ?_) | refine wpList_stp (by kernel_rfl) (stp_val (run_lda _ _ rfl hS) ?_) | refine wpList_stp (by kernel_rfl) (stp_val (run_ld0 _ _ rfl hS) ?_) | refine wpList_stp (by kernel_rfl) (stp_val (run_lda0 _ _ rfl hS) ?_))) | (refine wpList_is (.store _ _ _) rfl ?_; go_must (first | refine wpList_stp (by kernel_rfl) (stp_st _ _ _ rfl hS ?_) | refine wpList_stp (by kernel_rfl) (stp_sta _ _ _ rfl hS ?_)); clear hS; intro w hS) | (refine wpList_is (.alloc _) rfl ?_; go_must (refine wpList_stp (by kernel_rfl) (stp_al _ rfl hS ?_)); clear hS; intro bN w hbN hS) | (refine wpList_is (.box _ _) rfl ?_; go_must (refine wpList_stp (by kernel_rfl) (stp_bx _ _ rfl hS ?_)); clear hS; intro bN w hbN hS) | (refine wpList_is (.binOp .eql _ _ (.const (.slice none _ _)) _) rfl ?_; refine wpList_stp (by kernel_rfl) (stp_val (run_nse _ _ _ rfl) ?_)) | (refine wpList_is (.binOp .neq _ _ (.const (.slice none _ _)) _) rfl ?_; refine wpList_stp (by kernel_rfl) (stp_val (run_nsn _ _ _ rfl) ?_)))
            go_roundw
            case rel => exact ⟨c + 1, L2, l2, o2, E1, E2, by have := hmu'.out; have := hlt2'.out; omega, by go_num, hT, hU, hM2'.out, fun j hj => hup'.out j (hsrc'.out j hj), hS.pick⟩
            case measure => simp [intOf]; omega
          · rw [List.concat_eq_append] at hU hM' hmu' hdB' hdE'
            obtain ⟨hM1, ⟨i, rfl, hi0⟩, hmu1⟩ := hM'.out.pop
            obtain ⟨p1, p2, p3⟩ := pp_last (z := z) (o := o) (l := l') (x := (i : Int))
            have hi2 : i < 40 := by have := (hM1.rch i hi0).1; omega
            rcases hM1.c i with e | hi3 | hi3
            · exact absurd e hi0
            · obtain ⟨L2, o2, l2, n2, s1, s2, s3, s4, hM2, hup, hlt2⟩ := mk_scan (z := z) (o := o) hG'.out hM1 hm.2 hi3
              have hmu1' := Lib.hid hmu1
              clear hmu1 hi0
              have him : i < m := (hM1.rch i (by rw [hi3]; decide)).1
              obtain ⟨f1, f2⟩ := of_at (L := L) (i := i) (by omega)
              rw [hi3] at f2
              obtain ⟨gx, sx, ix, hh, hcx⟩ := hA.at (i := i) (by rw [nmS_len]; exact him) (nmS_get him)
              have ix := ix i rfl
              simp only at hcx
              have hiI : ¬ ((i : Int) < 0) := by omega
              have dI : decide ((i : Int) < 0) = false := decide_eq_false hiI
              have p1' := Lib.hid p1
              have p2' := Lib.hid p2
              have p3' := Lib.hid p3
              have s1' := Lib.hid s1
              have s2' := Lib.hid s2
              have s3' := Lib.hid s3
              have s4' := Lib.hid s4
              have hM2' := Lib.hid hM2
              have hup' := Lib.hid hup
              have hlt2' := Lib.hid hlt2
              have f1' := Lib.hid f1
              have f2' := Lib.hid f2
              clear p1 p2 p3 s1 s2 s3 s4 hM2 hup hlt2 f1 f2 hi3
              go_wp2_with (first | go_skip | (go_at_call 14; (with_reducible refine sc_done hS hT hU _ _ hdB'.out hdE'.out ?_); clear hS; intro w hS; unfold Ret) | (refine wpList_is (o := ⟨some 21, _, _, _, _, _⟩) (.alloc _) rfl ?_; go_must (refine wpList_stp (by kernel_rfl) (stp_al _ rfl hS ?_)); clear hS; intro b21 w _ hS) | (go_at_call 29; (with_reducible refine sq_pop hS hU _ _ _ p1'.out p2'.out p3'.out ?_); clear hS hU; intro E2 w hU hS; unfold Ret) | (go_at_call 23; (with_reducible refine pn_of hS hT (i : Int) _ _ f2'.out f1'.out ?_); clear hS; intro w hS; unfold Ret) | (go_at_call 51; go_must (refine idx_slot (j := i) (Ev := Ev) (H1 := E1 ++ (E2 ++ (E0 ++ (Ef ++ H3)))) hS.pick hA him hm.2 ?_); clear hS; intro w hS; unfold Ret) | (go_at_call 12; (with_reducible refine sc_scan hS hH hT hU (i : Int) 1 _ _ _ _ s1'.out s2'.out s3'.out s4'.out ?_); clear hS hT hU; intro E1 E2 w hT hU hS; unfold Ret) | (go_at_call 19; refine yes_ok hS _ ?_; clear hS; intro w hS; unfold Ret) | go_skip | (refine wpList_is (.call { callee := .builtin .len, args := #[_], argTypes := #[_] }) rfl ?_; refine wpList_stp (by kernel_rfl) (stp_val (run_lenv _ _ rfl) ?_)) | (refine wpList_is (.slice _ _ none (some _) none) rfl ?_; refine wpList_stp (by kernel_rfl) (stp_val (run_prev _ _ _ rfl) ?_)) | (refine wpList_is (.indexAddr _ _ _) rfl ?_; refine wpList_stp (by kernel_rfl) (stp_val (run_idxv _ _ _ rfl) ?_)) | go_skip | (refine wpList_is (.build _ _) rfl ?_; go_must (refine wpList_stp (by kernel_rfl) (stp_val (run_bd _ _ rfl) ?_))) | (refine wpList_is (.call { callee := .builtin .clear, args := #[_], argTypes := #[_] }) rfl ?_; go_must (refine wpList_stp (by kernel_rfl) (stp_cl _ _ rfl hS (by decide) ?_)); clear hS; intro w hS) | (refine wpList_is (.load _ _) rfl ?_; go_must (first | refine wpList_stp (by kernel_rfl) (stp_val (run_ld _ _ rfl hS) ?_) | refine wpList_stp (by kernel_rfl) (stp_val (run_lda _ _ rfl hS) ?_) | refine wpList_stp (by kernel_rfl) (stp_val (run_ld0 _ _ rfl hS) ?_) | refine wpList_stp (by kernel_rfl) (stp_val (run_lda0 _ _ rfl hS) ?_))) | (refine wpList_is (.store _ _ _) rfl ?_; go_must (first | refine wpList_stp (by kernel_rfl) (stp_st _ _ _ rfl hS ?_) | refine wpList_stp (by kernel_rfl) (stp_sta _ _ _ rfl hS ?_)); clear hS; intro w hS) | (refine wpList_is (.alloc _) rfl ?_; go_must (refine wpList_stp (by kernel_rfl) (stp_al _ rfl hS ?_)); clear hS; intro bN w hbN hS) | (refine wpList_is (.box _ _) rfl ?_; go_must (refine wpList_stp (by kernel_rfl) (stp_bx _ _ rfl hS ?_)); clear hS; intro bN w hbN hS) | (refine wpList_is (.binOp .eql _ _ (.const (.slice none _ _)) _) rfl ?_; refine wpList_stp (by kernel_rfl) (stp_val (run_nse _ _ _ rfl) ?_)) | (refine wpList_is (.binOp .neq _ _ (.const (.slice none _ _)) _) rfl ?_; refine wpList_stp (by kernel_rfl) (stp_val (run_nsn _ _ _ rfl) ?_)))
              go_roundw
              case rel => exact ⟨c + 1, L2, l2, o2, E1, E2, by have := hmu'.out; have := hlt2'.out; have := hmu1'.out; omega, by go_num, hT, hU, hM2'.out, fun j hj => hup'.out j (hsrc'.out j hj), hS.pick⟩
              case measure => simp [intOf]; omega
            · obtain ⟨f1, f2⟩ := of_at (L := L) (i := i) hi2
              rw [hi3] at f2
              have p1' := Lib.hid p1
              have p2' := Lib.hid p2
              have p3' := Lib.hid p3
              have f1' := Lib.hid f1
              have f2' := Lib.hid f2
              have hmu1' := Lib.hid hmu1
              have hM1' := Lib.hid hM1
              clear p1 p2 p3 f1 f2 hi3 hi0 hmu1 hM1
              go_wp2_with (first | go_skip | (go_at_call 14; (with_reducible refine sc_done hS hT hU _ _ hdB'.out hdE'.out ?_); clear hS; intro w hS; unfold Ret) | (refine wpList_is (o := ⟨some 21, _, _, _, _, _⟩) (.alloc _) rfl ?_; go_must (refine wpList_stp (by kernel_rfl) (stp_al _ rfl hS ?_)); clear hS; intro b21 w _ hS) | (go_at_call 29; (with_reducible refine sq_pop hS hU _ _ _ p1'.out p2'.out p3'.out ?_); clear hS hU; intro E2 w hU hS; unfold Ret) | (go_at_call 23; (with_reducible refine pn_of hS hT (i : Int) _ _ f2'.out f1'.out ?_); clear hS; intro w hS; unfold Ret) | go_skip | (refine wpList_is (.call { callee := .builtin .len, args := #[_], argTypes := #[_] }) rfl ?_; refine wpList_stp (by kernel_rfl) (stp_val (run_lenv _ _ rfl) ?_)) | (refine wpList_is (.slice _ _ none (some _) none) rfl ?_; refine wpList_stp (by kernel_rfl) (stp_val (run_prev _ _ _ rfl) ?_)) | (refine wpList_is (.indexAddr _ _ _) rfl ?_; refine wpList_stp (by kernel_rfl) (stp_val (run_idxv _ _ _ rfl) ?_)) | go_skip | (refine wpList_is (.build _ _) rfl ?_; go_must (refine wpList_stp (by kernel_rfl) (stp_val (run_bd _ _ rfl) ?_))) | (refine wpList_is (.call { callee := .builtin .clear, args := #[_], argTypes := #[_] }) rfl ?_; go_must (refine wpList_stp (by kernel_rfl) (stp_cl _ _ rfl hS (by decide) ?_)); clear hS; intro w hS) | (refine wpList_is (.load _ _) rfl ?_; go_must (first | refine wpList_stp (by kernel_rfl) (stp_val (run_ld _ _ rfl hS) ?_) | refine wpList_stp (by kernel_rfl) (stp_val (run_lda _ _ rfl hS) ?_) | refine wpList_stp (by kernel_rfl) (stp_val (run_ld0 _ _ rfl hS) ?_) | refine wpList_stp (by kernel_rfl) (stp_val (run_lda0 _ _ rfl hS) ?_))) | (refine wpList_is (.store _ _ _) rfl ?_; go_must (first | refine wpList_stp (by kernel_rfl) (stp_st _ _ _ rfl hS ?_) | refine wpList_stp (by kernel_rfl) (stp_sta _ _ _ rfl hS ?_)); clear hS; intro w hS) | (refine wpList_is (.alloc _) rfl ?_; go_must (refine wpList_stp (by kernel_rfl) (stp_al _ rfl hS ?_)); clear hS; intro bN w hbN hS) | (refine wpList_is (.box _ _) rfl ?_; go_must (refine wpList_stp (by kernel_rfl) (stp_bx _ _ rfl hS ?_)); clear hS; intro bN w hbN hS) | (refine wpList_is (.binOp .eql _ _ (.const (.slice none _ _)) _) rfl ?_; refine wpList_stp (by kernel_rfl) (stp_val (run_nse _ _ _ rfl) ?_)) | (refine wpList_is (.binOp .neq _ _ (.const (.slice none _ _)) _) rfl ?_; refine wpList_stp (by kernel_rfl) (stp_val (run_nsn _ _ _ rfl) ?_)))
              go_roundw
              case rel => exact ⟨c + 1, L, l', o, E1, E2, by have := hmu'.out; have := hmu1'.out; omega, by go_num, hT, hU, hM1'.out, hsrc'.out, hS.pick⟩
              case measure => simp [intOf]; omega
end Go.Proofs.Ytgpjanfphgjbbaa
