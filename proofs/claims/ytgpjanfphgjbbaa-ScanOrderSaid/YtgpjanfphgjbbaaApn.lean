/-
  Append of a slice of the first world; slices of bytes; slices.Clone of bytes.
-/
import Derived.Test.YtgpjanfphgjbbaaBas
import Derived.Test.YtgpjanfphgjbbaaRgn
import Derived.Test.YtgpjanfphgjbbaaRfs
set_option linter.unusedSimpArgs false
set_option linter.unusedVariables false
namespace Go.Mm
open Go Go.RowKit
section
variable {P : Program} {o : Oper} {a : Act} {w w0 : World} {bs : List Nat} {H : List Ent} {v : Value} {post : Act → World → Prop}
theorem stp_apn (s x : Operand) (t t' : TypeId) (ho : o.op = .call { callee := .builtin .append, args := #[s, x], argTypes := #[t, t'] }) (htt : t' = t)
    (hS : St w0 bs w H) {e : TypeId} [ht : SliceT P t e] {size bytes : Nat} {zs : Array Value} [he : ElemT P e size bytes zs] (hzs : zs.size = size)
    {n : Nat} {xs : List Value} {E H1 : List Ent} (hsl : Sl e size v n xs E) [hs : Ev a s v] [hcut : Cut H E H1]
    {ad : Addr} {m c : Nat} [hx : Ev a x (.slice (some ad) m c)] {news : Array Value} (hns : news.size = m * size) (hnews : ∀ j u, news.toList[j]? = some u → w.cell? (ad.add j) = some u) [h1 : OneCells news]
    {a' : Value → Act} [hp : ∀ v, Put a o.dst v (a' v)] (h63 : n + m ≤ maxLen) (hb : (n + m) * bytes ≤ 140737488355328)
    (h : ∀ v' E' w', Sl e size v' (n + m) (xs ++ news.toList) E' → (0 < n + m → v' ≠ .slice none 0 0) → St w0 bs w' (E' ++ H1) → post (a' v') w') : Stp P o a w post := by
  subst htt
  obtain ⟨i, z, hi, hz, rfl, rfl, rfl⟩ := he.parts
  have hl : news.toList.length = m * i.size := by simpa using hns
  have hlen : (xs ++ news.toList).length = (n + m) * i.size := by rw [List.length_append, hsl.len, hl, Nat.add_mul]
  have hsmall : n + m ≤ 9223372036854775807 := by simp only [maxLen] at h63; omega
  have fin : ∀ v' E' w', (Builtin.append_ #[t', t'] o.type #[v, .slice (some ad) m c]).run P w = .ok v' w' → Sl e i.size v' (n + m) (xs ++ news.toList) E' → (0 < n + m → v' ≠ .slice none 0 0) → St w0 bs w' (E' ++ H1) → Stp P o a w post := by
    intro v' E' w' hr h2 h3 h4
    refine ⟨.value v', w', ?_, .inl ⟨_, rfl, by rw [(hp _).h]; exact h _ _ _ h2 h3 h4⟩⟩
    simp only [execOp, ho, resolve, invoke, builtin, Sem.run_bind, Sem.run_pure, Result.andThen_ok, List.map_toArray, List.map_cons, List.map_nil, hs.h, hx.h, hr]
  have grown : ∀ (old : Nat), (Builtin.append_ #[t', t'] o.type #[v, .slice (some ad) m c]).run P w =
      .ok (.slice (some ⟨w.heap.size, 0, none⟩) (n + m) (grownCap w (n + m) old e)) (w.drew.alloc (.cells (xs.toArray ++ news.toList.toArray ++ Builtin.zeroCells z.cells (grownCap w (n + m) old e - (n + m))) e)) → Stp P o a w post := by
    intro old hr
    have hge := grownCap_ge w (n + m) old e
    have hcm : grownCap w (n + m) old e ≤ maxLen := grownCap_le_maxLen w (n + m) old e h63
    refine fin _ [⟨w.heap.size, ((xs ++ news.toList) ++ (Builtin.zeroCells z.cells (grownCap w (n + m) old e - (n + m))).toList).toArray, e, true⟩] _ hr ⟨hlen, .inr ⟨_, _, _, rfl, rfl, hge, hcm, ?_⟩⟩ (fun _ => by simp) ?_
    · rw [hlen]
      simp only [Array.length_toList, size_zeroCells, hzs, ← Nat.add_mul]
      congr 1
      omega
    · have hS1 := hS.drawn (w.drawn + 1)
      refine St.swap (E := E) (hc := hcut) hS ⟨rfl, rfl, rfl, by simp, fun k hk _ => Below.heap_alloc w.drew _ k hk⟩ ?_ ?_ (by simp) ?_
      · intro x hx
        rcases hsl.or with ⟨_, _, rfl⟩ | ⟨g, cap, sp, _, rfl, _⟩
        · cases hx
        · simp at hx; rw [hx]
      · intro x hx
        obtain rfl := List.mem_singleton.1 hx
        simp only
        rw [show (((xs ++ news.toList) ++ (Builtin.zeroCells z.cells (grownCap w (n + m) old e - (n + m))).toList).toArray) = xs.toArray ++ news.toList.toArray ++ Builtin.zeroCells z.cells (grownCap w (n + m) old e - (n + m)) by simp]
        exact alloc_new w.drew _
      · intro x hx
        obtain rfl := List.mem_singleton.1 hx
        exact .inr (Nat.le_refl _)
  rcases hsl.or with ⟨rfl, rfl, rfl⟩ | ⟨g, cap, sp, rfl, rfl, hnc, hcm, hcs⟩
  · have hx0 : xs = [] := List.eq_nil_of_length_eq_zero (by simpa using hsl.len)
    subst hx0
    by_cases hm : m = 0
    · subst hm
      have hn0 : news.toList = [] := List.eq_nil_of_length_eq_zero (by simpa using hl)
      refine fin (.slice none 0 0) [] w ?_ (by simpa [hn0] using sl_nil) (by simp) ?_
      · simp [Builtin.append_, run_underlying ht.h, sizeOf, typeInfo, hi, Builtin.lenOf, Builtin.firstCells, loadCells, loadCellsFrom]
      · obtain ⟨A, B, rfl, rfl⟩ := hcut.h
        simpa using hS
    · have hr := run_append_nil (P := P) w t' o.type e i z ht.h hi hz ad m c news.toList hl hnews (by omega) (by omega) (by have := hb; simp only [Nat.zero_add] at this; omega)
      refine grown 0 ?_
      simpa using hr
  · have hg := cut_has hS (E := [⟨g, (xs ++ sp).toArray, e, true⟩]) (hc := hcut) _ (List.mem_singleton.2 rfl)
    simp only at hg
    by_cases hroom : n + m ≤ cap
    · have hfit : n * i.size + news.toList.length ≤ ((xs ++ sp).toArray).size := by
        simp only [List.size_toArray, List.length_append, hcs, hl]
        rw [← Nat.add_mul]; exact Nat.mul_le_mul_right _ hroom
      have hr := run_append_room (P := P) w t' o.type e i ht.h hi g n cap (xs ++ sp).toArray hg ad m c news.toList hl hnews h1.h hroom hfit
      have htake : (xs ++ sp).take (n * i.size) = xs := by rw [← hsl.len]; exact List.take_left
      simp only [htake] at hr hfit
      refine fin _ [⟨g, ((xs ++ news.toList) ++ (xs ++ sp).drop (n * i.size + news.toList.length)).toArray, e, true⟩] _ hr ⟨hlen, .inr ⟨_, _, _, rfl, rfl, hroom, hcm, ?_⟩⟩ (fun _ => by simp) ?_
      · have h3 := hsl.len
        simp only [List.length_append, List.length_drop, List.size_toArray] at hfit ⊢
        omega
      · refine St.swap (E := [⟨g, (xs ++ sp).toArray, e, true⟩]) (hc := hcut) hS ⟨rfl, rfl, rfl, by simp, fun k _ hk => setRow_other w g k _ (by simpa [eq_comm] using hk)⟩ (by simp) ?_ (by simp) (by simp)
        intro x hx
        obtain rfl := List.mem_singleton.1 hx
        exact setRow_heap w g (xs ++ sp).toArray _ e _ hg
    · have holds : ∀ j u, xs[j]? = some u → w.cell? ((⟨g, 0, none⟩ : Addr).add j) = some u := by
        intro j u hu
        rw [Addr.add_lit, Nat.zero_add, cell_of_has hg]
        have hj := (List.getElem?_eq_some_iff.1 hu).1
        simp [List.getElem?_append_left hj, hu]
      have hr := run_append_grow (P := P) w t' o.type e i z ht.h hi hz ⟨g, 0, none⟩ n cap xs hsl.len holds ad m c news.toList hl hnews (by omega) (by omega) (growslice_fits (by omega) hb)
      exact grown cap hr

theorem run_nseN (t t' : TypeId) (x : Operand) (ho : o.op = .binOp .eql t x (.const (.slice none 0 0)) t') {e : TypeId} [ht : SliceT P t e] {n m : Nat} [hx : Ev a x (.slice none n m)] : OpVal P o a w (.bool true) := by
  have hg : ∀ y, (eqGuard .eql t x y (.slice none n m) (.slice none 0 0)).run P w = .ok () w := fun y => by simp [eqGuard]
  have hc : a.eval (.const (.slice none 0 0)) = .slice none 0 0 := rfl
  have hb := Lib.run_eql_slice_nil (P := P) w t e none n m 0 0 ht.h
  unfold OpVal
  simp only [execOp, ho, hx.h, hc, Sem.run_bind, hg, hb, Result.andThen_ok, Sem.run_pure]
  rfl

end
end Go.Mm
namespace Go.Proofs.Ytgpjanfphgjbbaa
open Go Go.RowKit Go.Mm
variable {R : Ending → World → Prop} {w : World} {w0 : World} {bs : List Nat} {H H' H1 E : List Ent}
def b1f (x : Nat) : List Value := [.int .u8 x]
theorem b1f_len (x : Nat) : (b1f x).length = 1 := rfl
theorem b1f_one (x : Nat) : ∀ v ∈ b1f x, v.oneCell' = true := by
  intro v hv
  simp only [b1f, List.mem_cons, List.not_mem_nil, or_false] at hv
  rw [hv]; rfl
instance s_sbyte : ScalarT Try.prog 64 := ⟨by kernel_rfl, by kernel_rfl⟩
instance z_sbyte : ZeroT Try.prog 64 #[.slice none 0 0] := ⟨by kernel_rfl⟩
instance sli_byte : SliceT Try.prog 64 5 := ⟨by kernel_rfl⟩
instance eli_byte : ElemT Try.prog 5 1 1 #[.int .u8 0] := ⟨by kernel_rfl⟩
instance s_byte : ScalarT Try.prog 5 := ⟨by kernel_rfl, by kernel_rfl⟩
/-- A slice of bytes, of the call's own. -/
def BY (v : Value) (l : List Nat) (E : List Ent) : Prop := Sl 5 1 v l.length (l.flatMap b1f) E
theorem BY.nil : BY (.slice none 0 0) [] [] := sl_nil
theorem BY.one {v : Value} {l : List Nat} (h : BY v l E) : OneCell v := Sl.one h
theorem BY.snoc {v : Value} {l : List Nat} {x : Nat} (h : Sl 5 1 v (l.length + 1) (l.flatMap b1f ++ #[.int .u8 (x : Int)].toList) E) : BY v (l ++ [x]) E := by
  unfold BY
  rw [List.length_append, List.flatMap_append]
  simpa [b1f] using h
theorem BY.len {v : Value} {l : List Nat} (h : BY v l E) {n : Nat} (hn : l.length = n) : LenV Try.prog 64 v n := by
  subst hn
  refine ⟨?_, 5, Try.underlying64⟩
  rcases h.or with ⟨rfl, h0, _⟩ | ⟨g, cap, sp, rfl, _⟩
  · exact ⟨none, 0, by rw [h0]⟩
  · exact ⟨_, cap, rfl⟩
theorem BY.at {v : Value} {l : List Nat} (h : BY v l E) {i : Nat} (hi : i < l.length) {x : Nat} (hx : l.getD i 0 = x) :
    ∃ g sp, (∀ j : Int, j = i → IdxV Try.prog 64 v j ⟨g, i, none⟩) ∧ Has E g (blk [] b1f l sp) 5 ∧ CellAt (blk [] b1f l sp) i (.int .u8 x) := by
  subst hx
  obtain ⟨g, cap, sp, rfl, rfl, h1, h2, h3⟩ := Sl.some h (by omega)
  refine ⟨g, sp, fun j hj => ⟨fun w => ?_⟩, hasHead, ?_⟩
  · subst hj
    have h2 : 0 ≤ (i : Int) := by omega
    simp [Instr.indexAt, asIntOf, run_underlying Try.underlying64, hi, run_sizeOf' (P := Try.prog) (t := 5) (n := 1) (by kernel_rfl), Addr.add_lit]
  · refine blkCell (pre := []) b1f_len (i := i) (j := 0) (a := l.getD i 0) ?_ (by decide) rfl (by simp)
    rw [List.getD_eq_getElem?_getD, List.getElem?_eq_getElem hi]; rfl
/-- A prefix of a slice, a slice. -/
theorem BY.pre {v : Value} {l : List Nat} (h : BY v l E) {m : Nat} (hm : m ≤ l.length) (h1000 : l.length ≤ 1000) : ∃ v', PreV Try.prog 64 v m v' ∧ BY v' (l.take m) E := by
  have hl : (l.take m).length = m := by rw [List.length_take]; omega
  rcases h.or with ⟨rfl, h0, rfl⟩ | ⟨g, cap, sp, rfl, rfl, h1, h2, h3⟩
  · obtain rfl : l = [] := List.eq_nil_of_length_eq_zero h0
    obtain rfl : m = 0 := by simpa using hm
    refine ⟨.slice none 0 0, ⟨fun w => ?_⟩, BY.nil⟩
    simp [Instr.sliceAt, run_underlying Try.underlying64, Instr.slice, Instr.sliceBounds, Instr.sliceBound, asIntOf, run_sizeOf' (P := Try.prog) (t := 5) (n := 1) (by kernel_rfl)]
  · refine ⟨.slice (some ⟨g, 0, none⟩) m cap, ⟨fun w => ?_⟩, ?_⟩
    · have h4 : m ≤ cap := by omega
      have h5 : 0 ≤ (m : Int) := by omega
      simp [Instr.sliceAt, run_underlying Try.underlying64, Instr.slice, Instr.sliceBounds, Instr.sliceBound, asIntOf, h4, run_sizeOf' (P := Try.prog) (t := 5) (n := 1) (by kernel_rfl), Addr.add]
    · unfold BY
      rw [hl]
      have e : l.flatMap b1f = (l.take m).flatMap b1f ++ (l.drop m).flatMap b1f := by rw [← List.flatMap_append, List.take_append_drop]
      refine ⟨by rw [flat_len b1f_len, hl], .inr ⟨g, cap, (l.drop m).flatMap b1f ++ sp, rfl, by rw [e, List.append_assoc], by omega, h2, ?_⟩⟩
      rw [e] at h3
      simp only [List.length_append] at h3 ⊢
      omega
/-- The bytes of an argument. -/
def FB (n : Nat) (F : Nat → Nat → Value) (l : List Nat) : Prop := l.length = n ∧ ∀ i, i < n → F i 0 = .int .u8 ((l.getD i 0 : Nat) : Int)
theorem fb_of {W : World} {v : Value} {n b off : Nat} {F : Nat → Nat → Value} (h : Flat W [.i .u8] v n b off F) : ∃ l, FB n F l := by
  refine ⟨(List.range n).map (fun i => match F i 0 with | .int _ x => x.toNat | _ => 0), by simp, fun i hi => ?_⟩
  obtain ⟨x, hx, wx⟩ := h.int (i := i) (j := 0) hi rfl
  have h0 : 0 ≤ x := by simp [Lit.wf, IntKind.min, IntKind.max, IntKind.signed, IntKind.bits] at wx; omega
  rw [hx]
  simp [hi, hx, Int.toNat_of_nonneg h0]
theorem FB.take {n : Nat} {F : Nat → Nat → Value} {l : List Nat} (h : FB n F l) {m : Nat} (hm : m ≤ n) : FB m F (l.take m) := by
  refine ⟨by rw [List.length_take, h.1]; omega, fun i hi => ?_⟩
  rw [h.2 i (by omega)]
  congr 2
  rw [List.getD_eq_getElem?_getD, List.getD_eq_getElem?_getD, List.getElem?_take, if_pos hi]
set_option maxHeartbeats 1000000 in
set_option maxRecDepth 100000 in
/-- slices.Clone of bytes of the first world. -/
theorem clone_fb {v : Value} {n b off : Nat} {F : Nat → Nat → Value} {l : List Nat} (hO : St w0 [] w H) (hv : Flat w0 [.i .u8] v n b off F) (hl : FB n F l) (hn : n ≤ 1000) (hR : ∀ v' E' w', BY v' l E' → St w0 [] w' (E' ++ H) → Ret R v' w') :
    Calls Try.prog 24 #[v] w R := by
  have hS := hO
  clear hO
  obtain ⟨a, c, rfl, hc1, hc2, ha⟩ := hv.v
  cases a with
  | none =>
    have h0 : n = 0 := by
      rcases Nat.eq_zero_or_pos n with h | h
      · exact h
      · cases ha h
    obtain rfl : l = [] := List.eq_nil_of_length_eq_zero (by rw [hl.1, h0])
    subst h0
    go_enter Try.func24, Try.ntmps24
    go_wp2_with (first | go_skip | (refine wpList_is (.binOp .eql _ _ (.const (.slice none _ _)) _) rfl ?_; refine wpList_stp (by kernel_rfl) (stp_val (run_nseN _ _ _ rfl) ?_)) | go_skip | (refine wpList_is (.build _ _) rfl ?_; go_must (refine wpList_stp (by kernel_rfl) (stp_val (run_bd _ _ rfl) ?_))) | (refine wpList_is (.call { callee := .builtin .clear, args := #[_], argTypes := #[_] }) rfl ?_; go_must (refine wpList_stp (by kernel_rfl) (stp_cl _ _ rfl hS (by decide) ?_)); clear hS; intro w hS) | (refine wpList_is (.load _ _) rfl ?_; go_must (first | refine wpList_stp (by kernel_rfl) (stp_val (run_ld _ _ rfl hS) ?_) | refine wpList_stp (by kernel_rfl) (stp_val (run_lda _ _ rfl hS) ?_) | refine wpList_stp (by kernel_rfl) (stp_val (run_ld0 _ _ rfl hS) ?_) | refine wpList_stp (by kernel_rfl) (stp_val (run_lda0 _ _ rfl hS) ?_))) | (refine wpList_is (.store _ _ _) rfl ?_; go_must (first | refine wpList_stp (by kernel_rfl) (stp_st _ _ _ rfl hS ?_) | refine wpList_stp (by kernel_rfl) (stp_sta _ _ _ rfl hS ?_)); clear hS; intro w hS) | (refine wpList_is (.alloc _) rfl ?_; go_must (refine wpList_stp (by kernel_rfl) (stp_al _ rfl hS ?_)); clear hS; intro bN w hbN hS) | (refine wpList_is (.box _ _) rfl ?_; go_must (refine wpList_stp (by kernel_rfl) (stp_bx _ _ rfl hS ?_)); clear hS; intro bN w hbN hS) | (refine wpList_is (.binOp .eql _ _ (.const (.slice none _ _)) _) rfl ?_; refine wpList_stp (by kernel_rfl) (stp_val (run_nse _ _ _ rfl) ?_)) | (refine wpList_is (.binOp .neq _ _ (.const (.slice none _ _)) _) rfl ?_; refine wpList_stp (by kernel_rfl) (stp_val (run_nsn _ _ _ rfl) ?_)))
    exact hR _ [] _ BY.nil hS
  | some ad =>
    obtain ⟨g, of, x⟩ := ad
    have had : 0 < n → (⟨g, of, x⟩ : Addr) = ⟨b, off, none⟩ := fun h => Option.some.inj (ha h)
    have hx : 0 < n → g = b ∧ of = off ∧ x = none := fun h => by have := had h; simpa using this
    have hns : (l.flatMap b1f).toArray.size = n * 1 := by rw [List.size_toArray, flat_len b1f_len, hl.1]
    have hnews : ∀ (w : World) (H2 : List Ent), St w0 [] w H2 → ∀ j u, (l.flatMap b1f).toArray.toList[j]? = some u → w.cell? ((⟨g, of, x⟩ : Addr).add j) = some u := by
      intro w H2 hS j u hu
      have hj : j < n := by
        have := (List.getElem?_eq_some_iff.1 hu).1
        simpa [flat_len b1f_len, hl.1] using this
      obtain ⟨rfl, rfl, rfl⟩ := hx (by omega)
      rw [Addr.add_lit]
      refine cell0 hS ?_
      have h1 := hv.c j hj 0 (by simp)
      simp only [List.length_cons, List.length_nil, Nat.zero_add, Nat.mul_one, Nat.add_zero] at h1
      rw [h1, hl.2 j hj]
      have h2 := flat_get b1f_len l j 0 (l.getD j 0) (by rw [List.getD_eq_getElem?_getD, List.getElem?_eq_getElem (by rw [hl.1]; exact hj)]; rfl) (by decide)
      simp only [Nat.mul_one, Nat.add_zero] at h2
      have hu : (l.flatMap b1f)[j]? = some u := by simpa using hu
      rw [← hu, h2]; rfl
    have hone : OneCells (l.flatMap b1f).toArray := ⟨by
      intro v hv
      simp only [List.mem_flatMap] at hv
      obtain ⟨y, _, hy⟩ := hv
      exact b1f_one y v hy⟩
    go_enter Try.func24, Try.ntmps24
    go_wp2_with (first | go_skip | (refine wpList_is (.buildSlice _ 0 _) rfl ?_; go_must (refine wpList_stp rfl (stp_bs0 _ rfl hS ?_)); clear hS; intro bz w _ hS) | (refine wpList_is (.call { callee := .builtin .append, args := #[_, _], argTypes := #[_, _] }) rfl ?_; go_must (refine wpList_stp rfl (stp_apn _ _ _ _ rfl rfl hS (by rfl) sl_zero hns (hnews _ _ hS) (by simp only [maxLen]; omega) (by omega) ?_)); clear hS; intro v' E' w hsl' hne hS) | go_skip | (refine wpList_is (.build _ _) rfl ?_; go_must (refine wpList_stp (by kernel_rfl) (stp_val (run_bd _ _ rfl) ?_))) | (refine wpList_is (.call { callee := .builtin .clear, args := #[_], argTypes := #[_] }) rfl ?_; go_must (refine wpList_stp (by kernel_rfl) (stp_cl _ _ rfl hS (by decide) ?_)); clear hS; intro w hS) | (refine wpList_is (.load _ _) rfl ?_; go_must (first | refine wpList_stp (by kernel_rfl) (stp_val (run_ld _ _ rfl hS) ?_) | refine wpList_stp (by kernel_rfl) (stp_val (run_lda _ _ rfl hS) ?_) | refine wpList_stp (by kernel_rfl) (stp_val (run_ld0 _ _ rfl hS) ?_) | refine wpList_stp (by kernel_rfl) (stp_val (run_lda0 _ _ rfl hS) ?_))) | (refine wpList_is (.store _ _ _) rfl ?_; go_must (first | refine wpList_stp (by kernel_rfl) (stp_st _ _ _ rfl hS ?_) | refine wpList_stp (by kernel_rfl) (stp_sta _ _ _ rfl hS ?_)); clear hS; intro w hS) | (refine wpList_is (.alloc _) rfl ?_; go_must (refine wpList_stp (by kernel_rfl) (stp_al _ rfl hS ?_)); clear hS; intro bN w hbN hS) | (refine wpList_is (.box _ _) rfl ?_; go_must (refine wpList_stp (by kernel_rfl) (stp_bx _ _ rfl hS ?_)); clear hS; intro bN w hbN hS) | (refine wpList_is (.binOp .eql _ _ (.const (.slice none _ _)) _) rfl ?_; refine wpList_stp (by kernel_rfl) (stp_val (run_nse _ _ _ rfl) ?_)) | (refine wpList_is (.binOp .neq _ _ (.const (.slice none _ _)) _) rfl ?_; refine wpList_stp (by kernel_rfl) (stp_val (run_nsn _ _ _ rfl) ?_)))
    exact hR _ E' _ (by unfold BY; rw [hl.1]; simpa using hsl') hS
end Go.Proofs.Ytgpjanfphgjbbaa
