/-
  'copy' between slices; slices.Repeat of one reference, eight times.
-/
import Derived.Test.YtkpfpaadkemedaaVarsE
import Derived.Test.YtkpfpaadkemedaaMoves
import Derived.Test.YtkpfpaadkemedaaOpv
set_option linter.unusedSimpArgs false
set_option linter.unusedVariables false
namespace Go.Mm
open Go Go.RowKit
section
variable {P : Program} {ops : Array Oper} {C : Nat → World → Prop} {m : Nat → Bool} {Q : Nat → Act → Prop} {k p : Nat} {o : Oper} {rest : List Oper} {a a' : Act} {v : Value}
/-- A marked operation. -/
theorem lex_mark (hw : Region.wanted o (yielded ops a.tmps) = true) (hm : m k = true) (v : Value) (hv : ∀ w, C p w → stepAt P o a (C (p + 1)) w v) [hp : Put a o.dst v a'] (h : wpLex P ops C m Q (k + 1) (p + 1) rest a') :
    wpLex P ops C m Q k p (o :: rest) a := by
  unfold wpLex
  rw [if_pos hw]
  refine ⟨v, ?_, ?_⟩
  · unfold Yv
    rw [if_pos hm]
    exact hv
  · rw [nx, if_pos hm, hp.h]
    exact h
end
section
variable {P : Program} {o : Oper} {a : Act} {w w0 : World} {bs : List Nat} {H : List Ent} {post : Act → World → Prop}
theorem cp_run (hS : St w0 bs w H) {t t' ty e : TypeId} [ht : SliceT P t e] {size bytes : Nat} {zs : Array Value} [he : ElemT P e size bytes zs] {b off dl dc b2 off2 sl sc n k : Nat} (hn : Nat.min sl dl = n) (hk : n * size = k)
    {cs2 : Array Value} {T2 : TypeId} [hH2 : Has H b2 cs2 T2] {news : Array Value} [hc : CellsAt cs2 off2 k news] [h1 : OneCells news] {cs cs' : Array Value} {T : TypeId} {H' : List Ent} [hH : Has H b cs T] [hsa : SetsAt cs off news cs'] [hu : Upd H b cs' T H'] :
    ∃ w', (Builtin.copy_ #[t, t'] ty #[.slice (some ⟨b, off, none⟩) dl dc, .slice (some ⟨b2, off2, none⟩) sl sc]).run P w = .ok (.int .i64 n) w' ∧ St w0 bs w' H' := by
  obtain ⟨i, z, hi, hz, rfl, rfl, rfl⟩ := he.parts
  have hb := hS.has hH
  have hnews := cells_news hc (w := w) (b := b2) (fun j => cell_of_has (hS.has hH2))
  have hl : news.toList.length = n * i.size := by rw [hk]; simpa using hc.s
  have hload := run_loadCells_list (P := P) w ⟨b2, off2, none⟩ news.toList hnews
  rw [hl] at hload
  have hr := run_storeCells_at P b off T news.toList 0 cs w hb (by have := hsa.le; simpa using this) h1.h
  simp only [Nat.add_zero] at hr
  rw [show news.toList.length = news.size by simp, hsa.h] at hr
  refine ⟨w.setRow b cs', ?_, hS.upd ⟨rfl, rfl, rfl, by simp, fun k _ hk => setRow_other w b k _ (by simpa [eq_comm] using hk)⟩ (setRow_heap w b cs _ T _ hb)⟩
  simp [Builtin.copy_, run_underlying ht.h, Builtin.lenOf, Builtin.firstCells, sizeOf, typeInfo, hi, hn, hload, hr, goInt]
theorem stp_cp (d s : Operand) (t t' : TypeId) (ho : o.op = .call { callee := .builtin .copy, args := #[d, s], argTypes := #[t, t'] }) (hS : St w0 bs w H) {e : TypeId} [ht : SliceT P t e] {size bytes : Nat} {zs : Array Value} [he : ElemT P e size bytes zs]
    {b off dl dc b2 off2 sl sc n k : Nat} [hd : Ev a d (.slice (some ⟨b, off, none⟩) dl dc)] [hs : Ev a s (.slice (some ⟨b2, off2, none⟩) sl sc)] (hn : Nat.min sl dl = n) (hk : n * size = k)
    {cs2 : Array Value} {T2 : TypeId} [hH2 : Has H b2 cs2 T2] {news : Array Value} [hc : CellsAt cs2 off2 k news] [h1 : OneCells news] {cs cs' : Array Value} {T : TypeId} {H' : List Ent} [hH : Has H b cs T] [hsa : SetsAt cs off news cs'] [hu : Upd H b cs' T H']
    {a' : Act} [hp : Put a o.dst (.int .i64 n) a'] (h : ∀ w', St w0 bs w' H' → post a' w') : Stp P o a w post := by
  obtain ⟨w', hr, hS'⟩ := cp_run (P := P) (t := t) (t' := t') (ty := o.type) (dc := dc) (sc := sc) hS hn hk (hH2 := hH2) (hc := hc) (h1 := h1) (hH := hH) (hsa := hsa) (hu := hu)
  refine ⟨.value (.int .i64 n), w', ?_, .inl ⟨_, rfl, by rw [hp.h]; exact h _ hS'⟩⟩
  simp only [execOp, ho, resolve, invoke, builtin, Sem.run_bind, Sem.run_pure, Result.andThen_ok, List.map_toArray, List.map_cons, List.map_nil, hd.h, hs.h, hr]
theorem stepAt_cp {C' : World → Prop} (d s : Operand) (t t' : TypeId) (ho : o.op = .call { callee := .builtin .copy, args := #[d, s], argTypes := #[t, t'] }) (hS : St w0 bs w H) {e : TypeId} [ht : SliceT P t e] {size bytes : Nat} {zs : Array Value} [he : ElemT P e size bytes zs]
    {b off dl dc b2 off2 sl sc n k : Nat} [hd : Ev a d (.slice (some ⟨b, off, none⟩) dl dc)] [hs : Ev a s (.slice (some ⟨b2, off2, none⟩) sl sc)] (hn : Nat.min sl dl = n) (hk : n * size = k)
    {cs2 : Array Value} {T2 : TypeId} [hH2 : Has H b2 cs2 T2] {news : Array Value} [hc : CellsAt cs2 off2 k news] [h1 : OneCells news] {cs cs' : Array Value} {T : TypeId} {H' : List Ent} [hH : Has H b cs T] [hsa : SetsAt cs off news cs'] [hu : Upd H b cs' T H']
    (h : ∀ w', St w0 bs w' H' → C' w') : stepAt P o a C' w (.int .i64 n) := by
  obtain ⟨w', hr, hS'⟩ := cp_run (P := P) (t := t) (t' := t') (ty := o.type) (dc := dc) (sc := sc) hS hn hk (hH2 := hH2) (hc := hc) (h1 := h1) (hH := hH) (hsa := hsa) (hu := hu)
  have hr2 : (execOp a.eval o).run P w = .ok (.value (.int .i64 n)) w' := by
    simp only [execOp, ho, resolve, invoke, builtin, Sem.run_bind, Sem.run_pure, Result.andThen_ok, List.map_toArray, List.map_cons, List.map_nil, hd.h, hs.h, hr]
  unfold stepAt
  rw [hr2]
  exact ⟨h _ hS', rfl⟩
end
end Go.Mm
namespace Go.Proofs.Ytkpfpaadkemedaa
open Go.RowKit Go.Mm
variable {R : Ending → World → Prop} {w : World} {w0 : World} {bs : List Nat} {H H' H1 E : List Ent}

set_option maxHeartbeats 1000000 in
set_option maxRecDepth 100000 in
theorem mul64_ok (hR : Ret R (.tuple #[.int .u64 0, .int .u64 8]) w) : Calls Try.prog 44 #[.int .u64 1, .int .u64 8] w R := by
  go_enter Try.func44, Try.ntmps44
  go_wp2_with (first | go_skip)
  exact hR
set_option maxHeartbeats 1000000 in
set_option maxRecDepth 100000 in
theorem mul_ok (hR : Ret R (.tuple #[.int .u64 0, .int .u64 8]) w) : Calls Try.prog 38 #[.int .u64 1, .int .u64 8] w R := by
  go_enter Try.func38, Try.ntmps38
  go_wp2_with (first | go_skip | (go_at_call 44; refine mul64_ok ?_; unfold Ret))
  exact hR

/-- Eight references, of which m have been laid. -/
def rpC (m : Nat) (s g : Int) : Array Value := ((List.replicate m ((s, g) : Int × Int) ++ List.replicate (8 - m) (0, 0)).flatMap slf).toArray
def rpN (m : Nat) (s g : Int) : Array Value := ((List.replicate m ((s, g) : Int × Int)).flatMap slf).toArray
theorem rp_made {s g : Int} : madeCells #[.int .i64 0, .int .u32 0] (8 * 2) = rpC 0 s g := by show (_ : Array Value) = _; kernel_rfl
theorem rpOnes (m : Nat) (s g : Int) : OneCells (rpN m s g) := ⟨fun u hu => by
  simp only [rpN, List.mem_flatMap] at hu
  obtain ⟨x, _, hx⟩ := hu
  exact slf_one x u hx⟩
theorem rpCells1 {s g : Int} : CellsAt (rpC 1 s g) 0 2 (rpN 1 s g) := ⟨fun j hj => by rcases j with _ | _ | j <;> first | rfl | omega, rfl⟩
theorem rpCells2 {s g : Int} : CellsAt (rpC 2 s g) 0 4 (rpN 2 s g) := ⟨fun j hj => by rcases j with _ | _ | _ | _ | j <;> first | rfl | omega, rfl⟩
theorem rpCells4 {s g : Int} : CellsAt (rpC 4 s g) 0 8 (rpN 4 s g) := ⟨fun j hj => by rcases j with _ | _ | _ | _ | _ | _ | _ | _ | j <;> first | rfl | omega, rfl⟩
theorem rpSet0 {s g : Int} : SetsAt (rpC 0 s g) 0 (rpN 1 s g) (rpC 1 s g) := ⟨by rfl, Nat.le_of_ble_eq_true (by rfl)⟩
theorem rpSet1 {s g : Int} : SetsAt (rpC 1 s g) 2 (rpN 1 s g) (rpC 2 s g) := ⟨by rfl, Nat.le_of_ble_eq_true (by rfl)⟩
theorem rpSet2 {s g : Int} : SetsAt (rpC 2 s g) 4 (rpN 2 s g) (rpC 4 s g) := ⟨by rfl, Nat.le_of_ble_eq_true (by rfl)⟩
theorem rpSet4 {s g : Int} : SetsAt (rpC 4 s g) 8 (rpN 4 s g) (rpC 8 s g) := ⟨by rfl, Nat.le_of_ble_eq_true (by rfl)⟩
instance cv_iu : CvI Try.prog 3 74 .u64 := ⟨by kernel_rfl, by kernel_rfl, by kernel_rfl⟩

def RpC (w0 : World) (bs : List Nat) (H : List Ent) (bz : Nat) (s g : Int) (m m2 : Nat) : Nat → World → Prop
  | 0, w => St w0 bs w (⟨bz, rpC m s g, 27, true⟩ :: H)
  | _ + 1, w => St w0 bs w (⟨bz, rpC m2 s g, 27, true⟩ :: H)

set_option maxHeartbeats 1000000 in
set_option maxRecDepth 100000 in
theorem ref_repeat (hO : St w0 bs w H) {bx : Nat} {s g : Int} [hx : Has H bx #[.int .i64 s, .int .u32 g] 27]
    (hR : ∀ v E' w', RS v (List.replicate 8 (s, g)) E' → St w0 bs w' (E' ++ H) → Ret R v w') : Calls Try.prog 26 #[.slice (some ⟨bx, 0, none⟩) 1 1, .int .i64 8] w R := by
  have hS := hO
  clear hO
  have hx0 : CellsAt #[.int .i64 s, .int .u32 g] 0 2 (rpN 1 s g) := ⟨fun j hj => by rcases j with _ | _ | j <;> first | rfl | omega, rfl⟩
  go_enter Try.func26, Try.ntmps26
  go_wp2_with (first
    | go_skip
    | (go_at_call 38; refine mul_ok ?_; unfold Ret)
    | (refine wpList_is (.makeSlice _ _ _) rfl ?_; go_must (refine wpList_stp (by kernel_rfl) (stp_mk (l := 8) (c := 8) _ _ _ rfl hS (by decide) (by decide) (by decide) (by decide) ?_)); clear hS; intro bz w _ hS; rw [show Int.toNat 8 = 8 from rfl])
    | (refine wpList_is (.call { callee := .builtin .copy, args := #[_, _], argTypes := #[_, _] }) rfl ?_; have hS : St w0 bs w (⟨bz, rpC 0 s g, 27, true⟩ :: H) := (by rw [← rp_made]; exact hS); go_must (refine wpList_stp (by kernel_rfl) (stp_cp (n := 1) (k := 2) (cs := rpC 0 s g) (cs2 := #[.int .i64 s, .int .u32 g]) (b2 := bx) (news := rpN 1 s g) (cs' := rpC 1 s g) (hc := hx0) (h1 := rpOnes 1 s g) (hsa := rpSet0) _ _ _ _ rfl hS (by decide) (by decide) ?_)); clear hS; intro w hS)
    | go_skip | (refine wpList_is (.call { callee := .builtin .len, args := #[_], argTypes := #[_] }) rfl ?_; refine wpList_stp (by kernel_rfl) (stp_val (run_lenv _ _ rfl) ?_)) | (refine wpList_is (.slice _ _ none (some _) none) rfl ?_; refine wpList_stp (by kernel_rfl) (stp_val (run_prev _ _ _ rfl) ?_)) | (refine wpList_is (.indexAddr _ _ _) rfl ?_; refine wpList_stp (by kernel_rfl) (stp_val (run_idxv _ _ _ rfl) ?_)) | go_skip | (refine wpList_is (.build _ _) rfl ?_; go_must (refine wpList_stp (by kernel_rfl) (stp_val (run_bd _ _ rfl) ?_))) | (refine wpList_is (.call { callee := .builtin .clear, args := #[_], argTypes := #[_] }) rfl ?_; go_must (refine wpList_stp (by kernel_rfl) (stp_cl _ _ rfl hS (by decide) ?_)); clear hS; intro w hS) | (refine wpList_is (.load _ _) rfl ?_; go_must (first | refine wpList_stp (by kernel_rfl) (stp_val (run_ld _ _ rfl hS) ?_) | refine wpList_stp (by kernel_rfl) (stp_val (run_lda _ _ rfl hS) ?_) | refine wpList_stp (by kernel_rfl) (stp_val (run_ld0 _ _ rfl hS) ?_) | refine wpList_stp (by kernel_rfl) (stp_val (run_lda0 _ _ rfl hS) ?_))) | (refine wpList_is (.store _ _ _) rfl ?_; go_must (first | refine wpList_stp (by kernel_rfl) (stp_st _ _ _ rfl hS ?_) | refine wpList_stp (by kernel_rfl) (stp_sta _ _ _ rfl hS ?_)); clear hS; intro w hS) | (refine wpList_is (.alloc _) rfl ?_; go_must (refine wpList_stp (by kernel_rfl) (stp_al _ rfl hS ?_)); clear hS; intro bN w hbN hS) | (refine wpList_is (.box _ _) rfl ?_; go_must (refine wpList_stp (by kernel_rfl) (stp_bx _ _ rfl hS ?_)); clear hS; intro bN w hbN hS) | (refine wpList_is (.binOp .eql _ _ (.const (.slice none _ _)) _) rfl ?_; refine wpList_stp (by kernel_rfl) (stp_val (run_nse _ _ _ rfl) ?_)) | (refine wpList_is (.binOp .neq _ _ (.const (.slice none _ _)) _) rfl ?_; refine wpList_stp (by kernel_rfl) (stp_val (run_nsn _ _ _ rfl) ?_)))
  go_loopw [8] (fun u wr => ∃ m : Nat, ((m = 1 ∧ u = .int .i64 1) ∨ (m = 2 ∧ u = .int .i64 2) ∨ (m = 4 ∧ u = .int .i64 4) ∨ (m = 8 ∧ u = .int .i64 8)) ∧ St w0 bs wr (⟨bz, rpC m s g, 27, true⟩ :: H)) (fun u _ => 8 - (intOf u).toNat)
  case atStart => exact ⟨1, .inl ⟨rfl, rfl⟩, hS⟩
  case round =>
    clear hS
    obtain ⟨m, hm, hS⟩ := hrel
    have s1 : SumIs 1 1 2 := ⟨rfl, by decide, by decide⟩
    have s2 : SumIs 2 2 4 := ⟨rfl, by decide, by decide⟩
    have s4 : SumIs 4 4 8 := ⟨rfl, by decide, by decide⟩
    have a1 : SufV Try.prog 36 (.slice (some ⟨bz, 0, none⟩) 8 8) 1 (.slice (some ⟨bz, 2, none⟩) 7 7) := suf_of (P := Try.prog) (t := 36) (g := bz) (n := 8) (cap := 8) (m := 1) Try.underlying36 (z := 2) (by kernel_rfl) (by omega) (by omega)
    have a2 : SufV Try.prog 36 (.slice (some ⟨bz, 0, none⟩) 8 8) 2 (.slice (some ⟨bz, 4, none⟩) 6 6) := suf_of (P := Try.prog) (t := 36) (g := bz) (n := 8) (cap := 8) (m := 2) Try.underlying36 (z := 2) (by kernel_rfl) (by omega) (by omega)
    have a4 : SufV Try.prog 36 (.slice (some ⟨bz, 0, none⟩) 8 8) 4 (.slice (some ⟨bz, 8, none⟩) 4 4) := suf_of (P := Try.prog) (t := 36) (g := bz) (n := 8) (cap := 8) (m := 4) Try.underlying36 (z := 2) (by kernel_rfl) (by omega) (by omega)
    have b1 : PreV Try.prog 36 (.slice (some ⟨bz, 0, none⟩) 8 8) 1 (.slice (some ⟨bz, 0, none⟩) 1 8) := pre_of (P := Try.prog) (t := 36) (g := bz) (n := 8) (cap := 8) (m := 1) Try.underlying36 (z := 2) (by kernel_rfl) (by omega) (by omega)
    have b2 : PreV Try.prog 36 (.slice (some ⟨bz, 0, none⟩) 8 8) 2 (.slice (some ⟨bz, 0, none⟩) 2 8) := pre_of (P := Try.prog) (t := 36) (g := bz) (n := 8) (cap := 8) (m := 2) Try.underlying36 (z := 2) (by kernel_rfl) (by omega) (by omega)
    have b4 : PreV Try.prog 36 (.slice (some ⟨bz, 0, none⟩) 8 8) 4 (.slice (some ⟨bz, 0, none⟩) 4 8) := pre_of (P := Try.prog) (t := 36) (g := bz) (n := 8) (cap := 8) (m := 4) Try.underlying36 (z := 2) (by kernel_rfl) (by omega) (by omega)
    have c1 := @rpCells1 s g
    have c2 := @rpCells2 s g
    have c4 := @rpCells4 s g
    have o1 := rpOnes 1 s g
    have o2 := rpOnes 2 s g
    have o4 := rpOnes 4 s g
    have t1 := @rpSet1 s g
    have t2 := @rpSet2 s g
    have t4 := @rpSet4 s g
    rcases hm with ⟨rfl, rfl⟩ | ⟨rfl, rfl⟩ | ⟨rfl, rfl⟩ | ⟨rfl, rfl⟩
    · go_wp2_with (first | go_skip | go_skip | (refine wpList_is (.call { callee := .builtin .len, args := #[_], argTypes := #[_] }) rfl ?_; refine wpList_stp (by kernel_rfl) (stp_val (run_lenv _ _ rfl) ?_)) | (refine wpList_is (.slice _ _ none (some _) none) rfl ?_; refine wpList_stp (by kernel_rfl) (stp_val (run_prev _ _ _ rfl) ?_)) | (refine wpList_is (.indexAddr _ _ _) rfl ?_; refine wpList_stp (by kernel_rfl) (stp_val (run_idxv _ _ _ rfl) ?_)) | go_skip | (refine wpList_is (.build _ _) rfl ?_; go_must (refine wpList_stp (by kernel_rfl) (stp_val (run_bd _ _ rfl) ?_))) | (refine wpList_is (.call { callee := .builtin .clear, args := #[_], argTypes := #[_] }) rfl ?_; go_must (refine wpList_stp (by kernel_rfl) (stp_cl _ _ rfl hS (by decide) ?_)); clear hS; intro w hS) | (refine wpList_is (.load _ _) rfl ?_; go_must (first | refine wpList_stp (by kernel_rfl) (stp_val (run_ld _ _ rfl hS) ?_) | refine wpList_stp (by kernel_rfl) (stp_val (run_lda _ _ rfl hS) ?_) | refine wpList_stp (by kernel_rfl) (stp_val (run_ld0 _ _ rfl hS) ?_) | refine wpList_stp (by kernel_rfl) (stp_val (run_lda0 _ _ rfl hS) ?_))) | (refine wpList_is (.store _ _ _) rfl ?_; go_must (first | refine wpList_stp (by kernel_rfl) (stp_st _ _ _ rfl hS ?_) | refine wpList_stp (by kernel_rfl) (stp_sta _ _ _ rfl hS ?_)); clear hS; intro w hS) | (refine wpList_is (.alloc _) rfl ?_; go_must (refine wpList_stp (by kernel_rfl) (stp_al _ rfl hS ?_)); clear hS; intro bN w hbN hS) | (refine wpList_is (.box _ _) rfl ?_; go_must (refine wpList_stp (by kernel_rfl) (stp_bx _ _ rfl hS ?_)); clear hS; intro bN w hbN hS) | (refine wpList_is (.binOp .eql _ _ (.const (.slice none _ _)) _) rfl ?_; refine wpList_stp (by kernel_rfl) (stp_val (run_nse _ _ _ rfl) ?_)) | (refine wpList_is (.binOp .neq _ _ (.const (.slice none _ _)) _) rfl ?_; refine wpList_stp (by kernel_rfl) (stp_val (run_nsn _ _ _ rfl) ?_)))
      refine region_step (RpC w0 bs H bz s g 1 2) (fun i => i == 7) (by kernel_rfl) (by kernel_rfl) (by kernel_rfl) (hS.drawn _) ?_
      refine lex_val rfl rfl (fun q w hw => run_mv _ rfl) ?_
      refine lex_val rfl rfl (fun q w hw => run_mv _ rfl) ?_
      refine lex_val rfl rfl (fun q w hw => run_mv _ rfl) ?_
      refine lex_val rfl rfl (fun q w hw => run_sufv _ _ _ rfl) ?_
      refine lex_val rfl rfl (fun q w hw => run_mv _ rfl) ?_
      refine lex_val rfl rfl (fun q w hw => run_mv _ rfl) ?_
      refine lex_val rfl rfl (fun q w hw => run_prev _ _ _ rfl) ?_
      refine lex_mark rfl rfl (.int .i64 1) ?_ ?_
      · intro w hS
        have hS : St w0 bs w (⟨bz, rpC 1 s g, 27, true⟩ :: H) := hS
        exact stepAt_cp (n := 1) (k := 2) (cs := rpC 1 s g) (cs2 := rpC 1 s g) (news := rpN 1 s g) (cs' := rpC 2 s g) _ _ _ _ rfl hS (by decide) (by decide) (fun w' hS' => hS')
      refine lex_val rfl rfl (fun q w hw => run_sumv _ _ _ _ rfl) ?_
      refine lex_val rfl rfl (fun q w hw => run_as _ rfl) ?_
      refine lex_nil ?_
      clear hS
      intro w hS
      have hS : St w0 bs w (⟨bz, rpC 2 s g, 27, true⟩ :: H) := hS
      go_wp2_with (first | go_skip | go_skip | (refine wpList_is (.build _ _) rfl ?_; go_must (refine wpList_stp (by kernel_rfl) (stp_val (run_bd _ _ rfl) ?_))) | (refine wpList_is (.call { callee := .builtin .clear, args := #[_], argTypes := #[_] }) rfl ?_; go_must (refine wpList_stp (by kernel_rfl) (stp_cl _ _ rfl hS (by decide) ?_)); clear hS; intro w hS) | (refine wpList_is (.load _ _) rfl ?_; go_must (first | refine wpList_stp (by kernel_rfl) (stp_val (run_ld _ _ rfl hS) ?_) | refine wpList_stp (by kernel_rfl) (stp_val (run_lda _ _ rfl hS) ?_) | refine wpList_stp (by kernel_rfl) (stp_val (run_ld0 _ _ rfl hS) ?_) | refine wpList_stp (by kernel_rfl) (stp_val (run_lda0 _ _ rfl hS) ?_))) | (refine wpList_is (.store _ _ _) rfl ?_; go_must (first | refine wpList_stp (by kernel_rfl) (stp_st _ _ _ rfl hS ?_) | refine wpList_stp (by kernel_rfl) (stp_sta _ _ _ rfl hS ?_)); clear hS; intro w hS) | (refine wpList_is (.alloc _) rfl ?_; go_must (refine wpList_stp (by kernel_rfl) (stp_al _ rfl hS ?_)); clear hS; intro bN w hbN hS) | (refine wpList_is (.box _ _) rfl ?_; go_must (refine wpList_stp (by kernel_rfl) (stp_bx _ _ rfl hS ?_)); clear hS; intro bN w hbN hS) | (refine wpList_is (.binOp .eql _ _ (.const (.slice none _ _)) _) rfl ?_; refine wpList_stp (by kernel_rfl) (stp_val (run_nse _ _ _ rfl) ?_)) | (refine wpList_is (.binOp .neq _ _ (.const (.slice none _ _)) _) rfl ?_; refine wpList_stp (by kernel_rfl) (stp_val (run_nsn _ _ _ rfl) ?_)))
      go_roundw
      case rel => exact ⟨2, .inr (.inl ⟨rfl, rfl⟩), hS⟩
      case measure => simp [intOf]
    · go_wp2_with (first | go_skip | go_skip | (refine wpList_is (.call { callee := .builtin .len, args := #[_], argTypes := #[_] }) rfl ?_; refine wpList_stp (by kernel_rfl) (stp_val (run_lenv _ _ rfl) ?_)) | (refine wpList_is (.slice _ _ none (some _) none) rfl ?_; refine wpList_stp (by kernel_rfl) (stp_val (run_prev _ _ _ rfl) ?_)) | (refine wpList_is (.indexAddr _ _ _) rfl ?_; refine wpList_stp (by kernel_rfl) (stp_val (run_idxv _ _ _ rfl) ?_)) | go_skip | (refine wpList_is (.build _ _) rfl ?_; go_must (refine wpList_stp (by kernel_rfl) (stp_val (run_bd _ _ rfl) ?_))) | (refine wpList_is (.call { callee := .builtin .clear, args := #[_], argTypes := #[_] }) rfl ?_; go_must (refine wpList_stp (by kernel_rfl) (stp_cl _ _ rfl hS (by decide) ?_)); clear hS; intro w hS) | (refine wpList_is (.load _ _) rfl ?_; go_must (first | refine wpList_stp (by kernel_rfl) (stp_val (run_ld _ _ rfl hS) ?_) | refine wpList_stp (by kernel_rfl) (stp_val (run_lda _ _ rfl hS) ?_) | refine wpList_stp (by kernel_rfl) (stp_val (run_ld0 _ _ rfl hS) ?_) | refine wpList_stp (by kernel_rfl) (stp_val (run_lda0 _ _ rfl hS) ?_))) | (refine wpList_is (.store _ _ _) rfl ?_; go_must (first | refine wpList_stp (by kernel_rfl) (stp_st _ _ _ rfl hS ?_) | refine wpList_stp (by kernel_rfl) (stp_sta _ _ _ rfl hS ?_)); clear hS; intro w hS) | (refine wpList_is (.alloc _) rfl ?_; go_must (refine wpList_stp (by kernel_rfl) (stp_al _ rfl hS ?_)); clear hS; intro bN w hbN hS) | (refine wpList_is (.box _ _) rfl ?_; go_must (refine wpList_stp (by kernel_rfl) (stp_bx _ _ rfl hS ?_)); clear hS; intro bN w hbN hS) | (refine wpList_is (.binOp .eql _ _ (.const (.slice none _ _)) _) rfl ?_; refine wpList_stp (by kernel_rfl) (stp_val (run_nse _ _ _ rfl) ?_)) | (refine wpList_is (.binOp .neq _ _ (.const (.slice none _ _)) _) rfl ?_; refine wpList_stp (by kernel_rfl) (stp_val (run_nsn _ _ _ rfl) ?_)))
      refine region_step (RpC w0 bs H bz s g 2 4) (fun i => i == 7) (by kernel_rfl) (by kernel_rfl) (by kernel_rfl) (hS.drawn _) ?_
      refine lex_val rfl rfl (fun q w hw => run_mv _ rfl) ?_
      refine lex_val rfl rfl (fun q w hw => run_mv _ rfl) ?_
      refine lex_val rfl rfl (fun q w hw => run_mv _ rfl) ?_
      refine lex_val rfl rfl (fun q w hw => run_sufv _ _ _ rfl) ?_
      refine lex_val rfl rfl (fun q w hw => run_mv _ rfl) ?_
      refine lex_val rfl rfl (fun q w hw => run_mv _ rfl) ?_
      refine lex_val rfl rfl (fun q w hw => run_prev _ _ _ rfl) ?_
      refine lex_mark rfl rfl (.int .i64 2) ?_ ?_
      · intro w hS
        have hS : St w0 bs w (⟨bz, rpC 2 s g, 27, true⟩ :: H) := hS
        exact stepAt_cp (n := 2) (k := 4) (cs := rpC 2 s g) (cs2 := rpC 2 s g) (news := rpN 2 s g) (cs' := rpC 4 s g) _ _ _ _ rfl hS (by decide) (by decide) (fun w' hS' => hS')
      refine lex_val rfl rfl (fun q w hw => run_sumv _ _ _ _ rfl) ?_
      refine lex_val rfl rfl (fun q w hw => run_as _ rfl) ?_
      refine lex_nil ?_
      clear hS
      intro w hS
      have hS : St w0 bs w (⟨bz, rpC 4 s g, 27, true⟩ :: H) := hS
      go_wp2_with (first | go_skip | go_skip | (refine wpList_is (.build _ _) rfl ?_; go_must (refine wpList_stp (by kernel_rfl) (stp_val (run_bd _ _ rfl) ?_))) | (refine wpList_is (.call { callee := .builtin .clear, args := #[_], argTypes := #[_] }) rfl ?_; go_must (refine wpList_stp (by kernel_rfl) (stp_cl _ _ rfl hS (by decide) ?_)); clear hS; intro w hS) | (refine wpList_is (.load _ _) rfl ?_; go_must (first | refine wpList_stp (by kernel_rfl) (stp_val (run_ld _ _ rfl hS) ?_) | refine wpList_stp (by kernel_rfl) (stp_val (run_lda _ _ rfl hS) ?_) | refine wpList_stp (by kernel_rfl) (stp_val (run_ld0 _ _ rfl hS) ?_) | refine wpList_stp (by kernel_rfl) (stp_val (run_lda0 _ _ rfl hS) ?_))) | (refine wpList_is (.store _ _ _) rfl ?_; go_must (first | refine wpList_stp (by kernel_rfl) (stp_st _ _ _ rfl hS ?_) | refine wpList_stp (by kernel_rfl) (stp_sta _ _ _ rfl hS ?_)); clear hS; intro w hS) | (refine wpList_is (.alloc _) rfl ?_; go_must (refine wpList_stp (by kernel_rfl) (stp_al _ rfl hS ?_)); clear hS; intro bN w hbN hS) | (refine wpList_is (.box _ _) rfl ?_; go_must (refine wpList_stp (by kernel_rfl) (stp_bx _ _ rfl hS ?_)); clear hS; intro bN w hbN hS) | (refine wpList_is (.binOp .eql _ _ (.const (.slice none _ _)) _) rfl ?_; refine wpList_stp (by kernel_rfl) (stp_val (run_nse _ _ _ rfl) ?_)) | (refine wpList_is (.binOp .neq _ _ (.const (.slice none _ _)) _) rfl ?_; refine wpList_stp (by kernel_rfl) (stp_val (run_nsn _ _ _ rfl) ?_)))
      go_roundw
      case rel => exact ⟨4, .inr (.inr (.inl ⟨rfl, rfl⟩)), hS⟩
      case measure => simp [intOf]
    · go_wp2_with (first | go_skip | go_skip | (refine wpList_is (.call { callee := .builtin .len, args := #[_], argTypes := #[_] }) rfl ?_; refine wpList_stp (by kernel_rfl) (stp_val (run_lenv _ _ rfl) ?_)) | (refine wpList_is (.slice _ _ none (some _) none) rfl ?_; refine wpList_stp (by kernel_rfl) (stp_val (run_prev _ _ _ rfl) ?_)) | (refine wpList_is (.indexAddr _ _ _) rfl ?_; refine wpList_stp (by kernel_rfl) (stp_val (run_idxv _ _ _ rfl) ?_)) | go_skip | (refine wpList_is (.build _ _) rfl ?_; go_must (refine wpList_stp (by kernel_rfl) (stp_val (run_bd _ _ rfl) ?_))) | (refine wpList_is (.call { callee := .builtin .clear, args := #[_], argTypes := #[_] }) rfl ?_; go_must (refine wpList_stp (by kernel_rfl) (stp_cl _ _ rfl hS (by decide) ?_)); clear hS; intro w hS) | (refine wpList_is (.load _ _) rfl ?_; go_must (first | refine wpList_stp (by kernel_rfl) (stp_val (run_ld _ _ rfl hS) ?_) | refine wpList_stp (by kernel_rfl) (stp_val (run_lda _ _ rfl hS) ?_) | refine wpList_stp (by kernel_rfl) (stp_val (run_ld0 _ _ rfl hS) ?_) | refine wpList_stp (by kernel_rfl) (stp_val (run_lda0 _ _ rfl hS) ?_))) | (refine wpList_is (.store _ _ _) rfl ?_; go_must (first | refine wpList_stp (by kernel_rfl) (stp_st _ _ _ rfl hS ?_) | refine wpList_stp (by kernel_rfl) (stp_sta _ _ _ rfl hS ?_)); clear hS; intro w hS) | (refine wpList_is (.alloc _) rfl ?_; go_must (refine wpList_stp (by kernel_rfl) (stp_al _ rfl hS ?_)); clear hS; intro bN w hbN hS) | (refine wpList_is (.box _ _) rfl ?_; go_must (refine wpList_stp (by kernel_rfl) (stp_bx _ _ rfl hS ?_)); clear hS; intro bN w hbN hS) | (refine wpList_is (.binOp .eql _ _ (.const (.slice none _ _)) _) rfl ?_; refine wpList_stp (by kernel_rfl) (stp_val (run_nse _ _ _ rfl) ?_)) | (refine wpList_is (.binOp .neq _ _ (.const (.slice none _ _)) _) rfl ?_; refine wpList_stp (by kernel_rfl) (stp_val (run_nsn _ _ _ rfl) ?_)))
      refine region_step (RpC w0 bs H bz s g 4 8) (fun i => i == 7) (by kernel_rfl) (by kernel_rfl) (by kernel_rfl) (hS.drawn _) ?_
      refine lex_val rfl rfl (fun q w hw => run_mv _ rfl) ?_
      refine lex_val rfl rfl (fun q w hw => run_mv _ rfl) ?_
      refine lex_val rfl rfl (fun q w hw => run_mv _ rfl) ?_
      refine lex_val rfl rfl (fun q w hw => run_sufv _ _ _ rfl) ?_
      refine lex_val rfl rfl (fun q w hw => run_mv _ rfl) ?_
      refine lex_val rfl rfl (fun q w hw => run_mv _ rfl) ?_
      refine lex_val rfl rfl (fun q w hw => run_prev _ _ _ rfl) ?_
      refine lex_mark rfl rfl (.int .i64 4) ?_ ?_
      · intro w hS
        have hS : St w0 bs w (⟨bz, rpC 4 s g, 27, true⟩ :: H) := hS
        exact stepAt_cp (n := 4) (k := 8) (cs := rpC 4 s g) (cs2 := rpC 4 s g) (news := rpN 4 s g) (cs' := rpC 8 s g) _ _ _ _ rfl hS (by decide) (by decide) (fun w' hS' => hS')
      refine lex_val rfl rfl (fun q w hw => run_sumv _ _ _ _ rfl) ?_
      refine lex_val rfl rfl (fun q w hw => run_as _ rfl) ?_
      refine lex_nil ?_
      clear hS
      intro w hS
      have hS : St w0 bs w (⟨bz, rpC 8 s g, 27, true⟩ :: H) := hS
      go_wp2_with (first | go_skip | go_skip | (refine wpList_is (.build _ _) rfl ?_; go_must (refine wpList_stp (by kernel_rfl) (stp_val (run_bd _ _ rfl) ?_))) | (refine wpList_is (.call { callee := .builtin .clear, args := #[_], argTypes := #[_] }) rfl ?_; go_must (refine wpList_stp (by kernel_rfl) (stp_cl _ _ rfl hS (by decide) ?_)); clear hS; intro w hS) | (refine wpList_is (.load _ _) rfl ?_; go_must (first | refine wpList_stp (by kernel_rfl) (stp_val (run_ld _ _ rfl hS) ?_) | refine wpList_stp (by kernel_rfl) (stp_val (run_lda _ _ rfl hS) ?_) | refine wpList_stp (by kernel_rfl) (stp_val (run_ld0 _ _ rfl hS) ?_) | refine wpList_stp (by kernel_rfl) (stp_val (run_lda0 _ _ rfl hS) ?_))) | (refine wpList_is (.store _ _ _) rfl ?_; go_must (first | refine wpList_stp (by kernel_rfl) (stp_st _ _ _ rfl hS ?_) | refine wpList_stp (by kernel_rfl) (stp_sta _ _ _ rfl hS ?_)); clear hS; intro w hS) | (refine wpList_is (.alloc _) rfl ?_; go_must (refine wpList_stp (by kernel_rfl) (stp_al _ rfl hS ?_)); clear hS; intro bN w hbN hS) | (refine wpList_is (.box _ _) rfl ?_; go_must (refine wpList_stp (by kernel_rfl) (stp_bx _ _ rfl hS ?_)); clear hS; intro bN w hbN hS) | (refine wpList_is (.binOp .eql _ _ (.const (.slice none _ _)) _) rfl ?_; refine wpList_stp (by kernel_rfl) (stp_val (run_nse _ _ _ rfl) ?_)) | (refine wpList_is (.binOp .neq _ _ (.const (.slice none _ _)) _) rfl ?_; refine wpList_stp (by kernel_rfl) (stp_val (run_nsn _ _ _ rfl) ?_)))
      go_roundw
      case rel => exact ⟨8, .inr (.inr (.inr ⟨rfl, rfl⟩)), hS⟩
      case measure => simp [intOf]
    · go_wp2_with (first | go_skip | go_skip | (refine wpList_is (.call { callee := .builtin .len, args := #[_], argTypes := #[_] }) rfl ?_; refine wpList_stp (by kernel_rfl) (stp_val (run_lenv _ _ rfl) ?_)) | (refine wpList_is (.slice _ _ none (some _) none) rfl ?_; refine wpList_stp (by kernel_rfl) (stp_val (run_prev _ _ _ rfl) ?_)) | (refine wpList_is (.indexAddr _ _ _) rfl ?_; refine wpList_stp (by kernel_rfl) (stp_val (run_idxv _ _ _ rfl) ?_)) | go_skip | (refine wpList_is (.build _ _) rfl ?_; go_must (refine wpList_stp (by kernel_rfl) (stp_val (run_bd _ _ rfl) ?_))) | (refine wpList_is (.call { callee := .builtin .clear, args := #[_], argTypes := #[_] }) rfl ?_; go_must (refine wpList_stp (by kernel_rfl) (stp_cl _ _ rfl hS (by decide) ?_)); clear hS; intro w hS) | (refine wpList_is (.load _ _) rfl ?_; go_must (first | refine wpList_stp (by kernel_rfl) (stp_val (run_ld _ _ rfl hS) ?_) | refine wpList_stp (by kernel_rfl) (stp_val (run_lda _ _ rfl hS) ?_) | refine wpList_stp (by kernel_rfl) (stp_val (run_ld0 _ _ rfl hS) ?_) | refine wpList_stp (by kernel_rfl) (stp_val (run_lda0 _ _ rfl hS) ?_))) | (refine wpList_is (.store _ _ _) rfl ?_; go_must (first | refine wpList_stp (by kernel_rfl) (stp_st _ _ _ rfl hS ?_) | refine wpList_stp (by kernel_rfl) (stp_sta _ _ _ rfl hS ?_)); clear hS; intro w hS) | (refine wpList_is (.alloc _) rfl ?_; go_must (refine wpList_stp (by kernel_rfl) (stp_al _ rfl hS ?_)); clear hS; intro bN w hbN hS) | (refine wpList_is (.box _ _) rfl ?_; go_must (refine wpList_stp (by kernel_rfl) (stp_bx _ _ rfl hS ?_)); clear hS; intro bN w hbN hS) | (refine wpList_is (.binOp .eql _ _ (.const (.slice none _ _)) _) rfl ?_; refine wpList_stp (by kernel_rfl) (stp_val (run_nse _ _ _ rfl) ?_)) | (refine wpList_is (.binOp .neq _ _ (.const (.slice none _ _)) _) rfl ?_; refine wpList_stp (by kernel_rfl) (stp_val (run_nsn _ _ _ rfl) ?_)))
      refine hR _ [⟨bz, rpC 8 s g, 27, true⟩] _ ⟨by rfl, .inr ⟨bz, 8, [], rfl, ?_, Nat.le_refl _, by decide, by rfl⟩⟩ hS
      simp [rpC]
end Go.Proofs.Ytkpfpaadkemedaa
