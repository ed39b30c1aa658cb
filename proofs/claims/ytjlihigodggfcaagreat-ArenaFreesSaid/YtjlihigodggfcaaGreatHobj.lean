/-
  Objects: the contracts of New, Get and Set of layer 13.
-/
import Derived.Test.YtjlihigodggfcaaGreatFields
import Derived.Test.YtjlihigodggfcaaGreatRfs
import Derived.Test.YtjlihigodggfcaaGreatBas
import Derived.Test.YtjlihigodggfcaaGreatRgn
set_option linter.unusedSimpArgs false
set_option linter.unusedVariables false
namespace Go.Mm
open Go Go.RowKit
theorem res_cct {P : Program} {fn : Func} {p q r : Tmp} {t u : TypeId} (h : fn.results = #[.cell p t, .cell q u, .tmp r]) {tmps : List Value} {b c : Nat} {v3 : Value} [hp : Nth tmps p (.pointer (some ⟨b, 0, none⟩))] [hq : Nth tmps q (.pointer (some ⟨c, 0, none⟩))] [hr : Nth tmps r v3]
    {w0 w : World} {bs : List Nat} {H : List Ent} (hS : St w0 bs w H) {v v' : Value} [hv : LoadV P H t b 0 v] [hv' : LoadV P H u c 0 v'] : (results fn tmps.toArray).run P w = .ok (.tuple #[v, v', v3]) w := by
  have h1 : tmps[p]?.getD undef = .pointer (some ⟨b, 0, none⟩) := by simp [hp.h]
  have h2 : tmps[q]?.getD undef = .pointer (some ⟨c, 0, none⟩) := by simp [hq.h]
  have h3 : tmps[r]?.getD undef = v3 := by simp [hr.h]
  simp [results, h, h1, h2, h3, asAddr, hv.h _ _ _ hS, hv'.h _ _ _ hS]
theorem idxArr {P : Program} {t e : TypeId} {m z b off i : Nat} (ht : P.underlying t = some (.array m e)) (hs : (P.info? e).map (·.size) = some z) (hi : i < m) : IdxV P t (.pointer (some ⟨b, off, none⟩)) i ⟨b, off + i * z, none⟩ := ⟨fun w => by
  have h2 : 0 ≤ (i : Int) := by omega
  simp [Instr.indexAt, asIntOf, run_underlying ht, Instr.sureAddr, hi, run_sizeOf' hs, Addr.add_lit]⟩
end Go.Mm
namespace Go.Proofs.YtjlihigodggfcaaGreat
open Go.RowKit Go.Mm
variable {R : Ending → World → Prop} {w : World} {w0 : World} {bs : List Nat} {H H' H1 E : List Ent}

/-- An object: how many fields, the fields, and whether it is a handle. -/
abbrev Ob := Int × List (Int × Int) × Bool
def zero4 : List (Int × Int) := [(0, 0), (0, 0), (0, 0), (0, 0)]
def zOb : Ob := (0, zero4, false)
structure ObW (o : Ob) : Prop where
  len : o.2.1.length = 4
  ok : okO o.1 o.2.1 o.2.2 = true
  gn : ∀ x ∈ o.2.1, 0 ≤ x.2 ∧ x.2 ≤ 4294967295
abbrev obC (o : Ob) : Array Value := objC o.1 o.2.1 o.2.2
def nwB (n : Int) (h : Bool) : Bool := decide (0 ≤ n) && decide (n ≤ 4) && !(h && decide (0 < n))
def nwO (n : Int) (h : Bool) : Ob := if nwB n h then (n, zero4, h) else zOb
def nwOE (n : Int) (h : Bool) : Int := if nwB n h then 0 else 2
def inF (o : Ob) (i : Int) : Bool := decide (0 ≤ i) && decide (i < o.1)
def gtO (o : Ob) (i : Int) : Int × Int := if inF o i then o.2.1.getD i.toNat (0, 0) else (0, 0)
def gtOE (o : Ob) (i : Int) : Int := if inF o i then 0 else 3
def stO (o : Ob) (i : Int) (r : Int × Int) : Ob := (o.1, o.2.1.set i.toNat r, o.2.2)
def st1 (o : Ob) (i : Int) (r : Int × Int) : Ob := if inF o i then stO o i r else zOb

theorem nz_zero : nzR (0, 0) = false := by decide
theorem wr_zero : wrR (0, 0) = false := by decide
theorem ok_zero (n : Int) (h : Bool) : okO n zero4 h = nwB n h := by
  have hg : gl (fnz zero4) 4 = [] := by decide
  unfold okO nwB
  rw [hg]
  simp
theorem nwB_w {n : Int} {h : Bool} (hb : nwB n h = true) : ObW (n, zero4, h) := by
  refine ⟨rfl, by rw [ok_zero]; exact hb, fun x hx => ?_⟩
  simp only [zero4, List.mem_cons, List.not_mem_nil, or_false, or_self] at hx
  rw [hx]; simp
theorem zOb_w : ObW zOb := nwB_w (by decide)
theorem nwO_w (n : Int) (h : Bool) : ObW (nwO n h) := by
  unfold nwO
  cases hb : nwB n h with
  | true => exact nwB_w hb
  | false => exact zOb_w
theorem ObW.n4 {o : Ob} (h : ObW o) : 0 ≤ o.1 ∧ o.1 ≤ 4 := by
  have := h.ok
  unfold okO at this
  simp only [Bool.and_eq_true, decide_eq_true_eq] at this
  exact ⟨this.1.1.1, this.1.1.2⟩
/-- Which fields are possible does not hang on the others. -/
theorem ok_iff {n : Int} {F : List (Int × Int)} {h : Bool} : okO n F h = true ↔ nwB n h = true ∧ ∀ i, i < 4 → fnz F i = true → badF n F i = false := by
  unfold okO nwB
  rw [Bool.and_eq_true, List.all_eq_true]
  refine and_congr_right fun _ => ?_
  constructor
  · intro q i hi hf
    have := q i (mem_gl.2 ⟨hi, hf⟩)
    simpa using this
  · intro q i hi
    obtain ⟨h1, h2⟩ := mem_gl.1 hi
    rw [q i h1 h2]; rfl
theorem ObW.set {o : Ob} (h : ObW o) {i : Int} (hi : inF o i = true) {r : Int × Int} (hr : wrR r = false) (hg : 0 ≤ r.2 ∧ r.2 ≤ 4294967295) : ObW (stO o i r) := by
  simp only [inF, Bool.and_eq_true, decide_eq_true_eq] at hi
  obtain ⟨k, rfl⟩ := Int.eq_ofNat_of_zero_le hi.1
  have h4 := h.n4
  have hk : k < o.2.1.length := by rw [h.len]; omega
  refine ⟨by unfold stO; rw [List.length_set]; exact h.len, ?_, fun x hx => ?_⟩
  · unfold stO
    simp only [Int.toNat_natCast]
    obtain ⟨h1, h2⟩ := ok_iff.1 h.ok
    refine ok_iff.2 ⟨h1, fun j hj hf => ?_⟩
    unfold fnz at hf
    unfold badF
    rw [getD_set2 _ _ _ _ hk] at hf ⊢
    by_cases e : j = k
    · subst e
      rw [if_pos rfl, hr]
      simp; omega
    · rw [if_neg e] at hf ⊢
      exact h2 j hj hf
  · rcases List.mem_or_eq_of_mem_set hx with hx | hx
    · exact h.gn x hx
    · rw [hx]; exact hg
theorem inF_yes {o : Ob} (h : ObW o) {i : Int} (hi : inF o i = true) : ∃ k : Nat, i = k ∧ k < 4 ∧ (k : Int) < o.1 := by
  simp only [inF, Bool.and_eq_true, decide_eq_true_eq] at hi
  obtain ⟨k, rfl⟩ := Int.eq_ofNat_of_zero_le hi.1
  have h4 := h.n4
  exact ⟨k, rfl, by omega, hi.2⟩

theorem objOnes {n : Int} {F : List (Int × Int)} {h : Bool} : OneCells (objC n F h) := blkOnes (by simp [Value.oneCell']) slf_one (by simp [Value.oneCell'])
instance obj_ones {n : Int} {F : List (Int × Int)} {h : Bool} : OneCells (objC n F h) := objOnes
theorem objSize {n : Int} {F : List (Int × Int)} {h : Bool} (hF : F.length = 4) : SizeIs (objC n F h) 10 := blkSize slf_len (by rw [hF]; rfl)
theorem objOver {n n' : Int} {F F' : List (Int × Int)} {h h' : Bool} (hF : F.length = 4) (hF' : F'.length = 4) : SetsAt (objC n F h) 0 (objC n' F' h') (objC n' F' h') := blkOver slf_len (by rw [objC, blk_size slf_len, hF, hF']; rfl)
theorem objFd {n : Int} {F : List (Int × Int)} {h : Bool} {i : Nat} {x : Int × Int} (hx : F[i]? = some x) : CellsAt (objC n F h) (1 + i * 2) 2 #[.int .i64 x.1, .int .u32 x.2] := blkCells slf_len hx rfl
theorem objFdSet {n : Int} {F : List (Int × Int)} {h : Bool} {i : Nat} (hi : i < F.length) (s g : Int) : SetsAt (objC n F h) (1 + i * 2) #[.int .i64 s, .int .u32 g] (objC n (F.set i (s, g)) h) := blkSets slf_len (a' := (s, g)) hi rfl
instance ho_z : ZeroT Tryz.prog 39 (objC 0 zero4 false) := ⟨by kernel_rfl⟩
instance ho_b {n : Int} {h : Bool} : BuildT Tryz.prog 39 [(0, .int .i64 n), (2, .bool h)] (objC n zero4 h) := ⟨fun w => by kernel_rfl⟩
instance ho_b0 : BuildT Tryz.prog 39 [] (objC 0 zero4 false) := ⟨fun w => by kernel_rfl⟩
instance ho_s4 {n : Int} {h : Bool} : SizeIs (objC n zero4 h) 10 := objSize rfl
instance ho_a4 {n : Int} {h : Bool} : CellsAt (objC n zero4 h) 0 10 (objC n zero4 h) := objAll rfl
instance ho_o4 {n n' : Int} {h h' : Bool} : SetsAt (objC n zero4 h) 0 (objC n' zero4 h') (objC n' zero4 h') := objOver rfl rfl
instance ho_f0 {b off : Nat} : FieldAt Tryz.prog 39 0 b off off := ⟨fun w => by kernel_rfl⟩
instance ho_f1 {b off : Nat} : FieldAt Tryz.prog 39 1 b off (off + 1) := ⟨fun w => by kernel_rfl⟩
instance ho_f2 {b off : Nat} : FieldAt Tryz.prog 39 2 b off (off + 9) := ⟨fun w => by kernel_rfl⟩

set_option maxHeartbeats 1000000 in
set_option maxRecDepth 100000 in
theorem ob_new (hO : St w0 bs w H) (n : Int) (h : Bool) (o : Ob) (e : Int) (ho : nwO n h = o) (he : nwOE n h = e)
    (hR : ∀ w', St w0 bs w' H → Ret R (.tuple #[.agg (obC o), .int .i64 e]) w') : Calls Tryz.prog 59 #[.int .i64 n, .bool h] w R := by
  have hS := hO
  clear hO
  subst ho he
  unfold nwO nwOE at hR
  cases hb : nwB n h with
  | true =>
    rw [hb] at hR
    simp only [if_true] at hR
    have hck : ckO n zero4 h = 0 := by unfold ckO; rw [ok_zero, hb]; rfl
    have hck' := Lib.hid hck
    clear hb hck
    go_enter Tryz.func59, Tryz.ntmps59
    go_wp2_with (first | (go_at_call 100; refine fd_check (F := zero4) rfl (nwB_w (n := 0) (h := false) (by decide)).gn hS ?_; clear hS; intro w hS; rw [hck'.out]; unfold Ret) | (refine wpList_is (.build _ _) rfl ?_; go_must (refine wpList_stp (by kernel_rfl) (stp_val (run_bd _ _ rfl) ?_))) | (refine wpList_is (.load _ _) rfl ?_; go_must ((refine wpList_stp (by kernel_rfl) (stp_val (run_lda _ _ rfl hS) ?_)))) | (refine wpList_is (.store _ _ _) rfl ?_; go_must ((refine wpList_stp (by kernel_rfl) (stp_sta _ _ _ rfl hS ?_))); clear hS; intro w hS) | (refine wpList_is (.alloc _) rfl ?_; go_must (refine wpList_stp (by kernel_rfl) (stp_al _ rfl hS ?_)); clear hS; intro bN w hbN hS))
    refine bodyPost_ret (res_ct rfl hS) rfl ?_
    exact hR _ hS.pick
  | false =>
    rw [hb] at hR
    simp only [Bool.false_eq_true, if_false] at hR
    have hck : ckO n zero4 h = 2 := by unfold ckO; rw [ok_zero, hb]; rfl
    have hck' := Lib.hid hck
    clear hb hck
    go_enter Tryz.func59, Tryz.ntmps59
    go_wp2_with (first | (go_at_call 100; refine fd_check (F := zero4) rfl (nwB_w (n := 0) (h := false) (by decide)).gn hS ?_; clear hS; intro w hS; rw [hck'.out]; unfold Ret) | (refine wpList_is (.build _ _) rfl ?_; go_must (refine wpList_stp (by kernel_rfl) (stp_val (run_bd _ _ rfl) ?_))) | (refine wpList_is (.load _ _) rfl ?_; go_must ((refine wpList_stp (by kernel_rfl) (stp_val (run_lda _ _ rfl hS) ?_)))) | (refine wpList_is (.store _ _ _) rfl ?_; go_must ((refine wpList_stp (by kernel_rfl) (stp_sta _ _ _ rfl hS ?_))); clear hS; intro w hS) | (refine wpList_is (.alloc _) rfl ?_; go_must (refine wpList_stp (by kernel_rfl) (stp_al _ rfl hS ?_)); clear hS; intro bN w hbN hS))
    refine bodyPost_ret (res_ct rfl hS) rfl ?_
    exact hR _ hS.pick

set_option maxHeartbeats 2000000 in
set_option maxRecDepth 100000 in
theorem ob_set (hO : St w0 bs w H) {o : Ob} (hW : ObW o) (i s g : Int) (hw : wrR (s, g) = false) (hg : 0 ≤ g ∧ g ≤ 4294967295) (o' : Ob) (r : Int × Int) (e : Int) (ho : st1 o i (s, g) = o') (hr : gtO o i = r) (he : gtOE o i = e)
    (hR : ∀ w', St w0 bs w' H → Ret R (.tuple #[.agg (obC o'), .agg #[.int .i64 r.1, .int .u32 r.2], .int .i64 e]) w') : Calls Tryz.prog 105 #[.agg (obC o), .int .i64 i, .agg #[.int .i64 s, .int .u32 g]] w R := by
  have hS := hO
  clear hO
  subst ho hr he
  obtain ⟨n, F, h⟩ := o
  show Calls _ _ #[.agg (objC n F h), _, _] w R
  have hF4 : F.length = 4 := hW.len
  have hck : ckO n F h = 0 := by unfold ckO; rw [hW.ok]; rfl
  have hck' := Lib.hid hck
  have hA := objAll (n := n) (h := h) hF4
  have hZ := objSize (n := n) (h := h) hF4
  have hgn' := Lib.hid hW.gn
  have hF4' := Lib.hid hF4
  have hw' := Lib.hid hw
  have hg' := Lib.hid hg
  unfold st1 gtO gtOE at hR
  cases hi : inF (n, F, h) i with
  | false =>
    rw [hi] at hR
    simp only [Bool.false_eq_true, if_false] at hR
    have hin : i < 0 ∨ n ≤ i := by
      rw [← Bool.not_eq_true] at hi
      simp only [inF, Bool.and_eq_true, decide_eq_true_eq] at hi
      omega
    clear hi hck hw hg hF4
    by_cases h0 : i < 0
    · have d1 : decide (i < 0) = true := decide_eq_true h0
      clear hin
      go_enter Tryz.func105, Tryz.ntmps105
      go_wp2_with (first | (go_at_call 100; refine fd_check hF4'.out hgn'.out hS ?_; clear hS; intro w hS; rw [hck'.out]; unfold Ret) | (go_at_call 123; refine wrong_ok hg'.out false hw'.out ?_; intro w hch; replace hS := hS.nil hch; clear hch; unfold Ret) | (refine wpList_is (.build _ _) rfl ?_; go_must (refine wpList_stp (by kernel_rfl) (stp_val (run_bd _ _ rfl) ?_))) | (refine wpList_is (.load _ _) rfl ?_; go_must ((refine wpList_stp (by kernel_rfl) (stp_val (run_lda _ _ rfl hS) ?_)))) | (refine wpList_is (.store _ _ _) rfl ?_; go_must ((refine wpList_stp (by kernel_rfl) (stp_sta _ _ _ rfl hS ?_))); clear hS; intro w hS) | (refine wpList_is (.alloc _) rfl ?_; go_must (refine wpList_stp (by kernel_rfl) (stp_al _ rfl hS ?_)); clear hS; intro bN w hbN hS) | (refine wpList_is (.box _ _) rfl ?_; go_must (refine wpList_stp (by kernel_rfl) (stp_bx _ _ rfl hS ?_)); clear hS; intro bN w hbN hS))
      refine bodyPost_ret (res_cct rfl hS) rfl ?_
      exact hR _ hS.pick
    · have d1 : decide (i < 0) = false := decide_eq_false h0
      have d2 : decide (n ≤ i) = true := decide_eq_true (by omega)
      clear hin
      go_enter Tryz.func105, Tryz.ntmps105
      go_wp2_with (first | (go_at_call 100; refine fd_check hF4'.out hgn'.out hS ?_; clear hS; intro w hS; rw [hck'.out]; unfold Ret) | (go_at_call 123; refine wrong_ok hg'.out false hw'.out ?_; intro w hch; replace hS := hS.nil hch; clear hch; unfold Ret) | (refine wpList_is (.build _ _) rfl ?_; go_must (refine wpList_stp (by kernel_rfl) (stp_val (run_bd _ _ rfl) ?_))) | (refine wpList_is (.load _ _) rfl ?_; go_must (first | refine wpList_stp (by kernel_rfl) (stp_val (run_ld _ _ rfl hS) ?_) | refine wpList_stp (by kernel_rfl) (stp_val (run_lda _ _ rfl hS) ?_))) | (refine wpList_is (.store _ _ _) rfl ?_; go_must ((refine wpList_stp (by kernel_rfl) (stp_sta _ _ _ rfl hS ?_))); clear hS; intro w hS) | (refine wpList_is (.alloc _) rfl ?_; go_must (refine wpList_stp (by kernel_rfl) (stp_al _ rfl hS ?_)); clear hS; intro bN w hbN hS) | (refine wpList_is (.box _ _) rfl ?_; go_must (refine wpList_stp (by kernel_rfl) (stp_bx _ _ rfl hS ?_)); clear hS; intro bN w hbN hS))
      refine bodyPost_ret (res_cct rfl hS) rfl ?_
      exact hR _ hS.pick
  | true =>
    rw [hi] at hR
    simp only [if_true] at hR
    obtain ⟨k, rfl, hk4, hkn⟩ := inF_yes hW hi
    simp only at hkn
    have hkl : k < F.length := by rw [hF4]; exact hk4
    obtain ⟨x, hx⟩ : ∃ x, F.getD k (0, 0) = x := ⟨_, rfl⟩
    have hx2 : F[k]? = some x := by rw [← hx, List.getD_eq_getElem?_getD, List.getElem?_eq_getElem hkl]; rfl
    have c1 := objFd (n := n) (h := h) hx2
    have c2 := objFdSet (n := n) (h := h) hkl s g
    have hF4s : (F.set k (s, g)).length = 4 := by rw [List.length_set]; exact hF4
    have hA2 := objAll (n := n) (h := h) hF4s
    have hZ2 := objSize (n := n) (h := h) hF4s
    have hO2 := objOver (n := 0) (n' := n) (h := false) (h' := h) (F := zero4) rfl hF4s
    have hix : ∀ b : Nat, IdxV Tryz.prog 37 (.pointer (some ⟨b, 0 + 1, none⟩)) k ⟨b, 1 + k * 2, none⟩ := fun b => by
      have := idxArr (P := Tryz.prog) (t := 37) (m := 4) (z := 2) (e := 25) (b := b) (off := 0 + 1) (by kernel_rfl) (by kernel_rfl) hk4
      simpa using this
    simp only [Int.toNat_natCast, hx] at hR
    have d1 : decide ((k : Int) < 0) = false := decide_eq_false (by omega)
    have d2 : decide (n ≤ (k : Int)) = false := decide_eq_false (by omega)
    have hR' : ∀ w', St w0 bs w' H → Ret R (.tuple #[.agg (objC n (F.set k (s, g)) h), .agg #[.int .i64 x.1, .int .u32 x.2], .int .i64 0]) w' := hR
    clear hi hck hw hg hF4 hx hx2 hkl hR hF4s
    go_enter Tryz.func105, Tryz.ntmps105
    go_wp2_with (first | (go_at_call 100; refine fd_check hF4'.out hgn'.out hS ?_; clear hS; intro w hS; rw [hck'.out]; unfold Ret) | (go_at_call 123; refine wrong_ok hg'.out false hw'.out ?_; intro w hch; replace hS := hS.nil hch; clear hch; unfold Ret) | (refine wpList_is (.box 39 _) rfl ?_; go_must (refine wpList_stp (by kernel_rfl) (stp_bx _ _ rfl hS ?_)); clear hS; intro b3 w _ hS) | (refine wpList_is (.alloc 39) rfl ?_; go_must (refine wpList_stp (by kernel_rfl) (stp_al _ rfl hS ?_)); clear hS; intro b6 w _ hS) | (refine wpList_is (o := ⟨some 7, _, _, _, _, _⟩) (.alloc _) rfl ?_; go_must (refine wpList_stp rfl (stp_al _ rfl hS ?_)); clear hS; intro b7 w _ hS) | (refine wpList_is (o := ⟨some 9, _, _, _, _, _⟩) (.alloc _) rfl ?_; go_must (refine wpList_stp rfl (stp_al _ rfl hS ?_)); clear hS; intro b9 w _ hS) | (refine wpList_is (.box 25 _) rfl ?_; go_must (refine wpList_stp (by kernel_rfl) (stp_bx _ _ rfl hS ?_)); clear hS; intro b5 w _ hS) | (refine wpList_is (.indexAddr _ _ _) rfl ?_; refine wpList_stp (by kernel_rfl) (stp_val (run_idxv _ _ _ rfl) ?_)) | (refine wpList_is (.load _ _) rfl ?_; go_must (first | refine wpList_stp (by kernel_rfl) (stp_val (run_ld _ _ rfl hS) ?_) | refine wpList_stp (by kernel_rfl) (stp_val (run_lda _ _ rfl hS) ?_))) | (refine wpList_is (.store _ _ _) rfl ?_; go_must ((refine wpList_stp (by kernel_rfl) (stp_sta _ _ _ rfl hS ?_))); clear hS; intro w hS))
    refine region_itemsE [⟨(undef, [⟨b6, objC 0 zero4 false, 39, true⟩]), [(2, fun _ y => y.2 = [⟨b6, objC n (F.set k (s, g)) h, 39, true⟩])]⟩, ⟨(undef, [⟨b7, #[.int .i64 0, .int .u32 0], 25, true⟩]), [(3, fun _ y => y.2 = [⟨b7, #[.int .i64 x.1, .int .u32 x.2], 25, true⟩])]⟩]
      (⟨b3, objC n (F.set k (s, g)) h, 39, true⟩ :: ⟨b9, #[.int .i64 x.1, .int .u32 x.2], 25, true⟩ :: H) (⟨b6, objC 0 zero4 false, 39, true⟩ :: ⟨b7, #[.int .i64 0, .int .u32 0], 25, true⟩ :: ⟨b3, objC n (F.set k (s, g)) h, 39, true⟩ :: ⟨b9, #[.int .i64 x.1, .int .u32 x.2], 25, true⟩ :: H) (by simp) hS.pick (by kernel_rfl) (by kernel_rfl) ?_
    (refine fx_val (fun _ => rfl) rfl (fun χ w hw => run_lda _ _ rfl hw) ?_)
    (refine fx_val (fun _ => rfl) rfl (fun χ w hw => run_lda _ _ rfl hw) ?_)
    refine fx_turn0 0 0 rfl rfl (by (rfl)) (by (rfl)) (by (rfl)) (fun _ => rfl) (fun _ => undef) ?_ ?_
    · intro χ X w _ hS
      exact stepX_sta _ _ _ rfl (show St w0 bs w (⟨b6, objC 0 zero4 false, 39, true⟩ :: (X ++ _)) from hS) (fun w' hS' => ⟨(undef, [⟨b6, objC n (F.set k (s, g)) h, 39, true⟩]), rfl, rfl, hS'⟩)
    refine fx_turn0 1 0 rfl rfl (by (rfl)) (by (rfl)) (by (rfl)) (fun _ => rfl) (fun _ => undef) ?_ ?_
    · intro χ X w _ hS
      exact stepX_sta _ _ _ rfl (show St w0 bs w (⟨b7, #[.int .i64 0, .int .u32 0], 25, true⟩ :: (X ++ _)) from hS) (fun w' hS' => ⟨(undef, [⟨b7, #[.int .i64 x.1, .int .u32 x.2], 25, true⟩]), rfl, rfl, hS'⟩)
    (refine fx_val (fun _ => rfl) rfl (fun χ w hw => run_as _ rfl) ?_)
    refine fx_end rfl ?_
    intro χ w hok hS
    obtain ⟨h1, _⟩ := hok _ (.head _)
    obtain ⟨h2, _⟩ := hok _ (.tail _ (.head _))
    have hS : St w0 bs w (((χ 2).2 ++ ((χ 3).2 ++ [])) ++ (⟨b3, objC n (F.set k (s, g)) h, 39, true⟩ :: ⟨b9, #[.int .i64 x.1, .int .u32 x.2], 25, true⟩ :: H)) := hS
    rw [h1, h2] at hS
    simp only [List.cons_append, List.nil_append, List.append_nil] at hS
    clear hok h1 h2
    go_wp2_with ((go_skip))
    refine bodyPost_ret (res_cct rfl hS) rfl ?_
    exact hR' _ hS.pick

set_option maxHeartbeats 1000000 in
set_option maxRecDepth 100000 in
theorem ob_get (hO : St w0 bs w H) {o : Ob} (hW : ObW o) (i : Int) (r : Int × Int) (e : Int) (hr : gtO o i = r) (he : gtOE o i = e)
    (hR : ∀ w', St w0 bs w' H → Ret R (.tuple #[.agg #[.int .i64 r.1, .int .u32 r.2], .int .i64 e]) w') : Calls Tryz.prog 103 #[.agg (obC o), .int .i64 i] w R := by
  have hS := hO
  clear hO
  obtain ⟨o', ho⟩ : ∃ o', st1 o i (0, 0) = o' := ⟨_, rfl⟩
  have hl4 : o'.2.1.length = 4 := by
    rw [← ho]
    unfold st1
    split
    · show (o.2.1.set _ _).length = 4
      rw [List.length_set]; exact hW.len
    · rfl
  have hO2 := objOver (n := 0) (n' := o'.1) (h := false) (h' := o'.2.2) (F := zero4) rfl hl4
  have hA := objAll (n := o.1) (h := o.2.2) hW.len
  have hZ := objSize (n := o.1) (h := o.2.2) hW.len
  have hZ2 := objSize (n := o'.1) (h := o'.2.2) hl4
  have hr' := Lib.hid hr
  have he' := Lib.hid he
  have ho' := Lib.hid ho
  clear hr he ho
  obtain ⟨n, F, h⟩ := o
  obtain ⟨n', F', h'⟩ := o'
  show Calls _ _ #[.agg (objC n F h), _] w R
  simp only at hO2 hA hZ hZ2
  go_enter Tryz.func103, Tryz.ntmps103
  go_wp2_with (first | (go_at_call 105; refine ob_set hS hW i 0 0 wr_zero (by decide) _ r e ho'.out hr'.out he'.out ?_; clear hS; intro w hS; unfold Ret) | (refine wpList_is (.build _ _) rfl ?_; go_must (refine wpList_stp (by kernel_rfl) (stp_val (run_bd _ _ rfl) ?_))) | (refine wpList_is (.load _ _) rfl ?_; go_must ((refine wpList_stp (by kernel_rfl) (stp_val (run_lda _ _ rfl hS) ?_)))) | (refine wpList_is (.store _ _ _) rfl ?_; go_must ((refine wpList_stp (by kernel_rfl) (stp_sta _ _ _ rfl hS ?_))); clear hS; intro w hS) | (refine wpList_is (.alloc _) rfl ?_; go_must (refine wpList_stp (by kernel_rfl) (stp_al _ rfl hS ?_)); clear hS; intro bN w hbN hS) | (refine wpList_is (.box _ _) rfl ?_; go_must (refine wpList_stp (by kernel_rfl) (stp_bx _ _ rfl hS ?_)); clear hS; intro bN w hbN hS))
  refine bodyPost_ret (res_ct rfl hS) rfl ?_
  exact hR _ hS.pick
end Go.Proofs.YtjlihigodggfcaaGreat
