/-
  The document's heap: its contracts, first part.
-/
import Derived.Test.YtjlihigodggfcaaGreatRobj
import Derived.Test.YtjlihigodggfcaaGreatHeapF
set_option linter.unusedSimpArgs false
set_option linter.unusedVariables false
namespace Go.Mm
open Go Go.RowKit
theorem cellsSub {cs vs us : Array Value} {off n k m : Nat} (h : CellsAt cs off n vs) (hu : ∀ j, j < m → us[j]? = vs[k + j]?) (hs : us.size = m) (hk : k + m ≤ n) : CellsAt cs (off + k) m us :=
  ⟨fun j hj => by rw [Nat.add_assoc, h.h (k + j) (by omega), hu j hj], hs⟩
end Go.Mm
namespace Go.Proofs.YtjlihigodggfcaaGreat
open Go.RowKit Go.Mm
variable {R : Ending → World → Prop} {w : World} {w0 : World} {bs : List Nat} {H H' H1 E : List Ent}

/-- The cells of a slot of the document. -/
def hsf (x : Hs) : List Value := .bool (x.1 == 1) :: .bool (x.1 == 2) :: .int .u32 x.2.1 :: obf x.2.2
theorem hsf_len (x : Hs) : (hsf x).length = 13 := rfl
theorem hsf_one (x : Hs) : ∀ v ∈ hsf x, v.oneCell' = true := by
  intro v hv
  simp only [hsf, List.mem_cons] at hv
  rcases hv with rfl | rfl | rfl | hv
  · rfl
  · rfl
  · rfl
  · exact obf_one _ v hv
theorem slCells (x : List Hs) (sp : List Value) : (([] : List Value) ++ (x.flatMap hsf).toArray.toList ++ sp).toArray = blk [] hsf x sp := by simp [blk]
instance rh_es : ElemT Tryz.prog 115 13 88 (hsf zHs).toArray := ⟨by kernel_rfl⟩
instance rh_sl : SliceT Tryz.prog 111 115 := ⟨by kernel_rfl⟩
instance rh_ss : ScalarT Tryz.prog 111 := ⟨by kernel_rfl, by kernel_rfl⟩
instance rh_as : AggT Tryz.prog 115 13 := ⟨by kernel_rfl, by kernel_rfl⟩
instance rh_ah : AggT Tryz.prog 113 2 := ⟨by kernel_rfl, by kernel_rfl⟩
instance rh_bh {q : Option Addr} {n c : Nat} : BuildT Tryz.prog 113 [(0, .bool true), (1, .slice q n c)] #[.bool true, .slice q n c] := ⟨fun w => by kernel_rfl⟩
instance rh_bh0 : BuildT Tryz.prog 113 [(0, .bool true)] #[.bool true, .slice none 0 0] := ⟨fun w => by kernel_rfl⟩
instance rh_b0 {g : Int} : BuildT Tryz.prog 115 [(2, .int .u32 g)] (hsf (0, g, zOb)).toArray := ⟨fun w => by kernel_rfl⟩
instance rh_b1 {g : Int} : BuildT Tryz.prog 115 [(1, .bool true), (2, .int .u32 g)] (hsf (2, g, zOb)).toArray := ⟨fun w => by kernel_rfl⟩
theorem rh_b2 {n : Int} {F : List (Int × Int)} {h : Bool} (hF : F.length = 4) (g : Int) : BuildT Tryz.prog 115 [(0, .bool true), (2, .int .u32 g), (3, .agg (objC n F h))] (hsf (1, g, (n, F, h))).toArray := by
  match F, hF with
  | [a, b, c, d], _ => exact ⟨fun w => by kernel_rfl⟩
instance rh_f0 {b off : Nat} : FieldAt Tryz.prog 115 0 b off off := ⟨fun w => by kernel_rfl⟩
instance rh_f1 {b off : Nat} : FieldAt Tryz.prog 115 1 b off (off + 1) := ⟨fun w => by kernel_rfl⟩
instance rh_f2 {b off : Nat} : FieldAt Tryz.prog 115 2 b off (off + 2) := ⟨fun w => by kernel_rfl⟩
instance rh_f3 {b off : Nat} : FieldAt Tryz.prog 115 3 b off (off + 3) := ⟨fun w => by kernel_rfl⟩
instance rh_g0 {b off : Nat} : FieldAt Tryz.prog 113 0 b off off := ⟨fun w => by kernel_rfl⟩
instance rh_g1 {b off : Nat} : FieldAt Tryz.prog 113 1 b off (off + 1) := ⟨fun w => by kernel_rfl⟩

def RH (p : Option Addr) (T : Hp) (E : List Ent) : Prop :=
  match T with
  | none => p = none ∧ E = []
  | some none => False
  | some (some L) => HpW L ∧ ∃ b bl cap sp, p = some ⟨b, 0, none⟩ ∧ E = [⟨b, #[.bool true, .slice (some ⟨bl, 0, none⟩) L.length cap], 113, true⟩, ⟨bl, blk [] hsf L sp, 115, true⟩]
theorem RH.none : RH none none [] := ⟨rfl, rfl⟩
theorem RH.nil {p : Option Addr} {T : Hp} (h : RH p T E) : p.isNone = T.isNone := by
  rcases T with _ | _ | L
  · obtain ⟨rfl, _⟩ := h; rfl
  · exact h.elim
  · obtain ⟨_, b, bl, cap, sp, rfl, _⟩ := h; rfl
/-- A slot. -/
theorem rh_at {L : List Hs} (hW : HpW L) {i : Nat} (hi : i < L.length) {x : Hs} (hx : L.getD i zHs = x) (bl cap : Nat) (sp : List Value) :
    (∀ z : Int, z = i → IdxV Tryz.prog 111 (.slice (some ⟨bl, 0, none⟩) L.length cap) z ⟨bl, i * 13, none⟩) ∧ CellAt (blk [] hsf L sp) (i * 13) (.bool (x.1 == 1)) ∧ CellAt (blk [] hsf L sp) (i * 13 + 1) (.bool (x.1 == 2)) ∧
      CellAt (blk [] hsf L sp) (i * 13 + 2) (.int .u32 x.2.1) ∧ CellsAt (blk [] hsf L sp) (i * 13 + 3) 10 (obC x.2.2) ∧ ∀ y : Hs, SetsAt (blk [] hsf L sp) (i * 13) (hsf y).toArray (blk [] hsf (L.set i y) sp) := by
  have hx' : L[i]? = some x := by rw [← hx, List.getD_eq_getElem?_getD, List.getElem?_eq_getElem hi]; rfl
  have hxW : ObW x.2.2 := by rw [← hx]; exact hW.at hi
  refine ⟨fun z hz => ⟨fun w => ?_⟩, ?_, ?_, ?_, ?_, fun y => ?_⟩
  · subst hz
    have h2 : 0 ≤ (i : Int) := by omega
    simp [Instr.indexAt, asIntOf, run_underlying Tryz.underlying111, hi, run_sizeOf' (P := Tryz.prog) (t := 115) (n := 13) (by kernel_rfl), Addr.add_lit]
  · exact blkCell hsf_len (j := 0) hx' (by decide) rfl (by simp)
  · exact blkCell hsf_len (j := 1) hx' (by decide) rfl (by simp)
  · exact blkCell hsf_len (j := 2) hx' (by decide) rfl (by simp)
  · have h1 := blkCells (pre := []) (post := sp) hsf_len hx' (off := i * 13) (by simp)
    refine cellsSub (k := 3) h1 (fun j hj => ?_) ?_ (by decide)
    · rw [← obf_eq hxW]
      simp [hsf, Nat.add_comm 3 j]
    · rw [← obf_eq hxW]; rfl
  · exact blkSets (pre := []) hsf_len hi (by simp)

theorem rh_valid {p : Option Addr} {T : Hp} (hO : St w0 bs w H) (hT : RH p T E) [hc : Cut H E H1] (b : Bool) (hb : hpOk T = b)
    (hR : ∀ w', St w0 bs w' (E ++ H1) → Ret R (.bool b) w') : Calls Tryz.prog 92 #[.pointer p] w R := by
  have hS := hO.front (E := E) (H1 := H1)
  clear hO hc
  subst hb
  rcases T with _ | _ | L
  · obtain ⟨rfl, rfl⟩ := hT
    simp only [List.nil_append] at hS
    go_enter Tryz.func92, Tryz.ntmps92
    go_wp2_with ((go_skip))
    exact hR _ hS.pick
  · exact hT.elim
  · obtain ⟨_, b, bl, cap, sp, rfl, rfl⟩ := hT
    simp only [List.cons_append, List.nil_append] at hS
    go_enter Tryz.func92, Tryz.ntmps92
    go_wp2_with ((refine wpList_is (.load _ _) rfl ?_; go_must ((refine wpList_stp (by kernel_rfl) (stp_val (run_ld _ _ rfl hS) ?_)))))
    exact hR _ hS.pick

set_option maxHeartbeats 1000000 in
set_option maxRecDepth 100000 in
/-- Another slot: the slots are laid anew. -/
theorem rh_set {L : List Hs} {b bl cap : Nat} {sp : List Value} (hO : St w0 bs w H) (hW : HpW L) [hc : Cut H [⟨b, #[.bool true, .slice (some ⟨bl, 0, none⟩) L.length cap], 113, true⟩, ⟨bl, blk [] hsf L sp, 115, true⟩] H1] {i : Nat} (hi : i < L.length) (y : Hs)
    (hR : ∀ bl' cap' sp' w', St w0 bs w' ([⟨b, #[.bool true, .slice (some ⟨bl', 0, none⟩) L.length cap'], 113, true⟩, ⟨bl', blk [] hsf (L.set i y) sp', 115, true⟩] ++ H1) → R (.returned (.tuple #[])) w') : Calls Tryz.prog 89 #[.pointer (some ⟨b, 0, none⟩), .int .i64 i, .agg (hsf y).toArray] w R := by
  have hS := hO.front (E := [⟨b, #[.bool true, .slice (some ⟨bl, 0, none⟩) L.length cap], 113, true⟩, ⟨bl, blk [] hsf L sp, 115, true⟩]) (H1 := H1)
  clear hO hc
  simp only [List.cons_append, List.nil_append] at hS
  have hlo := hW.lo
  have hhi := hW.hi
  have hfl : (L.flatMap hsf).length = L.length * 13 := flat_len hsf_len L
  have i1 : CellsAt (blk [] hsf L sp) 0 (L.length * 13) (L.flatMap hsf).toArray := ⟨fun j hj => by simp [blk, List.getElem?_append_left, hfl, hj], by simp [hfl]⟩
  have i2 : OneCells (L.flatMap hsf).toArray := ⟨fun u hu => by
    simp only [List.mem_flatMap] at hu
    obtain ⟨x, _, hx⟩ := hu
    exact hsf_one x u hx⟩
  have i3 : CellsAt (hsf y).toArray 0 13 (hsf y).toArray := ⟨fun j hj => by simp, rfl⟩
  have i4 : OneCells (hsf y).toArray := ⟨fun u hu => hsf_one y u (by simpa using hu)⟩
  have i5 : SizeIs (hsf y).toArray 13 := ⟨rfl⟩
  go_enter Tryz.func89, Tryz.ntmps89
  go_wp2_with (first | (refine wpList_is (.box 115 _) rfl ?_; go_must (refine wpList_stp (by kernel_rfl) (stp_bx _ _ rfl hS ?_)); clear hS; intro bs w _ hS) | (refine wpList_is (.buildSlice _ 0 _) rfl ?_; go_must (refine wpList_stp rfl (stp_bs0 _ rfl hS ?_)); clear hS; intro bz w _ hS) | (refine wpList_is (.call { callee := .builtin .append, args := #[_, _], argTypes := #[_, _] }) rfl ?_; go_must (refine wpList_stp rfl (stp_ap _ _ _ _ rfl rfl hS (by rfl) sl_zero (by rfl) (by simp only [maxLen]; omega) (by omega) ?_)); clear hS; intro v' E' w hsl' hne hS; obtain ⟨g', cap', sp', rfl, rfl, _⟩ := hsl'.some (by omega); rw [slCells] at hS; simp only [Nat.zero_add, List.cons_append, List.nil_append] at hS ⊢; have hq := (rh_at hW hi rfl g' cap' sp').1 i rfl; have hq2 := (rh_at hW hi rfl g' cap' sp').2.2.2.2.2 y) | (refine wpList_is (.load _ _) rfl ?_; go_must (first | refine wpList_stp (by kernel_rfl) (stp_val (run_ld _ _ rfl hS) ?_) | refine wpList_stp (by kernel_rfl) (stp_val (run_lda _ _ rfl hS) ?_))) | (refine wpList_is (.store _ _ _) rfl ?_; go_must (first | refine wpList_stp (by kernel_rfl) (stp_st _ _ _ rfl hS ?_) | refine wpList_stp (by kernel_rfl) (stp_sta _ _ _ rfl hS ?_)); clear hS; intro w hS))
  refine bodyPost_end (results_none rfl _ _ _) rfl ?_
  exact hR g' cap' sp' _ hS.pick

set_option maxHeartbeats 1000000 in
set_option maxRecDepth 100000 in
theorem rh_check {p : Option Addr} {T : Hp} (hO : St w0 bs w H) (hT : RH p T E) [hc : Cut H E H1] (s g : Int) (e : Int) (he : wiH T s g = e)
    (hR : ∀ w', RH p T E → St w0 bs w' (E ++ H1) → Ret R (.int .i64 e) w') : Calls Tryz.prog 86 #[.pointer p, .agg #[.int .i64 s, .int .u32 g]] w R := by
  have hS := hO.front (E := E) (H1 := H1)
  clear hO
  subst he
  rcases T with _ | _ | L
  · go_enter Tryz.func86, Tryz.ntmps86
    go_wp2_with (first | (refine wpList_is (.box 25 _) rfl ?_; go_must (refine wpList_stp (by kernel_rfl) (stp_bx _ _ rfl hS ?_)); clear hS; intro bo w _ hS) | (go_at_call 92; refine rh_valid hS hT false rfl ?_; clear hS; intro w hS; (try simp only [List.cons_append, List.nil_append] at hS); unfold Ret))
    exact hR _ hT hS.pick
  · exact hT.elim
  obtain ⟨hW, b, bl, cap, sp, rfl, rfl⟩ := id hT
  have hlo := hW.lo
  have hlt : (tbH L).length = L.length := tbH_len L
  by_cases hs0 : s < 0
  · have e0 : wiH (some (some L)) s g = 3 := ck_out (L := tbH L) (by omega) (.inl hs0) g
    have d1 : decide (s < 0) = true := decide_eq_true hs0
    rw [e0] at hR
    clear e0 hW hlo hlt
    go_enter Tryz.func86, Tryz.ntmps86
    go_wp2_with (first | (refine wpList_is (.box 25 _) rfl ?_; go_must (refine wpList_stp (by kernel_rfl) (stp_bx _ _ rfl hS ?_)); clear hS; intro bo w _ hS) | (go_at_call 92; refine rh_valid hS hT true rfl ?_; clear hS; intro w hS; (try simp only [List.cons_append, List.nil_append] at hS); unfold Ret) | (refine region_quiet hS (by kernel_rfl) (by kernel_rfl) (fun hne => ?_); (repeat (first | go_big_quiet_skip | (go_big_quiet_want; first | (refine quiet_is (.load _ _) rfl ?_; go_must ((refine quiet_at sw_st (fun w hS => run_ld _ _ rfl hS) ?_)); go_big_quiet_on) | (go_big_quiet_op; go_big_quiet_on)))); refine wpQuiet_nil ?_; clear hS hne; intro w hS))
    exact hR _ hT hS.pick
  have d1 : decide (s < 0) = false := decide_eq_false hs0
  by_cases hs1 : (L.length : Int) ≤ s
  · have e0 : wiH (some (some L)) s g = 3 := ck_out (L := tbH L) (by omega) (.inr (by omega)) g
    have d2 : decide ((L.length : Int) ≤ s) = true := decide_eq_true hs1
    rw [e0] at hR
    clear e0 hW hlo hlt
    go_enter Tryz.func86, Tryz.ntmps86
    go_wp2_with (first | (refine wpList_is (.box 25 _) rfl ?_; go_must (refine wpList_stp (by kernel_rfl) (stp_bx _ _ rfl hS ?_)); clear hS; intro bo w _ hS) | (go_at_call 92; refine rh_valid hS hT true rfl ?_; clear hS; intro w hS; (try simp only [List.cons_append, List.nil_append] at hS); unfold Ret) | (refine region_quiet hS (by kernel_rfl) (by kernel_rfl) (fun hne => ?_); (repeat ((go_big_quiet_want; first | (refine quiet_is (.load _ _) rfl ?_; go_must ((refine quiet_at sw_st (fun w hS => run_ld _ _ rfl hS) ?_)); go_big_quiet_on) | (go_big_quiet_op; go_big_quiet_on)))); refine wpQuiet_nil ?_; clear hS hne; intro w hS))
    exact hR _ hT hS.pick
  have d2 : decide ((L.length : Int) ≤ s) = false := decide_eq_false hs1
  obtain ⟨j, hj⟩ := Int.eq_ofNat_of_zero_le (show 0 ≤ s by omega)
  have hjl : j < L.length := by omega
  obtain ⟨⟨st, gn, ob⟩, hx⟩ : ∃ x, L.getD j zHs = x := ⟨_, rfl⟩
  obtain ⟨a1, a2, a3, a4, a5, a6⟩ := rh_at hW hjl hx bl cap sp
  have a1 := a1 s hj
  simp only at a2 a3 a4 a5
  have hck : wiH (some (some L)) s g = if (st, gn) = (1, g) then 0 else 7 := by
    show ckE (some (tbH L)) s g = _
    rw [hj, ck_at (by omega), tbH_get, hx]
  by_cases h1 : st = 1
  · subst h1
    by_cases h2 : gn = g
    · subst h2
      rw [if_pos rfl] at hck
      rw [hck] at hR
      clear hck hW hlo hlt hx hj hs0 hs1 hjl a6
      go_enter Tryz.func86, Tryz.ntmps86
      go_wp2_with (first | (refine wpList_is (.box 25 _) rfl ?_; go_must (refine wpList_stp (by kernel_rfl) (stp_bx _ _ rfl hS ?_)); clear hS; intro bo w _ hS) | (go_at_call 92; refine rh_valid hS hT true rfl ?_; clear hS; intro w hS; (try simp only [List.cons_append, List.nil_append] at hS); unfold Ret) | (refine region_quiet hS (by kernel_rfl) (by kernel_rfl) (fun hne => ?_); (repeat ((go_big_quiet_want; first | (refine quiet_is (.load _ _) rfl ?_; go_must ((refine quiet_at sw_st (fun w hS => run_ld _ _ rfl hS) ?_)); go_big_quiet_on) | (refine quiet_is (.indexAddr _ _ _) rfl ?_; refine quiet_val (fun w _ => run_idxv _ _ _ rfl) ?_; go_big_quiet_on) | (go_big_quiet_op; go_big_quiet_on)))); refine wpQuiet_nil ?_; clear hS hne; intro w hS))
      exact hR _ hT hS.pick
    · rw [if_neg (fun q => h2 (Prod.mk.inj q).2)] at hck
      rw [hck] at hR
      have d3 : (gn == g) = false := beq_eq_false_iff_ne.2 h2
      have d4 : (gn != g) = true := by simpa using h2
      have d5 : decide (gn = g) = false := decide_eq_false h2
      clear hck hW hlo hlt hx hj hs0 hs1 hjl a6
      go_enter Tryz.func86, Tryz.ntmps86
      go_wp2_with (first | (refine wpList_is (.box 25 _) rfl ?_; go_must (refine wpList_stp (by kernel_rfl) (stp_bx _ _ rfl hS ?_)); clear hS; intro bo w _ hS) | (go_at_call 92; refine rh_valid hS hT true rfl ?_; clear hS; intro w hS; (try simp only [List.cons_append, List.nil_append] at hS); unfold Ret) | (refine region_quiet hS (by kernel_rfl) (by kernel_rfl) (fun hne => ?_); (repeat ((go_big_quiet_want; first | (refine quiet_is (.load _ _) rfl ?_; go_must ((refine quiet_at sw_st (fun w hS => run_ld _ _ rfl hS) ?_)); go_big_quiet_on) | (refine quiet_is (.indexAddr _ _ _) rfl ?_; refine quiet_val (fun w _ => run_idxv _ _ _ rfl) ?_; go_big_quiet_on) | (go_big_quiet_op; go_big_quiet_on)))); refine wpQuiet_nil ?_; clear hS hne; intro w hS))
      exact hR _ hT hS.pick
  · rw [if_neg (fun q => h1 (Prod.mk.inj q).1)] at hck
    rw [hck] at hR
    have d3 : (st == 1) = false := beq_eq_false_iff_ne.2 h1
    rw [d3] at a2
    clear hck hW hlo hlt hx hj hs0 hs1 hjl a6 a3 a4 a5 d3
    go_enter Tryz.func86, Tryz.ntmps86
    go_wp2_with (first | (refine wpList_is (.box 25 _) rfl ?_; go_must (refine wpList_stp (by kernel_rfl) (stp_bx _ _ rfl hS ?_)); clear hS; intro bo w _ hS) | (go_at_call 92; refine rh_valid hS hT true rfl ?_; clear hS; intro w hS; (try simp only [List.cons_append, List.nil_append] at hS); unfold Ret) | (refine region_quiet hS (by kernel_rfl) (by kernel_rfl) (fun hne => ?_); (repeat (first | go_big_quiet_skip | (go_big_quiet_want; first | (refine quiet_is (.load _ _) rfl ?_; go_must ((refine quiet_at sw_st (fun w hS => run_ld _ _ rfl hS) ?_)); go_big_quiet_on) | (refine quiet_is (.indexAddr _ _ _) rfl ?_; refine quiet_val (fun w _ => run_idxv _ _ _ rfl) ?_; go_big_quiet_on) | (go_big_quiet_op; go_big_quiet_on)))); refine wpQuiet_nil ?_; clear hS hne; intro w hS))
    exact hR _ hT hS.pick


set_option maxHeartbeats 1000000 in
set_option maxRecDepth 100000 in
theorem rh_object {p : Option Addr} {T : Hp} (hO : St w0 bs w H) (hT : RH p T E) [hc : Cut H E H1] (s g : Int) (o : Ob) (e : Int) (ho : obR T s g = o) (he : wiH T s g = e)
    (hR : ∀ w', RH p T E → St w0 bs w' (E ++ H1) → Ret R (.tuple #[.agg (obC o), .int .i64 e]) w') : Calls Tryz.prog 37 #[.pointer p, .agg #[.int .i64 s, .int .u32 g]] w R := by
  have hS := hO.front (E := E) (H1 := H1)
  clear hO
  by_cases h0 : e = 0
  case neg =>
    have hE2 : obR T s g = zOb := by unfold obR; rw [he, if_neg h0]
    rw [hE2] at ho
    subst ho
    have hR' : ∀ w', RH p T E → St w0 bs w' (E ++ H1) → Ret R (.tuple #[.agg (objC 0 zero4 false), .int .i64 e]) w' := hR
    have q : (e != 0) = true := by simpa using h0
    have he' := Lib.hid he
    clear he hE2 hR
    go_enter Tryz.func37, Tryz.ntmps37
    go_wp2_with (first | (refine wpList_is (.box 25 _) rfl ?_; go_must (refine wpList_stp (by kernel_rfl) (stp_bx _ _ rfl hS ?_)); clear hS; intro bo w _ hS) | (go_at_call 86; refine rh_check hS hT s g e he'.out ?_; clear hS; intro w _ hS; unfold Ret) | (refine wpList_is (.build _ _) rfl ?_; go_must (refine wpList_stp (by kernel_rfl) (stp_val (run_bd _ _ rfl) ?_))) | (refine wpList_is (.load _ _) rfl ?_; go_must ((refine wpList_stp (by kernel_rfl) (stp_val (run_lda _ _ rfl hS) ?_)))) | (refine wpList_is (.store _ _ _) rfl ?_; go_must ((refine wpList_stp (by kernel_rfl) (stp_sta _ _ _ rfl hS ?_))); clear hS; intro w hS) | (refine wpList_is (.alloc _) rfl ?_; go_must (refine wpList_stp (by kernel_rfl) (stp_al _ rfl hS ?_)); clear hS; intro bN w hbN hS))
    refine bodyPost_ret (res_ct rfl hS) rfl ?_
    exact hR' _ hT hS.pick
  case pos =>
  subst h0
  have he' := Lib.hid he
  obtain ⟨L, j, rfl, rfl, hj, hck, _, _, hob⟩ := wi_zero he
  obtain ⟨hW, b, bl, cap, sp, rfl, rfl⟩ := id hT
  obtain ⟨⟨st, gn, o'⟩, hx⟩ : ∃ x, L.getD j zHs = x := ⟨_, rfl⟩
  obtain ⟨a1, a2, a3, a4, a5, a6⟩ := rh_at hW hj hx bl cap sp
  have hoo : o' = o := by rw [← ho]; unfold obR; rw [he, if_pos rfl, hob, hx]
  subst hoo
  have hoW : ObW o' := by have := hW.at hj; rw [hx] at this; exact this
  obtain ⟨n, F, h⟩ := o'
  have a5 : CellsAt (blk [] hsf L sp) (j * 13 + 3) 10 (objC n F h) := a5
  have hF4 : F.length = 4 := hoW.len
  have hA := objAll (n := n) (h := h) hF4
  have hZ := objSize (n := n) (h := h) hF4
  have hO2 := objOver (n := 0) (n' := n) (h := false) (h' := h) (F := zero4) rfl hF4
  have hR' : ∀ w', RH (some ⟨b, 0, none⟩) (some (some L)) [⟨b, #[.bool true, .slice (some ⟨bl, 0, none⟩) L.length cap], 113, true⟩, ⟨bl, blk [] hsf L sp, 115, true⟩] → St w0 bs w' ([⟨b, #[.bool true, .slice (some ⟨bl, 0, none⟩) L.length cap], 113, true⟩, ⟨bl, blk [] hsf L sp, 115, true⟩] ++ H1) → Ret R (.tuple #[.agg (objC n F h), .int .i64 0]) w' := hR
  have a1 := a1 (j : Int) rfl
  clear ho he hob hx hoW hR a2 a3 a4 a6
  go_enter Tryz.func37, Tryz.ntmps37
  go_wp2_with (first | (refine wpList_is (.box 25 _) rfl ?_; go_must (refine wpList_stp (by kernel_rfl) (stp_bx _ _ rfl hS ?_)); clear hS; intro bo w _ hS) | (refine wpList_is (.alloc 42) rfl ?_; go_must (refine wpList_stp (by kernel_rfl) (stp_al _ rfl hS ?_)); clear hS; intro b4 w _ hS) | (go_at_call 86; refine rh_check hS hT j g 0 he'.out ?_; clear hS; intro w _ hS; simp only [List.cons_append, List.nil_append] at hS; unfold Ret) | (refine wpList_is (.load _ _) rfl ?_; go_must ((refine wpList_stp (by kernel_rfl) (stp_val (run_lda _ _ rfl hS) ?_)))))
  refine region_itemsE [⟨(undef, [⟨b4, objC 0 zero4 false, 42, true⟩]), [(9, fun _ y => y.2 = [⟨b4, objC n F h, 42, true⟩])]⟩] (⟨b, #[.bool true, .slice (some ⟨bl, 0, none⟩) L.length cap], 113, true⟩ :: ⟨bl, blk [] hsf L sp, 115, true⟩ :: ⟨bo, #[.int .i64 j, .int .u32 g], 25, true⟩ :: H1) (⟨b4, objC 0 zero4 false, 42, true⟩ :: ⟨b, #[.bool true, .slice (some ⟨bl, 0, none⟩) L.length cap], 113, true⟩ :: ⟨bl, blk [] hsf L sp, 115, true⟩ :: ⟨bo, #[.int .i64 j, .int .u32 g], 25, true⟩ :: H1) (by simp) hS.pick (by kernel_rfl) (by kernel_rfl) ?_
  (refine fx_val (fun _ => rfl) rfl (fun χ w hw => run_mv _ rfl) ?_)
  (refine fx_val (fun _ => rfl) rfl (fun χ w hw => run_nc _ rfl) ?_)
  (refine fx_val (fun _ => rfl) rfl (fun χ w hw => run_fa _ _ _ rfl) ?_)
  (refine fx_val (fun _ => rfl) rfl (fun χ w hw => run_ld _ _ rfl hw) ?_)
  (refine fx_val (fun _ => rfl) rfl (fun χ w hw => run_fa _ _ _ rfl) ?_)
  (refine fx_val (fun _ => rfl) rfl (fun χ w hw => run_ld _ _ rfl hw) ?_)
  (refine fx_val (fun _ => rfl) rfl (fun χ w hw => run_idxv _ _ _ rfl) ?_)
  (refine fx_val (fun _ => rfl) rfl (fun χ w hw => run_fa _ _ _ rfl) ?_)
  (refine fx_val (fun _ => rfl) rfl (fun χ w hw => run_lda _ _ rfl hw) ?_)
  refine fx_turn0 0 0 rfl rfl (by (rfl)) (by (rfl)) (by (rfl)) (fun _ => rfl) (fun _ => undef) ?_ ?_
  · intro χ X w _ hS
    exact stepX_sta _ _ _ rfl (show St w0 bs w (⟨b4, objC 0 zero4 false, 42, true⟩ :: (X ++ _)) from hS) (fun w' hS' => ⟨(undef, [⟨b4, objC n F h, 42, true⟩]), rfl, rfl, hS'⟩)
  (refine fx_val (fun _ => rfl) rfl (fun χ w hw => run_as _ rfl) ?_)
  refine fx_end rfl ?_
  intro χ w hok hS
  obtain ⟨h1, _⟩ := hok _ (.head _)
  have hS : St w0 bs w (((χ 9).2 ++ []) ++ (⟨b, #[.bool true, .slice (some ⟨bl, 0, none⟩) L.length cap], 113, true⟩ :: ⟨bl, blk [] hsf L sp, 115, true⟩ :: ⟨bo, #[.int .i64 j, .int .u32 g], 25, true⟩ :: H1)) := hS
  rw [h1] at hS
  simp only [List.cons_append, List.nil_append, List.append_nil] at hS
  clear hok h1
  go_wp2_with ((go_skip))
  refine bodyPost_ret (res_ct rfl hS) rfl ?_
  exact hR' _ hT hS.pick

set_option maxHeartbeats 1000000 in
set_option maxRecDepth 100000 in
theorem rh_load {p : Option Addr} {T : Hp} (hO : St w0 bs w H) (hT : RH p T E) [hc : Cut H E H1] (s g i : Int) (r : Int × Int) (e : Int) (hr : ldR T s g i = r) (he : ldE T s g i = e)
    (hR : ∀ w', RH p T E → St w0 bs w' (E ++ H1) → Ret R (.tuple #[.agg #[.int .i64 r.1, .int .u32 r.2], .int .i64 e]) w') : Calls Tryz.prog 80 #[.pointer p, .agg #[.int .i64 s, .int .u32 g], .int .i64 i] w R := by
  have hS := hO.front (E := E) (H1 := H1)
  clear hO
  obtain ⟨e0, he0⟩ : ∃ e, wiH T s g = e := ⟨_, rfl⟩
  obtain ⟨o, ho⟩ : ∃ o, obR T s g = o := ⟨_, rfl⟩
  have hoW : ObW o := by
    rw [← ho]
    rcases T with _ | _ | L
    · exact zOb_w
    · exact zOb_w
    · unfold obR
      split
      · next h =>
        obtain ⟨L2, j, hL, rfl, hj, _, _, _, hob⟩ := wi_zero h
        obtain ⟨⟩ := hL
        rw [hob]
        exact hT.1.at hj
      · exact zOb_w
  have he' := Lib.hid he0
  have ho' := Lib.hid ho
  have hO2 := objOver (n := 0) (n' := o.1) (h := false) (h' := o.2.2) (F := zero4) rfl hoW.len
  have hA := objAll (n := o.1) (h := o.2.2) hoW.len
  have hZ := objSize (n := o.1) (h := o.2.2) hoW.len
  by_cases h0 : e0 = 0
  case neg =>
    have hE1 : ldE T s g i = e0 := by unfold ldE; rw [he0, if_neg h0]
    have hE2 : ldR T s g i = (0, 0) := by unfold ldR; rw [he0, if_neg h0]
    rw [hE1] at he
    rw [hE2] at hr
    subst he hr
    have q : (e0 != 0) = true := by simpa using h0
    clear he0 hE1 hE2 ho
    go_enter Tryz.func80, Tryz.ntmps80
    go_wp2_with (first | (refine wpList_is (.box 25 _) rfl ?_; go_must (refine wpList_stp (by kernel_rfl) (stp_bx _ _ rfl hS ?_)); clear hS; intro bo w _ hS) | (go_at_call 37; refine rh_object hS hT s g o e0 ho'.out he'.out ?_; clear hS; intro w _ hS; unfold Ret) | (refine wpList_is (.build _ _) rfl ?_; go_must (refine wpList_stp (by kernel_rfl) (stp_val (run_bd _ _ rfl) ?_))) | (refine wpList_is (.load _ _) rfl ?_; go_must ((refine wpList_stp (by kernel_rfl) (stp_val (run_lda _ _ rfl hS) ?_)))) | (refine wpList_is (.store _ _ _) rfl ?_; go_must ((refine wpList_stp (by kernel_rfl) (stp_sta _ _ _ rfl hS ?_))); clear hS; intro w hS) | (refine wpList_is (.alloc _) rfl ?_; go_must (refine wpList_stp (by kernel_rfl) (stp_al _ rfl hS ?_)); clear hS; intro bN w hbN hS))
    refine bodyPost_ret (res_ct rfl hS) rfl ?_
    exact hR _ hT hS.pick
  case pos =>
  subst h0
  have hob : obAt T s = o := by rw [← ho]; unfold obR; rw [he0, if_pos rfl]
  unfold ldR at hr
  unfold ldE at he
  rw [he0, if_pos rfl, hob] at hr he
  have hr' := Lib.hid hr
  have hg' := Lib.hid he
  clear he0 hob ho hr he
  go_enter Tryz.func80, Tryz.ntmps80
  go_wp2_with (first | (refine wpList_is (.box 25 _) rfl ?_; go_must (refine wpList_stp (by kernel_rfl) (stp_bx _ _ rfl hS ?_)); clear hS; intro bo w _ hS) | (go_at_call 37; refine rh_object hS hT s g o 0 ho'.out he'.out ?_; clear hS; intro w _ hS; unfold Ret) | (go_at_call 110; refine rob_get hS hoW i r e hr'.out hg'.out ?_; clear hS; intro w hS; unfold Ret) | (refine wpList_is (.load _ _) rfl ?_; go_must ((refine wpList_stp (by kernel_rfl) (stp_val (run_lda _ _ rfl hS) ?_)))) | (refine wpList_is (.store _ _ _) rfl ?_; go_must ((refine wpList_stp (by kernel_rfl) (stp_sta _ _ _ rfl hS ?_))); clear hS; intro w hS) | (refine wpList_is (.alloc _) rfl ?_; go_must (refine wpList_stp (by kernel_rfl) (stp_al _ rfl hS ?_)); clear hS; intro bN w hbN hS))
  refine bodyPost_ret (res_ct rfl hS) rfl ?_
  exact hR _ hT hS.pick
end Go.Proofs.YtjlihigodggfcaaGreat
