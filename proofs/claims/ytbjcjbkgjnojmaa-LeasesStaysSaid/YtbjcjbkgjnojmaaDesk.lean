/-
  Desks of leases: the plain model; the contracts of New and of the small functions.
-/
import Derived.Test.YtbjcjbkgjnojmaaSlotsC
import Derived.Test.YtbjcjbkgjnojmaaItem
set_option linter.unusedSimpArgs false
set_option linter.unusedVariables false
namespace Go.Mm
open Go Go.RowKit
section
variable {P : Program} {o : Oper} {a : Act} {w : World}
/-- A call of a function value. -/
theorem stepX_callv {f : Nat} {cap : List Value} (y : Operand) (xs : List Operand) (ts : Array TypeId) (ho : o.op = .call { callee := .value y, args := xs.toArray, argTypes := ts }) {vs : List Value} [hE : EvL a xs vs] [hy : Ev a y (.func (.func f) #[] cap.toArray)]
    (he : ∀ args w, (callFunc f args).run P w = .ok (.enter f args) w) {Φ : Value → World → Prop} (h : Calls P f (vs ++ cap).toArray w (fun e w'' => ∃ u, e = .returned u ∧ Φ u w'')) : stepX P o a w Φ := by
  have hr : (execOp a.eval o).run P w = .ok (.enter f (vs ++ cap).toArray) w := by
    have hE' := hE.h
    have hy' := hy.h
    simp [execOp, ho, resolve, invoke, Deferred.ofValue, Act.eval, List.map_toArray, hE', he] at hy' ⊢
    simp [hy', resolve, invoke, Deferred.ofValue, hE', he]
  unfold stepX
  rw [hr]
  exact h
theorem run_mkf (f : Nat) (xs : List Operand) (ho : o.op = .makeFunc (.func f) #[] xs.toArray) {vs : List Value} [hE : EvL a xs vs] : OpVal P o a w (.func (.func f) #[] vs.toArray) := by
  have hE' := hE.h
  unfold OpVal
  simp [execOp, ho, Instr.makeFunc, List.map_toArray, hE']
end
theorem idxArrD {P : Program} {t e : TypeId} {m z b off i : Nat} (ht : P.underlying t = some (.array m e)) (hs : (P.info? e).map (·.size) = some z) (hi : i < m) : IdxV P t (.pointer (some ⟨b, off, none⟩)) i ⟨b, off + i * z, none⟩ := ⟨fun w => by
  have h2 : 0 ≤ (i : Int) := by omega
  simp [Instr.indexAt, asIntOf, run_underlying ht, Instr.sureAddr, hi, run_sizeOf' hs, Addr.add_lit]⟩
end Go.Mm
namespace Go.Proofs.Ytbjcjbkgjnojmaa
open Go.RowKit Go.Mm
variable {R : Ending → World → Prop} {w : World} {w0 : World} {bs : List Nat} {H H' H1 E : List Ent}

/-- A lease: its slot's state and generation, and until when it is granted. -/
abbrev Ls := Int × Int × Int
/-- A desk: none for nil; none of a desk for one that New did not make. -/
abbrev Dk := Option (Option (List Ls))
def tbD (L : List Ls) : List (Int × Int) := L.map (fun x => (x.1, x.2.1))
def unD (L : List Ls) : List Int := L.map (·.2.2)
structure DkW (L : List Ls) : Prop where
  lo : 0 < L.length
  hi : L.length ≤ 64
  tb : TbW (tbD L)
  un : ∀ x ∈ L, 0 ≤ x.2.2 ∧ x.2.2 ≤ 1099511627776
theorem tbD_len (L : List Ls) : (tbD L).length = L.length := by simp [tbD]
theorem tbD_get {L : List Ls} {i : Nat} : (tbD L).getD i (0, 0) = ((L.getD i (0, 0, 0)).1, (L.getD i (0, 0, 0)).2.1) := by
  unfold tbD
  rw [List.getD_eq_getElem?_getD, List.getD_eq_getElem?_getD, List.getElem?_map]
  cases L[i]? <;> rfl
theorem tbD_set {L : List Ls} {i : Nat} {x : Ls} : tbD (L.set i x) = (tbD L).set i (x.1, x.2.1) := by simp [tbD]
theorem tbD_rep (n : Nat) (g : Int) : tbD (List.replicate n (0, g, 0)) = List.replicate n (0, g) := by simp [tbD]
def dkOk : Dk → Bool
  | some (some _) => true
  | _ => false
def dkL : Dk → List Ls
  | some (some L) => L
  | _ => []
def nwOkD (z g : Int) : Bool := decide (1 ≤ z) && decide (z ≤ 64) && decide (1 ≤ g)
def nwD (z g : Int) : Dk := if nwOkD z g then some (some (List.replicate z.toNat (0, g, 0))) else none
def nwDE (z g : Int) : Int := if nwOkD z g then 0 else 2
def spB (n : Int) : Bool := decide (1 ≤ n) && decide (n ≤ 1048576)
def tmB (n : Int) : Bool := decide (0 ≤ n) && decide (n ≤ 1099511627776)
/-- The error of a resource. -/
def wiE (T : Dk) (ok : Bool) (k i g : Int) : Int :=
  match T with
  | some (some L) => if ok && decide (k = 3) && decide (0 ≤ i) && decide (i < 64) && decide (1 ≤ g) then ckE (some (tbD L)) i g else 2
  | _ => 1
def unAt (T : Dk) (i : Int) : Int := ((dkL T).getD i.toNat (0, 0, 0)).2.2
def cpD (T : Dk) : Dk := if dkOk T then T else none

def j64f (x : Int) : List Value := [.int .i64 x]
theorem j64f_len (x : Int) : (j64f x).length = 1 := rfl
theorem j64f_one (x : Int) : ∀ v ∈ j64f x, v.oneCell' = true := by
  intro v hv
  simp only [j64f, List.mem_cons, List.not_mem_nil, or_false] at hv
  rw [hv]; rfl
def padD (L : List Ls) : List Int := unD L ++ List.replicate (64 - L.length) 0
theorem padD_len {L : List Ls} (h : L.length ≤ 64) : (padD L).length = 64 := by simp [padD, unD]; omega
theorem padD_get {L : List Ls} {i : Nat} (h : i < L.length) {x : Ls} (hx : L.getD i (0, 0, 0) = x) : (padD L)[i]? = some x.2.2 := by
  subst hx
  have h1 : i < (unD L).length := by simpa [unD] using h
  unfold padD
  rw [List.getElem?_append_left h1]
  simp [unD, h]
theorem padD_set {L : List Ls} {i : Nat} (h : i < L.length) (x : Ls) : (padD L).set i x.2.2 = padD (L.set i x) := by
  have h1 : i < (List.map (fun x : Ls => x.2.2) L).length := by simpa using h
  simp [padD, unD, List.set_append_left _ _ h1]
theorem padD_eq {L L' : List Ls} (h : unD L = unD L') : padD L = padD L' := by
  have := congrArg List.length h
  simp only [unD, List.length_map] at this
  unfold padD
  rw [h, this]
def deskC (t : Option Addr) (B : List Int) : Array Value := blk [.pointer t] j64f B []
section
variable {t : Option Addr} {B : List Int}
instance desk0 : CellAt (deskC t B) 0 (.pointer t) := blkPre rfl
theorem deskUn {i : Nat} {x : Int} (h : B[i]? = some x) : CellAt (deskC t B) (1 + i) (.int .i64 x) := blkCell j64f_len (i := i) (j := 0) h (by decide) rfl (by simp)
theorem deskUnSet {i : Nat} {x : Int} (h : B[i]? = some x) (y : Int) : SetAt (deskC t B) (1 + i) (.int .i64 y) (deskC t (B.set i y)) := blkSet j64f_len (i := i) (j := 0) h (by decide) rfl (by simp)
theorem deskAll (h : B.length = 64) : CellsAt (deskC t B) 0 65 (deskC t B) := blkAll j64f_len (by rw [h]; rfl)
theorem deskOnes : OneCells (deskC t B) := blkOnes (by simp [Value.oneCell']) j64f_one (by simp)
theorem deskSize (h : B.length = 64) : SizeIs (deskC t B) 65 := blkSize j64f_len (by rw [h]; rfl)
end
def zeroD : List Int := List.replicate 64 0
instance a_desk : AggT Try.prog 72 65 := ⟨by kernel_rfl, by kernel_rfl⟩
instance z_desk : ZeroT Try.prog 72 (deskC none zeroD) := ⟨by kernel_rfl⟩
instance b_desk {p : Option Addr} : BuildT Try.prog 72 [(0, .pointer p)] (deskC p zeroD) := ⟨fun w => by kernel_rfl⟩
instance a_out : AggT Try.prog 29 3 := ⟨by kernel_rfl, by kernel_rfl⟩
instance z_out : ZeroT Try.prog 29 #[.int .i64 0, .int .i64 0, .int .u32 0] := ⟨by kernel_rfl⟩
instance b_out {k i g : Int} : BuildT Try.prog 29 [(0, .int .i64 k), (1, .int .i64 i), (2, .int .u32 g)] #[.int .i64 k, .int .i64 i, .int .u32 g] := ⟨fun w => by kernel_rfl⟩
instance b_out0 : BuildT Try.prog 29 [] #[.int .i64 0, .int .i64 0, .int .u32 0] := ⟨fun w => by kernel_rfl⟩
instance s_dp : ScalarT Try.prog 24 := ⟨by kernel_rfl, by kernel_rfl⟩
instance s_i64 : ScalarT Try.prog 2 := ⟨by kernel_rfl, by kernel_rfl⟩
instance z_i64 : ZeroT Try.prog 2 #[.int .i64 0] := ⟨by kernel_rfl⟩

instance fa_desk0 {b off : Nat} : FieldAt Try.prog 72 0 b off off := ⟨fun w => by kernel_rfl⟩
instance fa_desk1 {b off : Nat} : FieldAt Try.prog 72 1 b off (off + 1) := ⟨fun w => by kernel_rfl⟩
instance fa_ref0 {b off : Nat} : FieldAt Try.prog 81 0 b off off := ⟨fun w => by kernel_rfl⟩
instance fa_ref1 {b off : Nat} : FieldAt Try.prog 81 1 b off (off + 1) := ⟨fun w => by kernel_rfl⟩
instance fa_out0 {b off : Nat} : FieldAt Try.prog 29 0 b off off := ⟨fun w => by kernel_rfl⟩
instance fa_out1 {b off : Nat} : FieldAt Try.prog 29 1 b off (off + 1) := ⟨fun w => by kernel_rfl⟩
instance fa_out2 {b off : Nat} : FieldAt Try.prog 29 2 b off (off + 2) := ⟨fun w => by kernel_rfl⟩

def DA (p : Option Addr) (T : Dk) (E : List Ent) : Prop :=
  match T with
  | none => p = none ∧ E = []
  | some none => ∃ b, p = some ⟨b, 0, none⟩ ∧ E = [⟨b, deskC none zeroD, 72, true⟩]
  | some (some L) => DkW L ∧ ∃ b bt Et, p = some ⟨b, 0, none⟩ ∧ TA (some ⟨bt, 0, none⟩) (some (tbD L)) Et ∧ E = ⟨b, deskC (some ⟨bt, 0, none⟩) (padD L), 72, true⟩ :: Et
theorem DA.nil {p : Option Addr} {T : Dk} (h : DA p T E) : p.isNone = T.isNone := by
  rcases T with _ | _ | L
  · obtain ⟨rfl, _⟩ := h; rfl
  · obtain ⟨b, rfl, _⟩ := h; rfl
  · obtain ⟨_, b, bt, Et, rfl, _⟩ := h; rfl
theorem DA.none : DA none none [] := ⟨rfl, rfl⟩

theorem dmade {p : Option Addr} {T : Dk} (hO : St w0 bs w H) (hT : DA p T E) [hc : Cut H E H1] (b : Bool) (hb : dkOk T = b)
    (hR : ∀ w', St w0 bs w' (E ++ H1) → Ret R (.bool b) w') : Calls Try.prog 37 #[.pointer p] w R := by
  have hS := hO.front (E := E) (H1 := H1)
  clear hO hc
  subst hb
  rcases T with _ | _ | L
  · obtain ⟨rfl, rfl⟩ := hT
    simp only [List.nil_append] at hS
    go_enter Try.func37, Try.ntmps37
    go_wp2_with (first | go_skip | go_skip | (refine wpList_is (.build _ _) rfl ?_; go_must (refine wpList_stp rfl (stp_val (run_bd _ _ rfl) ?_))) | (refine wpList_is (.call { callee := .builtin .clear, args := #[_], argTypes := #[_] }) rfl ?_; go_must (refine wpList_stp rfl (stp_cl _ _ rfl hS (by decide) ?_)); clear hS; intro w hS) | (refine wpList_is (.load _ _) rfl ?_; go_must (first | refine wpList_stp rfl (stp_val (run_ld _ _ rfl hS) ?_) | refine wpList_stp rfl (stp_val (run_lda _ _ rfl hS) ?_) | refine wpList_stp rfl (stp_val (run_ld0 _ _ rfl hS) ?_) | refine wpList_stp rfl (stp_val (run_lda0 _ _ rfl hS) ?_))) | (refine wpList_is (.store _ _ _) rfl ?_; go_must (first | refine wpList_stp rfl (stp_st _ _ _ rfl hS ?_) | refine wpList_stp rfl (stp_sta _ _ _ rfl hS ?_)); clear hS; intro w hS) | (refine wpList_is (.alloc _) rfl ?_; go_must (refine wpList_stp rfl (stp_al _ rfl hS ?_)); clear hS; intro bN w hbN hS) | (refine wpList_is (.box _ _) rfl ?_; go_must (refine wpList_stp rfl (stp_bx _ _ rfl hS ?_)); clear hS; intro bN w hbN hS) | (refine wpList_is (.binOp .eql _ _ (.const (.slice none _ _)) _) rfl ?_; refine wpList_stp rfl (stp_val (run_nse _ _ _ rfl) ?_)) | (refine wpList_is (.binOp .neq _ _ (.const (.slice none _ _)) _) rfl ?_; refine wpList_stp rfl (stp_val (run_nsn _ _ _ rfl) ?_)) | (refine region_quiet hS (by kernel_rfl) (by kernel_rfl) (fun hne => ?_); (repeat (first | go_big_quiet_skip | (go_big_quiet_want; first | (refine quiet_is (.load _ _) rfl ?_; go_must (first | refine quiet_at sw_st (fun w hS => run_ld _ _ rfl hS) ?_ | refine quiet_at sw_st (fun w hS => run_lda _ _ rfl hS) ?_ | refine quiet_at sw_st (fun w hS => run_ld0 _ _ rfl hS) ?_ | refine quiet_at sw_st (fun w hS => run_lda0 _ _ rfl hS) ?_); go_big_quiet_on) | (refine quiet_is (.binOp .eql _ _ (.const (.slice none _ _)) _) rfl ?_; refine quiet_val (fun w _ => run_nse _ _ _ rfl) ?_; go_big_quiet_on) | (refine quiet_is (.binOp .neq _ _ (.const (.slice none _ _)) _) rfl ?_; refine quiet_val (fun w _ => run_nsn _ _ _ rfl) ?_; go_big_quiet_on) | (refine quiet_is (.call { callee := .builtin .len, args := #[_], argTypes := #[_] }) rfl ?_; refine quiet_val (fun w _ => run_lenv _ _ rfl) ?_; go_big_quiet_on) | (refine quiet_is (.indexAddr _ _ _) rfl ?_; refine quiet_val (fun w _ => run_idxv _ _ _ rfl) ?_; go_big_quiet_on) | (refine quiet_is (.binOp .eql _ _ _ _) rfl ?_; refine quiet_val (fun w _ => run_aeq _ _ _ _ rfl) ?_; go_big_quiet_on) | (refine quiet_is (.binOp .neq _ _ _ _) rfl ?_; refine quiet_val (fun w _ => run_ane _ _ _ _ rfl) ?_; go_big_quiet_on) | (go_big_quiet_op; go_big_quiet_on)))); refine wpQuiet_nil ?_; clear hS hne; intro w hS))
    exact hR _ hS.pick
  · obtain ⟨b, rfl, rfl⟩ := hT
    simp only [List.cons_append, List.nil_append] at hS
    go_enter Try.func37, Try.ntmps37
    go_wp2_with (first | go_skip | go_skip | (refine wpList_is (.build _ _) rfl ?_; go_must (refine wpList_stp rfl (stp_val (run_bd _ _ rfl) ?_))) | (refine wpList_is (.call { callee := .builtin .clear, args := #[_], argTypes := #[_] }) rfl ?_; go_must (refine wpList_stp rfl (stp_cl _ _ rfl hS (by decide) ?_)); clear hS; intro w hS) | (refine wpList_is (.load _ _) rfl ?_; go_must (first | refine wpList_stp rfl (stp_val (run_ld _ _ rfl hS) ?_) | refine wpList_stp rfl (stp_val (run_lda _ _ rfl hS) ?_) | refine wpList_stp rfl (stp_val (run_ld0 _ _ rfl hS) ?_) | refine wpList_stp rfl (stp_val (run_lda0 _ _ rfl hS) ?_))) | (refine wpList_is (.store _ _ _) rfl ?_; go_must (first | refine wpList_stp rfl (stp_st _ _ _ rfl hS ?_) | refine wpList_stp rfl (stp_sta _ _ _ rfl hS ?_)); clear hS; intro w hS) | (refine wpList_is (.alloc _) rfl ?_; go_must (refine wpList_stp rfl (stp_al _ rfl hS ?_)); clear hS; intro bN w hbN hS) | (refine wpList_is (.box _ _) rfl ?_; go_must (refine wpList_stp rfl (stp_bx _ _ rfl hS ?_)); clear hS; intro bN w hbN hS) | (refine wpList_is (.binOp .eql _ _ (.const (.slice none _ _)) _) rfl ?_; refine wpList_stp rfl (stp_val (run_nse _ _ _ rfl) ?_)) | (refine wpList_is (.binOp .neq _ _ (.const (.slice none _ _)) _) rfl ?_; refine wpList_stp rfl (stp_val (run_nsn _ _ _ rfl) ?_)) | (refine region_quiet hS (by kernel_rfl) (by kernel_rfl) (fun hne => ?_); (repeat (first | go_big_quiet_skip | (go_big_quiet_want; first | (refine quiet_is (.load _ _) rfl ?_; go_must (first | refine quiet_at sw_st (fun w hS => run_ld _ _ rfl hS) ?_ | refine quiet_at sw_st (fun w hS => run_lda _ _ rfl hS) ?_ | refine quiet_at sw_st (fun w hS => run_ld0 _ _ rfl hS) ?_ | refine quiet_at sw_st (fun w hS => run_lda0 _ _ rfl hS) ?_); go_big_quiet_on) | (refine quiet_is (.binOp .eql _ _ (.const (.slice none _ _)) _) rfl ?_; refine quiet_val (fun w _ => run_nse _ _ _ rfl) ?_; go_big_quiet_on) | (refine quiet_is (.binOp .neq _ _ (.const (.slice none _ _)) _) rfl ?_; refine quiet_val (fun w _ => run_nsn _ _ _ rfl) ?_; go_big_quiet_on) | (refine quiet_is (.call { callee := .builtin .len, args := #[_], argTypes := #[_] }) rfl ?_; refine quiet_val (fun w _ => run_lenv _ _ rfl) ?_; go_big_quiet_on) | (refine quiet_is (.indexAddr _ _ _) rfl ?_; refine quiet_val (fun w _ => run_idxv _ _ _ rfl) ?_; go_big_quiet_on) | (refine quiet_is (.binOp .eql _ _ _ _) rfl ?_; refine quiet_val (fun w _ => run_aeq _ _ _ _ rfl) ?_; go_big_quiet_on) | (refine quiet_is (.binOp .neq _ _ _ _) rfl ?_; refine quiet_val (fun w _ => run_ane _ _ _ _ rfl) ?_; go_big_quiet_on) | (go_big_quiet_op; go_big_quiet_on)))); refine wpQuiet_nil ?_; clear hS hne; intro w hS))
    exact hR _ hS.pick
  · obtain ⟨_, b, bt, Et, rfl, hTt, rfl⟩ := hT
    simp only [List.cons_append, List.nil_append] at hS
    go_enter Try.func37, Try.ntmps37
    go_wp2_with (first | go_skip | go_skip | (refine wpList_is (.build _ _) rfl ?_; go_must (refine wpList_stp rfl (stp_val (run_bd _ _ rfl) ?_))) | (refine wpList_is (.call { callee := .builtin .clear, args := #[_], argTypes := #[_] }) rfl ?_; go_must (refine wpList_stp rfl (stp_cl _ _ rfl hS (by decide) ?_)); clear hS; intro w hS) | (refine wpList_is (.load _ _) rfl ?_; go_must (first | refine wpList_stp rfl (stp_val (run_ld _ _ rfl hS) ?_) | refine wpList_stp rfl (stp_val (run_lda _ _ rfl hS) ?_) | refine wpList_stp rfl (stp_val (run_ld0 _ _ rfl hS) ?_) | refine wpList_stp rfl (stp_val (run_lda0 _ _ rfl hS) ?_))) | (refine wpList_is (.store _ _ _) rfl ?_; go_must (first | refine wpList_stp rfl (stp_st _ _ _ rfl hS ?_) | refine wpList_stp rfl (stp_sta _ _ _ rfl hS ?_)); clear hS; intro w hS) | (refine wpList_is (.alloc _) rfl ?_; go_must (refine wpList_stp rfl (stp_al _ rfl hS ?_)); clear hS; intro bN w hbN hS) | (refine wpList_is (.box _ _) rfl ?_; go_must (refine wpList_stp rfl (stp_bx _ _ rfl hS ?_)); clear hS; intro bN w hbN hS) | (refine wpList_is (.binOp .eql _ _ (.const (.slice none _ _)) _) rfl ?_; refine wpList_stp rfl (stp_val (run_nse _ _ _ rfl) ?_)) | (refine wpList_is (.binOp .neq _ _ (.const (.slice none _ _)) _) rfl ?_; refine wpList_stp rfl (stp_val (run_nsn _ _ _ rfl) ?_)) | (refine region_quiet hS (by kernel_rfl) (by kernel_rfl) (fun hne => ?_); (repeat (first | go_big_quiet_skip | (go_big_quiet_want; first | (refine quiet_is (.load _ _) rfl ?_; go_must (first | refine quiet_at sw_st (fun w hS => run_ld _ _ rfl hS) ?_ | refine quiet_at sw_st (fun w hS => run_lda _ _ rfl hS) ?_ | refine quiet_at sw_st (fun w hS => run_ld0 _ _ rfl hS) ?_ | refine quiet_at sw_st (fun w hS => run_lda0 _ _ rfl hS) ?_); go_big_quiet_on) | (refine quiet_is (.binOp .eql _ _ (.const (.slice none _ _)) _) rfl ?_; refine quiet_val (fun w _ => run_nse _ _ _ rfl) ?_; go_big_quiet_on) | (refine quiet_is (.binOp .neq _ _ (.const (.slice none _ _)) _) rfl ?_; refine quiet_val (fun w _ => run_nsn _ _ _ rfl) ?_; go_big_quiet_on) | (refine quiet_is (.call { callee := .builtin .len, args := #[_], argTypes := #[_] }) rfl ?_; refine quiet_val (fun w _ => run_lenv _ _ rfl) ?_; go_big_quiet_on) | (refine quiet_is (.indexAddr _ _ _) rfl ?_; refine quiet_val (fun w _ => run_idxv _ _ _ rfl) ?_; go_big_quiet_on) | (refine quiet_is (.binOp .eql _ _ _ _) rfl ?_; refine quiet_val (fun w _ => run_aeq _ _ _ _ rfl) ?_; go_big_quiet_on) | (refine quiet_is (.binOp .neq _ _ _ _) rfl ?_; refine quiet_val (fun w _ => run_ane _ _ _ _ rfl) ?_; go_big_quiet_on) | (go_big_quiet_op; go_big_quiet_on)))); refine wpQuiet_nil ?_; clear hS hne; intro w hS))
    exact hR _ hS.pick

theorem span_ok (n : Int) (b : Bool) (hb : spB n = b) (hR : Ret R (.bool b) w) : Calls Try.prog 38 #[.int .i64 n] w R := by
  subst hb
  unfold spB at hR
  by_cases h1 : 1 ≤ n
  · have q1 : decide (1 ≤ n) = true := decide_eq_true h1
    rw [q1] at hR
    go_enter Try.func38, Try.ntmps38
    go_wp2
    exact hR
  · have q1 : decide (1 ≤ n) = false := decide_eq_false h1
    rw [q1] at hR
    go_enter Try.func38, Try.ntmps38
    go_wp2
    exact hR
theorem time_ok (n : Int) (b : Bool) (hb : tmB n = b) (hR : Ret R (.bool b) w) : Calls Try.prog 39 #[.int .i64 n] w R := by
  subst hb
  unfold tmB at hR
  by_cases h1 : 0 ≤ n
  · have q1 : decide (0 ≤ n) = true := decide_eq_true h1
    rw [q1] at hR
    go_enter Try.func39, Try.ntmps39
    go_wp2
    exact hR
  · have q1 : decide (0 ≤ n) = false := decide_eq_false h1
    rw [q1] at hR
    go_enter Try.func39, Try.ntmps39
    go_wp2
    exact hR
theorem end_ok {t n : Int} (ht : spB t = true) (hn : tmB n = true) (hok : n + t ≤ 1099511627776) (hR : Ret R (.tuple #[.int .i64 (n + t), .int .i64 0]) w) : Calls Try.prog 40 #[.int .i64 t, .int .i64 n] w R := by
  simp only [spB, tmB, Bool.and_eq_true, decide_eq_true_eq] at ht hn
  have q : decide (1099511627776 - t < n) = false := decide_eq_false (by omega)
  go_enter Try.func40, Try.ntmps40
  go_wp2
  exact hR
theorem end_no {t n : Int} (ht : spB t = true) (hn : tmB n = true) (hok : ¬ n + t ≤ 1099511627776) (hR : Ret R (.tuple #[.int .i64 0, .int .i64 17]) w) : Calls Try.prog 40 #[.int .i64 t, .int .i64 n] w R := by
  simp only [spB, tmB, Bool.and_eq_true, decide_eq_true_eq] at ht hn
  have q : decide (1099511627776 - t < n) = true := decide_eq_true (by omega)
  go_enter Try.func40, Try.ntmps40
  go_wp2
  exact hR
theorem ref_ok (hO : St w0 bs w H) (k i g : Int) (hR : ∀ w', St w0 bs w' H → Ret R (.agg #[.int .i64 i, .int .u32 g]) w') : Calls Try.prog 48 #[.agg #[.int .i64 k, .int .i64 i, .int .u32 g]] w R := by
  have hS := hO
  clear hO
  go_enter Try.func48, Try.ntmps48
  go_wp2_with (first | go_skip | (refine wpList_is (.box 29 _) rfl ?_; go_must (refine wpList_stp rfl (stp_bx _ _ rfl hS ?_)); clear hS; intro bo w _ hS) | (refine wpList_is (.alloc 81) rfl ?_; go_must (refine wpList_stp rfl (stp_al _ rfl hS ?_)); clear hS; intro br w _ hS) | go_skip | (refine wpList_is (.build _ _) rfl ?_; go_must (refine wpList_stp rfl (stp_val (run_bd _ _ rfl) ?_))) | (refine wpList_is (.call { callee := .builtin .clear, args := #[_], argTypes := #[_] }) rfl ?_; go_must (refine wpList_stp rfl (stp_cl _ _ rfl hS (by decide) ?_)); clear hS; intro w hS) | (refine wpList_is (.load _ _) rfl ?_; go_must (first | refine wpList_stp rfl (stp_val (run_ld _ _ rfl hS) ?_) | refine wpList_stp rfl (stp_val (run_lda _ _ rfl hS) ?_) | refine wpList_stp rfl (stp_val (run_ld0 _ _ rfl hS) ?_) | refine wpList_stp rfl (stp_val (run_lda0 _ _ rfl hS) ?_))) | (refine wpList_is (.store _ _ _) rfl ?_; go_must (first | refine wpList_stp rfl (stp_st _ _ _ rfl hS ?_) | refine wpList_stp rfl (stp_sta _ _ _ rfl hS ?_)); clear hS; intro w hS) | (refine wpList_is (.alloc _) rfl ?_; go_must (refine wpList_stp rfl (stp_al _ rfl hS ?_)); clear hS; intro bN w hbN hS) | (refine wpList_is (.box _ _) rfl ?_; go_must (refine wpList_stp rfl (stp_bx _ _ rfl hS ?_)); clear hS; intro bN w hbN hS) | (refine wpList_is (.binOp .eql _ _ (.const (.slice none _ _)) _) rfl ?_; refine wpList_stp rfl (stp_val (run_nse _ _ _ rfl) ?_)) | (refine wpList_is (.binOp .neq _ _ (.const (.slice none _ _)) _) rfl ?_; refine wpList_stp rfl (stp_val (run_nsn _ _ _ rfl) ?_)))
  refine bodyPost_ret (res_cells1 rfl hS) rfl ?_
  exact hR _ hS.pick

set_option maxHeartbeats 1000000 in
set_option maxRecDepth 100000 in
theorem dk_new (hO : St w0 bs w H) (z g : Int) (hg : 0 ≤ g ∧ g ≤ 4294967295) (T : Dk) (e : Int) (hT0 : nwD z g = T) (he0 : nwDE z g = e) (hR : ∀ p E w', DA p T E → St w0 bs w' (E ++ H) → Ret R (.tuple #[.pointer p, .int .i64 e]) w') :
    Calls Try.prog 10 #[.int .i64 z, .int .u32 g] w R := by
  have hS := hO
  subst hT0 he0
  clear hO
  cases hok : nwOkD z g with
  | true =>
    unfold nwD nwDE at hR
    rw [hok] at hR
    simp only [if_true] at hR
    have hok' := hok
    simp only [nwOkD, Bool.and_eq_true, decide_eq_true_eq] at hok'
    obtain ⟨⟨h1, h2⟩, h5⟩ := hok'
    have q1 : decide (z < 1) = false := decide_eq_false (by omega)
    have q2 : decide (64 < z) = false := decide_eq_false (by omega)
    have hn : nwOk z g = true := by simp only [nwOk, Bool.and_eq_true, decide_eq_true_eq]; omega
    have e1 : nwT z g = some (tbD (List.replicate z.toNat (0, g, 0))) := by unfold nwT; rw [hn, tbD_rep]; rfl
    have e2 : nwE z g = 0 := by unfold nwE; rw [hn]; rfl
    have e1' := Lib.hid e1
    have e2' := Lib.hid e2
    have hW : DkW (List.replicate z.toNat (0, g, 0)) := ⟨by rw [List.length_replicate]; omega, by rw [List.length_replicate]; omega, by rw [tbD_rep]; exact TbW.rep (by omega) (by omega), fun x hx => by rw [(List.mem_replicate.1 hx).2]; simp⟩
    have hpad : padD (List.replicate z.toNat (0, g, 0)) = zeroD := by
      simp only [padD, unD, List.map_replicate, List.length_replicate, zeroD, List.replicate_append_replicate]
      congr 1; omega
    have hpad' := Lib.hid hpad
    clear hok h1 h2 h5 hn e1 e2 hpad
    go_enter Try.func10, Try.ntmps10
    go_wp2_with (first | go_skip | (go_at_call 36; refine sl_new hS z g hg ?_; clear hS; intro pt Et w hTt hS; rw [e1'.out] at hTt; rw [e2'.out]; unfold Ret) | go_skip | (refine wpList_is (.build _ _) rfl ?_; go_must (refine wpList_stp rfl (stp_val (run_bd _ _ rfl) ?_))) | (refine wpList_is (.call { callee := .builtin .clear, args := #[_], argTypes := #[_] }) rfl ?_; go_must (refine wpList_stp rfl (stp_cl _ _ rfl hS (by decide) ?_)); clear hS; intro w hS) | (refine wpList_is (.load _ _) rfl ?_; go_must (first | refine wpList_stp rfl (stp_val (run_ld _ _ rfl hS) ?_) | refine wpList_stp rfl (stp_val (run_lda _ _ rfl hS) ?_) | refine wpList_stp rfl (stp_val (run_ld0 _ _ rfl hS) ?_) | refine wpList_stp rfl (stp_val (run_lda0 _ _ rfl hS) ?_))) | (refine wpList_is (.store _ _ _) rfl ?_; go_must (first | refine wpList_stp rfl (stp_st _ _ _ rfl hS ?_) | refine wpList_stp rfl (stp_sta _ _ _ rfl hS ?_)); clear hS; intro w hS) | (refine wpList_is (.alloc _) rfl ?_; go_must (refine wpList_stp rfl (stp_al _ rfl hS ?_)); clear hS; intro bN w hbN hS) | (refine wpList_is (.box _ _) rfl ?_; go_must (refine wpList_stp rfl (stp_bx _ _ rfl hS ?_)); clear hS; intro bN w hbN hS) | (refine wpList_is (.binOp .eql _ _ (.const (.slice none _ _)) _) rfl ?_; refine wpList_stp rfl (stp_val (run_nse _ _ _ rfl) ?_)) | (refine wpList_is (.binOp .neq _ _ (.const (.slice none _ _)) _) rfl ?_; refine wpList_stp rfl (stp_val (run_nsn _ _ _ rfl) ?_)) | (refine region_quiet hS (by kernel_rfl) (by kernel_rfl) (fun hne => ?_); (repeat (first | go_big_quiet_skip | (go_big_quiet_want; first | (refine quiet_is (.load _ _) rfl ?_; go_must (first | refine quiet_at sw_st (fun w hS => run_ld _ _ rfl hS) ?_ | refine quiet_at sw_st (fun w hS => run_lda _ _ rfl hS) ?_ | refine quiet_at sw_st (fun w hS => run_ld0 _ _ rfl hS) ?_ | refine quiet_at sw_st (fun w hS => run_lda0 _ _ rfl hS) ?_); go_big_quiet_on) | (refine quiet_is (.binOp .eql _ _ (.const (.slice none _ _)) _) rfl ?_; refine quiet_val (fun w _ => run_nse _ _ _ rfl) ?_; go_big_quiet_on) | (refine quiet_is (.binOp .neq _ _ (.const (.slice none _ _)) _) rfl ?_; refine quiet_val (fun w _ => run_nsn _ _ _ rfl) ?_; go_big_quiet_on) | (refine quiet_is (.call { callee := .builtin .len, args := #[_], argTypes := #[_] }) rfl ?_; refine quiet_val (fun w _ => run_lenv _ _ rfl) ?_; go_big_quiet_on) | (refine quiet_is (.indexAddr _ _ _) rfl ?_; refine quiet_val (fun w _ => run_idxv _ _ _ rfl) ?_; go_big_quiet_on) | (refine quiet_is (.binOp .eql _ _ _ _) rfl ?_; refine quiet_val (fun w _ => run_aeq _ _ _ _ rfl) ?_; go_big_quiet_on) | (refine quiet_is (.binOp .neq _ _ _ _) rfl ?_; refine quiet_val (fun w _ => run_ane _ _ _ _ rfl) ?_; go_big_quiet_on) | (go_big_quiet_op; go_big_quiet_on)))); refine wpQuiet_nil ?_; clear hS hne; intro w hS))
    obtain ⟨bt, hpt⟩ : ∃ bt, pt = some ⟨bt, 0, none⟩ := by obtain ⟨_, bt, h, _⟩ := id hTt; exact ⟨bt, h⟩
    subst hpt
    refine hR _ (⟨bN, deskC (some ⟨bt, 0, none⟩) zeroD, 72, true⟩ :: Et) _ ⟨hW, bN, bt, Et, rfl, hTt, ?_⟩ hS
    rw [hpad'.out]
  | false =>
    unfold nwD nwDE at hR
    rw [hok] at hR
    have hno : ¬ nwOkD z g = true := by rw [hok]; simp
    simp only [nwOkD, Bool.and_eq_true, decide_eq_true_eq] at hno
    clear hok
    by_cases h1 : z < 1
    · have q1 : decide (z < 1) = true := decide_eq_true h1
      go_enter Try.func10, Try.ntmps10
      go_wp2_with (first | go_skip | go_skip | (refine wpList_is (.build _ _) rfl ?_; go_must (refine wpList_stp rfl (stp_val (run_bd _ _ rfl) ?_))) | (refine wpList_is (.call { callee := .builtin .clear, args := #[_], argTypes := #[_] }) rfl ?_; go_must (refine wpList_stp rfl (stp_cl _ _ rfl hS (by decide) ?_)); clear hS; intro w hS) | (refine wpList_is (.load _ _) rfl ?_; go_must (first | refine wpList_stp rfl (stp_val (run_ld _ _ rfl hS) ?_) | refine wpList_stp rfl (stp_val (run_lda _ _ rfl hS) ?_) | refine wpList_stp rfl (stp_val (run_ld0 _ _ rfl hS) ?_) | refine wpList_stp rfl (stp_val (run_lda0 _ _ rfl hS) ?_))) | (refine wpList_is (.store _ _ _) rfl ?_; go_must (first | refine wpList_stp rfl (stp_st _ _ _ rfl hS ?_) | refine wpList_stp rfl (stp_sta _ _ _ rfl hS ?_)); clear hS; intro w hS) | (refine wpList_is (.alloc _) rfl ?_; go_must (refine wpList_stp rfl (stp_al _ rfl hS ?_)); clear hS; intro bN w hbN hS) | (refine wpList_is (.box _ _) rfl ?_; go_must (refine wpList_stp rfl (stp_bx _ _ rfl hS ?_)); clear hS; intro bN w hbN hS) | (refine wpList_is (.binOp .eql _ _ (.const (.slice none _ _)) _) rfl ?_; refine wpList_stp rfl (stp_val (run_nse _ _ _ rfl) ?_)) | (refine wpList_is (.binOp .neq _ _ (.const (.slice none _ _)) _) rfl ?_; refine wpList_stp rfl (stp_val (run_nsn _ _ _ rfl) ?_)) | (refine region_quiet hS (by kernel_rfl) (by kernel_rfl) (fun hne => ?_); (repeat (first | go_big_quiet_skip | (go_big_quiet_want; first | (refine quiet_is (.load _ _) rfl ?_; go_must (first | refine quiet_at sw_st (fun w hS => run_ld _ _ rfl hS) ?_ | refine quiet_at sw_st (fun w hS => run_lda _ _ rfl hS) ?_ | refine quiet_at sw_st (fun w hS => run_ld0 _ _ rfl hS) ?_ | refine quiet_at sw_st (fun w hS => run_lda0 _ _ rfl hS) ?_); go_big_quiet_on) | (refine quiet_is (.binOp .eql _ _ (.const (.slice none _ _)) _) rfl ?_; refine quiet_val (fun w _ => run_nse _ _ _ rfl) ?_; go_big_quiet_on) | (refine quiet_is (.binOp .neq _ _ (.const (.slice none _ _)) _) rfl ?_; refine quiet_val (fun w _ => run_nsn _ _ _ rfl) ?_; go_big_quiet_on) | (refine quiet_is (.call { callee := .builtin .len, args := #[_], argTypes := #[_] }) rfl ?_; refine quiet_val (fun w _ => run_lenv _ _ rfl) ?_; go_big_quiet_on) | (refine quiet_is (.indexAddr _ _ _) rfl ?_; refine quiet_val (fun w _ => run_idxv _ _ _ rfl) ?_; go_big_quiet_on) | (refine quiet_is (.binOp .eql _ _ _ _) rfl ?_; refine quiet_val (fun w _ => run_aeq _ _ _ _ rfl) ?_; go_big_quiet_on) | (refine quiet_is (.binOp .neq _ _ _ _) rfl ?_; refine quiet_val (fun w _ => run_ane _ _ _ _ rfl) ?_; go_big_quiet_on) | (go_big_quiet_op; go_big_quiet_on)))); refine wpQuiet_nil ?_; clear hS hne; intro w hS))
      exact hR Option.none [] _ DA.none hS
    have q1 : decide (z < 1) = false := decide_eq_false h1
    by_cases h2 : 64 < z
    · have q2 : decide (64 < z) = true := decide_eq_true h2
      go_enter Try.func10, Try.ntmps10
      go_wp2_with (first | go_skip | go_skip | (refine wpList_is (.build _ _) rfl ?_; go_must (refine wpList_stp rfl (stp_val (run_bd _ _ rfl) ?_))) | (refine wpList_is (.call { callee := .builtin .clear, args := #[_], argTypes := #[_] }) rfl ?_; go_must (refine wpList_stp rfl (stp_cl _ _ rfl hS (by decide) ?_)); clear hS; intro w hS) | (refine wpList_is (.load _ _) rfl ?_; go_must (first | refine wpList_stp rfl (stp_val (run_ld _ _ rfl hS) ?_) | refine wpList_stp rfl (stp_val (run_lda _ _ rfl hS) ?_) | refine wpList_stp rfl (stp_val (run_ld0 _ _ rfl hS) ?_) | refine wpList_stp rfl (stp_val (run_lda0 _ _ rfl hS) ?_))) | (refine wpList_is (.store _ _ _) rfl ?_; go_must (first | refine wpList_stp rfl (stp_st _ _ _ rfl hS ?_) | refine wpList_stp rfl (stp_sta _ _ _ rfl hS ?_)); clear hS; intro w hS) | (refine wpList_is (.alloc _) rfl ?_; go_must (refine wpList_stp rfl (stp_al _ rfl hS ?_)); clear hS; intro bN w hbN hS) | (refine wpList_is (.box _ _) rfl ?_; go_must (refine wpList_stp rfl (stp_bx _ _ rfl hS ?_)); clear hS; intro bN w hbN hS) | (refine wpList_is (.binOp .eql _ _ (.const (.slice none _ _)) _) rfl ?_; refine wpList_stp rfl (stp_val (run_nse _ _ _ rfl) ?_)) | (refine wpList_is (.binOp .neq _ _ (.const (.slice none _ _)) _) rfl ?_; refine wpList_stp rfl (stp_val (run_nsn _ _ _ rfl) ?_)) | (refine region_quiet hS (by kernel_rfl) (by kernel_rfl) (fun hne => ?_); (repeat (first | go_big_quiet_skip | (go_big_quiet_want; first | (refine quiet_is (.load _ _) rfl ?_; go_must (first | refine quiet_at sw_st (fun w hS => run_ld _ _ rfl hS) ?_ | refine quiet_at sw_st (fun w hS => run_lda _ _ rfl hS) ?_ | refine quiet_at sw_st (fun w hS => run_ld0 _ _ rfl hS) ?_ | refine quiet_at sw_st (fun w hS => run_lda0 _ _ rfl hS) ?_); go_big_quiet_on) | (refine quiet_is (.binOp .eql _ _ (.const (.slice none _ _)) _) rfl ?_; refine quiet_val (fun w _ => run_nse _ _ _ rfl) ?_; go_big_quiet_on) | (refine quiet_is (.binOp .neq _ _ (.const (.slice none _ _)) _) rfl ?_; refine quiet_val (fun w _ => run_nsn _ _ _ rfl) ?_; go_big_quiet_on) | (refine quiet_is (.call { callee := .builtin .len, args := #[_], argTypes := #[_] }) rfl ?_; refine quiet_val (fun w _ => run_lenv _ _ rfl) ?_; go_big_quiet_on) | (refine quiet_is (.indexAddr _ _ _) rfl ?_; refine quiet_val (fun w _ => run_idxv _ _ _ rfl) ?_; go_big_quiet_on) | (refine quiet_is (.binOp .eql _ _ _ _) rfl ?_; refine quiet_val (fun w _ => run_aeq _ _ _ _ rfl) ?_; go_big_quiet_on) | (refine quiet_is (.binOp .neq _ _ _ _) rfl ?_; refine quiet_val (fun w _ => run_ane _ _ _ _ rfl) ?_; go_big_quiet_on) | (go_big_quiet_op; go_big_quiet_on)))); refine wpQuiet_nil ?_; clear hS hne; intro w hS))
      exact hR Option.none [] _ DA.none hS
    have q2 : decide (64 < z) = false := decide_eq_false h2
    have hn : nwOk z g = false := by
      rw [Bool.eq_false_iff]
      simp only [ne_eq, nwOk, Bool.and_eq_true, decide_eq_true_eq]
      omega
    have e1 : nwT z g = none := by unfold nwT; rw [hn]; rfl
    have e2 : nwE z g = 2 := by unfold nwE; rw [hn]; rfl
    have e1' := Lib.hid e1
    have e2' := Lib.hid e2
    clear hno hn e1 e2
    go_enter Try.func10, Try.ntmps10
    go_wp2_with (first | go_skip | (go_at_call 36; refine sl_new hS z g hg ?_; clear hS; intro pt Et w hTt hS; rw [e1'.out] at hTt; rw [e2'.out]; unfold Ret) | go_skip | (refine wpList_is (.build _ _) rfl ?_; go_must (refine wpList_stp rfl (stp_val (run_bd _ _ rfl) ?_))) | (refine wpList_is (.call { callee := .builtin .clear, args := #[_], argTypes := #[_] }) rfl ?_; go_must (refine wpList_stp rfl (stp_cl _ _ rfl hS (by decide) ?_)); clear hS; intro w hS) | (refine wpList_is (.load _ _) rfl ?_; go_must (first | refine wpList_stp rfl (stp_val (run_ld _ _ rfl hS) ?_) | refine wpList_stp rfl (stp_val (run_lda _ _ rfl hS) ?_) | refine wpList_stp rfl (stp_val (run_ld0 _ _ rfl hS) ?_) | refine wpList_stp rfl (stp_val (run_lda0 _ _ rfl hS) ?_))) | (refine wpList_is (.store _ _ _) rfl ?_; go_must (first | refine wpList_stp rfl (stp_st _ _ _ rfl hS ?_) | refine wpList_stp rfl (stp_sta _ _ _ rfl hS ?_)); clear hS; intro w hS) | (refine wpList_is (.alloc _) rfl ?_; go_must (refine wpList_stp rfl (stp_al _ rfl hS ?_)); clear hS; intro bN w hbN hS) | (refine wpList_is (.box _ _) rfl ?_; go_must (refine wpList_stp rfl (stp_bx _ _ rfl hS ?_)); clear hS; intro bN w hbN hS) | (refine wpList_is (.binOp .eql _ _ (.const (.slice none _ _)) _) rfl ?_; refine wpList_stp rfl (stp_val (run_nse _ _ _ rfl) ?_)) | (refine wpList_is (.binOp .neq _ _ (.const (.slice none _ _)) _) rfl ?_; refine wpList_stp rfl (stp_val (run_nsn _ _ _ rfl) ?_)) | (refine region_quiet hS (by kernel_rfl) (by kernel_rfl) (fun hne => ?_); (repeat (first | go_big_quiet_skip | (go_big_quiet_want; first | (refine quiet_is (.load _ _) rfl ?_; go_must (first | refine quiet_at sw_st (fun w hS => run_ld _ _ rfl hS) ?_ | refine quiet_at sw_st (fun w hS => run_lda _ _ rfl hS) ?_ | refine quiet_at sw_st (fun w hS => run_ld0 _ _ rfl hS) ?_ | refine quiet_at sw_st (fun w hS => run_lda0 _ _ rfl hS) ?_); go_big_quiet_on) | (refine quiet_is (.binOp .eql _ _ (.const (.slice none _ _)) _) rfl ?_; refine quiet_val (fun w _ => run_nse _ _ _ rfl) ?_; go_big_quiet_on) | (refine quiet_is (.binOp .neq _ _ (.const (.slice none _ _)) _) rfl ?_; refine quiet_val (fun w _ => run_nsn _ _ _ rfl) ?_; go_big_quiet_on) | (refine quiet_is (.call { callee := .builtin .len, args := #[_], argTypes := #[_] }) rfl ?_; refine quiet_val (fun w _ => run_lenv _ _ rfl) ?_; go_big_quiet_on) | (refine quiet_is (.indexAddr _ _ _) rfl ?_; refine quiet_val (fun w _ => run_idxv _ _ _ rfl) ?_; go_big_quiet_on) | (refine quiet_is (.binOp .eql _ _ _ _) rfl ?_; refine quiet_val (fun w _ => run_aeq _ _ _ _ rfl) ?_; go_big_quiet_on) | (refine quiet_is (.binOp .neq _ _ _ _) rfl ?_; refine quiet_val (fun w _ => run_ane _ _ _ _ rfl) ?_; go_big_quiet_on) | (go_big_quiet_op; go_big_quiet_on)))); refine wpQuiet_nil ?_; clear hS hne; intro w hS))
    exact hR Option.none [] _ DA.none hS.pick
end Go.Proofs.Ytbjcjbkgjnojmaa
