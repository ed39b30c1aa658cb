/-
  Heaps: the plain model; the contracts of New, valid and with.
-/
import Derived.Test.YtjlihigodggfcaaGreatHobj
import Derived.Test.YtjlihigodggfcaaGreatSlotsC
import Derived.Test.YtjlihigodggfcaaGreatRgn
set_option linter.unusedSimpArgs false
set_option linter.unusedVariables false
namespace Go.Mm
open Go Go.RowKit
section
variable {P : Program} {o : Oper} {a : Act} {w : World}
/-- A call of a function value. -/
theorem stepX_callv {f : Nat} {cap : List Value} (y : Operand) (xs : List Operand) (ts : Array TypeId) (ho : o.op = .call { callee := .value y, args := xs.toArray, argTypes := ts }) {vs : List Value} [hE : EvL a xs vs] [hy : Ev a y (.func (.func f) #[] cap.toArray)]
    (he : ∀ args w, (callFunc f args).run P w = .ok (.enter f args) w) {Φ : Value → World → Prop} (h : Calls P f (vs ++ cap).toArray w (fun e w'' => ∃ u, e = .returned u ∧ Φ u w'')) : stepX P o a w Φ := by
  have hr : (execOp a.eval o).run P w = .ok (.enter f (vs ++ cap).toArray) w := by
    have hE' := hE.h
    have hy' := hy.h
    simp [execOp, ho, resolve, invoke, Deferred.ofValue, Act.eval, List.map_toArray, hE', he] at hy' ⊢
    simp [hy', resolve, invoke, Deferred.ofValue, hE', he]
  unfold stepX
  rw [hr]
  exact h
theorem run_mkf (f : Nat) (xs : List Operand) (ho : o.op = .makeFunc (.func f) #[] xs.toArray) {vs : List Value} [hE : EvL a xs vs] : OpVal P o a w (.func (.func f) #[] vs.toArray) := by
  have hE' := hE.h
  unfold OpVal
  simp [execOp, ho, Instr.makeFunc, List.map_toArray, hE']
end
end Go.Mm
namespace Go.Proofs.YtjlihigodggfcaaGreat
open Go.RowKit Go.Mm
variable {R : Ending → World → Prop} {w : World} {w0 : World} {bs : List Nat} {H H' H1 E : List Ent}

/-- A slot of a heap: its state, its generation, and its object. -/
abbrev Hs := Int × Int × Ob
/-- A heap: none for nil; none of a heap for one that New did not make. -/
abbrev Hp := Option (Option (List Hs))
abbrev zHs : Hs := (0, 0, zOb)
def tbH (L : List Hs) : List (Int × Int) := L.map (fun x => (x.1, x.2.1))
def obH (L : List Hs) : List Ob := L.map (·.2.2)
structure HpW (L : List Hs) : Prop where
  lo : 0 < L.length
  hi : L.length ≤ 256
  tb : TbW (tbH L)
  ob : ∀ x ∈ L, ObW x.2.2
theorem tbH_len (L : List Hs) : (tbH L).length = L.length := by simp [tbH]
theorem tbH_get {L : List Hs} {i : Nat} : (tbH L).getD i (0, 0) = ((L.getD i zHs).1, (L.getD i zHs).2.1) := by
  unfold tbH
  rw [List.getD_eq_getElem?_getD, List.getD_eq_getElem?_getD, List.getElem?_map]
  cases L[i]? <;> rfl
theorem tbH_set {L : List Hs} {i : Nat} {x : Hs} : tbH (L.set i x) = (tbH L).set i (x.1, x.2.1) := by simp [tbH]
theorem tbH_rep (n : Nat) (g : Int) : tbH (List.replicate n (0, g, zOb)) = List.replicate n (0, g) := by simp [tbH]
def hpOk : Hp → Bool
  | some (some _) => true
  | _ => false
def hpL : Hp → List Hs
  | some (some L) => L
  | _ => []
def nwH (z g : Int) : Hp := if nwOk z g then some (some (List.replicate z.toNat (0, g, zOb))) else none
/-- The error of a name. -/
def wiH (T : Hp) (s g : Int) : Int := match T with
  | some (some L) => ckE (some (tbH L)) s g
  | _ => 1
def obAt (T : Hp) (s : Int) : Ob := ((hpL T).getD s.toNat zHs).2.2
def cpH (T : Hp) : Hp := if hpOk T then T else none

def fix4 (F : List (Int × Int)) : List (Int × Int) := [F.getD 0 (0, 0), F.getD 1 (0, 0), F.getD 2 (0, 0), F.getD 3 (0, 0)]
theorem fix4_eq {F : List (Int × Int)} (h : F.length = 4) : fix4 F = F := by
  match F, h with
  | [a, b, c, d], _ => rfl
def obf (o : Ob) : List Value := (objC o.1 (fix4 o.2.1) o.2.2).toList
theorem obf_len (o : Ob) : (obf o).length = 10 := rfl
theorem obf_one (o : Ob) : ∀ v ∈ obf o, v.oneCell' = true := fun v hv => objOnes.h v hv
theorem obf_eq {o : Ob} (h : ObW o) : (obf o).toArray = obC o := by
  unfold obf
  rw [fix4_eq h.len]
def padH (L : List Hs) : List Ob := obH L ++ List.replicate (256 - L.length) zOb
theorem padH_len {L : List Hs} (h : L.length ≤ 256) : (padH L).length = 256 := by simp [padH, obH]; omega
theorem padH_get {L : List Hs} {i : Nat} (h : i < L.length) {x : Hs} (hx : L.getD i zHs = x) : (padH L)[i]? = some x.2.2 := by
  subst hx
  have h1 : i < (obH L).length := by simpa [obH] using h
  unfold padH
  rw [List.getElem?_append_left h1]
  simp [obH, h]
theorem padH_set {L : List Hs} {i : Nat} (h : i < L.length) (x : Hs) : (padH L).set i x.2.2 = padH (L.set i x) := by
  have h1 : i < (List.map (fun x : Hs => x.2.2) L).length := by simpa using h
  simp [padH, obH, List.set_append_left _ _ h1]
def hpC (t : Option Addr) (z : Int) (O : List Ob) : Array Value := blk [.pointer t, .int .i64 z] obf O []
section
variable {t : Option Addr} {z : Int} {O : List Ob}
instance hp0 : CellAt (hpC t z O) 0 (.pointer t) := blkPre rfl
instance hp1 : CellAt (hpC t z O) 1 (.int .i64 z) := blkPre rfl
theorem hpOb {i : Nat} {o : Ob} (h : O[i]? = some o) (hW : ObW o) : CellsAt (hpC t z O) (2 + i * 10) 10 (obC o) := by
  rw [← obf_eq hW]
  exact blkCells obf_len h rfl
theorem hpObSet {i : Nat} (h : i < O.length) {o : Ob} (hW : ObW o) : SetsAt (hpC t z O) (2 + i * 10) (obC o) (hpC t z (O.set i o)) := by
  rw [← obf_eq hW]
  exact blkSets obf_len h rfl
theorem hpAll (h : O.length = 256) : CellsAt (hpC t z O) 0 2562 (hpC t z O) := blkAll obf_len (by rw [h]; rfl)
theorem hpOnes : OneCells (hpC t z O) := blkOnes (by simp [Value.oneCell']) obf_one (by simp)
theorem hpSize (h : O.length = 256) : SizeIs (hpC t z O) 2562 := blkSize obf_len (by rw [h]; rfl)
theorem hpPtr (t' : Option Addr) : SetAt (hpC t z O) 0 (.pointer t') (hpC t' z O) := blkPreSet (by simp) rfl
theorem hpOver {cs : Array Value} (hc : cs.size = 2562) (h : O.length = 256) : SetsAt cs 0 (hpC t z O) (hpC t z O) := blkOver obf_len (by rw [hc, h]; rfl)
end
def zero256 : List Ob := List.replicate 256 zOb
instance a_heap : AggT Tryz.prog 104 2562 := ⟨by kernel_rfl, by kernel_rfl⟩
instance z_heap : ZeroT Tryz.prog 104 (hpC none 0 zero256) := ⟨by kernel_rfl⟩
instance b_heap {p : Option Addr} {z : Int} : BuildT Tryz.prog 104 [(0, .pointer p), (1, .int .i64 z)] (hpC p z zero256) := ⟨fun w => by kernel_rfl⟩
instance s_hp : ScalarT Tryz.prog 58 := ⟨by kernel_rfl, by kernel_rfl⟩
instance s_op : ScalarT Tryz.prog 122 := ⟨by kernel_rfl, by kernel_rfl⟩
instance hp_f0 {b off : Nat} : FieldAt Tryz.prog 104 0 b off off := ⟨fun w => by kernel_rfl⟩
instance hp_f1 {b off : Nat} : FieldAt Tryz.prog 104 1 b off (off + 1) := ⟨fun w => by kernel_rfl⟩
instance hp_f2 {b off : Nat} : FieldAt Tryz.prog 104 2 b off (off + 2) := ⟨fun w => by kernel_rfl⟩
instance hp_r0 {b off : Nat} : FieldAt Tryz.prog 25 0 b off off := ⟨fun w => by kernel_rfl⟩
instance hp_r1 {b off : Nat} : FieldAt Tryz.prog 25 1 b off (off + 1) := ⟨fun w => by kernel_rfl⟩

def HA (p : Option Addr) (T : Hp) (E : List Ent) : Prop :=
  match T with
  | none => p = none ∧ E = []
  | some none => ∃ b, p = some ⟨b, 0, none⟩ ∧ E = [⟨b, hpC none 0 zero256, 104, true⟩]
  | some (some L) => HpW L ∧ ∃ b bt Et, p = some ⟨b, 0, none⟩ ∧ TA (some ⟨bt, 0, none⟩) (some (tbH L)) Et ∧ E = ⟨b, hpC (some ⟨bt, 0, none⟩) L.length (padH L), 104, true⟩ :: Et
theorem HA.nil {p : Option Addr} {T : Hp} (h : HA p T E) : p.isNone = T.isNone := by
  rcases T with _ | _ | L
  · obtain ⟨rfl, _⟩ := h; rfl
  · obtain ⟨b, rfl, _⟩ := h; rfl
  · obtain ⟨_, b, bt, Et, rfl, _⟩ := h; rfl
theorem HA.none : HA none none [] := ⟨rfl, rfl⟩

theorem hp_valid {p : Option Addr} {T : Hp} (hO : St w0 bs w H) (hT : HA p T E) [hc : Cut H E H1] (b : Bool) (hb : hpOk T = b)
    (hR : ∀ w', St w0 bs w' (E ++ H1) → Ret R (.bool b) w') : Calls Tryz.prog 93 #[.pointer p] w R := by
  have hS := hO.front (E := E) (H1 := H1)
  clear hO hc
  subst hb
  rcases T with _ | _ | L
  · obtain ⟨rfl, rfl⟩ := hT
    simp only [List.nil_append] at hS
    go_enter Tryz.func93, Tryz.ntmps93
    go_wp2_with ((go_skip))
    exact hR _ hS.pick
  · obtain ⟨b, rfl, rfl⟩ := hT
    simp only [List.cons_append, List.nil_append] at hS
    go_enter Tryz.func93, Tryz.ntmps93
    go_wp2_with ((refine wpList_is (.load _ _) rfl ?_; go_must ((refine wpList_stp (by kernel_rfl) (stp_val (run_ld _ _ rfl hS) ?_)))))
    exact hR _ hS.pick
  · obtain ⟨_, b, bt, Et, rfl, hTt, rfl⟩ := hT
    simp only [List.cons_append, List.nil_append] at hS
    go_enter Tryz.func93, Tryz.ntmps93
    go_wp2_with ((refine wpList_is (.load _ _) rfl ?_; go_must ((refine wpList_stp (by kernel_rfl) (stp_val (run_ld _ _ rfl hS) ?_)))))
    exact hR _ hS.pick

set_option maxHeartbeats 1000000 in
set_option maxRecDepth 100000 in
theorem hp_new (hO : St w0 bs w H) (z g : Int) (hg : 0 ≤ g ∧ g ≤ 4294967295) (T : Hp) (e : Int) (hT0 : nwH z g = T) (he0 : nwE z g = e) (hR : ∀ p E w', HA p T E → St w0 bs w' (E ++ H) → Ret R (.tuple #[.pointer p, .int .i64 e]) w') :
    Calls Tryz.prog 23 #[.int .i64 z, .int .u32 g] w R := by
  have hS := hO
  subst hT0 he0
  clear hO
  cases hok : nwOk z g with
  | true =>
    have e1 : nwT z g = some (tbH (List.replicate z.toNat (0, g, zOb))) := by unfold nwT; rw [hok, tbH_rep]; rfl
    have e2 : nwE z g = 0 := by unfold nwE; rw [hok]; rfl
    unfold nwH at hR
    rw [hok, e2] at hR
    simp only [if_true] at hR
    have hok' := hok
    simp only [nwOk, Bool.and_eq_true, decide_eq_true_eq] at hok'
    obtain ⟨⟨h1, h2⟩, h5⟩ := hok'
    have q1 : decide (z < 1) = false := decide_eq_false (by omega)
    have q2 : decide (256 < z) = false := decide_eq_false (by omega)
    have q3 : decide (g < 1) = false := decide_eq_false (by omega)
    have e1' := Lib.hid e1
    have e2' := Lib.hid e2
    have hW : HpW (List.replicate z.toNat (0, g, zOb)) := ⟨by rw [List.length_replicate]; omega, by rw [List.length_replicate]; omega, by rw [tbH_rep]; exact TbW.rep (by omega) (by omega), fun x hx => by rw [(List.mem_replicate.1 hx).2]; exact zOb_w⟩
    have hpad : padH (List.replicate z.toNat (0, g, zOb)) = zero256 := by
      simp only [padH, obH, List.map_replicate, List.length_replicate, zero256, List.replicate_append_replicate]
      congr 1; omega
    have hz : ((List.replicate z.toNat ((0, g, zOb) : Hs)).length : Int) = z := by rw [List.length_replicate]; omega
    have hpad' := Lib.hid hpad
    have hz' := Lib.hid hz
    clear hok h1 h2 h5 e1 e2 hpad hz
    go_enter Tryz.func23, Tryz.ntmps23
    go_wp2_with (first | (go_at_call 74; refine sl_new hS z g hg ?_; clear hS; intro pt Et w hTt hS; rw [e1'.out] at hTt; rw [e2'.out]; unfold Ret) | (refine wpList_is (.build _ _) rfl ?_; go_must (refine wpList_stp (by kernel_rfl) (stp_val (run_bd _ _ rfl) ?_))) | (refine wpList_is (.box _ _) rfl ?_; go_must (refine wpList_stp (by kernel_rfl) (stp_bx _ _ rfl hS ?_)); clear hS; intro bN w hbN hS))
    obtain ⟨bt, hpt⟩ : ∃ bt, pt = some ⟨bt, 0, none⟩ := by obtain ⟨_, bt, h, _⟩ := id hTt; exact ⟨bt, h⟩
    subst hpt
    refine hR _ (⟨bN, hpC (some ⟨bt, 0, none⟩) z zero256, 104, true⟩ :: Et) _ ⟨hW, bN, bt, Et, rfl, hTt, ?_⟩ hS
    rw [hpad'.out, hz'.out]
  | false =>
    have e2 : nwE z g = 2 := by unfold nwE; rw [hok]; rfl
    unfold nwH at hR
    rw [hok, e2] at hR
    have hno : ¬ nwOk z g = true := by rw [hok]; simp
    simp only [nwOk, Bool.and_eq_true, decide_eq_true_eq] at hno
    clear hok e2
    by_cases h1 : z < 1
    · have q1 : decide (z < 1) = true := decide_eq_true h1
      go_enter Tryz.func23, Tryz.ntmps23
      go_wp2_with ((go_skip))
      exact hR Option.none [] _ HA.none hS
    have q1 : decide (z < 1) = false := decide_eq_false h1
    by_cases h2 : 256 < z
    · have q2 : decide (256 < z) = true := decide_eq_true h2
      go_enter Tryz.func23, Tryz.ntmps23
      go_wp2_with ((go_skip))
      exact hR Option.none [] _ HA.none hS
    have q2 : decide (256 < z) = false := decide_eq_false h2
    have q3 : decide (g < 1) = true := decide_eq_true (by omega)
    go_enter Tryz.func23, Tryz.ntmps23
    go_wp2_with ((go_skip))
    exact hR Option.none [] _ HA.none hS.pick
end Go.Proofs.YtjlihigodggfcaaGreat
