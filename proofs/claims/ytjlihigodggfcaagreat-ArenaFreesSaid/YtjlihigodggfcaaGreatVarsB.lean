/-
  Global variables: the references that are there, in order.
-/
import Derived.Test.YtjlihigodggfcaaGreatVars
import Derived.Test.YtjlihigodggfcaaGreatRfs
import Derived.ChangeKeysEq
set_option linter.unusedSimpArgs false
set_option linter.unusedVariables false
namespace Go.Mm
open Go Go.RowKit
section
variable {P : Program}
/-- Two arrays, held against each other, element by element. -/
theorem eqItems_all (d : Nat) {e : TypeId} {n len : Nat} (xs ys : Array Value) (us vs : Nat → Value) (bb : Nat → Bool)
    (h1 : ∀ i, i < len → ∀ w, (part e xs (i * n)).run P w = .ok (us i) w) (h2 : ∀ i, i < len → ∀ w, (part e ys (i * n)).run P w = .ok (vs i) w) (h3 : ∀ i, i < len → ∀ w, (Op.equalIn d e (us i) (vs i)).run P w = .ok (bb i) w) (w : World) :
    ∀ is : List Nat, (∀ i ∈ is, i < len) → (Op.eqItems d e n xs ys is).run P w = .ok (is.all bb) w
  | [], _ => by simp [Op.eqItems]
  | i :: is, h => by
    have hi := h i (by simp)
    have ih := eqItems_all d xs ys us vs bb h1 h2 h3 w is (fun j hj => h j (by simp [hj]))
    simp only [Op.eqItems, Sem.run_bind, h1 i hi, h2 i hi, h3 i hi, Result.andThen_ok, List.all_cons]
    cases hb : bb i with
    | false => simp
    | true => simp [ih]
theorem arr_items (d : Nat) {t e : TypeId} {len : Nat} {i : TypeInfo} (xs ys : Array Value) (ht : P.underlying t = some (.array len e)) (hi : P.info? e = some i) (us vs : Nat → Value) (bb : Nat → Bool)
    (h1 : ∀ i, i < len → ∀ w, (part e xs (i * P.cellsOf e)).run P w = .ok (us i) w) (h2 : ∀ i, i < len → ∀ w, (part e ys (i * P.cellsOf e)).run P w = .ok (vs i) w) (h3 : ∀ i, i < len → ∀ w, (Op.equalIn d e (us i) (vs i)).run P w = .ok (bb i) w) (w : World) :
    (Op.equalIn (d + 1) t (.agg xs) (.agg ys)).run P w = .ok ((List.range len).all bb) w := by
  rw [run_equalIn_array w d xs ys ht hi]
  exact eqItems_all d xs ys us vs bb h1 h2 h3 w _ (fun i hi => List.mem_range.1 hi)
/-- v[m:] is v'. -/
class SufV (P : Program) (t : TypeId) (v : Value) (m : Int) (v' : outParam Value) : Prop where
  h : ∀ w, (Instr.sliceAt t v (some (.int .i64 m)) none none).run P w = .ok v' w
theorem run_sufv {o : Oper} {a : Act} {w : World} {v : Value} (t : TypeId) (x y : Operand) (ho : o.op = .slice t x (some y) none none) {m : Int} {v' : Value} [hx : Ev a x v] [hy : Ev a y (.int .i64 m)] [hp : SufV P t v m v'] : OpVal P o a w v' := by
  unfold OpVal
  simp only [execOp, ho, hx.h, Option.map_none, Option.map_some, hy.h, Sem.run_bind, hp.h, Result.andThen_ok, Sem.run_pure]
theorem suf_of {t e : TypeId} {z g n cap m : Nat} (ht : P.underlying t = some (.slice e)) (hs : (P.info? e).map (·.size) = some z) (hm : m ≤ n) (hc : m < cap) : SufV P t (.slice (some ⟨g, 0, none⟩) n cap) m (.slice (some ⟨g, m * z, none⟩) (n - m) (cap - m)) := ⟨fun w => by
  have h2 : 0 ≤ (m : Int) := by omega
  have h3 : cap ≠ m := by omega
  simp [Instr.sliceAt, run_underlying ht, Instr.slice, Instr.sliceBounds, Instr.sliceBound, asIntOf, hm, run_sizeOf' hs, h3, Addr.add_lit]⟩
theorem pre_of {t e : TypeId} {z g n cap m : Nat} (ht : P.underlying t = some (.slice e)) (hs : (P.info? e).map (·.size) = some z) (hm : m ≤ cap) (hz : 0 < cap) : PreV P t (.slice (some ⟨g, 0, none⟩) n cap) m (.slice (some ⟨g, 0, none⟩) m cap) := ⟨fun w => by
  have h2 : 0 ≤ (m : Int) := by omega
  have h3 : cap ≠ 0 := by omega
  simp [Instr.sliceAt, run_underlying ht, Instr.slice, Instr.sliceBounds, Instr.sliceBound, asIntOf, hm, run_sizeOf' hs, Addr.add]⟩
theorem idx_of {t e : TypeId} {z g n cap i : Nat} (ht : P.underlying t = some (.slice e)) (hs : (P.info? e).map (·.size) = some z) (hi : i < n) : IdxV P t (.slice (some ⟨g, 0, none⟩) n cap) i ⟨g, i * z, none⟩ := ⟨fun w => by
  have h2 : 0 ≤ (i : Int) := by omega
  simp [Instr.indexAt, asIntOf, run_underlying ht, hi, run_sizeOf' hs, Addr.add_lit]⟩
theorem zero_rows {α : Type} {f : α → List Value} {z : Nat} (hf : ∀ a, (f a).length = z) (hz : 0 < z) (a : α) (n : Nat) : Builtin.zeroCells (f a).toArray n = ((List.replicate n a).flatMap f).toArray := by
  apply Array.ext_getElem?
  intro i
  have hsz : ((List.replicate n a).flatMap f).length = n * z := by rw [flat_len hf, List.length_replicate]
  by_cases hi : i < n * z
  · have h1 : i / z < n := (Nat.div_lt_iff_lt_mul hz).2 hi
    have h2 : i % z < z := Nat.mod_lt _ hz
    have h3 := flat_get hf (List.replicate n a) (i / z) (i % z) a (by rw [List.getElem?_replicate, if_pos h1]) h2
    rw [show i / z * z + i % z = i by rw [Nat.mul_comm]; exact Nat.div_add_mod i z] at h3
    have h5 : (((List.replicate n a).flatMap f).toArray)[i]? = (f a)[i % z]? := by rw [List.getElem?_toArray, h3]
    rw [h5]
    have h4 : i % z < (f a).length := by rw [hf]; exact h2
    have h6 : (f a)[i % z]? = some ((f a)[i % z]) := List.getElem?_eq_getElem h4
    simp [Builtin.zeroCells, hf, hi, h6]
  · rw [Array.getElem?_eq_none (by simp [Builtin.zeroCells, hf]; omega), Array.getElem?_eq_none (by simp only [List.size_toArray, hsz]; omega)]
theorem blkFill {α : Type} {f : α → List Value} {z : Nat} (hf : ∀ a, (f a).length = z) {R : List α} {post : List Value} {m k : Nat} (hm : m + k = R.length) (a : α) : SetsAt (blk [] f R post) (m * z) ((List.replicate k a).flatMap f).toArray (blk [] f (R.take m ++ List.replicate k a) post) := by
  have h1 : (R.flatMap f).length = R.length * z := flat_len hf R
  have h2 : ((R.take m).flatMap f).length = m * z := by rw [flat_len hf, List.length_take]; congr 1; omega
  have h3 : ((List.replicate k a).flatMap f).length = k * z := by rw [flat_len hf, List.length_replicate]
  have hsp : R.flatMap f = (R.take m).flatMap f ++ (R.drop m).flatMap f := by rw [← List.flatMap_append, List.take_append_drop]
  have h4 : ((R.drop m).flatMap f).length = k * z := by rw [flat_len hf, List.length_drop]; congr 1; omega
  refine ⟨?_, ?_⟩
  · unfold blk
    simp only [List.nil_append, List.size_toArray, h3]
    congr 1
    rw [hsp, List.flatMap_append]
    have e1 : (((R.take m).flatMap f ++ (R.drop m).flatMap f) ++ post).take (m * z) = (R.take m).flatMap f := by
      rw [List.append_assoc]; exact List.take_left' h2
    have e2 : (((R.take m).flatMap f ++ (R.drop m).flatMap f) ++ post).drop (m * z + k * z) = post := by
      exact List.drop_left' (by rw [List.length_append, h2, h4])
    rw [e1, e2, List.append_assoc]
  · rw [blk_size hf, List.size_toArray, h3, ← hm, Nat.add_mul]
    simp only [List.length_nil]
    omega
end
end Go.Mm
namespace Go.Proofs.YtjlihigodggfcaaGreat
open Go.RowKit Go.Mm
variable {R : Ending → World → Prop} {w : World} {w0 : World} {bs : List Nat} {H H' H1 E : List Ent} {L l : List (Int × Int)} {m : Bool} {v : Value}

theorem refEqIn (d : Nat) (s g s' g' : Int) (w : World) : (Op.equalIn (d + 2) 25 (.agg #[.int .i64 s, .int .u32 g]) (.agg #[.int .i64 s', .int .u32 g'])).run Tryz.prog w = .ok (refB s g s' g') w := by
  have h : EqSp Tryz.prog [(3, 0), (23, 1)] #[.int .i64 s, .int .u32 g] #[.int .i64 s', .int .u32 g'] (decide (s = s') && (decide (g = g') && true)) := inferInstance
  have := h.h d w (Program.fieldsOf Tryz.prog 25).toList (by kernel_rfl)
  rw [run_equalIn_agg w (d + 1) _ _ _ (by kernel_rfl) (by kernel_rfl), this]
  simp [refB]
set_option maxRecDepth 100000 in
theorem arrEq (h8 : L.length = 8) (L' : List (Int × Int)) (h8' : L'.length = 8) : AggEq Tryz.prog 105 (fdC L) (fdC L') (decide (L = L')) := by
  have hr : ∀ w, (Op.equalIn 10000 105 (.agg (fdC L)) (.agg (fdC L'))).run Tryz.prog w = .ok (decide (L = L')) w := by
    intro w
    have hc : Program.cellsOf Tryz.prog 25 = 2 := by kernel_rfl
    obtain ⟨inf, _, hinf, _⟩ := e_ref.parts
    rw [arr_items 9999 (e := 25) (len := 8) (fdC L) (fdC L') (by kernel_rfl) hinf (fun i => .agg #[.int .i64 (L.getD i (0, 0)).1, .int .u32 (L.getD i (0, 0)).2])
      (fun i => .agg #[.int .i64 (L'.getD i (0, 0)).1, .int .u32 (L'.getD i (0, 0)).2]) (fun i => refB (L.getD i (0, 0)).1 (L.getD i (0, 0)).2 (L'.getD i (0, 0)).1 (L'.getD i (0, 0)).2)
      (fun i hi w => by rw [hc]; exact run_part_agg a_ref (blkCells (pre := []) slf_len (getD_get (L := L) (i := i) (by omega) rfl) (by simp)) w)
      (fun i hi w => by rw [hc]; exact run_part_agg a_ref (blkCells (pre := []) slf_len (getD_get (L := L') (i := i) (by omega) rfl) (by simp)) w)
      (fun i _ w => refEqIn 9997 _ _ _ _ w)]
    congr 1
    rw [Bool.eq_iff_iff, List.all_eq_true, decide_eq_true_eq]
    constructor
    · intro h
      refine List.ext_getElem (h8.trans h8'.symm) (fun i h1 h2 => ?_)
      have := refB_iff.1 (h i (List.mem_range.2 (by omega)))
      simpa [h1, h2] using this
    · rintro rfl i _
      exact refB_self _ _
  exact ⟨fun w => by rw [run_eql_struct, hr]; rfl, fun w => by rw [run_neq_struct, hr]; rfl, by kernel_rfl⟩
theorem arrEq_b (h8 : L.length = 8) {b : Bool} (h : decide (L = zero8) = b) : AggEq Tryz.prog 105 (fdC L) (fdC zero8) b := by subst h; exact arrEq h8 zero8 rfl
instance b_vl : BuildT Tryz.prog 105 [] (fdC zero8) := ⟨fun w => by kernel_rfl⟩
theorem varL (h : L.length = 8) : CellsAt (varC m L) 1 16 (fdC L) := ⟨fun j hj => by
  simp only [varC, fdC, blk, List.nil_append, List.append_nil, List.cons_append, List.getElem?_toArray]
  rw [show 1 + j = j + 1 by omega, List.getElem?_cons_succ], by simp [fdC, blk_size slf_len, h]⟩

theorem all1 {s g : Int} (b : Bool) (hb : refB s g 0 0 = b) (hR : ∀ w', Chg w w' [] → Ret R (.bool b) w') : Calls Tryz.prog 116 #[.agg #[.int .i64 s, .int .u32 g]] w R := by
  have hS : St w [] w [] := St.start0
  have q := refE hb
  clear hb
  go_enter Tryz.func116, Tryz.ntmps116
  go_wp2_with (first | (refine wpList_is (.binOp .eql _ _ _ _) rfl ?_; refine wpList_stp (by kernel_rfl) (stp_val (run_aeq _ _ _ _ rfl) ?_)) | (refine wpList_is (.build _ _) rfl ?_; go_must (refine wpList_stp (by kernel_rfl) (stp_val (run_bd _ _ rfl) ?_))) | (refine wpList_is (.load _ _) rfl ?_; go_must ((refine wpList_stp (by kernel_rfl) (stp_val (run_lda _ _ rfl hS) ?_)))) | (refine wpList_is (.box _ _) rfl ?_; go_must (refine wpList_stp (by kernel_rfl) (stp_bx _ _ rfl hS ?_)); clear hS; intro bN w hbN hS))
  exact hR _ hS.chg

/-- The first one that is none, or -1. -/
def idxZ (l : List (Int × Int)) : Int := match firstOf (fun i => !nzR (l.getD i (0, 0))) l.length with
  | some i => i
  | none => -1
set_option maxHeartbeats 1000000 in
theorem ref_indexz (hO : St w0 bs w H) (hA : RS v l E) [hc : Cut H E H1] (hl : l.length ≤ 1000)
    (hR : ∀ w', St w0 bs w' (E ++ H1) → Ret R (.int .i64 (idxZ l)) w') : Calls Tryz.prog 126 #[v, .func (.func 116) #[] #[]] w R := by
  have hS := hO.front (E := E) (H1 := H1)
  clear hO hc
  have hlen := hA.len rfl
  have hone := hA.one
  go_enter Tryz.func126, Tryz.ntmps126
  go_wp2_with ((refine wpList_is (.call { callee := .builtin .len, args := #[_], argTypes := #[_] }) rfl ?_; refine wpList_stp (by kernel_rfl) (stp_val (run_lenv _ _ rfl) ?_)))
  go_loopw [8] (fun u wr => ∃ k : Nat, k ≤ l.length ∧ u = .int .i64 k ∧ (∀ j, j < k → nzR (l.getD j (0, 0)) = true) ∧ St w0 bs wr (E ++ H1)) (fun u _ => l.length - (intOf u).toNat)
  case atStart => exact ⟨0, Nat.zero_le _, rfl, fun j hj => absurd hj (Nat.not_lt_zero _), hS⟩
  case round =>
    clear hS
    obtain ⟨k, hk, rfl, hno, hS⟩ := hrel
    by_cases hlt : k < l.length
    · obtain ⟨⟨xs, xg⟩, hx⟩ : ∃ x, l.getD k (0, 0) = x := ⟨_, rfl⟩
      obtain ⟨gx, sp, ix, hh, hcx⟩ := hA.at hlt hx
      have ix := ix k rfl
      simp only at hcx
      have hno' := Lib.hid hno
      obtain ⟨b, hb⟩ : ∃ b, refB xs xg 0 0 = b := ⟨_, rfl⟩
      have hb' := Lib.hid hb
      have hx' := Lib.hid hx
      clear hx hno hb
      cases b with
      | true =>
        have e : idxZ l = k := by
          unfold idxZ
          rw [first_at hlt (fun j hj => by rw [hno'.out j hj]; rfl) (by simp only [hx'.out, nzR, hb'.out]; rfl)]
        rw [e] at hR
        clear e
        go_wp2_with (first | (go_at_call 116; refine all1 true hb'.out ?_; intro w hch; replace hS := hS.nil hch; clear hch; unfold Ret) | (refine wpList_is (.indexAddr _ _ _) rfl ?_; refine wpList_stp (by kernel_rfl) (stp_val (run_idxv _ _ _ rfl) ?_)) | (refine wpList_is (.load _ _) rfl ?_; go_must ((refine wpList_stp (by kernel_rfl) (stp_val (run_lda _ _ rfl hS) ?_)))))
        exact hR _ hS.pick
      | false =>
        go_wp2_with (first | (go_at_call 116; refine all1 false hb'.out ?_; intro w hch; replace hS := hS.nil hch; clear hch; unfold Ret) | (refine wpList_is (.indexAddr _ _ _) rfl ?_; refine wpList_stp (by kernel_rfl) (stp_val (run_idxv _ _ _ rfl) ?_)) | (refine wpList_is (.load _ _) rfl ?_; go_must ((refine wpList_stp (by kernel_rfl) (stp_val (run_lda _ _ rfl hS) ?_)))))
        go_roundw
        case rel =>
          refine ⟨k + 1, by omega, by go_num, fun j hj => ?_, hS.pick⟩
          by_cases e : j = k
          · subst e; rw [hx'.out]; simp only [nzR, hb'.out]; rfl
          · exact hno'.out j (by omega)
        case measure => simp [intOf]; omega
    · obtain rfl : k = l.length := by omega
      have e : idxZ l = -1 := by
        unfold idxZ
        rw [first_no (fun j hj => by rw [hno j hj]; rfl)]
      rw [e] at hR
      clear hno e
      go_wp2_with ((go_skip))
      exact hR _ hS.pick

theorem flt_snoc_yes {k : Nat} (hk : k < l.length) {x : Int × Int} (hx : l.getD k (0, 0) = x) (h : nzR x = true) : (l.take (k + 1)).filter nzR = (l.take k).filter nzR ++ [x] := by
  have e : l[k] = x := by rw [← hx, List.getD_eq_getElem?_getD, List.getElem?_eq_getElem hk]; rfl
  rw [List.take_succ_eq_append_getElem hk, List.filter_append, e]
  simp [h]
theorem flt_snoc_no {k : Nat} (hk : k < l.length) {x : Int × Int} (hx : l.getD k (0, 0) = x) (h : nzR x = false) : (l.take (k + 1)).filter nzR = (l.take k).filter nzR := by
  have e : l[k] = x := by rw [← hx, List.getD_eq_getElem?_getD, List.getElem?_eq_getElem hk]; rfl
  rw [List.take_succ_eq_append_getElem hk, List.filter_append, e]
  simp [h]

set_option maxHeartbeats 2000000 in
set_option maxRecDepth 100000 in
theorem ref_delete (hO : St w0 bs w H) (hA : RS v l E) [hc : Cut H E H1] (hl : l.length ≤ 1000)
    (hR : ∀ v' E' w', RS v' (l.filter nzR) E' → St w0 bs w' (E' ++ H1) → Ret R v' w') : Calls Tryz.prog 114 #[v, .func (.func 116) #[] #[]] w R := by
  have hS := hO.front (E := E) (H1 := H1)
  clear hO hc
  have hone := hA.one
  cases hz : firstOf (fun i => !nzR (l.getD i (0, 0))) l.length with
  | none =>
    have e : idxZ l = -1 := by unfold idxZ; rw [hz]
    have e2 : l.filter nzR = l := by
      rw [List.filter_eq_self]
      intro x hx
      obtain ⟨i, hi, rfl⟩ := List.getElem_of_mem hx
      unfold firstOf at hz
      rw [List.find?_eq_none] at hz
      have := hz i (List.mem_range.2 hi)
      simpa [hi] using this
    rw [e2] at hR
    have e' := Lib.hid e
    have hlen := hA.len rfl
    clear hz e e2
    go_enter Tryz.func114, Tryz.ntmps114
    go_wp2_with ((go_at_call 126; refine ref_indexz hS hA hl ?_; clear hS; intro w hS; rw [e'.out]; unfold Ret))
    exact hR _ _ _ hA hS
  | some k0 =>
    obtain ⟨hk0, hz1, hz2⟩ := first_is hz
    have e : idxZ l = k0 := by unfold idxZ; rw [hz]
    have e' := Lib.hid e
    obtain ⟨gb, cap, sp, rfl, rfl, hcap, hcm, hsp⟩ := hA.some (by omega)
    have hfirst : l.take k0 = (l.take (k0 + 1)).filter nzR := by
      rw [flt_snoc_no hk0 rfl (by simpa using hz1)]
      symm
      rw [List.filter_eq_self]
      intro x hx
      obtain ⟨i, hi, rfl⟩ := List.getElem_of_mem hx
      rw [List.length_take] at hi
      have := hz2 i (by omega)
      rw [List.getElem_take]
      simpa [show i < l.length by omega] using this
    have hA' := Lib.hid hA
    clear hz hz1 hz2 e hA
    obtain ⟨n, hn⟩ : ∃ n, l.length = n := ⟨_, rfl⟩
    rw [hn] at hk0 hcap hl hA' hone
    simp only [List.cons_append, List.nil_append] at hS
    rw [hn]
    have hn' := Lib.hid hn
    have hfirst' := Lib.hid hfirst
    have hsp' := Lib.hid hsp
    clear hfirst hsp hn
    go_enter Tryz.func114, Tryz.ntmps114
    go_wp2_with ((go_at_call 126; refine ref_indexz hS hA'.out (by rw [hn'.out]; exact hl) ?_; clear hS; intro w hS; rw [e'.out]; simp only [List.cons_append, List.nil_append] at hS; unfold Ret))
    have q0 : ((k0 : Int) == -1) = false := beq_eq_false_iff_ne.2 (by omega)
    rw [q0]
    go_loopw [6, 5] (fun u a5 wr => ∃ (j i : Nat) (X : List (Int × Int)), j ≤ n ∧ i < j ∧ u = .int .i64 j ∧ a5 = .int .i64 i ∧ X.length = n ∧ X.take i = (l.take j).filter nzR ∧ X.drop j = l.drop j ∧ St w0 bs wr (⟨gb, blk [] slf X sp, 25, true⟩ :: H1)) (fun u _ _ => n - (intOf u).toNat)
    case atStart => exact ⟨k0 + 1, k0, l, by omega, by omega, by go_num, rfl, hn'.out, hfirst'.out, rfl, hS⟩
    case round =>
      clear hS
      obtain ⟨j, i, X, hjn, hij, rfl, rfl, hX, hXt, hXd, hS⟩ := hrel
      have hXt' := Lib.hid hXt
      have hXd' := Lib.hid hXd
      have hX' := Lib.hid hX
      have hlen : LenV Tryz.prog 81 (.slice (some ⟨gb, 0, none⟩) n cap) n := ⟨⟨_, _, rfl⟩, 25, Tryz.underlying81⟩
      by_cases hlt : j < n
      · have hXj : X.getD j (0, 0) = l.getD j (0, 0) := by
          have := congrArg (fun q => q.getD 0 (0, 0)) hXd
          simpa using this
        obtain ⟨⟨xs, xg⟩, hx⟩ : ∃ x, X.getD j (0, 0) = x := ⟨_, rfl⟩
        have hxl := hXj.symm.trans hx
        have ix := idx_of (P := Tryz.prog) (t := 81) (e := 25) (z := 2) (g := gb) (cap := cap) Tryz.underlying81 (by kernel_rfl) hlt
        have iy := idx_of (P := Tryz.prog) (t := 81) (e := 25) (z := 2) (g := gb) (cap := cap) (n := n) (i := i) Tryz.underlying81 (by kernel_rfl) (by omega)
        have hcx : CellsAt (blk [] slf X sp) (j * 2) 2 #[.int .i64 xs, .int .u32 xg] := blkCells (pre := []) slf_len (getD_get (L := X) (by omega) hx) (by simp)
        have hset : SetsAt (blk [] slf X sp) (i * 2) #[.int .i64 xs, .int .u32 xg] (blk [] slf (X.set i (xs, xg)) sp) := blkSets (pre := []) slf_len (a' := (xs, xg)) (by omega) (by simp)
        obtain ⟨b, hb⟩ : ∃ b, refB xs xg 0 0 = b := ⟨_, rfl⟩
        have hb' := Lib.hid hb
        have hxl' := Lib.hid hxl
        clear hXt hXd hX hXj hx hxl hb
        cases b with
        | true =>
          go_wp2_with (first | (go_at_call 116; refine all1 true hb'.out ?_; intro w hch; replace hS := hS.nil hch; clear hch; unfold Ret) | (refine wpList_is (.call { callee := .builtin .len, args := #[_], argTypes := #[_] }) rfl ?_; refine wpList_stp (by kernel_rfl) (stp_val (run_lenv _ _ rfl) ?_)) | (refine wpList_is (.indexAddr _ _ _) rfl ?_; refine wpList_stp (by kernel_rfl) (stp_val (run_idxv _ _ _ rfl) ?_)) | (refine wpList_is (.load _ _) rfl ?_; go_must ((refine wpList_stp (by kernel_rfl) (stp_val (run_lda _ _ rfl hS) ?_)))) | (refine wpList_is (.store _ _ _) rfl ?_; go_must ((refine wpList_stp (by kernel_rfl) (stp_sta _ _ _ rfl hS ?_))); clear hS; intro w hS) | (refine wpList_is (.alloc _) rfl ?_; go_must (refine wpList_stp (by kernel_rfl) (stp_al _ rfl hS ?_)); clear hS; intro bN w hbN hS))
          go_roundw
          case rel =>
            refine ⟨j + 1, i, X, by omega, by omega, by go_num, rfl, hX'.out, ?_, ?_, hS.pick⟩
            · rw [hXt'.out, flt_snoc_no (by rw [hn'.out]; exact hlt) hxl'.out (by simp only [nzR, hb'.out]; rfl)]
            · rw [← List.drop_drop, ← List.drop_drop, hXd'.out]
          case measure => simp [intOf]; omega
        | false =>
          go_wp2_with (first | (go_at_call 116; refine all1 false hb'.out ?_; intro w hch; replace hS := hS.nil hch; clear hch; unfold Ret) | (refine wpList_is (.call { callee := .builtin .len, args := #[_], argTypes := #[_] }) rfl ?_; refine wpList_stp (by kernel_rfl) (stp_val (run_lenv _ _ rfl) ?_)) | (refine wpList_is (.indexAddr _ _ _) rfl ?_; refine wpList_stp (by kernel_rfl) (stp_val (run_idxv _ _ _ rfl) ?_)) | (refine wpList_is (.load _ _) rfl ?_; go_must ((refine wpList_stp (by kernel_rfl) (stp_val (run_lda _ _ rfl hS) ?_)))) | (refine wpList_is (.store _ _ _) rfl ?_; go_must ((refine wpList_stp (by kernel_rfl) (stp_sta _ _ _ rfl hS ?_))); clear hS; intro w hS) | (refine wpList_is (.alloc _) rfl ?_; go_must (refine wpList_stp (by kernel_rfl) (stp_al _ rfl hS ?_)); clear hS; intro bN w hbN hS))
          go_roundw
          case rel =>
            refine ⟨j + 1, i + 1, X.set i (xs, xg), by omega, by omega, by go_num, by go_num, by rw [List.length_set]; exact hX'.out, ?_, ?_, hS.pick⟩
            · rw [flt_snoc_yes (by rw [hn'.out]; exact hlt) hxl'.out (by simp only [nzR, hb'.out]; rfl), ← hXt'.out]
              have h1 : i < (X.set i (xs, xg)).length := by rw [List.length_set, hX'.out]; omega
              rw [List.take_succ_eq_append_getElem h1, List.take_set_of_le (Nat.le_refl i), List.getElem_set_self]
            · rw [List.drop_set_of_lt (by omega), ← List.drop_drop, ← List.drop_drop, hXd'.out]
          case measure => simp [intOf]; omega
      · obtain ⟨rfl⟩ : n = j := by omega
        have hin : i ≤ n := by omega
        have hsu := suf_of (P := Tryz.prog) (t := 81) (e := 25) (z := 2) (g := gb) (n := n) (cap := cap) (m := i) Tryz.underlying81 (by kernel_rfl) hin (by omega)
        have hpr := pre_of (P := Tryz.prog) (t := 81) (e := 25) (z := 2) (g := gb) (n := n) (cap := cap) (m := i) Tryz.underlying81 (by kernel_rfl) (by omega) (by omega)
        have hzr : Builtin.zeroCells #[.int .i64 0, .int .u32 0] (n - i) = ((List.replicate (n - i) ((0 : Int), (0 : Int))).flatMap slf).toArray := zero_rows slf_len (by decide) (0, 0) (n - i)
        have hone1 : OneCells (Builtin.zeroCells #[.int .i64 0, .int .u32 0] (n - i)) := ⟨by
          rw [hzr]
          intro u hu
          simp only [List.mem_flatMap] at hu
          obtain ⟨x, _, hx⟩ := hu
          exact slf_one x u hx⟩
        have hfill : SetsAt (blk [] slf X sp) (i * 2) (Builtin.zeroCells #[.int .i64 0, .int .u32 0] (n - i)) (blk [] slf (X.take i ++ List.replicate (n - i) (0, 0)) sp) := by
          rw [hzr]; exact blkFill slf_len (by omega) (0, 0)
        clear hXt hXd hX hzr
        go_wp2_with (first | (refine wpList_is (.slice _ _ (some _) none none) rfl ?_; refine wpList_stp rfl (stp_val (run_sufv _ _ _ rfl) ?_)) | (refine wpList_is (.call { callee := .builtin .clear, args := #[_], argTypes := #[_] }) rfl ?_; go_must (refine wpList_stp rfl (stp_cl _ _ rfl hS (by omega) ?_)); clear hS; intro w hS) | (refine wpList_is (.call { callee := .builtin .len, args := #[_], argTypes := #[_] }) rfl ?_; refine wpList_stp (by kernel_rfl) (stp_val (run_lenv _ _ rfl) ?_)) | (refine wpList_is (.slice _ _ none (some _) none) rfl ?_; refine wpList_stp (by kernel_rfl) (stp_val (run_prev _ _ _ rfl) ?_)))
        have hlf : (l.take n).filter nzR = l.filter nzR := by rw [List.take_of_length_le (Nat.le_of_eq hn'.out)]
        have hil : (l.filter nzR).length = i := by rw [← hlf, ← hXt'.out, List.length_take, hX'.out]; omega
        refine hR (.slice (some ⟨gb, 0, none⟩) i cap) [⟨gb, blk [] slf (X.take i ++ List.replicate (n - i) (0, 0)) sp, 25, true⟩] _ ⟨?_, .inr ⟨gb, cap, (List.replicate (n - i) ((0 : Int), (0 : Int))).flatMap slf ++ sp, ?_, ?_, ?_, hcm, ?_⟩⟩ hS
        · rw [flat_len slf_len]
        · rw [hil]
        · rw [← hlf, ← hXt'.out]
          simp [blk, List.flatMap_append]
        · rw [hil]; omega
        · have h1 := hsp'.out
          rw [flat_len slf_len, hn'.out] at h1
          rw [flat_len slf_len, List.length_append, flat_len slf_len, List.length_replicate, hil]
          omega

theorem slAll {g off n : Nat} {t e : TypeId} (P : Program) (ht : P.underlying t = some (.array n e)) {m : Nat} (hs : (P.info? e).map (·.size) = some m) (hn : 0 < n) (w : World) :
    (Instr.sliceAt t (.pointer (some ⟨g, off, none⟩)) none none none).run P w = .ok (.slice (some ⟨g, off, none⟩) n n) w := by
  have h3 : n ≠ 0 := by omega
  simp [Instr.sliceAt, run_underlying ht, Instr.sureAddr, Instr.sliceBounds, run_sizeOf' hs, Addr.add]

set_option maxHeartbeats 1000000 in
set_option maxRecDepth 100000 in
theorem gv_all {p : Option Addr} {T : Gt} (hO : St w0 bs w H) (hT : GA p T E) [hc : Cut H E H1]
    (hR : ∀ v E' w', RS v (alV T) E' → GA p T E → St w0 bs w' (E' ++ (E ++ H1)) → Ret R v w') : Calls Tryz.prog 90 #[.pointer p] w R := by
  have hS := hO.front (E := E) (H1 := H1)
  clear hO
  replace hR : ∀ v E' w', RS v (alV T) E' → St w0 bs w' (E' ++ (E ++ H1)) → Ret R v w' := fun v E' w' h => hR v E' w' h hT
  rcases T with _ | ⟨m, L⟩
  · obtain ⟨rfl, rfl⟩ := hT
    simp only [List.nil_append] at hS
    go_enter Tryz.func90, Tryz.ntmps90
    go_wp2_with ((go_skip))
    exact hR _ [] _ RS.nil hS.pick
  obtain ⟨h8, hm, b, rfl, rfl⟩ := hT
  simp only [List.cons_append, List.nil_append] at hS
  have hcl := varL (m := m) h8
  by_cases hz : L = zero8
  · have e : alV (some (m, L)) = [] := by
      rw [hz]
      show zero8.filter nzR = []
      decide
    rw [e] at hR
    have q := arrEq_b h8 (decide_eq_true hz)
    clear hz e h8 hm
    go_enter Tryz.func90, Tryz.ntmps90
    go_wp2_with (first | (refine wpList_is (.binOp .eql _ _ _ _) rfl ?_; refine wpList_stp (by kernel_rfl) (stp_val (run_aeq _ _ _ _ rfl) ?_)) | (refine wpList_is (.build _ _) rfl ?_; go_must (refine wpList_stp (by kernel_rfl) (stp_val (run_bd _ _ rfl) ?_))) | (refine wpList_is (.load _ _) rfl ?_; go_must ((refine wpList_stp (by kernel_rfl) (stp_val (run_lda _ _ rfl hS) ?_)))))
    exact hR _ [] _ RS.nil hS.pick
  · have q := arrEq_b h8 (decide_eq_false hz)
    have h8' := Lib.hid h8
    have hcl3 : Hid (CellsAt (varC m L) 1 (8 * 2) (L.flatMap slf).toArray) := Lib.hid (by simpa [fdC, blk] using hcl)
    clear hz h8 hm
    go_enter Tryz.func90, Tryz.ntmps90
    go_wp2_with (first | (refine wpList_is (.binOp .eql _ _ _ _) rfl ?_; refine wpList_stp (by kernel_rfl) (stp_val (run_aeq _ _ _ _ rfl) ?_)) | (go_at_call 115; refine ref_clone hS h8'.out hcl3.out (by omega) ?_; clear hS; intro v1 E1 w hA hS; have hone := hA.one; unfold Ret) | (go_at_call 114; refine ref_delete hS hA (by rw [h8'.out]; omega) ?_; clear hS; intro v2 E2 w hA2 hS; have hone2 := hA2.one; unfold Ret) | (refine wpList_is (.build _ _) rfl ?_; go_must (refine wpList_stp (by kernel_rfl) (stp_val (run_bd _ _ rfl) ?_))) | (refine wpList_is (.load _ _) rfl ?_; go_must ((refine wpList_stp (by kernel_rfl) (stp_val (run_lda _ _ rfl hS) ?_)))))
    exact hR _ _ _ hA2 hS.pick

theorem al_len {T : Gt} (h : (vL T).length ≤ 8) : (alV T).length ≤ 8 := Nat.le_trans (List.length_filter_le _ _) h
theorem GA.len8 {p : Option Addr} {T : Gt} (hT : GA p T E) : (alV T).length ≤ 8 := by
  refine al_len ?_
  rcases T with _ | ⟨m, L⟩
  · simp [vL]
  · exact Nat.le_of_eq hT.1
end Go.Proofs.YtjlihigodggfcaaGreat
