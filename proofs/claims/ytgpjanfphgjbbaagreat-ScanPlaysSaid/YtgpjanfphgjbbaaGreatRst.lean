/-
  Stacks: the document's stacks, in the same model as the program's.
-/
import Derived.Test.YtgpjanfphgjbbaaGreatSta
import Derived.Test.YtgpjanfphgjbbaaGreatSca
import Derived.Test.YtgpjanfphgjbbaaGreatItemS
import Derived.Test.YtgpjanfphgjbbaaGreatRgn
set_option linter.unusedSimpArgs false
set_option linter.unusedVariables false
namespace Go.Mm
open Go Go.RowKit
section
variable {P : Program} {o : Oper} {a : Act} {w w0 : World} {bs : List Nat} {H H1 : List Ent} {v : Value} {post : Act → World → Prop}
/-- Nothing is appended. -/
theorem stp_apy (s x : Operand) (t t' : TypeId) (ho : o.op = .call { callee := .builtin .append, args := #[s, x], argTypes := #[t, t'] }) (htt : t' = t) {e : TypeId} [ht : SliceT P t e] {size bytes : Nat} {zs : Array Value} [he : ElemT P e size bytes zs]
    {n : Nat} {xs : List Value} {E : List Ent} (hsl : Sl e size v n xs E) [hs : Ev a s v] [hx : Ev a x (.slice none 0 0)] {a' : Value → Act} [hp : ∀ v, Put a o.dst v (a' v)] (h : post (a' v) w) : Stp P o a w post := by
  subst htt
  obtain ⟨i, z, hi, hz, rfl, rfl, rfl⟩ := he.parts
  have hr : (Builtin.append_ #[t', t'] o.type #[v, .slice none 0 0]).run P w = .ok v w := by
    rcases hsl.or with ⟨rfl, rfl, _⟩ | ⟨g, cap, sp, rfl, _, hnc, _, _⟩
    · simp [Builtin.append_, run_underlying ht.h, sizeOf, typeInfo, hi, Builtin.lenOf, Builtin.firstCells, loadCells, loadCellsFrom]
    · simp [Builtin.append_, run_underlying ht.h, sizeOf, typeInfo, hi, Builtin.lenOf, Builtin.firstCells, loadCells, loadCellsFrom, hnc, storeCells]
  refine ⟨.value v, w, ?_, .inl ⟨_, rfl, by rw [(hp _).h]; exact h⟩⟩
  simp only [execOp, ho, resolve, invoke, builtin, Sem.run_bind, Sem.run_pure, Result.andThen_ok, List.map_toArray, List.map_cons, List.map_nil, hs.h, hx.h, hr]
end
end Go.Mm
namespace Go.Proofs.YtgpjanfphgjbbaaGreat
open Go Go.RowKit Go.Mm
variable {R : Ending → World → Prop} {w : World} {w0 : World} {bs : List Nat} {H H' H1 E : List Ent}
theorem flatI (l : List Int) : OneCells (l.flatMap i1f).toArray := ⟨by
  intro v hv
  simp only [List.mem_flatMap] at hv
  obtain ⟨y, _, hy⟩ := hv
  exact i1f_one y v hy⟩
/-- Append of a slice of integers to one of the call's own. -/
theorem stp_apI {o : Oper} {a : Act} {v y : Value} {l0 l : List Int} {E0 e : List Ent} {post : Act → World → Prop} (s x : Operand) (t t' : TypeId) (ho : o.op = .call { callee := .builtin .append, args := #[s, x], argTypes := #[t, t'] }) (htt : t' = t) (ht : t = 69)
    (hS : St w0 bs w H) (hs0 : IS v l0 E0) (hy : IS y l e) [hs : Ev a s v] [hx : Ev a x y] [hcut : Cut H E0 H1] [hc2 : Cut H e H'] {a' : Value → Act} [hp : ∀ v, Put a o.dst v (a' v)] (h32 : l0.length + l.length ≤ 1000)
    (h : ∀ v' E' w', IS v' (l0 ++ l) E' → St w0 bs w' (E' ++ H1) → post (a' v') w') : Stp Tryz.prog o a w post := by
  subst ht
  rcases hy.or with ⟨rfl, h0, rfl⟩ | ⟨g, cap, sp, rfl, he, hc1, _, _⟩
  · have hl : l = [] := List.eq_nil_of_length_eq_zero h0
    subst hl
    exact stp_apy s x _ t' ho htt hs0 (h _ _ _ (by simpa using hs0) hS.front)
  · have hb : Has H g ((l.flatMap i1f ++ sp).toArray) 3 := by
      obtain ⟨A, B, e1, _⟩ := hc2.h
      rw [e1, he]
      infer_instance
    have c1 : CellsAt ((l.flatMap i1f ++ sp).toArray) 0 (l.length * 1) (l.flatMap i1f).toArray := ⟨fun j hj => by
      rw [Nat.zero_add, List.getElem?_toArray, List.getElem?_toArray, List.getElem?_append_left (by rw [flat_len i1f_len]; exact hj)], by rw [List.size_toArray, flat_len i1f_len]⟩
    have o1 := flatI l
    refine stp_ap (size := 1) s x _ t' ho htt hS rfl hs0 rfl (by simp only [maxLen]; omega) (by omega) (fun v' E' w' hsl' _ hS' => h _ _ _ ?_ hS')
    unfold IS
    rw [List.length_append, List.flatMap_append]
    simpa using hsl'
/-- A prefix of a slice of integers. -/
theorem IS.pre {v : Value} {l : List Int} (h : IS v l E) {m : Nat} (hm : m ≤ l.length) : ∃ v', PreV Tryz.prog 69 v m v' ∧ IS v' (l.take m) E := by
  have hl : (l.take m).length = m := by rw [List.length_take]; omega
  rcases h.or with ⟨rfl, h0, rfl⟩ | ⟨g, cap, sp, rfl, rfl, h1, h2, h3⟩
  · obtain rfl : l = [] := List.eq_nil_of_length_eq_zero h0
    obtain rfl : m = 0 := by simpa using hm
    refine ⟨.slice none 0 0, ⟨fun w => ?_⟩, IS.nil⟩
    simp [Instr.sliceAt, run_underlying Tryz.underlying69, Instr.slice, Instr.sliceBounds, Instr.sliceBound, asIntOf, run_sizeOf' (P := Tryz.prog) (t := 3) (n := 1) (by kernel_rfl)]
  · refine ⟨.slice (some ⟨g, 0, none⟩) m cap, ⟨fun w => ?_⟩, ?_⟩
    · have h4 : m ≤ cap := by omega
      have h5 : 0 ≤ (m : Int) := by omega
      simp [Instr.sliceAt, run_underlying Tryz.underlying69, Instr.slice, Instr.sliceBounds, Instr.sliceBound, asIntOf, h4, run_sizeOf' (P := Tryz.prog) (t := 3) (n := 1) (by kernel_rfl), Addr.add]
    · unfold IS
      rw [hl]
      have e : l.flatMap i1f = (l.take m).flatMap i1f ++ (l.drop m).flatMap i1f := by rw [← List.flatMap_append, List.take_append_drop]
      refine ⟨by rw [flat_len i1f_len, hl], .inr ⟨g, cap, (l.drop m).flatMap i1f ++ sp, rfl, by rw [e, List.append_assoc], by omega, h2, ?_⟩⟩
      rw [e] at h3
      simp only [List.length_append] at h3 ⊢
      omega
theorem IS.sl {v : Value} {l : List Int} (h : IS v l E) : ∃ a n c, v = .slice a n c := by
  rcases h.or with ⟨rfl, _⟩ | ⟨g, cap, sp, rfl, _⟩
  · exact ⟨_, _, _, rfl⟩
  · exact ⟨_, _, _, rfl⟩
instance sr_sp : ScalarT Tryz.prog 41 := ⟨by kernel_rfl, by kernel_rfl⟩
instance sr_f0 {b off : Nat} : FieldAt Tryz.prog 101 0 b off off := ⟨fun w => by kernel_rfl⟩
instance sr_f1 {b off : Nat} : FieldAt Tryz.prog 101 1 b off (off + 1) := ⟨fun w => by kernel_rfl⟩
instance sr_f2 {b off : Nat} : FieldAt Tryz.prog 101 2 b off (off + 2) := ⟨fun w => by kernel_rfl⟩
instance sr_f3 {b off : Nat} : FieldAt Tryz.prog 101 3 b off (off + 3) := ⟨fun w => by kernel_rfl⟩
instance sr_b1 {z : Int} : BuildT Tryz.prog 101 [(0, .int .i64 z)] #[.int .i64 z, .slice none 0 0, .bool false, .int .i64 0] := ⟨fun w => by kernel_rfl⟩
instance sr_b4 {z h : Int} {o : Bool} {a : Option Addr} {n c : Nat} : BuildT Tryz.prog 101 [(0, .int .i64 z), (1, .slice a n c), (2, .bool o), (3, .int .i64 h)] #[.int .i64 z, .slice a n c, .bool o, .int .i64 h] := ⟨fun w => by kernel_rfl⟩
/-- A stack of the document. -/
def SR (p : Option Addr) (T : Sq) (E : List Ent) : Prop := match T with
  | none => p = none ∧ E = []
  | some none => False
  | some (some (z, o, l)) => 1 ≤ z ∧ z ≤ 64 ∧ l.length ≤ z ∧ ∃ b v ht El, (0 ≤ ht ∧ ht ≤ 64) ∧ IS v l El ∧ p = some ⟨b, 0, none⟩ ∧ E = ⟨b, #[.int .i64 (z : Nat), v, .bool o, .int .i64 ht], 101, true⟩ :: El
theorem SR.nil {p : Option Addr} {T : Sq} {E : List Ent} (h : SR p T E) : p.isNone = T.isNone := by
  rcases T with _ | _ | ⟨z, o, l⟩
  · rw [h.1]; rfl
  · exact h.elim
  · obtain ⟨_, _, _, b, v, ht, El, _, _, rfl, _⟩ := h; rfl
set_option maxRecDepth 100000 in
theorem sr_valid {p : Option Addr} {T : Sq} (hO : St w0 bs w H) (hT : SR p T E) [hc : Cut H E H1] (v : Bool) (hv : okS T = v) (hR : ∀ w', St w0 bs w' (E ++ H1) → Ret R (.bool v) w') :
    Calls Tryz.prog 72 #[.pointer p] w R := by
  have hS := hO.front (E := E) (H1 := H1)
  clear hO
  subst hv
  rcases T with _ | _ | ⟨z, o, l⟩
  · obtain ⟨rfl, rfl⟩ := hT
    go_enter Tryz.func72, Tryz.ntmps72
    go_wp2_with ((go_skip))
    exact hR _ hS
  · exact hT.elim
  · obtain ⟨h1, h2, h3, b, v, ht, El, hh, hI, rfl, rfl⟩ := hT
    simp only [List.cons_append] at hS
    have hone := hI.one
    have d1 : decide ((0 : Int) < (z : Int)) = true := decide_eq_true (by omega)
    have d2 : decide (0 < z) = true := decide_eq_true (by omega)
    go_enter Tryz.func72, Tryz.ntmps72
    go_wp2_with ((refine wpList_is (.load _ _) rfl ?_; go_must ((refine wpList_stp (by kernel_rfl) (stp_val (run_ld _ _ rfl hS) ?_)))))
    exact hR _ hS
set_option maxRecDepth 100000 in
theorem sr_new (hO : St w0 bs w H) (z : Int) (T : Sq) (e : Int) (hT : nwS z = T) (he : (if 1 ≤ z ∧ z ≤ 64 then (0 : Int) else 2) = e) (hR : ∀ p E w', SR p T E → St w0 bs w' (E ++ H) → Ret R (.tuple #[.pointer p, .int .i64 e]) w') :
    Calls Tryz.prog 10 #[.int .i64 z] w R := by
  have hS := hO
  clear hO
  subst hT he
  unfold nwS at hR
  by_cases h1 : z < 1
  · have d1 : decide (z < 1) = true := decide_eq_true h1
    rw [if_neg (by omega), if_neg (by omega)] at hR
    go_enter Tryz.func10, Tryz.ntmps10
    go_wp2_with ((go_skip))
    exact hR none [] _ ⟨rfl, rfl⟩ hS
  · have d1 : decide (z < 1) = false := decide_eq_false h1
    by_cases h2 : 64 < z
    · have d2 : decide (64 < z) = true := decide_eq_true h2
      rw [if_neg (by omega), if_neg (by omega)] at hR
      go_enter Tryz.func10, Tryz.ntmps10
      go_wp2_with ((go_skip))
      exact hR none [] _ ⟨rfl, rfl⟩ hS
    · have d2 : decide (64 < z) = false := decide_eq_false h2
      rw [if_pos (by omega), if_pos (by omega)] at hR
      obtain ⟨n, rfl⟩ : ∃ n : Nat, z = n := ⟨z.toNat, by omega⟩
      rw [Int.toNat_natCast] at hR
      go_enter Tryz.func10, Tryz.ntmps10
      go_wp2_with (first | (refine wpList_is (.box 101 _) rfl ?_; go_must (refine wpList_stp (by kernel_rfl) (stp_bx _ _ rfl hS ?_)); clear hS; intro bn w _ hS) | (refine wpList_is (.build _ _) rfl ?_; go_must (refine wpList_stp (by kernel_rfl) (stp_val (run_bd _ _ rfl) ?_))))
      exact hR _ [⟨bn, #[.int .i64 (n : Nat), .slice none 0 0, .bool false, .int .i64 0], 101, true⟩] _ ⟨by omega, by omega, Nat.zero_le _, bn, _, 0, [], ⟨by decide, by decide⟩, IS.nil, rfl, rfl⟩ hS
set_option maxRecDepth 100000 in
theorem sr_len {p : Option Addr} {T : Sq} (hO : St w0 bs w H) (hT : SR p T E) [hc : Cut H E H1] (n : Nat) (hn : lnS T = n) (hR : ∀ w', SR p T E → St w0 bs w' (E ++ H1) → Ret R (.int .i64 n) w') :
    Calls Tryz.prog 79 #[.pointer p] w R := by
  have hS := hO.front (E := E) (H1 := H1)
  clear hO
  subst hn
  rcases T with _ | _ | ⟨z, o, l⟩
  · go_enter Tryz.func79, Tryz.ntmps79
    go_wp2_with ((go_at_call 72; go_must (refine sr_valid hS hT _ rfl ?_); clear hS; intro w hS; unfold Ret; try simp only [List.cons_append, List.nil_append] at hS))
    exact hR _ hT hS
  · exact hT.elim
  · obtain ⟨h1, h2, h3, b, v, ht, El, hh, hI, rfl, rfl⟩ := id hT
    have hone := hI.one
    have hln := hI.len rfl
    have hR' := hR
    simp only [lnS] at hR'
    clear hR
    go_enter Tryz.func79, Tryz.ntmps79
    go_wp2_with (first | (go_at_call 72; go_must (refine sr_valid hS hT _ rfl ?_); clear hS; intro w hS; unfold Ret; try simp only [List.cons_append, List.nil_append] at hS) | (refine wpList_is (.call { callee := .builtin .len, args := #[_], argTypes := #[_] }) rfl ?_; refine wpList_stp (by kernel_rfl) (stp_val (run_lenv _ _ rfl) ?_)) | (refine wpList_is (.load _ _) rfl ?_; go_must ((refine wpList_stp (by kernel_rfl) (stp_val (run_ld _ _ rfl hS) ?_)))))
    exact hR' _ hT hS
set_option maxRecDepth 100000 in
theorem sr_over {p : Option Addr} {T : Sq} (hO : St w0 bs w H) (hT : SR p T E) [hc : Cut H E H1] (x : Bool) (hx : ovS T = x) (hR : ∀ w', SR p T E → St w0 bs w' (E ++ H1) → Ret R (.bool x) w') :
    Calls Tryz.prog 80 #[.pointer p] w R := by
  have hS := hO.front (E := E) (H1 := H1)
  clear hO
  subst hx
  rcases T with _ | _ | ⟨z, o, l⟩
  · go_enter Tryz.func80, Tryz.ntmps80
    go_wp2_with (first | go_skip | (go_at_call 72; go_must (refine sr_valid hS hT _ rfl ?_); clear hS; intro w hS; unfold Ret; try simp only [List.cons_append, List.nil_append] at hS))
    exact hR _ hT hS
  · exact hT.elim
  · obtain ⟨h1, h2, h3, b, v, ht, El, hh, hI, rfl, rfl⟩ := id hT
    have hone := hI.one
    go_enter Tryz.func80, Tryz.ntmps80
    go_wp2_with (first | (go_at_call 72; go_must (refine sr_valid hS hT _ rfl ?_); clear hS; intro w hS; unfold Ret; try simp only [List.cons_append, List.nil_append] at hS) | (refine wpList_is (.load _ _) rfl ?_; go_must ((refine wpList_stp (by kernel_rfl) (stp_val (run_ld _ _ rfl hS) ?_)))))
    exact hR _ hT hS
set_option maxHeartbeats 1000000 in
set_option maxRecDepth 100000 in
theorem sr_push {p : Option Addr} {T : Sq} (hO : St w0 bs w H) (hT : SR p T E) [hc : Cut H E H1] (x : Int) (T' : Sq) (q : Bool) (e : Int) (hT' : puT T x = T') (hq : puB T x = q) (he : puE T x = e)
    (hR : ∀ E' w', SR p T' E' → St w0 bs w' (E' ++ H1) → Ret R (.tuple #[.bool q, .int .i64 e]) w') : Calls Tryz.prog 57 #[.pointer p, .int .i64 x] w R := by
  have hS := hO.front (E := E) (H1 := H1)
  clear hO
  subst hT' hq he
  rcases T with _ | _ | ⟨z, o, l⟩
  · go_enter Tryz.func57, Tryz.ntmps57
    go_wp2_with ((go_at_call 72; go_must (refine sr_valid hS hT _ rfl ?_); clear hS; intro w hS; unfold Ret; try simp only [List.cons_append, List.nil_append] at hS))
    exact hR _ _ hT hS
  · exact hT.elim
  · obtain ⟨h1, h2, h3, b, v, ht, El, hh, hI, rfl, rfl⟩ := id hT
    have hone := hI.one
    unfold puT puB puE at hR
    by_cases hx : x < 0 ∨ 256 ≤ x
    · simp only [if_pos hx] at hR
      rcases hx with hx | hx
      · have d1 : decide (x < 0) = true := decide_eq_true hx
        go_enter Tryz.func57, Tryz.ntmps57
        go_wp2_with ((go_at_call 72; go_must (refine sr_valid hS hT true rfl ?_); clear hS; intro w hS; unfold Ret; try simp only [List.cons_append, List.nil_append] at hS))
        exact hR _ _ hT hS
      · have d1 : decide (x < 0) = false := decide_eq_false (by omega)
        have d2 : decide (256 ≤ x) = true := decide_eq_true hx
        go_enter Tryz.func57, Tryz.ntmps57
        go_wp2_with ((go_at_call 72; go_must (refine sr_valid hS hT true rfl ?_); clear hS; intro w hS; unfold Ret; try simp only [List.cons_append, List.nil_append] at hS))
        exact hR _ _ hT hS
    · have d1 : decide (x < 0) = false := decide_eq_false (by omega)
      have d2 : decide (256 ≤ x) = false := decide_eq_false (by omega)
      simp only [if_neg hx] at hR
      obtain ⟨n, hn⟩ : ∃ n, l.length = n := ⟨_, rfl⟩
      have hln := hI.len hn
      rw [hn] at hR
      by_cases hf : n = z
      · simp only [if_pos hf] at hR
        have d3 : decide ((n : Int) = (z : Int)) = true := decide_eq_true (by omega)
        have d4 : decide (n = z) = true := decide_eq_true hf
        have d5 : ((n : Int) == (z : Int)) = true := beq_iff_eq.2 (by omega)
        have hq : decide (n ≠ z) = false := decide_eq_false (fun h => h hf)
        rw [hq] at hR
        have hn' := Lib.hid hn
        have hf' := Lib.hid hf
        clear hq hn hf
        go_enter Tryz.func57, Tryz.ntmps57
        go_wp2_with (first | (go_at_call 72; go_must (refine sr_valid hS hT true rfl ?_); clear hS; intro w hS; unfold Ret; try simp only [List.cons_append, List.nil_append] at hS) | (refine region_quiet hS (by kernel_rfl) (by kernel_rfl) (fun hne => ?_); (repeat ((go_big_quiet_want; first | (refine quiet_is (.load _ _) rfl ?_; go_must ((refine quiet_at sw_st (fun w hS => run_ld _ _ rfl hS) ?_)); go_big_quiet_on) | (refine quiet_is (.call { callee := .builtin .len, args := #[_], argTypes := #[_] }) rfl ?_; refine quiet_val (fun w _ => run_lenv _ _ rfl) ?_; go_big_quiet_on) | (go_big_quiet_op; go_big_quiet_on)))); refine wpQuiet_nil ?_; clear hS hne; intro w hS) | (refine wpList_is (.store _ _ _) rfl ?_; go_must ((refine wpList_stp (by kernel_rfl) (stp_st _ _ _ rfl hS ?_))); clear hS; intro w hS))
        exact hR (_ :: El) _ ⟨h1, h2, by have := hn'.out; have := hf'.out; omega, b, v, ht, El, hh, hI, rfl, rfl⟩ hS
      · simp only [if_neg hf] at hR
        have d3 : decide ((n : Int) = (z : Int)) = false := decide_eq_false (by omega)
        have d4 : decide (n = z) = false := decide_eq_false hf
        have d5 : ((n : Int) == (z : Int)) = false := beq_eq_false_iff_ne.2 (by omega)
        have hq : decide (n ≠ z) = true := decide_eq_true hf
        rw [hq] at hR
        obtain ⟨ht', hmx⟩ : ∃ q : Int, (if ((n + 1 : Nat) : Int) > ht then ((n + 1 : Nat) : Int) else ht) = q := ⟨_, rfl⟩
        have mx : MaxIs ht ((n + 1 : Nat) : Int) ht' := ⟨hmx⟩
        have hm2 : 0 ≤ ht' ∧ ht' ≤ 64 := by split at hmx <;> omega
        have hm2' := Lib.hid hm2
        have hn' := Lib.hid hn
        have hnz : n < z := by omega
        have hl64 : ([] : List Int).length + l.length ≤ 1000 := by simp; omega
        clear hq hn hf hmx hm2
        go_enter Tryz.func57, Tryz.ntmps57
        go_wp2_with (first | (go_at_call 72; go_must (refine sr_valid hS hT true rfl ?_); clear hS; intro w hS; unfold Ret; try simp only [List.cons_append, List.nil_append] at hS) | (refine region_quiet hS (by kernel_rfl) (by kernel_rfl) (fun hne => ?_); (repeat ((go_big_quiet_want; first | (refine quiet_is (.load _ _) rfl ?_; go_must ((refine quiet_at sw_st (fun w hS => run_ld _ _ rfl hS) ?_)); go_big_quiet_on) | (refine quiet_is (.call { callee := .builtin .len, args := #[_], argTypes := #[_] }) rfl ?_; refine quiet_val (fun w _ => run_lenv _ _ rfl) ?_; go_big_quiet_on) | (go_big_quiet_op; go_big_quiet_on)))); refine wpQuiet_nil ?_; clear hS hne; intro w hS) | (refine wpList_is (.buildSlice _ 0 _) rfl ?_; go_must (refine wpList_stp rfl (stp_bs0 _ rfl hS ?_)); clear hS; intro bz w _ hS) | (refine wpList_is (.call { callee := .builtin .append, args := #[_, _], argTypes := #[_, _] }) rfl ?_; refine wpList_stp rfl (stp_apI _ _ _ _ rfl rfl rfl hS (show IS _ [] [_] from sl_zero) hI hl64 ?_); clear hS; intro v2 E2 w hI2 hS; rw [List.nil_append] at hI2; have hone2 := hI2.one; have hsl : Sl 3 1 v2 l.length (l.flatMap i1f) E2 := hI2) | (refine wpList_is (.buildSlice _ _ _) rfl ?_; go_must (refine wpList_stp (by kernel_rfl) (stp_bsl _ _ _ rfl hS (by decide) rfl (by decide) (by decide) ?_)); clear hS; intro bN w hbN hS) | (refine wpList_is (.call { callee := .builtin .append, args := #[_, _], argTypes := #[_, _] }) rfl ?_; refine wpList_stp rfl (stp_ap _ _ _ _ rfl rfl hS (by rfl) hsl (by rfl) (by simp only [maxLen]; omega) (by omega) ?_); clear hS; intro v3 E3 w hsl3 _ hS; have hone3 := hsl3.one) | (refine wpList_is (.load _ _) rfl ?_; go_must ((refine wpList_stp (by kernel_rfl) (stp_val (run_ld _ _ rfl hS) ?_)))) | (refine wpList_is (.store _ _ _) rfl ?_; go_must ((refine wpList_stp (by kernel_rfl) (stp_st _ _ _ rfl hS ?_))); clear hS; intro w hS))
        have hI3 : IS v3 (l ++ [x]) E3 := IS.snoc hsl3
        have hln3 := hI3.len (n := n + 1) (by rw [List.length_append, hn'.out]; rfl)
        clear hsl hsl3
        have hS : St w0 bs w (⟨b, #[.int .i64 (z : Nat), v3, .bool o, .int .i64 ht], 101, true⟩ :: (E3 ++ H1)) := hS.pick
        refine region_depsE [⟨(undef, [⟨b, #[.int .i64 (z : Nat), v3, .bool o, .int .i64 ht], 101, true⟩]), [(13, [], fun _ _ zz => zz.2 = [⟨b, #[.int .i64 (z : Nat), v3, .bool o, .int .i64 ht'], 101, true⟩])]⟩]
          (E3 ++ H1) (⟨b, #[.int .i64 (z : Nat), v3, .bool o, .int .i64 ht], 101, true⟩ :: (E3 ++ H1)) (by simp) hS (by kernel_rfl) (by kernel_rfl) ?_
        refine dx_val (fun _ => rfl) rfl (fun χ w hw => run_mv _ rfl) ?_
        refine dx_val (fun _ => rfl) rfl (fun χ w hw => run_mv _ rfl) ?_
        refine dx_val (fun _ => rfl) rfl (fun χ w hw => run_nc _ rfl) ?_
        refine dx_val (fun _ => rfl) rfl (fun χ w hw => run_fa _ _ _ rfl) ?_
        refine dx_valS 0 0 rfl (by kernel_rfl) (fun _ => rfl) rfl (fun _ => .int .i64 ht) (fun _ _ _ => rfl) (fun χ X w _ hS => run_ld _ _ rfl (show St w0 bs w (⟨b, #[.int .i64 (z : Nat), v3, .bool o, .int .i64 ht], 101, true⟩ :: (X ++ _)) from hS)) ?_
        refine dx_val (fun _ => rfl) rfl (fun χ w hw => run_mv _ rfl) ?_
        refine dx_val (fun _ => rfl) rfl (fun χ w hw => run_nc _ rfl) ?_
        refine dx_val (fun _ => rfl) rfl (fun χ w hw => run_fa _ _ _ rfl) ?_
        refine dx_valS 0 0 rfl (by kernel_rfl) (fun _ => rfl) rfl (fun _ => v3) (fun _ _ _ => rfl) (fun χ X w _ hS => run_ld _ _ rfl (show St w0 bs w (⟨b, #[.int .i64 (z : Nat), v3, .bool o, .int .i64 ht], 101, true⟩ :: (X ++ _)) from hS)) ?_
        refine dx_val (fun _ => rfl) rfl (fun χ w hw => run_lenv _ _ rfl) ?_
        refine dx_val (fun _ => rfl) rfl (fun χ w hw => run_maxv _ _ rfl) ?_
        refine dx_val (fun _ => rfl) rfl (fun χ w hw => run_nc _ rfl) ?_
        refine dx_val (fun _ => rfl) rfl (fun χ w hw => run_fa _ _ _ rfl) ?_
        refine dx_turn0 0 0 rfl rfl (by kernel_rfl) (by kernel_rfl) (by kernel_rfl) (by kernel_rfl) (fun _ => rfl) (fun _ => undef) ?_ ?_
        · intro χ X w _ hS
          exact stepX_st _ _ _ rfl (show St w0 bs w (⟨b, #[.int .i64 (z : Nat), v3, .bool o, .int .i64 ht], 101, true⟩ :: (X ++ _)) from hS) (fun w' hS' => ⟨(undef, [⟨b, #[.int .i64 (z : Nat), v3, .bool o, .int .i64 ht'], 101, true⟩]), rfl, rfl, hS'⟩)
        refine dx_end rfl ?_
        intro χ w hok hS
        obtain ⟨hD, _⟩ := hok _ (.head _)
        have hD : (χ 13).2 = [⟨b, #[.int .i64 (z : Nat), v3, .bool o, .int .i64 ht'], 101, true⟩] := hD
        have hS : St w0 bs w (((χ 13).2 ++ []) ++ (E3 ++ H1)) := hS
        rw [hD] at hS
        simp only [List.cons_append, List.nil_append, List.append_assoc] at hS
        clear hok hD
        go_wp2_with ((go_skip))
        exact hR (_ :: E3) _ ⟨h1, h2, by rw [List.length_append, hn'.out]; simp; omega, b, v3, ht', E3, hm2'.out, hI3, rfl, rfl⟩ hS
set_option maxHeartbeats 1000000 in
set_option maxRecDepth 100000 in
theorem sr_pop {p : Option Addr} {T : Sq} (hO : St w0 bs w H) (hT : SR p T E) [hc : Cut H E H1] (T' : Sq) (r : Int) (q : Bool) (hT' : ppT T = T') (hr : ppR T = r) (hq : ppB T = q)
    (hR : ∀ E' w', SR p T' E' → St w0 bs w' (E' ++ H1) → Ret R (.tuple #[.int .i64 r, .bool q]) w') : Calls Tryz.prog 24 #[.pointer p] w R := by
  have hS := hO.front (E := E) (H1 := H1)
  clear hO
  subst hT' hr hq
  rcases T with _ | _ | ⟨z, o, l⟩
  · go_enter Tryz.func24, Tryz.ntmps24
    go_wp2_with (first | go_skip | (go_at_call 72; go_must (refine sr_valid hS hT _ rfl ?_); clear hS; intro w hS; unfold Ret; try simp only [List.cons_append, List.nil_append] at hS))
    exact hR _ _ hT hS
  · exact hT.elim
  · obtain ⟨h1, h2, h3, b, v, ht, El, hh, hI, rfl, rfl⟩ := id hT
    have hone := hI.one
    rcases List.eq_nil_or_concat l with rfl | ⟨l', y, rfl⟩
    · have hln := hI.len (n := 0) rfl
      go_enter Tryz.func24, Tryz.ntmps24
      go_wp2_with (first | (go_at_call 72; go_must (refine sr_valid hS hT true rfl ?_); clear hS; intro w hS; unfold Ret; try simp only [List.cons_append, List.nil_append] at hS) | (refine wpList_is (.call { callee := .builtin .len, args := #[_], argTypes := #[_] }) rfl ?_; refine wpList_stp (by kernel_rfl) (stp_val (run_lenv _ _ rfl) ?_)) | (refine wpList_is (.load _ _) rfl ?_; go_must ((refine wpList_stp (by kernel_rfl) (stp_val (run_ld _ _ rfl hS) ?_)))))
      exact hR _ _ hT hS
    · rw [List.concat_eq_append] at *
      have e1 : ppT (some (some (z, o, l' ++ [y]))) = some (some (z, o, l')) := by simp [ppT]
      have e2 : ppR (some (some (z, o, l' ++ [y]))) = y := by simp [ppR]
      have e3 : ppB (some (some (z, o, l' ++ [y]))) = true := by simp [ppB]
      rw [e1, e2, e3] at hR
      obtain ⟨n, hn⟩ : ∃ n, l'.length = n := ⟨_, rfl⟩
      have hn1 : (l' ++ [y]).length = n + 1 := by rw [List.length_append, hn]; rfl
      have hln := hI.len hn1
      obtain ⟨gx, sx, ix, hgx, hcx⟩ := hI.at (i := n) (x := y) (by omega) (by rw [List.getD_eq_getElem?_getD, List.getElem?_append_right (by omega), hn]; simp)
      have ix := ix n rfl
      obtain ⟨vp, hpv, hIp⟩ := hI.pre (m := n) (by omega)
      have htk : (l' ++ [y]).take n = l' := by rw [← hn]; simp
      rw [htk] at hIp
      have f1 : decide (((n + 1 : Nat) : Int) = 0) = false := decide_eq_false (by omega)
      have f2 : (((n + 1 : Nat) : Int) == 0) = false := beq_eq_false_iff_ne.2 (by omega)
      have s1 : DifIs ((n + 1 : Nat) : Int) 1 (n : Int) := ⟨by omega, by omega, by omega⟩
      have hl64 : ([] : List Int).length + l'.length ≤ 1000 := by simp; omega
      have hnz : n ≤ z := by omega
      have hn' := Lib.hid hn
      clear e1 e2 e3 hn hn1 htk
      go_enter Tryz.func24, Tryz.ntmps24
      go_wp2_with (first | (go_at_call 72; go_must (refine sr_valid hS hT true rfl ?_); clear hS; intro w hS; unfold Ret; try simp only [List.cons_append, List.nil_append] at hS) | (refine wpList_is (.call { callee := .builtin .len, args := #[_], argTypes := #[_] }) rfl ?_; refine wpList_stp (by kernel_rfl) (stp_val (run_lenv _ _ rfl) ?_)) | (refine wpList_is (.load _ _) rfl ?_; go_must ((refine wpList_stp (by kernel_rfl) (stp_val (run_ld _ _ rfl hS) ?_)))))
      refine region_quiet hS (by kernel_rfl) (by kernel_rfl) (fun hne => ?_)
      go_big_quiet_want; (refine quiet_is (.move _) rfl ?_; refine quiet_val (fun w _ => run_mv _ rfl) ?_; go_big_quiet_on)
      go_big_quiet_want; (refine quiet_is (.nilCheck _) rfl ?_; refine quiet_val (fun w _ => run_nc _ rfl) ?_; go_big_quiet_on)
      go_big_quiet_want; (refine quiet_is (.fieldAddr _ _ _) rfl ?_; refine quiet_val (fun w _ => run_fa _ _ _ rfl) ?_; go_big_quiet_on)
      go_big_quiet_want; ((refine quiet_is (.load _ _) rfl ?_; refine quiet_at sw_st (fun w hS => run_ld _ _ rfl hS) ?_; go_big_quiet_on))
      go_big_quiet_want; (refine quiet_is (.move _) rfl ?_; refine quiet_val (fun w _ => run_mv _ rfl) ?_; go_big_quiet_on)
      go_big_quiet_want; (refine quiet_is (.nilCheck _) rfl ?_; refine quiet_val (fun w _ => run_nc _ rfl) ?_; go_big_quiet_on)
      go_big_quiet_want; (refine quiet_is (.fieldAddr _ _ _) rfl ?_; refine quiet_val (fun w _ => run_fa _ _ _ rfl) ?_; go_big_quiet_on)
      go_big_quiet_want; ((refine quiet_is (.load _ _) rfl ?_; refine quiet_at sw_st (fun w hS => run_ld _ _ rfl hS) ?_; go_big_quiet_on))
      go_big_quiet_want; (refine quiet_is (.call { callee := .builtin .len, args := #[_], argTypes := #[_] }) rfl ?_; refine quiet_val (fun w _ => run_lenv _ _ rfl) ?_; go_big_quiet_on)
      go_big_quiet_want; ((refine quiet_is (.binOp .sub _ _ _ _) rfl ?_; refine quiet_val (fun w _ => run_difv _ _ _ _ rfl) ?_; go_big_quiet_on))
      go_big_quiet_want; (refine quiet_is (.indexAddr _ _ _) rfl ?_; refine quiet_val (fun w _ => run_idxv _ _ _ rfl) ?_; go_big_quiet_on)
      go_big_quiet_want; ((refine quiet_is (.load _ _) rfl ?_; refine quiet_at sw_st (fun w hS => run_ld _ _ rfl hS) ?_; go_big_quiet_on))
      go_big_quiet_want; (refine quiet_is (.assign _) rfl ?_; refine quiet_val (fun w _ => run_as _ rfl) ?_; go_big_quiet_on)
      refine wpQuiet_nil ?_
      clear hS hne
      intro w hS
      go_wp2_with ((go_skip))
      have hS : St w0 bs w (⟨b, #[.int .i64 (z : Nat), v, .bool o, .int .i64 ht], 101, true⟩ :: (El ++ H1)) := hS.pick
      refine region_depsE [⟨(undef, []), [(1, [], fun _ _ x => ∃ b', x = (.slice (some ⟨b', 0, none⟩) 0 0, [⟨b', #[], 3, true⟩])), (13, [], fun _ _ x => IS x.1 l' x.2)]⟩,
          ⟨(undef, [⟨b, #[.int .i64 (z : Nat), v, .bool o, .int .i64 ht], 101, true⟩]), [(16, [13], fun q _ x => x.2 = [⟨b, #[.int .i64 (z : Nat), (q.getD 0 default).1, .bool o, .int .i64 ht], 101, true⟩])]⟩]
        (El ++ H1) (⟨b, #[.int .i64 (z : Nat), v, .bool o, .int .i64 ht], 101, true⟩ :: (El ++ H1)) (by simp) hS (by kernel_rfl) (by kernel_rfl) ?_
      refine dx_val (fun _ => rfl) rfl (fun χ w hw => run_mv _ rfl) ?_
      refine dx_turn0 0 0 rfl rfl (by kernel_rfl) (by kernel_rfl) (by kernel_rfl) (by kernel_rfl) (fun _ => rfl) (fun x => x.1) ?_ ?_
      · intro χ X w _ hS
        exact stepX_of_stp 29 rfl (by simp) (stp_bs0 _ rfl (show St w0 bs w (X ++ _) from hS) (fun b' w' _ hS' => ⟨_, rfl, (.slice (some ⟨b', 0, none⟩) 0 0, [⟨b', #[], 3, true⟩]), rfl, ⟨b', rfl⟩, hS'⟩))
      refine dx_val (fun _ => rfl) rfl (fun χ w hw => run_mv _ rfl) ?_
      refine dx_val (fun _ => rfl) rfl (fun χ w hw => run_nc _ rfl) ?_
      refine dx_val (fun _ => rfl) rfl (fun χ w hw => run_fa _ _ _ rfl) ?_
      refine dx_valS 1 0 rfl (by kernel_rfl) (fun _ => rfl) rfl (fun _ => v) (fun _ _ _ => rfl) (fun χ X w _ hS => run_ld _ _ rfl (show St w0 bs w (⟨b, #[.int .i64 (z : Nat), v, .bool o, .int .i64 ht], 101, true⟩ :: (X ++ _)) from hS)) ?_
      refine dx_val (fun _ => rfl) rfl (fun χ w hw => run_mv _ rfl) ?_
      refine dx_val (fun _ => rfl) rfl (fun χ w hw => run_nc _ rfl) ?_
      refine dx_val (fun _ => rfl) rfl (fun χ w hw => run_fa _ _ _ rfl) ?_
      refine dx_valS 1 0 rfl (by kernel_rfl) (fun _ => rfl) rfl (fun _ => v) (fun _ _ _ => rfl) (fun χ X w _ hS => run_ld _ _ rfl (show St w0 bs w (⟨b, #[.int .i64 (z : Nat), v, .bool o, .int .i64 ht], 101, true⟩ :: (X ++ _)) from hS)) ?_
      refine dx_val (fun _ => rfl) rfl (fun χ w hw => run_lenv _ _ rfl) ?_
      refine dx_val (fun _ => rfl) rfl (fun χ w hw => run_difv _ _ _ _ rfl) ?_
      refine dx_val (fun _ => rfl) rfl (fun χ w hw => run_prev _ _ _ rfl) ?_
      refine dx_turn0 0 1 rfl rfl (by kernel_rfl) (by kernel_rfl) (by kernel_rfl) (by kernel_rfl) (fun _ => rfl) (fun x => x.1) ?_ ?_
      · rintro χ X w ⟨⟨b', hb'⟩, _⟩ hS
        have hS : St w0 bs w ((χ 1).2 ++ (X ++ (El ++ H1))) := hS
        rw [hb'] at hS
        simp only [List.cons_append, List.nil_append] at hS
        simp only [hb']
        refine stepX_of_stp 41 rfl (by simp) (stp_apI _ _ _ _ rfl rfl rfl hS (show IS _ [] [_] from sl_zero) hIp hl64 ?_)
        intro v' E' w' hsl' hS'
        exact ⟨_, rfl, (v', E'), rfl, by simpa using hsl', hS'.pick⟩
      refine dx_val (fun _ => rfl) rfl (fun χ w hw => run_nc _ rfl) ?_
      refine dx_val (fun _ => rfl) rfl (fun χ w hw => run_fa _ _ _ rfl) ?_
      refine dx_turnW 1 0 0 2 rfl rfl rfl (by kernel_rfl) (by kernel_rfl) (by kernel_rfl) (by kernel_rfl) (by kernel_rfl) (fun _ => rfl) (fun _ => undef) ?_ ?_
      · rintro χ X w _ ⟨_, hA2, _⟩ hS
        have hA2 : IS (χ 13).1 l' (χ 13).2 := hA2
        have ho8 := hA2.one
        exact stepX_st _ _ _ rfl (show St w0 bs w (⟨b, #[.int .i64 (z : Nat), v, .bool o, .int .i64 ht], 101, true⟩ :: ((χ 13).2 ++ (X ++ _))) from hS) (fun w' hS' => ⟨(undef, [⟨b, #[.int .i64 (z : Nat), (χ 13).1, .bool o, .int .i64 ht], 101, true⟩]), rfl, rfl, hS'⟩)
      refine dx_end rfl ?_
      intro χ w hok hS
      obtain ⟨_, hA2, _⟩ := hok _ (.head _)
      obtain ⟨hD, _⟩ := hok _ (.tail _ (.head _))
      have hD : (χ 16).2 = [⟨b, #[.int .i64 (z : Nat), (χ 13).1, .bool o, .int .i64 ht], 101, true⟩] := hD
      have hS : St w0 bs w (((χ 13).2 ++ ((χ 16).2 ++ [])) ++ (El ++ H1)) := hS
      rw [hD] at hS
      clear hok hD
      have hA2 : IS (χ 13).1 l' (χ 13).2 := hA2
      generalize (χ 13).1 = v5 at hS hA2
      generalize (χ 13).2 = E5 at hS hA2
      simp only [List.cons_append, List.nil_append, List.append_assoc] at hS
      go_wp2_with ((go_skip))
      exact hR (_ :: E5) _ ⟨h1, h2, by rw [hn'.out]; exact hnz, b, v5, ht, E5, hh, hA2, rfl, rfl⟩ hS.pick
set_option maxHeartbeats 1000000 in
set_option maxRecDepth 100000 in
theorem sr_copy {p : Option Addr} {T : Sq} (hO : St w0 bs w H) (hT : SR p T E) [hc : Cut H E H1] (hR : ∀ p' E' w', SR p' T E' → SR p T E → St w0 bs w' (E' ++ (E ++ H1)) → Ret R (.pointer p') w') :
    Calls Tryz.prog 70 #[.pointer p] w R := by
  have hS := hO.front (E := E) (H1 := H1)
  clear hO
  rcases T with _ | _ | ⟨z, o, l⟩
  · have hn := hT.nil
    go_enter Tryz.func70, Tryz.ntmps70
    go_wp2_with ((go_at_call 72; go_must (refine sr_valid hS hT _ rfl ?_); clear hS; intro w hS; unfold Ret; try simp only [List.cons_append, List.nil_append] at hS))
    exact hR none [] _ ⟨rfl, rfl⟩ hT hS
  · exact hT.elim
  · obtain ⟨h1, h2, h3, b, v, ht, El, hh, hI, rfl, rfl⟩ := id hT
    have hone := hI.one
    have hl64 : ([] : List Int).length + l.length ≤ 1000 := by simp; omega
    go_enter Tryz.func70, Tryz.ntmps70
    go_wp2_with ((go_at_call 72; go_must (refine sr_valid hS hT true rfl ?_); clear hS; intro w hS; unfold Ret; try simp only [List.cons_append, List.nil_append] at hS))
    refine region_itemsE [⟨(undef, []), [(4, fun _ x => ∃ b', x = (.slice (some ⟨b', 0, none⟩) 0 0, [⟨b', #[], 3, true⟩])), (9, fun _ x => (∃ a n c, x.1 = .slice a n c) ∧ IS x.1 l x.2), (19, fun y x => ∃ b', x = (.pointer (some ⟨b', 0, none⟩), ⟨b', #[.int .i64 (z : Nat), y.1, .bool o, .int .i64 ht], 101, true⟩ :: y.2))]⟩]
      (⟨b, #[.int .i64 (z : Nat), v, .bool o, .int .i64 ht], 101, true⟩ :: (El ++ H1)) (⟨b, #[.int .i64 (z : Nat), v, .bool o, .int .i64 ht], 101, true⟩ :: (El ++ H1)) (by simp) hS.pick (by kernel_rfl) (by kernel_rfl) ?_
    refine fx_val (fun _ => rfl) rfl (fun χ w hw => run_mv _ rfl) ?_
    refine fx_val (fun _ => rfl) rfl (fun χ w hw => run_nc _ rfl) ?_
    refine fx_val (fun _ => rfl) rfl (fun χ w hw => run_fa _ _ _ rfl) ?_
    (refine fx_val (fun _ => rfl) rfl (fun χ w hw => run_ld _ _ rfl hw) ?_)
    refine fx_turn0 0 0 rfl rfl (by (rfl)) (by (rfl)) (by (kernel_rfl)) (fun _ => rfl) (fun x => x.1) ?_ ?_
    · intro χ X w _ hS
      exact stepX_of_stp 10 rfl (by simp) (stp_bs0 _ rfl (show St w0 bs w (X ++ _) from hS) (fun b' w' _ hS' => ⟨_, rfl, (.slice (some ⟨b', 0, none⟩) 0 0, [⟨b', #[], 3, true⟩]), rfl, ⟨b', rfl⟩, hS'⟩))
    refine fx_val (fun _ => rfl) rfl (fun χ w hw => run_mv _ rfl) ?_
    refine fx_val (fun _ => rfl) rfl (fun χ w hw => run_nc _ rfl) ?_
    refine fx_val (fun _ => rfl) rfl (fun χ w hw => run_fa _ _ _ rfl) ?_
    (refine fx_val (fun _ => rfl) rfl (fun χ w hw => run_ld _ _ rfl hw) ?_)
    refine fx_turn0 0 1 rfl rfl (by (rfl)) (by (kernel_rfl)) (by (kernel_rfl)) (fun _ => rfl) (fun x => x.1) ?_ ?_
    · rintro χ X w ⟨⟨b', hb'⟩, _⟩ hS
      have hS : St w0 bs w ((χ 4).2 ++ (X ++ (⟨b, #[.int .i64 (z : Nat), v, .bool o, .int .i64 ht], 101, true⟩ :: (El ++ H1)))) := hS
      rw [hb'] at hS
      simp only [List.cons_append, List.nil_append] at hS
      simp only [hb']
      refine stepX_of_stp 15 rfl (by simp) (stp_apI _ _ _ _ rfl rfl rfl hS (show IS _ [] [_] from sl_zero) hI hl64 ?_)
      intro v' E' w' hsl' hS'
      rw [List.nil_append] at hsl'
      exact ⟨_, rfl, (v', E'), rfl, ⟨hsl'.sl, hsl'⟩, hS'.pick⟩
    refine fx_val (fun _ => rfl) rfl (fun χ w hw => run_mv _ rfl) ?_
    refine fx_val (fun _ => rfl) rfl (fun χ w hw => run_nc _ rfl) ?_
    refine fx_val (fun _ => rfl) rfl (fun χ w hw => run_fa _ _ _ rfl) ?_
    (refine fx_val (fun _ => rfl) rfl (fun χ w hw => run_ld _ _ rfl hw) ?_)
    refine fx_val (fun _ => rfl) rfl (fun χ w hw => run_mv _ rfl) ?_
    refine fx_val (fun _ => rfl) rfl (fun χ w hw => run_nc _ rfl) ?_
    refine fx_val (fun _ => rfl) rfl (fun χ w hw => run_fa _ _ _ rfl) ?_
    (refine fx_val (fun _ => rfl) rfl (fun χ w hw => run_ld _ _ rfl hw) ?_)
    refine fx_gvalS 0 2 rfl (by (kernel_rfl)) (fun _ => rfl) rfl (fun χ => .agg #[.int .i64 (z : Nat), (χ 9).1, .bool o, .int .i64 ht]) (supp_of (j := 9) (by kernel_rfl) (fun x => .agg #[.int .i64 (z : Nat), x.1, .bool o, .int .i64 ht])) (fun χ w hok hw => ?_) ?_
    · obtain ⟨_, ⟨⟨a, n, c, hx⟩, _⟩, _⟩ := hok
      simp only [hx]
      exact run_bd _ _ rfl
    refine fx_turn0 0 2 rfl rfl (by (rfl)) (by (kernel_rfl)) (by (rfl)) (fun _ => rfl) (fun x => x.1) ?_ ?_
    · rintro χ X w ⟨_, ⟨⟨a, n, c, hx⟩, _⟩, _⟩ hS
      have hS : St w0 bs w ((χ 9).2 ++ (X ++ (⟨b, #[.int .i64 (z : Nat), v, .bool o, .int .i64 ht], 101, true⟩ :: (El ++ H1)))) := hS
      exact stepX_bx _ _ rfl hS (fun b' w' _ hS' => ⟨(.pointer (some ⟨b', 0, none⟩), ⟨b', #[.int .i64 (z : Nat), (χ 9).1, .bool o, .int .i64 ht], 101, true⟩ :: (χ 9).2), rfl, ⟨b', rfl⟩, hS'⟩)
    refine fx_gval (fun _ => rfl) rfl _ (supp_of (j := 19) (by kernel_rfl) (fun x => x.1)) (fun χ w hw => run_as _ rfl) ?_
    refine fx_end rfl ?_
    intro χ w hok hS
    obtain ⟨_, ⟨_, hA⟩, ⟨b', hx19⟩, _⟩ := hok _ (.head _)
    have hA : IS (χ 9).1 l (χ 9).2 := hA
    have hS : St w0 bs w (((χ 19).2 ++ []) ++ (⟨b, #[.int .i64 (z : Nat), v, .bool o, .int .i64 ht], 101, true⟩ :: (El ++ H1))) := hS
    rw [hx19, List.append_nil] at hS
    simp only [hx19]
    simp only [List.cons_append, List.nil_append, List.append_assoc] at hS
    clear hok hx19
    generalize (χ 9).1 = v5 at hS hA
    generalize (χ 9).2 = E5 at hS hA
    go_wp2_with ((go_skip))
    exact hR _ (⟨b', #[.int .i64 (z : Nat), v5, .bool o, .int .i64 ht], 101, true⟩ :: E5) _ ⟨h1, h2, h3, b', v5, ht, E5, hh, hA, rfl, rfl⟩ hT hS.pick
end Go.Proofs.YtgpjanfphgjbbaaGreat
