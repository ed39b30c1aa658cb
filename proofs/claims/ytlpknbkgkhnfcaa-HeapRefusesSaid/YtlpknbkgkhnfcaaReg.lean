/-
  A region that draws its order, in which some operations are marked that turn the world, one behind the other, and all others only read: one walk of the text's order serves every order.
-/
import Derived.Test.YtlpknbkgkhnfcaaBox
import Derived.Deep.Quiet
set_option linter.unusedSimpArgs false
set_option linter.unusedVariables false
namespace Go.Mm
open Go Go.RowKit

section
variable {P : Program} {ops : Array Oper} {md : Region.Mode} {C : Nat → World → Prop} {m : Nat → Bool}

/-- What is asked of an operation's result: the value v, and a world of C'; or a call that hands back v and leaves a world of C'. -/
def stepUpon (P : Program) (C' : World → Prop) (v : Value) : Result Next → Prop
  | .ok (.value u) w' => C' w' ∧ u = v
  | .ok .skip w' => C' w' ∧ v = undef
  | .ok (.enter f args) w' => Calls P f args w' (fun e w'' => e = .returned v ∧ C' w'')
  | _ => False
def stepAt (P : Program) (o : Oper) (a : Act) (C' : World → Prop) (w : World) (v : Value) : Prop := stepUpon P C' v ((execOp a.eval o).run P w)

/-- Operation i yields v: a marked one turns the phase; one that is not marked serves in every phase. -/
def Yv (P : Program) (C : Nat → World → Prop) (m : Nat → Bool) (i : Nat) (o : Oper) (p : Nat) (a : Act) (v : Value) : Prop :=
  if m i then ∀ w, C p w → stepAt P o a (C (p + 1)) w v else ∀ q w, C q w → stepAt P o a (C q) w v
def nx (m : Nat → Bool) (i p : Nat) : Nat := if m i then p + 1 else p

def pOp (P : Program) (ops : Array Oper) (C : Nat → World → Prop) (m : Nat → Bool) (i p : Nat) (K : Nat → Act → Prop) (a : Act) : Prop :=
  match ops[i]? with
  | none => K p a
  | some o => if Region.wanted o (yielded ops a.tmps) then ∃ v, Yv P C m i o p a v ∧ K (nx m i p) (a.put o.dst v) else K p (a.put o.dst undef)

/-- The walk in the text's order. -/
def wpLex (P : Program) (ops : Array Oper) (C : Nat → World → Prop) (m : Nat → Bool) (Q : Nat → Act → Prop) : Nat → Nat → List Oper → Act → Prop
  | _, p, [], a => Q p a
  | k, p, o :: rest, a => if Region.wanted o (yielded ops a.tmps) then ∃ v, Yv P C m k o p a v ∧ wpLex P ops C m Q (k + 1) (nx m k p) rest (a.put o.dst v) else wpLex P ops C m Q (k + 1) p rest (a.put o.dst undef)

def wpAnyP (P : Program) (md : Region.Mode) (ops : Array Oper) (C : Nat → World → Prop) (m : Nat → Bool) (Q : Nat → Act → Prop) : Nat → Array Bool → Nat → Act → Prop
  | 0, listed, p, a => Region.ready md ops listed = [] ∧ Q p a
  | fuel + 1, listed, p, a =>
    (Region.ready md ops listed = [] → Q p a) ∧
    ∀ i ∈ Region.ready md ops listed, pOp P ops C m i p (wpAnyP P md ops C m Q fuel (listed.setIfInBounds i true)) a

theorem pOp_mono {i p : Nat} {a : Act} {K K' : Nat → Act → Prop} (h : ∀ p a, K p a → K' p a) (hh : pOp P ops C m i p K a) : pOp P ops C m i p K' a := by
  unfold pOp at *
  split
  · exact h _ _ (by simpa [*] using hh)
  · rename_i o ho
    simp only [ho] at hh
    split
    · rename_i hw
      simp only [hw, if_true] at hh
      obtain ⟨v, h1, h2⟩ := hh
      exact ⟨v, h1, h _ _ h2⟩
    · rename_i hw; simp only [hw] at hh; exact h _ _ hh

theorem wp_of_step {o : Oper} {a : Act} {C' : World → Prop} {v : Value} {K' : Act → World → Prop} {Q' : Exit → Act → World → Prop} {w : World} (h3 : stepAt P o a C' w v) (h : ∀ w', C' w' → K' (a.put o.dst v) w') : o.wp P a w K' Q' := by
  unfold stepAt at h3
  unfold Oper.wp
  generalize (execOp a.eval o).run P w = r at *
  cases r with
  | ok n w' =>
    cases n <;> simp only [stepUpon] at h3 <;> simp only [Oper.upon]
    case value u =>
      obtain ⟨e1, e2⟩ := h3
      rw [e2]
      exact h _ e1
    case skip =>
      obtain ⟨e1, e2⟩ := h3
      rw [← e2]
      exact h _ e1
    case enter f args =>
      exact h3.mono fun e w'' ⟨he, hw''⟩ => by subst he; exact h _ hw''
  | halt x w' => simp only [stepUpon] at h3

theorem wpOp_of_pOp {i p : Nat} {a : Act} {K : Nat → Act → Prop} {K' : Act → World → Prop} {Q' : Exit → Act → World → Prop} {w : World} (hC : C p w) (h : ∀ p a w', C p w' → K p a → K' a w') (hh : pOp P ops C m i p K a) : wpOp P ops Q' i K' a w := by
  unfold pOp at hh
  unfold wpOp
  split
  · rename_i ho; simp only [ho] at hh; exact h _ _ _ hC hh
  · rename_i o ho
    simp only [ho] at hh
    split
    · rename_i hw
      simp only [hw, if_true] at hh
      obtain ⟨v, h1, h2⟩ := hh
      left
      unfold Yv at h1
      unfold nx at h2
      split at h1
      · rename_i hm
        rw [if_pos hm] at h2
        exact wp_of_step (h1 w hC) (fun w' hw' => h _ _ _ hw' h2)
      · rename_i hm
        rw [if_neg hm] at h2
        exact wp_of_step (h1 p w hC) (fun w' hw' => h _ _ _ hw' h2)
    · rename_i hw; simp only [hw] at hh; exact h _ _ _ hC hh

theorem wpAny_of_p {Q : Nat → Act → Prop} {Q' : Exit → Act → World → Prop} (hQ : ∀ p a w, C p w → Q p a → Q' .normal a w) : ∀ (fuel : Nat) (listed : Array Bool) (p : Nat) (a : Act) (w : World), C p w →
    wpAnyP P md ops C m Q fuel listed p a → wpAny P md ops Q' fuel listed a w
  | 0, _, _, _, _, hw, h => ⟨h.1, hQ _ _ _ hw h.2⟩
  | fuel + 1, _, _, _, _, hw, h => ⟨fun h0 => hQ _ _ _ hw (h.1 h0), fun i hi => wpOp_of_pOp hw (fun p' a' w' hw' => wpAny_of_p hQ fuel _ p' a' w' hw') (h.2 i hi)⟩

/-- In state a and phase p operation i leaves v in its temporary. -/
def YieldsP (P : Program) (ops : Array Oper) (C : Nat → World → Prop) (m : Nat → Bool) (i : Nat) (o : Oper) (v : Value) (p p' : Nat) (a : Act) : Prop :=
  (Region.wanted o (yielded ops a.tmps) = true ∧ Yv P C m i o p a v ∧ p' = nx m i p) ∨ (Region.wanted o (yielded ops a.tmps) = false ∧ v = undef ∧ p' = p)

theorem YieldsP.pOp {i p p' : Nat} {o : Oper} {v : Value} {a : Act} (hi : ops[i]? = some o) (hy : YieldsP P ops C m i o v p p' a) {K : Nat → Act → Prop} (h : K p' (a.put o.dst v)) : pOp P ops C m i p K a := by
  unfold Mm.pOp
  simp only [hi]
  rcases hy with ⟨hw, hv, rfl⟩ | ⟨hw, rfl, rfl⟩
  · simp only [hw, if_true]; exact ⟨v, hv, h⟩
  · simp only [hw, Bool.false_eq_true, if_false]; exact h

theorem yieldsP_of_pOp {i p : Nat} {o : Oper} {a : Act} {K : Nat → Act → Prop} (hi : ops[i]? = some o) (h : pOp P ops C m i p K a) : ∃ v p', YieldsP P ops C m i o v p p' a ∧ K p' (a.put o.dst v) := by
  unfold pOp at h
  simp only [hi] at h
  by_cases hw : Region.wanted o (yielded ops a.tmps) = true
  · simp only [hw, if_true] at h
    obtain ⟨v, h1, h2⟩ := h
    exact ⟨v, _, .inl ⟨hw, h1, rfl⟩, h2⟩
  · simp only [hw] at h
    exact ⟨undef, _, .inr ⟨by simpa using hw, rfl, rfl⟩, h⟩

theorem Yv.of_same {i p : Nat} {o : Oper} {v : Value} {a a' : Act} (hy : Yv P C m i o p a v) (he : execOp a'.eval o = execOp a.eval o) : Yv P C m i o p a' v := by
  unfold Yv stepAt at *
  rw [he]
  exact hy
theorem Yv.phase {i p q : Nat} {o : Oper} {v : Value} {a : Act} (hy : Yv P C m i o p a v) (hm : m i = false) : Yv P C m i o q a v := by
  unfold Yv at hy ⊢
  rw [if_neg (by simp [hm])] at hy ⊢
  exact hy

/-- Operation j, apart from operation i, and not both marked: the two may change places. -/
theorem pOp_put {i j p p' : Nat} {oi oj : Oper} {v : Value} (hj : ops[j]? = some oj) (hap : oi.apart ops oj = true)
    (hsi : ∀ cs b, oi.op ≠ .select cs b) (hsj : ∀ cs b, oj.op ≠ .select cs b) (hmm : ¬ (m i = true ∧ m j = true)) {K : Nat → Act → Prop} {a : Act}
    (hy : YieldsP P ops C m i oi v p p' a) (h : pOp P ops C m j p' K (a.put oi.dst v)) :
    pOp P ops C m j p (fun q a' => ∃ q', YieldsP P ops C m i oi v q q' a' ∧ K q' (a'.put oi.dst v)) a := by
  obtain ⟨h1, h2, h3⟩ := Oper.apart_spec hap
  have keep : ∀ u, execOp (a.put oj.dst u).eval oi = execOp a.eval oi ∧ Region.wanted oi (yielded ops (a.put oj.dst u).tmps) = Region.wanted oi (yielded ops a.tmps) := fun u =>
    ⟨execOp_put oi hsi a oj.dst u h3, wanted_put oi a oj.dst u h3⟩
  have back : execOp (a.put oi.dst v).eval oj = execOp a.eval oj := execOp_put oj hsj a oi.dst v h1
  unfold pOp at *
  simp only [hj] at *
  rw [wanted_put oj a oi.dst v h1] at h
  split
  · rename_i hw
    simp only [hw, if_true] at h
    obtain ⟨u, hu, hn⟩ := h
    by_cases hmj : m j = true
    · have hmi : m i = false := by rw [← Bool.not_eq_true]; exact fun q => hmm ⟨q, hmj⟩
      have hp : p' = p := by
        rcases hy with ⟨_, _, e⟩ | ⟨_, _, e⟩
        · rw [e, nx, hmi]; rfl
        · exact e
      subst hp
      refine ⟨u, (hu.of_same back.symm), nx m j p', ?_, by rw [← Act.put_comm a v u h2]; exact hn⟩
      rcases hy with ⟨g1, g2, _⟩ | ⟨g1, g2, _⟩
      · exact .inl ⟨by rw [(keep u).2]; exact g1, (g2.of_same (keep u).1).phase hmi, by simp [nx, hmi]⟩
      · exact .inr ⟨by rw [(keep u).2]; exact g1, g2, rfl⟩
    · have hmj' : m j = false := by simpa using hmj
      have hnj : ∀ q, nx m j q = q := fun q => by simp [nx, hmj']
      rw [hnj] at hn
      refine ⟨u, ((hu.of_same back.symm).phase hmj'), p', ?_, by rw [← Act.put_comm a v u h2]; exact hn⟩
      rw [hnj]
      rcases hy with ⟨g1, g2, g3⟩ | ⟨g1, g2, g3⟩
      · exact .inl ⟨by rw [(keep u).2]; exact g1, g2.of_same (keep u).1, g3⟩
      · exact .inr ⟨by rw [(keep u).2]; exact g1, g2, g3⟩
  · rename_i hw
    simp only [hw] at h
    refine ⟨p', ?_, by rw [← Act.put_comm a v undef h2]; exact h⟩
    rcases hy with ⟨g1, g2, g3⟩ | ⟨g1, g2, g3⟩
    · exact .inl ⟨by rw [(keep _).2]; exact g1, g2.of_same (keep _).1, g3⟩
    · exact .inr ⟨by rw [(keep _).2]; exact g1, g2, g3⟩

theorem getD_up {l : Array Bool} {x : Nat} (h : l.getD x false = true) : l.getD x true = true := by
  rcases Nat.lt_or_ge x l.size with h' | h'
  · simp [h'] at h ⊢; exact h
  · simp [Array.getElem?_eq_none h'] at h
/-- Operation j waits for operation i, by a way of at most n steps. -/
def ancB (md : Region.Mode) (ops : Array Oper) (i : Nat) : Nat → Nat → Bool
  | 0, _ => false
  | n + 1, j => match ops[j]? with
    | some o => o.after.any (fun e => Region.binds md e && (e.on == i || ancB md ops i n e.on))
    | none => false
/-- What is listed has all listed that it waits for. -/
def ClosedL (md : Region.Mode) (ops : Array Oper) (listed : Array Bool) : Prop := ∀ j oj, ops[j]? = some oj → listed.getD j true = true → ∀ e ∈ oj.after, Region.binds md e = true → listed.getD e.on true = true
theorem anc_listed {i : Nat} {listed : Array Bool} (hc : ClosedL md ops listed) : ∀ (n j : Nat) (oj : Oper), ops[j]? = some oj → (∀ e ∈ oj.after, Region.binds md e = true → listed.getD e.on true = true) → ancB md ops i n j = true → listed.getD i true = true
  | 0, _, _, _, _, h => by cases h
  | n + 1, j, oj, hj, hall, h => by
    unfold ancB at h
    simp only [hj] at h
    obtain ⟨e, he, hb⟩ := Array.any_eq_true'.1 h
    simp only [Bool.and_eq_true, Bool.or_eq_true, beq_iff_eq] at hb
    obtain ⟨hb, h1 | h1⟩ := hb
    · rw [← h1]; exact hall e he hb
    · cases ho : ops[e.on]? with
      | none => cases n with
        | zero => cases h1
        | succ n => unfold ancB at h1; simp only [ho] at h1; cases h1
      | some ok => exact anc_listed hc n e.on ok ho (hc e.on ok ho (hall e he hb)) h1

theorem ClosedL.set {listed : Array Bool} (hc : ClosedL md ops listed) {j : Nat} {oj : Oper} (hj : ops[j]? = some oj) (hall : ∀ e ∈ oj.after, Region.binds md e = true → listed.getD e.on true = true) : ClosedL md ops (listed.setIfInBounds j true) := by
  have up : ∀ x, listed.getD x true = true → (listed.setIfInBounds j true).getD x true = true := fun x hx => by
    by_cases e : j = x
    · subst e
      rcases Nat.lt_or_ge j listed.size with h' | h'
      · simp [h']
      · simp
    · rw [getD_set_ne true e]; exact hx
  intro x ox hx hl e he hb
  by_cases h : j = x
  · subst h
    rw [hj] at hx
    obtain rfl := Option.some.inj hx
    exact up _ (hall e he hb)
  · rw [getD_set_ne true h] at hl
    exact up _ (hc x ox hx hl e he hb)

theorem wpAnyP_first {Q : Nat → Act → Prop} {i : Nat} {oi : Oper} {v : Value} (hi : ops[i]? = some oi) (hsel : ∀ (j : Nat) (o : Oper) cs b, ops[j]? = some o → o.op ≠ .select cs b) :
    ∀ (fuel : Nat) (listed : Array Bool) (p p' : Nat) (a : Act),
      (∀ j oj, ops[j]? = some oj → j ≠ i → listed.getD j true = false → (∀ e ∈ oj.after, Region.binds md e = true → e.on ≠ i) → oi.apart ops oj = true ∧ (m i = true → m j = true → ancB md ops i ops.size j = true)) →
      ClosedL md ops listed → i ∈ Region.ready md ops listed → YieldsP P ops C m i oi v p p' a →
      wpAnyP P md ops C m Q fuel (listed.setIfInBounds i true) p' (a.put oi.dst v) → wpAnyP P md ops C m Q (fuel + 1) listed p a := by
  intro fuel
  induction fuel with
  | zero =>
    intro listed p p' a _ _ hr hy H
    refine ⟨fun h => (by rw [h] at hr; cases hr), fun j hj => ?_⟩
    by_cases hji : j = i
    · subst hji; exact hy.pOp hi H
    · have := ready_mono hj hji
      rw [H.1] at this
      cases this
  | succ fuel ih =>
    intro listed p p' a hfree hcl hr hy H
    refine ⟨fun h => (by rw [h] at hr; cases hr), fun j hj => ?_⟩
    by_cases hji : j = i
    · subst hji; exact hy.pOp hi H
    · have h1 := H.2 j (ready_mono hj hji)
      obtain ⟨hjun, oj, hoj, hall⟩ := mem_ready.1 hj
      have hnot : ∀ e ∈ oj.after, Region.binds md e = true → e.on ≠ i := fun e he hb heq => by
        have h1 := hall e he hb
        have h0 := (mem_ready.1 hr).1
        rw [heq] at h1
        rcases Nat.lt_or_ge i listed.size with h' | h'
        · simp [h'] at h0 h1; rw [h0] at h1; cases h1
        · simp [Array.getElem?_eq_none h'] at h1
      have hf := hfree j oj hoj hji hjun hnot
      have hmm : ¬ (m i = true ∧ m j = true) := fun ⟨g1, g2⟩ => by
        have h3 := anc_listed hcl _ _ _ hoj (fun e he hb => getD_up (hall e he hb)) (hf.2 g1 g2)
        have h0 := (mem_ready.1 hr).1
        rcases Nat.lt_or_ge i listed.size with h' | h'
        · simp [h'] at h0 h3; rw [h0] at h3; cases h3
        · simp [Array.getElem?_eq_none h'] at h0
      have h2 := pOp_put hoj hf.1 (fun cs b => hsel i oi cs b hi) (fun cs b => hsel j oj cs b hoj) hmm hy h1
      have hfree' : ∀ k ok, ops[k]? = some ok → k ≠ i → (listed.setIfInBounds j true).getD k true = false →
          (∀ e ∈ ok.after, Region.binds md e = true → e.on ≠ i) → oi.apart ops ok = true ∧ (m i = true → m k = true → ancB md ops i ops.size k = true) := fun k ok hk hki hun hno => by
        refine hfree k ok hk hki ?_ hno
        by_cases hjk : j = k
        · subst hjk; exact hjun
        · rw [getD_set_ne true hjk] at hun; exact hun
      refine pOp_mono (fun q a' h3 => ?_) h2
      obtain ⟨q', h4, h5⟩ := h3
      refine ih (listed.setIfInBounds j true) q q' a' hfree' (hcl.set hoj (fun e he hb => getD_up (hall e he hb))) (ready_mono hr (Ne.symm hji)) h4 ?_
      rw [Array.setIfInBounds_comm _ _ hji]
      exact h5

/-- Of two marked operations the later one waits for the earlier one, perhaps by others. -/
def chainB (md : Region.Mode) (ops : Array Oper) (m : Nat → Bool) : Bool :=
  (List.range ops.size).all fun j => (List.range j).all fun i => !(m i && m j) || ancB md ops i ops.size j
theorem chain_spec {md : Region.Mode} (h : chainB md ops m = true) {i j : Nat} {oj : Oper} (hij : i < j) (hj : ops[j]? = some oj) (h1 : m i = true) (h2 : m j = true) : ancB md ops i ops.size j = true := by
  have hjs : j < ops.size := (Array.getElem?_eq_some_iff.1 hj).1
  have := (List.all_eq_true.1 ((List.all_eq_true.1 h) j (List.mem_range.2 hjs))) i (List.mem_range.2 hij)
  simpa [h1, h2] using this

theorem wpAnyP_lex {Q : Nat → Act → Prop} (hs : Region.noSelect ops = true) (hch : chainB md ops m = true) : ∀ (l : List Oper) (k : Nat) (listed : Array Bool) (p : Nat) (a : Act), (∀ j, l[j]? = ops[k + j]?) →
    (∀ j, j < k → listed.getD j true = true) → ClosedL md ops listed →
    Region.lexFrom md ops l.length k listed = true → wpLex P ops C m Q k p l a → wpAnyP P md ops C m Q l.length listed p a
  | [], _, _, _, _, _, _, _, hB, h => ⟨by simpa [Region.lexFrom] using hB, h⟩
  | o :: l, k, listed, p, a, hl, hk, hcl, hB, h => by
    have h0 : ops[k]? = some o := by simpa using (hl 0).symm
    simp only [List.length_cons, Region.lexFrom, Bool.and_eq_true] at hB
    obtain ⟨⟨hr, hf⟩, hB'⟩ := hB
    have hst : pOp P ops C m k p (fun p' a' => wpLex P ops C m Q (k + 1) p' l a') a := by unfold pOp; simp only [h0]; exact h
    obtain ⟨v, p', hy, hK⟩ := yieldsP_of_pOp h0 hst
    refine wpAnyP_first h0 (Region.noSelect_spec hs) l.length listed p p' a (fun j oj hj hjk hun hno => ⟨Region.free_spec h0 hf j oj hj hjk hun hno, fun g1 g2 => ?_⟩) hcl (by simpa using hr) hy
      (wpAnyP_lex hs hch l (k + 1) _ _ _ (fun j => by have := hl (j + 1); simpa [Nat.add_assoc, Nat.add_comm 1 j] using this) (fun j hj => ?_) ?_ hB' hK)
    · have hkj : k < j := by
        rcases Nat.lt_trichotomy j k with h' | h' | h'
        · rw [hk j h'] at hun; cases hun
        · exact absurd h' hjk
        · exact h'
      exact chain_spec hch hkj hj g1 g2
    · by_cases e : k = j
      · subst e
        rcases Nat.lt_or_ge k listed.size with h' | h'
        · simp [h']
        · simp
      · rw [getD_set_ne true e]
        exact hk j (by omega)
    · have hrk : k ∈ Region.ready md ops listed := by simpa using hr
      obtain ⟨_, ok, hok, hall⟩ := mem_ready.1 hrk
      exact hcl.set hok (fun e he hb => getD_up (hall e he hb))

theorem region_step {id : Nat} {l : List Oper} {Q : Exit → Act → World → Prop} {a : Act} {w : World} (C : Nat → World → Prop) (m : Nat → Bool) (hm : P.follows .mixedOrders = true) (hB : Region.lexB .any l.toArray = true) (hch : chainB .any l.toArray m = true)
    (hC : C 0 { w with drawn := w.drawn + 1 }) (h : wpLex P l.toArray C m (fun p a' => ∀ w', C p w' → Q .normal a' w') 0 0 l a) : (Code.region id l.toArray true).wp P Q a w := by
  simp only [Region.lexB, Bool.and_eq_true] at hB
  refine wp_region_any hm (wpAny_of_p (m := m) (Q := fun p a' => ∀ w', C p w' → Q .normal a' w') (fun p a' w' hw' h => h w' hw') _ _ _ _ _ hC ?_)
  have := wpAnyP_lex (P := P) (C := C) (md := .any) hB.1 hch l 0 (Array.replicate l.toArray.size false) 0 a (by simp) (by omega) (fun j oj hj hl => by
    have hjs : j < l.toArray.size := (Array.getElem?_eq_some_iff.1 hj).1
    simp only [List.size_toArray] at hjs
    simp [hjs] at hl) (by simpa using hB.2) h
  simpa using this

/-! Steps of such a walk -/
variable {Q : Nat → Act → Prop} {k p : Nat} {o : Oper} {rest : List Oper} {a a' : Act} {v : Value}
theorem lex_nil (h : Q p a) : wpLex P ops C m Q k p [] a := h
theorem lex_skip (hw : Region.wanted o (yielded ops a.tmps) = false) [hp : Put a o.dst undef a'] (h : wpLex P ops C m Q (k + 1) p rest a') : wpLex P ops C m Q k p (o :: rest) a := by
  unfold wpLex
  rw [if_neg (by rw [hw]; simp), hp.h]
  exact h
theorem lex_val (hw : Region.wanted o (yielded ops a.tmps) = true) (hm : m k = false) (hv : ∀ q w, C q w → OpVal P o a w v) [hp : Put a o.dst v a'] (h : wpLex P ops C m Q (k + 1) p rest a') : wpLex P ops C m Q k p (o :: rest) a := by
  unfold wpLex
  rw [if_pos hw]
  refine ⟨v, ?_, ?_⟩
  · unfold Yv
    rw [if_neg (by rw [hm]; simp)]
    intro q w hC
    unfold stepAt
    rw [hv q w hC]
    exact ⟨hC, rfl⟩
  · rw [nx, if_neg (by rw [hm]; simp), hp.h]
    exact h
/-- The operands of a call. -/
class EvL (a : Act) (xs : List Operand) (vs : outParam (List Value)) : Prop where
  h : xs.map a.eval = vs
instance evLNil {a : Act} : EvL a [] [] := ⟨rfl⟩
instance evLCons {a : Act} {x : Operand} {v : Value} {xs : List Operand} {vs : List Value} [h1 : Ev a x v] [h : EvL a xs vs] : EvL a (x :: xs) (v :: vs) := ⟨by rw [List.map_cons, h1.h, h.h]⟩
theorem step_call {f : Nat} {xs : List Operand} {ts : Array TypeId} (ho : o.op = .call { callee := .value (.func f), args := xs.toArray, argTypes := ts }) {vs : List Value} [hE : EvL a xs vs] (he : ∀ args w, (callFunc f args).run P w = .ok (.enter f args) w)
    {C' : World → Prop} {w : World} (h : Calls P f vs.toArray w (fun e w'' => e = .returned v ∧ C' w'')) : stepAt P o a C' w v := by
  have hr : (execOp a.eval o).run P w = .ok (.enter f vs.toArray) w := by
    have hE' := hE.h
    simp [execOp, ho, resolve, invoke, Deferred.ofValue, Act.eval, List.map_toArray, hE', he]
  unfold stepAt
  rw [hr]
  exact h
/-- A marked call. -/
theorem lex_call (f : Nat) (xs : List Operand) (ts : Array TypeId) (ho : o.op = .call { callee := .value (.func f), args := xs.toArray, argTypes := ts }) (hw : Region.wanted o (yielded ops a.tmps) = true) (hm : m k = true) {vs : List Value} [hE : EvL a xs vs]
    (he : ∀ args w, (callFunc f args).run P w = .ok (.enter f args) w) (v : Value) (hv : ∀ w, C p w → Calls P f vs.toArray w (fun e w'' => e = .returned v ∧ C (p + 1) w'')) [hp : Put a o.dst v a'] (h : wpLex P ops C m Q (k + 1) (p + 1) rest a') :
    wpLex P ops C m Q k p (o :: rest) a := by
  unfold wpLex
  rw [if_pos hw]
  refine ⟨v, ?_, ?_⟩
  · unfold Yv
    rw [if_pos hm]
    exact fun w hC => step_call ho he (hv w hC)
  · rw [nx, if_pos hm, hp.h]
    exact h
/-- A call that leaves every phase as it is. -/
theorem lex_ask (f : Nat) (xs : List Operand) (ts : Array TypeId) (ho : o.op = .call { callee := .value (.func f), args := xs.toArray, argTypes := ts }) (hw : Region.wanted o (yielded ops a.tmps) = true) (hm : m k = false) {vs : List Value} [hE : EvL a xs vs]
    (he : ∀ args w, (callFunc f args).run P w = .ok (.enter f args) w) (v : Value) (hv : ∀ q w, C q w → Calls P f vs.toArray w (fun e w'' => e = .returned v ∧ C q w'')) [hp : Put a o.dst v a'] (h : wpLex P ops C m Q (k + 1) p rest a') :
    wpLex P ops C m Q k p (o :: rest) a := by
  unfold wpLex
  rw [if_pos hw]
  refine ⟨v, ?_, ?_⟩
  · unfold Yv
    rw [if_neg (by rw [hm]; simp)]
    exact fun q w hC => step_call ho he (hv q w hC)
  · rw [nx, if_neg (by rw [hm]; simp), hp.h]
    exact h

/-! Plain operations -/
variable {w : World}
theorem run_mv (x : Operand) (ho : o.op = .move x) [hx : Ev a x v] : OpVal P o a w v := by
  unfold OpVal; simp [execOp, ho, hx.h]
theorem run_as (x : Operand) (ho : o.op = .assign x) [hx : Ev a x v] : OpVal P o a w v := by
  unfold OpVal; simp [execOp, ho, hx.h]
theorem run_pk1 (c x y : Operand) (ho : o.op = .pick c x y) [hc : Ev a c (.bool true)] [hx : Ev a x v] : OpVal P o a w v := by
  unfold OpVal; simp [execOp, ho, hc.h, hx.h, asBool]
theorem run_pk2 (c x y : Operand) (ho : o.op = .pick c x y) [hc : Ev a c (.bool false)] [hy : Ev a y v] : OpVal P o a w v := by
  unfold OpVal; simp [execOp, ho, hc.h, hy.h, asBool]
theorem run_ine {k : IntKind} {e : Int} (t t' : TypeId) (x y : Operand) (ho : o.op = .binOp .neq t x y t') [hx : Ev a x (.int k e)] [hy : Ev a y (.int k e)] : OpVal P o a w (.bool false) := by
  unfold OpVal; simp [execOp, ho, hx.h, hy.h, eqGuard, binOp, Op.intCmp]
class FieldAt (P : Program) (s : TypeId) (f b off : Nat) (off' : outParam Nat) : Prop where
  h : ∀ w, (Instr.fieldAt s (.pointer (some ⟨b, off, none⟩)) f).run P w = .ok (.pointer (some ⟨b, off', none⟩)) w
theorem run_fa (s : TypeId) (x : Operand) (f : Nat) (ho : o.op = .fieldAddr s x f) {b off off' : Nat} [hx : Ev a x (.pointer (some ⟨b, off, none⟩))] [hf : FieldAt P s f b off off'] : OpVal P o a w (.pointer (some ⟨b, off', none⟩)) := by
  unfold OpVal; simp [execOp, ho, hx.h, hf.h]
end
end Go.Mm
