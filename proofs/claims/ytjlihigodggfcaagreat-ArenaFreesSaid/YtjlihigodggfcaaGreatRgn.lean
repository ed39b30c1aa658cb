/-
  What the texts share: Reg, Free, Item, Opv, ItemD, Gen, Mp, Cpy.
-/
import Derived.Test.YtjlihigodggfcaaGreatBas
import Derived.Deep.Quiet
import Derived.IntWalk
import Derived.WideKeyRuns
set_option linter.unusedVariables false
set_option linter.unusedSimpArgs false
/-
  A region that draws its order, in which some operations are marked that turn the world, one behind the other, and all others only read: one walk of the text's order serves every order.
-/
namespace Go.Mm
open Go Go.RowKit

section
variable {P : Program} {ops : Array Oper} {md : Region.Mode} {C : Nat → World → Prop} {m : Nat → Bool}

/-- What is asked of an operation's result: the value v, and a world of C'; or a call that hands back v and leaves a world of C'. -/
def stepUpon (P : Program) (C' : World → Prop) (v : Value) : Result Next → Prop
  | .ok (.value u) w' => C' w' ∧ u = v
  | .ok .skip w' => C' w' ∧ v = undef
  | .ok (.enter f args) w' => Calls P f args w' (fun e w'' => e = .returned v ∧ C' w'')
  | _ => False
def stepAt (P : Program) (o : Oper) (a : Act) (C' : World → Prop) (w : World) (v : Value) : Prop := stepUpon P C' v ((execOp a.eval o).run P w)

/-- Operation i yields v: a marked one turns the phase; one that is not marked serves in every phase. -/
def Yv (P : Program) (C : Nat → World → Prop) (m : Nat → Bool) (i : Nat) (o : Oper) (p : Nat) (a : Act) (v : Value) : Prop :=
  if m i then ∀ w, C p w → stepAt P o a (C (p + 1)) w v else ∀ q w, C q w → stepAt P o a (C q) w v
def nx (m : Nat → Bool) (i p : Nat) : Nat := if m i then p + 1 else p

def pOp (P : Program) (ops : Array Oper) (C : Nat → World → Prop) (m : Nat → Bool) (i p : Nat) (K : Nat → Act → Prop) (a : Act) : Prop :=
  match ops[i]? with
  | none => K p a
  | some o => if Region.wanted o (yielded ops a.tmps) then ∃ v, Yv P C m i o p a v ∧ K (nx m i p) (a.put o.dst v) else K p (a.put o.dst undef)

/-- The walk in the text's order. -/
def wpLex (P : Program) (ops : Array Oper) (C : Nat → World → Prop) (m : Nat → Bool) (Q : Nat → Act → Prop) : Nat → Nat → List Oper → Act → Prop
  | _, p, [], a => Q p a
  | k, p, o :: rest, a => if Region.wanted o (yielded ops a.tmps) then ∃ v, Yv P C m k o p a v ∧ wpLex P ops C m Q (k + 1) (nx m k p) rest (a.put o.dst v) else wpLex P ops C m Q (k + 1) p rest (a.put o.dst undef)

def wpAnyP (P : Program) (md : Region.Mode) (ops : Array Oper) (C : Nat → World → Prop) (m : Nat → Bool) (Q : Nat → Act → Prop) : Nat → Array Bool → Nat → Act → Prop
  | 0, listed, p, a => Region.ready md ops listed = [] ∧ Q p a
  | fuel + 1, listed, p, a =>
    (Region.ready md ops listed = [] → Q p a) ∧
    ∀ i ∈ Region.ready md ops listed, pOp P ops C m i p (wpAnyP P md ops C m Q fuel (listed.setIfInBounds i true)) a

theorem pOp_mono {i p : Nat} {a : Act} {K K' : Nat → Act → Prop} (h : ∀ p a, K p a → K' p a) (hh : pOp P ops C m i p K a) : pOp P ops C m i p K' a := by
  unfold pOp at *
  split
  · exact h _ _ (by simpa [*] using hh)
  · rename_i o ho
    simp only [ho] at hh
    split
    · rename_i hw
      simp only [hw, if_true] at hh
      obtain ⟨v, h1, h2⟩ := hh
      exact ⟨v, h1, h _ _ h2⟩
    · rename_i hw; simp only [hw] at hh; exact h _ _ hh

theorem wp_of_step {o : Oper} {a : Act} {C' : World → Prop} {v : Value} {K' : Act → World → Prop} {Q' : Exit → Act → World → Prop} {w : World} (h3 : stepAt P o a C' w v) (h : ∀ w', C' w' → K' (a.put o.dst v) w') : o.wp P a w K' Q' := by
  unfold stepAt at h3
  unfold Oper.wp
  generalize (execOp a.eval o).run P w = r at *
  cases r with
  | ok n w' =>
    cases n <;> simp only [stepUpon] at h3 <;> simp only [Oper.upon]
    case value u =>
      obtain ⟨e1, e2⟩ := h3
      rw [e2]
      exact h _ e1
    case skip =>
      obtain ⟨e1, e2⟩ := h3
      rw [← e2]
      exact h _ e1
    case enter f args =>
      exact h3.mono fun e w'' ⟨he, hw''⟩ => by subst he; exact h _ hw''
  | halt x w' => simp only [stepUpon] at h3

theorem wpOp_of_pOp {i p : Nat} {a : Act} {K : Nat → Act → Prop} {K' : Act → World → Prop} {Q' : Exit → Act → World → Prop} {w : World} (hC : C p w) (h : ∀ p a w', C p w' → K p a → K' a w') (hh : pOp P ops C m i p K a) : wpOp P ops Q' i K' a w := by
  unfold pOp at hh
  unfold wpOp
  split
  · rename_i ho; simp only [ho] at hh; exact h _ _ _ hC hh
  · rename_i o ho
    simp only [ho] at hh
    split
    · rename_i hw
      simp only [hw, if_true] at hh
      obtain ⟨v, h1, h2⟩ := hh
      left
      unfold Yv at h1
      unfold nx at h2
      split at h1
      · rename_i hm
        rw [if_pos hm] at h2
        exact wp_of_step (h1 w hC) (fun w' hw' => h _ _ _ hw' h2)
      · rename_i hm
        rw [if_neg hm] at h2
        exact wp_of_step (h1 p w hC) (fun w' hw' => h _ _ _ hw' h2)
    · rename_i hw; simp only [hw] at hh; exact h _ _ _ hC hh

theorem wpAny_of_p {Q : Nat → Act → Prop} {Q' : Exit → Act → World → Prop} (hQ : ∀ p a w, C p w → Q p a → Q' .normal a w) : ∀ (fuel : Nat) (listed : Array Bool) (p : Nat) (a : Act) (w : World), C p w →
    wpAnyP P md ops C m Q fuel listed p a → wpAny P md ops Q' fuel listed a w
  | 0, _, _, _, _, hw, h => ⟨h.1, hQ _ _ _ hw h.2⟩
  | fuel + 1, _, _, _, _, hw, h => ⟨fun h0 => hQ _ _ _ hw (h.1 h0), fun i hi => wpOp_of_pOp hw (fun p' a' w' hw' => wpAny_of_p hQ fuel _ p' a' w' hw') (h.2 i hi)⟩

/-- In state a and phase p operation i leaves v in its temporary. -/
def YieldsP (P : Program) (ops : Array Oper) (C : Nat → World → Prop) (m : Nat → Bool) (i : Nat) (o : Oper) (v : Value) (p p' : Nat) (a : Act) : Prop :=
  (Region.wanted o (yielded ops a.tmps) = true ∧ Yv P C m i o p a v ∧ p' = nx m i p) ∨ (Region.wanted o (yielded ops a.tmps) = false ∧ v = undef ∧ p' = p)

theorem YieldsP.pOp {i p p' : Nat} {o : Oper} {v : Value} {a : Act} (hi : ops[i]? = some o) (hy : YieldsP P ops C m i o v p p' a) {K : Nat → Act → Prop} (h : K p' (a.put o.dst v)) : pOp P ops C m i p K a := by
  unfold Mm.pOp
  simp only [hi]
  rcases hy with ⟨hw, hv, rfl⟩ | ⟨hw, rfl, rfl⟩
  · simp only [hw, if_true]; exact ⟨v, hv, h⟩
  · simp only [hw, Bool.false_eq_true, if_false]; exact h

theorem yieldsP_of_pOp {i p : Nat} {o : Oper} {a : Act} {K : Nat → Act → Prop} (hi : ops[i]? = some o) (h : pOp P ops C m i p K a) : ∃ v p', YieldsP P ops C m i o v p p' a ∧ K p' (a.put o.dst v) := by
  unfold pOp at h
  simp only [hi] at h
  by_cases hw : Region.wanted o (yielded ops a.tmps) = true
  · simp only [hw, if_true] at h
    obtain ⟨v, h1, h2⟩ := h
    exact ⟨v, _, .inl ⟨hw, h1, rfl⟩, h2⟩
  · simp only [hw] at h
    exact ⟨undef, _, .inr ⟨by simpa using hw, rfl, rfl⟩, h⟩

theorem Yv.of_same {i p : Nat} {o : Oper} {v : Value} {a a' : Act} (hy : Yv P C m i o p a v) (he : execOp a'.eval o = execOp a.eval o) : Yv P C m i o p a' v := by
  unfold Yv stepAt at *
  rw [he]
  exact hy
theorem Yv.phase {i p q : Nat} {o : Oper} {v : Value} {a : Act} (hy : Yv P C m i o p a v) (hm : m i = false) : Yv P C m i o q a v := by
  unfold Yv at hy ⊢
  rw [if_neg (by simp [hm])] at hy ⊢
  exact hy

/-- Operation j, apart from operation i, and not both marked: the two may change places. -/
theorem pOp_put {i j p p' : Nat} {oi oj : Oper} {v : Value} (hj : ops[j]? = some oj) (hap : oi.apart ops oj = true)
    (hsi : ∀ cs b, oi.op ≠ .select cs b) (hsj : ∀ cs b, oj.op ≠ .select cs b) (hmm : ¬ (m i = true ∧ m j = true)) {K : Nat → Act → Prop} {a : Act}
    (hy : YieldsP P ops C m i oi v p p' a) (h : pOp P ops C m j p' K (a.put oi.dst v)) :
    pOp P ops C m j p (fun q a' => ∃ q', YieldsP P ops C m i oi v q q' a' ∧ K q' (a'.put oi.dst v)) a := by
  obtain ⟨h1, h2, h3⟩ := Oper.apart_spec hap
  have keep : ∀ u, execOp (a.put oj.dst u).eval oi = execOp a.eval oi ∧ Region.wanted oi (yielded ops (a.put oj.dst u).tmps) = Region.wanted oi (yielded ops a.tmps) := fun u =>
    ⟨execOp_put oi hsi a oj.dst u h3, wanted_put oi a oj.dst u h3⟩
  have back : execOp (a.put oi.dst v).eval oj = execOp a.eval oj := execOp_put oj hsj a oi.dst v h1
  unfold pOp at *
  simp only [hj] at *
  rw [wanted_put oj a oi.dst v h1] at h
  split
  · rename_i hw
    simp only [hw, if_true] at h
    obtain ⟨u, hu, hn⟩ := h
    by_cases hmj : m j = true
    · have hmi : m i = false := by rw [← Bool.not_eq_true]; exact fun q => hmm ⟨q, hmj⟩
      have hp : p' = p := by
        rcases hy with ⟨_, _, e⟩ | ⟨_, _, e⟩
        · rw [e, nx, hmi]; rfl
        · exact e
      subst hp
      refine ⟨u, (hu.of_same back.symm), nx m j p', ?_, by rw [← Act.put_comm a v u h2]; exact hn⟩
      rcases hy with ⟨g1, g2, _⟩ | ⟨g1, g2, _⟩
      · exact .inl ⟨by rw [(keep u).2]; exact g1, (g2.of_same (keep u).1).phase hmi, by simp [nx, hmi]⟩
      · exact .inr ⟨by rw [(keep u).2]; exact g1, g2, rfl⟩
    · have hmj' : m j = false := by simpa using hmj
      have hnj : ∀ q, nx m j q = q := fun q => by simp [nx, hmj']
      rw [hnj] at hn
      refine ⟨u, ((hu.of_same back.symm).phase hmj'), p', ?_, by rw [← Act.put_comm a v u h2]; exact hn⟩
      rw [hnj]
      rcases hy with ⟨g1, g2, g3⟩ | ⟨g1, g2, g3⟩
      · exact .inl ⟨by rw [(keep u).2]; exact g1, g2.of_same (keep u).1, g3⟩
      · exact .inr ⟨by rw [(keep u).2]; exact g1, g2, g3⟩
  · rename_i hw
    simp only [hw] at h
    refine ⟨p', ?_, by rw [← Act.put_comm a v undef h2]; exact h⟩
    rcases hy with ⟨g1, g2, g3⟩ | ⟨g1, g2, g3⟩
    · exact .inl ⟨by rw [(keep _).2]; exact g1, g2.of_same (keep _).1, g3⟩
    · exact .inr ⟨by rw [(keep _).2]; exact g1, g2, g3⟩

theorem getD_up {l : Array Bool} {x : Nat} (h : l.getD x false = true) : l.getD x true = true := by
  rcases Nat.lt_or_ge x l.size with h' | h'
  · simp [h'] at h ⊢; exact h
  · simp [Array.getElem?_eq_none h'] at h
/-- Operation j waits for operation i, by a way of at most n steps. -/
def ancB (md : Region.Mode) (ops : Array Oper) (i : Nat) : Nat → Nat → Bool
  | 0, _ => false
  | n + 1, j => match ops[j]? with
    | some o => o.after.any (fun e => Region.binds md e && (e.on == i || ancB md ops i n e.on))
    | none => false
/-- What is listed has all listed that it waits for. -/
def ClosedL (md : Region.Mode) (ops : Array Oper) (listed : Array Bool) : Prop := ∀ j oj, ops[j]? = some oj → listed.getD j true = true → ∀ e ∈ oj.after, Region.binds md e = true → listed.getD e.on true = true
theorem anc_listed {i : Nat} {listed : Array Bool} (hc : ClosedL md ops listed) : ∀ (n j : Nat) (oj : Oper), ops[j]? = some oj → (∀ e ∈ oj.after, Region.binds md e = true → listed.getD e.on true = true) → ancB md ops i n j = true → listed.getD i true = true
  | 0, _, _, _, _, h => by cases h
  | n + 1, j, oj, hj, hall, h => by
    unfold ancB at h
    simp only [hj] at h
    obtain ⟨e, he, hb⟩ := Array.any_eq_true'.1 h
    simp only [Bool.and_eq_true, Bool.or_eq_true, beq_iff_eq] at hb
    obtain ⟨hb, h1 | h1⟩ := hb
    · rw [← h1]; exact hall e he hb
    · cases ho : ops[e.on]? with
      | none => cases n with
        | zero => cases h1
        | succ n => unfold ancB at h1; simp only [ho] at h1; cases h1
      | some ok => exact anc_listed hc n e.on ok ho (hc e.on ok ho (hall e he hb)) h1

theorem ClosedL.set {listed : Array Bool} (hc : ClosedL md ops listed) {j : Nat} {oj : Oper} (hj : ops[j]? = some oj) (hall : ∀ e ∈ oj.after, Region.binds md e = true → listed.getD e.on true = true) : ClosedL md ops (listed.setIfInBounds j true) := by
  have up : ∀ x, listed.getD x true = true → (listed.setIfInBounds j true).getD x true = true := fun x hx => by
    by_cases e : j = x
    · subst e
      rcases Nat.lt_or_ge j listed.size with h' | h'
      · simp [h']
      · simp
    · rw [getD_set_ne true e]; exact hx
  intro x ox hx hl e he hb
  by_cases h : j = x
  · subst h
    rw [hj] at hx
    obtain rfl := Option.some.inj hx
    exact up _ (hall e he hb)
  · rw [getD_set_ne true h] at hl
    exact up _ (hc x ox hx hl e he hb)

theorem wpAnyP_first {Q : Nat → Act → Prop} {i : Nat} {oi : Oper} {v : Value} (hi : ops[i]? = some oi) (hsel : ∀ (j : Nat) (o : Oper) cs b, ops[j]? = some o → o.op ≠ .select cs b) :
    ∀ (fuel : Nat) (listed : Array Bool) (p p' : Nat) (a : Act),
      (∀ j oj, ops[j]? = some oj → j ≠ i → listed.getD j true = false → (∀ e ∈ oj.after, Region.binds md e = true → e.on ≠ i) → oi.apart ops oj = true ∧ (m i = true → m j = true → ancB md ops i ops.size j = true)) →
      ClosedL md ops listed → i ∈ Region.ready md ops listed → YieldsP P ops C m i oi v p p' a →
      wpAnyP P md ops C m Q fuel (listed.setIfInBounds i true) p' (a.put oi.dst v) → wpAnyP P md ops C m Q (fuel + 1) listed p a := by
  intro fuel
  induction fuel with
  | zero =>
    intro listed p p' a _ _ hr hy H
    refine ⟨fun h => (by rw [h] at hr; cases hr), fun j hj => ?_⟩
    by_cases hji : j = i
    · subst hji; exact hy.pOp hi H
    · have := ready_mono hj hji
      rw [H.1] at this
      cases this
  | succ fuel ih =>
    intro listed p p' a hfree hcl hr hy H
    refine ⟨fun h => (by rw [h] at hr; cases hr), fun j hj => ?_⟩
    by_cases hji : j = i
    · subst hji; exact hy.pOp hi H
    · have h1 := H.2 j (ready_mono hj hji)
      obtain ⟨hjun, oj, hoj, hall⟩ := mem_ready.1 hj
      have hnot : ∀ e ∈ oj.after, Region.binds md e = true → e.on ≠ i := fun e he hb heq => by
        have h1 := hall e he hb
        have h0 := (mem_ready.1 hr).1
        rw [heq] at h1
        rcases Nat.lt_or_ge i listed.size with h' | h'
        · simp [h'] at h0 h1; rw [h0] at h1; cases h1
        · simp [Array.getElem?_eq_none h'] at h1
      have hf := hfree j oj hoj hji hjun hnot
      have hmm : ¬ (m i = true ∧ m j = true) := fun ⟨g1, g2⟩ => by
        have h3 := anc_listed hcl _ _ _ hoj (fun e he hb => getD_up (hall e he hb)) (hf.2 g1 g2)
        have h0 := (mem_ready.1 hr).1
        rcases Nat.lt_or_ge i listed.size with h' | h'
        · simp [h'] at h0 h3; rw [h0] at h3; cases h3
        · simp [Array.getElem?_eq_none h'] at h0
      have h2 := pOp_put hoj hf.1 (fun cs b => hsel i oi cs b hi) (fun cs b => hsel j oj cs b hoj) hmm hy h1
      have hfree' : ∀ k ok, ops[k]? = some ok → k ≠ i → (listed.setIfInBounds j true).getD k true = false →
          (∀ e ∈ ok.after, Region.binds md e = true → e.on ≠ i) → oi.apart ops ok = true ∧ (m i = true → m k = true → ancB md ops i ops.size k = true) := fun k ok hk hki hun hno => by
        refine hfree k ok hk hki ?_ hno
        by_cases hjk : j = k
        · subst hjk; exact hjun
        · rw [getD_set_ne true hjk] at hun; exact hun
      refine pOp_mono (fun q a' h3 => ?_) h2
      obtain ⟨q', h4, h5⟩ := h3
      refine ih (listed.setIfInBounds j true) q q' a' hfree' (hcl.set hoj (fun e he hb => getD_up (hall e he hb))) (ready_mono hr (Ne.symm hji)) h4 ?_
      rw [Array.setIfInBounds_comm _ _ hji]
      exact h5

/-- Of two marked operations the later one waits for the earlier one, perhaps by others. -/
def chainB (md : Region.Mode) (ops : Array Oper) (m : Nat → Bool) : Bool :=
  (List.range ops.size).all fun j => (List.range j).all fun i => !(m i && m j) || ancB md ops i ops.size j
theorem chain_spec {md : Region.Mode} (h : chainB md ops m = true) {i j : Nat} {oj : Oper} (hij : i < j) (hj : ops[j]? = some oj) (h1 : m i = true) (h2 : m j = true) : ancB md ops i ops.size j = true := by
  have hjs : j < ops.size := (Array.getElem?_eq_some_iff.1 hj).1
  have := (List.all_eq_true.1 ((List.all_eq_true.1 h) j (List.mem_range.2 hjs))) i (List.mem_range.2 hij)
  simpa [h1, h2] using this

theorem wpAnyP_lex {Q : Nat → Act → Prop} (hs : Region.noSelect ops = true) (hch : chainB md ops m = true) : ∀ (l : List Oper) (k : Nat) (listed : Array Bool) (p : Nat) (a : Act), (∀ j, l[j]? = ops[k + j]?) →
    (∀ j, j < k → listed.getD j true = true) → ClosedL md ops listed →
    Region.lexFrom md ops l.length k listed = true → wpLex P ops C m Q k p l a → wpAnyP P md ops C m Q l.length listed p a
  | [], _, _, _, _, _, _, _, hB, h => ⟨by simpa [Region.lexFrom] using hB, h⟩
  | o :: l, k, listed, p, a, hl, hk, hcl, hB, h => by
    have h0 : ops[k]? = some o := by simpa using (hl 0).symm
    simp only [List.length_cons, Region.lexFrom, Bool.and_eq_true] at hB
    obtain ⟨⟨hr, hf⟩, hB'⟩ := hB
    have hst : pOp P ops C m k p (fun p' a' => wpLex P ops C m Q (k + 1) p' l a') a := by unfold pOp; simp only [h0]; exact h
    obtain ⟨v, p', hy, hK⟩ := yieldsP_of_pOp h0 hst
    refine wpAnyP_first h0 (Region.noSelect_spec hs) l.length listed p p' a (fun j oj hj hjk hun hno => ⟨Region.free_spec h0 hf j oj hj hjk hun hno, fun g1 g2 => ?_⟩) hcl (by simpa using hr) hy
      (wpAnyP_lex hs hch l (k + 1) _ _ _ (fun j => by have := hl (j + 1); simpa [Nat.add_assoc, Nat.add_comm 1 j] using this) (fun j hj => ?_) ?_ hB' hK)
    · have hkj : k < j := by
        rcases Nat.lt_trichotomy j k with h' | h' | h'
        · rw [hk j h'] at hun; cases hun
        · exact absurd h' hjk
        · exact h'
      exact chain_spec hch hkj hj g1 g2
    · by_cases e : k = j
      · subst e
        rcases Nat.lt_or_ge k listed.size with h' | h'
        · simp [h']
        · simp
      · rw [getD_set_ne true e]
        exact hk j (by omega)
    · have hrk : k ∈ Region.ready md ops listed := by simpa using hr
      obtain ⟨_, ok, hok, hall⟩ := mem_ready.1 hrk
      exact hcl.set hok (fun e he hb => getD_up (hall e he hb))

theorem region_step {id : Nat} {l : List Oper} {Q : Exit → Act → World → Prop} {a : Act} {w : World} (C : Nat → World → Prop) (m : Nat → Bool) (hm : P.follows .mixedOrders = true) (hB : Region.lexB .any l.toArray = true) (hch : chainB .any l.toArray m = true)
    (hC : C 0 { w with drawn := w.drawn + 1 }) (h : wpLex P l.toArray C m (fun p a' => ∀ w', C p w' → Q .normal a' w') 0 0 l a) : (Code.region id l.toArray true).wp P Q a w := by
  simp only [Region.lexB, Bool.and_eq_true] at hB
  refine wp_region_any hm (wpAny_of_p (m := m) (Q := fun p a' => ∀ w', C p w' → Q .normal a' w') (fun p a' w' hw' h => h w' hw') _ _ _ _ _ hC ?_)
  have := wpAnyP_lex (P := P) (C := C) (md := .any) hB.1 hch l 0 (Array.replicate l.toArray.size false) 0 a (by simp) (by omega) (fun j oj hj hl => by
    have hjs : j < l.toArray.size := (Array.getElem?_eq_some_iff.1 hj).1
    simp only [List.size_toArray] at hjs
    simp [hjs] at hl) (by simpa using hB.2) h
  simpa using this

/-! Steps of such a walk -/
variable {Q : Nat → Act → Prop} {k p : Nat} {o : Oper} {rest : List Oper} {a a' : Act} {v : Value}
theorem lex_nil (h : Q p a) : wpLex P ops C m Q k p [] a := h
theorem lex_skip (hw : Region.wanted o (yielded ops a.tmps) = false) [hp : Put a o.dst undef a'] (h : wpLex P ops C m Q (k + 1) p rest a') : wpLex P ops C m Q k p (o :: rest) a := by
  unfold wpLex
  rw [if_neg (by rw [hw]; simp), hp.h]
  exact h
theorem lex_val (hw : Region.wanted o (yielded ops a.tmps) = true) (hm : m k = false) (hv : ∀ q w, C q w → OpVal P o a w v) [hp : Put a o.dst v a'] (h : wpLex P ops C m Q (k + 1) p rest a') : wpLex P ops C m Q k p (o :: rest) a := by
  unfold wpLex
  rw [if_pos hw]
  refine ⟨v, ?_, ?_⟩
  · unfold Yv
    rw [if_neg (by rw [hm]; simp)]
    intro q w hC
    unfold stepAt
    rw [hv q w hC]
    exact ⟨hC, rfl⟩
  · rw [nx, if_neg (by rw [hm]; simp), hp.h]
    exact h
/-- The operands of a call. -/
class EvL (a : Act) (xs : List Operand) (vs : outParam (List Value)) : Prop where
  h : xs.map a.eval = vs
instance evLNil {a : Act} : EvL a [] [] := ⟨rfl⟩
instance evLCons {a : Act} {x : Operand} {v : Value} {xs : List Operand} {vs : List Value} [h1 : Ev a x v] [h : EvL a xs vs] : EvL a (x :: xs) (v :: vs) := ⟨by rw [List.map_cons, h1.h, h.h]⟩
theorem step_call {f : Nat} {xs : List Operand} {ts : Array TypeId} (ho : o.op = .call { callee := .value (.func f), args := xs.toArray, argTypes := ts }) {vs : List Value} [hE : EvL a xs vs] (he : ∀ args w, (callFunc f args).run P w = .ok (.enter f args) w)
    {C' : World → Prop} {w : World} (h : Calls P f vs.toArray w (fun e w'' => e = .returned v ∧ C' w'')) : stepAt P o a C' w v := by
  have hr : (execOp a.eval o).run P w = .ok (.enter f vs.toArray) w := by
    have hE' := hE.h
    simp [execOp, ho, resolve, invoke, Deferred.ofValue, Act.eval, List.map_toArray, hE', he]
  unfold stepAt
  rw [hr]
  exact h
/-- A marked call. -/
theorem lex_call (f : Nat) (xs : List Operand) (ts : Array TypeId) (ho : o.op = .call { callee := .value (.func f), args := xs.toArray, argTypes := ts }) (hw : Region.wanted o (yielded ops a.tmps) = true) (hm : m k = true) {vs : List Value} [hE : EvL a xs vs]
    (he : ∀ args w, (callFunc f args).run P w = .ok (.enter f args) w) (v : Value) (hv : ∀ w, C p w → Calls P f vs.toArray w (fun e w'' => e = .returned v ∧ C (p + 1) w'')) [hp : Put a o.dst v a'] (h : wpLex P ops C m Q (k + 1) (p + 1) rest a') :
    wpLex P ops C m Q k p (o :: rest) a := by
  unfold wpLex
  rw [if_pos hw]
  refine ⟨v, ?_, ?_⟩
  · unfold Yv
    rw [if_pos hm]
    exact fun w hC => step_call ho he (hv w hC)
  · rw [nx, if_pos hm, hp.h]
    exact h
/-- A call that leaves every phase as it is. -/
theorem lex_ask (f : Nat) (xs : List Operand) (ts : Array TypeId) (ho : o.op = .call { callee := .value (.func f), args := xs.toArray, argTypes := ts }) (hw : Region.wanted o (yielded ops a.tmps) = true) (hm : m k = false) {vs : List Value} [hE : EvL a xs vs]
    (he : ∀ args w, (callFunc f args).run P w = .ok (.enter f args) w) (v : Value) (hv : ∀ q w, C q w → Calls P f vs.toArray w (fun e w'' => e = .returned v ∧ C q w'')) [hp : Put a o.dst v a'] (h : wpLex P ops C m Q (k + 1) p rest a') :
    wpLex P ops C m Q k p (o :: rest) a := by
  unfold wpLex
  rw [if_pos hw]
  refine ⟨v, ?_, ?_⟩
  · unfold Yv
    rw [if_neg (by rw [hm]; simp)]
    exact fun q w hC => step_call ho he (hv q w hC)
  · rw [nx, if_neg (by rw [hm]; simp), hp.h]
    exact h

/-! Plain operations -/
variable {w : World}
theorem run_mv (x : Operand) (ho : o.op = .move x) [hx : Ev a x v] : OpVal P o a w v := by
  unfold OpVal; simp [execOp, ho, hx.h]
theorem run_as (x : Operand) (ho : o.op = .assign x) [hx : Ev a x v] : OpVal P o a w v := by
  unfold OpVal; simp [execOp, ho, hx.h]
theorem run_pk1 (c x y : Operand) (ho : o.op = .pick c x y) [hc : Ev a c (.bool true)] [hx : Ev a x v] : OpVal P o a w v := by
  unfold OpVal; simp [execOp, ho, hc.h, hx.h, asBool]
theorem run_pk2 (c x y : Operand) (ho : o.op = .pick c x y) [hc : Ev a c (.bool false)] [hy : Ev a y v] : OpVal P o a w v := by
  unfold OpVal; simp [execOp, ho, hc.h, hy.h, asBool]
theorem run_ine {k : IntKind} {e : Int} (t t' : TypeId) (x y : Operand) (ho : o.op = .binOp .neq t x y t') [hx : Ev a x (.int k e)] [hy : Ev a y (.int k e)] : OpVal P o a w (.bool false) := by
  unfold OpVal; simp [execOp, ho, hx.h, hy.h, eqGuard, binOp, Op.intCmp]
class FieldAt (P : Program) (s : TypeId) (f b off : Nat) (off' : outParam Nat) : Prop where
  h : ∀ w, (Instr.fieldAt s (.pointer (some ⟨b, off, none⟩)) f).run P w = .ok (.pointer (some ⟨b, off', none⟩)) w
theorem run_fa (s : TypeId) (x : Operand) (f : Nat) (ho : o.op = .fieldAddr s x f) {b off off' : Nat} [hx : Ev a x (.pointer (some ⟨b, off, none⟩))] [hf : FieldAt P s f b off off'] : OpVal P o a w (.pointer (some ⟨b, off', none⟩)) := by
  unfold OpVal; simp [execOp, ho, hx.h, hf.h]
end
end Go.Mm

/-
  A region that draws its order, whose marked operations turn the world and may hand back what was not known ahead (new blocks): one walk of the text's order serves every order.
-/
namespace Go.Mm
open Go Go.RowKit

section
variable {P : Program} {ops : Array Oper} {md : Region.Mode} {X : Type}

/-- Which marked operations have been done. -/
abbrev Gs := Nat → Bool
def up {Y : Type} (χ : Nat → Y) (k : Nat) (x : Y) : Nat → Y := fun j => if j = k then x else χ j
theorem up_same {Y : Type} (χ : Nat → Y) (k : Nat) (x : Y) : up χ k x k = x := by simp [up]
theorem up_other {Y : Type} (χ : Nat → Y) {j k : Nat} (x : Y) (h : j ≠ k) : up χ k x j = χ j := by simp [up, h]

/-- The state behind those of the first n operations that have been done. -/
def dyn (ops : Array Oper) (a0 : Act) (V : Nat → Value) (p : Nat → Bool) : Nat → Act
  | 0 => a0
  | k + 1 => if p k then (dyn ops a0 V p k).put ((ops[k]?).bind (·.dst)) (V k) else dyn ops a0 V p k

theorem dyn_succ {a0 : Act} {V : Nat → Value} {p : Nat → Bool} (k : Nat) : dyn ops a0 V p (k + 1) = if p k then (dyn ops a0 V p k).put ((ops[k]?).bind (·.dst)) (V k) else dyn ops a0 V p k := rfl
theorem put_size (a : Act) (d : Option Tmp) (v : Value) : (a.put d v).tmps.size = a.tmps.size := by
  cases d <;> simp [Act.put]
theorem put_get_ne (a : Act) {d : Option Tmp} (v : Value) {t : Nat} (h : d ≠ some t) : (a.put d v).tmps[t]? = a.tmps[t]? := by
  cases d with
  | none => rfl
  | some d =>
    have : d ≠ t := fun e => h (by rw [e])
    simp [Act.put, Array.getElem?_setIfInBounds_ne this]
theorem put_get_same (a b : Act) (v : Value) {t : Nat} (h : a.tmps.size = b.tmps.size) : (a.put (some t) v).tmps[t]? = (b.put (some t) v).tmps[t]? := by
  simp [Act.put, Array.getElem?_setIfInBounds, h]
theorem dyn_size {a0 : Act} {V : Nat → Value} {p : Nat → Bool} : ∀ n, (dyn ops a0 V p n).tmps.size = a0.tmps.size
  | 0 => rfl
  | n + 1 => by
    unfold dyn
    split
    · rw [put_size, dyn_size n]
    · exact dyn_size n
theorem dyn_get1 {a0 : Act} {V : Nat → Value} {p : Nat → Bool} {t : Nat} : ∀ i, (∀ j, j < i → (ops[j]?).bind (·.dst) = some t → p j = true) → (dyn ops a0 V p i).tmps[t]? = (dyn ops a0 V (fun _ => true) i).tmps[t]?
  | 0, _ => rfl
  | i + 1, h => by
    have ih := dyn_get1 (a0 := a0) (V := V) i (fun j hj => h j (by omega))
    unfold dyn
    rw [if_pos rfl]
    by_cases hd : (ops[i]?).bind (·.dst) = some t
    · rw [if_pos (h i (by omega) hd), hd]
      exact put_get_same _ _ _ (by rw [dyn_size, dyn_size])
    · rw [put_get_ne _ _ hd]
      split
      · rw [put_get_ne _ _ hd, ih]
      · exact ih
theorem dyn_get2 {a0 : Act} {V : Nat → Value} {p : Nat → Bool} {t i : Nat} : ∀ n, i ≤ n → (∀ j, i ≤ j → j < n → (ops[j]?).bind (·.dst) = some t → p j = false) → (dyn ops a0 V p n).tmps[t]? = (dyn ops a0 V p i).tmps[t]?
  | 0, hi, _ => by
    have : i = 0 := by omega
    rw [this]
  | n + 1, hi, h => by
    by_cases e : i = n + 1
    · rw [e]
    have ih := dyn_get2 (a0 := a0) (V := V) n (by omega) (fun j h1 h2 => h j h1 (by omega))
    rw [dyn_succ]
    by_cases hd : (ops[n]?).bind (·.dst) = some t
    · rw [if_neg (by rw [h n (by omega) (by omega) hd]; simp), ih]
    · split
      · rw [put_get_ne _ _ hd, ih]
      · rw [ih]
theorem dyn_congr {a0 : Act} {V V' : Nat → Value} {p p' : Nat → Bool} : ∀ n, (∀ j, j < n → p j = p' j ∧ (p j = true → V j = V' j)) → dyn ops a0 V p n = dyn ops a0 V' p' n
  | 0, _ => rfl
  | n + 1, h => by
    have ih := dyn_congr (a0 := a0) n (fun j hj => h j (by omega))
    obtain ⟨h1, h2⟩ := h n (by omega)
    unfold dyn
    rw [ih, ← h1]
    split
    · rename_i hp; rw [h2 hp]
    · rfl
theorem dyn_set {a0 : Act} {V V' : Nat → Value} {p : Nat → Bool} {i : Nat} (hp : p i = false) : ∀ n, i < n → (∀ j, i < j → j < n → p j = true → ∀ d, (ops[i]?).bind (·.dst) = some d → (ops[j]?).bind (·.dst) ≠ some d) →
    (∀ j, j < n → p j = true → V' j = V j) → dyn ops a0 V' (fun j => if j = i then true else p j) n = (dyn ops a0 V p n).put ((ops[i]?).bind (·.dst)) (V' i)
  | 0, h, _, _ => absurd h (Nat.not_lt_zero _)
  | n + 1, hi, hd, hv => by
    by_cases e : i = n
    · subst e
      unfold dyn
      rw [if_pos (by simp), if_neg (by rw [hp]; simp)]
      congr 1
      refine dyn_congr i (fun j hj => ?_)
      have hne : j ≠ i := by omega
      simp only [if_neg hne, true_and]
      exact hv j (by omega)
    · have ih := dyn_set (a0 := a0) (V := V) (V' := V') hp n (by omega) (fun j h1 h2 => hd j h1 (by omega)) (fun j hj => hv j (by omega))
      have hne : n ≠ i := fun q => e q.symm
      unfold dyn
      simp only [if_neg hne]
      split
      · rename_i hpn
        rw [ih, hv n (by omega) hpn]
        exact Act.put_comm _ _ _ (fun d h1 => hd n (by omega) (by omega) hpn d h1)
      · exact ih

theorem eval_same {o : Oper} {a b : Act} (h : ∀ t ∈ o.looksAt ops, a.tmps[t]? = b.tmps[t]?) : ∀ x ∈ o.op.operands, a.eval x = b.eval x := by
  intro x hx
  cases x with
  | tmp t =>
    have ht : t ∈ o.looksAt ops := by
      unfold Oper.looksAt
      rw [List.mem_append]
      left
      rw [List.mem_filterMap]
      exact ⟨.tmp t, by simpa using hx, rfl⟩
    simp [Act.eval, h t ht]
  | _ => rfl
theorem wanted_same {o : Oper} {a b : Act} (h : ∀ t ∈ o.looksAt ops, a.tmps[t]? = b.tmps[t]?) : Region.wanted o (yielded ops a.tmps) = Region.wanted o (yielded ops b.tmps) := by
  unfold Region.wanted
  cases hg : o.guard with
  | none => rfl
  | some g =>
    obtain ⟨j, want⟩ := g
    simp only
    have : yielded ops a.tmps j = yielded ops b.tmps j := by
      unfold yielded
      cases hj : (ops[j]?).bind (·.dst) with
      | none => rfl
      | some t =>
        have ht : t ∈ o.looksAt ops := by
          unfold Oper.looksAt
          rw [List.mem_append]
          right
          rw [hg]
          simp [hj]
        simp only [Option.bind_some]
        rw [h t ht]
    rw [this]

/-! ### What is asked of an operation -/
def stepX (P : Program) (o : Oper) (a : Act) (w : World) (Φ : Value → World → Prop) : Prop := match (execOp a.eval o).run P w with
  | .ok (.value u) w' => Φ u w'
  | .ok .skip w' => Φ undef w'
  | .ok (.enter f args) w' => Calls P f args w' (fun e w'' => ∃ u, e = .returned u ∧ Φ u w'')
  | _ => False
theorem wp_of_stepX {o : Oper} {a : Act} {w : World} {Φ : Value → World → Prop} {K' : Act → World → Prop} {Q' : Exit → Act → World → Prop} (h3 : stepX P o a w Φ) (h : ∀ u w', Φ u w' → K' (a.put o.dst u) w') : o.wp P a w K' Q' := by
  unfold stepX at h3
  unfold Oper.wp
  generalize (execOp a.eval o).run P w = r at *
  cases r with
  | ok n w' =>
    cases n <;> simp only [] at h3 <;> simp only [Oper.upon]
    case value u => exact h _ _ h3
    case skip => exact h _ _ h3
    case enter f args => exact h3.mono fun e w'' ⟨u, he, hw''⟩ => by subst he; exact h _ _ hw''
  | halt x w' => simp only [] at h3

variable {C : Gs → (Nat → X) → World → Prop} {m : Nat → Bool}
/-- Operation k waits for operation s. -/
abbrev anc (md : Region.Mode) (ops : Array Oper) (s k : Nat) : Bool := ancB md ops s ops.size k
/-- A value that looks only at what this operation hands back, and at what those hand back that it waits for. -/
def Supp (md : Region.Mode) (ops : Array Oper) (k : Nat) (v : (Nat → X) → Value) : Prop := ∀ χ χ' : Nat → X, (∀ s, s = k ∨ anc md ops s k = true → χ s = χ' s) → v χ = v χ'
/-- What a step is: it looks only at what the operands hold, and may be weakened. -/
abbrev Sx := Oper → Act → World → (Value → World → Prop) → Prop
structure SxOk (sx : Sx) : Prop where
  mono : ∀ o a w (Φ Φ' : Value → World → Prop), (∀ u w', Φ u w' → Φ' u w') → sx o a w Φ → sx o a w Φ'
  congr : ∀ (o : Oper) (a b : Act) w Φ, (∀ cs c, o.op ≠ .select cs c) → (∀ x ∈ o.op.operands, a.eval x = b.eval x) → sx o a w Φ → sx o b w Φ
def Yy (sx : Sx) (md : Region.Mode) (ops : Array Oper) (C : Gs → (Nat → X) → World → Prop) (m : Nat → Bool) (k : Nat) (o : Oper) (A : (Nat → X) → Act) (M : List Nat) (v : (Nat → X) → Value) : Prop :=
  if m k then ∀ G χ w, G k = false → (∀ s ∈ M, anc md ops s k = true → G s = true) → (∀ j, anc md ops k j = true → G j = false) → C G χ w → sx o (A χ) w (fun u w' => ∃ x, u = v (up χ k x) ∧ C (up G k true) (up χ k x) w')
  else ∀ G χ w, (∀ s ∈ M, anc md ops s k = true → G s = true) → (∀ j, anc md ops k j = true → G j = false) → C G χ w → sx o (A χ) w (fun u w' => u = v χ ∧ C G χ w')
abbrev Yx (P : Program) (md : Region.Mode) (ops : Array Oper) (C : Gs → (Nat → X) → World → Prop) (m : Nat → Bool) (k : Nat) (o : Oper) (A : (Nat → X) → Act) (M : List Nat) (v : (Nat → X) → Value) : Prop := Yy (stepX P) md ops C m k o A M v
/-- The walk in the text's order. -/
def wpFy (sx : Sx) (md : Region.Mode) (ops : Array Oper) (C : Gs → (Nat → X) → World → Prop) (m : Nat → Bool) (E : List Nat → ((Nat → X) → Act) → Prop) : Nat → List Nat → List Oper → ((Nat → X) → Act) → Prop
  | _, M, [], A => E M A
  | k, M, o :: rest, A =>
    ((∀ χ, Region.wanted o (yielded ops (A χ).tmps) = true) ∧ ∃ v : (Nat → X) → Value, Supp md ops k v ∧ Yy sx md ops C m k o A M v ∧ wpFy sx md ops C m E (k + 1) (if m k then k :: M else M) rest (fun χ => (A χ).put o.dst (v χ)))
    ∨ ((∀ χ, Region.wanted o (yielded ops (A χ).tmps) = false) ∧ wpFy sx md ops C m E (k + 1) M rest (fun χ => (A χ).put o.dst undef))
abbrev wpFx (P : Program) (md : Region.Mode) (ops : Array Oper) (C : Gs → (Nat → X) → World → Prop) (m : Nat → Bool) (E : List Nat → ((Nat → X) → Act) → Prop) (k : Nat) (M : List Nat) (l : List Oper) (A : (Nat → X) → Act) : Prop := wpFy (stepX P) md ops C m E k M l A

/-- What is known of operation k. -/
def Good (sx : Sx) (md : Region.Mode) (ops : Array Oper) (C : Gs → (Nat → X) → World → Prop) (m : Nat → Bool) (a0 : Act) (V : Nat → (Nat → X) → Value) (bm : Nat → Bool) (k : Nat) (o : Oper) : Prop :=
  Supp md ops k (V k) ∧ (((∀ χ, Region.wanted o (yielded ops (dyn ops a0 (fun j => V j χ) (fun _ => true) k).tmps) = true) ∧ bm k = m k ∧ ∃ M : List Nat, (∀ s ∈ M, s < k ∧ bm s = true) ∧ Yy sx md ops C m k o (fun χ => dyn ops a0 (fun j => V j χ) (fun _ => true) k) M (V k))
    ∨ ((∀ χ, Region.wanted o (yielded ops (dyn ops a0 (fun j => V j χ) (fun _ => true) k).tmps) = false) ∧ bm k = false ∧ V k = fun _ => undef))

theorem fx_vals {sx : Sx} {E : List Nat → ((Nat → X) → Act) → Prop} {a0 : Act} : ∀ (l : List Oper) (k : Nat) (M : List Nat) (A : (Nat → X) → Act) (V0 : Nat → (Nat → X) → Value) (b0 : Nat → Bool), (∀ j, l[j]? = ops[k + j]?) →
    A = (fun χ => dyn ops a0 (fun j => V0 j χ) (fun _ => true) k) → (∀ s ∈ M, s < k ∧ b0 s = true) → wpFy sx md ops C m E k M l A →
    ∃ V bm Mf, (∀ j, j < k → V j = V0 j ∧ bm j = b0 j) ∧ (∀ j o, k ≤ j → ops[j]? = some o → Good sx md ops C m a0 V bm j o) ∧ (∀ s ∈ Mf, s < k + l.length ∧ bm s = true) ∧ E Mf (fun χ => dyn ops a0 (fun j => V j χ) (fun _ => true) (k + l.length))
  | [], k, M, A, V0, b0, hl, hA, hM, h => by
    refine ⟨V0, b0, M, fun _ _ => ⟨rfl, rfl⟩, fun j o hj ho => ?_, hM, by subst hA; exact h⟩
    have := hl (j - k)
    rw [show k + (j - k) = j by omega, ho] at this
    simp at this
  | o :: l, k, M, A, V0, b0, hl, hA, hM, h => by
    have h0 : ops[k]? = some o := by simpa using (hl 0).symm
    have hl' : ∀ j, l[j]? = ops[k + 1 + j]? := fun j => by have := hl (j + 1); simpa [Nat.add_assoc, Nat.add_comm 1 j] using this
    have key : ∀ (v : (Nat → X) → Value) (b : Bool) (M' : List Nat), (∀ s ∈ M', s < k + 1 ∧ (if s = k then b else b0 s) = true) → wpFy sx md ops C m E (k + 1) M' l (fun χ => (A χ).put o.dst (v χ)) →
        (∀ V bm, (∀ j, j < k + 1 → V j = (if j = k then v else V0 j) ∧ bm j = (if j = k then b else b0 j)) → Good sx md ops C m a0 V bm k o) →
        ∃ V bm Mf, (∀ j, j < k → V j = V0 j ∧ bm j = b0 j) ∧ (∀ j o, k ≤ j → ops[j]? = some o → Good sx md ops C m a0 V bm j o) ∧ (∀ s ∈ Mf, s < k + (l.length + 1) ∧ bm s = true) ∧ E Mf (fun χ => dyn ops a0 (fun j => V j χ) (fun _ => true) (k + (l.length + 1))) := by
      intro v b M' hM' hw hg
      obtain ⟨V, bm, Mf, g1, g2, g3, g4⟩ := fx_vals l (k + 1) M' _ (fun j => if j = k then v else V0 j) (fun j => if j = k then b else b0 j) hl' (by
        subst hA
        funext χ
        rw [dyn_succ]
        simp only [if_true, h0, Option.bind_some]
        congr 1
        refine dyn_congr k (fun j hj => ⟨rfl, fun _ => ?_⟩)
        have : j ≠ k := by omega
        simp [this]) hM' hw
      refine ⟨V, bm, Mf, fun j hj => ?_, fun j o' hj ho => ?_, fun s hs => ?_, ?_⟩
      · have := g1 j (by omega)
        have hne : j ≠ k := by omega
        simpa [hne] using this
      · by_cases e : j = k
        · subst e
          rw [h0] at ho
          obtain rfl := Option.some.inj ho
          exact hg V bm g1
        · exact g2 j o' (by omega) ho
      · have := g3 s hs
        exact ⟨by omega, this.2⟩
      · rw [show k + (l.length + 1) = k + 1 + l.length by omega]; exact g4
    have lexeq : ∀ (V : Nat → (Nat → X) → Value) (χ : Nat → X), (∀ j, j < k → V j = V0 j) → dyn ops a0 (fun j => V j χ) (fun _ => true) k = A χ := by
      intro V χ hV
      subst hA
      refine dyn_congr k (fun j hj => ⟨rfl, fun _ => ?_⟩)
      rw [hV j hj]
    rcases h with ⟨hw, v, hs, hy, hn⟩ | ⟨hw, hn⟩
    · refine key v (m k) _ ?_ hn ?_
      · intro s hs
        by_cases hm : m k = true
        · rw [if_pos hm] at hs
          rcases List.mem_cons.1 hs with rfl | hs
          · exact ⟨by omega, by simp [hm]⟩
          · have := hM s hs
            have hne : s ≠ k := by omega
            exact ⟨by omega, by simp [hne, this.2]⟩
        · rw [if_neg hm] at hs
          have := hM s hs
          have hne : s ≠ k := by omega
          exact ⟨by omega, by simp [hne, this.2]⟩
      · intro V bm hV
        have hV' : ∀ j, j < k → V j = V0 j := by
          intro j hj
          have h1 := (hV j (by omega)).1
          have hne : j ≠ k := by omega
          simpa [hne] using h1
        have hb' : ∀ j, j < k → bm j = b0 j := by
          intro j hj
          have h1 := (hV j (by omega)).2
          have hne : j ≠ k := by omega
          simpa [hne] using h1
        have hk := hV k (by omega)
        simp only [if_true] at hk
        have hl : (fun χ => dyn ops a0 (fun j => V j χ) (fun _ => true) k) = A := funext fun χ => lexeq V χ hV'
        refine ⟨by rw [hk.1]; exact hs, .inl ⟨fun χ => by rw [lexeq V χ hV']; exact hw χ, hk.2, M, fun s hs' => ?_, ?_⟩⟩
        · have := hM s hs'
          exact ⟨this.1, by rw [hb' s this.1]; exact this.2⟩
        · rw [hl, hk.1]; exact hy
    · refine key (fun _ => undef) false M ?_ hn ?_
      · intro s hs
        have := hM s hs
        have hne : s ≠ k := by omega
        exact ⟨by omega, by simp [hne, this.2]⟩
      · intro V bm hV
        have hV' : ∀ j, j < k → V j = V0 j := by
          intro j hj
          have h1 := (hV j (by omega)).1
          have hne : j ≠ k := by omega
          simpa [hne] using h1
        have hk := hV k (by omega)
        simp only [if_true] at hk
        refine ⟨by rw [hk.1]; exact fun _ _ _ => rfl, .inr ⟨fun χ => by rw [lexeq V χ hV']; exact hw χ, hk.2, hk.1⟩⟩

/-! ### What the Bool over the region says -/
theorem lex_facts : ∀ (fuel k : Nat) (listed : Array Bool), (∀ j, j < listed.size → (listed.getD j false = true ↔ j < k)) → listed.size = ops.size → Region.lexFrom md ops fuel k listed = true → k + fuel = ops.size →
    (∀ i o, k ≤ i → ops[i]? = some o → ∀ e ∈ o.after, Region.binds md e = true → e.on < i) ∧
    (∀ i j oi oj, k ≤ i → i < j → ops[i]? = some oi → ops[j]? = some oj → (∃ e ∈ oj.after, Region.binds md e = true ∧ e.on = i) ∨ oi.apart ops oj = true)
  | 0, k, listed, _, _, _, hk => by
    refine ⟨fun i o hi ho => ?_, fun i j oi oj hi hij hoi => ?_⟩
    · have := (Array.getElem?_eq_some_iff.1 ho).1; omega
    · have := (Array.getElem?_eq_some_iff.1 hoi).1; omega
  | fuel + 1, k, listed, hL, hs, hB, hk => by
    simp only [Region.lexFrom, Bool.and_eq_true] at hB
    obtain ⟨⟨hr, hf⟩, hB'⟩ := hB
    have hks : k < ops.size := by omega
    have hkr : k ∈ Region.ready md ops listed := by simpa using hr
    obtain ⟨_, ok, hok, hall⟩ := mem_ready.1 hkr
    obtain ⟨g1, g2⟩ := lex_facts fuel (k + 1) (listed.setIfInBounds k true) (fun j hj => by
      rw [Array.size_setIfInBounds] at hj
      by_cases e : k = j
      · subst e; simp [hj]
      · rw [getD_set_ne false e, hL j hj]; omega) (by simp [hs]) hB' (by omega)
    refine ⟨fun i o hi ho e he hb => ?_, fun i j oi oj hi hij hoi hoj => ?_⟩
    · by_cases e' : i = k
      · subst e'
        rw [hok] at ho
        obtain rfl := Option.some.inj ho
        have h1 := hall e he hb
        rcases Nat.lt_or_ge e.on listed.size with h' | h'
        · exact (hL e.on h').1 h1
        · simp [Array.getElem?_eq_none h'] at h1
      · exact g1 i o (by omega) ho e he hb
    · by_cases e' : i = k
      · subst e'
        by_cases hw : ∃ e ∈ oj.after, Region.binds md e = true ∧ e.on = i
        · exact .inl hw
        · refine .inr (Region.free_spec hoi hf j oj hoj (by omega) ?_ (fun e he hb heq => hw ⟨e, he, hb, heq⟩))
          have hjs : j < listed.size := by rw [hs]; exact (Array.getElem?_eq_some_iff.1 hoj).1
          have h1 : listed.getD j false ≠ true := fun q => by have := (hL j hjs).1 q; omega
          simp [hjs] at h1 ⊢
          exact h1
      · exact g2 i j oi oj (by omega) hij hoi hoj

/-- Where all that it holds has been done, an end. -/
structure Inv (P : Program) (md : Region.Mode) (ops : Array Oper) (C : Gs → (Nat → X) → World → Prop) (a0 : Act) (V : Nat → (Nat → X) → Value) (bm : Nat → Bool) (listed : Array Bool) (a : Act) (w : World) : Prop where
  size : listed.size = ops.size
  cl : ClosedL md ops listed
  ex : ∃ χ : Nat → X, a = dyn ops a0 (fun j => V j χ) (fun k => listed.getD k false) ops.size ∧ C (fun k => listed.getD k false && bm k) χ w

theorem getD_tf {l : Array Bool} {j : Nat} (h : j < l.size) (b c : Bool) : l.getD j b = l.getD j c := by simp [h]

theorem fx_step {sx : Sx} (hsx : SxOk sx) {a0 : Act} {V : Nat → (Nat → X) → Value} {bm : Nat → Bool} (hs : Region.noSelect ops = true) (hG : ∀ j o, ops[j]? = some o → Good sx md ops C m a0 V bm j o)
    (F1 : ∀ i o, ops[i]? = some o → ∀ e ∈ o.after, Region.binds md e = true → e.on < i)
    (F2 : ∀ i j oi oj, i < j → ops[i]? = some oi → ops[j]? = some oj → (∃ e ∈ oj.after, Region.binds md e = true ∧ e.on = i) ∨ oi.apart ops oj = true)
    {listed : Array Bool} {a : Act} {w : World} (hI : Inv P md ops C a0 V bm listed a w) {i : Nat} (hi : i ∈ Region.ready md ops listed) {o : Oper} (ho : ops[i]? = some o) :
    (Region.wanted o (yielded ops a.tmps) = true ∧ sx o a w (fun u w' => Inv P md ops C a0 V bm (listed.setIfInBounds i true) (a.put o.dst u) w')) ∨
    (Region.wanted o (yielded ops a.tmps) = false ∧ Inv P md ops C a0 V bm (listed.setIfInBounds i true) (a.put o.dst undef) w) := by
  obtain ⟨hun, o', ho', hall⟩ := mem_ready.1 hi
  rw [ho] at ho'
  obtain rfl := Option.some.inj ho'
  obtain ⟨χ, rfl, hC⟩ := hI.ex
  have his : i < ops.size := (Array.getElem?_eq_some_iff.1 ho).1
  have hil : i < listed.size := by rw [hI.size]; exact his
  have hunf : listed.getD i false = false := by rw [getD_tf hil false true]; exact hun
  -- those listed that come later do not wait for it
  have hno : ∀ j oj, ops[j]? = some oj → listed.getD j false = true → ∀ e ∈ oj.after, Region.binds md e = true → e.on ≠ i := by
    intro j oj hj hl e he hb heq
    have hjs : j < listed.size := by rw [hI.size]; exact (Array.getElem?_eq_some_iff.1 hj).1
    have := hI.cl j oj hj (by rw [getD_tf hjs true false]; exact hl) e he hb
    rw [heq, getD_tf hil true false, hunf] at this
    cases this
  have hanc : ∀ s, anc md ops s i = true → listed.getD s false = true := by
    intro s hs'
    have h1 := anc_listed hI.cl ops.size i o ho (fun e he hb => getD_up (hall e he hb)) hs'
    rcases Nat.lt_or_ge s listed.size with h' | h'
    · rw [getD_tf h' false true]; exact h1
    · exfalso
      -- what is waited for is an operation
      have key : ∀ n j, j < ops.size → ancB md ops s n j = true → s < ops.size := by
        intro n
        induction n with
        | zero => intro j _ h; cases h
        | succ n ih =>
          intro j hj h
          unfold ancB at h
          rw [Array.getElem?_eq_getElem hj] at h
          simp only at h
          obtain ⟨e, he, hb⟩ := Array.any_eq_true'.1 h
          simp only [Bool.and_eq_true, Bool.or_eq_true, beq_iff_eq] at hb
          have hlt := F1 j _ (Array.getElem?_eq_getElem hj) e he hb.1
          rcases hb.2 with h2 | h2
          · omega
          · exact ih e.on (by omega) h2
      have := key _ _ his hs'
      rw [hI.size] at h'; omega
  have hanc2 : ∀ j, anc md ops i j = true → listed.getD j false = false := by
    intro j hj
    by_cases hl : listed.getD j false = true
    · exfalso
      cases hoj : ops[j]? with
      | none =>
        have h1 : listed.size ≤ j := by rw [hI.size]; exact Array.getElem?_eq_none_iff.1 hoj
        simp [Array.getElem?_eq_none h1] at hl
      | some oj =>
        have hjs : j < listed.size := by rw [hI.size]; exact (Array.getElem?_eq_some_iff.1 hoj).1
        have h1 := anc_listed hI.cl ops.size j oj hoj (fun e he hb => hI.cl j oj hoj (by rw [getD_tf hjs true false]; exact hl) e he hb) hj
        rw [getD_tf hil true false, hunf] at h1
        cases h1
    · simpa using hl
  -- what it looks at is as in the text's order
  have hlook : ∀ t ∈ o.looksAt ops, (dyn ops a0 (fun j => V j χ) (fun k => listed.getD k false) ops.size).tmps[t]? = (dyn ops a0 (fun j => V j χ) (fun _ => true) i).tmps[t]? := by
    intro t ht
    rw [dyn_get2 ops.size (Nat.le_of_lt his) (i := i), dyn_get1 i]
    · intro j hj hd
      cases hoj : ops[j]? with
      | none => rw [hoj] at hd; cases hd
      | some oj =>
        rw [hoj] at hd
        simp only [Option.bind_some] at hd
        rcases F2 j i oj o hj hoj ho with ⟨e, he, hb, heq⟩ | hap
        · have := hall e he hb
          rw [heq] at this
          exact this
        · exact absurd ht ((Oper.apart_spec hap).1 t hd)
    · intro j hj hjn hd
      by_cases e : j = i
      · rw [e]; exact hunf
      · cases hoj : ops[j]? with
        | none => rw [hoj] at hd; cases hd
        | some oj =>
          rw [hoj] at hd
          simp only [Option.bind_some] at hd
          rcases F2 i j o oj (by omega) ho hoj with ⟨e', he, hb, heq⟩ | hap
          · by_cases hl : listed.getD j false = true
            · exact absurd heq (hno j oj hoj hl e' he hb)
            · simpa using hl
          · exact absurd ht ((Oper.apart_spec hap).2.2 t hd)
  -- the state behind it
  have hnext : ∀ χ', (∀ s, s ≠ i → χ' s = χ s) → (dyn ops a0 (fun j => V j χ) (fun k => listed.getD k false) ops.size).put o.dst (V i χ') = dyn ops a0 (fun j => V j χ') (fun k => (listed.setIfInBounds i true).getD k false) ops.size := by
    intro χ' hχ
    have h1 := dyn_set (ops := ops) (a0 := a0) (V := fun j => V j χ) (V' := fun j => V j χ') (p := fun k => listed.getD k false) (i := i) hunf ops.size his (fun j hij hjn hl d hd => by
      rw [Array.getElem?_eq_getElem hjn]
      simp only [Option.bind_some]
      rcases F2 i j o _ hij ho (Array.getElem?_eq_getElem hjn) with ⟨e', he, hb, heq⟩ | hap
      · exact absurd heq (hno j _ (Array.getElem?_eq_getElem hjn) hl e' he hb)
      · rw [ho] at hd
        exact (Oper.apart_spec hap).2.1 d hd) (fun j hjn hl => by
      refine (hG j _ (Array.getElem?_eq_getElem hjn)).1 χ' χ (fun s hs' => hχ s ?_)
      rintro rfl
      rcases hs' with rfl | hs'
      · rw [hunf] at hl; cases hl
      · rw [hanc2 j hs'] at hl; cases hl)
    rw [ho] at h1
    simp only [Option.bind_some] at h1
    rw [← h1]
    refine dyn_congr ops.size (fun j hj => ⟨?_, fun _ => rfl⟩)
    by_cases e : j = i
    · subst e; simp [hil]
    · simp only [if_neg e, getD_set_ne false (fun q => e q.symm)]
  have hcl' : ClosedL md ops (listed.setIfInBounds i true) := hI.cl.set ho (fun e he hb => getD_up (hall e he hb))
  have hGs : ∀ b, bm i = b → (fun k => (listed.setIfInBounds i true).getD k false && bm k) = up (fun k => listed.getD k false && bm k) i b := by
    intro b hb
    funext j
    by_cases e : j = i
    · subst e; simp [up, hil, hb]
    · simp only [up, if_neg e, getD_set_ne false (fun q => e q.symm)]
  obtain ⟨hsu, hg⟩ := hG i o ho
  rw [wanted_same hlook]
  rcases hg with ⟨hw, hbm, M, hM, hy⟩ | ⟨hw, hbm, hV⟩
  · refine .inl ⟨hw χ, ?_⟩
    have hMG : ∀ s ∈ M, anc md ops s i = true → (listed.getD s false && bm s) = true := fun s hs' ha => by rw [hanc s ha, (hM s hs').2]; rfl
    have hstep : ∀ Φ, sx o (dyn ops a0 (fun j => V j χ) (fun _ => true) i) w Φ → sx o (dyn ops a0 (fun j => V j χ) (fun k => listed.getD k false) ops.size) w Φ := fun Φ h =>
      hsx.congr o _ _ w Φ (fun cs b => Region.noSelect_spec hs i o cs b ho) (fun x hx => (eval_same hlook x hx).symm) h
    unfold Yy at hy
    by_cases hm : m i = true
    · rw [if_pos hm] at hy
      refine hsx.mono _ _ _ _ _ ?_ (hstep _ (hy _ χ w (by simp [hunf]) hMG (fun j hj => by rw [hanc2 j hj]; rfl) hC))
      rintro u w' ⟨x, rfl, hC'⟩
      refine ⟨by simp [hI.size], hcl', up χ i x, hnext _ (fun s hs' => up_other χ x hs'), ?_⟩
      rw [hGs true (by rw [hbm, hm])]
      exact hC'
    · rw [if_neg hm] at hy
      refine hsx.mono _ _ _ _ _ ?_ (hstep _ (hy _ χ w hMG (fun j hj => by rw [hanc2 j hj]; rfl) hC))
      rintro u w' ⟨rfl, hC'⟩
      refine ⟨by simp [hI.size], hcl', χ, hnext _ (fun s _ => rfl), ?_⟩
      rw [hGs false (by rw [hbm]; simpa using hm)]
      have : up (fun k => listed.getD k false && bm k) i false = (fun k => listed.getD k false && bm k) := by
        funext j
        by_cases e : j = i
        · subst e; simp [up, hunf]
        · simp only [up, if_neg e]
      rw [this]
      exact hC'
  · refine .inr ⟨hw χ, by simp [hI.size], hcl', χ, ?_, ?_⟩
    · rw [← hnext χ (fun s _ => rfl), hV]
    · rw [hGs false hbm]
      have : up (fun k => listed.getD k false && bm k) i false = (fun k => listed.getD k false && bm k) := by
        funext j
        by_cases e : j = i
        · subst e; simp [up, hunf]
        · simp only [up, if_neg e]
      rw [this]
      exact hC

def unl (listed : Array Bool) : Nat := ((List.range listed.size).filter (fun j => !listed.getD j false)).length
theorem unl_zero {listed : Array Bool} (h : unl listed = 0) : ∀ j, j < listed.size → listed.getD j false = true := by
  intro j hj
  unfold unl at h
  rw [List.length_eq_zero_iff, List.filter_eq_nil_iff] at h
  have := h j (List.mem_range.2 hj)
  simpa using this
theorem unl_set {listed : Array Bool} {i : Nat} (hi : i < listed.size) (h : listed.getD i false = false) : unl (listed.setIfInBounds i true) < unl listed := by
  unfold unl
  rw [Array.size_setIfInBounds]
  have key : ∀ n, ((List.range n).filter (fun j => !(listed.setIfInBounds i true).getD j false)).length + (if i < n then 1 else 0) = ((List.range n).filter (fun j => !listed.getD j false)).length := by
    intro n
    induction n with
    | zero => simp
    | succ n ih =>
      rw [List.range_succ, List.filter_append, List.filter_append, List.length_append, List.length_append]
      by_cases e : n = i
      · subst e
        rw [if_neg (Nat.lt_irrefl n)] at ih
        rw [if_pos (Nat.lt_succ_self n)]
        have e1 : (listed.setIfInBounds n true).getD n false = true := by simp [hi]
        simp only [List.filter_cons, List.filter_nil, h, e1]
        simp
        simp at ih
        omega
      · have q := getD_set_ne (listed := listed) (i := i) (j := n) false (fun q => e q.symm)
        simp only [List.filter_cons, List.filter_nil, q]
        by_cases e2 : i < n
        · rw [if_pos e2] at ih; rw [if_pos (show i < n + 1 by omega)]; omega
        · rw [if_neg e2] at ih; rw [if_neg (show ¬ i < n + 1 by omega)]; omega
  have := key listed.size
  rw [if_pos hi] at this
  omega

theorem fx_any (hsx : SxOk (stepX P)) {a0 : Act} {V : Nat → (Nat → X) → Value} {bm : Nat → Bool} (hs : Region.noSelect ops = true) (hG : ∀ j o, ops[j]? = some o → Good (stepX P) md ops C m a0 V bm j o)
    (F1 : ∀ i o, ops[i]? = some o → ∀ e ∈ o.after, Region.binds md e = true → e.on < i)
    (F2 : ∀ i j oi oj, i < j → ops[i]? = some oi → ops[j]? = some oj → (∃ e ∈ oj.after, Region.binds md e = true ∧ e.on = i) ∨ oi.apart ops oj = true)
    {Q' : Exit → Act → World → Prop} (hQ : ∀ χ G w, (∀ s, s < ops.size → bm s = true → G s = true) → C G χ w → Q' .normal (dyn ops a0 (fun j => V j χ) (fun _ => true) ops.size) w) :
    ∀ (fuel : Nat) (listed : Array Bool) (a : Act) (w : World), unl listed ≤ fuel → Inv P md ops C a0 V bm listed a w → wpAny P md ops Q' fuel listed a w := by
  have hend : ∀ (listed : Array Bool) (a : Act) (w : World), Inv P md ops C a0 V bm listed a w → (∀ j, j < listed.size → listed.getD j false = true) → Q' .normal a w := by
    intro listed a w hI hall
    obtain ⟨χ, rfl, hC⟩ := hI.ex
    have := hQ χ _ w (fun s hs' hb => by
      have := hall s (by rw [hI.size]; exact hs')
      simp only [this, hb]; rfl) hC
    have e : dyn ops a0 (fun j => V j χ) (fun k => listed.getD k false) ops.size = dyn ops a0 (fun j => V j χ) (fun _ => true) ops.size :=
      dyn_congr ops.size (fun j hj => ⟨hall j (by rw [hI.size]; exact hj), fun _ => rfl⟩)
    rw [e]; exact this
  have hrdy : ∀ (listed : Array Bool) (a : Act) (w : World), Inv P md ops C a0 V bm listed a w → Region.ready md ops listed = [] → ∀ j, j < listed.size → listed.getD j false = true := by
    intro listed a w hI hr
    -- the least one that is not listed would be ready
    intro j
    induction j using Nat.strongRecOn with
    | ind j ih =>
      intro hj
      by_cases hl : listed.getD j false = true
      · exact hl
      · exfalso
        have hjs : j < ops.size := by rw [← hI.size]; exact hj
        have : j ∈ Region.ready md ops listed := mem_ready.2 ⟨by rw [getD_tf hj true false]; simpa using hl, ops[j], Array.getElem?_eq_getElem hjs, fun e he hb =>
          ih e.on (F1 j _ (Array.getElem?_eq_getElem hjs) e he hb) (by have := F1 j _ (Array.getElem?_eq_getElem hjs) e he hb; omega)⟩
        rw [hr] at this
        cases this
  intro fuel
  induction fuel with
  | zero =>
    intro listed a w hu hI
    have hall := unl_zero (Nat.le_zero.1 hu)
    refine ⟨?_, hend listed a w hI hall⟩
    cases hr : Region.ready md ops listed with
    | nil => rfl
    | cons i l =>
      exfalso
      have hi : i ∈ Region.ready md ops listed := by rw [hr]; simp
      obtain ⟨hun, o, ho, _⟩ := mem_ready.1 hi
      have his : i < listed.size := by rw [hI.size]; exact (Array.getElem?_eq_some_iff.1 ho).1
      have := hall i his
      rw [getD_tf his false true] at this
      rw [this] at hun
      cases hun
  | succ fuel ih =>
    intro listed a w hu hI
    refine ⟨fun hr => hend listed a w hI (hrdy listed a w hI hr), fun i hi => ?_⟩
    obtain ⟨hun, o, ho, _⟩ := mem_ready.1 hi
    have his : i < listed.size := by rw [hI.size]; exact (Array.getElem?_eq_some_iff.1 ho).1
    have hlt := unl_set his (by rw [getD_tf his false true]; exact hun)
    unfold wpOp
    simp only [ho]
    rcases fx_step hsx hs hG F1 F2 hI hi ho with ⟨h1, h2⟩ | ⟨h1, h2⟩
    · rw [if_pos h1]
      exact .inl (wp_of_stepX h2 (fun u w' hI' => ih _ _ w' (by omega) hI'))
    · rw [if_neg (by rw [h1]; simp)]
      exact ih _ _ w (by omega) h2

theorem sx_plain : SxOk (stepX P) := ⟨fun o a w Φ Φ' hm h => by
    unfold stepX at *
    generalize (execOp a.eval o).run P w = r at *
    cases r with
    | ok nx w' =>
      cases nx <;> simp only [] at h ⊢
      case value u => exact hm _ _ h
      case skip => exact hm _ _ h
      case enter f args => exact h.mono fun e w'' ⟨u, h1, h2⟩ => ⟨u, h1, hm _ _ h2⟩
    | halt e w' => simp only [] at h,
  fun o a b w Φ hs he h => by
    unfold stepX at *
    rw [← execOp_congr o hs he]
    exact h⟩
theorem dyn_none {a0 : Act} {V : Nat → Value} : ∀ n, dyn ops a0 V (fun _ => false) n = a0
  | 0 => rfl
  | n + 1 => by unfold dyn; simp only [Bool.false_eq_true, if_false]; exact dyn_none n

theorem region_free {id : Nat} {l : List Oper} {Q : Exit → Act → World → Prop} {a : Act} {w : World} [Inhabited X] (C : Gs → (Nat → X) → World → Prop) (m : Nat → Bool) (hm : P.follows .mixedOrders = true) (hB : Region.lexB .any l.toArray = true)
    (hC : C (fun _ => false) (fun _ => default) { w with drawn := w.drawn + 1 })
    (h : wpFx P .any l.toArray C m (fun M A => ∀ χ G w', (∀ s ∈ M, G s = true) → C G χ w' → Q .normal (A χ) w') 0 [] l (fun _ => a)) : (Code.region id l.toArray true).wp P Q a w := by
  simp only [Region.lexB, Bool.and_eq_true] at hB
  obtain ⟨V, bm, Mf, _, g2, g3, g4⟩ := fx_vals (ops := l.toArray) (a0 := a) l 0 [] _ (fun _ _ => undef) (fun _ => false) (by simp) rfl (by simp) h
  obtain ⟨F1, F2⟩ := lex_facts (ops := l.toArray) (md := .any) l.toArray.size 0 (Array.replicate l.toArray.size false) (fun j hj => by
    have hj' : j < l.length := by simpa using hj
    simp [hj']) (by simp) hB.2 (by simp)
  refine wp_region_any hm (fx_any sx_plain (m := m) (C := C) (a0 := a) (V := V) (bm := bm) hB.1 (fun j o => g2 j o (Nat.zero_le _)) (fun i o => F1 i o (Nat.zero_le _)) (fun i j oi oj => F2 i j oi oj (Nat.zero_le _)) ?_ _ _ _ _ ?_ ?_)
  · intro χ G w' hG hC'
    have := g4 χ G w' (fun s hs => hG s (by have := (g3 s hs).1; simpa using this) (g3 s hs).2) hC'
    simpa using this
  · unfold unl
    exact Nat.le_trans (List.length_filter_le _ _) (by simp)
  · refine ⟨by simp, fun j oj hj hl => ?_, fun _ => default, ?_, ?_⟩
    · have hjs : j < l.toArray.size := (Array.getElem?_eq_some_iff.1 hj).1
      simp only [List.size_toArray] at hjs
      simp [hjs] at hl
    · have : (fun k => (Array.replicate l.toArray.size false).getD k false) = fun _ => false := by
        funext k
        rcases Nat.lt_or_ge k l.length with h' | h'
        · simp [h']
        · simp [h']
      rw [this, dyn_none]
    · have : (fun k => (Array.replicate l.toArray.size false).getD k false && bm k) = fun _ => false := by
        funext k
        rcases Nat.lt_or_ge k l.length with h' | h'
        · simp [h']
        · simp [h']
      rw [this]
      exact hC
end
end Go.Mm

/-
  Regions with ghosts, made handy: the blocks that change are items, each with stages; the steps of the walk.
-/
namespace Go.Mm
open Go Go.RowKit

/-- What an operation hands back that was not known ahead, and the blocks that it leaves. -/
abbrev Gx := Value × List Ent
/-- A piece of the blocks: what it is at first, and the operations that turn it, one behind the other. -/
structure Item where
  x0 : Gx
  st : List (Nat × (Gx → Gx → Prop))
def curI (G : Gs) (χ : Nat → Gx) : Gx → List (Nat × (Gx → Gx → Prop)) → Gx
  | x, [] => x
  | x, (k, _) :: l => if G k then curI G χ (χ k) l else x
def okI (G : Gs) (χ : Nat → Gx) : Gx → List (Nat × (Gx → Gx → Prop)) → Prop
  | _, [] => True
  | x, (k, p) :: l => if G k then p x (χ k) ∧ okI G χ (χ k) l else True
/-- The piece behind some stages. -/
def lastX (χ : Nat → Gx) : Gx → List (Nat × (Gx → Gx → Prop)) → Gx
  | x, [] => x
  | _, (k, _) :: l => lastX χ (χ k) l
def okL (χ : Nat → Gx) : Gx → List (Nat × (Gx → Gx → Prop)) → Prop
  | _, [] => True
  | x, (k, p) :: l => p x (χ k) ∧ okL χ (χ k) l
def Item.cur (it : Item) (G : Gs) (χ : Nat → Gx) : List Ent := (curI G χ it.x0 it.st).2
def CI (w0 : World) (bs : List Nat) (items : List Item) (H : List Ent) (G : Gs) (χ : Nat → Gx) (w : World) : Prop :=
  (∀ it ∈ items, okI G χ it.x0 it.st) ∧ St w0 bs w (items.flatMap (fun it => it.cur G χ) ++ H)
def mI (items : List Item) (i : Nat) : Bool := items.any fun it => it.st.any fun s => s.1 == i

section
variable {G : Gs} {χ : Nat → Gx} {k : Nat} {x : Gx}
theorem cur_other : ∀ (l : List (Nat × (Gx → Gx → Prop))) (b : Bool) (y : Gx), (∀ s ∈ l, s.1 ≠ k) → curI (up G k b) (up χ k x) y l = curI G χ y l
  | [], _, _, _ => rfl
  | (j, p) :: l, b, y, h => by
    have hj : j ≠ k := h (j, p) (by simp)
    unfold curI
    rw [show up G k b j = G j from if_neg hj, up_other χ x hj, cur_other l b (χ j) (fun s hs => h s (by simp [hs]))]
theorem ok_other : ∀ (l : List (Nat × (Gx → Gx → Prop))) (b : Bool) (y : Gx), (∀ s ∈ l, s.1 ≠ k) → okI (up G k b) (up χ k x) y l = okI G χ y l
  | [], _, _, _ => rfl
  | (j, p) :: l, b, y, h => by
    have hj : j ≠ k := h (j, p) (by simp)
    unfold okI
    rw [show up G k b j = G j from if_neg hj, up_other χ x hj, ok_other l b (χ j) (fun s hs => h s (by simp [hs]))]
theorem cur_before : ∀ (l1 l2 : List (Nat × (Gx → Gx → Prop))) (p : Gx → Gx → Prop) (y : Gx), (∀ s ∈ l1, G s.1 = true) → G k = false → curI G χ y (l1 ++ (k, p) :: l2) = lastX χ y l1
  | [], l2, p, y, _, hk => by simp [curI, lastX, hk]
  | (j, q) :: l1, l2, p, y, h, hk => by
    have hj : G j = true := h (j, q) (by simp)
    rw [List.cons_append]
    unfold curI lastX
    rw [if_pos hj]
    exact cur_before l1 l2 p (χ j) (fun s hs => h s (by simp [hs])) hk
theorem cur_all : ∀ (l : List (Nat × (Gx → Gx → Prop))) (y : Gx), (∀ s ∈ l, G s.1 = true) → curI G χ y l = lastX χ y l
  | [], _, _ => rfl
  | (j, q) :: l, y, h => by
    unfold curI lastX
    rw [if_pos (h (j, q) (by simp))]
    exact cur_all l (χ j) (fun s hs => h s (by simp [hs]))
theorem ok_all : ∀ (l : List (Nat × (Gx → Gx → Prop))) (y : Gx), (∀ s ∈ l, G s.1 = true) → okI G χ y l = okL χ y l
  | [], _, _ => rfl
  | (j, q) :: l, y, h => by
    unfold okI okL
    rw [if_pos (h (j, q) (by simp)), ok_all l (χ j) (fun s hs => h s (by simp [hs]))]
theorem ok_before : ∀ (l1 l2 : List (Nat × (Gx → Gx → Prop))) (p : Gx → Gx → Prop) (y : Gx), (∀ s ∈ l1, G s.1 = true) → G k = false → okI G χ y (l1 ++ (k, p) :: l2) → okL χ y l1
  | [], l2, p, y, _, hk, _ => trivial
  | (j, q) :: l1, l2, p, y, h, hk, ho => by
    have hj : G j = true := h (j, q) (by simp)
    rw [List.cons_append] at ho
    unfold okI at ho
    rw [if_pos hj] at ho
    exact ⟨ho.1, ok_before l1 l2 p (χ j) (fun s hs => h s (by simp [hs])) hk ho.2⟩
theorem cur_after : ∀ (l1 l2 : List (Nat × (Gx → Gx → Prop))) (p : Gx → Gx → Prop) (y : Gx), (∀ s ∈ l1, G s.1 = true ∧ s.1 ≠ k) → (∀ s ∈ l2, G s.1 = false ∧ s.1 ≠ k) → curI (up G k true) (up χ k x) y (l1 ++ (k, p) :: l2) = x
  | [], l2, p, y, _, h2 => by
    rw [List.nil_append]
    unfold curI
    rw [if_pos (up_same G k true), up_same]
    cases l2 with
    | nil => rfl
    | cons s l2 =>
      obtain ⟨j, q⟩ := s
      obtain ⟨h3, h4⟩ := h2 (j, q) (by simp)
      unfold curI
      rw [show up G k true j = G j from if_neg h4, h3]
      rfl
  | (j, q) :: l1, l2, p, y, h, h2 => by
    obtain ⟨h3, h4⟩ := h (j, q) (by simp)
    rw [List.cons_append]
    unfold curI
    rw [if_pos (show up G k true j = true from (if_neg h4).trans h3)]
    exact cur_after l1 l2 p _ (fun s hs => h s (by simp [hs])) h2
theorem ok_after : ∀ (l1 l2 : List (Nat × (Gx → Gx → Prop))) (p : Gx → Gx → Prop) (y : Gx), (∀ s ∈ l1, G s.1 = true ∧ s.1 ≠ k) → (∀ s ∈ l2, G s.1 = false ∧ s.1 ≠ k) → okL χ y l1 → p (lastX χ y l1) x → okI (up G k true) (up χ k x) y (l1 ++ (k, p) :: l2)
  | [], l2, p, y, _, h2, _, hp => by
    rw [List.nil_append]
    unfold okI
    rw [if_pos (up_same G k true), up_same]
    refine ⟨hp, ?_⟩
    cases l2 with
    | nil => trivial
    | cons s l2 =>
      obtain ⟨j, q⟩ := s
      obtain ⟨h3, h4⟩ := h2 (j, q) (by simp)
      unfold okI
      rw [show up G k true j = G j from if_neg h4, h3]
      trivial
  | (j, q) :: l1, l2, p, y, h, h2, ho, hp => by
    obtain ⟨h3, h4⟩ := h (j, q) (by simp)
    rw [List.cons_append]
    unfold okI
    rw [if_pos (show up G k true j = true from (if_neg h4).trans h3), up_other χ x h4]
    exact ⟨ho.1, ok_after l1 l2 p _ (fun s hs => h s (by simp [hs])) h2 ho.2 hp⟩
end

section
variable {w0 w : World} {bs : List Nat} {H : List Ent}
theorem split_at {α : Type} {l : List α} {n : Nat} {a : α} (h : l[n]? = some a) : l = l.take n ++ a :: l.drop (n + 1) := by
  obtain ⟨hn, he⟩ := List.getElem?_eq_some_iff.1 h
  rw [← he, ← List.drop_eq_getElem_cons hn, List.take_append_drop]
theorem st_drop {A B : List Ent} (hS : St w0 bs w (A ++ B)) : St w0 bs w B := hS.weak
theorem flat_pick {items : List Item} {n : Nat} {it : Item} (h : items[n]? = some it) (f : Item → List Ent) : (items.flatMap f ++ H).Perm (f it ++ (((items.take n).flatMap f ++ (items.drop (n + 1)).flatMap f) ++ H)) := by
  have e := split_at h
  have e2 : items.flatMap f = (items.take n).flatMap f ++ (f it ++ (items.drop (n + 1)).flatMap f) := by
    have e3 := congrArg (fun q => List.flatMap f q) e
    simpa only [List.flatMap_append, List.flatMap_cons] using e3
  rw [e2]
  generalize (items.take n).flatMap f = A
  generalize (items.drop (n + 1)).flatMap f = B
  simp only [List.append_assoc]
  rw [← List.append_assoc A, ← List.append_assoc (f it) A]
  exact List.perm_append_comm.append_right _
/-- All keys are different. -/
def keysI (items : List Item) : List Nat := items.flatMap fun it => it.st.map (·.1)
def ndB : List Nat → Bool
  | [] => true
  | k :: l => !l.contains k && ndB l
theorem nd_of : ∀ {l : List Nat}, ndB l = true → l.Nodup
  | [], _ => .nil
  | k :: l, h => by
    simp only [ndB, Bool.and_eq_true, Bool.not_eq_true'] at h
    exact List.nodup_cons.2 ⟨by simpa using h.1, nd_of h.2⟩
end

section
variable {P : Program} {ops : Array Oper} {md : Region.Mode} {w0 : World} {bs : List Nat} {H : List Ent} {items : List Item}
variable {EE : List Nat → ((Nat → Gx) → Act) → Prop} {k : Nat} {M : List Nat} {o : Oper} {rest : List Oper} {A A' : (Nat → Gx) → Act} {v : Value}

theorem CI.base {G : Gs} {χ : Nat → Gx} {w : World} (h : CI w0 bs items H G χ w) : St w0 bs w H := h.2.weak

theorem fx_skip (hw : ∀ χ, Region.wanted o (yielded ops (A χ).tmps) = false) [hp : ∀ χ, Put (A χ) o.dst undef (A' χ)] (h : wpFx P md ops (CI w0 bs items H) (mI items) EE (k + 1) M rest A') :
    wpFx P md ops (CI w0 bs items H) (mI items) EE k M (o :: rest) A := by
  refine .inr ⟨hw, ?_⟩
  rw [show (fun χ => (A χ).put o.dst undef) = A' from funext fun χ => (hp χ).h]
  exact h
/-- A plain operation. -/
theorem fx_val (hw : ∀ χ, Region.wanted o (yielded ops (A χ).tmps) = true) (hm : mI items k = false) (hv : ∀ χ w, St w0 bs w H → OpVal P o (A χ) w v) [hp : ∀ χ, Put (A χ) o.dst v (A' χ)]
    (h : wpFx P md ops (CI w0 bs items H) (mI items) EE (k + 1) M rest A') : wpFx P md ops (CI w0 bs items H) (mI items) EE k M (o :: rest) A := by
  refine .inl ⟨hw, fun _ => v, fun _ _ _ => rfl, ?_, ?_⟩
  · unfold Yy
    rw [if_neg (by rw [hm]; simp)]
    intro G χ w _ _ hC
    unfold stepX
    rw [hv χ w (CI.base hC)]
    exact ⟨rfl, hC⟩
  · rw [if_neg (by rw [hm]; simp), show (fun χ => (A χ).put o.dst v) = A' from funext fun χ => (hp χ).h]
    exact h
/-- A plain operation that hands on what was not known ahead. -/
theorem fx_gval (hw : ∀ χ, Region.wanted o (yielded ops (A χ).tmps) = true) (hm : mI items k = false) (v : (Nat → Gx) → Value) (hs : Supp md ops k v) (hv : ∀ χ w, St w0 bs w H → OpVal P o (A χ) w (v χ)) [hp : ∀ χ, Put (A χ) o.dst (v χ) (A' χ)]
    (h : wpFx P md ops (CI w0 bs items H) (mI items) EE (k + 1) M rest A') : wpFx P md ops (CI w0 bs items H) (mI items) EE k M (o :: rest) A := by
  refine .inl ⟨hw, v, hs, ?_, ?_⟩
  · unfold Yy
    rw [if_neg (by rw [hm]; simp)]
    intro G χ w _ _ hC
    unfold stepX
    rw [hv χ w (CI.base hC)]
    exact ⟨rfl, hC⟩
  · rw [if_neg (by rw [hm]; simp), show (fun χ => (A χ).put o.dst (v χ)) = A' from funext fun χ => (hp χ).h]
    exact h
theorem supp_of {j : Nat} (hj : (j == k || anc md ops j k) = true) (f : Gx → Value) : Supp md ops k (fun χ => f (χ j)) := by
  intro χ χ' h
  simp only
  rw [h j (by simpa using hj)]
theorem stepX_call {a : Act} {w : World} {f : Nat} {xs : List Operand} {ts : Array TypeId} (ho : o.op = .call { callee := .value (.func f), args := xs.toArray, argTypes := ts }) {vs : List Value} [hE : EvL a xs vs] (he : ∀ args w, (callFunc f args).run P w = .ok (.enter f args) w)
    {Φ : Value → World → Prop} (h : Calls P f vs.toArray w (fun e w'' => ∃ u, e = .returned u ∧ Φ u w'')) : stepX P o a w Φ := by
  have hr : (execOp a.eval o).run P w = .ok (.enter f vs.toArray) w := by
    have hE' := hE.h
    simp [execOp, ho, resolve, invoke, Deferred.ofValue, Act.eval, List.map_toArray, hE', he]
  unfold stepX
  rw [hr]
  exact h
/-- A call that leaves all pieces as they are, and asks none of those that are new. -/
theorem fx_ask (f : Nat) (xs : List Operand) (ts : Array TypeId) (ho : o.op = .call { callee := .value (.func f), args := xs.toArray, argTypes := ts }) (hw : ∀ χ, Region.wanted o (yielded ops (A χ).tmps) = true) (hm : mI items k = false) {vs : List Value} [hE : ∀ χ, EvL (A χ) xs vs]
    (he : ∀ args w, (callFunc f args).run P w = .ok (.enter f args) w) (v : Value) (hv : ∀ L w, St w0 bs w (L ++ H) → Calls P f vs.toArray w (fun e w'' => e = .returned v ∧ St w0 bs w'' (L ++ H))) [hp : ∀ χ, Put (A χ) o.dst v (A' χ)]
    (h : wpFx P md ops (CI w0 bs items H) (mI items) EE (k + 1) M rest A') : wpFx P md ops (CI w0 bs items H) (mI items) EE k M (o :: rest) A := by
  refine .inl ⟨hw, fun _ => v, fun _ _ _ => rfl, ?_, ?_⟩
  · unfold Yy
    rw [if_neg (by rw [hm]; simp)]
    intro G χ w _ _ hC
    exact stepX_call ho (hE := hE χ) he ((hv _ w hC.2).mono fun e w'' ⟨h1, h2⟩ => ⟨v, h1, rfl, hC.1, h2⟩)
  · rw [if_neg (by rw [hm]; simp), show (fun χ => (A χ).put o.dst v) = A' from funext fun χ => (hp χ).h]
    exact h

/-- Item n behind all its stages, and the rest. -/
theorem CI.pick {G : Gs} {χ : Nat → Gx} {w : World} {n : Nat} {it : Item} (h : CI w0 bs items H G χ w) (hit : items[n]? = some it) (hall : ∀ s ∈ it.st, G s.1 = true) :
    okL χ it.x0 it.st ∧ ∃ L, St w0 bs w ((lastX χ it.x0 it.st).2 ++ (L ++ H)) ∧ ∀ w', St w0 bs w' ((lastX χ it.x0 it.st).2 ++ (L ++ H)) → CI w0 bs items H G χ w' := by
  have hmem : it ∈ items := List.mem_of_getElem? hit
  have hp := flat_pick (H := H) hit (fun it => it.cur G χ)
  have hcur : it.cur G χ = (lastX χ it.x0 it.st).2 := by unfold Item.cur; rw [cur_all _ _ hall]
  simp only [hcur] at hp
  refine ⟨by rw [← ok_all _ _ hall]; exact h.1 it hmem, _, h.2.perm hp, fun w' hS => ⟨h.1, hS.perm hp.symm⟩⟩

/-- A call that asks a new piece, and leaves it. -/
theorem fx_use (n : Nat) {it : Item} (hit : items[n]? = some it) (hall : (it.st.all fun s => M.contains s.1 && anc md ops s.1 k) = true)
    (f : Nat) (xs : List Operand) (ts : Array TypeId) (ho : o.op = .call { callee := .value (.func f), args := xs.toArray, argTypes := ts }) (hw : ∀ χ, Region.wanted o (yielded ops (A χ).tmps) = true) (hm : mI items k = false) {vs : (Nat → Gx) → List Value} [hE : ∀ χ, EvL (A χ) xs (vs χ)]
    (he : ∀ args w, (callFunc f args).run P w = .ok (.enter f args) w) (v : Value)
    (hv : ∀ χ L w, okL χ it.x0 it.st → St w0 bs w ((lastX χ it.x0 it.st).2 ++ (L ++ H)) → Calls P f (vs χ).toArray w (fun e w'' => e = .returned v ∧ St w0 bs w'' ((lastX χ it.x0 it.st).2 ++ (L ++ H)))) [hp : ∀ χ, Put (A χ) o.dst v (A' χ)]
    (h : wpFx P md ops (CI w0 bs items H) (mI items) EE (k + 1) M rest A') : wpFx P md ops (CI w0 bs items H) (mI items) EE k M (o :: rest) A := by
  refine .inl ⟨hw, fun _ => v, fun _ _ _ => rfl, ?_, ?_⟩
  · unfold Yy
    rw [if_neg (by rw [hm]; simp)]
    intro G χ w hT _ hC
    have hG : ∀ s ∈ it.st, G s.1 = true := fun s hs => by
      have := List.all_eq_true.1 hall s hs
      simp only [Bool.and_eq_true] at this
      exact hT s.1 (by simpa using this.1) this.2
    obtain ⟨hok, L, hS, hback⟩ := hC.pick hit hG
    exact stepX_call ho (hE := hE χ) he ((hv χ L w hok hS).mono fun e w'' ⟨h1, h2⟩ => ⟨v, h1, rfl, hback w'' h2⟩)
  · rw [if_neg (by rw [hm]; simp), show (fun χ => (A χ).put o.dst v) = A' from funext fun χ => (hp χ).h]
    exact h
/-- A plain operation on a new piece. -/
theorem fx_val1 (n : Nat) {it : Item} (hit : items[n]? = some it) (hall : (it.st.all fun s => M.contains s.1 && anc md ops s.1 k) = true)
    (hw : ∀ χ, Region.wanted o (yielded ops (A χ).tmps) = true) (hm : mI items k = false)
    (hv : ∀ χ L w, okL χ it.x0 it.st → St w0 bs w ((lastX χ it.x0 it.st).2 ++ (L ++ H)) → OpVal P o (A χ) w v) [hp : ∀ χ, Put (A χ) o.dst v (A' χ)]
    (h : wpFx P md ops (CI w0 bs items H) (mI items) EE (k + 1) M rest A') : wpFx P md ops (CI w0 bs items H) (mI items) EE k M (o :: rest) A := by
  refine .inl ⟨hw, fun _ => v, fun _ _ _ => rfl, ?_, ?_⟩
  · unfold Yy
    rw [if_neg (by rw [hm]; simp)]
    intro G χ w hT _ hC
    have hG : ∀ s ∈ it.st, G s.1 = true := fun s hs => by
      have := List.all_eq_true.1 hall s hs
      simp only [Bool.and_eq_true] at this
      exact hT s.1 (by simpa using this.1) this.2
    obtain ⟨hok, L, hS, hback⟩ := hC.pick hit hG
    unfold stepX
    rw [hv χ L w hok hS]
    exact ⟨rfl, hC⟩
  · rw [if_neg (by rw [hm]; simp), show (fun χ => (A χ).put o.dst v) = A' from funext fun χ => (hp χ).h]
    exact h

theorem CI.pick2 {G : Gs} {χ : Nat → Gx} {w : World} {n n' : Nat} {it it' : Item} (h : CI w0 bs items H G χ w) (hit : items[n]? = some it) (hit' : items[n']? = some it') (hlt : n < n') (hall : ∀ s ∈ it.st, G s.1 = true) (hall' : ∀ s ∈ it'.st, G s.1 = true) :
    okL χ it.x0 it.st ∧ okL χ it'.x0 it'.st ∧ ∃ L, St w0 bs w ((lastX χ it.x0 it.st).2 ++ ((lastX χ it'.x0 it'.st).2 ++ (L ++ H))) ∧ ∀ w', St w0 bs w' ((lastX χ it.x0 it.st).2 ++ ((lastX χ it'.x0 it'.st).2 ++ (L ++ H))) → CI w0 bs items H G χ w' := by
  have hmem : it ∈ items := List.mem_of_getElem? hit
  have hmem' : it' ∈ items := List.mem_of_getElem? hit'
  have hp := flat_pick (H := H) hit (fun it => it.cur G χ)
  have hcur : it.cur G χ = (lastX χ it.x0 it.st).2 := by unfold Item.cur; rw [cur_all _ _ hall]
  have hcur' : it'.cur G χ = (lastX χ it'.x0 it'.st).2 := by unfold Item.cur; rw [cur_all _ _ hall']
  have hit2 : (items.drop (n + 1))[n' - (n + 1)]? = some it' := by rw [List.getElem?_drop, show n + 1 + (n' - (n + 1)) = n' by omega]; exact hit'
  have hp2 := flat_pick (H := H) hit2 (fun it => it.cur G χ)
  simp only [hcur] at hp
  simp only [hcur'] at hp2
  have hp3 : (items.flatMap (fun it => it.cur G χ) ++ H).Perm ((lastX χ it.x0 it.st).2 ++ ((lastX χ it'.x0 it'.st).2 ++ (((items.take n).flatMap (fun it => it.cur G χ) ++ ((List.take (n' - (n + 1)) (items.drop (n + 1))).flatMap (fun it => it.cur G χ) ++ (List.drop (n' - (n + 1) + 1) (items.drop (n + 1))).flatMap (fun it => it.cur G χ))) ++ H))) := by
    refine hp.trans (List.Perm.append_left _ ?_)
    rw [List.append_assoc]
    refine (List.Perm.append_left _ hp2).trans ?_
    generalize (items.take n).flatMap (fun it => it.cur G χ) = U
    generalize (lastX χ it'.x0 it'.st).2 = V
    simp only [List.append_assoc]
    rw [← List.append_assoc U, ← List.append_assoc V U]
    exact List.perm_append_comm.append_right _
  refine ⟨by rw [← ok_all _ _ hall]; exact h.1 it hmem, by rw [← ok_all _ _ hall']; exact h.1 it' hmem', _, h.2.perm hp3, fun w' hS => ⟨h.1, hS.perm hp3.symm⟩⟩
/-- A call that asks two new pieces, and leaves them. -/
theorem fx_use2 (n n' : Nat) (hlt : n < n') {it it' : Item} (hit : items[n]? = some it) (hit' : items[n']? = some it') (hall : (it.st.all fun s => M.contains s.1 && anc md ops s.1 k) = true) (hall' : (it'.st.all fun s => M.contains s.1 && anc md ops s.1 k) = true)
    (f : Nat) (xs : List Operand) (ts : Array TypeId) (ho : o.op = .call { callee := .value (.func f), args := xs.toArray, argTypes := ts }) (hw : ∀ χ, Region.wanted o (yielded ops (A χ).tmps) = true) (hm : mI items k = false) {vs : (Nat → Gx) → List Value} [hE : ∀ χ, EvL (A χ) xs (vs χ)]
    (he : ∀ args w, (callFunc f args).run P w = .ok (.enter f args) w) (v : Value)
    (hv : ∀ χ L w, okL χ it.x0 it.st → okL χ it'.x0 it'.st → St w0 bs w ((lastX χ it.x0 it.st).2 ++ ((lastX χ it'.x0 it'.st).2 ++ (L ++ H))) → Calls P f (vs χ).toArray w (fun e w'' => e = .returned v ∧ St w0 bs w'' ((lastX χ it.x0 it.st).2 ++ ((lastX χ it'.x0 it'.st).2 ++ (L ++ H))))) [hp : ∀ χ, Put (A χ) o.dst v (A' χ)]
    (h : wpFx P md ops (CI w0 bs items H) (mI items) EE (k + 1) M rest A') : wpFx P md ops (CI w0 bs items H) (mI items) EE k M (o :: rest) A := by
  refine .inl ⟨hw, fun _ => v, fun _ _ _ => rfl, ?_, ?_⟩
  · unfold Yy
    rw [if_neg (by rw [hm]; simp)]
    intro G χ w hT _ hC
    have hG : ∀ s ∈ it.st, G s.1 = true := fun s hs => by
      have := List.all_eq_true.1 hall s hs
      simp only [Bool.and_eq_true] at this
      exact hT s.1 (by simpa using this.1) this.2
    have hG' : ∀ s ∈ it'.st, G s.1 = true := fun s hs => by
      have := List.all_eq_true.1 hall' s hs
      simp only [Bool.and_eq_true] at this
      exact hT s.1 (by simpa using this.1) this.2
    obtain ⟨hok, hok', L, hS, hback⟩ := hC.pick2 hit hit' hlt hG hG'
    exact stepX_call ho (hE := hE χ) he ((hv χ L w hok hok' hS).mono fun e w'' ⟨h1, h2⟩ => ⟨v, h1, rfl, hback w'' h2⟩)
  · rw [if_neg (by rw [hm]; simp), show (fun χ => (A χ).put o.dst v) = A' from funext fun χ => (hp χ).h]
    exact h

/-- An operation that turns item n, at stage s of it. -/
theorem fx_turn0 (n s : Nat) {it : Item} {p : Gx → Gx → Prop} (hit : items[n]? = some it) (hst : it.st[s]? = some (k, p)) (hnd : ndB (keysI items) = true)
    (hpre : ((it.st.take s).all fun q => M.contains q.1 && anc md ops q.1 k) = true) (hpost : ((it.st.drop (s + 1)).all fun q => anc md ops k q.1) = true)
    (hw : ∀ χ, Region.wanted o (yielded ops (A χ).tmps) = true) (v : Gx → Value)
    (hv : ∀ χ L w, okL χ it.x0 (it.st.take s) → St w0 bs w ((lastX χ it.x0 (it.st.take s)).2 ++ (L ++ H)) → stepX P o (A χ) w (fun u w'' => ∃ x, u = v x ∧ p (lastX χ it.x0 (it.st.take s)) x ∧ St w0 bs w'' (x.2 ++ (L ++ H)))) [hp : ∀ χ, Put (A χ) o.dst (v (χ k)) (A' χ)]
    (h : wpFx P md ops (CI w0 bs items H) (mI items) EE (k + 1) (k :: M) rest A') : wpFx P md ops (CI w0 bs items H) (mI items) EE k M (o :: rest) A := by
  have hmem : it ∈ items := List.mem_of_getElem? hit
  have hsplit : it.st = it.st.take s ++ (k, p) :: it.st.drop (s + 1) := split_at hst
  have hm : mI items k = true := by
    unfold mI
    rw [List.any_eq_true]
    refine ⟨it, hmem, ?_⟩
    rw [List.any_eq_true]
    exact ⟨(k, p), by rw [hsplit]; simp, by simp⟩
  -- the keys
  have hkeys := nd_of hnd
  have eitems : items = items.take n ++ it :: items.drop (n + 1) := split_at hit
  have ekeys : keysI items = keysI (items.take n) ++ ((it.st.take s).map (·.1) ++ k :: (it.st.drop (s + 1)).map (·.1)) ++ keysI (items.drop (n + 1)) := by
    have e1 : it.st.map (·.1) = (it.st.take s).map (·.1) ++ k :: (it.st.drop (s + 1)).map (·.1) := by
      have := congrArg (List.map (·.1)) hsplit
      rw [List.map_append, List.map_cons] at this
      exact this
    rw [← e1]
    unfold keysI
    rw [List.append_assoc, ← List.flatMap_cons (f := fun it : Item => it.st.map (·.1)), ← List.flatMap_append, ← eitems]
  rw [ekeys] at hkeys
  rw [List.nodup_append, List.nodup_append, List.nodup_append, List.nodup_cons] at hkeys
  obtain ⟨⟨_, ⟨_, ⟨k1, _⟩, k2⟩, k3⟩, _, k4⟩ := hkeys
  have ka : ∀ q ∈ it.st.take s, q.1 ≠ k := fun q hq => k2 q.1 (List.mem_map_of_mem hq) k (by simp)
  have kb : ∀ q ∈ it.st.drop (s + 1), q.1 ≠ k := fun q hq e => k1 (by rw [← e]; exact List.mem_map_of_mem hq)
  have kc : ∀ it' ∈ items.take n ++ items.drop (n + 1), ∀ q ∈ it'.st, q.1 ≠ k := by
    intro it' hi q hq
    rcases List.mem_append.1 hi with hi | hi
    · exact k3 q.1 (List.mem_flatMap.2 ⟨it', hi, List.mem_map_of_mem hq⟩) k (by simp)
    · exact fun e => k4 k (by simp) q.1 (List.mem_flatMap.2 ⟨it', hi, List.mem_map_of_mem hq⟩) e.symm
  refine .inl ⟨hw, fun χ => v (χ k), supp_of (by simp) v, ?_, ?_⟩
  · unfold Yy
    rw [if_pos hm]
    intro G χ w hk hT hF hC
    have g1 : ∀ q ∈ it.st.take s, G q.1 = true := fun q hq => by
      have := List.all_eq_true.1 hpre q hq
      simp only [Bool.and_eq_true] at this
      exact hT q.1 (by simpa using this.1) this.2
    have g2 : ∀ q ∈ it.st.drop (s + 1), G q.1 = false := fun q hq => hF q.1 (List.all_eq_true.1 hpost q hq)
    have hp1 := flat_pick (H := H) hit (fun it => it.cur G χ)
    have hcur : it.cur G χ = (lastX χ it.x0 (it.st.take s)).2 := by
      unfold Item.cur
      rw [hsplit, cur_before _ _ _ _ g1 hk]
      congr 2
      rw [← hsplit]
    simp only [hcur] at hp1
    have hokb : okL χ it.x0 (it.st.take s) := by
      have := hC.1 it hmem
      rw [hsplit] at this
      exact ok_before _ _ _ _ g1 hk this
    have h1 := hv χ _ w hokb (hC.2.perm hp1)
    have fin : ∀ (u : Value) (w'' : World), (∃ x, u = v x ∧ p (lastX χ it.x0 (it.st.take s)) x ∧ St w0 bs w'' (x.2 ++ (((items.take n).flatMap (fun it => it.cur G χ) ++ (items.drop (n + 1)).flatMap (fun it => it.cur G χ)) ++ H))) →
        ∃ x, u = v (up χ k x k) ∧ CI w0 bs items H (up G k true) (up χ k x) w'' := by
      rintro u w'' ⟨x, hu, hpx, hS⟩
      have hcurx : it.cur (up G k true) (up χ k x) = x.2 := by
        unfold Item.cur
        rw [hsplit, cur_after _ _ _ _ (fun q hq => ⟨g1 q hq, ka q hq⟩) (fun q hq => ⟨g2 q hq, kb q hq⟩)]
      have hoth : ∀ l : List Item, (∀ it' ∈ l, ∀ q ∈ it'.st, q.1 ≠ k) → l.flatMap (fun it => it.cur (up G k true) (up χ k x)) = l.flatMap (fun it => it.cur G χ) := by
        intro l hl
        induction l with
        | nil => rfl
        | cons a l ih =>
          rw [List.flatMap_cons, List.flatMap_cons, ih (fun it' hi => hl it' (by simp [hi]))]
          congr 1
          unfold Item.cur
          rw [cur_other _ _ _ (hl a (by simp))]
      have hp2 := flat_pick (H := H) hit (fun it => it.cur (up G k true) (up χ k x))
      simp only [hcurx] at hp2
      rw [hoth _ (fun it' hi => kc it' (List.mem_append_left _ hi)), hoth _ (fun it' hi => kc it' (List.mem_append_right _ hi))] at hp2
      refine ⟨x, by rw [up_same]; exact hu, fun it' hi => ?_, hS.perm hp2.symm⟩
      rw [eitems] at hi
      rcases List.mem_append.1 hi with hi | hi
      · rw [ok_other _ _ _ (kc it' (List.mem_append_left _ hi))]
        exact hC.1 it' (by rw [eitems]; exact List.mem_append_left _ hi)
      · rcases List.mem_cons.1 hi with rfl | hi
        · rw [hsplit]
          exact ok_after _ _ _ _ (fun q hq => ⟨g1 q hq, ka q hq⟩) (fun q hq => ⟨g2 q hq, kb q hq⟩) hokb hpx
        · rw [ok_other _ _ _ (kc it' (List.mem_append_right _ hi))]
          exact hC.1 it' (by rw [eitems]; exact List.mem_append_right _ (by simp [hi]))
    unfold stepX at h1 ⊢
    revert h1
    generalize (execOp (A χ).eval o).run P w = r
    intro h1
    cases r with
    | ok nx w' =>
      cases nx <;> simp only [] at h1 ⊢
      case value u => exact fin _ _ h1
      case skip => exact fin _ _ h1
      case enter f args => exact h1.mono fun e w'' ⟨u, h2, h3⟩ => ⟨u, h2, fin _ _ h3⟩
    | halt e w' => simp only [] at h1
  · rw [if_pos hm, show (fun χ => (A χ).put o.dst (v (χ k))) = A' from funext fun χ => (hp χ).h]
    exact h
/-- A call that turns item n. -/
theorem fx_turn (n s : Nat) {it : Item} {p : Gx → Gx → Prop} (hit : items[n]? = some it) (hst : it.st[s]? = some (k, p)) (hnd : ndB (keysI items) = true)
    (hpre : ((it.st.take s).all fun q => M.contains q.1 && anc md ops q.1 k) = true) (hpost : ((it.st.drop (s + 1)).all fun q => anc md ops k q.1) = true)
    (f : Nat) (xs : List Operand) (ts : Array TypeId) (ho : o.op = .call { callee := .value (.func f), args := xs.toArray, argTypes := ts }) (hw : ∀ χ, Region.wanted o (yielded ops (A χ).tmps) = true) {vs : (Nat → Gx) → List Value} [hE : ∀ χ, EvL (A χ) xs (vs χ)]
    (he : ∀ args w, (callFunc f args).run P w = .ok (.enter f args) w) (v : Gx → Value)
    (hv : ∀ χ L w, okL χ it.x0 (it.st.take s) → St w0 bs w ((lastX χ it.x0 (it.st.take s)).2 ++ (L ++ H)) → Calls P f (vs χ).toArray w (fun e w'' => ∃ x, e = .returned (v x) ∧ p (lastX χ it.x0 (it.st.take s)) x ∧ St w0 bs w'' (x.2 ++ (L ++ H)))) [hp : ∀ χ, Put (A χ) o.dst (v (χ k)) (A' χ)]
    (h : wpFx P md ops (CI w0 bs items H) (mI items) EE (k + 1) (k :: M) rest A') : wpFx P md ops (CI w0 bs items H) (mI items) EE k M (o :: rest) A :=
  fx_turn0 n s hit hst hnd hpre hpost hw v (fun χ L w hok hS => stepX_call ho (hE := hE χ) he ((hv χ L w hok hS).mono fun e w'' ⟨x, h1, h2, h3⟩ => ⟨v x, h1, x, rfl, h2, h3⟩)) h

theorem region_items {id : Nat} {l : List Oper} {Q : Exit → Act → World → Prop} {a : Act} {w : World} (items : List Item) (H : List Ent) (hS : St w0 bs w (items.flatMap (fun it => it.x0.2) ++ H)) (hm : P.follows .mixedOrders = true) (hB : Region.lexB .any l.toArray = true)
    (h : wpFx P .any l.toArray (CI w0 bs items H) (mI items) (fun M A => ∀ χ G w', (∀ s ∈ M, G s = true) → CI w0 bs items H G χ w' → Q .normal (A χ) w') 0 [] l (fun _ => a)) : (Code.region id l.toArray true).wp P Q a w := by
  refine region_free (X := Gx) (CI w0 bs items H) (mI items) hm hB ⟨fun it _ => ?_, ?_⟩ h
  · cases hst : it.st with
    | nil => trivial
    | cons s l => obtain ⟨j, q⟩ := s; unfold okI; simp
  · have e : ∀ it : Item, it.cur (fun _ => false) (fun _ => default) = it.x0.2 := fun it => by
      unfold Item.cur
      cases hst : it.st with
      | nil => rfl
      | cons s l => obtain ⟨j, q⟩ := s; unfold curI; simp
    rw [show (fun it : Item => it.cur (fun _ => false) (fun _ => default)) = (fun it => it.x0.2) from funext e]
    exact hS.drawn _
theorem region_itemsE {id : Nat} {l : List Oper} {Q : Exit → Act → World → Prop} {a : Act} {w : World} (items : List Item) (H H0 : List Ent) (hF : items.flatMap (fun it => it.x0.2) ++ H = H0) (hS : St w0 bs w H0) (hm : P.follows .mixedOrders = true) (hB : Region.lexB .any l.toArray = true)
    (h : wpFx P .any l.toArray (CI w0 bs items H) (mI items) (fun M A => ∀ χ G w', (∀ s ∈ M, G s = true) → CI w0 bs items H G χ w' → Q .normal (A χ) w') 0 [] l (fun _ => a)) : (Code.region id l.toArray true).wp P Q a w := by
  subst hF
  exact region_items items H hS hm hB h
/-- All pieces are new. -/
theorem region_new {id : Nat} {l : List Oper} {Q : Exit → Act → World → Prop} {a : Act} {w : World} (items : List Item) (h0 : items.all (fun it => it.x0.2.isEmpty) = true) {H0 : List Ent} (hS : St w0 bs w H0) (H : List Ent) (hm : P.follows .mixedOrders = true) (hB : Region.lexB .any l.toArray = true) [hpk : Pick H H0]
    (h : wpFx P .any l.toArray (CI w0 bs items H) (mI items) (fun M A => ∀ χ G w', (∀ s ∈ M, G s = true) → CI w0 bs items H G χ w' → Q .normal (A χ) w') 0 [] l (fun _ => a)) : (Code.region id l.toArray true).wp P Q a w := by
  refine region_items items H ?_ hm hB h
  have : items.flatMap (fun it => it.x0.2) = [] := by
    rw [List.flatMap_eq_nil_iff]
    intro it hi
    have := List.all_eq_true.1 h0 it hi
    simpa using this
  rw [this]
  exact hS.pick
/-- The end. -/
theorem fx_end {Q : Exit → Act → World → Prop} (hall : (items.all fun it => it.st.all fun s => M.contains s.1) = true)
    (h : ∀ χ w', (∀ it ∈ items, okL χ it.x0 it.st) → St w0 bs w' (items.flatMap (fun it => (lastX χ it.x0 it.st).2) ++ H) → Q .normal (A χ) w') :
    wpFx P md ops (CI w0 bs items H) (mI items) (fun M A => ∀ χ G w', (∀ s ∈ M, G s = true) → CI w0 bs items H G χ w' → Q .normal (A χ) w') k M [] A := by
  intro χ G w' hM hC
  have hG : ∀ it ∈ items, ∀ s ∈ it.st, G s.1 = true := fun it hi s hs => by
    have := List.all_eq_true.1 (List.all_eq_true.1 hall it hi) s hs
    exact hM s.1 (by simpa using this)
  refine h χ w' (fun it hi => by rw [← ok_all _ _ (hG it hi)]; exact hC.1 it hi) ?_
  have e : ∀ l : List Item, (∀ it ∈ l, it ∈ items) → l.flatMap (fun it => it.cur G χ) = l.flatMap (fun it => (lastX χ it.x0 it.st).2) := by
    intro l hl
    induction l with
    | nil => rfl
    | cons a l ih =>
      rw [List.flatMap_cons, List.flatMap_cons, ih (fun it hi => hl it (by simp [hi]))]
      congr 1
      unfold Item.cur
      rw [cur_all _ _ (hG a (hl a (by simp)))]
  rw [← e items (fun _ h => h)]
  exact hC.2
end
/-! Blocks that are laid and written within a region -/
section
variable {P : Program} {o : Oper} {a : Act} {w w0 : World} {bs : List Nat} {H : List Ent} {Φ : Value → World → Prop}
theorem stepX_al (t : TypeId) (ho : o.op = .alloc t) (hS : St w0 bs w H) {cs : Array Value} [hz : ZeroT P t cs] (h : ∀ b w', w.heap.size ≤ b → St w0 bs w' (⟨b, cs, t, true⟩ :: H) → Φ (.pointer (some ⟨b, 0, none⟩)) w') : stepX P o a w Φ := by
  obtain ⟨z, hzc, hzr⟩ := hz.run
  have hS' : St w0 bs (w.alloc (.cells cs t (0, 0))) (⟨w.heap.size, cs, t, true⟩ :: H) := hS.new (Chg.alloc w _) (Nat.le_refl _) (alloc_new w _)
  have hr : (execOp a.eval o).run P w = .ok (.value (.pointer (some ⟨w.heap.size, 0, none⟩))) (w.alloc (.cells cs t (0, 0))) := by
    simp only [execOp, ho, Instr.alloc, Sem.run_bind, Sem.run_pure, Result.andThen_ok, hzr, newVar, newRow, hzc, run_newObj]
    rfl
  unfold stepX
  rw [hr]
  exact h _ _ (Nat.le_refl _) hS'
theorem stepX_sta (t : TypeId) (x y : Operand) (ho : o.op = .store t x y) (hS : St w0 bs w H) {b off n : Nat} [hx : Ev a x (.pointer (some ⟨b, off, none⟩))] {vs : Array Value} [hy : Ev a y (.agg vs)] [hag : AggT P t n] [h1c : OneCells vs]
    {cs cs' : Array Value} {T : TypeId} {H' : List Ent} [hH : Has H b cs T] [hs : SetsAt cs off vs cs'] [hn : SizeIs vs n] [hu : Upd H b cs' T H'] (h : ∀ w', St w0 bs w' H' → Φ undef w') : stepX P o a w Φ := by
  have hb := hS.has hH
  have hr := run_storeCells_at P b off T vs.toList 0 cs w hb (by have := hs.le; simpa using this) h1c.h
  simp only [Nat.add_zero] at hr
  rw [show vs.toList.length = vs.size by simp, hs.h] at hr
  have hS' : St w0 bs (w.setRow b cs') H' := by
    refine hS.upd ⟨rfl, rfl, rfl, by simp, fun k _ hk => setRow_other w b k _ (by simpa [eq_comm] using hk)⟩ (setRow_heap w b cs _ T _ hb)
  have hr2 : (execOp a.eval o).run P w = .ok .skip (w.setRow b cs') := by
    simp only [execOp, ho, hx.h, hy.h, Instr.storeAt, Instr.sureAddr, storeVar, Sem.run_bind, Sem.run_pure, Result.andThen_ok, run_sizeOf' hag.s, Value.cells, hn.h, ne_eq, not_true_eq_false, if_false, hr]
  unfold stepX
  rw [hr2]
  exact h _ hS'
theorem stepX_stb (t : TypeId) (x y : Operand) (ho : o.op = .store t x y) (hS : St w0 bs w H) {u : Value} {b off n : Nat} [hx : Ev a x u] (hu0 : u = .pointer (some ⟨b, off, none⟩)) {vs : Array Value} [hy : Ev a y (.agg vs)] [hag : AggT P t n] [h1c : OneCells vs]
    {cs cs' : Array Value} {T : TypeId} {H' : List Ent} [hH : Has H b cs T] [hs : SetsAt cs off vs cs'] [hn : SizeIs vs n] [hu : Upd H b cs' T H'] (h : ∀ w', St w0 bs w' H' → Φ undef w') : stepX P o a w Φ := by
  subst hu0
  exact stepX_sta t x y ho hS h
end
/-! More plain operations -/
section
variable {P : Program} {o : Oper} {a : Act} {w : World}
theorem run_ieq {k : IntKind} {e : Int} (t t' : TypeId) (x y : Operand) (ho : o.op = .binOp .eql t x y t') [hx : Ev a x (.int k e)] [hy : Ev a y (.int k e)] : OpVal P o a w (.bool true) := by
  unfold OpVal; simp [execOp, ho, hx.h, hy.h, eqGuard, binOp, Op.intCmp]
/-- Two numbers, held against each other, by a fact at hand. -/
class IntEq (e f : Int) (b : outParam Bool) : Prop where
  h : decide (e = f) = b
theorem run_ilit {k : IntKind} {e f : Int} (t t' : TypeId) (x y : Operand) (ho : o.op = .binOp .eql t x y t') [hx : Ev a x (.int k e)] [hy : Ev a y (.int k f)] {b : Bool} [hb : IntEq e f b] : OpVal P o a w (.bool b) := by
  have e : (e == f) = b := by rw [← hb.h]; by_cases q : e = f <;> simp [q]
  unfold OpVal; simp [execOp, ho, hx.h, hy.h, eqGuard, binOp, Op.intCmp, e]
theorem run_inlit {k : IntKind} {e f : Int} (t t' : TypeId) (x y : Operand) (ho : o.op = .binOp .neq t x y t') [hx : Ev a x (.int k e)] [hy : Ev a y (.int k f)] {b c : Bool} [hb : IntEq e f b] [hn : NotB b c] : OpVal P o a w (.bool c) := by
  have e : (e != f) = !b := by rw [← hb.h]; by_cases q : e = f <;> simp [q]
  unfold OpVal; rw [← hn.h]; simp [execOp, ho, hx.h, hy.h, eqGuard, binOp, Op.intCmp, e]
theorem run_bnot (t : TypeId) (x : Operand) (ho : o.op = .unOp .not t x) {b c : Bool} [hx : Ev a x (.bool b)] [hn : NotB b c] : OpVal P o a w (.bool c) := by
  unfold OpVal; rw [← hn.h]; simp [execOp, ho, hx.h, Op.unary]
class BoolEq (P : Program) (t : TypeId) (x y : Bool) (c : outParam Bool) : Prop where
  h : (x == y) = c
  u : P.underlying t = some .bool
theorem run_beq (t t' : TypeId) (x y : Operand) (ho : o.op = .binOp .eql t x y t') {b b' c : Bool} [hx : Ev a x (.bool b)] [hy : Ev a y (.bool b')] [hc : BoolEq P t b b' c] : OpVal P o a w (.bool c) := by
  unfold OpVal; rw [← hc.h]; simp [execOp, ho, hx.h, hy.h, eqGuard, binOp, Op.equal, Op.maxDepth, run_equalIn_bool' w 9999 t _ _ hc.u]
theorem run_bne (t t' : TypeId) (x y : Operand) (ho : o.op = .binOp .neq t x y t') {b b' c c' : Bool} [hx : Ev a x (.bool b)] [hy : Ev a y (.bool b')] [hc : BoolEq P t b b' c] [hn : NotB c c'] : OpVal P o a w (.bool c') := by
  unfold OpVal; rw [← hn.h, ← hc.h]; simp [execOp, ho, hx.h, hy.h, eqGuard, binOp, Op.equal, Op.maxDepth, run_equalIn_bool' w 9999 t _ _ hc.u]
theorem run_ext (n : Nat) (x : Operand) (ho : o.op = .extract x n) {vs : List Value} {v : Value} [hx : Ev a x (.tuple (List.toArray vs))] [hn : Nth vs n v] : OpVal P o a w v := by
  have := hn.h
  unfold OpVal; simp [execOp, ho, hx.h, Instr.extract, this]
/-- Numbers that fit everywhere from 32 bits on. -/
class Small (n : Int) : Prop where
  lo : 0 ≤ n
  hi : n ≤ 4294967295
class WrapsTo (k : IntKind) (n : Int) : Prop where
  h : k.wrap n = n
instance wraps64 {n : Int} [h : Small n] : WrapsTo .i64 n := ⟨IntWalk.i64_in n ⟨by have := h.lo; omega, by have := h.hi; omega⟩⟩
instance wraps32 {n : Int} [h : Small n] : WrapsTo .u32 n := ⟨IntWalk.u32_in n ⟨h.lo, h.hi⟩⟩
class CvI (P : Program) (src dst : TypeId) (k : outParam IntKind) : Prop where
  hs : (P.underlying src).isSome = true
  hk : P.intKind dst = k
  hd : P.underlying dst = some (.int k)
theorem run_cvn (src dst : TypeId) (x : Operand) (ho : o.op = .convert src dst x) {k k0 : IntKind} {n : Int} [hc : CvI P src dst k] [hx : Ev a x (.int k0 n)] [hw : WrapsTo k n] : OpVal P o a w (.int k n) := by
  have h := run_convert_int (P := P) w src dst k0 n hc.hs (by rw [hc.hk]; exact hc.hd)
  rw [hc.hk, hw.h] at h
  unfold OpVal
  simp only [execOp, ho, hx.h, Sem.run_bind, h, Result.andThen_ok, Sem.run_pure]
theorem run_remn (t t' : TypeId) (x y : Operand) (ho : o.op = .binOp .rem t x y t') {k : IntKind} {n m : Int} [hx : Ev a x (.int k n)] [hy : Ev a y (.int k m)] [hs : Small n] (hm : 0 < m) : OpVal P o a w (.int k (n % m)) := by
  have h1 : n.tmod m = n % m := Int.tmod_eq_emod_of_nonneg hs.lo
  have h2 : m ≠ 0 := by omega
  unfold OpVal
  simp [execOp, ho, hx.h, hy.h, eqGuard, binOp, Op.intDiv, h1, h2]
/-- The lesser of two numbers, by a fact at hand. -/
class MinIs (n m : Int) (r : outParam Int) : Prop where
  h : (if m < n then m else n) = r
theorem run_minv (x y : Operand) {ts : Array TypeId} (ho : o.op = .call { callee := .builtin .min, args := #[x, y], argTypes := ts }) {k : IntKind} {n m r : Int} [hx : Ev a x (.int k n)] [hy : Ev a y (.int k m)] [hr : MinIs n m r] : OpVal P o a w (.int k r) := by
  unfold OpVal
  simp only [execOp, ho, resolve, invoke, builtin, Sem.run_bind, Sem.run_pure, Result.andThen_ok, List.map_toArray, List.map_cons, List.map_nil, hx.h, hy.h, run_min_int2, hr.h]
theorem run_nc (x : Operand) (ho : o.op = .nilCheck x) {p : Addr} [hx : Ev a x (.pointer (some p))] : OpVal P o a w (.pointer (some p)) := by
  unfold OpVal
  simp only [execOp, ho, hx.h]
  rfl
/-- A remainder, by a fact at hand. -/
class RemIs (n m : Int) (r : outParam Int) : Prop where
  h : n.tmod m = r
  z : m ≠ 0
theorem run_remv (t t' : TypeId) (x y : Operand) (ho : o.op = .binOp .rem t x y t') {k : IntKind} {n m r : Int} [hx : Ev a x (.int k n)] [hy : Ev a y (.int k m)] [hr : RemIs n m r] : OpVal P o a w (.int k r) := by
  unfold OpVal
  simp [execOp, ho, hx.h, hy.h, eqGuard, binOp, Op.intDiv, hr.h, hr.z]
end
end Go.Mm

/-
  Plain operations on numbers in drawn regions, by facts at hand.
-/
namespace Go.Mm
open Go Go.RowKit
section
variable {P : Program} {o : Oper} {a : Act} {w : World}
/-- A sum. -/
class SumIs (n m : Int) (r : outParam Int) : Prop where
  h : n + m = r
  lo : -9223372036854775808 ≤ r
  hi : r ≤ 9223372036854775807
theorem run_sumv (t t' : TypeId) (x y : Operand) (ho : o.op = .binOp .add t x y t') {n m r : Int} [hx : Ev a x (.int .i64 n)] [hy : Ev a y (.int .i64 m)] [hr : SumIs n m r] : OpVal P o a w (.int .i64 r) := by
  have e : IntKind.i64.wrap (n + m) = r := by rw [hr.h]; have := hr.lo; have := hr.hi; rw [IntKind.wrap_i64]; omega
  unfold OpVal
  simp [execOp, ho, hx.h, hy.h, eqGuard, binOp, Op.intArith, e]
/-- A difference. -/
class DifIs (n m : Int) (r : outParam Int) : Prop where
  h : n - m = r
  lo : -9223372036854775808 ≤ r
  hi : r ≤ 9223372036854775807
theorem run_difv (t t' : TypeId) (x y : Operand) (ho : o.op = .binOp .sub t x y t') {n m r : Int} [hx : Ev a x (.int .i64 n)] [hy : Ev a y (.int .i64 m)] [hr : DifIs n m r] : OpVal P o a w (.int .i64 r) := by
  have e : IntKind.i64.wrap (n - m) = r := by rw [hr.h]; have := hr.lo; have := hr.hi; rw [IntKind.wrap_i64]; omega
  unfold OpVal
  simp [execOp, ho, hx.h, hy.h, eqGuard, binOp, Op.intArith, e]
/-- Comparisons: n below m. -/
class LtIs (n m : Int) (b : outParam Bool) : Prop where
  h : decide (n < m) = b
theorem run_lssv (t t' : TypeId) (x y : Operand) (ho : o.op = .binOp .lss t x y t') {k : IntKind} {n m : Int} {b : Bool} [hx : Ev a x (.int k n)] [hy : Ev a y (.int k m)] [hr : LtIs n m b] : OpVal P o a w (.bool b) := by
  unfold OpVal
  simp [execOp, ho, hx.h, hy.h, eqGuard, binOp, Op.intCmp, ← hr.h]
theorem run_gtv (t t' : TypeId) (x y : Operand) (ho : o.op = .binOp .gtr t x y t') {k : IntKind} {n m : Int} {b : Bool} [hx : Ev a x (.int k n)] [hy : Ev a y (.int k m)] [hr : LtIs m n b] : OpVal P o a w (.bool b) := by
  unfold OpVal
  simp [execOp, ho, hx.h, hy.h, eqGuard, binOp, Op.intCmp, ← hr.h]
class LeIs (n m : Int) (b : outParam Bool) : Prop where
  h : decide (n ≤ m) = b
theorem run_leqv (t t' : TypeId) (x y : Operand) (ho : o.op = .binOp .leq t x y t') {k : IntKind} {n m : Int} {b : Bool} [hx : Ev a x (.int k n)] [hy : Ev a y (.int k m)] [hr : LeIs n m b] : OpVal P o a w (.bool b) := by
  unfold OpVal
  simp [execOp, ho, hx.h, hy.h, eqGuard, binOp, Op.intCmp, ← hr.h]
theorem run_geqv (t t' : TypeId) (x y : Operand) (ho : o.op = .binOp .geq t x y t') {k : IntKind} {n m : Int} {b : Bool} [hx : Ev a x (.int k n)] [hy : Ev a y (.int k m)] [hr : LeIs m n b] : OpVal P o a w (.bool b) := by
  unfold OpVal
  simp [execOp, ho, hx.h, hy.h, eqGuard, binOp, Op.intCmp, ← hr.h]
/-- The greater of two numbers. -/
class MaxIs (n m : Int) (r : outParam Int) : Prop where
  h : (if m > n then m else n) = r
theorem run_maxv (x y : Operand) {ts : Array TypeId} (ho : o.op = .call { callee := .builtin .max, args := #[x, y], argTypes := ts }) {k : IntKind} {n m r : Int} [hx : Ev a x (.int k n)] [hy : Ev a y (.int k m)] [hr : MaxIs n m r] : OpVal P o a w (.int k r) := by
  unfold OpVal
  simp only [execOp, ho, resolve, invoke, builtin, Sem.run_bind, Sem.run_pure, Result.andThen_ok, List.map_toArray, List.map_cons, List.map_nil, hx.h, hy.h, run_max_int2, hr.h]
end
end Go.Mm

/-
  Regions with ghosts whose pieces may name one another: a stage's fact is about the stage before, the result, and the results of operations ahead of it.
-/
namespace Go.Mm
open Go Go.RowKit

/-- A stage: the operation, those ahead of it whose results its fact names, and the fact. -/
abbrev Stg := Nat × List Nat × (List Gx → Gx → Gx → Prop)
structure ItD where
  x0 : Gx
  st : List Stg
def curD (G : Gs) (χ : Nat → Gx) : Gx → List Stg → Gx
  | x, [] => x
  | x, (k, _, _) :: l => if G k then curD G χ (χ k) l else x
def okD (G : Gs) (χ : Nat → Gx) : Gx → List Stg → Prop
  | _, [] => True
  | x, (k, S, p) :: l => if G k then p (S.map χ) x (χ k) ∧ okD G χ (χ k) l else True
/-- The piece behind some stages. -/
def lastD (χ : Nat → Gx) : Gx → List Stg → Gx
  | x, [] => x
  | _, (k, _, _) :: l => lastD χ (χ k) l
def okDL (χ : Nat → Gx) : Gx → List Stg → Prop
  | _, [] => True
  | x, (k, S, p) :: l => p (S.map χ) x (χ k) ∧ okDL χ (χ k) l
def ItD.cur (it : ItD) (G : Gs) (χ : Nat → Gx) : List Ent := (curD G χ it.x0 it.st).2
def CD (w0 : World) (bs : List Nat) (items : List ItD) (H : List Ent) (G : Gs) (χ : Nat → Gx) (w : World) : Prop :=
  (∀ it ∈ items, okD G χ it.x0 it.st) ∧ St w0 bs w (items.flatMap (fun it => it.cur G χ) ++ H)
def mD (items : List ItD) (i : Nat) : Bool := items.any fun it => it.st.any fun s => s.1 == i

section
variable {G : Gs} {χ : Nat → Gx} {k : Nat} {x : Gx}
theorem map_up {S : List Nat} (h : k ∉ S) : S.map (up χ k x) = S.map χ := by
  apply List.map_congr_left
  intro j hj
  exact up_other χ x (fun e => h (e ▸ hj))
theorem curD_other : ∀ (l : List Stg) (b : Bool) (y : Gx), (∀ s ∈ l, s.1 ≠ k) → curD (up G k b) (up χ k x) y l = curD G χ y l
  | [], _, _, _ => rfl
  | (j, S, p) :: l, b, y, h => by
    have hj : j ≠ k := h (j, S, p) (by simp)
    unfold curD
    rw [show up G k b j = G j from if_neg hj, up_other χ x hj, curD_other l b (χ j) (fun s hs => h s (by simp [hs]))]
theorem okD_other : ∀ (l : List Stg) (b : Bool) (y : Gx), (∀ s ∈ l, s.1 ≠ k) → (∀ s ∈ l, G s.1 = true → k ∉ s.2.1) → okD (up G k b) (up χ k x) y l = okD G χ y l
  | [], _, _, _, _ => rfl
  | (j, S, p) :: l, b, y, h, h2 => by
    have hj : j ≠ k := h (j, S, p) (by simp)
    unfold okD
    rw [show up G k b j = G j from if_neg hj, up_other χ x hj, okD_other l b (χ j) (fun s hs => h s (by simp [hs])) (fun s hs => h2 s (by simp [hs]))]
    by_cases hg : G j = true
    · rw [if_pos hg, if_pos hg, map_up (h2 (j, S, p) (by simp) hg)]
    · rw [if_neg hg, if_neg hg]
theorem curD_before : ∀ (l1 l2 : List Stg) (q : List Nat × (List Gx → Gx → Gx → Prop)) (y : Gx), (∀ s ∈ l1, G s.1 = true) → G k = false → curD G χ y (l1 ++ (k, q) :: l2) = lastD χ y l1
  | [], l2, q, y, _, hk => by simp [curD, lastD, hk]
  | (j, S, p) :: l1, l2, q, y, h, hk => by
    have hj : G j = true := h (j, S, p) (by simp)
    rw [List.cons_append]
    unfold curD lastD
    rw [if_pos hj]
    exact curD_before l1 l2 q (χ j) (fun s hs => h s (by simp [hs])) hk
theorem curD_stop : ∀ (l1 l2 : List Stg) (y : Gx), (∀ s ∈ l1, G s.1 = true) → (∀ s ∈ l2, G s.1 = false) → curD G χ y (l1 ++ l2) = lastD χ y l1
  | [], [], y, _, _ => rfl
  | [], (j, S, p) :: l2, y, _, h => by
    have hj : G j = false := h (j, S, p) (by simp)
    simp [curD, lastD, hj]
  | (j, S, p) :: l1, l2, y, h, h2 => by
    have hj : G j = true := h (j, S, p) (by simp)
    rw [List.cons_append]
    unfold curD lastD
    rw [if_pos hj]
    exact curD_stop l1 l2 (χ j) (fun s hs => h s (by simp [hs])) h2
theorem curD_all : ∀ (l : List Stg) (y : Gx), (∀ s ∈ l, G s.1 = true) → curD G χ y l = lastD χ y l
  | [], _, _ => rfl
  | (j, S, p) :: l, y, h => by
    unfold curD lastD
    rw [if_pos (h (j, S, p) (by simp))]
    exact curD_all l (χ j) (fun s hs => h s (by simp [hs]))
theorem okD_all : ∀ (l : List Stg) (y : Gx), (∀ s ∈ l, G s.1 = true) → okD G χ y l = okDL χ y l
  | [], _, _ => rfl
  | (j, S, p) :: l, y, h => by
    unfold okD okDL
    rw [if_pos (h (j, S, p) (by simp)), okD_all l (χ j) (fun s hs => h s (by simp [hs]))]
theorem okD_before : ∀ (l1 l2 : List Stg) (y : Gx), (∀ s ∈ l1, G s.1 = true) → okD G χ y (l1 ++ l2) → okDL χ y l1
  | [], l2, y, _, _ => trivial
  | (j, S, p) :: l1, l2, y, h, ho => by
    have hj : G j = true := h (j, S, p) (by simp)
    rw [List.cons_append] at ho
    unfold okD at ho
    rw [if_pos hj] at ho
    exact ⟨ho.1, okD_before l1 l2 (χ j) (fun s hs => h s (by simp [hs])) ho.2⟩
theorem curD_after : ∀ (l1 l2 : List Stg) (q : List Nat × (List Gx → Gx → Gx → Prop)) (y : Gx), (∀ s ∈ l1, G s.1 = true ∧ s.1 ≠ k) → (∀ s ∈ l2, G s.1 = false ∧ s.1 ≠ k) → curD (up G k true) (up χ k x) y (l1 ++ (k, q) :: l2) = x
  | [], l2, q, y, _, h2 => by
    rw [List.nil_append]
    unfold curD
    rw [if_pos (up_same G k true), up_same]
    cases l2 with
    | nil => rfl
    | cons s l2 =>
      obtain ⟨j, q⟩ := s
      obtain ⟨h3, h4⟩ := h2 (j, q) (by simp)
      unfold curD
      rw [show up G k true j = G j from if_neg h4, h3]
      rfl
  | (j, S, p) :: l1, l2, q, y, h, h2 => by
    obtain ⟨h3, h4⟩ := h (j, S, p) (by simp)
    rw [List.cons_append]
    unfold curD
    rw [if_pos (show up G k true j = true from (if_neg h4).trans h3)]
    exact curD_after l1 l2 q _ (fun s hs => h s (by simp [hs])) h2
theorem okD_after : ∀ (l1 l2 : List Stg) (S : List Nat) (p : List Gx → Gx → Gx → Prop) (y : Gx), (∀ s ∈ l1, G s.1 = true ∧ s.1 ≠ k) → (∀ s ∈ l2, G s.1 = false ∧ s.1 ≠ k) → (∀ s ∈ l1, k ∉ s.2.1) → k ∉ S → okDL χ y l1 → p (S.map χ) (lastD χ y l1) x → okD (up G k true) (up χ k x) y (l1 ++ (k, S, p) :: l2)
  | [], l2, S, p, y, _, h2, _, hS, _, hp => by
    rw [List.nil_append]
    unfold okD
    rw [if_pos (up_same G k true), up_same, map_up hS]
    refine ⟨hp, ?_⟩
    cases l2 with
    | nil => trivial
    | cons s l2 =>
      obtain ⟨j, q⟩ := s
      obtain ⟨h3, h4⟩ := h2 (j, q) (by simp)
      unfold okD
      rw [show up G k true j = G j from if_neg h4, h3]
      trivial
  | (j, S', q) :: l1, l2, S, p, y, h, h2, hk, hS, ho, hp => by
    obtain ⟨h3, h4⟩ := h (j, S', q) (by simp)
    rw [List.cons_append]
    unfold okD
    rw [if_pos (show up G k true j = true from (if_neg h4).trans h3), up_other χ x h4, map_up (hk (j, S', q) (by simp))]
    exact ⟨ho.1, okD_after l1 l2 S p _ (fun s hs => h s (by simp [hs])) h2 (fun s hs => hk s (by simp [hs])) hS ho.2 hp⟩
end
/-- The stages' facts name only results of operations that stand ahead. -/
def depB (md : Region.Mode) (ops : Array Oper) (items : List ItD) : Bool := items.all fun it => it.st.all fun s => s.2.1.all fun j => anc md ops j s.1 && !(j == s.1)

section
variable {w0 w : World} {bs : List Nat} {H : List Ent}
theorem flatD_pick {items : List ItD} {n : Nat} {it : ItD} (h : items[n]? = some it) (f : ItD → List Ent) : (items.flatMap f ++ H).Perm (f it ++ (((items.take n).flatMap f ++ (items.drop (n + 1)).flatMap f) ++ H)) := by
  have e := split_at h
  have e2 : items.flatMap f = (items.take n).flatMap f ++ (f it ++ (items.drop (n + 1)).flatMap f) := by
    have e3 := congrArg (fun q => List.flatMap f q) e
    simpa only [List.flatMap_append, List.flatMap_cons] using e3
  rw [e2]
  generalize (items.take n).flatMap f = A
  generalize (items.drop (n + 1)).flatMap f = B
  simp only [List.append_assoc]
  rw [← List.append_assoc A, ← List.append_assoc (f it) A]
  exact List.perm_append_comm.append_right _
/-- All keys are different. -/
def keysD (items : List ItD) : List Nat := items.flatMap fun it => it.st.map (·.1)
end

section
variable {P : Program} {ops : Array Oper} {md : Region.Mode} {w0 : World} {bs : List Nat} {H : List Ent} {items : List ItD}
variable {EE : List Nat → ((Nat → Gx) → Act) → Prop} {k : Nat} {M : List Nat} {o : Oper} {rest : List Oper} {A A' : (Nat → Gx) → Act} {v : Value}

theorem CD.base {G : Gs} {χ : Nat → Gx} {w : World} (h : CD w0 bs items H G χ w) : St w0 bs w H := h.2.weak

theorem dx_skip (hw : ∀ χ, Region.wanted o (yielded ops (A χ).tmps) = false) [hp : ∀ χ, Put (A χ) o.dst undef (A' χ)] (h : wpFx P md ops (CD w0 bs items H) (mD items) EE (k + 1) M rest A') :
    wpFx P md ops (CD w0 bs items H) (mD items) EE k M (o :: rest) A := by
  refine .inr ⟨hw, ?_⟩
  rw [show (fun χ => (A χ).put o.dst undef) = A' from funext fun χ => (hp χ).h]
  exact h
/-- A plain operation. -/
theorem dx_val (hw : ∀ χ, Region.wanted o (yielded ops (A χ).tmps) = true) (hm : mD items k = false) (hv : ∀ χ w, St w0 bs w H → OpVal P o (A χ) w v) [hp : ∀ χ, Put (A χ) o.dst v (A' χ)]
    (h : wpFx P md ops (CD w0 bs items H) (mD items) EE (k + 1) M rest A') : wpFx P md ops (CD w0 bs items H) (mD items) EE k M (o :: rest) A := by
  refine .inl ⟨hw, fun _ => v, fun _ _ _ => rfl, ?_, ?_⟩
  · unfold Yy
    rw [if_neg (by rw [hm]; simp)]
    intro G χ w _ _ hC
    unfold stepX
    rw [hv χ w (CD.base hC)]
    exact ⟨rfl, hC⟩
  · rw [if_neg (by rw [hm]; simp), show (fun χ => (A χ).put o.dst v) = A' from funext fun χ => (hp χ).h]
    exact h
/-- A plain operation that hands on what was not known ahead. -/
theorem dx_gval (hw : ∀ χ, Region.wanted o (yielded ops (A χ).tmps) = true) (hm : mD items k = false) (v : (Nat → Gx) → Value) (hs : Supp md ops k v) (hv : ∀ χ w, St w0 bs w H → OpVal P o (A χ) w (v χ)) [hp : ∀ χ, Put (A χ) o.dst (v χ) (A' χ)]
    (h : wpFx P md ops (CD w0 bs items H) (mD items) EE (k + 1) M rest A') : wpFx P md ops (CD w0 bs items H) (mD items) EE k M (o :: rest) A := by
  refine .inl ⟨hw, v, hs, ?_, ?_⟩
  · unfold Yy
    rw [if_neg (by rw [hm]; simp)]
    intro G χ w _ _ hC
    unfold stepX
    rw [hv χ w (CD.base hC)]
    exact ⟨rfl, hC⟩
  · rw [if_neg (by rw [hm]; simp), show (fun χ => (A χ).put o.dst (v χ)) = A' from funext fun χ => (hp χ).h]
    exact h
/-- A call that leaves all pieces as they are, and asks none of those that are new. -/
theorem dx_ask (f : Nat) (xs : List Operand) (ts : Array TypeId) (ho : o.op = .call { callee := .value (.func f), args := xs.toArray, argTypes := ts }) (hw : ∀ χ, Region.wanted o (yielded ops (A χ).tmps) = true) (hm : mD items k = false) {vs : List Value} [hE : ∀ χ, EvL (A χ) xs vs]
    (he : ∀ args w, (callFunc f args).run P w = .ok (.enter f args) w) (v : Value) (hv : ∀ L w, St w0 bs w (L ++ H) → Calls P f vs.toArray w (fun e w'' => e = .returned v ∧ St w0 bs w'' (L ++ H))) [hp : ∀ χ, Put (A χ) o.dst v (A' χ)]
    (h : wpFx P md ops (CD w0 bs items H) (mD items) EE (k + 1) M rest A') : wpFx P md ops (CD w0 bs items H) (mD items) EE k M (o :: rest) A := by
  refine .inl ⟨hw, fun _ => v, fun _ _ _ => rfl, ?_, ?_⟩
  · unfold Yy
    rw [if_neg (by rw [hm]; simp)]
    intro G χ w _ _ hC
    exact stepX_call ho (hE := hE χ) he ((hv _ w hC.2).mono fun e w'' ⟨h1, h2⟩ => ⟨v, h1, rfl, hC.1, h2⟩)
  · rw [if_neg (by rw [hm]; simp), show (fun χ => (A χ).put o.dst v) = A' from funext fun χ => (hp χ).h]
    exact h

/-- Item n behind all its stages, and the rest. -/
theorem CD.pick {G : Gs} {χ : Nat → Gx} {w : World} {n : Nat} {it : ItD} (h : CD w0 bs items H G χ w) (hit : items[n]? = some it) (hall : ∀ s ∈ it.st, G s.1 = true) :
    okDL χ it.x0 it.st ∧ ∃ L, St w0 bs w ((lastD χ it.x0 it.st).2 ++ (L ++ H)) ∧ ∀ w', St w0 bs w' ((lastD χ it.x0 it.st).2 ++ (L ++ H)) → CD w0 bs items H G χ w' := by
  have hmem : it ∈ items := List.mem_of_getElem? hit
  have hp := flatD_pick (H := H) hit (fun it => it.cur G χ)
  have hcur : it.cur G χ = (lastD χ it.x0 it.st).2 := by unfold ItD.cur; rw [curD_all _ _ hall]
  simp only [hcur] at hp
  refine ⟨by rw [← okD_all _ _ hall]; exact h.1 it hmem, _, h.2.perm hp, fun w' hS => ⟨h.1, hS.perm hp.symm⟩⟩

/-- A call that asks a new piece, and leaves it. -/
theorem dx_use (n : Nat) {it : ItD} (hit : items[n]? = some it) (hall : (it.st.all fun s => M.contains s.1 && anc md ops s.1 k) = true)
    (f : Nat) (xs : List Operand) (ts : Array TypeId) (ho : o.op = .call { callee := .value (.func f), args := xs.toArray, argTypes := ts }) (hw : ∀ χ, Region.wanted o (yielded ops (A χ).tmps) = true) (hm : mD items k = false) {vs : (Nat → Gx) → List Value} [hE : ∀ χ, EvL (A χ) xs (vs χ)]
    (he : ∀ args w, (callFunc f args).run P w = .ok (.enter f args) w) (v : Value)
    (hv : ∀ χ L w, okDL χ it.x0 it.st → St w0 bs w ((lastD χ it.x0 it.st).2 ++ (L ++ H)) → Calls P f (vs χ).toArray w (fun e w'' => e = .returned v ∧ St w0 bs w'' ((lastD χ it.x0 it.st).2 ++ (L ++ H)))) [hp : ∀ χ, Put (A χ) o.dst v (A' χ)]
    (h : wpFx P md ops (CD w0 bs items H) (mD items) EE (k + 1) M rest A') : wpFx P md ops (CD w0 bs items H) (mD items) EE k M (o :: rest) A := by
  refine .inl ⟨hw, fun _ => v, fun _ _ _ => rfl, ?_, ?_⟩
  · unfold Yy
    rw [if_neg (by rw [hm]; simp)]
    intro G χ w hT _ hC
    have hG : ∀ s ∈ it.st, G s.1 = true := fun s hs => by
      have := List.all_eq_true.1 hall s hs
      simp only [Bool.and_eq_true] at this
      exact hT s.1 (by simpa using this.1) this.2
    obtain ⟨hok, L, hS, hback⟩ := hC.pick hit hG
    exact stepX_call ho (hE := hE χ) he ((hv χ L w hok hS).mono fun e w'' ⟨h1, h2⟩ => ⟨v, h1, rfl, hback w'' h2⟩)
  · rw [if_neg (by rw [hm]; simp), show (fun χ => (A χ).put o.dst v) = A' from funext fun χ => (hp χ).h]
    exact h
/-- A plain operation on a new piece. -/
theorem dx_val1 (n : Nat) {it : ItD} (hit : items[n]? = some it) (hall : (it.st.all fun s => M.contains s.1 && anc md ops s.1 k) = true)
    (hw : ∀ χ, Region.wanted o (yielded ops (A χ).tmps) = true) (hm : mD items k = false)
    (hv : ∀ χ L w, okDL χ it.x0 it.st → St w0 bs w ((lastD χ it.x0 it.st).2 ++ (L ++ H)) → OpVal P o (A χ) w v) [hp : ∀ χ, Put (A χ) o.dst v (A' χ)]
    (h : wpFx P md ops (CD w0 bs items H) (mD items) EE (k + 1) M rest A') : wpFx P md ops (CD w0 bs items H) (mD items) EE k M (o :: rest) A := by
  refine .inl ⟨hw, fun _ => v, fun _ _ _ => rfl, ?_, ?_⟩
  · unfold Yy
    rw [if_neg (by rw [hm]; simp)]
    intro G χ w hT _ hC
    have hG : ∀ s ∈ it.st, G s.1 = true := fun s hs => by
      have := List.all_eq_true.1 hall s hs
      simp only [Bool.and_eq_true] at this
      exact hT s.1 (by simpa using this.1) this.2
    obtain ⟨hok, L, hS, hback⟩ := hC.pick hit hG
    unfold stepX
    rw [hv χ L w hok hS]
    exact ⟨rfl, hC⟩
  · rw [if_neg (by rw [hm]; simp), show (fun χ => (A χ).put o.dst v) = A' from funext fun χ => (hp χ).h]
    exact h

theorem CD.pick2 {G : Gs} {χ : Nat → Gx} {w : World} {n n' : Nat} {it it' : ItD} (h : CD w0 bs items H G χ w) (hit : items[n]? = some it) (hit' : items[n']? = some it') (hlt : n < n') (hall : ∀ s ∈ it.st, G s.1 = true) (hall' : ∀ s ∈ it'.st, G s.1 = true) :
    okDL χ it.x0 it.st ∧ okDL χ it'.x0 it'.st ∧ ∃ L, St w0 bs w ((lastD χ it.x0 it.st).2 ++ ((lastD χ it'.x0 it'.st).2 ++ (L ++ H))) ∧ ∀ w', St w0 bs w' ((lastD χ it.x0 it.st).2 ++ ((lastD χ it'.x0 it'.st).2 ++ (L ++ H))) → CD w0 bs items H G χ w' := by
  have hmem : it ∈ items := List.mem_of_getElem? hit
  have hmem' : it' ∈ items := List.mem_of_getElem? hit'
  have hp := flatD_pick (H := H) hit (fun it => it.cur G χ)
  have hcur : it.cur G χ = (lastD χ it.x0 it.st).2 := by unfold ItD.cur; rw [curD_all _ _ hall]
  have hcur' : it'.cur G χ = (lastD χ it'.x0 it'.st).2 := by unfold ItD.cur; rw [curD_all _ _ hall']
  have hit2 : (items.drop (n + 1))[n' - (n + 1)]? = some it' := by rw [List.getElem?_drop, show n + 1 + (n' - (n + 1)) = n' by omega]; exact hit'
  have hp2 := flatD_pick (H := H) hit2 (fun it => it.cur G χ)
  simp only [hcur] at hp
  simp only [hcur'] at hp2
  have hp3 : (items.flatMap (fun it => it.cur G χ) ++ H).Perm ((lastD χ it.x0 it.st).2 ++ ((lastD χ it'.x0 it'.st).2 ++ (((items.take n).flatMap (fun it => it.cur G χ) ++ ((List.take (n' - (n + 1)) (items.drop (n + 1))).flatMap (fun it => it.cur G χ) ++ (List.drop (n' - (n + 1) + 1) (items.drop (n + 1))).flatMap (fun it => it.cur G χ))) ++ H))) := by
    refine hp.trans (List.Perm.append_left _ ?_)
    rw [List.append_assoc]
    refine (List.Perm.append_left _ hp2).trans ?_
    generalize (items.take n).flatMap (fun it => it.cur G χ) = U
    generalize (lastD χ it'.x0 it'.st).2 = V
    simp only [List.append_assoc]
    rw [← List.append_assoc U, ← List.append_assoc V U]
    exact List.perm_append_comm.append_right _
  refine ⟨by rw [← okD_all _ _ hall]; exact h.1 it hmem, by rw [← okD_all _ _ hall']; exact h.1 it' hmem', _, h.2.perm hp3, fun w' hS => ⟨h.1, hS.perm hp3.symm⟩⟩
/-- A call that asks two new pieces, and leaves them. -/
theorem dx_use2 (n n' : Nat) (hlt : n < n') {it it' : ItD} (hit : items[n]? = some it) (hit' : items[n']? = some it') (hall : (it.st.all fun s => M.contains s.1 && anc md ops s.1 k) = true) (hall' : (it'.st.all fun s => M.contains s.1 && anc md ops s.1 k) = true)
    (f : Nat) (xs : List Operand) (ts : Array TypeId) (ho : o.op = .call { callee := .value (.func f), args := xs.toArray, argTypes := ts }) (hw : ∀ χ, Region.wanted o (yielded ops (A χ).tmps) = true) (hm : mD items k = false) {vs : (Nat → Gx) → List Value} [hE : ∀ χ, EvL (A χ) xs (vs χ)]
    (he : ∀ args w, (callFunc f args).run P w = .ok (.enter f args) w) (v : Value)
    (hv : ∀ χ L w, okDL χ it.x0 it.st → okDL χ it'.x0 it'.st → St w0 bs w ((lastD χ it.x0 it.st).2 ++ ((lastD χ it'.x0 it'.st).2 ++ (L ++ H))) → Calls P f (vs χ).toArray w (fun e w'' => e = .returned v ∧ St w0 bs w'' ((lastD χ it.x0 it.st).2 ++ ((lastD χ it'.x0 it'.st).2 ++ (L ++ H))))) [hp : ∀ χ, Put (A χ) o.dst v (A' χ)]
    (h : wpFx P md ops (CD w0 bs items H) (mD items) EE (k + 1) M rest A') : wpFx P md ops (CD w0 bs items H) (mD items) EE k M (o :: rest) A := by
  refine .inl ⟨hw, fun _ => v, fun _ _ _ => rfl, ?_, ?_⟩
  · unfold Yy
    rw [if_neg (by rw [hm]; simp)]
    intro G χ w hT _ hC
    have hG : ∀ s ∈ it.st, G s.1 = true := fun s hs => by
      have := List.all_eq_true.1 hall s hs
      simp only [Bool.and_eq_true] at this
      exact hT s.1 (by simpa using this.1) this.2
    have hG' : ∀ s ∈ it'.st, G s.1 = true := fun s hs => by
      have := List.all_eq_true.1 hall' s hs
      simp only [Bool.and_eq_true] at this
      exact hT s.1 (by simpa using this.1) this.2
    obtain ⟨hok, hok', L, hS, hback⟩ := hC.pick2 hit hit' hlt hG hG'
    exact stepX_call ho (hE := hE χ) he ((hv χ L w hok hok' hS).mono fun e w'' ⟨h1, h2⟩ => ⟨v, h1, rfl, hback w'' h2⟩)
  · rw [if_neg (by rw [hm]; simp), show (fun χ => (A χ).put o.dst v) = A' from funext fun χ => (hp χ).h]
    exact h

/-- Stages of another piece, where an operation stands: the first s are behind it, the others ahead. -/
def atB (md : Region.Mode) (ops : Array Oper) (M : List Nat) (k : Nat) (it : ItD) (s : Nat) : Bool := ((it.st.take s).all fun q => M.contains q.1 && anc md ops q.1 k) && ((it.st.drop s).all fun q => anc md ops k q.1)
theorem CD.at {G : Gs} {χ : Nat → Gx} {w : World} {n s : Nat} {it : ItD} (h : CD w0 bs items H G χ w) (hit : items[n]? = some it) (hb : atB md ops M k it s = true) (hT : ∀ q ∈ M, anc md ops q k = true → G q = true) (hF : ∀ j, anc md ops k j = true → G j = false) :
    okDL χ it.x0 (it.st.take s) ∧ it.cur G χ = (lastD χ it.x0 (it.st.take s)).2 := by
  simp only [atB, Bool.and_eq_true, List.all_eq_true] at hb
  obtain ⟨h1, h2⟩ := hb
  have g1 : ∀ q ∈ it.st.take s, G q.1 = true := fun q hq => hT q.1 (by simpa using (h1 q hq).1) (h1 q hq).2
  have g2 : ∀ q ∈ it.st.drop s, G q.1 = false := fun q hq => hF q.1 (h2 q hq)
  have hsp : it.st = it.st.take s ++ it.st.drop s := (List.take_append_drop s it.st).symm
  have ho := h.1 it (List.mem_of_getElem? hit)
  rw [hsp] at ho
  refine ⟨okD_before _ _ _ g1 ho, ?_⟩
  unfold ItD.cur
  rw [hsp, curD_stop _ _ _ g1 g2, ← hsp]
/-- A plain operation that reads a piece at one of its stages. -/
theorem dx_valS (n s : Nat) {it : ItD} (hit : items[n]? = some it) (hb : atB md ops M k it s = true)
    (hw : ∀ χ, Region.wanted o (yielded ops (A χ).tmps) = true) (hm : mD items k = false) (v : (Nat → Gx) → Value) (hs : Supp md ops k v)
    (hv : ∀ χ L w, okDL χ it.x0 (it.st.take s) → St w0 bs w ((lastD χ it.x0 (it.st.take s)).2 ++ (L ++ H)) → OpVal P o (A χ) w (v χ)) [hp : ∀ χ, Put (A χ) o.dst (v χ) (A' χ)]
    (h : wpFx P md ops (CD w0 bs items H) (mD items) EE (k + 1) M rest A') : wpFx P md ops (CD w0 bs items H) (mD items) EE k M (o :: rest) A := by
  refine .inl ⟨hw, v, hs, ?_, ?_⟩
  · unfold Yy
    rw [if_neg (by rw [hm]; simp)]
    intro G χ w hT hF hC
    obtain ⟨hok, hcur⟩ := hC.at hit hb hT hF
    have hp1 := flatD_pick (H := H) hit (fun it => it.cur G χ)
    simp only [hcur] at hp1
    unfold stepX
    rw [hv χ _ w hok (hC.2.perm hp1)]
    exact ⟨rfl, hC⟩
  · rw [if_neg (by rw [hm]; simp), show (fun χ => (A χ).put o.dst (v χ)) = A' from funext fun χ => (hp χ).h]
    exact h
/-- An operation that turns piece n, at its stage s. -/
theorem dx_turn0 (n s : Nat) {it : ItD} {S : List Nat} {p : List Gx → Gx → Gx → Prop} (hit : items[n]? = some it) (hst : it.st[s]? = some (k, S, p)) (hnd : ndB (keysD items) = true) (hdep : depB md ops items = true)
    (hpre : ((it.st.take s).all fun q => M.contains q.1 && anc md ops q.1 k) = true) (hpost : ((it.st.drop (s + 1)).all fun q => anc md ops k q.1) = true)
    (hw : ∀ χ, Region.wanted o (yielded ops (A χ).tmps) = true) (v : Gx → Value)
    (hv : ∀ χ L w, okDL χ it.x0 (it.st.take s) → St w0 bs w ((lastD χ it.x0 (it.st.take s)).2 ++ (L ++ H)) → stepX P o (A χ) w (fun u w'' => ∃ x, u = v x ∧ p (S.map χ) (lastD χ it.x0 (it.st.take s)) x ∧ St w0 bs w'' (x.2 ++ (L ++ H)))) [hp : ∀ χ, Put (A χ) o.dst (v (χ k)) (A' χ)]
    (h : wpFx P md ops (CD w0 bs items H) (mD items) EE (k + 1) (k :: M) rest A') : wpFx P md ops (CD w0 bs items H) (mD items) EE k M (o :: rest) A := by
  have hmem : it ∈ items := List.mem_of_getElem? hit
  have hsplit : it.st = it.st.take s ++ (k, S, p) :: it.st.drop (s + 1) := split_at hst
  have hm : mD items k = true := by
    unfold mD
    rw [List.any_eq_true]
    refine ⟨it, hmem, ?_⟩
    rw [List.any_eq_true]
    exact ⟨(k, S, p), by rw [hsplit]; simp, by simp⟩
  have hdp : ∀ it' ∈ items, ∀ q ∈ it'.st, ∀ j ∈ q.2.1, anc md ops j q.1 = true ∧ j ≠ q.1 := by
    intro it' hi q hq j hj
    have := List.all_eq_true.1 (List.all_eq_true.1 (List.all_eq_true.1 hdep it' hi) q hq) j hj
    simpa using this
  -- the keys
  have hkeys := nd_of hnd
  have eitems : items = items.take n ++ it :: items.drop (n + 1) := split_at hit
  have ekeys : keysD items = keysD (items.take n) ++ ((it.st.take s).map (·.1) ++ k :: (it.st.drop (s + 1)).map (·.1)) ++ keysD (items.drop (n + 1)) := by
    have e1 : it.st.map (·.1) = (it.st.take s).map (·.1) ++ k :: (it.st.drop (s + 1)).map (·.1) := by
      have := congrArg (List.map (·.1)) hsplit
      rw [List.map_append, List.map_cons] at this
      exact this
    rw [← e1]
    unfold keysD
    rw [List.append_assoc, ← List.flatMap_cons (f := fun it : ItD => it.st.map (·.1)), ← List.flatMap_append, ← eitems]
  rw [ekeys] at hkeys
  rw [List.nodup_append, List.nodup_append, List.nodup_append, List.nodup_cons] at hkeys
  obtain ⟨⟨_, ⟨_, ⟨k1, _⟩, k2⟩, k3⟩, _, k4⟩ := hkeys
  have ka : ∀ q ∈ it.st.take s, q.1 ≠ k := fun q hq => k2 q.1 (List.mem_map_of_mem hq) k (by simp)
  have kb : ∀ q ∈ it.st.drop (s + 1), q.1 ≠ k := fun q hq e => k1 (by rw [← e]; exact List.mem_map_of_mem hq)
  have kc : ∀ it' ∈ items.take n ++ items.drop (n + 1), ∀ q ∈ it'.st, q.1 ≠ k := by
    intro it' hi q hq
    rcases List.mem_append.1 hi with hi | hi
    · exact k3 q.1 (List.mem_flatMap.2 ⟨it', hi, List.mem_map_of_mem hq⟩) k (by simp)
    · exact fun e => k4 k (by simp) q.1 (List.mem_flatMap.2 ⟨it', hi, List.mem_map_of_mem hq⟩) e.symm
  refine .inl ⟨hw, fun χ => v (χ k), supp_of (by simp) v, ?_, ?_⟩
  · unfold Yy
    rw [if_pos hm]
    intro G χ w hk hT hF hC
    have g1 : ∀ q ∈ it.st.take s, G q.1 = true := fun q hq => by
      have := List.all_eq_true.1 hpre q hq
      simp only [Bool.and_eq_true] at this
      exact hT q.1 (by simpa using this.1) this.2
    have g2 : ∀ q ∈ it.st.drop (s + 1), G q.1 = false := fun q hq => hF q.1 (List.all_eq_true.1 hpost q hq)
    have gd : ∀ it' ∈ items, ∀ q ∈ it'.st, G q.1 = true → k ∉ q.2.1 := fun it' hi q hq hg hj => by
      have := hF q.1 (hdp it' hi q hq k hj).1
      rw [hg] at this; cases this
    have hp1 := flatD_pick (H := H) hit (fun it => it.cur G χ)
    have hcur : it.cur G χ = (lastD χ it.x0 (it.st.take s)).2 := by
      unfold ItD.cur
      rw [hsplit, curD_before _ _ _ _ g1 hk]
      congr 2
      rw [← hsplit]
    simp only [hcur] at hp1
    have hokb : okDL χ it.x0 (it.st.take s) := by
      have := hC.1 it hmem
      rw [hsplit] at this
      exact okD_before _ _ _ g1 this
    have h1 := hv χ _ w hokb (hC.2.perm hp1)
    have fin : ∀ (u : Value) (w'' : World), (∃ x, u = v x ∧ p (S.map χ) (lastD χ it.x0 (it.st.take s)) x ∧ St w0 bs w'' (x.2 ++ (((items.take n).flatMap (fun it => it.cur G χ) ++ (items.drop (n + 1)).flatMap (fun it => it.cur G χ)) ++ H))) →
        ∃ x, u = v (up χ k x k) ∧ CD w0 bs items H (up G k true) (up χ k x) w'' := by
      rintro u w'' ⟨x, hu, hpx, hS⟩
      have hcurx : it.cur (up G k true) (up χ k x) = x.2 := by
        unfold ItD.cur
        rw [hsplit, curD_after _ _ _ _ (fun q hq => ⟨g1 q hq, ka q hq⟩) (fun q hq => ⟨g2 q hq, kb q hq⟩)]
      have hoth : ∀ l : List ItD, (∀ it' ∈ l, ∀ q ∈ it'.st, q.1 ≠ k) → l.flatMap (fun it => it.cur (up G k true) (up χ k x)) = l.flatMap (fun it => it.cur G χ) := by
        intro l hl
        induction l with
        | nil => rfl
        | cons a l ih =>
          rw [List.flatMap_cons, List.flatMap_cons, ih (fun it' hi => hl it' (by simp [hi]))]
          congr 1
          unfold ItD.cur
          rw [curD_other _ _ _ (hl a (by simp))]
      have hq1 := flatD_pick (H := H) hit (fun it => it.cur (up G k true) (up χ k x))
      simp only [hcurx] at hq1
      rw [hoth _ (fun it' hi => kc it' (List.mem_append_left _ hi)), hoth _ (fun it' hi => kc it' (List.mem_append_right _ hi))] at hq1
      refine ⟨x, by rw [up_same]; exact hu, fun it' hi => ?_, hS.perm hq1.symm⟩
      have hgd := gd it' hi
      have hi0 := hi
      rw [eitems] at hi
      rcases List.mem_append.1 hi with hi | hi
      · rw [okD_other _ _ _ (kc it' (List.mem_append_left _ hi)) hgd]
        exact hC.1 it' hi0
      · rcases List.mem_cons.1 hi with rfl | hi
        · rw [hsplit]
          have hself : ∀ q ∈ it'.st, q.1 = k → k ∉ q.2.1 := fun q hq e hj => (hdp it' hi0 q hq k hj).2 e.symm
          exact okD_after _ _ _ _ _ (fun q hq => ⟨g1 q hq, ka q hq⟩) (fun q hq => ⟨g2 q hq, kb q hq⟩) (fun q hq => hgd q (List.mem_of_mem_take hq) (g1 q hq)) (hself (k, S, p) (by rw [hsplit]; simp) rfl) hokb hpx
        · rw [okD_other _ _ _ (kc it' (List.mem_append_right _ hi)) hgd]
          exact hC.1 it' hi0
    unfold stepX at h1 ⊢
    revert h1
    generalize (execOp (A χ).eval o).run P w = r
    intro h1
    cases r with
    | ok nx w' =>
      cases nx <;> simp only [] at h1 ⊢
      case value u => exact fin _ _ h1
      case skip => exact fin _ _ h1
      case enter f args => exact h1.mono fun e w'' ⟨u, h2, h3⟩ => ⟨u, h2, fin _ _ h3⟩
    | halt e w' => simp only [] at h1
  · rw [if_pos hm, show (fun χ => (A χ).put o.dst (v (χ k))) = A' from funext fun χ => (hp χ).h]
    exact h
/-- An operation that turns piece n, at its stage s, and sees another piece m of the rest at its stage s2. -/
theorem dx_turnW (n s m s2 : Nat) {it it2 : ItD} {S : List Nat} {p : List Gx → Gx → Gx → Prop} (hit : items[n]? = some it) (hit2 : (items.take n ++ items.drop (n + 1))[m]? = some it2) (hst : it.st[s]? = some (k, S, p)) (hnd : ndB (keysD items) = true) (hdep : depB md ops items = true)
    (hpre : ((it.st.take s).all fun q => M.contains q.1 && anc md ops q.1 k) = true) (hpre2 : atB md ops M k it2 s2 = true) (hpost : ((it.st.drop (s + 1)).all fun q => anc md ops k q.1) = true)
    (hw : ∀ χ, Region.wanted o (yielded ops (A χ).tmps) = true) (v : Gx → Value)
    (hv : ∀ χ L w, okDL χ it.x0 (it.st.take s) → okDL χ it2.x0 (it2.st.take s2) → St w0 bs w ((lastD χ it.x0 (it.st.take s)).2 ++ ((lastD χ it2.x0 (it2.st.take s2)).2 ++ (L ++ H))) → stepX P o (A χ) w (fun u w'' => ∃ x, u = v x ∧ p (S.map χ) (lastD χ it.x0 (it.st.take s)) x ∧ St w0 bs w'' (x.2 ++ ((lastD χ it2.x0 (it2.st.take s2)).2 ++ (L ++ H))))) [hp : ∀ χ, Put (A χ) o.dst (v (χ k)) (A' χ)]
    (h : wpFx P md ops (CD w0 bs items H) (mD items) EE (k + 1) (k :: M) rest A') : wpFx P md ops (CD w0 bs items H) (mD items) EE k M (o :: rest) A := by
  have hmem : it ∈ items := List.mem_of_getElem? hit
  have hsplit : it.st = it.st.take s ++ (k, S, p) :: it.st.drop (s + 1) := split_at hst
  have hm : mD items k = true := by
    unfold mD
    rw [List.any_eq_true]
    refine ⟨it, hmem, ?_⟩
    rw [List.any_eq_true]
    exact ⟨(k, S, p), by rw [hsplit]; simp, by simp⟩
  have hdp : ∀ it' ∈ items, ∀ q ∈ it'.st, ∀ j ∈ q.2.1, anc md ops j q.1 = true ∧ j ≠ q.1 := by
    intro it' hi q hq j hj
    have := List.all_eq_true.1 (List.all_eq_true.1 (List.all_eq_true.1 hdep it' hi) q hq) j hj
    simpa using this
  -- the keys
  have hkeys := nd_of hnd
  have eitems : items = items.take n ++ it :: items.drop (n + 1) := split_at hit
  have ekeys : keysD items = keysD (items.take n) ++ ((it.st.take s).map (·.1) ++ k :: (it.st.drop (s + 1)).map (·.1)) ++ keysD (items.drop (n + 1)) := by
    have e1 : it.st.map (·.1) = (it.st.take s).map (·.1) ++ k :: (it.st.drop (s + 1)).map (·.1) := by
      have := congrArg (List.map (·.1)) hsplit
      rw [List.map_append, List.map_cons] at this
      exact this
    rw [← e1]
    unfold keysD
    rw [List.append_assoc, ← List.flatMap_cons (f := fun it : ItD => it.st.map (·.1)), ← List.flatMap_append, ← eitems]
  rw [ekeys] at hkeys
  rw [List.nodup_append, List.nodup_append, List.nodup_append, List.nodup_cons] at hkeys
  obtain ⟨⟨_, ⟨_, ⟨k1, _⟩, k2⟩, k3⟩, _, k4⟩ := hkeys
  have ka : ∀ q ∈ it.st.take s, q.1 ≠ k := fun q hq => k2 q.1 (List.mem_map_of_mem hq) k (by simp)
  have kb : ∀ q ∈ it.st.drop (s + 1), q.1 ≠ k := fun q hq e => k1 (by rw [← e]; exact List.mem_map_of_mem hq)
  have kc : ∀ it' ∈ items.take n ++ items.drop (n + 1), ∀ q ∈ it'.st, q.1 ≠ k := by
    intro it' hi q hq
    rcases List.mem_append.1 hi with hi | hi
    · exact k3 q.1 (List.mem_flatMap.2 ⟨it', hi, List.mem_map_of_mem hq⟩) k (by simp)
    · exact fun e => k4 k (by simp) q.1 (List.mem_flatMap.2 ⟨it', hi, List.mem_map_of_mem hq⟩) e.symm
  refine .inl ⟨hw, fun χ => v (χ k), supp_of (by simp) v, ?_, ?_⟩
  · unfold Yy
    rw [if_pos hm]
    intro G χ w hk hT hF hC
    have g1 : ∀ q ∈ it.st.take s, G q.1 = true := fun q hq => by
      have := List.all_eq_true.1 hpre q hq
      simp only [Bool.and_eq_true] at this
      exact hT q.1 (by simpa using this.1) this.2
    have g2 : ∀ q ∈ it.st.drop (s + 1), G q.1 = false := fun q hq => hF q.1 (List.all_eq_true.1 hpost q hq)
    have gd : ∀ it' ∈ items, ∀ q ∈ it'.st, G q.1 = true → k ∉ q.2.1 := fun it' hi q hq hg hj => by
      have := hF q.1 (hdp it' hi q hq k hj).1
      rw [hg] at this; cases this
    have hp1 := flatD_pick (H := H) hit (fun it => it.cur G χ)
    have hcur : it.cur G χ = (lastD χ it.x0 (it.st.take s)).2 := by
      unfold ItD.cur
      rw [hsplit, curD_before _ _ _ _ g1 hk]
      congr 2
      rw [← hsplit]
    have hmem2 : it2 ∈ items := by
      have := List.mem_of_getElem? hit2
      rw [eitems]
      rcases List.mem_append.1 this with h | h
      · exact List.mem_append_left _ h
      · exact List.mem_append_right _ (List.mem_cons_of_mem _ h)
    obtain ⟨n2, hn2⟩ := List.getElem?_of_mem hmem2
    obtain ⟨hok2, hcur2⟩ := hC.at hn2 hpre2 hT hF
    have hp2 := flatD_pick (H := H) hit2 (fun it => it.cur G χ)
    rw [List.flatMap_append] at hp2
    have hp3 := hp1.trans (List.Perm.append_left (it.cur G χ) hp2)
    simp only [hcur, hcur2] at hp3
    have hokb : okDL χ it.x0 (it.st.take s) := by
      have := hC.1 it hmem
      rw [hsplit] at this
      exact okD_before _ _ _ g1 this
    have h1 := hv χ _ w hokb hok2 (hC.2.perm hp3)
    have fin : ∀ (u : Value) (w'' : World), (∃ x, u = v x ∧ p (S.map χ) (lastD χ it.x0 (it.st.take s)) x ∧ St w0 bs w'' (x.2 ++ ((lastD χ it2.x0 (it2.st.take s2)).2 ++ (((List.take m (items.take n ++ items.drop (n + 1))).flatMap (fun it => it.cur G χ) ++ (List.drop (m + 1) (items.take n ++ items.drop (n + 1))).flatMap (fun it => it.cur G χ)) ++ H)))) →
        ∃ x, u = v (up χ k x k) ∧ CD w0 bs items H (up G k true) (up χ k x) w'' := by
      rintro u w'' ⟨x, hu, hpx, hS⟩
      have hcurx : it.cur (up G k true) (up χ k x) = x.2 := by
        unfold ItD.cur
        rw [hsplit, curD_after _ _ _ _ (fun q hq => ⟨g1 q hq, ka q hq⟩) (fun q hq => ⟨g2 q hq, kb q hq⟩)]
      have hoth : ∀ l : List ItD, (∀ it' ∈ l, ∀ q ∈ it'.st, q.1 ≠ k) → l.flatMap (fun it => it.cur (up G k true) (up χ k x)) = l.flatMap (fun it => it.cur G χ) := by
        intro l hl
        induction l with
        | nil => rfl
        | cons a l ih =>
          rw [List.flatMap_cons, List.flatMap_cons, ih (fun it' hi => hl it' (by simp [hi]))]
          congr 1
          unfold ItD.cur
          rw [curD_other _ _ _ (hl a (by simp))]
      have hq1 := flatD_pick (H := H) hit (fun it => it.cur (up G k true) (up χ k x))
      simp only [hcurx] at hq1
      rw [hoth _ (fun it' hi => kc it' (List.mem_append_left _ hi)), hoth _ (fun it' hi => kc it' (List.mem_append_right _ hi))] at hq1
      have hq2 := hq1.trans (List.Perm.append_left x.2 hp2)
      simp only [hcur2] at hq2
      refine ⟨x, by rw [up_same]; exact hu, fun it' hi => ?_, hS.perm hq2.symm⟩
      have hgd := gd it' hi
      have hi0 := hi
      rw [eitems] at hi
      rcases List.mem_append.1 hi with hi | hi
      · rw [okD_other _ _ _ (kc it' (List.mem_append_left _ hi)) hgd]
        exact hC.1 it' hi0
      · rcases List.mem_cons.1 hi with rfl | hi
        · rw [hsplit]
          have hself : ∀ q ∈ it'.st, q.1 = k → k ∉ q.2.1 := fun q hq e hj => (hdp it' hi0 q hq k hj).2 e.symm
          exact okD_after _ _ _ _ _ (fun q hq => ⟨g1 q hq, ka q hq⟩) (fun q hq => ⟨g2 q hq, kb q hq⟩) (fun q hq => hgd q (List.mem_of_mem_take hq) (g1 q hq)) (hself (k, S, p) (by rw [hsplit]; simp) rfl) hokb hpx
        · rw [okD_other _ _ _ (kc it' (List.mem_append_right _ hi)) hgd]
          exact hC.1 it' hi0
    unfold stepX at h1 ⊢
    revert h1
    generalize (execOp (A χ).eval o).run P w = r
    intro h1
    cases r with
    | ok nx w' =>
      cases nx <;> simp only [] at h1 ⊢
      case value u => exact fin _ _ h1
      case skip => exact fin _ _ h1
      case enter f args => exact h1.mono fun e w'' ⟨u, h2, h3⟩ => ⟨u, h2, fin _ _ h3⟩
    | halt e w' => simp only [] at h1
  · rw [if_pos hm, show (fun χ => (A χ).put o.dst (v (χ k))) = A' from funext fun χ => (hp χ).h]
    exact h
/-- A call that turns piece n. -/
theorem dx_turn (n s : Nat) {it : ItD} {S : List Nat} {p : List Gx → Gx → Gx → Prop} (hit : items[n]? = some it) (hst : it.st[s]? = some (k, S, p)) (hnd : ndB (keysD items) = true) (hdep : depB md ops items = true)
    (hpre : ((it.st.take s).all fun q => M.contains q.1 && anc md ops q.1 k) = true) (hpost : ((it.st.drop (s + 1)).all fun q => anc md ops k q.1) = true)
    (f : Nat) (xs : List Operand) (ts : Array TypeId) (ho : o.op = .call { callee := .value (.func f), args := xs.toArray, argTypes := ts }) (hw : ∀ χ, Region.wanted o (yielded ops (A χ).tmps) = true) {vs : (Nat → Gx) → List Value} [hE : ∀ χ, EvL (A χ) xs (vs χ)]
    (he : ∀ args w, (callFunc f args).run P w = .ok (.enter f args) w) (v : Gx → Value)
    (hv : ∀ χ L w, okDL χ it.x0 (it.st.take s) → St w0 bs w ((lastD χ it.x0 (it.st.take s)).2 ++ (L ++ H)) → Calls P f (vs χ).toArray w (fun e w'' => ∃ x, e = .returned (v x) ∧ p (S.map χ) (lastD χ it.x0 (it.st.take s)) x ∧ St w0 bs w'' (x.2 ++ (L ++ H)))) [hp : ∀ χ, Put (A χ) o.dst (v (χ k)) (A' χ)]
    (h : wpFx P md ops (CD w0 bs items H) (mD items) EE (k + 1) (k :: M) rest A') : wpFx P md ops (CD w0 bs items H) (mD items) EE k M (o :: rest) A :=
  dx_turn0 n s hit hst hnd hdep hpre hpost hw v (fun χ L w hok hS => stepX_call ho (hE := hE χ) he ((hv χ L w hok hS).mono fun e w'' ⟨x, h1, h2, h3⟩ => ⟨v x, h1, x, rfl, h2, h3⟩)) h
/-- A call that turns piece n and sees another one. -/
theorem dx_turnWc (n s m s2 : Nat) {it it2 : ItD} {S : List Nat} {p : List Gx → Gx → Gx → Prop} (hit : items[n]? = some it) (hit2 : (items.take n ++ items.drop (n + 1))[m]? = some it2) (hst : it.st[s]? = some (k, S, p)) (hnd : ndB (keysD items) = true) (hdep : depB md ops items = true)
    (hpre : ((it.st.take s).all fun q => M.contains q.1 && anc md ops q.1 k) = true) (hpre2 : atB md ops M k it2 s2 = true) (hpost : ((it.st.drop (s + 1)).all fun q => anc md ops k q.1) = true)
    (f : Nat) (xs : List Operand) (ts : Array TypeId) (ho : o.op = .call { callee := .value (.func f), args := xs.toArray, argTypes := ts }) (hw : ∀ χ, Region.wanted o (yielded ops (A χ).tmps) = true) {vs : (Nat → Gx) → List Value} [hE : ∀ χ, EvL (A χ) xs (vs χ)]
    (he : ∀ args w, (callFunc f args).run P w = .ok (.enter f args) w) (v : Gx → Value)
    (hv : ∀ χ L w, okDL χ it.x0 (it.st.take s) → okDL χ it2.x0 (it2.st.take s2) → St w0 bs w ((lastD χ it.x0 (it.st.take s)).2 ++ ((lastD χ it2.x0 (it2.st.take s2)).2 ++ (L ++ H))) → Calls P f (vs χ).toArray w (fun e w'' => ∃ x, e = .returned (v x) ∧ p (S.map χ) (lastD χ it.x0 (it.st.take s)) x ∧ St w0 bs w'' (x.2 ++ ((lastD χ it2.x0 (it2.st.take s2)).2 ++ (L ++ H))))) [hp : ∀ χ, Put (A χ) o.dst (v (χ k)) (A' χ)]
    (h : wpFx P md ops (CD w0 bs items H) (mD items) EE (k + 1) (k :: M) rest A') : wpFx P md ops (CD w0 bs items H) (mD items) EE k M (o :: rest) A :=
  dx_turnW n s m s2 hit hit2 hst hnd hdep hpre hpre2 hpost hw v (fun χ L w hok hok2 hS => stepX_call ho (hE := hE χ) he ((hv χ L w hok hok2 hS).mono fun e w'' ⟨x, h1, h2, h3⟩ => ⟨v x, h1, x, rfl, h2, h3⟩)) h

theorem region_deps {id : Nat} {l : List Oper} {Q : Exit → Act → World → Prop} {a : Act} {w : World} (items : List ItD) (H : List Ent) (hS : St w0 bs w (items.flatMap (fun it => it.x0.2) ++ H)) (hm : P.follows .mixedOrders = true) (hB : Region.lexB .any l.toArray = true)
    (h : wpFx P .any l.toArray (CD w0 bs items H) (mD items) (fun M A => ∀ χ G w', (∀ s ∈ M, G s = true) → CD w0 bs items H G χ w' → Q .normal (A χ) w') 0 [] l (fun _ => a)) : (Code.region id l.toArray true).wp P Q a w := by
  refine region_free (X := Gx) (CD w0 bs items H) (mD items) hm hB ⟨fun it _ => ?_, ?_⟩ h
  · cases hst : it.st with
    | nil => trivial
    | cons s l => obtain ⟨j, S, q⟩ := s; unfold okD; simp
  · have e : ∀ it : ItD, it.cur (fun _ => false) (fun _ => default) = it.x0.2 := fun it => by
      unfold ItD.cur
      cases hst : it.st with
      | nil => rfl
      | cons s l => obtain ⟨j, S, q⟩ := s; unfold curD; simp
    rw [show (fun it : ItD => it.cur (fun _ => false) (fun _ => default)) = (fun it => it.x0.2) from funext e]
    exact hS.drawn _
theorem region_depsE {id : Nat} {l : List Oper} {Q : Exit → Act → World → Prop} {a : Act} {w : World} (items : List ItD) (H H0 : List Ent) (hF : items.flatMap (fun it => it.x0.2) ++ H = H0) (hS : St w0 bs w H0) (hm : P.follows .mixedOrders = true) (hB : Region.lexB .any l.toArray = true)
    (h : wpFx P .any l.toArray (CD w0 bs items H) (mD items) (fun M A => ∀ χ G w', (∀ s ∈ M, G s = true) → CD w0 bs items H G χ w' → Q .normal (A χ) w') 0 [] l (fun _ => a)) : (Code.region id l.toArray true).wp P Q a w := by
  subst hF
  exact region_deps items H hS hm hB h
/-- All pieces are new. -/
theorem region_depnew {id : Nat} {l : List Oper} {Q : Exit → Act → World → Prop} {a : Act} {w : World} (items : List ItD) (h0 : items.all (fun it => it.x0.2.isEmpty) = true) {H0 : List Ent} (hS : St w0 bs w H0) (H : List Ent) (hm : P.follows .mixedOrders = true) (hB : Region.lexB .any l.toArray = true) [hpk : Pick H H0]
    (h : wpFx P .any l.toArray (CD w0 bs items H) (mD items) (fun M A => ∀ χ G w', (∀ s ∈ M, G s = true) → CD w0 bs items H G χ w' → Q .normal (A χ) w') 0 [] l (fun _ => a)) : (Code.region id l.toArray true).wp P Q a w := by
  refine region_deps items H ?_ hm hB h
  have : items.flatMap (fun it => it.x0.2) = [] := by
    rw [List.flatMap_eq_nil_iff]
    intro it hi
    have := List.all_eq_true.1 h0 it hi
    simpa using this
  rw [this]
  exact hS.pick
/-- The end. -/
theorem dx_end {Q : Exit → Act → World → Prop} (hall : (items.all fun it => it.st.all fun s => M.contains s.1) = true)
    (h : ∀ χ w', (∀ it ∈ items, okDL χ it.x0 it.st) → St w0 bs w' (items.flatMap (fun it => (lastD χ it.x0 it.st).2) ++ H) → Q .normal (A χ) w') :
    wpFx P md ops (CD w0 bs items H) (mD items) (fun M A => ∀ χ G w', (∀ s ∈ M, G s = true) → CD w0 bs items H G χ w' → Q .normal (A χ) w') k M [] A := by
  intro χ G w' hM hC
  have hG : ∀ it ∈ items, ∀ s ∈ it.st, G s.1 = true := fun it hi s hs => by
    have := List.all_eq_true.1 (List.all_eq_true.1 hall it hi) s hs
    exact hM s.1 (by simpa using this)
  refine h χ w' (fun it hi => by rw [← okD_all _ _ (hG it hi)]; exact hC.1 it hi) ?_
  have e : ∀ l : List ItD, (∀ it ∈ l, it ∈ items) → l.flatMap (fun it => it.cur G χ) = l.flatMap (fun it => (lastD χ it.x0 it.st).2) := by
    intro l hl
    induction l with
    | nil => rfl
    | cons a l ih =>
      rw [List.flatMap_cons, List.flatMap_cons, ih (fun it hi => hl it (by simp [hi]))]
      congr 1
      unfold ItD.cur
      rw [curD_all _ _ (hG a (hl a (by simp)))]
  rw [← e items (fun _ h => h)]
  exact hC.2
end
section
variable {P : Program} {o : Oper} {a : Act} {w w0 : World} {bs : List Nat} {H : List Ent} {Φ : Value → World → Prop} {v : Value}
/-- A store of one cell. -/
theorem stepX_st (t : TypeId) (x y : Operand) (ho : o.op = .store t x y) (hS : St w0 bs w H) {b off : Nat} [hx : Ev a x (.pointer (some ⟨b, off, none⟩))] [hy : Ev a y v] [hsc : ScalarT P t] [h1c : OneCell v]
    {cs cs' : Array Value} {T : TypeId} {H' : List Ent} [hH : Has H b cs T] [hs : SetAt cs off v cs'] [hu : Upd H b cs' T H'] (h : ∀ w', St w0 bs w' H' → Φ undef w') : stepX P o a w Φ := by
  have hb := hS.has hH
  have h1 := cell_of_has (w := w) (off := off) hb
  rw [Array.getElem?_eq_getElem hs.lt] at h1
  have h2 := frozen_of_has (w := w) (off := off) hb
  have hS' : St w0 bs (w.setCell ⟨b, off, none⟩ v) H' := hS.upd (Chg.setCell w ⟨b, off, none⟩ v) (by rw [setCell_heap_same hb, hs.h])
  have hr : (store ⟨b, off, none⟩ v).run P w = .ok () (w.setCell ⟨b, off, none⟩ v) := by
    rw [run_store _ _ _ _ _ h1c.h, h1]; simp [h2]
  have hr2 : (execOp a.eval o).run P w = .ok .skip (w.setCell ⟨b, off, none⟩ v) := by
    simp only [execOp, ho, hx.h, hy.h, Instr.storeAt, Instr.sureAddr, storeVar, Sem.run_bind, Sem.run_pure, Result.andThen_ok, run_sizeOf' hsc.s, h1c.cells, List.size_toArray, List.length_cons, List.length_nil,
      ne_eq, not_true_eq_false, if_false, Nat.zero_add, storeCells, Addr.add, if_true, hr]
  unfold stepX
  rw [hr2]
  exact h _ hS'
theorem stepX_to {a : Act} {w : World} {Φ : Value → World → Prop} (n : Nat) (hd : o.dst = some n) (hn : n < a.tmps.size) (h : Stp P o a w (fun a' w' => ∃ v, a' = a.put o.dst v ∧ Φ v w')) : stepX P o a w Φ := by
  have inj : ∀ u v : Value, a.put o.dst u = a.put o.dst v → u = v := fun u v huv => by
    rw [hd] at huv
    have := congrArg (fun x : Act => x.tmps[n]?) huv
    simpa [Act.put, hn] using this
  obtain ⟨r, w', hr, h⟩ := h
  unfold stepX
  rw [hr]
  rcases h with ⟨v', rfl, v, hv, hΦ⟩ | ⟨rfl, v, hv, hΦ⟩
  · rw [inj _ _ hv]; exact hΦ
  · rw [← inj _ _ hv] at hΦ; exact hΦ
end
end Go.Mm

/-
  Regions that draw their order, over any predicate of what has been done: steps with ghosts.
-/
namespace Go.Mm
open Go Go.RowKit
section
variable {P : Program} {ops : Array Oper} {md : Region.Mode} {X : Type} {C : Gs → (Nat → X) → World → Prop} {m : Nat → Bool}
variable {EE : List Nat → ((Nat → X) → Act) → Prop} {k : Nat} {M : List Nat} {o : Oper} {rest : List Oper} {A A' : (Nat → X) → Act}
theorem gx_supp {j : Nat} (hj : (j == k || anc md ops j k) = true) (f : X → Value) : Supp md ops k (fun χ : Nat → X => f (χ j)) := by
  intro χ χ' h
  simp only
  rw [h j (by simpa using hj)]
theorem gx_skip (hw : ∀ χ, Region.wanted o (yielded ops (A χ).tmps) = false) [hp : ∀ χ, Put (A χ) o.dst undef (A' χ)] (h : wpFx P md ops C m EE (k + 1) M rest A') : wpFx P md ops C m EE k M (o :: rest) A := by
  refine .inr ⟨hw, ?_⟩
  rw [show (fun χ => (A χ).put o.dst undef) = A' from funext fun χ => (hp χ).h]
  exact h
/-- A plain operation, its value known ahead. -/
theorem gx_val (hw : ∀ χ, Region.wanted o (yielded ops (A χ).tmps) = true) (hm : m k = false) {v : Value} (hv : ∀ G χ w, (∀ s ∈ M, anc md ops s k = true → G s = true) → C G χ w → OpVal P o (A χ) w v) [hp : ∀ χ, Put (A χ) o.dst v (A' χ)]
    (h : wpFx P md ops C m EE (k + 1) M rest A') : wpFx P md ops C m EE k M (o :: rest) A := by
  refine .inl ⟨hw, fun _ => v, fun _ _ _ => rfl, ?_, ?_⟩
  · unfold Yy
    rw [if_neg (by rw [hm]; simp)]
    intro G χ w hM _ hC
    unfold stepX
    rw [hv G χ w hM hC]
    exact ⟨rfl, hC⟩
  · rw [if_neg (by rw [hm]; simp), show (fun χ => (A χ).put o.dst v) = A' from funext fun χ => (hp χ).h]
    exact h
/-- A plain operation, its value a ghost's. -/
theorem gx_gval (hw : ∀ χ, Region.wanted o (yielded ops (A χ).tmps) = true) (hm : m k = false) (v : (Nat → X) → Value) (hs : Supp md ops k v) (hv : ∀ G χ w, (∀ s ∈ M, anc md ops s k = true → G s = true) → C G χ w → OpVal P o (A χ) w (v χ)) [hp : ∀ χ, Put (A χ) o.dst (v χ) (A' χ)]
    (h : wpFx P md ops C m EE (k + 1) M rest A') : wpFx P md ops C m EE k M (o :: rest) A := by
  refine .inl ⟨hw, v, hs, ?_, ?_⟩
  · unfold Yy
    rw [if_neg (by rw [hm]; simp)]
    intro G χ w hM _ hC
    unfold stepX
    rw [hv G χ w hM hC]
    exact ⟨rfl, hC⟩
  · rw [if_neg (by rw [hm]; simp), show (fun χ => (A χ).put o.dst (v χ)) = A' from funext fun χ => (hp χ).h]
    exact h
/-- A call that turns nothing. -/
theorem gx_ask (f : Nat) (xs : List Operand) (ts : Array TypeId) (ho : o.op = .call { callee := .value (.func f), args := xs.toArray, argTypes := ts }) (hw : ∀ χ, Region.wanted o (yielded ops (A χ).tmps) = true) (hm : m k = false) {vs : (Nat → X) → List Value} [hE : ∀ χ, EvL (A χ) xs (vs χ)]
    (he : ∀ args w, (callFunc f args).run P w = .ok (.enter f args) w) (v : (Nat → X) → Value) (hs : Supp md ops k v)
    (hv : ∀ G χ w, (∀ s ∈ M, anc md ops s k = true → G s = true) → C G χ w → Calls P f (vs χ).toArray w (fun e w'' => e = .returned (v χ) ∧ C G χ w'')) [hp : ∀ χ, Put (A χ) o.dst (v χ) (A' χ)]
    (h : wpFx P md ops C m EE (k + 1) M rest A') : wpFx P md ops C m EE k M (o :: rest) A := by
  refine .inl ⟨hw, v, hs, ?_, ?_⟩
  · unfold Yy
    rw [if_neg (by rw [hm]; simp)]
    intro G χ w hM _ hC
    exact stepX_call ho (hE := hE χ) he ((hv G χ w hM hC).mono fun e w'' ⟨h1, h2⟩ => ⟨v χ, h1, rfl, h2⟩)
  · rw [if_neg (by rw [hm]; simp), show (fun χ => (A χ).put o.dst (v χ)) = A' from funext fun χ => (hp χ).h]
    exact h
/-- A call that turns the world, and leaves a ghost. -/
theorem gx_mark (f : Nat) (xs : List Operand) (ts : Array TypeId) (ho : o.op = .call { callee := .value (.func f), args := xs.toArray, argTypes := ts }) (hw : ∀ χ, Region.wanted o (yielded ops (A χ).tmps) = true) (hm : m k = true) {vs : (Nat → X) → List Value} [hE : ∀ χ, EvL (A χ) xs (vs χ)]
    (he : ∀ args w, (callFunc f args).run P w = .ok (.enter f args) w) (v : Value)
    (hv : ∀ G χ w, G k = false → (∀ s ∈ M, anc md ops s k = true → G s = true) → (∀ j, anc md ops k j = true → G j = false) → C G χ w → Calls P f (vs χ).toArray w (fun e w'' => ∃ x, e = .returned v ∧ C (up G k true) (up χ k x) w'')) [hp : ∀ χ, Put (A χ) o.dst v (A' χ)]
    (h : wpFx P md ops C m EE (k + 1) (k :: M) rest A') : wpFx P md ops C m EE k M (o :: rest) A := by
  refine .inl ⟨hw, fun _ => v, fun _ _ _ => rfl, ?_, ?_⟩
  · unfold Yy
    rw [if_pos hm]
    intro G χ w hk hM hF hC
    exact stepX_call ho (hE := hE χ) he ((hv G χ w hk hM hF hC).mono fun e w'' ⟨x, h1, h2⟩ => ⟨v, h1, x, rfl, h2⟩)
  · rw [if_pos hm, show (fun χ => (A χ).put o.dst v) = A' from funext fun χ => (hp χ).h]
    exact h
end
end Go.Mm

/-
  Maps beside the known blocks: a map that the call has made, its keys structs of integers.
-/
namespace Go.Mm
open Go Go.RowKit

/-- The blocks that may be written. -/
def wb (H : List Ent) : List Nat := (H.filter (fun e => e.wr)).map (fun e => e.b)
theorem mem_wb {H : List Ent} {x : Nat} : x ∈ wb H ↔ ∃ e ∈ H, e.wr = true ∧ e.b = x := by
  simp [wb, and_assoc]

/-- A map's block: its keys and their elements, as they came. -/
structure MapAt (w : World) (M : Nat) (ms : List (Value × Value)) : Prop where
  h : ∃ es ck, w.heap[M]? = some (.map es ck) ∧ es.toList.map (fun e => (e.key, e.val)) = ms

/-- Between W and w0 only new blocks have come; one of them is the map; those of bs are new, and none of them is the map. -/
structure Base (W w0 : World) (bs : List Nat) (M : Nat) (ms : List (Value × Value)) : Prop where
  chg : Chg W w0 []
  map : MapAt w0 M ms
  new : W.heap.size ≤ M
  bs : ∀ x ∈ bs, W.heap.size ≤ x ∧ x ≠ M

section
variable {W w0 w w1 : World} {bs : List Nat} {M : Nat} {ms ms' : List (Value × Value)} {H : List Ent}
theorem St.self (hS : St w0 bs w H) : St w (wb H) w H :=
  ⟨Chg.refl _ _, hS.get, hS.nd, fun e he hw => .inl (mem_wb.2 ⟨e, he, hw, rfl⟩)⟩

theorem Base.all (hB : Base W w0 bs M ms) (hS : St w0 bs w H) : Chg W w [] :=
  hB.chg.trans hS.chg (fun x hx hlt => absurd (hB.bs x hx).1 (by omega))

theorem Base.now (hB : Base W w0 bs M ms) (hS : St w0 bs w H) : MapAt w M ms := by
  obtain ⟨es, ck, h1, h2⟩ := hB.map.h
  exact ⟨es, ck, hS.chg.get h1 (fun hx => (hB.bs M hx).2 rfl), h2⟩

theorem Base.wrs (hB : Base W w0 bs M ms) (hS : St w0 bs w H) : ∀ x ∈ wb H, W.heap.size ≤ x ∧ x ≠ M := by
  intro x hx
  obtain ⟨e, he, hw, rfl⟩ := mem_wb.1 hx
  refine ⟨?_, fun hM => ?_⟩
  · rcases hS.wr e he hw with h | h
    · exact (hB.bs _ h).1
    · exact Nat.le_trans hB.chg.size h
  · obtain ⟨es, ck, h1, _⟩ := (hB.now hS).h
    have h2 := hS.get e he
    rw [hM, h1] at h2
    cases h2

/-- The known world is taken as the one to go on from. -/
theorem Base.here (hB : Base W w0 bs M ms) (hS : St w0 bs w H) : Base W w (wb H) M ms :=
  ⟨hB.all hS, hB.now hS, hB.new, hB.wrs hS⟩

/-- Behind a change of the map's block alone. -/
theorem Base.turn (hB : Base W w0 bs M ms) (hS : St w0 bs w H) {es : Array MapEntry} {ck : Nat} (he : es.toList.map (fun e => (e.key, e.val)) = ms') :
    Base W (w.putCells M (.map es ck)) (wb H) M ms' ∧ St (w.putCells M (.map es ck)) (wb H) (w.putCells M (.map es ck)) H := by
  have hlt : M < w.heap.size := by obtain ⟨_, _, h, _⟩ := (hB.now hS).h; exact lt_of_heap h
  refine ⟨⟨(hB.all hS).trans (Chg.put w M _) (fun x hx hl => ?_), ⟨es, ck, put_get hlt, he⟩, hB.new, hB.wrs hS⟩, ?_⟩
  · rw [List.mem_singleton] at hx
    subst hx
    exact absurd hB.new (by omega)
  · refine ⟨Chg.refl _ _, fun e he => ?_, hS.nd, fun e he hw => .inl (mem_wb.2 ⟨e, he, hw, rfl⟩)⟩
    have hne : e.b ∉ [M] := by
      rw [List.mem_singleton]
      intro hM
      obtain ⟨es', ck', h1, _⟩ := (hB.now hS).h
      have h2 := hS.get e he
      rw [hM, h1] at h2
      cases h2
    exact (Chg.put w M (.map es ck)).get (hS.get e he) hne

/-- The map is made. -/
theorem Base.made (hS : St W [] w H) : Base W (w.alloc (.map #[] 0)) (wb H) w.heap.size [] ∧ St (w.alloc (.map #[] 0)) (wb H) (w.alloc (.map #[] 0)) H := by
  have hc := hS.chg.nil (Chg.alloc w (.map #[] 0))
  refine ⟨⟨hc, ⟨#[], 0, alloc_new w _, rfl⟩, hS.chg.size, fun x hx => ?_⟩, (hS.nil (Chg.alloc w _)).self⟩
  obtain ⟨e, he, hw, rfl⟩ := mem_wb.1 hx
  refine ⟨?_, fun h => absurd (hS.lt he) (by omega)⟩
  rcases hS.wr e he hw with h | h
  · cases h
  · exact h

/-! Keys -/
theorem check_of {P : Program} {t : TypeId} {xs : Array Value} (l : List (TypeId × Nat)) (ht : P.underlying t = some (.struct (P.fieldsOf t)))
    (hl : (P.fieldsOf t).toList.map (fun f => (f.name == "_", f.type, f.offset)) = l.map (fun x => (false, x.1, x.2)))
    (hc : ∀ x ∈ l, ∃ q a, P.underlying x.1 = some (.int q) ∧ ScalarT P x.1 ∧ xs[x.2]? = some (.int q a)) (em : Bool) (w : World) : (Instr.checkKey em 10000 t (.agg xs)).run P w = .ok () w := by
  show (Instr.checkKey em (9998 + 1 + 1) t (.agg xs)).run P w = .ok () w
  rw [Instr.checkKey]
  simp only [Sem.run_bind, run_underlying ht, Result.andThen_ok]
  rw [← Array.forIn_toList]
  generalize (P.fieldsOf t).toList = L at hl
  clear ht
  revert l
  induction L with
  | nil => intro l _ _; simp
  | cons f L ih =>
    intro l hc hl
    cases l with
    | nil => simp at hl
    | cons x l =>
      simp only [List.map_cons, List.cons.injEq, Prod.mk.injEq] at hl
      obtain ⟨⟨hn, hty, ho⟩, hl⟩ := hl
      have hn' : f.name ≠ "_" := by simpa using hn
      obtain ⟨q, a, hu, hs, hcell⟩ := hc x (.head _)
      have hp := run_part_scalar hs hcell w
      rw [← ho] at hp
      rw [← hty] at hp hu
      have h2 : (Instr.checkKey em (9998 + 1) f.type (.int q a)).run P w = .ok () w := by
        rw [Instr.checkKey]
        simp [run_underlying hu]
      simp only [List.forIn_cons, Sem.run_bind, hn', ne_eq, not_false_eq_true, if_true, Result.andThen_ok, hp, h2, Sem.run_pure]
      exact ih l (fun y hy => hc y (.tail _ hy)) hl

/-- A key that may be asked for, held against the keys that there are. -/
class KeyC (P : Program) (t : TypeId) (xs : Array Value) : Prop where
  h : ∀ em w, (Instr.checkKey em 10000 t (.agg xs)).run P w = .ok () w
  s : (match P.underlying t with | some (.array _ _) | some (.struct _) => true | _ => false) = true

/-- What is found: the first one of those that are the same. -/
theorem find_of {P : Program} {t : TypeId} {xs : Array Value} (w : World) (f : Value → Bool) : ∀ (es : List MapEntry) (i : Nat), (∀ e ∈ es, ∃ ys, e.key = .agg ys ∧ AggEq P t xs ys (f e.key)) →
    ((∀ e ∈ es, f e.key = false) ∧ (Instr.findAsking t (.agg xs) es i).run P w = .ok none w) ∨
    ∃ j e, es[j]? = some e ∧ f e.key = true ∧ (Instr.findAsking t (.agg xs) es i).run P w = .ok (some (i + j, e.val)) w
  | [], i, _ => .inl ⟨by simp, by simp [Instr.findAsking]⟩
  | e :: es, i, h => by
    obtain ⟨ys, hk, hq⟩ := h e (.head _)
    have hr : (Op.equal t (.agg xs) e.key).run P w = .ok (f e.key) w := by
      have h1 := hq.h w
      rw [run_eql_struct] at h1
      have h2 : (Op.equal t (.agg xs) e.key) = Op.equalIn 10000 t (.agg xs) (.agg ys) := by rw [hk]; rfl
      rw [h2]
      generalize hx : (Op.equalIn 10000 t (.agg xs) (.agg ys)).run P w = r at h1
      cases r with
      | ok b w' =>
        simp only [Result.andThen_ok, Result.ok.injEq, Value.bool.injEq] at h1
        rw [h1.1, h1.2]
      | halt x w' => simp [Result.andThen] at h1
    cases hf : f e.key with
    | true => exact .inr ⟨0, e, rfl, hf, by simp [Instr.findAsking, hr, hf]⟩
    | false =>
      rcases find_of w f es (i + 1) (fun y hy => h y (.tail _ hy)) with ⟨h1, h2⟩ | ⟨j, e', h1, h2, h3⟩
      · refine .inl ⟨fun y hy => ?_, by simp [Instr.findAsking, hr, hf, h2]⟩
        rcases List.mem_cons.1 hy with rfl | hy
        · exact hf
        · exact h1 y hy
      · exact .inr ⟨j + 1, e', by simpa using h1, h2, by simp [Instr.findAsking, hr, hf, h3, Nat.add_assoc, Nat.add_comm 1 j]⟩

class MapT (P : Program) (t : TypeId) (k e : outParam TypeId) : Prop where
  h : P.underlying t = some (.map k e)

variable {P : Program} {t k e : TypeId} {xs : Array Value}
/-- All keys are of the kind that can be held against xs; f tells which is the same. -/
def Keys (P : Program) (k : TypeId) (xs : Array Value) (f : Value → Bool) (ms : List (Value × Value)) : Prop := ∀ m ∈ ms, ∃ ys, m.1 = .agg ys ∧ AggEq P k xs ys (f m.1)

theorem run_getMap {es : Array MapEntry} {ck : Nat} (h : w.heap[M]? = some (.map es ck)) : (getObj M).run P w = .ok (.map es ck) w := MapKept.run_getObj_map h

theorem look_yes [ht : MapT P t k e] [hk : KeyC P k xs] (hM : MapAt w M ms) {f : Value → Bool} (hK : Keys P k xs f ms) {v : Value} (hv : ∀ m ∈ ms, f m.1 = true → m.2 = v) (hex : ∃ m ∈ ms, f m.1 = true) (c : Bool) :
    (Instr.lookup t (.map (some M)) (.agg xs) c).run P w = .ok (if c then .tuple #[v, .bool true] else v) w := by
  obtain ⟨es, ck, h1, h2⟩ := hM.h
  subst h2
  have hf := find_of (P := P) (t := k) (xs := xs) w f es.toList 0 (fun x hx => by
    obtain ⟨ys, h3, h4⟩ := hK (x.key, x.val) (List.mem_map.2 ⟨x, hx, rfl⟩)
    exact ⟨ys, h3, h4⟩)
  have hg := run_getMap (P := P) h1
  rcases hf with ⟨h3, h4⟩ | ⟨j, x, h3, h4, h5⟩
  · obtain ⟨m, hm, hm2⟩ := hex
    obtain ⟨x, hx, rfl⟩ := List.mem_map.1 hm
    rw [h3 x hx] at hm2
    cases hm2
  · have hx : x.val = v := hv (x.key, x.val) (List.mem_map.2 ⟨x, List.mem_of_getElem? h3, rfl⟩) h4
    subst hx
    simp [Instr.lookup, run_underlying ht.h, hg, hk.h, run_findKey_eq w hk.s, h5, Result.andThen]

theorem look_no [ht : MapT P t k e] [hk : KeyC P k xs] (hM : MapAt w M ms) {f : Value → Bool} (hK : Keys P k xs f ms) (hno : ∀ m ∈ ms, f m.1 = false) {z : Value} (hz : (zeroValue e).run P w = .ok z w) (c : Bool) :
    (Instr.lookup t (.map (some M)) (.agg xs) c).run P w = .ok (if c then .tuple #[z, .bool false] else z) w := by
  obtain ⟨es, ck, h1, h2⟩ := hM.h
  subst h2
  have hf := find_of (P := P) (t := k) (xs := xs) w f es.toList 0 (fun x hx => by
    obtain ⟨ys, h3, h4⟩ := hK (x.key, x.val) (List.mem_map.2 ⟨x, hx, rfl⟩)
    exact ⟨ys, h3, h4⟩)
  have hg := run_getMap (P := P) h1
  rcases hf with ⟨h3, h4⟩ | ⟨j, x, h3, h4, h5⟩
  · simp [Instr.lookup, run_underlying ht.h, hg, hk.h, run_findKey_eq w hk.s, h4, Result.andThen, hz]
  · have := hno (x.key, x.val) (List.mem_map.2 ⟨x, List.mem_of_getElem? h3, rfl⟩)
    simp only at this
    rw [h4] at this
    cases this

/-- A key that there is not is put into the map. -/
theorem put_new [ht : MapT P t k e] [hk : KeyC P k xs] (hM : MapAt w M ms) {f : Value → Bool} (hK : Keys P k xs f ms) (hno : ∀ m ∈ ms, f m.1 = false) (v : Value) :
    ∃ es ck, (Instr.mapUpdate t (.map (some M)) (.agg xs) v).run P w = .ok () (w.putCells M (.map es ck)) ∧ es.toList.map (fun e => (e.key, e.val)) = ms ++ [(.agg xs, v)] := by
  obtain ⟨es, ck, h1, h2⟩ := hM.h
  subst h2
  have hf := find_of (P := P) (t := k) (xs := xs) w f es.toList 0 (fun x hx => by
    obtain ⟨ys, h3, h4⟩ := hK (x.key, x.val) (List.mem_map.2 ⟨x, hx, rfl⟩)
    exact ⟨ys, h3, h4⟩)
  have hg := run_getMap (P := P) h1
  have hlt := lt_of_heap h1
  rcases hf with ⟨h3, h4⟩ | ⟨j, x, h3, h4, h5⟩
  · refine ⟨es.push ⟨.agg xs, v, ck⟩, ck + 1, ?_, by simp⟩
    simp [Instr.mapUpdate, run_underlying ht.h, hg, hk.h, run_findKey_eq w hk.s, h4, MapKept.run_setObj_map _ h1, Result.andThen, World.putCells]
  · have := hno (x.key, x.val) (List.mem_map.2 ⟨x, List.mem_of_getElem? h3, rfl⟩)
    simp only at this
    rw [h4] at this
    cases this

/-! The operations -/
variable {o : Oper} {a a' : Act}
/-- What a look-up gives. -/
def LookIs (P : Program) (w : World) (t : TypeId) (M : Nat) (xs : Array Value) (c : Bool) (v : Value) : Prop := (Instr.lookup t (.map (some M)) (.agg xs) c).run P w = .ok v w
theorem run_look (x y : Operand) (c : Bool) (ho : o.op = .lookup t x y c) [hx : Ev a x (.map (some M))] [hy : Ev a y (.agg xs)] {v : Value} (h : LookIs P w t M xs c v) : OpVal P o a w v := by
  unfold OpVal
  unfold LookIs at h
  simp only [execOp, ho, hx.h, hy.h, Sem.run_bind, h, Result.andThen_ok, Sem.run_pure]
theorem stp_mm {post : Act → World → Prop} (ho : o.op = .makeMap t none) (hS : St W [] w H) {a' : Value → Act} [hp : ∀ v, Put a o.dst v (a' v)]
    (h : ∀ w0 M, Base W w0 (wb H) M [] → St w0 (wb H) w0 H → post (a' (.map (some M))) w0) : Stp P o a w post := by
  obtain ⟨h1, h2⟩ := Base.made hS
  refine ⟨.value _, _, ?_, .inl ⟨_, rfl, by rw [(hp _).h]; exact h _ _ h1 h2⟩⟩
  simp only [execOp, ho, Instr.makeMap, newObj, Sem.run_bind, Sem.run_pure, Result.andThen_ok]
  rfl
end
end Go.Mm

/-
  'copy' between slices: all is read before anything is written.
-/
namespace Go.Mm
open Go Go.RowKit
section
variable {P : Program} {o : Oper} {a : Act} {w w0 : World} {bs : List Nat} {H : List Ent} {post : Act → World → Prop}
theorem cp_run (hS : St w0 bs w H) {t t' ty e : TypeId} [ht : SliceT P t e] {size bytes : Nat} {zs : Array Value} [he : ElemT P e size bytes zs] {b off dl dc b2 off2 sl sc n k : Nat} (hn : Nat.min sl dl = n) (hk : n * size = k)
    {cs2 : Array Value} {T2 : TypeId} [hH2 : Has H b2 cs2 T2] {news : Array Value} [hc : CellsAt cs2 off2 k news] [h1 : OneCells news] {cs cs' : Array Value} {T : TypeId} {H' : List Ent} [hH : Has H b cs T] [hsa : SetsAt cs off news cs'] [hu : Upd H b cs' T H'] :
    ∃ w', (Builtin.copy_ #[t, t'] ty #[.slice (some ⟨b, off, none⟩) dl dc, .slice (some ⟨b2, off2, none⟩) sl sc]).run P w = .ok (.int .i64 n) w' ∧ St w0 bs w' H' := by
  obtain ⟨i, z, hi, hz, rfl, rfl, rfl⟩ := he.parts
  have hb := hS.has hH
  have hnews := cells_news hc (w := w) (b := b2) (fun j => cell_of_has (hS.has hH2))
  have hl : news.toList.length = n * i.size := by rw [hk]; simpa using hc.s
  have hload := run_loadCells_list (P := P) w ⟨b2, off2, none⟩ news.toList hnews
  rw [hl] at hload
  have hr := run_storeCells_at P b off T news.toList 0 cs w hb (by have := hsa.le; simpa using this) h1.h
  simp only [Nat.add_zero] at hr
  rw [show news.toList.length = news.size by simp, hsa.h] at hr
  refine ⟨w.setRow b cs', ?_, hS.upd ⟨rfl, rfl, rfl, by simp, fun k _ hk => setRow_other w b k _ (by simpa [eq_comm] using hk)⟩ (setRow_heap w b cs _ T _ hb)⟩
  simp [Builtin.copy_, run_underlying ht.h, Builtin.lenOf, Builtin.firstCells, sizeOf, typeInfo, hi, hn, hload, hr, goInt]
theorem stp_cp (d s : Operand) (t t' : TypeId) (ho : o.op = .call { callee := .builtin .copy, args := #[d, s], argTypes := #[t, t'] }) (hS : St w0 bs w H) {e : TypeId} [ht : SliceT P t e] {size bytes : Nat} {zs : Array Value} [he : ElemT P e size bytes zs]
    {b off dl dc b2 off2 sl sc n k : Nat} [hd : Ev a d (.slice (some ⟨b, off, none⟩) dl dc)] [hs : Ev a s (.slice (some ⟨b2, off2, none⟩) sl sc)] (hn : Nat.min sl dl = n) (hk : n * size = k)
    {cs2 : Array Value} {T2 : TypeId} [hH2 : Has H b2 cs2 T2] {news : Array Value} [hc : CellsAt cs2 off2 k news] [h1 : OneCells news] {cs cs' : Array Value} {T : TypeId} {H' : List Ent} [hH : Has H b cs T] [hsa : SetsAt cs off news cs'] [hu : Upd H b cs' T H']
    {a' : Act} [hp : Put a o.dst (.int .i64 n) a'] (h : ∀ w', St w0 bs w' H' → post a' w') : Stp P o a w post := by
  obtain ⟨w', hr, hS'⟩ := cp_run (P := P) (t := t) (t' := t') (ty := o.type) (dc := dc) (sc := sc) hS hn hk (hH2 := hH2) (hc := hc) (h1 := h1) (hH := hH) (hsa := hsa) (hu := hu)
  refine ⟨.value (.int .i64 n), w', ?_, .inl ⟨_, rfl, by rw [hp.h]; exact h _ hS'⟩⟩
  simp only [execOp, ho, resolve, invoke, builtin, Sem.run_bind, Sem.run_pure, Result.andThen_ok, List.map_toArray, List.map_cons, List.map_nil, hd.h, hs.h, hr]
theorem stepAt_cp {C' : World → Prop} (d s : Operand) (t t' : TypeId) (ho : o.op = .call { callee := .builtin .copy, args := #[d, s], argTypes := #[t, t'] }) (hS : St w0 bs w H) {e : TypeId} [ht : SliceT P t e] {size bytes : Nat} {zs : Array Value} [he : ElemT P e size bytes zs]
    {b off dl dc b2 off2 sl sc n k : Nat} [hd : Ev a d (.slice (some ⟨b, off, none⟩) dl dc)] [hs : Ev a s (.slice (some ⟨b2, off2, none⟩) sl sc)] (hn : Nat.min sl dl = n) (hk : n * size = k)
    {cs2 : Array Value} {T2 : TypeId} [hH2 : Has H b2 cs2 T2] {news : Array Value} [hc : CellsAt cs2 off2 k news] [h1 : OneCells news] {cs cs' : Array Value} {T : TypeId} {H' : List Ent} [hH : Has H b cs T] [hsa : SetsAt cs off news cs'] [hu : Upd H b cs' T H']
    (h : ∀ w', St w0 bs w' H' → C' w') : stepAt P o a C' w (.int .i64 n) := by
  obtain ⟨w', hr, hS'⟩ := cp_run (P := P) (t := t) (t' := t') (ty := o.type) (dc := dc) (sc := sc) hS hn hk (hH2 := hH2) (hc := hc) (h1 := h1) (hH := hH) (hsa := hsa) (hu := hu)
  have hr2 : (execOp a.eval o).run P w = .ok (.value (.int .i64 n)) w' := by
    simp only [execOp, ho, resolve, invoke, builtin, Sem.run_bind, Sem.run_pure, Result.andThen_ok, List.map_toArray, List.map_cons, List.map_nil, hd.h, hs.h, hr]
  unfold stepAt
  rw [hr2]
  exact ⟨h _ hS', rfl⟩
end
end Go.Mm
