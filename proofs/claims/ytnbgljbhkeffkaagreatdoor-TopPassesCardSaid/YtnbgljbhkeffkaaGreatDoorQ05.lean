/-
  Contracts of what the law TopPasses reaches, part 5: Item Opv ItemD.
-/
import Derived.Test.YtnbgljbhkeffkaaGreatDoorQ02
import Derived.IntWalk
open Go.Proofs.Tryz
set_option linter.unusedVariables false
set_option linter.unusedSimpArgs false
set_option maxHeartbeats 4000000
set_option maxRecDepth 100000
namespace Go.Mm
open Go Go.RowKit
abbrev Gx:=Value×List Ent
structure Item where
 x0:Gx
 st:List (Nat×(Gx->Gx->Prop))
def gw (G:Gs)(χ:Nat->Gx):Gx->List (Nat×(Gx->Gx->Prop))->Gx
 | x,[]=>x
 | x,(k,_)::l=>if G k then gw G χ (χ k) l else x
def ot (G:Gs)(χ:Nat->Gx):Gx->List (Nat×(Gx->Gx->Prop))->Prop
 | _,[]=>True
 | x,(k,p)::l=>if G k then p x (χ k)∧ot G χ (χ k) l else True
def er (χ:Nat->Gx):Gx->List (Nat×(Gx->Gx->Prop))->Gx
 | x,[]=>x
 | _,(k,_)::l=>er χ (χ k) l
def sH (χ:Nat->Gx):Gx->List (Nat×(Gx->Gx->Prop))->Prop
 | _,[]=>True
 | x,(k,p)::l=>p x (χ k)∧sH χ (χ k) l
def Item.cur (it:Item)(G:Gs)(χ:Nat->Gx):List Ent:=(gw G χ it.x0 it.st).2
def CI (w0:World)(bs:List Nat)(items:List Item)(H:List Ent)(G:Gs)(χ:Nat->Gx)(w:World):Prop:=
 (∀ it∈items,ot G χ it.x0 it.st)∧St w0 bs w (items.flatMap (fun it=>it.cur G χ)++H)
def mI (items:List Item)(i:Nat):Bool:=items.any fun it=>it.st.any fun s=>s.1 == i
section
variable {G:Gs}{χ:Nat->Gx}{k:Nat}{x:Gx}
theorem k9:∀ (l:List (Nat×(Gx->Gx->Prop))) (b:Bool) (y:Gx),(∀ s∈l,s.1≠k)->gw (up G k b) (up χ k x) y l=gw G χ y l
 | [],_,_,_=>rfl
 | (j,p)::l,b,y,h=>by
  have hj:j≠k:=h (j,p) (by simp)
  unfold gw
  rw[show up G k b j=G j from if_neg hj,dK χ x hj,k9 l b (χ j) (fun s hs=>h s (by simp[hs]))]
theorem jV:∀ (l:List (Nat×(Gx->Gx->Prop))) (b:Bool) (y:Gx),(∀ s∈l,s.1≠k)->ot (up G k b) (up χ k x) y l=ot G χ y l
 | [],_,_,_=>rfl
 | (j,p)::l,b,y,h=>by
  have hj:j≠k:=h (j,p) (by simp)
  unfold ot
  rw[show up G k b j=G j from if_neg hj,dK χ x hj,jV l b (χ j) (fun s hs=>h s (by simp[hs]))]
theorem kn:∀ (l1 l2:List (Nat×(Gx->Gx->Prop))) (p:Gx->Gx->Prop) (y:Gx),(∀ s∈l1,G s.1=true)->G k=false->gw G χ y (l1++(k,p)::l2)=er χ y l1
 | [],l2,p,y,_,hk=>by simp[gw,er,hk]
 | (j,q)::l1,l2,p,y,h,hk=>by
  have hj:G j=true:=h (j,q) (by simp)
  rw[List.cons_append]
  unfold gw er
  rw[if_pos hj]
  exact kn l1 l2 p (χ j) (fun s hs=>h s (by simp[hs])) hk
theorem q9:∀ (l:List (Nat×(Gx->Gx->Prop))) (y:Gx),(∀ s∈l,G s.1=true)->gw G χ y l=er χ y l
 | [],_,_=>rfl
 | (j,q)::l,y,h=>by
  unfold gw er
  rw[if_pos (h (j,q) (by simp))]
  exact q9 l (χ j) (fun s hs=>h s (by simp[hs]))
theorem uu:∀ (l:List (Nat×(Gx->Gx->Prop))) (y:Gx),(∀ s∈l,G s.1=true)->ot G χ y l=sH χ y l
 | [],_,_=>rfl
 | (j,q)::l,y,h=>by
  unfold ot sH
  rw[if_pos (h (j,q) (by simp)),uu l (χ j) (fun s hs=>h s (by simp[hs]))]
theorem kU:∀ (l1 l2:List (Nat×(Gx->Gx->Prop))) (p:Gx->Gx->Prop) (y:Gx),(∀ s∈l1,G s.1=true)->G k=false->ot G χ y (l1++(k,p)::l2)->sH χ y l1
 | [],l2,p,y,_,hk,_=>trivial
 | (j,q)::l1,l2,p,y,h,hk,ho=>by
  have hj:G j=true:=h (j,q) (by simp)
  rw[List.cons_append] at ho
  unfold ot at ho
  rw[if_pos hj] at ho
  exact⟨ho.1,kU l1 l2 p (χ j) (fun s hs=>h s (by simp[hs])) hk ho.2⟩
theorem la:∀ (l1 l2:List (Nat×(Gx->Gx->Prop))) (p:Gx->Gx->Prop) (y:Gx),(∀ s∈l1,G s.1=true∧s.1≠k)->(∀ s∈l2,G s.1=false∧s.1≠k)->gw (up G k true) (up χ k x) y (l1++(k,p)::l2)=x
 | [],l2,p,y,_,h2=>by
  rw[List.nil_append]
  unfold gw
  rw[if_pos (bT G k true),bT]
  cases l2 with
  | nil=>rfl
  | cons s l2=>
   obtain⟨j,q⟩:=s
   obtain⟨h3,h4⟩:=h2 (j,q) (by simp)
   unfold gw
   rw[show up G k true j=G j from if_neg h4,h3]
   rfl
 | (j,q)::l1,l2,p,y,h,h2=>by
  obtain⟨h3,h4⟩:=h (j,q) (by simp)
  rw[List.cons_append]
  unfold gw
  rw[if_pos (show up G k true j=true from(if_neg h4).trans h3)]
  exact la l1 l2 p _ (fun s hs=>h s (by simp[hs])) h2
theorem nc:∀ (l1 l2:List (Nat×(Gx->Gx->Prop))) (p:Gx->Gx->Prop) (y:Gx),(∀ s∈l1,G s.1=true∧s.1≠k)->(∀ s∈l2,G s.1=false∧s.1≠k)->sH χ y l1->p (er χ y l1) x->ot (up G k true) (up χ k x) y (l1++(k,p)::l2)
 | [],l2,p,y,_,h2,_,hp=>by
  rw[List.nil_append]
  unfold ot
  rw[if_pos (bT G k true),bT]
  refine⟨hp,?_⟩
  cases l2 with
  | nil=>trivial
  | cons s l2=>
   obtain⟨j,q⟩:=s
   obtain⟨h3,h4⟩:=h2 (j,q) (by simp)
   unfold ot
   rw[show up G k true j=G j from if_neg h4,h3]
   trivial
 | (j,q)::l1,l2,p,y,h,h2,ho,hp=>by
  obtain⟨h3,h4⟩:=h (j,q) (by simp)
  rw[List.cons_append]
  unfold ot
  rw[if_pos (show up G k true j=true from(if_neg h4).trans h3),dK χ x h4]
  exact⟨ho.1,nc l1 l2 p _ (fun s hs=>h s (by simp[hs])) h2 ho.2 hp⟩
end
section
variable {w0 w:World}{bs:List Nat}{H:List Ent}
theorem dL {α:Type}{l:List α}{n:Nat}{a:α}(h:l[n]?=some a):l=l.take n++a::l.drop (n+1):=by
 obtain⟨hn,he⟩:=List.getElem?_eq_some_iff.1 h
 rw[← he,← List.drop_eq_getElem_cons hn,List.take_append_drop]
theorem cB {A B:List Ent}(hS:St w0 bs w (A++B)):St w0 bs w B:=hS.weak
theorem k7 {items:List Item}{n:Nat}{it:Item}(h:items[n]?=some it)(f:Item->List Ent):(items.flatMap f++H).Perm (f it++(((items.take n).flatMap f++(items.drop (n+1)).flatMap f)++H)):=by
 have e:=dL h
 have e2:items.flatMap f=(items.take n).flatMap f++(f it++(items.drop (n+1)).flatMap f):=by
  have e3:=congrArg (fun q=>List.flatMap f q) e
  simpa only[List.flatMap_append,List.flatMap_cons] using e3
 rw[e2]
 generalize (items.take n).flatMap f=A
 generalize (items.drop (n+1)).flatMap f=B
 simp only[List.append_assoc]
 rw[← List.append_assoc A,← List.append_assoc (f it) A]
 exact List.perm_append_comm.append_right _
def kY (items:List Item):List Nat:=items.flatMap fun it=>it.st.map (·.1)
def vU:List Nat->Bool
 | []=>true
 | k::l=>!l.contains k && vU l
theorem qA:∀ {l:List Nat},vU l=true->l.Nodup
 | [],_=>.nil
 | k::l,h=>by
  simp only[vU,Bool.and_eq_true,Bool.not_eq_true'] at h
  exact List.nodup_cons.2 ⟨by simpa using h.1,qA h.2⟩
end
section
variable {P:Program}{ops:Array Oper}{md:Region.Mode}{w0:World}{bs:List Nat}{H:List Ent}{items:List Item}
variable {EE:List Nat->((Nat->Gx)->Act)->Prop}{k:Nat}{M:List Nat}{o:Oper}{rest:List Oper}{A A' : (Nat->Gx)->Act}{v:Value}
theorem CI.base {G:Gs}{χ:Nat->Gx}{w:World}(h:CI w0 bs items H G χ w):St w0 bs w H:=h.2.weak
theorem Bl (hw:∀ χ,Region.wanted o (yielded ops (A χ).tmps)=true)(hm:mI items k=false)(hv:∀ χ w,St w0 bs w H->ay P o (A χ) w v)[hp:∀ χ,Put (A χ) o.dst v (A' χ)]
  (h:aX P md ops (CI w0 bs items H) (mI items) EE (k+1) M rest A'):aX P md ops (CI w0 bs items H) (mI items) EE k M (o::rest) A:=by
 refine .inl ⟨hw,fun _=>v,fun _ _ _=>rfl,?_,?_⟩
 ·unfold Yy
  rw[if_neg (by rw[hm];simp)]
  intro G χ w _ _ hC
  unfold bB
  rw[hv χ w (CI.base hC)]
  exact⟨rfl,hC⟩
 ·rw[if_neg (by rw[hm];simp),show(fun χ=>(A χ).put o.dst v)=A' from funext fun χ=>(hp χ).h]
  exact h
theorem fV (hv:∀ χ w,St w0 bs w H->ay P o (A χ) w v)[hp:∀ χ,Put (A χ) o.dst v (A' χ)](h:aX P md ops (CI w0 bs items H) (mI items) EE (k+1) M rest A')(hw:∀ χ,Region.wanted o (yielded ops (A χ).tmps)=true:=by intro _;rfl)(hm:mI items k=false:=by rfl):aX P md ops (CI w0 bs items H) (mI items) EE k M (o::rest) A:=Bl hw hm hv h
theorem xY (hw:∀ χ,Region.wanted o (yielded ops (A χ).tmps)=true)(hm:mI items k=false){v:(Nat->Gx)->Value}(hs:kz md ops k v)(hv:∀ χ w,St w0 bs w H->ay P o (A χ) w (v χ))[hp:∀ χ,Put (A χ) o.dst (v χ) (A' χ)]
  (h:aX P md ops (CI w0 bs items H) (mI items) EE (k+1) M rest A'):aX P md ops (CI w0 bs items H) (mI items) EE k M (o::rest) A:=by
 refine .inl ⟨hw,v,hs,?_,?_⟩
 ·unfold Yy
  rw[if_neg (by rw[hm];simp)]
  intro G χ w _ _ hC
  unfold bB
  rw[hv χ w (CI.base hC)]
  exact⟨rfl,hC⟩
 ·rw[if_neg (by rw[hm];simp),show(fun χ=>(A χ).put o.dst (v χ))=A' from funext fun χ=>(hp χ).h]
  exact h
theorem gK {j:Nat}(hj:(j == k || dR md ops j k)=true)(f:Gx->Value):kz md ops k (fun χ=>f (χ j)):=by
 intro χ χ' h
 simp only
 rw[h j (by simpa using hj)]
theorem aw {a:Act}{w:World}{f:Nat}{xs:List Operand}{ts:Array TypeId}(ho:o.op=.call { callee:=.value (.func f),args:=xs.toArray,argTypes:=ts }){vs:List Value}[hE:EvL a xs vs](he:∀ args w,(callFunc f args).run P w=.ok (.enter f args) w)
  {Φ:Value->World->Prop} (h:Calls P f vs.toArray w (fun e w''=>∃ u,e=.returned u∧Φ u w'')):bB P o a w Φ:=by
 have hr:(execOp a.eval o).run P w=.ok (.enter f vs.toArray) w:=by
  have hE':=hE.h
  simp[execOp,ho,resolve,invoke,Deferred.ofValue,Act.eval,List.map_toArray,hE',he]
 unfold bB
 rw[hr]
 exact h
theorem cQ (f:Nat)(xs:List Operand){ts:Array TypeId}(ho:o.op=.call { callee:=.value (.func f),args:=xs.toArray,argTypes:=ts })(hw:∀ χ,Region.wanted o (yielded ops (A χ).tmps)=true)(hm:mI items k=false){vs:List Value}[hE:∀ χ,EvL (A χ) xs vs]
  (he:∀ args w,(callFunc f args).run P w=.ok (.enter f args) w) (v:Value) (hv:∀ L w,St w0 bs w (L++H)->Calls P f vs.toArray w (fun e w''=>e=.returned v∧St w0 bs w'' (L++H))) [hp:∀ χ,Put (A χ) o.dst v (A' χ)]
  (h:aX P md ops (CI w0 bs items H) (mI items) EE (k+1) M rest A'):aX P md ops (CI w0 bs items H) (mI items) EE k M (o::rest) A:=by
 refine .inl ⟨hw,fun _=>v,fun _ _ _=>rfl,?_,?_⟩
 ·unfold Yy
  rw[if_neg (by rw[hm];simp)]
  intro G χ w _ _ hC
  exact aw ho (hE:=hE χ) he ((hv _ w hC.2).mono fun e w'' ⟨h1,h2⟩=>⟨v,h1,rfl,hC.1,h2⟩)
 ·rw[if_neg (by rw[hm];simp),show(fun χ=>(A χ).put o.dst v)=A' from funext fun χ=>(hp χ).h]
  exact h
theorem ap (n s:Nat){it:Item}{p:Gx->Gx->Prop}(hit:items[n]?=some it)(hst:it.st[s]?=some (k,p))(hnd:vU (kY items)=true)
  (hpre:((it.st.take s).all fun q=>M.contains q.1 && dR md ops q.1 k)=true) (hpost:((it.st.drop (s+1)).all fun q=>dR md ops k q.1)=true)
  (hw:∀ χ,Region.wanted o (yielded ops (A χ).tmps)=true) (v:Gx->Value)
  (hv:∀ χ L w,sH χ it.x0 (it.st.take s)->St w0 bs w ((er χ it.x0 (it.st.take s)).2++(L++H))->bB P o (A χ) w (fun u w''=>∃ x,u=v x∧p (er χ it.x0 (it.st.take s)) x∧St w0 bs w'' (x.2++(L++H)))) [hp:∀ χ,Put (A χ) o.dst (v (χ k)) (A' χ)]
  (h:aX P md ops (CI w0 bs items H) (mI items) EE (k+1) (k::M) rest A'):aX P md ops (CI w0 bs items H) (mI items) EE k M (o::rest) A:=by
 have hmem:it∈items:=List.mem_of_getElem? hit
 have hsplit:it.st=it.st.take s++(k,p)::it.st.drop (s+1):=dL hst
 have hm:mI items k=true:=by
  unfold mI
  rw[List.any_eq_true]
  refine⟨it,hmem,?_⟩
  rw[List.any_eq_true]
  exact⟨(k,p),by rw[hsplit];simp,by simp⟩
 -- the keys
 have hkeys:=qA hnd
 have eitems:items=items.take n++it::items.drop (n+1):=dL hit
 have ekeys:kY items=kY (items.take n)++((it.st.take s).map (·.1)++k::(it.st.drop (s+1)).map (·.1))++kY (items.drop (n+1)):=by
  have e1:it.st.map (·.1)=(it.st.take s).map (·.1)++k::(it.st.drop (s+1)).map (·.1):=by
   have:=congrArg (List.map (·.1)) hsplit
   rw[List.map_append,List.map_cons] at this
   exact this
  rw[← e1]
  unfold kY
  rw[List.append_assoc,← List.flatMap_cons (f:=fun it:Item=>it.st.map (·.1)),← List.flatMap_append,← eitems]
 rw[ekeys] at hkeys
 rw[List.nodup_append,List.nodup_append,List.nodup_append,List.nodup_cons] at hkeys
 obtain⟨⟨_,⟨_,⟨k1,_⟩,k2⟩,k3⟩,_,k4⟩:=hkeys
 have ka:∀ q∈it.st.take s,q.1≠k:=fun q hq=>k2 q.1 (List.mem_map_of_mem hq) k (by simp)
 have kb:∀ q∈it.st.drop (s+1),q.1≠k:=fun q hq e=>k1 (by rw[← e];exact List.mem_map_of_mem hq)
 have kc:∀ it'∈items.take n++items.drop (n+1),∀ q∈it'.st,q.1≠k:=by
  intro it' hi q hq
  rcases List.mem_append.1 hi with hi|hi
  ·exact k3 q.1 (List.mem_flatMap.2 ⟨it',hi,List.mem_map_of_mem hq⟩) k (by simp)
  ·exact fun e=>k4 k (by simp) q.1 (List.mem_flatMap.2 ⟨it',hi,List.mem_map_of_mem hq⟩) e.symm
 refine .inl ⟨hw,fun χ=>v (χ k),gK (by simp) v,?_,?_⟩
 ·unfold Yy
  rw[if_pos hm]
  intro G χ w hk hT hF hC
  have g1:∀ q∈it.st.take s,G q.1=true:=fun q hq=>by
   have:=List.all_eq_true.1 hpre q hq
   simp only[Bool.and_eq_true] at this
   exact hT q.1 (by simpa using this.1) this.2
  have g2:∀ q∈it.st.drop (s+1),G q.1=false:=fun q hq=>hF q.1 (List.all_eq_true.1 hpost q hq)
  have hp1:=k7 (H:=H) hit (fun it=>it.cur G χ)
  have hcur:it.cur G χ=(er χ it.x0 (it.st.take s)).2:=by
   unfold Item.cur
   rw[hsplit,kn _ _ _ _ g1 hk]
   congr 2
   rw[← hsplit]
  simp only[hcur] at hp1
  have hokb:sH χ it.x0 (it.st.take s):=by
   have:=hC.1 it hmem
   rw[hsplit] at this
   exact kU _ _ _ _ g1 hk this
  have h1:=hv χ _ w hokb (hC.2.perm hp1)
  have fin:∀ (u:Value) (w'' : World),(∃ x,u=v x∧p (er χ it.x0 (it.st.take s)) x∧St w0 bs w'' (x.2++(((items.take n).flatMap (fun it=>it.cur G χ)++(items.drop (n+1)).flatMap (fun it=>it.cur G χ))++H))) ->
    ∃ x,u=v (up χ k x k)∧CI w0 bs items H (up G k true) (up χ k x) w'':=by
   rintro u w'' ⟨x,hu,hpx,hS⟩
   have hcurx:it.cur (up G k true) (up χ k x)=x.2:=by
    unfold Item.cur
    rw[hsplit,la _ _ _ _ (fun q hq=>⟨g1 q hq,ka q hq⟩) (fun q hq=>⟨g2 q hq,kb q hq⟩)]
   have hoth:∀ l:List Item,(∀ it'∈l,∀ q∈it'.st,q.1≠k)->l.flatMap (fun it=>it.cur (up G k true) (up χ k x))=l.flatMap (fun it=>it.cur G χ):=by
    intro l hl
    induction l with
    | nil=>rfl
    | cons a l ih=>
     rw[List.flatMap_cons,List.flatMap_cons,ih (fun it' hi=>hl it' (by simp[hi]))]
     congr 1
     unfold Item.cur
     rw[k9 _ _ _ (hl a (by simp))]
   have hp2:=k7 (H:=H) hit (fun it=>it.cur (up G k true) (up χ k x))
   simp only[hcurx] at hp2
   rw[hoth _ (fun it' hi=>kc it' (List.mem_append_left _ hi)),hoth _ (fun it' hi=>kc it' (List.mem_append_right _ hi))] at hp2
   refine⟨x,by rw[bT];exact hu,fun it' hi=>?_,hS.perm hp2.symm⟩
   rw[eitems] at hi
   rcases List.mem_append.1 hi with hi|hi
   ·rw[jV _ _ _ (kc it' (List.mem_append_left _ hi))]
    exact hC.1 it' (by rw[eitems];exact List.mem_append_left _ hi)
   ·rcases List.mem_cons.1 hi with rfl|hi
    ·rw[hsplit]
     exact nc _ _ _ _ (fun q hq=>⟨g1 q hq,ka q hq⟩) (fun q hq=>⟨g2 q hq,kb q hq⟩) hokb hpx
    ·rw[jV _ _ _ (kc it' (List.mem_append_right _ hi))]
     exact hC.1 it' (by rw[eitems];exact List.mem_append_right _ (by simp[hi]))
  unfold bB at h1 ⊢
  revert h1
  generalize (execOp (A χ).eval o).run P w=r
  intro h1
  cases r with
  | ok nx w'=>
   cases nx <;> simp only[] at h1 ⊢
   case value u=>exact fin _ _ h1
   case skip=>exact fin _ _ h1
   case enter f args=>exact h1.mono fun e w'' ⟨u,h2,h3⟩=>⟨u,h2,fin _ _ h3⟩
  | halt e w'=>simp only[] at h1
 ·rw[if_pos hm,show(fun χ=>(A χ).put o.dst (v (χ k)))=A' from funext fun χ=>(hp χ).h]
  exact h
theorem cj (n s:Nat){it:Item}{p:Gx->Gx->Prop}(hit:items[n]?=some it)(hst:it.st[s]?=some (k,p))(hnd:vU (kY items)=true)
  (hpre:((it.st.take s).all fun q=>M.contains q.1 && dR md ops q.1 k)=true) (hpost:((it.st.drop (s+1)).all fun q=>dR md ops k q.1)=true)
  (f:Nat) (xs:List Operand) {ts:Array TypeId} (ho:o.op=.call { callee:=.value (.func f),args:=xs.toArray,argTypes:=ts }) (hw:∀ χ,Region.wanted o (yielded ops (A χ).tmps)=true) {vs:(Nat->Gx)->List Value} [hE:∀ χ,EvL (A χ) xs (vs χ)]
  (he:∀ args w,(callFunc f args).run P w=.ok (.enter f args) w) (v:Gx->Value)
  (hv:∀ χ L w,sH χ it.x0 (it.st.take s)->St w0 bs w ((er χ it.x0 (it.st.take s)).2++(L++H))->Calls P f (vs χ).toArray w (fun e w''=>∃ x,e=.returned (v x)∧p (er χ it.x0 (it.st.take s)) x∧St w0 bs w'' (x.2++(L++H)))) [hp:∀ χ,Put (A χ) o.dst (v (χ k)) (A' χ)]
  (h:aX P md ops (CI w0 bs items H) (mI items) EE (k+1) (k::M) rest A'):aX P md ops (CI w0 bs items H) (mI items) EE k M (o::rest) A:=
 ap n s hit hst hnd hpre hpost hw v (fun χ L w hok hS=>aw ho (hE:=hE χ) he ((hv χ L w hok hS).mono fun e w'' ⟨x,h1,h2,h3⟩=>⟨v x,h1,x,rfl,h2,h3⟩)) h
theorem gU {id:Nat}{l:List Oper}{Q:Exit->Act->World->Prop}{a:Act}{w:World}(items:List Item)(H:List Ent)(hS:St w0 bs w (items.flatMap (fun it=>it.x0.2)++H))(hm:P.follows .mixedOrders=true)(hB:Region.lexB .any l.toArray=true)
  (h:aX P .any l.toArray (CI w0 bs items H) (mI items) (fun M A=>∀ χ G w',(∀ s∈M,G s=true)->CI w0 bs items H G χ w'->Q .normal (A χ) w') 0 [] l (fun _=>a)):(Code.region id l.toArray true).wp P Q a w:=by
 refine dP (X:=Gx) (CI w0 bs items H) (mI items) hm hB ⟨fun it _=>?_,?_⟩ h
 ·cases hst:it.st with
  | nil=>trivial
  | cons s l=>obtain⟨j,q⟩:=s;unfold ot;simp
 ·have e:∀ it:Item,it.cur (fun _=>false) (fun _=>default)=it.x0.2:=fun it=>by
   unfold Item.cur
   cases hst:it.st with
   | nil=>rfl
   | cons s l=>obtain⟨j,q⟩:=s;unfold gw;simp
  rw[show(fun it:Item=>it.cur (fun _=>false) (fun _=>default))=(fun it=>it.x0.2) from funext e]
  exact hS.drawn _
theorem ao {id:Nat}{l:List Oper}{Q:Exit->Act->World->Prop}{a:Act}{w:World}(items:List Item)(H H0:List Ent)(hF:items.flatMap (fun it=>it.x0.2)++H=H0)(hS:St w0 bs w H0)(hm:P.follows .mixedOrders=true)(hB:Region.lexB .any l.toArray=true)
  (h:aX P .any l.toArray (CI w0 bs items H) (mI items) (fun M A=>∀ χ G w',(∀ s∈M,G s=true)->CI w0 bs items H G χ w'->Q .normal (A χ) w') 0 [] l (fun _=>a)):(Code.region id l.toArray true).wp P Q a w:=by
 subst hF
 exact gU items H hS hm hB h
theorem jI {id:Nat}{l:List Oper}{Q:Exit->Act->World->Prop}{a:Act}{w:World}(items:List Item)(h0:items.all (fun it=>it.x0.2.isEmpty)=true){H0:List Ent}(hS:St w0 bs w H0){H:List Ent}[hpk:Pick H H0]
  (h:aX P .any l.toArray (CI w0 bs items H) (mI items) (fun M A=>∀ χ G w',(∀ s∈M,G s=true)->CI w0 bs items H G χ w'->Q .normal (A χ) w') 0 [] l (fun _=>a))(hm:P.follows .mixedOrders=true:=by kernel_rfl)(hB:Region.lexB .any l.toArray=true:=by kernel_rfl):(Code.region id l.toArray true).wp P Q a w:=by
 refine gU items H ?_ hm hB h
 have:items.flatMap (fun it=>it.x0.2)=[]:=by
  rw[List.flatMap_eq_nil_iff]
  intro it hi
  have:=List.all_eq_true.1 h0 it hi
  simpa using this
 rw[this]
 exact hS.p
theorem bC {Q:Exit->Act->World->Prop}(hall:(items.all fun it=>it.st.all fun s=>M.contains s.1)=true)
  (h:∀ χ w',(∀ it∈items,sH χ it.x0 it.st)->St w0 bs w' (items.flatMap (fun it=>(er χ it.x0 it.st).2)++H)->Q .normal (A χ) w') :
  aX P md ops (CI w0 bs items H) (mI items) (fun M A=>∀ χ G w',(∀ s∈M,G s=true)->CI w0 bs items H G χ w'->Q .normal (A χ) w') k M [] A:=by
 intro χ G w' hM hC
 have hG:∀ it∈items,∀ s∈it.st,G s.1=true:=fun it hi s hs=>by
  have:=List.all_eq_true.1 (List.all_eq_true.1 hall it hi) s hs
  exact hM s.1 (by simpa using this)
 refine h χ w' (fun it hi=>by rw[← uu _ _ (hG it hi)];exact hC.1 it hi) ?_
 have e:∀ l:List Item,(∀ it∈l,it∈items)->l.flatMap (fun it=>it.cur G χ)=l.flatMap (fun it=>(er χ it.x0 it.st).2):=by
  intro l hl
  induction l with
  | nil=>rfl
  | cons a l ih=>
   rw[List.flatMap_cons,List.flatMap_cons,ih (fun it hi=>hl it (by simp[hi]))]
   congr 1
   unfold Item.cur
   rw[q9 _ _ (hG a (hl a (by simp)))]
 rw[← e items (fun _ h=>h)]
 exact hC.2
end
section
variable {P:Program}{o:Oper}{a:Act}{w w0:World}{bs:List Nat}{H:List Ent}{Φ:Value->World->Prop}
theorem bE {t:TypeId}(ho:o.op=.alloc t)(hS:St w0 bs w H){cs:Array Value}[hz:ZeroT P t cs](h:∀ b w',w.heap.size≤b->St w0 bs w' (⟨b,cs,t,true⟩::H)->Φ (.pointer (some ⟨b,0,none⟩)) w'):bB P o a w Φ:=by
 obtain⟨z,hzc,hzr⟩:=hz.run
 have hS' : St w0 bs (w.alloc (.cells cs t (0,0))) (⟨w.heap.size,cs,t,true⟩::H):=hS.new (Chg.alloc w _) (Nat.le_refl _) (dw w)
 have hr:(execOp a.eval o).run P w=.ok (.value (.pointer (some ⟨w.heap.size,0,none⟩))) (w.alloc (.cells cs t (0,0))):=by
  simp only[execOp,ho,Instr.alloc,Sem.run_bind,Sem.run_pure,Result.andThen_ok,hzr,newVar,newRow,hzc,run_newObj]
  rfl
 unfold bB
 rw[hr]
 exact h _ _ (Nat.le_refl _) hS'
theorem aK (t:TypeId)(x y:Operand)(ho:o.op=.store t x y)(hS:St w0 bs w H){b off n:Nat}[hx:Ev a x (.pointer (some ⟨b,off,none⟩))]{vs:Array Value}[hy:Ev a y (.agg vs)][hag:AggT P t n][h1c:OneCells vs]
  {cs cs' : Array Value} {T:TypeId} {H' : List Ent} [hH:Has H b cs T] [hs:SetsAt cs off vs cs'] [hn:SizeIs vs n] [hu:Upd H b cs' T H'] (h:∀ w',St w0 bs w' H'->Φ undef w'):bB P o a w Φ:=by
 have hb:=hS.has hH
 have hr:=run_storeCells_at P b off T vs.toList 0 cs w hb (by have:=hs.le;simpa using this) h1c.h
 simp only[Nat.add_zero] at hr
 rw[show vs.toList.length=vs.size by simp,hs.h] at hr
 have hS' : St w0 bs (w.setRow b cs') H':=by
  refine hS.upd ⟨rfl,rfl,rfl,by simp,fun k _ hk=>setRow_other w b k _ (by simpa [eq_comm] using hk)⟩ (setRow_heap w b cs _ T _ hb)
 have hr2:(execOp a.eval o).run P w=.ok .skip (w.setRow b cs'):=by
  simp only[execOp,ho,hx.h,hy.h,Instr.storeAt,Instr.sureAddr,storeVar,Sem.run_bind,Sem.run_pure,Result.andThen_ok,aU hag.s,Value.cells,hn.h,ne_eq,not_true_eq_false,if_false,hr]
 unfold bB
 rw[hr2]
 exact h _ hS'
theorem aZ {t:TypeId}{x y:Operand}(ho:o.op=.store t x y)(hS:St w0 bs w H){u:Value}{b off n:Nat}[hx:Ev a x u](hu0:u=.pointer (some ⟨b,off,none⟩)){vs:Array Value}[hy:Ev a y (.agg vs)][hag:AggT P t n][h1c:OneCells vs]
  {cs cs' : Array Value} {T:TypeId} {H' : List Ent} [hH:Has H b cs T] [hs:SetsAt cs off vs cs'] [hn:SizeIs vs n] [hu:Upd H b cs' T H'] (h:∀ w',St w0 bs w' H'->Φ undef w'):bB P o a w Φ:=by
 subst hu0
 exact aK t x y ho hS h
end
section
variable {P:Program}{o:Oper}{a:Act}{w:World}
theorem wJ {k:IntKind}{e:Int}{t t': TypeId}{x y:Operand}(ho:o.op=.binOp .eql t x y t')[hx:Ev a x (.int k e)][hy:Ev a y (.int k e)] : ay P o a w (.bool true):=by
 unfold ay;simp[execOp,ho,hx.h,hy.h,eqGuard,binOp,Op.intCmp]
class IntEq (e f:Int)(b:outParam Bool):Prop where
 h:decide (e=f)=b
theorem rC {k:IntKind}{e f:Int}{t t': TypeId}{x y:Operand}(ho:o.op=.binOp .neq t x y t')[hx:Ev a x (.int k e)][hy:Ev a y (.int k f)]{b c:Bool}[hb:IntEq e f b][hn:NotB b c] : ay P o a w (.bool c):=by
 have e:(e != f)=!b:=by rw[← hb.h];by_cases q:e=f <;> simp[q]
 unfold ay;rw[← hn.h];simp[execOp,ho,hx.h,hy.h,eqGuard,binOp,Op.intCmp,e]
theorem tN {t:TypeId}{x:Operand}(ho:o.op=.unOp .not t x){b c:Bool}[hx:Ev a x (.bool b)][hn:NotB b c] : ay P o a w (.bool c):=by
 unfold ay;rw[← hn.h];simp[execOp,ho,hx.h,Op.unary]
class BoolEq (P:Program)(t:TypeId)(x y:Bool)(c:outParam Bool):Prop where
 h:(x == y)=c
 u:P.underlying t=some .bool
theorem aB {n:Nat}{x:Operand}(ho:o.op=.extract x n){vs:List Value}{v:Value}[hx:Ev a x (.tuple (List.toArray vs))][hn:Nth vs n v] : ay P o a w v:=by
 have:=hn.h
 unfold ay;simp[execOp,ho,hx.h,Instr.extract,this]
class Small (n:Int):Prop where
 lo:0≤n
 hi:n≤4294967295
class WrapsTo (k:IntKind)(n:Int):Prop where
 h:k.wrap n=n
instance D7 {n:Int}[h:Small n] : WrapsTo .i64 n:=⟨IntWalk.i64_in n ⟨by have:=h.lo;omega,by have:=h.hi;omega⟩⟩
class CvI (P:Program)(src dst:TypeId)(k:outParam IntKind):Prop where
 hs:(P.underlying src).isSome=true
 hk:P.intKind dst=k
 hd:P.underlying dst=some (.int k)
theorem ly {src dst:TypeId}{x:Operand}(ho:o.op=.convert src dst x){k k0:IntKind}{n:Int}[hc:CvI P src dst k][hx:Ev a x (.int k0 n)][hw:WrapsTo k n] : ay P o a w (.int k n):=by
 have h:=run_convert_int (P:=P) w src dst k0 n hc.hs (by rw[hc.hk];exact hc.hd)
 rw[hc.hk,hw.h] at h
 unfold ay
 simp only[execOp,ho,hx.h,Sem.run_bind,h,Result.andThen_ok,Sem.run_pure]
class MinIs (n m:Int)(r:outParam Int):Prop where
 h:(if m<n then m else n)=r
theorem jF {x y:Operand}{ts:Array TypeId}(ho:o.op=.call { callee:=.builtin .min,args:=#[x,y],argTypes:=ts }){k:IntKind}{n m r:Int}[hx:Ev a x (.int k n)][hy:Ev a y (.int k m)][hr:MinIs n m r] : ay P o a w (.int k r):=by
 unfold ay
 simp only[execOp,ho,resolve,invoke,builtin,Sem.run_bind,Sem.run_pure,Result.andThen_ok,List.map_toArray,List.map_cons,List.map_nil,hx.h,hy.h,run_min_int2,hr.h]
theorem ah {x:Operand}(ho:o.op=.nilCheck x){p:Addr}[hx:Ev a x (.pointer (some p))] : ay P o a w (.pointer (some p)):=by
 unfold ay
 simp only[execOp,ho,hx.h]
 rfl
class RemIs (n m:Int)(r:outParam Int):Prop where
 h:n.tmod m=r
 z:m≠0
theorem cw {t t': TypeId}{x y:Operand}(ho:o.op=.binOp .rem t x y t'){k:IntKind}{n m r:Int}[hx:Ev a x (.int k n)][hy:Ev a y (.int k m)][hr:RemIs n m r] : ay P o a w (.int k r):=by
 unfold ay
 simp[execOp,ho,hx.h,hy.h,eqGuard,binOp,Op.intDiv,hr.h,hr.z]
end
open Go Go.RowKit
section
variable {P:Program}{o:Oper}{a:Act}{w:World}
class SumIs (n m:Int)(r:outParam Int):Prop where
 h:n+m=r
 lo : -9223372036854775808≤r
 hi:r≤9223372036854775807
theorem bL {t t': TypeId}{x y:Operand}(ho:o.op=.binOp .add t x y t'){n m r:Int}[hx:Ev a x (.int .i64 n)][hy:Ev a y (.int .i64 m)][hr:SumIs n m r] : ay P o a w (.int .i64 r):=by
 have e:IntKind.i64.wrap (n+m)=r:=by rw[hr.h];have:=hr.lo;have:=hr.hi;rw[IntKind.wrap_i64];omega
 unfold ay
 simp[execOp,ho,hx.h,hy.h,eqGuard,binOp,Op.intArith,e]
class DifIs (n m:Int)(r:outParam Int):Prop where
 h:n - m=r
 lo : -9223372036854775808≤r
 hi:r≤9223372036854775807
theorem aC {t t': TypeId}{x y:Operand}(ho:o.op=.binOp .sub t x y t'){n m r:Int}[hx:Ev a x (.int .i64 n)][hy:Ev a y (.int .i64 m)][hr:DifIs n m r] : ay P o a w (.int .i64 r):=by
 have e:IntKind.i64.wrap (n - m)=r:=by rw[hr.h];have:=hr.lo;have:=hr.hi;rw[IntKind.wrap_i64];omega
 unfold ay
 simp[execOp,ho,hx.h,hy.h,eqGuard,binOp,Op.intArith,e]
class LtIs (n m:Int)(b:outParam Bool):Prop where
 h:decide (n<m)=b
class LeIs (n m:Int)(b:outParam Bool):Prop where
 h:decide (n≤m)=b
theorem gQ {t t': TypeId}{x y:Operand}(ho:o.op=.binOp .geq t x y t'){k:IntKind}{n m:Int}{b:Bool}[hx:Ev a x (.int k n)][hy:Ev a y (.int k m)][hr:LeIs m n b] : ay P o a w (.bool b):=by
 unfold ay
 simp[execOp,ho,hx.h,hy.h,eqGuard,binOp,Op.intCmp,← hr.h]
class MaxIs (n m:Int)(r:outParam Int):Prop where
 h:(if m > n then m else n)=r
theorem mQ {x y:Operand}{ts:Array TypeId}(ho:o.op=.call { callee:=.builtin .max,args:=#[x,y],argTypes:=ts }){k:IntKind}{n m r:Int}[hx:Ev a x (.int k n)][hy:Ev a y (.int k m)][hr:MaxIs n m r] : ay P o a w (.int k r):=by
 unfold ay
 simp only[execOp,ho,resolve,invoke,builtin,Sem.run_bind,Sem.run_pure,Result.andThen_ok,List.map_toArray,List.map_cons,List.map_nil,hx.h,hy.h,run_max_int2,hr.h]
end
open Go Go.RowKit
abbrev ri:=Nat×List Nat×(List Gx->Gx->Gx->Prop)
structure ItD where
 x0:Gx
 st:List ri
def fh (G:Gs)(χ:Nat->Gx):Gx->List ri->Gx
 | x,[]=>x
 | x,(k,_,_)::l=>if G k then fh G χ (χ k) l else x
def qw (G:Gs)(χ:Nat->Gx):Gx->List ri->Prop
 | _,[]=>True
 | x,(k,S,p)::l=>if G k then p (S.map χ) x (χ k)∧qw G χ (χ k) l else True
def cx (χ:Nat->Gx):Gx->List ri->Gx
 | x,[]=>x
 | _,(k,_,_)::l=>cx χ (χ k) l
def gY (χ:Nat->Gx):Gx->List ri->Prop
 | _,[]=>True
 | x,(k,S,p)::l=>p (S.map χ) x (χ k)∧gY χ (χ k) l
def ItD.cur (it:ItD)(G:Gs)(χ:Nat->Gx):List Ent:=(fh G χ it.x0 it.st).2
def CD (w0:World)(bs:List Nat)(items:List ItD)(H:List Ent)(G:Gs)(χ:Nat->Gx)(w:World):Prop:=
 (∀ it∈items,qw G χ it.x0 it.st)∧St w0 bs w (items.flatMap (fun it=>it.cur G χ)++H)
def mD (items:List ItD)(i:Nat):Bool:=items.any fun it=>it.st.any fun s=>s.1 == i
section
variable {G:Gs}{χ:Nat->Gx}{k:Nat}{x:Gx}
theorem pn {S:List Nat}(h:k∉S):S.map (up χ k x)=S.map χ:=by
 apply List.map_congr_left
 intro j hj
 exact dK χ x (fun e=>h (e ▸ hj))
theorem gy:∀ (l:List ri) (b:Bool) (y:Gx),(∀ s∈l,s.1≠k)->fh (up G k b) (up χ k x) y l=fh G χ y l
 | [],_,_,_=>rfl
 | (j,S,p)::l,b,y,h=>by
  have hj:j≠k:=h (j,S,p) (by simp)
  unfold fh
  rw[show up G k b j=G j from if_neg hj,dK χ x hj,gy l b (χ j) (fun s hs=>h s (by simp[hs]))]
theorem eP:∀ (l:List ri) (b:Bool) (y:Gx),(∀ s∈l,s.1≠k)->(∀ s∈l,G s.1=true->k∉s.2.1)->qw (up G k b) (up χ k x) y l=qw G χ y l
 | [],_,_,_,_=>rfl
 | (j,S,p)::l,b,y,h,h2=>by
  have hj:j≠k:=h (j,S,p) (by simp)
  unfold qw
  rw[show up G k b j=G j from if_neg hj,dK χ x hj,eP l b (χ j) (fun s hs=>h s (by simp[hs])) (fun s hs=>h2 s (by simp[hs]))]
  by_cases hg:G j=true
  ·rw[if_pos hg,if_pos hg,pn (h2 (j,S,p) (by simp) hg)]
  ·rw[if_neg hg,if_neg hg]
theorem fK:∀ (l1 l2:List ri) (q:List Nat×(List Gx->Gx->Gx->Prop)) (y:Gx),(∀ s∈l1,G s.1=true)->G k=false->fh G χ y (l1++(k,q)::l2)=cx χ y l1
 | [],l2,q,y,_,hk=>by simp[fh,cx,hk]
 | (j,S,p)::l1,l2,q,y,h,hk=>by
  have hj:G j=true:=h (j,S,p) (by simp)
  rw[List.cons_append]
  unfold fh cx
  rw[if_pos hj]
  exact fK l1 l2 q (χ j) (fun s hs=>h s (by simp[hs])) hk
theorem lc:∀ (l1 l2:List ri) (y:Gx),(∀ s∈l1,G s.1=true)->(∀ s∈l2,G s.1=false)->fh G χ y (l1++l2)=cx χ y l1
 | [],[],y,_,_=>rfl
 | [],(j,S,p)::l2,y,_,h=>by
  have hj:G j=false:=h (j,S,p) (by simp)
  simp[fh,cx,hj]
 | (j,S,p)::l1,l2,y,h,h2=>by
  have hj:G j=true:=h (j,S,p) (by simp)
  rw[List.cons_append]
  unfold fh cx
  rw[if_pos hj]
  exact lc l1 l2 (χ j) (fun s hs=>h s (by simp[hs])) h2
theorem nQ:∀ (l:List ri) (y:Gx),(∀ s∈l,G s.1=true)->fh G χ y l=cx χ y l
 | [],_,_=>rfl
 | (j,S,p)::l,y,h=>by
  unfold fh cx
  rw[if_pos (h (j,S,p) (by simp))]
  exact nQ l (χ j) (fun s hs=>h s (by simp[hs]))
theorem qv:∀ (l:List ri) (y:Gx),(∀ s∈l,G s.1=true)->qw G χ y l=gY χ y l
 | [],_,_=>rfl
 | (j,S,p)::l,y,h=>by
  unfold qw gY
  rw[if_pos (h (j,S,p) (by simp)),qv l (χ j) (fun s hs=>h s (by simp[hs]))]
theorem eZ:∀ (l1 l2:List ri) (y:Gx),(∀ s∈l1,G s.1=true)->qw G χ y (l1++l2)->gY χ y l1
 | [],l2,y,_,_=>trivial
 | (j,S,p)::l1,l2,y,h,ho=>by
  have hj:G j=true:=h (j,S,p) (by simp)
  rw[List.cons_append] at ho
  unfold qw at ho
  rw[if_pos hj] at ho
  exact⟨ho.1,eZ l1 l2 (χ j) (fun s hs=>h s (by simp[hs])) ho.2⟩
theorem gz:∀ (l1 l2:List ri) (q:List Nat×(List Gx->Gx->Gx->Prop)) (y:Gx),(∀ s∈l1,G s.1=true∧s.1≠k)->(∀ s∈l2,G s.1=false∧s.1≠k)->fh (up G k true) (up χ k x) y (l1++(k,q)::l2)=x
 | [],l2,q,y,_,h2=>by
  rw[List.nil_append]
  unfold fh
  rw[if_pos (bT G k true),bT]
  cases l2 with
  | nil=>rfl
  | cons s l2=>
   obtain⟨j,q⟩:=s
   obtain⟨h3,h4⟩:=h2 (j,q) (by simp)
   unfold fh
   rw[show up G k true j=G j from if_neg h4,h3]
   rfl
 | (j,S,p)::l1,l2,q,y,h,h2=>by
  obtain⟨h3,h4⟩:=h (j,S,p) (by simp)
  rw[List.cons_append]
  unfold fh
  rw[if_pos (show up G k true j=true from(if_neg h4).trans h3)]
  exact gz l1 l2 q _ (fun s hs=>h s (by simp[hs])) h2
theorem iC:∀ (l1 l2:List ri) (S:List Nat) (p:List Gx->Gx->Gx->Prop) (y:Gx),(∀ s∈l1,G s.1=true∧s.1≠k)->(∀ s∈l2,G s.1=false∧s.1≠k)->(∀ s∈l1,k∉s.2.1)->k∉S->gY χ y l1->p (S.map χ) (cx χ y l1) x->qw (up G k true) (up χ k x) y (l1++(k,S,p)::l2)
 | [],l2,S,p,y,_,h2,_,hS,_,hp=>by
  rw[List.nil_append]
  unfold qw
  rw[if_pos (bT G k true),bT,pn hS]
  refine⟨hp,?_⟩
  cases l2 with
  | nil=>trivial
  | cons s l2=>
   obtain⟨j,q⟩:=s
   obtain⟨h3,h4⟩:=h2 (j,q) (by simp)
   unfold qw
   rw[show up G k true j=G j from if_neg h4,h3]
   trivial
 | (j,S',q)::l1,l2,S,p,y,h,h2,hk,hS,ho,hp=>by
  obtain⟨h3,h4⟩:=h (j,S',q) (by simp)
  rw[List.cons_append]
  unfold qw
  rw[if_pos (show up G k true j=true from(if_neg h4).trans h3),dK χ x h4,pn (hk (j,S',q) (by simp))]
  exact⟨ho.1,iC l1 l2 S p _ (fun s hs=>h s (by simp[hs])) h2 (fun s hs=>hk s (by simp[hs])) hS ho.2 hp⟩
end
def Br (md:Region.Mode)(ops:Array Oper)(items:List ItD):Bool:=items.all fun it=>it.st.all fun s=>s.2.1.all fun j=>dR md ops j s.1 && !(j == s.1)
section
variable {w0 w:World}{bs:List Nat}{H:List Ent}
theorem dI {items:List ItD}{n:Nat}{it:ItD}(h:items[n]?=some it)(f:ItD->List Ent):(items.flatMap f++H).Perm (f it++(((items.take n).flatMap f++(items.drop (n+1)).flatMap f)++H)):=by
 have e:=dL h
 have e2:items.flatMap f=(items.take n).flatMap f++(f it++(items.drop (n+1)).flatMap f):=by
  have e3:=congrArg (fun q=>List.flatMap f q) e
  simpa only[List.flatMap_append,List.flatMap_cons] using e3
 rw[e2]
 generalize (items.take n).flatMap f=A
 generalize (items.drop (n+1)).flatMap f=B
 simp only[List.append_assoc]
 rw[← List.append_assoc A,← List.append_assoc (f it) A]
 exact List.perm_append_comm.append_right _
def fF (items:List ItD):List Nat:=items.flatMap fun it=>it.st.map (·.1)
end
section
variable {P:Program}{ops:Array Oper}{md:Region.Mode}{w0:World}{bs:List Nat}{H:List Ent}{items:List ItD}
variable {EE:List Nat->((Nat->Gx)->Act)->Prop}{k:Nat}{M:List Nat}{o:Oper}{rest:List Oper}{A A' : (Nat->Gx)->Act}{v:Value}
theorem CD.base {G:Gs}{χ:Nat->Gx}{w:World}(h:CD w0 bs items H G χ w):St w0 bs w H:=h.2.weak
theorem aS (hw:∀ χ,Region.wanted o (yielded ops (A χ).tmps)=true)(hm:mD items k=false)(hv:∀ χ w,St w0 bs w H->ay P o (A χ) w v)[hp:∀ χ,Put (A χ) o.dst v (A' χ)]
  (h:aX P md ops (CD w0 bs items H) (mD items) EE (k+1) M rest A'):aX P md ops (CD w0 bs items H) (mD items) EE k M (o::rest) A:=by
 refine .inl ⟨hw,fun _=>v,fun _ _ _=>rfl,?_,?_⟩
 ·unfold Yy
  rw[if_neg (by rw[hm];simp)]
  intro G χ w _ _ hC
  unfold bB
  rw[hv χ w (CD.base hC)]
  exact⟨rfl,hC⟩
 ·rw[if_neg (by rw[hm];simp),show(fun χ=>(A χ).put o.dst v)=A' from funext fun χ=>(hp χ).h]
  exact h
def Ft (md:Region.Mode)(ops:Array Oper)(M:List Nat)(k:Nat)(it:ItD)(s:Nat):Bool:=((it.st.take s).all fun q=>M.contains q.1 && dR md ops q.1 k) && ((it.st.drop s).all fun q=>dR md ops k q.1)
theorem CD.at {G:Gs}{χ:Nat->Gx}{w:World}{n s:Nat}{it:ItD}(h:CD w0 bs items H G χ w)(hit:items[n]?=some it)(hb:Ft md ops M k it s=true)(hT:∀ q∈M,dR md ops q k=true->G q=true)(hF:∀ j,dR md ops k j=true->G j=false) :
  gY χ it.x0 (it.st.take s)∧it.cur G χ=(cx χ it.x0 (it.st.take s)).2:=by
 simp only[Ft,Bool.and_eq_true,List.all_eq_true] at hb
 obtain⟨h1,h2⟩:=hb
 have g1:∀ q∈it.st.take s,G q.1=true:=fun q hq=>hT q.1 (by simpa using (h1 q hq).1) (h1 q hq).2
 have g2:∀ q∈it.st.drop s,G q.1=false:=fun q hq=>hF q.1 (h2 q hq)
 have hsp:it.st=it.st.take s++it.st.drop s:=(List.take_append_drop s it.st).symm
 have ho:=h.1 it (List.mem_of_getElem? hit)
 rw[hsp] at ho
 refine⟨eZ _ _ _ g1 ho,?_⟩
 unfold ItD.cur
 rw[hsp,lc _ _ _ g1 g2,← hsp]
theorem fU (n s:Nat){it:ItD}(hit:items[n]?=some it)
  (hw:∀ χ,Region.wanted o (yielded ops (A χ).tmps)=true) (hm:mD items k=false) (v:(Nat->Gx)->Value) (hs:kz md ops k v)
  (hv:∀ χ L w,gY χ it.x0 (it.st.take s)->St w0 bs w ((cx χ it.x0 (it.st.take s)).2++(L++H))->ay P o (A χ) w (v χ)) [hp:∀ χ,Put (A χ) o.dst (v χ) (A' χ)]
  (h:aX P md ops (CD w0 bs items H) (mD items) EE (k+1) M rest A')(hb:Ft md ops M k it s=true:=by kernel_rfl):aX P md ops (CD w0 bs items H) (mD items) EE k M (o::rest) A:=by
 refine .inl ⟨hw,v,hs,?_,?_⟩
 ·unfold Yy
  rw[if_neg (by rw[hm];simp)]
  intro G χ w hT hF hC
  obtain⟨hok,hcur⟩:=hC.at hit hb hT hF
  have hp1:=dI (H:=H) hit (fun it=>it.cur G χ)
  simp only[hcur] at hp1
  unfold bB
  rw[hv χ _ w hok (hC.2.perm hp1)]
  exact⟨rfl,hC⟩
 ·rw[if_neg (by rw[hm];simp),show(fun χ=>(A χ).put o.dst (v χ))=A' from funext fun χ=>(hp χ).h]
  exact h
theorem fJ (n s:Nat){it:ItD}{S:List Nat}{p:List Gx->Gx->Gx->Prop}(hit:items[n]?=some it)(hst:it.st[s]?=some (k,S,p))(hnd:vU (fF items)=true)(hdep:Br md ops items=true)
  (hpre:((it.st.take s).all fun q=>M.contains q.1 && dR md ops q.1 k)=true) (hpost:((it.st.drop (s+1)).all fun q=>dR md ops k q.1)=true)
  (hw:∀ χ,Region.wanted o (yielded ops (A χ).tmps)=true) (v:Gx->Value)
  (hv:∀ χ L w,gY χ it.x0 (it.st.take s)->St w0 bs w ((cx χ it.x0 (it.st.take s)).2++(L++H))->bB P o (A χ) w (fun u w''=>∃ x,u=v x∧p (S.map χ) (cx χ it.x0 (it.st.take s)) x∧St w0 bs w'' (x.2++(L++H)))) [hp:∀ χ,Put (A χ) o.dst (v (χ k)) (A' χ)]
  (h:aX P md ops (CD w0 bs items H) (mD items) EE (k+1) (k::M) rest A'):aX P md ops (CD w0 bs items H) (mD items) EE k M (o::rest) A:=by
 have hmem:it∈items:=List.mem_of_getElem? hit
 have hsplit:it.st=it.st.take s++(k,S,p)::it.st.drop (s+1):=dL hst
 have hm:mD items k=true:=by
  unfold mD
  rw[List.any_eq_true]
  refine⟨it,hmem,?_⟩
  rw[List.any_eq_true]
  exact⟨(k,S,p),by rw[hsplit];simp,by simp⟩
 have hdp:∀ it'∈items,∀ q∈it'.st,∀ j∈q.2.1,dR md ops j q.1=true∧j≠q.1:=by
  intro it' hi q hq j hj
  have:=List.all_eq_true.1 (List.all_eq_true.1 (List.all_eq_true.1 hdep it' hi) q hq) j hj
  simpa using this
 -- the keys
 have hkeys:=qA hnd
 have eitems:items=items.take n++it::items.drop (n+1):=dL hit
 have ekeys:fF items=fF (items.take n)++((it.st.take s).map (·.1)++k::(it.st.drop (s+1)).map (·.1))++fF (items.drop (n+1)):=by
  have e1:it.st.map (·.1)=(it.st.take s).map (·.1)++k::(it.st.drop (s+1)).map (·.1):=by
   have:=congrArg (List.map (·.1)) hsplit
   rw[List.map_append,List.map_cons] at this
   exact this
  rw[← e1]
  unfold fF
  rw[List.append_assoc,← List.flatMap_cons (f:=fun it:ItD=>it.st.map (·.1)),← List.flatMap_append,← eitems]
 rw[ekeys] at hkeys
 rw[List.nodup_append,List.nodup_append,List.nodup_append,List.nodup_cons] at hkeys
 obtain⟨⟨_,⟨_,⟨k1,_⟩,k2⟩,k3⟩,_,k4⟩:=hkeys
 have ka:∀ q∈it.st.take s,q.1≠k:=fun q hq=>k2 q.1 (List.mem_map_of_mem hq) k (by simp)
 have kb:∀ q∈it.st.drop (s+1),q.1≠k:=fun q hq e=>k1 (by rw[← e];exact List.mem_map_of_mem hq)
 have kc:∀ it'∈items.take n++items.drop (n+1),∀ q∈it'.st,q.1≠k:=by
  intro it' hi q hq
  rcases List.mem_append.1 hi with hi|hi
  ·exact k3 q.1 (List.mem_flatMap.2 ⟨it',hi,List.mem_map_of_mem hq⟩) k (by simp)
  ·exact fun e=>k4 k (by simp) q.1 (List.mem_flatMap.2 ⟨it',hi,List.mem_map_of_mem hq⟩) e.symm
 refine .inl ⟨hw,fun χ=>v (χ k),gK (by simp) v,?_,?_⟩
 ·unfold Yy
  rw[if_pos hm]
  intro G χ w hk hT hF hC
  have g1:∀ q∈it.st.take s,G q.1=true:=fun q hq=>by
   have:=List.all_eq_true.1 hpre q hq
   simp only[Bool.and_eq_true] at this
   exact hT q.1 (by simpa using this.1) this.2
  have g2:∀ q∈it.st.drop (s+1),G q.1=false:=fun q hq=>hF q.1 (List.all_eq_true.1 hpost q hq)
  have gd:∀ it'∈items,∀ q∈it'.st,G q.1=true->k∉q.2.1:=fun it' hi q hq hg hj=>by
   have:=hF q.1 (hdp it' hi q hq k hj).1
   rw[hg] at this;cases this
  have hp1:=dI (H:=H) hit (fun it=>it.cur G χ)
  have hcur:it.cur G χ=(cx χ it.x0 (it.st.take s)).2:=by
   unfold ItD.cur
   rw[hsplit,fK _ _ _ _ g1 hk]
   congr 2
   rw[← hsplit]
  simp only[hcur] at hp1
  have hokb:gY χ it.x0 (it.st.take s):=by
   have:=hC.1 it hmem
   rw[hsplit] at this
   exact eZ _ _ _ g1 this
  have h1:=hv χ _ w hokb (hC.2.perm hp1)
  have fin:∀ (u:Value) (w'' : World),(∃ x,u=v x∧p (S.map χ) (cx χ it.x0 (it.st.take s)) x∧St w0 bs w'' (x.2++(((items.take n).flatMap (fun it=>it.cur G χ)++(items.drop (n+1)).flatMap (fun it=>it.cur G χ))++H))) ->
    ∃ x,u=v (up χ k x k)∧CD w0 bs items H (up G k true) (up χ k x) w'':=by
   rintro u w'' ⟨x,hu,hpx,hS⟩
   have hcurx:it.cur (up G k true) (up χ k x)=x.2:=by
    unfold ItD.cur
    rw[hsplit,gz _ _ _ _ (fun q hq=>⟨g1 q hq,ka q hq⟩) (fun q hq=>⟨g2 q hq,kb q hq⟩)]
   have hoth:∀ l:List ItD,(∀ it'∈l,∀ q∈it'.st,q.1≠k)->l.flatMap (fun it=>it.cur (up G k true) (up χ k x))=l.flatMap (fun it=>it.cur G χ):=by
    intro l hl
    induction l with
    | nil=>rfl
    | cons a l ih=>
     rw[List.flatMap_cons,List.flatMap_cons,ih (fun it' hi=>hl it' (by simp[hi]))]
     congr 1
     unfold ItD.cur
     rw[gy _ _ _ (hl a (by simp))]
   have hq1:=dI (H:=H) hit (fun it=>it.cur (up G k true) (up χ k x))
   simp only[hcurx] at hq1
   rw[hoth _ (fun it' hi=>kc it' (List.mem_append_left _ hi)),hoth _ (fun it' hi=>kc it' (List.mem_append_right _ hi))] at hq1
   refine⟨x,by rw[bT];exact hu,fun it' hi=>?_,hS.perm hq1.symm⟩
   have hgd:=gd it' hi
   have hi0:=hi
   rw[eitems] at hi
   rcases List.mem_append.1 hi with hi|hi
   ·rw[eP _ _ _ (kc it' (List.mem_append_left _ hi)) hgd]
    exact hC.1 it' hi0
   ·rcases List.mem_cons.1 hi with rfl|hi
    ·rw[hsplit]
     have hself:∀ q∈it'.st,q.1=k->k∉q.2.1:=fun q hq e hj=>(hdp it' hi0 q hq k hj).2 e.symm
     exact iC _ _ _ _ _ (fun q hq=>⟨g1 q hq,ka q hq⟩) (fun q hq=>⟨g2 q hq,kb q hq⟩) (fun q hq=>hgd q (List.mem_of_mem_take hq) (g1 q hq)) (hself (k,S,p) (by rw[hsplit];simp) rfl) hokb hpx
    ·rw[eP _ _ _ (kc it' (List.mem_append_right _ hi)) hgd]
     exact hC.1 it' hi0
  unfold bB at h1 ⊢
  revert h1
  generalize (execOp (A χ).eval o).run P w=r
  intro h1
  cases r with
  | ok nx w'=>
   cases nx <;> simp only[] at h1 ⊢
   case value u=>exact fin _ _ h1
   case skip=>exact fin _ _ h1
   case enter f args=>exact h1.mono fun e w'' ⟨u,h2,h3⟩=>⟨u,h2,fin _ _ h3⟩
  | halt e w'=>simp only[] at h1
 ·rw[if_pos hm,show(fun χ=>(A χ).put o.dst (v (χ k)))=A' from funext fun χ=>(hp χ).h]
  exact h
theorem vj (n s m s2:Nat){it it2:ItD}{S:List Nat}{p:List Gx->Gx->Gx->Prop}(hit:items[n]?=some it)(hit2:(items.take n++items.drop (n+1))[m]?=some it2)(hst:it.st[s]?=some (k,S,p))
    
  (hw:∀ χ,Region.wanted o (yielded ops (A χ).tmps)=true) (v:Gx->Value)
  (hv:∀ χ L w,gY χ it.x0 (it.st.take s)->gY χ it2.x0 (it2.st.take s2)->St w0 bs w ((cx χ it.x0 (it.st.take s)).2++((cx χ it2.x0 (it2.st.take s2)).2++(L++H)))->bB P o (A χ) w (fun u w''=>∃ x,u=v x∧p (S.map χ) (cx χ it.x0 (it.st.take s)) x∧St w0 bs w'' (x.2++((cx χ it2.x0 (it2.st.take s2)).2++(L++H))))) [hp:∀ χ,Put (A χ) o.dst (v (χ k)) (A' χ)]
  (h:aX P md ops (CD w0 bs items H) (mD items) EE (k+1) (k::M) rest A')(hnd:vU (fF items)=true:=by kernel_rfl)(hdep:Br md ops items=true:=by kernel_rfl)(hpre:((it.st.take s).all fun q=>M.contains q.1 && dR md ops q.1 k)=true:=by kernel_rfl)(hpre2:Ft md ops M k it2 s2=true:=by kernel_rfl)(hpost:((it.st.drop (s+1)).all fun q=>dR md ops k q.1)=true:=by kernel_rfl):aX P md ops (CD w0 bs items H) (mD items) EE k M (o::rest) A:=by
 have hmem:it∈items:=List.mem_of_getElem? hit
 have hsplit:it.st=it.st.take s++(k,S,p)::it.st.drop (s+1):=dL hst
 have hm:mD items k=true:=by
  unfold mD
  rw[List.any_eq_true]
  refine⟨it,hmem,?_⟩
  rw[List.any_eq_true]
  exact⟨(k,S,p),by rw[hsplit];simp,by simp⟩
 have hdp:∀ it'∈items,∀ q∈it'.st,∀ j∈q.2.1,dR md ops j q.1=true∧j≠q.1:=by
  intro it' hi q hq j hj
  have:=List.all_eq_true.1 (List.all_eq_true.1 (List.all_eq_true.1 hdep it' hi) q hq) j hj
  simpa using this
 -- the keys
 have hkeys:=qA hnd
 have eitems:items=items.take n++it::items.drop (n+1):=dL hit
 have ekeys:fF items=fF (items.take n)++((it.st.take s).map (·.1)++k::(it.st.drop (s+1)).map (·.1))++fF (items.drop (n+1)):=by
  have e1:it.st.map (·.1)=(it.st.take s).map (·.1)++k::(it.st.drop (s+1)).map (·.1):=by
   have:=congrArg (List.map (·.1)) hsplit
   rw[List.map_append,List.map_cons] at this
   exact this
  rw[← e1]
  unfold fF
  rw[List.append_assoc,← List.flatMap_cons (f:=fun it:ItD=>it.st.map (·.1)),← List.flatMap_append,← eitems]
 rw[ekeys] at hkeys
 rw[List.nodup_append,List.nodup_append,List.nodup_append,List.nodup_cons] at hkeys
 obtain⟨⟨_,⟨_,⟨k1,_⟩,k2⟩,k3⟩,_,k4⟩:=hkeys
 have ka:∀ q∈it.st.take s,q.1≠k:=fun q hq=>k2 q.1 (List.mem_map_of_mem hq) k (by simp)
 have kb:∀ q∈it.st.drop (s+1),q.1≠k:=fun q hq e=>k1 (by rw[← e];exact List.mem_map_of_mem hq)
 have kc:∀ it'∈items.take n++items.drop (n+1),∀ q∈it'.st,q.1≠k:=by
  intro it' hi q hq
  rcases List.mem_append.1 hi with hi|hi
  ·exact k3 q.1 (List.mem_flatMap.2 ⟨it',hi,List.mem_map_of_mem hq⟩) k (by simp)
  ·exact fun e=>k4 k (by simp) q.1 (List.mem_flatMap.2 ⟨it',hi,List.mem_map_of_mem hq⟩) e.symm
 refine .inl ⟨hw,fun χ=>v (χ k),gK (by simp) v,?_,?_⟩
 ·unfold Yy
  rw[if_pos hm]
  intro G χ w hk hT hF hC
  have g1:∀ q∈it.st.take s,G q.1=true:=fun q hq=>by
   have:=List.all_eq_true.1 hpre q hq
   simp only[Bool.and_eq_true] at this
   exact hT q.1 (by simpa using this.1) this.2
  have g2:∀ q∈it.st.drop (s+1),G q.1=false:=fun q hq=>hF q.1 (List.all_eq_true.1 hpost q hq)
  have gd:∀ it'∈items,∀ q∈it'.st,G q.1=true->k∉q.2.1:=fun it' hi q hq hg hj=>by
   have:=hF q.1 (hdp it' hi q hq k hj).1
   rw[hg] at this;cases this
  have hp1:=dI (H:=H) hit (fun it=>it.cur G χ)
  have hcur:it.cur G χ=(cx χ it.x0 (it.st.take s)).2:=by
   unfold ItD.cur
   rw[hsplit,fK _ _ _ _ g1 hk]
   congr 2
   rw[← hsplit]
  have hmem2:it2∈items:=by
   have:=List.mem_of_getElem? hit2
   rw[eitems]
   rcases List.mem_append.1 this with h|h
   ·exact List.mem_append_left _ h
   ·exact List.mem_append_right _ (List.mem_cons_of_mem _ h)
  obtain⟨n2,hn2⟩:=List.getElem?_of_mem hmem2
  obtain⟨hok2,hcur2⟩:=hC.at hn2 hpre2 hT hF
  have hp2:=dI (H:=H) hit2 (fun it=>it.cur G χ)
  rw[List.flatMap_append] at hp2
  have hp3:=hp1.trans (List.Perm.append_left (it.cur G χ) hp2)
  simp only[hcur,hcur2] at hp3
  have hokb:gY χ it.x0 (it.st.take s):=by
   have:=hC.1 it hmem
   rw[hsplit] at this
   exact eZ _ _ _ g1 this
  have h1:=hv χ _ w hokb hok2 (hC.2.perm hp3)
  have fin:∀ (u:Value) (w'' : World),(∃ x,u=v x∧p (S.map χ) (cx χ it.x0 (it.st.take s)) x∧St w0 bs w'' (x.2++((cx χ it2.x0 (it2.st.take s2)).2++(((List.take m (items.take n++items.drop (n+1))).flatMap (fun it=>it.cur G χ)++(List.drop (m+1) (items.take n++items.drop (n+1))).flatMap (fun it=>it.cur G χ))++H)))) ->
    ∃ x,u=v (up χ k x k)∧CD w0 bs items H (up G k true) (up χ k x) w'':=by
   rintro u w'' ⟨x,hu,hpx,hS⟩
   have hcurx:it.cur (up G k true) (up χ k x)=x.2:=by
    unfold ItD.cur
    rw[hsplit,gz _ _ _ _ (fun q hq=>⟨g1 q hq,ka q hq⟩) (fun q hq=>⟨g2 q hq,kb q hq⟩)]
   have hoth:∀ l:List ItD,(∀ it'∈l,∀ q∈it'.st,q.1≠k)->l.flatMap (fun it=>it.cur (up G k true) (up χ k x))=l.flatMap (fun it=>it.cur G χ):=by
    intro l hl
    induction l with
    | nil=>rfl
    | cons a l ih=>
     rw[List.flatMap_cons,List.flatMap_cons,ih (fun it' hi=>hl it' (by simp[hi]))]
     congr 1
     unfold ItD.cur
     rw[gy _ _ _ (hl a (by simp))]
   have hq1:=dI (H:=H) hit (fun it=>it.cur (up G k true) (up χ k x))
   simp only[hcurx] at hq1
   rw[hoth _ (fun it' hi=>kc it' (List.mem_append_left _ hi)),hoth _ (fun it' hi=>kc it' (List.mem_append_right _ hi))] at hq1
   have hq2:=hq1.trans (List.Perm.append_left x.2 hp2)
   simp only[hcur2] at hq2
   refine⟨x,by rw[bT];exact hu,fun it' hi=>?_,hS.perm hq2.symm⟩
   have hgd:=gd it' hi
   have hi0:=hi
   rw[eitems] at hi
   rcases List.mem_append.1 hi with hi|hi
   ·rw[eP _ _ _ (kc it' (List.mem_append_left _ hi)) hgd]
    exact hC.1 it' hi0
   ·rcases List.mem_cons.1 hi with rfl|hi
    ·rw[hsplit]
     have hself:∀ q∈it'.st,q.1=k->k∉q.2.1:=fun q hq e hj=>(hdp it' hi0 q hq k hj).2 e.symm
     exact iC _ _ _ _ _ (fun q hq=>⟨g1 q hq,ka q hq⟩) (fun q hq=>⟨g2 q hq,kb q hq⟩) (fun q hq=>hgd q (List.mem_of_mem_take hq) (g1 q hq)) (hself (k,S,p) (by rw[hsplit];simp) rfl) hokb hpx
    ·rw[eP _ _ _ (kc it' (List.mem_append_right _ hi)) hgd]
     exact hC.1 it' hi0
  unfold bB at h1 ⊢
  revert h1
  generalize (execOp (A χ).eval o).run P w=r
  intro h1
  cases r with
  | ok nx w'=>
   cases nx <;> simp only[] at h1 ⊢
   case value u=>exact fin _ _ h1
   case skip=>exact fin _ _ h1
   case enter f args=>exact h1.mono fun e w'' ⟨u,h2,h3⟩=>⟨u,h2,fin _ _ h3⟩
  | halt e w'=>simp only[] at h1
 ·rw[if_pos hm,show(fun χ=>(A χ).put o.dst (v (χ k)))=A' from funext fun χ=>(hp χ).h]
  exact h
theorem yl (n s:Nat){it:ItD}{S:List Nat}{p:List Gx->Gx->Gx->Prop}(hit:items[n]?=some it)(hst:it.st[s]?=some (k,S,p))
   
  (f:Nat) (xs:List Operand) {ts:Array TypeId} (ho:o.op=.call { callee:=.value (.func f),args:=xs.toArray,argTypes:=ts }) (hw:∀ χ,Region.wanted o (yielded ops (A χ).tmps)=true) {vs:(Nat->Gx)->List Value} [hE:∀ χ,EvL (A χ) xs (vs χ)]
  (he:∀ args w,(callFunc f args).run P w=.ok (.enter f args) w) (v:Gx->Value)
  (hv:∀ χ L w,gY χ it.x0 (it.st.take s)->St w0 bs w ((cx χ it.x0 (it.st.take s)).2++(L++H))->Calls P f (vs χ).toArray w (fun e w''=>∃ x,e=.returned (v x)∧p (S.map χ) (cx χ it.x0 (it.st.take s)) x∧St w0 bs w'' (x.2++(L++H)))) [hp:∀ χ,Put (A χ) o.dst (v (χ k)) (A' χ)]
  (h:aX P md ops (CD w0 bs items H) (mD items) EE (k+1) (k::M) rest A')(hnd:vU (fF items)=true:=by kernel_rfl)(hdep:Br md ops items=true:=by kernel_rfl)(hpre:((it.st.take s).all fun q=>M.contains q.1 && dR md ops q.1 k)=true:=by kernel_rfl)(hpost:((it.st.drop (s+1)).all fun q=>dR md ops k q.1)=true:=by kernel_rfl):aX P md ops (CD w0 bs items H) (mD items) EE k M (o::rest) A:=
 fJ n s hit hst hnd hdep hpre hpost hw v (fun χ L w hok hS=>aw ho (hE:=hE χ) he ((hv χ L w hok hS).mono fun e w'' ⟨x,h1,h2,h3⟩=>⟨v x,h1,x,rfl,h2,h3⟩)) h
theorem mT {id:Nat}{l:List Oper}{Q:Exit->Act->World->Prop}{a:Act}{w:World}(items:List ItD)(H:List Ent)(hS:St w0 bs w (items.flatMap (fun it=>it.x0.2)++H))(hm:P.follows .mixedOrders=true)(hB:Region.lexB .any l.toArray=true)
  (h:aX P .any l.toArray (CD w0 bs items H) (mD items) (fun M A=>∀ χ G w',(∀ s∈M,G s=true)->CD w0 bs items H G χ w'->Q .normal (A χ) w') 0 [] l (fun _=>a)):(Code.region id l.toArray true).wp P Q a w:=by
 refine dP (X:=Gx) (CD w0 bs items H) (mD items) hm hB ⟨fun it _=>?_,?_⟩ h
 ·cases hst:it.st with
  | nil=>trivial
  | cons s l=>obtain⟨j,S,q⟩:=s;unfold qw;simp
 ·have e:∀ it:ItD,it.cur (fun _=>false) (fun _=>default)=it.x0.2:=fun it=>by
   unfold ItD.cur
   cases hst:it.st with
   | nil=>rfl
   | cons s l=>obtain⟨j,S,q⟩:=s;unfold fh;simp
  rw[show(fun it:ItD=>it.cur (fun _=>false) (fun _=>default))=(fun it=>it.x0.2) from funext e]
  exact hS.drawn _
theorem dz {id:Nat}{l:List Oper}{Q:Exit->Act->World->Prop}{a:Act}{w:World}(items:List ItD)(H H0:List Ent)(hF:items.flatMap (fun it=>it.x0.2)++H=H0)(hS:St w0 bs w H0)(hm:P.follows .mixedOrders=true)(hB:Region.lexB .any l.toArray=true)
  (h:aX P .any l.toArray (CD w0 bs items H) (mD items) (fun M A=>∀ χ G w',(∀ s∈M,G s=true)->CD w0 bs items H G χ w'->Q .normal (A χ) w') 0 [] l (fun _=>a)):(Code.region id l.toArray true).wp P Q a w:=by
 subst hF
 exact mT items H hS hm hB h
theorem kl {Q:Exit->Act->World->Prop}(hall:(items.all fun it=>it.st.all fun s=>M.contains s.1)=true)
  (h:∀ χ w',(∀ it∈items,gY χ it.x0 it.st)->St w0 bs w' (items.flatMap (fun it=>(cx χ it.x0 it.st).2)++H)->Q .normal (A χ) w') :
  aX P md ops (CD w0 bs items H) (mD items) (fun M A=>∀ χ G w',(∀ s∈M,G s=true)->CD w0 bs items H G χ w'->Q .normal (A χ) w') k M [] A:=by
 intro χ G w' hM hC
 have hG:∀ it∈items,∀ s∈it.st,G s.1=true:=fun it hi s hs=>by
  have:=List.all_eq_true.1 (List.all_eq_true.1 hall it hi) s hs
  exact hM s.1 (by simpa using this)
 refine h χ w' (fun it hi=>by rw[← qv _ _ (hG it hi)];exact hC.1 it hi) ?_
 have e:∀ l:List ItD,(∀ it∈l,it∈items)->l.flatMap (fun it=>it.cur G χ)=l.flatMap (fun it=>(cx χ it.x0 it.st).2):=by
  intro l hl
  induction l with
  | nil=>rfl
  | cons a l ih=>
   rw[List.flatMap_cons,List.flatMap_cons,ih (fun it hi=>hl it (by simp[hi]))]
   congr 1
   unfold ItD.cur
   rw[nQ _ _ (hG a (hl a (by simp)))]
 rw[← e items (fun _ h=>h)]
 exact hC.2
end
section
variable {P:Program}{o:Oper}{a:Act}{w w0:World}{bs:List Nat}{H:List Ent}{Φ:Value->World->Prop}{v:Value}
theorem bV {t:TypeId}{x y:Operand}(ho:o.op=.store t x y)(hS:St w0 bs w H){b off:Nat}[hx:Ev a x (.pointer (some ⟨b,off,none⟩))][hy:Ev a y v][hsc:ScalarT P t][h1c:OneCell v]
  {cs cs' : Array Value} {T:TypeId} {H' : List Ent} [hH:Has H b cs T] [hs:SetAt cs off v cs'] [hu:Upd H b cs' T H'] (h:∀ w',St w0 bs w' H'->Φ undef w'):bB P o a w Φ:=by
 have hb:=hS.has hH
 have h1:=cm (w:=w) (off:=off) hb
 rw[Array.getElem?_eq_getElem hs.lt] at h1
 have h2:=ga (w:=w) (off:=off) hb
 have hS' : St w0 bs (w.setCell ⟨b,off,none⟩ v) H':=hS.upd (Chg.setCell w ⟨b,off,none⟩ v) (by rw[eF hb,hs.h])
 have hr:(store ⟨b,off,none⟩ v).run P w=.ok () (w.setCell ⟨b,off,none⟩ v):=by
  rw[run_store _ _ _ _ _ h1c.h,h1];simp[h2]
 have hr2:(execOp a.eval o).run P w=.ok .skip (w.setCell ⟨b,off,none⟩ v):=by
  simp only[execOp,ho,hx.h,hy.h,Instr.storeAt,Instr.sureAddr,storeVar,Sem.run_bind,Sem.run_pure,Result.andThen_ok,aU hsc.s,h1c.cells,List.size_toArray,List.length_cons,List.length_nil,
   ne_eq,not_true_eq_false,if_false,Nat.zero_add,storeCells,Addr.add,if_true,hr]
 unfold bB
 rw[hr2]
 exact h _ hS'
theorem fo {a:Act}{w:World}{Φ:Value->World->Prop}(n:Nat)(hd:o.dst=some n)(hn:n<a.tmps.size)(h:im P o a w (fun a' w'=>∃ v,a'=a.put o.dst v∧Φ v w')):bB P o a w Φ:=by
 have inj:∀ u v:Value,a.put o.dst u=a.put o.dst v->u=v:=fun u v huv=>by
  rw[hd] at huv
  have:=congrArg (fun x:Act=>x.tmps[n]?) huv
  simpa [Act.put,hn] using this
 obtain⟨r,w',hr,h⟩:=h
 unfold bB
 rw[hr]
 rcases h with ⟨v',rfl,v,hv,hΦ⟩|⟨rfl,v,hv,hΦ⟩
 ·rw[inj _ _ hv];exact hΦ
 ·rw[← inj _ _ hv] at hΦ;exact hΦ
end
end Go.Mm
