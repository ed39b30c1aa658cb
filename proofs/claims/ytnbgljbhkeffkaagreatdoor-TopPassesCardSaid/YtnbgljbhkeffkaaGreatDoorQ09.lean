/-
  Contracts of what the law TopPasses reaches, part 9: Gen One Chain Mpe Als Apg Mrg.
-/
import Derived.Test.YtnbgljbhkeffkaaGreatDoorQ05
import Derived.Test.YtnbgljbhkeffkaaGreatDoorQ07
import Derived.Maps.RangeRun
open Go.Proofs.Tryz
set_option linter.unusedVariables false
set_option linter.unusedSimpArgs false
set_option maxHeartbeats 4000000
set_option maxRecDepth 100000
namespace Go.Mm
open Go Go.RowKit
section
variable {P:Program}{ops:Array Oper}{md:Region.Mode}{X:Type}{C:Gs->(Nat->X)->World->Prop}{m:Nat->Bool}
variable {EE:List Nat->((Nat->X)->Act)->Prop}{k:Nat}{M:List Nat}{o:Oper}{rest:List Oper}{A A' : (Nat->X)->Act}
theorem qP {j:Nat}(hj:(j == k || dR md ops j k)=true)(f:X->Value):kz md ops k (fun χ:Nat->X=>f (χ j)):=by
 intro χ χ' h
 simp only
 rw[h j (by simpa using hj)]
theorem xV (hw:∀ χ,Region.wanted o (yielded ops (A χ).tmps)=false)[hp:∀ χ,Put (A χ) o.dst undef (A' χ)](h:aX P md ops C m EE (k+1) M rest A'):aX P md ops C m EE k M (o::rest) A:=by
 refine .inr ⟨hw,?_⟩
 rw[show(fun χ=>(A χ).put o.dst undef)=A' from funext fun χ=>(hp χ).h]
 exact h
theorem eI (hw:∀ χ,Region.wanted o (yielded ops (A χ).tmps)=true)(hm:m k=false){v:Value}(hv:∀ G χ w,(∀ s∈M,dR md ops s k=true->G s=true)->C G χ w->ay P o (A χ) w v)[hp:∀ χ,Put (A χ) o.dst v (A' χ)]
  (h:aX P md ops C m EE (k+1) M rest A'):aX P md ops C m EE k M (o::rest) A:=by
 refine .inl ⟨hw,fun _=>v,fun _ _ _=>rfl,?_,?_⟩
 ·unfold Yy
  rw[if_neg (by rw[hm];simp)]
  intro G χ w hM _ hC
  unfold bB
  rw[hv G χ w hM hC]
  exact⟨rfl,hC⟩
 ·rw[if_neg (by rw[hm];simp),show(fun χ=>(A χ).put o.dst v)=A' from funext fun χ=>(hp χ).h]
  exact h
theorem lW (hw:∀ χ,Region.wanted o (yielded ops (A χ).tmps)=true)(hm:m k=false)(v:(Nat->X)->Value)(hs:kz md ops k v)(hv:∀ G χ w,(∀ s∈M,dR md ops s k=true->G s=true)->C G χ w->ay P o (A χ) w (v χ))[hp:∀ χ,Put (A χ) o.dst (v χ) (A' χ)]
  (h:aX P md ops C m EE (k+1) M rest A'):aX P md ops C m EE k M (o::rest) A:=by
 refine .inl ⟨hw,v,hs,?_,?_⟩
 ·unfold Yy
  rw[if_neg (by rw[hm];simp)]
  intro G χ w hM _ hC
  unfold bB
  rw[hv G χ w hM hC]
  exact⟨rfl,hC⟩
 ·rw[if_neg (by rw[hm];simp),show(fun χ=>(A χ).put o.dst (v χ))=A' from funext fun χ=>(hp χ).h]
  exact h
end
open Go Go.RowKit
section
variable {P:Program}{ops:Array Oper}{md:Region.Mode}{X:Type}{k0:Nat}{Ψ:World->Prop}{Φ:X->World->Prop}
variable {EE:List Nat->((Nat->X)->Act)->Prop}{k:Nat}{M:List Nat}{o:Oper}{rest:List Oper}{A A' : (Nat->X)->Act}
def C1 (k0:Nat)(Ψ:World->Prop)(Φ:X->World->Prop):Gs->(Nat->X)->World->Prop:=fun G χ w=>if G k0 then Φ (χ k0) w else Ψ w
def m1 (k0:Nat):Nat->Bool:=fun i=>i == k0
theorem gm [Inhabited X]{id:Nat}{l:List Oper}{Q:Exit->Act->World->Prop}{a:Act}{w:World}(k0:Nat)(Ψ:World->Prop)(Φ:X->World->Prop)(hΨ:Ψ { w with drawn:=w.drawn+1 })
  (h:aX P .any l.toArray (C1 k0 Ψ Φ) (m1 k0) (fun M A=>∀ χ G w',(∀ s∈M,G s=true)->C1 k0 Ψ Φ G χ w'->Q .normal (A χ) w') 0 [] l (fun _=>a))(hm:P.follows .mixedOrders=true:=by kernel_rfl)(hB:Region.lexB .any l.toArray=true:=by kernel_rfl):(Code.region id l.toArray true).wp P Q a w:=
 dP (X:=X) (C1 k0 Ψ Φ) (m1 k0) hm hB (by unfold C1;rw[if_neg (by simp)];exact hΨ) h
theorem cr (hw:∀ χ,Region.wanted o (yielded ops (A χ).tmps)=true)(hm:m1 k0 k=false){v:Value}(hv:∀ χ w,Ψ w->ay P o (A χ) w v)[hp:∀ χ,Put (A χ) o.dst v (A' χ)]
  (h:aX P md ops (C1 k0 Ψ Φ) (m1 k0) EE (k+1) M rest A')(ha:dR md ops k k0=true:=by kernel_rfl):aX P md ops (C1 k0 Ψ Φ) (m1 k0) EE k M (o::rest) A:=by
 refine .inl ⟨hw,fun _=>v,fun _ _ _=>rfl,?_,?_⟩
 ·unfold Yy
  rw[if_neg (by rw[hm];simp)]
  intro G χ w hM hF hC
  have hC2:=hC
  unfold C1 at hC2
  rw[hF k0 ha,if_neg (by simp)] at hC2
  unfold bB
  rw[hv χ w hC2]
  exact⟨rfl,hC⟩
 ·rw[if_neg (by rw[hm];simp),show(fun χ=>(A χ).put o.dst v)=A' from funext fun χ=>(hp χ).h]
  exact h
theorem iD (f:Nat)(xs:List Operand){ts:Array TypeId}(ho:o.op=.call { callee:=.value (.func f),args:=xs.toArray,argTypes:=ts })(hw:∀ χ,Region.wanted o (yielded ops (A χ).tmps)=true)(hm:m1 k0 k=false){vs:(Nat->X)->List Value}[hE:∀ χ,EvL (A χ) xs (vs χ)]
  (he:∀ args w,(callFunc f args).run P w=.ok (.enter f args) w) (v:Value) (hv:∀ χ w,Ψ w->Calls P f (vs χ).toArray w (fun e w''=>e=.returned v∧Ψ w'')) [hp:∀ χ,Put (A χ) o.dst v (A' χ)]
  (h:aX P md ops (C1 k0 Ψ Φ) (m1 k0) EE (k+1) M rest A')(ha:dR md ops k k0=true:=by kernel_rfl):aX P md ops (C1 k0 Ψ Φ) (m1 k0) EE k M (o::rest) A:=by
 refine .inl ⟨hw,fun _=>v,fun _ _ _=>rfl,?_,?_⟩
 ·unfold Yy
  rw[if_neg (by rw[hm];simp)]
  intro G χ w hM hF hC
  unfold C1 at hC
  have hf:=hF k0 ha
  rw[hf,if_neg (by simp)] at hC
  refine aw ho (hE:=hE χ) he ((hv χ w hC).mono fun e w'' ⟨h1,h2⟩=>⟨v,h1,rfl,?_⟩)
  unfold C1;rw[hf,if_neg (by simp)];exact h2
 ·rw[if_neg (by rw[hm];simp),show(fun χ=>(A χ).put o.dst v)=A' from funext fun χ=>(hp χ).h]
  exact h
theorem uv (hw:∀ χ,Region.wanted o (yielded ops (A χ).tmps)=true)(hk:k=k0)(v:X->Value)(hv:∀ χ w,Ψ w->bB P o (A χ) w (fun u w'=>∃ x,u=v x∧Φ x w'))[hp:∀ χ,Put (A χ) o.dst (v (χ k0)) (A' χ)]
  (h:aX P md ops (C1 k0 Ψ Φ) (m1 k0) EE (k+1) (k::M) rest A'):aX P md ops (C1 k0 Ψ Φ) (m1 k0) EE k M (o::rest) A:=by
 subst hk
 have hm:m1 k k=true:=by simp[m1]
 refine .inl ⟨hw,fun χ=>v (χ k),fun χ χ' h=>by show v (χ k)=v (χ' k);rw[h k (.inl rfl)],?_,?_⟩
 ·unfold Yy
  rw[if_pos hm]
  intro G χ w hk hM hF hC
  unfold C1 at hC
  rw[hk,if_neg (by simp)] at hC
  refine(ef (P:=P)).mono _ _ _ _ _ (fun u w' ⟨x,h2,h3⟩=>⟨x,by show u=v (up χ k x k);rw[bT];exact h2,?_⟩) (hv χ w hC)
  unfold C1;rw[bT,if_pos rfl,bT];exact h3
 ·rw[if_pos hm,show(fun χ=>(A χ).put o.dst (v (χ k)))=A' from funext fun χ=>(hp χ).h]
  exact h
theorem o5 {Q:Exit->Act->World->Prop}(hk:M.contains k0=true)(h:∀ χ w',Φ (χ k0) w'->Q .normal (A χ) w') :
  aX P md ops (C1 k0 Ψ Φ) (m1 k0) (fun M A=>∀ χ G w',(∀ s∈M,G s=true)->C1 k0 Ψ Φ G χ w'->Q .normal (A χ) w') k M [] A:=by
 intro χ G w' hG hC
 unfold C1 at hC
 rw[if_pos (hG k0 (by simpa using hk))] at hC
 exact h χ w' hC
end
class IxA (P:Program)(t:TypeId)(x y:Value)(v:outParam Value):Prop where
 h:∀ w,(Instr.index t x y).run P w=.ok v w
theorem cD {P:Program}{o:Oper}{a:Act}{w:World}{t:TypeId}{x y:Operand}(ho:o.op=.index t x y){u i v:Value}[hx:Ev a x u][hy:Ev a y i][hi:IxA P t u i v] : ay P o a w v:=by
 unfold ay
 simp only[execOp,ho,hx.h,hy.h,Sem.run_bind,hi.h,Result.andThen_ok,Sem.run_pure]
theorem eE {P:Program}{o:Oper}{a:Act}{w:World}{f:Nat}{cap:List Value}{y:Operand}(xs:List Operand){ts:Array TypeId}(ho:o.op=.call { callee:=.value y,args:=xs.toArray,argTypes:=ts }){vs:List Value}[hE:EvL a xs vs][hy:Ev a y (.func (.func f) #[] cap.toArray)]
  (he:∀ args w,(callFunc f args).run P w=.ok (.enter f args) w) {Φ:Value->World->Prop} (h:Calls P f (vs++cap).toArray w (fun e w''=>∃ u,e=.returned u∧Φ u w'')):bB P o a w Φ:=by
 have hr:(execOp a.eval o).run P w=.ok (.enter f (vs++cap).toArray) w:=by
  have hE':=hE.h
  have hy':=hy.h
  simp[execOp,ho,resolve,invoke,Deferred.ofValue,Act.eval,List.map_toArray,hE',he] at hy' ⊢
  simp[hy',resolve,invoke,Deferred.ofValue,hE',he]
 unfold bB
 rw[hr]
 exact h
open Go Go.RowKit
section
variable {X:Type}
abbrev lg (X:Type):=List (Nat×((Nat->X)->World->Prop))
def f4 (G:Gs)(χ:Nat->X):(World->Prop)->lg X->World->Prop
 | S,[],w=>S w
 | S,(k,T)::l,w=>if G k then f4 G χ (T χ) l w else S w
def iE (χ:Nat->X):(World->Prop)->lg X->Nat->World->Prop
 | S,_,0,w=>S w
 | _,(_,T)::l,n+1,w=>iE χ (T χ) l n w
 | S,[],_+1,w=>S w
theorem jm {G:Gs}{χ:Nat->X} : ∀ (S:World->Prop) (l:lg X) (n:Nat) (w:World),n≤l.length->(∀ s∈l.take n,G s.1=true)->(∀ s,l[n]?=some s->G s.1=false)->f4 G χ S l w=iE χ S l n w
 | S,[],0,w,_,_,_=>rfl
 | S,(k,T)::l,0,w,_,_,h=>by
  have:=h (k,T) rfl
  simp only at this
  simp[f4,iE,this]
 | S,[],n+1,w,hn,_,_=>by simp at hn
 | S,(k,T)::l,n+1,w,hn,h1,h2=>by
  have hk:G k=true:=h1 (k,T) (by simp)
  unfold f4 iE
  rw[if_pos hk]
  exact jm (T χ) l n w (by simpa using hn) (fun s hs=>h1 s (by simp[hs])) (fun s hs=>h2 s (by simpa using hs))
theorem nO {G:Gs}{χ:Nat->X}{k:Nat}{x:X} : ∀ (S:World->Prop) (l:lg X) (n:Nat) (T:(Nat->X)->World->Prop) (w:World),l[n]?=some (k,T)->(∀ s∈l.take n,G s.1=true)->(∀ s∈l.drop (n+1),G s.1=false∧s.1≠k)->T (up χ k x) w->f4 (up G k true) (up χ k x) S l w
 | S,[],n,T,w,h,_,_,_=>by simp at h
 | S,(k',T')::l,0,T,w,h,_,h2,hw=>by
  simp only[List.getElem?_cons_zero,Option.some.injEq,Prod.mk.injEq] at h
  obtain⟨rfl,rfl⟩:=h
  unfold f4
  rw[if_pos (bT G k' true)]
  cases l with
  | nil=>exact hw
  | cons s l=>
   obtain⟨k2,T2⟩:=s
   obtain⟨h3,h4⟩:=h2 (k2,T2) (by simp)
   unfold f4
   rw[if_neg (by rw[show up G k' true k2=G k2 from if_neg h4,h3];simp)]
   exact hw
 | S,(k',T')::l,n+1,T,w,h,h1,h2,hw=>by
  have hk:G k'=true:=h1 (k',T') (by simp)
  unfold f4
  rw[if_pos (by by_cases he:k'=k <;> simp[up,he,hk])]
  exact nO _ l n T w (by simpa using h) (fun s hs=>h1 s (by simp[hs])) (fun s hs=>h2 s (by simpa using hs)) hw
theorem nP {G:Gs}{χ:Nat->X}{W:World->Prop} : ∀ (S:World->Prop) (l:lg X) (w:World),(∀ w,S w->W w)->(∀ s∈l,∀ χ w,s.2 χ w->W w)->f4 G χ S l w->W w
 | S,[],w,h,_,hc=>h w hc
 | S,(k,T)::l,w,h,h2,hc=>by
  unfold f4 at hc
  by_cases hg:G k=true
  ·rw[if_pos hg] at hc
   exact nP _ l w (fun w hw=>h2 (k,T) (by simp) χ w hw) (fun s hs=>h2 s (by simp[hs])) hc
  ·rw[if_neg hg] at hc
   exact h w hc
def mP (l:lg X):Nat->Bool:=fun i=>l.any fun s=>s.1 == i
variable {P:Program}{ops:Array Oper}{md:Region.Mode}{Ψ:World->Prop}{Ph:lg X}
variable {EE:List Nat->((Nat->X)->Act)->Prop}{k:Nat}{M:List Nat}{o:Oper}{rest:List Oper}{A A' : (Nat->X)->Act}
abbrev CP (Ψ:World->Prop)(Ph:lg X):Gs->(Nat->X)->World->Prop:=fun G χ w=>f4 G χ Ψ Ph w
theorem aj [Inhabited X]{id:Nat}{l:List Oper}{Q:Exit->Act->World->Prop}{a:Act}{w:World}(Ψ:World->Prop)(Ph:lg X)(hΨ:Ψ { w with drawn:=w.drawn+1 })(hm:P.follows .mixedOrders=true)(hB:Region.lexB .any l.toArray=true)
  (h:aX P .any l.toArray (CP Ψ Ph) (mP Ph) (fun M A=>∀ χ G w',(∀ s∈M,G s=true)->CP Ψ Ph G χ w'->Q .normal (A χ) w') 0 [] l (fun _=>a)):(Code.region id l.toArray true).wp P Q a w:=by
 refine dP (X:=X) (CP Ψ Ph) (mP Ph) hm hB ?_ h
 unfold CP
 cases Ph with
 | nil=>exact hΨ
 | cons s l=>obtain⟨k,T⟩:=s;unfold f4;rw[if_neg (by simp)];exact hΨ
def mG (md:Region.Mode)(ops:Array Oper)(Ph:lg X)(M:List Nat)(k n:Nat):Bool:=
 decide (n≤Ph.length) && (Ph.take n).all (fun s=>M.contains s.1 && dR md ops s.1 k) && (match Ph[n]? with|some s=>dR md ops k s.1|none=>true)
theorem jy {G:Gs}{χ:Nat->X}{w:World}{n:Nat}(hs:mG md ops Ph M k n=true)(hM:∀ s∈M,dR md ops s k=true->G s=true)(hF:∀ j,dR md ops k j=true->G j=false):f4 G χ Ψ Ph w=iE χ Ψ Ph n w:=by
 unfold mG at hs
 simp only[Bool.and_eq_true,decide_eq_true_eq,List.all_eq_true] at hs
 obtain⟨⟨h1,h2⟩,h3⟩:=hs
 refine jm Ψ Ph n w h1 (fun s hs=>?_) (fun s hs=>?_)
 ·obtain⟨h4,h5⟩:=h2 s hs
  exact hM s.1 (by simpa using h4) h5
 ·rw[hs] at h3
  exact hF s.1 h3
theorem jh (hw:∀ χ,Region.wanted o (yielded ops (A χ).tmps)=false)[hp:∀ χ,Put (A χ) o.dst undef (A' χ)](h:aX P md ops (CP Ψ Ph) (mP Ph) EE (k+1) M rest A'):aX P md ops (CP Ψ Ph) (mP Ph) EE k M (o::rest) A:=xV hw h
theorem o7 (n:Nat)(ha:mG md ops Ph M k n=true)(hw:∀ χ,Region.wanted o (yielded ops (A χ).tmps)=true)(hm:mP Ph k=false)(v:(Nat->X)->Value)(hs:kz md ops k v)(hv:∀ χ w,iE χ Ψ Ph n w->ay P o (A χ) w (v χ))[hp:∀ χ,Put (A χ) o.dst (v χ) (A' χ)]
  (h:aX P md ops (CP Ψ Ph) (mP Ph) EE (k+1) M rest A'):aX P md ops (CP Ψ Ph) (mP Ph) EE k M (o::rest) A:=by
 refine .inl ⟨hw,v,hs,?_,?_⟩
 ·unfold Yy
  rw[if_neg (by rw[hm];simp)]
  intro G χ w hM hF hC
  have hC2:=hC
  unfold CP at hC2
  rw[jy ha hM hF] at hC2
  unfold bB
  rw[hv χ w hC2]
  exact⟨rfl,hC⟩
 ·rw[if_neg (by rw[hm];simp),show(fun χ=>(A χ).put o.dst (v χ))=A' from funext fun χ=>(hp χ).h]
  exact h
theorem zI {md:Region.Mode}{ops:Array Oper}{k:Nat}(v:Value):kz md ops k (fun _:Nat->X=>v):=fun _ _ _=>rfl
theorem bF (n:Nat)(hw:∀ χ,Region.wanted o (yielded ops (A χ).tmps)=true)(hm:mP Ph k=false){v:Value}(hv:∀ χ w,iE χ Ψ Ph n w->ay P o (A χ) w v)[hp:∀ χ,Put (A χ) o.dst v (A' χ)]
  (h:aX P md ops (CP Ψ Ph) (mP Ph) EE (k+1) M rest A')(ha:mG md ops Ph M k n=true:=by kernel_rfl):aX P md ops (CP Ψ Ph) (mP Ph) EE k M (o::rest) A:=o7 n ha hw hm (fun _=>v) (zI v) hv h
theorem dt (W:World->Prop)(hW:(∀ w,Ψ w->W w)∧∀ s∈Ph,∀ χ w,s.2 χ w->W w)(hw:∀ χ,Region.wanted o (yielded ops (A χ).tmps)=true)(hm:mP Ph k=false){v:Value}(hv:∀ χ w,W w->ay P o (A χ) w v)[hp:∀ χ,Put (A χ) o.dst v (A' χ)]
  (h:aX P md ops (CP Ψ Ph) (mP Ph) EE (k+1) M rest A'):aX P md ops (CP Ψ Ph) (mP Ph) EE k M (o::rest) A:=eI hw hm (fun _ χ w _ hC=>hv χ w (nP Ψ Ph w hW.1 hW.2 hC)) h
theorem xw (hw:∀ χ,Region.wanted o (yielded ops (A χ).tmps)=true)(hm:mP Ph k=false){v:Value}(hv:∀ χ w,ay P o (A χ) w v)[hp:∀ χ,Put (A χ) o.dst v (A' χ)]
  (h:aX P md ops (CP Ψ Ph) (mP Ph) EE (k+1) M rest A'):aX P md ops (CP Ψ Ph) (mP Ph) EE k M (o::rest) A:=eI hw hm (fun _ χ w _ _=>hv χ w) h
theorem oP {v:Value}(hv:∀ χ w,ay P o (A χ) w v)[hp:∀ χ,Put (A χ) o.dst v (A' χ)](h:aX P md ops (CP Ψ Ph) (mP Ph) EE (k+1) M rest A')(hw:∀ χ,Region.wanted o (yielded ops (A χ).tmps)=true:=by intro _;rfl)(hm:mP Ph k=false:=by rfl):aX P md ops (CP Ψ Ph) (mP Ph) EE k M (o::rest) A:=xw hw hm hv h
theorem eQ (j:Nat)(hw:∀ χ,Region.wanted o (yielded ops (A χ).tmps)=true)(hm:mP Ph k=false)(v:X->Value)(hv:∀ χ w,ay P o (A χ) w (v (χ j)))[hp:∀ χ,Put (A χ) o.dst (v (χ j)) (A' χ)]
  (h:aX P md ops (CP Ψ Ph) (mP Ph) EE (k+1) M rest A')(ha:(j == k || dR md ops j k)=true:=by kernel_rfl):aX P md ops (CP Ψ Ph) (mP Ph) EE k M (o::rest) A:=lW hw hm (fun χ=>v (χ j)) (qP ha v) (fun _ χ w _ _=>hv χ w) h
theorem dA (n:Nat)(f:Nat)(xs:List Operand){ts:Array TypeId}(ho:o.op=.call { callee:=.value (.func f),args:=xs.toArray,argTypes:=ts })(hw:∀ χ,Region.wanted o (yielded ops (A χ).tmps)=true)(hm:mP Ph k=false){vs:(Nat->X)->List Value}[hE:∀ χ,EvL (A χ) xs (vs χ)]
  (he:∀ args w,(callFunc f args).run P w=.ok (.enter f args) w) (v:Value) (hv:∀ χ w,iE χ Ψ Ph n w->Calls P f (vs χ).toArray w (fun e w''=>e=.returned v∧iE χ Ψ Ph n w'')) [hp:∀ χ,Put (A χ) o.dst v (A' χ)]
  (h:aX P md ops (CP Ψ Ph) (mP Ph) EE (k+1) M rest A')(ha:mG md ops Ph M k n=true:=by kernel_rfl):aX P md ops (CP Ψ Ph) (mP Ph) EE k M (o::rest) A:=by
 refine .inl ⟨hw,fun _=>v,fun _ _ _=>rfl,?_,?_⟩
 ·unfold Yy
  rw[if_neg (by rw[hm];simp)]
  intro G χ w hM hF hC
  unfold CP at hC
  rw[jy ha hM hF] at hC
  refine aw ho (hE:=hE χ) he ((hv χ w hC).mono fun e w'' ⟨h1,h2⟩=>⟨v,h1,rfl,?_⟩)
  unfold CP
  rw[jy ha hM hF]
  exact h2
 ·rw[if_neg (by rw[hm];simp),show(fun χ=>(A χ).put o.dst v)=A' from funext fun χ=>(hp χ).h]
  exact h
theorem aO (n:Nat){T:(Nat->X)->World->Prop}(hT:Ph[n]?=some (k,T))(ha:((Ph.take n).all (fun s=>M.contains s.1 && dR md ops s.1 k) && (Ph.drop (n+1)).all (fun s=>dR md ops k s.1 && s.1 != k))=true)(hw:∀ χ,Region.wanted o (yielded ops (A χ).tmps)=true)
  (v:X->Value) (hv:∀ χ w,iE χ Ψ Ph n w->bB P o (A χ) w (fun u w'=>∃ x,u=v x∧T (up χ k x) w')) [hp:∀ χ,Put (A χ) o.dst (v (χ k)) (A' χ)]
  (h:aX P md ops (CP Ψ Ph) (mP Ph) EE (k+1) (k::M) rest A'):aX P md ops (CP Ψ Ph) (mP Ph) EE k M (o::rest) A:=by
 have hlt:n<Ph.length:=(List.getElem?_eq_some_iff.1 hT).1
 have hm:mP Ph k=true:=by
  unfold mP
  rw[List.any_eq_true]
  exact⟨(k,T),List.mem_of_getElem? hT,by simp⟩
 simp only[Bool.and_eq_true,List.all_eq_true] at ha
 refine .inl ⟨hw,fun χ=>v (χ k),fun χ χ' h=>by show v (χ k)=v (χ' k);rw[h k (.inl rfl)],?_,?_⟩
 ·unfold Yy
  rw[if_pos hm]
  intro G χ w hk hM hF hC
  have h1:∀ s∈Ph.take n,G s.1=true:=fun s hs=>by
   obtain⟨h4,h5⟩:=ha.1 s hs
   exact hM s.1 (by simpa using h4) h5
  have h2:∀ s∈Ph.drop (n+1),G s.1=false∧s.1≠k:=fun s hs=>by
   obtain⟨h4,h5⟩:=ha.2 s hs
   exact⟨hF s.1 h4,by simpa using h5⟩
  unfold CP at hC
  rw[jm Ψ Ph n w (by omega) h1 (fun s hs=>by rw[hT] at hs;obtain rfl:=Option.some.inj hs;exact hk)] at hC
  refine(ef (P:=P)).mono _ _ _ _ _ (fun u w' ⟨x,h3,h4⟩=>⟨x,by show u=v (up χ k x k);rw[bT];exact h3,?_⟩) (hv χ w hC)
  exact nO Ψ Ph n T w' hT h1 h2 h4
 ·rw[if_pos hm,show(fun χ=>(A χ).put o.dst (v (χ k)))=A' from funext fun χ=>(hp χ).h]
  exact h
theorem aV {Q:Exit->Act->World->Prop}(hk:Ph.all (fun s=>M.contains s.1)=true)(h:∀ χ w',iE χ Ψ Ph Ph.length w'->Q .normal (A χ) w') :
  aX P md ops (CP Ψ Ph) (mP Ph) (fun M A=>∀ χ G w',(∀ s∈M,G s=true)->CP Ψ Ph G χ w'->Q .normal (A χ) w') k M [] A:=by
 intro χ G w' hG hC
 simp only[List.all_eq_true] at hk
 unfold CP at hC
 rw[jm Ψ Ph Ph.length w' (Nat.le_refl _) (fun s hs=>hG s.1 (by simpa using hk s (List.mem_of_mem_take hs))) (fun s hs=>by simp at hs)] at hC
 exact h χ w' hC
end
section
variable {P:Program}{ops:Array Oper}{md:Region.Mode}{w0 w:World}{bs:List Nat}{H H1:List Ent}{e e' : Ent}
variable {EE:List Nat->((Nat->Unit)->Act)->Prop}{k k0:Nat}{M:List Nat}{o:Oper}{rest:List Oper}{A A' : (Nat->Unit)->Act}
abbrev P1 (w0:World)(bs:List Nat)(k0:Nat)(e' : Ent)(H1:List Ent):lg Unit:=[(k0,fun _ w=>St w0 bs w (e'::H1))]
theorem gj {id:Nat}{l:List Oper}{Q:Exit->Act->World->Prop}{a:Act}{w:World}(k0:Nat)(e e' : Ent)(hS:St w0 bs w H)[hc:Cut H [e] H1]
  (h:aX P .any l.toArray (CP (fun w=>St w0 bs w (e::H1)) (P1 w0 bs k0 e' H1)) (mP (P1 w0 bs k0 e' H1)) (fun M A=>∀ χ G w',(∀ s∈M,G s=true)->CP (fun w=>St w0 bs w (e::H1)) (P1 w0 bs k0 e' H1) G χ w'->Q .normal (A χ) w') 0 [] l (fun _=>a))(hm:P.follows .mixedOrders=true:=by kernel_rfl)(hB:Region.lexB .any l.toArray=true:=by kernel_rfl):(Code.region id l.toArray true).wp P Q a w:=
 aj (X:=Unit) (fun w=>St w0 bs w (e::H1)) (P1 w0 bs k0 e' H1) (by have:=hS.fr ([e]) H1;exact this.drawn _) hm hB h
theorem m8 (hw:∀ χ,Region.wanted o (yielded ops (A χ).tmps)=true)(hm:mP (P1 w0 bs k0 e' H1) k=false){v:Value}(hv:∀ χ w x,St w0 bs w (x::H1)->ay P o (A χ) w v)[hp:∀ χ,Put (A χ) o.dst v (A' χ)]
  (h:aX P md ops (CP (fun w=>St w0 bs w (e::H1)) (P1 w0 bs k0 e' H1)) (mP (P1 w0 bs k0 e' H1)) EE (k+1) M rest A'):aX P md ops (CP (fun w=>St w0 bs w (e::H1)) (P1 w0 bs k0 e' H1)) (mP (P1 w0 bs k0 e' H1)) EE k M (o::rest) A:=
 dt (fun w=>∃ x,St w0 bs w (x::H1)) ⟨fun w h=>⟨_,h⟩,fun s hs χ w h=>by simp only[List.mem_singleton] at hs;subst hs;exact⟨_,h⟩⟩ hw hm (fun χ w hw=>by obtain⟨x,hx⟩:=hw;exact hv χ w x hx) h
theorem uo (hk:k=k0)(hw:∀ χ,Region.wanted o (yielded ops (A χ).tmps)=true)(hv:∀ χ w,St w0 bs w (e::H1)->bB P o (A χ) w (fun u w'=>u=undef∧St w0 bs w' (e'::H1)))[hp:∀ χ,Put (A χ) o.dst undef (A' χ)]
  (h:aX P md ops (CP (fun w=>St w0 bs w (e::H1)) (P1 w0 bs k0 e' H1)) (mP (P1 w0 bs k0 e' H1)) EE (k+1) (k::M) rest A'):aX P md ops (CP (fun w=>St w0 bs w (e::H1)) (P1 w0 bs k0 e' H1)) (mP (P1 w0 bs k0 e' H1)) EE k M (o::rest) A:=by
 subst hk
 refine aO 0 rfl rfl hw (fun _=>undef) (fun χ w hw=>?_) h
 exact(ef (P:=P)).mono _ _ _ _ _ (fun u w' ⟨h1,h2⟩=>⟨(),h1,h2⟩) (hv χ w hw)
theorem o4 {Q:Exit->Act->World->Prop}(hk:M.contains k0=true)(h:∀ χ w',St w0 bs w' (e'::H1)->Q .normal (A χ) w') :
  aX P md ops (CP (fun w=>St w0 bs w (e::H1)) (P1 w0 bs k0 e' H1)) (mP (P1 w0 bs k0 e' H1)) (fun M A=>∀ χ G w',(∀ s∈M,G s=true)->CP (fun w=>St w0 bs w (e::H1)) (P1 w0 bs k0 e' H1) G χ w'->Q .normal (A χ) w') k M [] A:=
 aV (by simpa using hk) (fun χ w' hw=>h χ w' hw)
end
open Go Go.RowKit
section
variable {W w0 w:World}{As bs:List Nat}{M:Nat}{Ms Ms' : List (Nat×List (Value×Value))}{H:List Ent}{P:Program}{o:Oper}{a:Act}{k e:TypeId}{x z v:Value}{l:List (Value×Value)}{Φ:Value->World->Prop}
def Jm (W:World)(As:List Nat)(Ms:List (Nat×List (Value×Value)))(H:List Ent)(w:World):Prop:=∃ w0 bs,Mps W As w0 bs Ms∧St w0 bs w H
theorem jA {tt:TypeId}{mo ko:Operand}(ho:o.op=.mapEntry tt mo ko)(hB:Mps W As w0 bs Ms)(hS:St w0 bs w H)[hx:Ev a mo (.map (some M))][hy:Ev a ko x][ht:MapTy P tt k e][hk:KeyOk P k x](hz:∀ w,(zeroValue e).run P w=.ok z w)[hu:MapUp Ms M [] [(x,z)] Ms']
  (h:∀ (n ck:Nat) w',w'.heap[M]?=some (.map #[⟨x,z,n⟩] ck)->Mps W As w' (wl H) Ms'->St w' (wl H) w' H->Φ (.tuple #[z,.int .i64 n]) w'):bB P o a w Φ:=by
 obtain⟨es,ck,h1,h2,h3⟩:=hB.now hS hu.mem
 simp only at h1 h2
 have hes:es=#[]:=by
  have:es.toList=[]:=by simpa using h2
  rw[← Array.toArray_toList (xs:=es),this]
 subst hes
 have hg:=fH (P:=P) h1
 have hfk:=fI w ht.k h2 (lP (P:=P) (t:=k) (x:=x))
 obtain⟨g1,g2⟩:=hB.turn hS (hu:=hu) (es:=#[⟨x,z,ck⟩]) (ck:=ck+1) (by simp) (by simp)
 have hlt:M<w.heap.size:=bG h1
 have hr:(execOp a.eval o).run P w=.ok (.value (.tuple #[z,.int .i64 ck])) (w.putCells M (.map #[⟨x,z,ck⟩] (ck+1))):=by
  simp[execOp,ho,hx.h,hy.h,Instr.mapEntry,run_underlying ht.h,hg,hk.h,hfk,hz w,MapKept.run_setObj_map _ h1,Result.andThen,World.putCells,goInt]
 unfold bB
 rw[hr]
 exact h ck (ck+1) _ (by simp[World.putCells,hlt]) g1 g2
theorem jB {tt:TypeId}{mo so vo:Operand}(ho:o.op=.entryStore tt mo so vo)(hB:Mps W As w0 bs Ms)(hS:St w0 bs w H){n ck:Nat}(hM:w.heap[M]?=some (.map #[⟨x,z,n⟩] ck))[hx:Ev a mo (.map (some M))][hy:Ev a so (.int .i64 n)][hv:Ev a vo v][hu:MapUp Ms M [(x,z)] [(x,v)] Ms']
  (h:∀ w',Mps W As w' (wl H) Ms'->St w' (wl H) w' H->Φ undef w'):bB P o a w Φ:=by
 obtain⟨es,Lq,h1,h2,h3⟩:=hB.now hS hu.mem
 simp only at h1 h2
 rw[hM] at h1
 obtain⟨rfl,rfl⟩ : #[⟨x,z,n⟩]=es∧ck=Lq:=by simpa using h1
 have hg:=fH (P:=P) hM
 obtain⟨g1,g2⟩:=hB.turn hS (hu:=hu) (es:=#[⟨x,v,n⟩]) (ck:=ck) (by simp) (by simpa using h3)
 have hr:(execOp a.eval o).run P w=.ok .skip (w.putCells M (.map #[⟨x,v,n⟩] ck)):=by
  simp[execOp,ho,hx.h,hy.h,hv.h,Instr.entryStore,hg,asInt,asIntOf,MapKept.run_setObj_map _ hM,Result.andThen,World.putCells,Array.modify,Array.modifyM]
 unfold bB
 rw[hr]
 exact h _ g1 g2
end
section
variable {W w0 w:World}{As bs:List Nat}{M:Nat}{Ms Ms' : List (Nat×List (Value×Value))}{H:List Ent}{P:Program}{o:Oper}{a:Act}{k e:TypeId}{x y v:Value}{post:Act->World->Prop}
theorem iu {xo yo:Operand}{tt t2:TypeId}(ho:o.op=.call { callee:=.builtin .delete,args:=#[xo,yo],argTypes:=#[tt,t2] })(hB:Mps W As w0 bs Ms)(hS:St w0 bs w H)[hx:Ev a xo (.map (some M))][hy:Ev a yo x][ht:MapTy P tt k e][hk:KeyOk P k x][hM:MapIn Ms M [(y,v)]][hf:KeyFind P k x [(y,v)] (some 0)]
  [hu:MapUp Ms M [(y,v)] [] Ms'] {a' : Act} [hp:Put a o.dst (.tuple #[]) a'] (h:∀ w',Mps W As w' (wl H) Ms'->St w' (wl H) w' H->post a' w'):im P o a w post:=
 tk (l:=[(y,v)]) xo yo tt t2 ho hB hS (.inr ⟨rfl,rfl⟩) (hu:=by simpa using hu) h
end
section
variable {W w0 w:World}{As bs:List Nat}{M:Nat}{Ms Ms' : List (Nat×List (Value×Value))}{H:List Ent}{P:Program}{o:Oper}{a:Act}{k e:TypeId}{x u v:Value}{post:Act->World->Prop}
theorem gL {tt:TypeId}{xo yo zo:Operand}(ho:o.op=.mapUpdate tt xo yo zo)(hB:Mps W As w0 bs Ms)(hS:St w0 bs w H)[hx:Ev a xo (.map (some M))][hy:Ev a yo x][hz:Ev a zo u][ht:MapTy P tt k e][hk:KeyOk P k x][hM:MapIn Ms M []]
  [hu:MapUp Ms M [] [(x,u)] Ms'] {a' : Act} [hp:Put a o.dst undef a'] (h:∀ w',Mps W As w' (wl H) Ms'->St w' (wl H) w' H->post a' w'):im P o a w post:=
 wq (l:=[]) (hf:=lP) tt xo yo zo ho hB hS (hu:=by simpa using hu) h
theorem qb {t t': TypeId}{x:Operand}(ho:o.op=.binOp .eql t x (.const (.map none)) t')[ht:MapTy P t k e][hx:Ev a x (.map (some M))] : ay P o a w (.bool false):=by
 have hg:∀ y,(eqGuard .eql t x y (.map (some M)) (.map none)).run P w=.ok () w:=fun y=>by simp[eqGuard]
 have hc:a.eval (.const (.map none))=.map none:=rfl
 have hb:=run_eql_map_nil (P:=P) w t k e (some M) ht.h
 unfold ay
 simp only[execOp,ho,hx.h,hc,Sem.run_bind,hg,hb,Result.andThen_ok,Sem.run_pure]
 rfl
theorem lx {t t': TypeId}{x:Operand}(ho:o.op=.binOp .neq t x (.const (.map none)) t')[ht:MapTy P t k e][hx:Ev a x (.map (some M))] : ay P o a w (.bool true):=by
 have hg:∀ y,(eqGuard .neq t x y (.map (some M)) (.map none)).run P w=.ok () w:=fun y=>by simp[eqGuard]
 have hc:a.eval (.const (.map none))=.map none:=rfl
 have hb:=run_neq_map_nil (P:=P) w t k e (some M) ht.h
 unfold ay
 simp only[execOp,ho,hx.h,hc,Sem.run_bind,hg,hb,Result.andThen_ok,Sem.run_pure]
 rfl
end
section
variable {R H1:List Ent}{e x:Ent}{l:List Ent}
instance (priority:=200) yY [h:Rem (e::(l++R)) x H1] : Rem ((e::l)++R) x H1:=h
end
open Go Go.RowKit
section
variable {P:Program}{ops:Array Oper}{md:Region.Mode}{w0 w:World}{bs:List Nat}{H H0:List Ent}{ka kb:Nat}{z v:Array Value}{t:TypeId}
variable {EE:List Nat->((Nat->Gx)->Act)->Prop}{k:Nat}{M:List Nat}{o:Oper}{rest:List Oper}{A A' : (Nat->Gx)->Act}
abbrev pE (ka kb:Nat)(z v:Array Value)(t:TypeId):List Item:=[⟨(undef,[]),[(ka,fun _ x=>∃ b,x=(.pointer (some ⟨b,0,none⟩),[⟨b,z,t,true⟩])),(kb,fun y x=>∃ b,y.1=.pointer (some ⟨b,0,none⟩)∧x.2=[⟨b,v,t,true⟩])]⟩]
theorem fR {id:Nat}{l:List Oper}{Q:Exit->Act->World->Prop}{a:Act}{w:World}(ka kb:Nat)(z v:Array Value)(t:TypeId)(hS:St w0 bs w H)
  (h:aX P .any l.toArray (CI w0 bs (pE ka kb z v t) H) (mI (pE ka kb z v t)) (fun M A=>∀ χ G w',(∀ s∈M,G s=true)->CI w0 bs (pE ka kb z v t) H G χ w'->Q .normal (A χ) w') 0 [] l (fun _=>a))(hm:P.follows .mixedOrders=true:=by kernel_rfl)(hB:Region.lexB .any l.toArray=true:=by kernel_rfl):(Code.region id l.toArray true).wp P Q a w:=
 ao (pE ka kb z v t) H H (by simp) hS hm hB h
theorem rf (hk:k=ka)(ho:o.op=.alloc t)[hz:ZeroT P t z](hne:vU [ka,kb]=true)(hw:∀ χ,Region.wanted o (yielded ops (A χ).tmps)=true)[hp:∀ χ,Put (A χ) o.dst (χ k).1 (A' χ)]
  (h:aX P md ops (CI w0 bs (pE ka kb z v t) H) (mI (pE ka kb z v t)) EE (k+1) (k::M) rest A')(hpost:dR md ops k kb=true:=by kernel_rfl):aX P md ops (CI w0 bs (pE ka kb z v t) H) (mI (pE ka kb z v t)) EE k M (o::rest) A:=by
 subst hk
 refine ap 0 0 rfl rfl hne rfl (by simpa using hpost) hw (fun x=>x.1) ?_ h
 intro χ L w _ hS
 exact bE ho (show St w0 bs w (L++_) from hS) (fun b w' _ hS'=>⟨(_,[_]),rfl,⟨b,rfl⟩,hS'⟩)
theorem re (hk:k=kb){x y:Operand}(ho:o.op=.store t x y)(hne:vU [ka,kb]=true)(hw:∀ χ,Region.wanted o (yielded ops (A χ).tmps)=true)
  [hx:∀ χ,Ev (A χ) x (χ ka).1] [hy:∀ χ,Ev (A χ) y (.agg v)] {n:Nat} [hag:AggT P t n] [h1c:OneCells v] [hs:SetsAt z 0 v v] [hn:SizeIs v n] [hp:∀ χ,Put (A χ) o.dst undef (A' χ)]
  (h:aX P md ops (CI w0 bs (pE ka kb z v t) H) (mI (pE ka kb z v t)) EE (k+1) (k::M) rest A')(hpre:(M.contains ka && dR md ops ka k)=true:=by kernel_rfl):aX P md ops (CI w0 bs (pE ka kb z v t) H) (mI (pE ka kb z v t)) EE k M (o::rest) A:=by
 subst hk
 refine ap 0 1 rfl rfl hne (by simpa using hpre) rfl hw (fun _=>undef) ?_ h
 rintro χ L w ⟨⟨b,hb⟩,_⟩ hS
 have hS:St w0 bs w ((χ ka).2++(L++H)):=hS
 rw[hb] at hS
 have hS:St w0 bs w (⟨b,z,t,true⟩::(L++H)):=hS
 have hb1:(χ ka).1=.pointer (some ⟨b,0,none⟩):=by rw[hb]
 exact aZ ho hS hb1 (fun w' hS'=>⟨(undef,[⟨b,v,t,true⟩]),rfl,⟨b,hb1,rfl⟩,hS'⟩)
theorem l9 {Q:Exit->Act->World->Prop}(hk:(M.contains ka && M.contains kb)=true)(h:∀ b χ w',(χ ka).1=.pointer (some ⟨b,0,none⟩)->St w0 bs w' (⟨b,v,t,true⟩::H)->Q .normal (A χ) w') :
  aX P md ops (CI w0 bs (pE ka kb z v t) H) (mI (pE ka kb z v t)) (fun M A=>∀ χ G w',(∀ s∈M,G s=true)->CI w0 bs (pE ka kb z v t) H G χ w'->Q .normal (A χ) w') k M [] A:=by
 refine bC (by simpa using hk) ?_
 intro χ w hok hS
 obtain⟨⟨b,hb⟩,⟨b',hb1,hb2⟩,_⟩:=hok _ (.head _)
 have hS:St w0 bs w (((χ kb).2++[])++H):=hS
 rw[hb2] at hS
 refine h b' χ w hb1 ?_
 simpa using hS
end
open Go Go.RowKit
section
variable {X:Type}
theorem nN {G:Gs}{χ:Nat->X} : ∀ (S:World->Prop) (l:lg X) (n:Nat) (w:World),(∀ s,l[n]?=some s->G s.1=false)->n≤l.length->f4 G χ S l w->∃ i,i≤n∧iE χ S l i w
 | S,[],n,w,_,hn,h=>⟨0,Nat.zero_le _,h⟩
 | S,(k,T)::l,0,w,h0,_,h=>by
  have:=h0 (k,T) rfl
  unfold f4 at h
  rw[if_neg (by simp only at this;rw[this];simp)] at h
  exact⟨0,Nat.le_refl _,h⟩
 | S,(k,T)::l,n+1,w,h0,hn,h=>by
  unfold f4 at h
  by_cases hg:G k=true
  ·rw[if_pos hg] at h
   obtain⟨i,hi,hw⟩:=nN (T χ) l n w (fun s hs=>h0 s (by simpa using hs)) (by simpa using hn) h
   exact⟨i+1,by omega,hw⟩
  ·rw[if_neg hg] at h
   exact⟨0,Nat.zero_le _,h⟩
variable {P:Program}{ops:Array Oper}{md:Region.Mode}{Ψ:World->Prop}{Ph:lg X}
variable {EE:List Nat->((Nat->X)->Act)->Prop}{k:Nat}{M:List Nat}{o:Oper}{rest:List Oper}{A A' : (Nat->X)->Act}
theorem jW (n:Nat)(W:World->Prop)(hn:(decide (n≤Ph.length) && (match Ph[n]? with|some s=>dR md ops k s.1|none=>true))=true)(hW:∀ i,i≤n->∀ χ w,iE χ Ψ Ph i w->W w)(hw:∀ χ,Region.wanted o (yielded ops (A χ).tmps)=true)(hm:mP Ph k=false){v:Value}(hv:∀ χ w,W w->ay P o (A χ) w v)[hp:∀ χ,Put (A χ) o.dst v (A' χ)]
  (h:aX P md ops (CP Ψ Ph) (mP Ph) EE (k+1) M rest A'):aX P md ops (CP Ψ Ph) (mP Ph) EE k M (o::rest) A:=by
 simp only[Bool.and_eq_true,decide_eq_true_eq] at hn
 refine .inl ⟨hw,fun _=>v,fun _ _ _=>rfl,?_,?_⟩
 ·unfold Yy
  rw[if_neg (by rw[hm];simp)]
  intro G χ w hM hF hC
  obtain⟨i,hi,hw'⟩:=nN Ψ Ph n w (fun s hs=>by
   have:=hn.2
   rw[hs] at this
   exact hF s.1 this) hn.1 hC
  unfold bB
  rw[hv χ w (hW i hi χ w hw')]
  exact⟨rfl,hC⟩
 ·rw[if_neg (by rw[hm];simp),show(fun χ=>(A χ).put o.dst v)=A' from funext fun χ=>(hp χ).h]
  exact h
end
abbrev Fy:=Value×List Ent×Nat
section
variable {P:Program}{w0 w:World}{bs:List Nat}{H H0 Eo:List Ent}{b:Nat}{T e:TypeId}{cs:Value->Array Value}{v:Value}{size n:Nat}{xs:List Value}{news:Array Value}
abbrev Hw (w0:World)(bs:List Nat)(b:Nat)(T:TypeId)(cs:Value->Array Value)(v:Value)(Eo H:List Ent):World->Prop:=fun w=>St w0 bs w (⟨b,cs v,T,true⟩::(Eo++H))
abbrev Fu (w0:World)(bs:List Nat)(b:Nat)(T e:TypeId)(cs:Value->Array Value)(v:Value)(Eo H:List Ent)(size n:Nat)(xs:List Value)(news:Array Value):lg Fy:=
 [(6,fun χ w=>St w0 bs w (⟨(χ 6).2.2,news,e,true⟩::⟨b,cs v,T,true⟩::(Eo++H))),
 (7,fun χ w=>Sl e size (χ 7).1 (n+1) (xs++news.toList) (χ 7).2.1∧(χ 7).1≠.slice none 0 0∧St w0 bs w ((χ 7).2.1++(⟨b,cs v,T,true⟩::H))),
 (10,fun χ w=>Sl e size (χ 7).1 (n+1) (xs++news.toList) (χ 7).2.1∧(χ 7).1≠.slice none 0 0∧St w0 bs w ((χ 7).2.1++(⟨b,cs (χ 7).1,T,true⟩::H)))]
theorem iA {id:Nat}{l:List Oper}{Q:Exit->Act->World->Prop}{a:Act}{w:World}(b:Nat)(T e:TypeId)(cs:Value->Array Value)(v:Value)(Eo H:List Ent)(size n:Nat)(xs:List Value)(news:Array Value)(hS:St w0 bs w H0)[hpk:Pick (⟨b,cs v,T,true⟩::(Eo++H)) H0]
  (h:aX P .any l.toArray (CP (Hw w0 bs b T cs v Eo H) (Fu w0 bs b T e cs v Eo H size n xs news)) (mP (Fu w0 bs b T e cs v Eo H size n xs news)) (fun M A=>∀ χ G w',(∀ s∈M,G s=true)->CP (Hw w0 bs b T cs v Eo H) (Fu w0 bs b T e cs v Eo H size n xs news) G χ w'->Q .normal (A χ) w') 0 [] l (fun _=>a))(hm:P.follows .mixedOrders=true:=by kernel_rfl)(hB:Region.lexB .any l.toArray=true:=by kernel_rfl):(Code.region id l.toArray true).wp P Q a w:=
 aj (X:=Fy) _ _ (hS.p.drawn _) hm hB h
variable {ops:Array Oper}{md:Region.Mode}{EE:List Nat->((Nat->Fy)->Act)->Prop}{k:Nat}{M:List Nat}{o:Oper}{rest:List Oper}{A A' : (Nat->Fy)->Act}
theorem lf (hw:∀ χ,Region.wanted o (yielded ops (A χ).tmps)=true)(hm:mP (Fu w0 bs b T e cs v Eo H size n xs news) k=false){u:Value}(hv:∀ χ w Y,St w0 bs w (⟨b,cs v,T,true⟩::(Y++H))->ay P o (A χ) w u)[hp:∀ χ,Put (A χ) o.dst u (A' χ)]
  (h:aX P md ops (CP (Hw w0 bs b T cs v Eo H) (Fu w0 bs b T e cs v Eo H size n xs news)) (mP (Fu w0 bs b T e cs v Eo H size n xs news)) EE (k+1) M rest A')(hn:dR md ops k 10=true:=by kernel_rfl):aX P md ops (CP (Hw w0 bs b T cs v Eo H) (Fu w0 bs b T e cs v Eo H size n xs news)) (mP (Fu w0 bs b T e cs v Eo H size n xs news)) EE k M (o::rest) A:=by
 refine jW 2 (fun w=>∃ Y,St w0 bs w (⟨b,cs v,T,true⟩::(Y++H))) (by simpa using hn) (fun i hi χ w hw=>?_) hw hm (fun χ w hw=>by obtain⟨Y,hY⟩:=hw;exact hv χ w Y hY) h
 match i,hi with
 | 0,_=>exact⟨Eo,hw⟩
 | 1,_=>
  have hw:St w0 bs w (⟨(χ 6).2.2,news,e,true⟩::⟨b,cs v,T,true⟩::(Eo++H)):=hw
  exact⟨⟨(χ 6).2.2,news,e,true⟩::Eo,hw.p⟩
 | 2,_=>
  obtain⟨_,_,hw⟩:=(show Sl e size (χ 7).1 (n+1) (xs++news.toList) (χ 7).2.1∧(χ 7).1≠.slice none 0 0∧St w0 bs w ((χ 7).2.1++(⟨b,cs v,T,true⟩::H)) from hw)
  exact⟨(χ 7).2.1,hw.p⟩
theorem vF (hk:k=6)(hw:∀ χ,Region.wanted o (yielded ops (A χ).tmps)=true)
  (hv:∀ χ w,St w0 bs w (⟨b,cs v,T,true⟩::(Eo++H))->bB P o (A χ) w (fun u w'=>∃ bn,u=.slice (some ⟨bn,0,none⟩) 1 1∧St w0 bs w' (⟨bn,news,e,true⟩::⟨b,cs v,T,true⟩::(Eo++H)))) [hp:∀ χ,Put (A χ) o.dst (.slice (some ⟨(χ k).2.2,0,none⟩) 1 1) (A' χ)]
  (h:aX P md ops (CP (Hw w0 bs b T cs v Eo H) (Fu w0 bs b T e cs v Eo H size n xs news)) (mP (Fu w0 bs b T e cs v Eo H size n xs news)) EE (k+1) (k::M) rest A')(ha:dR md ops k 7=true:=by kernel_rfl)(ha2:dR md ops k 10=true:=by kernel_rfl):aX P md ops (CP (Hw w0 bs b T cs v Eo H) (Fu w0 bs b T e cs v Eo H size n xs news)) (mP (Fu w0 bs b T e cs v Eo H size n xs news)) EE k M (o::rest) A:=by
 subst hk
 refine aO 0 rfl (by simp[ha,ha2]) hw (fun x=>.slice (some ⟨x.2.2,0,none⟩) 1 1) (fun χ w hw=>?_) h
 exact(ef (P:=P)).mono _ _ _ _ _ (fun u w' ⟨bn,h1,h2⟩=>⟨(undef,[],bn),h1,h2⟩) (hv χ w hw)
theorem vG (hk:k=7)(hM:M.contains 6=true){s x:Operand}{t:TypeId}(ho:o.op=.call { callee:=.builtin .append,args:=#[s,x],argTypes:=#[t,t] })(d:Nat)(hd:o.dst=some d)(hdn:∀ χ,d<(A χ).tmps.size)(hw:∀ χ,Region.wanted o (yielded ops (A χ).tmps)=true)
  [ht:SliceT P t e] {bytes:Nat} {zs:Array Value} [he:ElemT P e size bytes zs] (hzs:zs.size=size) (hsl:Sl e size v n xs Eo) [hs:∀ χ,Ev (A χ) s v] [hx:∀ χ,Ev (A χ) x (.slice (some ⟨(χ 6).2.2,0,none⟩) 1 1)] (hc:CellsAt news 0 size news) [h1:OneCells news] (h63:n+1≤maxLen) (hb:(n+1) * bytes≤140737488355328)
  [hp:∀ χ,Put (A χ) o.dst (χ k).1 (A' χ)]
  (h:aX P md ops (CP (Hw w0 bs b T cs v Eo H) (Fu w0 bs b T e cs v Eo H size n xs news)) (mP (Fu w0 bs b T e cs v Eo H size n xs news)) EE (k+1) (k::M) rest A')(ha:dR md ops 6 k=true:=by kernel_rfl)(ha2:dR md ops k 10=true:=by kernel_rfl):aX P md ops (CP (Hw w0 bs b T cs v Eo H) (Fu w0 bs b T e cs v Eo H size n xs news)) (mP (Fu w0 bs b T e cs v Eo H size n xs news)) EE k M (o::rest) A:=by
 subst hk
 refine aO 1 rfl (by simpa [ha,ha2] using hM) hw (fun x=>x.1) (fun χ w hw=>?_) h
 have hw:St w0 bs w (⟨(χ 6).2.2,news,e,true⟩::⟨b,cs v,T,true⟩::(Eo++H)):=hw
 have hS:St w0 bs w (Eo++(⟨(χ 6).2.2,news,e,true⟩::⟨b,cs v,T,true⟩::H)):=hw.p
 have hp' : ∀ u,Put (A χ) o.dst u ((A χ).put o.dst u):=fun u=>⟨rfl⟩
 refine fo d hd (hdn χ) (eW (k:=size) s x t t ho rfl hS hzs hsl (Nat.one_mul _) h63 hb (fun v' E' w' g1 g2 g3=>⟨v',rfl,(v',E',0),rfl,?_⟩))
 exact⟨g1,g2 (by omega),(show St w0 bs w' (E'++(⟨b,cs v,T,true⟩::H)) from g3.p)⟩
theorem vC (hk:k=10)(hM:(M.contains 6 && M.contains 7)=true)(hw:∀ χ,Region.wanted o (yielded ops (A χ).tmps)=true)
  (hv:∀ χ w v',v'=(χ 7).1->OneCell v'->St w0 bs w (⟨b,cs v,T,true⟩::((χ 7).2.1++H))->bB P o (A χ) w (fun u w'=>u=undef∧St w0 bs w' (⟨b,cs v',T,true⟩::((χ 7).2.1++H)))) [hp:∀ χ,Put (A χ) o.dst undef (A' χ)]
  (h:aX P md ops (CP (Hw w0 bs b T cs v Eo H) (Fu w0 bs b T e cs v Eo H size n xs news)) (mP (Fu w0 bs b T e cs v Eo H size n xs news)) EE (k+1) (k::M) rest A')(ha:dR md ops 6 k=true:=by kernel_rfl)(ha2:dR md ops 7 k=true:=by kernel_rfl):aX P md ops (CP (Hw w0 bs b T cs v Eo H) (Fu w0 bs b T e cs v Eo H size n xs news)) (mP (Fu w0 bs b T e cs v Eo H size n xs news)) EE k M (o::rest) A:=by
 subst hk
 simp only[Bool.and_eq_true] at hM
 refine aO 2 rfl (by simp only[List.take_succ_cons,List.take_zero,List.all_cons,List.all_nil,List.drop_succ_cons,List.drop_zero,List.drop_nil,Bool.and_true];rw[ha,ha2,hM.1,hM.2];rfl) hw (fun _=>undef) (fun χ w hw=>?_) h
 obtain⟨g1,g2,hw⟩:=(show Sl e size (χ 7).1 (n+1) (xs++news.toList) (χ 7).2.1∧(χ 7).1≠.slice none 0 0∧St w0 bs w ((χ 7).2.1++(⟨b,cs v,T,true⟩::H)) from hw)
 refine(ef (P:=P)).mono _ _ _ _ _ (fun u w' ⟨h1,h2⟩=>⟨default,h1,?_⟩) (hv χ w _ rfl g1.one hw.p)
 exact⟨g1,g2,(show St w0 bs w' ((χ 7).2.1++(⟨b,cs (χ 7).1,T,true⟩::H)) from h2.p)⟩
theorem pH {Q:Exit->Act->World->Prop}(hk:(M.contains 6 && (M.contains 7 && M.contains 10))=true)(h:∀ v' E' χ w',v'=(χ 7).1->Sl e size v' (n+1) (xs++news.toList) E'->v'≠.slice none 0 0->St w0 bs w' (E'++(⟨b,cs v',T,true⟩::H))->Q .normal (A χ) w') :
  aX P md ops (CP (Hw w0 bs b T cs v Eo H) (Fu w0 bs b T e cs v Eo H size n xs news)) (mP (Fu w0 bs b T e cs v Eo H size n xs news)) (fun M A=>∀ χ G w',(∀ s∈M,G s=true)->CP (Hw w0 bs b T cs v Eo H) (Fu w0 bs b T e cs v Eo H size n xs news) G χ w'->Q .normal (A χ) w') k M [] A:=by
 refine aV (by simpa using hk) ?_
 rintro χ w' ⟨g1,g2,g3⟩
 exact h _ _ χ w' rfl g1 g2 g3
end
open Go Go.RowKit
section
variable {W w0 w:World}{As bs:List Nat}{M r:Nat}{Ms Ms' : List (Nat×List (Value×Value))}{H:List Ent}{P:Program}{o:Oper}{a:Act}{k e:TypeId}{x v:Value}{l:List (Value×Value)}{post:Act->World->Prop}
def ItB (w:World)(r M:Nat)(l:List (Value×Value))(seen:Bool):Prop:=∃ es ck,w.heap[M]?=some (.map es ck)∧es.toList.map (fun e=>(e.key,e.val))=l∧(∀ e∈es.toList,e.born<ck) ∧
 w.heap[r]?=some (.mapIter (some M) ck (if seen then (es.toList.map (·.born)).toArray else #[]) ck)
structure Itr (W:World)(w0:World)(bs:List Nat)(r M:Nat)(l:List (Value×Value))(seen:Bool):Prop where
 it:ItB w0 r M l seen
 nr:r∉bs
 nM:M∉bs
 ge:W.heap.size≤r
theorem Itr.now {b:Bool}(h:Itr W w0 bs r M l b)(hS:St w0 bs w H):ItB w r M l b:=by
 obtain⟨es,ck,h1,h2,h3,h4⟩:=h.it
 exact⟨es,ck,hS.chg.get h1 h.nM,h2,h3,hS.chg.get h4 h.nr⟩
theorem St.notCells (hS:St w0 bs w H){i:Nat}{ob:Obj}(h:w.heap[i]?=some ob)(hn:ob.isCells=false):i∉wl H:=by
 intro hx
 obtain⟨en,he,_,rfl⟩:=mem_wl.1 hx
 rw[hS.get en he] at h
 cases h
 cases hn
theorem pW {tt:TypeId}{xo:Operand}(ho:o.op=.range tt xo)(hB:Mps W As w0 bs Ms)(hS:St w0 bs w H)[hx:Ev a xo (.map (some M))][ht:MapTy P tt k e][hM:MapIn Ms M l]{a' : Value->Act}[hp:∀ v,Put a o.dst v (a' v)]
  (h:∀ r w',Itr W w' (wl H) r M l false->Mps W As w' (wl H) Ms->St w' (wl H) w' H->post (a' (.pointer (some ⟨r,0,none⟩))) w'):im P o a w post:=by
 obtain⟨es,ck,h1,h2,h3⟩:=hB.now hS hM.h
 simp only at h1 h2
 have hg:=fH (P:=P) h1
 have k0:=Chg.alloc w (.mapIter (some M) ck #[] ck)
 have hB':=hB.step hS k0
 have hS' : St (w.alloc (.mapIter (some M) ck #[] ck)) (wl H) (w.alloc (.mapIter (some M) ck #[] ck)) H:=(hS.nil k0).rebase
 have hM1:(w.alloc (.mapIter (some M) ck #[] ck)).heap[M]?=some (.map es ck):=k0.get h1 (by simp)
 have hr1:(w.alloc (.mapIter (some M) ck #[] ck)).heap[w.heap.size]?=some (.mapIter (some M) ck #[] ck):=dw w
 refine⟨.value (.pointer (some ⟨w.heap.size,0,none⟩)),_,?_,.inl ⟨_,rfl,by rw[(hp _).h];exact h w.heap.size _ ⟨⟨es,ck,hM1,h2,h3,by simpa using hr1⟩,hS'.notCells hr1 rfl,hS'.notCells hM1 rfl,(hB.all hS).size⟩ hB' hS'⟩⟩
 simp[execOp,ho,hx.h,Instr.range,run_underlying ht.h,hg,Result.andThen,run_newObj]
theorem jz {it:Operand}(ho:o.op=.next it false){b:Bool}(hI:Itr W w0 bs r M l b)(hb:b=true∨l=[])(hS:St w0 bs w H)[hx:Ev a it (.pointer (some ⟨r,0,none⟩))]{a' : Act}[hp:Put a o.dst (.tuple #[.bool false]) a']
  (h:post a' w):im P o a w post:=by
 obtain⟨es,ck,h1,h2,h3,h4⟩:=hI.now hS
 have hl:(leftOf es (if b then (es.toList.map (·.born)).toArray else #[])).size=0:=by
  rcases hb with rfl|rfl
  ·unfold leftOf
   rw[if_pos rfl]
   have:es.filter (fun e=>!(es.toList.map (·.born)).toArray.contains e.born)=#[]:=by
    rw[Array.filter_eq_empty_iff]
    intro x hx
    simp
    exact⟨x,by simpa using hx,rfl⟩
   rw[this];rfl
  ·have:es=#[]:=by
    have:es.toList=[]:=by simpa using h2
    rw[← Array.toArray_toList (xs:=es),this]
   subst this
   simp[leftOf]
 refine⟨.value (.tuple #[.bool false]),w,?_,.inl ⟨_,rfl,by rw[hp.h];exact h⟩⟩
 rcases run_next_at (P:=P) w o.type r M ck ck _ es ck h4 h1 h3 (Nat.le_refl _) with ⟨_,hr⟩|⟨en,he,_⟩
 ·simp[execOp,ho,hx.h,hr,Result.andThen]
 ·have hz:=Array.eq_empty_of_size_eq_zero hl
  rw[hz] at he
  cases he
theorem th {it:Operand}(ho:o.op=.next it false)(hB:Mps W As w0 bs Ms)(hI:Itr W w0 bs r M [(x,v)] false)(hS:St w0 bs w H)[hx:Ev a it (.pointer (some ⟨r,0,none⟩))]{a' : Act}[hp:Put a o.dst (.tuple #[.bool true,x,v]) a']
  (h:∀ w',Itr W w' (wl H) r M [(x,v)] true->Mps W As w' (wl H) Ms->St w' (wl H) w' H->post a' w'):im P o a w post:=by
 obtain⟨es,ck,h1,h2,h3,h4⟩:=hI.now hS
 have h4:w.heap[r]?=some (.mapIter (some M) ck #[] ck):=h4
 obtain⟨⟨k1,v1,b1⟩,rfl⟩:∃ en,es=#[en]:=by
  have hl:es.toList.length=1:=by rw[← List.length_map (f:=fun e:MapEntry=>(e.key,e.val)),h2];rfl
  obtain⟨en,hen⟩:=List.length_eq_one_iff.1 hl
  exact⟨en,by rw[← Array.toArray_toList (xs:=es),hen]⟩
 simp only[List.map_cons,List.map_nil,List.cons.injEq,Prod.mk.injEq,and_true] at h2
 obtain⟨rfl,rfl⟩:=h2
 rcases run_next_at (P:=P) w o.type r M ck ck #[] _ ck h4 h1 h3 (Nat.le_refl _) with ⟨h0,_⟩|⟨en,he,w1,hw1,hr⟩
 ·simp[leftOf] at h0
 ·have hen:en=⟨k1,v1,b1⟩:=by simpa [leftOf] using he
  subst hen
  have kd:Chg w w1 []:=by
   rcases hw1 with rfl|rfl
   ·exact Chg.refl _ _
   ·exact Chg.drew w
  have hB1:=hB.step hS kd
  have hS1:St w1 (wl H) w1 H:=(hS.nil kd).rebase
  have h41:w1.heap[r]?=some (.mapIter (some M) ck #[] ck):=kd.get h4 (by simp)
  have h11:=kd.get h1 (by simp)
  obtain⟨g1,g2⟩:=hB1.other hS1 h41 rfl (fun _ _=>by simp) hI.ge (.mapIter (some M) ck #[b1] ck)
  have hne:r≠M:=by
   intro hq
   rw[hq] at h4
   rw[h1] at h4
   cases h4
  have hr2:(w1.putObj r (.mapIter (some M) ck #[b1] ck)).heap[r]?=some (.mapIter (some M) ck #[b1] ck):=World.putObj_heap_same (bG h41)
  have hM2:(w1.putObj r (.mapIter (some M) ck #[b1] ck)).heap[M]?=some (.map #[⟨k1,v1,b1⟩] ck):=(World.putObj_heap_other (Ne.symm hne)).trans h11
  have hwl:∀ {ob:Obj} {i:Nat},(w1.putObj r (.mapIter (some M) ck #[b1] ck)).heap[i]?=some ob->ob.isCells=false->i∉wl H:=fun hh hn=>g2.notCells hh hn
  refine⟨.value (.tuple #[.bool true,k1,v1]),w1.putObj r (.mapIter (some M) ck #[b1] ck),?_,.inl ⟨_,rfl,by rw[hp.h];exact h _ ⟨⟨_,ck,hM2,rfl,h3,by simpa using hr2⟩,hwl hr2 rfl,hwl hM2 rfl,hI.ge⟩ g1 g2⟩⟩
  simp only[execOp,ho,hx.h,Sem.run_bind,hr,Result.andThen_ok,Sem.run_pure]
  rfl
theorem wt {it:Operand}(ho:o.op=.entry it)(hI:Itr W w0 bs r M [(x,v)] true)(hS:St w0 bs w H)[hx:Ev a it (.pointer (some ⟨r,0,none⟩))]{a' : Act}[hp:Put a o.dst (.tuple #[x,v]) a']
  (h:post a' w):im P o a w post:=by
 obtain⟨es,ck,h1,h2,h3,h4⟩:=hI.now hS
 obtain⟨⟨k1,v1,b1⟩,rfl⟩:∃ en,es=#[en]:=by
  have hl:es.toList.length=1:=by rw[← List.length_map (f:=fun e:MapEntry=>(e.key,e.val)),h2];rfl
  obtain⟨en,hen⟩:=List.length_eq_one_iff.1 hl
  exact⟨en,by rw[← Array.toArray_toList (xs:=es),hen]⟩
 simp only[List.map_cons,List.map_nil,List.cons.injEq,Prod.mk.injEq,and_true] at h2
 obtain⟨rfl,rfl⟩:=h2
 have hr:=run_entry_at (P:=P) w r M ck #[] _ ck ⟨k1,v1,b1⟩ (by simpa using h4) h1 (by simp) (by simp)
 refine⟨.value (.tuple #[k1,v1]),w,?_,.inl ⟨_,rfl,by rw[hp.h];exact h⟩⟩
 simp only[execOp,ho,hx.h,Sem.run_bind,hr,Result.andThen_ok,Sem.run_pure]
theorem ti {N:Nat}{b:Bool}{y u:Value}{tt:TypeId}{xo yo zo:Operand}(ho:o.op=.mapUpdate tt xo yo zo)(hI:Itr W w0 bs r M l b)(hne:N≠M)(hB:Mps W As w0 bs Ms)(hS:St w0 bs w H)[hx:Ev a xo (.map (some N))][hy:Ev a yo y][hz:Ev a zo u][ht:MapTy P tt k e][hk:KeyOk P k y][hM:MapIn Ms N []]
  [hu:MapUp Ms N [] [(y,u)] Ms'] {a' : Act} [hp:Put a o.dst undef a'] (h:∀ w',Itr W w' (wl H) r M l b->Mps W As w' (wl H) Ms'->St w' (wl H) w' H->post a' w'):im P o a w post:=by
 obtain⟨es,ck,hr,h2,h3⟩:=lE ht (hB.now hS hu.mem) (lP (P:=P) (t:=k) (x:=y)) u
 obtain⟨g1,g2⟩:=hB.turn hS (hu:=hu) h2 h3
 obtain⟨es',ck',i1,i2,i3,i4⟩:=hI.now hS
 have hrN:r≠N:=by
  intro hq
  obtain⟨_,_,hN,_⟩:=hB.now hS hu.mem
  simp only at hN
  rw[hq] at i4
  rw[hN] at i4
  cases i4
 have j1:=(Chg.put w N (.map es ck)).get i1 (by simpa using fun h=>hne h.symm)
 have j4:=(Chg.put w N (.map es ck)).get i4 (by simpa using hrN)
 refine⟨.skip,_,?_,.inr ⟨rfl,by rw[hp.h];exact h _ ⟨⟨es',ck',j1,i2,i3,j4⟩,g2.notCells j4 rfl,g2.notCells j1 rfl,hI.ge⟩ g1 g2⟩⟩
 simp only[execOp,ho,hx.h,hy.h,hz.h,Sem.run_bind,hr,Result.andThen_ok,Sem.run_pure]
def j7 (w:World)(M r:Nat):Nat:=match w.heap[M]?,w.heap[r]? with
 | some (.map es _),some (.mapIter _ _ seen _)=>es.size - seen.size
 | _,_=>0
theorem ItB.left0 (h:ItB w r M l false):j7 w M r=l.length:=by
 obtain⟨es,ck,h1,h2,h3,h4⟩:=h
 unfold j7
 rw[h1,h4]
 simp[← h2]
theorem ItB.left1 (h:ItB w r M l true):j7 w M r=0:=by
 obtain⟨es,ck,h1,h2,h3,h4⟩:=h
 unfold j7
 rw[h1,h4]
 simp
end
end Go.Mm
