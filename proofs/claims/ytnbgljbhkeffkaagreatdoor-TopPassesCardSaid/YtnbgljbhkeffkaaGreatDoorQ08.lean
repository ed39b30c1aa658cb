/-
  Contracts of what the law TopPasses reaches, part 8: Cpy FreeI.
-/
import Derived.Test.YtnbgljbhkeffkaaGreatDoorQ05
import Derived.OrdersIn
import Derived.Test.YtnbgljbhkeffkaaGreatDoorQ04
open Go.Proofs.Tryz
set_option linter.unusedVariables false
set_option linter.unusedSimpArgs false
set_option maxHeartbeats 4000000
set_option maxRecDepth 100000
namespace Go.Mm
open Go Go.RowKit
section
variable {P:Program}{o:Oper}{a:Act}{w w0:World}{bs:List Nat}{H:List Ent}{post:Act->World->Prop}
theorem Bv (hS:St w0 bs w H){t t' ty e:TypeId}[ht:SliceT P t e]{size bytes:Nat}{zs:Array Value}[he:ElemT P e size bytes zs]{b off dl dc b2 off2 sl sc n k:Nat}(hn:Nat.min sl dl=n)(hk:n * size=k)
  {cs2:Array Value} {T2:TypeId} [hH2:Has H b2 cs2 T2] {news:Array Value} [hc:CellsAt cs2 off2 k news] [h1:OneCells news] {cs cs' : Array Value} {T:TypeId} {H' : List Ent} [hH:Has H b cs T] [hsa:SetsAt cs off news cs'] [hu:Upd H b cs' T H'] :
  ∃ w',(Builtin.copy_ #[t,t'] ty #[.slice (some ⟨b,off,none⟩) dl dc,.slice (some ⟨b2,off2,none⟩) sl sc]).run P w=.ok (.int .i64 n) w'∧St w0 bs w' H':=by
 obtain⟨i,z,hi,hz,rfl,rfl,rfl⟩:=he.parts
 have hb:=hS.has hH
 have hnews:=kt hc (w:=w) (b:=b2) (fun j=>cm (hS.has hH2))
 have hl:news.toList.length=n * i.size:=by rw[hk];simpa using hc.s
 have hload:=run_loadCells_list (P:=P) w ⟨b2,off2,none⟩ news.toList hnews
 rw[hl] at hload
 have hr:=run_storeCells_at P b off T news.toList 0 cs w hb (by have:=hsa.le;simpa using this) h1.h
 simp only[Nat.add_zero] at hr
 rw[show news.toList.length=news.size by simp,hsa.h] at hr
 refine⟨w.setRow b cs',?_,hS.upd ⟨rfl,rfl,rfl,by simp,fun k _ hk=>setRow_other w b k _ (by simpa [eq_comm] using hk)⟩ (setRow_heap w b cs _ T _ hb)⟩
 simp[Builtin.copy_,run_underlying ht.h,Builtin.lenOf,Builtin.firstCells,sizeOf,typeInfo,hi,hn,hload,hr,goInt]
theorem zM {d s:Operand}{t t': TypeId}(ho:o.op=.call { callee:=.builtin .copy,args:=#[d,s],argTypes:=#[t,t'] })(hS:St w0 bs w H){e:TypeId}[ht:SliceT P t e]{size bytes:Nat}{zs:Array Value}[he:ElemT P e size bytes zs]
  {b off dl dc b2 off2 sl sc n k:Nat} [hd:Ev a d (.slice (some ⟨b,off,none⟩) dl dc)] [hs:Ev a s (.slice (some ⟨b2,off2,none⟩) sl sc)] (hn:Nat.min sl dl=n) (hk:n * size=k)
  {cs2:Array Value} {T2:TypeId} [hH2:Has H b2 cs2 T2] {news:Array Value} [hc:CellsAt cs2 off2 k news] [h1:OneCells news] {cs cs' : Array Value} {T:TypeId} {H' : List Ent} [hH:Has H b cs T] [hsa:SetsAt cs off news cs'] [hu:Upd H b cs' T H']
  {a' : Act} [hp:Put a o.dst (.int .i64 n) a'] (h:∀ w',St w0 bs w' H'->post a' w'):im P o a w post:=by
 obtain⟨w',hr,hS'⟩:=Bv (P:=P) (t:=t) (t':=t') (ty:=o.type) (dc:=dc) (sc:=sc) hS hn hk (hH2:=hH2) (hc:=hc) (h1:=h1) (hH:=hH) (hsa:=hsa) (hu:=hu)
 refine⟨.value (.int .i64 n),w',?_,.inl ⟨_,rfl,by rw[hp.h];exact h _ hS'⟩⟩
 simp only[execOp,ho,resolve,invoke,builtin,Sem.run_bind,Sem.run_pure,Result.andThen_ok,List.map_toArray,List.map_cons,List.map_nil,hd.h,hs.h,hr]
end
open Go Go.RowKit
section
variable {F:Fence}{n:Nat}{P:Program}{ops:Array Oper}{md:Region.Mode}{X:Type}
def Co (F:Fence)(n:Nat)(P:Program)(Φ:Value->World->Prop):Result Next->Prop
 | .ok (.value v) w'=>Φ v w'
 | .ok .skip w'=>Φ undef w'
 | .ok (.enter f args) w'=>(F.depth.isSome=true->1≤n)∧CallsIn F (n - 1) P f args w' (fun e w''=>∃ u,e=.returned u∧Φ u w'')
 | .ok (.round l f tmps assign body) w'=>(F.depth.isSome=true->1≤n)∧RoundIn F (n - 1) P l f tmps assign body w' (fun e w''=>∃ u,e=.returned u∧Φ u w'')
 | _=>False
def rq (F:Fence)(n:Nat)(P:Program):Sx:=fun o a w Φ=>jj o.op=false∧(∀ f,F.fn f)∧Co F n P Φ ((execOp a.eval o).run P w)
theorem sx_in:SxOk (rq F n P):=⟨fun o a w Φ Φ' hm h=>by
  refine⟨h.1,h.2.1,?_⟩
  have h:=h.2.2
  generalize (execOp a.eval o).run P w=r at *
  cases r with
  | ok nx w'=>
   cases nx <;> simp only[Co] at h ⊢
   case value u=>exact hm _ _ h
   case skip=>exact hm _ _ h
   case enter f args=>exact⟨h.1,CallsIn.mono h.2 fun e w'' ⟨u,h1,h2⟩=>⟨u,h1,hm _ _ h2⟩⟩
   case round l f tmps assign body=>exact⟨h.1,RoundIn.mono h.2 fun e w'' ⟨u,h1,h2⟩=>⟨u,h1,hm _ _ h2⟩⟩
  | halt e w'=>simp only[Co] at h,
 fun o a b w Φ hs he h=>by
  refine⟨h.1,h.2.1,?_⟩
  rw[← execOp_congr o hs he]
  exact h.2.2⟩
theorem oB {o:Oper}{a:Act}{w:World}{Φ:Value->World->Prop}{K' : Act->World->Prop}{Q' : Exit->Act->World->Prop}(h3:rq F n P o a w Φ)(h:∀ u w',Φ u w'->K' (a.put o.dst u) w'):o.wpIn F n P a w K' Q':=by
 obtain⟨hd0,hF,h3⟩:=h3
 have hd:∀ c,o.op≠.defer c:=fun c h=>by rw[h] at hd0;cases hd0
 refine⟨fun f _=>hF f,?_⟩
 rw[Oper.semAt_eq _ _ _ hd]
 generalize (execOp a.eval o).run P w=r at *
 cases r with
 | ok nx w'=>
  cases nx <;> simp only[Co] at h3 <;> simp only[Oper.uponIn]
  case value u=>exact h _ _ h3
  case skip=>exact h _ _ h3
  case enter f args=>exact⟨h3.1,CallsIn.mono h3.2 fun e w'' ⟨u,he,hw''⟩=>by subst he;exact h _ _ hw''⟩
  case round l f tmps assign body=>exact⟨h3.1,RoundIn.mono h3.2 fun e w'' ⟨u,he,hw''⟩=>by subst he;exact h _ _ hw''⟩
 | halt x w'=>simp only[Co] at h3
variable {C:Gs->(Nat->X)->World->Prop}{m:Nat->Bool}
theorem xZ (hF:∀ f,F.fn f){a0:Act}{V:Nat->(Nat->X)->Value}{bm:Nat->Bool}(hs:Region.noSelect ops=true)(hG:∀ j o,ops[j]?=some o->sF (rq F n P) md ops C m a0 V bm j o)
  (F1:∀ i o,ops[i]?=some o->∀ e∈o.after,Region.binds md e=true->e.on<i)
  (F2:∀ i j oi oj,i<j->ops[i]?=some oi->ops[j]?=some oj->(∃ e∈oj.after,Region.binds md e=true∧e.on=i)∨oi.apart ops oj=true)
  {Q' : Exit->Act->World->Prop} (hQ:∀ χ G w,(∀ s,s<ops.size->bm s=true->G s=true)->C G χ w->Q' .normal (eK ops a0 (fun j=>V j χ) (fun _=>true) ops.size) w) :
  ∀ (fuel:Nat) (listed:Array Bool) (a:Act) (w:World),vZ listed≤fuel->Inv P md ops C a0 V bm listed a w->wpAnyIn F n P md ops Q' fuel listed a w:=by
 have hend:∀ (listed:Array Bool) (a:Act) (w:World),Inv P md ops C a0 V bm listed a w->(∀ j,j<listed.size->listed.getD j false=true)->Q' .normal a w:=by
  intro listed a w hI hall
  obtain⟨χ,rfl,hC⟩:=hI.ex
  have:=hQ χ _ w (fun s hs' hb=>by
   have:=hall s (by rw[hI.size];exact hs')
   simp only[this,hb];rfl) hC
  have e:eK ops a0 (fun j=>V j χ) (fun k=>listed.getD k false) ops.size=eK ops a0 (fun j=>V j χ) (fun _=>true) ops.size:=
   dJ ops.size (fun j hj=>⟨hall j (by rw[hI.size];exact hj),fun _=>rfl⟩)
  rw[e];exact this
 have hrdy:∀ (listed:Array Bool) (a:Act) (w:World),Inv P md ops C a0 V bm listed a w->Region.ready md ops listed=[]->∀ j,j<listed.size->listed.getD j false=true:=by
  intro listed a w hI hr
  intro j
  induction j using Nat.strongRecOn with
  | ind j ih=>
   intro hj
   by_cases hl:listed.getD j false=true
   ·exact hl
   ·exfalso
    have hjs:j<ops.size:=by rw[← hI.size];exact hj
    have:j∈Region.ready md ops listed:=mem_ready.2 ⟨by rw[dm hj true false];simpa using hl,ops[j],Array.getElem?_eq_getElem hjs,fun e he hb=>
     ih e.on (F1 j _ (Array.getElem?_eq_getElem hjs) e he hb) (by have:=F1 j _ (Array.getElem?_eq_getElem hjs) e he hb;omega)⟩
    rw[hr] at this
    cases this
 intro fuel
 induction fuel with
 | zero=>
  intro listed a w hu hI
  have hall:=mv (Nat.le_zero.1 hu)
  refine⟨?_,hend listed a w hI hall⟩
  cases hr:Region.ready md ops listed with
  | nil=>rfl
  | cons i l=>
   exfalso
   have hi:i∈Region.ready md ops listed:=by rw[hr];simp
   obtain⟨hun,o,ho,_⟩:=mem_ready.1 hi
   have his:i<listed.size:=by rw[hI.size];exact(Array.getElem?_eq_some_iff.1 ho).1
   have:=hall i his
   rw[dm his false true] at this
   rw[this] at hun
   cases hun
 | succ fuel ih=>
  intro listed a w hu hI
  refine⟨fun hr=>hend listed a w hI (hrdy listed a w hI hr),fun i hi=>?_⟩
  obtain⟨hun,o,ho,_⟩:=mem_ready.1 hi
  have his:i<listed.size:=by rw[hI.size];exact(Array.getElem?_eq_some_iff.1 ho).1
  have hlt:=pL his (by rw[dm his false true];exact hun)
  unfold wpOpIn
  simp only[ho]
  rcases qT sx_in hs hG F1 F2 hI hi ho with ⟨h1,h2⟩|⟨h1,h2⟩
  ·rw[if_pos h1]
   exact oB h2 (fun u w' hI'=>ih _ _ w' (by omega) hI')
  ·rw[if_neg (by rw[h1];simp)]
   exact⟨fun f _=>hF f,ih _ _ w (by omega) h2⟩
theorem lC (hF:∀ f,F.fn f){id:Nat}{l:List Oper}{Q:Exit->Act->World->Prop}{a:Act}{w:World}[Inhabited X](C:Gs->(Nat->X)->World->Prop)(m:Nat->Bool)
  (hC:C (fun _=>false) (fun _=>default) { w with drawn:=w.drawn+1 })
  (h:iY (rq F n P) .any l.toArray C m (fun M A=>∀ χ G w',(∀ s∈M,G s=true)->C G χ w'->Q .normal (A χ) w') 0 [] l (fun _=>a))(hm:P.follows .mixedOrders=true:=by kernel_rfl)(hB:Region.lexB .any l.toArray=true:=by kernel_rfl):(Code.region id l.toArray true).wpIn F n P Q a w:=by
 simp only[Region.lexB,Bool.and_eq_true] at hB
 obtain⟨V,bm,Mf,_,g2,g3,g4⟩:=lX (sx:=rq F n P) (ops:=l.toArray) (a0:=a) l 0 [] _ (fun _ _=>undef) (fun _=>false) (by simp) rfl (by simp) h
 obtain⟨F1,F2⟩:=iH (ops:=l.toArray) (md:=.any) l.toArray.size 0 (Array.replicate l.toArray.size false) (fun j hj=>by
  have hj' : j<l.length:=by simpa using hj
  simp[hj']) (by simp) hB.2 (by simp)
 refine wpIn_region_any hm (xZ hF (m:=m) (C:=C) (a0:=a) (V:=V) (bm:=bm) hB.1 (fun j o=>g2 j o (Nat.zero_le _)) (fun i o=>F1 i o (Nat.zero_le _)) (fun i j oi oj=>F2 i j oi oj (Nat.zero_le _)) ?_ _ _ _ _ ?_ ?_)
 ·intro χ G w' hG hC'
  have:=g4 χ G w' (fun s hs=>hG s (by have:=(g3 s hs).1;simpa using this) (g3 s hs).2) hC'
  simpa using this
 ·unfold vZ
  exact Nat.le_trans (List.length_filter_le _ _) (by simp)
 ·refine⟨by simp,fun j oj hj hl=>?_,fun _=>default,?_,?_⟩
  ·have hjs:j<l.toArray.size:=(Array.getElem?_eq_some_iff.1 hj).1
   simp only[List.size_toArray] at hjs
   simp[hjs] at hl
  ·have:(fun k=>(Array.replicate l.toArray.size false).getD k false)=fun _=>false:=by
    funext k
    rcases Nat.lt_or_ge k l.length with h'|h'
    ·simp[h']
    ·simp[h']
   rw[this,kj]
  ·have:(fun k=>(Array.replicate l.toArray.size false).getD k false && bm k)=fun _=>false:=by
    funext k
    rcases Nat.lt_or_ge k l.length with h'|h'
    ·simp[h']
    ·simp[h']
   rw[this]
   exact hC
variable {E:List Nat->((Nat->Unit)->Act)->Prop}{k:Nat}{M:List Nat}{o:Oper}{rest:List Oper}{A A' : (Nat->X)->Act}{v:Value}{D:Prop}
theorem cR {C:Gs->(Nat->X)->World->Prop}{E:List Nat->((Nat->X)->Act)->Prop}(hF:∀ f,F.fn f)(hd:jj o.op=false)(hw:∀ χ,Region.wanted o (yielded ops (A χ).tmps)=true)(hm:m k=false)(hv:∀ G χ w,(∀ j,dR md ops k j=true->G j=false)->C G χ w->ay P o (A χ) w v)[hp:∀ χ,Put (A χ) o.dst v (A' χ)]
  (h:iY (rq F n P) md ops C m E (k+1) M rest A'):iY (rq F n P) md ops C m E k M (o::rest) A:=by
 refine .inl ⟨hw,fun _=>v,fun _ _ _=>rfl,?_,?_⟩
 ·unfold Yy
  rw[if_neg (by rw[hm];simp)]
  intro G χ w _ hg hC
  refine⟨hd,hF,?_⟩
  rw[hv G χ w hg hC]
  exact⟨rfl,hC⟩
 ·rw[if_neg (by rw[hm];simp),show(fun χ=>(A χ).put o.dst v)=A' from funext fun χ=>(hp χ).h]
  exact h
theorem yf {C:Gs->(Nat->X)->World->Prop}{E:List Nat->((Nat->X)->Act)->Prop}(hF:∀ f,F.fn f)(hd:jj o.op=false)(hw:∀ χ,Region.wanted o (yielded ops (A χ).tmps)=true)(hm:m k=false)(v:(Nat->X)->Value)(hs:kz md ops k v)(hv:∀ G χ w,C G χ w->ay P o (A χ) w (v χ))[hp:∀ χ,Put (A χ) o.dst (v χ) (A' χ)]
  (h:iY (rq F n P) md ops C m E (k+1) M rest A'):iY (rq F n P) md ops C m E k M (o::rest) A:=by
 refine .inl ⟨hw,v,hs,?_,?_⟩
 ·unfold Yy
  rw[if_neg (by rw[hm];simp)]
  intro G χ w _ hg hC
  refine⟨hd,hF,?_⟩
  rw[hv G χ w hC]
  exact⟨rfl,hC⟩
 ·rw[if_neg (by rw[hm];simp),show(fun χ=>(A χ).put o.dst (v χ))=A' from funext fun χ=>(hp χ).h]
  exact h
theorem ye {C:Gs->(Nat->X)->World->Prop}{E:List Nat->((Nat->X)->Act)->Prop}(hw:∀ χ,Region.wanted o (yielded ops (A χ).tmps)=true)(hm:m k=true)(v:X->Value)
  (hv:∀ G χ w,G k=false->C G χ w->rq F n P o (A χ) w (fun u w'=>∃ x,u=v x∧C (up G k true) (up χ k x) w')) [hp:∀ χ,Put (A χ) o.dst (v (χ k)) (A' χ)]
  (h:iY (rq F n P) md ops C m E (k+1) (k::M) rest A'):iY (rq F n P) md ops C m E k M (o::rest) A:=by
 refine .inl ⟨hw,fun χ=>v (χ k),fun χ χ' hh=>(show v (χ k)=v (χ' k) by rw[hh k (.inl rfl)]),?_,?_⟩
 ·unfold Yy
  rw[if_pos hm]
  intro G χ w hk _ _ hC
  refine sx_in.mono _ _ _ _ _ ?_ (hv G χ w hk hC)
  rintro u w' ⟨x,h1,h2⟩
  exact⟨x,(show u=v (up χ k x k) by rw[bT];exact h1),h2⟩
 ·rw[if_pos hm,show(fun χ=>(A χ).put o.dst (v (χ k)))=A' from funext fun χ=>(hp χ).h]
  exact h
theorem rp {l:Nat}{x:Operand}{xs:List Operand}{ts:Array TypeId}{a:Act}{W:World}{Φ:Value->World->Prop}{R:Ending->World->Prop}(ho:o.op=.call { callee:=.value x,args:=xs.toArray,argTypes:=ts })[hx:Ev a x (.func (.yield l) #[] #[])]{vs:List Value}[hE:EvL a xs vs]
  (hF:∀ f,F.fn f) (hn:F.depth.isSome=true->1≤n) (hy:YieldAt F (n - 1) P l vs.toArray W R) (h:∀ e W',R e W'->∃ u,e=.returned u∧Φ u W'):rq F n P o a W Φ:=by
 obtain⟨fn,tmps,assign,body,h1,h2⟩:=hy
 have hE':=hE.h
 have hr:(execOp a.eval o).run P W=.ok (.round l fn tmps assign body) W:=by
  have hx':=hx.h
  simp[execOp,ho,resolve,invoke,Deferred.ofValue,hx',List.map_toArray,hE',h1]
 refine⟨by rw[ho];rfl,hF,?_⟩
 rw[hr]
 exact⟨hn,RoundIn.mono h2 h⟩
end
end Go.Mm
