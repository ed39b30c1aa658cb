/-
  Contracts of what the law TopPasses reaches, part 7: Mps Qa.
-/
import Derived.Test.YtnbgljbhkeffkaaGreatDoorQ02
import Derived.WideKeyRuns
import Derived.Test.YtnbgljbhkeffkaaGreatDoorQ04
open Go.Proofs.Tryz
set_option linter.unusedVariables false
set_option linter.unusedSimpArgs false
set_option maxHeartbeats 4000000
set_option maxRecDepth 100000
namespace Go.Mm
open Go Go.RowKit
def MapB (w:World)(m:Nat×List (Value×Value)):Prop:=
 ∃ es ck,w.heap[m.1]?=some (.map es ck)∧es.toList.map (fun e=>(e.key,e.val))=m.2∧∀ e∈es.toList,e.born<ck
structure Mps (W:World)(As:List Nat)(w0:World)(bs:List Nat)(Ms:List (Nat×List (Value×Value))):Prop where
 chg:Chg W w0 As
 map:∀ m∈Ms,MapB w0 m
 new:∀ m∈Ms,W.heap.size≤m.1∨m.1∈As
 nd:Ms.Pairwise (fun x y=>x.1≠y.1)
 bs:∀ x∈bs,(W.heap.size≤x∨x∈As)∧∀ m∈Ms,x≠m.1
class MapIn (Ms:List (Nat×List (Value×Value)))(M:Nat)(l:outParam (List (Value×Value))):Prop where
 h:(M,l)∈Ms
instance Cb {M:Nat}{l:List (Value×Value)}{Ms:List (Nat×List (Value×Value))} : MapIn ((M,l)::Ms) M l:=⟨.head _⟩
instance (priority:=900) Ca {M:Nat}{l:List (Value×Value)}{x:Nat×List (Value×Value)}{Ms:List (Nat×List (Value×Value))}[h:MapIn Ms M l] : MapIn (x::Ms) M l:=⟨.tail _ h.h⟩
class MapUp (Ms:List (Nat×List (Value×Value)))(M:Nat)(l:outParam (List (Value×Value)))(l' : List (Value×Value))(Ms' : outParam (List (Nat×List (Value×Value)))):Prop where
 h:∃ A B,Ms=A++(M,l)::B∧Ms'=A++(M,l')::B
instance BZ {M:Nat}{l l' : List (Value×Value)}{Ms:List (Nat×List (Value×Value))} : MapUp ((M,l)::Ms) M l l' ((M,l')::Ms):=⟨[],Ms,rfl,rfl⟩
instance (priority:=900) BY {M:Nat}{l l' : List (Value×Value)}{x:Nat×List (Value×Value)}{Ms Ms' : List (Nat×List (Value×Value))}[h:MapUp Ms M l l' Ms'] : MapUp (x::Ms) M l l' (x::Ms'):=
 ⟨let ⟨A,B,h1,h2⟩:=h.h;⟨x::A,B,by rw[h1];rfl,by rw[h2];rfl⟩⟩
theorem MapUp.mem {Ms Ms' : List (Nat×List (Value×Value))}{M:Nat}{l l' : List (Value×Value)}(h:MapUp Ms M l l' Ms'):(M,l)∈Ms:=by
 obtain⟨A,B,rfl,_⟩:=h.h;simp
section
variable {W w0 w w1:World}{As bs:List Nat}{M:Nat}{Ms Ms' : List (Nat×List (Value×Value))}{l l' : List (Value×Value)}{H:List Ent}
theorem Mps.all (hB:Mps W As w0 bs Ms)(hS:St w0 bs w H):Chg W w As:=
 hB.chg.trans hS.chg (fun x hx hlt=>(hB.bs x hx).1.resolve_left (by omega))
theorem Mps.now (hB:Mps W As w0 bs Ms)(hS:St w0 bs w H){m:Nat×List (Value×Value)}(hm:m∈Ms):MapB w m:=by
 obtain⟨es,ck,h1,h2⟩:=hB.map m hm
 exact⟨es,ck,hS.chg.get h1 (fun hx=>(hB.bs m.1 hx).2 m hm rfl),h2⟩
theorem MapB.lt {m:Nat×List (Value×Value)}(h:MapB w m):m.1<w.heap.size:=by obtain ⟨_,_,h,_⟩:=h;exact bG h
theorem MapB.ne {m:Nat×List (Value×Value)}(h:MapB w m)(hS:St w0 bs w H){e:Ent}(he:e∈H):e.b≠m.1:=by
 intro hM
 obtain⟨es,ck,h1,_⟩:=h
 have h2:=hS.get e he
 rw[hM,h1] at h2
 cases h2
theorem Mps.wrs (hB:Mps W As w0 bs Ms)(hS:St w0 bs w H):∀ x∈wl H,(W.heap.size≤x∨x∈As)∧∀ m∈Ms,x≠m.1:=by
 intro x hx
 obtain⟨e,he,hw,rfl⟩:=mem_wl.1 hx
 refine⟨?_,fun m hm=>(hB.now hS hm).ne hS he⟩
 rcases hS.wr e he hw with h|h
 ·exact(hB.bs _ h).1
 ·exact .inl (Nat.le_trans hB.chg.size h)
theorem Mps.step (hB:Mps W As w0 bs Ms)(hS:St w0 bs w H)(k:Chg w w1 []):Mps W As w1 (wl H) Ms:=
 ⟨(hB.all hS).nil k,fun m hm=>by
  obtain⟨es,ck,h1,h2⟩:=hB.now hS hm
  exact⟨es,ck,k.get h1 (by simp),h2⟩,hB.new,hB.nd,hB.wrs hS⟩
theorem Mps.sub (hB:Mps W As w0 bs Ms)(h:Ms'.Sublist Ms):Mps W As w0 bs Ms':=
 ⟨hB.chg,fun m hm=>hB.map m (h.subset hm),fun m hm=>hB.new m (h.subset hm),hB.nd.sublist h,fun x hx=>⟨(hB.bs x hx).1,fun m hm=>(hB.bs x hx).2 m (h.subset hm)⟩⟩
theorem Mps.drop {m:Nat×List (Value×Value)}(hB:Mps W As w0 bs (m::Ms)):Mps W As w0 bs Ms:=hB.sub (List.sublist_cons_self _ _)
theorem Mps.start (hS:St w0 bs w H):Mps w0 bs w (wl H) []:=
 ⟨hS.chg,by simp,by simp,.nil,fun x hx=>⟨by
  obtain⟨e,he,hw,rfl⟩:=mem_wl.1 hx
  exact(hS.wr e he hw).symm,by simp⟩⟩
def mw (H:List Ent)(Ms:List (Nat×List (Value×Value))):List Nat:=wl H++Ms.map (·.1)
theorem Mps.rebase (hB:Mps W As w0 bs Ms)(hS:St w0 bs w H):Mps w (mw H Ms) w (wl H) Ms:=
 ⟨Chg.refl _ _,fun m hm=>hB.now hS hm,fun m hm=>.inr (List.mem_append_right _ (List.mem_map_of_mem hm)),hB.nd,fun x hx=>⟨.inr (List.mem_append_left _ hx),(hB.wrs hS x hx).2⟩⟩
theorem Mps.mw (hB:Mps W As w0 bs Ms)(hS:St w0 bs w H){x:Nat}(hx:x∈mw H Ms):W.heap.size≤x∨x∈As:=by
 rcases List.mem_append.1 hx with h|h
 ·exact(hB.wrs hS x h).1
 ·obtain⟨m,hm,rfl⟩:=List.mem_map.1 h
  exact hB.new m hm
theorem Mps.rejoin {w0' : World}{bs' : List Nat}(hB:Mps W As w0 bs Ms)(hS:St w0 bs w H)(k:Mps w (Go.Mm.mw H Ms) w0' bs' Ms'):Mps W As w0' bs' Ms':=by
 have hsz:=(hB.all hS).size
 refine⟨(hB.all hS).trans k.chg (fun x hx hlt=>(hB.mw hS hx).resolve_left (by omega)),k.map,fun m hm=>?_,k.nd,fun x hx=>⟨?_,(k.bs x hx).2⟩⟩
 ·rcases k.new m hm with h|h
  ·exact .inl (Nat.le_trans hsz h)
  ·exact hB.mw hS h
 ·rcases(k.bs x hx).1 with h|h
  ·exact .inl (Nat.le_trans hsz h)
  ·exact hB.mw hS h
theorem Mps.keeps {w0' w' : World}{bs' : List Nat}{H' : List Ent}{d:Nat}{o:Obj}(hB:Mps W As w0 bs Ms)(hS:St w0 bs w H)(k:Mps w (Go.Mm.mw H Ms) w0' bs' Ms')(hS' : St w0' bs' w' H')(hd:w.heap[d]?=some o)(h1:o.isCells=false)(h2:∀ es ck,o≠.map es ck):w'.heap[d]?=some o:=by
 refine(k.all hS').get hd (fun hx=>?_)
 rcases List.mem_append.1 hx with h|h
 ·obtain⟨e,he,_,rfl⟩:=mem_wl.1 h
  have:=hS.get e he
  rw[hd] at this
  cases this;cases h1
 ·obtain⟨m,hm,rfl⟩:=List.mem_map.1 h
  obtain⟨es,ck,h3,_⟩:=hB.now hS hm
  rw[hd] at h3
  cases h3;exact h2 _ _ rfl
theorem Mps.turn (hB:Mps W As w0 bs Ms)(hS:St w0 bs w H)[hu:MapUp Ms M l l' Ms']{es:Array MapEntry}{ck:Nat}(he:es.toList.map (fun e=>(e.key,e.val))=l')(hck:∀ e∈es.toList,e.born<ck) :
  Mps W As (w.putCells M (.map es ck)) (wl H) Ms'∧St (w.putCells M (.map es ck)) (wl H) (w.putCells M (.map es ck)) H:=by
 have hMm:=hu.mem
 have hlt:M<w.heap.size:=(hB.now hS hMm).lt
 obtain⟨A,B,rfl,rfl⟩:=hu.h
 have hnd:=hB.nd
 rw[List.pairwise_append,List.pairwise_cons] at hnd
 obtain⟨n1,⟨n2,n3⟩,n4⟩:=hnd
 have far:∀ m∈A++B,m.1∉[M]:=by
  intro m hm
  rw[List.mem_singleton]
  rcases List.mem_append.1 hm with h|h
  ·exact n4 m h (M,l) (by simp)
  ·exact fun q=>n2 m h q.symm
 have hw:=hB.wrs hS
 refine⟨⟨(hB.all hS).trans (Chg.put w M _) (fun x hx hl=>?_),?_,?_,?_,?_⟩,?_⟩
 ·rw[List.mem_singleton] at hx
  subst hx
  exact(hB.new _ hMm).resolve_left (by simp only;omega)
 ·intro m hm
  have keep:∀ m∈A++B,MapB (w.putCells M (.map es ck)) m:=fun m hm=>by
   obtain⟨es',ck',h1,h2⟩:=hB.now hS (m:=m) (by rcases List.mem_append.1 hm with h|h <;> simp[h])
   exact⟨es',ck',(Chg.put w M _).get h1 (far m hm),h2⟩
  rcases List.mem_append.1 hm with h|h
  ·exact keep m (by simp[h])
  ·rcases List.mem_cons.1 h with rfl|h
   ·exact⟨es,ck,xm hlt,he,hck⟩
   ·exact keep m (by simp[h])
 ·intro m hm
  rcases List.mem_append.1 hm with h|h
  ·exact hB.new m (by simp[h])
  ·rcases List.mem_cons.1 h with rfl|h
   ·exact hB.new (M,l) hMm
   ·exact hB.new m (by simp[h])
 ·rw[List.pairwise_append,List.pairwise_cons]
  refine⟨n1,⟨n2,n3⟩,fun x hx y hy=>?_⟩
  rcases List.mem_cons.1 hy with rfl|hy
  ·exact n4 x hx (M,l) (by simp)
  ·exact n4 x hx y (by simp[hy])
 ·intro x hx
  refine⟨(hw x hx).1,fun m hm=>?_⟩
  rcases List.mem_append.1 hm with h|h
  ·exact(hw x hx).2 m (by simp[h])
  ·rcases List.mem_cons.1 h with rfl|h
   ·exact(hw x hx).2 (M,l) hMm
   ·exact(hw x hx).2 m (by simp[h])
 ·refine⟨Chg.refl _ _,fun e he=>?_,hS.nd,fun e he hw=>.inl (mem_wl.2 ⟨e,he,hw,rfl⟩)⟩
  exact(Chg.put w M (.map es ck)).get (hS.get e he) (by rw[List.mem_singleton];exact(hB.now hS hMm).ne hS he)
theorem Mps.made (hB:Mps W As w0 bs Ms)(hS:St w0 bs w H)(es:Array MapEntry)(ck:Nat)(hck:∀ e∈es.toList,e.born<ck):Mps W As (w.alloc (.map es ck)) (wl H) ((w.heap.size,es.toList.map (fun e=>(e.key,e.val)))::Ms)∧St (w.alloc (.map es ck)) (wl H) (w.alloc (.map es ck)) H:=by
 have k:=Chg.alloc w (.map es ck)
 have h1:=hB.step hS k
 have hlt:∀ m∈Ms,m.1<w.heap.size:=fun m hm=>(hB.now hS hm).lt
 refine⟨⟨h1.chg,fun m hm=>?_,fun m hm=>?_,List.pairwise_cons.2 ⟨fun m hm=>?_,hB.nd⟩,fun x hx=>⟨(h1.bs x hx).1,fun m hm=>?_⟩⟩,(hS.nil k).rebase⟩
 ·rcases List.mem_cons.1 hm with rfl|hm
  ·exact⟨es,ck,dw w,rfl,hck⟩
  ·exact h1.map m hm
 ·rcases List.mem_cons.1 hm with rfl|hm
  ·exact .inl (hB.all hS).size
  ·exact hB.new m hm
 ·have:=hlt m hm;simp only;omega
 ·rcases List.mem_cons.1 hm with rfl|hm
  ·obtain⟨e,he,_,rfl⟩:=mem_wl.1 hx
   have:=hS.lt he;simp only;omega
  ·exact(h1.bs x hx).2 m hm
class LenIs (l:List (Value×Value))(n:outParam Nat):Prop where
 h:l.length=n
instance Dp:LenIs [] 0:=⟨rfl⟩
variable {P:Program}{t k e:TypeId}{x y:Value}{xs:Array Value}
class KeyOk (P:Program)(t:TypeId)(x:Value):Prop where
 h:∀ em w,(Instr.checkKey em 10000 t x).run P w=.ok () w
class KeyEq (P:Program)(t:TypeId)(x y:Value)(b:outParam Bool):Prop where
 h:∀ w,(Op.equal t x y).run P w=.ok b w
 n:∀ kd,P.underlying t=some kd->Instr.sameNow kd x y=some b∨Instr.sameNow kd x y=none
 u:(P.underlying t).isSome=true
def kA (P:Program)(t:TypeId)(x:Value):List Value->Option Nat->Prop
 | [],r=>r=none
 | y::l,r=>∃ b,KeyEq P t x y b∧(b=true∧r=some 0∨b=false∧∃ r',kA P t x l r'∧r=r'.map (·+1))
class KeyFind (P:Program)(t:TypeId)(x:Value)(l:List (Value×Value))(r:outParam (Option Nat)):Prop where
 h:kA P t x (l.map (·.1)) r
instance lP:KeyFind P t x [] none:=⟨rfl⟩
theorem j6 {v:Value}{l:List (Value×Value)}(h:KeyEq P t x y true):KeyFind P t x ((y,v)::l) (some 0):=⟨true,h,.inl ⟨rfl,rfl⟩⟩
theorem xL {v:Value}{l:List (Value×Value)}{r:Option Nat}(h:KeyEq P t x y false)(hl:KeyFind P t x l r):KeyFind P t x ((y,v)::l) (r.map (·+1)):=
 ⟨false,h,.inr ⟨rfl,r,hl.h,rfl⟩⟩
theorem iU (w:World):∀ (es:List MapEntry) (r:Option Nat) (i:Nat),kA P t x (es.map (·.key)) r ->
  (Instr.findAsking t x es i).run P w=.ok (r.bind fun j=>(es[j]?).map fun e=>(i+j,e.val)) w
 | [],r,i,h=>by simp only[List.map_nil,kA] at h;subst h;simp[Instr.findAsking]
 | e::es,r,i,h=>by
  obtain⟨b,hb,h⟩:=h
  rcases h with ⟨rfl,rfl⟩|⟨rfl,r',h',rfl⟩
  ·simp[Instr.findAsking,hb.h]
  ·have ih:=iU w es r' (i+1) h'
   simp only[Instr.findAsking,Sem.run_bind,hb.h,Result.andThen_ok,Bool.false_eq_true,if_false,ih]
   cases r' with
   | none=>simp
   | some j=>simp[Nat.add_assoc,Nat.add_comm 1 j]
theorem nD {kd:TypeDesc}(hkd:P.underlying t=some kd):∀ (es:List MapEntry) (r:Option Nat) (i:Nat),kA P t x (es.map (·.key)) r ->
  Instr.findNow kd x es i=none∨Instr.findNow kd x es i=some (r.bind fun j=>(es[j]?).map fun e=>(i+j,e.val))
 | [],r,i,h=>by simp only[List.map_nil,kA] at h;subst h;simp[Instr.findNow]
 | e::es,r,i,h=>by
  obtain⟨b,hb,h⟩:=h
  have hn:=hb.n kd hkd
  rcases h with ⟨rfl,rfl⟩|⟨rfl,r',h',rfl⟩
  ·rcases hn with hn|hn <;> simp[Instr.findNow,hn]
  ·rcases hn with hn|hn
   ·have ih:=nD hkd es r' (i+1) h'
    simp only[Instr.findNow,hn]
    rcases ih with ih|ih
    ·exact .inl ih
    ·refine .inr (ih.trans ?_)
     cases r' with
     | none=>simp
     | some j=>simp[Nat.add_assoc,Nat.add_comm 1 j]
   ·simp[Instr.findNow,hn]
theorem fI (w:World)(hu:(P.underlying t).isSome=true){es:List MapEntry}{l:List (Value×Value)}(hl:es.map (fun e=>(e.key,e.val))=l){r:Option Nat}(h:KeyFind P t x l r) :
  (Instr.findKey t x es).run P w=.ok (r.bind fun j=>(es[j]?).map fun e=>(j,e.val)) w:=by
 obtain⟨kd,hkd⟩:=Option.isSome_iff_exists.1 hu
 have h1:kA P t x (es.map (·.key)) r:=by
  have:=h.h
  rw[← hl,List.map_map] at this
  exact this
 unfold Instr.findKey
 simp only[Sem.run_bind,run_underlying hkd,Result.andThen_ok]
 rcases nD hkd es r 0 h1 with h2|h2 <;> rw[h2] <;> simp[iU w es r 0 h1]
class MapTy (P:Program)(t:TypeId)(k e:outParam TypeId):Prop where
 h:P.underlying t=some (.map k e)
 k:(P.underlying k).isSome=true
theorem fH {es:Array MapEntry}{ck:Nat}(h:w.heap[M]?=some (.map es ck)):(getObj M).run P w=.ok (.map es ck) w:=MapKept.run_getObj_map h
class Looks (P:Program)(e:TypeId)(l:List (Value×Value))(r:Option Nat)(c:Bool)(v:outParam Value):Prop where
 h:(∃ j m,r=some j∧l[j]?=some m∧v=if c then .tuple #[m.2,.bool true] else m.2) ∨
  ∃ z,r=none∧(∀ w,(zeroValue e).run P w=.ok z w)∧v=if c then .tuple #[z,.bool false] else z
theorem uU [ht:MapTy P t k e][hk:KeyOk P k x](hM:MapB w (M,l)){r:Option Nat}(hf:KeyFind P k x l r){c:Bool}{v:Value}(hv:Looks P e l r c v) :
  (Instr.lookup t (.map (some M)) x c).run P w=.ok v w:=by
 obtain⟨es,ck,h1,h2,_⟩:=hM
 simp only at h1 h2
 have hg:=fH (P:=P) h1
 have hfk:=fI w ht.k h2 hf
 rcases hv.h with ⟨j,m,rfl,hj,rfl⟩|⟨z,rfl,hz,rfl⟩
 ·rw[← h2,List.getElem?_map] at hj
  obtain⟨en,he,rfl⟩:=Option.map_eq_some_iff.1 hj
  have hfk' : (Instr.findKey k x es.toList).run P w=.ok (some (j,en.val)) w:=by rw[hfk];simp only[Option.bind_some,he,Option.map_some]
  simp[Instr.lookup,run_underlying ht.h,hg,hk.h,hfk',Result.andThen]
 ·simp[Instr.lookup,run_underlying ht.h,hg,hk.h,hfk,hz w,Result.andThen]
theorem lE (ht:MapTy P t k e)[hk:KeyOk P k x](hM:MapB w (M,l))(hf:KeyFind P k x l none)(v:Value) :
  ∃ es ck,(Instr.mapUpdate t (.map (some M)) x v).run P w=.ok () (w.putCells M (.map es ck))∧es.toList.map (fun e=>(e.key,e.val))=l++[(x,v)]∧∀ e∈es.toList,e.born<ck:=by
 obtain⟨es,ck,h1,h2,h3⟩:=hM
 simp only at h1 h2
 have hg:=fH (P:=P) h1
 have hfk:=fI w ht.k h2 hf
 refine⟨es.push ⟨x,v,ck⟩,ck+1,?_,by simp[h2],?_⟩
 ·simp[Instr.mapUpdate,run_underlying ht.h,hg,hk.h,hfk,MapKept.run_setObj_map _ h1,Result.andThen,World.putCells]
 ·intro e he
  simp only[Array.toList_push,List.mem_append,List.mem_singleton] at he
  rcases he with he|rfl
  ·have:=h3 e he;omega
  ·simp only;omega
theorem wF (ht:MapTy P t k e){q:IntKind}{n:Int}[hk:KeyOk P k (.int q n)]{u:Value}(hM:MapB w (M,[(.int q n,u)]))(hf:KeyFind P k (.int q n) [(.int q n,u)] (some 0))(v:Value) :
  ∃ es ck,(Instr.mapUpdate t (.map (some M)) (.int q n) v).run P w=.ok () (w.putCells M (.map es ck))∧es.toList.map (fun e=>(e.key,e.val))=[(.int q n,v)]∧∀ e∈es.toList,e.born<ck:=by
 obtain⟨es,ck,h1,h2,h3⟩:=hM
 simp only at h1 h2
 have hg:=fH (P:=P) h1
 have hfk:=fI w ht.k h2 hf
 obtain⟨⟨k1,v1,b1⟩,rfl⟩:∃ en,es=#[en]:=by
  have hl:es.toList.length=1:=by rw[← List.length_map (f:=fun e:MapEntry=>(e.key,e.val)),h2];rfl
  obtain⟨en,hen⟩:=List.length_eq_one_iff.1 hl
  exact⟨en,by rw[← Array.toArray_toList (xs:=es),hen]⟩
 simp only[List.map_cons,List.map_nil,List.cons.injEq,Prod.mk.injEq,and_true] at h2
 obtain⟨rfl,rfl⟩:=h2
 refine⟨#[⟨.int q n,v,b1⟩],ck,?_,by simp,by simpa using h3⟩
 simp[Instr.mapUpdate,run_underlying ht.h,hg,hk.h,hfk,Instr.keyThatStays,Instr.sameBits,MapKept.run_setObj_map _ h1,Result.andThen,World.putCells,Array.modify,Array.modifyM]
theorem yq (ht:MapTy P t k e)[hk:KeyOk P k x](hM:MapB w (M,l)){r:Option Nat}(hf:KeyFind P k x l r)(hr:r=none∨r=some 0∧l.length=1)(ty:TypeId)(ts:Array TypeId)(hts:ts[0]?=some t) :
  ∃ es ck,(Builtin.delete_ ts ty #[.map (some M),x]).run P w=.ok (.tuple #[]) (w.putCells M (.map es ck))∧es.toList.map (fun e=>(e.key,e.val))=(if r=none then l else [])∧∀ e∈es.toList,e.born<ck:=by
 obtain⟨es,ck,h1,h2,h3⟩:=hM
 simp only at h1 h2
 have hg:=fH (P:=P) h1
 have hfk:=fI w ht.k h2 hf
 rcases hr with rfl|⟨rfl,hl⟩
 ·refine⟨es,ck,?_,by simpa using h2,h3⟩
  simp[Builtin.delete_,hts,run_underlying ht.h,hg,hk.h,hfk,MapKept.run_setObj_map _ h1,Result.andThen,World.putCells]
 ·obtain⟨en,rfl⟩:∃ en,es=#[en]:=by
   have hl:es.toList.length=1:=by rw[← List.length_map (f:=fun e:MapEntry=>(e.key,e.val)),h2];exact hl
   obtain⟨en,hen⟩:=List.length_eq_one_iff.1 hl
   exact⟨en,by rw[← Array.toArray_toList (xs:=es),hen]⟩
  refine⟨#[],ck,?_,by simp,by simp⟩
  simp[Builtin.delete_,hts,run_underlying ht.h,hg,hk.h,hfk,MapKept.run_setObj_map _ h1,Result.andThen,World.putCells,Array.eraseIdxIfInBounds]
variable {o:Oper}{a a' : Act}{u v:Value}{post:Act->World->Prop}
theorem dS {tt:TypeId}{xo yo:Operand}{c:Bool}(ho:o.op=.lookup tt xo yo c)(hB:Mps W As w0 bs Ms)(hS:St w0 bs w H)[hx:Ev a xo (.map (some M))][hy:Ev a yo x][ht:MapTy P tt k e][hk:KeyOk P k x][hM:MapIn Ms M l]{r:Option Nat}[hf:KeyFind P k x l r][hv:Looks P e l r c v] : ay P o a w v:=by
 unfold ay
 simp only[execOp,ho,hx.h,hy.h,Sem.run_bind,uU (hB.now hS hM.h) hf hv,Result.andThen_ok,Sem.run_pure]
theorem tL {xo:Operand}{tt:TypeId}(ho:o.op=.call { callee:=.builtin .len,args:=#[xo],argTypes:=#[tt] })(hB:Mps W As w0 bs Ms)(hS:St w0 bs w H)[hx:Ev a xo (.map (some M))][ht:MapTy P tt k e][hM:MapIn Ms M l]{n:Nat}[hn:LenIs l n] : ay P o a w (.int .i64 n):=by
 obtain⟨es,ck,h1,h2,_⟩:=hB.now hS hM.h
 simp only at h1 h2
 have hl:es.size=n:=by rw[← hn.h,← h2];simp
 unfold ay
 simp only[execOp,ho,resolve,invoke,builtin,Sem.run_bind,Sem.run_pure,Result.andThen_ok,List.map_toArray,List.map_cons,List.map_nil,hx.h,Builtin.len_,List.getElem?_toArray,List.getElem?_cons_zero,run_underlying ht.h,fH (P:=P) h1,goInt,hl]
theorem ws (tt:TypeId)(ho:o.op=.makeMap tt none)(hB:Mps W As w0 bs Ms)(hS:St w0 bs w H){a' : Value->Act}[hp:∀ v,Put a o.dst v (a' v)]
  (h:∀ M w',Mps W As w' (wl H) ((M,[])::Ms)->St w' (wl H) w' H->post (a' (.map (some M))) w'):im P o a w post:=by
 obtain⟨h1,h2⟩:=hB.made hS #[] 0 (by simp)
 refine⟨.value _,_,?_,.inl ⟨_,rfl,by rw[(hp _).h];exact h _ _ h1 h2⟩⟩
 simp only[execOp,ho,Instr.makeMap,newObj,Sem.run_bind,Sem.run_pure,Result.andThen_ok]
 rfl
theorem iQ {ops:Array Oper}{Q:Exit->Act->World->Prop}{rest:List Oper} {tt:TypeId}(ho:o.op=.makeMap tt none)(hB:Mps W As w0 bs Ms)(hS:St w0 bs w H){a' : Value->Act}[hp:∀ v,Put a o.dst v (a' v)] (h:∀ M w',Mps W As w' (wl H) ((M,[])::Ms)->St w' (wl H) w' H->wpList P ops Q rest (a' (.map (some M))) w')(hw_:Region.wanted o (yielded ops a.tmps)=true:=by kernel_rfl):wpList P ops Q (o::rest) a w:=bI hw_ (ws tt ho hB hS h)
theorem wq (tt:TypeId)(xo yo zo:Operand)(ho:o.op=.mapUpdate tt xo yo zo)(hB:Mps W As w0 bs Ms)(hS:St w0 bs w H)[hx:Ev a xo (.map (some M))][hy:Ev a yo x][hz:Ev a zo u][ht:MapTy P tt k e][hk:KeyOk P k x][hM:MapIn Ms M l][hf:KeyFind P k x l none]
  [hu:MapUp Ms M l (l++[(x,u)]) Ms'] {a' : Act} [hp:Put a o.dst undef a'] (h:∀ w',Mps W As w' (wl H) Ms'->St w' (wl H) w' H->post a' w'):im P o a w post:=by
 obtain⟨es,ck,hr,h2,h3⟩:=lE ht (hB.now hS hu.mem) hf u
 obtain⟨g1,g2⟩:=hB.turn hS (hu:=hu) h2 h3
 refine⟨.skip,_,?_,.inr ⟨rfl,by rw[hp.h];exact h _ g1 g2⟩⟩
 simp only[execOp,ho,hx.h,hy.h,hz.h,Sem.run_bind,hr,Result.andThen_ok,Sem.run_pure]
theorem tj {tt:TypeId}{xo yo zo:Operand}(ho:o.op=.mapUpdate tt xo yo zo)(hB:Mps W As w0 bs Ms)(hS:St w0 bs w H)[hx:Ev a xo (.map (some M))]{q:IntKind}{n:Int}[hy:Ev a yo (.int q n)][hz:Ev a zo u][ht:MapTy P tt k e][hk:KeyOk P k (.int q n)][hM:MapIn Ms M [(.int q n,v)]][hf:KeyFind P k (.int q n) [(.int q n,v)] (some 0)]
  [hu:MapUp Ms M [(.int q n,v)] [(.int q n,u)] Ms'] {a' : Act} [hp:Put a o.dst undef a'] (h:∀ w',Mps W As w' (wl H) Ms'->St w' (wl H) w' H->post a' w'):im P o a w post:=by
 obtain⟨es,ck,hr,h2,h3⟩:=wF ht (hB.now hS hu.mem) hf u
 obtain⟨g1,g2⟩:=hB.turn hS (hu:=hu) h2 h3
 refine⟨.skip,_,?_,.inr ⟨rfl,by rw[hp.h];exact h _ g1 g2⟩⟩
 simp only[execOp,ho,hx.h,hy.h,hz.h,Sem.run_bind,hr,Result.andThen_ok,Sem.run_pure]
theorem tk (xo yo:Operand)(tt t2:TypeId)(ho:o.op=.call { callee:=.builtin .delete,args:=#[xo,yo],argTypes:=#[tt,t2] })(hB:Mps W As w0 bs Ms)(hS:St w0 bs w H)[hx:Ev a xo (.map (some M))][hy:Ev a yo x][ht:MapTy P tt k e][hk:KeyOk P k x][hM:MapIn Ms M l]{r:Option Nat}[hf:KeyFind P k x l r]
  (hr:r=none∨r=some 0∧l.length=1) [hu:MapUp Ms M l (if r=none then l else []) Ms'] {a' : Act} [hp:Put a o.dst (.tuple #[]) a'] (h:∀ w',Mps W As w' (wl H) Ms'->St w' (wl H) w' H->post a' w'):im P o a w post:=by
 obtain⟨es,ck,hd,h2,h3⟩:=yq ht (hB.now hS hu.mem) hf hr o.type #[tt,t2] rfl
 obtain⟨g1,g2⟩:=hB.turn hS (hu:=hu) h2 h3
 refine⟨.value (.tuple #[]),_,?_,.inl ⟨_,rfl,by rw[hp.h];exact h _ g1 g2⟩⟩
 simp only[execOp,ho,resolve,invoke,builtin,Sem.run_bind,Sem.run_pure,Result.andThen_ok,List.map_toArray,List.map_cons,List.map_nil,hx.h,hy.h,hd]
end
section
variable {P:Program}{t:TypeId}
theorem sw {xs:Array Value}(l:List (TypeId×Nat))(ht:P.underlying t=some (.struct (P.fieldsOf t)))
  (hl : (P.fieldsOf t).toList.map (fun f => (f.name == "_", f.type, f.offset)) = l.map (fun x => (false, x.1, x.2)))
  (hc:∀ x∈l,∃ q a,P.underlying x.1=some (.int q)∧ScalarT P x.1∧xs[x.2]?=some (.int q a)) (em:Bool) (w:World):(Instr.checkKey em 10000 t (.agg xs)).run P w=.ok () w:=by
 show(Instr.checkKey em (9998+1+1) t (.agg xs)).run P w=.ok () w
 rw[Instr.checkKey]
 simp only[Sem.run_bind,run_underlying ht,Result.andThen_ok]
 rw[← Array.forIn_toList]
 generalize (P.fieldsOf t).toList=L at hl
 clear ht
 revert l
 induction L with
 | nil=>intro l _ _;simp
 | cons f L ih=>
  intro l hc hl
  cases l with
  | nil=>simp at hl
  | cons x l=>
   simp only[List.map_cons,List.cons.injEq,Prod.mk.injEq] at hl
   obtain⟨⟨hn,hty,ho⟩,hl⟩:=hl
   have hn' : f.name ≠ "_" := by simpa using hn
   obtain⟨q,a,hu,hs,hcell⟩:=hc x (.head _)
   have hp:=cG hs hcell w
   rw[← ho] at hp
   rw[← hty] at hp hu
   have h2:(Instr.checkKey em (9998+1) f.type (.int q a)).run P w=.ok () w:=by
    rw[Instr.checkKey]
    simp[run_underlying hu]
   simp only[List.forIn_cons,Sem.run_bind,hn',ne_eq,not_false_eq_true,if_true,Result.andThen_ok,hp,h2,Sem.run_pure]
   exact ih l (fun y hy=>hc y (.tail _ hy)) hl
theorem kZ {xs:Array Value}(l:List (TypeId×Nat))
  
  (hc:∀ x∈l,∃ q a,P.underlying x.1=some (.int q)∧ScalarT P x.1∧xs[x.2]?=some (.int q a))(ht:P.underlying t=some (.struct (P.fieldsOf t)):=by kernel_rfl)(hl: (P.fieldsOf t).toList.map (fun f => (f.name == "_", f.type, f.offset)) = l.map (fun x => (false, x.1, x.2)):=by kernel_rfl):KeyOk P t (.agg xs):=⟨fun em w=>sw l ht hl hc em w⟩
theorem fT {q:IntKind}{n:Int}(ht:P.underlying t=some (.int q)):KeyOk P t (.int q n):=⟨fun em w=>by
 show(Instr.checkKey em (9999+1) t (.int q n)).run P w=.ok () w
 rw[Instr.checkKey]
 simp[run_underlying ht]⟩
theorem k5 {q:IntKind}{a b:Int}(ht:P.underlying t=some (.int q)):KeyEq P t (.int q a) (.int q b) (decide (a=b)):=
 ⟨fun w=>by
  have:(Op.equalIn (9999+1) t (.int q a) (.int q b)).run P w=.ok (decide (a=b)) w:=by rw[run_equalIn_int w 9999 t q q a b ht];rfl
  exact this,fun kd hkd=>by
  rw[ht] at hkd
  cases hkd
  refine .inl ?_
  simp only[Instr.sameNow,if_true]
  by_cases h:a=b <;> simp[h],by rw[ht];rfl⟩
theorem r8 {xs ys:Array Value}{b:Bool}[hq:AggEq P t xs ys b] (ht:P.underlying t=some (.struct (P.fieldsOf t)):=by kernel_rfl): KeyEq P t (.agg xs) (.agg ys) b:=
 ⟨fun w=>by
  have h1:=hq.h w
  rw[run_eql_struct] at h1
  show(Op.equalIn 10000 t (.agg xs) (.agg ys)).run P w=.ok b w
  generalize hx:(Op.equalIn 10000 t (.agg xs) (.agg ys)).run P w=r at h1
  cases r with
  | ok c w'=>
   simp only[Result.andThen_ok,Result.ok.injEq,Value.bool.injEq] at h1
   rw[h1.1,h1.2]
  | halt x w'=>simp[Result.andThen] at h1,fun kd hkd=>by
  rw[ht] at hkd
  cases hkd
  exact .inr rfl,by rw[ht];rfl⟩
end
open Go Go.RowKit
section
variable {P:Program}{C:World->Prop}{K:Act->Prop}{o:Oper}{a a' : Act}
theorem cU (f:Nat)(xs:List Operand){ts:Array TypeId}(ho:o.op=.call { callee:=.value (.func f),args:=xs.toArray,argTypes:=ts }){vs:List Value}[hE:EvL a xs vs]
  (he:∀ args w,(callFunc f args).run P w=.ok (.enter f args) w) (v:Value) (hv:∀ w,C w->Calls P f vs.toArray w (fun e w''=>e=.returned v∧C w'')) [hp:Put a o.dst v a'] (hK:K a'):o.quiet P a C K:=by
 refine⟨v,fun w hw=>?_,by rw[hp.h];exact hK⟩
 have hr:(execOp a.eval o).run P w=.ok (.enter f vs.toArray) w:=by
  have hE':=hE.h
  simp[execOp,ho,resolve,invoke,Deferred.ofValue,Act.eval,List.map_toArray,hE',he]
 unfold Oper.quietAt
 rw[hr]
 exact⟨rfl,hv w hw⟩
end
section
variable {P:Program}{n:Nat}{w0 w W:World}{bs As:List Nat}{H:List Ent}{Ms Ms2:List (Nat×List (Value×Value))}
theorem St.same {w' : World}(hS:St w (wl H) w H)(h:St w (wl H) w' H):Chg w w' []:=
 ⟨h.chg.os,h.chg.tape,h.chg.output,h.chg.size,fun k hk _=>by
  by_cases hb:k∈wl H
  ·obtain⟨e,he,_,rfl⟩:=mem_wl.1 hb
   rw[hS.get e he,h.get e he]
  ·exact h.chg.same k hk hb⟩
theorem ek {g:Operand}{ps:Array Tmp}{assign body:Code}{Q:Exit->Act->World->Prop}{a:Act}
  (h1:1≤n) {gf:Nat} {lb:Array Value} (hg:a.eval g=.func (.func gf) #[] lb) (eg:∀ args w,(callFunc gf args).run P w=.ok (.enter gf args) w) (hS:St w0 bs w H)
  (hit:∀ (y:Value) (W:World),OneCell y->Chg w W []->St W (wl H) W H->Calls P gf (#[y]++lb) W (fun e W'=>(∃ v,e=.returned v)∧St W (wl H) W' H))
  (hdone:∀ (d:Nat) (W:World),St w0 bs W H->(w0.heap.size≤d∧W.heap[d]?=some (.deferred (some [])))->Q .normal { a with defers:={ target:=.collected d,args:=#[] }::a.defers } W) :
  (Code.rangeFunc g ps assign body).wpIn Fence.wide n P Q a w:=by
 refine eO (α:=Empty) (X:=Unit) (Y:=Unit) (S:=fun xs=>xs=[]) (Sp:=fun _=>False) (N:=0) (K:=[]) (encs:=fun x=>x.elim) h1 hg eg hS.chg.size (by simp) ?_ (fun x=>x.elim)
  (fun _ _=>True) (fun _ _=>H) (fun _ _ _=>by simp) (fun _ _ _=>False) (fun _ _ _=>H) (x0:=()) trivial hS (fun x=>x.elim) (fun _ x=>x.elim) (fun _ _ x=>x.elim) ?_ ?_
 ·intro l J Jx W1 hW hJ hJx hY h0
  have k:Chg w W1 []:=⟨hW.os,hW.tape,hW.output,hW.size,fun i hi _=>hW.block i hi⟩
  have hS1:St W1 (wl H) W1 H:=(hS.nil k).rebase
  refine callsIn_wide.2 ((hit (.func (.yield l) #[] #[]) W1 inferInstance k hS1).mono ?_)
  rintro e W' ⟨hv,hs⟩
  exact⟨hv,.inl ⟨[],rfl,hJ _ _ _ none h0 ((hS1.same hs).grown none) (fun r e=>by cases e)⟩⟩
 ·intro d xs x W1 _ _ hs hd
  exact hdone d W1 hs hd
 ·intro d c pre y W1 hf
  exact hf.elim
theorem Chg.other (w:World)(d:Nat)(o:Obj):Chg w (w.putObj d o) [d]:=
 ⟨rfl,rfl,rfl,by simp[World.putObj],fun k _ hn=>by
  simp only[World.putObj]
  rw[Array.getElem?_setIfInBounds]
  have:d≠k:=by simpa [eq_comm] using hn
  simp[this]⟩
theorem Mps.other {W0:World}{d:Nat}{o:Obj}(hB:Mps W0 As w0 bs Ms)(hS:St w0 bs w H)(hd:w.heap[d]?=some o)(h1:o.isCells=false)(h2:∀ es ck,o≠.map es ck)(hge:W0.heap.size≤d)(o' : Obj) :
  Mps W0 As (w.putObj d o') (wl H) Ms∧St (w.putObj d o') (wl H) (w.putObj d o') H:=by
 have k:=Chg.other w d o'
 have f1:∀ e∈H,e.b∉[d]:=fun e he hx=>by
  rw[List.mem_singleton] at hx
  have:=hS.get e he
  rw[hx,hd] at this
  cases this;cases h1
 have f2:∀ m∈Ms,m.1∉[d]:=fun m hm hx=>by
  rw[List.mem_singleton] at hx
  obtain⟨es,ck,h3,_⟩:=hB.now hS hm
  rw[hx,hd] at h3
  cases h3;exact h2 _ _ rfl
 refine⟨⟨(hB.all hS).trans k (fun x hx hl=>?_),fun m hm=>?_,hB.new,hB.nd,hB.wrs hS⟩,⟨Chg.refl _ _,fun e he=>k.get (hS.get e he) (f1 e he),hS.nd,fun e he hw=>.inl (mem_wl.2 ⟨e,he,hw,rfl⟩)⟩⟩
 ·rw[List.mem_singleton] at hx;omega
 ·obtain⟨es,ck,h3,h4⟩:=hB.now hS hm
  exact⟨es,ck,k.get h3 (f2 m hm),h4⟩
theorem uX {fn:Func}{tmps:Array Value}{R:Ending->World->Prop}{W0 w0' W2:World}{bs' : List Nat}{H2:List Ent}{d:Nat}(hd:w0.heap.size≤d∧W.heap[d]?=some (.deferred (some [])))
  (hB:Mps W0 As w0 bs Ms) (hS:St w0 bs W H) (hB2:Mps W (mw H Ms) w0' bs' Ms2) (hS2:St w0' bs' W2 H2)
  (h:∀ w0'' bs'' W3,Mps W0 As w0'' bs'' Ms2->St w0'' bs'' W3 H2->∃ v,(results fn tmps).run P W3=.ok v W3∧R (.returned v) W3):LeavesInM Fence.wide n P fn tmps R [{ target:=.collected d,args:=#[] }] .returning W2:=by
 have hd2:W2.heap[d]?=some (.deferred (some [])):=hB.keeps hS hB2 hS2 hd.2 rfl (fun _ _=>by simp)
 obtain⟨g1,g2⟩:=(hB.rejoin hS hB2).other hS2 hd2 rfl (fun _ _=>by simp) (Nat.le_trans hB.chg.size hd.1) (.deferred none)
 refine⟨by simp,.inl ⟨_,_,rfl,run_takeDeferred hd2,?_⟩⟩
 obtain⟨v,hr,hR⟩:=h _ _ _ g1 g2
 exact⟨v,hr,hR⟩
end
end Go.Mm
