/-
  Contracts of what the law TopPasses reaches, part 2: Arg Box Reg Free.
-/
import Derived.Test.YtnbgljbhkeffkaaGreatDoorQ01
import Derived.ProofKit
import Derived.OpenShut
import Derived.ShutString
import Derived.ChangeOld
import Derived.Below
import Derived.Deep.Slices
import Derived.Deep.RegionWith
import Derived.Laws.StructEq
import Derived.Deep.Quiet
open Go.Proofs.Tryz
set_option linter.unusedVariables false
set_option linter.unusedSimpArgs false
set_option maxHeartbeats 4000000
set_option maxRecDepth 100000
namespace Go.Mm
open Go Go.RowKit Go.ChangeShapes Go.WideShapes Go.ChangeAt
inductive Lk where
 | b
 | i (k:IntKind)
def yO:Lk->Value->Prop
 | .b,v=>∃ x,v=.bool x
 | .i k,v=>∃ n,v=.int k n∧(Lit.int k n).wf=true
def kg (P:Program)(g:TypeId->Option (List Lk)):List Field->Nat->Option (List Lk)
 | [],_=>some []
 | f::rest,off=>
  match g f.type,kg P g rest (off+P.cellsOf f.type) with
  | some l,some r=>if f.offset=off∧P.cellsOf f.type=l.length then some (l++r) else none
  | _,_=>none
def sj (P:Program):Nat->TypeId->Option (List Lk)
 | 0,_=>none
 | fuel+1,t=>
  match P.underlying t with
  | some .bool=>some [.b]
  | some (.int k)=>some [.i k]
  | some (.struct fs)=>match kg P (sj P fuel) fs.toList 0 with
   | some l=>if P.cellsOf t=l.length then some l else none
   | none=>none
  | _=>none
inductive OkCells:List Lk->List Value->Prop
 | nil:OkCells [] []
 | cons {k:Lk} {v:Value} {ks:List Lk} {vs:List Value} : yO k v->OkCells ks vs->OkCells (k::ks) (v::vs)
theorem OkCells.append {a b:List Lk}{c d:List Value}(h:OkCells a c)(k:OkCells b d):OkCells (a++b) (c++d):=by
 induction h with
 | nil=>exact k
 | cons h _ ih=>exact .cons h ih
theorem OkCells.len {a:List Lk}{c:List Value}(h:OkCells a c):c.length=a.length:=by
 induction h with
 | nil=>rfl
 | cons _ _ ih=>simp[ih]
section
variable {H:Type}{enc:TypeId×Value->H}{P:Program}{w:World}{base:Nat}{spare:Nat->Bool}{held:Bool}
theorem si {n:Nat}{g:TypeId->Option (List Lk)}(hg:∀ t l cs x,g t=some l->DataW.trod enc P w base spare held n t cs=some x->OkCells l cs)(cs:List Value) :
  ∀ (fs:List Field) (off:Nat) (L:List Lk),kg P g fs off=some L->(∀ f∈fs,∃ x,DataW.trod enc P w base spare held n f.type ((cs.drop f.offset).take (P.cellsOf f.type))=some x) ->
   OkCells L ((cs.drop off).take L.length):=by
 intro fs
 induction fs with
 | nil=>
  intro off L h _
  simp only[kg,Option.some.injEq] at h
  subst h
  simpa using OkCells.nil
 | cons f rest ih=>
  intro off L h hx
  simp only[kg] at h
  split at h
  ·rename_i l r hl hr
   split at h
   ·rename_i hc
    obtain⟨ho,hn⟩:=hc
    simp only[Option.some.injEq] at h
    subst h
    obtain⟨y,hy⟩:=hx f (by simp)
    have h1:=hg _ _ _ _ hl hy
    have h2:=ih _ _ hr (fun f' hf'=>hx f' (by simp[hf']))
    rw[ho,hn] at h1
    rw[hn] at h2
    rw[List.length_append,List.take_add,List.drop_drop]
    exact h1.append h2
   ·cases h
  ·cases h
theorem qU:∀ (fuel m:Nat) (t:TypeId) (l:List Lk) (cs:List Value) (x:DataW H×List MemPlace),sj P fuel t=some l->DataW.trod enc P w base spare held m t cs=some x->OkCells l cs:=by
 intro fuel
 induction fuel with
 | zero=>intro m t l cs x h;simp[sj] at h
 | succ fuel ih=>
  intro m t l cs x h hx
  simp only[sj] at h
  split at h
  ·rename_i hu
   simp only[Option.some.injEq] at h
   subst h
   obtain⟨b,rfl,_⟩:=DataW.trod_bool hu hx
   exact .cons ⟨b,rfl⟩ .nil
  ·rename_i k hu
   simp only[Option.some.injEq] at h
   subst h
   obtain⟨n,rfl,_,hw⟩:=DataW.trod_int hu hx
   exact .cons ⟨n,rfl,hw⟩ .nil
  ·rename_i fs hu
   split at h
   ·rename_i L hL
    split at h
    ·rename_i hc
     simp only[Option.some.injEq] at h
     subst h
     obtain⟨xs,n,_,_,hl,hlen,hf⟩:=DataW.trod_struct hu hx
     have:=si (fun t l cs x h h'=>ih n t l cs x h h') cs fs.toList 0 L hL (fun f hf'=>by
      obtain⟨i,hi,rfl⟩:=List.getElem_of_mem hf'
      have hi' : i<fs.size:=by simpa using hi
      have h1:=hf i fs[i] (Array.getElem?_eq_getElem hi')
      rw[List.getElem?_eq_getElem (by omega)] at h1
      exact⟨_,by simpa using h1⟩)
     rw[List.drop_zero,← hc,← hl,List.take_length] at this
     exact this
    ·cases h
   ·cases h
  ·cases h
structure Flat (w:World)(ks:List Lk)(v:Value)(n:Nat)(b off:Nat)(F:Nat->Nat->Value):Prop where
 v:∃ a cap,v=.slice a n cap∧n≤cap∧cap≤maxLen∧(0<n->a=some ⟨b,off,none⟩)
 c:∀ i,i<n->∀ j,j<ks.length->w.cell? ⟨b,off+(i * ks.length+j),none⟩=some (F i j)
 k:∀ i,i<n->∀ j k,ks[j]?=some k->yO k (F i j)
theorem OkCells.get {ks:List Lk}{vs:List Value}(h:OkCells ks vs):∀ (j:Nat) (k:Lk),ks[j]?=some k->∃ v,vs[j]?=some v∧yO k v:=by
 induction h with
 | nil=>intro j k h;simp at h
 | cons h _ ih=>
  intro j k hk
  cases j with
  | zero=>simp at hk;subst hk;exact⟨_,rfl,h⟩
  | succ j=>simpa using ih j k (by simpa using hk)
theorem BV {t e:TypeId}{fuel f:Nat}{ks:List Lk}{v:Value}{d:DataW H}{p:List MemPlace}(ht:P.underlying t=some (.slice e))(hk0:0<ks.length)
  (hv:∃ a n c,v=.slice a n c)
  (h:DataW.trod enc P w base spare held f t v.cells.toList=some (d,p))(hk:sj P fuel e=some ks:=by kernel_rfl)(hkn:P.cellsOf e=ks.length:=by kernel_rfl):∃ n b off F,Flat w ks v n b off F:=by
 obtain⟨a,n,c,rfl⟩:=hv
 have hcs:(Value.slice a n c).cells.toList=[.slice a n c]:=rfl
 rw[hcs] at h
 rcases DataW.trod_slice ht h with ⟨h0,_⟩|⟨a',len,cap,elems,rest,m,_,hc,_,_,hl,hm,hlen,hel,_,_⟩
 ·simp only[List.cons.injEq,Value.slice.injEq,and_true] at h0
  obtain⟨rfl,rfl,rfl⟩:=h0
  exact⟨0,0,0,fun _ _=>undef,⟨none,0,rfl,Nat.le_refl _,by simp[maxLen],fun h=>absurd h (Nat.lt_irrefl 0)⟩,fun i hi=>absurd hi (Nat.not_lt_zero _),fun i hi=>absurd hi (Nat.not_lt_zero _)⟩
 ·simp only[List.cons.injEq,Value.slice.injEq,and_true] at hc
  obtain⟨rfl,rfl,rfl⟩:=hc
  have hE:∀ i,i<n->∃ vs,w.cells? base (a'.add (i * ks.length)) ks.length=some vs∧OkCells ks vs:=by
   intro i hi
   have h1:=hel i hi
   rw[hkn] at h1
   rw[List.getElem?_eq_getElem (by omega)] at h1
   obtain⟨vs,hvs,hx⟩:=Option.bind_eq_some_iff.1 h1
   exact⟨vs,hvs,qU _ _ _ _ _ _ hk hx⟩
  obtain⟨V,hV⟩:=Deep.choose_lt hE
  have hcell:∀ i,i<n->∀ j,j<ks.length->∃ v,(V i)[j]?=some v∧w.cell? (a'.add (i * ks.length+j))=some v:=by
   intro i hi j hj
   obtain⟨h1,h2⟩:=hV i hi
   obtain⟨_,hlen,hc⟩:=World.cells?_some h1
   have h3:=hc j hj
   have hj' : j<(V i).length:=by rw[h2.len];exact hj
   rw[List.getElem?_eq_getElem hj'] at h3
   exact⟨_,List.getElem?_eq_getElem hj',by rw[← Deep.add_add];exact h3⟩
  by_cases hn:0<n
  ·have hspot:a'.spot=none:=by
    obtain⟨v,_,h1⟩:=hcell 0 hn 0 hk0
    have h2:a'.add (0 * ks.length+0)=a':=by simp[Addr.add]
    rw[h2] at h1
    exact World.cell?_spot h1
   obtain⟨b,off,spot⟩:=a'
   simp only at hspot
   subst hspot
   refine⟨n,b,off,fun i j=>(V i).getD j undef,⟨_,c,rfl,hl,hm,fun _=>rfl⟩,fun i hi j hj=>?_,fun i hi j k hk=>?_⟩
   ·obtain⟨v,h1,h2⟩:=hcell i hi j hj
    rw[Addr.add_lit] at h2
    rw[h2]
    simp[List.getD,h1]
   ·obtain⟨v,h1,h2⟩:=(hV i hi).2.get j k hk
    simpa [List.getD,h1] using h2
  ·have h0:n=0:=by omega
   subst h0
   exact⟨0,0,0,fun _ _=>undef,⟨_,c,rfl,hl,hm,fun h=>absurd h (Nat.lt_irrefl 0)⟩,fun i hi=>absurd hi (Nat.not_lt_zero _),fun i hi=>absurd hi (Nat.not_lt_zero _)⟩
end
theorem vT {H:Type}{enc:TypeId×Value->H}{P:Program}{w:World}{base:Nat}{spare:Nat->Bool}{held:Bool}{t:TypeId}{fuel f:Nat}{ks:List Lk}{v:Value}{d:DataW H}{p:List MemPlace}(hk1:1<ks.length)
  (h:DataW.trod enc P w base spare held f t v.cells.toList=some (d,p))(hk:sj P fuel t=some ks:=by kernel_rfl):∃ cs,v=.agg cs.toArray∧OkCells ks cs:=by
 have h1:=qU _ _ _ _ _ _ hk h
 have hl:=h1.len
 cases v with
 | agg cs=>exact⟨cs.toList,by simp,h1⟩
 | _=>simp[Value.cells] at hl;omega
section
variable {P:Program}{o:Oper}{a:Act}{w:World}{v:Value}
class LenV (P:Program)(t:TypeId)(v:Value)(n:outParam Nat):Prop where
 h:∃ x c,v=.slice x n c
 t:∃ e,P.underlying t=some (.slice e)
theorem aA {x:Operand}{t:TypeId}(ho:o.op=.call { callee:=.builtin .len,args:=#[x],argTypes:=#[t] })[hx:Ev a x v]{n:Nat}[hl:LenV P t v n] : ay P o a w (.int .i64 n):=by
 obtain⟨y,c,rfl⟩:=hl.h
 obtain⟨e,he⟩:=hl.t
 unfold ay
 simp only[execOp,ho,resolve,invoke,builtin,Sem.run_bind,Sem.run_pure,Result.andThen_ok,List.map_toArray,List.map_cons,List.map_nil,hx.h,Builtin.len_,List.getElem?_toArray,List.getElem?_cons_zero,run_underlying he,goInt]
class PreV (P:Program)(t:TypeId)(v:Value)(m:Int)(v' : outParam Value):Prop where
 h:∀ w,(Instr.sliceAt t v none (some (.int .i64 m)) none).run P w=.ok v' w
theorem mN {t:TypeId}{x y:Operand}(ho:o.op=.slice t x none (some y) none){m:Int}{v' : Value}[hx:Ev a x v][hy:Ev a y (.int .i64 m)][hp:PreV P t v m v'] : ay P o a w v':=by
 unfold ay
 simp only[execOp,ho,hx.h,Option.map_none,Option.map_some,hy.h,Sem.run_bind,hp.h,Result.andThen_ok,Sem.run_pure]
class IdxV (P:Program)(t:TypeId)(v:Value)(i:Int)(p:outParam Addr):Prop where
 h:∀ w,(Instr.indexAt t v (.int .i64 i)).run P w=.ok (.pointer (some p)) w
theorem aY (t:TypeId)(x y:Operand)(ho:o.op=.indexAddr t x y){i:Int}{p:Addr}[hx:Ev a x v][hy:Ev a y (.int .i64 i)][hp:IdxV P t v i p] : ay P o a w (.pointer (some p)):=by
 unfold ay
 simp only[execOp,ho,hx.h,hy.h,Sem.run_bind,hp.h,Result.andThen_ok,Sem.run_pure]
theorem aM {ops:Array Oper}{Q:Exit->Act->World->Prop}{rest:List Oper}{a' : Act} {t:TypeId}{x y:Operand}(ho:o.op=.indexAddr t x y){i:Int}{p:Addr}[hx:Ev a x v][hy:Ev a y (.int .i64 i)][hp:IdxV P t v i p][hp_:Put a o.dst (.pointer (some p)) a'](hK_:wpList P ops Q rest a' w)(hw_:Region.wanted o (yielded ops a.tmps)=true:=by kernel_rfl):wpList P ops Q (o::rest) a w:=bI hw_ (ar (aY t x y ho) hK_)
variable {ks:List Lk}{n b off:Nat}{F:Nat->Nat->Value}
theorem Flat.len {t e:TypeId}(h:Flat w ks v n b off F)(ht:P.underlying t=some (.slice e)):LenV P t v n:=by
 obtain⟨x,c,rfl,_⟩:=h.v
 exact⟨⟨x,c,rfl⟩,⟨e,ht⟩⟩
theorem iZ {e:TypeId}{m:Nat}(hs:(P.info? e).map (·.size)=some m)(w:World):(sizeOf e).run P w=.ok m w:=aU hs w
theorem Flat.idx {t e:TypeId}(h:Flat w ks v n b off F)(ht:P.underlying t=some (.slice e))(hs:(P.info? e).map (·.size)=some ks.length){i:Nat}(hi:i<n):IdxV P t v i ⟨b,off+i * ks.length,none⟩:=by
 obtain⟨x,c,rfl,_,_,hx⟩:=h.v
 rw[hx (by omega)]
 refine⟨fun w=>?_⟩
 have h1:i<n:=hi
 have h2:0≤(i:Int):=by omega
 simp[Instr.indexAt,asIntOf,run_underlying ht,h1,iZ hs,Addr.add_lit]
theorem Flat.cell1 (h:Flat w ks v n b off F)(hz:ks.length=1){i:Nat}(hi:i<n):Cell0 w b (off+i) (F i 0):=⟨by
 have:=h.c i hi 0 (by omega)
 rwa [hz,Nat.mul_one,Nat.add_zero] at this⟩
theorem Flat.idx1 {t e:TypeId}(h:Flat w ks v n b off F)(hz:ks.length=1)(ht:P.underlying t=some (.slice e))(hs:(P.info? e).map (·.size)=some ks.length){i:Nat}(hi:i<n):IdxV P t v i ⟨b,off+i,none⟩:=by
 have:=h.idx ht hs hi
 rwa [hz,Nat.mul_one] at this
theorem Flat.int (h:Flat w ks v n b off F){i j:Nat}{k:IntKind}(hi:i<n)(hk:ks[j]?=some (.i k)):∃ x,F i j=.int k x∧(Lit.int k x).wf=true:=h.k i hi j _ hk
end
open Go Go.RowKit
section
variable {w0 w:World}{bs:List Nat}{H H' E E1 H1:List Ent}
theorem St.perm (hS:St w0 bs w H)(hp:H.Perm H'):St w0 bs w H':=
 ⟨hS.chg,fun e he=>hS.get e (hp.symm.subset he),hp.pairwise hS.nd (fun hxy e=>hxy e.symm),fun e he=>hS.wr e (hp.symm.subset he)⟩
theorem St.front (hS:St w0 bs w H)[hc:Cut H E H1] : St w0 bs w (E++H1):=by
 obtain⟨A,B,rfl,rfl⟩:=hc.h
 refine hS.perm ?_
 rw[← List.append_assoc,← List.append_assoc]
 exact List.perm_append_comm.append_right B
theorem St.fr (hS:St w0 bs w H)(E H1:List Ent)[hc:Cut H E H1] : St w0 bs w (E++H1):=hS.front
instance (priority:=1200) Aq {T H:List Ent}[h:Pick T H] : Pick ([]++T) H:=h
instance (priority:=1200) y0 {x:Ent}{l T H:List Ent}[h:Pick (x::(l++T)) H] : Pick ((x::l)++T) H:=h
instance (priority:=700) CT {x:Ent}{T H:List Ent}[h:Pick T H] : Pick T (x::H):=
 ⟨let ⟨R,hR⟩:=h.h;⟨x::R,List.perm_middle.trans (hR.cons x)⟩⟩
instance (priority:=650) yZ {E T H:List Ent}[h:Pick T H] : Pick T (E++H):=
 ⟨let ⟨R,hR⟩:=h.h;⟨E++R,by
  rw[← List.append_assoc]
  exact(List.perm_append_comm.append_right R).trans (by rw[List.append_assoc];exact hR.append_left E)⟩⟩
instance (priority:=500) Fn {H:List Ent} : Cut H [] H:=⟨[],H,rfl,rfl⟩
instance (priority:=1050) Fm {E:List Ent} : Cut E E []:=⟨[],[],by simp,rfl⟩
instance (priority:=600) CU {E H H1:List Ent}[h1:Cut H E H1] : Pick E H:=⟨let ⟨A,B,e1,e2⟩:=h1.h;⟨A++B,by
 rw[e1,← List.append_assoc,← List.append_assoc];exact List.perm_append_comm.append_right B⟩⟩
instance (priority:=850) E8 {E H:List Ent}{b:Nat}{cs:Array Value}{T:TypeId}[h:Has E b cs T] : Has (E++H) b cs T:=⟨let ⟨wr,hm⟩:=h.h;⟨wr,List.mem_append_left _ hm⟩⟩
def P5 {X:Type}(a:Act)(vals:X->List (Nat×Value))(Φ:X->World->Prop)(a' : Act)(w' : World):Prop:=∃ x,a'=oW a (vals x)∧Φ x w'
end
class AggEq (P:Program)(t:TypeId)(x y:Array Value)(b:outParam Bool):Prop where
 h:∀ w,(binOp .eql t (.agg x) (.agg y)).run P w=.ok (.bool b) w
 h' : ∀ w,(binOp .neq t (.agg x) (.agg y)).run P w=.ok (.bool (!b)) w
 g:P.eqGuardType P.depth t=false
theorem dh {P:Program}{o:Oper}{a:Act}{w:World}{t t': TypeId}{x y:Operand}(ho:o.op=.binOp .eql t x y t'){u v:Array Value}[hx:Ev a x (.agg u)][hy:Ev a y (.agg v)]{b:Bool}[hq:AggEq P t u v b] : ay P o a w (.bool b):=by
 unfold ay
 simp only[execOp,ho,hx.h,hy.h,Sem.run_bind,run_eqGuard_agg w .eql t x y u v hq.g,hq.h,Result.andThen_ok,Sem.run_pure]
class NotB (b:Bool)(c:outParam Bool):Prop where
 h:(!b)=c
instance N3:NotB true false:=⟨rfl⟩
instance N4:NotB false true:=⟨rfl⟩
instance (priority:=500) N2 {b:Bool} : NotB b (!b):=⟨rfl⟩
theorem bK {P:Program}{o:Oper}{a:Act}{w:World}{t t': TypeId}{x y:Operand}(ho:o.op=.binOp .neq t x y t'){u v:Array Value}[hx:Ev a x (.agg u)][hy:Ev a y (.agg v)]{b c:Bool}[hq:AggEq P t u v b][hn:NotB b c] : ay P o a w (.bool c):=by
 unfold ay
 simp only[execOp,ho,hx.h,hy.h,Sem.run_bind,run_eqGuard_agg w .neq t x y u v hq.g,hq.h',Result.andThen_ok,Sem.run_pure,hn.h]
theorem cG {P:Program}{t:TypeId}(hs:ScalarT P t){xs:Array Value}{off:Nat}{v:Value}(h:xs[off]?=some v)(w:World):(part t xs off).run P w=.ok v w:=by
 simp[part,hs.run,h]
class CellEq (P:Program)(t:TypeId)(x y:Value)(b:outParam Bool):Prop where
 h:∀ (d:Nat) (w:World),(Op.equalIn (d+1) t x y).run P w=.ok b w
 s:ScalarT P t
class EqSp (P:Program)(l:List (TypeId×Nat))(xs ys:Array Value)(b:outParam Bool):Prop where
 h : ∀ (d : Nat) (w : World) (fs : List Field), fs.map (fun f => (f.name == "_", f.type, f.offset)) = l.map (fun x => (false, x.1, x.2)) → (Op.eqFields (d + 1) xs ys fs).run P w = .ok b w
instance Fj {P:Program}{xs ys:Array Value} : EqSp P [] xs ys true:=⟨fun d w fs h=>by
 obtain rfl:fs=[]:=by simpa using h
 rfl⟩
instance DK {P:Program}{t:TypeId}{o:Nat}{l:List (TypeId×Nat)}{xs ys:Array Value}{u v:Value}{b b' : Bool}[h1:CellAt xs o u][h2:CellAt ys o v][hc:CellEq P t u v b][h:EqSp P l xs ys b'] :
  EqSp P ((t,o)::l) xs ys (b && b'):=⟨fun d w fs hf=>by
 cases fs with
 | nil=>simp at hf
 | cons f fs=>
  simp only[List.map_cons,List.cons.injEq,Prod.mk.injEq] at hf
  obtain⟨⟨hn,ht,ho⟩,hf⟩:=hf
  have hn' : f.name ≠ "_" := by simpa using hn
  have ih:=h.h d w fs hf
  simp only[Op.eqFields,if_pos hn',ht,ho,Sem.run_bind,cG hc.s h1.h,cG hc.s h2.h,Result.andThen_ok,hc.h,Sem.run_ite,Sem.run_pure,ih]
  cases b <;> simp⟩
theorem fN {P:Program}{t:TypeId}(l:List (TypeId×Nat))
   {xs ys : Array Value} {b : Bool} [h : EqSp P l xs ys b] (ht:P.underlying t=some (.struct (P.fieldsOf t)):=by kernel_rfl)(hp:P.stoodInHeld t=false:=by kernel_rfl)(hg:P.eqGuardType P.depth t=false:=by kernel_rfl)(hl: (P.fieldsOf t).toList.map (fun f => (f.name == "_", f.type, f.offset)) = l.map (fun x => (false, x.1, x.2)):=by kernel_rfl): AggEq P t xs ys b := by
 have hr:∀ w,(Op.equalIn 10000 t (.agg xs) (.agg ys)).run P w=.ok b w:=fun w=>by
  rw[run_equalIn_agg w 9999 t _ _ ht hp]
  exact h.h 9998 w _ hl
 exact⟨fun w=>by rw[run_eql_struct,hr];rfl,fun w=>by rw[run_neq_struct,hr];rfl,hg⟩
theorem fb {P:Program}{t:TypeId}{k k' : IntKind}{a b:Int}(ht:P.underlying t=some (.int k'))(hs:ScalarT P t):CellEq P t (.int k a) (.int k b) (decide (a=b)):=
 ⟨fun d w=>by rw[run_equalIn_int w d t k k' a b ht];rfl,hs⟩
theorem cH {P:Program}{fn:Func}{p:Tmp}(h:fn.results=#[.tmp p]){tmps:List Value}{v:Value}[hp:Nth tmps p v]{w:World} : (results fn tmps.toArray).run P w=.ok v w:=by
 have h1:tmps[p]?.getD undef=v:=by simp[hp.h]
 simp[results,h,h1]
theorem Sl.one {e:TypeId}{size n:Nat}{v:Value}{xs:List Value}{E:List Ent}(h:Sl e size v n xs E):OneCell v:=by
 rcases h.or with ⟨rfl,_⟩|⟨g,cap,sp,rfl,_⟩ <;> infer_instance
section
variable {α:Type}{f:α->List Value}{z:Nat}
theorem bw (hf:∀ a,(f a).length=z):∀ R:List α,(R.flatMap f).length=R.length * z
 | []=>by simp
 | a::R=>by rw[List.flatMap_cons,List.length_append,hf,bw hf R,List.length_cons,Nat.add_mul,Nat.one_mul,Nat.add_comm]
theorem kf (hf:∀ a,(f a).length=z):∀ (R:List α) (i j:Nat) (a:α),R[i]?=some a->j<z->(R.flatMap f)[i * z+j]?=(f a)[j]?
 | [],i,j,a,h,_=>by simp at h
 | b::R,0,j,a,h,hj=>by
  simp only[List.getElem?_cons_zero,Option.some.injEq] at h
  subst h
  rw[List.flatMap_cons,Nat.zero_mul,Nat.zero_add,List.getElem?_append_left (by rw[hf];exact hj)]
 | b::R,i+1,j,a,h,hj=>by
  rw[List.getElem?_cons_succ] at h
  rw[List.flatMap_cons,List.getElem?_append_right (by rw[hf,Nat.add_mul];omega),hf,show(i+1) * z+j - z=i * z+j by rw[Nat.add_mul];omega]
  exact kf hf R i j a h hj
theorem nA (hf:∀ a,(f a).length=z){v:Value}{j:Nat}(hj:j<z){a a' : α}(ha:(f a).set j v=f a'):∀ (R:List α) (i:Nat),R[i]?=some a->(R.flatMap f).set (i * z+j) v=(R.set i a').flatMap f
 | [],i,h=>by simp at h
 | b::R,0,h=>by
  simp only[List.getElem?_cons_zero,Option.some.injEq] at h
  subst h
  rw[List.flatMap_cons,List.set_cons_zero,List.flatMap_cons,Nat.zero_mul,Nat.zero_add,List.set_append_left _ _ (by rw[hf];exact hj),ha]
 | b::R,i+1,h=>by
  rw[List.getElem?_cons_succ] at h
  rw[List.flatMap_cons,List.set_cons_succ,List.flatMap_cons,List.set_append_right _ _ (by rw[hf,Nat.add_mul];omega),hf,show(i+1) * z+j - z=i * z+j by rw[Nat.add_mul];omega,
   nA hf hj ha R i h]
theorem k6 (hf:∀ a,(f a).length=z){a' : α} : ∀ (R:List α) (i:Nat),i<R.length->(R.flatMap f).take (i * z)++f a'++(R.flatMap f).drop (i * z+z)=(R.set i a').flatMap f
 | [],i,h=>by simp at h
 | b::R,0,h=>by
  rw[Nat.zero_mul,List.take_zero,Nat.zero_add,List.flatMap_cons,List.drop_left' (hf b),List.set_cons_zero,List.flatMap_cons,List.nil_append]
 | b::R,i+1,h=>by
  have ih:=k6 hf (a':=a') R i (by simpa using h)
  rw[List.flatMap_cons,List.set_cons_succ,List.flatMap_cons,show(i+1) * z=(f b).length+i * z by rw[hf,Nat.add_mul];omega,List.take_length_add_append,Nat.add_assoc,List.drop_length_add_append,
   List.append_assoc,List.append_assoc,← ih,List.append_assoc]
def cX (pre:List Value)(f:α->List Value)(R:List α)(post:List Value):Array Value:=(pre++(R.flatMap f++post)).toArray
variable {pre post:List Value}{R:List α}
theorem co (hf:∀ a,(f a).length=z):(cX pre f R post).size=pre.length+(R.length * z+post.length):=by
 simp[cX,bw hf]
theorem cK (hf:∀ a,(f a).length=z){i off:Nat}{a:α}(h:R[i]?=some a)(ho:off=pre.length+i * z):CellsAt (cX pre f R post) off z (f a).toArray:=by
 subst ho
 have hi:=(List.getElem?_eq_some_iff.1 h).1
 refine⟨fun j hj=>?_,by simp[hf]⟩
 have hl:i * z+j<(R.flatMap f).length:=by
  rw[bw hf]
  have:(i+1) * z≤R.length * z:=Nat.mul_le_mul_right _ hi
  rw[Nat.add_mul] at this
  omega
 unfold cX
 rw[List.getElem?_toArray,List.getElem?_append_right (by omega),show pre.length+i * z+j - pre.length=i * z+j by omega,List.getElem?_append_left hl,kf hf R i j a h hj,List.getElem?_toArray]
theorem jo (hf:∀ a,(f a).length=z){i j off:Nat}{a:α}{v:Value}(h:R[i]?=some a)(hj:j<z)(hv:(f a)[j]?=some v)(ho:off=pre.length+i * z+j):CellAt (cX pre f R post) off v:=by
 subst ho
 have:=(cK (pre:=pre) (post:=post) hf h rfl).h j hj
 exact⟨by rw[this,List.getElem?_toArray,hv]⟩
theorem iO (hf:∀ a,(f a).length=z){i j off:Nat}{a a' : α}{v:Value}(h:R[i]?=some a)(hj:j<z)(hv:(f a).set j v=f a')(ho:off=pre.length+i * z+j):SetAt (cX pre f R post) off v (cX pre f (R.set i a') post):=by
 subst ho
 have hi:=(List.getElem?_eq_some_iff.1 h).1
 have hl:i * z+j<(R.flatMap f).length:=by
  rw[bw hf]
  have:(i+1) * z≤R.length * z:=Nat.mul_le_mul_right _ hi
  rw[Nat.add_mul] at this
  omega
 refine⟨?_,?_⟩
 ·unfold cX
  rw[List.setIfInBounds_toArray,List.set_append_right _ _ (by omega),show pre.length+i * z+j - pre.length=i * z+j by omega,List.set_append_left _ _ hl,nA hf hj hv R i h]
 ·rw[co hf];rw[bw hf] at hl;omega
theorem fX (hf:∀ a,(f a).length=z){i off:Nat}{a' : α}(hi:i<R.length)(ho:off=pre.length+i * z):SetsAt (cX pre f R post) off (f a').toArray (cX pre f (R.set i a') post):=by
 subst ho
 have hl:i * z+z≤(R.flatMap f).length:=by
  rw[bw hf]
  have:(i+1) * z≤R.length * z:=Nat.mul_le_mul_right _ hi
  rw[Nat.add_mul] at this
  omega
 refine⟨?_,?_⟩
 ·unfold cX
  rw[List.size_toArray,hf,Nat.add_assoc,List.take_length_add_append,List.drop_length_add_append,List.take_append_of_le_length (by omega),List.drop_append_of_le_length hl,← k6 hf R i hi]
  simp
 ·rw[co hf,List.size_toArray,hf];rw[bw hf] at hl;omega
theorem cz {j:Nat}{v:Value}(h:pre[j]?=some v):CellAt (cX pre f R post) j v:=
 ⟨by unfold cX;rw[List.getElem?_toArray,List.getElem?_append_left (List.getElem?_eq_some_iff.1 h).1,h]⟩
theorem dv {j:Nat}{v:Value}{pre' : List Value}(h:j<pre.length)(he:pre.set j v=pre'):SetAt (cX pre f R post) j v (cX pre' f R post):=
 ⟨by unfold cX;rw[List.setIfInBounds_toArray,List.set_append_left _ _ h,he],by simp[cX];omega⟩
theorem fY (hp:∀ v∈pre,v.oneCell'=true)(hf:∀ a,∀ v∈f a,v.oneCell'=true)(hq:∀ v∈post,v.oneCell'=true):OneCells (cX pre f R post):=⟨by
 intro v hv
 simp only[cX,List.mem_append,List.mem_flatMap] at hv
 rcases hv with h|⟨a,_,h⟩|h
 ·exact hp v h
 ·exact hf a v h
 ·exact hq v h⟩
theorem kw (hf:∀ a,(f a).length=z){n:Nat}(hn:pre.length+(R.length * z+post.length)=n):CellsAt (cX pre f R post) 0 n (cX pre f R post):=
 ⟨fun j _=>by rw[Nat.zero_add],by rw[co hf];exact hn⟩
theorem ij (hf:∀ a,(f a).length=z){n:Nat}(hn:pre.length+(R.length * z+post.length)=n):SizeIs (cX pre f R post) n:=⟨by rw [co hf];exact hn⟩
theorem ik (hf:∀ a,(f a).length=z){cs:Array Value}(hn:cs.size=pre.length+(R.length * z+post.length)):SetsAt cs 0 (cX pre f R post) (cX pre f R post):=
 ⟨by rw[co hf,Nat.zero_add,← hn,List.drop_of_length_le (by simp)];simp,by rw[co hf,hn];omega⟩
end
open Go Go.RowKit
section
variable {P:Program}{ops:Array Oper}{md:Region.Mode}{C:Nat->World->Prop}{m:Nat->Bool}
def tp (P:Program)(C' : World->Prop)(v:Value):Result Next->Prop
 | .ok (.value u) w'=>C' w'∧u=v
 | .ok .skip w'=>C' w'∧v=undef
 | .ok (.enter f args) w'=>Calls P f args w' (fun e w''=>e=.returned v∧C' w'')
 | _=>False
def tq (P:Program)(o:Oper)(a:Act)(C' : World->Prop)(w:World)(v:Value):Prop:=tp P C' v ((execOp a.eval o).run P w)
def Yv (P:Program)(C:Nat->World->Prop)(m:Nat->Bool)(i:Nat)(o:Oper)(p:Nat)(a:Act)(v:Value):Prop:=
 if m i then ∀ w,C p w->tq P o a (C (p+1)) w v else ∀ q w,C q w->tq P o a (C q) w v
def nx (m:Nat->Bool)(i p:Nat):Nat:=if m i then p+1 else p
def Ny (P:Program)(ops:Array Oper)(C:Nat->World->Prop)(m:Nat->Bool)(i p:Nat)(K:Nat->Act->Prop)(a:Act):Prop:=
 match ops[i]? with
 | none=>K p a
 | some o=>if Region.wanted o (yielded ops a.tmps) then ∃ v,Yv P C m i o p a v∧K (nx m i p) (a.put o.dst v) else K p (a.put o.dst undef)
def yR (P:Program)(ops:Array Oper)(C:Nat->World->Prop)(m:Nat->Bool)(Q:Nat->Act->Prop):Nat->Nat->List Oper->Act->Prop
 | _,p,[],a=>Q p a
 | k,p,o::rest,a=>if Region.wanted o (yielded ops a.tmps) then ∃ v,Yv P C m k o p a v∧yR P ops C m Q (k+1) (nx m k p) rest (a.put o.dst v) else yR P ops C m Q (k+1) p rest (a.put o.dst undef)
def zt (P:Program)(md:Region.Mode)(ops:Array Oper)(C:Nat->World->Prop)(m:Nat->Bool)(Q:Nat->Act->Prop):Nat->Array Bool->Nat->Act->Prop
 | 0,listed,p,a=>Region.ready md ops listed=[]∧Q p a
 | fuel+1,listed,p,a=>
  (Region.ready md ops listed=[]->Q p a) ∧
  ∀ i∈Region.ready md ops listed,Ny P ops C m i p (zt P md ops C m Q fuel (listed.setIfInBounds i true)) a
def Fw (P:Program)(ops:Array Oper)(C:Nat->World->Prop)(m:Nat->Bool)(i:Nat)(o:Oper)(v:Value)(p p' : Nat)(a:Act):Prop:=
 (Region.wanted o (yielded ops a.tmps)=true∧Yv P C m i o p a v∧p'=nx m i p)∨(Region.wanted o (yielded ops a.tmps)=false∧v=undef∧p'=p)
theorem qS {l:Array Bool}{x:Nat}(h:l.getD x false=true):l.getD x true=true:=by
 rcases Nat.lt_or_ge x l.size with h'|h'
 ·simp[h'] at h ⊢;exact h
 ·simp[Array.getElem?_eq_none h'] at h
def oe (md:Region.Mode)(ops:Array Oper)(i:Nat):Nat->Nat->Bool
 | 0,_=>false
 | n+1,j=>match ops[j]? with
  | some o=>o.after.any (fun e=>Region.binds md e && (e.on == i || oe md ops i n e.on))
  | none=>false
def ClosedL (md:Region.Mode)(ops:Array Oper)(listed:Array Bool):Prop:=∀ j oj,ops[j]?=some oj->listed.getD j true=true->∀ e∈oj.after,Region.binds md e=true->listed.getD e.on true=true
theorem gC {i:Nat}{listed:Array Bool}(hc:ClosedL md ops listed):∀ (n j:Nat) (oj:Oper),ops[j]?=some oj->(∀ e∈oj.after,Region.binds md e=true->listed.getD e.on true=true)->oe md ops i n j=true->listed.getD i true=true
 | 0,_,_,_,_,h=>by cases h
 | n+1,j,oj,hj,hall,h=>by
  unfold oe at h
  simp only[hj] at h
  obtain⟨e,he,hb⟩:=Array.any_eq_true'.1 h
  simp only[Bool.and_eq_true,Bool.or_eq_true,beq_iff_eq] at hb
  obtain⟨hb,h1|h1⟩:=hb
  ·rw[← h1];exact hall e he hb
  ·cases ho:ops[e.on]? with
   | none=>cases n with
    | zero=>cases h1
    | succ n=>unfold oe at h1;simp only[ho] at h1;cases h1
   | some ok=>exact gC hc n e.on ok ho (hc e.on ok ho (hall e he hb)) h1
theorem ClosedL.set {listed:Array Bool}(hc:ClosedL md ops listed){j:Nat}{oj:Oper}(hj:ops[j]?=some oj)(hall:∀ e∈oj.after,Region.binds md e=true->listed.getD e.on true=true):ClosedL md ops (listed.setIfInBounds j true):=by
 have up:∀ x,listed.getD x true=true->(listed.setIfInBounds j true).getD x true=true:=fun x hx=>by
  by_cases e:j=x
  ·subst e
   rcases Nat.lt_or_ge j listed.size with h'|h'
   ·simp[h']
   ·simp
  ·rw[getD_set_ne true e];exact hx
 intro x ox hx hl e he hb
 by_cases h:j=x
 ·subst h
  rw[hj] at hx
  obtain rfl:=Option.some.inj hx
  exact up _ (hall e he hb)
 ·rw[getD_set_ne true h] at hl
  exact up _ (hc x ox hx hl e he hb)
def Hd (md:Region.Mode)(ops:Array Oper)(m:Nat->Bool):Bool:=
 (List.range ops.size).all fun j=>(List.range j).all fun i=>!(m i && m j) || oe md ops i ops.size j
variable {Q:Nat->Act->Prop}{k p:Nat}{o:Oper}{rest:List Oper}{a a' : Act}{v:Value}
class EvL (a:Act)(xs:List Operand)(vs:outParam (List Value)):Prop where
 h:xs.map a.eval=vs
instance G2 {a:Act} : EvL a [] []:=⟨rfl⟩
instance Fh {a:Act}{x:Operand}{v:Value}{xs:List Operand}{vs:List Value}[h1:Ev a x v][h:EvL a xs vs] : EvL a (x::xs) (v::vs):=⟨by rw [List.map_cons,h1.h,h.h]⟩
variable {w:World}
theorem ad {x:Operand}(ho:o.op=.move x)[hx:Ev a x v] : ay P o a w v:=by
 unfold ay;simp[execOp,ho,hx.h]
theorem aG {x:Operand}(ho:o.op=.assign x)[hx:Ev a x v] : ay P o a w v:=by
 unfold ay;simp[execOp,ho,hx.h]
theorem gP {c x y:Operand}(ho:o.op=.pick c x y)[hc:Ev a c (.bool true)][hx:Ev a x v] : ay P o a w v:=by
 unfold ay;simp[execOp,ho,hc.h,hx.h,asBool]
theorem jf {c x y:Operand}(ho:o.op=.pick c x y)[hc:Ev a c (.bool false)][hy:Ev a y v] : ay P o a w v:=by
 unfold ay;simp[execOp,ho,hc.h,hy.h,asBool]
theorem wI {k:IntKind}{e:Int}{t t': TypeId}{x y:Operand}(ho:o.op=.binOp .neq t x y t')[hx:Ev a x (.int k e)][hy:Ev a y (.int k e)] : ay P o a w (.bool false):=by
 unfold ay;simp[execOp,ho,hx.h,hy.h,eqGuard,binOp,Op.intCmp]
class FieldAt (P:Program)(s:TypeId)(f b off:Nat)(off' : outParam Nat):Prop where
 h:∀ w,(Instr.fieldAt s (.pointer (some ⟨b,off,none⟩)) f).run P w=.ok (.pointer (some ⟨b,off',none⟩)) w
theorem ag {s:TypeId}{x:Operand}{f:Nat}(ho:o.op=.fieldAddr s x f){b off off' : Nat}[hx:Ev a x (.pointer (some ⟨b,off,none⟩))][hf:FieldAt P s f b off off'] : ay P o a w (.pointer (some ⟨b,off',none⟩)):=by
 unfold ay;simp[execOp,ho,hx.h,hf.h]
end
open Go Go.RowKit
section
variable {P:Program}{ops:Array Oper}{md:Region.Mode}{X:Type}
abbrev Gs:=Nat->Bool
def up {Y:Type}(χ:Nat->Y)(k:Nat)(x:Y):Nat->Y:=fun j=>if j=k then x else χ j
theorem bT {Y:Type}(χ:Nat->Y)(k:Nat)(x:Y):up χ k x k=x:=by simp [up]
theorem dK {Y:Type}(χ:Nat->Y){j k:Nat}(x:Y)(h:j≠k):up χ k x j=χ j:=by simp [up,h]
def eK (ops:Array Oper)(a0:Act)(V:Nat->Value)(p:Nat->Bool):Nat->Act
 | 0=>a0
 | k+1=>if p k then (eK ops a0 V p k).put ((ops[k]?).bind (·.dst)) (V k) else eK ops a0 V p k
theorem nG {a0:Act}{V:Nat->Value}{p:Nat->Bool}(k:Nat):eK ops a0 V p (k+1)=if p k then (eK ops a0 V p k).put ((ops[k]?).bind (·.dst)) (V k) else eK ops a0 V p k:=rfl
theorem ub (a:Act)(d:Option Tmp)(v:Value):(a.put d v).tmps.size=a.tmps.size:=by
 cases d <;> simp[Act.put]
theorem gq {a:Act}{d:Option Tmp}{v:Value}{t:Nat}(h:d≠some t):(a.put d v).tmps[t]?=a.tmps[t]?:=by
 cases d with
 | none=>rfl
 | some d=>
  have:d≠t:=fun e=>h (by rw[e])
  simp[Act.put,Array.getElem?_setIfInBounds_ne this]
theorem lF {a b:Act}{v:Value}{t:Nat}(h:a.tmps.size=b.tmps.size):(a.put (some t) v).tmps[t]?=(b.put (some t) v).tmps[t]?:=by
 simp[Act.put,Array.getElem?_setIfInBounds,h]
theorem ie {a0:Act}{V:Nat->Value}{p:Nat->Bool} : ∀ n,(eK ops a0 V p n).tmps.size=a0.tmps.size
 | 0=>rfl
 | n+1=>by
  unfold eK
  split
  ·rw[ub,ie n]
  ·exact ie n
theorem nI {a0:Act}{V:Nat->Value}{p:Nat->Bool}{t:Nat} : ∀ i,(∀ j,j<i->(ops[j]?).bind (·.dst)=some t->p j=true)->(eK ops a0 V p i).tmps[t]?=(eK ops a0 V (fun _=>true) i).tmps[t]?
 | 0,_=>rfl
 | i+1,h=>by
  have ih:=nI (a0:=a0) (V:=V) i (fun j hj=>h j (by omega))
  unfold eK
  rw[if_pos rfl]
  by_cases hd:(ops[i]?).bind (·.dst)=some t
  ·rw[if_pos (h i (by omega) hd),hd]
   exact lF (by rw[ie,ie])
  ·rw[gq hd]
   split
   ·rw[gq hd,ih]
   ·exact ih
theorem nH {a0:Act}{V:Nat->Value}{p:Nat->Bool}{t i:Nat} : ∀ n,i≤n->(∀ j,i≤j->j<n->(ops[j]?).bind (·.dst)=some t->p j=false)->(eK ops a0 V p n).tmps[t]?=(eK ops a0 V p i).tmps[t]?
 | 0,hi,_=>by
  have:i=0:=by omega
  rw[this]
 | n+1,hi,h=>by
  by_cases e:i=n+1
  ·rw[e]
  have ih:=nH (a0:=a0) (V:=V) n (by omega) (fun j h1 h2=>h j h1 (by omega))
  rw[nG]
  by_cases hd:(ops[n]?).bind (·.dst)=some t
  ·rw[if_neg (by rw[h n (by omega) (by omega) hd];simp),ih]
  ·split
   ·rw[gq hd,ih]
   ·rw[ih]
theorem dJ {a0:Act}{V V' : Nat->Value}{p p' : Nat->Bool} : ∀ n,(∀ j,j<n->p j=p' j∧(p j=true->V j=V' j))->eK ops a0 V p n=eK ops a0 V' p' n
 | 0,_=>rfl
 | n+1,h=>by
  have ih:=dJ (a0:=a0) n (fun j hj=>h j (by omega))
  obtain⟨h1,h2⟩:=h n (by omega)
  unfold eK
  rw[ih,← h1]
  split
  ·rename_i hp;rw[h2 hp]
  ·rfl
theorem qX {a0:Act}{V V' : Nat->Value}{p:Nat->Bool}{i:Nat}(hp:p i=false):∀ n,i<n->(∀ j,i<j->j<n->p j=true->∀ d,(ops[i]?).bind (·.dst)=some d->(ops[j]?).bind (·.dst)≠some d) ->
  (∀ j,j<n->p j=true->V' j=V j)->eK ops a0 V' (fun j=>if j=i then true else p j) n=(eK ops a0 V p n).put ((ops[i]?).bind (·.dst)) (V' i)
 | 0,h,_,_=>absurd h (Nat.not_lt_zero _)
 | n+1,hi,hd,hv=>by
  by_cases e:i=n
  ·subst e
   unfold eK
   rw[if_pos (by simp),if_neg (by rw[hp];simp)]
   congr 1
   refine dJ i (fun j hj=>?_)
   have hne:j≠i:=by omega
   simp only[if_neg hne,true_and]
   exact hv j (by omega)
  ·have ih:=qX (a0:=a0) (V:=V) (V':=V') hp n (by omega) (fun j h1 h2=>hd j h1 (by omega)) (fun j hj=>hv j (by omega))
   have hne:n≠i:=fun q=>e q.symm
   unfold eK
   simp only[if_neg hne]
   split
   ·rename_i hpn
    rw[ih,hv n (by omega) hpn]
    exact Act.put_comm _ _ _ (fun d h1=>hd n (by omega) (by omega) hpn d h1)
   ·exact ih
theorem sq {o:Oper}{a b:Act}(h:∀ t∈o.looksAt ops,a.tmps[t]?=b.tmps[t]?):∀ x∈o.op.operands,a.eval x=b.eval x:=by
 intro x hx
 cases x with
 | tmp t=>
  have ht:t∈o.looksAt ops:=by
   unfold Oper.looksAt
   rw[List.mem_append]
   left
   rw[List.mem_filterMap]
   exact⟨.tmp t,by simpa using hx,rfl⟩
  simp[Act.eval,h t ht]
 | _=>rfl
theorem mr {o:Oper}{a b:Act}(h:∀ t∈o.looksAt ops,a.tmps[t]?=b.tmps[t]?):Region.wanted o (yielded ops a.tmps)=Region.wanted o (yielded ops b.tmps):=by
 unfold Region.wanted
 cases hg:o.guard with
 | none=>rfl
 | some g=>
  obtain⟨j,want⟩:=g
  simp only
  have:yielded ops a.tmps j=yielded ops b.tmps j:=by
   unfold yielded
   cases hj:(ops[j]?).bind (·.dst) with
   | none=>rfl
   | some t=>
    have ht:t∈o.looksAt ops:=by
     unfold Oper.looksAt
     rw[List.mem_append]
     right
     rw[hg]
     simp[hj]
    simp only[Option.bind_some]
    rw[h t ht]
  rw[this]
def bB (P:Program)(o:Oper)(a:Act)(w:World)(Φ:Value->World->Prop):Prop:=match (execOp a.eval o).run P w with
 | .ok (.value u) w'=>Φ u w'
 | .ok .skip w'=>Φ undef w'
 | .ok (.enter f args) w'=>Calls P f args w' (fun e w''=>∃ u,e=.returned u∧Φ u w'')
 | _=>False
theorem mq {o:Oper}{a:Act}{w:World}{Φ:Value->World->Prop}{K' : Act->World->Prop}{Q' : Exit->Act->World->Prop}(h3:bB P o a w Φ)(h:∀ u w',Φ u w'->K' (a.put o.dst u) w'):o.wp P a w K' Q':=by
 unfold bB at h3
 unfold Oper.wp
 generalize (execOp a.eval o).run P w=r at *
 cases r with
 | ok n w'=>
  cases n <;> simp only[] at h3 <;> simp only[Oper.upon]
  case value u=>exact h _ _ h3
  case skip=>exact h _ _ h3
  case enter f args=>exact h3.mono fun e w'' ⟨u,he,hw''⟩=>by subst he;exact h _ _ hw''
 | halt x w'=>simp only[] at h3
variable {C:Gs->(Nat->X)->World->Prop}{m:Nat->Bool}
abbrev dR (md:Region.Mode)(ops:Array Oper)(s k:Nat):Bool:=oe md ops s ops.size k
def kz (md:Region.Mode)(ops:Array Oper)(k:Nat)(v:(Nat->X)->Value):Prop:=∀ χ χ' : Nat->X,(∀ s,s=k∨dR md ops s k=true->χ s=χ' s)->v χ=v χ'
abbrev Sx:=Oper->Act->World->(Value->World->Prop)->Prop
structure SxOk (sx:Sx):Prop where
 mono:∀ o a w (Φ Φ' : Value->World->Prop),(∀ u w',Φ u w'->Φ' u w')->sx o a w Φ->sx o a w Φ'
 congr:∀ (o:Oper) (a b:Act) w Φ,(∀ cs c,o.op≠.select cs c)->(∀ x∈o.op.operands,a.eval x=b.eval x)->sx o a w Φ->sx o b w Φ
def Yy (sx:Sx)(md:Region.Mode)(ops:Array Oper)(C:Gs->(Nat->X)->World->Prop)(m:Nat->Bool)(k:Nat)(o:Oper)(A:(Nat->X)->Act)(M:List Nat)(v:(Nat->X)->Value):Prop:=
 if m k then ∀ G χ w,G k=false->(∀ s∈M,dR md ops s k=true->G s=true)->(∀ j,dR md ops k j=true->G j=false)->C G χ w->sx o (A χ) w (fun u w'=>∃ x,u=v (up χ k x)∧C (up G k true) (up χ k x) w')
 else ∀ G χ w,(∀ s∈M,dR md ops s k=true->G s=true)->(∀ j,dR md ops k j=true->G j=false)->C G χ w->sx o (A χ) w (fun u w'=>u=v χ∧C G χ w')
abbrev Yx (P:Program)(md:Region.Mode)(ops:Array Oper)(C:Gs->(Nat->X)->World->Prop)(m:Nat->Bool)(k:Nat)(o:Oper)(A:(Nat->X)->Act)(M:List Nat)(v:(Nat->X)->Value):Prop:=Yy (bB P) md ops C m k o A M v
def iY (sx:Sx)(md:Region.Mode)(ops:Array Oper)(C:Gs->(Nat->X)->World->Prop)(m:Nat->Bool)(E:List Nat->((Nat->X)->Act)->Prop):Nat->List Nat->List Oper->((Nat->X)->Act)->Prop
 | _,M,[],A=>E M A
 | k,M,o::rest,A=>
  ((∀ χ,Region.wanted o (yielded ops (A χ).tmps)=true)∧∃ v:(Nat->X)->Value,kz md ops k v∧Yy sx md ops C m k o A M v∧iY sx md ops C m E (k+1) (if m k then k::M else M) rest (fun χ=>(A χ).put o.dst (v χ)))
  ∨ ((∀ χ,Region.wanted o (yielded ops (A χ).tmps)=false)∧iY sx md ops C m E (k+1) M rest (fun χ=>(A χ).put o.dst undef))
abbrev aX (P:Program)(md:Region.Mode)(ops:Array Oper)(C:Gs->(Nat->X)->World->Prop)(m:Nat->Bool)(E:List Nat->((Nat->X)->Act)->Prop)(k:Nat)(M:List Nat)(l:List Oper)(A:(Nat->X)->Act):Prop:=iY (bB P) md ops C m E k M l A
def sF (sx:Sx)(md:Region.Mode)(ops:Array Oper)(C:Gs->(Nat->X)->World->Prop)(m:Nat->Bool)(a0:Act)(V:Nat->(Nat->X)->Value)(bm:Nat->Bool)(k:Nat)(o:Oper):Prop:=
 kz md ops k (V k)∧(((∀ χ,Region.wanted o (yielded ops (eK ops a0 (fun j=>V j χ) (fun _=>true) k).tmps)=true)∧bm k=m k∧∃ M:List Nat,(∀ s∈M,s<k∧bm s=true)∧Yy sx md ops C m k o (fun χ=>eK ops a0 (fun j=>V j χ) (fun _=>true) k) M (V k))
  ∨ ((∀ χ,Region.wanted o (yielded ops (eK ops a0 (fun j=>V j χ) (fun _=>true) k).tmps)=false)∧bm k=false∧V k=fun _=>undef))
theorem lX {sx:Sx}{E:List Nat->((Nat->X)->Act)->Prop}{a0:Act} : ∀ (l:List Oper) (k:Nat) (M:List Nat) (A:(Nat->X)->Act) (V0:Nat->(Nat->X)->Value) (b0:Nat->Bool),(∀ j,l[j]?=ops[k+j]?) ->
  A=(fun χ=>eK ops a0 (fun j=>V0 j χ) (fun _=>true) k)->(∀ s∈M,s<k∧b0 s=true)->iY sx md ops C m E k M l A ->
  ∃ V bm Mf,(∀ j,j<k->V j=V0 j∧bm j=b0 j)∧(∀ j o,k≤j->ops[j]?=some o->sF sx md ops C m a0 V bm j o)∧(∀ s∈Mf,s<k+l.length∧bm s=true)∧E Mf (fun χ=>eK ops a0 (fun j=>V j χ) (fun _=>true) (k+l.length))
 | [],k,M,A,V0,b0,hl,hA,hM,h=>by
  refine⟨V0,b0,M,fun _ _=>⟨rfl,rfl⟩,fun j o hj ho=>?_,hM,by subst hA;exact h⟩
  have:=hl (j - k)
  rw[show k+(j - k)=j by omega,ho] at this
  simp at this
 | o::l,k,M,A,V0,b0,hl,hA,hM,h=>by
  have h0:ops[k]?=some o:=by simpa using (hl 0).symm
  have hl' : ∀ j,l[j]?=ops[k+1+j]?:=fun j=>by have:=hl (j+1);simpa [Nat.add_assoc,Nat.add_comm 1 j] using this
  have key:∀ (v:(Nat->X)->Value) (b:Bool) (M' : List Nat),(∀ s∈M',s<k+1∧(if s=k then b else b0 s)=true)->iY sx md ops C m E (k+1) M' l (fun χ=>(A χ).put o.dst (v χ)) ->
    (∀ V bm,(∀ j,j<k+1->V j=(if j=k then v else V0 j)∧bm j=(if j=k then b else b0 j))->sF sx md ops C m a0 V bm k o) ->
    ∃ V bm Mf,(∀ j,j<k->V j=V0 j∧bm j=b0 j)∧(∀ j o,k≤j->ops[j]?=some o->sF sx md ops C m a0 V bm j o)∧(∀ s∈Mf,s<k+(l.length+1)∧bm s=true)∧E Mf (fun χ=>eK ops a0 (fun j=>V j χ) (fun _=>true) (k+(l.length+1))):=by
   intro v b M' hM' hw hg
   obtain⟨V,bm,Mf,g1,g2,g3,g4⟩:=lX l (k+1) M' _ (fun j=>if j=k then v else V0 j) (fun j=>if j=k then b else b0 j) hl' (by
    subst hA
    funext χ
    rw[nG]
    simp only[if_true,h0,Option.bind_some]
    congr 1
    refine dJ k (fun j hj=>⟨rfl,fun _=>?_⟩)
    have:j≠k:=by omega
    simp[this]) hM' hw
   refine⟨V,bm,Mf,fun j hj=>?_,fun j o' hj ho=>?_,fun s hs=>?_,?_⟩
   ·have:=g1 j (by omega)
    have hne:j≠k:=by omega
    simpa [hne] using this
   ·by_cases e:j=k
    ·subst e
     rw[h0] at ho
     obtain rfl:=Option.some.inj ho
     exact hg V bm g1
    ·exact g2 j o' (by omega) ho
   ·have:=g3 s hs
    exact⟨by omega,this.2⟩
   ·rw[show k+(l.length+1)=k+1+l.length by omega];exact g4
  have lexeq:∀ (V:Nat->(Nat->X)->Value) (χ:Nat->X),(∀ j,j<k->V j=V0 j)->eK ops a0 (fun j=>V j χ) (fun _=>true) k=A χ:=by
   intro V χ hV
   subst hA
   refine dJ k (fun j hj=>⟨rfl,fun _=>?_⟩)
   rw[hV j hj]
  rcases h with ⟨hw,v,hs,hy,hn⟩|⟨hw,hn⟩
  ·refine key v (m k) _ ?_ hn ?_
   ·intro s hs
    by_cases hm:m k=true
    ·rw[if_pos hm] at hs
     rcases List.mem_cons.1 hs with rfl|hs
     ·exact⟨by omega,by simp[hm]⟩
     ·have:=hM s hs
      have hne:s≠k:=by omega
      exact⟨by omega,by simp[hne,this.2]⟩
    ·rw[if_neg hm] at hs
     have:=hM s hs
     have hne:s≠k:=by omega
     exact⟨by omega,by simp[hne,this.2]⟩
   ·intro V bm hV
    have hV' : ∀ j,j<k->V j=V0 j:=by
     intro j hj
     have h1:=(hV j (by omega)).1
     have hne:j≠k:=by omega
     simpa [hne] using h1
    have hb' : ∀ j,j<k->bm j=b0 j:=by
     intro j hj
     have h1:=(hV j (by omega)).2
     have hne:j≠k:=by omega
     simpa [hne] using h1
    have hk:=hV k (by omega)
    simp only[if_true] at hk
    have hl:(fun χ=>eK ops a0 (fun j=>V j χ) (fun _=>true) k)=A:=funext fun χ=>lexeq V χ hV'
    refine⟨by rw[hk.1];exact hs,.inl ⟨fun χ=>by rw[lexeq V χ hV'];exact hw χ,hk.2,M,fun s hs'=>?_,?_⟩⟩
    ·have:=hM s hs'
     exact⟨this.1,by rw[hb' s this.1];exact this.2⟩
    ·rw[hl,hk.1];exact hy
  ·refine key (fun _=>undef) false M ?_ hn ?_
   ·intro s hs
    have:=hM s hs
    have hne:s≠k:=by omega
    exact⟨by omega,by simp[hne,this.2]⟩
   ·intro V bm hV
    have hV' : ∀ j,j<k->V j=V0 j:=by
     intro j hj
     have h1:=(hV j (by omega)).1
     have hne:j≠k:=by omega
     simpa [hne] using h1
    have hk:=hV k (by omega)
    simp only[if_true] at hk
    refine⟨by rw[hk.1];exact fun _ _ _=>rfl,.inr ⟨fun χ=>by rw[lexeq V χ hV'];exact hw χ,hk.2,hk.1⟩⟩
theorem iH:∀ (fuel k:Nat) (listed:Array Bool),(∀ j,j<listed.size->(listed.getD j false=true↔j<k))->listed.size=ops.size->Region.lexFrom md ops fuel k listed=true->k+fuel=ops.size ->
  (∀ i o,k≤i->ops[i]?=some o->∀ e∈o.after,Region.binds md e=true->e.on<i) ∧
  (∀ i j oi oj,k≤i->i<j->ops[i]?=some oi->ops[j]?=some oj->(∃ e∈oj.after,Region.binds md e=true∧e.on=i)∨oi.apart ops oj=true)
 | 0,k,listed,_,_,_,hk=>by
  refine⟨fun i o hi ho=>?_,fun i j oi oj hi hij hoi=>?_⟩
  ·have:=(Array.getElem?_eq_some_iff.1 ho).1;omega
  ·have:=(Array.getElem?_eq_some_iff.1 hoi).1;omega
 | fuel+1,k,listed,hL,hs,hB,hk=>by
  simp only[Region.lexFrom,Bool.and_eq_true] at hB
  obtain⟨⟨hr,hf⟩,hB'⟩:=hB
  have hks:k<ops.size:=by omega
  have hkr:k∈Region.ready md ops listed:=by simpa using hr
  obtain⟨_,ok,hok,hall⟩:=mem_ready.1 hkr
  obtain⟨g1,g2⟩:=iH fuel (k+1) (listed.setIfInBounds k true) (fun j hj=>by
   rw[Array.size_setIfInBounds] at hj
   by_cases e:k=j
   ·subst e;simp[hj]
   ·rw[getD_set_ne false e,hL j hj];omega) (by simp[hs]) hB' (by omega)
  refine⟨fun i o hi ho e he hb=>?_,fun i j oi oj hi hij hoi hoj=>?_⟩
  ·by_cases e' : i=k
   ·subst e'
    rw[hok] at ho
    obtain rfl:=Option.some.inj ho
    have h1:=hall e he hb
    rcases Nat.lt_or_ge e.on listed.size with h'|h'
    ·exact(hL e.on h').1 h1
    ·simp[Array.getElem?_eq_none h'] at h1
   ·exact g1 i o (by omega) ho e he hb
  ·by_cases e' : i=k
   ·subst e'
    by_cases hw:∃ e∈oj.after,Region.binds md e=true∧e.on=i
    ·exact .inl hw
    ·refine .inr (Region.free_spec hoi hf j oj hoj (by omega) ?_ (fun e he hb heq=>hw ⟨e,he,hb,heq⟩))
     have hjs:j<listed.size:=by rw[hs];exact(Array.getElem?_eq_some_iff.1 hoj).1
     have h1:listed.getD j false≠true:=fun q=>by have:=(hL j hjs).1 q;omega
     simp[hjs] at h1 ⊢
     exact h1
   ·exact g2 i j oi oj (by omega) hij hoi hoj
structure Inv (P:Program)(md:Region.Mode)(ops:Array Oper)(C:Gs->(Nat->X)->World->Prop)(a0:Act)(V:Nat->(Nat->X)->Value)(bm:Nat->Bool)(listed:Array Bool)(a:Act)(w:World):Prop where
 size:listed.size=ops.size
 cl:ClosedL md ops listed
 ex:∃ χ:Nat->X,a=eK ops a0 (fun j=>V j χ) (fun k=>listed.getD k false) ops.size∧C (fun k=>listed.getD k false && bm k) χ w
theorem dm {l:Array Bool}{j:Nat}(h:j<l.size)(b c:Bool):l.getD j b=l.getD j c:=by simp [h]
theorem qT {sx:Sx}(hsx:SxOk sx){a0:Act}{V:Nat->(Nat->X)->Value}{bm:Nat->Bool}(hs:Region.noSelect ops=true)(hG:∀ j o,ops[j]?=some o->sF sx md ops C m a0 V bm j o)
  (F1:∀ i o,ops[i]?=some o->∀ e∈o.after,Region.binds md e=true->e.on<i)
  (F2:∀ i j oi oj,i<j->ops[i]?=some oi->ops[j]?=some oj->(∃ e∈oj.after,Region.binds md e=true∧e.on=i)∨oi.apart ops oj=true)
  {listed:Array Bool} {a:Act} {w:World} (hI:Inv P md ops C a0 V bm listed a w) {i:Nat} (hi:i∈Region.ready md ops listed) {o:Oper} (ho:ops[i]?=some o) :
  (Region.wanted o (yielded ops a.tmps)=true∧sx o a w (fun u w'=>Inv P md ops C a0 V bm (listed.setIfInBounds i true) (a.put o.dst u) w')) ∨
  (Region.wanted o (yielded ops a.tmps)=false∧Inv P md ops C a0 V bm (listed.setIfInBounds i true) (a.put o.dst undef) w):=by
 obtain⟨hun,o',ho',hall⟩:=mem_ready.1 hi
 rw[ho] at ho'
 obtain rfl:=Option.some.inj ho'
 obtain⟨χ,rfl,hC⟩:=hI.ex
 have his:i<ops.size:=(Array.getElem?_eq_some_iff.1 ho).1
 have hil:i<listed.size:=by rw[hI.size];exact his
 have hunf:listed.getD i false=false:=by rw[dm hil false true];exact hun
 -- those listed that come later do not wait for it
 have hno:∀ j oj,ops[j]?=some oj->listed.getD j false=true->∀ e∈oj.after,Region.binds md e=true->e.on≠i:=by
  intro j oj hj hl e he hb heq
  have hjs:j<listed.size:=by rw[hI.size];exact(Array.getElem?_eq_some_iff.1 hj).1
  have:=hI.cl j oj hj (by rw[dm hjs true false];exact hl) e he hb
  rw[heq,dm hil true false,hunf] at this
  cases this
 have hanc:∀ s,dR md ops s i=true->listed.getD s false=true:=by
  intro s hs'
  have h1:=gC hI.cl ops.size i o ho (fun e he hb=>qS (hall e he hb)) hs'
  rcases Nat.lt_or_ge s listed.size with h'|h'
  ·rw[dm h' false true];exact h1
  ·exfalso
   -- what is waited for is an operation
   have key:∀ n j,j<ops.size->oe md ops s n j=true->s<ops.size:=by
    intro n
    induction n with
    | zero=>intro j _ h;cases h
    | succ n ih=>
     intro j hj h
     unfold oe at h
     rw[Array.getElem?_eq_getElem hj] at h
     simp only at h
     obtain⟨e,he,hb⟩:=Array.any_eq_true'.1 h
     simp only[Bool.and_eq_true,Bool.or_eq_true,beq_iff_eq] at hb
     have hlt:=F1 j _ (Array.getElem?_eq_getElem hj) e he hb.1
     rcases hb.2 with h2|h2
     ·omega
     ·exact ih e.on (by omega) h2
   have:=key _ _ his hs'
   rw[hI.size] at h';omega
 have hanc2:∀ j,dR md ops i j=true->listed.getD j false=false:=by
  intro j hj
  by_cases hl:listed.getD j false=true
  ·exfalso
   cases hoj:ops[j]? with
   | none=>
    have h1:listed.size≤j:=by rw[hI.size];exact Array.getElem?_eq_none_iff.1 hoj
    simp[Array.getElem?_eq_none h1] at hl
   | some oj=>
    have hjs:j<listed.size:=by rw[hI.size];exact(Array.getElem?_eq_some_iff.1 hoj).1
    have h1:=gC hI.cl ops.size j oj hoj (fun e he hb=>hI.cl j oj hoj (by rw[dm hjs true false];exact hl) e he hb) hj
    rw[dm hil true false,hunf] at h1
    cases h1
  ·simpa using hl
 -- what it looks at is as in the text's order
 have hlook:∀ t∈o.looksAt ops,(eK ops a0 (fun j=>V j χ) (fun k=>listed.getD k false) ops.size).tmps[t]?=(eK ops a0 (fun j=>V j χ) (fun _=>true) i).tmps[t]?:=by
  intro t ht
  rw[nH ops.size (Nat.le_of_lt his) (i:=i),nI i]
  ·intro j hj hd
   cases hoj:ops[j]? with
   | none=>rw[hoj] at hd;cases hd
   | some oj=>
    rw[hoj] at hd
    simp only[Option.bind_some] at hd
    rcases F2 j i oj o hj hoj ho with ⟨e,he,hb,heq⟩|hap
    ·have:=hall e he hb
     rw[heq] at this
     exact this
    ·exact absurd ht ((Oper.apart_spec hap).1 t hd)
  ·intro j hj hjn hd
   by_cases e:j=i
   ·rw[e];exact hunf
   ·cases hoj:ops[j]? with
    | none=>rw[hoj] at hd;cases hd
    | some oj=>
     rw[hoj] at hd
     simp only[Option.bind_some] at hd
     rcases F2 i j o oj (by omega) ho hoj with ⟨e',he,hb,heq⟩|hap
     ·by_cases hl:listed.getD j false=true
      ·exact absurd heq (hno j oj hoj hl e' he hb)
      ·simpa using hl
     ·exact absurd ht ((Oper.apart_spec hap).2.2 t hd)
 -- the state behind it
 have hnext:∀ χ',(∀ s,s≠i->χ' s=χ s)->(eK ops a0 (fun j=>V j χ) (fun k=>listed.getD k false) ops.size).put o.dst (V i χ')=eK ops a0 (fun j=>V j χ') (fun k=>(listed.setIfInBounds i true).getD k false) ops.size:=by
  intro χ' hχ
  have h1:=qX (ops:=ops) (a0:=a0) (V:=fun j=>V j χ) (V':=fun j=>V j χ') (p:=fun k=>listed.getD k false) (i:=i) hunf ops.size his (fun j hij hjn hl d hd=>by
   rw[Array.getElem?_eq_getElem hjn]
   simp only[Option.bind_some]
   rcases F2 i j o _ hij ho (Array.getElem?_eq_getElem hjn) with ⟨e',he,hb,heq⟩|hap
   ·exact absurd heq (hno j _ (Array.getElem?_eq_getElem hjn) hl e' he hb)
   ·rw[ho] at hd
    exact(Oper.apart_spec hap).2.1 d hd) (fun j hjn hl=>by
   refine(hG j _ (Array.getElem?_eq_getElem hjn)).1 χ' χ (fun s hs'=>hχ s ?_)
   rintro rfl
   rcases hs' with rfl|hs'
   ·rw[hunf] at hl;cases hl
   ·rw[hanc2 j hs'] at hl;cases hl)
  rw[ho] at h1
  simp only[Option.bind_some] at h1
  rw[← h1]
  refine dJ ops.size (fun j hj=>⟨?_,fun _=>rfl⟩)
  by_cases e:j=i
  ·subst e;simp[hil]
  ·simp only[if_neg e,getD_set_ne false (fun q=>e q.symm)]
 have hcl' : ClosedL md ops (listed.setIfInBounds i true):=hI.cl.set ho (fun e he hb=>qS (hall e he hb))
 have hGs:∀ b,bm i=b->(fun k=>(listed.setIfInBounds i true).getD k false && bm k)=up (fun k=>listed.getD k false && bm k) i b:=by
  intro b hb
  funext j
  by_cases e:j=i
  ·subst e;simp[up,hil,hb]
  ·simp only[up,if_neg e,getD_set_ne false (fun q=>e q.symm)]
 obtain⟨hsu,hg⟩:=hG i o ho
 rw[mr hlook]
 rcases hg with ⟨hw,hbm,M,hM,hy⟩|⟨hw,hbm,hV⟩
 ·refine .inl ⟨hw χ,?_⟩
  have hMG:∀ s∈M,dR md ops s i=true->(listed.getD s false && bm s)=true:=fun s hs' ha=>by rw[hanc s ha,(hM s hs').2];rfl
  have hstep:∀ Φ,sx o (eK ops a0 (fun j=>V j χ) (fun _=>true) i) w Φ->sx o (eK ops a0 (fun j=>V j χ) (fun k=>listed.getD k false) ops.size) w Φ:=fun Φ h=>
   hsx.congr o _ _ w Φ (fun cs b=>Region.noSelect_spec hs i o cs b ho) (fun x hx=>(sq hlook x hx).symm) h
  unfold Yy at hy
  by_cases hm:m i=true
  ·rw[if_pos hm] at hy
   refine hsx.mono _ _ _ _ _ ?_ (hstep _ (hy _ χ w (by simp[hunf]) hMG (fun j hj=>by rw[hanc2 j hj];rfl) hC))
   rintro u w' ⟨x,rfl,hC'⟩
   refine⟨by simp[hI.size],hcl',up χ i x,hnext _ (fun s hs'=>dK χ x hs'),?_⟩
   rw[hGs true (by rw[hbm,hm])]
   exact hC'
  ·rw[if_neg hm] at hy
   refine hsx.mono _ _ _ _ _ ?_ (hstep _ (hy _ χ w hMG (fun j hj=>by rw[hanc2 j hj];rfl) hC))
   rintro u w' ⟨rfl,hC'⟩
   refine⟨by simp[hI.size],hcl',χ,hnext _ (fun s _=>rfl),?_⟩
   rw[hGs false (by rw[hbm];simpa using hm)]
   have:up (fun k=>listed.getD k false && bm k) i false=(fun k=>listed.getD k false && bm k):=by
    funext j
    by_cases e:j=i
    ·subst e;simp[up,hunf]
    ·simp only[up,if_neg e]
   rw[this]
   exact hC'
 ·refine .inr ⟨hw χ,by simp[hI.size],hcl',χ,?_,?_⟩
  ·rw[← hnext χ (fun s _=>rfl),hV]
  ·rw[hGs false hbm]
   have:up (fun k=>listed.getD k false && bm k) i false=(fun k=>listed.getD k false && bm k):=by
    funext j
    by_cases e:j=i
    ·subst e;simp[up,hunf]
    ·simp only[up,if_neg e]
   rw[this]
   exact hC
def vZ (listed:Array Bool):Nat:=((List.range listed.size).filter (fun j=>!listed.getD j false)).length
theorem mv {listed:Array Bool}(h:vZ listed=0):∀ j,j<listed.size->listed.getD j false=true:=by
 intro j hj
 unfold vZ at h
 rw[List.length_eq_zero_iff,List.filter_eq_nil_iff] at h
 have:=h j (List.mem_range.2 hj)
 simpa using this
theorem pL {listed:Array Bool}{i:Nat}(hi:i<listed.size)(h:listed.getD i false=false):vZ (listed.setIfInBounds i true)<vZ listed:=by
 unfold vZ
 rw[Array.size_setIfInBounds]
 have key:∀ n,((List.range n).filter (fun j=>!(listed.setIfInBounds i true).getD j false)).length+(if i<n then 1 else 0)=((List.range n).filter (fun j=>!listed.getD j false)).length:=by
  intro n
  induction n with
  | zero=>simp
  | succ n ih=>
   rw[List.range_succ,List.filter_append,List.filter_append,List.length_append,List.length_append]
   by_cases e:n=i
   ·subst e
    rw[if_neg (Nat.lt_irrefl n)] at ih
    rw[if_pos (Nat.lt_succ_self n)]
    have e1:(listed.setIfInBounds n true).getD n false=true:=by simp[hi]
    simp only[List.filter_cons,List.filter_nil,h,e1]
    simp
    simp at ih
    omega
   ·have q:=getD_set_ne (listed:=listed) (i:=i) (j:=n) false (fun q=>e q.symm)
    simp only[List.filter_cons,List.filter_nil,q]
    by_cases e2:i<n
    ·rw[if_pos e2] at ih;rw[if_pos (show i<n+1 by omega)];omega
    ·rw[if_neg e2] at ih;rw[if_neg (show ¬ i<n+1 by omega)];omega
 have:=key listed.size
 rw[if_pos hi] at this
 omega
theorem Bm (hsx:SxOk (bB P)){a0:Act}{V:Nat->(Nat->X)->Value}{bm:Nat->Bool}(hs:Region.noSelect ops=true)(hG:∀ j o,ops[j]?=some o->sF (bB P) md ops C m a0 V bm j o)
  (F1:∀ i o,ops[i]?=some o->∀ e∈o.after,Region.binds md e=true->e.on<i)
  (F2:∀ i j oi oj,i<j->ops[i]?=some oi->ops[j]?=some oj->(∃ e∈oj.after,Region.binds md e=true∧e.on=i)∨oi.apart ops oj=true)
  {Q' : Exit->Act->World->Prop} (hQ:∀ χ G w,(∀ s,s<ops.size->bm s=true->G s=true)->C G χ w->Q' .normal (eK ops a0 (fun j=>V j χ) (fun _=>true) ops.size) w) :
  ∀ (fuel:Nat) (listed:Array Bool) (a:Act) (w:World),vZ listed≤fuel->Inv P md ops C a0 V bm listed a w->wpAny P md ops Q' fuel listed a w:=by
 have hend:∀ (listed:Array Bool) (a:Act) (w:World),Inv P md ops C a0 V bm listed a w->(∀ j,j<listed.size->listed.getD j false=true)->Q' .normal a w:=by
  intro listed a w hI hall
  obtain⟨χ,rfl,hC⟩:=hI.ex
  have:=hQ χ _ w (fun s hs' hb=>by
   have:=hall s (by rw[hI.size];exact hs')
   simp only[this,hb];rfl) hC
  have e:eK ops a0 (fun j=>V j χ) (fun k=>listed.getD k false) ops.size=eK ops a0 (fun j=>V j χ) (fun _=>true) ops.size:=
   dJ ops.size (fun j hj=>⟨hall j (by rw[hI.size];exact hj),fun _=>rfl⟩)
  rw[e];exact this
 have hrdy:∀ (listed:Array Bool) (a:Act) (w:World),Inv P md ops C a0 V bm listed a w->Region.ready md ops listed=[]->∀ j,j<listed.size->listed.getD j false=true:=by
  intro listed a w hI hr
  -- the least one that is not listed would be ready
  intro j
  induction j using Nat.strongRecOn with
  | ind j ih=>
   intro hj
   by_cases hl:listed.getD j false=true
   ·exact hl
   ·exfalso
    have hjs:j<ops.size:=by rw[← hI.size];exact hj
    have:j∈Region.ready md ops listed:=mem_ready.2 ⟨by rw[dm hj true false];simpa using hl,ops[j],Array.getElem?_eq_getElem hjs,fun e he hb=>
     ih e.on (F1 j _ (Array.getElem?_eq_getElem hjs) e he hb) (by have:=F1 j _ (Array.getElem?_eq_getElem hjs) e he hb;omega)⟩
    rw[hr] at this
    cases this
 intro fuel
 induction fuel with
 | zero=>
  intro listed a w hu hI
  have hall:=mv (Nat.le_zero.1 hu)
  refine⟨?_,hend listed a w hI hall⟩
  cases hr:Region.ready md ops listed with
  | nil=>rfl
  | cons i l=>
   exfalso
   have hi:i∈Region.ready md ops listed:=by rw[hr];simp
   obtain⟨hun,o,ho,_⟩:=mem_ready.1 hi
   have his:i<listed.size:=by rw[hI.size];exact(Array.getElem?_eq_some_iff.1 ho).1
   have:=hall i his
   rw[dm his false true] at this
   rw[this] at hun
   cases hun
 | succ fuel ih=>
  intro listed a w hu hI
  refine⟨fun hr=>hend listed a w hI (hrdy listed a w hI hr),fun i hi=>?_⟩
  obtain⟨hun,o,ho,_⟩:=mem_ready.1 hi
  have his:i<listed.size:=by rw[hI.size];exact(Array.getElem?_eq_some_iff.1 ho).1
  have hlt:=pL his (by rw[dm his false true];exact hun)
  unfold wpOp
  simp only[ho]
  rcases qT hsx hs hG F1 F2 hI hi ho with ⟨h1,h2⟩|⟨h1,h2⟩
  ·rw[if_pos h1]
   exact .inl (mq h2 (fun u w' hI'=>ih _ _ w' (by omega) hI'))
  ·rw[if_neg (by rw[h1];simp)]
   exact ih _ _ w (by omega) h2
theorem ef:SxOk (bB P):=⟨fun o a w Φ Φ' hm h=>by
  unfold bB at *
  generalize (execOp a.eval o).run P w=r at *
  cases r with
  | ok nx w'=>
   cases nx <;> simp only[] at h ⊢
   case value u=>exact hm _ _ h
   case skip=>exact hm _ _ h
   case enter f args=>exact h.mono fun e w'' ⟨u,h1,h2⟩=>⟨u,h1,hm _ _ h2⟩
  | halt e w'=>simp only[] at h,
 fun o a b w Φ hs he h=>by
  unfold bB at *
  rw[← execOp_congr o hs he]
  exact h⟩
theorem kj {a0:Act}{V:Nat->Value} : ∀ n,eK ops a0 V (fun _=>false) n=a0
 | 0=>rfl
 | n+1=>by unfold eK;simp only[Bool.false_eq_true,if_false];exact kj n
theorem dP {id:Nat}{l:List Oper}{Q:Exit->Act->World->Prop}{a:Act}{w:World}[Inhabited X](C:Gs->(Nat->X)->World->Prop)(m:Nat->Bool)(hm:P.follows .mixedOrders=true)(hB:Region.lexB .any l.toArray=true)
  (hC:C (fun _=>false) (fun _=>default) { w with drawn:=w.drawn+1 })
  (h:aX P .any l.toArray C m (fun M A=>∀ χ G w',(∀ s∈M,G s=true)->C G χ w'->Q .normal (A χ) w') 0 [] l (fun _=>a)):(Code.region id l.toArray true).wp P Q a w:=by
 simp only[Region.lexB,Bool.and_eq_true] at hB
 obtain⟨V,bm,Mf,_,g2,g3,g4⟩:=lX (ops:=l.toArray) (a0:=a) l 0 [] _ (fun _ _=>undef) (fun _=>false) (by simp) rfl (by simp) h
 obtain⟨F1,F2⟩:=iH (ops:=l.toArray) (md:=.any) l.toArray.size 0 (Array.replicate l.toArray.size false) (fun j hj=>by
  have hj' : j<l.length:=by simpa using hj
  simp[hj']) (by simp) hB.2 (by simp)
 refine wp_region_any hm (Bm ef (m:=m) (C:=C) (a0:=a) (V:=V) (bm:=bm) hB.1 (fun j o=>g2 j o (Nat.zero_le _)) (fun i o=>F1 i o (Nat.zero_le _)) (fun i j oi oj=>F2 i j oi oj (Nat.zero_le _)) ?_ _ _ _ _ ?_ ?_)
 ·intro χ G w' hG hC'
  have:=g4 χ G w' (fun s hs=>hG s (by have:=(g3 s hs).1;simpa using this) (g3 s hs).2) hC'
  simpa using this
 ·unfold vZ
  exact Nat.le_trans (List.length_filter_le _ _) (by simp)
 ·refine⟨by simp,fun j oj hj hl=>?_,fun _=>default,?_,?_⟩
  ·have hjs:j<l.toArray.size:=(Array.getElem?_eq_some_iff.1 hj).1
   simp only[List.size_toArray] at hjs
   simp[hjs] at hl
  ·have:(fun k=>(Array.replicate l.toArray.size false).getD k false)=fun _=>false:=by
    funext k
    rcases Nat.lt_or_ge k l.length with h'|h'
    ·simp[h']
    ·simp[h']
   rw[this,kj]
  ·have:(fun k=>(Array.replicate l.toArray.size false).getD k false && bm k)=fun _=>false:=by
    funext k
    rcases Nat.lt_or_ge k l.length with h'|h'
    ·simp[h']
    ·simp[h']
   rw[this]
   exact hC
end
end Go.Mm
