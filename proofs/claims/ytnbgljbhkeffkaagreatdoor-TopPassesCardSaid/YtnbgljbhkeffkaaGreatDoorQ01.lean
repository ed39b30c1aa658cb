/-
  Contracts of what the law TopPasses reaches, part 1: Mem Iter.
-/
import Derived.Test.YtnbgljbhkeffkaaGreatDoorRows
import Derived.Lib.Hide
import Derived.WalkKit
import Derived.WalkSpells
import Derived.WalkLawsBesides
import Derived.Laws.CopyRow
import Derived.Laws.Tables
import Derived.Great.BuildSlice
import Derived.Great.FillDense
import Derived.Deep.QuietTactic
import Derived.BigQuiet
import Derived.StillTailTactics
import Derived.TacticsIn
import Derived.CallsIn
import Derived.RangeFuncNested
import Derived.RangeFuncLeaves
import Derived.OwnWalkIn
import Derived.TacticsInMore
import Derived.LoopNIn
import Derived.LoopIn
open Go.Proofs.Tryz
set_option linter.unusedVariables false
set_option linter.unusedSimpArgs false
set_option maxHeartbeats 4000000
set_option maxRecDepth 100000
namespace Go.Mm
theorem cq {α:Type}:(∀ (a:α) (l k:List α),(a::l)++k=a::(l++k))∧(∀ l:List α,[]++l=l):=⟨fun _ _ _=>rfl,fun _=>rfl⟩
theorem bX {α:Type}:(∀ (a:α) (l k:List α),(a::l)++k=a::(l++k))∧(∀ l k j:List α,(l++k)++j=l++(k++j)):=⟨fun _ _ _=>rfl,List.append_assoc⟩
theorem aP {α:Type}:(∀ (a:α) (l k:List α),(a::l)++k=a::(l++k))∧(∀ l:List α,[]++l=l)∧(∀ l k j:List α,(l++k)++j=l++(k++j)):=⟨fun _ _ _=>rfl,fun _=>rfl,List.append_assoc⟩
open Go Go.RowKit
theorem DF {p:Prop}[Decidable p](h : ¬p:=by omega):decide p=false:=decide_eq_false h
theorem DT {p:Prop}[Decidable p](h:p:=by omega):decide p=true:=decide_eq_true h
theorem HD {p:Prop}(h:p):RowKit.Hid p:=Lib.hid h
def ab (R:Ending->World->Prop)(v:Value)(w:World):Prop:=R (.returned v) w
def Mb (R:Ending->World->Prop)(e:Ending)(w:World):Prop:=∃ v,e=.returned v∧ab R v w
theorem Ce {R:Ending->World->Prop}{v:Value}{w:World}(h:ab R v w):ab (Mb R) v w:=⟨v,rfl,h⟩
structure Ent where
 b:Nat
 cs:Array Value
 T:TypeId
 wr:Bool
structure Chg (w w' : World)(bs:List Nat):Prop where
 os:w'.os=w.os
 tape:w'.tape=w.tape
 output:w'.output=w.output
 size:w.heap.size≤w'.heap.size
 same:∀ k,k<w.heap.size->k∉bs->w'.heap[k]?=w.heap[k]?
structure St (w0:World)(bs:List Nat)(w:World)(H:List Ent):Prop where
 chg:Chg w0 w bs
 get:∀ e∈H,w.heap[e.b]?=some (.cells e.cs e.T (0,0))
 nd:H.Pairwise (fun x y=>x.b≠y.b)
 wr:∀ e∈H,e.wr=true->e.b∈bs∨w0.heap.size≤e.b
theorem Chg.refl (w:World)(bs:List Nat):Chg w w bs:=⟨rfl,rfl,rfl,Nat.le_refl _,fun _ _ _=>rfl⟩
theorem Chg.trans {a b c:World}{l m:List Nat}(h:Chg a b l)(k:Chg b c m)(hm:∀ x∈m,x<a.heap.size->x∈l):Chg a c l:=
 ⟨k.os.trans h.os,k.tape.trans h.tape,k.output.trans h.output,Nat.le_trans h.size k.size,fun i hi hn=>
  (k.same i (Nat.lt_of_lt_of_le hi h.size) (fun hx=>hn (hm i hx hi))).trans (h.same i hi hn)⟩
theorem Chg.nil {a b c:World}{l:List Nat}(h:Chg a b l)(k:Chg b c []):Chg a c l:=h.trans k (fun x hx=>by cases hx)
theorem Chg.below {w w' : World}(h:Chg w w' []):Below w.heap.size w w':=
 ⟨h.os,h.tape,h.output,h.size,fun k hk=>h.same k hk (by simp)⟩
theorem Chg.get {w w' : World}{bs:List Nat}(h:Chg w w' bs){b:Nat}{o:Obj}(hb:w.heap[b]?=some o)(hn:b∉bs):w'.heap[b]?=some o:=by
 rw[h.same b (Array.getElem?_eq_some_iff.1 hb).1 hn];exact hb
theorem Chg.alloc (w:World)(o:Obj):Chg w (w.alloc o) []:=
 ⟨rfl,rfl,rfl,by simp,fun k hk _=>Below.heap_alloc w o k hk⟩
theorem dw (w:World){o:Obj}:(w.alloc o).heap[w.heap.size]?=some o:=by
 show(w.heap.push o)[w.heap.size]?=some o
 simp
theorem Chg.drew (w:World):Chg w w.drew []:=⟨rfl,rfl,rfl,Nat.le_refl _,fun _ _ _=>rfl⟩
theorem bG {w:World}{b:Nat}{o:Obj}(h:w.heap[b]?=some o):b<w.heap.size:=(Array.getElem?_eq_some_iff.1 h).1
def _root_.Go.World.putCells (w:World)(b:Nat)(o:Obj):World:={ w with heap:=w.heap.setIfInBounds b o }
theorem Chg.put (w:World)(b:Nat)(o:Obj):Chg w (w.putCells b o) [b]:=
 ⟨rfl,rfl,rfl,by simp[World.putCells],fun k _ hn=>by
  simp only[World.putCells]
  rw[Array.getElem?_setIfInBounds]
  have:b≠k:=by simpa [eq_comm] using hn
  simp[this]⟩
theorem xm {w:World}{b:Nat}{o:Obj}(hb:b<w.heap.size):(w.putCells b o).heap[b]?=some o:=by
 simp only[World.putCells]
 rw[Array.getElem?_setIfInBounds]
 simp[hb]
class Has (H:List Ent)(b:Nat)(cs:outParam (Array Value))(T:outParam TypeId):Prop where
 h:∃ wr,(⟨b,cs,T,wr⟩:Ent)∈H
instance lV {b:Nat}{cs:Array Value}{T:TypeId}{wr:Bool}{H:List Ent} : Has (⟨b,cs,T,wr⟩::H) b cs T:=⟨⟨wr,.head _⟩⟩
instance (priority:=900) E7 {b:Nat}{cs:Array Value}{T:TypeId}{x:Ent}{H:List Ent}[h:Has H b cs T] : Has (x::H) b cs T:=
 ⟨let ⟨wr,hm⟩:=h.h;⟨wr,.tail _ hm⟩⟩
class Upd (H:List Ent)(b:Nat)(cs:Array Value)(T:outParam TypeId)(H' : outParam (List Ent)):Prop where
 h:∃ A B old,H=A++(⟨b,old,T,true⟩:Ent)::B∧H'=A++(⟨b,cs,T,true⟩:Ent)::B
instance gH {b:Nat}{old cs:Array Value}{T:TypeId}{H:List Ent} : Upd (⟨b,old,T,true⟩::H) b cs T (⟨b,cs,T,true⟩::H):=
 ⟨⟨[],H,old,rfl,rfl⟩⟩
instance (priority:=900) D8 {b:Nat}{cs:Array Value}{T:TypeId}{x:Ent}{H H' : List Ent}[h:Upd H b cs T H'] : Upd (x::H) b cs T (x::H'):=
 ⟨let ⟨A,B,old,h1,h2⟩:=h.h;⟨x::A,B,old,by rw[h1];rfl,by rw[h2];rfl⟩⟩
class Del (H:List Ent)(b:Nat)(H' : outParam (List Ent)):Prop where
 h:∃ A B x,x.b=b∧x.wr=true∧H=A++x::B∧H'=A++B
class CellAt (cs:Array Value)(i:Nat)(v:outParam Value):Prop where
 h:cs[i]?=some v
instance DV {v:Value}{l:List Value} : CellAt (List.toArray (v::l)) 0 v:=⟨by simp⟩
instance DU {u v:Value}{l:List Value}{i:Nat}[h:CellAt (List.toArray l) i v] : CellAt (List.toArray (u::l)) (i+1) v:=⟨by simpa using h.h⟩
class SetAt (cs:Array Value)(i:Nat)(v:Value)(cs' : outParam (Array Value)):Prop where
 h:cs.setIfInBounds i v=cs'
 lt:i<cs.size
instance Ey {u v:Value}{l:List Value} : SetAt (List.toArray (u::l)) 0 v (List.toArray (v::l)):=⟨by simp,by simp⟩
instance Eu {u v:Value}{l l' : List Value}{i:Nat}[h:SetAt (List.toArray l) i v (List.toArray l')] : SetAt (List.toArray (u::l)) (i+1) v (List.toArray (u::l')):=
 ⟨by have h1:=h.h;simp at h1 ⊢;exact h1,by have h1:=h.lt;simp at h1 ⊢;exact h1⟩
class Nth (l:List Value)(n:Nat)(v:outParam Value):Prop where
 h:l[n]?=some v
instance ET {v:Value}{l:List Value} : Nth (v::l) 0 v:=⟨rfl⟩
instance (priority:=900) ES {u v:Value}{l:List Value}{n:Nat}[h:Nth l n v] : Nth (u::l) (n+1) v:=⟨by simpa using h.h⟩
instance (priority:=1100) Dc {a b c d e f g i v:Value}{l:List Value}{n:Nat}[h:Nth l n v] : Nth (a::b::c::d::e::f::g::i::l) (n+8) v:=⟨by simpa using h.h⟩
class Ev (a:Act)(x:Operand)(v:outParam Value):Prop where
 h:a.eval x=v
instance Fi {a:Act}{v:Value} : Ev a (.const v) v:=⟨rfl⟩
instance G3 {a:Act}{f:FuncId} : Ev a (.func f) (.func (.func f) #[] #[]):=⟨rfl⟩
instance KT {l:List Value}{d:List Deferred}{n:Nat}{v:Value}[h:Nth l n v] : Ev ⟨List.toArray l,d⟩ (.tmp n) v:=
 ⟨by simp[Act.eval,Array.getD_eq_getD_getElem?,h.h]⟩
class SetN (l:List Value)(n:Nat)(v:Value)(l' : outParam (List Value)):Prop where
 h:l.set n v=l'
instance CJ {u v:Value}{l:List Value} : SetN (u::l) 0 v (v::l):=⟨rfl⟩
instance (priority:=900) CH {u v:Value}{l l' : List Value}{n:Nat}[h:SetN l n v l'] : SetN (u::l) (n+1) v (u::l'):=⟨by simp [h.h]⟩
instance (priority:=1100) BQ {a b c d e f g i v:Value}{l l' : List Value}{n:Nat}[h:SetN l n v l'] :
  SetN (a::b::c::d::e::f::g::i::l) (n+8) v (a::b::c::d::e::f::g::i::l'):=⟨by simp[h.h]⟩
class Put (a:Act)(dst:Option Tmp)(v:Value)(a' : outParam Act):Prop where
 h:a.put dst v=a'
instance EI {a:Act}{v:Value} : Put a none v a:=⟨rfl⟩
instance EH {l l' : List Value}{d:List Deferred}{n:Nat}{v:Value}[h:SetN l n v l'] : Put ⟨List.toArray l,d⟩ (some n) v ⟨List.toArray l',d⟩:=
 ⟨by simp[Act.put,h.h]⟩
class OneCell (v:Value):Prop where
 h:v.oneCell'=true
instance {b} : OneCell (.bool b):=⟨rfl⟩
instance {k n} : OneCell (.int k n):=⟨rfl⟩
instance {s} : OneCell (.string s):=⟨rfl⟩
instance {a} : OneCell (.pointer a):=⟨rfl⟩
instance {a n c} : OneCell (.slice a n c):=⟨rfl⟩
instance {f x y} : OneCell (.func f x y):=⟨rfl⟩
instance :OneCell .nilFunc:=⟨rfl⟩
instance :OneCell .nilIface:=⟨rfl⟩
instance {t v} : OneCell (.iface t v):=⟨rfl⟩
instance {r} : OneCell (.map r):=⟨rfl⟩
theorem OneCell.cells {v:Value}(h:OneCell v):v.cells=#[v]:=by
 have:=h.h
 cases v <;> simp_all [Value.oneCell',Value.cells]
class CellsOf (v:Value)(cs:outParam (Array Value)):Prop where
 h:v.cells=cs
instance {cs} : CellsOf (.agg cs) cs:=⟨rfl⟩
instance (priority:=900){v}[h:OneCell v] : CellsOf v (List.toArray [v]):=⟨h.cells⟩
class ScalarT (P:Program)(t:TypeId):Prop where
 h:(match P.underlying t with|some (.struct _)=>false|some (.array ..)=>false|some _=>true|none=>false)=true
 s:(P.info? t).map (·.size)=some 1
class AggT (P:Program)(t:TypeId)(n:outParam Nat):Prop where
 h:(match P.underlying t with|some (.struct _)=>true|some (.array ..)=>true|_=>false)=true
 s:(P.info? t).map (·.size)=some n
class ZeroT (P:Program)(t:TypeId)(cs:outParam (Array Value)):Prop where
 h:((P.info? t).bind (·.zero)).map (·.cells)=some cs
theorem ScalarT.run {P:Program}{t:TypeId}(h:ScalarT P t)(w:World):(isAgg t).run P w=.ok false w:=by
 have h1:=h.h
 cases hu:P.underlying t with
 | none=>simp[hu] at h1
 | some d=>
  simp only[hu] at h1
  simp only[isAgg,Sem.run_bind,run_underlying hu,Result.andThen_ok]
  cases d <;> simp_all
theorem AggT.run {P:Program}{t:TypeId}{n:Nat}(h:AggT P t n)(w:World):(isAgg t).run P w=.ok true w:=by
 have h1:=h.h
 cases hu:P.underlying t with
 | none=>simp[hu] at h1
 | some d=>
  simp only[hu] at h1
  simp only[isAgg,Sem.run_bind,run_underlying hu,Result.andThen_ok]
  cases d <;> simp_all
theorem aU {P:Program}{t:TypeId}{n:Nat}(h:(P.info? t).map (·.size)=some n)(w:World):(sizeOf t).run P w=.ok n w:=by
 obtain⟨i,hi,hs⟩:=Option.map_eq_some_iff.1 h
 simp[sizeOf,typeInfo,hi,hs]
theorem ZeroT.run {P:Program}{t:TypeId}{cs:Array Value}(h:ZeroT P t cs):∃ z,z.cells=cs∧∀ w,(zeroValue t).run P w=.ok z w:=by
 have h1:=h.h
 cases hi:P.info? t with
 | none=>simp[hi] at h1
 | some i=>
  cases hz:i.zero with
  | none=>simp[hi,hz] at h1
  | some z=>
   simp[hi,hz] at h1
   exact⟨z,h1,fun w=>by simp[zeroValue,typeInfo,hi,hz]⟩
section
variable {w0 w w' : World}{bs:List Nat}{H H' : List Ent}{b:Nat}{cs:Array Value}{T:TypeId}
theorem St.has (hS:St w0 bs w H)(h:Has H b cs T):w.heap[b]?=some (.cells cs T (0,0)):=let ⟨_,hm⟩:=h.h;hS.get _ hm
theorem St.lt (hS:St w0 bs w H){e:Ent}(he:e∈H):e.b<w.heap.size:=bG (hS.get e he)
theorem St.nil (hS:St w0 bs w H)(k:Chg w w' []):St w0 bs w' H:=
 ⟨hS.chg.nil k,fun e he=>k.get (hS.get e he) (by simp),hS.nd,hS.wr⟩
theorem St.upd (hS:St w0 bs w H)[hu:Upd H b cs T H'](k:Chg w w' [b])(hb:w'.heap[b]?=some (.cells cs T (0,0))):St w0 bs w' H':=by
 obtain⟨A,B,old,rfl,rfl⟩:=hu.h
 have hwb:=hS.wr ⟨b,old,T,true⟩ (by simp) rfl
 have hnd:=hS.nd
 rw[List.pairwise_append,List.pairwise_cons] at hnd
 obtain⟨n1,⟨n2,n3⟩,n4⟩:=hnd
 refine⟨hS.chg.trans k ?_,?_,?_,?_⟩
 ·intro x hx hlt
  simp at hx;subst hx
  rcases hwb with h|h
  ·exact h
  ·exact absurd hlt (by simp at h;omega)
 ·intro e he
  rw[List.mem_append,List.mem_cons] at he
  rcases he with he|rfl|he
  ·exact k.get (hS.get e (by simp[he])) (by have:=n4 e he ⟨b,old,T,true⟩ (by simp);simpa using this)
  ·exact hb
  ·exact k.get (hS.get e (by simp[he])) (by have:=n2 e he;simpa [eq_comm] using this)
 ·rw[List.pairwise_append,List.pairwise_cons]
  exact⟨n1,⟨n2,n3⟩,fun x hx y hy=>by
   rw[List.mem_cons] at hy
   rcases hy with rfl|hy
   ·exact n4 x hx ⟨b,old,T,true⟩ (by simp)
   ·exact n4 x hx y (by simp[hy])⟩
 ·intro e he hw
  rw[List.mem_append,List.mem_cons] at he
  rcases he with he|rfl|he
  ·exact hS.wr e (by simp[he]) hw
  ·exact hwb
  ·exact hS.wr e (by simp[he]) hw
theorem St.new (hS:St w0 bs w H)(k:Chg w w' [])(hn:w.heap.size≤b)(hb:w'.heap[b]?=some (.cells cs T (0,0))):St w0 bs w' (⟨b,cs,T,true⟩::H):=by
 have h1:=hS.nil k
 refine⟨h1.chg,fun e he=>?_,List.pairwise_cons.2 ⟨fun y hy=>?_,h1.nd⟩,fun e he hw=>?_⟩
 ·rcases List.mem_cons.1 he with rfl|he
  ·exact hb
  ·exact h1.get e he
 ·have:=hS.lt hy
  simp;omega
 ·rcases List.mem_cons.1 he with rfl|he
  ·exact .inr (Nat.le_trans hS.chg.size hn)
  ·exact h1.wr e he hw
theorem St.start {H:List Ent}(hg:∀ e∈H,w.heap[e.b]?=some (.cells e.cs e.T (0,0)))(hnd:H.Pairwise (fun x y=>x.b≠y.b))(hw:∀ e∈H,e.wr=true->e.b∈bs):St w bs w H:=
 ⟨Chg.refl w bs,hg,hnd,fun e he h=>.inl (hw e he h)⟩
theorem St.start0:St w bs w []:=St.start (by simp) .nil (by simp)
theorem St.start1 {wr:Bool}(h:w.heap[b]?=some (.cells cs T (0,0)))(hw:wr=true->b∈bs):St w bs w [⟨b,cs,T,wr⟩]:=
 St.start (by simpa using h) (by simp) (by simpa using hw)
end
section
instance (priority:=800) GW {E H:List Ent}{b:Nat}{cs:Array Value}{T:TypeId}[h:Has H b cs T] : Has (E++H) b cs T:=
 ⟨let ⟨wr,hm⟩:=h.h;⟨wr,List.mem_append_right _ hm⟩⟩
instance (priority:=800) FK {E H H' : List Ent}{b:Nat}{cs:Array Value}{T:TypeId}[h:Upd H b cs T H'] : Upd (E++H) b cs T (E++H'):=
 ⟨let ⟨A,B,old,h1,h2⟩:=h.h;⟨E++A,B,old,by rw[h1,List.append_assoc],by rw[h2,List.append_assoc]⟩⟩
class Cut (H:List Ent)(E:List Ent)(H1:outParam (List Ent)):Prop where
 h:∃ A B,H=A++(E++B)∧H1=A++B
instance qZ {E H:List Ent} : Cut (E++H) E H:=⟨[],H,rfl,rfl⟩
instance G6 {x:Ent}{H:List Ent} : Cut (x::H) [x] H:=⟨[],H,rfl,rfl⟩
instance (priority:=900) Fl {x:Ent}{E H H1:List Ent}[h:Cut H E H1] : Cut (x::H) E (x::H1):=
 ⟨let ⟨A,B,h1,h2⟩:=h.h;⟨x::A,B,by rw[h1];rfl,by rw[h2];rfl⟩⟩
instance (priority:=800) G7 {E' E H H1:List Ent}[h:Cut H E H1] : Cut (E'++H) E (E'++H1):=
 ⟨let ⟨A,B,h1,h2⟩:=h.h;⟨E'++A,B,by rw[h1];simp,by rw[h2];simp⟩⟩
class Sub (H' H:List Ent):Prop where
 h:H'.Sublist H
instance Ee {H:List Ent} : Sub H H:=⟨List.Sublist.refl _⟩
instance (priority:=800) D9 {x:Ent}{A B:List Ent}[h:Sub A B] : Sub A (x::B):=⟨h.h.cons x⟩
instance (priority:=750) zL {E A B:List Ent}[h:Sub A B] : Sub A (E++B):=⟨h.h.trans (List.sublist_append_right _ _)⟩
variable {w0 w w' : World}{bs:List Nat}{H H' E E' H1:List Ent}{b:Nat}{cs:Array Value}{T:TypeId}
theorem St.weak (hS:St w0 bs w H)[h:Sub H' H] : St w0 bs w H':=
 ⟨hS.chg,fun e he=>hS.get e (h.h.subset he),hS.nd.sublist h.h,fun e he=>hS.wr e (h.h.subset he)⟩
class Rem (H:List Ent)(x:Ent)(H1:outParam (List Ent)):Prop where
 h:∃ A B,H=A++x::B∧H1=A++B
instance EG {x:Ent}{H:List Ent} : Rem (x::H) x H:=⟨[],H,rfl,rfl⟩
instance (priority:=900) EF {x y:Ent}{H H1:List Ent}[h:Rem H x H1] : Rem (y::H) x (y::H1):=
 ⟨let ⟨A,B,h1,h2⟩:=h.h;⟨y::A,B,by rw[h1];rfl,by rw[h2];rfl⟩⟩
instance (priority:=800) Gd {x:Ent}{E H H1:List Ent}[h:Rem H x H1] : Rem (E++H) x (E++H1):=
 ⟨let ⟨A,B,h1,h2⟩:=h.h;⟨E++A,B,by rw[h1];simp,by rw[h2];simp⟩⟩
class Pick (H' H:List Ent):Prop where
 h:∃ R,(H'++R).Perm H
instance (priority:=1100) mX {H:List Ent} : Pick H H:=⟨⟨[],by simp⟩⟩
instance (priority:=900) CV {x:Ent}{T H H1:List Ent}[h1:Rem H x H1][h:Pick T H1] : Pick (x::T) H:=
 ⟨let ⟨R,hR⟩:=h.h;let ⟨A,B,e1,e2⟩:=h1.h;⟨R,by
  rw[e1,List.cons_append]
  exact((hR.trans (by rw[e2])).cons x).trans List.perm_middle.symm⟩⟩
instance (priority:=800) EN {E T H H1:List Ent}[h1:Cut H E H1][h:Pick T H1] : Pick (E++T) H:=
 ⟨let ⟨R,hR⟩:=h.h;let ⟨A,B,e1,e2⟩:=h1.h;⟨R,by
  rw[e1,List.append_assoc]
  refine((hR.trans (by rw[e2])).append_left E).trans ?_
  rw[← List.append_assoc,← List.append_assoc]
  exact List.perm_append_comm.append_right B⟩⟩
theorem St.p (hS:St w0 bs w H)[h:Pick H' H] : St w0 bs w H':=by
 obtain⟨R,hR⟩:=h.h
 have hsub:∀ e∈H',e∈H:=fun e he=>hR.subset (List.mem_append_left _ he)
 refine⟨hS.chg,fun e he=>hS.get e (hsub e he),?_,fun e he=>hS.wr e (hsub e he)⟩
 have:=hR.symm.pairwise hS.nd (fun {x y} hxy=>fun e=>hxy e.symm)
 exact(List.pairwise_append.1 this).1
theorem St.drawn (hS:St w0 bs w H)(n:Nat):St w0 bs { w with drawn:=n } H:=
 ⟨⟨hS.chg.os,hS.chg.tape,hS.chg.output,hS.chg.size,hS.chg.same⟩,hS.get,hS.nd,hS.wr⟩
theorem St.swap (hS:St w0 bs w H)[hc:Cut H E H1](k:Chg w w' (E.map (·.b)))(hw:∀ e∈E,e.wr=true)
  (hg:∀ e∈E',w'.heap[e.b]?=some (.cells e.cs e.T (0,0))) (hnd:E'.Pairwise (fun x y=>x.b≠y.b))
  (hn:∀ e∈E',(∃ x∈E,x.b=e.b)∨w.heap.size≤e.b):St w0 bs w' (E'++H1):=by
 obtain⟨A,B,rfl,rfl⟩:=hc.h
 have hnd0:=hS.nd
 rw[List.pairwise_append,List.pairwise_append] at hnd0
 obtain⟨n1,⟨n2,n3,n4⟩,n5⟩:=hnd0
 have far:∀ e∈A++B,∀ x∈E,x.b≠e.b:=by
  intro e he x hx
  rcases List.mem_append.1 he with h|h
  ·exact fun q=>n5 e h x (List.mem_append_left _ hx) q.symm
  ·exact n4 x hx e h
 have keep:∀ e∈A++B,e∈A++(E++B):=by
  intro e he
  rcases List.mem_append.1 he with h|h
  ·exact List.mem_append_left _ h
  ·exact List.mem_append_right _ (List.mem_append_right _ h)
 refine⟨hS.chg.trans k ?_,?_,?_,?_⟩
 ·intro x hx hlt
  obtain⟨e,he,rfl⟩:=List.mem_map.1 hx
  rcases hS.wr e (List.mem_append_right _ (List.mem_append_left _ he)) (hw e he) with h|h
  ·exact h
  ·exact absurd hlt (by omega)
 ·intro e he
  rcases List.mem_append.1 he with h|h
  ·exact hg e h
  ·refine k.get (hS.get e (keep e h)) ?_
   intro hx
   obtain⟨x,hx,hxe⟩:=List.mem_map.1 hx
   exact far e h x hx hxe
 ·rw[List.pairwise_append]
  refine⟨hnd,?_,?_⟩
  ·rw[List.pairwise_append]
   exact⟨n1,n3,fun x hx y hy=>n5 x hx y (List.mem_append_right _ hy)⟩
  ·intro x hx y hy
   rcases hn x hx with ⟨z,hz,hzx⟩|h
   ·rw[← hzx];exact far y hy z hz
   ·have:=hS.lt (keep y hy);omega
 ·intro e he hwe
  rcases List.mem_append.1 he with h|h
  ·rcases hn e h with ⟨z,hz,hzx⟩|h
   ·have:=hS.wr z (List.mem_append_right _ (List.mem_append_left _ hz)) (hw z hz)
    rwa [hzx] at this
   ·exact .inr (Nat.le_trans hS.chg.size h)
  ·exact hS.wr e (keep e h) hwe
end
section
variable {P:Program}{ops:Array Oper}{rest:List Oper}{o:Oper}{a a' : Act}{w:World}{Q:Exit->Act->World->Prop}{post:Act->World->Prop}
variable {w0:World}{bs:List Nat}{H:List Ent}{v:Value}
def ay (P:Program)(o:Oper)(a:Act)(w:World)(v:Value):Prop:=(execOp a.eval o).run P w=.ok (.value v) w
def im (P:Program)(o:Oper)(a:Act)(w:World)(post:Act->World->Prop):Prop:=
 ∃ r w',(execOp a.eval o).run P w=.ok r w'∧((∃ v,r=.value v∧post (a.put o.dst v) w')∨(r=.skip∧post (a.put o.dst undef) w'))
theorem ar (h:ay P o a w v)[hp:Put a o.dst v a'](hK:post a' w):im P o a w post:=
 ⟨_,_,h,.inl ⟨v,rfl,by rw[hp.h];exact hK⟩⟩
theorem bI (hw:Region.wanted o (yielded ops a.tmps)=true)(h:im P o a w (wpList P ops Q rest)):wpList P ops Q (o::rest) a w:=by
 refine BigFrame.wpList_want hw fun K hK=>?_
 obtain⟨r,w',hr,h⟩:=h
 unfold Oper.wp
 rw[hr]
 rcases h with ⟨v,rfl,h⟩|⟨rfl,h⟩
 ·exact hK _ _ h
 ·exact hK _ _ h
def jj:Op->Bool
 | .defer _=>true
 | _=>false
theorem aa {F:Fence}{n:Nat}(hF:∀ f,F.fn f)(hd0:jj o.op=false)(hw:Region.wanted o (yielded ops a.tmps)=true)(h:im P o a w (wpListIn F n P ops Q rest)):wpListIn F n P ops Q (o::rest) a w:=by
 have hd:∀ c,o.op≠.defer c:=fun c h=>by rw[h] at hd0;cases hd0
 obtain⟨r,w',hr,h⟩:=h
 unfold wpListIn
 rw[if_pos hw]
 refine⟨fun f _=>hF f,?_⟩
 rw[Oper.semAt_eq _ _ _ hd,hr]
 rcases h with ⟨v,rfl,h⟩|⟨rfl,h⟩
 ·exact h
 ·exact h
theorem aH {C:World->Prop}{K:Act->Prop}(h:∀ w,C w->ay P o a w v)[hp:Put a o.dst v a'](hK:K a'):o.quiet P a C K:=
 ⟨v,fun w hw=>by unfold Oper.quietAt;rw[h w hw];exact⟨rfl,rfl⟩,by rw[hp.h];exact hK⟩
theorem rt {K:Act->Prop}(h:ay P o a w v)[hp:Put a o.dst v a'](hK:K a'):o.still P a w K:=by
 unfold Oper.still
 rw[h,Oper.stillUpon_value,hp.h];exact hK
theorem wS (h:im P o a w (wpList P ops Q rest))(hw:Region.wanted o (yielded ops a.tmps)=true:=by kernel_rfl):wpList P ops Q (o::rest) a w:=bI hw h
theorem wV (p:Op)(_:o.op=p){v:Value}(h:ay P o a w v)[hp:Put a o.dst v a'](hK:wpList P ops Q rest a' w)(hw:Region.wanted o (yielded ops a.tmps)=true:=by kernel_rfl):wpList P ops Q (o::rest) a w:=bI hw (ar h hK)
theorem wU (h:ay P o a w v)[hp:Put a o.dst v a'](hK:wpList P ops Q rest a' w)(hw:Region.wanted o (yielded ops a.tmps)=true:=by kernel_rfl):wpList P ops Q (o::rest) a w:=bI hw (ar h hK)
theorem aF (p:Op)(_:o.op=p)(h:wpList P ops Q (o::rest) a w):wpList P ops Q (o::rest) a w:=h
theorem aD {F:Fence}{n:Nat}(p:Op)(_:o.op=p)(h:wpListIn F n P ops Q (o::rest) a w):wpListIn F n P ops Q (o::rest) a w:=h
theorem fA {C:World->Prop}{K:Act->Prop}(p:Op)(_:o.op=p)(h:o.quiet P a C K):o.quiet P a C K:=h
theorem eF {w:World}{b off:Nat}{cs:Array Value}{T:TypeId}{fz:Nat×Nat}(h:w.heap[b]?=some (.cells cs T fz))(v:Value) :
  (w.setCell ⟨b,off,none⟩ v).heap[b]?=some (.cells (cs.setIfInBounds off v) T fz):=by
 simp[World.setCell,Array.getElem?_modify,h]
theorem Chg.setCell (w:World)(a:Addr)(v:Value):Chg w (w.setCell a v) [a.block]:=
 ⟨rfl,rfl,rfl,by simp[World.setCell],fun k _ hn=>Below.heap_setCell w a v k (by simpa using hn)⟩
theorem cm {b off:Nat}{cs:Array Value}{T:TypeId}{fz:Nat×Nat}(h:w.heap[b]?=some (.cells cs T fz)):w.cell? ⟨b,off,none⟩=cs[off]?:=by
 simp[World.cell?,h]
theorem ga {b off:Nat}{cs:Array Value}{T:TypeId}(h:w.heap[b]?=some (.cells cs T (0,0))):w.frozen? ⟨b,off,none⟩=false:=by
 simp[World.frozen?,h]
theorem qc (t:TypeId)(x:Operand)(ho:o.op=.load t x){p:Addr}(hx:a.eval x=.pointer (some p))(hsc:ScalarT P t)(h:w.cell? p=some v):ay P o a w v:=by
 unfold ay
 simp only[execOp,ho,hx,Instr.loadAt,Instr.sureAddr,loadVar,Sem.run_bind,Sem.run_pure,Result.andThen_ok,hsc.run,Bool.false_eq_true,if_false,run_load,h]
theorem ac (t:TypeId)(x:Operand)(ho:o.op=.load t x)(hS:St w0 bs w H){b off:Nat}[hx:Ev a x (.pointer (some ⟨b,off,none⟩))][hsc:ScalarT P t]
  {cs:Array Value} {T:TypeId} [hH:Has H b cs T] [hc:CellAt cs off v] : ay P o a w v:=
 qc t x ho hx.h hsc (by rw[cm (hS.has hH)];exact hc.h)
theorem af {ops:Array Oper}{Q:Exit->Act->World->Prop}{rest:List Oper}{a' : Act} {t:TypeId}{x:Operand}(ho:o.op=.load t x)(hS:St w0 bs w H){b off:Nat}[hx:Ev a x (.pointer (some ⟨b,off,none⟩))][hsc:ScalarT P t] {cs:Array Value} {T:TypeId} [hH:Has H b cs T] [hc:CellAt cs off v][hp_:Put a o.dst v a'](hK_:wpList P ops Q rest a' w)(hw_:Region.wanted o (yielded ops a.tmps)=true:=by kernel_rfl):wpList P ops Q (o::rest) a w:=bI hw_ (ar (ac t x ho hS) hK_)
class Cell0 (w0:World)(b off:Nat)(v:outParam Value):Prop where
 h:w0.cell? ⟨b,off,none⟩=some v
theorem DW (hS:St w0 [] w H){b off:Nat}(h:w0.cell? ⟨b,off,none⟩=some v):w.cell? ⟨b,off,none⟩=some v:=by
 have hlt:=World.block_lt_of_cell? w0 _ h
 rw[← h]
 exact World.cell?_of_block (hS.chg.same b hlt (by simp))
theorem eG {t:TypeId}{x:Operand}(ho:o.op=.load t x)(hS:St w0 [] w H){b off:Nat}[hx:Ev a x (.pointer (some ⟨b,off,none⟩))][hsc:ScalarT P t]
  [hc:Cell0 w0 b off v] : ay P o a w v:=
 qc t x ho hx.h hsc (DW hS hc.h)
class CellsAt (cs:Array Value)(off n:Nat)(vs:outParam (Array Value)):Prop where
 h:∀ j,j<n->cs[off+j]?=vs[j]?
 s:vs.size=n
instance DS {l:List Value} : CellsAt (List.toArray l) 0 0 #[]:=⟨fun _ h=>absurd h (Nat.not_lt_zero _),rfl⟩
instance Cl {v:Value}{l vs:List Value}{n:Nat}[h:CellsAt (List.toArray l) 0 n (List.toArray vs)] : CellsAt (List.toArray (v::l)) 0 (n+1) (List.toArray (v::vs)):=
 ⟨fun j hj=>by
  cases j with
  | zero=>simp
  | succ j=>have:=h.h j (by omega);simpa using this,by have:=h.s;simpa using this⟩
instance (priority:=900) Cj {u:Value}{l:List Value}{vs:Array Value}{off n:Nat}[h:CellsAt (List.toArray l) off n vs] : CellsAt (List.toArray (u::l)) (off+1) n vs:=
 ⟨fun j hj=>by have:=h.h j hj;rw[show off+1+j=(off+j)+1 by omega];simpa using this,h.s⟩
theorem tM (t:TypeId)(x:Operand)(ho:o.op=.load t x){b off n:Nat}(hx:a.eval x=.pointer (some ⟨b,off,none⟩))(hag:AggT P t n){vs:Array Value}(hs:vs.size=n)
  (h:∀ j,j<n->w.cell? ⟨b,off+j,none⟩=vs[j]?):ay P o a w (.agg vs):=by
 have hl:(loadCells ⟨b,off,none⟩ n).run P w=.ok vs w:=by
  have:=run_loadCells_list (P:=P) w ⟨b,off,none⟩ vs.toList (fun j v hj=>by
   have hj' : j<n:=by
    have:=(List.getElem?_eq_some_iff.1 hj).1
    simpa [hs] using this
   have:=h j hj'
   rw[Addr.add_lit,this]
   simpa using hj)
  simpa [hs] using this
 unfold ay
 simp only[execOp,ho,hx,Instr.loadAt,Instr.sureAddr,loadVar,Sem.run_bind,Sem.run_pure,Result.andThen_ok,hag.run,if_true,aU hag.s,hl]
theorem ai (t:TypeId)(x:Operand)(ho:o.op=.load t x)(hS:St w0 bs w H){b off n:Nat}[hx:Ev a x (.pointer (some ⟨b,off,none⟩))][hag:AggT P t n]
  {cs:Array Value} {T:TypeId} [hH:Has H b cs T] {vs:Array Value} [hc:CellsAt cs off n vs] : ay P o a w (.agg vs):=
 tM t x ho hx.h hag hc.s (fun j hj=>by rw[cm (hS.has hH)];exact hc.h j hj)
theorem au {ops:Array Oper}{Q:Exit->Act->World->Prop}{rest:List Oper}{a' : Act} {t:TypeId}{x:Operand}(ho:o.op=.load t x)(hS:St w0 bs w H){b off n:Nat}[hx:Ev a x (.pointer (some ⟨b,off,none⟩))][hag:AggT P t n] {cs:Array Value} {T:TypeId} [hH:Has H b cs T] {vs:Array Value} [hc:CellsAt cs off n vs][hp_:Put a o.dst (.agg vs) a'](hK_:wpList P ops Q rest a' w)(hw_:Region.wanted o (yielded ops a.tmps)=true:=by kernel_rfl):wpList P ops Q (o::rest) a w:=bI hw_ (ar (ai t x ho hS) hK_)
class Cells0 (w0:World)(b off n:Nat)(vs:outParam (Array Value)):Prop where
 h:∀ j,j<n->w0.cell? ⟨b,off+j,none⟩=vs[j]?
 s:vs.size=n
theorem cL (t:TypeId)(x y:Operand)(ho:o.op=.store t x y)
  (hS:St w0 bs w H) {b off:Nat} [hx:Ev a x (.pointer (some ⟨b,off,none⟩))] [hy:Ev a y v] [hsc:ScalarT P t] [h1c:OneCell v]
  {cs cs' : Array Value} {T:TypeId} {H' : List Ent} [hH:Has H b cs T] [hs:SetAt cs off v cs'] [hu:Upd H b cs' T H'] [hp:Put a o.dst undef a']
  (h:∀ w',St w0 bs w' H'->post a' w'):im P o a w post:=by
 have hb:=hS.has hH
 have h1:=cm (w:=w) (off:=off) hb
 rw[Array.getElem?_eq_getElem hs.lt] at h1
 have h2:=ga (w:=w) (off:=off) hb
 have hS' : St w0 bs (w.setCell ⟨b,off,none⟩ v) H':=hS.upd (Chg.setCell w ⟨b,off,none⟩ v) (by rw[eF hb,hs.h])
 have hr:(store ⟨b,off,none⟩ v).run P w=.ok () (w.setCell ⟨b,off,none⟩ v):=by
  rw[run_store _ _ _ _ _ h1c.h,h1];simp[h2]
 refine⟨.skip,_,?_,.inr ⟨rfl,by rw[hp.h];exact h _ hS'⟩⟩
 simp only[execOp,ho,hx.h,hy.h,Instr.storeAt,Instr.sureAddr,storeVar,Sem.run_bind,Sem.run_pure,Result.andThen_ok,aU hsc.s,h1c.cells,List.size_toArray,List.length_cons,List.length_nil,
  ne_eq,not_true_eq_false,if_false,Nat.zero_add,storeCells,Addr.add,if_true,hr]
theorem bP {ops:Array Oper}{Q:Exit->Act->World->Prop}{rest:List Oper} {t:TypeId}{x y:Operand}(ho:o.op=.store t x y) (hS:St w0 bs w H) {b off:Nat} [hx:Ev a x (.pointer (some ⟨b,off,none⟩))] [hy:Ev a y v] [hsc:ScalarT P t] [h1c:OneCell v] {cs cs' : Array Value} {T:TypeId} {H' : List Ent} [hH:Has H b cs T] [hs:SetAt cs off v cs'] [hu:Upd H b cs' T H'] [hp:Put a o.dst undef a'] (h:∀ w',St w0 bs w' H'->wpList P ops Q rest a' w')(hw_:Region.wanted o (yielded ops a.tmps)=true:=by kernel_rfl):wpList P ops Q (o::rest) a w:=bI hw_ (cL t x y ho hS h)
class SetsAt (cs:Array Value)(off:Nat)(vs:Array Value)(cs' : outParam (Array Value)):Prop where
 h:(cs.toList.take off++vs.toList++cs.toList.drop (off+vs.size)).toArray=cs'
 le:off+vs.size≤cs.size
instance Eq {l:List Value} : SetsAt (List.toArray l) 0 #[] (List.toArray l):=⟨by simp,by simp⟩
instance CG {u v:Value}{l vs l' : List Value}[h:SetsAt (List.toArray l) 0 (List.toArray vs) (List.toArray l')] : SetsAt (List.toArray (u::l)) 0 (List.toArray (v::vs)) (List.toArray (v::l')):=
 ⟨by have:=h.h;simp at this ⊢;exact this,by have:=h.le;simp at this ⊢;exact this⟩
class OneCells (vs:Array Value):Prop where
 h:∀ v∈vs.toList,v.oneCell'=true
instance GH:OneCells #[]:=⟨by simp⟩
instance EP {v:Value}{l:List Value}[h1:OneCell v][h:OneCells (List.toArray l)] : OneCells (List.toArray (v::l)):=⟨by
 intro u hu
 simp at hu
 rcases hu with rfl|hu
 ·exact h1.h
 ·exact h.h u (by simpa using hu)⟩
class SizeIs (vs:Array Value)(n:Nat):Prop where
 h:vs.size=n
instance En:SizeIs #[] 0:=⟨rfl⟩
instance CF {v:Value}{l:List Value}{n:Nat}[h:SizeIs (List.toArray l) n] : SizeIs (List.toArray (v::l)) (n+1):=⟨by have:=h.h;simpa using this⟩
theorem de (t:TypeId)(x y:Operand)(ho:o.op=.store t x y)
  (hS:St w0 bs w H) {b off n:Nat} [hx:Ev a x (.pointer (some ⟨b,off,none⟩))] {vs:Array Value} [hy:Ev a y (.agg vs)] [hag:AggT P t n] [h1c:OneCells vs]
  {cs cs' : Array Value} {T:TypeId} {H' : List Ent} [hH:Has H b cs T] [hs:SetsAt cs off vs cs'] [hn:SizeIs vs n] [hu:Upd H b cs' T H'] [hp:Put a o.dst undef a']
  (h:∀ w',St w0 bs w' H'->post a' w'):im P o a w post:=by
 have hb:=hS.has hH
 have hr:=run_storeCells_at P b off T vs.toList 0 cs w hb (by have:=hs.le;simpa using this) h1c.h
 simp only[Nat.add_zero] at hr
 rw[show vs.toList.length=vs.size by simp,hs.h] at hr
 have hS' : St w0 bs (w.setRow b cs') H':=by
  refine hS.upd ⟨rfl,rfl,rfl,by simp,fun k _ hk=>setRow_other w b k _ (by simpa [eq_comm] using hk)⟩ (setRow_heap w b cs _ T _ hb)
 refine⟨.skip,_,?_,.inr ⟨rfl,by rw[hp.h];exact h _ hS'⟩⟩
 simp only[execOp,ho,hx.h,hy.h,Instr.storeAt,Instr.sureAddr,storeVar,Sem.run_bind,Sem.run_pure,Result.andThen_ok,aU hag.s,Value.cells,hn.h,ne_eq,not_true_eq_false,if_false,hr]
theorem ak {ops:Array Oper}{Q:Exit->Act->World->Prop}{rest:List Oper} {t:TypeId}{x y:Operand}(ho:o.op=.store t x y) (hS:St w0 bs w H) {b off n:Nat} [hx:Ev a x (.pointer (some ⟨b,off,none⟩))] {vs:Array Value} [hy:Ev a y (.agg vs)] [hag:AggT P t n] [h1c:OneCells vs] {cs cs' : Array Value} {T:TypeId} {H' : List Ent} [hH:Has H b cs T] [hs:SetsAt cs off vs cs'] [hn:SizeIs vs n] [hu:Upd H b cs' T H'] [hp:Put a o.dst undef a'] (h:∀ w',St w0 bs w' H'->wpList P ops Q rest a' w')(hw_:Region.wanted o (yielded ops a.tmps)=true:=by kernel_rfl):wpList P ops Q (o::rest) a w:=bI hw_ (de t x y ho hS h)
theorem cg (t:TypeId)(ho:o.op=.alloc t)(hS:St w0 bs w H){cs:Array Value}[hz:ZeroT P t cs]{a' : Value->Act}[hp:∀ v,Put a o.dst v (a' v)]
  (h:∀ b w',w.heap.size≤b->St w0 bs w' (⟨b,cs,t,true⟩::H)->post (a' (.pointer (some ⟨b,0,none⟩))) w'):im P o a w post:=by
 obtain⟨z,hzc,hzr⟩:=hz.run
 have hS' : St w0 bs (w.alloc (.cells cs t (0,0))) (⟨w.heap.size,cs,t,true⟩::H):=hS.new (Chg.alloc w _) (Nat.le_refl _) (dw w)
 refine⟨.value _,_,?_,.inl ⟨_,rfl,by rw[(hp _).h];exact h _ _ (Nat.le_refl _) hS'⟩⟩
 simp only[execOp,ho,Instr.alloc,Sem.run_bind,Sem.run_pure,Result.andThen_ok,hzr,newVar,newRow,hzc,run_newObj]
 rfl
theorem aq {ops:Array Oper}{Q:Exit->Act->World->Prop}{rest:List Oper} (t:TypeId)(ho:o.op=.alloc t)(hS:St w0 bs w H){cs:Array Value}[hz:ZeroT P t cs]{a' : Value->Act}[hp:∀ v,Put a o.dst v (a' v)] (h:∀ b w',w.heap.size≤b->St w0 bs w' (⟨b,cs,t,true⟩::H)->wpList P ops Q rest (a' (.pointer (some ⟨b,0,none⟩))) w')(hw_:Region.wanted o (yielded ops a.tmps)=true:=by kernel_rfl):wpList P ops Q (o::rest) a w:=bI hw_ (cg t ho hS h)
theorem eh (t:TypeId)(x:Operand)(ho:o.op=.box t x)(hS:St w0 bs w H)[hx:Ev a x v]{cs:Array Value}[hc:CellsOf v cs]{a' : Value->Act}[hp:∀ v,Put a o.dst v (a' v)]
  (h:∀ b w',w.heap.size≤b->St w0 bs w' (⟨b,cs,t,true⟩::H)->post (a' (.pointer (some ⟨b,0,none⟩))) w'):im P o a w post:=by
 have hS' : St w0 bs (w.alloc (.cells cs t (0,0))) (⟨w.heap.size,cs,t,true⟩::H):=hS.new (Chg.alloc w _) (Nat.le_refl _) (dw w)
 refine⟨.value _,_,?_,.inl ⟨_,rfl,by rw[(hp _).h];exact h _ _ (Nat.le_refl _) hS'⟩⟩
 simp only[execOp,ho,hx.h,Instr.box,Sem.run_bind,Sem.run_pure,Result.andThen_ok,newVar,newRow,hc.h,run_newObj]
 rfl
theorem am {ops:Array Oper}{Q:Exit->Act->World->Prop}{rest:List Oper} (t:TypeId){x:Operand}(ho:o.op=.box t x)(hS:St w0 bs w H)[hx:Ev a x v]{cs:Array Value}[hc:CellsOf v cs]{a' : Value->Act}[hp:∀ v,Put a o.dst v (a' v)] (h:∀ b w',w.heap.size≤b->St w0 bs w' (⟨b,cs,t,true⟩::H)->wpList P ops Q rest (a' (.pointer (some ⟨b,0,none⟩))) w')(hw_:Region.wanted o (yielded ops a.tmps)=true:=by kernel_rfl):wpList P ops Q (o::rest) a w:=bI hw_ (eh t x ho hS h)
class SliceT (P:Program)(t:TypeId)(e:outParam TypeId):Prop where
 h:P.underlying t=some (.slice e)
class ElemT (P:Program)(e:TypeId)(size bytes:outParam Nat)(zs:outParam (Array Value)):Prop where
 h:(P.info? e).bind (fun i=>i.zero.map (fun z=>(i.size,i.bytes,z.cells)))=some (size,bytes,zs)
theorem ElemT.parts {e:TypeId}{size bytes:Nat}{zs:Array Value}(h:ElemT P e size bytes zs) :
  ∃ i z,P.info? e=some i∧i.zero=some z∧i.size=size∧i.bytes=bytes∧z.cells=zs:=by
 have h:=h.h
 cases hi:P.info? e with
 | none=>simp[hi] at h
 | some i=>
  cases hz:i.zero with
  | none=>simp[hi,hz] at h
  | some z=>
   simp[hi,hz] at h
   exact⟨i,z,rfl,hz,h.1,h.2.1,h.2.2⟩
theorem tn (t:TypeId)(len:Nat)(parts:Array (Nat×Operand))(ho:o.op=.buildSlice t len parts)(hS:St w0 bs w H){e:TypeId}[ht:SliceT P t e]{size bytes:Nat}{zs:Array Value}[he:ElemT P e size bytes zs]
  {cs:Array Value} (hf:Instr.fill (fun i=>some (i * size,size)) ((Array.range (len * size)).map (zs[· % zs.size]!)) (parts.map fun (i,x)=>(i,a.eval x)).toList=some cs)
  (hlen : ¬ len * size > 2 ^ 24) (hz0:len * size=0->cs=#[]) {a' : Value->Act} [hp:∀ v,Put a o.dst v (a' v)]
  (h:∀ b w',w.heap.size≤b->St w0 bs w' (⟨b,cs,e,true⟩::H)->post (a' (.slice (some ⟨b,0,none⟩) len len)) w'):im P o a w post:=by
 obtain⟨i,z,hi,hz,rfl,rfl,rfl⟩:=he.parts
 have hS':=hS.new (Chg.alloc w (.cells cs e (0,0))) (Nat.le_refl _) (dw w)
 refine⟨.value _,_,?_,.inl ⟨_,rfl,by rw[(hp _).h];exact h _ _ (Nat.le_refl _) hS'⟩⟩
 by_cases hn:len * i.size=0
 ·have hcs:=hz0 hn
  subst hcs
  rw[hn] at hf
  have hf' : Instr.fill (fun j=>some (j * i.size,i.size)) #[] (parts.map fun (i,x)=>(i,a.eval x)).toList=some #[]:=by simpa [Array.range_zero'] using hf
  have hf'':=hf'
  simp only[Array.toList_map] at hf''
  simp[execOp,ho,Instr.buildSlice,run_underlying ht.h,sizeOf,typeInfo,hi,hn,newRow,Array.range_zero',hf'']
 ·have hr:=run_buildSlice (P:=P) w t e len (parts.map fun (i,x)=>(i,a.eval x)) cs i z ht.h hi hz hlen hn hf
  simp only[execOp,ho,Sem.run_bind,hr,Result.andThen_ok,Sem.run_pure]
class Evs (a:Act)(xs:List (Nat×Operand))(vs:outParam (List (Nat×Value))):Prop where
 h:xs.map (fun (i,x)=>(i,a.eval x))=vs
instance G1 {a:Act} : Evs a [] []:=⟨rfl⟩
instance Fg {a:Act}{i:Nat}{x:Operand}{v:Value}{xs:List (Nat×Operand)}{vs:List (Nat×Value)}[h1:Ev a x v][h:Evs a xs vs] : Evs a ((i,x)::xs) ((i,v)::vs):=
 ⟨by simp only[List.map_cons,h1.h,h.h]⟩
class BuildT (P:Program)(t:TypeId)(vs:List (Nat×Value))(cs:outParam (Array Value)):Prop where
 h:∀ w,(Instr.build t vs.toArray).run P w=.ok (.agg cs) w
theorem bQ (t:TypeId)(parts:List (Nat×Operand))(ho:o.op=.build t parts.toArray){vs:List (Nat×Value)}[hE:Evs a parts vs]{cs:Array Value}[hb:BuildT P t vs cs] : ay P o a w (.agg cs):=by
 unfold ay
 simp only[execOp,ho,List.map_toArray,hE.h,Sem.run_bind,hb.h,Result.andThen_ok,Sem.run_pure]
theorem aL {ops:Array Oper}{Q:Exit->Act->World->Prop}{rest:List Oper}{a' : Act} {t:TypeId}{parts:List (Nat×Operand)}(ho:o.op=.build t parts.toArray){vs:List (Nat×Value)}[hE:Evs a parts vs]{cs:Array Value}[hb:BuildT P t vs cs][hp_:Put a o.dst (.agg cs) a'](hK_:wpList P ops Q rest a' w)(hw_:Region.wanted o (yielded ops a.tmps)=true:=by kernel_rfl):wpList P ops Q (o::rest) a w:=bI hw_ (ar (bQ t parts ho) hK_)
theorem tm {s:Operand}{t:TypeId}(ho:o.op=.call { callee:=.builtin .clear,args:=#[s],argTypes:=#[t] })(hS:St w0 bs w H){e:TypeId}[ht:SliceT P t e]
  {size bytes:Nat} {zs:Array Value} [he:ElemT P e size bytes zs] {b off len cap:Nat} [hs:Ev a s (.slice (some ⟨b,off,none⟩) len cap)] (hl:0<len) {cs cs' : Array Value} {T:TypeId} {H' : List Ent} [hH:Has H b cs T]
  [h1c:OneCells (Builtin.zeroCells zs len)] [hsa:SetsAt cs off (Builtin.zeroCells zs len) cs'] [hu:Upd H b cs' T H'] {a' : Act} [hp:Put a o.dst (.tuple #[]) a']
  (h:∀ w',St w0 bs w' H'->post a' w'):im P o a w post:=by
 obtain⟨i,z,hi,hz,rfl,rfl,rfl⟩:=he.parts
 have hb:=hS.has hH
 have hr:=run_storeCells_at P b off T (Builtin.zeroCells z.cells len).toList 0 cs w hb (by have:=hsa.le;simpa using this) h1c.h
 simp only[Nat.add_zero] at hr
 rw[show(Builtin.zeroCells z.cells len).toList.length=(Builtin.zeroCells z.cells len).size by simp,hsa.h] at hr
 have hS' : St w0 bs (w.setRow b cs') H':=by
  refine hS.upd ⟨rfl,rfl,rfl,by simp,fun k _ hk=>setRow_other w b k _ (by simpa [eq_comm] using hk)⟩ (setRow_heap w b cs _ T _ hb)
 refine⟨.value (.tuple #[]),_,?_,.inl ⟨_,rfl,by rw[hp.h];exact h _ hS'⟩⟩
 cases len with
 | zero=>omega
 | succ n=>
  simp only[execOp,ho,resolve,invoke,builtin,Sem.run_bind,Sem.run_pure,Result.andThen_ok,List.map_toArray,List.map_cons,List.map_nil,hs.h,Builtin.clear_,List.getElem?_toArray,List.getElem?_cons_zero,
   run_underlying ht.h,zeroValue,typeInfo,run_program,hi,hz,hr]
structure Sl (e:TypeId)(size:Nat)(v:Value)(n:Nat)(xs:List Value)(E:List Ent):Prop where
 len:xs.length=n * size
 or:(v=.slice none 0 0∧n=0∧E=[])∨∃ g cap sp,v=.slice (some ⟨g,0,none⟩) n cap∧E=[⟨g,(xs++sp).toArray,e,true⟩]∧n≤cap∧cap≤maxLen∧xs.length+sp.length=cap * size
theorem fu {e:TypeId}{size:Nat} : Sl e size (.slice none 0 0) 0 [] []:=⟨by simp,.inl ⟨rfl,rfl,rfl⟩⟩
theorem Sl.some {e:TypeId}{size:Nat}{v:Value}{n:Nat}{xs:List Value}{E:List Ent}(h:Sl e size v n xs E)(hn:0<n) :
  ∃ g cap sp,v=.slice (some ⟨g,0,none⟩) n cap∧E=[⟨g,(xs++sp).toArray,e,true⟩]∧n≤cap∧cap≤maxLen∧xs.length+sp.length=cap * size:=by
 rcases h.or with ⟨_,h0,_⟩|h
 ·omega
 ·exact h
theorem kt {cs news:Array Value}{off k:Nat}(hc:CellsAt cs off k news){b:Nat}(h:∀ j,w.cell? ⟨b,j,none⟩=cs[j]?):∀ j u,news.toList[j]?=some u->w.cell? ((⟨b,off,none⟩:Addr).add j)=some u:=by
 intro j u hu
 have hj:=(List.getElem?_eq_some_iff.1 hu).1
 rw[Addr.add_lit,h,hc.h j (by have:=hc.s;simp at hj;omega)]
 simpa using hu
theorem yw {E H:List Ent}{H1:List Ent}(hS:St w0 bs w H)[hc:Cut H E H1] : ∀ e∈E,w.heap[e.b]?=some (.cells e.cs e.T (0,0)):=by
 obtain⟨A,B,rfl,rfl⟩:=hc.h
 intro e he
 exact hS.get e (List.mem_append_right _ (List.mem_append_left _ he))
theorem eW (s x:Operand)(t t' : TypeId)(ho:o.op=.call { callee:=.builtin .append,args:=#[s,x],argTypes:=#[t,t'] })(htt:t'=t)
  (hS:St w0 bs w H) {e:TypeId} [ht:SliceT P t e] {size bytes:Nat} {zs:Array Value} [he:ElemT P e size bytes zs] (hzs:zs.size=size)
  {n:Nat} {xs:List Value} {E H1:List Ent} (hsl:Sl e size v n xs E) [hs:Ev a s v] [hcut:Cut H E H1]
  {b off m c:Nat} [hx:Ev a x (.slice (some ⟨b,off,none⟩) m c)] {cs:Array Value} {T:TypeId} [hH:Has H b cs T] {k:Nat} (hk:m * size=k) {news:Array Value} [hc:CellsAt cs off k news] [h1:OneCells news]
  {a' : Value->Act} [hp:∀ v,Put a o.dst v (a' v)] (h63:n+m≤maxLen) (hb:(n+m) * bytes≤140737488355328)
  (h:∀ v' E' w',Sl e size v' (n+m) (xs++news.toList) E'->(0<n+m->v'≠.slice none 0 0)->St w0 bs w' (E'++H1)->post (a' v') w'):im P o a w post:=by
 subst htt
 obtain⟨i,z,hi,hz,rfl,rfl,rfl⟩:=he.parts
 have hnews:=kt hc (w:=w) (b:=b) (fun j=>cm (hS.has hH))
 have hl:news.toList.length=m * i.size:=by rw[hk];simpa using hc.s
 have hlen:(xs++news.toList).length=(n+m) * i.size:=by rw[List.length_append,hsl.len,hl,Nat.add_mul]
 have hsmall:n+m≤9223372036854775807:=by simp only[maxLen] at h63;omega
 have fin:∀ v' E' w',(Builtin.append_ #[t',t'] o.type #[v,.slice (some ⟨b,off,none⟩) m c]).run P w=.ok v' w'->Sl e i.size v' (n+m) (xs++news.toList) E'->(0<n+m->v'≠.slice none 0 0)->St w0 bs w' (E'++H1)->im P o a w post:=by
  intro v' E' w' hr h2 h3 h4
  refine⟨.value v',w',?_,.inl ⟨_,rfl,by rw[(hp _).h];exact h _ _ _ h2 h3 h4⟩⟩
  simp only[execOp,ho,resolve,invoke,builtin,Sem.run_bind,Sem.run_pure,Result.andThen_ok,List.map_toArray,List.map_cons,List.map_nil,hs.h,hx.h,hr]
 have grown:∀ (old:Nat),(Builtin.append_ #[t',t'] o.type #[v,.slice (some ⟨b,off,none⟩) m c]).run P w =
   .ok (.slice (some ⟨w.heap.size,0,none⟩) (n+m) (grownCap w (n+m) old e)) (w.drew.alloc (.cells (xs.toArray++news.toList.toArray++Builtin.zeroCells z.cells (grownCap w (n+m) old e - (n+m))) e))->im P o a w post:=by
  intro old hr
  have hge:=grownCap_ge w (n+m) old e
  have hcm:grownCap w (n+m) old e≤maxLen:=grownCap_le_maxLen w (n+m) old e h63
  refine fin _ [⟨w.heap.size,((xs++news.toList)++(Builtin.zeroCells z.cells (grownCap w (n+m) old e - (n+m))).toList).toArray,e,true⟩] _ hr ⟨hlen,.inr ⟨_,_,_,rfl,rfl,hge,hcm,?_⟩⟩ (fun _=>by simp) ?_
  ·rw[hlen]
   simp only[Array.length_toList,size_zeroCells,hzs,← Nat.add_mul]
   congr 1
   omega
  ·have hS1:=hS.drawn (w.drawn+1)
   refine St.swap (E:=E) (hc:=hcut) hS ⟨rfl,rfl,rfl,by simp,fun k hk _=>Below.heap_alloc w.drew _ k hk⟩ ?_ ?_ (by simp) ?_
   ·intro x hx
    rcases hsl.or with ⟨_,_,rfl⟩|⟨g,cap,sp,_,rfl,_⟩
    ·cases hx
    ·simp at hx;rw[hx]
   ·intro x hx
    obtain rfl:=List.mem_singleton.1 hx
    simp only
    rw[show(((xs++news.toList)++(Builtin.zeroCells z.cells (grownCap w (n+m) old e - (n+m))).toList).toArray)=xs.toArray++news.toList.toArray++Builtin.zeroCells z.cells (grownCap w (n+m) old e - (n+m)) by simp]
    exact dw w.drew
   ·intro x hx
    obtain rfl:=List.mem_singleton.1 hx
    exact .inr (Nat.le_refl _)
 rcases hsl.or with ⟨rfl,rfl,rfl⟩|⟨g,cap,sp,rfl,rfl,hnc,hcm,hcs⟩
 ·have hx0:xs=[]:=List.eq_nil_of_length_eq_zero (by simpa using hsl.len)
  subst hx0
  by_cases hm:m=0
  ·subst hm
   have hn0:news.toList=[]:=List.eq_nil_of_length_eq_zero (by simpa using hl)
   refine fin (.slice none 0 0) [] w ?_ (by simpa [hn0] using fu) (by simp) ?_
   ·simp[Builtin.append_,run_underlying ht.h,sizeOf,typeInfo,hi,Builtin.lenOf,Builtin.firstCells,loadCells,loadCellsFrom]
   ·obtain⟨A,B,rfl,rfl⟩:=hcut.h
    simpa using hS
  ·have hr:=run_append_nil (P:=P) w t' o.type e i z ht.h hi hz ⟨b,off,none⟩ m c news.toList hl hnews (by omega) (by omega) (by have:=hb;simp only[Nat.zero_add] at this;omega)
   refine grown 0 ?_
   simpa using hr
 ·have hg:=yw hS (E:=[⟨g,(xs++sp).toArray,e,true⟩]) (hc:=hcut) _ (List.mem_singleton.2 rfl)
  simp only at hg
  by_cases hroom:n+m≤cap
  ·have hfit:n * i.size+news.toList.length≤((xs++sp).toArray).size:=by
    simp only[List.size_toArray,List.length_append,hcs,hl]
    rw[← Nat.add_mul];exact Nat.mul_le_mul_right _ hroom
   have hr:=run_append_room (P:=P) w t' o.type e i ht.h hi g n cap (xs++sp).toArray hg ⟨b,off,none⟩ m c news.toList hl hnews h1.h hroom hfit
   have htake:(xs++sp).take (n * i.size)=xs:=by rw[← hsl.len];exact List.take_left
   simp only[htake] at hr hfit
   refine fin _ [⟨g,((xs++news.toList)++(xs++sp).drop (n * i.size+news.toList.length)).toArray,e,true⟩] _ hr ⟨hlen,.inr ⟨_,_,_,rfl,rfl,hroom,hcm,?_⟩⟩ (fun _=>by simp) ?_
   ·have h3:=hsl.len
    simp only[List.length_append,List.length_drop,List.size_toArray] at hfit ⊢
    omega
   ·refine St.swap (E:=[⟨g,(xs++sp).toArray,e,true⟩]) (hc:=hcut) hS ⟨rfl,rfl,rfl,by simp,fun k _ hk=>setRow_other w g k _ (by simpa [eq_comm] using hk)⟩ (by simp) ?_ (by simp) (by simp)
    intro x hx
    obtain rfl:=List.mem_singleton.1 hx
    exact setRow_heap w g (xs++sp).toArray _ e _ hg
  ·have holds:∀ j u,xs[j]?=some u->w.cell? ((⟨g,0,none⟩:Addr).add j)=some u:=by
    intro j u hu
    rw[Addr.add_lit,Nat.zero_add,cm hg]
    have hj:=(List.getElem?_eq_some_iff.1 hu).1
    simp[List.getElem?_append_left hj,hu]
   have hr:=run_append_grow (P:=P) w t' o.type e i z ht.h hi hz ⟨g,0,none⟩ n cap xs hsl.len holds ⟨b,off,none⟩ m c news.toList hl hnews (by omega) (by omega) (growslice_fits (by omega) hb)
   exact grown cap hr
class PartsAt (s k:Nat)(vs:List (Nat×Value))(us:outParam (List Value)):Prop where
 h:vs=(us.zipIdx k).map (fun x=>(x.2,x.1))
 c:∀ v∈us,v.cells.size=s
instance CY {s k:Nat} : PartsAt s k [] []:=⟨rfl,by simp⟩
instance BU {s k:Nat}{v:Value}{cs:Array Value}{vs:List (Nat×Value)}{us:List Value}[h1:CellsOf v cs][h2:SizeIs cs s][h:PartsAt s (k+1) vs us] : PartsAt s k ((k,v)::vs) (v::us):=
 ⟨by rw[h.h];rfl,fun u hu=>by
  rcases List.mem_cons.1 hu with rfl|hu
  ·rw[h1.h];exact h2.h
  ·exact h.c u hu⟩
class FlatOf (us:List Value)(cs:outParam (List Value)):Prop where
 h:us.flatMap (fun v=>v.cells.toList)=cs
instance Fc:FlatOf [] []:=⟨rfl⟩
instance Fb {v:Value}{us cs:List Value}[h1:OneCell v][h:FlatOf us cs] : FlatOf (v::us) (v::cs):=⟨by rw [List.flatMap_cons,h1.cells,h.h];rfl⟩
instance Fa {u v:Value}{us cs:List Value}[h:FlatOf us cs] : FlatOf (.agg (List.toArray [u,v])::us) (u::v::cs):=⟨by rw [List.flatMap_cons,h.h];rfl⟩
theorem eD (t:TypeId)(len:Nat)(parts:List (Nat×Operand))(ho:o.op=.buildSlice t len parts.toArray)(hS:St w0 bs w H){e:TypeId}[ht:SliceT P t e]{size bytes:Nat}{zs:Array Value}[he:ElemT P e size bytes zs]
  {vs:List (Nat×Value)} [hE:Evs a parts vs] {us:List Value} [hP:PartsAt size 0 vs us] {cs:List Value} [hF:FlatOf us cs] (hpos:0<size) (hl:us.length=len) (h0:0<len) (hlen : ¬ len * size > 2 ^ 24)
  {a' : Value->Act} [hp:∀ v,Put a o.dst v (a' v)]
  (h:∀ b w',w.heap.size≤b->St w0 bs w' (⟨b,cs.toArray,e,true⟩::H)->post (a' (.slice (some ⟨b,0,none⟩) len len)) w'):im P o a w post:=by
 refine tn t len parts.toArray ho hS (cs:=cs.toArray) ?_ hlen (fun hz=>absurd hz (Nat.ne_of_gt (Nat.mul_pos h0 hpos))) h
 have e:(parts.toArray.map fun (i,x)=>(i,a.eval x)).toList=vs:=by
  rw[List.map_toArray,hE.h]
 rw[e,hP.h,← hF.h]
 exact Great.fill_whole hpos us _ hP.c (by rw[hl];simp)
theorem f5 {ops:Array Oper}{Q:Exit->Act->World->Prop}{rest:List Oper} {t:TypeId}(len:Nat)(parts:List (Nat×Operand))(ho:o.op=.buildSlice t len parts.toArray)(hS:St w0 bs w H){e:TypeId}[ht:SliceT P t e]{size bytes:Nat}{zs:Array Value}[he:ElemT P e size bytes zs] {vs:List (Nat×Value)} [hE:Evs a parts vs] {us:List Value} [hP:PartsAt size 0 vs us] {cs:List Value} [hF:FlatOf us cs] (hpos:0<size) (hl:us.length=len) (h0:0<len) (hlen : ¬ len * size > 2 ^ 24) {a' : Value->Act} [hp:∀ v,Put a o.dst v (a' v)] (h:∀ b w',w.heap.size≤b->St w0 bs w' (⟨b,cs.toArray,e,true⟩::H)->wpList P ops Q rest (a' (.slice (some ⟨b,0,none⟩) len len)) w')(hw_:Region.wanted o (yielded ops a.tmps)=true:=by kernel_rfl):wpList P ops Q (o::rest) a w:=bI hw_ (eD t len parts ho hS hpos hl h0 hlen h)
theorem pX {t:TypeId}(ho:o.op=.buildSlice t 0 #[])(hS:St w0 bs w H){e:TypeId}[ht:SliceT P t e]{size bytes:Nat}{zs:Array Value}[he:ElemT P e size bytes zs]
  {a' : Value->Act} [hp:∀ v,Put a o.dst v (a' v)]
  (h:∀ b w',w.heap.size≤b->St w0 bs w' (⟨b,#[],e,true⟩::H)->post (a' (.slice (some ⟨b,0,none⟩) 0 0)) w'):im P o a w post:=by
 refine tn t 0 #[] ho hS (cs:=#[]) ?_ (by simp) (fun _=>rfl) h
 simp[Instr.fill]
theorem pZ {e:TypeId}{size g:Nat} : Sl e size (.slice (some ⟨g,0,none⟩) 0 0) 0 [] [⟨g,#[],e,true⟩]:=⟨by simp,.inr ⟨g,0,[],rfl,rfl,Nat.le_refl _,Nat.zero_le _,by simp⟩⟩
theorem qa {t t': TypeId}{x:Operand}(ho:o.op=.binOp .eql t x (.const (.slice none 0 0)) t'){e:TypeId}[ht:SliceT P t e]{p:Addr}{n m:Nat}[hx:Ev a x (.slice (some p) n m)] : ay P o a w (.bool false):=by
 have hg:∀ y,(eqGuard .eql t x y (.slice (some p) n m) (.slice none 0 0)).run P w=.ok () w:=fun y=>by simp[eqGuard]
 have hc:a.eval (.const (.slice none 0 0))=.slice none 0 0:=rfl
 have hb:=Lib.run_eql_slice_nil (P:=P) w t e (some p) n m 0 0 ht.h
 unfold ay
 simp only[execOp,ho,hx.h,hc,Sem.run_bind,hg,hb,Result.andThen_ok,Sem.run_pure]
 rfl
def KC (k:IntKind)(L:List Int):Array Value:=(L.map (Value.int k)).toArray
def oW (a:Act):List (Nat×Value)->Act
 | []=>a
 | (n,v)::l=>oW (a.put (some n) v) l
class PutAll (a:Act)(l:List (Nat×Value))(a' : outParam Act):Prop where
 h:oW a l=a'
theorem dn {K:Act->Prop}(p:Op)(_:o.op=p)(h:wpStill P ops w K (o::rest) a):wpStill P ops w K (o::rest) a:=h
theorem ax {K:Act->Prop}(hw:Region.wanted o (yielded ops a.tmps)=true)(h:ay P o a w v)[hp:Put a o.dst v a'](hK:wpStill P ops w K rest a'):wpStill P ops w K (o::rest) a:=by
 unfold wpStill
 rw[if_pos hw]
 exact rt h hK
theorem aR {id:Nat}{l:List Oper}(n:Nat)(hS:St w0 bs w H)
  (h:∀ w',St w0 bs w' H->wpStill P l.toArray w' (fun a'=>wpList P l.toArray Q (l.drop n) a' w') (l.take n) a)(hm:P.follows .mixedOrders=true:=by kernel_rfl)(hB:Region.lexTailB .any l.toArray n=true:=by kernel_rfl):(Code.region id l.toArray true).wp P Q a w:=
 wp_region_still_tail n hm hB (h _ (hS.drawn _))
structure SW (w0:World)(bs:List Nat)(H:List Ent) where
 w:World
 h:St w0 bs w H
theorem av {id:Nat}{l:List Oper}(hS:St w0 bs w H)
  (h:Nonempty (SW w0 bs H)->wpQuiet P l.toArray (fun w'=>∃ u:SW w0 bs H,w'=u.w) (fun a'=>∀ w',St w0 bs w' H->Q .normal a' w') l a)(hm:P.follows .mixedOrders=true:=by kernel_rfl)(hB:Region.lexB .any l.toArray=true:=by kernel_rfl):(Code.region id l.toArray true).wp P Q a w:=
 wp_region_quiet (C:=fun w'=>∃ u:SW w0 bs H,w'=u.w) hm hB ⟨⟨_,hS.drawn _⟩,rfl⟩ (by
  have h:=h ⟨⟨w,hS⟩⟩
  have e:(fun a'=>∀ w',(∃ u:SW w0 bs H,w'=u.w)->Q .normal a' w')=(fun a'=>∀ w',St w0 bs w' H->Q .normal a' w'):=by
   funext a'
   refine propext ⟨fun h w' hw=>h w' ⟨⟨w',hw⟩,rfl⟩,fun h w' ⟨u,hu⟩=>by rw[hu];exact h _ u.h⟩
  rw[e]
  simpa using h)
theorem aE {C:World->Prop}{K:Act->Prop}(hC:∀ w,C w->St w0 bs w H)(h:∀ w,St w0 bs w H->ay P o a w v)[hp:Put a o.dst v a'](hK:K a'):o.quiet P a C K:=
 aH (fun w hw=>h w (hC w hw)) hK
theorem bk:∀ w,(∃ u:SW w0 bs H,w=u.w)->St w0 bs w H:=fun w ⟨u,hu⟩=>by rw [hu];exact u.h
end
open Go Go.RowKit
def Kept (bs:List Nat)(W W' : World):Prop:=∀ b∈bs,W'.heap[b]?=W.heap[b]?
theorem Kept.trans {bs:List Nat}{A B C:World}(h:Kept bs A B)(k:Kept bs B C):Kept bs A C:=fun b hb=>(k b hb).trans (h b hb)
theorem g6 {bs:List Nat}{w:World}(hb:∀ b∈bs,b<w.heap.size)(W:World)(l:Nat)(o o' : Obj)(hl:w.heap.size≤l)(_:W.heap[l]?=some o)(_:o.isCells=false)(_:o.isWalk=false):Kept bs W (W.putObj l o'):=by
 intro b h
 exact World.putObj_heap_other (by have:=hb b h;omega)
def wl (H:List Ent):List Nat:=(H.filter (·.wr)).map (·.b)
theorem mem_wl {H:List Ent}{b:Nat} : b∈wl H↔∃ e∈H,e.wr=true∧e.b=b:=by
 simp[wl,and_assoc]
section
variable {w0 w w' : World}{bs:List Nat}{H H' : List Ent}
theorem St.rebase (hS:St w0 bs w H):St w (wl H) w H:=
 St.start hS.get hS.nd (fun e he hw=>mem_wl.2 ⟨e,he,hw,rfl⟩)
theorem St.rejoin (hS:St w0 bs w H)(k:St w (wl H) w' H'):St w0 bs w' H':=by
 refine⟨hS.chg.trans k.chg ?_,k.get,k.nd,?_⟩
 ·intro x hx hlt
  obtain⟨e,he,hw,rfl⟩:=mem_wl.1 hx
  rcases hS.wr e he hw with h|h
  ·exact h
  ·omega
 ·intro e he hw
  rcases k.wr e he hw with h|h
  ·obtain⟨x,hx,hxw,hxe⟩:=mem_wl.1 h
   rw[← hxe];exact hS.wr x hx hxw
  ·exact .inr (Nat.le_trans hS.chg.size h)
theorem St.keeps (hS:St w0 bs w H)(k:Chg w w' (wl H)):KeepsOthers w w':=
 ⟨k.size,fun i o hi ho=>by
  refine k.get hi ?_
  intro hx
  obtain⟨e,he,_,rfl⟩:=mem_wl.1 hx
  rw[hS.get e he] at hi
  cases hi;cases ho⟩
theorem Chg.grown {w w' : World}(h:Chg w w' [])(row:Option Nat):w.grownBy w' row:=⟨h.os,h.tape,h.output,h.size,fun k hk _=>h.same k hk (by simp)⟩
theorem St.abide (hS:St w0 bs w H){row:Option Nat}(hg:w.grownBy w' row)(hr:∀ r,row=some r->w0.heap.size≤r∧∃ o:Obj,w.heap[r]?=some o∧o.isCells=false):St w0 bs w' H:=by
 have keep:∀ k o,w.heap[k]?=some o->(∀ r,row=some r->r≠k)->w'.heap[k]?=some o:=fun k o hk hn=>by
  rw[hg.block k (bG hk) (fun e=>hn k e.symm rfl)];exact hk
 refine⟨⟨hg.os.trans hS.chg.os,hg.tape.trans hS.chg.tape,hg.output.trans hS.chg.output,Nat.le_trans hS.chg.size hg.size,fun k hk hn=>?_⟩,fun e he=>?_,hS.nd,hS.wr⟩
 ·rw[hg.block k (Nat.lt_of_lt_of_le hk hS.chg.size) (fun e=>by have:=(hr k e.symm).1;omega)]
  exact hS.chg.same k hk hn
 ·refine keep e.b _ (hS.get e he) (fun r hrr q=>?_)
  obtain⟨_,o,ho,hc⟩:=hr r hrr
  rw[q,hS.get e he] at ho
  cases ho;cases hc
theorem fD {β:Type}{X:Type}{B:Nat}(hB:w0.heap.size≤B)(C:β->X->Prop)(Hf:β->X->List Ent):OwnFrom B (fun (s:β) (W:World)=>∃ x,C s x∧St w0 bs W (Hf s x)):=by
 rintro s W W' row ⟨x,hc,hs⟩ hg hr
 exact⟨x,hc,hs.abide hg (fun r e=>by obtain⟨h,o,ho,hoc⟩:=hr r e;exact⟨by omega,o,ho,hoc⟩)⟩
end
class LoadV (P:Program)(H:List Ent)(t:TypeId)(b off:Nat)(v:outParam Value):Prop where
 h:∀ w0 bs w,St w0 bs w H->(loadVar t ⟨b,off,none⟩).run P w=.ok v w
instance AY {P:Program}{H:List Ent}{t:TypeId}{b off:Nat}{v:Value}[hs:ScalarT P t]{cs:Array Value}{T:TypeId}[hH:Has H b cs T][hc:CellAt cs off v] : LoadV P H t b off v:=
 ⟨fun w0 bs w hS=>by
  simp only[loadVar,Sem.run_bind,hs.run,Result.andThen_ok,Bool.false_eq_true,if_false,run_load,cm (hS.has hH),hc.h]⟩
instance EV {P:Program}{H:List Ent}{t:TypeId}{b off n:Nat}{vs:Array Value}[hs:AggT P t n]{cs:Array Value}{T:TypeId}[hH:Has H b cs T][hc:CellsAt cs off n vs] : LoadV P H t b off (.agg vs):=
 ⟨fun w0 bs w hS=>by
  have hl:(loadCells ⟨b,off,none⟩ n).run P w=.ok vs w:=by
   have:=run_loadCells_list (P:=P) w ⟨b,off,none⟩ vs.toList (fun j v hj=>by
    have hj' : j<n:=by
     have:=(List.getElem?_eq_some_iff.1 hj).1
     simpa [hc.s] using this
    have:=hc.h j hj'
    rw[Addr.add_lit,cm (hS.has hH),this]
    simpa using hj)
   simpa [hc.s] using this
  simp only[loadVar,Sem.run_bind,hs.run,Result.andThen_ok,if_true,aU hs.s,hl,Sem.run_pure]⟩
theorem aI {P:Program}{fn:Func}{p:Tmp}{t:TypeId}(h:fn.results=#[.cell p t]){tmps:List Value}{b:Nat}[hp:Nth tmps p (.pointer (some ⟨b,0,none⟩))]
  {w0 w:World} {bs:List Nat} {H:List Ent} (hS:St w0 bs w H) {v:Value} [hv:LoadV P H t b 0 v] : (results fn tmps.toArray).run P w=.ok v w:=by
 have h1:tmps[p]?.getD undef=.pointer (some ⟨b,0,none⟩):=by simp[hp.h]
 simp[results,h,h1,asAddr,hv.h _ _ _ hS]
theorem dp {P:Program}{fn:Func}{p q:Tmp}{t u:TypeId}(h:fn.results=#[.cell p t,.cell q u]){tmps:List Value}{b c:Nat}[hp:Nth tmps p (.pointer (some ⟨b,0,none⟩))][hq:Nth tmps q (.pointer (some ⟨c,0,none⟩))]
  {w0 w:World} {bs:List Nat} {H:List Ent} (hS:St w0 bs w H) {v v' : Value} [hv:LoadV P H t b 0 v] [hv' : LoadV P H u c 0 v'] : (results fn tmps.toArray).run P w=.ok (.tuple #[v,v']) w:=by
 have h1:tmps[p]?.getD undef=.pointer (some ⟨b,0,none⟩):=by simp[hp.h]
 have h2:tmps[q]?.getD undef=.pointer (some ⟨c,0,none⟩):=by simp[hq.h]
 simp[results,h,h1,h2,asAddr,hv.h _ _ _ hS,hv'.h _ _ _ hS]
theorem aJ {P:Program}{fn:Func}{p q:Tmp}{t:TypeId}(h:fn.results=#[.cell p t,.tmp q]){tmps:List Value}{b:Nat}{v' : Value}[hp:Nth tmps p (.pointer (some ⟨b,0,none⟩))][hq:Nth tmps q v']
  {w0 w:World} {bs:List Nat} {H:List Ent} (hS:St w0 bs w H) {v:Value} [hv:LoadV P H t b 0 v] : (results fn tmps.toArray).run P w=.ok (.tuple #[v,v']) w:=by
 have h1:tmps[p]?.getD undef=.pointer (some ⟨b,0,none⟩):=by simp[hp.h]
 have h2:tmps[q]?.getD undef=v':=by simp[hq.h]
 simp[results,h,h1,h2,asAddr,hv.h _ _ _ hS]
section
variable {P:Program}{n:Nat}{w0 w:World}{bs:List Nat}
def fZ {α X Y:Type}(W:World)(Hr:List Ent)(xs:List α)(C:List α->X->Prop)(Hf:List α->X->List Ent)(D:Code->List α->Y->Prop)(Hx:Code->List α->Y->List Ent):Exit->Act->World->Prop
 | .normal,_,W'=>∃ x,C xs x∧St W (wl Hr) W' (Hf xs x)
 | .ret,_,W'=>∃ y,D .ret xs y∧St W (wl Hr) W' (Hx .ret xs y)
 | .exit id,_,W'=>∃ y,D (.exit id) xs y∧St W (wl Hr) W' (Hx (.exit id) xs y)
 | _,_,_=>False
theorem eO {α X Y:Type}{g:Operand}{ps:Array Tmp}{assign body:Code}{Q:Exit->Act->World->Prop}{a:Act}
  (h1:1≤n) {gf:Nat} {lb:Array Value} (hg:a.eval g=.func (.func gf) #[] lb) (eg:∀ args w,(callFunc gf args).run P w=.ok (.enter gf args) w)
  {encs:α->Array Value} {K:List Ent} {S Sp:List α->Prop} {N:Nat} (hw:w0.heap.size≤w.heap.size) (hKw:∀ e∈K,e.b<w.heap.size)
  (hseq:SeqStopsK Fence.wide (n - 1) P gf lb encs (Kept (K.map (·.b))) S Sp N w) (hps:∀ x,(encs x).size=ps.size)
  (C:List α->X->Prop) (Hf:List α->X->List Ent) (hK:∀ xs x,C xs x->∀ e∈K,e∈Hf xs x) (D:Code->List α->Y->Prop) (Hx:Code->List α->Y->List Ent) {x0:X} (h0:C [] x0) (hS:St w0 bs w (Hf [] x0)) (a₁:α->Act)
  (hassign:∀ (l:Nat) (x:α) (W:World) (K:Act->World->Prop),K (a₁ x) W ->
   assign.wpIn (Fence.wide.inRound l) (n - 1 - 1) P (Exit.then K (fun _ _ _=>False)) { tmps:=(ps.zip (encs x)).foldl (fun t (p,v)=>t.setIfInBounds p v) a.tmps,defers:=[] } W)
  (hbody:∀ (l:Nat) (pre:List α) (el:α) (x:X) (W:World),C pre x->pre.length<N->St W (wl (Hf pre x)) W (Hf pre x) ->
   body.wpIn (Fence.wide.inRound l) (n - 1 - 1) P (fZ W (Hf pre x) (pre++[el]) C Hf D Hx) (a₁ el) W)
  (hdone:∀ (d:Nat) (xs:List α) (x:X) (W:World),S xs->C xs x->St w0 bs W (Hf xs x)->(w0.heap.size≤d∧W.heap[d]?=some (.deferred (some [])))->Q .normal { a with defers:={ target:=.collected d,args:=#[] }::a.defers } W)
  (hstop:∀ (d:Nat) (c:Code) (pre:List α) (y:Y) (W:World),Sp pre->D c pre y->St w0 bs W (Hx c pre y)->(w0.heap.size≤d∧W.heap[d]?=some (.deferred (some [])))->c.wpIn Fence.wide n P Q { a with defers:={ target:=.collected d,args:=#[] }::a.defers } W) :
  (Code.rangeFunc g ps assign body).wpIn Fence.wide n P Q a w:=by
 refine wpIn_rangeFunc_ownF rfl h1 (gf:=gf) (lb:=lb) hg trivial eg hseq Kept.trans (g6 (by simpa using hKw)) (Below.refl _ _) hps
  (fun s W=>∃ x,C s x∧St w0 bs W (Hf s x)) (fun c s W=>∃ y,D c s y∧St w0 bs W (Hx c s y)) (fD hw C Hf) (fun c=>fD hw (D c) (Hx c)) ⟨x0,h0,hS⟩ a₁ hassign ?_ ?_ ?_
 ·rintro l pre el W ⟨x,hc,hs⟩ hlen
  refine wpIn_mono (hbody l pre el x W hc hlen hs.rebase) ?_
  intro e a' W' hp
  cases e with
  | normal=>
   obtain⟨x',hc',hs'⟩:=hp
   refine⟨hs.keeps hs'.chg,?_,x',hc',hs.rejoin hs'⟩
   intro b hb
   obtain⟨k,hk,rfl⟩:=List.mem_map.1 hb
   rw[hs.get k (hK _ _ hc k hk),hs'.get k (hK _ _ hc' k hk)]
  | ret=>obtain⟨y,hd,hs'⟩:=hp;exact⟨hs.keeps hs'.chg,y,hd,hs.rejoin hs'⟩
  | exit id=>obtain⟨y,hd,hs'⟩:=hp;exact⟨hs.keeps hs'.chg,y,hd,hs.rejoin hs'⟩
  | goto t=>exact hp.elim
  | panic ch=>exact hp.elim
  | outgrown=>exact hp.elim
 ·rintro d xs W hd hs ⟨x,hc,hS'⟩ hk
  exact hdone d xs x W hs hc hS' ⟨Nat.le_trans hw hd,hk⟩
 ·rintro d c pre W hd hsp ⟨y,hD,hS'⟩ hk
  exact hstop d c pre y W hsp hD hS' ⟨Nat.le_trans hw hd,hk⟩
theorem kR {α X Y:Type}{g:Operand}{ps:Array Tmp}{assign body:Code}{Q:Exit->Act->World->Prop}{a:Act}
  (h1:1≤n) {gf:Nat} {lb:Array Value} (hg:a.eval g=.func (.func gf) #[] lb) (eg:∀ args w,(callFunc gf args).run P w=.ok (.enter gf args) w)
  {encs:α->Array Value} {K:List Ent} {S Sp:List α->Prop} {N:Nat} (hw:w0.heap.size≤w.heap.size) (hKw:∀ e∈K,e.b<w.heap.size)
  (hseq:SeqStopsK Fence.wide (n - 1) P gf lb encs (Kept (K.map (·.b))) S Sp N w) (hps:∀ x,(encs x).size=ps.size)
  (C:List α->X->Prop) (Hf:List α->X->List Ent) (hK:∀ xs x,C xs x->∀ e∈K,e∈Hf xs x) (D:Code->List α->Y->Prop) (Hx:Code->List α->Y->List Ent) {x0:X} (h0:C [] x0) (hS:St w0 bs w (Hf [] x0))
  (Tv:TypeId) (vcs:α->Array Value) (hT:∀ xs x,C xs x->∀ e∈Hf xs x,e.b<w.heap.size∨e.T≠Tv) (a₁:α->Nat->Act)
  (hassign:∀ (l:Nat) (pre:List α) (el:α) (x:X) (W:World),C pre x->w.heap.size≤W.heap.size->St W (wl (Hf pre x)) W (Hf pre x) ->
   assign.wpIn (Fence.wide.inRound l) (n - 1 - 1) P (Exit.then (fun a' W'=>∃ bv,w.heap.size≤bv∧a'=a₁ el bv∧St W (wl (Hf pre x)) W' (⟨bv,vcs el,Tv,true⟩::Hf pre x)) (fun _ _ _=>False)) { tmps:=(ps.zip (encs el)).foldl (fun t (p,v)=>t.setIfInBounds p v) a.tmps,defers:=[] } W)
  (hbody:∀ (l:Nat) (pre:List α) (el:α) (x:X) (bv:Nat) (W:World),C pre x->pre.length<N->w.heap.size≤W.heap.size->St W (wl (⟨bv,vcs el,Tv,true⟩::Hf pre x)) W (⟨bv,vcs el,Tv,true⟩::Hf pre x) ->
   body.wpIn (Fence.wide.inRound l) (n - 1 - 1) P (fZ W (⟨bv,vcs el,Tv,true⟩::Hf pre x) (pre++[el]) C Hf D Hx) (a₁ el bv) W)
  (hdone:∀ (d:Nat) (xs:List α) (x:X) (W:World),S xs->C xs x->St w0 bs W (Hf xs x)->(w0.heap.size≤d∧W.heap[d]?=some (.deferred (some [])))->Q .normal { a with defers:={ target:=.collected d,args:=#[] }::a.defers } W)
  (hstop:∀ (d:Nat) (c:Code) (pre:List α) (y:Y) (W:World),Sp pre->D c pre y->St w0 bs W (Hx c pre y)->(w0.heap.size≤d∧W.heap[d]?=some (.deferred (some [])))->c.wpIn Fence.wide n P Q { a with defers:={ target:=.collected d,args:=#[] }::a.defers } W) :
  (Code.rangeFunc g ps assign body).wpIn Fence.wide n P Q a w:=by
 refine wpIn_rangeFunc_ownH rfl h1 (gf:=gf) (lb:=lb) hg trivial eg hseq Kept.trans (g6 (by simpa using hKw)) (Below.refl _ _) hps
  (fun s W=>w.heap.size≤W.heap.size∧∃ x,C s x∧St w0 bs W (Hf s x)) (fun c s W=>∃ y,D c s y∧St w0 bs W (Hx c s y)) (OwnFrom.and (fun _ _ _ _ h hg _=>Nat.le_trans h hg.size) (fD hw C Hf)) (fun c=>fD hw (D c) (Hx c)) ⟨Nat.le_refl _,x0,h0,hS⟩
  (fun el a' W=>∃ bv,w.heap.size≤bv∧a'=a₁ el bv∧W.heap[bv]?=some (.cells (vcs el) Tv (0,0))) ?_ ?_ ?_ ?_ ?_
 ·rintro x a' s W W' row ⟨bv,h1,h2,h3⟩ hg' hr
  refine⟨bv,h1,h2,?_⟩
  rw[hg'.block bv (bG h3) (fun e=>?_)]
  ·exact h3
  ·obtain⟨_,o,ho,hc⟩:=hr bv e.symm
   rw[h3] at ho
   cases ho;cases hc
 ·rintro l pre el W K' ⟨hsz,x,hc,hs⟩ hK'
  refine wpIn_mono (hassign l pre el x W hc hsz hs.rebase) ?_
  intro e a' W' hp
  cases e with
  | normal=>
   obtain⟨bv,hb1,hb2,hs'⟩:=hp
   have hs2:St W (wl (Hf pre x)) W' (Hf pre x):=hs'.weak
   refine hK' a' W' ((hs.keeps hs'.chg).from _) ?_ ⟨Nat.le_trans hsz hs'.chg.size,x,hc,hs.rejoin hs2⟩ ⟨bv,hb1,hb2,hs'.get _ (.head _)⟩
   intro b hb
   obtain⟨k,hk,rfl⟩:=List.mem_map.1 hb
   rw[hs.get k (hK _ _ hc k hk),hs2.get k (hK _ _ hc k hk)]
  | _=>exact hp.elim
 ·rintro l pre el a' W _ _ ⟨hsz,x,hc,hs⟩ ⟨bv,hb1,rfl,hb3⟩ hlen
  have hbig:St W (wl (⟨bv,vcs el,Tv,true⟩::Hf pre x)) W (⟨bv,vcs el,Tv,true⟩::Hf pre x):=by
   refine St.start (fun e he=>?_) (List.pairwise_cons.2 ⟨fun e he q=>?_,hs.nd⟩) (fun e he hw'=>mem_wl.2 ⟨e,he,hw',rfl⟩)
   ·rcases List.mem_cons.1 he with rfl|he
    ·exact hb3
    ·exact hs.get e he
   ·simp only at q
    rcases hT _ _ hc e he with h|h
    ·omega
    ·have:=hs.get e he
     rw[← q,hb3] at this
     simp only[Option.some.injEq,Obj.cells.injEq] at this
     exact h this.2.1.symm
  -- the block of the variable: a new one,for the caller
  have join:∀ {W' : World} {H' : List Ent},St W (wl (⟨bv,vcs el,Tv,true⟩::Hf pre x)) W' H'->St w0 bs W' H':=by
   intro W' H' hs'
   refine⟨hs.chg.trans hs'.chg ?_,hs'.get,hs'.nd,?_⟩
   ·intro z hz hlt
    obtain⟨e,he,hw',rfl⟩:=mem_wl.1 hz
    rcases List.mem_cons.1 he with rfl|he
    ·simp only at hlt;omega
    ·rcases hs.wr e he hw' with h|h
     ·exact h
     ·omega
   ·intro e he hw'
    rcases hs'.wr e he hw' with h|h
    ·obtain⟨y,hy,hyw,hye⟩:=mem_wl.1 h
     rcases List.mem_cons.1 hy with rfl|hy
     ·exact .inr (by rw[← hye];simp only;omega)
     ·rw[← hye];exact hs.wr y hy hyw
    ·exact .inr (Nat.le_trans hs.chg.size h)
  refine wpIn_mono (hbody l pre el x bv W hc hlen (by have:=bG hb3;omega) hbig) ?_
  intro e a' W' hp
  cases e with
  | normal=>
   obtain⟨x',hc',hs'⟩:=hp
   refine⟨(hbig.keeps hs'.chg).from _,?_,Nat.le_trans hsz hs'.chg.size,x',hc',join hs'⟩
   intro b hb
   obtain⟨k,hk,rfl⟩:=List.mem_map.1 hb
   rw[hs.get k (hK _ _ hc k hk),hs'.get k (hK _ _ hc' k hk)]
  | ret=>obtain⟨y,hd,hs'⟩:=hp;exact⟨(hbig.keeps hs'.chg).from _,y,hd,join hs'⟩
  | exit id=>obtain⟨y,hd,hs'⟩:=hp;exact⟨(hbig.keeps hs'.chg).from _,y,hd,join hs'⟩
  | goto t=>exact hp.elim
  | panic ch=>exact hp.elim
  | outgrown=>exact hp.elim
 ·rintro d xs W hd hs ⟨_,x,hc,hS'⟩ hk
  exact hdone d xs x W hs hc hS' ⟨Nat.le_trans hw hd,hk⟩
 ·rintro d c pre W hd hsp ⟨y,hD,hS'⟩ hk
  exact hstop d c pre y W hsp hD hS' ⟨Nat.le_trans hw hd,hk⟩
theorem bS {fn:Func}{tmps:Array Value}{R:Ending->World->Prop}{W W2:World}{H H2:List Ent}{d:Nat}(hd:w0.heap.size≤d∧W.heap[d]?=some (.deferred (some [])))(hS0:St w0 bs W H)(hS:St W (wl H) W2 H2)
  (h:∀ W3,St w0 bs W3 H2->∃ v,(results fn tmps).run P W3=.ok v W3∧R (.returned v) W3):LeavesInM Fence.wide n P fn tmps R [{ target:=.collected d,args:=#[] }] .returning W2:=by
 have hd2:W2.heap[d]?=some (.deferred (some [])):=by
  refine hS.chg.get hd.2 ?_
  intro hx
  obtain⟨e,he,_,rfl⟩:=mem_wl.1 hx
  rw[hS0.get e he] at hd
  cases hd.2
 refine⟨by simp,.inl ⟨_,_,rfl,run_takeDeferred hd2,?_⟩⟩
 obtain⟨v,hr,hR⟩:=h _ ((hS0.rejoin hS).abide (grownBy_putObj' W2 d (.deferred none)) (fun r e=>by cases e;exact⟨hd.1,_,hd2,rfl⟩))
 exact⟨v,hr,hR⟩
end
def gl (p:Nat->Bool)(k:Nat):List Nat:=(List.range k).filter p
theorem Sv {p:Nat->Bool}{k:Nat}(h:p k=true):gl p (k+1)=gl p k++[k]:=by
 simp[gl,List.range_succ,List.filter_append,h]
theorem eS {p:Nat->Bool}{k:Nat}(h:p k=false):gl p (k+1)=gl p k:=by
 simp[gl,List.range_succ,List.filter_append,h]
theorem e9 (p:Nat->Bool)(k:Nat):(gl p k).length≤k:=by
 unfold gl;exact Nat.le_trans (List.length_filter_le _ _) (by simp)
theorem mem_gl {p:Nat->Bool}{k i:Nat} : i∈gl p k↔i<k∧p i=true:=by simp [gl]
theorem bY (f:FuncId):Fence.wide.fn f:=trivial
theorem cu (l:Nat)(f:FuncId):(Fence.wide.inRound l).fn f:=trivial
end Go.Mm
