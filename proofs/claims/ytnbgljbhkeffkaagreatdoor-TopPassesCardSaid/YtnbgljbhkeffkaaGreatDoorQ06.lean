/-
  Contracts of what the law TopPasses reaches, part 6: Tab TabLaw Refs Slots Fields SlotsB.
-/
import Derived.Test.YtnbgljbhkeffkaaGreatDoorQ02
open Go.Proofs.Tryz
set_option linter.unusedVariables false
set_option linter.unusedSimpArgs false
set_option maxHeartbeats 4000000
set_option maxRecDepth 100000
namespace Go.Proofs.YtnbgljbhkeffkaaGreatDoor
open Go Go.Mm
abbrev Tb:=Option (List (Int×Int))
abbrev MN (L:List (Int×Int))(i:Nat):Int×Int:=L.getD i (0,0)
def cJ (st:Int)(L:List (Int×Int))(i:Nat):Bool:=(L.getD i (0,0)).1 == st
def firstOf (p:Nat->Bool)(n:Nat):Option Nat:=(List.range n).find? p
def fe:Tb->Bool
 | none=>false
 | some L=>decide (0<L.length)
def v9:Tb->Option Nat
 | none=>none
 | some L=>firstOf (cJ 0 L) L.length
def jx (T:Tb):Int:=if fe T then (if (v9 T).isSome then 0 else 4) else 1
def kC (T:Tb):Int:=((v9 T).getD 0:Nat)
def kD:Tb->Int
 | none=>0
 | some L=>match firstOf (cJ 0 L) L.length with
  | some i=>(L.getD i (0,0)).2
  | none=>0
def vO (L:List (Int×Int)):List (Int×Int):=match firstOf (cJ 0 L) L.length with
 | some i=>L.set i (1,(L.getD i (0,0)).2)
 | none=>L
def ir:Tb->Tb
 | none=>none
 | some L=>some (vO L)
def g7 (L:List (Int×Int))(s:Int):Bool:=decide (0≤s) && decide (s<L.length)
def iN:Tb->Int->Int->Int
 | none,_,_=>1
 | some L,s,g=>if 0<L.length then (if g7 L s then (if L.getD s.toNat (0,0)=(1,g) then 0 else 7) else 3) else 1
def xW (L:List (Int×Int))(s g:Int):List (Int×Int):=if iN (some L) s g=0 then L.set s.toNat (if g<4294967295 then (0,g+1) else (2,g)) else L
def ov:Tb->Int->Int->Tb
 | none,_,_=>none
 | some L,s,g=>some (xW L s g)
def PO:Tb->Int->Int
 | none,_=>0
 | some L,s=>if g7 L s then (L.getD s.toNat (0,0)).2 else 0
def PQ:Tb->Int->Int
 | none,_=>1
 | some L,s=>if 0<L.length then (if g7 L s then 0 else 3) else 1
def eN (st:Int)(L:List (Int×Int))(k:Nat):Nat:=(gl (cJ st L) k).length
def nR (st:Int):Tb->Int
 | none=>0
 | some L=>eN st L L.length
def gV (L:List (Int×Int))(i:Nat):Int×Int:=(i,(L.getD i (0,0)).2)
def Cv (st:Int)(L:List (Int×Int))(k:Nat):List (Int×Int):=(gl (cJ st L) k).map (gV L)
def v8:Tb->List (Int×Int)
 | none=>[]
 | some L=>Cv 1 L L.length
def sL (T:Tb):Tb:=if fe T then T else none
def cO (z f:Int):Bool:=decide (1≤z) && decide (z≤256) && decide (1≤f)
def ni (z f:Int):Tb:=if cO z f then some (List.replicate z.toNat (0,f)) else none
def kF (z f:Int):Int:=if cO z f then 0 else 2
structure TbW (L:List (Int×Int)):Prop where
 hi:L.length≤256
 st:∀ x∈L,x.1=0∨x.1=1∨x.1=2
 gn:∀ x∈L,1≤x.2∧x.2≤4294967295
theorem u3 {L:List (Int×Int)}{s:Int}(h:g7 L s=true):∃ i:Nat,s=i∧i<L.length∧s.toNat=i:=by
 simp[g7] at h
 exact⟨s.toNat,by omega,by omega,rfl⟩
theorem Dr {L:List (Int×Int)}{s:Int}(h:g7 L s=false):s<0∨(L.length:Int)≤s:=by
 simp[g7] at h
 omega
theorem ew {p:Nat->Bool}{n:Nat}(h:gl p n=[]):firstOf p n=none:=by
 unfold firstOf gl at *
 rw[List.find?_eq_none]
 rw[List.filter_eq_nil_iff] at h
 exact h
theorem fa {p:Nat->Bool}{n k y:Nat}(hk:k<n)(hp:p k=true)(h : [y]=gl p k++[k]):firstOf p n=some y:=by
 have h0:gl p k=[]:=by
  cases hg:gl p k with
  | nil=>rfl
  | cons a l=>rw[hg] at h;simp at h
 rw[h0] at h
 simp at h;subst h
 unfold firstOf
 obtain⟨m,rfl⟩:∃ m,n=y+1+m:=⟨n - (y+1),by omega⟩
 unfold gl at h0
 rw[List.filter_eq_nil_iff] at h0
 rw[List.range_add,List.find?_append,List.range_succ,List.find?_append,List.find?_eq_none.2 (by simpa using h0)]
 simp[hp]
theorem nC {p:Nat->Bool}{n i:Nat}(hi:i<n)(h0:∀ j,j<i->p j=false)(h1:p i=true):firstOf p n=some i:=by
 refine fa hi h1 ?_
 have:gl p i=[]:=by
  unfold gl
  rw[List.filter_eq_nil_iff]
  intro j hj
  rw[h0 j (List.mem_range.1 hj)]
  simp
 rw[this];rfl
theorem nB {p:Nat->Bool}{n:Nat}(h0:∀ j,j<n->p j=false):firstOf p n=none:=by
 refine ew ?_
 unfold gl
 rw[List.filter_eq_nil_iff]
 intro j hj
 rw[h0 j (List.mem_range.1 hj)]
 simp
theorem ic {p:Nat->Bool}{n i:Nat}(h:firstOf p n=some i):i<n∧p i=true∧∀ j,j<i->p j=false:=by
 unfold firstOf at h
 have h1:=List.mem_of_find?_eq_some h
 have h2:=List.find?_some h
 refine⟨List.mem_range.1 h1,h2,fun j hj=>?_⟩
 by_cases hp:p j=true
 ·exfalso
  obtain⟨m,rfl⟩:∃ m,n=i+m:=⟨n - i,by have:=List.mem_range.1 h1;omega⟩
  rw[List.range_add,List.find?_append] at h
  have h3:((List.range i).find? p).isSome=true:=by
   rw[List.find?_isSome];exact⟨j,List.mem_range.2 hj,hp⟩
  obtain⟨x,hx⟩:=Option.isSome_iff_exists.1 h3
  rw[hx] at h
  simp at h
  have:=List.mem_range.1 (List.mem_of_find?_eq_some hx)
  omega
 ·simpa using hp
theorem sf {L:List (Int×Int)}{i j:Nat}{c:Int×Int}(h:i<L.length):(L.set i c).getD j (0,0)=if j=i then c else L.getD j (0,0):=by
 rw[List.getD_eq_getElem?_getD,List.getElem?_set,List.getD_eq_getElem?_getD]
 by_cases e:i=j
 ·subst e;simp[h]
 ·rw[if_neg e,if_neg (fun q=>e q.symm)]
theorem eu {L:List (Int×Int)}{i:Nat}(h:i<L.length):L.getD i (0,0)∈L:=by
 rw[List.getD_eq_getElem?_getD,List.getElem?_eq_getElem h];exact List.getElem_mem h
theorem TbW.set {L:List (Int×Int)}(h:TbW L)(i:Nat){c:Int×Int}(h1:c.1=0∨c.1=1∨c.1=2)(h2:1≤c.2∧c.2≤4294967295):TbW (L.set i c):=
 ⟨by rw[List.length_set];exact h.hi,fun x hx=>by rcases List.mem_or_eq_of_mem_set hx with h'|rfl;exact h.st x h';exact h1,
  fun x hx=>by rcases List.mem_or_eq_of_mem_set hx with h'|rfl;exact h.gn x h';exact h2⟩
theorem TbW.rep {n:Nat}{f:Int}(h:n≤256)(hf:1≤f∧f≤4294967295):TbW (List.replicate n (0,f)):=
 ⟨by simpa using h,fun x hx=>by rw[(List.mem_replicate.1 hx).2];simp,fun x hx=>by rw[(List.mem_replicate.1 hx).2];exact hf⟩
theorem rv {st:Int}{L:List (Int×Int)}{k:Nat}(h:cJ st L k=true):eN st L (k+1)=eN st L k+1:=by
 unfold eN;rw[Sv h,List.length_append];rfl
theorem tr {st:Int}{L:List (Int×Int)}{k:Nat}(h:cJ st L k=false):eN st L (k+1)=eN st L k:=by
 unfold eN;rw[eS h]
theorem tu (st:Int)(L:List (Int×Int))(k:Nat):eN st L k≤k:=e9 _ _
open Go Go.Mm
variable {L:List (Int×Int)}
theorem ig {s g:Int}(h:iN (some L) s g=0):∃ i:Nat,s=i∧i<L.length∧L.getD i (0,0)=(1,g):=by
 simp only[iN] at h
 by_cases h0:0<L.length
 ·rw[if_pos h0] at h
  by_cases h1:g7 L s=true
  ·obtain⟨i,rfl,hi,_⟩:=u3 h1
   rw[h1,if_pos rfl,Int.toNat_natCast] at h
   by_cases h2:L.getD i (0,0)=(1,g)
   ·exact⟨i,rfl,hi,h2⟩
   ·rw[if_neg h2] at h;cases h
  ·rw[if_neg h1] at h;cases h
 ·rw[if_neg h0] at h;cases h
theorem zl {i:Nat}(hi:i<L.length)(g:Int):iN (some L) i g=if L.getD i (0,0)=(1,g) then 0 else 7:=by
 have h1:g7 L i=true:=by simp[g7];omega
 have h0:0<L.length:=by omega
 simp only[iN,if_pos h0,h1,if_true,Int.toNat_natCast]
theorem vw {s:Int}(h0:0<L.length)(h:s<0∨(L.length:Int)≤s)(g:Int):iN (some L) s g=3:=by
 have h1:g7 L s=false:=by
  rw[← Bool.not_eq_true];simp only[g7,Bool.and_eq_true,decide_eq_true_eq];omega
 simp only[iN,if_pos h0,h1];rfl
def Cp (L:List (Int×Int))(give:Bool)(wh:Nat):List (Int×Int):=
 if give then (if (v8 (some L)).length=0 then L else xW L ((v8 (some L)).getD (wh % (v8 (some L)).length) (0,0)).1 ((v8 (some L)).getD (wh % (v8 (some L)).length) (0,0)).2) else vO L
def Cr (L:List (Int×Int))(give:Bool):List (Int×Int):=if give then [] else if jx (some L)=0 then [(kC (some L),kD (some L))] else []
def Ki (L0:List (Int×Int))(gv:Nat->Bool)(wh:Nat->Nat):Nat->List (Int×Int)
 | 0=>L0
 | k+1=>Cp (Ki L0 gv wh k) (gv k) (wh k)
def Om (L0:List (Int×Int))(gv:Nat->Bool)(wh:Nat->Nat):Nat->List (Int×Int)
 | 0=>[]
 | k+1=>Om L0 gv wh k++Cr (Ki L0 gv wh k) (gv k)
theorem lk {i:Nat}(h:v9 (some L)=some i):jx (some L)=0∧kC (some L)=i∧kD (some L)=(L.getD i (0,0)).2∧vO L=L.set i (1,(L.getD i (0,0)).2)∧i<L.length∧(L.getD i (0,0)).1=0∧∀ j,j<i->(L.getD j (0,0)).1≠0:=by
 have hf:firstOf (cJ 0 L) L.length=some i:=h
 obtain⟨h1,h2,h3⟩:=ic hf
 refine⟨?_,?_,?_,?_,h1,by simpa [cJ] using h2,fun j hj=>by have:=h3 j hj;simpa [cJ] using this⟩
 ·unfold jx;rw[h];simp[fe,show 0<L.length by omega]
 ·unfold kC;rw[h];rfl
 ·simp only[kD,hf]
 ·unfold vO;rw[hf]
theorem pO (h0:0<L.length)(h:v9 (some L)=none):jx (some L)=4∧kC (some L)=0∧kD (some L)=0∧vO L=L:=by
 have hf:firstOf (cJ 0 L) L.length=none:=h
 refine⟨?_,?_,?_,?_⟩
 ·unfold jx;rw[h];simp[fe,h0]
 ·unfold kC;rw[h];rfl
 ·simp only[kD,hf]
 ·unfold vO;rw[hf]
structure MdInv (L A:List (Int×Int)):Prop where
 old:∀ r∈A,∃ i:Nat,i<L.length∧r.1=i∧(r.2<(L.getD i (0,0)).2∨(r.2=(L.getD i (0,0)).2∧(L.getD i (0,0)).1≠0))
 nd:A.Nodup
open Go.RowKit Go.Mm
variable {R:Ending->World->Prop}{w:World}{w0:World}{bs:List Nat}{H H' H1 E:List Ent}
instance yV:ScalarT prog 3:=⟨by kernel_rfl,by kernel_rfl⟩
instance z4:ScalarT prog 4:=⟨by kernel_rfl,by kernel_rfl⟩
instance CN:ScalarT prog 26:=⟨by kernel_rfl,by kernel_rfl⟩
instance vM:AggT prog 176 2:=⟨by kernel_rfl,by kernel_rfl⟩
instance HJ:ZeroT prog 176 #[.int .i64 0,.int .u32 0]:=⟨by kernel_rfl⟩
instance e_ref:ElemT prog 176 2 16 #[.int .i64 0,.int .u32 0]:=⟨by kernel_rfl⟩
instance FZ:SliceT prog 345 176:=⟨by kernel_rfl⟩
def dE (x:Int×Int):List Value:=[.int .i64 x.1,.int .u32 x.2]
theorem aW (x:Int×Int):(dE x).length=2:=rfl
theorem gM (x:Int×Int):∀ v∈dE x,v.oneCell'=true:=by
 intro v hv
 simp only[dE,List.mem_cons,List.not_mem_nil,or_false] at hv
 rcases hv with rfl|rfl <;> rfl
instance F4:ScalarT prog 345:=⟨by kernel_rfl,by kernel_rfl⟩
instance Fz:ZeroT prog 345 #[.slice none 0 0]:=⟨by kernel_rfl⟩
instance Iw:ScalarT prog 31:=⟨by kernel_rfl,by kernel_rfl⟩
instance HM:ZeroT prog 31 #[.int .i64 0]:=⟨by kernel_rfl⟩
instance LK {s g:Int} : BuildT prog 176 [(0,.int .i64 s),(1,.int .u32 g)] #[.int .i64 s,.int .u32 g]:=⟨fun w=>by kernel_rfl⟩
instance Hm:BuildT prog 176 [] #[.int .i64 0,.int .u32 0]:=⟨fun w=>by kernel_rfl⟩
theorem ae {f: Nat}  (h: (match prog.funcs[f]? with | some fn => !(fn.name == "runtime.NumGoroutine") && fn.body.isSome | none => false) = true:=by kernel_rfl): ∀ args w, (callFunc f args).run prog w = .ok (.enter f args) w := by
 intro args w
 cases hf:prog.funcs[f]? with
 | none=>simp[hf] at h
 | some fn=>
  simp only[hf,Bool.and_eq_true,Bool.not_eq_true'] at h
  cases hb:fn.body with
  | none=>simp[hb] at h
  | some c=>have:=h.1;simp at this;simp[callFunc,hf,this,hb]
theorem iK {g:Int}(h1:1≤g)(h2:g≤4294967295)(hR:ab R (.int .i64 0) w):Calls prog 49 #[.int .u32 g] w R:=by
 go_enter func49,ntmps49
 go_wp2
 exact hR
theorem gt (hR:ab R (.int .i64 2) w):Calls prog 49 #[.int .u32 0] w R:=by
 go_enter func49,ntmps49
 go_wp2
 exact hR
def RS (v:Value)(l:List (Int×Int))(E:List Ent):Prop:=Sl 176 2 v l.length (l.flatMap dE) E
theorem RS.nil:RS (.slice none 0 0) [] []:=fu
theorem RS.snoc {v:Value}{l:List (Int×Int)}{x:Int×Int}(h:Sl 176 2 v (l.length+1) (l.flatMap dE++#[.int .i64 x.1,.int .u32 x.2].toList) E):RS v (l++[x]) E:=by
 unfold RS
 rw[List.length_append,List.flatMap_append]
 simpa [dE] using h
def cd (s g s' g' : Int):Bool:=decide (s=s') && decide (g=g')
theorem refB_iff {x y:Int×Int} : cd x.1 x.2 y.1 y.2=true↔x=y:=by
 simp[cd,Prod.ext_iff]
theorem rG {s g:Int}:cd s g s g=true:=by simp [cd]
theorem lD {x y:Int×Int}(h:x≠y):cd x.1 x.2 y.1 y.2=false:=by
 rw[← Bool.not_eq_true,refB_iff];exact h
instance Lz {a b:Int} : CellEq prog 3 (.int .i64 a) (.int .i64 b) (decide (a=b)):=fb underlying3 yV
instance Ly {a b:Int} : CellEq prog 26 (.int .u32 a) (.int .u32 b) (decide (a=b)):=fb underlying26 CN
instance Ag {s g s' g' : Int} : AggEq prog 176 #[.int .i64 s,.int .u32 g] #[.int .i64 s',.int .u32 g'] (cd s g s' g'):=by
 have h:=fN (P:=prog) (t:=176) [(3,0),(26,1)] (xs:=#[.int .i64 s,.int .u32 g]) (ys:=#[.int .i64 s',.int .u32 g'])
 simpa [cd] using h
theorem gp {s g s' g' : Int}{b:Bool}(h:cd s g s' g'=b):AggEq prog 176 #[.int .i64 s,.int .u32 g] #[.int .i64 s',.int .u32 g'] b:=by subst h;exact Ag
theorem RS.len {v:Value}{l:List (Int×Int)}(h:RS v l E){n:Nat}(hn:l.length=n):LenV prog 345 v n:=by
 subst hn
 refine⟨?_,176,underlying345⟩
 rcases h.or with ⟨rfl,h0,_⟩|⟨g,cap,sp,rfl,_⟩
 ·exact⟨none,0,by rw[h0]⟩
 ·exact⟨_,cap,rfl⟩
theorem RS.at {v:Value}{l:List (Int×Int)}(h:RS v l E){i:Nat}(hi:i<l.length){x:Int×Int}(hx:l.getD i (0,0)=x) :
  ∃ g sp,(∀ j:Int,j=i->IdxV prog 345 v j ⟨g,i * 2,none⟩)∧Has E g (cX [] dE l sp) 176∧CellsAt (cX [] dE l sp) (i * 2) 2 #[.int .i64 x.1,.int .u32 x.2]:=by
 subst hx
 obtain⟨g,cap,sp,rfl,rfl,h1,h2,h3⟩:=Sl.some h (by omega)
 refine⟨g,sp,fun j hj=>⟨fun w=>?_⟩,lV,?_⟩
 ·subst hj
  have h2:0≤(i:Int):=by omega
  simp[Instr.indexAt,asIntOf,run_underlying underlying345,hi,aU (P:=prog) (t:=176) (n:=2) (by kernel_rfl),Addr.add_lit]
 ·refine cK (pre:=[]) aW (i:=i) (a:=l.getD i (0,0)) ?_ (by simp)
  rw[List.getD_eq_getElem?_getD,List.getElem?_eq_getElem hi];rfl
theorem RS.one {v:Value}{l:List (Int×Int)}(h:RS v l E):OneCell v:=Sl.one h
def ro (E:List Ent):List Ent:=E.map (fun e=>{ e with wr:=false })
theorem tV {W:World}{E:List Ent}(hE:∀ e∈E,W.heap[e.b]?=some (.cells e.cs e.T (0,0)))(hnd:E.Pairwise (fun x y=>x.b≠y.b)):St W [] W (ro E):=by
 refine St.start (fun e he=>?_) ?_ (fun e he hw=>?_)
 ·obtain⟨x,hx,rfl⟩:=List.mem_map.1 he
  exact hE x hx
 ·unfold ro
  rw[List.pairwise_map]
  exact hnd
 ·obtain⟨x,hx,rfl⟩:=List.mem_map.1 he
  cases hw
theorem eR {bs:List Nat}{w w' : World}(h:Chg w w' [])(hb:∀ x∈bs,x<w.heap.size):Kept bs w w':=fun x hx=>h.same x (hb x hx) (by simp)
theorem ji {x:Nat}{w w' : World}(h:w'.heap[x]?=w.heap[x]?)(hb:x<w.heap.size):x<w'.heap.size:=by
 rw[Array.getElem?_eq_getElem hb] at h
 exact(Array.getElem?_eq_some_iff.1 h).1
open Go.RowKit Go.Mm
variable {R:Ending->World->Prop}{w:World}{w0:World}{bs:List Nat}{H H' H1 E:List Ent}{L X:List (Int×Int)}{b:Nat}{n:Int}
instance HB:AggT prog 236 2:=⟨by kernel_rfl,by kernel_rfl⟩
instance FA:ZeroT prog 236 #[.int .i64 0,.int .u32 0]:=⟨by kernel_rfl⟩
def fC (L:List (Int×Int)):List (Int×Int):=L++List.replicate (256 - L.length) (0,0)
theorem mZ (h:L.length≤256):(fC L).length=256:=by simp [fC];omega
theorem fB {i:Nat}(h:i<L.length):(fC L)[i]?=some (L.getD i (0,0)):=by
 simp[fC,List.getElem?_append_left h,h]
theorem jP {i:Nat}(h:i<L.length)(c:Int×Int):(fC L).set i c=fC (L.set i c):=by
 simp[fC,List.set_append_left _ _ h]
def dG (n:Int)(X:List (Int×Int)):Array Value:=cX [.int .i64 n] dE X []
instance Mo:CellAt (dG n X) 0 (.int .i64 n):=cz rfl
def sM:List (Int×Int):=List.replicate 256 (0,0)
instance LJ {n:Int} : BuildT prog 239 [(0,.int .i64 n)] (dG n sM):=⟨fun w=>by kernel_rfl⟩
instance HG:ZeroT prog 239 (dG 0 sM):=⟨by kernel_rfl⟩
instance L6:AggT prog 239 513:=⟨by kernel_rfl,by kernel_rfl⟩
theorem ll {i:Nat}{x:Int×Int}(h:X[i]?=some x):CellsAt (dG n X) (1+i * 2) 2 #[.int .i64 x.1,.int .u32 x.2]:=cK aW h rfl
theorem iR {i:Nat}{x:Int×Int}(h:X[i]?=some x)(s:Int):SetAt (dG n X) (1+i * 2) (.int .i64 s) (dG n (X.set i (s,x.2))):=iO aW (j:=0) h (by decide) rfl rfl
theorem rn {i:Nat}{x:Int×Int}(h:X[i]?=some x)(g:Int):SetAt (dG n X) (1+i * 2+1) (.int .u32 g) (dG n (X.set i (x.1,g))):=iO aW (j:=1) h (by decide) rfl rfl
theorem oG {i:Nat}(h:i<X.length)(s g:Int):SetsAt (dG n X) (1+i * 2) #[.int .i64 s,.int .u32 g] (dG n (X.set i (s,g))):=fX aW (a':=(s,g)) h rfl
theorem zH (h:X.length=256):CellsAt (dG n X) 0 513 (dG n X):=kw aW (by rw [h];rfl)
theorem wn:OneCells (dG n X):=fY (by simp [Value.oneCell']) gM (by simp)
theorem wk (h:X.length=256):SizeIs (dG n X) 513:=ij aW (by rw [h];rfl)
theorem wm {m:Int}{Y:List (Int×Int)}(h:X.length=256)(h' : Y.length=256):SetsAt (dG n X) 0 (dG m Y) (dG m Y):=ik aW (by rw [dG,co aW,h,h'];rfl)
def TA (p:Option Addr)(T:Tb)(E:List Ent):Prop:=
 match T with
 | none=>p=none∧E=[]
 | some L=>TbW L∧∃ b,p=some ⟨b,0,none⟩∧E=[⟨b,dG L.length (fC L),239,true⟩]
theorem TA.none:TA none none []:=⟨rfl,rfl⟩
abbrev zq (w:World)(b:Nat)(n:Int)(X:List (Int×Int)):Prop:=w.heap[b]?=some (.cells (dG n X) 239 (0,0))
theorem eL (hR:ab R (.bool false) w):Calls prog 195 #[.pointer none] w R:=by
 go_enter func195,ntmps195
 go_wp2
 exact hR
theorem cF (hP:zq w b n X)(v:Bool)(hv:decide (0<n)=v)(hR:ab R (.bool v) w):Calls prog 195 #[.pointer (some ⟨b,0,none⟩)] w R:=by
 subst hv
 have hS:St w [] w [⟨b,dG n X,239,false⟩]:=St.start1 hP (by simp)
 clear hP
 go_enter func195,ntmps195
 go_wp2_with (refine af rfl hS ?_)
 exact hR
theorem iv (hO:St w0 bs w H)(z f:Int)(hf:0≤f∧f≤4294967295)(hR:∀ p' E' w',TA p' (ni z f) E'->St w0 bs w' (E'++H)->ab R (.tuple #[.pointer p',.int .i64 (kF z f)]) w') :
  Calls prog 48 #[.int .i64 z,.int .u32 f] w R:=by
 have hS:=hO
 by_cases h1:z<1
 ·have e:cO z f=false:=by simp[cO];omega
  unfold ni kF at hR
  rw[e] at hR
  have q1:decide (z<1)=true:=by simpa using h1
  go_enter func48,ntmps48
  go_wp2
  exact hR none [] w TA.none hS
 have q1:decide (z<1)=false:=by simpa using h1
 by_cases h2:256<z
 ·have e:cO z f=false:=by simp[cO];omega
  unfold ni kF at hR
  rw[e] at hR
  have q2:decide (256<z)=true:=by simpa using h2
  go_enter func48,ntmps48
  go_wp2
  exact hR none [] w TA.none hS
 have q2:decide (256<z)=false:=by simpa using h2
 by_cases h3:f=0
 ·subst h3
  have e:cO z 0=false:=by simp[cO]
  unfold ni kF at hR
  rw[e] at hR
  go_enter func48,ntmps48
  go_wp2_with (go_at_call 49;refine gt ?_;unfold ab)
  exact hR none [] w TA.none hS
 obtain⟨m,rfl⟩:=Int.eq_ofNat_of_zero_le (show 0≤z by omega)
 have e:cO m f=true:=by simp only[cO,Bool.and_eq_true,decide_eq_true_eq];omega
 unfold ni kF at hR
 rw[e] at hR
 simp only[if_true,Int.toNat_natCast] at hR
 have hf1:1≤f:=by omega
 have hf2:=hf.2
 have hm:m≤256:=by omega
 clear hf h3 e
 go_enter func48,ntmps48
 go_wp2_with (first|go_at_call 49;refine iK hf1 hf2 ?_;unfold ab|refine aL rfl ?_|refine am _ rfl hS ?_;clear hS;intro bN w hbN hS)
 go_loopw [23,7] (fun u _ wr=>∃ k:Nat,k≤m∧u=.int .i64 k∧St w0 bs wr (⟨bN,dG m (List.replicate k (0,f)++List.replicate (256 - k) (0,0)),239,true⟩::H)) (fun u _ _=>m - (intOf u).toNat)
 case atStart=>exact⟨0,Nat.zero_le _,rfl,hS⟩
 case round=>
  clear hS
  obtain⟨k,hk,rfl,hS⟩:=hrel
  by_cases hlt:k<m
  ·have hx:(List.replicate k ((0:Int),f)++List.replicate (256 - k) (0,0))[k]?=some (0,0):=by
    rw[List.getElem?_append_right (by simp),List.length_replicate,Nat.sub_self,List.getElem?_replicate,if_pos (by omega)]
   have hset:=rn (n:=m) hx f
   have e:(List.replicate k ((0:Int),f)++List.replicate (256 - k) (0,0)).set k (0,f)=List.replicate (k+1) (0,f)++List.replicate (256 - (k+1)) (0,0):=by
    rw[List.set_append_right _ _ (by simp),List.length_replicate,Nat.sub_self,show 256 - k=(256 - (k+1))+1 by omega,List.replicate_succ,List.set_cons_zero,List.replicate_succ' (n:=k)]
    simp
   have h256:(k:Int)<256:=by omega
   rw[show((0:Int),(0:Int)).1=0 from rfl,e] at hset
   clear hx e
   go_wp2_with ((refine bP rfl hS ?_);clear hS;intro w hS)
   go_roundw
   case rel=>exact⟨k+1,by omega,by go_num,hS⟩
   case measure=>simp[intOf];omega
  ·obtain rfl:k=m:=by omega
   go_wp2_with (go_skip)
   refine hR _ _ _ ⟨TbW.rep hm ⟨hf1,hf2⟩,bN,rfl,rfl⟩ ?_
   simpa [fC] using hS
theorem fw {p:Option Addr}{T:Tb}(hO:St w0 bs w H)(hT:TA p T E)[hc:Cut H E H1](s g:Int)
  (hR:∀ w',TA p T E->St w0 bs w' (E++H1)->ab R (.int .i64 (iN T s g)) w'):Calls prog 269 #[.pointer p,.agg #[.int .i64 s,.int .u32 g]] w R:=by
 have hS:=hO.fr E H1
 clear hO
 rcases T with _|L
 ·obtain⟨rfl,rfl⟩:=hT
  simp only[List.nil_append] at hS
  go_enter func269,ntmps269
  go_wp2_with (first|go_at_call 195;refine eL ?_;unfold ab|refine am _ rfl hS ?_;clear hS;intro bN w hbN hS)
  exact hR _ TA.none hS.p
 obtain⟨hW,b,rfl,rfl⟩:=hT
 simp only[cq] at hS
 have hR:=fun w'=>hR w' ⟨hW,b,rfl,rfl⟩
 by_cases hl:0<L.length
 ·have hval:decide ((0:Int)<L.length)=true:=by simpa using hl
  by_cases hin:g7 L s=true
  ·obtain⟨i,rfl,hi,_⟩:=u3 hin
   have hb:=ll (n:=L.length) (fB hi)
   obtain⟨⟨st,gn⟩,hx⟩:∃ x,L.getD i (0,0)=x:=⟨_,rfl⟩
   simp only[iN,if_pos hl,hin,if_true,Int.toNat_natCast,hx] at hR
   rw[hx] at hb
   simp only at hb
   have hiI:(i:Int)<L.length:=by omega
   have h256:(i:Int)<256:=by have:=hW.hi;omega
   have q1:decide ((i:Int)<0)=false:=by simp
   have q2:decide ((L.length:Int)≤i)=false:=by simp;omega
   have hl':=HD hl
   clear hx hin hl
   by_cases h1:st=1
   ·subst h1
    by_cases h2:gn=g
    ·subst h2
     simp only[if_true] at hR
     go_enter func269,ntmps269
     go_wp2_with (first|go_at_call 195;refine cF (hS.has inferInstance) _ hval ?_;unfold ab|refine am _ rfl hS ?_;clear hS;intro bN w hbN hS|refine av hS (fun hne=>?_);(repeat (go_big_quiet_want;first|((first|refine aE bk (fun w hS=>ac _ _ rfl hS) ?_|refine aE bk (fun w hS=>ai _ _ rfl hS) ?_);go_big_quiet_on)|(go_big_quiet_op;go_big_quiet_on)));refine wpQuiet_nil ?_;clear hS hne;intro w hS)
     exact hR _ hS.p
    ·have q3:(gn == g)=false:=by simpa using h2
     simp only[Prod.mk.injEq,true_and,if_neg h2] at hR
     go_enter func269,ntmps269
     go_wp2_with (first|go_at_call 195;refine cF (hS.has inferInstance) _ hval ?_;unfold ab|refine am _ rfl hS ?_;clear hS;intro bN w hbN hS|refine av hS (fun hne=>?_);(repeat (go_big_quiet_want;first|((first|refine aE bk (fun w hS=>ac _ _ rfl hS) ?_|refine aE bk (fun w hS=>ai _ _ rfl hS) ?_);go_big_quiet_on)|(go_big_quiet_op;go_big_quiet_on)));refine wpQuiet_nil ?_;clear hS hne;intro w hS)
     exact hR _ hS.p
   ·have q3:(st == 1)=false:=by simpa using h1
    simp only[Prod.mk.injEq,h1,false_and,if_false] at hR
    go_enter func269,ntmps269
    go_wp2_with (first|go_at_call 195;refine cF (hS.has inferInstance) _ hval ?_;unfold ab|refine am _ rfl hS ?_;clear hS;intro bN w hbN hS|refine av hS (fun hne=>?_);(repeat (go_big_quiet_want;first|((first|refine aE bk (fun w hS=>ac _ _ rfl hS) ?_|refine aE bk (fun w hS=>ai _ _ rfl hS) ?_);go_big_quiet_on)|(go_big_quiet_op;go_big_quiet_on)));refine wpQuiet_nil ?_;clear hS hne;intro w hS)
    exact hR _ hS.p
  ·simp only[iN,if_pos hl,hin,Bool.false_eq_true,if_false] at hR
   have hr:=Dr (by simpa using hin)
   clear hin hl
   by_cases h0:s<0
   ·have q1:decide (s<0)=true:=by simpa using h0
    go_enter func269,ntmps269
    go_wp2_with (first|go_at_call 195;refine cF (hS.has inferInstance) _ hval ?_;unfold ab|refine am _ rfl hS ?_;clear hS;intro bN w hbN hS|refine av hS (fun hne=>?_);(repeat (first|go_big_quiet_skip|(go_big_quiet_want;first|((refine aE bk (fun w hS=>ac _ _ rfl hS) ?_);go_big_quiet_on)|(go_big_quiet_op;go_big_quiet_on))));refine wpQuiet_nil ?_;clear hS hne;intro w hS)
    exact hR _ hS.p
   ·have q1:decide (s<0)=false:=by simpa using h0
    have q2:decide ((L.length:Int)≤s)=true:=by simp;omega
    go_enter func269,ntmps269
    go_wp2_with (first|go_at_call 195;refine cF (hS.has inferInstance) _ hval ?_;unfold ab|refine am _ rfl hS ?_;clear hS;intro bN w hbN hS|refine av hS (fun hne=>?_);(repeat (go_big_quiet_want;first|((refine aE bk (fun w hS=>ac _ _ rfl hS) ?_);go_big_quiet_on)|(go_big_quiet_op;go_big_quiet_on)));refine wpQuiet_nil ?_;clear hS hne;intro w hS)
    exact hR _ hS.p
 ·have hval:decide ((0:Int)<L.length)=false:=by simpa using hl
  simp only[iN,if_neg hl] at hR
  clear hl
  go_enter func269,ntmps269
  go_wp2_with (first|go_at_call 195;refine cF (hS.has inferInstance) _ hval ?_;unfold ab|refine am _ rfl hS ?_;clear hS;intro bN w hbN hS)
  exact hR _ hS.p
theorem gN {p:Option Addr}{T:Tb}(hO:St w0 bs w H)(hT:TA p T E)[hc:Cut H E H1]
  (hR:∀ p' E' w',TA p' (sL T) E'->TA p T E->St w0 bs w' (E'++(E++H1))->ab R (.pointer p') w'):Calls prog 136 #[.pointer p] w R:=by
 have hS:=hO.fr E H1
 clear hO
 rcases T with _|L
 ·obtain⟨rfl,rfl⟩:=hT
  simp only[List.nil_append] at hS
  go_enter func136,ntmps136
  go_wp2_with (go_at_call 195;refine eL ?_;unfold ab)
  exact hR none [] _ TA.none TA.none hS
 obtain⟨hW,b,rfl,rfl⟩:=hT
 simp only[cq] at hS
 have hR:=fun p' E' w' h=>hR p' E' w' h ⟨hW,b,rfl,rfl⟩
 by_cases hl:0<L.length
 ·have hval:decide ((0:Int)<L.length)=true:=by simpa using hl
  have e:fe (some L)=true:=by simp[fe,hl]
  simp only[sL,e,if_true] at hR
  have h256:=mZ hW.hi
  have i1:=zH (n:=L.length) h256
  have i2:=wm (n:=0) (m:=L.length) (X:=sM) (Y:=fC L) rfl h256
  have i3:=wn (n:=L.length) (X:=fC L)
  have i4:=wk (n:=L.length) h256
  clear hl e h256
  go_enter func136,ntmps136
  go_wp2_with (first|go_at_call 195;refine cF (hS.has inferInstance) _ hval ?_;unfold ab|refine au rfl hS ?_|refine ak rfl hS ?_;clear hS;intro w hS|refine aq _ rfl hS ?_;clear hS;intro bN w hbN hS)
  exact hR _ _ _ ⟨hW,_,rfl,rfl⟩ hS
 ·have hval:decide ((0:Int)<L.length)=false:=by simpa using hl
  have e:fe (some L)=false:=by simp[fe,hl]
  simp only[sL,e,Bool.false_eq_true,if_false] at hR
  clear hl e
  go_enter func136,ntmps136
  go_wp2_with (go_at_call 195;refine cF (hS.has inferInstance) _ hval ?_;unfold ab)
  exact hR none [] _ TA.none hS
end Go.Proofs.YtnbgljbhkeffkaaGreatDoor
namespace Go.Mm
open Go Go.RowKit
section
variable {P:Program}{o:Oper}{a:Act}{w:World}
theorem gG {F:Fence}{n:Nat}{ops:Array Oper}{rest:List Oper}{Q:Exit->Act->World->Prop}{a' : Act}(hF:∀ f,F.fn f)(hg:o.guard.isSome=true)(hw:Region.wanted o (yielded ops a.tmps)=false)[hp:Put a o.dst undef a'](h:wpListIn F n P ops Q rest a' w):wpListIn F n P ops Q (o::rest) a w:=by
 unfold wpListIn
 rw[if_neg (by rw[hw];simp),hp.h]
 exact⟨fun f _=>hF f,h⟩
class IdxA (P:Program)(t:TypeId)(cs:Array Value)(i:Int)(v:outParam Value):Prop where
 h:∀ w,(Instr.index t (.agg cs) (.int .i64 i)).run P w=.ok v w
theorem qe {t:TypeId}{x y:Operand}(ho:o.op=.index t x y){cs:Array Value}{i:Int}{v:Value}[hx:Ev a x (.agg cs)][hy:Ev a y (.int .i64 i)][hp:IdxA P t cs i v] : ay P o a w v:=by
 unfold ay
 simp only[execOp,ho,hx.h,hy.h,Sem.run_bind,hp.h,Result.andThen_ok,Sem.run_pure]
theorem eX {t:TypeId}{n:Nat}(ht:AggT P t n){cs vs:Array Value}{off:Nat}(h:CellsAt cs off n vs)(w:World):(part t cs off).run P w=.ok (.agg vs) w:=by
 have e:cs.extract off (off+n)=vs:=by
  apply Array.ext_getElem?
  intro j
  rw[Array.getElem?_extract]
  by_cases hj:j<n
  ·have h1:=h.h j hj
   have hs:j<vs.size:=by rw[h.s];exact hj
   have hc:off+j<cs.size:=by
    rcases Nat.lt_or_ge (off+j) cs.size with h'|h'
    ·exact h'
    ·rw[Array.getElem?_eq_none h',Array.getElem?_eq_getElem hs] at h1;cases h1
   rw[if_pos (by omega),h1]
  ·rw[if_neg (by omega),Array.getElem?_eq_none (by rw[h.s];omega)]
 simp only[part,Sem.run_bind,ht.run,Result.andThen_ok,if_true,aU ht.s,Sem.run_pure,e]
theorem vb {t e:TypeId}{m z:Nat}(ha:AggT P e z){cs vs:Array Value}{i:Nat}(hi:i<m)(h:CellsAt cs (i * z) z vs)(ht:P.underlying t=some (.array m e):=by kernel_rfl):IdxA P t cs i (.agg vs):=⟨fun w=>by
 have h2:0≤(i:Int):=by omega
 simp[Instr.index,asIntOf,run_underlying ht,hi,aU ha.s,eX ha h]⟩
end
end Go.Mm
namespace Go.Proofs.YtnbgljbhkeffkaaGreatDoor
open Go.RowKit Go.Mm
attribute [local go_sem] Oper.semAt_some
variable {R:Ending->World->Prop}{w:World}{w0:World}{bs:List Nat}{H H' H1 E:List Ent}
def f8 (r:Int×Int):Bool:=!cd r.1 r.2 0 0
def fc (r:Int×Int):Bool:=f8 r && (decide (r.1<0) || decide (256≤r.1) || decide (r.2<1))
def ib (F:List (Int×Int))(i:Nat):Bool:=f8 (F.getD i (0,0))
def fi (n:Int)(F:List (Int×Int))(i:Nat):Bool:=decide (n≤i) || fc (F.getD i (0,0))
def qs (n:Int)(F:List (Int×Int))(h:Bool):Bool:=decide (0≤n) && decide (n≤4) && !(h && decide (0<n)) && (gl (ib F) 4).all (fun i=>!fi n F i)
def vy (n:Int)(F:List (Int×Int))(h:Bool):Int:=if qs n F h then 0 else 2
def aN (n:Int)(F:List (Int×Int))(h:Bool):Array Value:=cX [.int .i64 n] dE F [.bool h]
def nE (F:List (Int×Int)):Array Value:=cX [] dE F []
section
variable {n:Int}{F:List (Int×Int)}{h:Bool}
instance NY:CellAt (aN n F h) 0 (.int .i64 n):=cz rfl
theorem GJ (hF:F.length=4):CellsAt (aN n F h) 1 8 (nE F):=by
 obtain⟨a,b,c,d,rfl⟩:∃ a b c d,F=[a,b,c,d]:=by
  match F,hF with
  | [a,b,c,d],_=>exact⟨a,b,c,d,rfl⟩
 exact inferInstanceAs (CellsAt (List.toArray [.int .i64 n,.int .i64 a.1,.int .u32 a.2,.int .i64 b.1,.int .u32 b.2,.int .i64 c.1,.int .u32 c.2,.int .i64 d.1,.int .u32 d.2,.bool h]) 1 8 #[.int .i64 a.1,.int .u32 a.2,.int .i64 b.1,.int .u32 b.2,.int .i64 c.1,.int .u32 c.2,.int .i64 d.1,.int .u32 d.2])
theorem C6 (hF:F.length=4):CellAt (aN n F h) 9 (.bool h):=by
 obtain⟨a,b,c,d,rfl⟩:∃ a b c d,F=[a,b,c,d]:=by
  match F,hF with
  | [a,b,c,d],_=>exact⟨a,b,c,d,rfl⟩
 exact⟨rfl⟩
theorem dr (hF:F.length=4):CellsAt (aN n F h) 0 10 (aN n F h):=kw aW (by rw [hF];rfl)
end
instance L8:AggT prog 195 10:=⟨by kernel_rfl,by kernel_rfl⟩
instance L9:AggT prog 193 8:=⟨by kernel_rfl,by kernel_rfl⟩
theorem ed {s g:Int}(hg:0≤g∧g≤4294967295)(b:Bool)(hb:fc (s,g)=b)(hR:∀ w',Chg w w' []->ab R (.bool b) w'):Calls prog 265 #[.agg #[.int .i64 s,.int .u32 g]] w R:=by
 have hS:St w [] w []:=St.start0
 subst hb
 obtain⟨g0,g1⟩:=hg
 unfold fc f8 at hR
 simp only at hR
 cases hz:cd s g 0 0 with
 | true=>
  have hz':=gp hz
  rw[hz] at hR
  clear hz
  go_enter func265,ntmps265
  go_wp2_with (first|go_skip|refine wV (.binOp .neq _ _ _ _) rfl (bK rfl) ?_|refine aL rfl ?_|refine au rfl hS ?_|refine am _ rfl hS ?_;clear hS;intro bN w hbN hS)
  exact hR _ hS.chg
 | false=>
  have hz':=gp hz
  rw[hz] at hR
  by_cases h1:s<0
  ·have q1:decide (s<0)=true:=decide_eq_true h1
   rw[q1] at hR
   clear hz
   go_enter func265,ntmps265
   go_wp2_with (first|go_skip|refine wV (.binOp .neq _ _ _ _) rfl (bK rfl) ?_|refine aL rfl ?_|(first|refine af rfl hS ?_|refine au rfl hS ?_)|refine am _ rfl hS ?_;clear hS;intro bN w hbN hS)
   exact hR _ hS.chg
  ·have q1:decide (s<0)=false:=decide_eq_false h1
   by_cases h2:256≤s
   ·have q2:decide (256≤s)=true:=decide_eq_true h2
    rw[q1,q2] at hR
    clear hz
    go_enter func265,ntmps265
    go_wp2_with (first|go_skip|refine wV (.binOp .neq _ _ _ _) rfl (bK rfl) ?_|refine aL rfl ?_|(first|refine af rfl hS ?_|refine au rfl hS ?_)|refine am _ rfl hS ?_;clear hS;intro bN w hbN hS)
    exact hR _ hS.chg
   ·have q2:decide (256≤s)=false:=decide_eq_false h2
    by_cases h3:g<1
    ·obtain rfl:g=0:=by omega
     rw[q1,q2] at hR
     clear hz
     go_enter func265,ntmps265
     go_wp2_with (first|go_at_call 49;refine gt ?_;unfold ab|refine wV (.binOp .neq _ _ _ _) rfl (bK rfl) ?_|refine aL rfl ?_|(first|refine af rfl hS ?_|refine au rfl hS ?_)|refine am _ rfl hS ?_;clear hS;intro bN w hbN hS)
     exact hR _ hS.chg
    ·have q3:decide (g<1)=false:=decide_eq_false h3
     have h3' : 1≤g:=by omega
     rw[q1,q2,q3] at hR
     clear hz h3 q3
     go_enter func265,ntmps265
     go_wp2_with (first|go_at_call 49;refine iK h3' g1 ?_;unfold ab|refine wV (.binOp .neq _ _ _ _) rfl (bK rfl) ?_|refine aL rfl ?_|(first|refine af rfl hS ?_|refine au rfl hS ?_)|refine am _ rfl hS ?_;clear hS;intro bN w hbN hS)
     exact hR _ hS.chg
structure FdOf (F:List (Int×Int)) where
 i:Nat
 lt:i<4
 is:ib F i=true
theorem GV {F:List (Int×Int)}(hF:F.length=4){i:Nat}(hi:i<4){x:Int×Int}(hx:F.getD i (0,0)=x):IdxA prog 193 (nE F) i (.agg #[.int .i64 x.1,.int .u32 x.2]):=by
 subst hx
 refine vb (e:=176) vM hi (cK (pre:=[]) aW (i:=i) (a:=F.getD i (0,0)) ?_ (by simp))
 rw[List.getD_eq_getElem?_getD,List.getElem?_eq_getElem (by omega)];rfl
theorem gu {m:Nat}{n:Int}{F:List (Int×Int)}{hd:Bool}(hF4:F.length=4)(h1:1≤m)(bo:Nat){W:World}(hE:W.heap[bo]?=some (.cells (aN n F hd) 195 (0,0))) :
  SeqStopsK Fence.wide m prog 340 #[.pointer (some ⟨bo,0,none⟩)] (fun i:FdOf F=>#[.int .i64 (i.i:Nat),.agg #[.int .i64 (F.getD i.i (0,0)).1,.int .u32 (F.getD i.i (0,0)).2]]) (Kept [bo])
   (fun xs=>xs.map (·.i)=gl (ib F) 4) (fun pre=>∃ k,k<4∧ib F k=true∧pre.map (·.i)=gl (ib F) k++[k]) 5 W:=by
 intro l J Jx W1 hW hJ hJx hY h0
 have hF:=bY
 have hk:∀ W',Kept [bo] W1 W'->St W' [] W' [⟨bo,aN n F hd,195,false⟩]:=by
  intro W' hk
  refine St.start1 ?_ (by simp)
  rw[hk bo (by simp),hW.block bo (bG hE)]
  exact hE
 have hS:=hk W1 (fun _ _=>rfl)
 have hlt0:bo<W1.heap.size:=hS.lt (e:=⟨_,_,_,_⟩) (.head _)
 clear hE
 refine callsIn_of_wp func340 rfl trivial ?_ rfl
 simp only[ntmps340,List.size_toArray,List.length_cons,List.length_nil,Nat.reduceAdd,Nat.reduceSub,Array.replicate_succ,Array.replicate_zero,List.push_toArray,List.append_toArray,List.nil_append,List.cons_append]
 have hk':=HD hk
 have hY':=HD hY
 have hJ':=HD hJ
 have hlt':=HD hlt0
 have hobF:=GJ (n:=n) (h:=hd) hF4
 clear hk hJx hY hJ hW hlt0
 gi_wp2_with (refine aa hF rfl rfl (ar (ai _ _ rfl hS) ?_))
 gi_loopw [7] (fun v wr=>∃ (k:Nat) (xs:List (FdOf F)),k≤4∧v=.int .i64 k∧xs.map (·.i)=gl (ib F) k∧J xs wr∧Kept [bo] W1 wr) (fun v _=>4 - (intOf v).toNat)
 case atStart=>exact⟨0,[],Nat.zero_le _,rfl,rfl,hJ'.out _ _ _ none h0 (hS.chg.grown none) (fun r e=>by cases e),eR hS.chg (fun x hx=>by simp at hx;subst hx;exact hlt'.out)⟩
 case round=>
  clear hS
  obtain⟨k,xs,hkl,rfl,hxs,hJk,hkk⟩:=hrel
  have hxs':=HD hxs
  clear hxs
  have hS:=hk'.out wr hkk
  by_cases hlt:k<4
  ·obtain⟨⟨s,g⟩,hx⟩:∃ x,F.getD k (0,0)=x:=⟨_,rfl⟩
   have hix:=GV hF4 hlt hx
   simp only at hix
   have hltI:(k:Int)<4:=by omega
   cases hz:cd s g 0 0 with
   | false=>
    have hst:ib F k=true:=by unfold ib f8;rw[hx,hz];rfl
    have hgl:=HD (Sv hst)
    have q:=gp hz
    have hx':=HD hx
    have hst':=HD hst
    clear hx hst hz
    gi_wp2_with (first|refine aD (.binOp .neq _ _ _ _) rfl ?_;refine aa hF rfl rfl (ar (bK rfl) ?_)|refine aa hF rfl rfl (ar (qe rfl) ?_)|refine aa hF rfl rfl (ar (bQ _ _ rfl) ?_)|refine aa hF rfl rfl (ar (ai _ _ rfl hS) ?_)|refine aa hF rfl rfl (de _ _ _ rfl hS ?_);clear hS;intro w hS|refine aa hF rfl rfl (cg _ rfl hS ?_);clear hS;intro bN w hbN hS)
    have hJw:=hJ'.out _ _ _ none hJk (hS.chg.grown none) (fun r e=>by cases e)
    have hkw:=hkk.trans (eR (bs:=[bo]) hS.chg (fun x hx=>by have h2:=hkk x hx;simp at hx;subst hx;exact ji h2 hlt'.out))
    have hYw:=hY'.out xs ⟨k,hlt,hst'.out⟩ _ hJw (by have:=e9 (ib F) k;have h2:=congrArg List.length hxs'.out;rw[List.length_map] at h2;omega)
    simp only[hx'.out] at hYw
    obtain⟨fn,tmps,assign,body,hy,hRd⟩:=hYw
    rw[hy,Oper.uponIn_round]
    refine⟨fun _=>h1,hRd.mono ?_⟩
    rintro e W' (⟨rfl,hJ',hk'⟩|⟨rfl,hJx'⟩)
    ·gi_wp2
     go_roundw
     case rel=>exact⟨k+1,_,by omega,by go_num,by rw[hgl.out,List.map_append,hxs'.out];rfl,hJ',hkw.trans hk'⟩
     case measure=>simp[intOf];omega
    ·gi_wp2
     refine bodyPost_ret (results_none rfl _ _ _) rfl ?_
     exact⟨⟨_,rfl⟩,.inr ⟨_,⟨k,hlt,hst'.out,by rw[List.map_append,hxs'.out];rfl⟩,hJx'⟩⟩
   | true=>
    have hst:ib F k=false:=by unfold ib f8;rw[hx,hz];rfl
    have hgl:=HD (eS hst)
    have q:=gp hz
    clear hx hst hz
    gi_wp2_with (first|refine aD (.binOp .neq _ _ _ _) rfl ?_;refine aa hF rfl rfl (ar (bK rfl) ?_)|refine aa hF rfl rfl (ar (qe rfl) ?_)|refine aa hF rfl rfl (ar (bQ _ _ rfl) ?_)|refine aa hF rfl rfl (ar (ai _ _ rfl hS) ?_)|refine aa hF rfl rfl (de _ _ _ rfl hS ?_);clear hS;intro w hS|refine aa hF rfl rfl (cg _ rfl hS ?_);clear hS;intro bN w hbN hS)
    have hJw:=hJ'.out _ _ _ none hJk (hS.chg.grown none) (fun r e=>by cases e)
    have hkw:=hkk.trans (eR (bs:=[bo]) hS.chg (fun x hx=>by have h2:=hkk x hx;simp at hx;subst hx;exact ji h2 hlt'.out))
    go_roundw
    case rel=>exact⟨k+1,xs,by omega,by go_num,by rw[hgl.out,hxs'.out],hJw,hkw⟩
    case measure=>simp[intOf];omega
  ·obtain rfl:k=4:=by omega
   gi_wp2_with (refine aa hF rfl rfl (ar (bQ _ _ rfl) ?_))
   go_end0
   exact⟨⟨_,rfl⟩,.inl ⟨_,hxs'.out,hJk⟩⟩
theorem ke {W:World}{n:Int}{F:List (Int×Int)}{h:Bool}(hO:St w0 bs W H)
  (hR:∀ bo w',St w0 bs w' (⟨bo,aN n F h,195,true⟩::H)->ab R (.func (.func 340) #[] #[.pointer (some ⟨bo,0,none⟩)]) w') :
  Calls prog 264 #[.agg (aN n F h)] W R:=by
 have hS:=hO
 go_enter func264,ntmps264
 go_wp2_with ((refine am _ rfl hS ?_);clear hS;intro bN w hbN hS)
 exact hR _ _ hS
theorem eU {W:World}{n:Int}{F:List (Int×Int)}{h:Bool}(hF4:F.length=4)(hFg:∀ x∈F,0≤x.2∧x.2≤4294967295)(hO:St w0 bs W H)(hR:∀ w',St w0 bs w' H->ab R (.int .i64 (vy n F h)) w') :
  Calls prog 178 #[.agg (aN n F h)] W R:=by
 have hS:=hO
 clear hO
 have hobH:=C6 (n:=n) (h:=h) hF4
 have hobA:=dr (n:=n) (h:=h) hF4
 by_cases hn:0≤n∧n≤4∧¬ (h=true∧0<n)
 ·obtain⟨n0,n4,nh⟩:=hn
  have q1:decide (n<0)=false:=DF
  have q2:decide (4<n)=false:=DF
  have q3:h=true->decide (0<n)=false:=fun e=>decide_eq_false (fun q=>nh ⟨e,q⟩)
  have eok:qs n F h=(gl (ib F) 4).all (fun i=>!fi n F i):=by
   unfold qs
   rw[decide_eq_true n0,decide_eq_true n4]
   cases h with
   | false=>simp
   | true=>simp[q3 rfl]
  rw[vy,eok] at hR
  have q3':=HD q3
  clear eok q3 nh
  refine(callsIn_wide (n:=3)).1 ?_
  have hF:=bY
  refine callsIn_of_wp_marks func178 rfl trivial ?_ rfl
  simp only[ntmps178,List.size_toArray,List.length_cons,List.length_nil,Nat.reduceAdd,Nat.reduceSub,Array.replicate_succ,Array.replicate_zero,List.push_toArray,List.append_toArray,List.nil_append,List.cons_append]
  cases h with
  | false=>
   gi_wp2_with (first|refine aD (.alloc 31) rfl ?_;refine aa hF rfl rfl (cg _ rfl hS ?_);clear hS;intro be w _ hS|refine aD (.box 195 _) rfl ?_;refine aa hF rfl rfl (eh _ _ rfl hS ?_);clear hS;intro bb w _ hS|gi_at_call 264;refine callsIn_wide.2 (ke hS ?_);clear hS;intro bo w hS;unfold ab|(first|refine aa hF rfl rfl (ar (ac _ _ rfl hS) ?_)|refine aa hF rfl rfl (ar (ai _ _ rfl hS) ?_)))
   refine kR (w0:=w0) (bs:=bs) (X:=Unit) (Y:=Unit) (by omega) (gf:=340) (lb:=#[.pointer (some ⟨bo,0,none⟩)]) rfl ae
    (K:=[⟨bo,aN n F false,195,true⟩]) hS.chg.size (fun e he=>hS.lt (by simp at he;simp[he]))
    (gu (m:=3 - 1) hF4 (by omega) bo (hS.get ⟨_,_,_,_⟩ (.head _))) (fun _=>rfl)
    (fun pre _=>pre.all (fun a=>!fi n F a.i)=true) (fun _ _=>⟨bo,aN n F false,195,true⟩::⟨be,#[.int .i64 0],31,true⟩::⟨bb,aN n F false,195,true⟩::H) (fun _ _ _ e he=>by simp at he;simp[he])
    (fun c pre _=>c=.ret∧∃ y∈pre,fi n F y.i=true) (fun _ _ _=>⟨bo,aN n F false,195,true⟩::⟨be,#[.int .i64 2],31,true⟩::⟨bb,aN n F false,195,true⟩::H)
    (x0:=()) rfl hS 176 (fun x=>#[.int .i64 (F.getD x.i (0,0)).1,.int .u32 (F.getD x.i (0,0)).2]) (fun _ _ _ e he=>.inl (hS.lt he))
    (fun x bv=>{ tmps:=#[.agg (aN n F false),.pointer (some ⟨bb,0,none⟩),.pointer (some ⟨be,0,none⟩),.int .i64 (x.i:Nat),.pointer (some ⟨bv,0,none⟩),.pointer (some ⟨bb,0,none⟩),.int .i64 n,.bool false,.bool false,.pointer (some ⟨bb,0,none⟩),.int .i64 n,.bool false,.bool false,.bool false,.pointer (some ⟨bb,9,none⟩),.bool false,.bool false,undef,undef,undef,.bool false,.bool false,.agg (aN n F false),.func (.func 340) #[] #[.pointer (some ⟨bo,0,none⟩)],.int .i64 (x.i:Nat),.agg #[.int .i64 (F.getD x.i (0,0)).1,.int .u32 (F.getD x.i (0,0)).2],undef,undef,undef,undef,undef,undef,undef,undef],defers:=[] }) ?assign ?body ?done ?stop
   case assign=>
    clear hR
    intro l pre el x W0 hc hnew hS
    have hF:=cu l
    gi_wp2_with (first|refine aD (.alloc 176) rfl ?_;refine aa hF rfl rfl (cg _ rfl hS ?_);clear hS;intro bv w hbv hS|refine aa hF rfl rfl (de _ _ _ rfl hS ?_);clear hS;intro w hS)
    exact⟨_,by omega,rfl,hS⟩
   case body=>
    clear hS hR
    rintro l pre ⟨k,hk,hst⟩ ⟨⟩ bv W0 hc _ _ hS
    have hF:=cu l
    obtain⟨⟨s,g⟩,hx⟩:∃ x,F.getD k (0,0)=x:=⟨_,rfl⟩
    have hgn:0≤g∧g≤4294967295:=by have:=hFg (s,g) (by rw[← hx,List.getD_eq_getElem?_getD,List.getElem?_eq_getElem (by omega)];simp);exact this
    simp only[hx] at hS
    simp only[hx]
    by_cases hb1:n≤(k:Int)
    ·have q4:decide (n≤(k:Int))=true:=decide_eq_true hb1
     have hbad:fi n F k=true:=by unfold fi;rw[q4];rfl
     have hbad':=HD hbad
     clear hbad hx hc
     gi_wp2_with (first|refine gG hF rfl rfl ?_|refine aa hF rfl rfl (ar (ac _ _ rfl hS) ?_)|refine aa hF rfl rfl (cL _ _ _ rfl hS ?_);clear hS;intro w hS)
     exact⟨(),⟨rfl,_,List.mem_append_right _ (.head _),hbad'.out⟩,hS.p⟩
    ·have q4:decide (n≤(k:Int))=false:=decide_eq_false hb1
     obtain⟨b,hb⟩:∃ b,fc (s,g)=b:=⟨_,rfl⟩
     have hbad:fi n F k=b:=by unfold fi;rw[q4,hx,hb];rfl
     have hbad':=HD hbad
     have hb':=HD hb
     have hc':=HD hc
     clear hbad hx hc hb hb1
     cases b
     ·gi_wp2_with (first|(gi_at_call 265;refine callsIn_wide.2 (ed hgn false hb'.out ?_);intro w hch;replace hS:=hS.nil hch;clear hch;unfold ab)|(first|refine aa hF rfl rfl (ar (ac _ _ rfl hS) ?_)|refine aa hF rfl rfl (ar (ai _ _ rfl hS) ?_)))
      refine⟨(),?_,hS.p⟩
      show(pre++[_]).all _=true
      rw[List.all_append,hc'.out]
      simp[hbad'.out]
     ·gi_wp2_with (first|(gi_at_call 265;refine callsIn_wide.2 (ed hgn true hb'.out ?_);intro w hch;replace hS:=hS.nil hch;clear hch;unfold ab)|(first|refine aa hF rfl rfl (ar (ac _ _ rfl hS) ?_)|refine aa hF rfl rfl (ar (ai _ _ rfl hS) ?_))|refine aa hF rfl rfl (cL _ _ _ rfl hS ?_);clear hS;intro w hS)
      exact⟨(),⟨rfl,_,List.mem_append_right _ (.head _),hbad'.out⟩,hS.p⟩
   case done=>
    rintro d xs ⟨⟩ w2 hxs hc hS0 hd
    have hS:=hS0.rebase
    gi_wp2_with ((refine aa hF rfl rfl (cL _ _ _ rfl hS ?_));clear hS;intro w hS)
    refine bS hd hS0 hS (fun W3 hS3=>⟨_,aI rfl hS3,?_⟩)
    rw[if_pos] at hR
    ·exact hR _ hS3.p
    ·rw[← hxs,List.all_map];exact hc
   case stop=>
    rintro d c pre y w2 ⟨k,hk,hg,hpre⟩ ⟨rfl,y,hy,hbad⟩ hS0 hd
    gi_wp2
    refine bS hd hS0 hS0.rebase (fun W3 hS3=>⟨_,aI rfl hS3,?_⟩)
    rw[if_neg] at hR
    ·exact hR _ hS3.p
    ·intro hall
     have hy2:y.i∈gl (ib F) 4:=mem_gl.2 ⟨y.lt,y.is⟩
     have:=List.all_eq_true.1 hall _ hy2
     rw[hbad] at this
     cases this
  | true=>
   have q3:=q3'.out rfl
   gi_wp2_with (first|refine aD (.alloc 31) rfl ?_;refine aa hF rfl rfl (cg _ rfl hS ?_);clear hS;intro be w _ hS|refine aD (.box 195 _) rfl ?_;refine aa hF rfl rfl (eh _ _ rfl hS ?_);clear hS;intro bb w _ hS|gi_at_call 264;refine callsIn_wide.2 (ke hS ?_);clear hS;intro bo w hS;unfold ab|(first|refine aa hF rfl rfl (ar (ac _ _ rfl hS) ?_)|refine aa hF rfl rfl (ar (ai _ _ rfl hS) ?_)))
   refine kR (w0:=w0) (bs:=bs) (X:=Unit) (Y:=Unit) (by omega) (gf:=340) (lb:=#[.pointer (some ⟨bo,0,none⟩)]) rfl ae
    (K:=[⟨bo,aN n F true,195,true⟩]) hS.chg.size (fun e he=>hS.lt (by simp at he;simp[he]))
    (gu (m:=3 - 1) hF4 (by omega) bo (hS.get ⟨_,_,_,_⟩ (.head _))) (fun _=>rfl)
    (fun pre _=>pre.all (fun a=>!fi n F a.i)=true) (fun _ _=>⟨bo,aN n F true,195,true⟩::⟨be,#[.int .i64 0],31,true⟩::⟨bb,aN n F true,195,true⟩::H) (fun _ _ _ e he=>by simp at he;simp[he])
    (fun c pre _=>c=.ret∧∃ y∈pre,fi n F y.i=true) (fun _ _ _=>⟨bo,aN n F true,195,true⟩::⟨be,#[.int .i64 2],31,true⟩::⟨bb,aN n F true,195,true⟩::H)
    (x0:=()) rfl hS 176 (fun x=>#[.int .i64 (F.getD x.i (0,0)).1,.int .u32 (F.getD x.i (0,0)).2]) (fun _ _ _ e he=>.inl (hS.lt he))
    (fun x bv=>{ tmps:=#[.agg (aN n F true),.pointer (some ⟨bb,0,none⟩),.pointer (some ⟨be,0,none⟩),.int .i64 (x.i:Nat),.pointer (some ⟨bv,0,none⟩),.pointer (some ⟨bb,0,none⟩),.int .i64 n,.bool false,.bool false,.pointer (some ⟨bb,0,none⟩),.int .i64 n,.bool false,.bool false,.bool false,.pointer (some ⟨bb,9,none⟩),.bool true,.bool true,.pointer (some ⟨bb,0,none⟩),.int .i64 n,.bool false,.bool false,.bool false,.agg (aN n F true),.func (.func 340) #[] #[.pointer (some ⟨bo,0,none⟩)],.int .i64 (x.i:Nat),.agg #[.int .i64 (F.getD x.i (0,0)).1,.int .u32 (F.getD x.i (0,0)).2],undef,undef,undef,undef,undef,undef,undef,undef],defers:=[] }) ?assign ?body ?done ?stop
   case assign=>
    clear hR
    intro l pre el x W0 hc hnew hS
    have hF:=cu l
    gi_wp2_with (first|refine aD (.alloc 176) rfl ?_;refine aa hF rfl rfl (cg _ rfl hS ?_);clear hS;intro bv w hbv hS|refine aa hF rfl rfl (de _ _ _ rfl hS ?_);clear hS;intro w hS)
    exact⟨_,by omega,rfl,hS⟩
   case body=>
    clear hS hR
    rintro l pre ⟨k,hk,hst⟩ ⟨⟩ bv W0 hc _ _ hS
    have hF:=cu l
    obtain⟨⟨s,g⟩,hx⟩:∃ x,F.getD k (0,0)=x:=⟨_,rfl⟩
    have hgn:0≤g∧g≤4294967295:=by have:=hFg (s,g) (by rw[← hx,List.getD_eq_getElem?_getD,List.getElem?_eq_getElem (by omega)];simp);exact this
    simp only[hx] at hS
    simp only[hx]
    by_cases hb1:n≤(k:Int)
    ·have q4:decide (n≤(k:Int))=true:=decide_eq_true hb1
     have hbad:fi n F k=true:=by unfold fi;rw[q4];rfl
     have hbad':=HD hbad
     clear hbad hx hc
     gi_wp2_with (first|refine gG hF rfl rfl ?_|refine aa hF rfl rfl (ar (ac _ _ rfl hS) ?_)|refine aa hF rfl rfl (cL _ _ _ rfl hS ?_);clear hS;intro w hS)
     exact⟨(),⟨rfl,_,List.mem_append_right _ (.head _),hbad'.out⟩,hS.p⟩
    ·have q4:decide (n≤(k:Int))=false:=decide_eq_false hb1
     obtain⟨b,hb⟩:∃ b,fc (s,g)=b:=⟨_,rfl⟩
     have hbad:fi n F k=b:=by unfold fi;rw[q4,hx,hb];rfl
     have hbad':=HD hbad
     have hb':=HD hb
     have hc':=HD hc
     clear hbad hx hc hb hb1
     cases b
     ·gi_wp2_with (first|(gi_at_call 265;refine callsIn_wide.2 (ed hgn false hb'.out ?_);intro w hch;replace hS:=hS.nil hch;clear hch;unfold ab)|(first|refine aa hF rfl rfl (ar (ac _ _ rfl hS) ?_)|refine aa hF rfl rfl (ar (ai _ _ rfl hS) ?_)))
      refine⟨(),?_,hS.p⟩
      show(pre++[_]).all _=true
      rw[List.all_append,hc'.out]
      simp[hbad'.out]
     ·gi_wp2_with (first|(gi_at_call 265;refine callsIn_wide.2 (ed hgn true hb'.out ?_);intro w hch;replace hS:=hS.nil hch;clear hch;unfold ab)|(first|refine aa hF rfl rfl (ar (ac _ _ rfl hS) ?_)|refine aa hF rfl rfl (ar (ai _ _ rfl hS) ?_))|refine aa hF rfl rfl (cL _ _ _ rfl hS ?_);clear hS;intro w hS)
      exact⟨(),⟨rfl,_,List.mem_append_right _ (.head _),hbad'.out⟩,hS.p⟩
   case done=>
    rintro d xs ⟨⟩ w2 hxs hc hS0 hd
    have hS:=hS0.rebase
    gi_wp2_with ((refine aa hF rfl rfl (cL _ _ _ rfl hS ?_));clear hS;intro w hS)
    refine bS hd hS0 hS (fun W3 hS3=>⟨_,aI rfl hS3,?_⟩)
    rw[if_pos] at hR
    ·exact hR _ hS3.p
    ·rw[← hxs,List.all_map];exact hc
   case stop=>
    rintro d c pre y w2 ⟨k,hk,hg,hpre⟩ ⟨rfl,y,hy,hbad⟩ hS0 hd
    gi_wp2
    refine bS hd hS0 hS0.rebase (fun W3 hS3=>⟨_,aI rfl hS3,?_⟩)
    rw[if_neg] at hR
    ·exact hR _ hS3.p
    ·intro hall
     have hy2:y.i∈gl (ib F) 4:=mem_gl.2 ⟨y.lt,y.is⟩
     have:=List.all_eq_true.1 hall _ hy2
     rw[hbad] at this
     cases this
 ·have e0:qs n F h=false:=by
   rw[← Bool.not_eq_true]
   intro e
   unfold qs at e
   simp only[Bool.and_eq_true,decide_eq_true_eq,Bool.not_eq_true',Bool.and_eq_false_iff,decide_eq_false_iff_not] at e
   refine hn ⟨e.1.1.1,e.1.1.2,?_⟩
   rintro⟨rfl,q⟩
   rcases e.1.2 with h|h
   ·cases h
   ·exact h q
  rw[vy,e0] at hR
  clear e0
  by_cases hn0:n<0
  ·have q1:decide (n<0)=true:=decide_eq_true hn0
   go_enter func178,ntmps178
   go_wp2_with (first|go_skip|refine af rfl hS ?_|refine bP rfl hS ?_;clear hS;intro w hS|(first|refine aq _ rfl hS ?_|refine am _ rfl hS ?_);clear hS;intro bN w hbN hS)
   refine bodyPost_ret (aI rfl hS) rfl ?_
   exact hR _ hS.p
  ·have q1:decide (n<0)=false:=decide_eq_false hn0
   by_cases hn4:4<n
   ·have q2:decide (4<n)=true:=decide_eq_true hn4
    go_enter func178,ntmps178
    go_wp2_with (first|go_skip|refine af rfl hS ?_|refine bP rfl hS ?_;clear hS;intro w hS|(first|refine aq _ rfl hS ?_|refine am _ rfl hS ?_);clear hS;intro bN w hbN hS)
    refine bodyPost_ret (aI rfl hS) rfl ?_
    exact hR _ hS.p
   ·have q2:decide (4<n)=false:=decide_eq_false hn4
    have hh:h=true∧0<n:=by
     by_cases e:h=true∧0<n
     ·exact e
     ·exact absurd ⟨by omega,by omega,e⟩ hn
    obtain⟨rfl,hp⟩:=hh
    have q3:decide (0<n)=true:=decide_eq_true hp
    go_enter func178,ntmps178
    go_wp2_with (first|refine af rfl hS ?_|refine bP rfl hS ?_;clear hS;intro w hS|(first|refine aq _ rfl hS ?_|refine am _ rfl hS ?_);clear hS;intro bN w hbN hS)
    refine bodyPost_ret (aI rfl hS) rfl ?_
    exact hR _ hS.p
open Go.RowKit Go.Mm
variable {R:Ending->World->Prop}{w:World}{w0:World}{bs:List Nat}{H H' H1 E:List Ent}{L X:List (Int×Int)}{b:Nat}{n:Int}
instance KX:ElemT prog 26 1 4 #[.int .u32 0]:=⟨by kernel_rfl⟩
instance FY:SliceT prog 548 26:=⟨by kernel_rfl⟩
theorem left1 {g:Int}{T:TypeId}(hO:St w0 bs w H)[hH:Has H b #[.int .u32 g] T](h0:0≤g)(h1:g≤4294967295)(hR:ab R (.int .u32 (4294967295 - g)) w):Calls prog 460 #[.pointer (some ⟨b,0,none⟩)] w R:=by
 have hS:=hO
 clear hO
 go_enter func460,ntmps460
 go_wp2_with (refine af rfl hS ?_)
 exact hR
theorem of_ok {c:Nat}{g:Int}{T T' : TypeId}(hO:St w0 bs w H)[hH:Has H b #[.int .u32 g] T][hC:Has H c #[.int .u32 g] T'](h0:1≤g)(h1:g≤4294967295)(hR:∀ w',St w0 bs w' H->ab R (.tuple #[.int .u32 (4294967295 - g),.int .i64 0]) w') :
  Calls prog 459 #[.func (.func 460) #[] #[.pointer (some ⟨b,0,none⟩)],.slice (some ⟨c,0,none⟩) 1 1] w R:=by
 have hS:=hO
 clear hO
 go_enter func459,ntmps459
 go_wp2_with (go_skip)
 go_loopw [12,8,9] (fun u _ _ wr=>∃ k:Nat,k≤1∧u=.int .i64 k∧St w0 bs wr H) (fun u _ _ _=>1 - (intOf u).toNat)
 case atStart=>exact⟨0,by omega,rfl,hS⟩
 case round=>
  clear hS
  obtain⟨k,hk,rfl,hS⟩:=hrel
  by_cases hk0:k=0
  ·subst hk0
   go_wp2_with (first|go_at_call 49;refine iK h0 h1 ?_;unfold ab|refine af rfl hS ?_)
   go_roundw
   case rel=>exact⟨1,by omega,by go_num,hS⟩
   case measure=>simp[intOf]
  ·obtain rfl:k=1:=by omega
   clear hk0
   go_wp2_with (go_at_call 460;refine left1 hS (b:=b) (by omega) h1 ?_;unfold ab)
   exact hR _ hS
theorem qJ {g:Int}(hO:St w0 bs w H)(h0:1≤g)(h1:g≤4294967295)(hR:∀ w',St w0 bs w' H->ab R (.tuple #[.int .u32 (4294967295 - g),.int .i64 0]) w'):Calls prog 444 #[.int .u32 g] w R:=by
 have hS:=hO
 clear hO
 go_enter func444,ntmps444
 go_wp2_with (first|go_at_call 459;refine of_ok hS h0 h1 ?_;clear hS;intro w hS;unfold ab|refine f5 _ _ rfl hS (by decide) rfl (by decide) (by decide) ?_;clear hS;intro bN w hbN hS|refine af rfl hS ?_|refine am _ rfl hS ?_;clear hS;intro bN w hbN hS)
 exact hR _ hS.p
theorem BM {g v:Int}{d:Bool}(hO:St w0 bs w H)(h0:1≤g)(h1:g≤4294967295)(hv:(if g<4294967295 then g+1 else 0)=v)(hd:decide (g<4294967295)=d)
  (hR:∀ w',St w0 bs w' H->ab R (.tuple #[.int .u32 v,.bool d,.int .i64 0]) w'):Calls prog 415 #[.int .u32 g,.int .u64 1] w R:=by
 have hS:=hO
 clear hO
 subst hv hd
 by_cases hg:g<4294967295
 ·simp only[if_pos hg,decide_eq_true hg] at hR
  have q1:decide (4294967295 - g<1)=false:=by simp;omega
  go_enter func415,ntmps415
  go_wp2_with (go_at_call 444;refine qJ hS h0 h1 ?_;clear hS;intro w hS;unfold ab)
  go_ret3
  exact hR _ hS
 ·obtain rfl:g=4294967295:=by omega
  simp only[Int.lt_irrefl,if_false,decide_false] at hR
  go_enter func415,ntmps415
  go_wp2_with (go_at_call 444;refine qJ hS h0 h1 ?_;clear hS;intro w hS;unfold ab)
  go_ret3
  exact hR _ hS
theorem qz {g:Int}(v:Int)(d:Bool)(hO:St w0 bs w H)(h0:1≤g)(h1:g≤4294967295)(hv:(if g<4294967295 then g+1 else 0)=v)(hd:decide (g<4294967295)=d)
  (hR:∀ w',St w0 bs w' H->ab R (.tuple #[.int .u32 v,.bool d,.int .i64 0]) w'):Calls prog 382 #[.int .u32 g] w R:=by
 have hS:=hO
 have hv':=HD hv
 have hd':=HD hd
 clear hO hv hd
 go_enter func382,ntmps382
 go_wp2_with (go_at_call 415;refine BM hS h0 h1 hv'.out hd'.out ?_;clear hS;intro w hS;unfold ab)
 go_ret3
 exact hR _ hS
theorem SB {p:Option Addr}{T:Tb}(hO:St w0 bs w H)(hT:TA p T E)[hc:Cut H E H1](s g:Int)
  (hR:∀ E' w',TA p (ov T s g) E'->St w0 bs w' (E'++H1)->ab R (.int .i64 (iN T s g)) w'):Calls prog 331 #[.pointer p,.agg #[.int .i64 s,.int .u32 g]] w R:=by
 have hS:=hO.fr E H1
 clear hO
 by_cases h0:iN T s g=0
 ·rcases T with _|L
  ·cases h0
  obtain⟨i,rfl,hi,hx⟩:=ig h0
  obtain⟨hW,b,rfl,rfl⟩:=id hT
  have hgn:=hW.gn _ (eu hi)
  rw[hx] at hgn
  obtain⟨g0,g1⟩:=hgn
  simp only at g0 g1
  have hl:i<(fC L).length:=by rw[mZ hW.hi];have:=hW.hi;omega
  have hget:=fB hi
  rw[hx] at hget
  have h256:(i:Int)<256:=by have:=hW.hi;omega
  by_cases hg:g<4294967295
  ·have e:xW L i g=L.set i (0,g+1):=by unfold xW;rw[if_pos h0,if_pos hg,Int.toNat_natCast]
   simp only[ov,e,h0] at hR
   have hset:=oG (n:=L.length) hl 0 (g+1)
   rw[jP hi] at hset
   have hdg:decide (g<4294967295)=true:=by simpa using hg
   have h0':=HD h0
   clear hget hx e h0
   go_enter func331,ntmps331
   go_wp2_with (first|go_at_call 269;refine fw hS hT _ _ ?_;clear hS;intro w _ hS;rw[h0'.out];simp only[cq] at hS;unfold ab|go_at_call 382;refine qz (g+1) true hS g0 g1 (if_pos hg) hdg ?_;clear hS;intro w hS;unfold ab|refine aR 8 hS ?_;clear hS;intro w hS;simp only[List.take_succ_cons,List.take_zero,List.drop_succ_cons,List.drop_zero];(repeat (first|refine ax rfl (ac _ _ rfl hS) ?_|still_step));refine wpStill_nil ?_|(first|refine af rfl hS ?_|refine au rfl hS ?_)|refine ak rfl hS ?_;clear hS;intro w hS|refine am _ rfl hS ?_;clear hS;intro bN w hbN hS)
   refine hR _ _ ⟨hW.set i (by simp) (by simp only;omega),b,rfl,rfl⟩ ?_
   rw[List.length_set]
   exact hS.p
  ·obtain rfl:g=4294967295:=by omega
   have e:xW L i 4294967295=L.set i (2,4294967295):=by unfold xW;rw[if_pos h0,if_neg (by omega),Int.toNat_natCast]
   simp only[ov,e,h0] at hR
   have hset:=iR (n:=L.length) hget 2
   rw[jP hi] at hset
   have h0':=HD h0
   clear hget hx e h0
   go_enter func331,ntmps331
   go_wp2_with (first|go_at_call 269;refine fw hS hT _ _ ?_;clear hS;intro w _ hS;rw[h0'.out];simp only[cq] at hS;unfold ab|go_at_call 382;refine qz 0 false hS g0 g1 rfl rfl ?_;clear hS;intro w hS;unfold ab|refine aR 7 hS ?_;clear hS;intro w hS;simp only[List.take_succ_cons,List.take_zero,List.drop_succ_cons,List.drop_zero];(repeat (first|refine ax rfl (ac _ _ rfl hS) ?_|still_step));refine wpStill_nil ?_|(first|refine af rfl hS ?_|refine au rfl hS ?_)|refine bP rfl hS ?_;clear hS;intro w hS|refine am _ rfl hS ?_;clear hS;intro bN w hbN hS)
   refine hR _ _ ⟨hW.set i (by simp) (by simp),b,rfl,rfl⟩ ?_
   rw[List.length_set]
   exact hS.p
 ·have e:ov T s g=T:=by
   cases T with
   | none=>rfl
   | some L=>simp only[ov,xW,if_neg h0]
  rw[e] at hR
  have q:(iN T s g != 0)=true:=by simpa using h0
  clear e h0
  obtain⟨c,hce⟩:∃ c,iN T s g=c:=⟨_,rfl⟩
  rw[hce] at hR q
  have hce':=HD hce
  clear hce
  go_enter func331,ntmps331
  go_wp2_with (first|go_at_call 269;refine fw hS hT _ _ ?_;clear hS;intro w _ hS;rw[hce'.out];unfold ab|refine au rfl hS ?_|refine am _ rfl hS ?_;clear hS;intro bN w hbN hS)
  exact hR _ _ hT hS.p
theorem DC {s g:Int}(hR:∀ w',Chg w w' []->ab R (.bool (s == 0)) w'):Calls prog 301 #[.agg #[.int .i64 s,.int .u32 g]] w R:=by
 have hS:St w [] w []:=St.start0
 go_enter func301,ntmps301
 go_wp2_with (first|refine af rfl hS ?_|refine am _ rfl hS ?_;clear hS;intro bN w hbN hS)
 exact hR _ hS.chg
theorem tE {p:Option Addr}{T:Tb}(hO:St w0 bs w H)(hT:TA p T E)[hc:Cut H E H1]{f:Nat}(st:Int)(hf:∀ args w,(callFunc f args).run prog w=.ok (.enter f args) w)
  (hcall:∀ (R:Ending->World->Prop) (w:World) (s g:Int),(∀ w',Chg w w' []->ab R (.bool (s == st)) w')->Calls prog f #[.agg #[.int .i64 s,.int .u32 g]] w R)
  (hR:∀ w',TA p T E->St w0 bs w' (E++H1)->ab R (.int .i64 (nR st T)) w'):Calls prog 300 #[.pointer p,.func (.func f) #[] #[]] w R:=by
 have hS:=hO.fr E H1
 clear hO
 rcases T with _|L
 ·obtain⟨rfl,rfl⟩:=hT
  simp only[List.nil_append] at hS
  go_enter func300,ntmps300
  go_wp2_with (go_at_call 195;refine eL ?_;unfold ab)
  exact hR _ TA.none hS
 obtain⟨hW,b,rfl,rfl⟩:=hT
 simp only[cq] at hS
 have hR:=fun w'=>hR w' ⟨hW,b,rfl,rfl⟩
 by_cases hl:0<L.length
 ·have hval:decide ((0:Int)<L.length)=true:=by simpa using hl
  have h1:(L.length:Int)≤256:=by have:=hW.hi;omega
  clear hl
  go_enter func300,ntmps300
  go_wp2_with (first|go_at_call 195;refine cF (hS.has inferInstance) _ hval ?_;unfold ab|refine av hS (fun hne=>?_);(repeat (go_big_quiet_want;first|((refine aE bk (fun w hS=>ac _ _ rfl hS) ?_);go_big_quiet_on)|(go_big_quiet_op;go_big_quiet_on)));refine wpQuiet_nil ?_;clear hS hne;intro w hS)
  go_loopw [20,5] (fun u c wr=>∃ k:Nat,k≤L.length∧u=.int .i64 k∧c=.int .i64 (eN st L k)∧St w0 bs wr (⟨b,dG L.length (fC L),239,true⟩::H1)) (fun u _ _=>L.length - (intOf u).toNat)
  case atStart=>exact⟨0,Nat.zero_le _,rfl,rfl,hS⟩
  case round=>
   clear hS
   obtain⟨k,hk,rfl,rfl,hS⟩:=hrel
   have hle:=tu st L k
   by_cases hlt:k<L.length
   ·have hb:=ll (n:=L.length) (fB hlt)
    obtain⟨⟨s,g⟩,hx⟩:∃ x,L.getD k (0,0)=x:=⟨_,rfl⟩
    rw[hx] at hb
    simp only at hb
    obtain⟨cn,hcn⟩:∃ cn,eN st L k=cn:=⟨_,rfl⟩
    by_cases hs:s=st
    ·have hst:cJ st L k=true:=by unfold cJ;rw[hx];simpa using hs
     have e:=HD (rv hst)
     have q:(s == st)=true:=by simpa using hs
     rw[hcn] at hle
     rw[hcn] at e
     rw[hcn]
     have q':=HD q
     clear hx hs hst hcn q
     go_wp2_with (first|refine au rfl hS ?_|refine ak rfl hS ?_;clear hS;intro w hS|refine aq _ rfl hS ?_;clear hS;intro bN w hbN hS)
     refine hcall _ _ _ _ ?_
     rw[q'.out]
     intro w hc
     replace hS:=hS.nil hc
     clear hc
     unfold ab
     go_wp2_with (go_skip)
     go_roundw
     case rel=>exact⟨k+1,by omega,by go_num,by rw[e.out];go_num,hS.p⟩
     case measure=>simp[intOf];omega
    ·have hst:cJ st L k=false:=by unfold cJ;rw[hx];simpa using hs
     have e:=HD (tr hst)
     have q:(s == st)=false:=by simpa using hs
     rw[hcn] at hle
     rw[hcn] at e
     rw[hcn]
     have q':=HD q
     clear hx hs hst hcn q
     go_wp2_with (first|refine au rfl hS ?_|refine ak rfl hS ?_;clear hS;intro w hS|refine aq _ rfl hS ?_;clear hS;intro bN w hbN hS)
     refine hcall _ _ _ _ ?_
     rw[q'.out]
     intro w hc
     replace hS:=hS.nil hc
     clear hc
     unfold ab
     go_wp2_with (go_skip)
     go_roundw
     case rel=>exact⟨k+1,by omega,by go_num,by rw[e.out],hS.p⟩
     case measure=>simp[intOf];omega
   ·obtain rfl:k=L.length:=by omega
    go_wp2_with (go_skip)
    exact hR _ hS
 ·have hval:decide ((0:Int)<L.length)=false:=by simpa using hl
  have e:nR st (some L)=0:=by
   have:L.length=0:=by omega
   simp only[nR,this,eN,gl,List.range_zero,List.filter_nil,List.length_nil]
   rfl
  rw[e] at hR
  clear hl e
  go_enter func300,ntmps300
  go_wp2_with (go_at_call 195;refine cF (hS.has inferInstance) _ hval ?_;unfold ab)
  exact hR _ hS
theorem lp {p:Option Addr}{T:Tb}(hO:St w0 bs w H)(hT:TA p T E)[hc:Cut H E H1]
  (hR:∀ w',TA p T E->St w0 bs w' (E++H1)->ab R (.int .i64 (nR 0 T)) w'):Calls prog 219 #[.pointer p] w R:=by
 have hS:=hO.fr E H1
 clear hO
 go_enter func219,ntmps219
 go_wp2_with (go_at_call 300;refine tE hS hT 0 ae (fun R w s g h=>DC h) ?_;clear hS;intro w _ hS;unfold ab)
 exact hR _ hT hS
end Go.Proofs.YtnbgljbhkeffkaaGreatDoor
