/-
  Contracts of what the law TopPasses reaches, part 35: Tpf Tpg Tph WalkTop.
-/
import Derived.Test.YtnbgljbhkeffkaaGreatDoorQ34
open Go.Proofs.Tryz
set_option linter.unusedVariables false
set_option linter.unusedSimpArgs false
set_option maxHeartbeats 4000000
set_option maxRecDepth 100000
namespace Go.Mm
open Go Go.RowKit
section
variable {P:Program}{o:Oper}{a a' : Act}{w:World}
class QuoIs (k:IntKind)(n m:Int)(r:outParam Int):Prop where
 h:k.wrap (n.tdiv m)=r
 z:m≠0
theorem jD {t t': TypeId}{x y:Operand}(ho:o.op=.binOp .quo t x y t'){k:IntKind}{n m r:Int}[hx:Ev a x (.int k n)][hy:Ev a y (.int k m)][hr:QuoIs k n m r] : ay P o a w (.int k r):=by
 unfold ay
 simp[execOp,ho,hx.h,hy.h,eqGuard,binOp,Op.intDiv,hr.h,hr.z]
class IdxU (P:Program)(t:TypeId)(cs:Array Value)(k:IntKind)(i:Int)(v:outParam Value):Prop where
 h:∀ w,(Instr.index t (.agg cs) (.int k i)).run P w=.ok v w
theorem qd {t:TypeId}{x y:Operand}(ho:o.op=.index t x y){cs:Array Value}{k:IntKind}{i:Int}{v:Value}[hx:Ev a x (.agg cs)][hy:Ev a y (.int k i)][hp:IdxU P t cs k i v] : ay P o a w v:=by
 unfold ay
 simp only[execOp,ho,hx.h,hy.h,Sem.run_bind,hp.h,Result.andThen_ok,Sem.run_pure]
end
end Go.Mm
namespace Go.Proofs.YtnbgljbhkeffkaaGreatDoor
open Go Go.RowKit Go.Mm
variable {R:Ending->World->Prop}{w W:World}{w0:World}{As bs:List Nat}{H H' H1 H2 H3 E E' E1 E2 Ea Eh Er:List Ent}
abbrev om (x0 x1 x2 x3 x4 x5 x6 x7:Nat):Array Value:=#[.int .u8 x0,.int .u8 x1,.int .u8 x2,.int .u8 x3,.int .u8 x4,.int .u8 x5,.int .u8 x6,.int .u8 x7]
theorem yS {x0 x1 x2 x3 x4 x5 x6 x7:Nat} : OneCells (om x0 x1 x2 x3 x4 x5 x6 x7):=⟨by intro v hv;simp only [om,List.mem_cons,List.not_mem_nil,or_false] at hv;rcases hv with rfl|rfl|rfl|rfl|rfl|rfl|rfl|rfl <;> rfl⟩
def sG (x0 x1 x2 x3 x4 x5 x6 x7:Nat):Cfg:=⟨1+x0 % 16,1+x1 % 4,1+x2 % 8,1+x2 / 8 % 4,1+x3 % 4,1+x4 % 8,1+x5 % 4,((1+x6 % 4:Nat):Int),((4+x6 / 4 % 16:Nat):Int),if x7 % 2=0 then 1 else 4294967293⟩
theorem FP (x0 x1 x2 x3 x4 x5 x6 x7:Nat):CfgW (sG x0 x1 x2 x3 x4 x5 x6 x7):=by
 refine⟨?_,?_,?_,?_,?_,?_,?_,?_,?_⟩ <;> simp only[sG] <;> (try split) <;> omega
theorem ej {n m:Nat}(hm:0<m):RemIs (n:Int) (m:Int) ((n % m:Nat):Int):=⟨by rw [Int.tmod_eq_emod_of_nonneg (by omega)];omega,by omega⟩
theorem t9 {n m:Nat}(hn:n<256)(hm:0<m):QuoIs .u8 (n:Int) (m:Int) ((n / m:Nat):Int):=⟨by
 rw[Int.tdiv_eq_ediv_of_nonneg (by omega)]
 have h1:n / m≤n:=Nat.div_le_self _ _
 have h2:((n:Int) / (m:Int))=((n / m:Nat):Int):=rfl
 rw[h2]
 have h3:n / m<256:=Nat.lt_of_le_of_lt h1 hn
 generalize n / m=q at h3 ⊢
 exact IntWalk.u8_in _ ⟨by omega,by omega⟩,by omega⟩
theorem eM {a b:Nat}(h:a+b<100000):SumIs (a:Int) (b:Int) ((a+b:Nat):Int):=⟨by omega,by omega,by omega⟩
instance Mg:ScalarT prog 5:=⟨by kernel_rfl,by kernel_rfl⟩
instance K9:CvI prog 5 3 .i64:=⟨by kernel_rfl,by kernel_rfl,by kernel_rfl⟩
instance La:CvI prog 5 2 .i64:=⟨by kernel_rfl,by kernel_rfl,by kernel_rfl⟩
instance Ib:AggT prog 23 8:=⟨by kernel_rfl,by kernel_rfl⟩
instance Ia {b off:Nat} : FieldAt prog 23 0 b off off:=⟨fun w=>by kernel_rfl⟩
instance H9 {b off:Nat} : FieldAt prog 23 1 b off (off+1):=⟨fun w=>by kernel_rfl⟩
instance H8 {b off:Nat} : FieldAt prog 23 2 b off (off+2):=⟨fun w=>by kernel_rfl⟩
instance H7 {b off:Nat} : FieldAt prog 23 3 b off (off+3):=⟨fun w=>by kernel_rfl⟩
instance H6 {b off:Nat} : FieldAt prog 23 4 b off (off+4):=⟨fun w=>by kernel_rfl⟩
instance H5 {b off:Nat} : FieldAt prog 23 5 b off (off+5):=⟨fun w=>by kernel_rfl⟩
instance H4 {b off:Nat} : FieldAt prog 23 6 b off (off+6):=⟨fun w=>by kernel_rfl⟩
instance HZ {b off:Nat} : FieldAt prog 23 7 b off (off+7):=⟨fun w=>by kernel_rfl⟩
instance Pk {a b:Int} : BuildT prog 46 [(0,.int .u32 a),(1,.int .u32 b)] #[.int .u32 a,.int .u32 b]:=⟨fun w=>by kernel_rfl⟩
instance OB {a b:Int} : IdxU prog 46 #[.int .u32 a,.int .u32 b] .u8 0 (.int .u32 a):=⟨fun w=>by kernel_rfl⟩
instance OA {a b:Int} : IdxU prog 46 #[.int .u32 a,.int .u32 b] .u8 1 (.int .u32 b):=⟨fun w=>by kernel_rfl⟩
instance Lu {a b c d e f g h i j:Int} : BuildT prog 28 [(0,.int .i64 a),(1,.int .i64 b),(2,.int .i64 c),(3,.int .i64 d),(4,.int .i64 e),(5,.int .i64 f),(6,.int .i64 g),(7,.int .i64 h),(8,.int .i64 i),(9,.int .u32 j)] #[.int .i64 a,.int .i64 b,.int .i64 c,.int .i64 d,.int .i64 e,.int .i64 f,.int .i64 g,.int .i64 h,.int .i64 i,.int .u32 j]:=⟨fun w=>by kernel_rfl⟩
instance Pi:ZeroT prog 28 #[.int .i64 0,.int .i64 0,.int .i64 0,.int .i64 0,.int .i64 0,.int .i64 0,.int .i64 0,.int .i64 0,.int .i64 0,.int .u32 0]:=⟨by kernel_rfl⟩
abbrev DR:Array Value:=#[.int .i64 0,.int .i64 0,.int .i64 0,.int .i64 0,.int .i64 0,.int .i64 0,.int .i64 0,.int .i64 0,.int .i64 0,.int .u32 0]
section
variable {x0 x1 x2 x3 x4 x5 x6 x7:Nat}
theorem zv (h0:x0<256)(h1:x1<256)(h2:x2<256)(h3:x3<256)(h4:x4<256)(h5:x5<256)(h6:x6<256)(h7:x7<256)(hO:St w0 bs w H)(hR:∀ w',St w0 bs w' H->ab R (.agg (dD (sG x0 x1 x2 x3 x4 x5 x6 x7))) w'):Calls prog 5 #[.agg (om x0 x1 x2 x3 x4 x5 x6 x7)] w R:=by
 have hS:=hO
 clear hO
 have hone:=yS (x0:=x0) (x1:=x1) (x2:=x2) (x3:=x3) (x4:=x4) (x5:=x5) (x6:=x6) (x7:=x7)
 have r0:RemIs (x0:Int) 16 _:=ej (m:=16) (by omega)
 have r1:RemIs (x1:Int) 4 _:=ej (m:=4) (by omega)
 have r2:RemIs (x2:Int) 8 _:=ej (m:=8) (by omega)
 have q2:QuoIs .u8 (x2:Int) 8 _:=t9 (m:=8) h2 (by omega)
 have r2q:RemIs ((x2 / 8:Nat):Int) 4 _:=ej (m:=4) (by omega)
 have r3:RemIs (x3:Int) 4 _:=ej (m:=4) (by omega)
 have r4:RemIs (x4:Int) 8 _:=ej (m:=8) (by omega)
 have r5:RemIs (x5:Int) 4 _:=ej (m:=4) (by omega)
 have r6:RemIs (x6:Int) 4 _:=ej (m:=4) (by omega)
 have q6:QuoIs .u8 (x6:Int) 4 _:=t9 (m:=4) h6 (by omega)
 have r6q:RemIs ((x6 / 4:Nat):Int) 16 _:=ej (m:=16) (by omega)
 have m0:Small ((x0 % 16:Nat):Int):=⟨by omega,by omega⟩
 have m1:Small ((x1 % 4:Nat):Int):=⟨by omega,by omega⟩
 have m2:Small ((x2 % 8:Nat):Int):=⟨by omega,by omega⟩
 have m2q:Small ((x2 / 8 % 4:Nat):Int):=⟨by omega,by omega⟩
 have m3:Small ((x3 % 4:Nat):Int):=⟨by omega,by omega⟩
 have m4:Small ((x4 % 8:Nat):Int):=⟨by omega,by omega⟩
 have m5:Small ((x5 % 4:Nat):Int):=⟨by omega,by omega⟩
 have m6:Small ((x6 % 4:Nat):Int):=⟨by omega,by omega⟩
 have m6q:Small ((x6 / 4 % 16:Nat):Int):=⟨by omega,by omega⟩
 have s0:SumIs 1 ((x0 % 16:Nat):Int) _:=eM (a:=1) (b:=x0 % 16) (by omega)
 have s1:SumIs 1 ((x1 % 4:Nat):Int) _:=eM (a:=1) (b:=x1 % 4) (by omega)
 have s2:SumIs 1 ((x2 % 8:Nat):Int) _:=eM (a:=1) (b:=x2 % 8) (by omega)
 have s2q:SumIs 1 ((x2 / 8 % 4:Nat):Int) _:=eM (a:=1) (b:=x2 / 8 % 4) (by omega)
 have s3:SumIs 1 ((x3 % 4:Nat):Int) _:=eM (a:=1) (b:=x3 % 4) (by omega)
 have s4:SumIs 1 ((x4 % 8:Nat):Int) _:=eM (a:=1) (b:=x4 % 8) (by omega)
 have s5:SumIs 1 ((x5 % 4:Nat):Int) _:=eM (a:=1) (b:=x5 % 4) (by omega)
 have s6:SumIs 1 ((x6 % 4:Nat):Int) _:=eM (a:=1) (b:=x6 % 4) (by omega)
 have s6q:SumIs 4 ((x6 / 4 % 16:Nat):Int) _:=eM (a:=4) (b:=x6 / 4 % 16) (by omega)
 have hS0:=hS
 rcases(by omega:x7 % 2=0∨x7 % 2=1) with e7|e7
 ·have r7:RemIs (x7:Int) 2 0:=⟨by rw[Int.tmod_eq_emod_of_nonneg (by omega)];omega,by omega⟩
  go_enter func5,ntmps5
  go_wp2_with (first|refine am 23 rfl hS ?_;clear hS;intro b1 w _ hS|refine aq 28 rfl hS ?_;clear hS;intro b2 w _ hS)
  refine aj (X:=Unit) (fun w=>St w0 bs w (⟨b2,DR,28,true⟩::⟨b1,om x0 x1 x2 x3 x4 x5 x6 x7,23,true⟩::H)) [(53,fun χ w=>St w0 bs w (⟨b2,dD (sG x0 x1 x2 x3 x4 x5 x6 x7),28,true⟩::⟨b1,om x0 x1 x2 x3 x4 x5 x6 x7,23,true⟩::H))] (hS.drawn _) (by kernel_rfl) (by kernel_rfl) ?_
  iterate 53 first|(refine bF 0 (fun _=>rfl) rfl (fun χ w hw=>ac _ _ rfl (show St _ _ w _ from hw)) ?_)|(refine oP (fun χ w=>ag rfl) ?_)|(refine oP (fun χ w=>cw rfl) ?_)|(refine oP (fun χ w=>jD rfl) ?_)|(refine oP (fun χ w=>ly rfl) ?_)|(refine oP (fun χ w=>bL rfl) ?_)|(refine oP (fun χ w=>qd rfl) ?_)|(refine oP (fun χ w=>bQ _ _ rfl) ?_)
  refine aO 0 rfl (by kernel_rfl) (fun _=>rfl) (fun _=>undef) (fun χ w hw=>aK _ _ _ rfl (show St w0 bs w (⟨b2,DR,28,true⟩::⟨b1,om x0 x1 x2 x3 x4 x5 x6 x7,23,true⟩::H) from hw) (fun w' hS'=>⟨(),rfl,by unfold dD sG;simp only[e7];exact hS'⟩)) ?_
  refine aV rfl ?_
  intro χ w hS
  replace hS:St w0 bs w (⟨b2,dD (sG x0 x1 x2 x3 x4 x5 x6 x7),28,true⟩::⟨b1,om x0 x1 x2 x3 x4 x5 x6 x7,23,true⟩::H):=hS
  have hone2:=kr (c:=sG x0 x1 x2 x3 x4 x5 x6 x7)
  go_wp2_with (go_skip)
  refine bodyPost_ret (aI rfl hS) rfl ?_
  exact hR _ hS.p
 ·have r7:RemIs (x7:Int) 2 1:=⟨by rw[Int.tmod_eq_emod_of_nonneg (by omega)];omega,by omega⟩
  go_enter func5,ntmps5
  go_wp2_with (first|refine am 23 rfl hS ?_;clear hS;intro b1 w _ hS|refine aq 28 rfl hS ?_;clear hS;intro b2 w _ hS)
  refine aj (X:=Unit) (fun w=>St w0 bs w (⟨b2,DR,28,true⟩::⟨b1,om x0 x1 x2 x3 x4 x5 x6 x7,23,true⟩::H)) [(53,fun χ w=>St w0 bs w (⟨b2,dD (sG x0 x1 x2 x3 x4 x5 x6 x7),28,true⟩::⟨b1,om x0 x1 x2 x3 x4 x5 x6 x7,23,true⟩::H))] (hS.drawn _) (by kernel_rfl) (by kernel_rfl) ?_
  iterate 53 first|(refine bF 0 (fun _=>rfl) rfl (fun χ w hw=>ac _ _ rfl (show St _ _ w _ from hw)) ?_)|(refine oP (fun χ w=>ag rfl) ?_)|(refine oP (fun χ w=>cw rfl) ?_)|(refine oP (fun χ w=>jD rfl) ?_)|(refine oP (fun χ w=>ly rfl) ?_)|(refine oP (fun χ w=>bL rfl) ?_)|(refine oP (fun χ w=>qd rfl) ?_)|(refine oP (fun χ w=>bQ _ _ rfl) ?_)
  refine aO 0 rfl (by kernel_rfl) (fun _=>rfl) (fun _=>undef) (fun χ w hw=>aK _ _ _ rfl (show St w0 bs w (⟨b2,DR,28,true⟩::⟨b1,om x0 x1 x2 x3 x4 x5 x6 x7,23,true⟩::H) from hw) (fun w' hS'=>⟨(),rfl,by unfold dD sG;simp only[e7];exact hS'⟩)) ?_
  refine aV rfl ?_
  intro χ w hS
  replace hS:St w0 bs w (⟨b2,dD (sG x0 x1 x2 x3 x4 x5 x6 x7),28,true⟩::⟨b1,om x0 x1 x2 x3 x4 x5 x6 x7,23,true⟩::H):=hS
  have hone2:=kr (c:=sG x0 x1 x2 x3 x4 x5 x6 x7)
  go_wp2_with (go_skip)
  refine bodyPost_ret (aI rfl hS) rfl ?_
  exact hR _ hS.p
end
open Go Go.RowKit Go.Mm
variable {Ms Ms1 Ms2 Ms3:dF}
variable {c:Cfg}{p:Option Addr}{T:Ar}{C:Cy}{K:Rk}{D:Option (Int×Int)}{N:Nat}
theorem t8 {n i:Nat}{g:Int}(h:i<n):(List.replicate n ((0:Int),g)).getD i (0,0)=(0,g):=by
 rw[List.getD_eq_getElem?_getD,List.getElem?_replicate,if_pos h]
 rfl
theorem fQ {n:Nat}{g:Int}(h:0<n):firstOf (cJ 0 (List.replicate n ((0:Int),g))) (List.replicate n ((0:Int),g)).length=some 0:=by
 rw[List.length_replicate]
 unfold firstOf
 obtain⟨k,rfl⟩:∃ k,n=k+1:=⟨n - 1,by omega⟩
 rw[List.range_succ_eq_map,List.find?_cons_of_pos]
 unfold cJ
 rw[t8 (by omega)]
 rfl
theorem t6 {n:Nat}{g:Int}(h:0<n):jx (ia n g)=0∧kC (ia n g)=0∧kD (ia n g)=g:=by
 have hf:=fQ (g:=g) h
 refine⟨?_,?_,?_⟩
 ·unfold jx
  have h1:fe (ia n g)=true:=by show decide (0<(List.replicate n ((0:Int),g)).length)=true;rw[List.length_replicate];exact decide_eq_true h
  rw[if_pos h1]
  show(if (firstOf (cJ 0 (List.replicate n ((0:Int),g))) (List.replicate n ((0:Int),g)).length).isSome=true then (0:Int) else 4)=0
  rw[hf]
  rfl
 ·unfold kC
  show(((firstOf (cJ 0 (List.replicate n ((0:Int),g))) (List.replicate n ((0:Int),g)).length).getD 0:Nat):Int)=0
  rw[hf]
  rfl
 ·show(match firstOf (cJ 0 (List.replicate n ((0:Int),g))) (List.replicate n ((0:Int),g)).length with|some i=>((List.replicate n ((0:Int),g)).getD i (0,0)).2|none=>0)=g
  rw[hf]
  show((List.replicate n ((0:Int),g)).getD 0 (0,0)).2=g
  rw[t8 h]
theorem t7 {n:Nat}{g:Int}(h:0<n):nR 0 (ia n g)≠0:=by
 show((eN 0 (List.replicate n ((0:Int),g)) (List.replicate n ((0:Int),g)).length:Nat):Int)≠0
 have hf:=fQ (g:=g) h
 intro e
 have e2:gl (cJ 0 (List.replicate n ((0:Int),g))) (List.replicate n ((0:Int),g)).length=[]:=by
  unfold eN at e
  exact List.length_eq_zero_iff.1 (by omega)
 rw[ew e2] at hf
 cases hf
section
variable {z m:Nat}{g:Int}
theorem xy (hz:1≤z∧z≤256)(hg:1≤g):(e8 z m g).1=List.replicate z (0,g,io):=by
 have:cO z g=true:=by unfold cO;simp;omega
 unfold e8 sI
 rw[if_pos this]
 show List.replicate ((z:Int).toNat) (0,g,io)=_
 rw[Int.toNat_natCast]
theorem zb (hz:1≤z∧z≤256)(hg:1≤g):lN (e8 z m g).1 0 true=some 0:=by
 rw[xy hz hg]
 show(if o9 0 true then v9 (some (cY (List.replicate z (0,g,io)))) else none)=some 0
 rw[if_pos (by decide),jb]
 exact fQ (by omega)
theorem ng (hz:1≤z∧z≤256)(hg:1≤g){i:Nat}(hi:i<z):(e8 z m g).1.getD i d8=(0,g,io):=by
 rw[xy hz hg,List.getD_eq_getElem?_getD,List.getElem?_replicate,if_pos hi]
 rfl
theorem AG (hcf:CfgW c){K:Rk}(hK1:K.tb=ia 256 c.fs)(hK2:K.o=none)(hK3:K.L=List.replicate 64 (0,c.fs)):OpPre c (e8 c.z c.m c.fs) ⟨⟨nj c.m,Col.zerosL,List.replicate c.m []⟩,c.z,0,0,false⟩ K 0 0 c.fs 0 c.fs 0 c.fs (vO K.L):=by
 have hz:=hcf.z
 have hm:=hcf.m
 have hf:=hcf.fs
 have hi:=zb (m:=c.m) hz hf.1
 have hk:jx K.tb=0∧kC K.tb=0∧kD K.tb=c.fs:=by rw[hK1];exact t6 (by decide)
 have hl:jx (some K.L)=0∧kC (some K.L)=0∧kD (some K.L)=c.fs:=by rw[hK3];exact t6 (n:=64) (by decide)
 refine⟨by omega,?_,?_,?_,?_,by omega,?_,rfl,rfl,hK2,by omega,hf,hf.1,by omega,hk.1,hk.2.1,hk.2.2,?_,?_,hl.1,hl.2.1,hl.2.2,rfl⟩
 ·unfold fm e8
  simp
  omega
 ·unfold ez e8
  rw[Int.toNat_natCast,List.getD_eq_getElem?_getD,Int.toNat_natCast,List.getElem?_replicate,if_pos (by omega)]
  rfl
 ·show(if (lN (e8 c.z c.m c.fs).1 0 true).isSome=true then (0:Int) else 4)=0
  rw[hi]
  rfl
 ·show(match lN (e8 c.z c.m c.fs).1 0 true with|some i=>((i:Int),((e8 c.z c.m c.fs).1.getD i d8).2.1)|none=>(0,0))=_
  rw[hi]
  show(((0:Nat):Int),((e8 c.z c.m c.fs).1.getD 0 d8).2.1)=_
  rw[ng hz hf.1 (by omega)]
 ·show nR 0 (some (cY (e8 c.z c.m c.fs).1))≠0
  rw[xy hz hf.1,jb]
  exact t7 (by omega)
 ·rw[hK1]
  exact t7 (by decide)
 ·rw[hK3]
  exact(by decide:0<64)
theorem C9 (hcf:CfgW c){L2:List Int} : PS c 0 c.fs 0 0 (fg (e8 c.z c.m c.fs) (0:Nat) 0 true) ⟨⟨nj c.m,L2,List.replicate c.m []⟩,c.z,0,0,false⟩:=by
 have hz:=hcf.z
 have hm:=hcf.m
 have hf:=hcf.fs
 have hi:=zb (m:=c.m) hz hf.1
 have hmt:iJ (qD (some (some (e8 c.z c.m c.fs).1)) 0 true)=(e8 c.z c.m c.fs).1.set 0 (1,c.fs,lM 0 true):=by
  show iJ (match lN (e8 c.z c.m c.fs).1 0 true with|some i=>some (some (qE (e8 c.z c.m c.fs).1 i (lM 0 true)))|none=>some (some (e8 c.z c.m c.fs).1))=_
  rw[hi]
  show(e8 c.z c.m c.fs).1.set 0 (1,((e8 c.z c.m c.fs).1.getD 0 d8).2.1,lM 0 true)=_
  rw[ng hz hf.1 (by omega)]
 have hmr:kX (some (some (e8 c.z c.m c.fs).1)) 0 true=(((0:Nat):Int),c.fs):=by
  show(match lN (e8 c.z c.m c.fs).1 0 true with|some i=>((i:Int),((e8 c.z c.m c.fs).1.getD i d8).2.1)|none=>(0,0))=_
  rw[hi]
  show(((0:Nat):Int),((e8 c.z c.m c.fs).1.getD 0 d8).2.1)=_
  rw[ng hz hf.1 (by omega)]
 have hrt:ez (e8 c.z c.m c.fs) (0:Nat)=[]:=by
  unfold ez e8
  rw[Int.toNat_natCast,List.getD_eq_getElem?_getD,Int.toNat_natCast,List.getElem?_replicate,if_pos (by omega)]
  rfl
 have hT:fg (e8 c.z c.m c.fs) (0:Nat) 0 true=((e8 c.z c.m c.fs).1.set 0 (1,c.fs,lM 0 true),ct c.m 0 [(((0:Nat):Int),c.fs)],zero8):=by
  unfold fg
  rw[hmt,hmr,hrt]
  show(_,(List.replicate ((c.m:Int).toNat) []).set ((0:Nat):Int).toNat _,zero8)=_
  rw[Int.toNat_natCast,Int.toNat_natCast]
  rfl
 have hlen:(e8 c.z c.m c.fs).1.length=c.z:=by rw[xy hz hf.1,List.length_replicate]
 rw[hT]
 refine⟨by omega,⟨by rw[List.length_set];exact hlen,hz,fun i h=>?_,by omega,?_,fun i hne=>?_⟩,rfl,rfl,⟨by simp[nj],rfl,⟨by simp[nj],by simp[nj]⟩,fun q=>by simp[nj] at q,fun q=>by simp[nj] at q,fun q=>by simp[nj] at q,fun q=>by simp[nj] at q,fun q=>by simp[nj] at q⟩,fun x hx=>by cases hx⟩
 ·show 1≤(((e8 c.z c.m c.fs).1.set 0 (1,c.fs,lM 0 true)).getD i d8).2.1
  rw[dQ (by rw[hlen];omega)]
  split
  ·exact hf.1
  ·rw[ng hz hf.1 h];exact hf.1
 ·show(((e8 c.z c.m c.fs).1.set 0 (1,c.fs,lM 0 true)).getD 0 d8).1=1∧(((e8 c.z c.m c.fs).1.set 0 (1,c.fs,lM 0 true)).getD 0 d8).2.1=c.fs
  rw[dQ (by rw[hlen];omega),if_pos rfl]
  exact⟨rfl,rfl⟩
 ·show(((e8 c.z c.m c.fs).1.set 0 (1,c.fs,lM 0 true)).getD i d8).2.2.2.2=false
  rw[dQ (by rw[hlen];omega),if_neg (fun e=>hne e)]
  by_cases h:i<c.z
  ·rw[ng hz hf.1 h];rfl
  ·rw[List.getD_eq_getElem?_getD,List.getElem?_eq_none (by rw[hlen];omega)];rfl
end
theorem jw {a b d e:Int}(hO:St w0 bs w H)(hR:∀ w',St w0 bs w' H->ab R (.agg (aQ [a,b,d,e,0] eA)) w'):Calls prog 10 #[.int .i64 a,.int .i64 b,.int .i64 d,.int .i64 e] w R:=by
 have hS:=hO
 clear hO
 have hone:=eo (l:=[a,b,d,e,0]) (s:=eA)
 have hcl6:=BX (l:=[a,b,d,e,0]) (s:=eA) rfl
 have hso:SetsAt #[.int .i64 0,.int .i64 0,.int .i64 0,.int .i64 0,.int .i64 0,.string eA] 0 (aQ [a,b,d,e,0] eA) (aQ [a,b,d,e,0] eA):=⟨by simp[aQ],by simp[aQ]⟩
 go_enter func10,ntmps10
 go_wp2_with (first|refine aq 38 rfl hS ?_;clear hS;intro b8 w _ hS|refine aL rfl ?_|refine ak rfl hS ?_;clear hS;intro w hS)
 refine bodyPost_ret (aI rfl hS) rfl ?_
 exact hR _ hS.p
def qr (K:Rk)(mf0:Nat)(g:Int)(s:ByteArray)(Ms:dF):dF:=
 (K.mf,[(.agg (vD 0 g),vI 5)])::(K.ml,[])::(mf0,[])::(K.me,[(vI 0,.agg (fd 0 g 0 g))])::(K.mc,[(vI 0,vI 1)])::(K.mb,[(vR 0 g,vI 0)])::(K.mo,[(vI 0,vR 0 g)])::(K.mz,[(.agg (vD 0 g),.agg (vK s))])::Ms
theorem pM {s:ByteArray}(hs:TagW s)(hcf:CfgW c)(hK1:K.tb=ia 256 c.fs)(hK2:K.o=none)(hK3:K.L=List.replicate 64 (0,c.fs))
  (hT:MH c p (e8 c.z c.m c.fs) ⟨⟨nj c.m,Col.zerosL,List.replicate c.m []⟩,c.z,0,0,false⟩ K none 0 E) (hB:Mps W As w0 bs ((K.ml,[])::(K.mf,[])::(K.me,[])::(K.mc,[])::(K.mb,[])::(K.mo,[])::(K.mz,[])::Ms)) (hS:St w0 bs w (E++H1))
  (hR:∀ T C K' E' mf0 w0' bs' w',PS c 0 c.fs 0 0 T C->MH c p T C K' (some (0,c.fs)) 1 E'->K'.o=some (bJ 0 c.fs 1 0 s)->0<K'.L.length->Mps W As w0' bs' (qr K' mf0 c.fs s Ms)->St w0' bs' w' (E'++H1)->ab R (.agg (bZ 0 0)) w') :
  Calls prog 7 #[.pointer p,.agg (aQ [8,0,1,5,0] s)] w R:=by
 have hpre:=AG hcf hK1 hK2 hK3
 have hm:=hcf.m
 have hln:0<(vO K.L).length:=by
  rw[hK3]
  unfold vO
  rw[fQ (n:=64) (by decide)]
  simp
 refine f9 (fun e n T' C' K' D' Ms'=>e=0∧n=0∧PS c 0 c.fs 0 0 T' C'∧D'=some (0,c.fs)∧K'.o=some (bJ 0 c.fs 1 0 s)∧0<K'.L.length∧∃ mf0,Ms'=qr K' mf0 c.fs s Ms) hB hS hT rfl (by decide) (fun H w0 bs w R hB hS hd=>?_) ?_
 ·refine j2 (k:=8) (f:=61) (x:={ data:=#[111,112,101,110] }) (y:={ data:=#[109,107,98,113] }) hB hS hT rfl (by omega) (.num (c:=109) (j:=1) (lo:=0) (hi:=3) (by decide) rfl (by omega) (by omega) (.num (c:=107) (j:=2) (lo:=1) (hi:=3) (by decide) rfl (by omega) (by omega) (.num (c:=98) (j:=3) (lo:=0) (hi:=1048576) (by decide) rfl (by omega) (by omega) (.tag hs .nil)))) true false (by decide +kernel) (by rfl) (fun _=>DF) (fun h=>by cases h) (by omega) rfl ae (fun H w0 bs w R hB hS hd=>?_) hd
  refine xG (m:=0) (j:=0) hB hS hT hpre hs (fun m2 L2 E' w0' bs' w' hU h2 hB hS=>?_)
  exact hd 0 0 _ _ { K with tb:=ir K.tb,o:=some (bJ 0 c.fs 1 0 s),L:=vO K.L,mf:=m2 } (some (0,c.fs)) E' _ w0' bs' w' ⟨rfl,rfl,C9 hcf,rfl,rfl,hln,K.mf,rfl⟩ h2 hB hS
 ·rintro e n T' C' K' D' E' Ms' w0' bs' w' ⟨rfl,rfl,h1,rfl,h3,h4,mf0,rfl⟩ h2 hB hS
  exact hR T' C' K' E' mf0 w0' bs' w' h1 h2 h3 h4 hB hS
open Go Go.RowKit Go.Mm
instance J2:BuildT prog 35 [] #[.int .i64 0,.int .i64 0]:=⟨fun w=>by kernel_rfl⟩
def Cg (K:Rk)(mf0:Nat)(g:Int)(s:ByteArray)(Ms:dF):dF:=
 (K.mf,[(.agg (vD 0 g),vI 5)])::(K.ml,[])::(mf0,[])::(K.me,[])::(K.mc,[])::(K.mb,[])::(K.mo,[])::(K.mz,[(.agg (vD 0 g),.agg (vK s))])::Ms
theorem sU {s:ByteArray}{g:Int}{mf0:Nat}(hs:TagW s)(hg:1≤g∧g≤4294967295)(hm:1≤c.m)(ho:K.o=some (bJ 0 g 1 0 s))(hT:MH c p T C K (some (0,g)) N E)(hN:N+1<100000)(hB:Mps W As w0 bs (qr K mf0 g s Ms))(hS:St w0 bs w (E++H1))
  (hR:∀ K' E' w0' bs' w',MH c p T C K' (some (0,g)) (N+1) E'->Mps W As w0' bs' (Cg K' mf0 g s Ms)->St w0' bs' w' (E'++H1)->ab R (.agg (bZ 0 0)) w') :
  Calls prog 7 #[.pointer p,.agg (aQ [12,0,0,0,0] eA)] w R:=by
 unfold qr at hB
 refine f9 (fun e n T' C' K' D' Ms'=>e=0∧n=0∧T'=T∧C'=C∧D'=some (0,g)∧Ms'=Cg K' mf0 g s Ms) hB hS hT rfl hN (fun H w0 bs w R hB hS hd=>?_) ?_
 ·refine j2 (k:=12) (f:=65) (x:={ data:=#[99,108,111,115,101] }) (y:={ data:=#[109,100] }) hB hS hT rfl (by omega) (.num (c:=109) (j:=1) (lo:=0) (hi:=3) (by decide) rfl (by omega) (by omega) (.num (c:=100) (j:=2) (lo:=0) (hi:=1999) (by decide) rfl (by omega) (by omega) .nil)) true true (by decide +kernel) (by rfl) (fun _=>DF) (fun _=>by rfl) (by omega) rfl ae (fun H w0 bs w R hB hS hd=>?_) hd
  refine uH (x0:=0) (hs:=0) (hg:=g) (tg:=s) (oi:=0) (og:=g) hB hS hT ho (by omega) hg hs (by omega) hg (fun E' w0' bs' w' h2 hB hS=>?_)
  exact hd 0 0 T C { K with tb:=ov K.tb 0 g,o:=some (bJ 0 g 2 1 s) } (some (0,g)) E' _ w0' bs' w' ⟨rfl,rfl,rfl,rfl,rfl,rfl⟩ h2 hB hS
 ·rintro e n T' C' K' D' E' Ms' w0' bs' w' ⟨rfl,rfl,rfl,rfl,rfl,rfl⟩ h2 hB hS
  exact hR K' E' w0' bs' w' h2 hB hS
theorem eC {m:Nat}{s:ByteArray}{g:Int}{mf0:Nat}(hg:1≤g∧g≤4294967295)(hm:m<c.m)(h4:c.m≤4)(hT:MH c p T C K (some (0,g)) N E)(hN:N+1<100000)(hB:Mps W As w0 bs (qr K mf0 g s Ms))(hS:St w0 bs w (E++H1))
  (hR:∀ E' w0' bs' w',MH c p T C K (some (0,g)) (N+1) E'->Mps W As w0' bs' (qr K mf0 g s Ms)->St w0' bs' w' (E'++H1)->ab R (.agg (bZ 0 0)) w') :
  Calls prog 7 #[.pointer p,.agg (aQ [10,m,0,0,0] eA)] w R:=by
 unfold qr at hB hR
 exact sR (i:=0) (g:=g) (hs:=0) (h:=g) hm h4 (by omega) hg 1 0 (.inl ⟨inferInstance,rfl,rfl⟩) hT hN hB hS hR
theorem SE {m:Nat}{s:ByteArray}{g:Int}{mf0:Nat}(hg:1≤g∧g≤4294967295)(hm:m<c.m)(h4:c.m≤4)(hT:MH c p T C K (some (0,g)) N E)(hN:N+1<100000)(hB:Mps W As w0 bs (Cg K mf0 g s Ms))(hS:St w0 bs w (E++H1))
  (hR:∀ E' w0' bs' w',MH c p T C K (some (0,g)) (N+1) E'->Mps W As w0' bs' (Cg K mf0 g s Ms)->St w0' bs' w' (E'++H1)->ab R (.agg (bZ 7 0)) w') :
  Calls prog 7 #[.pointer p,.agg (aQ [10,m,0,0,0] eA)] w R:=by
 unfold Cg at hB hR
 exact sR (i:=0) (g:=g) (hs:=0) (h:=g) hm h4 (by omega) hg 0 7 (.inr ⟨inferInstance,rfl,rfl⟩) hT hN hB hS hR
theorem rk {s:ByteArray}{g:Int}{mf0 k B:Nat}(ho:K.o=some (bJ 0 g 1 0 s))(hL:0<K.L.length)(hI:PS c 0 g k B T C)(hT:MH c p T C K D N E)(hN:N+1<100000)(hB:Mps W As w0 bs (qr K mf0 g s Ms))(hS:St w0 bs w (E++H1))
  (hR:D4 c p 0 g k B K D N (qr K mf0 g s Ms) W As H1 (fun e=>e=0) R):Calls prog 7 #[.pointer p,.agg (aQ [14,0,0,0,0] eA)] w R:=by
 unfold qr at hB hR
 exact sV (n:=1) (l:=[(vI 0,.agg (fd 0 g 0 g))]) (l2:=[(.agg (vD 0 g),vI 5)]) (.inr ⟨rfl,0,g,s,ho⟩) (.inr ⟨0,g,0,g,rfl⟩) hL hI hT hN hB hS hR
theorem gh {s:ByteArray}{g:Int}{mf0:Nat}(hL:0<K.L.length)(hT:MH c p T C K D N E)(hB:Mps W As w0 bs (qr K mf0 g s Ms))(hO:St w0 bs w H)[hc:Cut H E H1]
  (hR:∀ w0' bs' w',Mps W As w0' bs' (qr K mf0 g s Ms)->St w0' bs' w' (E++H1)->ab R (.slice none 0 0) w'):Calls prog 11 #[.pointer p] w R:=by
 unfold qr at hB hR
 exact rX (l:=[(.agg (vD 0 g),vI 5)]) hB hO hT hL hR
theorem PS.more {hn k B B' : Nat}{hg:Int}(h:PS c hn hg k B T C)(hb:B≤B'):PS c hn hg k B' T C:=⟨h.1,h.2.1,h.2.2.1,h.2.2.2.1,h.2.2.2.2.1.more hb,h.2.2.2.2.2⟩
theorem fq (hB:Mps W [] w0 bs Ms)(hS:St w0 bs w H):St W [] w []:=⟨hB.all hS,by simp,.nil,by simp⟩
abbrev c40:Cfg:=⟨4,1,1,1,1,2,1,1,2,1⟩
theorem zm:CfgW c40:=by refine ⟨?_,?_,?_,?_,?_,?_,?_,?_,?_⟩ <;> decide
theorem mF:TagW { data:=#[109,97,105,110] }:=⟨by decide,by decide,fun i h=>by
 have h' : i<4:=h
 match i,h' with
 | 0,_=>exact(by decide:32≤(109:UInt8).toNat∧(109:UInt8).toNat<127)
 | 1,_=>exact(by decide:32≤(97:UInt8).toNat∧(97:UInt8).toNat<127)
 | 2,_=>exact(by decide:32≤(105:UInt8).toNat∧(105:UInt8).toNat<127)
 | 3,_=>exact(by decide:32≤(110:UInt8).toNat∧(110:UInt8).toNat<127)⟩
theorem Ct:TagW { data:=#[120] }:=⟨by decide,by decide,fun i h=>by
 have h' : i<1:=h
 match i,h' with
 | 0,_=>exact(by decide:32≤(120:UInt8).toNat∧(120:UInt8).toNat<127)⟩
theorem my (hB:Mps W As w0 bs Ms)(hO:St w0 bs w H)(hR:∀ w0' bs' w',Mps W As w0' bs' Ms->St w0' bs' w' H->ab R (.bool true) w'):Calls prog 4 #[] w R:=by
 have hS:=hO
 clear hO
 have heq:=uF (e:=0) (n:=0)
 have hR':=HD hR
 have hn:cO ((c40.z:Nat):Int) c40.fs=true:=by decide
 have hn':=HD hn
 have k1:=HD (rfl:1=1)
 have k2:=HD (rfl:1=1)
 have k3:=HD (rfl:1=1)
 clear hR hn
 go_enter func4,ntmps4
 go_wp2_with (first|go_at_call 6;refine uR (c:=c40) zm hB hS hn'.out ?_;clear hB hS;intro p K E w0 bs w hT hK1 hK2 hK3 hB hS;unfold ab|(go_at_call 7;first|(clear k1;refine pM mF zm hK1 hK2 hK3 hT hB hS ?_;clear hT hB hS hK1 hK2 hK3;intro T C K E mf0 w0 bs w hI hT ho hL hB hS;unfold ab)|(clear k2;refine eC (m:=0) (by decide) (by decide) (by decide) hT (by decide) hB hS ?_;clear hT hB hS;intro E w0 bs w hT hB hS;unfold ab)|(clear k3;refine sU mF (by decide) (by decide) ho hT (by decide) hB hS ?_;clear hT hB hS ho hL;intro K E w0 bs w hT hB hS;unfold ab)|(refine SE (m:=0) (by decide) (by decide) (by decide) hT (by decide) hB hS ?_;clear hT hB hS;intro E w0 bs w hT hB hS;unfold ab))|refine wV (.binOp .neq 35 _ _ _) rfl (bK rfl) ?_|refine wV (.binOp .eql 35 _ _ _) rfl (dh rfl) ?_|refine wU (mR rfl) ?_|refine aL rfl ?_)
 unfold Cg at hB
 exact hR'.out w0 bs _ hB.drop.drop.drop.drop.drop.drop.drop.drop hS.p
open Go Go.RowKit Go.Mm
variable {R:Ending->World->Prop}{w:World}{w0:World}{As bs:List Nat}{H H' H1 H2 H3 E E' E1 E2 Ea Eh Er:List Ent}
theorem kv {n:Int}(h:(Lit.int .u8 n).wf=true):0≤n∧n≤255:=by
 simp[Lit.wf,IntKind.min,IntKind.max,IntKind.signed,IntKind.bits] at h
 omega
theorem xC {k m s:Nat}(hk:k<m)(h1:1≤s)(h2:s<m):k≠(k+s) % m:=by
 by_cases h:k+s<m
 ·rw[Nat.mod_eq_of_lt h];omega
 ·rw[Nat.mod_eq_sub_mod (by omega),Nat.mod_eq_of_lt (by omega)];omega
theorem sO {W:World}{x0 x1 x2 x3 x4 x5 x6 x7:Nat}(h0:x0<256)(h1:x1<256)(h2:x2<256)(h3:x3<256)(h4:x4<256)(h5:x5<256)(h6:x6<256)(h7:x7<256)(v:Value){n b off:Nat}{F:Nat->Nat->Value}(hv:Flat W [.i .u8] v n b off F)(hR:∀ w',Chg W w' []->ab R (.bool true) w') :
  Calls prog 3 #[.agg (om x0 x1 x2 x3 x4 x5 x6 x7),v] W R:=by
 have hS:St W [] W []:=St.start0
 have hB:Mps W [] W [] []:=Mps.start hS
 have hlen:=hv.len (t:=24) underlying24
 have hone:=yS (x0:=x0) (x1:=x1) (x2:=x2) (x3:=x3) (x4:=x4) (x5:=x5) (x6:=x6) (x7:=x7)
 have hR':=HD hR
 clear hR
 by_cases hn:150<n
 ·have q1:decide (150<(n:Int))=true:=by simp;omega
  have q2:decide (150<n)=true:=by simp;omega
  clear h0 h1 h2 h3 h4 h5 h6 h7
  go_enter func3,ntmps3
  go_wp2_with (first|refine am 23 rfl hS ?_;clear hS;intro b1 w _ hS|go_at_call 4;refine my hB hS ?_;clear hB hS;intro w0 bs w hB hS;unfold ab|refine wV (.call { callee:=.builtin .len,args:=#[_],argTypes:=#[_] }) rfl (aA rfl) ?_)
  exact hR'.out _ (hB.all hS)
 have q1:decide (150<(n:Int))=false:=by simp;omega
 have q2:decide (150<n)=false:=by simp;omega
 obtain⟨mx,hmx⟩:∃ mx,max 2 (1+x1 % 4)=mx:=⟨_,rfl⟩
 have hmxi:MaxIs 2 ((1+x1 % 4:Nat):Int) (mx:Int):=⟨by subst hmx;split <;> omega⟩
 obtain⟨G,hG⟩:∃ G,sG x0 x1 x2 x3 x4 x5 x6 x7=G:=⟨_,rfl⟩
 have hGm:G.m=1+x1 % 4:=by rw[← hG];rfl
 obtain⟨c,hc⟩:∃ c:Cfg,c=⟨G.z,mx,G.st,G.bz,G.qu,G.qt,G.ba,G.bs,G.cp,G.fs⟩:=⟨_,rfl⟩
 have hcm:c.m=mx:=by rw[hc]
 have hcf:CfgW c:=by
  have hw:=FP x0 x1 x2 x3 x4 x5 x6 x7
  rw[hG] at hw
  rw[hc]
  exact⟨hw.z,by show 1≤mx∧mx≤4;omega,hw.st,hw.bz,hw.qu,hw.qt,hw.ba,hw.bs,hw.fs⟩
 have hm2:2≤c.m:=by omega
 have h4m:c.m≤4:=hcf.m.2
 have hst:SetAt (dD G) (0+1) (.int .i64 (mx:Int)) (dD c):=⟨by subst hc;rfl,(by decide:1<10)⟩
 have hG1:CellAt (dD G) (0+1) (.int .i64 ((1+x1 % 4:Nat):Int)):=⟨by rw[← hGm];rfl⟩
 have hso:SetsAt DR 0 (dD G) (dD G):=⟨by simp[dD],by simp[dD]⟩
 have hcc:CellsAt (dD c) 0 10 (dD c):=⟨fun j hj=>by simp,rfl⟩
 have hcz:SizeIs (dD G) 10:=⟨rfl⟩
 have hco:=kr (c:=c)
 have hgo:=kr (c:=G)
 have hnw:cO c.z c.fs=true:=by have:=hcf.z;have:=hcf.fs;unfold cO;simp;omega
 have hnw':=HD hnw
 have hcf':=HD hcf
 have heq:=uF (e:=0) (n:=0)
 have hln0:LenV prog 43 (.slice none 0 0) 0:=⟨⟨_,_,rfl⟩,⟨101,by kernel_rfl⟩⟩
 have hs:∀ (w:World) (H:List Ent) (R:Ending->World->Prop),St W [] w H->(∀ w',St W [] w' H->ab R (.agg (dD G)) w')->Calls prog 5 #[.agg (om x0 x1 x2 x3 x4 x5 x6 x7)] w R:=fun w H R hS hR=>by
  subst hG
  exact zv h0 h1 h2 h3 h4 h5 h6 h7 hS hR
 have hs':=HD hs
 clear h0 h1 h2 h3 h4 h5 h6 h7 hG hGm hc hcm hmx hnw hs
 go_enter func3,ntmps3
 go_wp2_with (first|refine wV (.call { callee:=.builtin .max,args:=#[_,_],argTypes:=#[_,_] }) rfl (mQ rfl) ?_|refine am 23 rfl hS ?_;clear hS;intro b1 w _ hS|refine aq 28 rfl hS ?_;clear hS;intro b5 w _ hS|go_at_call 5;refine hs'.out _ _ _ hS ?_;clear hS;intro w hS;unfold ab|go_at_call 6;refine uR (c:=c) hcf'.out hB hS hnw'.out ?_;clear hB hS;intro p K E w0 bs w hT hK1 hK2 hK3 hB hS;unfold ab|go_at_call 7;refine pM Ct hcf'.out hK1 hK2 hK3 hT hB hS ?_;clear hT hB hS hK1 hK2 hK3;intro T C K E mf0 w0 bs w hI hT ho hL hB hS;unfold ab|refine wV (.binOp .neq 35 _ _ _) rfl (bK rfl) ?_|refine wV (.call { callee:=.builtin .len,args:=#[_],argTypes:=#[_] }) rfl (aA rfl) ?_|refine aL rfl ?_|(first|refine af rfl hS ?_|refine au rfl hS ?_)|(first|refine bP rfl hS ?_|refine ak rfl hS ?_);clear hS;intro w hS)
 go_loopw [9,8] (fun u y wr=>∃ (i k N:Nat) (T:Ar) (C:Cy) (E:List Ent) (w0:World) (bs:List Nat),i≤n∧u=.int .i64 i∧y=.int .i64 k∧N≤1+11 * i∧PS c 0 c.fs k (6 * i) T C∧MH c p T C K (some (0,c.fs)) N E∧Mps W [] w0 bs (qr K mf0 c.fs { data:=#[120] } [])∧St w0 bs wr (E++(⟨b5,dD c,28,true⟩::⟨b1,om x0 x1 x2 x3 x4 x5 x6 x7,23,true⟩::[]))) (fun u _ _=>n - (intOf u).toNat)
 case atStart=>exact⟨0,0,1,T,C,E,w0,bs,Nat.zero_le _,rfl,rfl,by omega,hI,hT,hB,hS.p⟩
 case round=>
  clear hS hI hT hB
  obtain⟨i,k,N,T,C,E,w0,bs,hi,rfl,rfl,hNi,hI,hT,hB,hS⟩:=hrel
  by_cases hlt:i<n
  ·have d1:decide (i<n)=true:=decide_eq_true hlt
   have d2:decide ((i:Int)<n)=true:=DT
   have hix:=hv.idx1 (t:=24) rfl underlying24 (by kernel_rfl) hlt
   have hcell:=hv.cell1 rfl hlt
   obtain⟨d,hd,hdw⟩:=hv.int (i:=i) (j:=0) hlt rfl
   obtain⟨d0,d9⟩:=kv hdw
   obtain⟨e,rfl⟩:∃ e:Nat,d=e:=⟨d.toNat,by omega⟩
   rw[hd] at hcell
   clear hd hdw
   have he:e<256:=by omega
   have hk:=hI.1
   have hm4:0<c.m:=by omega
   obtain⟨q,hq⟩:∃ q,e / 16=q:=⟨_,rfl⟩
   have hqi:QuoIs .u8 (e:Int) 16 _:=t9 (m:=16) he (by omega)
   rw[hq] at hqi
   have hqs:Small (q:Int):=⟨by omega,by omega⟩
   have hks:SumIs (k:Int) 1 ((k+1:Nat):Int):=eM (b:=1) (by omega)
   have hmd:DifIs (c.m:Int) 1 ((c.m - 1:Nat):Int):=⟨by omega,by omega,by omega⟩
   have hqr:RemIs (q:Int) ((c.m - 1:Nat):Int) ((q % (c.m - 1):Nat):Int):=ej (by omega)
   have hq1:q % (c.m - 1)<c.m - 1:=Nat.mod_lt _ (by omega)
   have hss:SumIs ((k+1:Nat):Int) ((q % (c.m - 1):Nat):Int) ((k+1+q % (c.m - 1):Nat):Int):=eM (by omega)
   have htr:RemIs ((k+1+q % (c.m - 1):Nat):Int) (c.m:Int) (((k+1+q % (c.m - 1)) % c.m:Nat):Int):=ej hm4
   have hto:(k+1+q % (c.m - 1)) % c.m<c.m:=Nat.mod_lt _ hm4
   have hne:k≠(k+1+q % (c.m - 1)) % c.m:=by
    have:=xC (k:=k) (m:=c.m) (s:=1+q % (c.m - 1)) hk (by omega) (by omega)
    rwa [← Nat.add_assoc] at this
   obtain⟨to,hte⟩:∃ to,(k+1+q % (c.m - 1)) % c.m=to:=⟨_,rfl⟩
   rw[hte] at htr hto hne
   have hg:RemIs (q:Int) 8 ((q % 8:Nat):Int):=ej (m:=8) (by omega)
   have hg8:q % 8<8:=Nat.mod_lt _ (by omega)
   have hqm:RemIs (q:Int) (c.m:Int) ((q % c.m:Nat):Int):=ej hm4
   have hqmm:q % c.m<c.m:=Nat.mod_lt _ hm4
   have hq6:RemIs (q:Int) 6 ((q % 6:Nat):Int):=ej (m:=6) (by omega)
   have hq7:SumIs 1 ((q % 6:Nat):Int) ((1+q % 6:Nat):Int):=eM (a:=1) (by omega)
   have hq8:1≤1+q % 6∧1+q % 6≤10000:=by omega
   have hq9:6 * i+(1+q % 6)≤6 * (i+1):=by omega
   have his:SumIs (i:Int) 1 ((i+1:Nat):Int):=eM (b:=1) (by omega)
   have hNb:=HD (show N+20<100000 by omega)
   have hNj:=HD (show N+11≤1+11 * (i+1) by omega)
   have hij:=HD (show i+1≤n by omega)
   have hqj:=HD hq9
   have hmb:=HD (show 6 * i+(1+q % 6)<1000000 by omega)
   have hms:=HD (show n - (i+1)<n - i by omega)
   obtain⟨r,hr⟩:∃ r,e % 16=r:=⟨_,rfl⟩
   have hrJ:∀ J:Nat,r=J->RemIs (e:Int) 16 (J:Int):=fun J h=>by
    have:=ej (n:=e) (m:=16) (by omega)
    rw[hr,h] at this
    exact this
   have hr16:r<16:=by omega
   clear hlt d0 d9 he hq hNi hi hq9
   go_wp2_with (first|refine wV (.binOp .quo _ _ _ _) rfl (jD rfl) ?_|refine wU (ly rfl) ?_|refine wV (.load 5 _) rfl (eG rfl (fq hB hS)) ?_|refine wV (.call { callee:=.builtin .len,args:=#[_],argTypes:=#[_] }) rfl (aA rfl) ?_|refine aM rfl ?_)
   refine aj (X:=Unit) (fun w=>St w0 bs w (E++(⟨b5,dD c,28,true⟩::⟨b1,om x0 x1 x2 x3 x4 x5 x6 x7,23,true⟩::[]))) [] (hS.drawn _) (by kernel_rfl) (by kernel_rfl) ?_
   iterate 12 first|(refine bF 0 (fun _=>rfl) rfl (fun χ w hw=>ac _ _ rfl (show St _ _ w _ from hw)) ?_)|(refine oP (fun χ w=>ad rfl) ?_)|(refine oP (fun χ w=>ag rfl) ?_)|(refine oP (fun χ w=>cw rfl) ?_)|(refine oP (fun χ w=>bL rfl) ?_)|(refine oP (fun χ w=>aC rfl) ?_)|(refine oP (fun χ w=>aG rfl) ?_)
   refine aV rfl ?_
   intro χ w hS
   replace hS:St w0 bs w (E++(⟨b5,dD c,28,true⟩::⟨b1,om x0 x1 x2 x3 x4 x5 x6 x7,23,true⟩::[])):=hS
   clear χ
   rcases(by omega:r=0∨r=1∨r=2∨r=3∨r=4∨r=5∨r=6∨r=7∨r=8∨r=9∨r=10∨r=11∨r=12∨r=13∨r=14∨r=15) with h|h|h|h|h|h|h|h|h|h|h|h|h|h|h|h
   iterate 3
    ·have hri:=hrJ _ h
     simp at hri
     clear h hr hrJ hr16
     go_wp2_with (first|refine wV (.binOp .rem _ _ _ _) rfl (cw rfl) ?_|refine wV (.binOp .add _ _ _ _) rfl (bL rfl) ?_|refine wV (.load 5 _) rfl (eG rfl (fq hB hS)) ?_|go_at_call 7;refine eC hcf'.out.fs hI.1 h4m hT (by have:=hNb.out;omega) hB hS ?_;clear hT hB hS;intro E w0 bs w hT hB hS;unfold ab|go_at_call 8;refine v4 (k:=k) (to:=to) (g:=q % 8) hto hne h4m hg8 hI hT (by have:=hNb.out;omega) hB hS ?_;clear hI hT hB hS;intro T C E w0 bs w hI hT hB hS;unfold ab|go_at_call 10;refine jw hS ?_;clear hS;intro w hS;unfold ab|go_at_call 11;refine gh hL hT hB hS ?_;clear hB hS;intro w0 bs w hB hS;unfold ab|refine wV (.binOp .neq 35 _ _ _) rfl (bK rfl) ?_|refine wV (.call { callee:=.builtin .len,args:=#[_],argTypes:=#[_] }) rfl (aA rfl) ?_|refine aM rfl ?_|refine aL rfl ?_)
     go_roundw
     case rel=>exact⟨i+1,to,N+(4+1),T,C,E,w0,bs,hij.out,rfl,rfl,by have:=hNj.out;omega,hI.more (by omega),hT,hB,hS.p⟩
     case measure=>have:=hms.out;simp[intOf];omega
   iterate 3
    ·have hri:=hrJ _ h
     simp at hri
     clear h hr hrJ hr16
     by_cases hmk:i8 (some (some T.1)) 1 false=4
     ·go_wp2_with (first|refine wV (.binOp .rem _ _ _ _) rfl (cw rfl) ?_|refine wV (.binOp .add _ _ _ _) rfl (bL rfl) ?_|refine wV (.load 5 _) rfl (eG rfl (fq hB hS)) ?_|go_at_call 9;refine pN (k:=k) (to:=to) (g:=q % 8) hto hne h4m hg8 hI hT (by have:=hNb.out;omega) hB hS (fun _=>?_) (fun h=>absurd hmk h);clear hT hB hS;intro E w0 bs w hT hB hS;unfold ab|go_at_call 7;refine eC hcf'.out.fs hI.1 h4m hT (by have:=hNb.out;omega) hB hS ?_;clear hT hB hS;intro E w0 bs w hT hB hS;unfold ab|go_at_call 10;refine jw hS ?_;clear hS;intro w hS;unfold ab|go_at_call 11;refine gh hL hT hB hS ?_;clear hB hS;intro w0 bs w hB hS;unfold ab|refine wV (.binOp .neq 35 _ _ _) rfl (bK rfl) ?_|refine wV (.call { callee:=.builtin .len,args:=#[_],argTypes:=#[_] }) rfl (aA rfl) ?_|refine aM rfl ?_|refine aL rfl ?_)
      go_roundw
      case rel=>exact⟨i+1,k,N+(1+1),T,C,E,w0,bs,hij.out,rfl,rfl,by have:=hNj.out;omega,hI.more (by omega),hT,hB,hS.p⟩
      case measure=>have:=hms.out;simp[intOf];omega
     ·go_wp2_with (first|refine wV (.binOp .rem _ _ _ _) rfl (cw rfl) ?_|refine wV (.binOp .add _ _ _ _) rfl (bL rfl) ?_|refine wV (.load 5 _) rfl (eG rfl (fq hB hS)) ?_|go_at_call 9;refine pN (k:=k) (to:=to) (g:=q % 8) hto hne h4m hg8 hI hT (by have:=hNb.out;omega) hB hS (fun h=>absurd h hmk) (fun _=>?_);clear hI hT hB hS hmk;intro T C E w0 bs w hI hT hB hS;unfold ab|go_at_call 7;refine eC hcf'.out.fs hI.1 h4m hT (by have:=hNb.out;omega) hB hS ?_;clear hT hB hS;intro E w0 bs w hT hB hS;unfold ab|go_at_call 10;refine jw hS ?_;clear hS;intro w hS;unfold ab|go_at_call 11;refine gh hL hT hB hS ?_;clear hB hS;intro w0 bs w hB hS;unfold ab|refine wV (.binOp .neq 35 _ _ _) rfl (bK rfl) ?_|refine wV (.call { callee:=.builtin .len,args:=#[_],argTypes:=#[_] }) rfl (aA rfl) ?_|refine aM rfl ?_|refine aL rfl ?_)
      go_roundw
      case rel=>exact⟨i+1,to,N+(10+1),T,C,E,w0,bs,hij.out,rfl,rfl,by have:=hNj.out;omega,hI.more (by omega),hT,hB,hS.p⟩
      case measure=>have:=hms.out;simp[intOf];omega
   iterate 4
    ·have hri:=hrJ _ h
     simp at hri
     clear h hr hrJ hr16
     have k1:=HD (rfl:1=1)
     go_wp2_with (first|refine wV (.binOp .rem _ _ _ _) rfl (cw rfl) ?_|refine wV (.binOp .add _ _ _ _) rfl (bL rfl) ?_|refine wV (.load 5 _) rfl (eG rfl (fq hB hS)) ?_|(go_at_call 7;first|(clear k1;refine zw (i:=q % c.m) hqmm h4m hI hT (by have:=hNb.out;omega) hB hS ?_;clear hI hT hB hS;intro e0 T C E w0 bs w _ hI hT hB hS;unfold ab)|(refine eC hcf'.out.fs hI.1 h4m hT (by have:=hNb.out;omega) hB hS ?_;clear hT hB hS;intro E w0 bs w hT hB hS;unfold ab))|go_at_call 10;refine jw hS ?_;clear hS;intro w hS;unfold ab|go_at_call 11;refine gh hL hT hB hS ?_;clear hB hS;intro w0 bs w hB hS;unfold ab|refine wV (.binOp .neq 35 _ _ _) rfl (bK rfl) ?_|refine wV (.call { callee:=.builtin .len,args:=#[_],argTypes:=#[_] }) rfl (aA rfl) ?_|refine aM rfl ?_|refine aL rfl ?_|refine af rfl hS ?_)
     go_roundw
     case rel=>exact⟨i+1,k,N+(1+1),T,C,E,w0,bs,hij.out,rfl,rfl,by have:=hNj.out;omega,hI.more (by have:=hqj.out;omega),hT,hB,hS.p⟩
     case measure=>have:=hms.out;simp[intOf];omega
   ·have hri:=hrJ _ h
    simp at hri
    clear h hr hrJ hr16
    have k1:=HD (rfl:1=1)
    go_wp2_with (first|refine wV (.binOp .rem _ _ _ _) rfl (cw rfl) ?_|refine wV (.binOp .add _ _ _ _) rfl (bL rfl) ?_|refine wV (.load 5 _) rfl (eG rfl (fq hB hS)) ?_|(go_at_call 7;first|(clear k1;refine sT hI hT (by have:=hNb.out;omega) hB hS ?_;clear hI hT hB hS;intro e0 T C E w0 bs w _ hI hT hB hS;unfold ab)|(refine eC hcf'.out.fs hI.1 h4m hT (by have:=hNb.out;omega) hB hS ?_;clear hT hB hS;intro E w0 bs w hT hB hS;unfold ab))|go_at_call 10;refine jw hS ?_;clear hS;intro w hS;unfold ab|go_at_call 11;refine gh hL hT hB hS ?_;clear hB hS;intro w0 bs w hB hS;unfold ab|refine wV (.binOp .neq 35 _ _ _) rfl (bK rfl) ?_|refine wV (.call { callee:=.builtin .len,args:=#[_],argTypes:=#[_] }) rfl (aA rfl) ?_|refine aM rfl ?_|refine aL rfl ?_)
    go_roundw
    case rel=>exact⟨i+1,k,N+(1+1),T,C,E,w0,bs,hij.out,rfl,rfl,by have:=hNj.out;omega,hI.more (by have:=hqj.out;omega),hT,hB,hS.p⟩
    case measure=>have:=hms.out;simp[intOf];omega
   ·have hri:=hrJ _ h
    simp at hri
    clear h hr hrJ hr16
    have k1:=HD (rfl:1=1)
    go_wp2_with (first|refine wV (.binOp .rem _ _ _ _) rfl (cw rfl) ?_|refine wV (.binOp .add _ _ _ _) rfl (bL rfl) ?_|refine wV (.load 5 _) rfl (eG rfl (fq hB hS)) ?_|(go_at_call 7;first|(clear k1;refine rk ho hL hI hT (by have:=hNb.out;omega) hB hS ?_;clear hI hT hB hS;intro e0 T C E w0 bs w _ hI hT hB hS;unfold ab)|(refine eC hcf'.out.fs hI.1 h4m hT (by have:=hNb.out;omega) hB hS ?_;clear hT hB hS;intro E w0 bs w hT hB hS;unfold ab))|go_at_call 10;refine jw hS ?_;clear hS;intro w hS;unfold ab|go_at_call 11;refine gh hL hT hB hS ?_;clear hB hS;intro w0 bs w hB hS;unfold ab|refine wV (.binOp .neq 35 _ _ _) rfl (bK rfl) ?_|refine wV (.call { callee:=.builtin .len,args:=#[_],argTypes:=#[_] }) rfl (aA rfl) ?_|refine aM rfl ?_|refine aL rfl ?_)
    go_roundw
    case rel=>exact⟨i+1,k,N+(1+1),T,C,E,w0,bs,hij.out,rfl,rfl,by have:=hNj.out;omega,hI.more (by have:=hqj.out;omega),hT,hB,hS.p⟩
    case measure=>have:=hms.out;simp[intOf];omega
   iterate 4
    ·have hri:=hrJ _ h
     simp at hri
     clear h hr hrJ hr16
     have k1:=HD (rfl:1=1)
     go_wp2_with (first|refine wV (.binOp .rem _ _ _ _) rfl (cw rfl) ?_|refine wV (.binOp .add _ _ _ _) rfl (bL rfl) ?_|refine wV (.load 5 _) rfl (eG rfl (fq hB hS)) ?_|(go_at_call 7;first|(clear k1;refine v7 (n:=1+q % 6) hq8 h4m hmb.out hI hT (by have:=hNb.out;omega) hB hS ?_;clear hI hT hB hS;intro e0 T C E w0 bs w _ hI hT hB hS;unfold ab)|(refine eC hcf'.out.fs hI.1 h4m hT (by have:=hNb.out;omega) hB hS ?_;clear hT hB hS;intro E w0 bs w hT hB hS;unfold ab))|go_at_call 10;refine jw hS ?_;clear hS;intro w hS;unfold ab|go_at_call 11;refine gh hL hT hB hS ?_;clear hB hS;intro w0 bs w hB hS;unfold ab|refine wV (.binOp .neq 35 _ _ _) rfl (bK rfl) ?_|refine wV (.call { callee:=.builtin .len,args:=#[_],argTypes:=#[_] }) rfl (aA rfl) ?_|refine aM rfl ?_|refine aL rfl ?_)
     go_roundw
     case rel=>exact⟨i+1,k,N+(1+1),T,C,E,w0,bs,hij.out,rfl,rfl,by have:=hNj.out;omega,hI.more (by have:=hqj.out;omega),hT,hB,hS.p⟩
     case measure=>have:=hms.out;simp[intOf];omega
  ·obtain rfl:i=n:=by omega
   have d1:decide (i<i)=false:=DF
   have d2:decide ((i:Int)<i)=false:=DF
   clear hi hlt
   go_wp2_with (first|go_at_call 4;refine my hB hS ?_;clear hB hS;intro w0 bs w hB hS;unfold ab|refine wV (.call { callee:=.builtin .len,args:=#[_],argTypes:=#[_] }) rfl (aA rfl) ?_)
   exact hR'.out _ (hB.all hS)
theorem iS {v:Value}(h:yO (.i .u8) v):∃ a:Nat,v=.int .u8 (a:Int)∧a<256:=by
 obtain⟨x,rfl,hw⟩:=h
 have:=kv hw
 exact⟨x.toNat,by rw[Int.toNat_of_nonneg this.1],by omega⟩
theorem BO {W:World}(cs:List Value)(wc:OkCells [.i .u8,.i .u8,.i .u8,.i .u8,.i .u8,.i .u8,.i .u8,.i .u8] cs)(v:Value){n b off:Nat}{F:Nat->Nat->Value}(hv:Flat W [.i .u8] v n b off F)(hR:∀ w',Chg W w' []->ab R (.bool true) w') :
  Calls prog 3 #[.agg cs.toArray,v] W R:=by
 obtain _|⟨h0,wc⟩:=wc
 obtain _|⟨h1,wc⟩:=wc
 obtain _|⟨h2,wc⟩:=wc
 obtain _|⟨h3,wc⟩:=wc
 obtain _|⟨h4,wc⟩:=wc
 obtain _|⟨h5,wc⟩:=wc
 obtain _|⟨h6,wc⟩:=wc
 obtain _|⟨h7,wc⟩:=wc
 cases wc
 obtain⟨x0,rfl,w0⟩:=iS h0
 obtain⟨x1,rfl,w1⟩:=iS h1
 obtain⟨x2,rfl,w2⟩:=iS h2
 obtain⟨x3,rfl,w3⟩:=iS h3
 obtain⟨x4,rfl,w4⟩:=iS h4
 obtain⟨x5,rfl,w5⟩:=iS h5
 obtain⟨x6,rfl,w6⟩:=iS h6
 obtain⟨x7,rfl,w7⟩:=iS h7
 exact sO w0 w1 w2 w3 w4 w5 w6 w7 v hv hR
end Go.Proofs.YtnbgljbhkeffkaaGreatDoor
