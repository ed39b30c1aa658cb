/-
  Contracts of what the law TopPasses reaches, part 16: Stk Arn ArnB ArnD ArnF.
-/
import Derived.Test.YtnbgljbhkeffkaaGreatDoorQ11
import Derived.Test.YtnbgljbhkeffkaaGreatDoorQ13
import Derived.Test.YtnbgljbhkeffkaaGreatDoorQ08
open Go.Proofs.Tryz
set_option linter.unusedVariables false
set_option linter.unusedSimpArgs false
set_option maxHeartbeats 4000000
set_option maxRecDepth 100000
namespace Go.Proofs.YtnbgljbhkeffkaaGreatDoor
open Go Go.RowKit Go.Mm
variable {R:Ending->World->Prop}{w:World}{w0:World}{bs:List Nat}{H H' H1 E:List Ent}
abbrev Rf:=Int×Int
theorem zi {l:List Rf}{q:Nat}(hq:q≤l.length):(l.flatMap dE).take (q * 2)=(l.take q).flatMap dE:=by
 have h1:l.flatMap dE=(l.take q).flatMap dE++(l.drop q).flatMap dE:=by
  conv=>lhs;rw[← List.take_append_drop q l]
  rw[List.flatMap_append]
 have h2:((l.take q).flatMap dE).length=q * 2:=by rw[bw aW,List.length_take,Nat.min_eq_left hq]
 rw[h1,← h2,List.take_left']
 rfl
theorem zj {l:List Rf}{q:Nat}(hq:q≤l.length):(l.flatMap dE).drop (q * 2)=(l.drop q).flatMap dE:=by
 have h1:l.flatMap dE=(l.take q).flatMap dE++(l.drop q).flatMap dE:=by
  conv=>lhs;rw[← List.take_append_drop q l]
  rw[List.flatMap_append]
 have h2:((l.take q).flatMap dE).length=q * 2:=by rw[bw aW,List.length_take,Nat.min_eq_left hq]
 rw[h1,← h2,List.drop_left']
 rfl
class MidV (P:Program)(t:TypeId)(v:Value)(lo hi:Int)(v' : outParam Value):Prop where
 h:∀ w,(Instr.sliceAt t v (some (.int .i64 lo)) (some (.int .i64 hi)) none).run P w=.ok v' w
theorem mO {P:Program}{o:Oper}{a:Act}{w:World}{v:Value}{t:TypeId}{x y z:Operand}(ho:o.op=.slice t x (some y) (some z) none){lo hi:Int}{v' : Value}[hx:Ev a x v][hy:Ev a y (.int .i64 lo)][hz:Ev a z (.int .i64 hi)][hp:MidV P t v lo hi v'] : ay P o a w v':=by
 unfold ay
 simp only[execOp,ho,hx.h,Option.map_none,Option.map_some,hy.h,hz.h,Sem.run_bind,hp.h,Result.andThen_ok,Sem.run_pure]
theorem uP {P:Program}{t e:TypeId}{m z b off lo hi:Nat}(ht:P.underlying t=some (.array m e))(hl:lo≤hi)(hh:hi≤m)(hs:(P.info? e).map (·.size)=some z:=by kernel_rfl):∃ o2,(lo<m->o2=off+lo * z)∧MidV P t (.pointer (some ⟨b,off,none⟩)) lo hi (.slice (some ⟨b,o2,none⟩) (hi - lo) (m - lo)):=by
 have h1:0≤(lo:Int):=by omega
 have h2:0≤(hi:Int):=by omega
 have h4:lo≤m:=by omega
 by_cases h3:m=lo
 ·refine⟨off,fun h=>by omega,⟨fun w=>?_⟩⟩
  subst h3
  simp[Instr.sliceAt,run_underlying ht,Instr.sureAddr,Instr.slice,Instr.sliceBounds,Instr.sliceBound,asIntOf,hl,hh,aU hs,Addr.add]
 ·refine⟨off+lo * z,fun _=>rfl,⟨fun w=>?_⟩⟩
  simp[Instr.sliceAt,run_underlying ht,Instr.sureAddr,Instr.slice,Instr.sliceBounds,Instr.sliceBound,asIntOf,hl,hh,h4,aU hs,h3,Addr.add_lit]
def dO (n:Int)(L:List Rf):Array Value:=cX [.bool true,.int .i64 n] dE L []
section
variable {n:Int}{L:List Rf}
instance PD:CellAt (dO n L) 0 (.bool true):=cz rfl
instance IR:CellAt (dO n L) 1 (.int .i64 n):=cz rfl
instance PC (m:Int):SetAt (dO n L) 1 (.int .i64 m) (dO m L):=dv (by simp) rfl
theorem Gc {i:Nat}{x:Rf}(h:L[i]?=some x):CellsAt (dO n L) (2+i * 2) 2 #[.int .i64 x.1,.int .u32 x.2]:=cK aW h rfl
theorem CQ {i:Nat}(h:i<L.length)(s g:Int):SetsAt (dO n L) (2+i * 2) #[.int .i64 s,.int .u32 g] (dO n (L.set i (s,g))):=fX aW (a':=(s,g)) h rfl
end
instance IM:ScalarT prog 118:=⟨by kernel_rfl,by kernel_rfl⟩
def ec:List Rf:=List.replicate 32 (0,0)
instance IQ:BuildT prog 205 [(0,.bool true)] (dO 0 ec):=⟨fun w=>by kernel_rfl⟩
instance IP {b off:Nat} : FieldAt prog 205 1 b off (off+1):=⟨fun w=>by kernel_rfl⟩
instance IN {b off:Nat} : FieldAt prog 205 2 b off (off+2):=⟨fun w=>by kernel_rfl⟩
abbrev Sk:=Nat×List Rf×List Rf
def bU (x:Sk):Ent:=⟨x.1,dO x.2.1.length (x.2.1++x.2.2),205,true⟩
structure SkW (x:Sk):Prop where
 len:x.2.1.length+x.2.2.length=32
 ok:∀ r∈x.2.1,(0≤r.1∧r.1<256)∧1≤r.2∧r.2≤4294967295
theorem z9 (hO:St w0 bs w H)(hR:∀ b w',St w0 bs w' (bU (b,[],ec)::H)->ab R (.pointer (some ⟨b,0,none⟩)) w'):Calls prog 42 #[] w R:=by
 have hS:=hO
 clear hO
 go_enter func42,ntmps42
 go_wp2_with (first|refine am 205 rfl hS ?_;clear hS;intro b w _ hS|refine aL rfl ?_)
 exact hR b _ hS
theorem fy (hO:St w0 bs w H){b:Nat}{n:Int}{L:List Rf}[hH:Has H b (dO n L) 205](hR:∀ w',St w0 bs w' H->ab R (.bool true) w'):Calls prog 263 #[.pointer (some ⟨b,0,none⟩)] w R:=by
 have hS:=hO
 clear hO
 go_enter func263,ntmps263
 go_wp2_with (refine af rfl hS ?_)
 exact hR _ hS
theorem BK {P:Program}{t e:TypeId}{m z b off n:Nat}(ht:P.underlying t=some (.array m e))(hn:n≤m)(hm:0<m)(hs:(P.info? e).map (·.size)=some z:=by kernel_rfl):PreV P t (.pointer (some ⟨b,off,none⟩)) n (.slice (some ⟨b,off,none⟩) n m):=⟨fun w=>by
 have h2:0≤(n:Int):=by omega
 have h3:m≠0:=by omega
 simp[Instr.sliceAt,run_underlying ht,Instr.sureAddr,Instr.slice,Instr.sliceBounds,Instr.sliceBound,asIntOf,hn,aU hs,Addr.add]⟩
theorem qk (hO:St w0 bs w H){b n:Nat}{L:List Rf}(hn:n≤32)[hH:Has H b (dO n L) 205](hR:∀ w',St w0 bs w' H->ab R (.slice (some ⟨b,2,none⟩) n 32) w'):Calls prog 262 #[.pointer (some ⟨b,0,none⟩)] w R:=by
 have hS:=hO
 clear hO
 have hp:=BK (P:=prog) (t:=203) (b:=b) (off:=0+2) (n:=n) underlying203 (z:=2) hn (by decide)
 go_enter func262,ntmps262
 go_wp2_with (first|go_at_call 263;refine fy hS ?_;clear hS;intro w hS;unfold ab|refine av hS (fun hne=>?_);(repeat (go_big_quiet_want;first|((refine aE bk (fun w hS=>ac _ _ rfl hS) ?_);go_big_quiet_on)|(refine fA (.slice _ _ none (some _) none) rfl ?_;refine aH (fun w _=>mN rfl) ?_;go_big_quiet_on)|(go_big_quiet_op;go_big_quiet_on)));refine wpQuiet_nil ?_;clear hS hne;intro w hS)
 exact hR _ hS
theorem tW (hO:St w0 bs w H){b n:Nat}{L:List Rf}(hn:n≤32)[hH:Has H b (dO n L) 205](hR:∀ w',St w0 bs w' H->ab R (.int .i64 n) w'):Calls prog 176 #[.pointer (some ⟨b,0,none⟩)] w R:=by
 have hS:=hO
 clear hO
 go_enter func176,ntmps176
 go_wp2_with (go_at_call 262;refine qk hS hn ?_;clear hS;intro w hS;unfold ab)
 exact hR _ hS
theorem Ab (hO:St w0 bs w H){b:Nat}{l r:List Rf}(hl:l.length+r.length=32)[hH:Has H b (dO l.length (l++r)) 205](hR:∀ v E' w',RS v l E'->St w0 bs w' (E'++H)->ab R v w'):Calls prog 287 #[.pointer (some ⟨b,0,none⟩)] w R:=by
 have hS:=hO
 clear hO
 have hc:CellsAt (dO l.length (l++r)) 2 (l.length * 2) (l.flatMap dE).toArray:=⟨fun j hj=>by
  have h1:(dO l.length (l++r))[2+j]?=((l++r).flatMap dE)[j]?:=by
   simp only[dO,cX,List.getElem?_toArray,List.append_nil]
   rw[List.getElem?_append_right (by simp)]
   simp
  have h2:(l.flatMap dE).length=l.length * 2:=bw aW l
  rw[h1,List.flatMap_append,List.getElem?_append_left (by omega)]
  simp,by rw[List.size_toArray,bw aW]⟩
 obtain⟨n,hn⟩:∃ n,l.length=n:=⟨_,rfl⟩
 have hn':=HD hn
 rw[hn] at hc hH hl
 have hn32:n≤32:=by omega
 clear hn
 go_enter func287,ntmps287
 go_wp2_with (first|go_at_call 262;refine qk hS hn32 ?_;clear hS;intro w hS;unfold ab|(go_at_call 351;refine kQ hS hn'.out hc (by omega) ?_;clear hS;intro v E1 w hA hS;have hone:=hA.one;unfold ab))
 exact hR _ _ _ hA hS
theorem oN {i:Int}{x:Rf}{e:Int}(hO:St w0 bs w H){b n:Nat}{L:List Rf}[hH:Has H b (dO n L) 205](hL:L.length=32)(hn:n≤32)(hx:(if 0≤i∧i<n then L.getD i.toNat (0,0) else (0,0))=x)(he:(if 0≤i∧i<n then 0 else 3)=e)
  (hR:∀ w',St w0 bs w' H->ab R (.tuple #[.agg #[.int .i64 x.1,.int .u32 x.2],.int .i64 e]) w'):Calls prog 183 #[.pointer (some ⟨b,0,none⟩),.int .i64 i] w R:=by
 have hS:=hO
 clear hO
 subst hx he
 by_cases hi:0≤i∧i<n
 ·rw[if_pos hi,if_pos hi] at hR
  obtain⟨k,rfl⟩:=Int.eq_ofNat_of_zero_le hi.1
  have hk:k<n:=by omega
  rw[Int.toNat_natCast] at hR
  obtain⟨x,hx⟩:∃ x,L.getD k (0,0)=x:=⟨_,rfl⟩
  rw[hx] at hR
  have hc:=Gc (n:=n) (eT (by omega) hx)
  have hix:=PP (P:=prog) (t:=203) (b:=b) (off:=0+2) (i:=k) underlying203 (z:=2) (by omega)
  rw[Nat.zero_add] at hix
  have d1:decide ((k:Int)<0)=false:=DF
  have d2:decide ((n:Int)≤(k:Int))=false:=DF
  have d2' : decide (n≤k)=false:=DF
  clear hx hi hL
  go_enter func183,ntmps183
  go_wp2_with (first|go_at_call 263;refine fy hS ?_;clear hS;intro w hS;unfold ab|refine aq 176 rfl hS ?_;clear hS;intro br w _ hS|refine aM rfl ?_|(first|refine af rfl hS ?_|refine au rfl hS ?_)|refine ak rfl hS ?_;clear hS;intro w hS)
  refine bodyPost_ret (aJ rfl hS) rfl ?_
  exact hR _ hS.p
 ·rw[if_neg hi,if_neg hi] at hR
  clear hL
  by_cases h0:i<0
  ·have d1:decide (i<0)=true:=decide_eq_true h0
   clear hi
   go_enter func183,ntmps183
   go_wp2_with (first|go_at_call 263;refine fy hS ?_;clear hS;intro w hS;unfold ab|refine aq 176 rfl hS ?_;clear hS;intro br w _ hS|refine aL rfl ?_|refine ak rfl hS ?_;clear hS;intro w hS)
   refine bodyPost_ret (aJ rfl hS) rfl ?_
   exact hR _ hS.p
  ·have d1:decide (i<0)=false:=decide_eq_false h0
   have d2:decide ((n:Int)≤i)=true:=DT
   clear hi
   go_enter func183,ntmps183
   go_wp2_with (first|go_at_call 263;refine fy hS ?_;clear hS;intro w hS;unfold ab|refine aq 176 rfl hS ?_;clear hS;intro br w _ hS|refine aL rfl ?_|refine af rfl hS ?_|refine ak rfl hS ?_;clear hS;intro w hS)
   refine bodyPost_ret (aJ rfl hS) rfl ?_
   exact hR _ hS.p
theorem wR {b n:Nat}{L:List Rf}(hO:St w0 bs w (⟨b,dO n L,205,true⟩::H))(hL:L.length=32)(hn:n<32)(s g:Int)(hs:0≤s∧s<256)(hg:1≤g)
  (hR:∀ w',St w0 bs w' (⟨b,dO ((n+1:Nat):Int) (L.set n (s,g)),205,true⟩::H)->ab R (.tuple #[.int .i64 n,.int .i64 0]) w'):Calls prog 177 #[.pointer (some ⟨b,0,none⟩),.agg #[.int .i64 s,.int .u32 g]] w R:=by
 have hS:=hO
 clear hO
 have hix:=PP (P:=prog) (t:=203) (b:=b) (off:=0+2) (i:=n) underlying203 (z:=2) hn
 rw[Nat.zero_add] at hix
 have hset:=CQ (n:=n) (L:=L) (i:=n) (by omega) s g
 have d1:decide (s<0)=false:=DF
 have d2:decide (256≤s)=false:=DF
 have d3:(g == 0)=false:=beq_eq_false_iff_ne.2 (by omega)
 have d4:((n:Int) == 32)=false:=beq_eq_false_iff_ne.2 (by omega)
 have d4' : decide ((n:Int)=32)=false:=DF
 have d4'' : decide (n=32)=false:=DF
 obtain⟨n1,hn1⟩:∃ n1,n+1=n1:=⟨_,rfl⟩
 have sm:SumIs (n:Int) 1 (n1:Int):=⟨by omega,by omega,by omega⟩
 have df:DifIs (n1:Int) 1 (n:Int):=⟨by omega,by omega,by omega⟩
 rw[hn1] at hR
 clear hL hs hg hn1
 go_enter func177,ntmps177
 go_wp2_with (first|go_at_call 263;refine fy hS ?_;clear hS;intro w hS;unfold ab|refine am 176 rfl hS ?_;clear hS;intro br w _ hS|refine af rfl hS ?_)
 have hS:St w0 bs w (⟨b,dO n L,205,true⟩::⟨br,#[.int .i64 s,.int .u32 g],176,true⟩::H):=hS.p
 have hc01:CellAt (dO n L) (0+1) (.int .i64 n):=IR
 refine dz [⟨(undef,[⟨b,dO n L,205,true⟩]),[(9,[],fun _ _ x=>x.2=[⟨b,dO n (L.set n (s,g)),205,true⟩])]⟩]
  (⟨br,#[.int .i64 s,.int .u32 g],176,true⟩::H) (⟨b,dO n L,205,true⟩::⟨br,#[.int .i64 s,.int .u32 g],176,true⟩::H) (by simp) hS (by kernel_rfl) (by kernel_rfl) ?_
 (refine aS (fun _=>rfl) rfl (fun χ w hw=>ad rfl) ?_)
 (refine aS (fun _=>rfl) rfl (fun χ w hw=>ad rfl) ?_)
 (refine aS (fun _=>rfl) rfl (fun χ w hw=>ah rfl) ?_)
 (refine aS (fun _=>rfl) rfl (fun χ w hw=>ag rfl) ?_)
 refine fU 0 0 rfl (fun _=>rfl) rfl (fun _=>.int .i64 n) (fun _ _ _=>rfl) (fun χ X w _ hS=>ac _ _ rfl (show St w0 bs w (⟨b,dO n L,205,true⟩::(X++_)) from hS)) ?_
 (refine aS (fun _=>rfl) rfl (fun χ w hw=>ai _ _ rfl hw) ?_)
 (refine aS (fun _=>rfl) rfl (fun χ w hw=>ah rfl) ?_)
 (refine aS (fun _=>rfl) rfl (fun χ w hw=>ag rfl) ?_)
 (refine aS (fun _=>rfl) rfl (fun χ w hw=>aY _ _ _ rfl) ?_)
 refine fJ 0 0 rfl rfl (by kernel_rfl) (by kernel_rfl) (by kernel_rfl) (by kernel_rfl) (fun _=>rfl) (fun _=>undef) ?_ ?_
 ·rintro χ X w _ hS
  exact aK _ _ _ rfl (show St w0 bs w (⟨b,dO n L,205,true⟩::(X++_)) from hS) (fun w' hS'=>⟨(undef,[⟨b,dO n (L.set n (s,g)),205,true⟩]),rfl,rfl,hS'⟩)
 refine kl rfl ?_
 intro χ w hok hS
 obtain⟨hD,_⟩:=hok _ (.head _)
 have hD:(χ 9).2=[⟨b,dO n (L.set n (s,g)),205,true⟩]:=hD
 have hS:St w0 bs w (((χ 9).2++[])++(⟨br,#[.int .i64 s,.int .u32 g],176,true⟩::H)):=hS
 rw[hD] at hS
 clear hok hD
 simp only[cq] at hS
 go_wp2_with (first|refine wV (.binOp .add _ _ _ _) rfl (bL rfl) ?_|refine wV (.binOp .sub _ _ _ _) rfl (aC rfl) ?_|refine af rfl hS ?_|refine bP rfl hS ?_;clear hS;intro w hS)
 exact hR _ hS.p
def ym (L:List Rf)(n i:Nat):List Rf:=L.take i++(L.take n).drop (i+1)++L.drop (n - 1)
theorem Aa {n:Int}{L:List Rf}{m i:Nat}(hL:L.length=32)(hm:m≤32)(hi:i<m):SetsAt (dO n L) (2+i * 2) ((((L.take m).drop (i+1)).flatMap dE).toArray) (dO n (ym L m i)):=by
 have h1:(L.flatMap dE).length=64:=by rw[bw aW,hL]
 have h2:(((L.take m).drop (i+1)).flatMap dE).length=(m - (i+1)) * 2:=by rw[bw aW,List.length_drop,List.length_take,hL,Nat.min_eq_left hm]
 refine⟨?_,?_⟩
 ·simp only[dO,cX,List.append_nil,List.size_toArray,h2]
  have e1:List.take (2+i * 2) (.bool true::.int .i64 n::L.flatMap dE)=.bool true::.int .i64 n::(L.take i).flatMap dE:=by
   rw[show 2+i * 2=i * 2+1+1 by omega,List.take_succ_cons,List.take_succ_cons,zi (by omega)]
  have e2:List.drop (2+i * 2+(m - (i+1)) * 2) (.bool true::.int .i64 n::L.flatMap dE)=(L.drop (m - 1)).flatMap dE:=by
   rw[show 2+i * 2+(m - (i+1)) * 2=(m - 1) * 2+1+1 by omega,List.drop_succ_cons,List.drop_succ_cons,zj (by omega)]
  show(List.take (2+i * 2) (.bool true::.int .i64 n::L.flatMap dE)++_++List.drop _ (.bool true::.int .i64 n::L.flatMap dE)).toArray=_
  rw[e1,e2]
  simp[ym,List.flatMap_append]
 ·simp only[dO,cX,List.append_nil,List.size_toArray,h2,List.length_append,h1,List.length_cons,List.length_nil]
  omega
theorem z8 {n:Int}{L:List Rf}{m i off:Nat}(hL:L.length=32)(hm:m≤32)(hi:i<m)(hoff:i+1<m->off=2+(i+1) * 2):CellsAt (dO n L) off ((m - (i+1)) * 2) ((((L.take m).drop (i+1)).flatMap dE).toArray):=by
 have h2:(((L.take m).drop (i+1)).flatMap dE).length=(m - (i+1)) * 2:=by rw[bw aW,List.length_drop,List.length_take,hL,Nat.min_eq_left hm]
 refine⟨fun j hj=>?_,by rw[List.size_toArray,h2]⟩
 have ho:=hoff (by omega)
 subst ho
 have h3:(dO n L)[2+(i+1) * 2+j]?=(L.flatMap dE)[(i+1) * 2+j]?:=by
  simp only[dO,cX,List.getElem?_toArray,List.append_nil]
  rw[List.getElem?_append_right (by simp;omega)]
  congr 1
  simp
  omega
 have h4:(L.take m).flatMap dE=(L.flatMap dE).take (m * 2):=(zi (by omega)).symm
 rw[h3,← zj (l:=L.take m) (by rw[List.length_take];omega),h4,List.getElem?_toArray,List.getElem?_drop,List.getElem?_take,if_pos (by omega)]
theorem wT {b n i:Nat}{L:List Rf}(hO:St w0 bs w (⟨b,dO n L,205,true⟩::H))(hL:L.length=32)(hn:n≤32)(hi:i<n){x:Rf}(hx:L.getD i (0,0)=x)
  (hR:∀ w',St w0 bs w' (⟨b,dO ((n - 1:Nat):Int) (ym L n i),205,true⟩::H)->ab R (.tuple #[.agg #[.int .i64 x.1,.int .u32 x.2],.int .i64 0]) w'):Calls prog 129 #[.pointer (some ⟨b,0,none⟩),.int .i64 i] w R:=by
 have hS:=hO
 clear hO
 obtain⟨o1,ho1,hm1⟩:=uP (P:=prog) (t:=203) (b:=b) (off:=0+2) (lo:=i) (hi:=n) underlying203 (z:=2) (by omega) hn
 obtain⟨o2,ho2,hm2⟩:=uP (P:=prog) (t:=203) (b:=b) (off:=0+2) (lo:=i+1) (hi:=n) underlying203 (z:=2) (by omega) hn
 have ho1':=ho1 (by omega)
 rw[Nat.zero_add] at ho1'
 subst ho1'
 have hset:=Aa (n:=n) hL hn hi
 have hsrc:=z8 (n:=n) (off:=o2) hL hn hi (fun h=>by rw[ho2 (by omega)])
 have hones:OneCells ((((L.take n).drop (i+1)).flatMap dE).toArray):=⟨fun u hu=>by
  simp only[List.mem_flatMap] at hu
  obtain⟨y,_,hy⟩:=hu
  exact gM y u hy⟩
 obtain⟨i1,hi1⟩:∃ i1,i+1=i1:=⟨_,rfl⟩
 have sm:SumIs (i:Int) 1 (i1:Int):=⟨by omega,by omega,by omega⟩
 obtain⟨n1,hn1⟩:∃ n1,n - 1=n1:=⟨_,rfl⟩
 have df:DifIs (n:Int) 1 (n1:Int):=⟨by omega,by omega,by omega⟩
 rw[hn1] at hR
 rw[hi1] at hm2 hsrc hset hones
 have hmin:Nat.min (n - i1) (n - i)=n - i1:=Nat.min_eq_left (by omega)
 have hgx:(if (0:Int)≤(i:Int)∧(i:Int)<n then L.getD (i:Int).toNat (0,0) else (0,0))=x:=by rw[if_pos (by omega),Int.toNat_natCast];exact hx
 have hge:(if (0:Int)≤(i:Int)∧(i:Int)<n then (0:Int) else 3)=0:=by rw[if_pos (by omega)]
 have hgx':=HD hgx
 have hge':=HD hge
 have hset':=HD hset
 have hsrc':=HD hsrc
 have hones':=HD hones
 have hL':=HD hL
 obtain⟨x1,x2⟩:=x
 clear hset hsrc hones hL hi1 hn1 hgx hge hx ho2 ho1
 have hc01:CellAt (dO n L) (0+1) (.int .i64 n):=IR
 go_enter func129,ntmps129
 go_wp2_with (first|refine aq (o:=⟨some 4,_,_,_,_,_⟩) _ rfl hS ?_;clear hS;intro b4 w _ hS|refine aq 176 rfl hS ?_;clear hS;intro br w _ hS|go_at_call 183;refine oN hS hL'.out hn hgx'.out hge'.out ?_;clear hS;intro w hS;unfold ab|refine ak rfl hS ?_;clear hS;intro w hS)
 have hS:St w0 bs w (⟨b,dO n L,205,true⟩::(⟨b4,#[.int .i64 0,.int .u32 0],176,true⟩::⟨br,#[.int .i64 x1,.int .u32 x2],176,true⟩::H)):=hS.p
 refine dz [⟨(undef,[⟨b,dO n L,205,true⟩]),[(19,[],fun _ _ x=>x.2=[⟨b,dO n (ym L n i),205,true⟩])]⟩]
  (⟨b4,#[.int .i64 0,.int .u32 0],176,true⟩::⟨br,#[.int .i64 x1,.int .u32 x2],176,true⟩::H) (⟨b,dO n L,205,true⟩::(⟨b4,#[.int .i64 0,.int .u32 0],176,true⟩::⟨br,#[.int .i64 x1,.int .u32 x2],176,true⟩::H)) (by simp) hS (by kernel_rfl) (by kernel_rfl) ?_
 (refine aS (fun _=>rfl) rfl (fun χ w hw=>ad rfl) ?_)
 (refine aS (fun _=>rfl) rfl (fun χ w hw=>ah rfl) ?_)
 (refine aS (fun _=>rfl) rfl (fun χ w hw=>ag rfl) ?_)
 (refine aS (fun _=>rfl) rfl (fun χ w hw=>ad rfl) ?_)
 (refine aS (fun _=>rfl) rfl (fun χ w hw=>ad rfl) ?_)
 (refine aS (fun _=>rfl) rfl (fun χ w hw=>ah rfl) ?_)
 (refine aS (fun _=>rfl) rfl (fun χ w hw=>ag rfl) ?_)
 refine fU 0 0 rfl (fun _=>rfl) rfl (fun _=>.int .i64 n) (fun _ _ _=>rfl) (fun χ X w _ hS=>ac _ _ rfl (show St w0 bs w (⟨b,dO n L,205,true⟩::(X++_)) from hS)) ?_
 (refine aS (fun _=>rfl) rfl (fun χ w hw=>mO rfl) ?_)
 (refine aS (fun _=>rfl) rfl (fun χ w hw=>ad rfl) ?_)
 (refine aS (fun _=>rfl) rfl (fun χ w hw=>ah rfl) ?_)
 (refine aS (fun _=>rfl) rfl (fun χ w hw=>ag rfl) ?_)
 (refine aS (fun _=>rfl) rfl (fun χ w hw=>ad rfl) ?_)
 (refine aS (fun _=>rfl) rfl (fun χ w hw=>bL rfl) ?_)
 (refine aS (fun _=>rfl) rfl (fun χ w hw=>ad rfl) ?_)
 (refine aS (fun _=>rfl) rfl (fun χ w hw=>ah rfl) ?_)
 (refine aS (fun _=>rfl) rfl (fun χ w hw=>ag rfl) ?_)
 refine fU 0 0 rfl (fun _=>rfl) rfl (fun _=>.int .i64 n) (fun _ _ _=>rfl) (fun χ X w _ hS=>ac _ _ rfl (show St w0 bs w (⟨b,dO n L,205,true⟩::(X++_)) from hS)) ?_
 (refine aS (fun _=>rfl) rfl (fun χ w hw=>mO rfl) ?_)
 refine fJ 0 0 rfl rfl (by kernel_rfl) (by kernel_rfl) (by kernel_rfl) (by kernel_rfl) (fun _=>rfl) (fun _=>.int .i64 ((n - i1:Nat):Int)) ?_ ?_
 ·rintro χ X w _ hS
  refine fo 37 rfl (by simp) (zM (n:=n - i1) (k:=(n - i1) * 2) (size:=2) (hc:=hsrc'.out) (h1:=hones'.out) (hsa:=hset'.out) rfl (show St w0 bs w (⟨b,dO n L,205,true⟩::(X++_)) from hS) hmin rfl (fun w' hS'=>⟨_,rfl,(undef,[⟨b,dO n (ym L n i),205,true⟩]),rfl,rfl,hS'⟩))
 refine kl rfl ?_
 intro χ w hok hS
 obtain⟨hD,_⟩:=hok _ (.head _)
 have hD:(χ 19).2=[⟨b,dO n (ym L n i),205,true⟩]:=hD
 have hS:St w0 bs w (((χ 19).2++[])++(⟨b4,#[.int .i64 0,.int .u32 0],176,true⟩::⟨br,#[.int .i64 x1,.int .u32 x2],176,true⟩::H)):=hS
 rw[hD] at hS
 clear hok hD hset' hsrc' hones'
 simp only[cq] at hS
 go_wp2_with (first|refine wV (.binOp .sub _ _ _ _) rfl (aC rfl) ?_|(first|refine af rfl hS ?_|refine au rfl hS ?_)|(first|refine bP rfl hS ?_|refine ak rfl hS ?_);clear hS;intro w hS)
 refine bodyPost_ret (aJ rfl hS) rfl ?_
 exact hR _ hS.p
end Go.Proofs.YtnbgljbhkeffkaaGreatDoor
namespace Go.Mm
open Go Go.RowKit
theorem ee {P:Program}{ops:Array Oper}{rest:List Oper}{o:Oper}{a:Act}{w:World}{Q:Exit->Act->World->Prop}{f:Nat}{cap:List Value}{y:Operand}{ts:Array TypeId}
  (ho:o.op=.call { callee:=.value y,args:=#[],argTypes:=ts }) [hy:Ev a y (.func (.func f) #[] cap.toArray)] (he:∀ args w,(callFunc f args).run P w=.ok (.enter f args) w) {a' : Value->Act} [hp:∀ v,Put a o.dst v (a' v)]
  (h:Calls P f cap.toArray w (fun e w''=>∃ v,e=.returned v∧wpList P ops Q rest (a' v) w''))(hw:Region.wanted o (yielded ops a.tmps)=true:=by kernel_rfl):wpList P ops Q (o::rest) a w:=by
 refine BigFrame.wpList_want hw fun K hK=>?_
 have hr:(execOp a.eval o).run P w=.ok (.enter f cap.toArray) w:=by
  have hy':=hy.h
  simp[execOp,ho,resolve,invoke,Deferred.ofValue,Act.eval,he] at hy' ⊢
  simp[hy',resolve,invoke,Deferred.ofValue,he]
 unfold Oper.wp
 rw[hr,Oper.upon_enter]
 refine h.mono fun e w'' ⟨v,h1,h2⟩=>?_
 subst h1
 rw[← (hp v).h] at h2
 exact hK _ _ h2
end Go.Mm
namespace Go.Proofs.YtnbgljbhkeffkaaGreatDoor
open Go Go.RowKit Go.Mm
variable {R:Ending->World->Prop}{w:World}{w0:World}{bs:List Nat}{H H' H1 E:List Ent}
def Gj (p:Option Addr):List Value:=[.pointer p]
theorem lG (p:Option Addr):(Gj p).length=1:=rfl
def cA (po:Option Addr)(z k:Int)(ps:List (Option Addr))(pg:Option Addr):Array Value:=cX [.pointer po,.int .i64 z,.int .i64 k] Gj ps [.pointer pg]
section
variable {po pg:Option Addr}{z k:Int}{ps:List (Option Addr)}
instance P4:CellAt (cA po z k ps pg) 0 (.pointer po):=cz rfl
instance P3:CellAt (cA po z k ps pg) 1 (.int .i64 z):=cz rfl
instance P2:CellAt (cA po z k ps pg) 2 (.int .i64 k):=cz rfl
theorem Hv {i:Nat}{x:Option Addr}(h:ps[i]?=some x):CellAt (cA po z k ps pg) (3+i) (.pointer x):=jo lG (i:=i) (j:=0) h (by decide) rfl (by simp)
theorem D3 {i:Nat}{x:Option Addr}(h:ps[i]?=some x){y:Option Addr}:SetAt (cA po z k ps pg) (3+i) (.pointer y) (cA po z k (ps.set i y) pg):=iO lG (i:=i) (j:=0) h (by decide) rfl (by simp)
theorem Hu (h:ps.length=4):CellAt (cA po z k ps pg) 7 (.pointer pg):=⟨by
 have h1:(ps.flatMap Gj).length=4:=by rw[bw lG,h]
 simp only[cA,cX,List.getElem?_toArray]
 rw[List.getElem?_append_right (by simp[h1])]
 simp[h1]⟩
end
instance LO:ScalarT prog 62:=⟨by kernel_rfl,by kernel_rfl⟩
instance LP:ScalarT prog 113:=⟨by kernel_rfl,by kernel_rfl⟩
instance LQ:ScalarT prog 110:=⟨by kernel_rfl,by kernel_rfl⟩
instance LR:ScalarT prog 116:=⟨by kernel_rfl,by kernel_rfl⟩
instance LV {b off:Nat} : FieldAt prog 121 0 b off off:=⟨fun w=>by kernel_rfl⟩
instance LU {b off:Nat} : FieldAt prog 121 3 b off (off+3):=⟨fun w=>by kernel_rfl⟩
instance LT {b off:Nat} : FieldAt prog 121 4 b off (off+7):=⟨fun w=>by kernel_rfl⟩
instance JW {b off:Nat} : FieldAt prog 115 0 b off off:=⟨fun w=>by kernel_rfl⟩
instance NZ {p:Option Addr} : BuildT prog 115 [(0,.pointer p)] #[.pointer p]:=⟨fun w=>by kernel_rfl⟩
instance Pm {po pg:Option Addr}{z k:Int} : BuildT prog 121 [(0,.pointer po),(1,.int .i64 z),(2,.int .i64 k),(4,.pointer pg)] (cA po z k [none,none,none,none] pg):=⟨fun w=>by kernel_rfl⟩
def P6 (p:Option Addr)(H:List Ent):Prop:=p=none∨∃ b,p=some ⟨b,0,none⟩∧Has H b (cA none 0 0 [none,none,none,none] none) 121
theorem fM {b bo:Nat}{z k:Int}{ps:List (Option Addr)}{pg:Option Addr}(hO:St w0 bs w H)[hH:Has H b (cA (some ⟨bo,0,none⟩) z k ps pg) 121](hR:∀ w',St w0 bs w' H->ab R (.bool true) w'):Calls prog 193 #[.pointer (some ⟨b,0,none⟩)] w R:=by
 have hS:=hO
 clear hO
 go_enter func193,ntmps193
 go_wp2_with (refine af rfl hS ?_)
 exact hR _ hS
theorem dT {b bo:Nat}{z:Int}{k:Nat}{ps:List (Option Addr)}{pg:Option Addr}(hO:St w0 bs w H)[hH:Has H b (cA (some ⟨bo,0,none⟩) z k ps pg) 121](hk:k≤4)(hps:ps.length=4)(m:Int)(q:Option Addr)(e:Int)
  (hq:(if 0≤m∧m<k then ps.getD m.toNat none else none)=q) (he:(if 0≤m∧m<k then 0 else 3)=e)
  (hR:∀ w',St w0 bs w' H->ab R (.tuple #[.pointer q,.int .i64 e]) w'):Calls prog 128 #[.pointer (some ⟨b,0,none⟩),.int .i64 m] w R:=by
 have hS:=hO
 clear hO
 subst hq he
 by_cases hm:0≤m∧m<k
 ·rw[if_pos hm,if_pos hm] at hR
  obtain⟨i,rfl⟩:=Int.eq_ofNat_of_zero_le hm.1
  rw[Int.toNat_natCast] at hR
  obtain⟨q,hq⟩:∃ q,ps.getD i none=q:=⟨_,rfl⟩
  rw[hq] at hR
  have hq2:ps[i]?=some q:=by rw[← hq,List.getD_eq_getElem?_getD,List.getElem?_eq_getElem (by omega)];rfl
  have hc:=Hv (po:=some ⟨bo,0,none⟩) (z:=z) (k:=k) (pg:=pg) hq2
  have hix:=PP (P:=prog) (t:=119) (b:=b) (off:=0+3) (i:=i) underlying119 (z:=1) (by omega)
  rw[Nat.zero_add,Nat.mul_one] at hix
  have d1:decide ((i:Int)<0)=false:=DF
  have d2:decide ((k:Int)≤(i:Int))=false:=DF
  have d2' : decide (k≤i)=false:=DF
  clear hq hq2 hm hps
  go_enter func128,ntmps128
  go_wp2_with (first|go_at_call 193;refine fM hS ?_;clear hS;intro w hS;unfold ab|refine aM rfl ?_|refine af rfl hS ?_)
  exact hR _ hS
 ·rw[if_neg hm,if_neg hm] at hR
  clear hps
  by_cases h0:m<0
  ·have d1:decide (m<0)=true:=decide_eq_true h0
   clear hm
   go_enter func128,ntmps128
   go_wp2_with (go_at_call 193;refine fM hS ?_;clear hS;intro w hS;unfold ab)
   exact hR _ hS
  ·have d1:decide (m<0)=false:=decide_eq_false h0
   have d2:decide ((k:Int)≤m)=true:=DT
   clear hm
   go_enter func128,ntmps128
   go_wp2_with (first|go_at_call 193;refine fM hS ?_;clear hS;intro w hS;unfold ab|refine af rfl hS ?_)
   exact hR _ hS
open Go Go.RowKit Go.Mm
def mL (x:Sk)(r:Rf):Sk:=(x.1,x.2.1++[r],x.2.2.tail)
theorem wE {x:Sk}(hW:SkW x)(h:x.2.1.length<32)(r:Rf):(x.2.1++x.2.2).set x.2.1.length r=(x.2.1++[r])++x.2.2.tail:=by
 have:=hW.len
 obtain⟨b,l,s⟩:=x
 simp only at *
 cases s with
 | nil=>simp at this;omega
 | cons y s=>simp
theorem tF {x:Sk}(hW:SkW x)(h:x.2.1.length<32){r:Rf}(hr:(0≤r.1∧r.1<256)∧1≤r.2∧r.2≤4294967295):SkW (mL x r):=by
 have:=hW.len
 refine⟨by simp only[mL,List.length_append,List.length_tail,List.length_singleton];omega,fun y hy=>?_⟩
 rcases List.mem_append.1 hy with hy|hy
 ·exact hW.ok y hy
 ·rw[List.mem_singleton.1 hy];exact hr
section
variable {b bo fl ff m:Nat}{capl capf:List Value}{z el:Int}{k:Nat}{ps:List (Option Addr)}{pg:Option Addr}{sk:Sk}{Hl:List Ent}
theorem vf (hO:St w0 bs w H)[hH:Has H b (cA (some ⟨bo,0,none⟩) z k ps pg) 121](hk:k≤4)(hps:ps.length=4)(hm:m<k)(hp:ps.getD m none=some ⟨sk.1,0,none⟩)(hW:SkW sk)(hlt:sk.2.1.length<32)
  [hL:Has Hl sk.1 (dO sk.2.1.length (sk.2.1++sk.2.2)) 205] (henl:∀ args w,(callFunc fl args).run prog w=.ok (.enter fl args) w) (henf:∀ args w,(callFunc ff args).run prog w=.ok (.enter ff args) w)
  (r:Rf) (hr:(0≤r.1∧r.1<256)∧1≤r.2) (Φ:List Ent->Prop)
  (hlook:∀ X w',St w0 bs w' (H++X)->Calls prog fl capl.toArray w' (fun e w''=>e=.returned (.int .i64 0)∧St w0 bs w'' (Hl++X)))
  (hfind:∀ X w',St w0 bs w' (Hl++X)->Calls prog ff capf.toArray w' (fun e w''=>∃ Y,e=.returned (.tuple #[.agg #[.int .i64 r.1,.int .u32 r.2],.int .i64 0])∧Φ Y∧St w0 bs w'' (bU sk::(Y++X))))
  (hR:∀ Y w',Φ Y->St w0 bs w' (bU (mL sk r)::Y)->ab R (.tuple #[.agg #[.int .i64 r.1,.int .u32 r.2],.int .i64 0]) w') :
  Calls prog 112 #[.pointer (some ⟨b,0,none⟩),.int .i64 (m:Int),.func (.func fl) #[] capl.toArray,.func (.func ff) #[] capf.toArray] w R:=by
 have hS:=hO
 clear hO
 have hq':=HD (show(if (0:Int)≤(m:Int)∧(m:Int)<k then ps.getD (m:Int).toNat none else none)=some ⟨sk.1,0,none⟩ by rw[if_pos (by omega),Int.toNat_natCast];exact hp)
 have he':=HD (show(if (0:Int)≤(m:Int)∧(m:Int)<k then (0:Int) else 3)=0 by rw[if_pos (by omega)])
 have hlen:=hW.len
 have hset:=wE hW hlt r
 have hset':=HD hset
 obtain⟨n,hn⟩:∃ n,sk.2.1.length=n:=⟨_,rfl⟩
 have hn':=HD hn
 obtain⟨r1,r2⟩:=r
 obtain⟨hr1,hr2⟩:=hr
 simp only at hr1 hr2
 have hlt' : n<32:=by omega
 have hL32:(sk.2.1++sk.2.2).length=32:=by rw[List.length_append];exact hlen
 have hL32':=HD hL32
 have d1:decide (32≤n)=false:=DF
 have d1' : decide (32≤(n:Int))=false:=DF
 rw[hn] at hL
 clear hm hp hW hlen hset hlt hn hL32
 go_enter func112,ntmps112
 go_wp2_with (first|refine aq (o:=⟨some 8,_,_,_,_,_⟩) _ rfl hS ?_;clear hS;intro b8 w _ hS|refine aq 176 rfl hS ?_;clear hS;intro b13 w _ hS|go_at_call 128;refine dT hS hk hps m (some ⟨sk.1,0,none⟩) 0 hq'.out he'.out ?_;clear hS;intro w hS;unfold ab|(refine aF (.call { callee:=.value (.tmp 24),args:=#[],argTypes:=#[] }) rfl ?_;refine ee rfl henl ?_;refine(hlook _ _ (show St w0 bs _ (H++[⟨b8,#[.int .i64 0,.int .u32 0],176,true⟩]) from hS.p)).mono ?_;clear hS;rintro e w ⟨rfl,hS⟩;refine⟨_,rfl,?_⟩)|go_at_call 176;refine tW hS (n:=n) (by omega) ?_;clear hS;intro w hS;unfold ab|(refine aF (.call { callee:=.value (.tmp 35),args:=#[],argTypes:=#[] }) rfl ?_;refine ee rfl henf ?_;refine(hfind _ _ hS).mono ?_;clear hS;rintro e w ⟨Y,rfl,hY,hS⟩;refine⟨_,rfl,?_⟩)|go_at_call 177;refine wR (n:=n) (L:=sk.2.1++sk.2.2) (H:=⟨b13,#[.int .i64 r1,.int .u32 r2],176,true⟩::(Y++[⟨b8,#[.int .i64 0,.int .u32 0],176,true⟩])) (by have hS:=hS.p (H':=bU sk::(⟨b13,#[.int .i64 r1,.int .u32 r2],176,true⟩::(Y++[⟨b8,#[.int .i64 0,.int .u32 0],176,true⟩])));unfold bU at hS;rw[hn'.out] at hS;exact hS) hL32'.out hlt' r1 r2 hr1 hr2 ?_;clear hS;intro w hS;unfold ab|refine au rfl hS ?_|refine ak rfl hS ?_;clear hS;intro w hS)
 refine bodyPost_ret (aJ rfl hS) rfl ?_
 refine hR Y _ hY ?_
 have hS:=hS.p (H':=⟨sk.1,dO ((n+1:Nat):Int) ((sk.2.1++sk.2.2).set n (r1,r2)),205,true⟩::Y)
 have h1:=hset'.out
 rw[hn'.out] at h1
 rw[h1] at hS
 have h2:(mL sk (r1,r2)).2.1.length=n+1:=by simp[mL,hn'.out]
 unfold bU
 rw[h2]
 exact hS
end
open Go Go.RowKit Go.Mm
abbrev Ar:=List Hs×List (List Rf)×List Rf
def cv (sts:List Sk):List (Option Addr):=sts.map (fun x=>some ⟨x.1,0,none⟩)++List.replicate (4 - sts.length) none
theorem cC {sts:List Sk}(h:sts.length≤4):(cv sts).length=4:=by simp [cv];omega
theorem ft {sts:List Sk}{m:Nat}{sk:Sk}(h:sts[m]?=some sk):(cv sts).getD m none=some ⟨sk.1,0,none⟩:=by
 have hm:=(List.getElem?_eq_some_iff.1 h).1
 unfold cv
 rw[List.getD_eq_getElem?_getD,List.getElem?_append_left (by simpa using hm),List.getElem?_map,h]
 rfl
theorem jc {sts:List Sk}{m:Nat}{sk:Sk}(h:sts[m]?=some sk){sk' : Sk}(h1:sk'.1=sk.1):cv (sts.set m sk')=cv sts:=by
 obtain⟨hm,h2⟩:=List.getElem?_eq_some_iff.1 h
 unfold cv
 rw[List.length_set,List.map_set,h1]
 congr 1
 have e:(some ⟨sk.1,0,none⟩:Option Addr)=(sts.map (fun x:Sk=>(some ⟨x.1,0,none⟩:Option Addr)))[m]'(by simpa using hm):=by rw[List.getElem_map,h2]
 rw[e,List.set_getElem_self]
theorem ei {sts:List Sk}{m:Nat}{sk:Sk}(h:sts[m]?=some sk):sts.map bU=(sts.take m).map bU++(bU sk::(sts.drop (m+1)).map bU):=by
 obtain⟨hm,h2⟩:=List.getElem?_eq_some_iff.1 h
 conv=>lhs;rw[← List.take_append_drop m sts]
 rw[List.drop_eq_getElem_cons hm,h2]
 simp
theorem lq {sts:List Sk}{m:Nat}{sk sk' : Sk}(h:sts[m]?=some sk):(sts.set m sk').map bU=(sts.take m).map bU++(bU sk'::(sts.drop (m+1)).map bU):=by
 obtain⟨hm,h2⟩:=List.getElem?_eq_some_iff.1 h
 rw[List.set_eq_take_append_cons_drop,if_pos hm]
 simp
def AA (p:Option Addr)(T:Ar)(E:List Ent):Prop:=
 ∃ b bo ph Eh pg Eg sts,p=some ⟨b,0,none⟩∧HA ph (some (some T.1)) Eh∧GA pg (some (true,T.2.2)) Eg∧sts.map (·.2.1)=T.2.1∧(∀ x∈sts,SkW x)∧(∀ x∈T.2.2,fc x=false∧0≤x.2∧x.2≤4294967295) ∧
  1≤sts.length∧sts.length≤4∧E=⟨b,cA (some ⟨bo,0,none⟩) T.1.length sts.length (cv sts) pg,121,true⟩::⟨bo,#[.pointer ph],115,true⟩::(Eh++(Eg++sts.map bU))
instance KL {x:Sk} : Has (bU x::H) x.1 (dO x.2.1.length (x.2.1++x.2.2)) 205:=⟨⟨true,.head _⟩⟩
def fm (T:Ar)(m:Int):Bool:=decide (0≤m) && decide (m<T.2.1.length)
def ez (T:Ar)(m:Int):List Rf:=T.2.1.getD m.toNat []
def fP (T:Ar)(m i:Int):Int:=if fm T m then (if 0≤i∧i<(ez T m).length then 0 else 3) else 3
def fk (T:Ar)(m i:Int):Rf:=if fP T m i=0 then (ez T m).getD i.toNat (0,0) else (0,0)
def mj (T:Ar)(m i:Int):Int:=if fm T m && decide (i=-1) then 0 else fP T m i
def jv (T:Ar)(m i:Int):Rf:=if i=-1 then (0,0) else fk T m i
theorem d7 {T:Ar}{m:Int}(h:fm T m=true){sts:List Sk}(hks:sts.map (·.2.1)=T.2.1):∃ (i:Nat) (sk:Sk),m=i∧i<sts.length∧sts[i]?=some sk∧sk.2.1=ez T m:=by
 have hl:sts.length=T.2.1.length:=by rw[← hks];simp
 simp only[fm,Bool.and_eq_true,decide_eq_true_eq] at h
 obtain⟨i,rfl⟩:=Int.eq_ofNat_of_zero_le h.1
 have hi:i<sts.length:=by omega
 refine⟨i,sts[i],rfl,hi,List.getElem?_eq_getElem hi,?_⟩
 unfold ez
 rw[Int.toNat_natCast,← hks,List.getD_eq_getElem?_getD,List.getElem?_map,List.getElem?_eq_getElem hi]
 rfl
theorem lR {T:Ar}{m:Int}(h:fm T m=false){sts:List Sk}(hks:sts.map (·.2.1)=T.2.1) : ¬ (0≤m∧m<sts.length):=by
 have hl:sts.length=T.2.1.length:=by rw[← hks];simp
 intro hh
 have:fm T m=true:=by simp only[fm,Bool.and_eq_true,decide_eq_true_eq];omega
 rw[this] at h
 cases h
theorem jq {p:Option Addr}{T:Ar}(hO:St w0 bs w H)(hT:AA p T E)[hc:Cut H E H1](m i:Int)(x:Rf)(e:Int)(hx:fk T m i=x)(he:fP T m i=e)
  (hR:∀ w',AA p T E->St w0 bs w' (E++H1)->ab R (.tuple #[.agg #[.int .i64 x.1,.int .u32 x.2],.int .i64 e]) w'):Calls prog 122 #[.pointer p,.int .i64 m,.int .i64 i] w R:=by
 have hS:=hO.fr E H1
 clear hO
 subst hx he
 obtain⟨L,ks,G⟩:=T
 obtain⟨b,bo,ph,Eh,pg,Eg,sts,rfl,hH,hG,hks,hW,hGw,h1,h4,rfl⟩:=id hT
 simp only[bX] at hS
 have hlp:=cC h4
 cases hm:fm (L,ks,G) m with
 | false=>
  have hno:=lR hm hks
  have e0:fP (L,ks,G) m i=3:=by unfold fP;rw[hm];rfl
  have e1:fk (L,ks,G) m i=(0,0):=by unfold fk;rw[e0];rfl
  rw[e0,e1] at hR
  have hq':=HD (show(if 0≤m∧m<(sts.length:Int) then (cv sts).getD m.toNat none else none)=none by rw[if_neg hno])
  have he':=HD (show(if 0≤m∧m<(sts.length:Int) then (0:Int) else 3)=3 by rw[if_neg hno])
  clear hm hno e0 e1 hks hW hGw
  go_enter func122,ntmps122
  go_wp2_with (first|refine aq 176 rfl hS ?_;clear hS;intro b8 w _ hS|go_at_call 128;refine dT hS h4 hlp m none 3 hq'.out he'.out ?_;clear hS;intro w hS;unfold ab|refine aL rfl ?_|refine ak rfl hS ?_;clear hS;intro w hS)
  refine bodyPost_ret (aJ rfl hS) rfl ?_
  exact hR _ hT (by simp only[bX];exact hS.p)
 | true=>
  obtain⟨j,sk,rfl,hj,hsk,hrt⟩:=d7 hm hks
  have hWs:=hW sk (List.mem_of_getElem? hsk)
  have hlen:=hWs.len
  have hp:=ft hsk
  have hq':=HD (show(if (0:Int)≤(j:Int)∧(j:Int)<(sts.length:Int) then (cv sts).getD (j:Int).toNat none else none)=some ⟨sk.1,0,none⟩ by rw[if_pos (by omega),Int.toNat_natCast];exact hp)
  have he':=HD (show(if (0:Int)≤(j:Int)∧(j:Int)<(sts.length:Int) then (0:Int) else 3)=0 by rw[if_pos (by omega)])
  have hspl:=ei hsk
  obtain⟨x,hx⟩:∃ x,fk (L,ks,G) j i=x:=⟨_,rfl⟩
  obtain⟨e,he⟩:∃ e,fP (L,ks,G) j i=e:=⟨_,rfl⟩
  rw[hx,he] at hR
  have hgx':=HD (show(if 0≤i∧i<(sk.2.1.length:Int) then (sk.2.1++sk.2.2).getD i.toNat (0,0) else (0,0))=x by
   rw[← hx];unfold fk fP;rw[hm,if_pos rfl,← hrt]
   split
   ·next h=>rw[if_pos rfl,List.getD_eq_getElem?_getD,List.getD_eq_getElem?_getD,List.getElem?_append_left (by omega)]
   ·rw[if_neg (by decide)])
  have hge':=HD (show(if 0≤i∧i<(sk.2.1.length:Int) then (0:Int) else 3)=e by rw[← he];unfold fP;rw[hm,if_pos rfl,← hrt])
  have hL32:(sk.2.1++sk.2.2).length=32:=by rw[List.length_append];exact hlen
  have hL32':=HD hL32
  have hn32:sk.2.1.length≤32:=by omega
  rw[hspl] at hS
  simp only[bX] at hS
  clear hm hks hW hGw hWs hlen hp hx he hL32 hrt
  go_enter func122,ntmps122
  go_wp2_with (first|refine aq 176 rfl hS ?_;clear hS;intro b8 w _ hS|(first|go_at_call 128;refine dT hS h4 hlp j (some ⟨sk.1,0,none⟩) 0 hq'.out he'.out ?_|go_at_call 183;refine oN hS hL32'.out hn32 hgx'.out hge'.out ?_);clear hS;intro w hS;unfold ab|refine ak rfl hS ?_;clear hS;intro w hS)
  refine bodyPost_ret (aJ rfl hS) rfl ?_
  exact hR _ hT (by simp only[List.cons_append,List.append_assoc,hspl];exact hS.p)
theorem oa {p:Option Addr}{T:Ar}(hO:St w0 bs w H)(hT:AA p T E)[hc:Cut H E H1](m i:Int)(x:Rf)(e:Int)(hx:jv T m i=x)(he:mj T m i=e)
  (hR:∀ w',AA p T E->St w0 bs w' (E++H1)->ab R (.tuple #[.agg #[.int .i64 x.1,.int .u32 x.2],.int .i64 e]) w'):Calls prog 125 #[.pointer p,.int .i64 m,.int .i64 i] w R:=by
 have hS:=hO.fr E H1
 clear hO
 subst hx he
 obtain⟨L,ks,G⟩:=T
 have hS0:=hS
 obtain⟨b,bo,ph,Eh,pg,Eg,sts,rfl,hH,hG,hks,hW,hGw,h1,h4,rfl⟩:=id hT
 simp only[bX] at hS
 have hlp:=cC h4
 cases hm:fm (L,ks,G) m with
 | false=>
  have hno:=lR hm hks
  have e0:mj (L,ks,G) m i=3:=by unfold mj fP;rw[hm];rfl
  have e1:jv (L,ks,G) m i=(0,0):=by unfold jv fk fP;rw[hm];split <;> rfl
  rw[e0,e1] at hR
  have hq':=HD (show(if 0≤m∧m<(sts.length:Int) then (cv sts).getD m.toNat none else none)=none by rw[if_neg hno])
  have he':=HD (show(if 0≤m∧m<(sts.length:Int) then (0:Int) else 3)=3 by rw[if_neg hno])
  clear hm hno e0 e1 hks hW hGw hS0
  go_enter func125,ntmps125
  go_wp2_with (first|refine aq 176 rfl hS ?_;clear hS;intro b8 w _ hS|go_at_call 128;refine dT hS h4 hlp m none 3 hq'.out he'.out ?_;clear hS;intro w hS;unfold ab|refine aL rfl ?_|refine ak rfl hS ?_;clear hS;intro w hS)
  refine bodyPost_ret (aJ rfl hS) rfl ?_
  exact hR _ hT (by simp only[bX];exact hS.p)
 | true=>
  obtain⟨j,sk,rfl,hj,hsk,hrt⟩:=d7 hm hks
  have hp:=ft hsk
  have hq':=HD (show(if (0:Int)≤(j:Int)∧(j:Int)<(sts.length:Int) then (cv sts).getD (j:Int).toNat none else none)=some ⟨sk.1,0,none⟩ by rw[if_pos (by omega),Int.toNat_natCast];exact hp)
  have he':=HD (show(if (0:Int)≤(j:Int)∧(j:Int)<(sts.length:Int) then (0:Int) else 3)=0 by rw[if_pos (by omega)])
  by_cases hi:i=-1
  ·subst hi
   have e0:mj (L,ks,G) j (-1)=0:=by unfold mj;rw[hm];rfl
   have e1:jv (L,ks,G) j (-1)=(0,0):=rfl
   rw[e0,e1] at hR
   clear hm e0 e1 hks hW hGw hS0 hrt hp
   go_enter func125,ntmps125
   go_wp2_with (first|refine aq 176 rfl hS ?_;clear hS;intro b8 w _ hS|go_at_call 128;refine dT hS h4 hlp j (some ⟨sk.1,0,none⟩) 0 hq'.out he'.out ?_;clear hS;intro w hS;unfold ab|refine aL rfl ?_|refine ak rfl hS ?_;clear hS;intro w hS)
   refine bodyPost_ret (aJ rfl hS) rfl ?_
   exact hR _ hT (by simp only[bX];exact hS.p)
  ·have d:decide (i=-1)=false:=decide_eq_false hi
   have d2:(i == -1)=false:=beq_eq_false_iff_ne.2 hi
   obtain⟨x,hx⟩:∃ x,fk (L,ks,G) j i=x:=⟨_,rfl⟩
   obtain⟨e,he⟩:∃ e,fP (L,ks,G) j i=e:=⟨_,rfl⟩
   have e0:mj (L,ks,G) j i=e:=by unfold mj;rw[d,Bool.and_false];exact he
   have e1:jv (L,ks,G) j i=x:=by unfold jv;rw[if_neg hi];exact hx
   rw[e0,e1] at hR
   have hx':=HD hx
   have hee':=HD he
   clear hm e0 e1 hks hW hGw hS0 hrt hp hx he hi
   go_enter func125,ntmps125
   go_wp2_with (first|refine aq 176 rfl hS ?_;clear hS;intro b8 w _ hS|go_at_call 128;refine dT hS h4 hlp j (some ⟨sk.1,0,none⟩) 0 hq'.out he'.out ?_;clear hS;intro w hS;unfold ab|go_at_call 122;refine jq (E:=⟨b,cA (some ⟨bo,0,none⟩) L.length sts.length (cv sts) pg,121,true⟩::⟨bo,#[.pointer ph],115,true⟩::(Eh++(Eg++sts.map bU))) (H1:=⟨b8,#[.int .i64 0,.int .u32 0],176,true⟩::H1) (show St w0 bs _ ((⟨b,cA (some ⟨bo,0,none⟩) L.length sts.length (cv sts) pg,121,true⟩::⟨bo,#[.pointer ph],115,true⟩::(Eh++(Eg++sts.map bU)))++(⟨b8,#[.int .i64 0,.int .u32 0],176,true⟩::H1)) from by simp only[bX];exact hS.p) hT j i x e hx'.out hee'.out ?_;clear hS;intro w _ hS;simp only[bX] at hS;unfold ab|refine ak rfl hS ?_;clear hS;intro w hS)
   refine bodyPost_ret (aJ rfl hS) rfl ?_
   exact hR _ hT (by simp only[bX];exact hS.p)
theorem oO {b n:Nat}{L:List Rf}(hO:St w0 bs w H)[hH:Has H b (dO n L) 205](hL:L.length=32)(hn:n≤32)(i:Int)(hi : ¬ (0≤i∧i<n))
  (hR:∀ w',St w0 bs w' H->ab R (.tuple #[.agg #[.int .i64 0,.int .u32 0],.int .i64 3]) w'):Calls prog 129 #[.pointer (some ⟨b,0,none⟩),.int .i64 i] w R:=by
 have hS:=hO
 clear hO
 have hgx':=HD (show(if (0:Int)≤i∧i<n then L.getD i.toNat (0,0) else (0,0))=(0,0) by rw[if_neg hi])
 have hge':=HD (show(if (0:Int)≤i∧i<n then (0:Int) else 3)=3 by rw[if_neg hi])
 have hL':=HD hL
 clear hL hi
 go_enter func129,ntmps129
 go_wp2_with (first|refine aq 176 rfl hS ?_;clear hS;intro br w _ hS|go_at_call 183;refine oN hS hL'.out hn hgx'.out hge'.out ?_;clear hS;intro w hS;unfold ab|refine aL rfl ?_|refine ak rfl hS ?_;clear hS;intro w hS)
 refine bodyPost_ret (aJ rfl hS) rfl ?_
 exact hR _ hS.p
def ry (x:Sk)(i:Nat):Sk:=(x.1,x.2.1.take i++x.2.1.drop (i+1),x.2.1.drop (x.2.1.length - 1)++x.2.2)
theorem CB {x:Sk}(hW:SkW x){i:Nat}(hi:i<x.2.1.length):SkW (ry x i):=by
 have:=hW.len
 refine⟨by simp only[ry,List.length_append,List.length_take,List.length_drop];omega,fun y hy=>?_⟩
 rcases List.mem_append.1 hy with hy|hy
 ·exact hW.ok y (List.mem_of_mem_take hy)
 ·exact hW.ok y (List.mem_of_mem_drop hy)
theorem CC {x:Sk}{i:Nat}(hi:i<x.2.1.length):(⟨x.1,dO ((x.2.1.length - 1:Nat):Int) (ym (x.2.1++x.2.2) x.2.1.length i),205,true⟩:Ent)=bU (ry x i):=by
 have h1:(ry x i).2.1.length=x.2.1.length - 1:=by simp only[ry,List.length_append,List.length_take,List.length_drop];omega
 have h2:ym (x.2.1++x.2.2) x.2.1.length i=(ry x i).2.1++(ry x i).2.2:=by
  simp only[ym,ry]
  rw[List.take_append_of_le_length (by omega),List.take_left',List.drop_append_of_le_length (by omega),List.append_assoc]
  rfl
 unfold bU
 rw[h1,h2]
 rfl
def sK (T:Ar)(m i:Int):Ar:=if fP T m i=0 then (T.1,T.2.1.set m.toNat ((ez T m).take i.toNat++(ez T m).drop (i.toNat+1)),T.2.2) else T
theorem yI {p:Option Addr}{T:Ar}(hO:St w0 bs w H)(hT:AA p T E)[hc:Cut H E H1](m i:Int){T': Ar}{x:Rf}(e:Int)(hT' : sK T m i=T')(hx:fk T m i=x)(he:fP T m i=e)
  (hR:∀ E' w',AA p T' E'->St w0 bs w' (E'++H1)->ab R (.tuple #[.agg #[.int .i64 x.1,.int .u32 x.2],.int .i64 e]) w'):Calls prog 81 #[.pointer p,.int .i64 m,.int .i64 i] w R:=by
 have hS:=hO.fr E H1
 clear hO
 subst hx he hT'
 obtain⟨L,ks,G⟩:=T
 obtain⟨b,bo,ph,Eh,pg,Eg,sts,rfl,hH,hG,hks,hW,hGw,h1,h4,rfl⟩:=id hT
 simp only[bX] at hS
 have hlp:=cC h4
 cases hm:fm (L,ks,G) m with
 | false=>
  have hno:=lR hm hks
  have hq':=HD (show(if 0≤m∧m<(sts.length:Int) then (cv sts).getD m.toNat none else none)=none by rw[if_neg hno])
  have he':=HD (show(if 0≤m∧m<(sts.length:Int) then (0:Int) else 3)=3 by rw[if_neg hno])
  have e0:fP (L,ks,G) m i=3:=by unfold fP;rw[hm];rfl
  have e1:fk (L,ks,G) m i=(0,0):=by unfold fk;rw[e0];rfl
  have e2:sK (L,ks,G) m i=(L,ks,G):=by unfold sK;rw[e0];rfl
  rw[e0,e1,e2] at hR
  clear hm hno e0 e1 e2 hks hW hGw
  go_enter func81,ntmps81
  go_wp2_with (first|refine aq 176 rfl hS ?_;clear hS;intro b8 w _ hS|go_at_call 128;refine dT hS h4 hlp m none 3 hq'.out he'.out ?_;clear hS;intro w hS;unfold ab|refine aL rfl ?_|refine ak rfl hS ?_;clear hS;intro w hS)
  refine bodyPost_ret (aJ rfl hS) rfl ?_
  exact hR _ _ hT (by simp only[bX];exact hS.p)
 | true=>
  obtain⟨j,sk,rfl,hj,hsk,hrt⟩:=d7 hm hks
  have hWs:=hW sk (List.mem_of_getElem? hsk)
  have hlen:=hWs.len
  have hp:=ft hsk
  have hq':=HD (show(if (0:Int)≤(j:Int)∧(j:Int)<(sts.length:Int) then (cv sts).getD (j:Int).toNat none else none)=some ⟨sk.1,0,none⟩ by rw[if_pos (by omega),Int.toNat_natCast];exact hp)
  have he':=HD (show(if (0:Int)≤(j:Int)∧(j:Int)<(sts.length:Int) then (0:Int) else 3)=0 by rw[if_pos (by omega)])
  have hspl:=ei hsk
  have hL32:(sk.2.1++sk.2.2).length=32:=by rw[List.length_append];exact hlen
  have hn32:sk.2.1.length≤32:=by omega
  rw[hspl] at hS
  simp only[bX] at hS
  have hL32':=HD hL32
  by_cases hi:0≤i∧i<(sk.2.1.length:Int)
  ·obtain⟨q,rfl⟩:=Int.eq_ofNat_of_zero_le hi.1
   have hql:q<sk.2.1.length:=by omega
   have e0:fP (L,ks,G) j q=0:=by unfold fP;rw[hm,if_pos rfl,← hrt,if_pos hi]
   have e1:fk (L,ks,G) j q=sk.2.1.getD q (0,0):=by unfold fk;rw[e0,if_pos rfl,← hrt,Int.toNat_natCast]
   have e2:sK (L,ks,G) j q=(L,ks.set j (ry sk q).2.1,G):=by unfold sK;rw[e0,if_pos rfl,← hrt,Int.toNat_natCast,Int.toNat_natCast];rfl
   obtain⟨x,hx⟩:∃ x,sk.2.1.getD q (0,0)=x:=⟨_,rfl⟩
   have hx2:(sk.2.1++sk.2.2).getD q (0,0)=x:=by rw[← hx,List.getD_eq_getElem?_getD,List.getD_eq_getElem?_getD,List.getElem?_append_left hql]
   rw[e0,e1,e2,hx] at hR
   have hx':=HD hx2
   have hTn:∀ Y,Y=⟨b,cA (some ⟨bo,0,none⟩) L.length sts.length (cv sts) pg,121,true⟩::⟨bo,#[.pointer ph],115,true⟩::(Eh++(Eg++((sts.take j).map bU++(bU (ry sk q)::(sts.drop (j+1)).map bU))))->AA (some ⟨b,0,none⟩) (L,ks.set j (ry sk q).2.1,G) Y:=by
    rintro Y rfl
    refine⟨b,bo,ph,Eh,pg,Eg,sts.set j (ry sk q),rfl,hH,hG,by rw[List.map_set,hks],fun y hy=>?_,hGw,by rw[List.length_set];exact h1,by rw[List.length_set];exact h4,by rw[List.length_set,jc (sk':=ry sk q) hsk rfl,lq hsk]⟩
    rcases List.mem_or_eq_of_mem_set hy with hy|rfl
    ·exact hW y hy
    ·exact CB hWs hql
   have hTn':=HD hTn
   have hde':=HD (CC hql)
   clear hm hks hW hGw hWs hlen hp hx hx2 hL32 hrt e0 e1 e2 hTn hi
   go_enter func81,ntmps81
   go_wp2_with (first|refine aq 176 rfl hS ?_;clear hS;intro b8 w _ hS|go_at_call 128;refine dT hS h4 hlp j (some ⟨sk.1,0,none⟩) 0 hq'.out he'.out ?_;clear hS;intro w hS;unfold ab|go_at_call 129;refine wT (H:=⟨b8,#[.int .i64 0,.int .u32 0],176,true⟩::⟨b,cA (some ⟨bo,0,none⟩) L.length sts.length (cv sts) pg,121,true⟩::⟨bo,#[.pointer ph],115,true⟩::(Eh++(Eg++((sts.take j).map bU++((sts.drop (j+1)).map bU++H1))))) (show St w0 bs _ (bU sk::_) from hS.p) hL32'.out hn32 hql hx'.out ?_;clear hS;intro w hS;rw[hde'.out] at hS;unfold ab|refine ak rfl hS ?_;clear hS;intro w hS)
   refine bodyPost_ret (aJ rfl hS) rfl ?_
   exact hR _ _ (hTn'.out _ rfl) (by simp only[bX];exact hS.p)
  ·have e0:fP (L,ks,G) j i=3:=by unfold fP;rw[hm,if_pos rfl,← hrt,if_neg hi]
   have e1:fk (L,ks,G) j i=(0,0):=by unfold fk;rw[e0];rfl
   have e2:sK (L,ks,G) j i=(L,ks,G):=by unfold sK;rw[e0];rfl
   rw[e0,e1,e2] at hR
   have hi':=HD hi
   clear hm hks hW hGw hWs hlen hp hL32 hrt e0 e1 e2 hi
   go_enter func81,ntmps81
   go_wp2_with (first|refine aq 176 rfl hS ?_;clear hS;intro b8 w _ hS|(first|go_at_call 128;refine dT hS h4 hlp j (some ⟨sk.1,0,none⟩) 0 hq'.out he'.out ?_|go_at_call 129;refine oO hS hL32'.out hn32 i hi'.out ?_);clear hS;intro w hS;unfold ab|refine ak rfl hS ?_;clear hS;intro w hS)
   refine bodyPost_ret (aJ rfl hS) rfl ?_
   exact hR _ _ hT (by simp only[List.cons_append,List.append_assoc,hspl];exact hS.p)
def AO (T:Ar)(m:Int):Int:=if fm T m then 0 else 3
theorem od {p:Option Addr}{T:Ar}(hO:St w0 bs w H)(hT:AA p T E)[hc:Cut H E H1](m:Int){l:List Rf}(e:Int)(hl:(if fm T m then ez T m else [])=l)(he:AO T m=e)
  (hR:∀ v E' w',AA p T E->RS v l E'->St w0 bs w' (E'++(E++H1))->ab R (.tuple #[v,.int .i64 e]) w'):Calls prog 203 #[.pointer p,.int .i64 m] w R:=by
 have hS:=hO.fr E H1
 clear hO
 subst hl he
 obtain⟨L,ks,G⟩:=T
 obtain⟨b,bo,ph,Eh,pg,Eg,sts,rfl,hH,hG,hks,hW,hGw,h1,h4,rfl⟩:=id hT
 simp only[bX] at hS
 have hlp:=cC h4
 cases hm:fm (L,ks,G) m with
 | false=>
  have hno:=lR hm hks
  have hq':=HD (show(if 0≤m∧m<(sts.length:Int) then (cv sts).getD m.toNat none else none)=none by rw[if_neg hno])
  have he':=HD (show(if 0≤m∧m<(sts.length:Int) then (0:Int) else 3)=3 by rw[if_neg hno])
  unfold AO at hR
  rw[hm] at hR
  clear hm hno hks hW hGw
  go_enter func203,ntmps203
  go_wp2_with (go_at_call 128;refine dT hS h4 hlp m none 3 hq'.out he'.out ?_;clear hS;intro w hS;unfold ab)
  exact hR _ [] _ hT RS.nil (by simp only[List.nil_append,List.cons_append,List.append_assoc];exact hS.p)
 | true=>
  obtain⟨j,sk,rfl,hj,hsk,hrt⟩:=d7 hm hks
  have hWs:=hW sk (List.mem_of_getElem? hsk)
  have hlen:=hWs.len
  have hp:=ft hsk
  have hq':=HD (show(if (0:Int)≤(j:Int)∧(j:Int)<(sts.length:Int) then (cv sts).getD (j:Int).toNat none else none)=some ⟨sk.1,0,none⟩ by rw[if_pos (by omega),Int.toNat_natCast];exact hp)
  have he':=HD (show(if (0:Int)≤(j:Int)∧(j:Int)<(sts.length:Int) then (0:Int) else 3)=0 by rw[if_pos (by omega)])
  have hspl:=ei hsk
  have hL32:(sk.2.1++sk.2.2).length=32:=by rw[List.length_append];exact hlen
  have hn32:sk.2.1.length≤32:=by omega
  rw[hspl] at hS
  simp only[bX] at hS
  unfold AO at hR
  rw[hm] at hR
  rw[if_pos rfl,if_pos rfl,← hrt] at hR
  clear hm hks hW hGw hWs hp hL32 hrt
  go_enter func203,ntmps203
  go_wp2_with (first|go_at_call 128;refine dT hS h4 hlp j (some ⟨sk.1,0,none⟩) 0 hq'.out he'.out ?_;clear hS;intro w hS;unfold ab|(go_at_call 287;refine Ab hS hlen ?_;clear hS;intro v E1 w hA hS;have hone:=hA.one;unfold ab))
  exact hR _ _ _ hT hA (by simp only[List.cons_append,List.append_assoc,hspl];exact hS.p)
theorem il {p:Option Addr}{T:Ar}(hO:St w0 bs w H)(hT:AA p T E)[hc:Cut H E H1]
  (hR:∀ q E' w',AA p T E->HA q (some (some T.1)) E'->St w0 bs w' (E'++(E++H1))->ab R (.pointer q) w'):Calls prog 204 #[.pointer p] w R:=by
 have hS:=hO.fr E H1
 clear hO
 obtain⟨L,ks,G⟩:=T
 obtain⟨b,bo,ph,Eh,pg,Eg,sts,rfl,hH,hG,hks,hW,hGw,h1,h4,rfl⟩:=id hT
 simp only[bX] at hS
 have hlp:=cC h4
 clear hks hW hGw
 go_enter func204,ntmps204
 go_wp2_with (first|go_at_call 193;refine fM hS ?_;clear hS;intro w hS;unfold ab|go_at_call 288;refine eH hS hH _ rfl ?_;clear hS;intro q E1 w hH1 hH2 hS;unfold ab|refine af rfl hS ?_)
 exact hR _ _ _ hT hH1 (by simp only[bX];exact hS.p)
open Go Go.RowKit Go.Mm
theorem xJ {p:Option Addr}{L:List Hs}(hT:HA p (some (some L)) E){n:Int}{h:Bool}(he:i8 (some (some L)) n h=0) :
  ∃ (L' : List Hs) (i:Nat) (g:Int),qD (some (some L)) n h=some (some L')∧L'.length=L.length∧kX (some (some L)) n h=((i:Int),g)∧(i:Int)<256∧1≤g∧g≤4294967295:=by
 obtain⟨hW,_⟩:=hT
 simp only[i8,qD,kX] at he ⊢
 cases hI:lN L n h with
 | none=>rw[hI] at he;split at he <;> simp at he
 | some i=>
  have hI':=hI
  unfold lN at hI
  split at hI
  ·obtain⟨_,_,_,_,hi,_⟩:=lk hI
   rw[cb] at hi
   have hg:=hW.tb.gn _ (eu (L:=cY L) (i:=i) (by rw[cb];exact hi))
   rw[cT] at hg
   have:=hW.hi
   exact⟨_,i,(L.getD i d8).2.1,rfl,by simp[qE],rfl,by omega,hg.1,hg.2⟩
  ·cases hI
instance MR:ScalarT prog 4:=⟨by kernel_rfl,by kernel_rfl⟩
theorem zh {b6 b7:Nat}{n:Int}{h:Bool}(hO:St w0 bs w H)[h6:Has H b6 #[.int .i64 n] 3][h7:Has H b7 #[.bool h] 4](hR:∀ w',St w0 bs w' H->ab R (.int .i64 (gZ n h)) w'):Calls prog 113 #[.pointer (some ⟨b6,0,none⟩),.pointer (some ⟨b7,0,none⟩)] w R:=by
 have hS:=hO
 clear hO
 obtain⟨e,he⟩:∃ e,gZ n h=e:=⟨_,rfl⟩
 obtain⟨o,ho⟩:∃ o,lM n h=o:=⟨_,rfl⟩
 rw[he] at hR
 have he':=HD he
 have ho':=HD ho
 have hW:=Db n h
 rw[ho] at hW
 obtain⟨on,oF,oh⟩:=o
 have hF4:oF.length=4:=hW.len
 have hA:=dr (n:=on) (h:=oh) hF4
 have hZ:=cV (n:=on) (h:=oh) hF4
 have hO2:=dB (n:=0) (n':=on) (h:=false) (h':=oh) (F:=zero4) rfl hF4
 clear he ho hW
 go_enter func113,ntmps113
 go_wp2_with (first|refine aq 195 rfl hS ?_;clear hS;intro bx w _ hS|go_at_call 114;refine lL hS n h (on,oF,oh) e ho'.out he'.out ?_;clear hS;intro w hS;unfold ab|refine af rfl hS ?_|refine ak rfl hS ?_;clear hS;intro w hS)
 exact hR _ hS.p
theorem zg {b bo b4 b6 b7:Nat}{z k:Int}{ps:List (Option Addr)}{pg ph:Option Addr}{L:List Hs}{n:Int}{h:Bool}{Eh Z:List Ent}(hH:HA ph (some (some L)) Eh)(T' : Hp)(r:Rf)(e:Int)(hT' : qD (some (some L)) n h=T')(hr:kX (some (some L)) n h=r)(he:i8 (some (some L)) n h=e)
  (hO:St w0 bs w (Eh++(⟨b7,#[.bool h],4,true⟩::⟨b6,#[.int .i64 n],3,true⟩::⟨b4,#[.pointer (some ⟨b,0,none⟩)],62,true⟩::⟨b,cA (some ⟨bo,0,none⟩) z k ps pg,121,true⟩::⟨bo,#[.pointer ph],115,true⟩::Z)))
  (hR:∀ Eh' w',HA ph T' Eh'->St w0 bs w' (Eh'++(⟨b7,#[.bool h],4,true⟩::⟨b6,#[.int .i64 n],3,true⟩::⟨b4,#[.pointer (some ⟨b,0,none⟩)],62,true⟩::⟨b,cA (some ⟨bo,0,none⟩) z k ps pg,121,true⟩::⟨bo,#[.pointer ph],115,true⟩::Z))->ab R (.tuple #[.agg #[.int .i64 r.1,.int .u32 r.2],.int .i64 e]) w') :
  Calls prog 115 #[.pointer (some ⟨b4,0,none⟩),.pointer (some ⟨b6,0,none⟩),.pointer (some ⟨b7,0,none⟩)] w R:=by
 have hS:=hO
 clear hO
 obtain⟨r1,r2⟩:=r
 have hT'':=HD hT'
 have hr':=HD hr
 have he':=HD he
 clear hT' hr he
 obtain⟨Y,hY⟩:∃ Y,(⟨b7,#[.bool h],4,true⟩::⟨b6,#[.int .i64 n],3,true⟩::⟨b4,#[.pointer (some ⟨b,0,none⟩)],62,true⟩::⟨b,cA (some ⟨bo,0,none⟩) z k ps pg,121,true⟩::⟨bo,#[.pointer ph],115,true⟩::Z)=Y:=⟨_,rfl⟩
 have y4:Has Y b4 #[.pointer (some ⟨b,0,none⟩)] 62:=by rw[← hY];infer_instance
 have y6:Has Y b6 #[.int .i64 n] 3:=by rw[← hY];infer_instance
 have y7:Has Y b7 #[.bool h] 4:=by rw[← hY];infer_instance
 have yb:Has Y b (cA (some ⟨bo,0,none⟩) z k ps pg) 121:=by rw[← hY];infer_instance
 have yo:Has Y bo #[.pointer ph] 115:=by rw[← hY];infer_instance
 rw[hY] at hS hR
 clear hY
 go_enter func115,ntmps115
 go_wp2_with (refine aq 176 rfl hS ?_;clear hS;intro b3 w _ hS)
 have hS:St w0 bs w (Eh++(⟨b3,#[.int .i64 0,.int .u32 0],176,true⟩::Y)):=hS.p
 refine ao [⟨(undef,Eh),[(9,fun _ x=>HA ph T' x.2)]⟩,⟨(undef,[⟨b3,#[.int .i64 0,.int .u32 0],176,true⟩]),[(12,fun _ x=>x.2=[⟨b3,#[.int .i64 r1,.int .u32 r2],176,true⟩])]⟩]
  Y (Eh++(⟨b3,#[.int .i64 0,.int .u32 0],176,true⟩::Y)) (by simp) hS (by kernel_rfl) (by kernel_rfl) ?_
 (refine fV (fun χ w hw=>ac _ _ rfl hw) ?_)
 refine fV (fun χ w hw=>ah rfl) ?_
 refine fV (fun χ w hw=>ag rfl) ?_
 (refine fV (fun χ w hw=>ac _ _ rfl hw) ?_)
 refine fV (fun χ w hw=>ah rfl) ?_
 refine fV (fun χ w hw=>ag rfl) ?_
 (refine fV (fun χ w hw=>ac _ _ rfl hw) ?_)
 (refine fV (fun χ w hw=>ac _ _ rfl hw) ?_)
 (refine fV (fun χ w hw=>ac _ _ rfl hw) ?_)
 refine cj 0 0 rfl rfl (by kernel_rfl) (by kernel_rfl) (by kernel_rfl) 116 [_,_,_] rfl (fun _=>rfl) ae (fun _=>.tuple #[.agg #[.int .i64 r1,.int .u32 r2],.int .i64 e]) ?_ ?_
 ·intro χ X w _ hS
  exact xQ (show St w0 bs w (Eh++(X++_)) from hS) hH n h (r1,r2) e hT''.out hr'.out he'.out (fun E' w' hT' hS'=>⟨(undef,E'),rfl,hT',show St w0 bs w' (E'++(X++_)) from hS'.p⟩)
 refine fV (fun χ w hw=>aB rfl) ?_
 refine fV (fun χ w hw=>aB rfl) ?_
 refine ap 1 0 rfl rfl (by kernel_rfl) (by kernel_rfl) (by kernel_rfl) (fun _=>rfl) (fun _=>undef) ?_ ?_
 ·rintro χ X w _ hS
  exact aK _ _ _ rfl (show St w0 bs w (⟨b3,#[.int .i64 0,.int .u32 0],176,true⟩::(X++_)) from hS) (fun w' hS'=>⟨(undef,[⟨b3,#[.int .i64 r1,.int .u32 r2],176,true⟩]),rfl,rfl,hS'⟩)
 refine fV (fun χ w hw=>aG rfl) ?_
 refine bC rfl ?_
 intro χ w hok hS
 obtain⟨hT2,_⟩:=hok _ (.head _)
 have hT2:HA ph T' (χ 9).2:=hT2
 obtain⟨hD,_⟩:=hok _ (.tail _ (.head _))
 have hD:(χ 12).2=[⟨b3,#[.int .i64 r1,.int .u32 r2],176,true⟩]:=hD
 have hS:St w0 bs w (((χ 9).2++((χ 12).2++[]))++Y):=hS
 rw[hD,List.append_nil,List.append_assoc] at hS
 generalize (χ 9).2=E' at hS hT2
 simp only[cq] at hS
 clear hok hD
 go_wp2_with (go_skip)
 refine bodyPost_ret (aJ rfl hS) rfl ?_
 exact hR _ _ hT2 hS.p
def fg (T:Ar)(m n:Int)(h:Bool):Ar:=(iJ (qD (some (some T.1)) n h),T.2.1.set m.toNat (ez T m++[kX (some (some T.1)) n h]),T.2.2)
theorem ky {p:Option Addr}{T:Ar}(hO:St w0 bs w H)(hT:AA p T E)[hc:Cut H E H1](m n:Int)(h:Bool)(hm:fm T m=true)(hn:gZ n h=0)(hlt:(ez T m).length<32)(he:i8 (some (some T.1)) n h=0){T': Ar}(r:Rf)(hT' : fg T m n h=T')(hr:kX (some (some T.1)) n h=r)
  (hR:∀ E' w',AA p T' E'->St w0 bs w' (E'++H1)->ab R (.tuple #[.agg #[.int .i64 r.1,.int .u32 r.2],.int .i64 0]) w'):Calls prog 72 #[.pointer p,.int .i64 m,.int .i64 n,.bool h] w R:=by
 have hS:=hO.fr E H1
 clear hO
 obtain⟨L,ks,G⟩:=T
 obtain⟨b,bo,ph,Eh,pg,Eg,sts,rfl,hH,hG,hks,hW,hGw,h1,h4,rfl⟩:=id hT
 simp only[bX] at hS
 have hlp:=cC h4
 obtain⟨j,sk,rfl,hj,hsk,hrt⟩:=d7 hm hks
 have hWs:=hW sk (List.mem_of_getElem? hsk)
 have hlen:=hWs.len
 have hp:=ft hsk
 have hq':=HD (show(if (0:Int)≤(j:Int)∧(j:Int)<(sts.length:Int) then (cv sts).getD (j:Int).toNat none else none)=some ⟨sk.1,0,none⟩ by rw[if_pos (by omega),Int.toNat_natCast];exact hp)
 have he':=HD (show(if (0:Int)≤(j:Int)∧(j:Int)<(sts.length:Int) then (0:Int) else 3)=0 by rw[if_pos (by omega)])
 have hspl:=ei hsk
 have hL32:(sk.2.1++sk.2.2).length=32:=by rw[List.length_append];exact hlen
 have hn32:sk.2.1.length≤32:=by omega
 rw[hspl] at hS
 simp only[bX] at hS
 obtain⟨L',i,g,hT2,hL2,hr2,hib,hg1,hg2⟩:=xJ hH he
 have hr3:r=((i:Int),g):=by rw[← hr,← hr2]
 have hTn:∀ Eh' Y,HA ph (some (some L')) Eh'->Y=⟨b,cA (some ⟨bo,0,none⟩) L.length sts.length (cv sts) pg,121,true⟩::⟨bo,#[.pointer ph],115,true⟩::(Eh'++(Eg++((sts.take j).map bU++(bU (mL sk r)::(sts.drop (j+1)).map bU))))->AA (some ⟨b,0,none⟩) T' Y:=by
  rintro Eh' Y hH' rfl
  have e:T'=(L',ks.set j (mL sk r).2.1,G):=by
   rw[← hT']
   simp only[fg,hT2,iJ,Int.toNat_natCast,← hrt,hr]
   rfl
  subst e
  refine⟨b,bo,ph,Eh',pg,Eg,sts.set j (mL sk r),rfl,hH',hG,by rw[List.map_set,hks],fun y hy=>?_,hGw,by rw[List.length_set];exact h1,by rw[List.length_set];exact h4,by rw[List.length_set,jc (sk':=mL sk r) hsk rfl,lq hsk,hL2]⟩
  rcases List.mem_or_eq_of_mem_set hy with hy|rfl
  ·exact hW y hy
  ·exact tF hWs (by rw[hrt];exact hlt) (by rw[hr3];exact⟨⟨by omega,hib⟩,hg1,hg2⟩)
 have hTn':=HD hTn
 have hlt2:sk.2.1.length<32:=by rw[hrt];exact hlt
 have hrb:(0≤r.1∧r.1<256)∧1≤r.2:=by rw[hr3];exact⟨⟨by omega,hib⟩,hg1⟩
 have hn':=HD hn
 have hm2':=HD hT2
 have hr':=HD hr
 have hme':=HD he
 have hp':=HD hp
 have hWs':=HD hWs
 have hrb':=HD hrb
 clear hm hks hW hGw hWs hlen hp hL32 hrt hn hr he hlt hTn hT' hT2 hL2 hr2 hib hg1 hg2 hr3 hrb
 go_enter func72,ntmps72
 go_wp2_with (first|refine am 62 rfl hS ?_;clear hS;intro b4 w _ hS|refine am 3 rfl hS ?_;clear hS;intro b6 w _ hS|refine am 4 rfl hS ?_;clear hS;intro b7 w _ hS|refine aq 176 rfl hS ?_;clear hS;intro b8 w _ hS|refine af rfl hS ?_)
 refine vf (fl:=113) (ff:=115) (capl:=[_,_]) (capf:=[_,_,_]) (sk:=sk) (Hl:=⟨b8,#[.int .i64 0,.int .u32 0],176,true⟩::⟨b7,#[.bool h],4,true⟩::⟨b6,#[.int .i64 n],3,true⟩::⟨b4,#[.pointer (some ⟨b,0,none⟩)],62,true⟩::⟨b,cA (some ⟨bo,0,none⟩) L.length sts.length (cv sts) pg,121,true⟩::⟨bo,#[.pointer ph],115,true⟩::(Eh++(Eg++((sts.take j).map bU++(bU sk::((sts.drop (j+1)).map bU++H1)))))) hS h4 hlp hj hp'.out hWs'.out hlt2 ae ae r hrb'.out
  (fun Y=>∃ Eh',HA ph (some (some L')) Eh'∧Y=⟨b8,#[.int .i64 0,.int .u32 0],176,true⟩::⟨b7,#[.bool h],4,true⟩::⟨b6,#[.int .i64 n],3,true⟩::⟨b4,#[.pointer (some ⟨b,0,none⟩)],62,true⟩::⟨b,cA (some ⟨bo,0,none⟩) L.length sts.length (cv sts) pg,121,true⟩::⟨bo,#[.pointer ph],115,true⟩::(Eh'++(Eg++((sts.take j).map bU++((sts.drop (j+1)).map bU++H1))))) ?_ ?_ ?_
 ·intro X w' hS'
  exact zh (n:=n) (h:=h) hS' (fun w'' hS''=>⟨by rw[hn'.out],hS''⟩)
 ·intro X w' hS'
  refine zg (b:=b) (bo:=bo) (bs:=bs) (w0:=w0) (z:=L.length) (k:=sts.length) (ps:=cv sts) (pg:=pg) (Z:=⟨b8,#[.int .i64 0,.int .u32 0],176,true⟩::(Eg++((sts.take j).map bU++(bU sk::((sts.drop (j+1)).map bU++(H1++X)))))) hH (some (some L')) r 0 hm2'.out hr'.out hme'.out ?_ (fun Eh' w'' hH' hS''=>⟨_,rfl,⟨Eh',hH',rfl⟩,?_⟩)
  ·simp only[bX] at hS'
   exact hS'.p
  ·simp only[bX]
   exact hS''.p
 ·rintro Y w ⟨Eh',hH',rfl⟩ hS
  unfold ab
  go_wp2_with ((refine ak rfl hS ?_);clear hS;intro w hS)
  refine bodyPost_ret (aJ rfl hS) rfl ?_
  exact hR _ _ (hTn'.out _ _ hH' rfl) (by simp only[bX];exact hS.p)
end Go.Proofs.YtnbgljbhkeffkaaGreatDoor
