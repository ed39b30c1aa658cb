/-
  Contracts of what the law TopPasses reaches, part 33: Mca Mcb Mcd Mce Mcf.
-/
import Derived.Test.YtnbgljbhkeffkaaGreatDoorQ30
import Derived.Test.YtnbgljbhkeffkaaGreatDoorQ31
open Go.Proofs.Tryz
set_option linter.unusedVariables false
set_option linter.unusedSimpArgs false
set_option maxHeartbeats 4000000
set_option maxRecDepth 100000
namespace Go.Proofs.YtnbgljbhkeffkaaGreatDoor
open Go.RowKit Go.Mm
variable {R:Ending->World->Prop}{w W:World}{w0:World}{As bs:List Nat}{H H' H1 H2 H3 E E' E1 E2 Ea Eh Er:List Ent}
variable {Ms Ms1 Ms2 Ms3:dF}
variable {c:Cfg}{p:Option Addr}{T:Ar}{C:Cy}{K:Rk}{D:Option (Int×Int)}{N:Nat}
def cP (m:Int)(pr:Option Addr)(v1 v2:Value):Array Value:=#[.int .i64 m,.pointer pr,v1,v2]
def dN (D:Option (Int×Int)):Nat:=match D with|none=>0|some _=>1
def dX (D:Option (Int×Int)):List Value:=match D with|none=>[]|some (i,g)=>[.int .i64 1,.int .i64 i,.int .u32 g]
def MH (c:Cfg)(p:Option Addr)(T:Ar)(C:Cy)(K:Rk)(D:Option (Int×Int))(N:Nat)(E:List Ent):Prop:=
 ∃ b br v1 v2 xs Eg Ed El,p=some ⟨b,0,none⟩∧RG c (some ⟨br,0,none⟩) T C K Eg∧Sl 259 3 v1 (dN D) (dX D) Ed∧Sl 35 2 v2 N xs El∧N<100000 ∧
  E=⟨b,cP c.m (some ⟨br,0,none⟩) v1 v2,53,true⟩::(Eg++(Ed++El))
instance Kk:ScalarT prog 50:=⟨by kernel_rfl,by kernel_rfl⟩
instance Kj:ScalarT prog 51:=⟨by kernel_rfl,by kernel_rfl⟩
instance J6:AggT prog 35 2:=⟨by kernel_rfl,by kernel_rfl⟩
instance N6:ZeroT prog 35 #[.int .i64 0,.int .i64 0]:=⟨by kernel_rfl⟩
instance N8:ElemT prog 35 2 16 #[.int .i64 0,.int .i64 0]:=⟨by kernel_rfl⟩
instance N7:SliceT prog 51 35:=⟨by kernel_rfl⟩
instance Ol:ElemT prog 259 3 24 #[.int .i64 0,.int .i64 0,.int .u32 0]:=⟨by kernel_rfl⟩
instance Ok:SliceT prog 50 259:=⟨by kernel_rfl⟩
instance Ko {b off:Nat} : FieldAt prog 53 0 b off off:=⟨fun w=>by kernel_rfl⟩
instance Kn {b off:Nat} : FieldAt prog 53 1 b off (off+1):=⟨fun w=>by kernel_rfl⟩
instance Km {b off:Nat} : FieldAt prog 53 2 b off (off+2):=⟨fun w=>by kernel_rfl⟩
instance Kl {b off:Nat} : FieldAt prog 53 3 b off (off+3):=⟨fun w=>by kernel_rfl⟩
instance J5 {e:Int} : BuildT prog 35 [(0,.int .i64 e)] #[.int .i64 e,.int .i64 0]:=⟨fun w=>by kernel_rfl⟩
instance J4 {n:Int} : BuildT prog 35 [(1,.int .i64 n)] #[.int .i64 0,.int .i64 n]:=⟨fun w=>by kernel_rfl⟩
instance J3 {e n:Int} : BuildT prog 35 [(0,.int .i64 e),(1,.int .i64 n)] #[.int .i64 e,.int .i64 n]:=⟨fun w=>by kernel_rfl⟩
instance Kp {m:Int}{q:Option Addr} : BuildT prog 53 [(0,.int .i64 m),(1,.pointer q)] (cP m q (.slice none 0 0) (.slice none 0 0)):=⟨fun w=>by kernel_rfl⟩
section
variable {m:Int}{q:Option Addr}{v1 v2 u:Value}
instance Ot:CellAt (cP m q v1 v2) 0 (.int .i64 m):=⟨rfl⟩
instance SJ:CellAt (cP m q v1 v2) (0+1) (.pointer q):=⟨rfl⟩
instance Or:CellAt (cP m q v1 v2) (0+2) v1:=⟨rfl⟩
instance Oq:CellAt (cP m q v1 v2) (0+3) v2:=⟨rfl⟩
instance Oo:SetAt (cP m q v1 v2) (0+2) u (cP m q u v2):=⟨rfl,by simp [cP]⟩
instance On:SetAt (cP m q v1 v2) (0+3) u (cP m q v1 u):=⟨rfl,by simp [cP]⟩
theorem nn {b br:Nat}(hO:St w0 bs w H)[hH:Has H b (cP m (some ⟨br,0,none⟩) v1 v2) 53](hR:∀ w',St w0 bs w' H->ab R (.bool true) w'):Calls prog 13 #[.pointer (some ⟨b,0,none⟩)] w R:=by
 have hS:=hO
 clear hO
 go_enter func13,ntmps13
 go_wp2_with (refine af rfl hS ?_)
 exact hR _ hS
end
theorem uR (hcf:CfgW c)(hB:Mps W As w0 bs Ms)(hO:St w0 bs w H)(hn:cO c.z c.fs=true)
  (hR:∀ p K E w0' bs' w',MH c p (e8 c.z c.m c.fs) ⟨⟨nj c.m,Col.zerosL,List.replicate c.m []⟩,c.z,0,0,false⟩ K none 0 E->K.tb=ia 256 c.fs->K.o=none->K.L=List.replicate 64 (0,c.fs)->Mps W As w0' bs' ((K.ml,[])::(K.mf,[])::(K.me,[])::(K.mc,[])::(K.mb,[])::(K.mo,[])::(K.mz,[])::Ms)->St w0' bs' w' (E++H)->ab R (.tuple #[.pointer p,.int .i64 0]) w'):Calls prog 6 #[.agg (dD c)] w R:=by
 have hS:=hO
 clear hO
 have hone:=kr (c:=c)
 have hcf':=HD hcf
 have hn':=HD hn
 clear hcf hn
 go_enter func6,ntmps6
 go_wp2_with (first|refine am 28 rfl hS ?_;clear hS;intro b1 w _ hS|go_at_call 12;refine Ad hcf'.out hB hS hn'.out ?_;clear hB hS;intro pr K Eg w0 bs w hG hK1 hK2 hK3 hB hS;unfold ab|refine am 53 rfl hS ?_;clear hS;intro b w _ hS|refine aL rfl ?_|(first|refine af rfl hS ?_|refine au rfl hS ?_))
 have hG':=hG
 obtain⟨br,_,_,_,_,_,_,_,_,_,_,_,_,rfl,_⟩:=hG'
 exact hR _ K _ _ _ _ ⟨b,br,_,_,[],Eg,[],[],rfl,hG,fu,fu,by decide,rfl⟩ hK1 hK2 hK3 hB (by simp only[List.cons_append,List.append_nil,List.append_assoc];exact hS.p)
theorem rX {l:List (Value×Value)}(hB:Mps W As w0 bs Ms)(hO:St w0 bs w H)(hT:MH c p T C K D N E)[hc:Cut H E H1](hL:0<K.L.length)[hM:MapIn Ms K.mf l][hM2:MapIn Ms K.ml []]
  (hR:∀ w0' bs' w',Mps W As w0' bs' Ms->St w0' bs' w' (E++H1)->ab R (.slice none 0 0) w'):Calls prog 11 #[.pointer p] w R:=by
 have hS:=hO.fr E H1
 clear hO
 obtain⟨b,br,v1,v2,xs,Eg,Ed,El,rfl,hG,hD,hN,hN0,rfl⟩:=id hT
 simp only[aP] at hS
 have hone1:=hD.one
 have hone2:=hN.one
 go_enter func11,ntmps11
 go_wp2_with (first|go_at_call 13;refine nn hS ?_;clear hS;intro w hS;unfold ab|go_at_call 16;refine tX hB hS hG hL ?_;clear hB hS;intro p2 mf2 ml2 Ew w0 bs w hW hB hS;unfold ab|(go_at_call 17;refine rS hB hS hW ?_;clear hB hS;intro b3 m3 w0 bs w hB hS;replace hB:=hB.drop.drop.drop;unfold ab)|go_at_call 18;refine A0 (m:=m3) hS ?_;clear hS;intro w hS;unfold ab|refine af rfl hS ?_)
 exact hR _ _ _ hB (by(try simp only[aP]);exact hS.p)
open Go.RowKit Go.Mm
variable {c:Cfg}{p:Option Addr}{T:Ar}{C:Cy}{K:Rk}{D:Option (Int×Int)}{N:Nat}{k x1 x2 x3:Int}{x0:Nat}{s:ByteArray}
abbrev bZ (e n:Int):Array Value:=#[.int .i64 e,.int .i64 n]
instance IF {e n:Int} : CellsAt (bZ e n) 0 2 (bZ e n):=⟨fun j hj=>match j,hj with|0,_=>rfl|1,_=>rfl,rfl⟩
structure MrX where
 T:Ar
 C:Cy
 E:List Ent
 e:Int
instance :Inhabited MrX:=⟨⟨([],[],[]),default,[],0⟩⟩
theorem AQ (hO:St w0 bs w H)(hT:MH c p T C K D N E)[hc:Cut H E H1](hz:T.1.length=c.z)(hk:T.2.1.length=c.m)(hi:x0<c.m)(h32:(ez T x0).length≤300)
  (hR:∀ C' E' w' e,pI c.z T C C' x0->MH c p T C' K D N E'->St w0 bs w' (E'++H1)->ab R (.agg (bZ e 0)) w'):Calls prog 60 #[.pointer p,.agg (aQ [k,x0,x1,x2,x3] s)] w R:=by
 have hS:=hO.fr E H1
 clear hO
 obtain⟨b,br,v1,v2,xs,Eg,Ed,El,rfl,hG,hD,hN,hN0,rfl⟩:=id hT
 simp only[aP] at hS
 have hone1:=hD.one
 have hone2:=hN.one
 have hone:=eo (l:=[k,(x0:Int),x1,x2,x3]) (s:=s)
 have hsz:SizeIs (aQ [k,(x0:Int),x1,x2,x3] s) 6:=⟨rfl⟩
 have hst:CellAt (aQ [k,(x0:Int),x1,x2,x3] s) (0+5) (.string s):=⟨rfl⟩
 go_enter func60,ntmps60
 go_wp2_with (first|refine am 38 rfl hS ?_;clear hS;intro b3 w _ hS|refine aq 35 rfl hS ?_;clear hS;intro b4 w _ hS)
 refine aj (X:=MrX) (fun w=>St w0 bs w (⟨b4,bZ 0 0,35,true⟩::⟨b3,aQ [k,(x0:Int),x1,x2,x3] s,38,true⟩::⟨b,cP c.m (some ⟨br,0,none⟩) v1 v2,53,true⟩::(Eg++(Ed++(El++H1))))) [(6,fun χ w=>pI c.z T C (χ 6).C x0∧RG c (some ⟨br,0,none⟩) T (χ 6).C K (χ 6).E∧St w0 bs w (⟨b4,bZ 0 0,35,true⟩::⟨b3,aQ [k,(x0:Int),x1,x2,x3] s,38,true⟩::⟨b,cP c.m (some ⟨br,0,none⟩) v1 v2,53,true⟩::((χ 6).E++(Ed++(El++H1))))),(8,fun χ w=>pI c.z T C (χ 6).C x0∧RG c (some ⟨br,0,none⟩) T (χ 6).C K (χ 6).E∧St w0 bs w (⟨b4,bZ (χ 6).e 0,35,true⟩::⟨b3,aQ [k,(x0:Int),x1,x2,x3] s,38,true⟩::⟨b,cP c.m (some ⟨br,0,none⟩) v1 v2,53,true⟩::((χ 6).E++(Ed++(El++H1)))))] (hS.drawn _) (by kernel_rfl) (by kernel_rfl) ?_
 iterate 6 first|(refine bF 0 (fun _=>rfl) rfl (fun χ w hw=>ac _ _ rfl (show St _ _ w _ from hw)) ?_)|(refine oP (fun χ w=>ad rfl) ?_)|(refine oP (fun χ w=>ah rfl) ?_)|(refine oP (fun χ w=>ag rfl) ?_)
 refine aO 0 rfl (by kernel_rfl) (fun _=>rfl) (fun x=>.int .i64 x.e) (fun χ w hw=>aw rfl ae ?_) ?_
 ·have hS:St w0 bs w (⟨b4,bZ 0 0,35,true⟩::⟨b3,aQ [k,(x0:Int),x1,x2,x3] s,38,true⟩::⟨b,cP c.m (some ⟨br,0,none⟩) v1 v2,53,true⟩::(Eg++(Ed++(El++H1)))):=hw
  exact Af hS hG hz hk x0 hi h32 (fun C' E' w' e h1 h2 hS=>⟨_,rfl,⟨T,C',E',e⟩,rfl,h1,h2,(show St w0 bs w' (⟨b4,bZ 0 0,35,true⟩::⟨b3,aQ [k,(x0:Int),x1,x2,x3] s,38,true⟩::⟨b,cP c.m (some ⟨br,0,none⟩) v1 v2,53,true⟩::(E'++(Ed++(El++H1)))) from hS.p)⟩)
 refine eQ 6 (fun _=>rfl) rfl (fun x=>.agg (bZ x.e 0)) (fun χ w=>bQ _ _ rfl) ?_
 refine aO 1 rfl (by kernel_rfl) (fun _=>rfl) (fun _=>undef) (fun χ w hw=>?_) ?_
 ·obtain⟨h1,h2,hS⟩:=hw
  exact aK _ _ _ rfl (show St w0 bs w (⟨b4,bZ 0 0,35,true⟩::⟨b3,aQ [k,(x0:Int),x1,x2,x3] s,38,true⟩::⟨b,cP c.m (some ⟨br,0,none⟩) v1 v2,53,true⟩::((χ 6).E++(Ed++(El++H1)))) from hS) (fun w' hS'=>⟨default,rfl,h1,h2,hS'⟩)
 refine aV rfl ?_
 rintro χ w ⟨h1,h2,hS⟩
 simp only[Nat.zero_add,Nat.reduceAdd]
 generalize χ 6=x at h1 h2 hS ⊢
 obtain⟨_,C2,E2,e⟩:=x
 simp only at h1 h2 hS
 clear χ
 go_wp2_with (go_skip)
 refine bodyPost_ret (aI rfl hS) rfl ?_
 exact hR C2 _ _ e h1 ⟨b,br,v1,v2,xs,E2,Ed,El,rfl,h2,hD,hN,hN0,rfl⟩ (by(try simp only[aP]);exact hS.p)
theorem t0 {x1:Int}(I:Nat->Ar->Cy->Prop)(n:Nat)(hx:x1=n)(hn:1≤n∧n≤10000)(hO:St w0 bs w H)(hT:RG c p T C K E)[hc:Cut H E H1](hI:I 0 T C)(hpre:∀ k T C,k<n->I k T C->CyPre c.z c.m T C)(hstep:∀ k T C T' C',k<n->I k T C->i9 c.z c.m T C T' C'->I (k+1) T' C')
  (hR:∀ T' C' E' w',I n T' C'->RG c p T' C' K E'->St w0 bs w' (E'++H1)->ab R (.int .i64 0) w'):Calls prog 107 #[.pointer p,.int .i64 x1] w R:=by
 subst hx
 exact wZ I n hn hO hT hI hpre hstep hR
theorem xH (I:Nat->Ar->Cy->Prop)(n:Nat)(hn:1≤n∧n≤10000)(hx:x1=n)(hO:St w0 bs w H)(hT:MH c p T C K D N E)[hc:Cut H E H1](hI:I 0 T C)(hpre:∀ k T C,k<n->I k T C->CyPre c.z c.m T C)(hstep:∀ k T C T' C',k<n->I k T C->i9 c.z c.m T C T' C'->I (k+1) T' C')
  (hR:∀ T' C' E' w',I n T' C'->MH c p T' C' K D N E'->St w0 bs w' (E'++H1)->ab R (.agg (bZ 0 0)) w'):Calls prog 66 #[.pointer p,.agg (aQ [k,x0,x1,x2,x3] s)] w R:=by
 have hS:=hO.fr E H1
 clear hO
 obtain⟨b,br,v1,v2,xs,Eg,Ed,El,rfl,hG,hD,hN,hN0,rfl⟩:=id hT
 simp only[aP] at hS
 have hone1:=hD.one
 have hone2:=hN.one
 have hone:=eo (l:=[k,(x0:Int),x1,x2,x3]) (s:=s)
 have hsz:SizeIs (aQ [k,(x0:Int),x1,x2,x3] s) 6:=⟨rfl⟩
 have hst:CellAt (aQ [k,(x0:Int),x1,x2,x3] s) (0+5) (.string s):=⟨rfl⟩
 have hx':=HD hx
 clear hx
 go_enter func66,ntmps66
 go_wp2_with (first|refine am 38 rfl hS ?_;clear hS;intro b3 w _ hS|refine aq 35 rfl hS ?_;clear hS;intro b4 w _ hS)
 refine aj (X:=MrX) (fun w=>St w0 bs w (⟨b4,bZ 0 0,35,true⟩::⟨b3,aQ [k,(x0:Int),x1,x2,x3] s,38,true⟩::⟨b,cP c.m (some ⟨br,0,none⟩) v1 v2,53,true⟩::(Eg++(Ed++(El++H1))))) [(6,fun χ w=>I n (χ 6).T (χ 6).C∧RG c (some ⟨br,0,none⟩) (χ 6).T (χ 6).C K (χ 6).E∧St w0 bs w (⟨b4,bZ 0 0,35,true⟩::⟨b3,aQ [k,(x0:Int),x1,x2,x3] s,38,true⟩::⟨b,cP c.m (some ⟨br,0,none⟩) v1 v2,53,true⟩::((χ 6).E++(Ed++(El++H1))))),(8,fun χ w=>I n (χ 6).T (χ 6).C∧RG c (some ⟨br,0,none⟩) (χ 6).T (χ 6).C K (χ 6).E∧St w0 bs w (⟨b4,bZ 0 0,35,true⟩::⟨b3,aQ [k,(x0:Int),x1,x2,x3] s,38,true⟩::⟨b,cP c.m (some ⟨br,0,none⟩) v1 v2,53,true⟩::((χ 6).E++(Ed++(El++H1)))))] (hS.drawn _) (by kernel_rfl) (by kernel_rfl) ?_
 iterate 6 first|(refine bF 0 (fun _=>rfl) rfl (fun χ w hw=>ac _ _ rfl (show St _ _ w _ from hw)) ?_)|(refine oP (fun χ w=>ad rfl) ?_)|(refine oP (fun χ w=>ah rfl) ?_)|(refine oP (fun χ w=>ag rfl) ?_)
 refine aO 0 rfl (by kernel_rfl) (fun _=>rfl) (fun x=>.int .i64 0) (fun χ w hw=>aw rfl ae ?_) ?_
 ·have hS:St w0 bs w (⟨b4,bZ 0 0,35,true⟩::⟨b3,aQ [k,(x0:Int),x1,x2,x3] s,38,true⟩::⟨b,cP c.m (some ⟨br,0,none⟩) v1 v2,53,true⟩::(Eg++(Ed++(El++H1)))):=hw
  exact t0 I n hx'.out hn hS hG hI hpre hstep (fun T' C' E' w' h1 h2 hS=>⟨_,rfl,⟨T',C',E',0⟩,rfl,h1,h2,(show St w0 bs w' (⟨b4,bZ 0 0,35,true⟩::⟨b3,aQ [k,(x0:Int),x1,x2,x3] s,38,true⟩::⟨b,cP c.m (some ⟨br,0,none⟩) v1 v2,53,true⟩::(E'++(Ed++(El++H1)))) from hS.p)⟩)
 refine oP (fun χ w=>bQ _ _ rfl) ?_
 refine aO 1 rfl (by kernel_rfl) (fun _=>rfl) (fun _=>undef) (fun χ w hw=>?_) ?_
 ·obtain⟨h1,h2,hS⟩:=hw
  exact aK _ _ _ rfl (show St w0 bs w (⟨b4,bZ 0 0,35,true⟩::⟨b3,aQ [k,(x0:Int),x1,x2,x3] s,38,true⟩::⟨b,cP c.m (some ⟨br,0,none⟩) v1 v2,53,true⟩::((χ 6).E++(Ed++(El++H1)))) from hS) (fun w' hS'=>⟨default,rfl,h1,h2,hS'⟩)
 refine aV rfl ?_
 rintro χ w ⟨h1,h2,hS⟩
 simp only[Nat.zero_add,Nat.reduceAdd]
 generalize χ 6=x at h1 h2 hS ⊢
 obtain⟨T2,C2,E2,e⟩:=x
 simp only at h1 h2 hS
 clear χ
 go_wp2_with (go_skip)
 refine bodyPost_ret (aI rfl hS) rfl ?_
 exact hR T2 C2 _ _ h1 ⟨b,br,v1,v2,xs,E2,Ed,El,rfl,h2,hD,hN,hN0,rfl⟩ (by(try simp only[aP]);exact hS.p)
theorem uG (hO:St w0 bs w H)(hT:MH c p T C K D N E)[hc:Cut H E H1]
  (hR:∀ C' E' w',kB C C'->MH c p T C' K D N E'->St w0 bs w' (E'++H1)->ab R (.agg (bZ 0 0)) w'):Calls prog 69 #[.pointer p,.agg (aQ [k,x0,x1,x2,x3] s)] w R:=by
 have hS:=hO.fr E H1
 clear hO
 obtain⟨b,br,v1,v2,xs,Eg,Ed,El,rfl,hG,hD,hN,hN0,rfl⟩:=id hT
 simp only[aP] at hS
 have hone1:=hD.one
 have hone2:=hN.one
 have hone:=eo (l:=[k,(x0:Int),x1,x2,x3]) (s:=s)
 have hsz:SizeIs (aQ [k,(x0:Int),x1,x2,x3] s) 6:=⟨rfl⟩
 have hst:CellAt (aQ [k,(x0:Int),x1,x2,x3] s) (0+5) (.string s):=⟨rfl⟩
 go_enter func69,ntmps69
 go_wp2_with (first|refine am 38 rfl hS ?_;clear hS;intro b3 w _ hS|refine aq 35 rfl hS ?_;clear hS;intro b4 w _ hS|go_at_call 110;refine t3 hS hG ?_;clear hS;intro C2 E2 w h1 h2 hS;unfold ab|refine aL rfl ?_|refine af rfl hS ?_|refine ak rfl hS ?_;clear hS;intro w hS)
 refine bodyPost_ret (aI rfl hS) rfl ?_
 exact hR C2 _ _ h1 ⟨b,br,v1,v2,xs,E2,Ed,El,rfl,h2,hD,hN,hN0,rfl⟩ (by(try simp only[aP]);exact hS.p)
theorem uI (n:Nat){l l2:List (Value×Value)}(hB:Mps W As w0 bs Ms)(hO:St w0 bs w H)(hT:MH c p T C K D N E)[hc:Cut H E H1](hl:Lv K.o n)(hle:l=[]∨∃ i g s h,l=[(vI i,.agg (fd i g s h))])[hM:MapIn Ms K.me l](hL:0<K.L.length)[hM2:MapIn Ms K.mf l2][hM3:MapIn Ms K.ml []]
  (hR:∀ w0' bs' w',Mps W As w0' bs' Ms->St w0' bs' w' (E++H1)->ab R (.agg (bZ 0 0)) w'):Calls prog 67 #[.pointer p,.agg (aQ [k,x0,x1,x2,x3] s)] w R:=by
 have hS:=hO.fr E H1
 clear hO
 obtain⟨b,br,v1,v2,xs,Eg,Ed,El,rfl,hG,hD,hN,hN0,rfl⟩:=id hT
 simp only[aP] at hS
 have hone1:=hD.one
 have hone2:=hN.one
 have hone:=eo (l:=[k,(x0:Int),x1,x2,x3]) (s:=s)
 have hsz:SizeIs (aQ [k,(x0:Int),x1,x2,x3] s) 6:=⟨rfl⟩
 have hst:CellAt (aQ [k,(x0:Int),x1,x2,x3] s) (0+5) (.string s):=⟨rfl⟩
 have hl':=HD hl
 have hle':=HD hle
 clear hl hle
 go_enter func67,ntmps67
 go_wp2_with (first|refine am 38 rfl hS ?_;clear hS;intro b3 w _ hS|refine aq 35 rfl hS ?_;clear hS;intro b4 w _ hS|go_at_call 108;refine t5 n (l2:=l2) hB hS hG hl'.out hle'.out hL ?_;clear hB hS;intro w0 bs w hB hS;unfold ab|refine aL rfl ?_|refine af rfl hS ?_|refine ak rfl hS ?_;clear hS;intro w hS)
 refine bodyPost_ret (aI rfl hS) rfl ?_
 exact hR _ _ _ hB (by(try simp only[aP]);exact hS.p)
section
variable {i g:Int}
theorem ze {gx cap:Nat} : IdxV prog 50 (.slice (some ⟨gx,0,none⟩) 1 cap) 0 ⟨gx,0,none⟩:=fG (P:=prog) (z:=3) (i:=0) (e:=259) (by kernel_rfl) (by decide)
theorem zf {sp:List Value} : CellsAt ([Value.int .i64 1,.int .i64 i,.int .u32 g]++sp).toArray 0 3 (vD i g):=⟨fun j hj=>match j,hj with|0,_=>by simp|1,_=>by simp|2,_=>by simp,rfl⟩
theorem AP (h:Int)(hs:Int)(hB:Mps W As w0 bs Ms)(hO:St w0 bs w H)(hT:MH c p T C K (some (i,g)) N E)[hc:Cut H E H1](hi:0≤i∧i<256)(hg:1≤g∧g≤4294967295)(n e:Int)(hx:x1=0)(hM:(MapIn Ms K.me [(vI i,.agg (fd i g hs h))]∧n=1∧e=0)∨(MapIn Ms K.me []∧n=0∧e=7))
  (hR:∀ w',St w0 bs w' (E++H1)->ab R (.agg (bZ e 0)) w'):Calls prog 63 #[.pointer p,.agg (aQ [k,x0,x1,x2,x3] s)] w R:=by
 subst hx
 obtain⟨x1,hx1⟩:∃ x1:Int,x1=0:=⟨_,rfl⟩
 have hS:=hO.fr E H1
 clear hO
 obtain⟨b,br,v1,v2,xs,Eg,Ed,El,rfl,hG,hD,hN,hN0,rfl⟩:=id hT
 simp only[aP] at hS
 have hone1:=hD.one
 have hone2:=hN.one
 have hone:=eo (l:=[k,(x0:Int),0,x2,x3]) (s:=s)
 have hsz:SizeIs (aQ [k,(x0:Int),0,x2,x3] s) 6:=⟨rfl⟩
 have hst:CellAt (aQ [k,(x0:Int),0,x2,x3] s) (0+5) (.string s):=⟨rfl⟩
 have hD1:Sl 259 3 v1 1 (dX (some (i,g))) Ed:=hD
 obtain⟨gx,cap,sp,rfl,rfl,hd1,hd2,hd3⟩:=hD1.some (by decide)
 have hix:=ze (gx:=gx) (cap:=cap)
 have hdx:CellsAt (dX (some (i,g))++sp).toArray 0 3 (vD i g):=zf
 have hM':=HD hM
 clear hM
 go_enter func63,ntmps63
 go_wp2_with (first|refine am 38 rfl hS ?_;clear hS;intro b3 w _ hS|refine aq 35 rfl hS ?_;clear hS;intro b4 w _ hS)
 refine aj (X:=Unit) (fun w=>St w0 bs w (⟨b4,bZ 0 0,35,true⟩::⟨b3,aQ [k,(x0:Int),0,x2,x3] s,38,true⟩::⟨b,cP c.m (some ⟨br,0,none⟩) (.slice (some ⟨gx,0,none⟩) 1 cap) v2,53,true⟩::(Eg++(⟨gx,(dX (some (i,g))++sp).toArray,259,true⟩::(El++H1))))) [(14,fun _ w=>St w0 bs w (⟨b4,bZ e 0,35,true⟩::⟨b3,aQ [k,(x0:Int),0,x2,x3] s,38,true⟩::⟨b,cP c.m (some ⟨br,0,none⟩) (.slice (some ⟨gx,0,none⟩) 1 cap) v2,53,true⟩::(Eg++(⟨gx,(dX (some (i,g))++sp).toArray,259,true⟩::(El++H1)))))] (hS.drawn _) (by kernel_rfl) (by kernel_rfl) ?_
 iterate 10 first|(refine bF 0 (fun _=>rfl) rfl (fun χ w hw=>ac _ _ rfl (show St _ _ w _ from hw)) ?_)|(refine oP (fun χ w=>ad rfl) ?_)|(refine oP (fun χ w=>ah rfl) ?_)|(refine oP (fun χ w=>ag rfl) ?_)
 refine oP (fun χ w=>aY _ _ _ rfl) ?_
 iterate 1 (refine bF 0 (fun _=>rfl) rfl (fun χ w hw=>ai _ _ rfl (show St _ _ w _ from hw)) ?_)
 refine dA 0 104 [_,_] rfl (fun _=>rfl) rfl ae (.int .i64 e) (fun χ w hw=>by
  have hS:St w0 bs w (⟨b4,bZ 0 0,35,true⟩::⟨b3,aQ [k,(x0:Int),0,x2,x3] s,38,true⟩::⟨b,cP c.m (some ⟨br,0,none⟩) (.slice (some ⟨gx,0,none⟩) 1 cap) v2,53,true⟩::(Eg++(⟨gx,(dX (some (i,g))++sp).toArray,259,true⟩::(El++H1)))):=hw
  exact Ac hB hS hG i g hi hg n e hM'.out (fun w' hS=>⟨rfl,(show St w0 bs w' (⟨b4,bZ 0 0,35,true⟩::⟨b3,aQ [k,(x0:Int),0,x2,x3] s,38,true⟩::⟨b,cP c.m (some ⟨br,0,none⟩) (.slice (some ⟨gx,0,none⟩) 1 cap) v2,53,true⟩::(Eg++(⟨gx,(dX (some (i,g))++sp).toArray,259,true⟩::(El++H1)))) from hS.p)⟩)) ?_
 refine oP (fun χ w=>bQ _ _ rfl) ?_
 refine aO 0 rfl (by kernel_rfl) (fun _=>rfl) (fun _=>undef) (fun χ w hw=>?_) ?_
 ·exact aK _ _ _ rfl (show St w0 bs w (⟨b4,bZ 0 0,35,true⟩::⟨b3,aQ [k,(x0:Int),0,x2,x3] s,38,true⟩::⟨b,cP c.m (some ⟨br,0,none⟩) (.slice (some ⟨gx,0,none⟩) 1 cap) v2,53,true⟩::(Eg++(⟨gx,(dX (some (i,g))++sp).toArray,259,true⟩::(El++H1)))) from hw) (fun w' hS'=>⟨(),rfl,hS'⟩)
 refine aV rfl ?_
 intro χ w hS
 replace hS:St w0 bs w (⟨b4,bZ e 0,35,true⟩::⟨b3,aQ [k,(x0:Int),0,x2,x3] s,38,true⟩::⟨b,cP c.m (some ⟨br,0,none⟩) (.slice (some ⟨gx,0,none⟩) 1 cap) v2,53,true⟩::(Eg++(⟨gx,(dX (some (i,g))++sp).toArray,259,true⟩::(El++H1)))):=hS
 clear χ
 go_wp2_with (go_skip)
 refine bodyPost_ret (aI rfl hS) rfl ?_
 exact hR _ (by(try simp only[aP]);exact hS.p)
end
open Go.RowKit Go.Mm
theorem oJ {P:Program}{t e:TypeId}{size n:Nat}{v:Value}{xs:List Value}(h:Sl e size v n xs E)[ht:SliceT P t e] : LenV P t v n:=by
 refine⟨?_,e,ht.h⟩
 rcases h.or with ⟨rfl,h0,_⟩|⟨g,cap,sp,rfl,_⟩
 ·exact⟨none,0,by rw[h0]⟩
 ·exact⟨_,cap,rfl⟩
instance KM {t u v:Value}{us cs:List Value}[h:FlatOf us cs] : FlatOf (.agg (List.toArray [t,u,v])::us) (t::u::v::cs):=⟨by rw [List.flatMap_cons,h.h];rfl⟩
instance G9 {a b:Int} : CellEq prog 31 (.int .i64 a) (.int .i64 b) (decide (a=b)):=fb (k':=.i64) (by kernel_rfl) inferInstance
instance G8 {a b:Int} : CellEq prog 3 (.int .i64 a) (.int .i64 b) (decide (a=b)):=fb (k':=.i64) (by kernel_rfl) inferInstance
theorem uF {e n:Int} : AggEq prog 35 (bZ e n) (bZ e n) true:=by
 have h:=fN (P:=prog) (t:=35) [(31,0),(3,1)] (xs:=bZ e n) (ys:=bZ e n)
 simpa using h
section
variable {i g:Int}
theorem xK (hO:St w0 bs w H)(hT:MH c p T C K none N E)[hc:Cut H E H1]
  (hR:∀ E' w',MH c p T C K (some (i,g)) N E'->St w0 bs w' (E'++H1)->ab R (.agg (bZ 0 0)) w'):Calls prog 101 #[.pointer p,.agg (vD i g),.int .i64 0] w R:=by
 have hS:=hO.fr E H1
 clear hO
 obtain⟨b,br,v1,v2,xs,Eg,Ed,El,rfl,hG,hD,hN,hN0,rfl⟩:=id hT
 simp only[aP] at hS
 have hone1:=hD.one
 have hone2:=hN.one
 have hln:LenV prog 50 v1 0:=oJ hD
 have heq:=uF (e:=0) (n:=0)
 go_enter func101,ntmps101
 go_wp2_with (first|refine am 259 rfl hS ?_;clear hS;intro b4 w _ hS|refine aq (o:=⟨some 6,_,_,_,_,_⟩) _ rfl hS ?_;clear hS;intro b6 w _ hS|refine aq (o:=⟨some 7,_,_,_,_,_⟩) _ rfl hS ?_;clear hS;intro b7 w _ hS|refine wV (.call { callee:=.builtin .len,args:=#[_],argTypes:=#[_] }) rfl (aA rfl) ?_|refine aL rfl ?_|refine af rfl hS ?_|refine ak rfl hS ?_;clear hS;intro w hS)
 refine aj (X:=Unit) (fun w=>St w0 bs w (⟨b7,bZ 0 0,35,true⟩::⟨b6,bZ 0 0,35,true⟩::⟨b4,vD i g,259,true⟩::⟨b,cP c.m (some ⟨br,0,none⟩) v1 v2,53,true⟩::(Eg++(Ed++(El++H1))))) [] (hS.drawn _) (by kernel_rfl) (by kernel_rfl) ?_
 iterate 8 first|(refine bF 0 (fun _=>rfl) rfl (fun χ w hw=>ac _ _ rfl (show St _ _ w _ from hw)) ?_)|(refine bF 0 (fun _=>rfl) rfl (fun χ w hw=>ai _ _ rfl (show St _ _ w _ from hw)) ?_)|(refine oP (fun χ w=>ad rfl) ?_)|(refine oP (fun χ w=>ah rfl) ?_)|(refine oP (fun χ w=>ag rfl) ?_)|(refine oP (fun χ w=>bQ _ _ rfl) ?_)|(refine oP (fun χ w=>aA rfl) ?_)|(refine oP (fun χ w=>bK rfl) ?_)
 refine aV rfl ?_
 intro χ w hS
 replace hS:St w0 bs w (⟨b7,bZ 0 0,35,true⟩::⟨b6,bZ 0 0,35,true⟩::⟨b4,vD i g,259,true⟩::⟨b,cP c.m (some ⟨br,0,none⟩) v1 v2,53,true⟩::(Eg++(Ed++(El++H1)))):=hS
 clear χ
 go_wp2_with (go_skip)
 refine iA b 53 259 (fun v=>cP c.m (some ⟨br,0,none⟩) v v2) v1 Ed (⟨b7,bZ 0 0,35,true⟩::⟨b6,bZ 0 0,35,true⟩::⟨b4,vD i g,259,true⟩::(Eg++(El++H1))) 3 0 [] (vD i g) hS ?_
 iterate 6 first|(refine lf (fun _=>rfl) rfl (fun χ w Y hw=>ac _ _ rfl hw) ?_)|(refine lf (fun _=>rfl) rfl (fun χ w Y hw=>ai _ _ rfl hw) ?_)|(refine oP (fun χ w=>ad rfl) ?_)|(refine oP (fun χ w=>ag rfl) ?_)|(refine oP (fun χ w=>ah rfl) ?_)
 refine vF rfl (fun _=>rfl) (fun χ w hw=>?_) ?_
 ·exact fo 31 rfl (by simp) (eD _ 1 [(0,_)] rfl hw (by decide) rfl (by decide) (by decide) (fun bn w' _ hS'=>⟨_,rfl,bn,rfl,by simpa using hS'⟩))
 refine vG rfl rfl rfl 32 rfl (fun χ=>by simp) (fun _=>rfl) rfl hD inferInstance (by decide) (by decide) ?_
 iterate 2 first|(refine oP (fun χ w=>ag rfl) ?_)|(refine oP (fun χ w=>ah rfl) ?_)
 refine vC rfl rfl (fun _=>rfl) (fun χ w v' hv' h1 hw=>?_) ?_
 ·subst hv'
  exact bV rfl hw (fun w' hS'=>⟨rfl,hS'⟩)
 refine pH rfl ?_
 intro v' E2 χ w hv' hsl hne hS
 obtain⟨bn,hbn⟩:∃ x,x=(χ 6).2.2:=⟨_,rfl⟩
 simp only[← hv',← hbn]
 clear hv' hbn χ
 go_wp2_with (first|refine au rfl hS ?_|refine ak rfl hS ?_;clear hS;intro w hS)
 refine bodyPost_ret (aI rfl hS) rfl ?_
 exact hR _ _ ⟨b,br,v',v2,xs,Eg,E2,El,rfl,hG,hsl,hN,hN0,rfl⟩ (by(try simp only[aP]);exact hS.p)
end
structure OpPre (c:Cfg)(T:Ar)(C:Cy)(K:Rk)(m j:Nat)(hg oi og i g:Int)(L' : List (Int×Int)):Prop where
 hm:m<c.m
 hin:fm T m=true
 hrt:ez T m=[]
 hme:i8 (some (some T.1)) 0 true=0
 hmr:kX (some (some T.1)) 0 true=((j:Int),hg)
 hj:j<c.z
 hlf:Do (some (some T.1))≠0
 hbg:C.bg=0
 hcy:C.M.k.2.2.1=0
 ho:K.o=none
 hoi:0≤oi∧oi<64
 hog:1≤og∧og≤4294967295
 hhg:1≤hg
 hi:0≤i∧i<256
 hE:jx K.tb=0
 hI:kC K.tb=i
 hG:kD K.tb=g
 hroom:nR 0 K.tb≠0
 hL:0<K.L.length
 hLE:jx (some K.L)=0
 hLI:kC (some K.L)=oi
 hLG:kD (some K.L)=og
 hLT:ir (some K.L)=some L'
structure OnX where
 m:Nat
 L:List Int
 E:List Ent
instance :Inhabited OnX:=⟨⟨0,[],[]⟩⟩
section
variable {m j:Nat}{hg oi og i g:Int}{L' : List (Int×Int)}{Ms4 Ms5 Ms6 Ms7:dF}
theorem xG (hB:Mps W As w0 bs Ms)(hO:St w0 bs w H)(hT:MH c p T C K none N E)[hc:Cut H E H1](hp:OpPre c T C K m j hg oi og i g L')(htg:TagW s)
  [hM0:MapIn Ms K.mf []] [hM1:MapIn Ms K.mz []] [hu1:MapUp Ms K.mz [] [(.agg (vD oi og),.agg (vK s))] Ms1] [hM2a:MapIn Ms K.me []] [hM2:MapIn Ms1 K.me []] [hu2:MapUp Ms1 K.me [] [(vI i,.agg (fd i g j hg))] Ms2]
  [r1:MapIn Ms2 K.mb []] [r2:MapIn Ms2 K.mc []] [r3:MapIn Ms2 K.mo []] [hz1:MapUp Ms2 K.mo [] [(vI i,vR 0 0)] Ms3] [hz2:MapUp Ms3 K.mo [(vI i,vR 0 0)] [(vI i,vR j hg)] Ms4] [hz3:MapUp Ms4 K.mb [] [(vR j hg,vI 0)] Ms5] [hz4:MapUp Ms5 K.mb [(vR j hg,vI 0)] [(vR j hg,vI i)] Ms6] [h4:MapIn Ms6 K.mc []] [hz5:MapUp Ms6 K.mc [] [(vI i,vI 1)] Ms7]
  (hR:∀ m2 L2 E' w0' bs' w',Up C.M.L L2->MH c p (fg T m 0 true) { C with M:={ C.M with L:=L2 } } { K with tb:=ir K.tb,o:=some (bJ oi og 1 0 s),L:=L',mf:=m2 } (some (i,g)) N E'->Mps W As w0' bs' ((m2,[(.agg (vD oi og),vI 5)])::Ms7)->St w0' bs' w' (E'++H1)->ab R (.agg (bZ 0 0)) w'):Calls prog 61 #[.pointer p,.agg (aQ [k,m,1,5,x3] s)] w R:=by
 have hS:=hO.fr E H1
 clear hO
 obtain⟨b,br,v1,v2,xs,Eg,Ed,El,rfl,hG,hD,hN,hN0,rfl⟩:=id hT
 simp only[aP] at hS
 have hone1:=hD.one
 have hone2:=hN.one
 have hone:=eo (l:=[k,(m:Int),1,5,x3]) (s:=s)
 have hsz:SizeIs (aQ [k,(m:Int),1,5,x3] s) 6:=⟨rfl⟩
 have hst:CellAt (aQ [k,(m:Int),1,5,x3] s) (0+5) (.string s):=⟨rfl⟩
 have hp':=HD hp
 clear hp
 go_enter func61,ntmps61
 go_wp2_with (first|refine am 38 rfl hS ?_;clear hS;intro b3 w _ hS|refine aq 35 rfl hS ?_;clear hS;intro b4 w _ hS)
 refine aj (X:=OnX) (Jm W As Ms (⟨b4,bZ 0 0,35,true⟩::⟨b3,aQ [k,(m:Int),1,5,x3] s,38,true⟩::⟨b,cP c.m (some ⟨br,0,none⟩) v1 v2,53,true⟩::(Eg++(Ed++(El++H1))))) [(13,fun χ w=>Up C.M.L (χ 13).L∧RG c (some ⟨br,0,none⟩) (fg T m 0 true) { C with M:={ C.M with L:=(χ 13).L } } { K with tb:=ir K.tb,o:=some (bJ oi og 1 0 s),L:=L',mf:=(χ 13).m } (χ 13).E∧Jm W As (((χ 13).m,[(.agg (vD oi og),vI 5)])::Ms7) (⟨b4,bZ 0 0,35,true⟩::⟨b3,aQ [k,(m:Int),1,5,x3] s,38,true⟩::⟨b,cP c.m (some ⟨br,0,none⟩) v1 v2,53,true⟩::((χ 13).E++(Ed++(El++H1)))) w),
  (16,fun χ w=>Up C.M.L (χ 13).L∧MH c (some ⟨b,0,none⟩) (fg T m 0 true) { C with M:={ C.M with L:=(χ 13).L } } { K with tb:=ir K.tb,o:=some (bJ oi og 1 0 s),L:=L',mf:=(χ 13).m } (some (i,g)) N (χ 16).E∧Jm W As (((χ 13).m,[(.agg (vD oi og),vI 5)])::Ms7) (⟨b4,bZ 0 0,35,true⟩::⟨b3,aQ [k,(m:Int),1,5,x3] s,38,true⟩::((χ 16).E++H1)) w),
  (17,fun χ w=>Up C.M.L (χ 13).L∧MH c (some ⟨b,0,none⟩) (fg T m 0 true) { C with M:={ C.M with L:=(χ 13).L } } { K with tb:=ir K.tb,o:=some (bJ oi og 1 0 s),L:=L',mf:=(χ 13).m } (some (i,g)) N (χ 16).E∧Jm W As (((χ 13).m,[(.agg (vD oi og),vI 5)])::Ms7) (⟨b4,bZ 0 0,35,true⟩::⟨b3,aQ [k,(m:Int),1,5,x3] s,38,true⟩::((χ 16).E++H1)) w)] ⟨_,_,hB,hS.drawn _⟩ (by kernel_rfl) (by kernel_rfl) ?_
 iterate 13 first|(refine bF 0 (fun _=>rfl) rfl (fun χ w hw=>by obtain⟨w0,bs,_,hS⟩:=hw;exact ac _ _ rfl hS) ?_)|(refine oP (fun χ w=>ad rfl) ?_)|(refine oP (fun χ w=>ah rfl) ?_)|(refine oP (fun χ w=>ag rfl) ?_)
 refine aO 0 rfl (by kernel_rfl) (fun _=>rfl) (fun _=>.tuple #[.agg (vD i g),.int .i64 0]) (fun χ w hw=>aw rfl ae ?_) ?_
 ·obtain⟨w0,bs,hB,hS⟩:=hw
  have hp:=hp'.out
  exact wY (i:=i) (g:=g) (hg:=hg) (Ms7:=Ms7) m j hB hS hG hp.hm hp.hin hp.hrt hp.hme hp.hmr hp.hj hp.hlf hp.hbg hp.hcy hp.ho hp.hoi hp.hog htg hp.hhg hp.hi hp.hE hp.hI hp.hG hp.hroom hp.hL hp.hLE hp.hLI hp.hLG hp.hLT (fun m2 L2 E2 w0' bs' w' h1 h2 hB hS=>⟨_,rfl,⟨m2,L2,E2⟩,rfl,h1,h2,w0',bs',hB,(show St w0' bs' w' (⟨b4,bZ 0 0,35,true⟩::⟨b3,aQ [k,(m:Int),1,5,x3] s,38,true⟩::⟨b,cP c.m (some ⟨br,0,none⟩) v1 v2,53,true⟩::(E2++(Ed++(El++H1)))) from hS.p)⟩)
 iterate 2 (refine oP (fun χ w=>aB rfl) ?_)
 refine aO 1 rfl (by kernel_rfl) (fun _=>rfl) (fun _=>.agg (bZ 0 0)) (fun χ w hw=>aw rfl ae ?_) ?_
 ·obtain⟨h1,h2,w0,bs,hB,hS⟩:=hw
  have hS:St w0 bs w ((⟨b,cP c.m (some ⟨br,0,none⟩) v1 v2,53,true⟩::((χ 13).E++(Ed++El)))++(⟨b4,bZ 0 0,35,true⟩::⟨b3,aQ [k,(m:Int),1,5,x3] s,38,true⟩::H1)):=by
   simp only[bX];exact hS.p
  exact xK (i:=i) (g:=g) hS ⟨b,br,v1,v2,xs,(χ 13).E,Ed,El,rfl,h2,hD,hN,hN0,rfl⟩ (fun E3 w' h3 hS=>⟨_,rfl,⟨0,[],E3⟩,rfl,h1,h3,w0,bs,hB,(show St w0 bs w' (⟨b4,bZ 0 0,35,true⟩::⟨b3,aQ [k,(m:Int),1,5,x3] s,38,true⟩::(E3++H1)) from hS.p)⟩)
 refine aO 2 rfl (by kernel_rfl) (fun _=>rfl) (fun _=>undef) (fun χ w hw=>?_) ?_
 ·obtain⟨h1,h2,w0,bs,hB,hS⟩:=hw
  exact aK _ _ _ rfl (show St w0 bs w (⟨b4,bZ 0 0,35,true⟩::⟨b3,aQ [k,(m:Int),1,5,x3] s,38,true⟩::((χ 16).E++H1)) from hS) (fun w' hS'=>⟨default,rfl,h1,h2,w0,bs,hB,hS'⟩)
 refine aV rfl ?_
 rintro χ w ⟨h1,h2,w0,bs,hB,hS⟩
 simp only[Nat.zero_add,Nat.reduceAdd]
 generalize χ 13=x at h1 h2 hB hS ⊢
 generalize χ 16=y at h2 hS ⊢
 obtain⟨m2,L2,E2⟩:=x
 obtain⟨_,_,E3⟩:=y
 simp only at h1 h2 hB hS
 clear χ
 go_wp2_with (go_skip)
 refine bodyPost_ret (aI rfl hS) rfl ?_
 exact hR m2 L2 _ _ _ _ h1 h2 hB (by(try simp only[aP]);exact hS.p)
end
section
variable {hs hg oi og i g:Int}{tg:ByteArray}{Ms4 Ms5:dF}
theorem uH (hB:Mps W As w0 bs Ms)(hO:St w0 bs w H)(hT:MH c p T C K (some (i,g)) N E)[hc:Cut H E H1](ho:K.o=some (bJ oi og 1 0 tg))(hoi:0≤oi∧oi<64)(hog:1≤og∧og≤4294967295)(htg:TagW tg)(hi:0≤i∧i<256)(hg' : 1≤g∧g≤4294967295)
  [k0:MapIn Ms K.me [(vI i,.agg (fd i g hs hg))]] [h0:MapIn Ms K.mc [(vI i,vI 1)]] [h1:MapIn Ms K.mo [(vI i,vR hs hg)]] [hz1:MapUp Ms K.mo [(vI i,vR hs hg)] [] Ms1] [h3:MapIn Ms1 K.mb [(vR hs hg,vI i)]] [hz2:MapUp Ms1 K.mb [(vR hs hg,vI i)] [] Ms2] [h4:MapIn Ms2 K.mc [(vI i,vI 1)]] [hz3:MapUp Ms2 K.mc [(vI i,vI 1)] [(vI i,vI 3)] Ms3] [h5:MapIn Ms3 K.mc [(vI i,vI 3)]] [hz4:MapUp Ms3 K.mc [(vI i,vI 3)] [] Ms4]
  [k1:MapIn Ms4 K.me [(vI i,.agg (fd i g hs hg))]] [k2:MapUp Ms4 K.me [(vI i,.agg (fd i g hs hg))] [] Ms5] [k3:MapIn Ms5 K.me []]
  (hR:∀ E' w0' bs' w',MH c p T C { K with tb:=ov K.tb i g,o:=some (bJ oi og 2 1 tg) } (some (i,g)) N E'->Mps W As w0' bs' Ms5->St w0' bs' w' (E'++H1)->ab R (.agg (bZ 0 0)) w'):Calls prog 65 #[.pointer p,.agg (aQ [k,x0,0,x2,x3] s)] w R:=by
 have hS:=hO.fr E H1
 clear hO
 obtain⟨b,br,v1,v2,xs,Eg,Ed,El,rfl,hG,hD,hN,hN0,rfl⟩:=id hT
 simp only[aP] at hS
 have hone1:=hD.one
 have hone2:=hN.one
 have hone:=eo (l:=[k,(x0:Int),0,x2,x3]) (s:=s)
 have hsz:SizeIs (aQ [k,(x0:Int),0,x2,x3] s) 6:=⟨rfl⟩
 have hD1:Sl 259 3 v1 1 (dX (some (i,g))) Ed:=hD
 obtain⟨gx,cap,sp,rfl,rfl,hd1,hd2,hd3⟩:=hD1.some (by decide)
 have hix:=ze (gx:=gx) (cap:=cap)
 have hdx:CellsAt (dX (some (i,g))++sp).toArray 0 3 (vD i g):=zf
 go_enter func65,ntmps65
 go_wp2_with (first|refine am 38 rfl hS ?_;clear hS;intro b3 w _ hS|refine aq 35 rfl hS ?_;clear hS;intro b4 w _ hS)
 refine aj (X:=List Ent) (Jm W As Ms (⟨b4,bZ 0 0,35,true⟩::⟨b3,aQ [k,(x0:Int),0,x2,x3] s,38,true⟩::⟨b,cP c.m (some ⟨br,0,none⟩) (.slice (some ⟨gx,0,none⟩) 1 cap) v2,53,true⟩::(Eg++(⟨gx,(dX (some (i,g))++sp).toArray,259,true⟩::(El++H1))))) [(12,fun χ w=>RG c (some ⟨br,0,none⟩) T C { K with tb:=ov K.tb i g,o:=some (bJ oi og 2 1 tg) } (χ 12)∧Jm W As Ms5 (⟨b4,bZ 0 0,35,true⟩::⟨b3,aQ [k,(x0:Int),0,x2,x3] s,38,true⟩::⟨b,cP c.m (some ⟨br,0,none⟩) (.slice (some ⟨gx,0,none⟩) 1 cap) v2,53,true⟩::((χ 12)++(⟨gx,(dX (some (i,g))++sp).toArray,259,true⟩::(El++H1)))) w),(14,fun χ w=>RG c (some ⟨br,0,none⟩) T C { K with tb:=ov K.tb i g,o:=some (bJ oi og 2 1 tg) } (χ 12)∧Jm W As Ms5 (⟨b4,bZ 0 0,35,true⟩::⟨b3,aQ [k,(x0:Int),0,x2,x3] s,38,true⟩::⟨b,cP c.m (some ⟨br,0,none⟩) (.slice (some ⟨gx,0,none⟩) 1 cap) v2,53,true⟩::((χ 12)++(⟨gx,(dX (some (i,g))++sp).toArray,259,true⟩::(El++H1)))) w)] ⟨_,_,hB,hS.drawn _⟩ (by kernel_rfl) (by kernel_rfl) ?_
 iterate 12 first|(refine bF 0 (fun _=>rfl) rfl (fun χ w hw=>by obtain⟨w0,bs,_,hS⟩:=hw;exact ac _ _ rfl hS) ?_)|(refine bF 0 (fun _=>rfl) rfl (fun χ w hw=>by obtain⟨w0,bs,_,hS⟩:=hw;exact ai _ _ rfl hS) ?_)|(refine oP (fun χ w=>ad rfl) ?_)|(refine oP (fun χ w=>ah rfl) ?_)|(refine oP (fun χ w=>ag rfl) ?_)|(refine oP (fun χ w=>aY _ _ _ rfl) ?_)
 refine aO 0 rfl (by kernel_rfl) (fun _=>rfl) (fun _=>.int .i64 0) (fun χ w hw=>aw rfl ae ?_) ?_
 ·obtain⟨w0,bs,hB,hS⟩:=hw
  exact t4 (Ms5:=Ms5) (hs:=hs) (hg:=hg) hB hS hG ho hoi hog htg hi hg' (fun E2 w0' bs' w' h2 hB hS=>⟨_,rfl,E2,rfl,h2,w0',bs',hB,(show St w0' bs' w' (⟨b4,bZ 0 0,35,true⟩::⟨b3,aQ [k,(x0:Int),0,x2,x3] s,38,true⟩::⟨b,cP c.m (some ⟨br,0,none⟩) (.slice (some ⟨gx,0,none⟩) 1 cap) v2,53,true⟩::(E2++(⟨gx,(dX (some (i,g))++sp).toArray,259,true⟩::(El++H1)))) from hS.p)⟩)
 refine oP (fun χ w=>bQ _ _ rfl) ?_
 refine aO 1 rfl (by kernel_rfl) (fun _=>rfl) (fun _=>undef) (fun χ w hw=>?_) ?_
 ·obtain⟨h2,w0,bs,hB,hS⟩:=hw
  exact aK _ _ _ rfl (show St w0 bs w (⟨b4,bZ 0 0,35,true⟩::⟨b3,aQ [k,(x0:Int),0,x2,x3] s,38,true⟩::⟨b,cP c.m (some ⟨br,0,none⟩) (.slice (some ⟨gx,0,none⟩) 1 cap) v2,53,true⟩::((χ 12)++(⟨gx,(dX (some (i,g))++sp).toArray,259,true⟩::(El++H1)))) from hS) (fun w' hS'=>⟨default,rfl,h2,w0,bs,hB,hS'⟩)
 refine aV rfl ?_
 rintro χ w ⟨h2,w0,bs,hB,hS⟩
 simp only[Nat.zero_add,Nat.reduceAdd]
 generalize χ 12=E2 at h2 hS ⊢
 clear χ
 go_wp2_with (go_skip)
 refine bodyPost_ret (aI rfl hS) rfl ?_
 exact hR _ _ _ _ ⟨b,br,_,v2,xs,E2,_,El,rfl,h2,hD,hN,hN0,rfl⟩ hB (by(try simp only[aP]);exact hS.p)
end
end Go.Proofs.YtnbgljbhkeffkaaGreatDoor
namespace Go.Mm
open Go Go.RowKit
section
variable {W w0 w:World}{As bs:List Nat}{M:Nat}{Ms:List (Nat×List (Value×Value))}{H:List Ent}{P:Program}{o:Oper}{a:Act}{k e:TypeId}{u:Value}{post:Act->World->Prop}
def nw (L:List (Int×Value)):List (Value×Value):=L.map fun x=>(.int .i64 x.1,x.2)
theorem pu (hk:P.underlying k=some (.int .i64))(n:Int):∀ L:List (Int×Value),KeyFind P k (.int .i64 n) (nw L) (L.findIdx? fun x=>decide (n=x.1))
 | []=>lP
 | x::L=>by
  have ih:=pu hk n L
  have hq:=k5 (P:=P) (t:=k) (q:=.i64) (a:=n) (b:=x.1) hk
  rw[List.findIdx?_cons]
  by_cases h:n=x.1
  ·rw[if_pos (by simpa using h)]
   have hq:KeyEq P k (.int .i64 n) (.int .i64 x.1) true:=by simpa [h] using hq
   exact j6 hq
  ·rw[if_neg (by simpa using h)]
   have hq:KeyEq P k (.int .i64 n) (.int .i64 x.1) false:=by simpa [h] using hq
   exact xL hq ih
theorem tl {L:List (Int×Value)}{n:Int}{tt:TypeId}{xo yo zo:Operand}(ho:o.op=.insert tt xo yo zo)(hB:Mps W As w0 bs ((M,nw L)::Ms))(hS:St w0 bs w H)[hx:Ev a xo (.map (some M))][hy:Ev a yo (.int .i64 n)][hz:Ev a zo u][ht:MapTy P tt k e](hn:n∉L.map (·.1))
  {a' : Act} [hp:Put a o.dst undef a'] (h:∀ w',Mps W As w' (wl H) ((M,nw (L++[(n,u)]))::Ms)->St w' (wl H) w' H->post a' w')(hk:P.underlying k=some (.int .i64):=by kernel_rfl):im P o a w post:=by
 have hf:KeyFind P k (.int .i64 n) (nw L) none:=by
  have:=pu (P:=P) hk n L
  rwa [List.findIdx?_eq_none_iff.2 (fun x hx=>by simpa using fun he=>hn (List.mem_map.2 ⟨x,hx,he.symm⟩))] at this
 have hko:KeyOk P k (.int .i64 n):=fT hk
 have hu:MapUp ((M,nw L)::Ms) M (nw L) (nw L++[(.int .i64 n,u)]) ((M,nw L++[(.int .i64 n,u)])::Ms):=⟨⟨[],Ms,rfl,rfl⟩⟩
 obtain⟨es,ck,hr,h2,h3⟩:=lE ht (hB.now hS hu.mem) hf u
 obtain⟨g1,g2⟩:=hB.turn hS (hu:=hu) h2 h3
 rw[show nw L++[(.int .i64 n,u)]=nw (L++[(n,u)]) by simp[nw]] at g1
 refine⟨.skip,_,?_,.inr ⟨rfl,by rw[hp.h];exact h _ g1 g2⟩⟩
 simp only[execOp,ho,hx.h,hy.h,hz.h,Sem.run_bind,hr,Result.andThen_ok,Sem.run_pure]
end
end Go.Mm
namespace Go.Proofs.YtnbgljbhkeffkaaGreatDoor
open Go.RowKit Go.Mm
variable {R:Ending->World->Prop}{w W:World}{w0:World}{As bs:List Nat}{H H' H1 H2 H3 E E' E1 E2 Ea Eh Er:List Ent}
variable {Ms Ms1 Ms2 Ms3:dF}
def ruF:List Nat:=[60,61,62,63,64,65,66,67,68,69,70]
def sh (f:Nat):Value:=.func (.func f) #[] #[]
def ruL:List (Int×Value):=[(7,sh 60),(8,sh 61),(9,sh 62),(10,sh 63),(11,sh 64),(12,sh 65),(13,sh 66),(14,sh 67),(15,sh 68),(16,sh 69),(17,sh 70)]
instance Ix:MapTy prog 88 3 86:=⟨by kernel_rfl,by kernel_rfl⟩
theorem no (hB:Mps W As w0 bs Ms)(hO:St w0 bs w H)(hR:∀ m w0' bs' w',Mps W As w0' bs' ((m,nw ruL)::Ms)->St w0' bs' w' H->ab R (.map (some m)) w'):Calls prog 30 #[] w R:=by
 have hS:=hO
 clear hO
 go_enter func30,ntmps30
 go_wp2_with (first|(refine aF (.makeMap _ none) rfl ?_;refine iQ rfl hB hS ?_;clear hB hS;intro m w hB hS;replace hB:Mps W As _ _ ((m,nw [])::Ms):=hB)|refine wS (tl rfl hB hS (by decide) ?_);clear hB hS;intro w hB hS)
 exact hR m _ _ _ hB hS
open Go.RowKit Go.Mm
variable {c:Cfg}{p:Option Addr}{T:Ar}{C:Cy}{K:Rk}{D:Option (Int×Int)}{N:Nat}{k:Nat}{x0 x1 x2 x3:Int}{s:ByteArray}
def xB (k:Nat):Bool:=decide (9≤k) && decide (k≤12)
theorem AK {b i:Nat}(hi:i<4):IdxV prog 174 (.slice (some ⟨b,0,none⟩) 4 4) i ⟨b,i * 1,none⟩:=fG (P:=prog) (z:=1) (i:=i) (e:=3) (by kernel_rfl) hi
abbrev Df:Array Value:=#[.int .i64 9,.int .i64 10,.int .i64 11,.int .i64 12]
theorem De {i:Nat}(hi:i<4):CellAt Df (i * 1) (.int .i64 (9+(i:Int))):=⟨match i,hi with|0,_=>rfl|1,_=>rfl|2,_=>rfl|3,_=>rfl⟩
theorem uC {b:Nat}(hk:k<100)(hO:St w0 bs w H)[hH:Has H b Df 3](hR:∀ v w',decide (0≤v)=xB k->St w0 bs w' H->ab R (.int .i64 v) w'):Calls prog 99 #[.slice (some ⟨b,0,none⟩) 4 4,.int .i64 k] w R:=by
 have hS0:=hO
 clear hO
 have hln:LenV prog 174 (.slice (some ⟨b,0,none⟩) 4 4) 4:=⟨⟨_,_,rfl⟩,⟨3,by kernel_rfl⟩⟩
 have hkI:(k:Int)<100:=by omega
 go_enter func99,ntmps99
 go_wp2_with (refine wV (.call { callee:=.builtin .len,args:=#[_],argTypes:=#[_] }) rfl (aA rfl) ?_)
 go_loopw [8] (fun u wr=>∃ j:Nat,j≤4∧u=.int .i64 j∧(∀ q<j,k≠9+q)∧St w0 bs wr H) (fun u _=>4 - (intOf u).toNat)
 case atStart=>exact⟨0,by decide,rfl,fun q hq=>by omega,hS0⟩
 case round=>
  clear hS0
  obtain⟨j,hj,rfl,hq,hS⟩:=hrel
  by_cases hlt:j<4
  ·have hix:=AK (b:=b) hlt
   have hce:=De hlt
   have d1:decide (j<4)=true:=decide_eq_true hlt
   have d2:decide ((j:Int)<4)=true:=DT
   have bj:(j:Int)≤4:=by omega
   by_cases he:k=9+j
   ·have d3:((k:Int) == 9+(j:Int))=true:=by simp;omega
    have d4:decide ((k:Int)=9+(j:Int))=true:=DT
    have hv:=HD (show decide (0≤(j:Int))=xB k by simp[xB];omega)
    clear he hq
    go_wp2_with (first|refine aM rfl ?_|refine af rfl hS ?_)
    exact hR _ _ hv.out hS
   ·have d3:((k:Int) == 9+(j:Int))=false:=by simp;omega
    have d4:decide ((k:Int)=9+(j:Int))=false:=DF
    have hq':=HD (show ∀ q<j+1,k≠9+q from fun q hq1=>by
     by_cases h:q=j
     ·subst h;exact he
     ·exact hq q (by omega))
    have hlt':=HD hlt
    clear he hq hlt
    go_wp2_with (first|refine aM rfl ?_|refine af rfl hS ?_)
    go_roundw
    case rel=>exact⟨j+1,by have:=hlt'.out;omega,by go_num,hq'.out,hS⟩
    case measure=>have:=hlt'.out;simp[intOf];omega
  ·obtain rfl:j=4:=by omega
   have hv:=HD (show decide (0≤(-1:Int))=xB k by
    have h0:=hq 0 (by decide);have h1:=hq 1 (by decide);have h2:=hq 2 (by decide);have h3:=hq 3 (by decide)
    simp[xB];omega)
   clear hq
   go_wp2_with (go_skip)
   exact hR _ _ hv.out hS
theorem np (hk:k<100)(hO:St w0 bs w H){v:Bool}(hv:xB k=v)(hR:∀ w',St w0 bs w' H->ab R (.bool v) w'):Calls prog 29 #[.int .i64 k] w R:=by
 have hS:=hO
 clear hO
 have hct:∀ b w R,St w0 bs w (⟨b,Df,3,true⟩::H)->(∀ w',St w0 bs w' (⟨b,Df,3,true⟩::H)->ab R (.bool v) w')->Calls prog 59 #[.slice (some ⟨b,0,none⟩) 4 4,.int .i64 k] w R:=fun b w R hS hR=>by
  go_enter func59,ntmps59
  go_wp2_with (go_at_call 99;refine uC hk hS ?_;clear hS;intro q w hq hS;unfold ab)
  rw[hv] at hq
  (exact hR w hS)
 clear hv
 go_enter func29,ntmps29
 go_wp2_with (first|((refine f5 4 [(0,_),(1,_),(2,_),(3,_)] rfl hS (by decide) rfl (by decide) (by decide) ?_);clear hS;intro bN w _ hS;replace hS:St w0 bs w (⟨bN,Df,3,true⟩::H):=hS)|go_at_call 59;refine hct bN w _ hS ?_;clear hS;intro w hS;unfold ab)
 exact hR _ hS.weak
def EC (k:Nat):Value:=if 7≤k then sh (ruF.getD (k - 7) 0) else .nilFunc
theorem qf (h1:1≤k)(h2:k≤17):Looks prog 86 (nw ruL) (ruL.findIdx? fun x=>decide ((k:Int)=x.1)) true (.tuple #[EC k,.bool (decide (7≤k))]):=by
 rcases(by omega:k=1∨k=2∨k=3∨k=4∨k=5∨k=6∨k=7∨k=8∨k=9∨k=10∨k=11∨k=12∨k=13∨k=14∨k=15∨k=16∨k=17) with rfl|rfl|rfl|rfl|rfl|rfl|rfl|rfl|rfl|rfl|rfl|rfl|rfl|rfl|rfl|rfl|rfl
 all_goals first
  | exact⟨.inr ⟨.nilFunc,rfl,fun w=>by kernel_rfl,rfl⟩⟩
  | exact⟨.inl ⟨_,_,rfl,rfl,rfl⟩⟩
theorem qg:KeyFind prog 3 (.int .i64 k) (nw ruL) (ruL.findIdx? fun x=>decide ((k:Int)=x.1)):=pu (by kernel_rfl) k ruL
def Fx (c:Cfg)(p:Option Addr)(N:Nat)(W:World)(As:List Nat)(H:List Ent)(R:Ending->World->Prop)(Φ:Int->Int->Ar->Cy->Rk->Option (Int×Int)->dF->Prop):Prop:=
 ∀ e n T' C' K' D' E' Ms' w0' bs' w',Φ e n T' C' K' D' Ms'->MH c p T' C' K' D' N E'->Mps W As w0' bs' Ms'->St w0' bs' w' (E'++H)->ab R (.agg (bZ e n)) w'
theorem qK {n m:Int}{b:Bool}(h:decide (n≤m)=b):LeIs n m b:=⟨h⟩
theorem j2 {x y:ByteArray}{f:Nat}{Φ:Int->Int->Ar->Cy->Rk->Option (Int×Int)->dF->Prop}(hB:Mps W As w0 bs Ms)(hO:St w0 bs w H)(hT:MH c p T C K D N E)[hc:Cut H E H1]
  (hw:wsL[k]?=some (x,y)) (h1:1≤k) (hP:Pts s (g5 y) [(k:Int),x0,x1,x2,x3] s [k,0,0,0,0] { data:=#[] }) (v u:Bool) (hv:zc y=v) (hu:xB k=u) (hv2:v=true->decide ((c.m:Int)≤x0)=false) (hu2:u=true->decide ((dN D:Int)≤x1)=false)
  (h7:7≤k) (hrv:EC k=sh f) (hen:∀ args w,(callFunc f args).run prog w=.ok (.enter f args) w)
  (hcl:∀ (H:List Ent) (w0:World) (bs:List Nat) (w:World) (R:Ending->World->Prop),Mps W As w0 bs Ms->St w0 bs w (E++H)->Fx c p N W As H R Φ->Calls prog f #[.pointer p,.agg (aQ [(k:Int),x0,x1,x2,x3] s)] w R)
  (hR:Fx c p N W As H1 R Φ):Calls prog 14 #[.pointer p,.agg (aQ [(k:Int),x0,x1,x2,x3] s)] w R:=by
 have hS:=hO.fr E H1
 clear hO
 obtain⟨b,br,v1,v2,xs,Eg,Ed,El,rfl,hG,hD,hN,hN0,rfl⟩:=id hT
 simp only[aP] at hS
 have hone1:=hD.one
 have hone2:=hN.one
 have hln:LenV prog 50 v1 (dN D):=oJ hD
 have hone:=eo (l:=[(k:Int),x0,x1,x2,x3]) (s:=s)
 have hsz:SizeIs (aQ [(k:Int),x0,x1,x2,x3] s) 6:=⟨rfl⟩
 have hcl6:=BX (l:=[(k:Int),x0,x1,x2,x3]) (s:=s) rfl
 have h17:k≤17:=by
  have:=(List.getElem?_eq_some_iff.1 hw).1
  have h18:wsL.length=18:=rfl
  omega
 have hkI:k<100:=by omega
 have hlk:=qf h1 h17
 have hfd:=qg (k:=k)
 obtain⟨rr,hrr⟩:∃ rr,rr=ruL.findIdx? fun x=>decide ((k:Int)=x.1):=⟨_,rfl⟩
 rw[← hrr] at hlk hfd
 have hkey:KeyOk prog 3 (.int .i64 (k:Int)):=fT (by kernel_rfl)
 obtain⟨q7,hq7⟩:∃ q7,decide (7≤k)=q7:=⟨_,rfl⟩
 rw[hq7] at hlk
 have hw':=HD hw
 have hP':=HD hP
 have hv':=HD hv
 have hu':=HD hu
 have h1':=HD h1
 have hki':=HD hkI
 clear hw hP hv hu h1 h17 hkI
 go_enter func14,ntmps14
 go_wp2_with (first|refine am 38 rfl hS ?_;clear hS;intro b3 w _ hS|refine aq 35 rfl hS ?_;clear hS;intro b4 w _ hS|go_at_call 27;refine na hS hw'.out h1'.out rfl rfl hP'.out ?_;clear hS;intro w hS;unfold ab|refine au rfl hS ?_)
 cases v <;> cases u
 all_goals
  try (have hl1:LeIs (c.m:Int) x0 false:=qK (hv2 rfl))
  try (have hl2:LeIs (dN D:Int) x1 false:=qK (hu2 rfl))
  refine aj (X:=Unit) (fun w=>St w0 bs w (⟨b4,bZ 0 0,35,true⟩::⟨b3,aQ [(k:Int),x0,x1,x2,x3] s,38,true⟩::⟨b,cP c.m (some ⟨br,0,none⟩) v1 v2,53,true⟩::(Eg++(Ed++(El++H1))))) [] (hS.drawn _) (by kernel_rfl) (by kernel_rfl) ?_
  iterate 2 first|(refine bF 0 (fun _=>rfl) rfl (fun χ w hw=>ac _ _ rfl (show St _ _ w _ from hw)) ?_)|(refine oP (fun χ w=>ag rfl) ?_)
  refine dA 0 28 [_] rfl (fun _=>rfl) rfl ae (.bool _) (fun χ w hw=>ur (show St w0 bs w (⟨b4,bZ 0 0,35,true⟩::⟨b3,aQ [(k:Int),x0,x1,x2,x3] s,38,true⟩::⟨b,cP c.m (some ⟨br,0,none⟩) v1 v2,53,true⟩::(Eg++(Ed++(El++H1)))) from hw) hw'.out h1'.out hv'.out (fun w' hS=>⟨rfl,hS⟩)) ?_
  iterate 10 first|(refine bF 0 (fun _=>rfl) rfl (fun χ w hw=>ac _ _ rfl (show St _ _ w _ from hw)) ?_)|(refine oP (fun χ w=>ad rfl) ?_)|(refine oP (fun χ w=>ah rfl) ?_)|(refine oP (fun χ w=>ag rfl) ?_)|(refine oP (fun χ w=>gQ rfl) ?_)|(refine oP (fun χ w=>gP rfl) ?_)|(refine oP (fun χ w=>jf rfl) ?_)|(refine oP (fun χ w=>aG rfl) ?_)|(refine jh (fun _=>rfl) ?_)
  refine aV rfl ?_
  intro χ w hS
  replace hS:St w0 bs w (⟨b4,bZ 0 0,35,true⟩::⟨b3,aQ [(k:Int),x0,x1,x2,x3] s,38,true⟩::⟨b,cP c.m (some ⟨br,0,none⟩) v1 v2,53,true⟩::(Eg++(Ed++(El++H1)))):=hS
  clear χ
  go_wp2_with (go_skip)
  refine aj (X:=Unit) (fun w=>St w0 bs w (⟨b4,bZ 0 0,35,true⟩::⟨b3,aQ [(k:Int),x0,x1,x2,x3] s,38,true⟩::⟨b,cP c.m (some ⟨br,0,none⟩) v1 v2,53,true⟩::(Eg++(Ed++(El++H1))))) [] (hS.drawn _) (by kernel_rfl) (by kernel_rfl) ?_
  iterate 2 first|(refine bF 0 (fun _=>rfl) rfl (fun χ w hw=>ac _ _ rfl (show St _ _ w _ from hw)) ?_)|(refine oP (fun χ w=>ag rfl) ?_)
  refine dA 0 29 [_] rfl (fun _=>rfl) rfl ae (.bool _) (fun χ w hw=>np hki'.out (show St w0 bs w (⟨b4,bZ 0 0,35,true⟩::⟨b3,aQ [(k:Int),x0,x1,x2,x3] s,38,true⟩::⟨b,cP c.m (some ⟨br,0,none⟩) v1 v2,53,true⟩::(Eg++(Ed++(El++H1)))) from hw) hu'.out (fun w' hS=>⟨rfl,hS⟩)) ?_
  iterate 11 first|(refine bF 0 (fun _=>rfl) rfl (fun χ w hw=>ac _ _ rfl (show St _ _ w _ from hw)) ?_)|(refine oP (fun χ w=>ad rfl) ?_)|(refine oP (fun χ w=>ah rfl) ?_)|(refine oP (fun χ w=>ag rfl) ?_)|(refine oP (fun χ w=>gQ rfl) ?_)|(refine oP (fun χ w=>aA rfl) ?_)|(refine oP (fun χ w=>gP rfl) ?_)|(refine oP (fun χ w=>jf rfl) ?_)|(refine oP (fun χ w=>aG rfl) ?_)|(refine jh (fun _=>rfl) ?_)
  refine aV rfl ?_
  intro χ w hS
  replace hS:St w0 bs w (⟨b4,bZ 0 0,35,true⟩::⟨b3,aQ [(k:Int),x0,x1,x2,x3] s,38,true⟩::⟨b,cP c.m (some ⟨br,0,none⟩) v1 v2,53,true⟩::(Eg++(Ed++(El++H1)))):=hS
  clear χ
  go_wp2_with (go_skip)
  refine aj (X:=Nat) (Jm W As Ms (⟨b4,bZ 0 0,35,true⟩::⟨b3,aQ [(k:Int),x0,x1,x2,x3] s,38,true⟩::⟨b,cP c.m (some ⟨br,0,none⟩) v1 v2,53,true⟩::(Eg++(Ed++(El++H1))))) [(0,fun χ w=>Jm W As ((χ 0,nw ruL)::Ms) (⟨b4,bZ 0 0,35,true⟩::⟨b3,aQ [(k:Int),x0,x1,x2,x3] s,38,true⟩::⟨b,cP c.m (some ⟨br,0,none⟩) v1 v2,53,true⟩::(Eg++(Ed++(El++H1)))) w)] ⟨_,_,hB,hS.drawn _⟩ (by kernel_rfl) (by kernel_rfl) ?_
  refine aO 0 rfl (by kernel_rfl) (fun _=>rfl) (fun x=>.map (some x)) (fun χ w hw=>aw rfl ae ?_) ?_
  ·obtain⟨w0,bs,hB,hS⟩:=hw
   exact no hB hS (fun m w0' bs' w' hB hS=>⟨_,rfl,m,rfl,w0',bs',hB,hS⟩)
  refine oP (fun χ w=>ag rfl) ?_
  refine dt (fun w=>∃ w0 bs,St w0 bs w (⟨b4,bZ 0 0,35,true⟩::⟨b3,aQ [(k:Int),x0,x1,x2,x3] s,38,true⟩::⟨b,cP c.m (some ⟨br,0,none⟩) v1 v2,53,true⟩::(Eg++(Ed++(El++H1))))) ⟨fun w ⟨w0,bs,_,h⟩=>⟨w0,bs,h⟩,fun s hs χ w h=>by
   simp only[List.mem_singleton] at hs;subst hs;obtain⟨w0,bs,_,h⟩:=h;exact⟨w0,bs,h⟩⟩ (fun _=>rfl) rfl (fun χ w hw=>by obtain⟨w0,bs,hS⟩:=hw;exact ac _ _ rfl hS) ?_
  refine bF 1 (fun _=>rfl) rfl (v:=.tuple #[EC k,.bool q7]) (fun χ w hw=>by obtain⟨w0,bs,hB,hS⟩:=hw;exact dS (M:=χ 0) (r:=rr) rfl hB hS) ?_
  iterate 5 (first|refine oP (fun χ w=>ad rfl) ?_|refine oP (fun χ w=>aB rfl) ?_|refine oP (fun χ w=>aG rfl) ?_)
  refine aV rfl ?_
  rintro χ w ⟨w0,bs,hB,hS⟩
  replace hB:=hB.drop
  generalize (Value.map (some (χ 0)))=vm
  clear χ
  rw[hrv]
  obtain rfl:q7=true:=by rw[← hq7];exact decide_eq_true h7
  go_wp2_with (first|refine aF (.call { callee:=.value (.tmp 47),args:=_,argTypes:=_ }) rfl ?_;refine js (f:=f) (cap:=[]) [_,_] rfl hen ?_;refine hcl (⟨b4,bZ 0 0,35,true⟩::⟨b3,aQ [(k:Int),x0,x1,x2,x3] s,38,true⟩::H1) w0 bs w _ hB (by simp only[bX];exact hS.p) ?_;clear hB hS;intro e n T2 C2 K2 D2 E2 Ms2 w0 bs w hΦ hT2 hB hS;refine⟨_,rfl,?_⟩|refine au rfl hS ?_|refine ak rfl hS ?_;clear hS;intro w hS)
  refine bodyPost_ret (aI rfl hS) rfl ?_
  exact hR e n T2 C2 K2 D2 E2 Ms2 w0 bs _ hΦ hT2 hB hS.p
theorem pk {x y:ByteArray}(Φ:Int->Ar->Cy->Prop)(hB:Mps W As w0 bs Ms)(hO:St w0 bs w H)(hT:MH c p T C K D N E)[hc:Cut H E H1]
  (hw:wsL[k]?=some (x,y)) (h1:1≤k) (hP:Pts s (g5 y) [(k:Int),x0,x1,x2,x3] s [k,0,0,0,0] { data:=#[] }) (v u:Bool) (hv:zc y=v) (hu:xB k=u) (hv2:v=true->decide ((c.m:Int)≤x0)=false) (hu2:u=true->decide ((dN D:Int)≤x1)=false)
  (h7:k<7)
  (hcl:∀ (p:Option Addr) (E H:List Ent) (w0:World) (bs:List Nat) (w:World) (R:Ending->World->Prop),RG c p T C K E->St w0 bs w (E++H)->(∀ e T' C' E' w',Φ e T' C'->RG c p T' C' K E'->St w0 bs w' (E'++H)->ab R (.int .i64 e) w')->Calls prog 31 #[.pointer p,.agg (aQ [(k:Int),x0,x1,x2,x3] s)] w R)
  (hR:∀ e T' C' E' w0' bs' w',Φ e T' C'->MH c p T' C' K D N E'->Mps W As w0' bs' Ms->St w0' bs' w' (E'++H1)->ab R (.agg (bZ e 0)) w'):Calls prog 14 #[.pointer p,.agg (aQ [(k:Int),x0,x1,x2,x3] s)] w R:=by
 have hS:=hO.fr E H1
 clear hO
 obtain⟨b,br,v1,v2,xs,Eg,Ed,El,rfl,hG,hD,hN,hN0,rfl⟩:=id hT
 simp only[aP] at hS
 have hone1:=hD.one
 have hone2:=hN.one
 have hln:LenV prog 50 v1 (dN D):=oJ hD
 have hone:=eo (l:=[(k:Int),x0,x1,x2,x3]) (s:=s)
 have hsz:SizeIs (aQ [(k:Int),x0,x1,x2,x3] s) 6:=⟨rfl⟩
 have hcl6:=BX (l:=[(k:Int),x0,x1,x2,x3]) (s:=s) rfl
 have h17:k≤17:=by
  have:=(List.getElem?_eq_some_iff.1 hw).1
  have h18:wsL.length=18:=rfl
  omega
 have hkI:k<100:=by omega
 have hlk:=qf h1 h17
 have hfd:=qg (k:=k)
 obtain⟨rr,hrr⟩:∃ rr,rr=ruL.findIdx? fun x=>decide ((k:Int)=x.1):=⟨_,rfl⟩
 rw[← hrr] at hlk hfd
 have hkey:KeyOk prog 3 (.int .i64 (k:Int)):=fT (by kernel_rfl)
 obtain⟨q7,hq7⟩:∃ q7,decide (7≤k)=q7:=⟨_,rfl⟩
 rw[hq7] at hlk
 have hw':=HD hw
 have hP':=HD hP
 have hv':=HD hv
 have hu':=HD hu
 have h1':=HD h1
 have hki':=HD hkI
 clear hw hP hv hu h1 h17 hkI
 go_enter func14,ntmps14
 go_wp2_with (first|refine am 38 rfl hS ?_;clear hS;intro b3 w _ hS|refine aq 35 rfl hS ?_;clear hS;intro b4 w _ hS|go_at_call 27;refine na hS hw'.out h1'.out rfl rfl hP'.out ?_;clear hS;intro w hS;unfold ab|refine au rfl hS ?_)
 cases v <;> cases u
 all_goals
  try (have hl1:LeIs (c.m:Int) x0 false:=qK (hv2 rfl))
  try (have hl2:LeIs (dN D:Int) x1 false:=qK (hu2 rfl))
  refine aj (X:=Unit) (fun w=>St w0 bs w (⟨b4,bZ 0 0,35,true⟩::⟨b3,aQ [(k:Int),x0,x1,x2,x3] s,38,true⟩::⟨b,cP c.m (some ⟨br,0,none⟩) v1 v2,53,true⟩::(Eg++(Ed++(El++H1))))) [] (hS.drawn _) (by kernel_rfl) (by kernel_rfl) ?_
  iterate 2 first|(refine bF 0 (fun _=>rfl) rfl (fun χ w hw=>ac _ _ rfl (show St _ _ w _ from hw)) ?_)|(refine oP (fun χ w=>ag rfl) ?_)
  refine dA 0 28 [_] rfl (fun _=>rfl) rfl ae (.bool _) (fun χ w hw=>ur (show St w0 bs w (⟨b4,bZ 0 0,35,true⟩::⟨b3,aQ [(k:Int),x0,x1,x2,x3] s,38,true⟩::⟨b,cP c.m (some ⟨br,0,none⟩) v1 v2,53,true⟩::(Eg++(Ed++(El++H1)))) from hw) hw'.out h1'.out hv'.out (fun w' hS=>⟨rfl,hS⟩)) ?_
  iterate 10 first|(refine bF 0 (fun _=>rfl) rfl (fun χ w hw=>ac _ _ rfl (show St _ _ w _ from hw)) ?_)|(refine oP (fun χ w=>ad rfl) ?_)|(refine oP (fun χ w=>ah rfl) ?_)|(refine oP (fun χ w=>ag rfl) ?_)|(refine oP (fun χ w=>gQ rfl) ?_)|(refine oP (fun χ w=>gP rfl) ?_)|(refine oP (fun χ w=>jf rfl) ?_)|(refine oP (fun χ w=>aG rfl) ?_)|(refine jh (fun _=>rfl) ?_)
  refine aV rfl ?_
  intro χ w hS
  replace hS:St w0 bs w (⟨b4,bZ 0 0,35,true⟩::⟨b3,aQ [(k:Int),x0,x1,x2,x3] s,38,true⟩::⟨b,cP c.m (some ⟨br,0,none⟩) v1 v2,53,true⟩::(Eg++(Ed++(El++H1)))):=hS
  clear χ
  go_wp2_with (go_skip)
  refine aj (X:=Unit) (fun w=>St w0 bs w (⟨b4,bZ 0 0,35,true⟩::⟨b3,aQ [(k:Int),x0,x1,x2,x3] s,38,true⟩::⟨b,cP c.m (some ⟨br,0,none⟩) v1 v2,53,true⟩::(Eg++(Ed++(El++H1))))) [] (hS.drawn _) (by kernel_rfl) (by kernel_rfl) ?_
  iterate 2 first|(refine bF 0 (fun _=>rfl) rfl (fun χ w hw=>ac _ _ rfl (show St _ _ w _ from hw)) ?_)|(refine oP (fun χ w=>ag rfl) ?_)
  refine dA 0 29 [_] rfl (fun _=>rfl) rfl ae (.bool _) (fun χ w hw=>np hki'.out (show St w0 bs w (⟨b4,bZ 0 0,35,true⟩::⟨b3,aQ [(k:Int),x0,x1,x2,x3] s,38,true⟩::⟨b,cP c.m (some ⟨br,0,none⟩) v1 v2,53,true⟩::(Eg++(Ed++(El++H1)))) from hw) hu'.out (fun w' hS=>⟨rfl,hS⟩)) ?_
  iterate 11 first|(refine bF 0 (fun _=>rfl) rfl (fun χ w hw=>ac _ _ rfl (show St _ _ w _ from hw)) ?_)|(refine oP (fun χ w=>ad rfl) ?_)|(refine oP (fun χ w=>ah rfl) ?_)|(refine oP (fun χ w=>ag rfl) ?_)|(refine oP (fun χ w=>gQ rfl) ?_)|(refine oP (fun χ w=>aA rfl) ?_)|(refine oP (fun χ w=>gP rfl) ?_)|(refine oP (fun χ w=>jf rfl) ?_)|(refine oP (fun χ w=>aG rfl) ?_)|(refine jh (fun _=>rfl) ?_)
  refine aV rfl ?_
  intro χ w hS
  replace hS:St w0 bs w (⟨b4,bZ 0 0,35,true⟩::⟨b3,aQ [(k:Int),x0,x1,x2,x3] s,38,true⟩::⟨b,cP c.m (some ⟨br,0,none⟩) v1 v2,53,true⟩::(Eg++(Ed++(El++H1)))):=hS
  clear χ
  go_wp2_with (go_skip)
  refine aj (X:=Nat) (Jm W As Ms (⟨b4,bZ 0 0,35,true⟩::⟨b3,aQ [(k:Int),x0,x1,x2,x3] s,38,true⟩::⟨b,cP c.m (some ⟨br,0,none⟩) v1 v2,53,true⟩::(Eg++(Ed++(El++H1))))) [(0,fun χ w=>Jm W As ((χ 0,nw ruL)::Ms) (⟨b4,bZ 0 0,35,true⟩::⟨b3,aQ [(k:Int),x0,x1,x2,x3] s,38,true⟩::⟨b,cP c.m (some ⟨br,0,none⟩) v1 v2,53,true⟩::(Eg++(Ed++(El++H1)))) w)] ⟨_,_,hB,hS.drawn _⟩ (by kernel_rfl) (by kernel_rfl) ?_
  refine aO 0 rfl (by kernel_rfl) (fun _=>rfl) (fun x=>.map (some x)) (fun χ w hw=>aw rfl ae ?_) ?_
  ·obtain⟨w0,bs,hB,hS⟩:=hw
   exact no hB hS (fun m w0' bs' w' hB hS=>⟨_,rfl,m,rfl,w0',bs',hB,hS⟩)
  refine oP (fun χ w=>ag rfl) ?_
  refine dt (fun w=>∃ w0 bs,St w0 bs w (⟨b4,bZ 0 0,35,true⟩::⟨b3,aQ [(k:Int),x0,x1,x2,x3] s,38,true⟩::⟨b,cP c.m (some ⟨br,0,none⟩) v1 v2,53,true⟩::(Eg++(Ed++(El++H1))))) ⟨fun w ⟨w0,bs,_,h⟩=>⟨w0,bs,h⟩,fun s hs χ w h=>by
   simp only[List.mem_singleton] at hs;subst hs;obtain⟨w0,bs,_,h⟩:=h;exact⟨w0,bs,h⟩⟩ (fun _=>rfl) rfl (fun χ w hw=>by obtain⟨w0,bs,hS⟩:=hw;exact ac _ _ rfl hS) ?_
  refine bF 1 (fun _=>rfl) rfl (v:=.tuple #[EC k,.bool q7]) (fun χ w hw=>by obtain⟨w0,bs,hB,hS⟩:=hw;exact dS (M:=χ 0) (r:=rr) rfl hB hS) ?_
  iterate 5 (first|refine oP (fun χ w=>ad rfl) ?_|refine oP (fun χ w=>aB rfl) ?_|refine oP (fun χ w=>aG rfl) ?_)
  refine aV rfl ?_
  rintro χ w ⟨w0,bs,hB,hS⟩
  replace hB:=hB.drop
  generalize (Value.map (some (χ 0)))=vm
  clear χ
  obtain rfl:q7=false:=by rw[← hq7];exact DF
  go_wp2_with (go_skip)
  refine aj (X:=MrX) (fun w=>St w0 bs w (⟨b4,bZ 0 0,35,true⟩::⟨b3,aQ [(k:Int),x0,x1,x2,x3] s,38,true⟩::⟨b,cP c.m (some ⟨br,0,none⟩) v1 v2,53,true⟩::(Eg++(Ed++(El++H1))))) [(5,fun χ w=>Φ (χ 5).e (χ 5).T (χ 5).C∧RG c (some ⟨br,0,none⟩) (χ 5).T (χ 5).C K (χ 5).E∧St w0 bs w (⟨b4,bZ 0 0,35,true⟩::⟨b3,aQ [(k:Int),x0,x1,x2,x3] s,38,true⟩::⟨b,cP c.m (some ⟨br,0,none⟩) v1 v2,53,true⟩::((χ 5).E++(Ed++(El++H1))))),(7,fun χ w=>Φ (χ 5).e (χ 5).T (χ 5).C∧RG c (some ⟨br,0,none⟩) (χ 5).T (χ 5).C K (χ 5).E∧St w0 bs w (⟨b4,bZ (χ 5).e 0,35,true⟩::⟨b3,aQ [(k:Int),x0,x1,x2,x3] s,38,true⟩::⟨b,cP c.m (some ⟨br,0,none⟩) v1 v2,53,true⟩::((χ 5).E++(Ed++(El++H1)))))] (hS.drawn _) (by kernel_rfl) (by kernel_rfl) ?_
  iterate 4 first|(refine bF 0 (fun _=>rfl) rfl (fun χ w hw=>ac _ _ rfl (show St _ _ w _ from hw)) ?_)|(refine oP (fun χ w=>ad rfl) ?_)|(refine oP (fun χ w=>ah rfl) ?_)|(refine oP (fun χ w=>ag rfl) ?_)
  refine bF 0 (fun _=>rfl) rfl (fun χ w hw=>ai _ _ rfl (show St w0 bs w (⟨b4,bZ 0 0,35,true⟩::⟨b3,aQ [(k:Int),x0,x1,x2,x3] s,38,true⟩::⟨b,cP c.m (some ⟨br,0,none⟩) v1 v2,53,true⟩::(Eg++(Ed++(El++H1)))) from hw)) ?_
  refine aO 0 rfl (by kernel_rfl) (fun _=>rfl) (fun x=>.int .i64 x.e) (fun χ w hw=>aw rfl ae ?_) ?_
  ·have hS:St w0 bs w (⟨b4,bZ 0 0,35,true⟩::⟨b3,aQ [(k:Int),x0,x1,x2,x3] s,38,true⟩::⟨b,cP c.m (some ⟨br,0,none⟩) v1 v2,53,true⟩::(Eg++(Ed++(El++H1)))):=hw
   exact hcl (some ⟨br,0,none⟩) Eg (⟨b4,bZ 0 0,35,true⟩::⟨b3,aQ [(k:Int),x0,x1,x2,x3] s,38,true⟩::⟨b,cP c.m (some ⟨br,0,none⟩) v1 v2,53,true⟩::(Ed++(El++H1))) w0 bs w _ hG hS.p (fun e T' C' E' w' h1 h2 hS=>⟨_,rfl,⟨T',C',E',e⟩,rfl,h1,h2,(show St w0 bs w' (⟨b4,bZ 0 0,35,true⟩::⟨b3,aQ [(k:Int),x0,x1,x2,x3] s,38,true⟩::⟨b,cP c.m (some ⟨br,0,none⟩) v1 v2,53,true⟩::(E'++(Ed++(El++H1)))) from hS.p)⟩)
  refine eQ 5 (fun _=>rfl) rfl (fun x=>.agg (bZ x.e 0)) (fun χ w=>bQ _ _ rfl) ?_
  refine aO 1 rfl (by kernel_rfl) (fun _=>rfl) (fun _=>undef) (fun χ w hw=>?_) ?_
  ·obtain⟨h1,h2,hS⟩:=hw
   exact aK _ _ _ rfl (show St w0 bs w (⟨b4,bZ 0 0,35,true⟩::⟨b3,aQ [(k:Int),x0,x1,x2,x3] s,38,true⟩::⟨b,cP c.m (some ⟨br,0,none⟩) v1 v2,53,true⟩::((χ 5).E++(Ed++(El++H1)))) from hS) (fun w' hS'=>⟨default,rfl,h1,h2,hS'⟩)
  refine aV rfl ?_
  rintro χ w ⟨h1,h2,hS⟩
  simp only[Nat.zero_add,Nat.reduceAdd]
  generalize χ 5=x at h1 h2 hS ⊢
  obtain⟨T2,C2,E2,e⟩:=x
  simp only at h1 h2 hS
  clear χ
  go_wp2_with (go_skip)
  refine bodyPost_ret (aI rfl hS) rfl ?_
  exact hR e T2 C2 _ _ _ _ h1 ⟨b,br,v1,v2,xs,E2,Ed,El,rfl,h2,hD,hN,hN0,rfl⟩ hB (by(try simp only[aP]);exact hS.p)
end Go.Proofs.YtnbgljbhkeffkaaGreatDoor
