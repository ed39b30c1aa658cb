/-
  Contracts of what the law TopPasses reaches, part 29: Rga Rgb Rgc.
-/
import Derived.Test.YtnbgljbhkeffkaaGreatDoorQ28
import Derived.Test.YtnbgljbhkeffkaaGreatDoorQ27
open Go.Proofs.Tryz
set_option linter.unusedVariables false
set_option linter.unusedSimpArgs false
set_option maxHeartbeats 4000000
set_option maxRecDepth 100000
namespace Go.Proofs.YtnbgljbhkeffkaaGreatDoor
open Go.RowKit Go.Mm
variable {R:Ending->World->Prop}{w W:World}{w0:World}{As bs:List Nat}{H H' H1 H2 H3 E E' E1 E2 Ea Eh Er:List Ent}
variable {Ms Ms1 Ms2 Ms3:dF}
structure Rk where
 tb:Tb
 o:Option (Array Value)
 L:List (Int×Int)
 mo:Nat
 mb:Nat
 mc:Nat
 me:Nat
 mf:Nat
 ml:Nat
 mz:Nat
def bA (pa pc pr:Option Addr)(c:Cfg)(pt pw pq pl:Option Addr):Array Value:=#[.pointer pa,.pointer pc,.pointer pr,.int .i64 c.z,.int .i64 c.m,.int .i64 c.st,.int .i64 c.bz,.int .i64 c.qu,.int .i64 c.qt,.int .i64 c.ba,.int .i64 c.bs,.int .i64 c.cp,.int .u32 c.fs,.pointer pt,.pointer pw,.pointer pq,.pointer pl]
def RG (c:Cfg)(p:Option Addr)(T:Ar)(C:Cy)(K:Rk)(E:List Ent):Prop:=
 ∃ b pa pc pr bt pw bq bl Ea Ec Er Et Ew,p=some ⟨b,0,none⟩∧AA pa T Ea∧gE c.z c.m c.bz pc C Ec∧RQ pr K.mo K.mb K.mc c.qu Er∧fj (some ⟨bt,0,none⟩) K.tb K.me K.o Et∧OW pw K.L K.mf K.ml Ew∧CfgW c ∧
  E=⟨b,bA pa pc pr c (some ⟨bt,0,none⟩) pw (some ⟨bq,0,none⟩) (some ⟨bl,0,none⟩),70,true⟩::⟨bq,bD c.qt,163,true⟩::⟨bl,bH K.mz,109,true⟩::(Ea++(Ec++(Er++(Et++Ew))))
instance I2:ScalarT prog 47:=⟨by kernel_rfl,by kernel_rfl⟩
instance I5:ScalarT prog 62:=⟨by kernel_rfl,by kernel_rfl⟩
instance I4:ScalarT prog 63:=⟨by kernel_rfl,by kernel_rfl⟩
instance I0:ScalarT prog 64:=⟨by kernel_rfl,by kernel_rfl⟩
instance I1:ScalarT prog 68:=⟨by kernel_rfl,by kernel_rfl⟩
instance I3:ScalarT prog 60:=⟨by kernel_rfl,by kernel_rfl⟩
instance Je {b off:Nat} : FieldAt prog 70 0 b off off:=⟨fun w=>by kernel_rfl⟩
instance Jd {b off:Nat} : FieldAt prog 70 1 b off (off+3):=⟨fun w=>by kernel_rfl⟩
instance Jc {b off:Nat} : FieldAt prog 70 2 b off (off+13):=⟨fun w=>by kernel_rfl⟩
instance Jb {b off:Nat} : FieldAt prog 70 3 b off (off+14):=⟨fun w=>by kernel_rfl⟩
instance Ja {b off:Nat} : FieldAt prog 70 4 b off (off+15):=⟨fun w=>by kernel_rfl⟩
instance I9 {b off:Nat} : FieldAt prog 70 5 b off (off+16):=⟨fun w=>by kernel_rfl⟩
instance I8 {b off:Nat} : FieldAt prog 66 0 b off off:=⟨fun w=>by kernel_rfl⟩
instance I7 {b off:Nat} : FieldAt prog 66 1 b off (off+1):=⟨fun w=>by kernel_rfl⟩
instance I6 {b off:Nat} : FieldAt prog 66 2 b off (off+2):=⟨fun w=>by kernel_rfl⟩
section
variable {pa pc pr pt pw pq pl:Option Addr}{c:Cfg}
instance Ng:CellAt (bA pa pc pr c pt pw pq pl) 0 (.pointer pa):=⟨rfl⟩
instance Nf:CellAt (bA pa pc pr c pt pw pq pl) (0+1) (.pointer pc):=⟨rfl⟩
instance Nd:CellAt (bA pa pc pr c pt pw pq pl) (0+2) (.pointer pr):=⟨rfl⟩
instance Nc:CellAt (bA pa pc pr c pt pw pq pl) (0+3+1) (.int .i64 c.m):=⟨rfl⟩
instance IZ:CellAt (bA pa pc pr c pt pw pq pl) (0+13) (.pointer pt):=⟨rfl⟩
instance IY:CellAt (bA pa pc pr c pt pw pq pl) (0+14) (.pointer pw):=⟨rfl⟩
instance IX:CellAt (bA pa pc pr c pt pw pq pl) (0+15) (.pointer pq):=⟨rfl⟩
instance IW:CellAt (bA pa pc pr c pt pw pq pl) (0+16) (.pointer pl):=⟨rfl⟩
instance Na {q:Option Addr} : SetAt (bA pa pc pr c pt pw pq pl) 0 (.pointer q) (bA q pc pr c pt pw pq pl):=⟨rfl,by simp [bA]⟩
instance M9 {q:Option Addr} : SetAt (bA pa pc pr c pt pw pq pl) (0+1) (.pointer q) (bA pa q pr c pt pw pq pl):=⟨rfl,by simp [bA]⟩
instance M8 {q:Option Addr} : SetAt (bA pa pc pr c pt pw pq pl) (0+2) (.pointer q) (bA pa pc q c pt pw pq pl):=⟨rfl,by simp [bA]⟩
instance IV {q:Option Addr} : SetAt (bA pa pc pr c pt pw pq pl) (0+13) (.pointer q) (bA pa pc pr c q pw pq pl):=⟨rfl,by simp [bA]⟩
instance IU {q:Option Addr} : SetAt (bA pa pc pr c pt pw pq pl) (0+14) (.pointer q) (bA pa pc pr c pt q pq pl):=⟨rfl,by simp [bA]⟩
instance IT {q:Option Addr} : SetAt (bA pa pc pr c pt pw pq pl) (0+15) (.pointer q) (bA pa pc pr c pt pw q pl):=⟨rfl,by simp [bA]⟩
instance Nb:CellsAt (bA pa pc pr c pt pw pq pl) (0+3) 10 (dD c):=⟨fun j hj=>match j,hj with|0,_=>rfl|1,_=>rfl|2,_=>rfl|3,_=>rfl|4,_=>rfl|5,_=>rfl|6,_=>rfl|7,_=>rfl|8,_=>rfl|9,_=>rfl,rfl⟩
theorem dy {b bt:Nat}(hO:St w0 bs w H)[hH:Has H b (bA pa pc pr c (some ⟨bt,0,none⟩) pw pq pl) 70](hR:∀ w',St w0 bs w' H->ab R (.bool true) w'):Calls prog 32 #[.pointer (some ⟨b,0,none⟩)] w R:=by
 have hS:=hO
 clear hO
 go_enter func32,ntmps32
 go_wp2_with (refine af rfl hS ?_)
 exact hR _ hS
theorem yX (hO:St w0 bs w H){n m:Int}(hn:1≤n∧n≤m)(hR:∀ w',St w0 bs w' H->ab R (.bool true) w'):Calls prog 38 #[.int .i64 n,.int .i64 m] w R:=by
 have hS:=hO
 clear hO
 have d1:decide (1≤n)=true:=DT
 have d2:decide (n≤m)=true:=DT
 go_enter func38,ntmps38
 go_wp2_with (go_skip)
 exact hR _ hS
theorem w8 (hO:St w0 bs w H)(hR:∀ w',St w0 bs w' H->ab R (.bool true) w'):Calls prog 145 #[.int .i64 1,.int .i64 5] w R:=by
 have hS:=hO
 clear hO
 go_enter func145,ntmps145
 go_wp2_with (go_skip)
 exact hR _ hS
theorem oR {b bt:Nat}(hO:St w0 bs w H)[hH:Has H b (bA pa pc pr c (some ⟨bt,0,none⟩) pw pq pl) 70](i:Nat)(hi:i<c.m)(hR:∀ w',St w0 bs w' H->ab R (.int .i64 0) w'):Calls prog 144 #[.pointer (some ⟨b,0,none⟩),.int .i64 i] w R:=by
 have hS:=hO
 clear hO
 have d1:decide ((i:Int)<0)=false:=DF
 have d2:decide (c.m≤i)=false:=DF
 have d3:decide ((c.m:Int)≤(i:Int))=false:=DF
 go_enter func144,ntmps144
 go_wp2_with (first|go_at_call 32;refine dy hS ?_;clear hS;intro w hS;unfold ab|refine af rfl hS ?_)
 exact hR _ hS
end
section
variable {c:Cfg}{p:Option Addr}{T:Ar}{C:Cy}{K:Rk}
theorem t3 (hO:St w0 bs w H)(hT:RG c p T C K E)[hc:Cut H E H1](hR:∀ C' E' w',kB C C'->RG c p T C' K E'->St w0 bs w' (E'++H1)->ab R (.int .i64 0) w'):Calls prog 110 #[.pointer p] w R:=by
 have hS:=hO.fr E H1
 clear hO
 obtain⟨b,pa,pc,pr,bt,pw,bq,bl,Ea,Ec,Er,Et,Ew,rfl,hA,hC,hQ,hTb,hW,hcf,rfl⟩:=id hT
 simp only[aP] at hS
 go_enter func110,ntmps110
 go_wp2_with (first|go_at_call 32;refine dy hS ?_;clear hS;intro w hS;unfold ab|go_at_call 174;refine Bt hS hC ?_;clear hS;intro C' Ec' w v hak hC' hS;unfold ab|refine af rfl hS ?_)
 exact hR C' _ _ hak ⟨b,pa,pc,pr,bt,pw,bq,bl,Ea,Ec',Er,Et,Ew,rfl,hA,hC',hQ,hTb,hW,hcf,rfl⟩ (by(try simp only[aP]);exact hS.p)
theorem tX {l:List (Value×Value)}(hB:Mps W As w0 bs Ms)(hO:St w0 bs w H)(hT:RG c p T C K E)[hc:Cut H E H1](hL:0<K.L.length)[hM:MapIn Ms K.mf l][hM2:MapIn Ms K.ml []]
  (hR:∀ p' mf' ml' E' w0' bs' w',OW p' K.L mf' ml' E'->Mps W As w0' bs' ((mf',l)::(ml',[])::Ms)->St w0' bs' w' (E'++(E++H1))->ab R (.pointer p') w'):Calls prog 16 #[.pointer p] w R:=by
 have hS:=hO.fr E H1
 clear hO
 obtain⟨b,pa,pc,pr,bt,pw,bq,bl,Ea,Ec,Er,Et,Ew,rfl,hA,hC,hQ,hTb,hW,hcf,rfl⟩:=id hT
 simp only[aP] at hS
 go_enter func16,ntmps16
 go_wp2_with (first|go_at_call 32;refine dy hS ?_;clear hS;intro w hS;unfold ab|go_at_call 33;refine qq hL hB hS hW ?_;clear hB hS;intro p' mf' ml' E' w0 bs w hW' hB hS;unfold ab|refine af rfl hS ?_)
 exact hR _ _ _ _ _ _ _ hW' hB (by(try simp only[aP]);exact hS.p)
theorem tY (n:Nat){l:List (Value×Value)}(hB:Mps W As w0 bs Ms)(hO:St w0 bs w H)(hT:RG c p T C K E)[hc:Cut H E H1](hl:Lv K.o n)(hle:l=[]∨∃ i g s h,l=[(vI i,.agg (fd i g s h))])[hM:MapIn Ms K.me l]
  (hR:∀ w0' bs' w',Mps W As w0' bs' Ms->St w0' bs' w' (E++H1)->ab R (.agg (c5 n n 0 0 0)) w'):Calls prog 248 #[.pointer p] w R:=by
 have hS:=hO.fr E H1
 clear hO
 obtain⟨b,pa,pc,pr,bt,pw,bq,bl,Ea,Ec,Er,Et,Ew,rfl,hA,hC,hQ,hTb,hW,hcf,rfl⟩:=id hT
 simp only[aP] at hS
 have hl':=HD hl
 have hle':=HD hle
 clear hl hle
 go_enter func248,ntmps248
 go_wp2_with (first|go_at_call 32;refine dy hS ?_;clear hS;intro w hS;unfold ab|refine aq (o:=⟨some 2,_,_,_,_,_⟩) 392 rfl hS ?_;clear hS;intro b2 w _ hS|refine aq (o:=⟨some 3,_,_,_,_,_⟩) 392 rfl hS ?_;clear hS;intro b3 w _ hS|go_at_call 329;refine Cw hB hS hTb hl'.out l hle'.out ?_;clear hB hS;intro w0 bs w hB hS;unfold ab|(first|refine af rfl hS ?_|refine au rfl hS ?_)|refine ak rfl hS ?_;clear hS;intro w hS)
 refine bodyPost_ret (aI rfl hS) rfl ?_
 exact hR _ _ _ hB (by(try simp only[aP]);exact hS.p)
theorem ql (n:Nat){l:List (Value×Value)}(hB:Mps W As w0 bs Ms)(hO:St w0 bs w H)(hT:RG c p T C K E)[hc:Cut H E H1](hl:Lv K.o n)(hle:l=[]∨∃ i g s h,l=[(vI i,.agg (fd i g s h))])[hM:MapIn Ms K.me l]
  (hR:∀ w0' bs' w',Mps W As w0' bs' Ms->St w0' bs' w' (E++H1)->ab R (.int .i64 n) w'):Calls prog 167 #[.pointer p] w R:=by
 have hS:=hO.fr E H1
 clear hO
 have hl':=HD hl
 have hle':=HD hle
 have hn:(n:Int)=0∨(n:Int)=1:=by rcases hl with ⟨_,h⟩|⟨h,_⟩ <;> omega
 have hn':=HD hn
 clear hl hle hn
 go_enter func167,ntmps167
 go_wp2_with (first|go_at_call 248;refine tY n hB hS hT hl'.out hle'.out ?_;clear hB hS;intro w0 bs w hB hS;unfold ab|go_at_call 247;refine ww hS hn'.out ?_;clear hS;intro w hS;unfold ab)
 exact hR _ _ _ hB hS
end
open Go.RowKit Go.Mm
variable {c:Cfg}
theorem kr:OneCells (dD c):=⟨by intro v hv;simp only [dD,List.mem_cons,List.not_mem_nil,or_false] at hv;rcases hv with rfl|rfl|rfl|rfl|rfl|rfl|rfl|rfl|rfl|rfl <;> rfl⟩
instance Lx:CellsAt (dD c) 0 10 (dD c):=⟨fun j hj=>by simp,rfl⟩
instance KW:AggT prog 71 6:=⟨by kernel_rfl,by kernel_rfl⟩
instance OJ:ZeroT prog 71 #[.int .i64 0,.int .i64 0,.int .i64 0,.int .i64 0,.int .i64 0,.int .i64 0]:=⟨by kernel_rfl⟩
instance KV:BuildT prog 71 [] #[.int .i64 0,.int .i64 0,.int .i64 0,.int .i64 0,.int .i64 0,.int .i64 0]:=⟨fun w=>by kernel_rfl⟩
theorem k8 {b i:Nat}(hi:i<6):IdxV prog 71 (.pointer (some ⟨b,0,none⟩)) i ⟨b,0+i * 1,none⟩:=PP (P:=prog) (t:=71) (m:=6) (z:=1) (e:=31) (by kernel_rfl) hi
instance OP {b:Nat} : IdxV prog 71 (.pointer (some ⟨b,0,none⟩)) 0 ⟨b,0,none⟩:=k8 (i:=0) (by decide)
instance OO {b:Nat} : IdxV prog 71 (.pointer (some ⟨b,0,none⟩)) 1 ⟨b,1,none⟩:=k8 (i:=1) (by decide)
instance ON {b:Nat} : IdxV prog 71 (.pointer (some ⟨b,0,none⟩)) 2 ⟨b,2,none⟩:=k8 (i:=2) (by decide)
instance OM {b:Nat} : IdxV prog 71 (.pointer (some ⟨b,0,none⟩)) 3 ⟨b,3,none⟩:=k8 (i:=3) (by decide)
instance OL {b:Nat} : IdxV prog 71 (.pointer (some ⟨b,0,none⟩)) 4 ⟨b,4,none⟩:=k8 (i:=4) (by decide)
instance OK {b:Nat} : IdxV prog 71 (.pointer (some ⟨b,0,none⟩)) 5 ⟨b,5,none⟩:=k8 (i:=5) (by decide)
instance KU:AggEq prog 71 #[.int .i64 0,.int .i64 0,.int .i64 0,.int .i64 0,.int .i64 0,.int .i64 0] #[.int .i64 0,.int .i64 0,.int .i64 0,.int .i64 0,.int .i64 0,.int .i64 0] true:=⟨fun w=>by kernel_rfl,fun w=>by kernel_rfl,by kernel_rfl⟩
instance Jf {q:Option Addr} : BuildT prog 70 [(1,.agg (dD c)),(5,.pointer q)] (bA none none none c none none none q):=⟨fun w=>by kernel_rfl⟩
theorem oS (hO:St w0 bs w H)(hcf:CfgW c)(hR:∀ w',St w0 bs w' H->ab R (.bool true) w'):Calls prog 19 #[.agg (dD c)] w R:=by
 have hS:=hO
 clear hO
 have c1:=hcf.z
 have c2:=hcf.m
 have c3:=hcf.st
 have c4:=hcf.bz
 have c5:=hcf.qu
 have c6:=hcf.qt
 have c7:=hcf.ba
 have c8:=HD hcf.bs
 have c9:=hcf.fs
 have d1:decide (1≤c.fs)=true:=decide_eq_true c9.1
 have hone:=kr (c:=c)
 clear hcf
 go_enter func19,ntmps19
 go_wp2_with (first|refine am 28 rfl hS ?_;clear hS;intro b1 w _ hS|(first|go_at_call 38;refine yX hS (by omega) ?_|go_at_call 39;refine nX hS c8.out ?_);clear hS;intro w hS;unfold ab|refine af rfl hS ?_)
 exact hR _ hS.weak
abbrev AH (W:World)(As:List Nat)(Ms:dF)(c:Cfg)(HH:List Ent):lg CpX:=
 [(1,fun χ w=>Jm W As (((χ 1).n,[])::Ms) (⟨(χ 1).m,bH (χ 1).n,109,true⟩::HH) w),
 (3,fun χ w=>Jm W As (((χ 1).n,[])::Ms) (⟨(χ 3).m,bA none none none c none none none (some ⟨(χ 1).m,0,none⟩),70,true⟩::⟨(χ 1).m,bH (χ 1).n,109,true⟩::HH) w)]
theorem N0 {HH:List Ent} : (∀ w,Jm W As Ms HH w->∃ w0 bs,St w0 bs w HH)∧∀ s∈AH W As Ms c HH,∀ χ w,s.2 χ w->∃ w0 bs,St w0 bs w HH:=by
 refine⟨fun w ⟨w0,bs,_,h⟩=>⟨w0,bs,h⟩,fun s hs χ w h=>?_⟩
 simp only[AH,List.mem_cons,List.not_mem_nil,or_false] at hs
 rcases hs with rfl|rfl
 ·obtain⟨w0,bs,_,h⟩:=h;exact⟨w0,bs,cB (A:=[_]) h⟩
 ·obtain⟨w0,bs,_,h⟩:=h;exact⟨w0,bs,cB (A:=[_,_]) h⟩
theorem Ad (hcf:CfgW c)(hB:Mps W As w0 bs Ms)(hO:St w0 bs w H)(hn:cO c.z c.fs=true)
  (hR:∀ p K E w0' bs' w',RG c p (e8 c.z c.m c.fs) ⟨⟨nj c.m,Col.zerosL,List.replicate c.m []⟩,c.z,0,0,false⟩ K E->K.tb=ia 256 c.fs->K.o=none->K.L=List.replicate 64 (0,c.fs)->Mps W As w0' bs' ((K.ml,[])::(K.mf,[])::(K.me,[])::(K.mc,[])::(K.mb,[])::(K.mo,[])::(K.mz,[])::Ms)->St w0' bs' w' (E++H)->ab R (.tuple #[.pointer p,.int .i64 0]) w'):Calls prog 12 #[.agg (dD c)] w R:=by
 have hS:=hO
 clear hO
 have hone:=kr (c:=c)
 have hcf':=HD hcf
 have hn':=HD hn
 clear hcf hn
 go_enter func12,ntmps12
 go_wp2_with (first|refine am 28 rfl hS ?_;clear hS;intro b1 w _ hS|go_at_call 19;refine oS hS hcf'.out ?_;clear hS;intro w hS;unfold ab|refine au rfl hS ?_)
 refine aj (X:=CpX) (Jm W As Ms (⟨b1,dD c,28,true⟩::H)) (AH W As Ms c (⟨b1,dD c,28,true⟩::H)) ⟨w0,bs,hB,hS.drawn _⟩ (by kernel_rfl) (by kernel_rfl) ?_
 refine dt _ N0 (fun _=>rfl) rfl (fun χ w hw=>by obtain⟨w0,bs,hw⟩:=hw;exact ai _ _ rfl hw) ?_
 refine aO 0 rfl (by kernel_rfl) (fun _=>rfl) (fun x=>.pointer (some ⟨x.m,0,none⟩)) (fun χ w hw=>aw rfl ae ?_) ?_
 ·obtain⟨w0,bs,hB,hS⟩:=hw
  exact AZ hB hS (fun bn m w0' bs' w' g1 g2=>⟨_,rfl,⟨none,[],none,m,0,bn⟩,rfl,w0',bs',g1,g2⟩)
 refine eQ 1 (fun _=>rfl) rfl (fun x=>.agg (bA none none none c none none none (some ⟨x.m,0,none⟩))) (fun χ w=>bQ _ _ rfl) ?_
 refine aO 1 rfl (by kernel_rfl) (fun _=>rfl) (fun x=>.pointer (some ⟨x.m,0,none⟩)) (fun χ w hw=>?_) ?_
 ·obtain⟨w0,bs,hB,hS⟩:=hw
  exact fp rfl hS (fun bn w' _ g=>⟨⟨none,[],none,0,0,bn⟩,rfl,w0,bs,hB,(show St w0 bs w' (⟨bn,bA none none none c none none none (some ⟨(χ 1).m,0,none⟩),70,true⟩::⟨(χ 1).m,bH (χ 1).n,109,true⟩::⟨b1,dD c,28,true⟩::H) from g)⟩)
 refine eQ 3 (fun _=>rfl) rfl (fun x=>.pointer (some ⟨x.m,0,none⟩)) (fun χ w=>aG rfl) ?_
 refine aV rfl ?_
 rintro χ w ⟨w0,bs,hB,hS⟩
 simp only[Nat.zero_add,Nat.reduceAdd]
 generalize χ 1=x1 at hS hB ⊢
 generalize χ 3=x3 at hS ⊢
 obtain⟨_,_,_,mk,_,bl⟩:=x1
 obtain⟨_,_,_,_,_,b⟩:=x3
 simp only at hS hB
 clear χ
 go_wp2_with (first|refine aq 71 rfl hS ?_;clear hS;intro b5 w _ hS|go_at_call 21;refine sD hS c.z c.fs c.m (by have:=hcf'.out.fs;omega) hn'.out hcf'.out.m rfl ?_;clear hS;intro pa Ea w hA hS;unfold ab|go_at_call 22;refine Bs hcf'.out hS ?_;clear hS;intro pc Ec w hC hS;unfold ab|go_at_call 23;refine z7 hB hS c.qu (by have:=hcf'.out.qu;omega) ?_;clear hB hS;intro pr mo mb mc Er w0 bs w hQ hB hS;unfold ab|go_at_call 24;refine zF hB hS c.fs hcf'.out.fs ?_;clear hB hS;intro pt me Et w0 bs w hTb hB hS;unfold ab|go_at_call 25;refine Ax hB hS c.fs hcf'.out.fs ?_;clear hB hS;intro pw mf ml Ew w0 bs w hW hB hS;unfold ab|go_at_call 26;refine Ai hS c.qt (by have:=hcf'.out.qt;omega) ?_;clear hS;intro bq w hS;unfold ab|refine aM rfl ?_|refine wV (.binOp .neq _ _ _ _) rfl (bK rfl) ?_|refine aL rfl ?_|(first|refine af rfl hS ?_|refine au rfl hS ?_)|refine bP rfl hS ?_;clear hS;intro w hS)
 have hTb':=hTb
 obtain⟨bt,_,_,_,_,rfl,_⟩:=hTb'
 exact hR _ ⟨ia 256 c.fs,none,List.replicate 64 (0,c.fs),mo,mb,mc,me,mf,ml,mk⟩ _ _ _ _ ⟨b,pa,pc,pr,bt,pw,bq,bl,Ea,Ec,Er,Et,Ew,rfl,hA,hC,hQ,hTb,hW,hcf'.out,rfl⟩ rfl rfl rfl hB (by(try simp only[aP]);exact hS.p)
open Go.RowKit Go.Mm
variable {c:Cfg}{p:Option Addr}{T:Ar}{C:Cy}{K:Rk}
section
variable {i g s h:Int}
theorem qn (hB:Mps W As w0 bs Ms)(hO:St w0 bs w H)(hT:RG c p T C K E)[hc:Cut H E H1](i g:Int)(hi:0≤i∧i<256)(hg:1≤g∧g≤4294967295)(n e:Int)(hM:(MapIn Ms K.me [(vI i,.agg (fd i g s h))]∧n=1∧e=0)∨(MapIn Ms K.me []∧n=0∧e=7))
  (hR:∀ w',St w0 bs w' (E++H1)->ab R (.tuple #[.int .i64 n,.int .i64 e]) w'):Calls prog 154 #[.pointer p,.agg (vD i g)] w R:=by
 have hS:=hO.fr E H1
 clear hO
 obtain⟨b,pa,pc,pr,bt,pw,bq,bl,Ea,Ec,Er,Et,Ew,rfl,hA,hC,hQ,hTb,hW,hcf,rfl⟩:=id hT
 simp only[aP] at hS
 have hM':=HD hM
 have hi':=HD hi
 have hg':=HD hg
 clear hM hi hg
 go_enter func154,ntmps154
 go_wp2_with (first|go_at_call 32;refine dy hS ?_;clear hS;intro w hS;unfold ab|refine am 259 rfl hS ?_;clear hS;intro b3 w _ hS|go_at_call 221;refine pz hS i g hi'.out hg'.out ?_;clear hS;intro w hS;unfold ab|refine au rfl hS ?_)
 refine aj (X:=Unit) (fun w=>St w0 bs w (⟨b3,vD i g,259,true⟩::⟨b,bA pa pc pr c (some ⟨bt,0,none⟩) pw (some ⟨bq,0,none⟩) (some ⟨bl,0,none⟩),70,true⟩::⟨bq,bD c.qt,163,true⟩::⟨bl,bH K.mz,109,true⟩:: (Ea++(Ec++(Er++(Et++(Ew++H1))))))) [] (hS.drawn _) (by kernel_rfl) (by kernel_rfl) ?_
 (refine oP (fun χ w=>ad rfl) ?_)
 (refine oP (fun χ w=>ah rfl) ?_)
 (refine oP (fun χ w=>ag rfl) ?_)
 (refine bF 0 (fun _=>rfl) rfl (fun χ w hw=>ac _ _ rfl (show St _ _ w _ from hw)) ?_)
 (refine bF 0 (fun _=>rfl) rfl (fun χ w hw=>ai _ _ rfl (show St _ _ w _ from hw)) ?_)
 refine dA 0 222 [_,_] rfl (fun _=>rfl) rfl ae (.tuple #[.int .i64 n,.int .i64 e]) (fun χ w hw=>by
  have hS:St w0 bs w (⟨b3,vD i g,259,true⟩::⟨b,bA pa pc pr c (some ⟨bt,0,none⟩) pw (some ⟨bq,0,none⟩) (some ⟨bl,0,none⟩),70,true⟩::⟨bq,bD c.qt,163,true⟩::⟨bl,bH K.mz,109,true⟩:: (Ea++(Ec++(Er++(Et++(Ew++H1)))))):=hw
  rcases hM'.out with ⟨hM,rfl,rfl⟩|⟨hM,rfl,rfl⟩
  ·exact we hB hS hTb i g hi'.out hg'.out (fun w' hS=>⟨rfl,(show St w0 bs w' (⟨b3,vD i g,259,true⟩::⟨b,bA pa pc pr c (some ⟨bt,0,none⟩) pw (some ⟨bq,0,none⟩) (some ⟨bl,0,none⟩),70,true⟩::⟨bq,bD c.qt,163,true⟩::⟨bl,bH K.mz,109,true⟩:: (Ea++(Ec++(Er++(Et++(Ew++H1)))))) from hS.p)⟩)
  ·exact ta hB hS hTb i g hi'.out hg'.out (fun w' hS=>⟨rfl,(show St w0 bs w' (⟨b3,vD i g,259,true⟩::⟨b,bA pa pc pr c (some ⟨bt,0,none⟩) pw (some ⟨bq,0,none⟩) (some ⟨bl,0,none⟩),70,true⟩::⟨bq,bD c.qt,163,true⟩::⟨bl,bH K.mz,109,true⟩:: (Ea++(Ec++(Er++(Et++(Ew++H1)))))) from hS.p)⟩)) ?_
 (refine oP (fun χ w=>aB rfl) ?_)
 (refine oP (fun χ w=>aB rfl) ?_)
 (refine oP (fun χ w=>aG rfl) ?_)
 (refine oP (fun χ w=>aG rfl) ?_)
 refine aV rfl ?_
 intro χ w hS
 replace hS:St w0 bs w (⟨b3,vD i g,259,true⟩::⟨b,bA pa pc pr c (some ⟨bt,0,none⟩) pw (some ⟨bq,0,none⟩) (some ⟨bl,0,none⟩),70,true⟩::⟨bq,bD c.qt,163,true⟩::⟨bl,bH K.mz,109,true⟩:: (Ea++(Ec++(Er++(Et++(Ew++H1)))))):=hS
 clear χ
 go_wp2_with (go_skip)
 (exact hR _ (by(try simp only[aP]);exact hS.p))
theorem Ac (hB:Mps W As w0 bs Ms)(hO:St w0 bs w H)(hT:RG c p T C K E)[hc:Cut H E H1](i g:Int)(hi:0≤i∧i<256)(hg:1≤g∧g≤4294967295)(n e:Int)(hM:(MapIn Ms K.me [(vI i,.agg (fd i g s h))]∧n=1∧e=0)∨(MapIn Ms K.me []∧n=0∧e=7))
  (hR:∀ w',St w0 bs w' (E++H1)->ab R (.int .i64 e) w'):Calls prog 104 #[.pointer p,.agg (vD i g)] w R:=by
 have hS:=hO.fr E H1
 clear hO
 have hM':=HD hM
 clear hM
 go_enter func104,ntmps104
 go_wp2_with (first|refine am 259 rfl hS ?_;clear hS;intro b3 w _ hS|go_at_call 154;refine qn hB hS hT i g hi hg n e hM'.out ?_;clear hS;intro w hS;unfold ab|refine au rfl hS ?_)
 exact hR _ (by(try simp only[aP]);exact hS.p)
end
def pI (z:Nat)(T:Ar)(C C' : Cy)(i:Nat):Prop:=∃ M',C'={ C with M:=M' }∧M'.k=iW C.M.k i∧M'.bf=C.M.bf∧Up C.M.L M'.L∧(yN C.M.k i=true->C.M.k.1=2->∀ r∈ez T i,j9 (some (some T.1)) r.1 r.2=true->0≤r.1∧r.1<z->M'.L.getD r.1.toNat 0≠0)
structure AkX where
 C:Cy
 E:List Ent
 v:Bool
 e:Int
instance :Inhabited Cy:=⟨⟨⟨(0,0,0,[]),[],[]⟩,0,0,0,false⟩⟩
instance :Inhabited AkX:=⟨⟨default,[],false,0⟩⟩
theorem Af (hO:St w0 bs w H)(hT:RG c p T C K E)[hc:Cut H E H1](hz:T.1.length=c.z)(hk:T.2.1.length=c.m)(i:Nat)(hi:i<c.m)(h32:(ez T i).length≤300)
  (hR:∀ C' E' w' e,pI c.z T C C' i->RG c p T C' K E'->St w0 bs w' (E'++H1)->ab R (.int .i64 e) w'):Calls prog 100 #[.pointer p,.int .i64 i] w R:=by
 have hS:=hO.fr E H1
 clear hO
 obtain⟨b,pa,pc,pr,bt,pw,bq,bl,Ea,Ec,Er,Et,Ew,rfl,hA,hC,hQ,hTb,hW,hcf,rfl⟩:=id hT
 simp only[aP] at hS
 go_enter func100,ntmps100
 go_wp2_with (go_at_call 32;refine dy hS ?_;clear hS;intro w hS;unfold ab)
 refine aj (X:=AkX) (fun w=>St w0 bs w (⟨b,bA pa pc pr c (some ⟨bt,0,none⟩) pw (some ⟨bq,0,none⟩) (some ⟨bl,0,none⟩),70,true⟩::⟨bq,bD c.qt,163,true⟩::⟨bl,bH K.mz,109,true⟩:: (Ea++(Ec++(Er++(Et++(Ew++H1))))))) [(11,fun χ w=>pI c.z T C (χ 11).C i∧gE c.z c.m c.bz pc (χ 11).C (χ 11).E∧St w0 bs w (⟨b,bA pa pc pr c (some ⟨bt,0,none⟩) pw (some ⟨bq,0,none⟩) (some ⟨bl,0,none⟩),70,true⟩::⟨bq,bD c.qt,163,true⟩::⟨bl,bH K.mz,109,true⟩:: (Ea++((χ 11).E++(Er++(Et++(Ew++H1)))))))] (hS.drawn _) (by kernel_rfl) (by kernel_rfl) ?_
 (refine oP (fun χ w=>ad rfl) ?_)
 (refine oP (fun χ w=>ah rfl) ?_)
 (refine oP (fun χ w=>ag rfl) ?_)
 (refine oP (fun χ w=>ag rfl) ?_)
 (refine bF 0 (fun _=>rfl) rfl (fun χ w hw=>ac _ _ rfl (show St _ _ w _ from hw)) ?_)
 (refine oP (fun χ w=>ad rfl) ?_)
 (refine oP (fun χ w=>ah rfl) ?_)
 (refine oP (fun χ w=>ag rfl) ?_)
 (refine oP (fun χ w=>ag rfl) ?_)
 (refine bF 0 (fun _=>rfl) rfl (fun χ w hw=>ac _ _ rfl (show St _ _ w _ from hw)) ?_)
 (refine oP (fun χ w=>ad rfl) ?_)
 refine aO 0 rfl (by kernel_rfl) (fun _=>rfl) (fun x=>.tuple #[.bool x.v,.int .i64 x.e]) (fun χ w hw=>aw rfl ae ?_) ?_
 ·have hS:St w0 bs w (⟨b,bA pa pc pr c (some ⟨bt,0,none⟩) pw (some ⟨bq,0,none⟩) (some ⟨bl,0,none⟩),70,true⟩::⟨bq,bD c.qt,163,true⟩::⟨bl,bH K.mz,109,true⟩:: (Ea++(Ec++(Er++(Et++(Ew++H1)))))):=hw
  exact Bu (H2:=⟨b,bA pa pc pr c (some ⟨bt,0,none⟩) pw (some ⟨bq,0,none⟩) (some ⟨bl,0,none⟩),70,true⟩::⟨bq,bD c.qt,163,true⟩::⟨bl,bH K.mz,109,true⟩:: (Er++(Et++(Ew++H1)))) (show St w0 bs w (Ea++(Ec++(⟨b,bA pa pc pr c (some ⟨bt,0,none⟩) pw (some ⟨bq,0,none⟩) (some ⟨bl,0,none⟩),70,true⟩::⟨bq,bD c.qt,163,true⟩::⟨bl,bH K.mz,109,true⟩:: (Er++(Et++(Ew++H1)))))) from hS.p) hA hC hz hk i hi h32 (fun M' E' w' v e h1 h2 h3 h4 h5 hS=>⟨_,rfl,⟨{ C with M:=M' },E',v,e⟩,rfl,⟨M',rfl,h1,h2,h3,h4⟩,h5,(show St w0 bs w' (⟨b,bA pa pc pr c (some ⟨bt,0,none⟩) pw (some ⟨bq,0,none⟩) (some ⟨bl,0,none⟩),70,true⟩::⟨bq,bD c.qt,163,true⟩::⟨bl,bH K.mz,109,true⟩:: (Ea++(E'++(Er++(Et++(Ew++H1)))))) from hS.p)⟩)
 refine eQ 11 (fun _=>rfl) rfl (fun x=>.tuple #[.bool x.v,.int .i64 x.e]) (fun χ w=>ad rfl) ?_
 refine eQ 11 (fun _=>rfl) rfl (fun x=>.bool x.v) (fun χ w=>aB rfl) ?_
 refine eQ 11 (fun _=>rfl) rfl (fun x=>.int .i64 x.e) (fun χ w=>aB rfl) ?_
 refine eQ 11 (fun _=>rfl) rfl (fun x=>.bool x.v) (fun χ w=>aG rfl) ?_
 refine eQ 11 (fun _=>rfl) rfl (fun x=>.int .i64 x.e) (fun χ w=>aG rfl) ?_
 refine aV rfl ?_
 rintro χ w ⟨h1,h2,hS⟩
 simp only[Nat.zero_add,Nat.reduceAdd]
 generalize χ 11=x at h1 h2 hS ⊢
 obtain⟨C2,E2,v,e⟩:=x
 simp only at h1 h2 hS
 clear χ
 go_wp2_with (go_skip)
 exact hR C2 _ _ _ h1 ⟨b,pa,pc,pr,bt,pw,bq,bl,Ea,E2,Er,Et,Ew,rfl,hA,h2,hQ,hTb,hW,hcf,rfl⟩ (by(try simp only[aP]);exact hS.p)
theorem wZ (I:Nat->Ar->Cy->Prop)(n:Nat)(hn:1≤n∧n≤10000)(hO:St w0 bs w H)(hT:RG c p T C K E)[hc:Cut H E H1](hI:I 0 T C)(hpre:∀ k T C,k<n->I k T C->CyPre c.z c.m T C)(hstep:∀ k T C T' C',k<n->I k T C->i9 c.z c.m T C T' C'->I (k+1) T' C')
  (hR:∀ T' C' E' w',I n T' C'->RG c p T' C' K E'->St w0 bs w' (E'++H1)->ab R (.int .i64 0) w'):Calls prog 107 #[.pointer p,.int .i64 n] w R:=by
 have hS:=hO.fr E H1
 clear hO
 obtain⟨b,pa,pc,pr,bt,pw,bq,bl,Ea,Ec,Er,Et,Ew,rfl,hA,hC,hQ,hTb,hW,hcf,rfl⟩:=id hT
 simp only[aP] at hS
 have hn':=HD hn
 have hI':=HD hI
 have hpre':=HD hpre
 have hstep':=HD hstep
 clear hn hI hpre hstep
 go_enter func107,ntmps107
 go_wp2_with (first|(first|go_at_call 32;refine dy hS ?_|go_at_call 38;refine yX hS (by have:=hn'.out;omega) ?_);clear hS;intro w hS;unfold ab)
 have hS0:=hS
 clear hS
 go_loopw [17] (fun u wr=>∃ (k:Nat) (T:Ar) (C:Cy) (Ea Ec:List Ent),k≤n∧u=.int .i64 k∧I k T C∧AA pa T Ea∧gE c.z c.m c.bz pc C Ec∧St w0 bs wr (⟨b,bA pa pc pr c (some ⟨bt,0,none⟩) pw (some ⟨bq,0,none⟩) (some ⟨bl,0,none⟩),70,true⟩::⟨bq,bD c.qt,163,true⟩::⟨bl,bH K.mz,109,true⟩:: (Ea++(Ec++(Er++(Et++(Ew++H1))))))) (fun u _=>n - (intOf u).toNat)
 case atStart=>exact⟨0,T,C,Ea,Ec,Nat.zero_le _,rfl,hI'.out,hA,hC,hS0⟩
 case round=>
  clear hS0 hT hA hC hI'
  obtain⟨k,T,C,Ea,Ec,hk,rfl,hI,hA,hC,hS⟩:=hrel
  by_cases hlt:k<n
  ·have d1:decide (k<n)=true:=decide_eq_true hlt
   have d2:decide ((k:Int)<n)=true:=DT
   have b1:(k:Int)≤10000:=by have:=hn'.out;omega
   have hlt':=HD hlt
   have hI':=HD hI
   clear hk hI
   go_wp2_with (go_skip)
   refine ao [⟨(undef,Ea++Ec),[(16,fun _ x=>∃ T' C' Ea' Ec',x=(undef,Ea'++Ec')∧i9 c.z c.m T C T' C'∧AA pa T' Ea'∧gE c.z c.m c.bz pc C' Ec')]⟩,
    ⟨(undef,[]),[(21,fun _ x=>∃ b,x=(.pointer (some ⟨b,0,none⟩),[⟨b,#[.int .i64 0,.int .u32 0],176,true⟩])),(22,fun y x=>∃ b,y.1=.pointer (some ⟨b,0,none⟩)∧x.2=[⟨b,#[.int .i64 0,.int .u32 0],176,true⟩])]⟩]
    (⟨b,bA pa pc pr c (some ⟨bt,0,none⟩) pw (some ⟨bq,0,none⟩) (some ⟨bl,0,none⟩),70,true⟩::⟨bq,bD c.qt,163,true⟩::⟨bl,bH K.mz,109,true⟩:: (Er++(Et++(Ew++H1)))) ((Ea++Ec)++(⟨b,bA pa pc pr c (some ⟨bt,0,none⟩) pw (some ⟨bq,0,none⟩) (some ⟨bl,0,none⟩),70,true⟩::⟨bq,bD c.qt,163,true⟩::⟨bl,bH K.mz,109,true⟩:: (Er++(Et++(Ew++H1))))) (by simp) (by rw[List.append_assoc];exact hS.p) (by kernel_rfl) (by kernel_rfl) ?_
   iterate 15 first|(refine fV (fun χ w hw=>ad rfl) ?_)|(refine fV (fun χ w hw=>ah rfl) ?_)|(refine fV (fun χ w hw=>ag rfl) ?_)|(refine fV (fun χ w hw=>ac _ _ rfl hw) ?_)
   refine cQ 161 [_] rfl (fun _=>rfl) rfl ae (.int .i64 c.qu) (fun L w hS=>wN hS hQ (fun w' hS=>⟨rfl,(show St w0 bs w' (L++(⟨b,bA pa pc pr c (some ⟨bt,0,none⟩) pw (some ⟨bq,0,none⟩) (some ⟨bl,0,none⟩),70,true⟩::⟨bq,bD c.qt,163,true⟩::⟨bl,bH K.mz,109,true⟩:: (Er++(Et++(Ew++H1))))) from hS.p)⟩)) ?_
   refine cj 0 0 rfl rfl rfl rfl rfl 160 [_,_,_] rfl (fun _=>rfl) ae (fun _=>.tuple #[.agg #[.int .i64 0,.int .u32 0],.bool false,.int .i64 0]) ?_ ?_
   ·intro χ L w _ hS
    have hS:St w0 bs w ((Ea++Ec)++(L++(⟨b,bA pa pc pr c (some ⟨bt,0,none⟩) pw (some ⟨bq,0,none⟩) (some ⟨bl,0,none⟩),70,true⟩::⟨bq,bD c.qt,163,true⟩::⟨bl,bH K.mz,109,true⟩:: (Er++(Et++(Ew++H1)))))):=hS
    rw[List.append_assoc] at hS
    exact yt hS hA hC (hpre'.out k T C hlt'.out hI'.out) hcf.z.1 c.qu (by omega) (fun T' C' Ea' Ec' w' h1 h2 h3 h4=>⟨(undef,Ea'++Ec'),rfl,⟨T',C',Ea',Ec',rfl,h1,h2,h3⟩,by
     show St w0 bs w' ((Ea'++Ec')++(L++_))
     rw[List.append_assoc]
     exact h4⟩)
   iterate 4 first|(refine fV (fun χ w hw=>ad rfl) ?_)|(refine fV (fun χ w hw=>aB rfl) ?_)
   refine ap 1 0 rfl rfl rfl rfl (by kernel_rfl) (fun _=>rfl) (fun x=>x.1) ?_ ?_
   ·intro χ L w _ hS
    exact bE rfl (show St w0 bs w (L++_) from hS) (fun b w' _ hS'=>⟨(_,[_]),rfl,⟨b,rfl⟩,hS'⟩)
   refine ap 1 1 rfl rfl rfl (by kernel_rfl) rfl (fun _=>rfl) (fun _=>undef) ?_ ?_
   ·rintro χ L w ⟨⟨b,hb⟩,_⟩ hS
    have hS:St w0 bs w ((χ 21).2++(L++_)):=hS
    rw[hb] at hS
    have hS:St w0 bs w (⟨b,#[.int .i64 0,.int .u32 0],176,true⟩::(L++_)):=hS
    have hb1:(χ 21).1=.pointer (some ⟨b,0,none⟩):=by rw[hb]
    exact aZ rfl hS hb1 (fun w' hS'=>⟨(undef,[⟨b,#[.int .i64 0,.int .u32 0],176,true⟩]),rfl,⟨b,hb1,rfl⟩,hS'⟩)
   iterate 2 (refine fV (fun χ w hw=>aG rfl) ?_)
   refine bC rfl ?_
   intro χ w hok hS
   obtain⟨⟨T',C',Ea',Ec',hx,h1,h2,h3⟩,_⟩:=hok _ (.head _)
   obtain⟨⟨b5,hb⟩,⟨b5',hb1,hb2⟩,_⟩:=hok _ (.tail _ (.head _))
   rw[hb] at hb1
   obtain⟨⟩:=hb1
   have hS:St w0 bs w (((χ 16).2++((χ 22).2++[]))++(⟨b,bA pa pc pr c (some ⟨bt,0,none⟩) pw (some ⟨bq,0,none⟩) (some ⟨bl,0,none⟩),70,true⟩::⟨bq,bD c.qt,163,true⟩::⟨bl,bH K.mz,109,true⟩:: (Er++(Et++(Ew++H1))))):=hS
   rw[hb2,hx] at hS
   simp only[hb]
   simp only[List.append_assoc,List.cons_append,List.nil_append] at hS
   clear hok hb2 hb hx
   go_wp2_with (go_skip)
   go_roundw
   case rel=>exact⟨k+1,T',C',Ea',Ec',hlt'.out,by go_num,hstep'.out k T C T' C' hlt'.out hI'.out h1,h2,h3,hS.p⟩
   case measure=>simp[intOf];omega
  ·have hkn:k=n:=by omega
   subst hkn
   go_wp2_with (go_skip)
   exact hR T C _ _ hI ⟨b,pa,pc,pr,bt,pw,bq,bl,Ea,Ec,Er,Et,Ew,rfl,hA,hC,hQ,hTb,hW,hcf,rfl⟩ (by(try simp only[aP]);exact hS.p)
end Go.Proofs.YtnbgljbhkeffkaaGreatDoor
