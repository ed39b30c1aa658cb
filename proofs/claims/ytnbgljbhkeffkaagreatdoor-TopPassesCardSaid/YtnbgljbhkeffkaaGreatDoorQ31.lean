/-
  Contracts of what the law TopPasses reaches, part 31: Rgo Rgp Rgq.
-/
import Derived.Test.YtnbgljbhkeffkaaGreatDoorQ29
open Go.Proofs.Tryz
set_option linter.unusedVariables false
set_option linter.unusedSimpArgs false
set_option maxHeartbeats 4000000
set_option maxRecDepth 100000
namespace Go.Mm
open Go Go.RowKit
theorem js {P:Program}{ops:Array Oper}{rest:List Oper}{o:Oper}{a:Act}{w:World}{Q:Exit->Act->World->Prop}{f:Nat}{cap:List Value}{y:Operand}(xs:List Operand){ts:Array TypeId}
  (ho:o.op=.call { callee:=.value y,args:=xs.toArray,argTypes:=ts }) {vs:List Value} [hE:EvL a xs vs] [hy:Ev a y (.func (.func f) #[] cap.toArray)] (he:∀ args w,(callFunc f args).run P w=.ok (.enter f args) w) {a' : Value->Act} [hp:∀ v,Put a o.dst v (a' v)]
  (h:Calls P f (vs++cap).toArray w (fun e w''=>∃ v,e=.returned v∧wpList P ops Q rest (a' v) w''))(hw:Region.wanted o (yielded ops a.tmps)=true:=by kernel_rfl):wpList P ops Q (o::rest) a w:=by
 refine BigFrame.wpList_want hw fun K hK=>?_
 have hr:(execOp a.eval o).run P w=.ok (.enter f (vs++cap).toArray) w:=by
  have hE':=hE.h
  have hy':=hy.h
  simp[execOp,ho,resolve,invoke,Deferred.ofValue,Act.eval,List.map_toArray,hE',he] at hy' ⊢
  simp[hy',resolve,invoke,Deferred.ofValue,hE',he]
 unfold Oper.wp
 rw[hr,Oper.upon_enter]
 refine h.mono fun e w'' ⟨v,h1,h2⟩=>?_
 subst h1
 rw[← (hp v).h] at h2
 exact hK _ _ h2
end Go.Mm
namespace Go.Proofs.YtnbgljbhkeffkaaGreatDoor
open Go.RowKit Go.Mm
variable {R:Ending->World->Prop}{w W:World}{w0:World}{As bs:List Nat}{H H' H1 H2 H3 E E' E1 E2 Ea Eh Er:List Ent}
variable {Ms Ms1 Ms2 Ms3:dF}
variable {c:Cfg}{p:Option Addr}{T:Ar}{C:Cy}{K:Rk}
theorem Ae (hB:Mps W As w0 bs Ms)(hO:St w0 bs w H)(hT:RG c p T C K E)[hc:Cut H E H1](ho:K.o=none)(hbg:C.bg=0)(hcy:C.M.k.2.2.1=0)[hM:MapIn Ms K.me []]
  (hR:∀ w0' bs' w',Mps W As w0' bs' Ms->St w0' bs' w' (E++H1)->ab R (.int .i64 0) w'):Calls prog 146 #[.pointer p] w R:=by
 have hS:=hO.fr E H1
 clear hO
 obtain⟨b,pa,pc,pr,bt,pw,bq,bl,Ea,Ec,Er,Et,Ew,rfl,hA,hC,hQ,hTb,hW,hcf,rfl⟩:=id hT
 simp only[aP] at hS
 have hl:=HD (show Lv K.o 0 from .inl ⟨ho,rfl⟩)
 have hqt:(0:Int)<c.qt:=by have:=hcf.qt;omega
 clear ho
 go_enter func146,ntmps146
 go_wp2_with (go_skip)
 have hJ:(∀ w,Jm W As Ms (⟨b,bA pa pc pr c (some ⟨bt,0,none⟩) pw (some ⟨bq,0,none⟩) (some ⟨bl,0,none⟩),70,true⟩::⟨bq,bD c.qt,163,true⟩::⟨bl,bH K.mz,109,true⟩:: (Ea++(Ec++(Er++(Et++(Ew++H1)))))) w->Jm W As Ms (⟨b,bA pa pc pr c (some ⟨bt,0,none⟩) pw (some ⟨bq,0,none⟩) (some ⟨bl,0,none⟩),70,true⟩::⟨bq,bD c.qt,163,true⟩::⟨bl,bH K.mz,109,true⟩:: (Ea++(Ec++(Er++(Et++(Ew++H1)))))) w)∧∀ s∈([(5,fun _ w=>Jm W As Ms (⟨b,bA pa pc pr c (some ⟨bt,0,none⟩) pw (some ⟨bq,0,none⟩) (some ⟨bl,0,none⟩),70,true⟩::⟨bq,bD c.qt,163,true⟩::⟨bl,bH K.mz,109,true⟩:: (Ea++(Ec++(Er++(Et++(Ew++H1)))))) w),(18,fun _ w=>Jm W As Ms (⟨b,bA pa pc pr c (some ⟨bt,0,none⟩) pw (some ⟨bq,0,none⟩) (some ⟨bl,0,none⟩),70,true⟩::⟨bq,bD c.qt,163,true⟩::⟨bl,bH K.mz,109,true⟩:: (Ea++(Ec++(Er++(Et++(Ew++H1)))))) w)] : lg Unit),∀ χ w,s.2 χ w->Jm W As Ms (⟨b,bA pa pc pr c (some ⟨bt,0,none⟩) pw (some ⟨bq,0,none⟩) (some ⟨bl,0,none⟩),70,true⟩::⟨bq,bD c.qt,163,true⟩::⟨bl,bH K.mz,109,true⟩:: (Ea++(Ec++(Er++(Et++(Ew++H1)))))) w:=⟨fun _ h=>h,fun s hs χ w h=>by
  simp only[List.mem_cons,List.not_mem_nil,or_false] at hs
  rcases hs with rfl|rfl <;> exact h⟩
 refine aj (X:=Unit) (Jm W As Ms (⟨b,bA pa pc pr c (some ⟨bt,0,none⟩) pw (some ⟨bq,0,none⟩) (some ⟨bl,0,none⟩),70,true⟩::⟨bq,bD c.qt,163,true⟩::⟨bl,bH K.mz,109,true⟩:: (Ea++(Ec++(Er++(Et++(Ew++H1))))))) [(5,fun _ w=>Jm W As Ms (⟨b,bA pa pc pr c (some ⟨bt,0,none⟩) pw (some ⟨bq,0,none⟩) (some ⟨bl,0,none⟩),70,true⟩::⟨bq,bD c.qt,163,true⟩::⟨bl,bH K.mz,109,true⟩:: (Ea++(Ec++(Er++(Et++(Ew++H1)))))) w),(18,fun _ w=>Jm W As Ms (⟨b,bA pa pc pr c (some ⟨bt,0,none⟩) pw (some ⟨bq,0,none⟩) (some ⟨bl,0,none⟩),70,true⟩::⟨bq,bD c.qt,163,true⟩::⟨bl,bH K.mz,109,true⟩:: (Ea++(Ec++(Er++(Et++(Ew++H1)))))) w)] ⟨_,_,hB,hS.drawn _⟩ (by kernel_rfl) (by kernel_rfl) ?_
 iterate 5 first|(refine dt _ hJ (fun _=>rfl) rfl (fun χ w hw=>by obtain⟨w0,bs,_,hS⟩:=hw;exact ac _ _ rfl hS) ?_)|(refine oP (fun χ w=>ad rfl) ?_)|(refine oP (fun χ w=>ah rfl) ?_)|(refine oP (fun χ w=>ag rfl) ?_)
 refine aO 0 rfl (by kernel_rfl) (fun _=>rfl) (fun _=>.int .i64 ((0:Nat):Int)) (fun χ w hw=>aw rfl ae ?_) ?_
 ·obtain⟨w0,bs,hB,hS⟩:=hw
  have hS:St w0 bs w ((⟨b,bA pa pc pr c (some ⟨bt,0,none⟩) pw (some ⟨bq,0,none⟩) (some ⟨bl,0,none⟩),70,true⟩::⟨bq,bD c.qt,163,true⟩::⟨bl,bH K.mz,109,true⟩:: (Ea++(Ec++(Er++(Et++Ew)))))++H1):=by
   simp only[bX];exact hS.p
  exact ql 0 hB hS hT hl.out (l:=[]) (.inl rfl) (fun w0' bs' w' hB hS=>⟨_,rfl,(),rfl,w0',bs',hB,by simp only[bX] at hS;exact hS.p⟩)
 iterate 5 first|(refine dt _ hJ (fun _=>rfl) rfl (fun χ w hw=>by obtain⟨w0,bs,_,hS⟩:=hw;exact ac _ _ rfl hS) ?_)|(refine oP (fun χ w=>ad rfl) ?_)|(refine oP (fun χ w=>ah rfl) ?_)|(refine oP (fun χ w=>ag rfl) ?_)
 refine dA 1 201 [_] rfl (fun _=>rfl) rfl ae (.int .i64 0) (fun χ w hw=>by
  obtain⟨w0,bs,hB,hS⟩:=hw
  exact vq hS hC (fun w' hS=>⟨by rw[hbg],w0,bs,hB,hS.p⟩)) ?_
 iterate 5 first|(refine dt _ hJ (fun _=>rfl) rfl (fun χ w hw=>by obtain⟨w0,bs,_,hS⟩:=hw;exact ac _ _ rfl hS) ?_)|(refine oP (fun χ w=>ad rfl) ?_)|(refine oP (fun χ w=>ah rfl) ?_)|(refine oP (fun χ w=>ag rfl) ?_)
 refine dA 1 202 [_] rfl (fun _=>rfl) rfl ae (.int .i64 0) (fun χ w hw=>by
  obtain⟨w0,bs,hB,hS⟩:=hw
  exact vp hS hC (fun w' hS=>⟨by rw[hcy],w0,bs,hB,hS.p⟩)) ?_
 refine aO 1 rfl (by kernel_rfl) (fun _=>rfl) (fun _=>.int .i64 0) (fun χ w hw=>aw rfl ae ?_) ?_
 ·obtain⟨w0,bs,hB,hS⟩:=hw
  have hS:St w0 bs w (⟨bq,bD c.qt,163,true⟩::⟨b,bA pa pc pr c (some ⟨bt,0,none⟩) pw (some ⟨bq,0,none⟩) (some ⟨bl,0,none⟩),70,true⟩::⟨bl,bH K.mz,109,true⟩::(Ea++(Ec++(Er++(Et++(Ew++H1)))))):=hS.p
  exact Aj hS hqt (fun w' hS=>⟨_,rfl,(),rfl,w0,bs,hB,hS.p⟩)
 iterate 1 (refine oP (fun χ w=>aG rfl) ?_)
 refine aV rfl ?_
 rintro χ w ⟨w0,bs,hB,hS⟩
 clear χ
 go_wp2_with (go_skip)
 exact hR _ _ _ hB (by(try simp only[aP]);exact hS.p)
theorem wX (m:Nat)(hO:St w0 bs w H)(hT:RG c p T C K E)[hc:Cut H E H1](hin:fm T m=true)(hrt:ez T m=[])(hlf:Do (some (some T.1))≠0)(hct:nR 0 K.tb≠0)
  (hR:∀ w',St w0 bs w' (E++H1)->ab R (.int .i64 0) w'):Calls prog 147 #[.pointer p,.int .i64 m] w R:=by
 have hS:=hO.fr E H1
 clear hO
 obtain⟨b,pa,pc,pr,bt,pw,bq,bl,Ea,Ec,Er,Et,Ew,rfl,hA,hC,hQ,hTb,hW,hcf,rfl⟩:=id hT
 simp only[aP] at hS
 have hrl:=HD (show(if fm T m then ez T m else [])=([] : List Rf) by rw[if_pos hin,hrt])
 have hmu:=HD (show AO T m=0 by unfold AO;rw[if_pos hin])
 obtain⟨z,hz⟩:∃ z,Do (some (some T.1))=z:=⟨_,rfl⟩
 obtain⟨y,hy⟩:∃ y,nR 0 K.tb=y:=⟨_,rfl⟩
 rw[hz] at hlf
 rw[hy] at hct
 have hz':=HD hz
 have hy':=HD hy
 have d1:(z == 0)=false:=beq_eq_false_iff_ne.2 hlf
 have d2:decide (z=0)=false:=decide_eq_false hlf
 have d3:(y == 0)=false:=beq_eq_false_iff_ne.2 hct
 have d4:decide (y=0)=false:=decide_eq_false hct
 clear hz hy hin hrt hlf hct
 go_enter func147,ntmps147
 go_wp2_with (first|(go_at_call 203;refine od hS hA m 0 hrl.out hmu.out ?_;clear hS;intro vs Er1 w _ hRS hS;have hone2:=hRS.one;have hln:=hRS.len (n:=0) rfl;unfold ab)|go_at_call 204;refine il hS hA ?_;clear hS;intro qh Eh w _ hH hS;unfold ab|go_at_call 205;refine xS hS hH z hz'.out ?_;clear hS;intro w _ hS;unfold ab|go_at_call 206;refine wa hS hTb ?_;rw[hy'.out];clear hS;intro w hS;unfold ab|refine wV (.call { callee:=.builtin .len,args:=#[_],argTypes:=#[_] }) rfl (aA rfl) ?_|refine af rfl hS ?_)
 exact hR _ (by(try simp only[aP]);exact hS.p)
abbrev zD:Array Value:=#[.int .i64 0,.int .i64 0,.int .u32 0]
abbrev BW (b15 b9 b25:Nat)(p:Option Addr)(oi og:Int)(tg:ByteArray)(H:List Ent):List Ent:=⟨b15,vD oi og,99,true⟩::⟨b9,#[.string tg],9,true⟩::⟨b25,#[.pointer p],47,true⟩::H
structure LY where
 M:Mk
 E:List Ent
instance :Inhabited LY:=⟨⟨default,[]⟩⟩
structure O1X where
 E:List Ent
instance :Inhabited O1X:=⟨⟨[]⟩⟩
section
variable {oi og i g hs hg:Int}{tg:ByteArray}{b15 b9 b25:Nat}
theorem tZ (hB:Mps W As w0 bs Ms)(hO:St w0 bs w (BW b15 b9 b25 p oi og tg (E++H)))(hT:RG c p T C K E)(ho:K.o=none)(hoi:0≤oi∧oi<64)(hog:1≤og∧og≤4294967295)(htg:TagW tg)(hhs:0≤hs∧hs<256)(hhg:1≤hg)(hE:jx K.tb=0)(hI:kC K.tb=i)(hG:kD K.tb=g)(hroom:nR 0 K.tb≠0)
  [hM1:MapIn Ms K.mz []] [hu1:MapUp Ms K.mz [] [(.agg (vD oi og),.agg (vK tg))] Ms1] [hM2:MapIn Ms1 K.me []] [hu2:MapUp Ms1 K.me [] [(vI i,.agg (fd i g hs hg))] Ms2]
  (hR:∀ E' w0' bs' w',RG c p T C { K with tb:=ir K.tb,o:=some (bJ oi og 1 0 tg) } E'->Mps W As w0' bs' Ms2->St w0' bs' w' (BW b15 b9 b25 p oi og tg (E'++H))->ab R (.tuple #[.agg (vD i g),.int .i64 0]) w'):Calls prog 151 #[.agg #[.int .i64 hs,.int .u32 hg],.pointer (some ⟨b25,0,none⟩),.pointer (some ⟨b15,0,none⟩),.pointer (some ⟨b9,0,none⟩)] w R:=by
 have hS:=hO
 clear hO
 obtain⟨b,pa,pc,pr,bt,pw,bq,bl,Ea,Ec,Er,Et,Ew,rfl,hA,hC,hQ,hTb,hW,hcf,rfl⟩:=id hT
 simp only[aP] at hS
 rw[ho] at hTb
 have hoi':=HD hoi
 have hog':=HD hog
 have hhs':=HD hhs
 have hhg':=HD hhg
 have hE':=HD hE
 have hI':=HD hI
 have hG':=HD hG
 have hr':=HD hroom
 clear hoi hog hhs hhg hE hI hG hroom ho
 go_enter func151,ntmps151
 go_wp2_with (first|refine am 176 rfl hS ?_;clear hS;intro b4 w _ hS|refine aq 259 rfl hS ?_;clear hS;intro b5 w _ hS)
 refine aj (X:=Unit) (Jm W As Ms (⟨b5,zD,259,true⟩::⟨b4,#[.int .i64 hs,.int .u32 hg],176,true⟩::⟨b15,vD oi og,99,true⟩::⟨b9,#[.string tg],9,true⟩::⟨b25,#[.pointer (some ⟨b,0,none⟩)],47,true⟩::⟨b,bA pa pc pr c (some ⟨bt,0,none⟩) pw (some ⟨bq,0,none⟩) (some ⟨bl,0,none⟩),70,true⟩::⟨bq,bD c.qt,163,true⟩::⟨bl,bH K.mz,109,true⟩:: (Ea++(Ec++(Er++(Et++(Ew++H))))))) [(6,fun _ w=>Jm W As Ms1 (⟨b5,zD,259,true⟩::⟨b4,#[.int .i64 hs,.int .u32 hg],176,true⟩::⟨b15,vD oi og,99,true⟩::⟨b9,#[.string tg],9,true⟩::⟨b25,#[.pointer (some ⟨b,0,none⟩)],47,true⟩::⟨b,bA pa pc pr c (some ⟨bt,0,none⟩) pw (some ⟨bq,0,none⟩) (some ⟨bl,0,none⟩),70,true⟩::⟨bq,bD c.qt,163,true⟩::⟨bl,bH K.mz,109,true⟩:: (Ea++(Ec++(Er++(Et++(Ew++H)))))) w)] ⟨_,_,hB,hS.drawn _⟩ (by kernel_rfl) (by kernel_rfl) ?_
 iterate 6 first|(refine bF 0 (fun _=>rfl) rfl (fun χ w hw=>by obtain⟨w0,bs,_,hS⟩:=hw;exact ac _ _ rfl hS) ?_)|(refine bF 0 (fun _=>rfl) rfl (fun χ w hw=>by obtain⟨w0,bs,_,hS⟩:=hw;exact ai _ _ rfl hS) ?_)|(refine oP (fun χ w=>ah rfl) ?_)|(refine oP (fun χ w=>ag rfl) ?_)
 refine aO 0 rfl (by kernel_rfl) (fun _=>rfl) (fun _=>.int .i64 0) (fun χ w hw=>aw rfl ae ?_) ?_
 ·obtain⟨w0,bs,hB,hS⟩:=hw
  exact rZ (m:=K.mz) hB hS hoi'.out hog'.out htg (fun w0' bs' w' hB hS=>⟨_,rfl,(),rfl,w0',bs',hB,hS⟩)
 refine aV rfl ?_
 rintro χ w ⟨w0,bs,hB,hS⟩
 clear χ
 go_wp2_with (go_skip)
 refine aj (X:=O1X) (Jm W As Ms1 (⟨b5,zD,259,true⟩::⟨b4,#[.int .i64 hs,.int .u32 hg],176,true⟩::⟨b15,vD oi og,99,true⟩::⟨b9,#[.string tg],9,true⟩::⟨b25,#[.pointer (some ⟨b,0,none⟩)],47,true⟩::⟨b,bA pa pc pr c (some ⟨bt,0,none⟩) pw (some ⟨bq,0,none⟩) (some ⟨bl,0,none⟩),70,true⟩::⟨bq,bD c.qt,163,true⟩::⟨bl,bH K.mz,109,true⟩:: (Ea++(Ec++(Er++(Et++(Ew++H))))))) [(7,fun χ w=>fj (some ⟨bt,0,none⟩) (ir K.tb) K.me (some (bJ oi og 1 0 tg)) (χ 7).E∧Jm W As Ms2 (⟨b5,zD,259,true⟩::⟨b4,#[.int .i64 hs,.int .u32 hg],176,true⟩::⟨b15,vD oi og,99,true⟩::⟨b9,#[.string tg],9,true⟩::⟨b25,#[.pointer (some ⟨b,0,none⟩)],47,true⟩::⟨b,bA pa pc pr c (some ⟨bt,0,none⟩) pw (some ⟨bq,0,none⟩) (some ⟨bl,0,none⟩),70,true⟩::⟨bq,bD c.qt,163,true⟩::⟨bl,bH K.mz,109,true⟩:: (Ea++(Ec++(Er++((χ 7).E++(Ew++H)))))) w),(10,fun χ w=>fj (some ⟨bt,0,none⟩) (ir K.tb) K.me (some (bJ oi og 1 0 tg)) (χ 7).E∧Jm W As Ms2 (⟨b5,vD i g,259,true⟩::⟨b4,#[.int .i64 hs,.int .u32 hg],176,true⟩::⟨b15,vD oi og,99,true⟩::⟨b9,#[.string tg],9,true⟩::⟨b25,#[.pointer (some ⟨b,0,none⟩)],47,true⟩::⟨b,bA pa pc pr c (some ⟨bt,0,none⟩) pw (some ⟨bq,0,none⟩) (some ⟨bl,0,none⟩),70,true⟩::⟨bq,bD c.qt,163,true⟩::⟨bl,bH K.mz,109,true⟩:: (Ea++(Ec++(Er++((χ 7).E++(Ew++H)))))) w)] ⟨_,_,hB,hS.drawn _⟩ (by kernel_rfl) (by kernel_rfl) ?_
 iterate 7 first|(refine bF 0 (fun _=>rfl) rfl (fun χ w hw=>by obtain⟨w0,bs,_,hS⟩:=hw;exact ac _ _ rfl hS) ?_)|(refine bF 0 (fun _=>rfl) rfl (fun χ w hw=>by obtain⟨w0,bs,_,hS⟩:=hw;exact ai _ _ rfl hS) ?_)|(refine oP (fun χ w=>ah rfl) ?_)|(refine oP (fun χ w=>ag rfl) ?_)
 refine aO 0 rfl (by kernel_rfl) (fun _=>rfl) (fun _=>.tuple #[.agg (vD i g),.int .i64 0]) (fun χ w hw=>aw rfl ae ?_) ?_
 ·obtain⟨w0,bs,hB,hS⟩:=hw
  exact wb hB hS hTb hoi'.out hog'.out htg hhs'.out hhg'.out hE'.out hI'.out hG'.out hr'.out (fun E2 w0' bs' w' h1 hB hS=>⟨_,rfl,⟨E2⟩,rfl,h1,w0',bs',hB,(show St w0' bs' w' (⟨b5,zD,259,true⟩::⟨b4,#[.int .i64 hs,.int .u32 hg],176,true⟩::⟨b15,vD oi og,99,true⟩::⟨b9,#[.string tg],9,true⟩::⟨b25,#[.pointer (some ⟨b,0,none⟩)],47,true⟩::⟨b,bA pa pc pr c (some ⟨bt,0,none⟩) pw (some ⟨bq,0,none⟩) (some ⟨bl,0,none⟩),70,true⟩::⟨bq,bD c.qt,163,true⟩::⟨bl,bH K.mz,109,true⟩:: (Ea++(Ec++(Er++(E2++(Ew++H)))))) from hS.p)⟩)
 iterate 2 (refine oP (fun χ w=>aB rfl) ?_)
 refine aO 1 rfl (by kernel_rfl) (fun _=>rfl) (fun _=>undef) (fun χ w hw=>?_) ?_
 ·obtain⟨h1,w0,bs,hB,hS⟩:=hw
  exact aK _ _ _ rfl (show St w0 bs w (⟨b5,zD,259,true⟩::⟨b4,#[.int .i64 hs,.int .u32 hg],176,true⟩::⟨b15,vD oi og,99,true⟩::⟨b9,#[.string tg],9,true⟩::⟨b25,#[.pointer (some ⟨b,0,none⟩)],47,true⟩::⟨b,bA pa pc pr c (some ⟨bt,0,none⟩) pw (some ⟨bq,0,none⟩) (some ⟨bl,0,none⟩),70,true⟩::⟨bq,bD c.qt,163,true⟩::⟨bl,bH K.mz,109,true⟩:: (Ea++(Ec++(Er++((χ 7).E++(Ew++H)))))) from hS) (fun w' hS'=>⟨default,rfl,h1,w0,bs,hB,hS'⟩)
 refine oP (fun χ w=>aG rfl) ?_
 refine aV rfl ?_
 rintro χ w ⟨h1,w0,bs,hB,hS⟩
 simp only[Nat.zero_add,Nat.reduceAdd]
 generalize χ 7=x at h1 hS ⊢
 obtain⟨E2⟩:=x
 simp only at h1 hS
 clear χ
 go_wp2_with (go_skip)
 refine bodyPost_ret (aJ rfl hS) rfl ?_
 exact hR _ _ _ _ ⟨b,pa,pc,pr,bt,pw,bq,bl,Ea,Ec,Er,E2,Ew,rfl,hA,hC,hQ,h1,hW,hcf,rfl⟩ hB (by(try simp only[aP]);exact hS.p)
theorem rF (m:Nat)(j:Nat)(hB:Mps W As w0 bs Ms)(hO:St w0 bs w (BW b15 b9 b25 p oi og tg (E++H)))(hT:RG c p T C K E)(hin:fm T m=true)(hlt:(ez T m).length<32)(hme:i8 (some (some T.1)) 0 true=0)(hmr:kX (some (some T.1)) 0 true=((j:Int),hg))(hj:j<c.z)
  (ho:K.o=none) (hoi:0≤oi∧oi<64) (hog:1≤og∧og≤4294967295) (htg:TagW tg) (hhg:1≤hg) (hi:0≤i∧i<256) (hE:jx K.tb=0) (hI:kC K.tb=i) (hG:kD K.tb=g) (hroom:nR 0 K.tb≠0)
  {Ms4 Ms5 Ms6 Ms7:dF} [hM1:MapIn Ms K.mz []] [hu1:MapUp Ms K.mz [] [(.agg (vD oi og),.agg (vK tg))] Ms1] [hM2:MapIn Ms1 K.me []] [hu2:MapUp Ms1 K.me [] [(vI i,.agg (fd i g j hg))] Ms2]
  [r1:MapIn Ms2 K.mb []] [r2:MapIn Ms2 K.mc []] [r3:MapIn Ms2 K.mo []] [hz1:MapUp Ms2 K.mo [] [(vI i,vR 0 0)] Ms3] [hz2:MapUp Ms3 K.mo [(vI i,vR 0 0)] [(vI i,vR j hg)] Ms4] [hz3:MapUp Ms4 K.mb [] [(vR j hg,vI 0)] Ms5] [hz4:MapUp Ms5 K.mb [(vR j hg,vI 0)] [(vR j hg,vI i)] Ms6] [h4:MapIn Ms6 K.mc []] [hz5:MapUp Ms6 K.mc [] [(vI i,vI 1)] Ms7]
  (hR:∀ L' E' w0' bs' w',Up C.M.L L'->RG c p (fg T m 0 true) { C with M:={ C.M with L:=L' } } { K with tb:=ir K.tb,o:=some (bJ oi og 1 0 tg) } E'->Mps W As w0' bs' Ms7->St w0' bs' w' (BW b15 b9 b25 p oi og tg (E'++H))->ab R (.tuple #[.agg (vD i g),.int .i64 0]) w'):Calls prog 150 #[.pointer p,.int .i64 m,.func (.func 151) #[] #[.pointer (some ⟨b25,0,none⟩),.pointer (some ⟨b15,0,none⟩),.pointer (some ⟨b9,0,none⟩)]] w R:=by
 have hS:=hO
 clear hO
 obtain⟨b,pa,pc,pr,bt,pw,bq,bl,Ea,Ec,Er,Et,Ew,rfl,hA,hC,hQ,hTb,hW,hcf,rfl⟩:=id hT
 obtain⟨bcy,pm,ps,Em,Es,rfl,hM,hP,rfl⟩:=id hC
 obtain⟨qm,rfl⟩:=hM.isp
 simp only[aP] at hS
 have hj2:0≤(j:Int)∧(j:Int)<256:=by have:=hcf.z;omega
 have hme':=HD hme
 have hin':=HD hin
 have hj':=HD hj
 have hhg':=HD hhg
 have hi':=HD hi
 clear hme hin hj hhg hi
 go_enter func150,ntmps150
 go_wp2_with (first|refine aq (o:=⟨some 6,_,_,_,_,_⟩) _ rfl hS ?_;clear hS;intro b6 w _ hS|refine aq (o:=⟨some 8,_,_,_,_,_⟩) _ rfl hS ?_;clear hS;intro b8 w _ hS|go_at_call 72;refine ky hS hA m 0 true hin'.out (by rfl) hlt hme'.out (↑j,hg) rfl hmr ?_;clear hS;intro Ea' w hA' hS;unfold ab|refine af rfl hS ?_|refine ak rfl hS ?_;clear hS;intro w hS)
 refine aj (X:=LY) (fun w=>St w0 bs w (⟨b8,#[.int .i64 j,.int .u32 hg],176,true⟩::⟨b6,zD,259,true⟩::⟨b15,vD oi og,99,true⟩::⟨b9,#[.string tg],9,true⟩::⟨b25,#[.pointer (some ⟨b,0,none⟩)],47,true⟩::⟨b,bA pa (some ⟨bcy,0,none⟩) pr c (some ⟨bt,0,none⟩) pw (some ⟨bq,0,none⟩) (some ⟨bl,0,none⟩),70,true⟩::⟨bq,bD c.qt,163,true⟩::⟨bl,bH K.mz,109,true⟩::(Ea'++(⟨bcy,du (some ⟨qm,0,none⟩) ps c.z c.m C.at' C.bg C.asked,130,true⟩::(Em++(Es++(Er++(Et++(Ew++H))))))))) [(7,fun χ w=>Up C.M.L (χ 7).M.L∧MA c.z c.m c.bz (some ⟨qm,0,none⟩) { C.M with L:=(χ 7).M.L } (χ 7).E∧St w0 bs w (⟨b8,#[.int .i64 j,.int .u32 hg],176,true⟩::⟨b6,zD,259,true⟩::⟨b15,vD oi og,99,true⟩::⟨b9,#[.string tg],9,true⟩::⟨b25,#[.pointer (some ⟨b,0,none⟩)],47,true⟩::⟨b,bA pa (some ⟨bcy,0,none⟩) pr c (some ⟨bt,0,none⟩) pw (some ⟨bq,0,none⟩) (some ⟨bl,0,none⟩),70,true⟩::⟨bq,bD c.qt,163,true⟩::⟨bl,bH K.mz,109,true⟩::(Ea'++(⟨bcy,du (some ⟨qm,0,none⟩) ps c.z c.m C.at' C.bg C.asked,130,true⟩::((χ 7).E++(Es++(Er++(Et++(Ew++H)))))))))] (show St w0 bs _ (⟨b8,#[.int .i64 j,.int .u32 hg],176,true⟩::⟨b6,zD,259,true⟩::⟨b15,vD oi og,99,true⟩::⟨b9,#[.string tg],9,true⟩::⟨b25,#[.pointer (some ⟨b,0,none⟩)],47,true⟩::⟨b,bA pa (some ⟨bcy,0,none⟩) pr c (some ⟨bt,0,none⟩) pw (some ⟨bq,0,none⟩) (some ⟨bl,0,none⟩),70,true⟩::⟨bq,bD c.qt,163,true⟩::⟨bl,bH K.mz,109,true⟩::(Ea'++(⟨bcy,du (some ⟨qm,0,none⟩) ps c.z c.m C.at' C.bg C.asked,130,true⟩::(Em++(Es++(Er++(Et++(Ew++H)))))))) from(hS.drawn _).p) (by kernel_rfl) (by kernel_rfl) ?_
 iterate 5 first|(refine bF 0 (fun _=>rfl) rfl (fun χ w hw=>ac _ _ rfl (show St _ _ w _ from hw)) ?_)|(refine oP (fun χ w=>ad rfl) ?_)|(refine oP (fun χ w=>ag rfl) ?_)|(refine oP (fun χ w=>ah rfl) ?_)
 refine dA 0 73 [_] rfl (fun _=>rfl) rfl ae (.pointer (some ⟨qm,0,none⟩)) (fun χ w hw=>by
  have hS:St w0 bs w (⟨b8,#[.int .i64 j,.int .u32 hg],176,true⟩::⟨b6,zD,259,true⟩::⟨b15,vD oi og,99,true⟩::⟨b9,#[.string tg],9,true⟩::⟨b25,#[.pointer (some ⟨b,0,none⟩)],47,true⟩::⟨b,bA pa (some ⟨bcy,0,none⟩) pr c (some ⟨bt,0,none⟩) pw (some ⟨bq,0,none⟩) (some ⟨bl,0,none⟩),70,true⟩::⟨bq,bD c.qt,163,true⟩::⟨bl,bH K.mz,109,true⟩::(Ea'++(⟨bcy,du (some ⟨qm,0,none⟩) ps c.z c.m C.at' C.bg C.asked,130,true⟩::(Em++(Es++(Er++(Et++(Ew++H)))))))):=hw
  exact iM (qm:=qm) (ps:=ps) (z:=c.z) (m:=c.m) (a:=C.at') (bg:=C.bg) (q:=C.asked) hS (fun w' hS=>⟨rfl,hS⟩)) ?_
 iterate 1 (refine bF 0 (fun _=>rfl) rfl (fun χ w hw=>ai _ _ rfl (show St _ _ w _ from hw)) ?_)
 refine aO 0 rfl (by kernel_rfl) (fun _=>rfl) (fun _=>.int .i64 0) (fun χ w hw=>aw rfl ae ?_) ?_
 ·have hS:St w0 bs w (⟨b8,#[.int .i64 j,.int .u32 hg],176,true⟩::⟨b6,zD,259,true⟩::⟨b15,vD oi og,99,true⟩::⟨b9,#[.string tg],9,true⟩::⟨b25,#[.pointer (some ⟨b,0,none⟩)],47,true⟩::⟨b,bA pa (some ⟨bcy,0,none⟩) pr c (some ⟨bt,0,none⟩) pw (some ⟨bq,0,none⟩) (some ⟨bl,0,none⟩),70,true⟩::⟨bq,bD c.qt,163,true⟩::⟨bl,bH K.mz,109,true⟩::(Ea'++(⟨bcy,du (some ⟨qm,0,none⟩) ps c.z c.m C.at' C.bg C.asked,130,true⟩::(Em++(Es++(Er++(Et++(Ew++H)))))))):=hw
  exact qC hS hM j hj'.out hg hhg'.out (fun L' Em2 w' h1 h2 hS=>⟨_,rfl,⟨{ C.M with L:=L' },Em2⟩,rfl,h1,h2,(show St w0 bs w' (⟨b8,#[.int .i64 j,.int .u32 hg],176,true⟩::⟨b6,zD,259,true⟩::⟨b15,vD oi og,99,true⟩::⟨b9,#[.string tg],9,true⟩::⟨b25,#[.pointer (some ⟨b,0,none⟩)],47,true⟩::⟨b,bA pa (some ⟨bcy,0,none⟩) pr c (some ⟨bt,0,none⟩) pw (some ⟨bq,0,none⟩) (some ⟨bl,0,none⟩),70,true⟩::⟨bq,bD c.qt,163,true⟩::⟨bl,bH K.mz,109,true⟩::(Ea'++(⟨bcy,du (some ⟨qm,0,none⟩) ps c.z c.m C.at' C.bg C.asked,130,true⟩::(Em2++(Es++(Er++(Et++(Ew++H)))))))) from hS.p)⟩)
 refine aV rfl ?_
 rintro χ w ⟨hup,h2,hS⟩
 simp only[Nat.zero_add,Nat.reduceAdd]
 generalize χ 7=x at hup h2 hS ⊢
 obtain⟨M2,Em2⟩:=x
 simp only at hup h2 hS
 clear χ
 obtain⟨E1,hE1⟩:∃ E1,E1=(⟨b,bA pa (some ⟨bcy,0,none⟩) pr c (some ⟨bt,0,none⟩) pw (some ⟨bq,0,none⟩) (some ⟨bl,0,none⟩),70,true⟩::⟨bq,bD c.qt,163,true⟩::⟨bl,bH K.mz,109,true⟩::(Ea'++((⟨bcy,du (some ⟨qm,0,none⟩) ps c.z c.m C.at' C.bg C.asked,130,true⟩::(Em2++Es))++(Er++(Et++Ew)))):List Ent):=⟨_,rfl⟩
 have hT1:RG c (some ⟨b,0,none⟩) (fg T m 0 true) { C with M:={ C.M with L:=M2.L } } K E1:=⟨b,pa,some ⟨bcy,0,none⟩,pr,bt,pw,bq,bl,Ea',_,Er,Et,Ew,rfl,hA',⟨bcy,some ⟨qm,0,none⟩,ps,Em2,Es,rfl,h2,hP,rfl⟩,hQ,hTb,hW,hcf,hE1⟩
 replace hS:St w0 bs w (⟨b8,#[.int .i64 j,.int .u32 hg],176,true⟩::⟨b6,zD,259,true⟩::BW b15 b9 b25 (some ⟨b,0,none⟩) oi og tg (E1++H)):=by
  rw[hE1]
  simp only[bX]
  exact hS.p
 clear hE1 hT hC hA hA' hM hP h2 hQ hTb hW
 go_wp2_with (first|refine aq (o:=⟨some 10,_,_,_,_,_⟩) _ rfl hS ?_;clear hS;intro b10 w _ hS|refine aF (o:=⟨some 36,_,_,_,_,_⟩) (.call _) rfl ?_;refine js (f:=151) (cap:=[.pointer (some ⟨b25,0,none⟩),.pointer (some ⟨b15,0,none⟩),.pointer (some ⟨b9,0,none⟩)]) [_] rfl ae ?_;refine tZ (Ms1:=Ms1) (Ms2:=Ms2) (H:=⟨b8,#[.int .i64 j,.int .u32 hg],176,true⟩::⟨b6,zD,259,true⟩::H) hB hS.p hT1 ho hoi hog htg hj2 hhg'.out hE hI hG hroom ?_;clear hB hS;intro E2 w0 bs w hT2 hB hS;refine⟨_,rfl,?_⟩|refine au rfl hS ?_|refine ak rfl hS ?_;clear hS;intro w hS)
 obtain⟨b',pa2,pc2,pr2,bt2,pw2,bq2,bl2,Ea2,Ec2,Er2,Et2,Ew2,hbb,hA2,hC2,hQ2,hTb2,hW2,hcf2,rfl⟩:=id hT2
 obtain rfl:b=b':=by simpa using hbb
 clear hbb
 simp only[bX] at hS
 have hJ:(∀ w,Jm W As Ms2 (⟨b10,vD i g,259,true⟩::⟨b8,#[.int .i64 j,.int .u32 hg],176,true⟩::⟨b6,zD,259,true⟩::⟨b15,vD oi og,99,true⟩::⟨b9,#[.string tg],9,true⟩::⟨b25,#[.pointer (some ⟨b,0,none⟩)],47,true⟩::⟨b,bA pa2 pc2 pr2 c (some ⟨bt2,0,none⟩) pw2 (some ⟨bq2,0,none⟩) (some ⟨bl2,0,none⟩),70,true⟩::⟨bq2,bD c.qt,163,true⟩::⟨bl2,bH K.mz,109,true⟩::(Ea2++(Ec2++(Er2++(Et2++(Ew2++H)))))) w->∃ w0 bs y,St w0 bs w (⟨b10,vD i g,259,true⟩::⟨b8,#[.int .i64 j,.int .u32 hg],176,true⟩::⟨b6,y,259,true⟩::⟨b15,vD oi og,99,true⟩::⟨b9,#[.string tg],9,true⟩::⟨b25,#[.pointer (some ⟨b,0,none⟩)],47,true⟩::⟨b,bA pa2 pc2 pr2 c (some ⟨bt2,0,none⟩) pw2 (some ⟨bq2,0,none⟩) (some ⟨bl2,0,none⟩),70,true⟩::⟨bq2,bD c.qt,163,true⟩::⟨bl2,bH K.mz,109,true⟩::(Ea2++(Ec2++(Er2++(Et2++(Ew2++H)))))))∧∀ s∈([(9,fun _ w=>Jm W As Ms7 (⟨b10,vD i g,259,true⟩::⟨b8,#[.int .i64 j,.int .u32 hg],176,true⟩::⟨b6,zD,259,true⟩::⟨b15,vD oi og,99,true⟩::⟨b9,#[.string tg],9,true⟩::⟨b25,#[.pointer (some ⟨b,0,none⟩)],47,true⟩::⟨b,bA pa2 pc2 pr2 c (some ⟨bt2,0,none⟩) pw2 (some ⟨bq2,0,none⟩) (some ⟨bl2,0,none⟩),70,true⟩::⟨bq2,bD c.qt,163,true⟩::⟨bl2,bH K.mz,109,true⟩::(Ea2++(Ec2++(Er2++(Et2++(Ew2++H)))))) w),(10,fun _ w=>Jm W As Ms7 (⟨b10,vD i g,259,true⟩::⟨b8,#[.int .i64 j,.int .u32 hg],176,true⟩::⟨b6,vD i g,259,true⟩::⟨b15,vD oi og,99,true⟩::⟨b9,#[.string tg],9,true⟩::⟨b25,#[.pointer (some ⟨b,0,none⟩)],47,true⟩::⟨b,bA pa2 pc2 pr2 c (some ⟨bt2,0,none⟩) pw2 (some ⟨bq2,0,none⟩) (some ⟨bl2,0,none⟩),70,true⟩::⟨bq2,bD c.qt,163,true⟩::⟨bl2,bH K.mz,109,true⟩::(Ea2++(Ec2++(Er2++(Et2++(Ew2++H)))))) w)] : lg Unit),∀ χ w,s.2 χ w->∃ w0 bs y,St w0 bs w (⟨b10,vD i g,259,true⟩::⟨b8,#[.int .i64 j,.int .u32 hg],176,true⟩::⟨b6,y,259,true⟩::⟨b15,vD oi og,99,true⟩::⟨b9,#[.string tg],9,true⟩::⟨b25,#[.pointer (some ⟨b,0,none⟩)],47,true⟩::⟨b,bA pa2 pc2 pr2 c (some ⟨bt2,0,none⟩) pw2 (some ⟨bq2,0,none⟩) (some ⟨bl2,0,none⟩),70,true⟩::⟨bq2,bD c.qt,163,true⟩::⟨bl2,bH K.mz,109,true⟩::(Ea2++(Ec2++(Er2++(Et2++(Ew2++H)))))):=⟨fun w ⟨w0,bs,_,h⟩=>⟨w0,bs,_,h⟩,fun s hs χ w h=>by
  simp only[List.mem_cons,List.not_mem_nil,or_false] at hs
  rcases hs with rfl|rfl <;> exact(let ⟨w0,bs,_,h⟩:=h;⟨w0,bs,_,h⟩)⟩
 refine aj (X:=Unit) (Jm W As Ms2 (⟨b10,vD i g,259,true⟩::⟨b8,#[.int .i64 j,.int .u32 hg],176,true⟩::⟨b6,zD,259,true⟩::⟨b15,vD oi og,99,true⟩::⟨b9,#[.string tg],9,true⟩::⟨b25,#[.pointer (some ⟨b,0,none⟩)],47,true⟩::⟨b,bA pa2 pc2 pr2 c (some ⟨bt2,0,none⟩) pw2 (some ⟨bq2,0,none⟩) (some ⟨bl2,0,none⟩),70,true⟩::⟨bq2,bD c.qt,163,true⟩::⟨bl2,bH K.mz,109,true⟩::(Ea2++(Ec2++(Er2++(Et2++(Ew2++H))))))) [(9,fun _ w=>Jm W As Ms7 (⟨b10,vD i g,259,true⟩::⟨b8,#[.int .i64 j,.int .u32 hg],176,true⟩::⟨b6,zD,259,true⟩::⟨b15,vD oi og,99,true⟩::⟨b9,#[.string tg],9,true⟩::⟨b25,#[.pointer (some ⟨b,0,none⟩)],47,true⟩::⟨b,bA pa2 pc2 pr2 c (some ⟨bt2,0,none⟩) pw2 (some ⟨bq2,0,none⟩) (some ⟨bl2,0,none⟩),70,true⟩::⟨bq2,bD c.qt,163,true⟩::⟨bl2,bH K.mz,109,true⟩::(Ea2++(Ec2++(Er2++(Et2++(Ew2++H)))))) w),(10,fun _ w=>Jm W As Ms7 (⟨b10,vD i g,259,true⟩::⟨b8,#[.int .i64 j,.int .u32 hg],176,true⟩::⟨b6,vD i g,259,true⟩::⟨b15,vD oi og,99,true⟩::⟨b9,#[.string tg],9,true⟩::⟨b25,#[.pointer (some ⟨b,0,none⟩)],47,true⟩::⟨b,bA pa2 pc2 pr2 c (some ⟨bt2,0,none⟩) pw2 (some ⟨bq2,0,none⟩) (some ⟨bl2,0,none⟩),70,true⟩::⟨bq2,bD c.qt,163,true⟩::⟨bl2,bH K.mz,109,true⟩::(Ea2++(Ec2++(Er2++(Et2++(Ew2++H)))))) w)] ⟨_,_,hB,(show St w0 bs _ (⟨b10,vD i g,259,true⟩::⟨b8,#[.int .i64 j,.int .u32 hg],176,true⟩::⟨b6,zD,259,true⟩::⟨b15,vD oi og,99,true⟩::⟨b9,#[.string tg],9,true⟩::⟨b25,#[.pointer (some ⟨b,0,none⟩)],47,true⟩::⟨b,bA pa2 pc2 pr2 c (some ⟨bt2,0,none⟩) pw2 (some ⟨bq2,0,none⟩) (some ⟨bl2,0,none⟩),70,true⟩::⟨bq2,bD c.qt,163,true⟩::⟨bl2,bH K.mz,109,true⟩::(Ea2++(Ec2++(Er2++(Et2++(Ew2++H)))))) from(hS.drawn _).p)⟩ (by kernel_rfl) (by kernel_rfl) ?_
 iterate 9 first|(refine dt _ hJ (fun _=>rfl) rfl (fun χ w hw=>by obtain⟨w0,bs,_,hS⟩:=hw;exact ac _ _ rfl hS) ?_)|(refine dt _ hJ (fun _=>rfl) rfl (fun χ w hw=>by obtain⟨w0,bs,_,hS⟩:=hw;exact ai _ _ rfl hS) ?_)|(refine oP (fun χ w=>ad rfl) ?_)|(refine oP (fun χ w=>ah rfl) ?_)|(refine oP (fun χ w=>ag rfl) ?_)
 refine aO 0 rfl (by kernel_rfl) (fun _=>rfl) (fun _=>.int .i64 0) (fun χ w hw=>aw rfl ae ?_) ?_
 ·obtain⟨w0,bs,hB,hS⟩:=hw
  exact mS hB hS hQ2 i j hg hi'.out hj2 hhg'.out (fun w0' bs' w' hB hS=>⟨_,rfl,(),rfl,w0',bs',hB,hS.p⟩)
 refine aO 1 rfl (by kernel_rfl) (fun _=>rfl) (fun _=>undef) (fun χ w hw=>?_) ?_
 ·obtain⟨w0,bs,hB,hS⟩:=hw
  exact aK _ _ _ rfl (show St w0 bs w (⟨b10,vD i g,259,true⟩::⟨b8,#[.int .i64 j,.int .u32 hg],176,true⟩::⟨b6,zD,259,true⟩::⟨b15,vD oi og,99,true⟩::⟨b9,#[.string tg],9,true⟩::⟨b25,#[.pointer (some ⟨b,0,none⟩)],47,true⟩::⟨b,bA pa2 pc2 pr2 c (some ⟨bt2,0,none⟩) pw2 (some ⟨bq2,0,none⟩) (some ⟨bl2,0,none⟩),70,true⟩::⟨bq2,bD c.qt,163,true⟩::⟨bl2,bH K.mz,109,true⟩::(Ea2++(Ec2++(Er2++(Et2++(Ew2++H)))))) from hS) (fun w' hS'=>⟨default,rfl,w0,bs,hB,hS'⟩)
 (refine oP (fun χ w=>aG rfl) ?_)
 refine aV rfl ?_
 rintro χ w ⟨w0,bs,hB,hS⟩
 clear χ
 go_wp2_with (go_skip)
 refine bodyPost_ret (aJ rfl hS) rfl ?_
 exact hR _ _ _ _ _ hup hT2 hB (by(try simp only[aP]);exact hS.p)
theorem wY (m:Nat)(j:Nat){L' : List (Int×Int)}(hB:Mps W As w0 bs Ms)(hO:St w0 bs w H)(hT:RG c p T C K E)[hc:Cut H E H1](hm:m<c.m)(hin:fm T m=true)(hrt:ez T m=[])(hme:i8 (some (some T.1)) 0 true=0)(hmr:kX (some (some T.1)) 0 true=((j:Int),hg))(hj:j<c.z)(hlf:Do (some (some T.1))≠0)
  (hbg:C.bg=0) (hcy:C.M.k.2.2.1=0) (ho:K.o=none) (hoi:0≤oi∧oi<64) (hog:1≤og∧og≤4294967295) (htg:TagW tg) (hhg:1≤hg) (hi:0≤i∧i<256) (hE:jx K.tb=0) (hI:kC K.tb=i) (hG:kD K.tb=g) (hroom:nR 0 K.tb≠0)
  (hL:0<K.L.length) (hLE:jx (some K.L)=0) (hLI:kC (some K.L)=oi) (hLG:kD (some K.L)=og) (hLT:ir (some K.L)=some L')
  {Ms4 Ms5 Ms6 Ms7:dF} [hM0:MapIn Ms K.mf []] [hM1:MapIn Ms K.mz []] [hu1:MapUp Ms K.mz [] [(.agg (vD oi og),.agg (vK tg))] Ms1] [hM2a:MapIn Ms K.me []] [hM2:MapIn Ms1 K.me []] [hu2:MapUp Ms1 K.me [] [(vI i,.agg (fd i g j hg))] Ms2]
  [r1:MapIn Ms2 K.mb []] [r2:MapIn Ms2 K.mc []] [r3:MapIn Ms2 K.mo []] [hz1:MapUp Ms2 K.mo [] [(vI i,vR 0 0)] Ms3] [hz2:MapUp Ms3 K.mo [(vI i,vR 0 0)] [(vI i,vR j hg)] Ms4] [hz3:MapUp Ms4 K.mb [] [(vR j hg,vI 0)] Ms5] [hz4:MapUp Ms5 K.mb [(vR j hg,vI 0)] [(vR j hg,vI i)] Ms6] [h4:MapIn Ms6 K.mc []] [hz5:MapUp Ms6 K.mc [] [(vI i,vI 1)] Ms7]
  (hR:∀ m2 L2 E' w0' bs' w',Up C.M.L L2->RG c p (fg T m 0 true) { C with M:={ C.M with L:=L2 } } { K with tb:=ir K.tb,o:=some (bJ oi og 1 0 tg),L:=L',mf:=m2 } E'->Mps W As w0' bs' ((m2,[(.agg (vD oi og),vI 5)])::Ms7)->St w0' bs' w' (E'++H1)->ab R (.tuple #[.agg (vD i g),.int .i64 0]) w'):Calls prog 102 #[.pointer p,.int .i64 m,.int .i64 1,.int .i64 5,.string tg] w R:=by
 have hS:=hO.fr E H1
 clear hO
 obtain⟨b,pa,pc,pr,bt,pw,bq,bl,Ea,Ec,Er,Et,Ew,rfl,hA,hC,hQ,hTb,hW,hcf,rfl⟩:=id hT
 simp only[aP] at hS
 have hct:=HD hroom
 have ho':=HD ho
 have hm':=HD hm
 have hin':=HD hin
 have hrt':=HD hrt
 have hlf':=HD hlf
 have hoi':=HD hoi
 have hog':=HD hog
 have hLs:=HD (show Cc K.o=0 by rw[ho];rfl)
 clear hroom ho hm hin hrt hlf hoi hog
 go_enter func102,ntmps102
 go_wp2_with (first|refine am (o:=⟨some 5,_,_,_,_,_⟩) _ rfl hS ?_;clear hS;intro b25 w _ hS|refine am (o:=⟨some 9,_,_,_,_,_⟩) _ rfl hS ?_;clear hS;intro b9 w _ hS|refine aq (o:=⟨some 10,_,_,_,_,_⟩) _ rfl hS ?_;clear hS;intro b10 w _ hS|refine aq (o:=⟨some 15,_,_,_,_,_⟩) _ rfl hS ?_;clear hS;intro b15 w _ hS|(first|go_at_call 144;refine oR hS m hm'.out ?_|go_at_call 145;refine w8 hS ?_|go_at_call 96;refine gI hS htg ?_);clear hS;intro w hS;unfold ab|go_at_call 146;refine Ae (E:=⟨b,bA pa pc pr c (some ⟨bt,0,none⟩) pw (some ⟨bq,0,none⟩) (some ⟨bl,0,none⟩),70,true⟩::⟨bq,bD c.qt,163,true⟩::⟨bl,bH K.mz,109,true⟩:: (Ea++(Ec++(Er++(Et++Ew))))) (H1:=⟨b10,zD,259,true⟩::⟨b9,#[.string tg],9,true⟩::⟨b25,#[.pointer (some ⟨b,0,none⟩)],47,true⟩::H1) (hc:=qZ) hB (by simp only[bX];exact hS.p) hT ho'.out hbg hcy ?_;clear hB hS;intro w0 bs w hB hS;simp only[bX] at hS;unfold ab|go_at_call 147;refine wX m (E:=⟨b,bA pa pc pr c (some ⟨bt,0,none⟩) pw (some ⟨bq,0,none⟩) (some ⟨bl,0,none⟩),70,true⟩::⟨bq,bD c.qt,163,true⟩::⟨bl,bH K.mz,109,true⟩:: (Ea++(Ec++(Er++(Et++Ew))))) (H1:=⟨b10,zD,259,true⟩::⟨b9,#[.string tg],9,true⟩::⟨b25,#[.pointer (some ⟨b,0,none⟩)],47,true⟩::H1) (hc:=qZ) (by simp only[bX];exact hS.p) hT hin'.out hrt'.out hlf'.out hct.out ?_;clear hS;intro w hS;simp only[bX] at hS;unfold ab|go_at_call 148;refine sX hS hTb ?_;rw[hLs.out];clear hS;intro w hS;unfold ab|go_at_call 149;refine o0 hB hS hW hL hLE hLI hLG hLT ?_;clear hB hS;intro m2 Ew2 w0 bs w hW2 hB hS;unfold ab|(go_at_call 150;have hT2:RG c (some ⟨b,0,none⟩) T C { K with L:=L',mf:=m2 } (⟨b,bA pa pc pr c (some ⟨bt,0,none⟩) pw (some ⟨bq,0,none⟩) (some ⟨bl,0,none⟩),70,true⟩::⟨bq,bD c.qt,163,true⟩::⟨bl,bH K.mz,109,true⟩:: (Ea++(Ec++(Er++(Et++Ew2))))):=⟨b,pa,pc,pr,bt,pw,bq,bl,Ea,Ec,Er,Et,Ew2,rfl,hA,hC,hQ,hTb,hW2,hcf,rfl⟩;refine rF (i:=i) (g:=g) (H:=⟨b10,zD,259,true⟩::H1) m j hB (show St w0 bs w (BW b15 b9 b25 (some ⟨b,0,none⟩) oi og tg ((⟨b,bA pa pc pr c (some ⟨bt,0,none⟩) pw (some ⟨bq,0,none⟩) (some ⟨bl,0,none⟩),70,true⟩::⟨bq,bD c.qt,163,true⟩::⟨bl,bH K.mz,109,true⟩:: (Ea++(Ec++(Er++(Et++Ew2)))))++(⟨b10,zD,259,true⟩::H1))) from by simp only[bX];exact hS.p) hT2 hin'.out (by rw[hrt'.out];decide) hme hmr hj ho'.out hoi'.out hog'.out htg hhg hi hE hI hG hct.out (hM1:=(inferInstance:MapIn ((m2,[(Value.agg (vD oi og),vI 5)])::Ms) K.mz [])) (hu1:=(inferInstance:MapUp ((m2,[(Value.agg (vD oi og),vI 5)])::Ms) K.mz [] [(.agg (vD oi og),.agg (vK tg))] ((m2,[(Value.agg (vD oi og),vI 5)])::Ms1))) (hM2:=(inferInstance:MapIn ((m2,[(Value.agg (vD oi og),vI 5)])::Ms1) K.me [])) (hu2:=(inferInstance:MapUp ((m2,[(Value.agg (vD oi og),vI 5)])::Ms1) K.me [] [(vI i,.agg (fd i g j hg))] ((m2,[(Value.agg (vD oi og),vI 5)])::Ms2))) (r1:=(inferInstance:MapIn ((m2,[(Value.agg (vD oi og),vI 5)])::Ms2) K.mb [])) (r2:=(inferInstance:MapIn ((m2,[(Value.agg (vD oi og),vI 5)])::Ms2) K.mc [])) (r3:=(inferInstance:MapIn ((m2,[(Value.agg (vD oi og),vI 5)])::Ms2) K.mo [])) (hz1:=(inferInstance:MapUp ((m2,[(Value.agg (vD oi og),vI 5)])::Ms2) K.mo [] [(vI i,vR 0 0)] ((m2,[(Value.agg (vD oi og),vI 5)])::Ms3))) (hz2:=(inferInstance:MapUp ((m2,[(Value.agg (vD oi og),vI 5)])::Ms3) K.mo [(vI i,vR 0 0)] [(vI i,vR j hg)] ((m2,[(Value.agg (vD oi og),vI 5)])::Ms4))) (hz3:=(inferInstance:MapUp ((m2,[(Value.agg (vD oi og),vI 5)])::Ms4) K.mb [] [(vR j hg,vI 0)] ((m2,[(Value.agg (vD oi og),vI 5)])::Ms5))) (hz4:=(inferInstance:MapUp ((m2,[(Value.agg (vD oi og),vI 5)])::Ms5) K.mb [(vR j hg,vI 0)] [(vR j hg,vI i)] ((m2,[(Value.agg (vD oi og),vI 5)])::Ms6))) (h4:=(inferInstance:MapIn ((m2,[(Value.agg (vD oi og),vI 5)])::Ms6) K.mc [])) (hz5:=(inferInstance:MapUp ((m2,[(Value.agg (vD oi og),vI 5)])::Ms6) K.mc [] [(vI i,vI 1)] ((m2,[(Value.agg (vD oi og),vI 5)])::Ms7))) ?_;clear hB hS;intro L2 E2 w0 bs w hup hT3 hB hS;unfold ab)|refine af rfl hS ?_|refine ak rfl hS ?_;clear hS;intro w hS)
 refine bodyPost_ret (aJ rfl hS) rfl ?_
 exact hR m2 L2 _ _ _ _ hup hT3 hB (by(try simp only[aP]);exact hS.p)
end
open Go.RowKit Go.Mm
theorem w9 (hO:St w0 bs w H)(hR:∀ b9 w',St w0 bs w' (⟨b9,#[.pointer p],47,true⟩::H)->ab R (.func (.func 237) #[] #[.pointer (some ⟨b9,0,none⟩)]) w'):Calls prog 163 #[.pointer p] w R:=by
 have hS:=hO
 clear hO
 go_enter func163,ntmps163
 go_wp2_with (refine am 47 rfl hS ?_;clear hS;intro b9 w _ hS)
 exact hR _ _ hS
theorem t1 {b9:Nat}(y:Value)[OneCell y](hO:St w0 bs w (⟨b9,#[.pointer p],47,true⟩::(E++H1)))(hT:RG c p T C K E)(hR:∀ w',St w0 bs w' (⟨b9,#[.pointer p],47,true⟩::(E++H1))->ab R (.tuple #[]) w'):Calls prog 237 #[y,.pointer (some ⟨b9,0,none⟩)] w R:=by
 have hS:=hO
 clear hO
 obtain⟨b,pa,pc,pr,bt,pw,bq,bl,Ea,Ec,Er,Et,Ew,rfl,hA,hC,hQ,hTb,hW,hcf,rfl⟩:=id hT
 simp only[aP] at hS
 go_enter func237,ntmps237
 go_wp2_with (first|go_at_call 238;refine wP hS hQ ?_;clear hS;intro w hS;unfold ab|refine af rfl hS ?_)
 have hS0:=hS
 clear hS
 go_loopw [4] (fun u wr=>u=.bool false∧St w0 bs wr (Er++(⟨b9,#[.pointer (some ⟨b,0,none⟩)],47,true⟩::⟨b,bA pa pc pr c (some ⟨bt,0,none⟩) pw (some ⟨bq,0,none⟩) (some ⟨bl,0,none⟩),70,true⟩::⟨bq,bD c.qt,163,true⟩::⟨bl,bH K.mz,109,true⟩:: (Ea++(Ec++(Et++(Ew++H1))))))) (fun _ _=>0)
 case atStart=>exact⟨rfl,hS0.p⟩
 case round=>
  clear hS0
  obtain⟨rfl,hS⟩:=hrel
  go_wp2_with (go_skip)
  (refine bodyPost_end (results_none rfl _ _ _) rfl ?_;exact hR _ (by(try simp only[aP]);exact hS.p))
theorem t5 (n:Nat){l l2:List (Value×Value)}(hB:Mps W As w0 bs Ms)(hO:St w0 bs w H)(hT:RG c p T C K E)[hc:Cut H E H1](hl:Lv K.o n)(hle:l=[]∨∃ i g s h,l=[(vI i,.agg (fd i g s h))])[hM:MapIn Ms K.me l](hL:0<K.L.length)[hM2:MapIn Ms K.mf l2][hM3:MapIn Ms K.ml []]
  (hR:∀ w0' bs' w',Mps W As w0' bs' Ms->St w0' bs' w' (E++H1)->ab R (.tuple #[.slice none 0 0,.int .i64 0]) w'):Calls prog 108 #[.pointer p] w R:=by
 have hS:=hO.fr E H1
 clear hO
 obtain⟨b,pa,pc,pr,bt,pw,bq,bl,Ea,Ec,Er,Et,Ew,rfl,hA,hC,hQ,hTb,hW,hcf,rfl⟩:=id hT
 simp only[aP] at hS
 have hl':=HD hl
 have hle':=HD hle
 have hqt:(0:Int)<c.qt:=by have:=hcf.qt;omega
 clear hl hle
 refine(callsIn_wide (n:=3)).1 ?_
 have hF:=bY
 refine callsIn_of_wp_marks func108 rfl trivial ?_ rfl
 simp only[ntmps108,List.size_toArray,List.length_cons,List.length_nil,Nat.reduceAdd,Nat.reduceSub,Array.replicate_succ,Array.replicate_zero,List.push_toArray,List.append_toArray,List.nil_append,List.cons_append]
 gi_wp2_with (first|refine aD (.box 47 _) rfl ?_;refine aa hF rfl rfl (eh _ _ rfl hS ?_);clear hS;intro b1 w _ hS|gi_at_call 32;refine callsIn_wide.2 (dy hS ?_);clear hS;intro w hS;unfold ab|gi_at_call 163;refine callsIn_wide.2 (w9 hS ?_);clear hS;intro b9 w hS;unfold ab|refine aa hF rfl rfl (ar (ac _ _ rfl hS) ?_))
 refine ek (by omega) (gf:=237) (lb:=#[.pointer (some ⟨b9,0,none⟩)]) rfl ae hS ?_ ?_
 ·intro y W1 hy k hS1
  refine t1 (H1:=⟨b1,#[.pointer (some ⟨b,0,none⟩)],47,true⟩::H1) y (by simp only[bX];exact hS1.p) hT (fun w' hS'=>⟨⟨_,rfl⟩,?_⟩)
  simp only[bX] at hS'
  exact hS'.p
 ·intro d W1 hS1 hd
  have hS0:=hS1
  have hB0:=hB
  clear hS hB
  have hB:=hB0.rebase hS0
  have hS:=hS1.rebase
  clear hS1
  gi_wp2_with (refine aa hF rfl rfl (ar (bQ _ _ rfl) ?_))
  refine wpIn_wide.2 ?_
  refine aj (X:=Unit) (Jm W1 (mw (⟨b9,#[.pointer (some ⟨b,0,none⟩)],47,true⟩::⟨b1,#[.pointer (some ⟨b,0,none⟩)],47,true⟩::⟨b,bA pa pc pr c (some ⟨bt,0,none⟩) pw (some ⟨bq,0,none⟩) (some ⟨bl,0,none⟩),70,true⟩::⟨bq,bD c.qt,163,true⟩::⟨bl,bH K.mz,109,true⟩:: (Ea++(Ec++(Er++(Et++(Ew++H1)))))) Ms) Ms (⟨b9,#[.pointer (some ⟨b,0,none⟩)],47,true⟩::⟨b1,#[.pointer (some ⟨b,0,none⟩)],47,true⟩::⟨b,bA pa pc pr c (some ⟨bt,0,none⟩) pw (some ⟨bq,0,none⟩) (some ⟨bl,0,none⟩),70,true⟩::⟨bq,bD c.qt,163,true⟩::⟨bl,bH K.mz,109,true⟩:: (Ea++(Ec++(Er++(Et++(Ew++H1))))))) [(12,fun _ w=>Jm W1 (mw (⟨b9,#[.pointer (some ⟨b,0,none⟩)],47,true⟩::⟨b1,#[.pointer (some ⟨b,0,none⟩)],47,true⟩::⟨b,bA pa pc pr c (some ⟨bt,0,none⟩) pw (some ⟨bq,0,none⟩) (some ⟨bl,0,none⟩),70,true⟩::⟨bq,bD c.qt,163,true⟩::⟨bl,bH K.mz,109,true⟩:: (Ea++(Ec++(Er++(Et++(Ew++H1)))))) Ms) Ms (⟨b9,#[.pointer (some ⟨b,0,none⟩)],47,true⟩::⟨b1,#[.pointer (some ⟨b,0,none⟩)],47,true⟩::⟨b,bA pa pc pr c (some ⟨bt,0,none⟩) pw (some ⟨bq,0,none⟩) (some ⟨bl,0,none⟩),70,true⟩::⟨bq,bD c.qt,163,true⟩::⟨bl,bH K.mz,109,true⟩:: (Ea++(Ec++(Er++(Et++(Ew++H1)))))) w)] ⟨_,_,hB,hS.drawn _⟩ (by kernel_rfl) (by kernel_rfl) ?_
  iterate 12 first|(refine bF 0 (fun _=>rfl) rfl (fun χ w hw=>by obtain⟨w0,bs,_,hS⟩:=hw;exact ac _ _ rfl hS) ?_)|(refine bF 0 (fun _=>rfl) rfl (fun χ w hw=>by obtain⟨w0,bs,_,hS⟩:=hw;exact ai _ _ rfl hS) ?_)|(refine oP (fun χ w=>ah rfl) ?_)|(refine oP (fun χ w=>ag rfl) ?_)
  refine aO 0 rfl (by kernel_rfl) (fun _=>rfl) (fun _=>.tuple #[.slice none 0 0,.int .i64 0]) (fun χ w hw=>aw rfl ae ?_) ?_
  ·obtain⟨w0,bs,hB,hS⟩:=hw
   exact BE hB hS hTb hW hcf hl'.out l hle'.out hL (l2:=l2) (fun w0' bs' w' hB hS=>⟨_,rfl,(),rfl,w0',bs',hB,hS.p⟩)
  iterate 5 first|(refine oP (fun χ w=>ad rfl) ?_)|(refine oP (fun χ w=>aB rfl) ?_)|(refine oP (fun χ w=>aG rfl) ?_)
  refine aV rfl ?_
  rintro χ w ⟨w0',bs',hB,hS⟩
  clear χ
  gi_wp2_with (refine aD (.call { callee:=.builtin .len,args:=#[_],argTypes:=#[_] }) rfl ?_;refine aa hF rfl rfl (ar (aA rfl) ?_))
  have hS9:=hS
  clear hS
  gi_loopw [36] (fun u wr=>u=.int .i64 0∧St w0' bs' wr (⟨b9,#[.pointer (some ⟨b,0,none⟩)],47,true⟩::⟨b1,#[.pointer (some ⟨b,0,none⟩)],47,true⟩::⟨b,bA pa pc pr c (some ⟨bt,0,none⟩) pw (some ⟨bq,0,none⟩) (some ⟨bl,0,none⟩),70,true⟩::⟨bq,bD c.qt,163,true⟩::⟨bl,bH K.mz,109,true⟩:: (Ea++(Ec++(Er++(Et++(Ew++H1))))))) (fun _ _=>0)
  case atStart=>exact⟨rfl,hS9⟩
  case round=>
   clear hS9
   obtain⟨rfl,hS⟩:=hrel
   gi_wp2_with (refine aa hF rfl rfl (ar (bQ _ _ rfl) ?_))
   refine wpIn_wide.2 ?_
   have hJ:(∀ w,Jm W1 (mw (⟨b9,#[.pointer (some ⟨b,0,none⟩)],47,true⟩::⟨b1,#[.pointer (some ⟨b,0,none⟩)],47,true⟩::⟨b,bA pa pc pr c (some ⟨bt,0,none⟩) pw (some ⟨bq,0,none⟩) (some ⟨bl,0,none⟩),70,true⟩::⟨bq,bD c.qt,163,true⟩::⟨bl,bH K.mz,109,true⟩:: (Ea++(Ec++(Er++(Et++(Ew++H1)))))) Ms) Ms (⟨b9,#[.pointer (some ⟨b,0,none⟩)],47,true⟩::⟨b1,#[.pointer (some ⟨b,0,none⟩)],47,true⟩::⟨b,bA pa pc pr c (some ⟨bt,0,none⟩) pw (some ⟨bq,0,none⟩) (some ⟨bl,0,none⟩),70,true⟩::⟨bq,bD c.qt,163,true⟩::⟨bl,bH K.mz,109,true⟩:: (Ea++(Ec++(Er++(Et++(Ew++H1)))))) w->Jm W1 (mw (⟨b9,#[.pointer (some ⟨b,0,none⟩)],47,true⟩::⟨b1,#[.pointer (some ⟨b,0,none⟩)],47,true⟩::⟨b,bA pa pc pr c (some ⟨bt,0,none⟩) pw (some ⟨bq,0,none⟩) (some ⟨bl,0,none⟩),70,true⟩::⟨bq,bD c.qt,163,true⟩::⟨bl,bH K.mz,109,true⟩:: (Ea++(Ec++(Er++(Et++(Ew++H1)))))) Ms) Ms (⟨b9,#[.pointer (some ⟨b,0,none⟩)],47,true⟩::⟨b1,#[.pointer (some ⟨b,0,none⟩)],47,true⟩::⟨b,bA pa pc pr c (some ⟨bt,0,none⟩) pw (some ⟨bq,0,none⟩) (some ⟨bl,0,none⟩),70,true⟩::⟨bq,bD c.qt,163,true⟩::⟨bl,bH K.mz,109,true⟩:: (Ea++(Ec++(Er++(Et++(Ew++H1)))))) w)∧∀ s∈([(5,fun _ w=>Jm W1 (mw (⟨b9,#[.pointer (some ⟨b,0,none⟩)],47,true⟩::⟨b1,#[.pointer (some ⟨b,0,none⟩)],47,true⟩::⟨b,bA pa pc pr c (some ⟨bt,0,none⟩) pw (some ⟨bq,0,none⟩) (some ⟨bl,0,none⟩),70,true⟩::⟨bq,bD c.qt,163,true⟩::⟨bl,bH K.mz,109,true⟩:: (Ea++(Ec++(Er++(Et++(Ew++H1)))))) Ms) Ms (⟨b9,#[.pointer (some ⟨b,0,none⟩)],47,true⟩::⟨b1,#[.pointer (some ⟨b,0,none⟩)],47,true⟩::⟨b,bA pa pc pr c (some ⟨bt,0,none⟩) pw (some ⟨bq,0,none⟩) (some ⟨bl,0,none⟩),70,true⟩::⟨bq,bD c.qt,163,true⟩::⟨bl,bH K.mz,109,true⟩:: (Ea++(Ec++(Er++(Et++(Ew++H1)))))) w),(6,fun _ w=>Jm W1 (mw (⟨b9,#[.pointer (some ⟨b,0,none⟩)],47,true⟩::⟨b1,#[.pointer (some ⟨b,0,none⟩)],47,true⟩::⟨b,bA pa pc pr c (some ⟨bt,0,none⟩) pw (some ⟨bq,0,none⟩) (some ⟨bl,0,none⟩),70,true⟩::⟨bq,bD c.qt,163,true⟩::⟨bl,bH K.mz,109,true⟩:: (Ea++(Ec++(Er++(Et++(Ew++H1)))))) Ms) Ms (⟨b9,#[.pointer (some ⟨b,0,none⟩)],47,true⟩::⟨b1,#[.pointer (some ⟨b,0,none⟩)],47,true⟩::⟨b,bA pa pc pr c (some ⟨bt,0,none⟩) pw (some ⟨bq,0,none⟩) (some ⟨bl,0,none⟩),70,true⟩::⟨bq,bD c.qt,163,true⟩::⟨bl,bH K.mz,109,true⟩:: (Ea++(Ec++(Er++(Et++(Ew++H1)))))) w)] : lg Unit),∀ χ w,s.2 χ w->Jm W1 (mw (⟨b9,#[.pointer (some ⟨b,0,none⟩)],47,true⟩::⟨b1,#[.pointer (some ⟨b,0,none⟩)],47,true⟩::⟨b,bA pa pc pr c (some ⟨bt,0,none⟩) pw (some ⟨bq,0,none⟩) (some ⟨bl,0,none⟩),70,true⟩::⟨bq,bD c.qt,163,true⟩::⟨bl,bH K.mz,109,true⟩:: (Ea++(Ec++(Er++(Et++(Ew++H1)))))) Ms) Ms (⟨b9,#[.pointer (some ⟨b,0,none⟩)],47,true⟩::⟨b1,#[.pointer (some ⟨b,0,none⟩)],47,true⟩::⟨b,bA pa pc pr c (some ⟨bt,0,none⟩) pw (some ⟨bq,0,none⟩) (some ⟨bl,0,none⟩),70,true⟩::⟨bq,bD c.qt,163,true⟩::⟨bl,bH K.mz,109,true⟩:: (Ea++(Ec++(Er++(Et++(Ew++H1)))))) w:=⟨fun _ h=>h,fun s hs χ w h=>by
    simp only[List.mem_cons,List.not_mem_nil,or_false] at hs
    rcases hs with rfl|rfl <;> exact h⟩
   refine aj (X:=Unit) (Jm W1 (mw (⟨b9,#[.pointer (some ⟨b,0,none⟩)],47,true⟩::⟨b1,#[.pointer (some ⟨b,0,none⟩)],47,true⟩::⟨b,bA pa pc pr c (some ⟨bt,0,none⟩) pw (some ⟨bq,0,none⟩) (some ⟨bl,0,none⟩),70,true⟩::⟨bq,bD c.qt,163,true⟩::⟨bl,bH K.mz,109,true⟩:: (Ea++(Ec++(Er++(Et++(Ew++H1)))))) Ms) Ms (⟨b9,#[.pointer (some ⟨b,0,none⟩)],47,true⟩::⟨b1,#[.pointer (some ⟨b,0,none⟩)],47,true⟩::⟨b,bA pa pc pr c (some ⟨bt,0,none⟩) pw (some ⟨bq,0,none⟩) (some ⟨bl,0,none⟩),70,true⟩::⟨bq,bD c.qt,163,true⟩::⟨bl,bH K.mz,109,true⟩:: (Ea++(Ec++(Er++(Et++(Ew++H1))))))) [(5,fun _ w=>Jm W1 (mw (⟨b9,#[.pointer (some ⟨b,0,none⟩)],47,true⟩::⟨b1,#[.pointer (some ⟨b,0,none⟩)],47,true⟩::⟨b,bA pa pc pr c (some ⟨bt,0,none⟩) pw (some ⟨bq,0,none⟩) (some ⟨bl,0,none⟩),70,true⟩::⟨bq,bD c.qt,163,true⟩::⟨bl,bH K.mz,109,true⟩:: (Ea++(Ec++(Er++(Et++(Ew++H1)))))) Ms) Ms (⟨b9,#[.pointer (some ⟨b,0,none⟩)],47,true⟩::⟨b1,#[.pointer (some ⟨b,0,none⟩)],47,true⟩::⟨b,bA pa pc pr c (some ⟨bt,0,none⟩) pw (some ⟨bq,0,none⟩) (some ⟨bl,0,none⟩),70,true⟩::⟨bq,bD c.qt,163,true⟩::⟨bl,bH K.mz,109,true⟩:: (Ea++(Ec++(Er++(Et++(Ew++H1)))))) w),(6,fun _ w=>Jm W1 (mw (⟨b9,#[.pointer (some ⟨b,0,none⟩)],47,true⟩::⟨b1,#[.pointer (some ⟨b,0,none⟩)],47,true⟩::⟨b,bA pa pc pr c (some ⟨bt,0,none⟩) pw (some ⟨bq,0,none⟩) (some ⟨bl,0,none⟩),70,true⟩::⟨bq,bD c.qt,163,true⟩::⟨bl,bH K.mz,109,true⟩:: (Ea++(Ec++(Er++(Et++(Ew++H1)))))) Ms) Ms (⟨b9,#[.pointer (some ⟨b,0,none⟩)],47,true⟩::⟨b1,#[.pointer (some ⟨b,0,none⟩)],47,true⟩::⟨b,bA pa pc pr c (some ⟨bt,0,none⟩) pw (some ⟨bq,0,none⟩) (some ⟨bl,0,none⟩),70,true⟩::⟨bq,bD c.qt,163,true⟩::⟨bl,bH K.mz,109,true⟩:: (Ea++(Ec++(Er++(Et++(Ew++H1)))))) w)] ⟨_,_,hB,hS.drawn _⟩ (by kernel_rfl) (by kernel_rfl) ?_
   iterate 5 first|(refine dt _ hJ (fun _=>rfl) rfl (fun χ w hw=>by obtain⟨w0,bs,_,hS⟩:=hw;exact ac _ _ rfl hS) ?_)|(refine oP (fun χ w=>ah rfl) ?_)|(refine oP (fun χ w=>ag rfl) ?_)
   refine aO 0 rfl (by kernel_rfl) (fun _=>rfl) (fun _=>.int .i64 n) (fun χ w hw=>aw rfl ae ?_) ?_
   ·obtain⟨w0,bs,hB,hS⟩:=hw
    have hS:St w0 bs w ((⟨b,bA pa pc pr c (some ⟨bt,0,none⟩) pw (some ⟨bq,0,none⟩) (some ⟨bl,0,none⟩),70,true⟩::⟨bq,bD c.qt,163,true⟩::⟨bl,bH K.mz,109,true⟩:: (Ea++(Ec++(Er++(Et++Ew)))))++(⟨b9,#[.pointer (some ⟨b,0,none⟩)],47,true⟩::⟨b1,#[.pointer (some ⟨b,0,none⟩)],47,true⟩::H1)):=by
     simp only[bX];exact hS.p
    exact ql n hB hS hT hl'.out hle'.out (fun w0' bs' w' hB hS=>⟨_,rfl,(),rfl,w0',bs',hB,by simp only[bX] at hS;exact hS.p⟩)
   refine aO 1 rfl (by kernel_rfl) (fun _=>rfl) (fun _=>.tuple #[]) (fun χ w hw=>aw rfl ae ?_) ?_
   ·obtain⟨w0,bs,hB,hS⟩:=hw
    have hS:St w0 bs w (⟨bq,bD c.qt,163,true⟩::⟨b9,#[.pointer (some ⟨b,0,none⟩)],47,true⟩::⟨b1,#[.pointer (some ⟨b,0,none⟩)],47,true⟩::⟨b,bA pa pc pr c (some ⟨bt,0,none⟩) pw (some ⟨bq,0,none⟩) (some ⟨bl,0,none⟩),70,true⟩::⟨bl,bH K.mz,109,true⟩::(Ea++(Ec++(Er++(Et++(Ew++H1)))))):=hS.p
    exact mU hS hqt n (fun w' hS=>⟨_,rfl,(),rfl,w0,bs,hB,hS.p⟩)
   refine aV rfl ?_
   rintro χ w ⟨w0'',bs'',hB2,hS2⟩
   clear χ
   gi_wp2_with (refine aa hF rfl rfl (ar (bQ _ _ rfl) ?_))
   refine uX hd hB0 hS0 hB2 hS2 (fun w3 bs3 W3 hB3 hS3=>⟨_,gS rfl,?_⟩)
   exact hR _ _ _ hB3 (by simp only[bX];exact hS3.p)
open Go.RowKit Go.Mm
variable {c:Cfg}{p:Option Addr}{T:Ar}{C:Cy}{K:Rk}{oi og:Int}{tg:ByteArray}
instance IB {i g st wy:Int}{s:ByteArray} : SetsAt #[.int .i64 0,.int .i64 0,.int .u32 0,.int .i64 0,.int .i64 0,.int .i64 0,.int .i64 0,.string { data:=#[] }] 0 (bJ i g st wy s) (bJ i g st wy s):=⟨by simp [bJ],by simp [bJ]⟩
theorem oQ (hB:Mps W As w0 bs Ms)(hO:St w0 bs w H)(hT:RG c p T C K E)[hc:Cut H E H1](ho:K.o=some (bJ oi og 1 0 tg))(hoi:0≤oi∧oi<64)(hog:1≤og∧og≤4294967295)(htg:TagW tg)[hM:MapIn Ms K.me []]
  (hR:∀ E' w',RG c p T C { K with o:=some (bJ oi og 2 1 tg) } E'->St w0 bs w' (E'++H1)->ab R (.tuple #[]) w'):Calls prog 173 #[.pointer p,.int .i64 1,.int .i64 1] w R:=by
 have hS:=hO.fr E H1
 clear hO
 obtain⟨b,pa,pc,pr,bt,pw,bq,bl,Ea,Ec,Er,Et,Ew,rfl,hA,hC,hQ,hTb,hW,hcf,rfl⟩:=id hT
 simp only[aP] at hS
 rw[ho] at hTb
 have hoi':=HD hoi
 have hog':=HD hog
 clear ho hoi hog
 go_enter func173,ntmps173
 go_wp2_with (first|refine aq (o:=⟨some 6,_,_,_,_,_⟩) _ rfl hS ?_;clear hS;intro b6 w _ hS|go_at_call 157;refine sZ hS hTb ?_;clear hS;intro w hS;unfold ab|refine af rfl hS ?_|refine ak rfl hS ?_;clear hS;intro w hS)
 refine ao [⟨(undef,[]),[(11,fun _ x=>∃ b,x=(.pointer (some ⟨b,0,none⟩),[⟨b,#[.int .i64 0,.int .i64 0,.int .u32 0,.int .i64 0,.int .i64 0,.int .i64 0,.int .i64 0,.string { data:=#[] }],314,true⟩])),(12,fun y x=>∃ b,y.1=.pointer (some ⟨b,0,none⟩)∧x.2=[⟨b,bJ oi og 2 1 tg,314,true⟩])]⟩]
  (⟨b6,bJ oi og 1 0 tg,314,true⟩::⟨b,bA pa pc pr c (some ⟨bt,0,none⟩) pw (some ⟨bq,0,none⟩) (some ⟨bl,0,none⟩),70,true⟩::⟨bq,bD c.qt,163,true⟩::⟨bl,bH K.mz,109,true⟩:: (Ea++(Ec++(Er++(Et++(Ew++H1)))))) (⟨b6,bJ oi og 1 0 tg,314,true⟩::⟨b,bA pa pc pr c (some ⟨bt,0,none⟩) pw (some ⟨bq,0,none⟩) (some ⟨bl,0,none⟩),70,true⟩::⟨bq,bD c.qt,163,true⟩::⟨bl,bH K.mz,109,true⟩:: (Ea++(Ec++(Er++(Et++(Ew++H1)))))) (by simp) hS.p (by kernel_rfl) (by kernel_rfl) ?_
 iterate 6 first|(refine fV (fun χ w hw=>ad rfl) ?_)|(refine fV (fun χ w hw=>ah rfl) ?_)|(refine fV (fun χ w hw=>ag rfl) ?_)|(refine fV (fun χ w hw=>ac _ _ rfl hw) ?_)|(refine fV (fun χ w hw=>ai _ _ rfl hw) ?_)
 refine cQ 242 [_] rfl (fun _=>rfl) rfl ae (.int .i64 0) (fun L w hS=>oZ hS hW (fun w' hS=>⟨rfl,(show St w0 bs w' (L++(⟨b6,bJ oi og 1 0 tg,314,true⟩::⟨b,bA pa pc pr c (some ⟨bt,0,none⟩) pw (some ⟨bq,0,none⟩) (some ⟨bl,0,none⟩),70,true⟩::⟨bq,bD c.qt,163,true⟩::⟨bl,bH K.mz,109,true⟩:: (Ea++(Ec++(Er++(Et++(Ew++H1))))))) from hS.p)⟩)) ?_
 refine cQ 258 [_,_,_] rfl (fun _=>rfl) rfl ae (.tuple #[.agg (bJ oi og 2 1 tg),.int .i64 0]) (fun L w hS=>tQ hS hoi'.out hog'.out htg (fun w' hS=>⟨rfl,hS⟩)) ?_
 iterate 3 first|(refine fV (fun χ w hw=>ad rfl) ?_)|(refine fV (fun χ w hw=>aB rfl) ?_)
 refine ap 0 0 rfl rfl rfl rfl (by kernel_rfl) (fun _=>rfl) (fun x=>x.1) ?_ ?_
 ·intro χ L w _ hS
  exact bE rfl (show St w0 bs w (L++_) from hS) (fun b w' _ hS'=>⟨(_,[_]),rfl,⟨b,rfl⟩,hS'⟩)
 refine ap 0 1 rfl rfl rfl (by kernel_rfl) rfl (fun _=>rfl) (fun _=>undef) ?_ ?_
 ·rintro χ L w ⟨⟨b,hb⟩,_⟩ hS
  have hS:St w0 bs w ((χ 11).2++(L++_)):=hS
  rw[hb] at hS
  have hS:St w0 bs w (⟨b,#[.int .i64 0,.int .i64 0,.int .u32 0,.int .i64 0,.int .i64 0,.int .i64 0,.int .i64 0,.string { data:=#[] }],314,true⟩::(L++_)):=hS
  have hb1:(χ 11).1=.pointer (some ⟨b,0,none⟩):=by rw[hb]
  exact aZ rfl hS hb1 (fun w' hS'=>⟨(undef,[⟨b,bJ oi og 2 1 tg,314,true⟩]),rfl,⟨b,hb1,rfl⟩,hS'⟩)
 iterate 1 (refine fV (fun χ w hw=>aG rfl) ?_)
 refine bC rfl ?_
 intro χ w hok hS
 obtain⟨⟨b8,hb⟩,⟨b8',hb1,hb2⟩,_⟩:=hok _ (.head _)
 rw[hb] at hb1
 obtain⟨⟩:=hb1
 have hS:St w0 bs w (((χ 12).2++[])++(⟨b6,bJ oi og 1 0 tg,314,true⟩::⟨b,bA pa pc pr c (some ⟨bt,0,none⟩) pw (some ⟨bq,0,none⟩) (some ⟨bl,0,none⟩),70,true⟩::⟨bq,bD c.qt,163,true⟩::⟨bl,bH K.mz,109,true⟩:: (Ea++(Ec++(Er++(Et++(Ew++H1))))))):=hS
 rw[hb2] at hS
 simp only[hb]
 simp only[cq] at hS
 clear hok hb2 hb
 go_wp2_with (go_skip)
 refine aj (X:=List Ent) (fun w=>St w0 bs w (⟨b8,bJ oi og 2 1 tg,314,true⟩::⟨b6,bJ oi og 1 0 tg,314,true⟩::⟨b,bA pa pc pr c (some ⟨bt,0,none⟩) pw (some ⟨bq,0,none⟩) (some ⟨bl,0,none⟩),70,true⟩::⟨bq,bD c.qt,163,true⟩::⟨bl,bH K.mz,109,true⟩:: (Ea++(Ec++(Er++(Et++(Ew++H1))))))) [(6,fun χ w=>fj (some ⟨bt,0,none⟩) K.tb K.me (some (bJ oi og 2 1 tg)) (χ 6)∧St w0 bs w (⟨b8,bJ oi og 2 1 tg,314,true⟩::⟨b6,bJ oi og 1 0 tg,314,true⟩::⟨b,bA pa pc pr c (some ⟨bt,0,none⟩) pw (some ⟨bq,0,none⟩) (some ⟨bl,0,none⟩),70,true⟩::⟨bq,bD c.qt,163,true⟩::⟨bl,bH K.mz,109,true⟩:: (Ea++(Ec++(Er++((χ 6)++(Ew++H1)))))))] (hS.drawn _) (by kernel_rfl) (by kernel_rfl) ?_
 iterate 6 first|(refine bF 0 (fun _=>rfl) rfl (fun χ w hw=>ac _ _ rfl (show St _ _ w _ from hw)) ?_)|(refine bF 0 (fun _=>rfl) rfl (fun χ w hw=>ai _ _ rfl (show St _ _ w _ from hw)) ?_)|(refine oP (fun χ w=>ad rfl) ?_)|(refine oP (fun χ w=>ag rfl) ?_)|(refine oP (fun χ w=>ah rfl) ?_)
 refine aO 0 rfl (by kernel_rfl) (fun _=>rfl) (fun _=>.int .i64 0) (fun χ w hw=>aw rfl ae ?_) ?_
 ·have hS:St w0 bs w (⟨b8,bJ oi og 2 1 tg,314,true⟩::⟨b6,bJ oi og 1 0 tg,314,true⟩::⟨b,bA pa pc pr c (some ⟨bt,0,none⟩) pw (some ⟨bq,0,none⟩) (some ⟨bl,0,none⟩),70,true⟩::⟨bq,bD c.qt,163,true⟩::⟨bl,bH K.mz,109,true⟩:: (Ea++(Ec++(Er++(Et++(Ew++H1)))))):=hw
  exact zC hB hS hTb hoi'.out hog'.out htg (fun E2 w' h1 hS=>⟨_,rfl,E2,rfl,h1,(show St w0 bs w' (⟨b8,bJ oi og 2 1 tg,314,true⟩::⟨b6,bJ oi og 1 0 tg,314,true⟩::⟨b,bA pa pc pr c (some ⟨bt,0,none⟩) pw (some ⟨bq,0,none⟩) (some ⟨bl,0,none⟩),70,true⟩::⟨bq,bD c.qt,163,true⟩::⟨bl,bH K.mz,109,true⟩:: (Ea++(Ec++(Er++(E2++(Ew++H1)))))) from hS.p)⟩)
 refine aV rfl ?_
 rintro χ w ⟨h1,hS⟩
 simp only[Nat.zero_add,Nat.reduceAdd]
 generalize χ 6=E2 at h1 hS ⊢
 clear χ
 go_wp2_with (go_skip)
 refine bodyPost_end (results_none rfl _ _ _) rfl ?_
 exact hR _ _ ⟨b,pa,pc,pr,bt,pw,bq,bl,Ea,Ec,Er,E2,Ew,rfl,hA,hC,hQ,h1,hW,hcf,rfl⟩ (by(try simp only[aP]);exact hS.p)
section
variable {i g hs hg:Int}{Ms4 Ms5:dF}
theorem rE (hB:Mps W As w0 bs Ms)(hO:St w0 bs w H)(hT:RG c p T C K E)[hc:Cut H E H1](ho:K.o=some (bJ oi og 1 0 tg))(hoi:0≤oi∧oi<64)(hog:1≤og∧og≤4294967295)(htg:TagW tg)(hi:0≤i∧i<256)(hg' : 1≤g∧g≤4294967295)
  [h0:MapIn Ms K.mc [(vI i,vI 1)]] [h1:MapIn Ms K.mo [(vI i,vR hs hg)]] [hz1:MapUp Ms K.mo [(vI i,vR hs hg)] [] Ms1] [h3:MapIn Ms1 K.mb [(vR hs hg,vI i)]] [hz2:MapUp Ms1 K.mb [(vR hs hg,vI i)] [] Ms2] [h4:MapIn Ms2 K.mc [(vI i,vI 1)]] [hz3:MapUp Ms2 K.mc [(vI i,vI 1)] [(vI i,vI 3)] Ms3] [h5:MapIn Ms3 K.mc [(vI i,vI 3)]] [hz4:MapUp Ms3 K.mc [(vI i,vI 3)] [] Ms4]
  [k1:MapIn Ms4 K.me [(vI i,.agg (fd i g hs hg))]] [k2:MapUp Ms4 K.me [(vI i,.agg (fd i g hs hg))] [] Ms5] [k3:MapIn Ms5 K.me []]
  (hR:∀ E' w0' bs' w',RG c p T C { K with tb:=ov K.tb i g,o:=some (bJ oi og 2 1 tg) } E'->Mps W As w0' bs' Ms5->St w0' bs' w' (E'++H1)->ab R (.int .i64 0) w'):Calls prog 159 #[.pointer p,.agg (vD i g),.int .i64 1] w R:=by
 have hS:=hO.fr E H1
 clear hO
 obtain⟨b,pa,pc,pr,bt,pw,bq,bl,Ea,Ec,Er,Et,Ew,rfl,hA,hC,hQ,hTb,hW,hcf,rfl⟩:=id hT
 simp only[aP] at hS
 rw[ho] at hTb
 have hoi':=HD hoi
 have hog2:=HD hog
 have hi':=HD hi
 have hg2:=HD hg'
 clear ho hoi hog hi hg'
 go_enter func159,ntmps159
 go_wp2_with (refine am 259 rfl hS ?_;clear hS;intro b4 w _ hS)
 refine aj (X:=Unit) (Jm W As Ms (⟨b4,vD i g,259,true⟩::⟨b,bA pa pc pr c (some ⟨bt,0,none⟩) pw (some ⟨bq,0,none⟩) (some ⟨bl,0,none⟩),70,true⟩::⟨bq,bD c.qt,163,true⟩::⟨bl,bH K.mz,109,true⟩:: (Ea++(Ec++(Er++(Et++(Ew++H1))))))) [(7,fun _ w=>Jm W As Ms4 (⟨b4,vD i g,259,true⟩::⟨b,bA pa pc pr c (some ⟨bt,0,none⟩) pw (some ⟨bq,0,none⟩) (some ⟨bl,0,none⟩),70,true⟩::⟨bq,bD c.qt,163,true⟩::⟨bl,bH K.mz,109,true⟩:: (Ea++(Ec++(Er++(Et++(Ew++H1)))))) w)] ⟨_,_,hB,hS.drawn _⟩ (by kernel_rfl) (by kernel_rfl) ?_
 iterate 7 first|(refine bF 0 (fun _=>rfl) rfl (fun χ w hw=>by obtain⟨w0,bs,_,hS⟩:=hw;exact ac _ _ rfl hS) ?_)|(refine oP (fun χ w=>ad rfl) ?_)|(refine oP (fun χ w=>ah rfl) ?_)|(refine oP (fun χ w=>ag rfl) ?_)
 refine aO 0 rfl (by kernel_rfl) (fun _=>rfl) (fun _=>.tuple #[.bool true,.int .i64 0]) (fun χ w hw=>aw rfl ae ?_) ?_
 ·obtain⟨w0,bs,hB,hS⟩:=hw
  exact rD hB hS hQ i hs hg hi'.out (fun w0' bs' w' hB hS=>⟨_,rfl,(),rfl,w0',bs',hB,hS.p⟩)
 refine aV rfl ?_
 rintro χ w ⟨w0,bs,hB,hS⟩
 clear χ
 go_wp2_with (go_skip)
 refine aj (X:=List Ent) (Jm W As Ms4 (⟨b4,vD i g,259,true⟩::⟨b,bA pa pc pr c (some ⟨bt,0,none⟩) pw (some ⟨bq,0,none⟩) (some ⟨bl,0,none⟩),70,true⟩::⟨bq,bD c.qt,163,true⟩::⟨bl,bH K.mz,109,true⟩:: (Ea++(Ec++(Er++(Et++(Ew++H1))))))) [(5,fun χ w=>fj (some ⟨bt,0,none⟩) (ov K.tb i g) K.me (some (bJ oi og 1 0 tg)) (χ 5)∧Jm W As Ms5 (⟨b4,vD i g,259,true⟩::⟨b,bA pa pc pr c (some ⟨bt,0,none⟩) pw (some ⟨bq,0,none⟩) (some ⟨bl,0,none⟩),70,true⟩::⟨bq,bD c.qt,163,true⟩::⟨bl,bH K.mz,109,true⟩:: (Ea++(Ec++(Er++((χ 5)++(Ew++H1)))))) w)] ⟨_,_,hB,hS.drawn _⟩ (by kernel_rfl) (by kernel_rfl) ?_
 iterate 5 first|(refine bF 0 (fun _=>rfl) rfl (fun χ w hw=>by obtain⟨w0,bs,_,hS⟩:=hw;exact ac _ _ rfl hS) ?_)|(refine bF 0 (fun _=>rfl) rfl (fun χ w hw=>by obtain⟨w0,bs,_,hS⟩:=hw;exact ai _ _ rfl hS) ?_)|(refine oP (fun χ w=>ad rfl) ?_)|(refine oP (fun χ w=>ah rfl) ?_)|(refine oP (fun χ w=>ag rfl) ?_)
 refine aO 0 rfl (by kernel_rfl) (fun _=>rfl) (fun _=>.tuple #[.int .i64 1,.bool true,.int .i64 0]) (fun χ w hw=>aw rfl ae ?_) ?_
 ·obtain⟨w0,bs,hB,hS⟩:=hw
  exact s7 hB hS hTb i g hi'.out hg2.out (fun E2 w0' bs' w' h1 hB hS=>⟨_,rfl,E2,rfl,h1,w0',bs',hB,(show St w0' bs' w' (⟨b4,vD i g,259,true⟩::⟨b,bA pa pc pr c (some ⟨bt,0,none⟩) pw (some ⟨bq,0,none⟩) (some ⟨bl,0,none⟩),70,true⟩::⟨bq,bD c.qt,163,true⟩::⟨bl,bH K.mz,109,true⟩:: (Ea++(Ec++(Er++(E2++(Ew++H1)))))) from hS.p)⟩)
 iterate 7 first|(refine oP (fun χ w=>ad rfl) ?_)|(refine oP (fun χ w=>aB rfl) ?_)|(refine oP (fun χ w=>aG rfl) ?_)
 refine aV rfl ?_
 rintro χ w ⟨h1,w0,bs,hB,hS⟩
 simp only[Nat.zero_add,Nat.reduceAdd]
 generalize χ 5=E2 at h1 hS ⊢
 clear χ
 obtain⟨E1,hE1⟩:∃ E1,E1=(⟨b,bA pa pc pr c (some ⟨bt,0,none⟩) pw (some ⟨bq,0,none⟩) (some ⟨bl,0,none⟩),70,true⟩::⟨bq,bD c.qt,163,true⟩::⟨bl,bH K.mz,109,true⟩:: (Ea++(Ec++(Er++(E2++Ew)))):List Ent):=⟨_,rfl⟩
 have hT1:RG c (some ⟨b,0,none⟩) T C { K with tb:=ov K.tb i g,o:=some (bJ oi og 1 0 tg) } E1:=⟨b,pa,pc,pr,bt,pw,bq,bl,Ea,Ec,Er,E2,Ew,rfl,hA,hC,hQ,h1,hW,hcf,hE1⟩
 replace hS:St w0 bs w (⟨b4,vD i g,259,true⟩::(E1++H1)):=by
  rw[hE1]
  simp only[bX]
  exact hS.p
 clear hE1
 go_wp2_with (go_at_call 173;refine oQ (hM:=(inferInstance:MapIn Ms5 K.me [])) hB hS hT1 rfl hoi'.out hog2.out htg ?_;clear hS;intro E3 w hT3 hS;unfold ab)
 exact hR _ _ _ _ hT3 hB (by(try simp only[aP]);exact hS.p)
theorem t4 (hB:Mps W As w0 bs Ms)(hO:St w0 bs w H)(hT:RG c p T C K E)[hc:Cut H E H1](ho:K.o=some (bJ oi og 1 0 tg))(hoi:0≤oi∧oi<64)(hog:1≤og∧og≤4294967295)(htg:TagW tg)(hi:0≤i∧i<256)(hg' : 1≤g∧g≤4294967295)
  [k0:MapIn Ms K.me [(vI i,.agg (fd i g hs hg))]] [h0:MapIn Ms K.mc [(vI i,vI 1)]] [h1:MapIn Ms K.mo [(vI i,vR hs hg)]] [hz1:MapUp Ms K.mo [(vI i,vR hs hg)] [] Ms1] [h3:MapIn Ms1 K.mb [(vR hs hg,vI i)]] [hz2:MapUp Ms1 K.mb [(vR hs hg,vI i)] [] Ms2] [h4:MapIn Ms2 K.mc [(vI i,vI 1)]] [hz3:MapUp Ms2 K.mc [(vI i,vI 1)] [(vI i,vI 3)] Ms3] [h5:MapIn Ms3 K.mc [(vI i,vI 3)]] [hz4:MapUp Ms3 K.mc [(vI i,vI 3)] [] Ms4]
  [k1:MapIn Ms4 K.me [(vI i,.agg (fd i g hs hg))]] [k2:MapUp Ms4 K.me [(vI i,.agg (fd i g hs hg))] [] Ms5] [k3:MapIn Ms5 K.me []]
  (hR:∀ E' w0' bs' w',RG c p T C { K with tb:=ov K.tb i g,o:=some (bJ oi og 2 1 tg) } E'->Mps W As w0' bs' Ms5->St w0' bs' w' (E'++H1)->ab R (.int .i64 0) w'):Calls prog 106 #[.pointer p,.agg (vD i g)] w R:=by
 have hS:=hO.fr E H1
 clear hO
 go_enter func106,ntmps106
 go_wp2_with (first|refine am 259 rfl hS ?_;clear hS;intro b3 w _ hS|go_at_call 154;refine qn hB hS hT i g hi hg' 1 0 (.inl ⟨k0,rfl,rfl⟩) ?_;clear hS;intro w hS;unfold ab|go_at_call 159;refine rE (Ms5:=Ms5) (hs:=hs) (hg:=hg) hB hS hT ho hoi hog htg hi hg' ?_;clear hB hS;intro E2 w0 bs w hT2 hB hS;unfold ab|refine au rfl hS ?_)
 exact hR _ _ _ _ hT2 hB (by(try simp only[aP]);exact hS.p)
end
end Go.Proofs.YtnbgljbhkeffkaaGreatDoor
