/-
  Contracts of what the law TopPasses reaches, part 34: Mcg Tpa Tpb Tpc Tpd Tpe.
-/
import Derived.Test.YtnbgljbhkeffkaaGreatDoorQ33
import Derived.Test.YtnbgljbhkeffkaaGreatDoorQ32
open Go.Proofs.Tryz
set_option linter.unusedVariables false
set_option linter.unusedSimpArgs false
set_option maxHeartbeats 4000000
set_option maxRecDepth 100000
namespace Go.Proofs.YtnbgljbhkeffkaaGreatDoor
open Go.RowKit Go.Mm
variable {R:Ending->World->Prop}{w W:World}{w0:World}{As bs:List Nat}{H H' H1 H2 H3 E E' E1 E2 Ea Eh Er:List Ent}
variable {Ms Ms1 Ms2 Ms3:dF}
variable {c:Cfg}{p:Option Addr}{T:Ar}{C:Cy}{K:Rk}{D:Option (Int×Int)}{N:Nat}{l:List Int}{s:ByteArray}
theorem f9 (Φ:Int->Int->Ar->Cy->Rk->Option (Int×Int)->dF->Prop)(hB:Mps W As w0 bs Ms)(hO:St w0 bs w H)(hT:MH c p T C K D N E)[hc:Cut H E H1](hl5:l.length=5)(hN1:N+1<100000)
  (hdo:∀ (H:List Ent) (w0:World) (bs:List Nat) (w:World) (R:Ending->World->Prop),Mps W As w0 bs Ms->St w0 bs w (E++H)->Fx c p N W As H R Φ->Calls prog 14 #[.pointer p,.agg (aQ l s)] w R)
  (hR:Fx c p (N+1) W As H1 R Φ):Calls prog 7 #[.pointer p,.agg (aQ l s)] w R:=by
 have hS:=hO.fr E H1
 clear hO
 obtain⟨b,br,v1,v2,xs,Eg,Ed,El,rfl,hG,hD,hN,hN0,hE⟩:=id hT
 have hHas:∀ X,Has (E++X) b (cP c.m (some ⟨br,0,none⟩) v1 v2) 53:=fun X=>⟨⟨true,by rw[hE];exact .head _⟩⟩
 have hone:=eo (l:=l) (s:=s)
 have hsz:SizeIs (aQ l s) 6:=⟨by simp[aQ,hl5]⟩
 have hcl6:=BX (s:=s) hl5
 clear hG hD hN hE
 go_enter func7,ntmps7
 go_wp2_with (first|refine am 38 rfl hS ?_;clear hS;intro b3 w _ hS|refine aq (o:=⟨some 4,_,_,_,_,_⟩) _ rfl hS ?_;clear hS;intro b4 w _ hS|refine aq (o:=⟨some 5,_,_,_,_,_⟩) _ rfl hS ?_;clear hS;intro b5 w _ hS|go_at_call 13;refine nn (m:=c.m) (v1:=v1) (v2:=v2) (br:=br) hS ?_;clear hS;intro w hS;unfold ab|go_at_call 14;refine hdo (⟨b4,bZ 0 0,35,true⟩::⟨b3,aQ l s,38,true⟩::H1) w0 bs w _ hB hS.p ?_;clear hB hS;intro e n T2 C2 K2 D2 E2 Ms2 w0 bs w hΦ hT2 hB hS;unfold ab|refine au rfl hS ?_|refine ak rfl hS ?_;clear hS;intro w hS)
 obtain⟨b',br2,u1,u2,xs2,Eg2,Ed2,El2,hbb,hG2,hD2,hN2,hN02,rfl⟩:=id hT2
 obtain rfl:b=b':=by simpa using hbb
 clear hbb
 simp only[bX] at hS
 have hone2:=hN2.one
 refine iA b 53 35 (fun v=>cP c.m (some ⟨br2,0,none⟩) u1 v) u2 El2 (⟨b5,bZ e n,35,true⟩::⟨b4,bZ 0 0,35,true⟩::⟨b3,aQ l s,38,true⟩::(Eg2++(Ed2++H1))) 2 N xs2 (bZ e n) hS ?_
 iterate 6 first|(refine lf (fun _=>rfl) rfl (fun χ w Y hw=>ac _ _ rfl hw) ?_)|(refine lf (fun _=>rfl) rfl (fun χ w Y hw=>ai _ _ rfl hw) ?_)|(refine oP (fun χ w=>ad rfl) ?_)|(refine oP (fun χ w=>ag rfl) ?_)|(refine oP (fun χ w=>ah rfl) ?_)
 refine vF rfl (fun _=>rfl) (fun χ w hw=>?_) ?_
 ·exact fo 19 rfl (by simp) (eD _ 1 [(0,_)] rfl hw (by decide) rfl (by decide) (by decide) (fun bn w' _ hS'=>⟨_,rfl,bn,rfl,by simpa using hS'⟩))
 refine vG rfl rfl rfl 20 rfl (fun χ=>by simp) (fun _=>rfl) rfl hN2 inferInstance (by simp only[maxLen];omega) (by omega) ?_
 iterate 2 first|(refine oP (fun χ w=>ag rfl) ?_)|(refine oP (fun χ w=>ah rfl) ?_)
 refine vC rfl rfl (fun _=>rfl) (fun χ w v' hv' h1 hw=>?_) ?_
 ·subst hv'
  exact bV rfl hw (fun w' hS'=>⟨rfl,hS'⟩)
 refine pH rfl ?_
 intro v' E3 χ w hv' hsl hne hS
 obtain⟨bn,hbn⟩:∃ x,x=(χ 6).2.2:=⟨_,rfl⟩
 simp only[← hv',← hbn]
 clear hv' hbn χ
 go_wp2_with (first|refine au rfl hS ?_|refine ak rfl hS ?_;clear hS;intro w hS)
 refine bodyPost_ret (aI rfl hS) rfl ?_
 exact hR e n T2 C2 K2 D2 _ Ms2 w0 bs _ hΦ ⟨b,br2,u1,v',_,Eg2,Ed2,E3,rfl,hG2,hD2,hsl,hN1,rfl⟩ hB (by(try simp only[aP]);exact hS.p)
open Go Go.RowKit Go.Mm
variable {c:Cfg}{p:Option Addr}{T:Ar}{C:Cy}{K:Rk}{D:Option (Int×Int)}{N:Nat}
abbrev eA:ByteArray:={ data:=#[] }
def Dz (c:Cfg)(p:Option Addr)(K:Rk)(D:Option (Int×Int))(Ms:dF)(W:World)(As:List Nat)(o:List Int)(I J:Ar->Cy->Prop):Prop:=
 ∀ (T:Ar) (C:Cy) (N:Nat) (E H1:List Ent) (w0:World) (bs:List Nat) (w:World) (R:Ending->World->Prop),I T C->MH c p T C K D N E->N+1<100000->Mps W As w0 bs Ms->St w0 bs w (E++H1) ->
  (∀ T' C' E' w0' bs' w',J T' C'->MH c p T' C' K D (N+1) E'->Mps W As w0' bs' Ms->St w0' bs' w' (E'++H1)->ab R (.agg (bZ 0 0)) w')->Calls prog 7 #[.pointer p,.agg (aQ o eA)] w R
theorem ki {k f m:Nat}{a b d:Int}{x y:ByteArray}{I J:Ar->Cy->Prop}(hf:EU[k]?=some f)(hw:wsL[k+1]?=some (x,y))(hP:Pts eA (g5 y) [((k+1:Nat):Int),m,a,b,d] eA [((k+1:Nat):Int),0,0,0,0] eA)(hv:zc y=true)(hm:m<c.m)
  (hcl:∀ (T:Ar) (C:Cy) (p:Option Addr) (E H:List Ent) (b2 b3:Nat) (w0:World) (bs:List Nat) (w:World) (R:Ending->World->Prop),I T C->RG c p T C K E->St w0 bs w (mn b2 b3 p [((k+1:Nat):Int),m,a,b,d] eA (E++H)) ->
   (∀ T' C' E' w',J T' C'->RG c p T' C' K E'->St w0 bs w' (mn b2 b3 p [((k+1:Nat):Int),m,a,b,d] eA (E'++H))->ab R (.int .i64 0) w')->Calls prog f #[.pointer (some ⟨b2,0,none⟩),.pointer (some ⟨b3,0,none⟩)] w R) :
  Dz c p K D Ms W As [((k+1:Nat):Int),m,a,b,d] I J:=by
 intro T C N E H1 w0 bs w R hI hT hN hB hS hR
 have hk6:k<6:=(List.getElem?_eq_some_iff.1 hf).1
 refine f9 (fun e n T' C' K' D' Ms'=>e=0∧n=0∧J T' C'∧K'=K∧D'=D∧Ms'=Ms) hB hS hT rfl hN (fun H w0 bs w R hB hS hd=>?_) ?_
 ·refine pk (k:=k+1) (fun e T' C'=>e=0∧J T' C') hB hS hT hw (by omega) hP true false hv (by unfold xB;simp;omega) (fun _=>DF) (fun h=>by cases h) (by omega) (fun p E H w0 bs w R hG hS hR=>?_) (fun e T' C' E' w0' bs' w' h1 h2 hB hS=>?_)
  ·refine iz hf (fun e T' C'=>e=0∧J T' C') hS hG (fun b2 b3 H w R hS hR=>?_) (fun e T' C' E' w' h1 h2 hS=>hR e T' C' E' w' h1 h2 hS)
   exact hcl T C p E H b2 b3 w0 bs w R hI hG hS (fun T' C' E' w' h1 h2 hS=>hR 0 T' C' E' w' ⟨rfl,h1⟩ h2 hS)
  ·obtain⟨rfl,h1⟩:=h1
   exact hd 0 0 T' C' K D E' Ms w0' bs' w' ⟨rfl,rfl,h1,rfl,rfl,rfl⟩ h2 hB hS
 ·rintro e n T' C' K' D' E' Ms' w0' bs' w' ⟨rfl,rfl,h1,rfl,rfl,rfl⟩ h2 hB hS
  exact hR T' C' E' w0' bs' w' h1 h2 hB hS
def PW (c:Cfg)(hn:Nat)(hg:Int)(B:Nat)(ob:Option (Nat×Int×List Rg))(rts:List (List Rf))(vs:List Rf)(S:Ck->Prop)(T:Ar)(C:Cy):Prop:=
 HI c.z T.1 hn hg∧T.2.1=rts∧T.2.2=vs∧GC c.z c.m hn B S C∧∀ x,ob=some x->x.1<c.z∧x.1≠hn∧T.1.getD x.1 d8=(1,x.2.1,(1,x.2.2,false))
section
variable {hn B:Nat}{hg:Int}{ob:Option (Nat×Int×List Rg)}{rts:List (List Rf)}{vs:List Rf}{S S' : Ck->Prop}
theorem sa {m:Nat}(hl:rts.length=c.m)(h2:T.2.1=rts)(hm:m<c.m):fm T m=true:=by
 unfold fm
 rw[h2,hl]
 simp
 exact hm
theorem kI {m:Nat}{l:List Rf}(h2:T.2.1=rts)(hr:rts[m]?=some l):ez T m=l:=by
 unfold ez
 rw[h2,Int.toNat_natCast,List.getD_eq_getElem?_getD,hr]
 rfl
theorem wM {m i:Nat}{l:List Rf}{r:Rf}(hl:rts.length=c.m)(h2:T.2.1=rts)(hm:m<c.m)(hr:rts[m]?=some l)(hi:l[i]?=some r):fP T m i=0∧fk T m i=r:=by
 have hlt:i<l.length:=(List.getElem?_eq_some_iff.1 hi).1
 have he:fP T m i=0:=by
  unfold fP
  rw[if_pos (sa hl h2 hm),kI h2 hr,if_pos (by omega)]
 refine⟨he,?_⟩
 unfold fk
 rw[if_pos he,kI h2 hr,Int.toNat_natCast,List.getD_eq_getElem?_getD,hi]
 rfl
inductive Va (rts:List (List Rf)) (m:Nat):Int->Rf->Prop
 | none:Va rts m (-1) (0,0)
 | root {i:Nat} {l:List Rf} {r:Rf} : rts[m]?=some l->l[i]?=some r->Va rts m i r
theorem Va.ok {m:Nat}{a:Int}{v:Rf}(h:Va rts m a v)(hl:rts.length=c.m)(h2:T.2.1=rts)(hm:m<c.m):mj T m a=0∧jv T m a=v:=by
 cases h with
 | none=>
  unfold mj jv
  rw[sa hl h2 hm]
  exact⟨rfl,rfl⟩
 | root hr hi=>
  rename_i i l
  obtain⟨h3,h4⟩:=wM hl h2 hm hr hi
  unfold mj jv
  rw[if_neg (by simp),if_neg (by omega)]
  exact⟨h3,h4⟩
theorem lZ {m:Nat}{a:Int}{b:Nat}{u v:Rf}(hl:rts.length=c.m)(hm:m<c.m)(h4:c.m≤4)(ha : -1≤a∧a≤31)(hb:b<8)(hva:Va rts m a v)(hvs:vs.getD b (0,0)=u)(hu:0≤u.1∧u.1<c.z)(hv:0≤v.1∧v.1<c.z)
  (hE:∀ C M',GC c.z c.m hn B S C->Nt C.M M' m (if oz C.M.k m then mK [u,v] else [])->GC c.z c.m hn B S' { C with M:=M' }) :
  Dz c p K D Ms W As [5,m,a,b,0] (PW c hn hg B ob rts vs S) (PW c hn hg B ob rts (vs.set b v) S'):=by
 refine ki (k:=4) (f:=82) (x:={ data:=#[112,117,116] }) (y:={ data:=#[109,82,103] }) rfl rfl ?_ (by decide +kernel) hm (fun T C p E H b2 b3 w0 bs w R hI hG hS hR=>?_)
 ·exact .num (c:=109) (j:=1) (lo:=0) (hi:=3) (by decide) rfl (by omega) (by omega) (.num (c:=82) (j:=2) (lo:=(-1)) (hi:=31) (by decide) rfl ha.1 ha.2 (.num (c:=103) (j:=3) (lo:=0) (hi:=7) (by decide) rfl (by omega) (by omega) .nil))
 ·obtain⟨i1,i2,i3,i4,i5⟩:=hI
  obtain⟨e1,e2⟩:=hva.ok hl i2 hm
  refine AL u v hm hu hv hS hG e1 (by unfold ou;simp;omega) e2 (by rw[i3,Int.toNat_natCast];exact hvs) (fun M' E' w' hN hG' hS'=>hR (xp T b v) _ _ _ ⟨i1,i2,?_,hE C M' i4 hN,i5⟩ hG' hS')
  show T.2.2.set (b:Int).toNat v=_
  rw[i3,Int.toNat_natCast]
theorem vi {m b:Nat}{v:Rf}(hl:rts.length=c.m)(hm:m<c.m)(h4:c.m≤4)(hb:b<8)(hr:rts[m]?=some [])(hvs:vs.getD b (0,0)=v)(hv:v≠(0,0)) :
  Dz c p K D Ms W As [6,m,0,b,0] (PW c hn hg B ob rts vs S) (PW c hn hg B ob (rts.set m [v]) vs S):=by
 refine ki (k:=5) (f:=84) (x:={ data:=#[103,101,116] }) (y:={ data:=#[109,103] }) rfl rfl ?_ (by decide +kernel) hm (fun T C p E H b2 b3 w0 bs w R hI hG hS hR=>?_)
 ·exact .num (c:=109) (j:=1) (lo:=0) (hi:=3) (by decide) rfl (by omega) (by omega) (.num (c:=103) (j:=3) (lo:=0) (hi:=7) (by decide) rfl (by omega) (by omega) .nil)
 ·obtain⟨i1,i2,i3,i4,i5⟩:=hI
  have hvE:vE (some (true,T.2.2)) b=0:=by show(if ou b then (0:Int) else 3)=0;rw[if_pos (by unfold ou;simp;omega)]
  have hgr:ow (some (true,T.2.2)) b=v:=by
   unfold ow
   rw[if_pos hvE,Int.toNat_natCast]
   show T.2.2.getD b (0,0)=v
   rw[i3];exact hvs
  have hrl:=kI i2 hr
  refine AN v hS hG (sa hl i2 hm) ?_ (by rw[hrl];decide) hgr (fun E' w' hG' hS'=>hR (oy T m v) _ _ _ ⟨i1,?_,i3,i4,i5⟩ hG' hS')
  ·unfold Bi fE
   rw[if_pos hvE,hgr,if_neg (by rw[lD (x:=v) (y:=(0,0)) hv];simp)]
  ·show T.2.1.set (m:Int).toNat (ez T m++[v])=_
   rw[hrl,i2,Int.toNat_natCast]
   rfl
theorem jl {m:Nat}{r:Rf}{l:List Rf}(hl:rts.length=c.m)(hm:m<c.m)(h4:c.m≤4)(hr:rts[m]?=some (r::l)) :
  Dz c p K D Ms W As [4,m,0,0,0] (PW c hn hg B ob rts vs S) (PW c hn hg B ob (rts.set m l) vs S):=by
 refine ki (k:=3) (f:=80) (x:={ data:=#[100,114,111,112] }) (y:={ data:=#[109,114] }) rfl rfl ?_ (by decide +kernel) hm (fun T C p E H b2 b3 w0 bs w R hI hG hS hR=>?_)
 ·exact .num (c:=109) (j:=1) (lo:=0) (hi:=3) (by decide) rfl (by omega) (by omega) (.num (c:=114) (j:=2) (lo:=0) (hi:=31) (by decide) rfl (by omega) (by omega) .nil)
 ·obtain⟨i1,i2,i3,i4,i5⟩:=hI
  obtain⟨e1,e2⟩:=wM (i:=0) hl i2 hm hr rfl
  have hd:sK T m (0:Nat)=(T.1,T.2.1.set m l,T.2.2):=by
   unfold sK
   rw[if_pos e1,kI i2 hr,Int.toNat_natCast]
   rfl
  refine xF hS hG e1 (fun E' w' hG' hS'=>hR _ _ _ _ (show PW c hn hg B ob (rts.set m l) vs S (sK T m (0:Nat)) C from ?_) hG' hS')
  rw[hd]
  exact⟨i1,by rw[← i2],i3,i4,i5⟩
theorem y8 {j:Nat}{g:Int}{f:List Rg}(h:HI c.z T.1 hn hg)(hj:j<c.z)(ho:T.1.getD j d8=(1,g,(1,f,false))):eJ (ve T.1) j g=0∧Ss (ve T.1) j=(1,f,false):=by
 refine⟨wiz_iff.2 ⟨j,rfl,by rw[h.len];exact hj,by rw[ho],by rw[ho]⟩,?_⟩
 rw[ux,ho]
theorem yk {m j:Nat}{g:Int}{f:List Rg}{v:Rf}(hl:rts.length=c.m)(hm:m<c.m)(h4:c.m≤4)(hr:rts[m]?=some [((j:Int),g)])(hob:ob=some (j,g,f))(hf:f.getD 0 (0,0)=v)(hv:v≠(0,0)) :
  Dz c p K D Ms W As [2,m,0,0,0] (PW c hn hg B ob rts vs S) (PW c hn hg B ob (rts.set m [((j:Int),g),v]) vs S):=by
 refine ki (k:=1) (f:=75) (x:={ data:=#[108,111,97,100] }) (y:={ data:=#[109,114,105] }) rfl rfl ?_ (by decide +kernel) hm (fun T C p E H b2 b3 w0 bs w R hI hG hS hR=>?_)
 ·exact .num (c:=109) (j:=1) (lo:=0) (hi:=3) (by decide) rfl (by omega) (by omega) (.num (c:=114) (j:=2) (lo:=0) (hi:=31) (by decide) rfl (by omega) (by omega) (.num (c:=105) (j:=3) (lo:=0) (hi:=3) (by decide) rfl (by omega) (by omega) .nil))
 ·obtain⟨i1,i2,i3,i4,i5⟩:=hI
  obtain⟨o1,o2,o3⟩:=i5 _ hob
  obtain⟨q1,q2⟩:=y8 i1 o1 o3
  obtain⟨e1,e2⟩:=wM (i:=0) hl i2 hm hr rfl
  have hrl:=kI i2 hr
  have hld:qL T m (0:Nat) 0=v:=by
   unfold qL vV
   rw[if_pos e1,e2,if_pos q1,q2]
   show se (1,f,false) 0=v
   exact hf
  have hlx:uY T m (0:Nat) 0=0:=by
   unfold uY
   rw[if_pos e1,hld,e2]
   unfold A3
   rw[if_pos q1,q2]
   show fE 0 v=0
   unfold fE
   rw[if_pos rfl,if_neg (by rw[lD (x:=v) (y:=(0,0)) hv];simp)]
  refine xD v hS hG (sa hl i2 hm) hlx (by rw[hrl];exact(by decide:1<32)) hld (fun E' w' hG' hS'=>hR (oy T m v) _ _ _ ⟨i1,?_,i3,i4,i5⟩ hG' hS')
  show T.2.1.set (m:Int).toNat (ez T m++[v])=_
  rw[hrl,i2,Int.toNat_natCast]
  rfl
theorem nF {m j a:Nat}{cc:Int}{g:Int}{f:List Rg}{l:List Rf}{u v:Rf}(hl:rts.length=c.m)(hm:m<c.m)(h4:c.m≤4)(ha:a≤31)(hcc : -1≤cc∧cc≤31)(hr:rts[m]?=some l)(hla:l[a]?=some ((j:Int),g))(hva:Va rts m cc v)(hob:ob=some (j,g,f))(hf:f.getD 0 (0,0)=u)
  (hvh:v=(0,0)∨v=((hn:Int),hg)) (hu:0≤u.1∧u.1<c.z)
  (hE:∀ C M',GC c.z c.m hn B S C->Nt C.M M' m (if oz C.M.k m then mK [u,v] else [])->GC c.z c.m hn B S' { C with M:=M' }) :
  Dz c p K D Ms W As [3,m,a,0,cc] (PW c hn hg B ob rts vs S) (PW c hn hg B (some (j,g,f.set 0 v)) rts vs S'):=by
 refine ki (k:=2) (f:=77) (x:={ data:=#[115,116,111,114,101] }) (y:={ data:=#[109,114,105,118] }) rfl rfl ?_ (by decide +kernel) hm (fun T C p E H b2 b3 w0 bs w R hI hG hS hR=>?_)
 ·exact .num (c:=109) (j:=1) (lo:=0) (hi:=3) (by decide) rfl (by omega) (by omega) (.num (c:=114) (j:=2) (lo:=0) (hi:=31) (by decide) rfl (by omega) (by omega) (.num (c:=105) (j:=3) (lo:=0) (hi:=3) (by decide) rfl (by omega) (by omega) (.num (c:=118) (j:=4) (lo:=(-1)) (hi:=31) (by decide) rfl hcc.1 hcc.2 .nil)))
 ·obtain⟨i1,i2,i3,i4,i5⟩:=hI
  obtain⟨o1,o2,o3⟩:=i5 _ hob
  simp only at o1 o2 o3
  obtain⟨q1,q2⟩:=y8 i1 o1 o3
  obtain⟨e1,e2⟩:=wM hl i2 hm hr hla
  obtain⟨v1,v2⟩:=hva.ok hl i2 hm
  have hlen:j<T.1.length:=by rw[i1.len];exact o1
  have hse:mm (some (some T.1)) j g 0 v=0:=by
   unfold mm
   rw[if_pos q1,q2]
   show(if cd v.1 v.2 0 0=true then (0:Int) else eJ (ve T.1) v.1 v.2)=0
   rcases hvh with rfl|rfl
   ·rfl
   ·split
    ·rfl
    ·exact i1.wi
  have hsr:oo (some (some T.1)) j g 0 v=u:=by
   unfold oo
   rw[if_pos hse,q2]
   exact hf
  have hv:0≤v.1∧v.1<c.z:=by
   have:=i1.zz
   have:=i1.hl
   rcases hvh with rfl|rfl
   ·simp;omega
   ·simp;omega
  have hst:vQ T m a 0 cc=(T.1.set j (1,g,(1,f.set 0 v,false)),T.2.1,T.2.2):=by
   unfold vQ
   rw[e2,v2]
   unfold oI
   rw[if_pos hse,q2]
   show(oq T.1 ((j:Int).toNat) g (zO (1,f,false) 0 v),T.2.1,T.2.2)=_
   rw[Int.toNat_natCast]
   rfl
  refine uD (a:=a) (b:=0) (c:=cc) ((j:Int),g) u v hm hu hv hS hG e1 v1 e2 v2 hse hsr (fun M' E' w' hN hG' hS'=>hR (vQ T m a 0 cc) _ _ _ ?_ hG' hS')
  rw[hst]
  refine⟨i1.set o1 o2 (by have:=i1.gn j o1;rw[o3] at this;exact this) rfl,i2,i3,hE C M' i4 hN,fun x hx=>?_⟩
  obtain rfl:(j,g,f.set 0 v)=x:=by simpa using hx
  exact⟨o1,o2,by show(T.1.set j _).getD j d8=_;rw[dQ hlen,if_pos rfl]⟩
theorem pj (h:HI c.z T.1 hn hg):(i8 (some (some T.1)) 1 false=4)∨∃ j g,j<c.z∧j≠hn∧1≤g∧i8 (some (some T.1)) 1 false=0∧kX (some (some T.1)) 1 false=((j:Int),g)∧iJ (qD (some (some T.1)) 1 false)=T.1.set j (1,g,(1,zero4,false)):=by
 have hmi:lN T.1 1 false=firstOf (cJ 0 (cY T.1)) (cY T.1).length:=rfl
 cases hf:firstOf (cJ 0 (cY T.1)) (cY T.1).length with
 | none=>
  left
  show(if (lN T.1 1 false).isSome=true then (0:Int) else 4)=4
  rw[hmi,hf]
  rfl
 | some j=>
  right
  obtain⟨h1,h2,_⟩:=ic hf
  rw[cb] at h1
  have hj:j<c.z:=by rw[← h.len];exact h1
  have hne:j≠hn:=fun e=>by
   subst e
   unfold cJ at h2
   rw[cT,h.hs.1] at h2
   exact absurd h2 (by decide)
  refine⟨j,(T.1.getD j d8).2.1,hj,hne,h.gn j hj,?_,?_,?_⟩
  ·show(if (lN T.1 1 false).isSome=true then (0:Int) else 4)=0
   rw[hmi,hf]
   rfl
  ·show(match lN T.1 1 false with|some i=>((i:Int),(T.1.getD i d8).2.1)|none=>(0,0))=_
   rw[hmi,hf]
  ·show iJ (match lN T.1 1 false with|some i=>some (some (qE T.1 i (lM 1 false)))|none=>some (some T.1))=_
   rw[hmi,hf]
   rfl
theorem v6 {m:Nat}{r:Rf}(hl:rts.length=c.m)(hm:m<c.m)(h4:c.m≤4)(hr:rts[m]?=some [r])(he:i8 (some (some T.1)) 1 false=4)(hI:PW c hn hg B none rts vs S T C)(hT:MH c p T C K D N E)(hN:N+1<100000)(hB:Mps W As w0 bs Ms)(hS:St w0 bs w (E++H1))
  (hR1:∀ E' w0' bs' w',MH c p T C K D (N+1) E'->Mps W As w0' bs' Ms->St w0' bs' w' (E'++H1)->ab R (.agg (bZ 4 0)) w') :
  Calls prog 7 #[.pointer p,.agg (aQ [1,m,1,0,0] eA)] w R:=by
 obtain⟨i1,i2,i3,i4,i5⟩:=id hI
 have hin:=sa hl i2 hm
 have hrl:=kI i2 hr
 have hlt:(ez T m).length<32:=by rw[hrl];exact(by decide:1<32)
 have hP:Pts eA (g5 { data:=#[109,110] }) [((1:Nat):Int),m,1,0,0] eA [((1:Nat):Int),0,0,0,0] eA:=.num (c:=109) (j:=1) (lo:=0) (hi:=3) (by decide) rfl (by omega) (by omega) (.num (c:=110) (j:=2) (lo:=0) (hi:=4) (by decide) rfl (by omega) (by omega) .nil)
 refine f9 (fun e n T' C' K' D' Ms'=>e=4∧n=0∧T'=T∧C'=C∧K'=K∧D'=D∧Ms'=Ms) hB hS hT rfl hN (fun H w0 bs w R hB hS hd=>?_) ?_
 ·refine pk (k:=1) (x:={ data:=#[110,101,119] }) (y:={ data:=#[109,110] }) (fun e T' C'=>e=4∧T'=T∧C'=C) hB hS hT rfl (by omega) hP true false (by decide +kernel) (by rfl) (fun _=>DF) (fun h=>by cases h) (by omega) (fun p E H w0 bs w R hG hS hR=>?_) (fun e T' C' E' w0' bs' w' h1 h2 hB hS=>?_)
  ·refine iz (k:=0) (f:=71) rfl (fun e T' C'=>e=4∧T'=T∧C'=C) hS hG (fun b2 b3 H w R hS hR=>?_) (fun e T' C' E' w' h1 h2 hS=>hR e T' C' E' w' h1 h2 hS)
   exact xE 4 hS hG hin (by rfl) hlt he (by decide) (fun E' w' h2 hS=>hR 4 T C E' w' ⟨rfl,rfl,rfl⟩ h2 hS)
  ·obtain⟨rfl,rfl,rfl⟩:=h1
   exact hd 4 0 _ _ K D E' Ms w0' bs' w' ⟨rfl,rfl,rfl,rfl,rfl,rfl,rfl⟩ h2 hB hS
 ·rintro e n T' C' K' D' E' Ms' w0' bs' w' ⟨rfl,rfl,rfl,rfl,rfl,rfl,rfl⟩ h2 hB hS
  exact hR1 E' w0' bs' w' h2 hB hS
theorem v5 {m j:Nat}{g:Int}{r:Rf}(hl:rts.length=c.m)(hm:m<c.m)(h4:c.m≤4)(hr:rts[m]?=some [r])(hj:j<c.z)(hne:j≠hn)(hg1:1≤g)(he:i8 (some (some T.1)) 1 false=0)(hmr:kX (some (some T.1)) 1 false=((j:Int),g))(hmt:iJ (qD (some (some T.1)) 1 false)=T.1.set j (1,g,(1,zero4,false)))(hI:PW c hn hg B none rts vs S T C)(hT:MH c p T C K D N E)(hN:N+1<100000)(hB:Mps W As w0 bs Ms)(hS:St w0 bs w (E++H1))
  (hR2:∀ T' C' E' w0' bs' w',PW c hn hg B (some (j,g,zero4)) (rts.set m [r,((j:Int),g)]) vs S T' C'->MH c p T' C' K D (N+1) E'->Mps W As w0' bs' Ms->St w0' bs' w' (E'++H1)->ab R (.agg (bZ 0 0)) w') :
  Calls prog 7 #[.pointer p,.agg (aQ [1,m,1,0,0] eA)] w R:=by
 obtain⟨i1,i2,i3,i4,i5⟩:=id hI
 have hin:=sa hl i2 hm
 have hrl:=kI i2 hr
 have hlt:(ez T m).length<32:=by rw[hrl];exact(by decide:1<32)
 have hP:Pts eA (g5 { data:=#[109,110] }) [((1:Nat):Int),m,1,0,0] eA [((1:Nat):Int),0,0,0,0] eA:=.num (c:=109) (j:=1) (lo:=0) (hi:=3) (by decide) rfl (by omega) (by omega) (.num (c:=110) (j:=2) (lo:=0) (hi:=4) (by decide) rfl (by omega) (by omega) .nil)
 have hmk:fg T m 1 false=(T.1.set j (1,g,(1,zero4,false)),T.2.1.set m [r,((j:Int),g)],T.2.2):=by
  unfold fg
  rw[hmt,hmr,hrl,Int.toNat_natCast]
  rfl
 have hlen:j<T.1.length:=by rw[i1.len];exact hj
 have hPW:∀ L',Up C.M.L L'->PW c hn hg B (some (j,g,zero4)) (rts.set m [r,((j:Int),g)]) vs S (fg T m 1 false) { C with M:={ C.M with L:=L' } }:=fun L' hU=>by
  rw[hmk]
  refine⟨i1.set hj hne hg1 rfl,by rw[← i2],i3,i4.up hU,fun x hx=>?_⟩
  obtain rfl:(j,g,zero4)=x:=by simpa using hx
  exact⟨hj,hne,by show(T.1.set j _).getD j d8=_;rw[dQ hlen,if_pos rfl]⟩
 refine f9 (fun e n T' C' K' D' Ms'=>e=0∧n=0∧PW c hn hg B (some (j,g,zero4)) (rts.set m [r,((j:Int),g)]) vs S T' C'∧K'=K∧D'=D∧Ms'=Ms) hB hS hT rfl hN (fun H w0 bs w R hB hS hd=>?_) ?_
 ·refine pk (k:=1) (x:={ data:=#[110,101,119] }) (y:={ data:=#[109,110] }) (fun e T' C'=>e=0∧PW c hn hg B (some (j,g,zero4)) (rts.set m [r,((j:Int),g)]) vs S T' C') hB hS hT rfl (by omega) hP true false (by decide +kernel) (by rfl) (fun _=>DF) (fun h=>by cases h) (by omega) (fun p E H w0 bs w R hG hS hR=>?_) (fun e T' C' E' w0' bs' w' h1 h2 hB hS=>?_)
  ·refine iz (k:=0) (f:=71) rfl (fun e T' C'=>e=0∧PW c hn hg B (some (j,g,zero4)) (rts.set m [r,((j:Int),g)]) vs S T' C') hS hG (fun b2 b3 H w R hS hR=>?_) (fun e T' C' E' w' h1 h2 hS=>hR e T' C' E' w' h1 h2 hS)
   exact AM j g hj hg1 hS hG hin (by rfl) hlt he hmr (fun L' E' w' hU h2 hS=>hR 0 _ _ E' w' ⟨rfl,hPW L' hU⟩ h2 hS)
  ·obtain⟨rfl,h1⟩:=h1
   exact hd 0 0 _ _ K D E' Ms w0' bs' w' ⟨rfl,rfl,h1,rfl,rfl,rfl⟩ h2 hB hS
 ·rintro e n T' C' K' D' E' Ms' w0' bs' w' ⟨rfl,rfl,h1,rfl,rfl,rfl⟩ h2 hB hS
  exact hR2 T' C' E' w0' bs' w' h1 h2 hB hS
end
open Go Go.RowKit Go.Mm
def ct (m k:Nat)(l:List Rf):List (List Rf):=(List.replicate m []).set k l
theorem bR (m k:Nat)(l:List Rf):(ct m k l).length=m:=by simp [ct]
theorem cN {m k:Nat}{l:List Rf}(hk:k<m):(ct m k l)[k]?=some l:=by simp [ct,hk]
theorem lz {m k i:Nat}{l:List Rf}(hi:i<m)(hne:i≠k):(ct m k l)[i]?=some []:=by
 unfold ct
 rw[List.getElem?_set,if_neg (fun e=>hne e.symm),List.getElem?_replicate,if_pos hi]
theorem fx {m k:Nat}{l l' : List Rf} : (ct m k l).set k l'=ct m k l':=by simp [ct]
def PS (c:Cfg)(hn:Nat)(hg:Int)(k B:Nat)(T:Ar)(C:Cy):Prop:=k<c.m∧PW c hn hg B none (ct c.m k [((hn:Int),hg)]) zero8 (vW k) T C
section
variable {hn k B:Nat}{hg:Int}
theorem PS.pre (hm4:c.m≤4)(hB:B<1000000)(h:PS c hn hg k B T C):CyPre c.z c.m T C:=by
 obtain⟨hk,i1,i2,i3,i4,i5⟩:=h
 refine⟨i1.len,by rw[i2,bR],i4.ph,⟨i4.cy.1,by have:=i4.cy.2;omega⟩,?_,?_,i1.al,fun q=>⟨i4.at4 q,i1.kept rfl (i4.at4 q) (fun _=>i4.p4 (by omega))⟩,i4.nx5⟩
 ·have:=yL (L:=T.1)
  have:=i1.len
  have:=i1.zz
  show(jr (ve T.1)).length≤300
  omega
 ·show(List.filter f8 T.2.2).length≤300
  rw[i3]
  decide
theorem PS.step (hm4:c.m≤4){T' : Ar}{C' : Cy}(h:PS c hn hg k B T C)(hO:i9 c.z c.m T C T' C'):PS c hn hg k (B+1) T' C':=by
 obtain⟨hk,i1,i2,i3,i4,i5⟩:=h
 have h4:=i4.step i1.zz.1 hk hm4 i1.hl hO
 have hT:HI c.z T'.1 hn hg∧T'.2=T.2:=by
  rcases hO with ⟨_,rfl,_⟩|⟨_,_,rfl,_⟩|⟨_,rfl,_⟩|⟨h5,rfl,_⟩
  ·exact⟨i1,rfl⟩
  ·exact⟨i1,rfl⟩
  ·exact⟨i1,rfl⟩
  ·exact i1.sweep (i4.p4 (by omega))
 exact⟨hk,hT.1,by rw[hT.2];exact i2,by rw[hT.2];exact i3,h4,fun x hx=>by cases hx⟩
theorem PS.ack {C' : Cy}{i:Nat}(h:PS c hn hg k B T C)(hA:pI c.z T C C' i):PS c hn hg k B T C':=by
 obtain⟨hk,i1,i2,i3,i4,i5⟩:=h
 refine⟨hk,i1,i2,i3,i4.ack (hg:=hg) (rs:=[]) hA (by have:=i1.hl;omega) (by unfold j9;exact decide_eq_true i1.wi) (fun e=>?_),fun x hx=>by cases hx⟩
 subst e
 rw[kI i2 (cN hk)]
 exact .head _
theorem PS.ask {C' : Cy}(h:PS c hn hg k B T C)(hA:kB C C'):PS c hn hg k B T C':=by
 obtain⟨hk,i1,i2,i3,i4,i5⟩:=h
 exact⟨hk,i1,i2,i3,i4.ask hA,fun x hx=>by cases hx⟩
theorem PS.rt300 (h:PS c hn hg k B T C)(i:Nat)(hi:i<c.m):(ez T i).length≤300:=by
 obtain⟨hk,i1,i2,i3,i4,i5⟩:=h
 by_cases e:i=k
 ·subst e
  rw[kI i2 (cN hk)]
  exact(by decide:1≤300)
 ·rw[kI i2 (lz hi e)]
  exact Nat.zero_le _
def D4 (c:Cfg)(p:Option Addr)(hn:Nat)(hg:Int)(k B:Nat)(K:Rk)(D:Option (Int×Int))(N:Nat)(Ms:dF)(W:World)(As:List Nat)(H1:List Ent)(ok:Int->Prop)(R:Ending->World->Prop):Prop:=
 ∀ e T' C' E' w0' bs' w',ok e->PS c hn hg k B T' C'->MH c p T' C' K D (N+1) E'->Mps W As w0' bs' Ms->St w0' bs' w' (E'++H1)->ab R (.agg (bZ e 0)) w'
theorem zw {i:Nat}(hi:i<c.m)(h4:c.m≤4)(hI:PS c hn hg k B T C)(hT:MH c p T C K D N E)(hN:N+1<100000)(hB:Mps W As w0 bs Ms)(hS:St w0 bs w (E++H1))(hR:D4 c p hn hg k B K D N Ms W As H1 (fun _=>True) R) :
  Calls prog 7 #[.pointer p,.agg (aQ [7,i,0,0,0] eA)] w R:=by
 refine f9 (fun e n T' C' K' D' Ms'=>n=0∧PS c hn hg k B T' C'∧K'=K∧D'=D∧Ms'=Ms) hB hS hT rfl hN (fun H w0 bs w R hB hS hd=>?_) ?_
 ·refine j2 (k:=7) (f:=60) (x:={ data:=#[97,99,107] }) (y:={ data:=#[109] }) hB hS hT rfl (by omega) (.num (c:=109) (j:=1) (lo:=0) (hi:=3) (by decide) rfl (by omega) (by omega) .nil) true false (by decide +kernel) (by rfl) (fun _=>DF) (fun h=>by cases h) (by omega) rfl ae (fun H w0 bs w R hB hS hd=>?_) hd
  exact AQ hS hT hI.2.1.len (by rw[hI.2.2.1,bR]) hi (hI.rt300 i hi) (fun C' E' w' e h1 h2 hS=>hd e 0 T C' K D E' Ms w0 bs w' ⟨rfl,hI.ack h1,rfl,rfl,rfl⟩ h2 hB hS)
 ·rintro e n T' C' K' D' E' Ms' w0' bs' w' ⟨rfl,h1,rfl,rfl,rfl⟩ h2 hB hS
  exact hR e T' C' E' w0' bs' w' trivial h1 h2 hB hS
theorem sT (hI:PS c hn hg k B T C)(hT:MH c p T C K D N E)(hN:N+1<100000)(hB:Mps W As w0 bs Ms)(hS:St w0 bs w (E++H1))(hR:D4 c p hn hg k B K D N Ms W As H1 (fun e=>e=0) R) :
  Calls prog 7 #[.pointer p,.agg (aQ [16,0,0,0,0] eA)] w R:=by
 refine f9 (fun e n T' C' K' D' Ms'=>e=0∧n=0∧PS c hn hg k B T' C'∧K'=K∧D'=D∧Ms'=Ms) hB hS hT rfl hN (fun H w0 bs w R hB hS hd=>?_) ?_
 ·refine j2 (k:=16) (f:=69) (x:={ data:=#[99,121,99,108,101] }) (y:={ data:=#[] }) hB hS hT rfl (by omega) .nil false false (by decide +kernel) (by rfl) (fun h=>by cases h) (fun h=>by cases h) (by omega) rfl ae (fun H w0 bs w R hB hS hd=>?_) hd
  exact uG (x0:=0) hS hT (fun C' E' w' h1 h2 hS=>hd 0 0 T C' K D E' Ms w0 bs w' ⟨rfl,rfl,hI.ask h1,rfl,rfl,rfl⟩ h2 hB hS)
 ·rintro e n T' C' K' D' E' Ms' w0' bs' w' ⟨rfl,rfl,h1,rfl,rfl,rfl⟩ h2 hB hS
  exact hR 0 T' C' E' w0' bs' w' rfl h1 h2 hB hS
theorem sV (n:Nat){l l2:List (Value×Value)}(hl:Lv K.o n)(hle:l=[]∨∃ i g s h,l=[(vI i,.agg (fd i g s h))])[hM:MapIn Ms K.me l](hL:0<K.L.length)[hM2:MapIn Ms K.mf l2][hM3:MapIn Ms K.ml []](hI:PS c hn hg k B T C)(hT:MH c p T C K D N E)(hN:N+1<100000)(hB:Mps W As w0 bs Ms)(hS:St w0 bs w (E++H1))(hR:D4 c p hn hg k B K D N Ms W As H1 (fun e=>e=0) R) :
  Calls prog 7 #[.pointer p,.agg (aQ [14,0,0,0,0] eA)] w R:=by
 refine f9 (fun e n T' C' K' D' Ms'=>e=0∧n=0∧PS c hn hg k B T' C'∧K'=K∧D'=D∧Ms'=Ms) hB hS hT rfl hN (fun H w0 bs w R hB hS hd=>?_) ?_
 ·refine j2 (k:=14) (f:=67) (x:={ data:=#[98,97,116,99,104] }) (y:={ data:=#[] }) hB hS hT rfl (by omega) .nil false false (by decide +kernel) (by rfl) (fun h=>by cases h) (fun h=>by cases h) (by omega) rfl ae (fun H w0 bs w R hB hS hd=>?_) hd
  exact uI (x0:=0) n (l2:=l2) hB hS hT hl hle hL (fun w0' bs' w' hB hS=>hd 0 0 T C K D E Ms w0' bs' w' ⟨rfl,rfl,hI,rfl,rfl,rfl⟩ hT hB hS)
 ·rintro e n T' C' K' D' E' Ms' w0' bs' w' ⟨rfl,rfl,h1,rfl,rfl,rfl⟩ h2 hB hS
  exact hR 0 T' C' E' w0' bs' w' rfl h1 h2 hB hS
theorem v7 (n:Nat)(hn1:1≤n∧n≤10000)(h4:c.m≤4)(hb:B+n<1000000)(hI:PS c hn hg k B T C)(hT:MH c p T C K D N E)(hN:N+1<100000)(hB:Mps W As w0 bs Ms)(hS:St w0 bs w (E++H1))(hR:D4 c p hn hg k (B+n) K D N Ms W As H1 (fun e=>e=0) R) :
  Calls prog 7 #[.pointer p,.agg (aQ [13,0,n,0,0] eA)] w R:=by
 refine f9 (fun e n' T' C' K' D' Ms'=>e=0∧n'=0∧PS c hn hg k (B+n) T' C'∧K'=K∧D'=D∧Ms'=Ms) hB hS hT rfl hN (fun H w0 bs w R hB hS hd=>?_) ?_
 ·refine j2 (k:=13) (f:=66) (x:={ data:=#[109,97,114,107] }) (y:={ data:=#[115] }) hB hS hT rfl (by omega) (.num (c:=115) (j:=2) (lo:=1) (hi:=10000) (by decide) rfl (by omega) (by omega) .nil) false false (by decide +kernel) (by rfl) (fun h=>by cases h) (fun h=>by cases h) (by omega) rfl ae (fun H w0 bs w R hB hS hd=>?_) hd
  exact xH (x0:=0) (fun q T C=>PS c hn hg k (B+q) T C) n hn1 rfl hS hT hI (fun q T C hq h=>h.pre h4 (by omega)) (fun q T C T' C' hq h hO=>h.step h4 hO) (fun T' C' E' w' h1 h2 hS=>hd 0 0 T' C' K D E' Ms w0 bs w' ⟨rfl,rfl,h1,rfl,rfl,rfl⟩ h2 hB hS)
 ·rintro e n T' C' K' D' E' Ms' w0' bs' w' ⟨rfl,rfl,h1,rfl,rfl,rfl⟩ h2 hB hS
  exact hR 0 T' C' E' w0' bs' w' rfl h1 h2 hB hS
theorem sR {m:Nat}{i g hs h:Int}(hm:m<c.m)(h4:c.m≤4)(hi:0≤i∧i<256)(hg' : 1≤g∧g≤4294967295)(n e:Int)(hM:(MapIn Ms K.me [(vI i,.agg (fd i g hs h))]∧n=1∧e=0)∨(MapIn Ms K.me []∧n=0∧e=7))(hT:MH c p T C K (some (i,g)) N E)(hN:N+1<100000)(hB:Mps W As w0 bs Ms)(hS:St w0 bs w (E++H1))
  (hR:∀ E' w0' bs' w',MH c p T C K (some (i,g)) (N+1) E'->Mps W As w0' bs' Ms->St w0' bs' w' (E'++H1)->ab R (.agg (bZ e 0)) w') :
  Calls prog 7 #[.pointer p,.agg (aQ [10,m,0,0,0] eA)] w R:=by
 refine f9 (fun e' n' T' C' K' D' Ms'=>e'=e∧n'=0∧T'=T∧C'=C∧K'=K∧D'=some (i,g)∧Ms'=Ms) hB hS hT rfl hN (fun H w0 bs w R hB hS hd=>?_) ?_
 ·refine j2 (k:=10) (f:=63) (x:={ data:=#[117,115,101] }) (y:={ data:=#[109,100] }) hB hS hT rfl (by omega) (.num (c:=109) (j:=1) (lo:=0) (hi:=3) (by decide) rfl (by omega) (by omega) (.num (c:=100) (j:=2) (lo:=0) (hi:=1999) (by decide) rfl (by omega) (by omega) .nil)) true true (by decide +kernel) (by rfl) (fun _=>DF) (fun _=>by rfl) (by omega) rfl ae (fun H w0 bs w R hB hS hd=>?_) hd
  exact AP h hs hB hS hT hi hg' n e rfl hM (fun w' hS=>hd e 0 T C K (some (i,g)) E Ms w0 bs w' ⟨rfl,rfl,rfl,rfl,rfl,rfl,rfl⟩ hT hB hS)
 ·rintro e n T' C' K' D' E' Ms' w0' bs' w' ⟨rfl,rfl,rfl,rfl,rfl,rfl,rfl⟩ h2 hB hS
  exact hR E' w0' bs' w' h2 hB hS
end
open Go Go.RowKit Go.Mm
def m9 (o:List Int):List Value:=(aQ o eA).toList
def jU (os:List (List Int)):Array Value:=(os.flatMap m9).toArray
theorem uq:∀ (os:List (List Int)) (i:Nat) (o:List Int),(∀ o∈os,o.length=5)->os[i]?=some o->∀ j,j<6->(os.flatMap m9)[i * 6+j]?=(aQ o eA)[j]?
 | [],i,o,_,h,_,_=>by simp at h
 | q::os,0,o,h5,h,j,hj=>by
  simp at h
  subst h
  have hl:(m9 q).length=6:=by simp[m9,aQ,h5 q (by simp)]
  rw[List.flatMap_cons,Nat.zero_mul,Nat.zero_add,List.getElem?_append_left (by omega)]
  simp[m9]
 | q::os,i+1,o,h5,h,j,hj=>by
  have hl:(m9 q).length=6:=by simp[m9,aQ,h5 q (by simp)]
  have:=uq os i o (fun o ho=>h5 o (by simp[ho])) (by simpa using h) j hj
  rw[List.flatMap_cons,List.getElem?_append_right (by omega),hl,← this]
  congr 1
  omega
theorem rT {os:List (List Int)}{i:Nat}{o:List Int}(h5:∀ o∈os,o.length=5)(h:os[i]?=some o):CellsAt (jU os) (i * 6) 6 (aQ o eA):=⟨fun j hj=>by
 simp only[jU,List.getElem?_toArray]
 exact uq os i o h5 h j hj,by simp[aQ,h5 o (List.mem_of_getElem? h)]⟩
theorem Az {b n i:Nat}(hi:i<n):IdxV prog 90 (.slice (some ⟨b,0,none⟩) n n) i ⟨b,i * 6,none⟩:=fG (P:=prog) (z:=6) (i:=i) (e:=38) (by kernel_rfl) hi
theorem mR {o:Oper}{a:Act}{x:Operand}(ho:o.op=.field 35 x 0){e n:Int}[hx:Ev a x (.agg #[.int .i64 e,.int .i64 n])] : ay prog o a w (.int .i64 e):=by
 have h:Sem.run prog (Instr.field 35 (.agg #[.int .i64 e,.int .i64 n]) 0) w=.ok (.int .i64 e) w:=by kernel_rfl
 unfold ay
 simp only[execOp,ho,hx.h,Sem.run_bind,h,Result.andThen_ok,Sem.run_pure]
theorem sS {bo:Nat}(os:List (List Int))(Is:Nat->Ar->Cy->Prop)(n:Nat)(hn:os.length=n)(hn9:n≤9)(h5:∀ o∈os,o.length=5)(hd:∀ i o,os[i]?=some o->Dz c p K D Ms W As o (Is i) (Is (i+1)))
  (hI:Is 0 T C) (hT:MH c p T C K D N E) (hN:N+n<100000) (hB:Mps W As w0 bs Ms) (hS:St w0 bs w (E++(⟨bo,jU os,38,true⟩::H)))
  (hR:∀ T' C' E' w0' bs' w',Is n T' C'->MH c p T' C' K D (N+n) E'->Mps W As w0' bs' Ms->St w0' bs' w' (E'++(⟨bo,jU os,38,true⟩::H))->ab R (.bool true) w') :
  Calls prog 15 #[.pointer p,.slice (some ⟨bo,0,none⟩) n n] w R:=by
 have hln:LenV prog 90 (.slice (some ⟨bo,0,none⟩) n n) n:=⟨⟨_,_,rfl⟩,⟨38,by kernel_rfl⟩⟩
 have hS0:=hS
 have hT0:=hT
 have hB0:=hB
 clear hS hT hB
 have h5':=HD h5
 have hd':=HD hd
 have hnI:(n:Int)≤9:=by omega
 have hn':=HD hn
 have hN':=HD hN
 have h9':=HD hn9
 clear h5 hd hn hN hn9
 go_enter func15,ntmps15
 go_wp2_with (go_skip)
 go_loopw [5] (fun u wr=>∃ (i:Nat) (T:Ar) (C:Cy) (E:List Ent) (w0:World) (bs:List Nat),i≤n∧u=.int .i64 i∧Is i T C∧MH c p T C K D (N+i) E∧Mps W As w0 bs Ms∧St w0 bs wr (E++(⟨bo,jU os,38,true⟩::H))) (fun u _=>n - (intOf u).toNat)
 case atStart=>exact⟨0,T,C,E,w0,bs,Nat.zero_le _,rfl,hI,hT0,hB0,hS0⟩
 case round=>
  clear hS0 hT0 hB0 hI
  obtain⟨i,T,C,E,w0,bs,hi,rfl,hI,hT,hB,hS⟩:=hrel
  by_cases hlt:i<n
  ·have d1:decide (i<n)=true:=decide_eq_true hlt
   have d2:decide ((i:Int)<n)=true:=DT
   have b1:(i:Int)≤9:=by omega
   have hlo:i<os.length:=by rw[hn'.out];exact hlt
   obtain⟨o,ho⟩:∃ o,os[i]?=some o:=⟨_,List.getElem?_eq_getElem hlo⟩
   have ho5:=h5'.out o (List.mem_of_getElem? ho)
   have hix:=Az (b:=bo) hlt
   have hce:=rT h5'.out ho
   have hone:=eo (l:=o) (s:=eA)
   have hsz:SizeIs (aQ o eA) 6:=⟨by simp[aQ,ho5]⟩
   have hlt':=HD hlt
   have ho':=HD ho
   clear hi ho hlo
   go_wp2_with (first|go_at_call 7;refine hd'.out i o ho'.out T C (N+i) E (⟨bo,jU os,38,true⟩::H) w0 bs _ _ hI hT (by have:=hN'.out;have:=hlt'.out;omega) hB hS ?_;clear hB hS hI hT;intro T C E w0 bs w hI hT hB hS;unfold ab bZ|refine wU (mR rfl) ?_|refine wV (.call { callee:=.builtin .len,args:=#[_],argTypes:=#[_] }) rfl (aA rfl) ?_|refine aM rfl ?_|refine au rfl hS ?_)
   go_roundw
   case rel=>exact⟨i+1,T,C,E,w0,bs,hlt'.out,by go_num,hI,hT,hB,hS⟩
   case measure=>have:=hlt'.out;simp[intOf];omega
  ·obtain rfl:i=n:=by omega
   have d1:decide (i<i)=false:=DF
   have d2:decide ((i:Int)<i)=false:=DF
   clear hi hlt
   go_wp2_with (refine wV (.call { callee:=.builtin .len,args:=#[_],argTypes:=#[_] }) rfl (aA rfl) ?_)
   exact hR T C E w0 bs _ hI hT hB hS
open Go Go.RowKit Go.Mm
instance JP:ElemT prog 38 6 56 #[.int .i64 0,.int .i64 0,.int .i64 0,.int .i64 0,.int .i64 0,.string eA]:=⟨by kernel_rfl⟩
instance JO:SliceT prog 90 38:=⟨by kernel_rfl⟩
instance Gu {a b d e f:Int} : SizeIs (aQ [a,b,d,e,f] eA) 6:=⟨rfl⟩
instance GE {a:Int} : BuildT prog 38 [(0,.int .i64 a)] (aQ [a,0,0,0,0] eA):=⟨fun w=>by kernel_rfl⟩
instance GD {a b:Int} : BuildT prog 38 [(0,.int .i64 a),(1,.int .i64 b)] (aQ [a,b,0,0,0] eA):=⟨fun w=>by kernel_rfl⟩
instance GB {a b d:Int} : BuildT prog 38 [(0,.int .i64 a),(1,.int .i64 b),(2,.int .i64 d)] (aQ [a,b,d,0,0] eA):=⟨fun w=>by kernel_rfl⟩
instance Gz {a b d e:Int} : BuildT prog 38 [(0,.int .i64 a),(1,.int .i64 b),(2,.int .i64 d),(3,.int .i64 e)] (aQ [a,b,d,e,0] eA):=⟨fun w=>by kernel_rfl⟩
instance Gy {a b d e f:Int} : BuildT prog 38 [(0,.int .i64 a),(1,.int .i64 b),(2,.int .i64 d),(3,.int .i64 e),(4,.int .i64 f)] (aQ [a,b,d,e,f] eA):=⟨fun w=>by kernel_rfl⟩
instance EO {a b e:Int} : BuildT prog 38 [(0,.int .i64 a),(1,.int .i64 b),(3,.int .i64 e)] (aQ [a,b,0,e,0] eA):=⟨fun w=>by kernel_rfl⟩
instance Gw {a d e:Int}{s:ByteArray} : BuildT prog 38 [(0,.int .i64 a),(2,.int .i64 d),(3,.int .i64 e),(5,.string s)] (aQ [a,0,d,e,0] s):=⟨fun w=>by kernel_rfl⟩
instance Gv {o:List Int}{us cs:List Value}[h:FlatOf us cs] : FlatOf (.agg (aQ o eA)::us) (m9 o++cs):=⟨by rw [List.flatMap_cons,h.h];rfl⟩
theorem yP {g:Nat} : zero8.getD g (0,0)=(0,0):=by
 unfold zero8
 rw[List.getD_eq_getElem?_getD,List.getElem?_replicate]
 split <;> rfl
theorem zr:zero8.length=8:=rfl
theorem lh {g:Nat}{x:Rf}(hg:g<8):(zero8.set g x).getD g (0,0)=x:=by
 have:g<zero8.length:=by rw[zr];exact hg
 simp[List.getD_eq_getElem?_getD,List.getElem?_set,this]
theorem pJ {g:Nat}{x:Rf}(hg:g<8):(zero8.set g x).set g (0,0)=zero8:=by
 rw[List.set_set]
 refine List.ext_getElem? fun i=>?_
 rw[List.getElem?_set]
 unfold zero8
 simp only[List.length_replicate,List.getElem?_replicate]
 split
 ·rename_i e;subst e;simp[hg]
 ·rfl
theorem wK {m k to:Nat}{l l' : List Rf}(hne:k≠to):((ct m k l).set to l').set k []=ct m to l':=by
 unfold ct
 refine List.ext_getElem? fun i=>?_
 simp only[List.getElem?_set,List.length_set,List.length_replicate,List.getElem?_replicate]
 by_cases h1:k=i
 ·subst h1
  simp[hne.symm]
 ·by_cases h2:to=i
  ·subst h2
   simp[h1]
  ·simp[h1,h2]
theorem wL {m k to:Nat}{l:List Rf} : (ct m k []).set to l=ct m to l:=by
 unfold ct
 refine List.ext_getElem? fun i=>?_
 simp only[List.getElem?_set,List.length_set,List.length_replicate,List.getElem?_replicate]
 by_cases h2:to=i
 ·subst h2
  simp
 ·by_cases h1:k=i
  ·subst h1
   simp[h2]
  ·simp[h1,h2]
section
variable {hn k to B g:Nat}{hg:Int}
def EJ (m k to:Nat)(h:Rf)(g:Nat)(c:Cfg)(hn:Nat)(hg:Int)(B:Nat):Nat->Ar->Cy->Prop
 | 0=>PW c hn hg B none (ct m k [h]) zero8 (vW k)
 | 1=>PW c hn hg B none (ct m k [h]) (zero8.set g h) iX
 | 2=>PW c hn hg B none ((ct m k [h]).set to [h]) (zero8.set g h) iX
 | 3=>PW c hn hg B none (ct m to [h]) (zero8.set g h) iX
 | _=>PW c hn hg B none (ct m to [h]) zero8 iX
theorem An (hto:to<c.m)(h:PW c hn hg B none (ct c.m to [((hn:Int),hg)]) zero8 iX T C):PS c hn hg to B T C:=
 ⟨hto,h.1,h.2.1,h.2.2.1,h.2.2.2.1.weak (fun _ h=>h.elim),h.2.2.2.2⟩
theorem CR (hk:k<c.m)(hto:to<c.m)(hne:k≠to)(h4:c.m≤4)(hg8:g<8)(hg1:1≤hg)(hz:1≤c.z)(hl:hn<c.z):∀ i o,([[5,(k:Int),0,g,0],[6,(to:Int),0,g,0],[4,(k:Int),0,0,0],[5,(to:Int),-1,g,0]] : List (List Int))[i]?=some o->Dz c p K D Ms W As o (EJ c.m k to ((hn:Int),hg) g c hn hg B i) (EJ c.m k to ((hn:Int),hg) g c hn hg B (i+1)):=by
 intro i o ho
 have hh:((hn:Int),hg)≠(0,0):=fun e=>by have:=congrArg Prod.snd e;simp at this;omega
 match i,ho with
 | 0,ho=>
  obtain rfl:_=o:=by simpa using ho
  exact lZ (u:=(0,0)) (v:=((hn:Int),hg)) (bR _ _ _) hk h4 (by omega) hg8 (.root (i:=0) (cN hk) rfl) yP ⟨by decide,by show(0:Int)<c.z;omega⟩ ⟨by simp,by simp;omega⟩ (fun C M' h hN=>h.note hg1 hk hN)
 | 1,ho=>
  obtain rfl:_=o:=by simpa using ho
  exact vi (bR _ _ _) hto h4 hg8 (lz hto hne.symm) (lh hg8) hh
 | 2,ho=>
  obtain rfl:_=o:=by simpa using ho
  have:=jl (c:=c) (p:=p) (K:=K) (D:=D) (Ms:=Ms) (W:=W) (As:=As) (hn:=hn) (hg:=hg) (B:=B) (ob:=none) (S:=iX) (vs:=zero8.set g ((hn:Int),hg)) (rts:=(ct c.m k [((hn:Int),hg)]).set to [((hn:Int),hg)]) (r:=((hn:Int),hg)) (l:=[]) (by rw[List.length_set];exact bR _ _ _) hk h4 (by rw[List.getElem?_set,if_neg hne.symm];exact cN hk)
  rw[wK hne] at this
  exact this
 | 3,ho=>
  obtain rfl:_=o:=by simpa using ho
  have:=lZ (c:=c) (p:=p) (K:=K) (D:=D) (Ms:=Ms) (W:=W) (As:=As) (hn:=hn) (hg:=hg) (B:=B) (ob:=none) (S:=iX) (S':=iX) (m:=to) (a:=-1) (b:=g) (rts:=ct c.m to [((hn:Int),hg)]) (vs:=zero8.set g ((hn:Int),hg)) (u:=((hn:Int),hg)) (v:=(0,0)) (bR _ _ _) hto h4 (by omega) hg8 .none (lh hg8) ⟨by simp,by simp;omega⟩ ⟨by decide,by show(0:Int)<c.z;omega⟩ (fun C M' h hN=>h.nt hN)
  rw[pJ hg8] at this
  exact this
 | i+4,ho=>simp at ho
theorem v4 (hto:to<c.m)(hne:k≠to)(h4:c.m≤4)(hg8:g<8)(hI:PS c hn hg k B T C)(hT:MH c p T C K D N E)(hN:N+4<100000)(hB:Mps W As w0 bs Ms)(hO:St w0 bs w H)[hc:Cut H E H1]
  (hR:∀ T' C' E' w0' bs' w',PS c hn hg to B T' C'->MH c p T' C' K D (N+4) E'->Mps W As w0' bs' Ms->St w0' bs' w' (E'++H1)->ab R (.bool true) w') :
  Calls prog 8 #[.pointer p,.int .i64 k,.int .i64 to,.int .i64 g] w R:=by
 have hS:=hO.fr E H1
 clear hO
 have hH:=hI.2.1
 have hz:=hH.zz
 have hh1:=hH.hl
 have hdz:=HD (CR (p:=p) (K:=K) (D:=D) (Ms:=Ms) (W:=W) (As:=As) (B:=B) hI.1 hto hne h4 hg8 hH.g1 hz.1 hh1)
 have hI':=HD hI
 have hN':=HD hN
 have hto':=HD hto
 clear hI hH hz hh1 hne h4 hg8 hto hN
 go_enter func8,ntmps8
 go_wp2_with (first|((refine f5 4 [(0,_),(1,_),(2,_),(3,_)] rfl hS (by decide) rfl (by decide) (by decide) ?_);clear hS;intro bo w _ hS;replace hS:St w0 bs w (⟨bo,jU [[5,(k:Int),0,g,0],[6,(to:Int),0,g,0],[4,(k:Int),0,0,0],[5,(to:Int),-1,g,0]],38,true⟩::(E++H1)):=hS)|go_at_call 15;refine sS (H:=H1) (bo:=bo) [[5,(k:Int),0,g,0],[6,(to:Int),0,g,0],[4,(k:Int),0,0,0],[5,(to:Int),-1,g,0]] (EJ c.m k to ((hn:Int),hg) g c hn hg B) 4 rfl (by decide) (by simp) hdz.out (show EJ c.m k to ((hn:Int),hg) g c hn hg B 0 T C from hI'.out.2) hT hN'.out hB hS.p ?_;clear hB hS hT;intro T C E w0 bs w hI hT hB hS;unfold ab|refine aL rfl ?_)
 exact hR T C E w0 bs _ (An hto'.out hI) hT hB hS.p
end
open Go Go.RowKit Go.Mm
section
variable {hn k to B g j:Nat}{hg q:Int}
abbrev zA (h:Rf):List Rf:=zero4.set 0 h
abbrev zB (h:Rf):List Rf:=(zA h).set 0 (0,0)
abbrev EY (k g:Nat):List (List Int):=[[3,(k:Int),1,0,0],[4,(k:Int),0,0,0],[5,(k:Int),0,g,0],[4,(k:Int),0,0,0]]
abbrev EZ (to g:Nat):List (List Int):=[[6,(to:Int),0,g,0],[2,(to:Int),0,0,0],[3,(to:Int),0,0,-1],[4,(to:Int),0,0,0],[5,(to:Int),-1,g,0]]
def Dt (c:Cfg)(hn:Nat)(hg:Int)(B k g j:Nat)(q:Int):Nat->Ar->Cy->Prop
 | 0=>PW c hn hg B (some (j,q,zero4)) (ct c.m k [((hn:Int),hg),((j:Int),q)]) zero8 (vW k)
 | 1=>PW c hn hg B (some (j,q,zA ((hn:Int),hg))) (ct c.m k [((hn:Int),hg),((j:Int),q)]) zero8 iX
 | 2=>PW c hn hg B (some (j,q,zA ((hn:Int),hg))) (ct c.m k [((j:Int),q)]) zero8 iX
 | 3=>PW c hn hg B (some (j,q,zA ((hn:Int),hg))) (ct c.m k [((j:Int),q)]) (zero8.set g ((j:Int),q)) iX
 | _=>PW c hn hg B (some (j,q,zA ((hn:Int),hg))) (ct c.m k []) (zero8.set g ((j:Int),q)) iX
def Cd (c:Cfg)(hn:Nat)(hg:Int)(B k to g j:Nat)(q:Int):Nat->Ar->Cy->Prop
 | 0=>PW c hn hg B (some (j,q,zA ((hn:Int),hg))) (ct c.m k []) (zero8.set g ((j:Int),q)) iX
 | 1=>PW c hn hg B (some (j,q,zA ((hn:Int),hg))) (ct c.m to [((j:Int),q)]) (zero8.set g ((j:Int),q)) iX
 | 2=>PW c hn hg B (some (j,q,zA ((hn:Int),hg))) (ct c.m to [((j:Int),q),((hn:Int),hg)]) (zero8.set g ((j:Int),q)) iX
 | 3=>PW c hn hg B (some (j,q,zB ((hn:Int),hg))) (ct c.m to [((j:Int),q),((hn:Int),hg)]) (zero8.set g ((j:Int),q)) iX
 | 4=>PW c hn hg B (some (j,q,zB ((hn:Int),hg))) (ct c.m to [((hn:Int),hg)]) (zero8.set g ((j:Int),q)) iX
 | _=>PW c hn hg B (some (j,q,zB ((hn:Int),hg))) (ct c.m to [((hn:Int),hg)]) zero8 iX
theorem A6 (hto:to<c.m)(h:Cd c hn hg B k to g j q 5 T C):PS c hn hg to B T C:=
 ⟨hto,h.1,h.2.1,h.2.2.1,h.2.2.2.1.weak (fun _ h=>h.elim),fun x hx=>by cases hx⟩
theorem Ds (hk:k<c.m)(h4:c.m≤4)(hg8:g<8)(hg1:1≤hg)(hz:1≤c.z)(hj:j<c.z):∀ i o,(EY k g)[i]?=some o->Dz c p K D Ms W As o (Dt c hn hg B k g j q i) (Dt c hn hg B k g j q (i+1)):=by
 intro i o ho
 match i,ho with
 | 0,ho=>
  obtain rfl:_=o:=by simpa using ho
  exact nF (a:=1) (cc:=0) (u:=(0,0)) (v:=((hn:Int),hg)) (bR _ _ _) hk h4 (by decide) (by decide) (cN hk) rfl (.root (i:=0) (cN hk) rfl) rfl rfl (.inr rfl) ⟨by decide,by show(0:Int)<c.z;omega⟩ (fun C M' h hN=>h.note hg1 hk hN)
 | 1,ho=>
  obtain rfl:_=o:=by simpa using ho
  have:=jl (c:=c) (p:=p) (K:=K) (D:=D) (Ms:=Ms) (W:=W) (As:=As) (hn:=hn) (hg:=hg) (B:=B) (ob:=some (j,q,zA ((hn:Int),hg))) (S:=iX) (vs:=zero8) (rts:=ct c.m k [((hn:Int),hg),((j:Int),q)]) (bR _ _ _) hk h4 (cN hk)
  rw[fx] at this
  exact this
 | 2,ho=>
  obtain rfl:_=o:=by simpa using ho
  exact lZ (u:=(0,0)) (v:=((j:Int),q)) (bR _ _ _) hk h4 (by omega) hg8 (.root (i:=0) (cN hk) rfl) yP ⟨by decide,by show(0:Int)<c.z;omega⟩ ⟨by simp,by simp;omega⟩ (fun C M' h hN=>h.nt hN)
 | 3,ho=>
  obtain rfl:_=o:=by simpa using ho
  have:=jl (c:=c) (p:=p) (K:=K) (D:=D) (Ms:=Ms) (W:=W) (As:=As) (hn:=hn) (hg:=hg) (B:=B) (ob:=some (j,q,zA ((hn:Int),hg))) (S:=iX) (vs:=zero8.set g ((j:Int),q)) (rts:=ct c.m k [((j:Int),q)]) (bR _ _ _) hk h4 (cN hk)
  rw[fx] at this
  exact this
 | i+4,ho=>simp at ho
theorem Du (hk:k<c.m)(hto:to<c.m)(hne:k≠to)(h4:c.m≤4)(hg8:g<8)(hg1:1≤hg)(hq1:1≤q)(hz:1≤c.z)(hl:hn<c.z)(hj:j<c.z):∀ i o,(EZ to g)[i]?=some o->Dz c p K D Ms W As o (Cd c hn hg B k to g j q i) (Cd c hn hg B k to g j q (i+1)):=by
 intro i o ho
 have hh:((hn:Int),hg)≠(0,0):=fun e=>by have:=congrArg Prod.snd e;simp at this;omega
 have hq:((j:Int),q)≠(0,0):=fun e=>by have:=congrArg Prod.snd e;simp at this;omega
 match i,ho with
 | 0,ho=>
  obtain rfl:_=o:=by simpa using ho
  have:=vi (c:=c) (p:=p) (K:=K) (D:=D) (Ms:=Ms) (W:=W) (As:=As) (hn:=hn) (hg:=hg) (B:=B) (ob:=some (j,q,zA ((hn:Int),hg))) (S:=iX) (vs:=zero8.set g ((j:Int),q)) (rts:=ct c.m k []) (m:=to) (b:=g) (v:=((j:Int),q)) (bR _ _ _) hto h4 hg8 (lz hto hne.symm) (lh hg8) hq
  rw[wL] at this
  exact this
 | 1,ho=>
  obtain rfl:_=o:=by simpa using ho
  have:=yk (c:=c) (p:=p) (K:=K) (D:=D) (Ms:=Ms) (W:=W) (As:=As) (hn:=hn) (hg:=hg) (B:=B) (ob:=some (j,q,zA ((hn:Int),hg))) (S:=iX) (vs:=zero8.set g ((j:Int),q)) (rts:=ct c.m to [((j:Int),q)]) (m:=to) (v:=((hn:Int),hg)) (bR _ _ _) hto h4 (cN hto) rfl rfl hh
  rw[fx] at this
  exact this
 | 2,ho=>
  obtain rfl:_=o:=by simpa using ho
  exact nF (a:=0) (cc:=-1) (u:=((hn:Int),hg)) (v:=(0,0)) (bR _ _ _) hto h4 (by decide) (by decide) (cN hto) rfl .none rfl rfl (.inl rfl) ⟨by simp,by simp;omega⟩ (fun C M' h hN=>h.nt hN)
 | 3,ho=>
  obtain rfl:_=o:=by simpa using ho
  have:=jl (c:=c) (p:=p) (K:=K) (D:=D) (Ms:=Ms) (W:=W) (As:=As) (hn:=hn) (hg:=hg) (B:=B) (ob:=some (j,q,zB ((hn:Int),hg))) (S:=iX) (vs:=zero8.set g ((j:Int),q)) (rts:=ct c.m to [((j:Int),q),((hn:Int),hg)]) (bR _ _ _) hto h4 (cN hto)
  rw[fx] at this
  exact this
 | 4,ho=>
  obtain rfl:_=o:=by simpa using ho
  have:=lZ (c:=c) (p:=p) (K:=K) (D:=D) (Ms:=Ms) (W:=W) (As:=As) (hn:=hn) (hg:=hg) (B:=B) (ob:=some (j,q,zB ((hn:Int),hg))) (S:=iX) (S':=iX) (m:=to) (a:=-1) (b:=g) (rts:=ct c.m to [((hn:Int),hg)]) (vs:=zero8.set g ((j:Int),q)) (u:=((j:Int),q)) (v:=(0,0)) (bR _ _ _) hto h4 (by omega) hg8 .none (lh hg8) ⟨by simp,by simp;omega⟩ ⟨by decide,by show(0:Int)<c.z;omega⟩ (fun C M' h hN=>h.nt hN)
  rw[pJ hg8] at this
  exact this
 | i+5,ho=>simp at ho
theorem pN (hto:to<c.m)(hne:k≠to)(h4:c.m≤4)(hg8:g<8)(hI:PS c hn hg k B T C)(hT:MH c p T C K D N E)(hN:N+10<100000)(hB:Mps W As w0 bs Ms)(hO:St w0 bs w H)[hc:Cut H E H1]
  (hR1:i8 (some (some T.1)) 1 false=4->∀ E' w0' bs' w',MH c p T C K D (N+1) E'->Mps W As w0' bs' Ms->St w0' bs' w' (E'++H1)->ab R (.tuple #[.bool false,.bool true]) w')
  (hR2:i8 (some (some T.1)) 1 false≠4->∀ T' C' E' w0' bs' w',PS c hn hg to B T' C'->MH c p T' C' K D (N+10) E'->Mps W As w0' bs' Ms->St w0' bs' w' (E'++H1)->ab R (.tuple #[.bool true,.bool true]) w') :
  Calls prog 9 #[.pointer p,.int .i64 k,.int .i64 to,.int .i64 g] w R:=by
 have hS:=hO.fr E H1
 clear hO
 have hH:=hI.2.1
 have hz:=hH.zz
 have hh1:=hH.hl
 have hk:=hI.1
 rcases pj hH with he|⟨j,q,hj,hjn,hq1,he,hmr,hmt⟩
 ·replace hR1:=hR1 he
  have hx:∀ E w0 bs w R,MH c p T C K D N E->Mps W As w0 bs Ms->St w0 bs w (E++H1)->(∀ E' w0' bs' w',MH c p T C K D (N+1) E'->Mps W As w0' bs' Ms->St w0' bs' w' (E'++H1)->ab R (.agg #[.int .i64 4,.int .i64 0]) w')->Calls prog 7 #[.pointer p,.agg (aQ [1,k,1,0,0] eA)] w R:=
   fun E w0 bs w R hT hB hS hR=>v6 (bR _ _ _) hk h4 (cN hk) he hI.2 hT (by omega) hB hS hR
  have hx':=HD hx
  clear hH hz hh1 hne h4 hg8 hto hN hk he hI hx hR2
  go_enter func9,ntmps9
  go_wp2_with (first|go_at_call 7;refine hx'.out E w0 bs _ _ hT hB hS ?_;clear hT hB hS;intro E w0 bs w hT hB hS;unfold ab|refine aL rfl ?_|refine af rfl hS ?_|refine ak rfl hS ?_;clear hS;intro w hS|refine aq _ rfl hS ?_;clear hS;intro bN w hbN hS)
  exact hR1 E w0 bs _ hT hB hS.p
 ·replace hR2:=hR2 (by rw[he];decide)
  have hdy:=Ds (p:=p) (K:=K) (D:=D) (Ms:=Ms) (W:=W) (As:=As) (B:=B) (hn:=hn) (q:=q) hk h4 hg8 hH.g1 hz.1 hj
  have hdx:=Du (p:=p) (K:=K) (D:=D) (Ms:=Ms) (W:=W) (As:=As) (B:=B) hk hto hne h4 hg8 hH.g1 hq1 hz.1 hh1 hj
  have hx:∀ E w0 bs w R,MH c p T C K D N E->Mps W As w0 bs Ms->St w0 bs w (E++H1)->(∀ T C E' w0' bs' w',Dt c hn hg B k g j q 0 T C->MH c p T C K D (N+1) E'->Mps W As w0' bs' Ms->St w0' bs' w' (E'++H1)->ab R (.agg #[.int .i64 0,.int .i64 0]) w')->Calls prog 7 #[.pointer p,.agg (aQ [1,k,1,0,0] eA)] w R:=
   fun E w0 bs w R hT hB hS hR=>v5 (bR _ _ _) hk h4 (cN hk) hj hjn hq1 he hmr hmt hI.2 hT (by omega) hB hS (fun T' C' E' w0' bs' w' h1 h2 hB hS=>hR T' C' E' w0' bs' w' (by rw[fx] at h1;exact h1) h2 hB hS)
  have hda:∀ bo T C E w0 bs w H1 R,Dt c hn hg B k g j q 0 T C->MH c p T C K D (N+1) E->Mps W As w0 bs Ms->St w0 bs w (E++(⟨bo,jU (EY k g),38,true⟩::H1))->(∀ T C E w0 bs w,Cd c hn hg B k to g j q 0 T C->MH c p T C K D (N+5) E->Mps W As w0 bs Ms->St w0 bs w (E++H1)->ab R (.bool true) w)->Calls prog 15 #[.pointer p,.slice (some ⟨bo,0,none⟩) 4 4] w R:=
   fun bo T C E w0 bs w H1 R hI hT hB hS hR=>sS (EY k g) (Dt c hn hg B k g j q) 4 rfl (by decide) (by simp) hdy hI hT (by omega) hB hS (fun T C E w0 bs w hI hT hB hS=>hR T C E w0 bs w hI hT hB hS.p)
  have hdb:∀ bo T C E w0 bs w H1 R,Cd c hn hg B k to g j q 0 T C->MH c p T C K D (N+5) E->Mps W As w0 bs Ms->St w0 bs w (E++(⟨bo,jU (EZ to g),38,true⟩::H1))->(∀ T C E w0 bs w,PS c hn hg to B T C->MH c p T C K D (N+10) E->Mps W As w0 bs Ms->St w0 bs w (E++H1)->ab R (.bool true) w)->Calls prog 15 #[.pointer p,.slice (some ⟨bo,0,none⟩) 5 5] w R:=
   fun bo T C E w0 bs w H1 R hI hT hB hS hR=>sS (EZ to g) (Cd c hn hg B k to g j q) 5 rfl (by decide) (by simp) hdx hI hT (by omega) hB hS (fun T C E w0 bs w hI hT hB hS=>hR T C E w0 bs w (A6 hto hI) hT hB hS.p)
  have hx':=HD hx
  have hda':=HD hda
  have hdb':=HD hdb
  have h1st:=HD (rfl:1=1)
  have h1sl:=HD (rfl:1=1)
  clear hH hz hh1 hne h4 hg8 hto hN hk he hI hx hR1 hj hjn hq1 hmr hmt hda hdb hdx hdy
  go_enter func9,ntmps9
  go_wp2_with (first|go_at_call 7;refine hx'.out E w0 bs _ _ hT hB hS ?_;clear hT hB hS;intro T C E w0 bs w hI hT hB hS;unfold ab|(clear h1sl;refine f5 4 [(0,_),(1,_),(2,_),(3,_)] rfl hS (by decide) rfl (by decide) (by decide) ?_;clear hS;intro bo w _ hS;replace hS:St w0 bs w (⟨bo,jU (EY k g),38,true⟩::⟨bN,#[.int .i64 0,.int .i64 0],35,true⟩::(E++H1)):=hS)|((refine f5 5 [(0,_),(1,_),(2,_),(3,_),(4,_)] rfl hS (by decide) rfl (by decide) (by decide) ?_);clear hS;intro bo w _ hS;replace hS:St w0 bs w (⟨bo,jU (EZ to g),38,true⟩::(E++H1)):=hS)|(go_at_call 15;first|(clear h1st;refine hda'.out bo T C E w0 bs _ H1 _ hI hT hB hS.p ?_;clear hB hS hT hI;intro T C E w0 bs w hI hT hB hS;unfold ab)|(refine hdb'.out bo T C E w0 bs _ H1 _ hI hT hB hS.p ?_;clear hB hS hT hI;intro T C E w0 bs w hI hT hB hS;unfold ab))|refine aL rfl ?_|refine af rfl hS ?_|refine ak rfl hS ?_;clear hS;intro w hS|refine aq _ rfl hS ?_;clear hS;intro bN w hbN hS)
  exact hR2 T C E w0 bs _ hI hT hB hS
end
end Go.Proofs.YtnbgljbhkeffkaaGreatDoor
