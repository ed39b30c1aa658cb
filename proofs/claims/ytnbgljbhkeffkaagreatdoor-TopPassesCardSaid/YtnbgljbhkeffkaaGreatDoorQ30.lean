/-
  Contracts of what the law TopPasses reaches, part 30: Rgm Rgn.
-/
import Derived.Test.YtnbgljbhkeffkaaGreatDoorQ29
open Go.Proofs.Tryz
set_option linter.unusedVariables false
set_option linter.unusedSimpArgs false
set_option maxHeartbeats 4000000
set_option maxRecDepth 100000
namespace Go.Proofs.YtnbgljbhkeffkaaGreatDoor
open Go.RowKit Go.Mm
variable {R:Ending->World->Prop}{w W:World}{w0:World}{As bs:List Nat}{H H' H1 H2 H3 E E' E1 E2 Ea Eh Er:List Ent}
variable {Ms Ms1 Ms2 Ms3:dF}
variable {cf:Cfg}{p:Option Addr}{T:Ar}{C:Cy}{K:Rk}{b2 b3:Nat}{k a b c:Int}{m:Nat}{s:ByteArray}
abbrev mn (b2 b3:Nat)(p:Option Addr)(l:List Int)(s:ByteArray)(H:List Ent):List Ent:=⟨b3,aQ l s,38,true⟩::⟨b2,#[.pointer p],47,true⟩::H
theorem xD (r:Rf)(hO:St w0 bs w (mn b2 b3 p [k,m,a,b,c] s (E++H)))(hT:RG cf p T C K E)(hm:fm T m=true)(hx:uY T m a b=0)(hlt:(ez T m).length<32)(hr:qL T m a b=r)
  (hR:∀ E' w',RG cf p (oy T m r) C K E'->St w0 bs w' (mn b2 b3 p [k,m,a,b,c] s (E'++H))->ab R (.int .i64 0) w'):Calls prog 75 #[.pointer (some ⟨b2,0,none⟩),.pointer (some ⟨b3,0,none⟩)] w R:=by
 have hS:=hO
 clear hO
 obtain⟨bg,pa,pc,pr,bt,pw,bq,bl,Ea,Ec,Er,Et,Ew,rfl,hA,hC,hQ,hTb,hW,hcf,rfl⟩:=id hT
 simp only[aP] at hS
 go_enter func75,ntmps75
 go_wp2_with (go_skip)
 refine ao [⟨(undef,Ea),[(11,fun _ x=>x.1=undef∧AA pa (oy T m r) x.2)]⟩,
  ⟨(undef,[]),[(15,fun _ x=>∃ b,x=(.pointer (some ⟨b,0,none⟩),[⟨b,#[.int .i64 0,.int .u32 0],176,true⟩])),(16,fun y x=>∃ b,y.1=.pointer (some ⟨b,0,none⟩)∧x.2=[⟨b,#[.int .i64 r.1,.int .u32 r.2],176,true⟩])]⟩]
  (⟨b3,aQ [k,m,a,b,c] s,38,true⟩::⟨b2,#[.pointer (some ⟨bg,0,none⟩)],47,true⟩:: ⟨bg,bA pa pc pr cf (some ⟨bt,0,none⟩) pw (some ⟨bq,0,none⟩) (some ⟨bl,0,none⟩),70,true⟩::⟨bq,bD cf.qt,163,true⟩::⟨bl,bH K.mz,109,true⟩:: (Ec++(Er++(Et++(Ew++H))))) (Ea++(⟨b3,aQ [k,m,a,b,c] s,38,true⟩::⟨b2,#[.pointer (some ⟨bg,0,none⟩)],47,true⟩:: ⟨bg,bA pa pc pr cf (some ⟨bt,0,none⟩) pw (some ⟨bq,0,none⟩) (some ⟨bl,0,none⟩),70,true⟩::⟨bq,bD cf.qt,163,true⟩::⟨bl,bH K.mz,109,true⟩:: (Ec++(Er++(Et++(Ew++H)))))) (by simp) hS.p (by kernel_rfl) (by kernel_rfl) ?_
 iterate 11 first|(refine fV (fun χ w hw=>ah rfl) ?_)|(refine fV (fun χ w hw=>ag rfl) ?_)|(refine fV (fun χ w hw=>ac _ _ rfl hw) ?_)
 refine cj 0 0 rfl rfl rfl rfl rfl 76 [_,_,_,_] rfl (fun _=>rfl) ae (fun _=>.tuple #[.agg #[.int .i64 r.1,.int .u32 r.2],.int .i64 0]) ?_ ?_
 ·intro χ L w _ hS
  exact pF (show St w0 bs w (Ea++(L++(⟨b3,aQ [k,m,a,b,c] s,38,true⟩::⟨b2,#[.pointer (some ⟨bg,0,none⟩)],47,true⟩:: ⟨bg,bA pa pc pr cf (some ⟨bt,0,none⟩) pw (some ⟨bq,0,none⟩) (some ⟨bl,0,none⟩),70,true⟩::⟨bq,bD cf.qt,163,true⟩::⟨bl,bH K.mz,109,true⟩:: (Ec++(Er++(Et++(Ew++H))))))) from hS) hA m a b hm hx hlt r hr (fun E' w' h1 h2=>⟨(undef,E'),rfl,⟨rfl,h1⟩,(show St w0 bs w' (E'++(L++(⟨b3,aQ [k,m,a,b,c] s,38,true⟩::⟨b2,#[.pointer (some ⟨bg,0,none⟩)],47,true⟩:: ⟨bg,bA pa pc pr cf (some ⟨bt,0,none⟩) pw (some ⟨bq,0,none⟩) (some ⟨bl,0,none⟩),70,true⟩::⟨bq,bD cf.qt,163,true⟩::⟨bl,bH K.mz,109,true⟩:: (Ec++(Er++(Et++(Ew++H))))))) from h2)⟩)
 iterate 3 first|(refine fV (fun χ w hw=>ad rfl) ?_)|(refine fV (fun χ w hw=>aB rfl) ?_)
 refine ap 1 0 rfl rfl rfl rfl (by kernel_rfl) (fun _=>rfl) (fun x=>x.1) ?_ ?_
 ·intro χ L w _ hS
  exact bE rfl (show St w0 bs w (L++_) from hS) (fun b w' _ hS'=>⟨(_,[_]),rfl,⟨b,rfl⟩,hS'⟩)
 refine ap 1 1 rfl rfl rfl (by kernel_rfl) rfl (fun _=>rfl) (fun _=>undef) ?_ ?_
 ·rintro χ L w ⟨⟨b,hb⟩,_⟩ hS
  have hS:St w0 bs w ((χ 15).2++(L++_)):=hS
  rw[hb] at hS
  have hS:St w0 bs w (⟨b,#[.int .i64 0,.int .u32 0],176,true⟩::(L++_)):=hS
  have hb1:(χ 15).1=.pointer (some ⟨b,0,none⟩):=by rw[hb]
  exact aZ rfl hS hb1 (fun w' hS'=>⟨(undef,[⟨b,#[.int .i64 r.1,.int .u32 r.2],176,true⟩]),rfl,⟨b,hb1,rfl⟩,hS'⟩)
 iterate 1 (refine fV (fun χ w hw=>aG rfl) ?_)
 refine bC rfl ?_
 intro χ w hok hS
 obtain⟨⟨hx,hA'⟩,_⟩:=hok _ (.head _)
 obtain⟨⟨b5,hb⟩,⟨b5',hb1,hb2⟩,_⟩:=hok _ (.tail _ (.head _))
 rw[hb] at hb1
 obtain⟨⟩:=hb1
 have hS:St w0 bs w (((χ 11).2++((χ 16).2++[]))++(⟨b3,aQ [k,m,a,b,c] s,38,true⟩::⟨b2,#[.pointer (some ⟨bg,0,none⟩)],47,true⟩:: ⟨bg,bA pa pc pr cf (some ⟨bt,0,none⟩) pw (some ⟨bq,0,none⟩) (some ⟨bl,0,none⟩),70,true⟩::⟨bq,bD cf.qt,163,true⟩::⟨bl,bH K.mz,109,true⟩:: (Ec++(Er++(Et++(Ew++H)))))):=hS
 rw[hb2] at hS
 generalize (χ 11).2=Ea' at hS hA'
 simp only[hb]
 simp only[List.append_assoc,List.cons_append,List.nil_append] at hS
 clear hok hb2 hb hx
 go_wp2_with (go_skip)
 exact hR _ _ ⟨bg,pa,pc,pr,bt,pw,bq,bl,Ea',Ec,Er,Et,Ew,rfl,hA',hC,hQ,hTb,hW,hcf,rfl⟩ (by(try simp only[aP]);exact hS.p)
theorem xF (hO:St w0 bs w (mn b2 b3 p [k,m,a,b,c] s (E++H)))(hT:RG cf p T C K E)(he:fP T m a=0)
  (hR:∀ E' w',RG cf p (sK T m a) C K E'->St w0 bs w' (mn b2 b3 p [k,m,a,b,c] s (E'++H))->ab R (.int .i64 0) w'):Calls prog 80 #[.pointer (some ⟨b2,0,none⟩),.pointer (some ⟨b3,0,none⟩)] w R:=by
 have hS:=hO
 clear hO
 obtain⟨bg,pa,pc,pr,bt,pw,bq,bl,Ea,Ec,Er,Et,Ew,rfl,hA,hC,hQ,hTb,hW,hcf,rfl⟩:=id hT
 simp only[aP] at hS
 obtain⟨XR1,h1⟩:∃ x,x=(fk T m a).1:=⟨_,rfl⟩
 obtain⟨XR2,h2⟩:∃ x,x=(fk T m a).2:=⟨_,rfl⟩
 have h1':=HD h1
 have h2':=HD h2
 clear h1 h2
 go_enter func80,ntmps80
 go_wp2_with (go_skip)
 refine ao [⟨(undef,Ea),[(9,fun _ x=>x.1=undef∧AA pa (sK T m a) x.2)]⟩,
  ⟨(undef,[]),[(13,fun _ x=>∃ b,x=(.pointer (some ⟨b,0,none⟩),[⟨b,#[.int .i64 0,.int .u32 0],176,true⟩])),(14,fun y x=>∃ b,y.1=.pointer (some ⟨b,0,none⟩)∧x.2=[⟨b,#[.int .i64 XR1,.int .u32 XR2],176,true⟩])]⟩]
  (⟨b3,aQ [k,m,a,b,c] s,38,true⟩::⟨b2,#[.pointer (some ⟨bg,0,none⟩)],47,true⟩:: ⟨bg,bA pa pc pr cf (some ⟨bt,0,none⟩) pw (some ⟨bq,0,none⟩) (some ⟨bl,0,none⟩),70,true⟩::⟨bq,bD cf.qt,163,true⟩::⟨bl,bH K.mz,109,true⟩:: (Ec++(Er++(Et++(Ew++H))))) (Ea++(⟨b3,aQ [k,m,a,b,c] s,38,true⟩::⟨b2,#[.pointer (some ⟨bg,0,none⟩)],47,true⟩:: ⟨bg,bA pa pc pr cf (some ⟨bt,0,none⟩) pw (some ⟨bq,0,none⟩) (some ⟨bl,0,none⟩),70,true⟩::⟨bq,bD cf.qt,163,true⟩::⟨bl,bH K.mz,109,true⟩:: (Ec++(Er++(Et++(Ew++H)))))) (by simp) hS.p (by kernel_rfl) (by kernel_rfl) ?_
 iterate 9 first|(refine fV (fun χ w hw=>ah rfl) ?_)|(refine fV (fun χ w hw=>ag rfl) ?_)|(refine fV (fun χ w hw=>ac _ _ rfl hw) ?_)
 refine cj 0 0 rfl rfl rfl rfl rfl 81 [_,_,_] rfl (fun _=>rfl) ae (fun _=>.tuple #[.agg #[.int .i64 XR1,.int .u32 XR2],.int .i64 0]) ?_ ?_
 ·intro χ L w _ hS
  rw[h1'.out,h2'.out]
  exact yI (show St w0 bs w (Ea++(L++(⟨b3,aQ [k,m,a,b,c] s,38,true⟩::⟨b2,#[.pointer (some ⟨bg,0,none⟩)],47,true⟩:: ⟨bg,bA pa pc pr cf (some ⟨bt,0,none⟩) pw (some ⟨bq,0,none⟩) (some ⟨bl,0,none⟩),70,true⟩::⟨bq,bD cf.qt,163,true⟩::⟨bl,bH K.mz,109,true⟩:: (Ec++(Er++(Et++(Ew++H))))))) from hS) hA m a 0 rfl rfl he (fun E' w' h1 h2=>⟨(undef,E'),rfl,⟨rfl,h1⟩,(show St w0 bs w' (E'++(L++(⟨b3,aQ [k,m,a,b,c] s,38,true⟩::⟨b2,#[.pointer (some ⟨bg,0,none⟩)],47,true⟩:: ⟨bg,bA pa pc pr cf (some ⟨bt,0,none⟩) pw (some ⟨bq,0,none⟩) (some ⟨bl,0,none⟩),70,true⟩::⟨bq,bD cf.qt,163,true⟩::⟨bl,bH K.mz,109,true⟩:: (Ec++(Er++(Et++(Ew++H))))))) from h2)⟩)
 iterate 3 first|(refine fV (fun χ w hw=>ad rfl) ?_)|(refine fV (fun χ w hw=>aB rfl) ?_)
 refine ap 1 0 rfl rfl rfl rfl (by kernel_rfl) (fun _=>rfl) (fun x=>x.1) ?_ ?_
 ·intro χ L w _ hS
  exact bE rfl (show St w0 bs w (L++_) from hS) (fun b w' _ hS'=>⟨(_,[_]),rfl,⟨b,rfl⟩,hS'⟩)
 refine ap 1 1 rfl rfl rfl (by kernel_rfl) rfl (fun _=>rfl) (fun _=>undef) ?_ ?_
 ·rintro χ L w ⟨⟨b,hb⟩,_⟩ hS
  have hS:St w0 bs w ((χ 13).2++(L++_)):=hS
  rw[hb] at hS
  have hS:St w0 bs w (⟨b,#[.int .i64 0,.int .u32 0],176,true⟩::(L++_)):=hS
  have hb1:(χ 13).1=.pointer (some ⟨b,0,none⟩):=by rw[hb]
  exact aZ rfl hS hb1 (fun w' hS'=>⟨(undef,[⟨b,#[.int .i64 XR1,.int .u32 XR2],176,true⟩]),rfl,⟨b,hb1,rfl⟩,hS'⟩)
 iterate 1 (refine fV (fun χ w hw=>aG rfl) ?_)
 refine bC rfl ?_
 intro χ w hok hS
 obtain⟨⟨hx,hA'⟩,_⟩:=hok _ (.head _)
 obtain⟨⟨b5,hb⟩,⟨b5',hb1,hb2⟩,_⟩:=hok _ (.tail _ (.head _))
 rw[hb] at hb1
 obtain⟨⟩:=hb1
 have hS:St w0 bs w (((χ 9).2++((χ 14).2++[]))++(⟨b3,aQ [k,m,a,b,c] s,38,true⟩::⟨b2,#[.pointer (some ⟨bg,0,none⟩)],47,true⟩:: ⟨bg,bA pa pc pr cf (some ⟨bt,0,none⟩) pw (some ⟨bq,0,none⟩) (some ⟨bl,0,none⟩),70,true⟩::⟨bq,bD cf.qt,163,true⟩::⟨bl,bH K.mz,109,true⟩:: (Ec++(Er++(Et++(Ew++H)))))):=hS
 rw[hb2] at hS
 generalize (χ 9).2=Ea' at hS hA'
 simp only[hb]
 simp only[List.append_assoc,List.cons_append,List.nil_append] at hS
 clear hok hb2 hb hx
 go_wp2_with (go_skip)
 exact hR _ _ ⟨bg,pa,pc,pr,bt,pw,bq,bl,Ea',Ec,Er,Et,Ew,rfl,hA',hC,hQ,hTb,hW,hcf,rfl⟩ (by(try simp only[aP]);exact hS.p)
theorem AN (r:Rf)(hO:St w0 bs w (mn b2 b3 p [k,m,a,b,c] s (E++H)))(hT:RG cf p T C K E)(hm:fm T m=true)(hx:Bi T b=0)(hlt:(ez T m).length<32)(hr:ow (some (true,T.2.2)) b=r)
  (hR:∀ E' w',RG cf p (oy T m r) C K E'->St w0 bs w' (mn b2 b3 p [k,m,a,b,c] s (E'++H))->ab R (.int .i64 0) w'):Calls prog 84 #[.pointer (some ⟨b2,0,none⟩),.pointer (some ⟨b3,0,none⟩)] w R:=by
 have hS:=hO
 clear hO
 obtain⟨bg,pa,pc,pr,bt,pw,bq,bl,Ea,Ec,Er,Et,Ew,rfl,hA,hC,hQ,hTb,hW,hcf,rfl⟩:=id hT
 simp only[aP] at hS
 go_enter func84,ntmps84
 go_wp2_with (go_skip)
 refine ao [⟨(undef,Ea),[(9,fun _ x=>x.1=undef∧AA pa (oy T m r) x.2)]⟩,
  ⟨(undef,[]),[(13,fun _ x=>∃ b,x=(.pointer (some ⟨b,0,none⟩),[⟨b,#[.int .i64 0,.int .u32 0],176,true⟩])),(14,fun y x=>∃ b,y.1=.pointer (some ⟨b,0,none⟩)∧x.2=[⟨b,#[.int .i64 r.1,.int .u32 r.2],176,true⟩])]⟩]
  (⟨b3,aQ [k,m,a,b,c] s,38,true⟩::⟨b2,#[.pointer (some ⟨bg,0,none⟩)],47,true⟩:: ⟨bg,bA pa pc pr cf (some ⟨bt,0,none⟩) pw (some ⟨bq,0,none⟩) (some ⟨bl,0,none⟩),70,true⟩::⟨bq,bD cf.qt,163,true⟩::⟨bl,bH K.mz,109,true⟩:: (Ec++(Er++(Et++(Ew++H))))) (Ea++(⟨b3,aQ [k,m,a,b,c] s,38,true⟩::⟨b2,#[.pointer (some ⟨bg,0,none⟩)],47,true⟩:: ⟨bg,bA pa pc pr cf (some ⟨bt,0,none⟩) pw (some ⟨bq,0,none⟩) (some ⟨bl,0,none⟩),70,true⟩::⟨bq,bD cf.qt,163,true⟩::⟨bl,bH K.mz,109,true⟩:: (Ec++(Er++(Et++(Ew++H)))))) (by simp) hS.p (by kernel_rfl) (by kernel_rfl) ?_
 iterate 9 first|(refine fV (fun χ w hw=>ah rfl) ?_)|(refine fV (fun χ w hw=>ag rfl) ?_)|(refine fV (fun χ w hw=>ac _ _ rfl hw) ?_)
 refine cj 0 0 rfl rfl rfl rfl rfl 85 [_,_,_] rfl (fun _=>rfl) ae (fun _=>.tuple #[.agg #[.int .i64 r.1,.int .u32 r.2],.int .i64 0]) ?_ ?_
 ·intro χ L w _ hS
  exact sE (show St w0 bs w (Ea++(L++(⟨b3,aQ [k,m,a,b,c] s,38,true⟩::⟨b2,#[.pointer (some ⟨bg,0,none⟩)],47,true⟩:: ⟨bg,bA pa pc pr cf (some ⟨bt,0,none⟩) pw (some ⟨bq,0,none⟩) (some ⟨bl,0,none⟩),70,true⟩::⟨bq,bD cf.qt,163,true⟩::⟨bl,bH K.mz,109,true⟩:: (Ec++(Er++(Et++(Ew++H))))))) from hS) hA m b hm hx hlt r hr (fun E' w' h1 h2=>⟨(undef,E'),rfl,⟨rfl,h1⟩,(show St w0 bs w' (E'++(L++(⟨b3,aQ [k,m,a,b,c] s,38,true⟩::⟨b2,#[.pointer (some ⟨bg,0,none⟩)],47,true⟩:: ⟨bg,bA pa pc pr cf (some ⟨bt,0,none⟩) pw (some ⟨bq,0,none⟩) (some ⟨bl,0,none⟩),70,true⟩::⟨bq,bD cf.qt,163,true⟩::⟨bl,bH K.mz,109,true⟩:: (Ec++(Er++(Et++(Ew++H))))))) from h2)⟩)
 iterate 3 first|(refine fV (fun χ w hw=>ad rfl) ?_)|(refine fV (fun χ w hw=>aB rfl) ?_)
 refine ap 1 0 rfl rfl rfl rfl (by kernel_rfl) (fun _=>rfl) (fun x=>x.1) ?_ ?_
 ·intro χ L w _ hS
  exact bE rfl (show St w0 bs w (L++_) from hS) (fun b w' _ hS'=>⟨(_,[_]),rfl,⟨b,rfl⟩,hS'⟩)
 refine ap 1 1 rfl rfl rfl (by kernel_rfl) rfl (fun _=>rfl) (fun _=>undef) ?_ ?_
 ·rintro χ L w ⟨⟨b,hb⟩,_⟩ hS
  have hS:St w0 bs w ((χ 13).2++(L++_)):=hS
  rw[hb] at hS
  have hS:St w0 bs w (⟨b,#[.int .i64 0,.int .u32 0],176,true⟩::(L++_)):=hS
  have hb1:(χ 13).1=.pointer (some ⟨b,0,none⟩):=by rw[hb]
  exact aZ rfl hS hb1 (fun w' hS'=>⟨(undef,[⟨b,#[.int .i64 r.1,.int .u32 r.2],176,true⟩]),rfl,⟨b,hb1,rfl⟩,hS'⟩)
 iterate 1 (refine fV (fun χ w hw=>aG rfl) ?_)
 refine bC rfl ?_
 intro χ w hok hS
 obtain⟨⟨hx,hA'⟩,_⟩:=hok _ (.head _)
 obtain⟨⟨b5,hb⟩,⟨b5',hb1,hb2⟩,_⟩:=hok _ (.tail _ (.head _))
 rw[hb] at hb1
 obtain⟨⟩:=hb1
 have hS:St w0 bs w (((χ 9).2++((χ 14).2++[]))++(⟨b3,aQ [k,m,a,b,c] s,38,true⟩::⟨b2,#[.pointer (some ⟨bg,0,none⟩)],47,true⟩:: ⟨bg,bA pa pc pr cf (some ⟨bt,0,none⟩) pw (some ⟨bq,0,none⟩) (some ⟨bl,0,none⟩),70,true⟩::⟨bq,bD cf.qt,163,true⟩::⟨bl,bH K.mz,109,true⟩:: (Ec++(Er++(Et++(Ew++H)))))):=hS
 rw[hb2] at hS
 generalize (χ 9).2=Ea' at hS hA'
 simp only[hb]
 simp only[List.append_assoc,List.cons_append,List.nil_append] at hS
 clear hok hb2 hb hx
 go_wp2_with (go_skip)
 exact hR _ _ ⟨bg,pa,pc,pr,bt,pw,bq,bl,Ea',Ec,Er,Et,Ew,rfl,hA',hC,hQ,hTb,hW,hcf,rfl⟩ (by(try simp only[aP]);exact hS.p)
structure LX where
 M:Mk
 E:List Ent
instance :Inhabited LX:=⟨⟨default,[]⟩⟩
theorem nl (i:Nat)(hi:i<cf.m)(u v:Rf)(hu:0≤u.1∧u.1<cf.z)(hv:0≤v.1∧v.1<cf.z)(hO:St w0 bs w H)(hT:RG cf p T C K E)[hc:Cut H E H1]
  (hR:∀ M' E' w',Nt C.M M' i (if oz C.M.k i then mK [u,v] else [])->RG cf p T { C with M:=M' } K E'->St w0 bs w' (E'++H1)->ab R (.int .i64 0) w'):Calls prog 79 #[.pointer p,.int .i64 i,.agg #[.int .i64 u.1,.int .u32 u.2],.agg #[.int .i64 v.1,.int .u32 v.2],.int .i64 0] w R:=by
 have hS:=hO.fr E H1
 clear hO
 obtain⟨bg,pa,pc,pr,bt,pw,bq,bl,Ea,Ec,Er,Et,Ew,rfl,hA,hC,hQ,hTb,hW,hcf,rfl⟩:=id hT
 obtain⟨bcy,pm,ps,Em,Es,rfl,hM,hP,rfl⟩:=id hC
 obtain⟨qm,rfl⟩:=hM.isp
 simp only[aP] at hS
 go_enter func79,ntmps79
 go_wp2_with (first|refine am (o:=⟨some 7,_,_,_,_,_⟩) _ rfl hS ?_;clear hS;intro b7 w _ hS|refine am (o:=⟨some 8,_,_,_,_,_⟩) _ rfl hS ?_;clear hS;intro b8 w _ hS)
 refine aj (X:=LX) (fun w=>St w0 bs w (⟨b8,#[.int .i64 v.1,.int .u32 v.2],176,true⟩::⟨b7,#[.int .i64 u.1,.int .u32 u.2],176,true⟩::⟨bg,bA pa (some ⟨bcy,0,none⟩) pr cf (some ⟨bt,0,none⟩) pw (some ⟨bq,0,none⟩) (some ⟨bl,0,none⟩),70,true⟩::⟨bq,bD cf.qt,163,true⟩::⟨bl,bH K.mz,109,true⟩:: (Ea++(⟨bcy,du (some ⟨qm,0,none⟩) ps cf.z cf.m C.at' C.bg C.asked,130,true⟩:: (Em++(Es++(Er++(Et++(Ew++H1))))))))) [(9,fun χ w=>Nt C.M (χ 9).M i (if oz C.M.k i then mK [u,v] else [])∧MA cf.z cf.m cf.bz (some ⟨qm,0,none⟩) (χ 9).M (χ 9).E∧St w0 bs w (⟨b8,#[.int .i64 v.1,.int .u32 v.2],176,true⟩::⟨b7,#[.int .i64 u.1,.int .u32 u.2],176,true⟩::⟨bg,bA pa (some ⟨bcy,0,none⟩) pr cf (some ⟨bt,0,none⟩) pw (some ⟨bq,0,none⟩) (some ⟨bl,0,none⟩),70,true⟩::⟨bq,bD cf.qt,163,true⟩::⟨bl,bH K.mz,109,true⟩:: (Ea++(⟨bcy,du (some ⟨qm,0,none⟩) ps cf.z cf.m C.at' C.bg C.asked,130,true⟩:: ((χ 9).E++(Es++(Er++(Et++(Ew++H1)))))))))] (hS.drawn _) (by kernel_rfl) (by kernel_rfl) ?_
 iterate 5 first|(refine bF 0 (fun _=>rfl) rfl (fun χ w hw=>ac _ _ rfl (show St _ _ w _ from hw)) ?_)|(refine oP (fun χ w=>ad rfl) ?_)|(refine oP (fun χ w=>ag rfl) ?_)|(refine oP (fun χ w=>ah rfl) ?_)
 refine dA 0 73 [_] rfl (fun _=>rfl) rfl ae (.pointer (some ⟨qm,0,none⟩)) (fun χ w hw=>by
  have hS:St w0 bs w (⟨b8,#[.int .i64 v.1,.int .u32 v.2],176,true⟩::⟨b7,#[.int .i64 u.1,.int .u32 u.2],176,true⟩::⟨bg,bA pa (some ⟨bcy,0,none⟩) pr cf (some ⟨bt,0,none⟩) pw (some ⟨bq,0,none⟩) (some ⟨bl,0,none⟩),70,true⟩::⟨bq,bD cf.qt,163,true⟩::⟨bl,bH K.mz,109,true⟩:: (Ea++(⟨bcy,du (some ⟨qm,0,none⟩) ps cf.z cf.m C.at' C.bg C.asked,130,true⟩:: (Em++(Es++(Er++(Et++(Ew++H1)))))))):=hw
  exact iM (qm:=qm) (ps:=ps) (z:=cf.z) (m:=cf.m) (a:=C.at') (bg:=C.bg) (q:=C.asked) hS (fun w' hS=>⟨rfl,hS⟩)) ?_
 iterate 3 first|(refine bF 0 (fun _=>rfl) rfl (fun χ w hw=>ai _ _ rfl (show St _ _ w _ from hw)) ?_)|(refine oP (fun χ w=>ad rfl) ?_)
 refine aO 0 rfl (by kernel_rfl) (fun _=>rfl) (fun _=>.int .i64 0) (fun χ w hw=>aw rfl ae ?_) ?_
 ·have hS:St w0 bs w (⟨b8,#[.int .i64 v.1,.int .u32 v.2],176,true⟩::⟨b7,#[.int .i64 u.1,.int .u32 u.2],176,true⟩::⟨bg,bA pa (some ⟨bcy,0,none⟩) pr cf (some ⟨bt,0,none⟩) pw (some ⟨bq,0,none⟩) (some ⟨bl,0,none⟩),70,true⟩::⟨bq,bD cf.qt,163,true⟩::⟨bl,bH K.mz,109,true⟩:: (Ea++(⟨bcy,du (some ⟨qm,0,none⟩) ps cf.z cf.m C.at' C.bg C.asked,130,true⟩:: (Em++(Es++(Er++(Et++(Ew++H1)))))))):=hw
  exact uJ hS hM i hi u v hu hv (fun M' E' w' h1 h2 hS=>⟨_,rfl,⟨M',E'⟩,rfl,h1,h2,(show St w0 bs w' (⟨b8,#[.int .i64 v.1,.int .u32 v.2],176,true⟩::⟨b7,#[.int .i64 u.1,.int .u32 u.2],176,true⟩::⟨bg,bA pa (some ⟨bcy,0,none⟩) pr cf (some ⟨bt,0,none⟩) pw (some ⟨bq,0,none⟩) (some ⟨bl,0,none⟩),70,true⟩::⟨bq,bD cf.qt,163,true⟩::⟨bl,bH K.mz,109,true⟩:: (Ea++(⟨bcy,du (some ⟨qm,0,none⟩) ps cf.z cf.m C.at' C.bg C.asked,130,true⟩:: (E'++(Es++(Er++(Et++(Ew++H1)))))))) from hS.p)⟩)
 refine aV rfl ?_
 rintro χ w ⟨h1,h2,hS⟩
 simp only[Nat.zero_add,Nat.reduceAdd]
 generalize χ 9=x at h1 h2 hS ⊢
 obtain⟨M2,E2⟩:=x
 simp only at h1 h2 hS
 clear χ
 go_wp2_with (go_skip)
 exact hR M2 _ _ h1 ⟨bg,pa,some ⟨bcy,0,none⟩,pr,bt,pw,bq,bl,Ea,_,Er,Et,Ew,rfl,hA,⟨bcy,some ⟨qm,0,none⟩,ps,E2,Es,rfl,h2,hP,rfl⟩,hQ,hTb,hW,hcf,rfl⟩ (by(try simp only[aP]);exact hS.p)
theorem uD (r u v:Rf)(hm:m<cf.m)(hu:0≤u.1∧u.1<cf.z)(hv:0≤v.1∧v.1<cf.z)(hO:St w0 bs w (mn b2 b3 p [k,m,a,b,c] s (E++H)))(hT:RG cf p T C K E)(her:fP T m a=0)(hev:mj T m c=0)(hr:fk T m a=r)(hvv:jv T m c=v)(hes:mm (some (some T.1)) r.1 r.2 b v=0)(huu:oo (some (some T.1)) r.1 r.2 b v=u)
  (hR:∀ M' E' w',Nt C.M M' m (if oz C.M.k m then mK [u,v] else [])->RG cf p (vQ T m a b c) { C with M:=M' } K E'->St w0 bs w' (mn b2 b3 p [k,m,a,b,c] s (E'++H))->ab R (.int .i64 0) w'):Calls prog 77 #[.pointer (some ⟨b2,0,none⟩),.pointer (some ⟨b3,0,none⟩)] w R:=by
 have hS:=hO
 clear hO
 obtain⟨bg,pa,pc,pr,bt,pw,bq,bl,Ea,Ec,Er,Et,Ew,rfl,hA,hC,hQ,hTb,hW,hcf,rfl⟩:=id hT
 simp only[aP] at hS
 go_enter func77,ntmps77
 go_wp2_with (go_skip)
 refine ao [⟨(undef,Ea),[(13,fun _ x=>x.1=undef∧AA pa (vQ T m a b c) x.2)]⟩,
  ⟨(undef,[]),[(18,fun _ x=>∃ b,x=(.pointer (some ⟨b,0,none⟩),[⟨b,#[.int .i64 0,.int .u32 0],176,true⟩])),(20,fun y x=>∃ b,y.1=.pointer (some ⟨b,0,none⟩)∧x.2=[⟨b,#[.int .i64 u.1,.int .u32 u.2],176,true⟩])]⟩,
  ⟨(undef,[]),[(19,fun _ x=>∃ b,x=(.pointer (some ⟨b,0,none⟩),[⟨b,#[.int .i64 0,.int .u32 0],176,true⟩])),(21,fun y x=>∃ b,y.1=.pointer (some ⟨b,0,none⟩)∧x.2=[⟨b,#[.int .i64 v.1,.int .u32 v.2],176,true⟩])]⟩]
  (⟨b3,aQ [k,m,a,b,c] s,38,true⟩::⟨b2,#[.pointer (some ⟨bg,0,none⟩)],47,true⟩:: ⟨bg,bA pa pc pr cf (some ⟨bt,0,none⟩) pw (some ⟨bq,0,none⟩) (some ⟨bl,0,none⟩),70,true⟩::⟨bq,bD cf.qt,163,true⟩::⟨bl,bH K.mz,109,true⟩:: (Ec++(Er++(Et++(Ew++H))))) (Ea++(⟨b3,aQ [k,m,a,b,c] s,38,true⟩::⟨b2,#[.pointer (some ⟨bg,0,none⟩)],47,true⟩:: ⟨bg,bA pa pc pr cf (some ⟨bt,0,none⟩) pw (some ⟨bq,0,none⟩) (some ⟨bl,0,none⟩),70,true⟩::⟨bq,bD cf.qt,163,true⟩::⟨bl,bH K.mz,109,true⟩:: (Ec++(Er++(Et++(Ew++H)))))) (by simp) hS.p (by kernel_rfl) (by kernel_rfl) ?_
 iterate 13 first|(refine fV (fun χ w hw=>ah rfl) ?_)|(refine fV (fun χ w hw=>ag rfl) ?_)|(refine fV (fun χ w hw=>ac _ _ rfl hw) ?_)
 refine cj 0 0 rfl rfl rfl rfl rfl 78 [_,_,_,_,_] rfl (fun _=>rfl) ae (fun _=>.tuple #[.agg #[.int .i64 u.1,.int .u32 u.2],.agg #[.int .i64 v.1,.int .u32 v.2],.int .i64 0]) ?_ ?_
 ·intro χ L w _ hS
  exact oc (show St w0 bs w (Ea++(L++(⟨b3,aQ [k,m,a,b,c] s,38,true⟩::⟨b2,#[.pointer (some ⟨bg,0,none⟩)],47,true⟩:: ⟨bg,bA pa pc pr cf (some ⟨bt,0,none⟩) pw (some ⟨bq,0,none⟩) (some ⟨bl,0,none⟩),70,true⟩::⟨bq,bD cf.qt,163,true⟩::⟨bl,bH K.mz,109,true⟩:: (Ec++(Er++(Et++(Ew++H))))))) from hS) hA m a b c her hev r v u hr hvv hes huu rfl (fun E' w' h1 h2=>⟨(undef,E'),rfl,⟨rfl,h1⟩,(show St w0 bs w' (E'++(L++(⟨b3,aQ [k,m,a,b,c] s,38,true⟩::⟨b2,#[.pointer (some ⟨bg,0,none⟩)],47,true⟩:: ⟨bg,bA pa pc pr cf (some ⟨bt,0,none⟩) pw (some ⟨bq,0,none⟩) (some ⟨bl,0,none⟩),70,true⟩::⟨bq,bD cf.qt,163,true⟩::⟨bl,bH K.mz,109,true⟩:: (Ec++(Er++(Et++(Ew++H))))))) from h2)⟩)
 iterate 4 first|(refine fV (fun χ w hw=>ad rfl) ?_)|(refine fV (fun χ w hw=>aB rfl) ?_)
 refine ap 1 0 rfl rfl rfl rfl (by kernel_rfl) (fun _=>rfl) (fun x=>x.1) ?_ ?_
 ·intro χ L w _ hS
  exact bE rfl (show St w0 bs w (L++_) from hS) (fun b w' _ hS'=>⟨(_,[_]),rfl,⟨b,rfl⟩,hS'⟩)
 refine ap 2 0 rfl rfl rfl rfl (by kernel_rfl) (fun _=>rfl) (fun x=>x.1) ?_ ?_
 ·intro χ L w _ hS
  exact bE rfl (show St w0 bs w (L++_) from hS) (fun b w' _ hS'=>⟨(_,[_]),rfl,⟨b,rfl⟩,hS'⟩)
 refine ap 1 1 rfl rfl rfl (by kernel_rfl) rfl (fun _=>rfl) (fun _=>undef) ?_ ?_
 ·rintro χ L w ⟨⟨b,hb⟩,_⟩ hS
  have hS:St w0 bs w ((χ 18).2++(L++_)):=hS
  rw[hb] at hS
  have hS:St w0 bs w (⟨b,#[.int .i64 0,.int .u32 0],176,true⟩::(L++_)):=hS
  have hb1:(χ 18).1=.pointer (some ⟨b,0,none⟩):=by rw[hb]
  exact aZ rfl hS hb1 (fun w' hS'=>⟨(undef,[⟨b,#[.int .i64 u.1,.int .u32 u.2],176,true⟩]),rfl,⟨b,hb1,rfl⟩,hS'⟩)
 refine ap 2 1 rfl rfl rfl (by kernel_rfl) rfl (fun _=>rfl) (fun _=>undef) ?_ ?_
 ·rintro χ L w ⟨⟨b,hb⟩,_⟩ hS
  have hS:St w0 bs w ((χ 19).2++(L++_)):=hS
  rw[hb] at hS
  have hS:St w0 bs w (⟨b,#[.int .i64 0,.int .u32 0],176,true⟩::(L++_)):=hS
  have hb1:(χ 19).1=.pointer (some ⟨b,0,none⟩):=by rw[hb]
  exact aZ rfl hS hb1 (fun w' hS'=>⟨(undef,[⟨b,#[.int .i64 v.1,.int .u32 v.2],176,true⟩]),rfl,⟨b,hb1,rfl⟩,hS'⟩)
 iterate 1 (refine fV (fun χ w hw=>aG rfl) ?_)
 refine bC rfl ?_
 intro χ w hok hS
 obtain⟨⟨hx,hA'⟩,_⟩:=hok _ (.head _)
 obtain⟨⟨b5,hb⟩,⟨b5',hb1,hb2⟩,_⟩:=hok _ (.tail _ (.head _))
 obtain⟨⟨b6,hd⟩,⟨b6',hd1,hd2⟩,_⟩:=hok _ (.tail _ (.tail _ (.head _)))
 rw[hb] at hb1
 obtain⟨⟩:=hb1
 rw[hd] at hd1
 obtain⟨⟩:=hd1
 have hS:St w0 bs w (((χ 13).2++((χ 20).2++((χ 21).2++[])))++(⟨b3,aQ [k,m,a,b,c] s,38,true⟩::⟨b2,#[.pointer (some ⟨bg,0,none⟩)],47,true⟩:: ⟨bg,bA pa pc pr cf (some ⟨bt,0,none⟩) pw (some ⟨bq,0,none⟩) (some ⟨bl,0,none⟩),70,true⟩::⟨bq,bD cf.qt,163,true⟩::⟨bl,bH K.mz,109,true⟩:: (Ec++(Er++(Et++(Ew++H)))))):=hS
 rw[hb2,hd2] at hS
 generalize (χ 13).2=Ea' at hS hA'
 simp only[hb,hd]
 simp only[List.append_assoc,List.cons_append,List.nil_append] at hS
 clear hok hb2 hb hx hd2 hd
 obtain⟨E',hE'⟩:∃ E',E'=(⟨bg,bA pa pc pr cf (some ⟨bt,0,none⟩) pw (some ⟨bq,0,none⟩) (some ⟨bl,0,none⟩),70,true⟩::⟨bq,bD cf.qt,163,true⟩::⟨bl,bH K.mz,109,true⟩:: (Ea'++(Ec++(Er++(Et++Ew))))):=⟨_,rfl⟩
 have hT' : RG cf (some ⟨bg,0,none⟩) (vQ T m a b c) C K E':=⟨bg,pa,pc,pr,bt,pw,bq,bl,Ea',Ec,Er,Et,Ew,rfl,hA',hC,hQ,hTb,hW,hcf,hE'⟩
 replace hS:St w0 bs w (⟨b6,#[.int .i64 v.1,.int .u32 v.2],176,true⟩::⟨b5,#[.int .i64 u.1,.int .u32 u.2],176,true⟩::⟨b3,aQ [k,m,a,b,c] s,38,true⟩::⟨b2,#[.pointer (some ⟨bg,0,none⟩)],47,true⟩:: (E'++H)):=by
  rw[hE']
  simp only[bX]
  exact hS.p
 clear hE'
 have hm':=HD hm
 have hu':=HD hu
 have hv':=HD hv
 clear hm hu hv her hev hes
 go_wp2_with (first|go_at_call 79;refine nl m hm'.out u v hu'.out hv'.out hS hT' ?_;clear hS;intro M' E2 w hN hT2 hS;unfold ab|(first|refine af rfl hS ?_|refine au rfl hS ?_))
 exact hR M' _ _ hN hT2 (by(try simp only[aP]);exact hS.p)
theorem AL (u v:Rf)(hm:m<cf.m)(hu:0≤u.1∧u.1<cf.z)(hv:0≤v.1∧v.1<cf.z)(hO:St w0 bs w (mn b2 b3 p [k,m,a,b,c] s (E++H)))(hT:RG cf p T C K E)(he:mj T m a=0)(hg:ou b=true)(hvv:jv T m a=v)(huu:T.2.2.getD b.toNat (0,0)=u)
  (hR:∀ M' E' w',Nt C.M M' m (if oz C.M.k m then mK [u,v] else [])->RG cf p (xp T b v) { C with M:=M' } K E'->St w0 bs w' (mn b2 b3 p [k,m,a,b,c] s (E'++H))->ab R (.int .i64 0) w'):Calls prog 82 #[.pointer (some ⟨b2,0,none⟩),.pointer (some ⟨b3,0,none⟩)] w R:=by
 have hS:=hO
 clear hO
 obtain⟨bg,pa,pc,pr,bt,pw,bq,bl,Ea,Ec,Er,Et,Ew,rfl,hA,hC,hQ,hTb,hW,hcf,rfl⟩:=id hT
 simp only[aP] at hS
 go_enter func82,ntmps82
 go_wp2_with (go_skip)
 refine ao [⟨(undef,Ea),[(11,fun _ x=>x.1=undef∧AA pa (xp T b v) x.2)]⟩,
  ⟨(undef,[]),[(16,fun _ x=>∃ b,x=(.pointer (some ⟨b,0,none⟩),[⟨b,#[.int .i64 0,.int .u32 0],176,true⟩])),(18,fun y x=>∃ b,y.1=.pointer (some ⟨b,0,none⟩)∧x.2=[⟨b,#[.int .i64 u.1,.int .u32 u.2],176,true⟩])]⟩,
  ⟨(undef,[]),[(17,fun _ x=>∃ b,x=(.pointer (some ⟨b,0,none⟩),[⟨b,#[.int .i64 0,.int .u32 0],176,true⟩])),(19,fun y x=>∃ b,y.1=.pointer (some ⟨b,0,none⟩)∧x.2=[⟨b,#[.int .i64 v.1,.int .u32 v.2],176,true⟩])]⟩]
  (⟨b3,aQ [k,m,a,b,c] s,38,true⟩::⟨b2,#[.pointer (some ⟨bg,0,none⟩)],47,true⟩:: ⟨bg,bA pa pc pr cf (some ⟨bt,0,none⟩) pw (some ⟨bq,0,none⟩) (some ⟨bl,0,none⟩),70,true⟩::⟨bq,bD cf.qt,163,true⟩::⟨bl,bH K.mz,109,true⟩:: (Ec++(Er++(Et++(Ew++H))))) (Ea++(⟨b3,aQ [k,m,a,b,c] s,38,true⟩::⟨b2,#[.pointer (some ⟨bg,0,none⟩)],47,true⟩:: ⟨bg,bA pa pc pr cf (some ⟨bt,0,none⟩) pw (some ⟨bq,0,none⟩) (some ⟨bl,0,none⟩),70,true⟩::⟨bq,bD cf.qt,163,true⟩::⟨bl,bH K.mz,109,true⟩:: (Ec++(Er++(Et++(Ew++H)))))) (by simp) hS.p (by kernel_rfl) (by kernel_rfl) ?_
 iterate 11 first|(refine fV (fun χ w hw=>ah rfl) ?_)|(refine fV (fun χ w hw=>ag rfl) ?_)|(refine fV (fun χ w hw=>ac _ _ rfl hw) ?_)
 refine cj 0 0 rfl rfl rfl rfl rfl 83 [_,_,_,_] rfl (fun _=>rfl) ae (fun _=>.tuple #[.agg #[.int .i64 u.1,.int .u32 u.2],.agg #[.int .i64 v.1,.int .u32 v.2],.int .i64 0]) ?_ ?_
 ·intro χ L w _ hS
  exact sB (show St w0 bs w (Ea++(L++(⟨b3,aQ [k,m,a,b,c] s,38,true⟩::⟨b2,#[.pointer (some ⟨bg,0,none⟩)],47,true⟩:: ⟨bg,bA pa pc pr cf (some ⟨bt,0,none⟩) pw (some ⟨bq,0,none⟩) (some ⟨bl,0,none⟩),70,true⟩::⟨bq,bD cf.qt,163,true⟩::⟨bl,bH K.mz,109,true⟩:: (Ec++(Er++(Et++(Ew++H))))))) from hS) hA m a b he hg v u hvv huu rfl (fun E' w' h1 h2=>⟨(undef,E'),rfl,⟨rfl,h1⟩,(show St w0 bs w' (E'++(L++(⟨b3,aQ [k,m,a,b,c] s,38,true⟩::⟨b2,#[.pointer (some ⟨bg,0,none⟩)],47,true⟩:: ⟨bg,bA pa pc pr cf (some ⟨bt,0,none⟩) pw (some ⟨bq,0,none⟩) (some ⟨bl,0,none⟩),70,true⟩::⟨bq,bD cf.qt,163,true⟩::⟨bl,bH K.mz,109,true⟩:: (Ec++(Er++(Et++(Ew++H))))))) from h2)⟩)
 iterate 4 first|(refine fV (fun χ w hw=>ad rfl) ?_)|(refine fV (fun χ w hw=>aB rfl) ?_)
 refine ap 1 0 rfl rfl rfl rfl (by kernel_rfl) (fun _=>rfl) (fun x=>x.1) ?_ ?_
 ·intro χ L w _ hS
  exact bE rfl (show St w0 bs w (L++_) from hS) (fun b w' _ hS'=>⟨(_,[_]),rfl,⟨b,rfl⟩,hS'⟩)
 refine ap 2 0 rfl rfl rfl rfl (by kernel_rfl) (fun _=>rfl) (fun x=>x.1) ?_ ?_
 ·intro χ L w _ hS
  exact bE rfl (show St w0 bs w (L++_) from hS) (fun b w' _ hS'=>⟨(_,[_]),rfl,⟨b,rfl⟩,hS'⟩)
 refine ap 1 1 rfl rfl rfl (by kernel_rfl) rfl (fun _=>rfl) (fun _=>undef) ?_ ?_
 ·rintro χ L w ⟨⟨b,hb⟩,_⟩ hS
  have hS:St w0 bs w ((χ 16).2++(L++_)):=hS
  rw[hb] at hS
  have hS:St w0 bs w (⟨b,#[.int .i64 0,.int .u32 0],176,true⟩::(L++_)):=hS
  have hb1:(χ 16).1=.pointer (some ⟨b,0,none⟩):=by rw[hb]
  exact aZ rfl hS hb1 (fun w' hS'=>⟨(undef,[⟨b,#[.int .i64 u.1,.int .u32 u.2],176,true⟩]),rfl,⟨b,hb1,rfl⟩,hS'⟩)
 refine ap 2 1 rfl rfl rfl (by kernel_rfl) rfl (fun _=>rfl) (fun _=>undef) ?_ ?_
 ·rintro χ L w ⟨⟨b,hb⟩,_⟩ hS
  have hS:St w0 bs w ((χ 17).2++(L++_)):=hS
  rw[hb] at hS
  have hS:St w0 bs w (⟨b,#[.int .i64 0,.int .u32 0],176,true⟩::(L++_)):=hS
  have hb1:(χ 17).1=.pointer (some ⟨b,0,none⟩):=by rw[hb]
  exact aZ rfl hS hb1 (fun w' hS'=>⟨(undef,[⟨b,#[.int .i64 v.1,.int .u32 v.2],176,true⟩]),rfl,⟨b,hb1,rfl⟩,hS'⟩)
 iterate 1 (refine fV (fun χ w hw=>aG rfl) ?_)
 refine bC rfl ?_
 intro χ w hok hS
 obtain⟨⟨hx,hA'⟩,_⟩:=hok _ (.head _)
 obtain⟨⟨b5,hb⟩,⟨b5',hb1,hb2⟩,_⟩:=hok _ (.tail _ (.head _))
 obtain⟨⟨b6,hd⟩,⟨b6',hd1,hd2⟩,_⟩:=hok _ (.tail _ (.tail _ (.head _)))
 rw[hb] at hb1
 obtain⟨⟩:=hb1
 rw[hd] at hd1
 obtain⟨⟩:=hd1
 have hS:St w0 bs w (((χ 11).2++((χ 18).2++((χ 19).2++[])))++(⟨b3,aQ [k,m,a,b,c] s,38,true⟩::⟨b2,#[.pointer (some ⟨bg,0,none⟩)],47,true⟩:: ⟨bg,bA pa pc pr cf (some ⟨bt,0,none⟩) pw (some ⟨bq,0,none⟩) (some ⟨bl,0,none⟩),70,true⟩::⟨bq,bD cf.qt,163,true⟩::⟨bl,bH K.mz,109,true⟩:: (Ec++(Er++(Et++(Ew++H)))))):=hS
 rw[hb2,hd2] at hS
 generalize (χ 11).2=Ea' at hS hA'
 simp only[hb,hd]
 simp only[List.append_assoc,List.cons_append,List.nil_append] at hS
 clear hok hb2 hb hx hd2 hd
 obtain⟨E',hE'⟩:∃ E',E'=(⟨bg,bA pa pc pr cf (some ⟨bt,0,none⟩) pw (some ⟨bq,0,none⟩) (some ⟨bl,0,none⟩),70,true⟩::⟨bq,bD cf.qt,163,true⟩::⟨bl,bH K.mz,109,true⟩:: (Ea'++(Ec++(Er++(Et++Ew))))):=⟨_,rfl⟩
 have hT' : RG cf (some ⟨bg,0,none⟩) (xp T b v) C K E':=⟨bg,pa,pc,pr,bt,pw,bq,bl,Ea',Ec,Er,Et,Ew,rfl,hA',hC,hQ,hTb,hW,hcf,hE'⟩
 replace hS:St w0 bs w (⟨b6,#[.int .i64 v.1,.int .u32 v.2],176,true⟩::⟨b5,#[.int .i64 u.1,.int .u32 u.2],176,true⟩::⟨b3,aQ [k,m,a,b,c] s,38,true⟩::⟨b2,#[.pointer (some ⟨bg,0,none⟩)],47,true⟩:: (E'++H)):=by
  rw[hE']
  simp only[bX]
  exact hS.p
 clear hE'
 have hm':=HD hm
 have hu':=HD hu
 have hv':=HD hv
 clear hm hu hv he hg
 go_wp2_with (first|go_at_call 79;refine nl m hm'.out u v hu'.out hv'.out hS hT' ?_;clear hS;intro M' E2 w hN hT2 hS;unfold ab|(first|refine af rfl hS ?_|refine au rfl hS ?_))
 exact hR M' _ _ hN hT2 (by(try simp only[aP]);exact hS.p)
theorem AM (j:Nat)(g:Int)(hj:j<cf.z)(hg:1≤g)(hO:St w0 bs w (mn b2 b3 p [k,m,a,b,c] s (E++H)))(hT:RG cf p T C K E)(hm:fm T m=true)(hn:gZ a false=0)(hlt:(ez T m).length<32)(he:i8 (some (some T.1)) a false=0)(hr:kX (some (some T.1)) a false=(↑j,g))
  (hR:∀ L' E' w',Up C.M.L L'->RG cf p (fg T m a false) { C with M:={ C.M with L:=L' } } K E'->St w0 bs w' (mn b2 b3 p [k,m,a,b,c] s (E'++H))->ab R (.int .i64 0) w'):Calls prog 71 #[.pointer (some ⟨b2,0,none⟩),.pointer (some ⟨b3,0,none⟩)] w R:=by
 have hS:=hO
 clear hO
 obtain⟨bg,pa,pc,pr,bt,pw,bq,bl,Ea,Ec,Er,Et,Ew,rfl,hA,hC,hQ,hTb,hW,hcf,rfl⟩:=id hT
 simp only[aP] at hS
 go_enter func71,ntmps71
 go_wp2_with (go_skip)
 refine ao [⟨(undef,Ea),[(9,fun _ x=>x.1=undef∧AA pa (fg T m a false) x.2)]⟩,
  ⟨(undef,[]),[(13,fun _ x=>∃ b,x=(.pointer (some ⟨b,0,none⟩),[⟨b,#[.int .i64 0,.int .u32 0],176,true⟩])),(14,fun y x=>∃ b,y.1=.pointer (some ⟨b,0,none⟩)∧x.2=[⟨b,#[.int .i64 j,.int .u32 g],176,true⟩])]⟩]
  (⟨b3,aQ [k,m,a,b,c] s,38,true⟩::⟨b2,#[.pointer (some ⟨bg,0,none⟩)],47,true⟩:: ⟨bg,bA pa pc pr cf (some ⟨bt,0,none⟩) pw (some ⟨bq,0,none⟩) (some ⟨bl,0,none⟩),70,true⟩::⟨bq,bD cf.qt,163,true⟩::⟨bl,bH K.mz,109,true⟩:: (Ec++(Er++(Et++(Ew++H))))) (Ea++(⟨b3,aQ [k,m,a,b,c] s,38,true⟩::⟨b2,#[.pointer (some ⟨bg,0,none⟩)],47,true⟩:: ⟨bg,bA pa pc pr cf (some ⟨bt,0,none⟩) pw (some ⟨bq,0,none⟩) (some ⟨bl,0,none⟩),70,true⟩::⟨bq,bD cf.qt,163,true⟩::⟨bl,bH K.mz,109,true⟩:: (Ec++(Er++(Et++(Ew++H)))))) (by simp) hS.p (by kernel_rfl) (by kernel_rfl) ?_
 iterate 9 first|(refine fV (fun χ w hw=>ah rfl) ?_)|(refine fV (fun χ w hw=>ag rfl) ?_)|(refine fV (fun χ w hw=>ac _ _ rfl hw) ?_)
 refine cj 0 0 rfl rfl rfl rfl rfl 72 [_,_,_,_] rfl (fun _=>rfl) ae (fun _=>.tuple #[.agg #[.int .i64 j,.int .u32 g],.int .i64 0]) ?_ ?_
 ·intro χ L w _ hS
  exact ky (show St w0 bs w (Ea++(L++(⟨b3,aQ [k,m,a,b,c] s,38,true⟩::⟨b2,#[.pointer (some ⟨bg,0,none⟩)],47,true⟩:: ⟨bg,bA pa pc pr cf (some ⟨bt,0,none⟩) pw (some ⟨bq,0,none⟩) (some ⟨bl,0,none⟩),70,true⟩::⟨bq,bD cf.qt,163,true⟩::⟨bl,bH K.mz,109,true⟩:: (Ec++(Er++(Et++(Ew++H))))))) from hS) hA m a false hm hn hlt he (↑j,g) rfl hr (fun E' w' h1 h2=>⟨(undef,E'),rfl,⟨rfl,h1⟩,(show St w0 bs w' (E'++(L++(⟨b3,aQ [k,m,a,b,c] s,38,true⟩::⟨b2,#[.pointer (some ⟨bg,0,none⟩)],47,true⟩:: ⟨bg,bA pa pc pr cf (some ⟨bt,0,none⟩) pw (some ⟨bq,0,none⟩) (some ⟨bl,0,none⟩),70,true⟩::⟨bq,bD cf.qt,163,true⟩::⟨bl,bH K.mz,109,true⟩:: (Ec++(Er++(Et++(Ew++H))))))) from h2)⟩)
 iterate 3 first|(refine fV (fun χ w hw=>ad rfl) ?_)|(refine fV (fun χ w hw=>aB rfl) ?_)
 refine ap 1 0 rfl rfl rfl rfl (by kernel_rfl) (fun _=>rfl) (fun x=>x.1) ?_ ?_
 ·intro χ L w _ hS
  exact bE rfl (show St w0 bs w (L++_) from hS) (fun b w' _ hS'=>⟨(_,[_]),rfl,⟨b,rfl⟩,hS'⟩)
 refine ap 1 1 rfl rfl rfl (by kernel_rfl) rfl (fun _=>rfl) (fun _=>undef) ?_ ?_
 ·rintro χ L w ⟨⟨b,hb⟩,_⟩ hS
  have hS:St w0 bs w ((χ 13).2++(L++_)):=hS
  rw[hb] at hS
  have hS:St w0 bs w (⟨b,#[.int .i64 0,.int .u32 0],176,true⟩::(L++_)):=hS
  have hb1:(χ 13).1=.pointer (some ⟨b,0,none⟩):=by rw[hb]
  exact aZ rfl hS hb1 (fun w' hS'=>⟨(undef,[⟨b,#[.int .i64 j,.int .u32 g],176,true⟩]),rfl,⟨b,hb1,rfl⟩,hS'⟩)
 iterate 1 (refine fV (fun χ w hw=>aG rfl) ?_)
 refine bC rfl ?_
 intro χ w hok hS
 obtain⟨⟨hx,hA'⟩,_⟩:=hok _ (.head _)
 obtain⟨⟨b5,hb⟩,⟨b5',hb1,hb2⟩,_⟩:=hok _ (.tail _ (.head _))
 rw[hb] at hb1
 obtain⟨⟩:=hb1
 have hS:St w0 bs w (((χ 9).2++((χ 14).2++[]))++(⟨b3,aQ [k,m,a,b,c] s,38,true⟩::⟨b2,#[.pointer (some ⟨bg,0,none⟩)],47,true⟩:: ⟨bg,bA pa pc pr cf (some ⟨bt,0,none⟩) pw (some ⟨bq,0,none⟩) (some ⟨bl,0,none⟩),70,true⟩::⟨bq,bD cf.qt,163,true⟩::⟨bl,bH K.mz,109,true⟩:: (Ec++(Er++(Et++(Ew++H)))))):=hS
 rw[hb2] at hS
 generalize (χ 9).2=Ea' at hS hA'
 simp only[hb]
 simp only[List.append_assoc,List.cons_append,List.nil_append] at hS
 clear hok hb2 hb hx
 obtain⟨bcy,pm,ps,Em,Es,rfl,hM,hP,rfl⟩:=id hC
 obtain⟨qm,rfl⟩:=hM.isp
 simp only[bX] at hS
 clear hn he
 go_wp2_with (go_skip)
 refine aj (X:=LX) (fun w=>St w0 bs w (⟨b5,#[.int .i64 j,.int .u32 g],176,true⟩::⟨b3,aQ [k,m,a,b,c] s,38,true⟩::⟨b2,#[.pointer (some ⟨bg,0,none⟩)],47,true⟩:: ⟨bg,bA pa (some ⟨bcy,0,none⟩) pr cf (some ⟨bt,0,none⟩) pw (some ⟨bq,0,none⟩) (some ⟨bl,0,none⟩),70,true⟩::⟨bq,bD cf.qt,163,true⟩::⟨bl,bH K.mz,109,true⟩:: (Ea'++(⟨bcy,du (some ⟨qm,0,none⟩) ps cf.z cf.m C.at' C.bg C.asked,130,true⟩:: (Em++(Es++(Er++(Et++(Ew++H))))))))) [(7,fun χ w=>Up C.M.L (χ 7).M.L∧MA cf.z cf.m cf.bz (some ⟨qm,0,none⟩) { C.M with L:=(χ 7).M.L } (χ 7).E∧St w0 bs w (⟨b5,#[.int .i64 j,.int .u32 g],176,true⟩::⟨b3,aQ [k,m,a,b,c] s,38,true⟩::⟨b2,#[.pointer (some ⟨bg,0,none⟩)],47,true⟩:: ⟨bg,bA pa (some ⟨bcy,0,none⟩) pr cf (some ⟨bt,0,none⟩) pw (some ⟨bq,0,none⟩) (some ⟨bl,0,none⟩),70,true⟩::⟨bq,bD cf.qt,163,true⟩::⟨bl,bH K.mz,109,true⟩:: (Ea'++(⟨bcy,du (some ⟨qm,0,none⟩) ps cf.z cf.m C.at' C.bg C.asked,130,true⟩:: ((χ 7).E++(Es++(Er++(Et++(Ew++H)))))))))] (by have h:=hS.drawn w.drawn;exact(show St w0 bs _ (⟨b5,#[.int .i64 j,.int .u32 g],176,true⟩::⟨b3,aQ [k,m,a,b,c] s,38,true⟩::⟨b2,#[.pointer (some ⟨bg,0,none⟩)],47,true⟩:: ⟨bg,bA pa (some ⟨bcy,0,none⟩) pr cf (some ⟨bt,0,none⟩) pw (some ⟨bq,0,none⟩) (some ⟨bl,0,none⟩),70,true⟩::⟨bq,bD cf.qt,163,true⟩::⟨bl,bH K.mz,109,true⟩:: (Ea'++(⟨bcy,du (some ⟨qm,0,none⟩) ps cf.z cf.m C.at' C.bg C.asked,130,true⟩:: (Em++(Es++(Er++(Et++(Ew++H)))))))) from(hS.drawn _).p)) (by kernel_rfl) (by kernel_rfl) ?_
 iterate 5 first|(refine bF 0 (fun _=>rfl) rfl (fun χ w hw=>ac _ _ rfl (show St _ _ w _ from hw)) ?_)|(refine oP (fun χ w=>ag rfl) ?_)|(refine oP (fun χ w=>ah rfl) ?_)
 refine dA 0 73 [_] rfl (fun _=>rfl) rfl ae (.pointer (some ⟨qm,0,none⟩)) (fun χ w hw=>by
  have hS:St w0 bs w (⟨b5,#[.int .i64 j,.int .u32 g],176,true⟩::⟨b3,aQ [k,m,a,b,c] s,38,true⟩::⟨b2,#[.pointer (some ⟨bg,0,none⟩)],47,true⟩:: ⟨bg,bA pa (some ⟨bcy,0,none⟩) pr cf (some ⟨bt,0,none⟩) pw (some ⟨bq,0,none⟩) (some ⟨bl,0,none⟩),70,true⟩::⟨bq,bD cf.qt,163,true⟩::⟨bl,bH K.mz,109,true⟩:: (Ea'++(⟨bcy,du (some ⟨qm,0,none⟩) ps cf.z cf.m C.at' C.bg C.asked,130,true⟩:: (Em++(Es++(Er++(Et++(Ew++H)))))))):=hw
  exact iM (qm:=qm) (ps:=ps) (z:=cf.z) (m:=cf.m) (a:=C.at') (bg:=C.bg) (q:=C.asked) hS (fun w' hS=>⟨rfl,hS⟩)) ?_
 iterate 1 (refine bF 0 (fun _=>rfl) rfl (fun χ w hw=>ai _ _ rfl (show St _ _ w _ from hw)) ?_)
 refine aO 0 rfl (by kernel_rfl) (fun _=>rfl) (fun _=>.int .i64 0) (fun χ w hw=>aw rfl ae ?_) ?_
 ·have hS:St w0 bs w (⟨b5,#[.int .i64 j,.int .u32 g],176,true⟩::⟨b3,aQ [k,m,a,b,c] s,38,true⟩::⟨b2,#[.pointer (some ⟨bg,0,none⟩)],47,true⟩:: ⟨bg,bA pa (some ⟨bcy,0,none⟩) pr cf (some ⟨bt,0,none⟩) pw (some ⟨bq,0,none⟩) (some ⟨bl,0,none⟩),70,true⟩::⟨bq,bD cf.qt,163,true⟩::⟨bl,bH K.mz,109,true⟩:: (Ea'++(⟨bcy,du (some ⟨qm,0,none⟩) ps cf.z cf.m C.at' C.bg C.asked,130,true⟩:: (Em++(Es++(Er++(Et++(Ew++H)))))))):=hw
  exact qC hS hM j hj g hg (fun L' E' w' h1 h2 hS=>⟨_,rfl,⟨{ C.M with L:=L' },E'⟩,rfl,h1,h2,(show St w0 bs w' (⟨b5,#[.int .i64 j,.int .u32 g],176,true⟩::⟨b3,aQ [k,m,a,b,c] s,38,true⟩::⟨b2,#[.pointer (some ⟨bg,0,none⟩)],47,true⟩:: ⟨bg,bA pa (some ⟨bcy,0,none⟩) pr cf (some ⟨bt,0,none⟩) pw (some ⟨bq,0,none⟩) (some ⟨bl,0,none⟩),70,true⟩::⟨bq,bD cf.qt,163,true⟩::⟨bl,bH K.mz,109,true⟩:: (Ea'++(⟨bcy,du (some ⟨qm,0,none⟩) ps cf.z cf.m C.at' C.bg C.asked,130,true⟩:: (E'++(Es++(Er++(Et++(Ew++H)))))))) from hS.p)⟩)
 refine aV rfl ?_
 rintro χ w ⟨h1,h2,hS⟩
 simp only[Nat.zero_add,Nat.reduceAdd]
 generalize χ 7=x at h1 h2 hS ⊢
 obtain⟨M2,E2⟩:=x
 simp only at h1 h2 hS
 clear χ
 go_wp2_with (go_skip)
 exact hR M2.L _ _ h1 ⟨bg,pa,some ⟨bcy,0,none⟩,pr,bt,pw,bq,bl,Ea',_,Er,Et,Ew,rfl,hA',⟨bcy,some ⟨qm,0,none⟩,ps,E2,Es,rfl,h2,hP,rfl⟩,hQ,hTb,hW,hcf,rfl⟩ (by(try simp only[aP]);exact hS.p)
theorem xE (x:Int)(hO:St w0 bs w (mn b2 b3 p [k,m,a,b,c] s (E++H)))(hT:RG cf p T C K E)(hm:fm T m=true)(hn:gZ a false=0)(hlt:(ez T m).length<32)(he:i8 (some (some T.1)) a false=x)(hx:x≠0)
  (hR:∀ E' w',RG cf p T C K E'->St w0 bs w' (mn b2 b3 p [k,m,a,b,c] s (E'++H))->ab R (.int .i64 x) w'):Calls prog 71 #[.pointer (some ⟨b2,0,none⟩),.pointer (some ⟨b3,0,none⟩)] w R:=by
 have hS:=hO
 clear hO
 obtain⟨bg,pa,pc,pr,bt,pw,bq,bl,Ea,Ec,Er,Et,Ew,rfl,hA,hC,hQ,hTb,hW,hcf,rfl⟩:=id hT
 simp only[aP] at hS
 have d1:(x == 0)=false:=beq_eq_false_iff_ne.2 hx
 have d2:decide (x=0)=false:=decide_eq_false hx
 have hn':=HD hn
 have he':=HD he
 have hx':=HD hx
 clear hn he hx
 go_enter func71,ntmps71
 go_wp2_with (go_skip)
 refine ao [⟨(undef,Ea),[(9,fun _ x=>x.1=undef∧AA pa (T) x.2)]⟩,
  ⟨(undef,[]),[(13,fun _ x=>∃ b,x=(.pointer (some ⟨b,0,none⟩),[⟨b,#[.int .i64 0,.int .u32 0],176,true⟩])),(14,fun y x=>∃ b,y.1=.pointer (some ⟨b,0,none⟩)∧x.2=[⟨b,#[.int .i64 0,.int .u32 0],176,true⟩])]⟩]
  (⟨b3,aQ [k,m,a,b,c] s,38,true⟩::⟨b2,#[.pointer (some ⟨bg,0,none⟩)],47,true⟩:: ⟨bg,bA pa pc pr cf (some ⟨bt,0,none⟩) pw (some ⟨bq,0,none⟩) (some ⟨bl,0,none⟩),70,true⟩::⟨bq,bD cf.qt,163,true⟩::⟨bl,bH K.mz,109,true⟩:: (Ec++(Er++(Et++(Ew++H))))) (Ea++(⟨b3,aQ [k,m,a,b,c] s,38,true⟩::⟨b2,#[.pointer (some ⟨bg,0,none⟩)],47,true⟩:: ⟨bg,bA pa pc pr cf (some ⟨bt,0,none⟩) pw (some ⟨bq,0,none⟩) (some ⟨bl,0,none⟩),70,true⟩::⟨bq,bD cf.qt,163,true⟩::⟨bl,bH K.mz,109,true⟩:: (Ec++(Er++(Et++(Ew++H)))))) (by simp) hS.p (by kernel_rfl) (by kernel_rfl) ?_
 iterate 9 first|(refine fV (fun χ w hw=>ah rfl) ?_)|(refine fV (fun χ w hw=>ag rfl) ?_)|(refine fV (fun χ w hw=>ac _ _ rfl hw) ?_)
 refine cj 0 0 rfl rfl rfl rfl rfl 72 [_,_,_,_] rfl (fun _=>rfl) ae (fun _=>.tuple #[.agg #[.int .i64 0,.int .u32 0],.int .i64 x]) ?_ ?_
 ·intro χ L w _ hS
  exact ma (show St w0 bs w (Ea++(L++(⟨b3,aQ [k,m,a,b,c] s,38,true⟩::⟨b2,#[.pointer (some ⟨bg,0,none⟩)],47,true⟩:: ⟨bg,bA pa pc pr cf (some ⟨bt,0,none⟩) pw (some ⟨bq,0,none⟩) (some ⟨bl,0,none⟩),70,true⟩::⟨bq,bD cf.qt,163,true⟩::⟨bl,bH K.mz,109,true⟩:: (Ec++(Er++(Et++(Ew++H))))))) from hS) hA m a false hm hn'.out hlt x he'.out hx'.out (fun E' w' h1 h2=>⟨(undef,E'),rfl,⟨rfl,h1⟩,(show St w0 bs w' (E'++(L++(⟨b3,aQ [k,m,a,b,c] s,38,true⟩::⟨b2,#[.pointer (some ⟨bg,0,none⟩)],47,true⟩:: ⟨bg,bA pa pc pr cf (some ⟨bt,0,none⟩) pw (some ⟨bq,0,none⟩) (some ⟨bl,0,none⟩),70,true⟩::⟨bq,bD cf.qt,163,true⟩::⟨bl,bH K.mz,109,true⟩:: (Ec++(Er++(Et++(Ew++H))))))) from h2)⟩)
 iterate 3 first|(refine fV (fun χ w hw=>ad rfl) ?_)|(refine fV (fun χ w hw=>aB rfl) ?_)
 refine ap 1 0 rfl rfl rfl rfl (by kernel_rfl) (fun _=>rfl) (fun x=>x.1) ?_ ?_
 ·intro χ L w _ hS
  exact bE rfl (show St w0 bs w (L++_) from hS) (fun b w' _ hS'=>⟨(_,[_]),rfl,⟨b,rfl⟩,hS'⟩)
 refine ap 1 1 rfl rfl rfl (by kernel_rfl) rfl (fun _=>rfl) (fun _=>undef) ?_ ?_
 ·rintro χ L w ⟨⟨b,hb⟩,_⟩ hS
  have hS:St w0 bs w ((χ 13).2++(L++_)):=hS
  rw[hb] at hS
  have hS:St w0 bs w (⟨b,#[.int .i64 0,.int .u32 0],176,true⟩::(L++_)):=hS
  have hb1:(χ 13).1=.pointer (some ⟨b,0,none⟩):=by rw[hb]
  exact aZ rfl hS hb1 (fun w' hS'=>⟨(undef,[⟨b,#[.int .i64 0,.int .u32 0],176,true⟩]),rfl,⟨b,hb1,rfl⟩,hS'⟩)
 iterate 1 (refine fV (fun χ w hw=>aG rfl) ?_)
 refine bC rfl ?_
 intro χ w hok hS
 obtain⟨⟨hx,hA'⟩,_⟩:=hok _ (.head _)
 obtain⟨⟨b5,hb⟩,⟨b5',hb1,hb2⟩,_⟩:=hok _ (.tail _ (.head _))
 rw[hb] at hb1
 obtain⟨⟩:=hb1
 have hS:St w0 bs w (((χ 9).2++((χ 14).2++[]))++(⟨b3,aQ [k,m,a,b,c] s,38,true⟩::⟨b2,#[.pointer (some ⟨bg,0,none⟩)],47,true⟩:: ⟨bg,bA pa pc pr cf (some ⟨bt,0,none⟩) pw (some ⟨bq,0,none⟩) (some ⟨bl,0,none⟩),70,true⟩::⟨bq,bD cf.qt,163,true⟩::⟨bl,bH K.mz,109,true⟩:: (Ec++(Er++(Et++(Ew++H)))))):=hS
 rw[hb2] at hS
 generalize (χ 9).2=Ea' at hS hA'
 simp only[hb]
 simp only[List.append_assoc,List.cons_append,List.nil_append] at hS
 clear hok hb2 hb hx
 go_wp2_with (go_skip)
 exact hR _ _ ⟨bg,pa,pc,pr,bt,pw,bq,bl,Ea',Ec,Er,Et,Ew,rfl,hA',hC,hQ,hTb,hW,hcf,rfl⟩ (by(try simp only[aP]);exact hS.p)
open Go.RowKit Go.Mm
variable {cf:Cfg}{p:Option Addr}{T:Ar}{C:Cy}{K:Rk}{s:ByteArray}
def uQ (x y:Value):Array Value:=#[.nilFunc,.func (.func 71) #[] #[x,y],.func (.func 75) #[] #[x,y],.func (.func 77) #[] #[x,y],.func (.func 80) #[] #[x,y],.func (.func 82) #[] #[x,y],.func (.func 84) #[] #[x,y]]
instance Kh:AggT prog 188 7:=⟨by kernel_rfl,by kernel_rfl⟩
instance Oi:ZeroT prog 188 #[.nilFunc,.nilFunc,.nilFunc,.nilFunc,.nilFunc,.nilFunc,.nilFunc]:=⟨by kernel_rfl⟩
instance Oj:ScalarT prog 181:=⟨by kernel_rfl,by kernel_rfl⟩
def EU:List Nat:=[71,75,77,80,82,84]
theorem uE {k f:Nat}(h:EU[k]?=some f)(x y:Value):CellAt (uQ x y) (0+(k+1) * 1) (.func (.func f) #[] #[x,y])∧k<6∧∀ args w,(callFunc f args).run prog w=.ok (.enter f args) w:=by
 have hk:k<6:=(List.getElem?_eq_some_iff.1 h).1
 rcases(by omega:k=0∨k=1∨k=2∨k=3∨k=4∨k=5) with rfl|rfl|rfl|rfl|rfl|rfl <;>
 ·simp only[EU,List.getElem?_cons_zero,List.getElem?_cons_succ,Option.some.injEq] at h
  subst h
  exact⟨⟨rfl⟩,by decide,ae⟩
theorem Dj {b i:Nat}(hi:i<7):IdxV prog 188 (.pointer (some ⟨b,0,none⟩)) i ⟨b,0+i * 1,none⟩:=PP (P:=prog) (t:=188) (m:=7) (z:=1) (e:=181) (by kernel_rfl) hi
instance Kg {x y:Value} : BuildT prog 188 [(1,.func (.func 71) #[] #[x,y]),(2,.func (.func 75) #[] #[x,y]),(3,.func (.func 77) #[] #[x,y]),(4,.func (.func 80) #[] #[x,y]),(5,.func (.func 82) #[] #[x,y]),(6,.func (.func 84) #[] #[x,y])] (uQ x y):=⟨fun w=>by kernel_rfl⟩
instance GN {x y:Value} : OneCells (uQ x y):=⟨by
 intro v hv
 simp only[uQ,List.mem_cons,List.not_mem_nil,or_false] at hv
 rcases hv with rfl|rfl|rfl|rfl|rfl|rfl|rfl <;> rfl⟩
instance GM {x y:Value} : SizeIs (uQ x y) 7:=⟨rfl⟩
theorem Di {x y:Value}{cs:Array Value}(h:cs.size=7):SetsAt cs 0 (uQ x y) (uQ x y):=⟨by
 have:cs.toList.drop 7=[]:=List.drop_eq_nil_of_le (by simp[h])
 simp[uQ,this],by simp[uQ,h]⟩
theorem iz {k f:Nat}{m a b c:Int}(hf:EU[k]?=some f)(Φ:Int->Ar->Cy->Prop)(hO:St w0 bs w H)(hT:RG cf p T C K E)[hc:Cut H E H1]
  (hcl:∀ (b2 b3:Nat) (H:List Ent) (w:World) (R:Ending->World->Prop),St w0 bs w (mn b2 b3 p [((k+1:Nat):Int),m,a,b,c] s (E++H))->(∀ e T' C' E' w',Φ e T' C'->RG cf p T' C' K E'->St w0 bs w' (mn b2 b3 p [((k+1:Nat):Int),m,a,b,c] s (E'++H))->ab R (.int .i64 e) w')->Calls prog f #[.pointer (some ⟨b2,0,none⟩),.pointer (some ⟨b3,0,none⟩)] w R)
  (hR:∀ e T' C' E' w',Φ e T' C'->RG cf p T' C' K E'->St w0 bs w' (E'++H1)->ab R (.int .i64 e) w'):Calls prog 31 #[.pointer p,.agg (aQ [((k+1:Nat):Int),m,a,b,c] s)] w R:=by
 have hS:=hO.fr E H1
 clear hO
 obtain⟨hk1,hk6,hen⟩:=uE hf (.pointer none) (.pointer none)
 have hone:=eo (l:=[((k+1:Nat):Int),m,a,b,c]) (s:=s)
 have hsz:SizeIs (aQ [((k+1:Nat):Int),m,a,b,c] s) 6:=⟨rfl⟩
 have hpb:∃ bg bt pa pc pr pw bq bl,p=some ⟨bg,0,none⟩∧(⟨bg,bA pa pc pr cf (some ⟨bt,0,none⟩) pw (some ⟨bq,0,none⟩) (some ⟨bl,0,none⟩),70,true⟩:Ent)∈E:=by
  obtain⟨bg,pa,pc,pr,bt,pw,bq,bl,Ea,Ec,Er,Et,Ew,rfl,_,_,_,_,_,_,rfl⟩:=hT
  exact⟨bg,bt,pa,pc,pr,pw,bq,bl,rfl,.head _⟩
 obtain⟨bg,bt,pa,pc,pr,pw,bq,bl,rfl,hmem⟩:=hpb
 obtain⟨kk,hkk⟩:∃ n:Nat,n=k+1:=⟨_,rfl⟩
 rw[← hkk] at hone hsz hcl ⊢
 have d1:decide ((kk:Int)<1)=false:=DF
 have d2:decide ((6:Int)<kk)=false:=DF
 have d3:decide (kk<1)=false:=DF
 have d4:decide (6<kk)=false:=DF
 have hix:∀ b,IdxV prog 188 (.pointer (some ⟨b,0,none⟩)) kk ⟨b,0+kk * 1,none⟩:=fun b=>Dj (b:=b) (i:=kk) (by omega)
 have hce:∀ x y,CellAt (uQ x y) (0+kk * 1) (.func (.func f) #[] #[x,y]):=fun x y=>by rw[hkk];exact(uE hf x y).1
 have hov:=fun x y=>Di (x:=x) (y:=y) (cs:=#[.nilFunc,.nilFunc,.nilFunc,.nilFunc,.nilFunc,.nilFunc,.nilFunc]) rfl
 have hHas:Has (E++H1) bg (bA pa pc pr cf (some ⟨bt,0,none⟩) pw (some ⟨bq,0,none⟩) (some ⟨bl,0,none⟩)) 70  :=⟨⟨true,List.mem_append_left _ hmem⟩⟩
 clear hk1 hk6 hkk hmem
 go_enter func31,ntmps31
 go_wp2_with (first|refine am 47 rfl hS ?_;clear hS;intro b2 w _ hS|refine am 38 rfl hS ?_;clear hS;intro b3 w _ hS|go_at_call 32;refine dy (pa:=pa) (pc:=pc) (pr:=pr) (pw:=pw) (pq:=some ⟨bq,0,none⟩) (pl:=some ⟨bl,0,none⟩) (c:=cf) (bt:=bt) hS ?_;clear hS;intro w hS;unfold ab|(refine aq 188 rfl hS ?_;clear hS;intro b5 w _ hS;have hix':=hix b5)|refine aF (.call { callee:=.value (.tmp 27),args:=#[],argTypes:=_ }) rfl ?_;refine ee (f:=f) (cap:=[.pointer (some ⟨b2,0,none⟩),.pointer (some ⟨b3,0,none⟩)]) rfl hen ?_;refine hcl b2 b3 (⟨b5,uQ (.pointer (some ⟨b2,0,none⟩)) (.pointer (some ⟨b3,0,none⟩)),188,true⟩::H1) w _ hS.p ?_;clear hS;intro e T' C' E' w hΦ hT' hS;refine⟨_,rfl,?_⟩|refine aM rfl ?_|refine aL rfl ?_|refine af rfl hS ?_|refine ak rfl hS ?_;clear hS;intro w hS)
 exact hR e T' C' E' _ hΦ hT' hS.p
end Go.Proofs.YtnbgljbhkeffkaaGreatDoor
