/-
  Contracts of what the law TopPasses reaches, part 18: ArnH ArnI ArnK ArnL.
-/
import Derived.Test.YtnbgljbhkeffkaaGreatDoorQ16
open Go.Proofs.Tryz
set_option linter.unusedVariables false
set_option linter.unusedSimpArgs false
set_option maxHeartbeats 4000000
set_option maxRecDepth 100000
namespace Go.Proofs.YtnbgljbhkeffkaaGreatDoor
open Go Go.RowKit Go.Mm
variable {R:Ending->World->Prop}{w:World}{w0:World}{bs:List Nat}{H H' H1 E:List Ent}
def fE (e:Int)(v:Rf):Int:=if e=0 then (if cd v.1 v.2 0 0 then 5 else 0) else e
theorem Bn {bv:Nat}{v1 v2:Int}(hO:St w0 bs w H)[hv:Has H bv #[.int .i64 v1,.int .u32 v2] 176](hR:∀ w',St w0 bs w' H->ab R (.tuple #[.agg #[.int .i64 v1,.int .u32 v2],.int .i64 0]) w'):Calls prog 124 #[.pointer (some ⟨bv,0,none⟩)] w R:=by
 have hS:=hO
 clear hO
 go_enter func124,ntmps124
 go_wp2_with (first|refine aq 176 rfl hS ?_;clear hS;intro b3 w _ hS|refine au rfl hS ?_|refine ak rfl hS ?_;clear hS;intro w hS)
 refine bodyPost_ret (aJ rfl hS) rfl ?_
 exact hR _ hS.p
theorem GX {bv:Nat}{v1 v2:Int}(hO:St w0 bs w H)[hv:Has H bv #[.int .i64 v1,.int .u32 v2] 176](hR:∀ w',St w0 bs w' H->ab R (.tuple #[.agg #[.int .i64 v1,.int .u32 v2],.int .i64 0]) w'):Calls prog 133 #[.pointer (some ⟨bv,0,none⟩)] w R:=by
 have hS:=hO
 clear hO
 go_enter func133,ntmps133
 go_wp2_with (first|refine aq 176 rfl hS ?_;clear hS;intro b3 w _ hS|refine au rfl hS ?_|refine ak rfl hS ?_;clear hS;intro w hS)
 refine bodyPost_ret (aJ rfl hS) rfl ?_
 exact hR _ hS.p
theorem GY {ba b bo b4 b5 bv:Nat}{z k:Int}{ps:List (Option Addr)}{pg:Option Addr}{G:List Rf}{Eg Z:List Ent}{gi:Int}(hps:ps.length=4)(hG:GA pg (some (true,G)) Eg)(v1 v2:Int){e:Int}(hv:ow (some (true,G)) gi=(v1,v2))(he:vE (some (true,G)) gi=e)
  (hO:St w0 bs w (⟨bv,#[.int .i64 0,.int .u32 0],176,true⟩::⟨b5,#[.int .i64 gi],3,true⟩::⟨b4,#[.pointer (some ⟨b,0,none⟩)],62,true⟩::⟨b,cA (some ⟨bo,0,none⟩) z k ps pg,121,true⟩::(Eg++Z)))
  (hR:∀ w',St w0 bs w' (⟨bv,#[.int .i64 v1,.int .u32 v2],176,true⟩::⟨b5,#[.int .i64 gi],3,true⟩::⟨b4,#[.pointer (some ⟨b,0,none⟩)],62,true⟩::⟨b,cA (some ⟨bo,0,none⟩) z k ps pg,121,true⟩::(Eg++Z))->ab R (.int .i64 (fE e (v1,v2))) w') :
  Calls prog 131 #[.pointer (some ⟨b4,0,none⟩),.pointer (some ⟨b5,0,none⟩),.pointer (some ⟨bv,0,none⟩)] w R:=by
 have hS:=hO
 clear hO
 have hv':=HD hv
 have he':=HD he
 have hcg:=Hu (po:=some ⟨bo,0,none⟩) (z:=z) (k:=k) (pg:=pg) hps
 have hcg' : CellAt (cA (some ⟨bo,0,none⟩) z k ps pg) (0+7) (.pointer pg):=hcg
 clear hv he hps
 go_enter func131,ntmps131
 go_wp2_with (go_skip)
 refine ao [⟨(undef,[⟨bv,#[.int .i64 0,.int .u32 0],176,true⟩]),[(9,fun _ x=>x.2=[⟨bv,#[.int .i64 v1,.int .u32 v2],176,true⟩])]⟩]
  (⟨b5,#[.int .i64 gi],3,true⟩::⟨b4,#[.pointer (some ⟨b,0,none⟩)],62,true⟩::⟨b,cA (some ⟨bo,0,none⟩) z k ps pg,121,true⟩::(Eg++Z)) (⟨bv,#[.int .i64 0,.int .u32 0],176,true⟩::⟨b5,#[.int .i64 gi],3,true⟩::⟨b4,#[.pointer (some ⟨b,0,none⟩)],62,true⟩::⟨b,cA (some ⟨bo,0,none⟩) z k ps pg,121,true⟩::(Eg++Z)) (by simp) hS (by kernel_rfl) (by kernel_rfl) ?_
 (refine fV (fun χ w hw=>ac _ _ rfl hw) ?_)
 refine fV (fun χ w hw=>ah rfl) ?_
 refine fV (fun χ w hw=>ag rfl) ?_
 (refine fV (fun χ w hw=>ac _ _ rfl hw) ?_)
 (refine fV (fun χ w hw=>ac _ _ rfl hw) ?_)
 refine cQ 132 [_,_] rfl (fun _=>rfl) rfl ae (.tuple #[.agg #[.int .i64 v1,.int .u32 v2],.int .i64 e]) (fun X w hS=>Bg hS hG gi (v1,v2) e hv'.out he'.out (fun w' _ hS'=>⟨rfl,hS'.p⟩)) ?_
 refine fV (fun χ w hw=>ad rfl) ?_
 refine fV (fun χ w hw=>aB rfl) ?_
 refine fV (fun χ w hw=>aB rfl) ?_
 refine ap 0 0 rfl rfl (by kernel_rfl) (by kernel_rfl) (by kernel_rfl) (fun _=>rfl) (fun _=>undef) ?_ ?_
 ·rintro χ X w _ hS
  exact aK _ _ _ rfl (show St w0 bs w (⟨bv,#[.int .i64 0,.int .u32 0],176,true⟩::(X++_)) from hS) (fun w' hS'=>⟨(undef,[⟨bv,#[.int .i64 v1,.int .u32 v2],176,true⟩]),rfl,rfl,hS'⟩)
 refine fV (fun χ w hw=>aG rfl) ?_
 refine bC rfl ?_
 intro χ w hok hS
 obtain⟨hD,_⟩:=hok _ (.head _)
 have hD:(χ 9).2=[⟨bv,#[.int .i64 v1,.int .u32 v2],176,true⟩]:=hD
 have hS:St w0 bs w (((χ 9).2++[])++(⟨b5,#[.int .i64 gi],3,true⟩::⟨b4,#[.pointer (some ⟨b,0,none⟩)],62,true⟩::⟨b,cA (some ⟨bo,0,none⟩) z k ps pg,121,true⟩::(Eg++Z))):=hS
 rw[hD,List.append_nil] at hS
 simp only[cq] at hS
 clear hok hD
 by_cases h0:e=0
 ·subst h0
  have q5:=gp (show cd v1 v2 0 0=cd v1 v2 0 0 from rfl)
  have hxx:fE 0 (v1,v2)=if cd v1 v2 0 0 then 5 else 0:=by simp[fE]
  rw[hxx] at hR
  cases hb:cd v1 v2 0 0 with
  | true=>
   rw[hb] at hR q5
   go_wp2_with (first|refine wV (.binOp .eql 176 _ _ _) rfl (dh rfl) ?_|refine aL rfl ?_|refine au rfl hS ?_)
   exact hR _ hS.p
  | false=>
   rw[hb] at hR q5
   go_wp2_with (first|refine wV (.binOp .eql 176 _ _ _) rfl (dh rfl) ?_|refine aL rfl ?_|refine au rfl hS ?_)
   exact hR _ hS.p
 ·have q7:(e == 0)=false:=beq_eq_false_iff_ne.2 h0
  have q8:decide (e=0)=false:=decide_eq_false h0
  have hxx:fE e (v1,v2)=e:=by unfold fE;rw[if_neg h0]
  rw[hxx] at hR
  go_wp2_with (go_skip)
  exact hR _ hS.p
def qL (T:Ar)(m i f:Int):Rf:=if fP T m i=0 then vV (some (some T.1)) (fk T m i).1 (fk T m i).2 f else (0,0)
def uY (T:Ar)(m i f:Int):Int:=if fP T m i=0 then fE (A3 (some (some T.1)) (fk T m i).1 (fk T m i).2 f) (qL T m i f) else fP T m i
theorem Dn {b b4 b5 b6 b7 bv:Nat}{T:Ar}{Z:List Ent}{m i f:Int}(hT:AA (some ⟨b,0,none⟩) T E)(v1 v2:Int){x:Int}(hv:qL T m i f=(v1,v2))(hx:uY T m i f=x)
  (hO:St w0 bs w (⟨bv,#[.int .i64 0,.int .u32 0],176,true⟩::⟨b7,#[.int .i64 f],3,true⟩::⟨b6,#[.int .i64 i],3,true⟩::⟨b5,#[.int .i64 m],3,true⟩::⟨b4,#[.pointer (some ⟨b,0,none⟩)],62,true⟩::(E++Z)))
  (hR:∀ w',St w0 bs w' (⟨bv,#[.int .i64 v1,.int .u32 v2],176,true⟩::⟨b7,#[.int .i64 f],3,true⟩::⟨b6,#[.int .i64 i],3,true⟩::⟨b5,#[.int .i64 m],3,true⟩::⟨b4,#[.pointer (some ⟨b,0,none⟩)],62,true⟩::(E++Z))->ab R (.int .i64 x) w') :
  Calls prog 121 #[.pointer (some ⟨b4,0,none⟩),.pointer (some ⟨b5,0,none⟩),.pointer (some ⟨b6,0,none⟩),.pointer (some ⟨b7,0,none⟩),.pointer (some ⟨bv,0,none⟩)] w R:=by
 have hS:=hO
 clear hO
 subst hx
 obtain⟨e1,he1⟩:∃ e,fP T m i=e:=⟨_,rfl⟩
 obtain⟨⟨x1,x2⟩,hx1⟩:∃ x,fk T m i=x:=⟨_,rfl⟩
 have he1':=HD he1
 have hx1':=HD hx1
 unfold uY at hR
 unfold qL at hR hv
 rw[he1,hx1] at hR hv
 by_cases h1:e1=0
 case neg=>
  rw[if_neg h1] at hv
  rw[if_neg h1] at hR
  obtain⟨rfl,rfl⟩:=Prod.mk.inj hv
  have q7:(e1 != 0)=true:=by simpa using h1
  clear he1 hx1 hv
  go_enter func121,ntmps121
  go_wp2_with (first|go_at_call 122;refine jq hS hT m i (x1,x2) e1 hx1'.out he1'.out ?_;clear hS;intro w _ hS;unfold ab|refine aq 176 rfl hS ?_;clear hS;intro br w _ hS|refine af rfl hS ?_|refine ak rfl hS ?_;clear hS;intro w hS)
  exact hR _ hS.p
 case pos=>
 subst h1
 rw[if_pos rfl] at hv
 rw[if_pos rfl,if_pos rfl] at hR
 rw[hv] at hR
 obtain⟨e,he⟩:∃ e,A3 (some (some T.1)) x1 x2 f=e:=⟨_,rfl⟩
 simp only[he] at hR
 have hv':=HD hv
 have he':=HD he
 clear he1 hx1 hv he
 go_enter func121,ntmps121
 go_wp2_with (first|go_at_call 122;refine jq hS hT m i (x1,x2) 0 hx1'.out he1'.out ?_;clear hS;intro w _ hS;unfold ab|refine aq 176 rfl hS ?_;clear hS;intro br w _ hS|refine af rfl hS ?_|refine ak rfl hS ?_;clear hS;intro w hS)
 obtain⟨L,ks,G⟩:=T
 obtain⟨b',bo,ph,Eh,pg,Eg,sts,hbb,hH,hG,hks,hW,hGw,h1,h4,rfl⟩:=id hT
 obtain⟨⟩:=hbb
 have hS:St w0 bs w (⟨bv,#[.int .i64 0,.int .u32 0],176,true⟩::(⟨br,#[.int .i64 x1,.int .u32 x2],176,true⟩::⟨b7,#[.int .i64 f],3,true⟩::⟨b6,#[.int .i64 i],3,true⟩::⟨b5,#[.int .i64 m],3,true⟩::⟨b4,#[.pointer (some ⟨b,0,none⟩)],62,true⟩::⟨b,cA (some ⟨bo,0,none⟩) L.length sts.length (cv sts) pg,121,true⟩::⟨bo,#[.pointer ph],115,true⟩::(Eh++(Eg++(sts.map bU++Z))))):=by
  simp only[bX] at hS
  exact hS.p
 have hR:∀ w',St w0 bs w' (⟨bv,#[.int .i64 v1,.int .u32 v2],176,true⟩::(⟨br,#[.int .i64 x1,.int .u32 x2],176,true⟩::⟨b7,#[.int .i64 f],3,true⟩::⟨b6,#[.int .i64 i],3,true⟩::⟨b5,#[.int .i64 m],3,true⟩::⟨b4,#[.pointer (some ⟨b,0,none⟩)],62,true⟩::⟨b,cA (some ⟨bo,0,none⟩) L.length sts.length (cv sts) pg,121,true⟩::⟨bo,#[.pointer ph],115,true⟩::(Eh++(Eg++(sts.map bU++Z)))))->ab R (.int .i64 (fE e (v1,v2))) w':=fun w' hS'=>hR w' (by simp only[bX];exact hS'.p)
 obtain⟨Y,hY⟩:∃ Y,(⟨br,#[.int .i64 x1,.int .u32 x2],176,true⟩::⟨b7,#[.int .i64 f],3,true⟩::⟨b6,#[.int .i64 i],3,true⟩::⟨b5,#[.int .i64 m],3,true⟩::⟨b4,#[.pointer (some ⟨b,0,none⟩)],62,true⟩::⟨b,cA (some ⟨bo,0,none⟩) L.length sts.length (cv sts) pg,121,true⟩::⟨bo,#[.pointer ph],115,true⟩::(Eh++(Eg++(sts.map bU++Z))))=Y:=⟨_,rfl⟩
 have y4:Has Y b4 #[.pointer (some ⟨b,0,none⟩)] 62:=by rw[← hY];infer_instance
 have y7:Has Y b7 #[.int .i64 f] 3:=by rw[← hY];infer_instance
 have yr:Has Y br #[.int .i64 x1,.int .u32 x2] 176:=by rw[← hY];infer_instance
 have yb:Has Y b (cA (some ⟨bo,0,none⟩) L.length sts.length (cv sts) pg) 121:=by rw[← hY];infer_instance
 have yo:Has Y bo #[.pointer ph] 115:=by rw[← hY];infer_instance
 have yc:∃ Y1,Cut Y Eh Y1:=⟨_,by rw[← hY];infer_instance⟩
 obtain⟨Y1,yc⟩:=yc
 have hback:∀ X w',St w0 bs w' (Eh++(X++Y1))->St w0 bs w' (X++Y):=by
  obtain⟨A,B,e1,e2⟩:=yc.h
  intro X w' h
  rw[e1]
  rw[e2] at h
  exact h.p
 rw[hY] at hS hR
 clear hY hks hW hGw hG hT
 refine ao [⟨(undef,[⟨bv,#[.int .i64 0,.int .u32 0],176,true⟩]),[(13,fun _ x=>x.2=[⟨bv,#[.int .i64 v1,.int .u32 v2],176,true⟩])]⟩] Y (⟨bv,#[.int .i64 0,.int .u32 0],176,true⟩::Y) (by simp) hS (by kernel_rfl) (by kernel_rfl) ?_
 (refine fV (fun χ w hw=>ac _ _ rfl hw) ?_)
 refine fV (fun χ w hw=>ah rfl) ?_
 refine fV (fun χ w hw=>ag rfl) ?_
 (refine fV (fun χ w hw=>ac _ _ rfl hw) ?_)
 refine fV (fun χ w hw=>ah rfl) ?_
 refine fV (fun χ w hw=>ag rfl) ?_
 (refine fV (fun χ w hw=>ac _ _ rfl hw) ?_)
 (refine fV (fun χ w hw=>ai _ _ rfl hw) ?_)
 (refine fV (fun χ w hw=>ac _ _ rfl hw) ?_)
 refine cQ 123 [_,_,_] rfl (fun _=>rfl) rfl ae (.tuple #[.agg #[.int .i64 v1,.int .u32 v2],.int .i64 e]) (fun X w hS=>xR hS hH x1 x2 f (v1,v2) e hv'.out he'.out (fun w' _ hS'=>⟨rfl,hback _ _ hS'⟩)) ?_
 refine fV (fun χ w hw=>ad rfl) ?_
 refine fV (fun χ w hw=>aB rfl) ?_
 refine fV (fun χ w hw=>aB rfl) ?_
 refine ap 0 0 rfl rfl (by kernel_rfl) (by kernel_rfl) (by kernel_rfl) (fun _=>rfl) (fun _=>undef) ?_ ?_
 ·rintro χ X w _ hS
  exact aK _ _ _ rfl (show St w0 bs w (⟨bv,#[.int .i64 0,.int .u32 0],176,true⟩::(X++_)) from hS) (fun w' hS'=>⟨(undef,[⟨bv,#[.int .i64 v1,.int .u32 v2],176,true⟩]),rfl,rfl,hS'⟩)
 refine fV (fun χ w hw=>aG rfl) ?_
 refine bC rfl ?_
 intro χ w hok hS
 obtain⟨hD,_⟩:=hok _ (.head _)
 have hD:(χ 13).2=[⟨bv,#[.int .i64 v1,.int .u32 v2],176,true⟩]:=hD
 have hS:St w0 bs w (((χ 13).2++[])++Y):=hS
 rw[hD,List.append_nil] at hS
 simp only[cq] at hS
 clear hok hD
 by_cases h0:e=0
 ·subst h0
  have q5:=gp (show cd v1 v2 0 0=cd v1 v2 0 0 from rfl)
  have hxx:fE 0 (v1,v2)=if cd v1 v2 0 0 then 5 else 0:=by simp[fE]
  rw[hxx] at hR
  cases hb:cd v1 v2 0 0 with
  | true=>
   rw[hb] at hR q5
   go_wp2_with (first|refine wV (.binOp .eql 176 _ _ _) rfl (dh rfl) ?_|refine aL rfl ?_|refine au rfl hS ?_)
   exact hR _ hS.p
  | false=>
   rw[hb] at hR q5
   go_wp2_with (first|refine wV (.binOp .eql 176 _ _ _) rfl (dh rfl) ?_|refine aL rfl ?_|refine au rfl hS ?_)
   exact hR _ hS.p
 ·have q7:(e == 0)=false:=beq_eq_false_iff_ne.2 h0
  have q8:decide (e=0)=false:=decide_eq_false h0
  have hxx:fE e (v1,v2)=e:=by unfold fE;rw[if_neg h0]
  rw[hxx] at hR
  go_wp2_with (go_skip)
  exact hR _ hS.p
theorem Bk {o:Ob}(hW:ObW o)(i:Int):fc (se o i)=false∧0≤(se o i).2∧(se o i).2≤4294967295:=by
 unfold se
 split
 ·next hin=>
  simp only[u7,Bool.and_eq_true,decide_eq_true_eq] at hin
  obtain⟨k,rfl⟩:=Int.eq_ofNat_of_zero_le hin.1
  rw[Int.toNat_natCast]
  have hok:=hW.ok
  simp only[qs,Bool.and_eq_true,decide_eq_true_eq,List.all_eq_true] at hok
  have hk4:k<4:=by omega
  have hkl:k<o.2.1.length:=by rw[hW.len];exact hk4
  refine⟨?_,hW.gn _ (by rw[List.getD_eq_getElem?_getD,List.getElem?_eq_getElem hkl];exact List.getElem_mem hkl)⟩
  cases hz:f8 (o.2.1.getD k (0,0)) with
  | false=>unfold fc;rw[hz];rfl
  | true=>
   have:=hok.2 k (by unfold gl;rw[List.mem_filter,List.mem_range];exact⟨hk4,hz⟩)
   simp only[fi,Bool.not_eq_true',Bool.or_eq_false_iff] at this
   exact this.2
 ·exact⟨by decide,by decide,by decide⟩
theorem A2 {p:Option Addr}{L:List Hs}{Eh:List Ent}(hT:HA p (some (some L)) Eh){s g i:Int}:fc (vV (some (some L)) s g i)=false∧0≤(vV (some (some L)) s g i).2∧(vV (some (some L)) s g i).2≤4294967295:=by
 unfold vV
 split
 ·next h=>
  obtain⟨L2,j,hL2,rfl,hj,_,_,_,ho⟩:=dY h
  obtain⟨⟩:=hL2
  rw[ho]
  exact Bk (hT.1.at hj) i
 ·exact⟨by decide,by decide,by decide⟩
theorem yQ {r:Rf}(h:fc r=false)(hz:cd r.1 r.2 0 0=false):(0≤r.1∧r.1<256)∧1≤r.2:=by
 unfold fc f8 at h
 rw[hz] at h
 simp only[Bool.not_false,Bool.true_and,Bool.or_eq_false_iff,decide_eq_false_iff_not] at h
 omega
theorem A1 {p:Option Addr}{T:Ar}{Eh:List Ent}(hT:HA p (some (some T.1)) Eh)(m i f:Int):fc (qL T m i f)=false∧0≤(qL T m i f).2∧(qL T m i f).2≤4294967295:=by
 unfold qL
 split
 ·exact A2 hT
 ·exact⟨by decide,by decide,by decide⟩
open Go Go.RowKit Go.Mm
def oy (T:Ar)(m:Int)(v:Rf):Ar:=(T.1,T.2.1.set m.toNat (ez T m++[v]),T.2.2)
def Bi (T:Ar)(g:Int):Int:=fE (vE (some (true,T.2.2)) g) (ow (some (true,T.2.2)) g)
theorem Bj {p:Option Addr}{G:List Rf}{Eg:List Ent}(hG:GA p (some (true,G)) Eg)(hGw:∀ x∈G,fc x=false∧0≤x.2∧x.2≤4294967295)(f:Int):fc (ow (some (true,G)) f)=false∧0≤(ow (some (true,G)) f).2∧(ow (some (true,G)) f).2≤4294967295:=by
 unfold ow
 split
 ·next h0=>
  obtain⟨L2,k2,hL2,hk2,hk8,hk3⟩:=lj h0
  obtain⟨⟩:=hL2
  rw[hk3]
  have h8:G.length=8:=hG.1
  have hmem:G.getD k2 (0,0)∈G:=by rw[List.getD_eq_getElem?_getD,List.getElem?_eq_getElem (by omega)];exact List.getElem_mem (by omega)
  exact hGw _ hmem
 ·exact⟨by decide,by decide,by decide⟩
theorem pF {p:Option Addr}{T:Ar}(hO:St w0 bs w H)(hT:AA p T E)[hc:Cut H E H1](m i f:Int)(hm:fm T m=true)(hx:uY T m i f=0)(hlt:(ez T m).length<32)(r:Rf)(hr:qL T m i f=r)
  (hR:∀ E' w',AA p (oy T m r) E'->St w0 bs w' (E'++H1)->ab R (.tuple #[.agg #[.int .i64 r.1,.int .u32 r.2],.int .i64 0]) w'):Calls prog 76 #[.pointer p,.int .i64 m,.int .i64 i,.int .i64 f] w R:=by
 have hS:=hO.fr E H1
 clear hO
 obtain⟨L,ks,G⟩:=T
 obtain⟨b,bo,ph,Eh,pg,Eg,sts,rfl,hH,hG,hks,hW,hGw,h1,h4,rfl⟩:=id hT
 simp only[bX] at hS
 have hlp:=cC h4
 obtain⟨j,sk,rfl,hj,hsk,hrt⟩:=d7 hm hks
 have hWs:=hW sk (List.mem_of_getElem? hsk)
 have hlen:=hWs.len
 have hp:=ft hsk
 have hq':=HD (show(if (0:Int)≤(j:Int)∧(j:Int)<(sts.length:Int) then (cv sts).getD (j:Int).toNat none else none)=some ⟨sk.1,0,none⟩ by rw[if_pos (by omega),Int.toNat_natCast];exact hp)
 have he':=HD (show(if (0:Int)≤(j:Int)∧(j:Int)<(sts.length:Int) then (0:Int) else 3)=0 by rw[if_pos (by omega)])
 have hspl:=ei hsk
 have hL32:(sk.2.1++sk.2.2).length=32:=by rw[List.length_append];exact hlen
 have hn32:sk.2.1.length≤32:=by omega
 rw[hspl] at hS
 simp only[bX] at hS
 obtain⟨⟨v1,v2⟩,hv⟩:∃ v,qL (L,ks,G) j i f=v:=⟨_,rfl⟩
 have hvw:fc (v1,v2)=false∧0≤v2∧v2≤4294967295:=by
  have h:=A1 (T:=(L,ks,G)) hH j i f
  rw[hv] at h
  exact h
 obtain rfl:r=(v1,v2):=by rw[← hr];exact hv
 have hz:cd v1 v2 0 0=false:=by
  have h0:uY (L,ks,G) j i f=0:=hx
  have h5:fP (L,ks,G) j i=0:=by
   by_cases h:fP (L,ks,G) j i=0
   ·exact h
   ·unfold uY at h0;rw[if_neg h] at h0;exact absurd h0 h
  unfold uY fE at h0
  rw[if_pos h5,hv] at h0
  cases hb:cd v1 v2 0 0 with
  | false=>rfl
  | true=>
   simp only[hb,if_true] at h0
   split at h0
   ·cases h0
   ·next h=>exact absurd h0 h
 have hbd:=yQ hvw.1 hz
 have hTn:∀ Y,Y=⟨b,cA (some ⟨bo,0,none⟩) L.length sts.length (cv sts) pg,121,true⟩::⟨bo,#[.pointer ph],115,true⟩::(Eh++(Eg++((sts.take j).map bU++(bU (mL sk (v1,v2))::(sts.drop (j+1)).map bU))))->AA (some ⟨b,0,none⟩) (oy (L,ks,G) j (v1,v2)) Y:=by
  rintro Y rfl
  have e:oy (L,ks,G) j (v1,v2)=(L,ks.set j (mL sk (v1,v2)).2.1,G):=by simp only[oy,Int.toNat_natCast,← hrt];rfl
  rw[e]
  refine⟨b,bo,ph,Eh,pg,Eg,sts.set j (mL sk (v1,v2)),rfl,hH,hG,by rw[List.map_set,hks],fun y hy=>?_,hGw,by rw[List.length_set];exact h1,by rw[List.length_set];exact h4,by rw[List.length_set,jc (sk':=mL sk (v1,v2)) hsk rfl,lq hsk]⟩
  rcases List.mem_or_eq_of_mem_set hy with hy|rfl
  ·exact hW y hy
  ·exact tF hWs (by rw[hrt];exact hlt) ⟨hbd.1,hbd.2,hvw.2.2⟩
 have hTn':=HD hTn
 have hlt2:sk.2.1.length<32:=by rw[hrt];exact hlt
 have hv':=HD hv
 have hx':=HD hx
 have hp':=HD hp
 have hWs':=HD hWs
 have hbd':=HD hbd
 clear hm hks hW hGw hWs hlen hp hL32 hrt hr hv hx hlt hTn hz hbd hvw
 go_enter func76,ntmps76
 go_wp2_with (first|refine am (o:=⟨some 4,_,_,_,_,_⟩) _ rfl hS ?_;clear hS;intro b4 w _ hS|refine am (o:=⟨some 5,_,_,_,_,_⟩) _ rfl hS ?_;clear hS;intro b5 w _ hS|refine am (o:=⟨some 6,_,_,_,_,_⟩) _ rfl hS ?_;clear hS;intro b6 w _ hS|refine am (o:=⟨some 7,_,_,_,_,_⟩) _ rfl hS ?_;clear hS;intro b7 w _ hS|refine aq (o:=⟨some 8,_,_,_,_,_⟩) _ rfl hS ?_;clear hS;intro b8 w _ hS|refine aq (o:=⟨some 10,_,_,_,_,_⟩) _ rfl hS ?_;clear hS;intro bv w _ hS|refine af rfl hS ?_)
 refine vf (fl:=121) (ff:=124) (capl:=[_,_,_,_,_]) (capf:=[_]) (sk:=sk) (Hl:=⟨bv,#[.int .i64 v1,.int .u32 v2],176,true⟩::⟨b8,#[.int .i64 0,.int .u32 0],176,true⟩::⟨b7,#[.int .i64 f],3,true⟩::⟨b6,#[.int .i64 i],3,true⟩::⟨b5,#[.int .i64 (j:Int)],3,true⟩::⟨b4,#[.pointer (some ⟨b,0,none⟩)],62,true⟩::⟨b,cA (some ⟨bo,0,none⟩) L.length sts.length (cv sts) pg,121,true⟩::⟨bo,#[.pointer ph],115,true⟩::(Eh++(Eg++((sts.take j).map bU++(bU sk::((sts.drop (j+1)).map bU++H1)))))) hS h4 hlp hj hp'.out hWs'.out hlt2 ae ae (v1,v2) hbd'.out
  (fun Y=>Y=⟨bv,#[.int .i64 v1,.int .u32 v2],176,true⟩::⟨b8,#[.int .i64 0,.int .u32 0],176,true⟩::⟨b7,#[.int .i64 f],3,true⟩::⟨b6,#[.int .i64 i],3,true⟩::⟨b5,#[.int .i64 (j:Int)],3,true⟩::⟨b4,#[.pointer (some ⟨b,0,none⟩)],62,true⟩::⟨b,cA (some ⟨bo,0,none⟩) L.length sts.length (cv sts) pg,121,true⟩::⟨bo,#[.pointer ph],115,true⟩::(Eh++(Eg++((sts.take j).map bU++((sts.drop (j+1)).map bU++H1))))) ?_ ?_ ?_
 ·intro X w' hS'
  refine Dn (bs:=bs) (w0:=w0) (T:=(L,ks,G)) (Z:=⟨b8,#[.int .i64 0,.int .u32 0],176,true⟩::(H1++X)) hT v1 v2 hv'.out hx'.out ?_ (fun w'' hS''=>⟨rfl,?_⟩)
  ·simp only[List.cons_append,List.append_assoc,hspl] at hS' ⊢
   exact hS'.p
  ·simp only[List.cons_append,List.append_assoc,hspl] at hS'' ⊢
   exact hS''.p
 ·intro X w' hS'
  refine Bn (bs:=bs) (w0:=w0) (H:=(⟨bv,#[.int .i64 v1,.int .u32 v2],176,true⟩::⟨b8,#[.int .i64 0,.int .u32 0],176,true⟩::⟨b7,#[.int .i64 f],3,true⟩::⟨b6,#[.int .i64 i],3,true⟩::⟨b5,#[.int .i64 (j:Int)],3,true⟩::⟨b4,#[.pointer (some ⟨b,0,none⟩)],62,true⟩::⟨b,cA (some ⟨bo,0,none⟩) L.length sts.length (cv sts) pg,121,true⟩::⟨bo,#[.pointer ph],115,true⟩::(Eh++(Eg++((sts.take j).map bU++(bU sk::((sts.drop (j+1)).map bU++H1))))))++X) hS' (fun w'' hS''=>⟨_,rfl,rfl,?_⟩)
  simp only[bX] at hS'' ⊢
  exact hS''.p
 ·rintro Y w rfl hS
  unfold ab
  go_wp2_with ((refine ak rfl hS ?_);clear hS;intro w hS)
  refine bodyPost_ret (aJ rfl hS) rfl ?_
  exact hR _ _ (hTn'.out _ rfl) (by simp only[bX];exact hS.p)
theorem sE {p:Option Addr}{T:Ar}(hO:St w0 bs w H)(hT:AA p T E)[hc:Cut H E H1](m f:Int)(hm:fm T m=true)(hx:Bi T f=0)(hlt:(ez T m).length<32)(r:Rf)(hr:ow (some (true,T.2.2)) f=r)
  (hR:∀ E' w',AA p (oy T m r) E'->St w0 bs w' (E'++H1)->ab R (.tuple #[.agg #[.int .i64 r.1,.int .u32 r.2],.int .i64 0]) w'):Calls prog 85 #[.pointer p,.int .i64 m,.int .i64 f] w R:=by
 have hS:=hO.fr E H1
 clear hO
 obtain⟨L,ks,G⟩:=T
 obtain⟨b,bo,ph,Eh,pg,Eg,sts,rfl,hH,hG,hks,hW,hGw,h1,h4,rfl⟩:=id hT
 simp only[bX] at hS
 have hlp:=cC h4
 obtain⟨j,sk,rfl,hj,hsk,hrt⟩:=d7 hm hks
 have hWs:=hW sk (List.mem_of_getElem? hsk)
 have hlen:=hWs.len
 have hp:=ft hsk
 have hq':=HD (show(if (0:Int)≤(j:Int)∧(j:Int)<(sts.length:Int) then (cv sts).getD (j:Int).toNat none else none)=some ⟨sk.1,0,none⟩ by rw[if_pos (by omega),Int.toNat_natCast];exact hp)
 have he':=HD (show(if (0:Int)≤(j:Int)∧(j:Int)<(sts.length:Int) then (0:Int) else 3)=0 by rw[if_pos (by omega)])
 have hspl:=ei hsk
 have hL32:(sk.2.1++sk.2.2).length=32:=by rw[List.length_append];exact hlen
 have hn32:sk.2.1.length≤32:=by omega
 rw[hspl] at hS
 simp only[bX] at hS
 obtain⟨⟨v1,v2⟩,hv⟩:∃ v,ow (some (true,G)) f=v:=⟨_,rfl⟩
 have hvw:fc (v1,v2)=false∧0≤v2∧v2≤4294967295:=by
  have h:=Bj hG hGw f
  rw[hv] at h
  exact h
 obtain rfl:r=(v1,v2):=by rw[← hr];exact hv
 have hz:cd v1 v2 0 0=false:=by
  have h0:Bi (L,ks,G) f=0:=hx
  unfold Bi fE at h0
  rw[hv] at h0
  cases hb:cd v1 v2 0 0 with
  | false=>rfl
  | true=>
   simp only[hb,if_true] at h0
   split at h0
   ·cases h0
   ·next h=>exact absurd h0 h
 have hbd:=yQ hvw.1 hz
 have hTn:∀ Y,Y=⟨b,cA (some ⟨bo,0,none⟩) L.length sts.length (cv sts) pg,121,true⟩::⟨bo,#[.pointer ph],115,true⟩::(Eh++(Eg++((sts.take j).map bU++(bU (mL sk (v1,v2))::(sts.drop (j+1)).map bU))))->AA (some ⟨b,0,none⟩) (oy (L,ks,G) j (v1,v2)) Y:=by
  rintro Y rfl
  have e:oy (L,ks,G) j (v1,v2)=(L,ks.set j (mL sk (v1,v2)).2.1,G):=by simp only[oy,Int.toNat_natCast,← hrt];rfl
  rw[e]
  refine⟨b,bo,ph,Eh,pg,Eg,sts.set j (mL sk (v1,v2)),rfl,hH,hG,by rw[List.map_set,hks],fun y hy=>?_,hGw,by rw[List.length_set];exact h1,by rw[List.length_set];exact h4,by rw[List.length_set,jc (sk':=mL sk (v1,v2)) hsk rfl,lq hsk]⟩
  rcases List.mem_or_eq_of_mem_set hy with hy|rfl
  ·exact hW y hy
  ·exact tF hWs (by rw[hrt];exact hlt) ⟨hbd.1,hbd.2,hvw.2.2⟩
 have hTn':=HD hTn
 have hlt2:sk.2.1.length<32:=by rw[hrt];exact hlt
 have hv':=HD hv
 have hx':=HD hx
 have hp':=HD hp
 have hWs':=HD hWs
 have hbd':=HD hbd
 clear hm hks hW hGw hWs hlen hp hL32 hrt hr hv hx hlt hTn hz hbd hvw
 go_enter func85,ntmps85
 go_wp2_with (first|refine am (o:=⟨some 3,_,_,_,_,_⟩) _ rfl hS ?_;clear hS;intro b4 w _ hS|refine am (o:=⟨some 5,_,_,_,_,_⟩) _ rfl hS ?_;clear hS;intro b5 w _ hS|refine aq (o:=⟨some 6,_,_,_,_,_⟩) _ rfl hS ?_;clear hS;intro b8 w _ hS|refine aq (o:=⟨some 8,_,_,_,_,_⟩) _ rfl hS ?_;clear hS;intro bv w _ hS|refine af rfl hS ?_)
 refine vf (fl:=131) (ff:=133) (capl:=[_,_,_]) (capf:=[_]) (sk:=sk) (Hl:=⟨bv,#[.int .i64 v1,.int .u32 v2],176,true⟩::⟨b8,#[.int .i64 0,.int .u32 0],176,true⟩::⟨b5,#[.int .i64 f],3,true⟩::⟨b4,#[.pointer (some ⟨b,0,none⟩)],62,true⟩::⟨b,cA (some ⟨bo,0,none⟩) L.length sts.length (cv sts) pg,121,true⟩::⟨bo,#[.pointer ph],115,true⟩::(Eh++(Eg++((sts.take j).map bU++(bU sk::((sts.drop (j+1)).map bU++H1)))))) hS h4 hlp hj hp'.out hWs'.out hlt2 ae ae (v1,v2) hbd'.out
  (fun Y=>Y=⟨bv,#[.int .i64 v1,.int .u32 v2],176,true⟩::⟨b8,#[.int .i64 0,.int .u32 0],176,true⟩::⟨b5,#[.int .i64 f],3,true⟩::⟨b4,#[.pointer (some ⟨b,0,none⟩)],62,true⟩::⟨b,cA (some ⟨bo,0,none⟩) L.length sts.length (cv sts) pg,121,true⟩::⟨bo,#[.pointer ph],115,true⟩::(Eh++(Eg++((sts.take j).map bU++((sts.drop (j+1)).map bU++H1))))) ?_ ?_ ?_
 ·intro X w' hS'
  refine GY (bs:=bs) (w0:=w0) (b:=b) (ba:=0) (bo:=bo) (z:=L.length) (k:=sts.length) (Z:=⟨b8,#[.int .i64 0,.int .u32 0],176,true⟩::⟨bo,#[.pointer ph],115,true⟩::(Eh++((sts.take j).map bU++(bU sk::((sts.drop (j+1)).map bU++(H1++X)))))) hlp hG v1 v2 hv'.out rfl ?_ (fun w'' hS''=>⟨by rw[← hx'.out,← hv'.out];rfl,?_⟩)
  ·simp only[bX] at hS' ⊢
   exact hS'.p
  ·simp only[bX] at hS'' ⊢
   exact hS''.p
 ·intro X w' hS'
  refine GX (bs:=bs) (w0:=w0) (H:=(⟨bv,#[.int .i64 v1,.int .u32 v2],176,true⟩::⟨b8,#[.int .i64 0,.int .u32 0],176,true⟩::⟨b5,#[.int .i64 f],3,true⟩::⟨b4,#[.pointer (some ⟨b,0,none⟩)],62,true⟩::⟨b,cA (some ⟨bo,0,none⟩) L.length sts.length (cv sts) pg,121,true⟩::⟨bo,#[.pointer ph],115,true⟩::(Eh++(Eg++((sts.take j).map bU++(bU sk::((sts.drop (j+1)).map bU++H1))))))++X) hS' (fun w'' hS''=>⟨_,rfl,rfl,?_⟩)
  simp only[bX] at hS'' ⊢
  exact hS''.p
 ·rintro Y w rfl hS
  unfold ab
  go_wp2_with ((refine ak rfl hS ?_);clear hS;intro w hS)
  refine bodyPost_ret (aJ rfl hS) rfl ?_
  exact hR _ _ (hTn'.out _ rfl) (by simp only[bX];exact hS.p)
open Go Go.RowKit Go.Mm
theorem xl {L:List Rf}{i:Nat}(hi:i<8){r:Rf}(hw:fc r=false):mW (some (true,L)) i r=0∧BT (some (true,L)) i r=L.getD i (0,0)∧BS (some (true,L)) i r=some (true,L.set i r):=by
 have hin:ou i=true:=by simp[ou];omega
 have e0:mW (some (true,L)) i r=0:=by simp[mW,vE,vN,hw,hin]
 refine⟨e0,?_,?_⟩
 ·unfold BT;rw[if_pos e0,Int.toNat_natCast];rfl
 ·unfold BS;rw[if_pos e0,Int.toNat_natCast];rfl
theorem C4 {r:Rf}(h:(0≤r.1∧r.1<256)∧1≤r.2∧r.2≤4294967295):fc r=false∧0≤r.2∧r.2≤4294967295:=by
 refine⟨?_,by omega,h.2.2⟩
 unfold fc
 have q1:decide (r.1<0)=false:=DF
 have q2:decide (256≤r.1)=false:=DF
 have q3:decide (r.2<1)=false:=DF
 simp only[q1,q2,q3,Bool.or_false,Bool.and_false]
theorem z5 {p:Option Addr}{T:Ar}(hT:AA p T E)(m i:Int):fc (fk T m i)=false∧0≤(fk T m i).2∧(fk T m i).2≤4294967295:=by
 obtain⟨b,bo,ph,Eh,pg,Eg,sts,_,_,_,hks,hW,_⟩:=hT
 unfold fk
 split
 ·next h0=>
  unfold fP at h0
  cases hm:fm T m with
  | false=>rw[hm] at h0;cases h0
  | true=>
   rw[hm,if_pos rfl] at h0
   obtain⟨j,sk,rfl,hj,hsk,hrt⟩:=d7 hm hks
   split at h0
   ·next hi=>
    rw[← hrt] at hi ⊢
    have hil:i.toNat<sk.2.1.length:=by omega
    exact C4 ((hW sk (List.mem_of_getElem? hsk)).ok _ (by rw[List.getD_eq_getElem?_getD,List.getElem?_eq_getElem hil];exact List.getElem_mem hil))
   ·cases h0
 ·exact⟨by decide,by decide,by decide⟩
theorem sP {p:Option Addr}{T:Ar}(hT:AA p T E)(m i:Int):fc (jv T m i)=false∧0≤(jv T m i).2∧(jv T m i).2≤4294967295:=by
 unfold jv
 split
 ·exact⟨by decide,by decide,by decide⟩
 ·exact z5 hT m i
def xp (T:Ar)(g:Int)(v:Rf):Ar:=(T.1,T.2.1,T.2.2.set g.toNat v)
theorem sB {p:Option Addr}{T:Ar}(hO:St w0 bs w H)(hT:AA p T E)[hc:Cut H E H1](m i g:Int)(he:mj T m i=0)(hg:ou g=true){T': Ar}(v u:Rf)(hv:jv T m i=v)(hu:T.2.2.getD g.toNat (0,0)=u)(hT' : xp T g v=T')
  (hR:∀ E' w',AA p T' E'->St w0 bs w' (E'++H1)->ab R (.tuple #[.agg #[.int .i64 u.1,.int .u32 u.2],.agg #[.int .i64 v.1,.int .u32 v.2],.int .i64 0]) w'):Calls prog 83 #[.pointer p,.int .i64 m,.int .i64 i,.int .i64 g] w R:=by
 have hS:=hO.fr E H1
 clear hO
 subst hT'
 have hvw:=sP hT m i
 rw[hv] at hvw
 obtain⟨v1,v2⟩:=v
 obtain⟨u1,u2⟩:=u
 have hv':=HD hv
 have he':=HD he
 obtain⟨gk,rfl,hgk,_⟩:=lQ hg
 rw[Int.toNat_natCast] at hu
 clear hv he hg
 go_enter func83,ntmps83
 go_wp2_with (first|refine aq (o:=⟨some 8,_,_,_,_,_⟩) _ rfl hS ?_;clear hS;intro b8 w _ hS|refine aq (o:=⟨some 9,_,_,_,_,_⟩) _ rfl hS ?_;clear hS;intro b9 w _ hS|go_at_call 125;refine oa hS hT m i (v1,v2) 0 hv'.out he'.out ?_;clear hS;intro w _ hS;unfold ab|refine aq (o:=⟨some 11,_,_,_,_,_⟩) _ rfl hS ?_;clear hS;intro b11 w _ hS|refine ak rfl hS ?_;clear hS;intro w hS)
 obtain⟨L,ks,G⟩:=T
 obtain⟨b,bo,ph,Eh,pg,Eg,sts,rfl,hH,hG,hks,hW,hGw,h1,h4,rfl⟩:=id hT
 have hlp:=cC h4
 obtain⟨p1,p2,p3⟩:=xl (L:=G) hgk hvw.1
 have hu2:G.getD gk (0,0)=(u1,u2):=hu
 rw[hu2] at p2
 have p1':=HD p1
 have p2':=HD p2
 have p3':=HD p3
 have hvg':=HD hvw.2
 have hcg' : CellAt (cA (some ⟨bo,0,none⟩) L.length sts.length (cv sts) pg) (0+7) (.pointer pg):=Hu hlp
 have hS:St w0 bs w (Eg++(⟨b11,#[.int .i64 v1,.int .u32 v2],176,true⟩::⟨b9,#[.int .i64 0,.int .u32 0],176,true⟩::⟨b8,#[.int .i64 0,.int .u32 0],176,true⟩::⟨b,cA (some ⟨bo,0,none⟩) L.length sts.length (cv sts) pg,121,true⟩::⟨bo,#[.pointer ph],115,true⟩::(Eh++(sts.map bU++H1)))):=by
  simp only[bX] at hS
  exact hS.p
 have hTn:∀ Eg' Z,GA pg (some (true,G.set gk (v1,v2))) Eg'->Z=⟨b,cA (some ⟨bo,0,none⟩) L.length sts.length (cv sts) pg,121,true⟩::⟨bo,#[.pointer ph],115,true⟩::(Eh++(Eg'++sts.map bU))->AA (some ⟨b,0,none⟩) (xp (L,ks,G) gk (v1,v2)) Z:=by
  rintro Eg' Z hG' rfl
  have e:xp (L,ks,G) gk (v1,v2)=(L,ks,G.set gk (v1,v2)):=by simp only[xp,Int.toNat_natCast]
  rw[e]
  refine⟨b,bo,ph,Eh,pg,Eg',sts,rfl,hH,hG',hks,hW,fun y hy=>?_,h1,h4,rfl⟩
  rcases List.mem_or_eq_of_mem_set hy with hy|rfl
  ·exact hGw y hy
  ·exact hvw
 have hTn':=HD hTn
 obtain⟨Y,hY⟩:∃ Y,⟨b11,#[.int .i64 v1,.int .u32 v2],176,true⟩::⟨b9,#[.int .i64 0,.int .u32 0],176,true⟩::⟨b8,#[.int .i64 0,.int .u32 0],176,true⟩::⟨b,cA (some ⟨bo,0,none⟩) L.length sts.length (cv sts) pg,121,true⟩::⟨bo,#[.pointer ph],115,true⟩::(Eh++(sts.map bU++H1))=Y:=⟨_,rfl⟩
 have y1:Has Y b11 #[.int .i64 v1,.int .u32 v2] 176:=by rw[← hY];infer_instance
 have y2:Has Y b (cA (some ⟨bo,0,none⟩) L.length sts.length (cv sts) pg) 121:=by rw[← hY];infer_instance
 rw[hY] at hS
 clear hT hu hu2 p1 p2 p3 hvw hTn hks hW hGw hH
 refine ao [⟨(undef,Eg),[(6,fun _ x=>GA pg (some (true,G.set gk (v1,v2))) x.2)]⟩,⟨(undef,[]),[(10,fun _ x=>∃ b,x=(.pointer (some ⟨b,0,none⟩),[⟨b,#[.int .i64 0,.int .u32 0],176,true⟩])),(11,fun y x=>∃ b,y.1=.pointer (some ⟨b,0,none⟩)∧x.2=[⟨b,#[.int .i64 u1,.int .u32 u2],176,true⟩])]⟩]
  Y (Eg++Y) (by simp) hS (by kernel_rfl) (by kernel_rfl) ?_
 refine fV (fun χ w hw=>ad rfl) ?_
 refine fV (fun χ w hw=>ah rfl) ?_
 refine fV (fun χ w hw=>ag rfl) ?_
 (refine fV (fun χ w hw=>ac _ _ rfl hw) ?_)
 refine fV (fun χ w hw=>ad rfl) ?_
 (refine fV (fun χ w hw=>ai _ _ rfl hw) ?_)
 refine cj 0 0 rfl rfl (by kernel_rfl) (by kernel_rfl) (by kernel_rfl) 130 [_,_,_] rfl (fun _=>rfl) ae (fun _=>.tuple #[.agg #[.int .i64 u1,.int .u32 u2],.int .i64 0]) ?_ ?_
 ·intro χ X w _ hS
  exact Bd (show St w0 bs w (Eg++(X++_)) from hS) hG gk v1 v2 hvg'.out (u1,u2) 0 p3'.out p2'.out p1'.out (fun E' w' hT' hS'=>⟨(undef,E'),rfl,hT',show St w0 bs w' (E'++(X++_)) from hS'.p⟩)
 refine fV (fun χ w hw=>ad rfl) ?_
 refine fV (fun χ w hw=>aB rfl) ?_
 refine fV (fun χ w hw=>aB rfl) ?_
 refine ap 1 0 rfl rfl (by kernel_rfl) (by kernel_rfl) (by kernel_rfl) (fun _=>rfl) (fun x=>x.1) ?_ ?_
 ·intro χ X w _ hS
  exact bE rfl (show St w0 bs w (X++_) from hS) (fun b w' _ hS'=>⟨(_,[_]),rfl,⟨b,rfl⟩,hS'⟩)
 refine ap 1 1 rfl rfl (by kernel_rfl) (by kernel_rfl) (by kernel_rfl) (fun _=>rfl) (fun _=>undef) ?_ ?_
 ·rintro χ X w ⟨⟨b,hb⟩,_⟩ hS
  have hS:St w0 bs w ((χ 10).2++(X++_)):=hS
  rw[hb] at hS
  have hS:St w0 bs w (⟨b,#[.int .i64 0,.int .u32 0],176,true⟩::(X++_)):=hS
  have hb1:(χ 10).1=.pointer (some ⟨b,0,none⟩):=by rw[hb]
  exact aZ rfl hS hb1 (fun w' hS'=>⟨(undef,[⟨b,#[.int .i64 u1,.int .u32 u2],176,true⟩]),rfl,⟨b,hb1,rfl⟩,hS'⟩)
 refine fV (fun χ w hw=>aG rfl) ?_
 refine bC rfl ?_
 intro χ w hok hS
 obtain⟨hT2,_⟩:=hok _ (.head _)
 have hT2:GA pg (some (true,G.set gk (v1,v2))) (χ 6).2:=hT2
 obtain⟨⟨b13,hb⟩,⟨bo',hb1,hb2⟩,_⟩:=hok _ (.tail _ (.head _))
 rw[hb] at hb1
 obtain⟨⟩:=hb1
 have hS:St w0 bs w (((χ 6).2++((χ 11).2++[]))++Y):=hS
 rw[hb2,List.append_nil,List.append_assoc] at hS
 generalize (χ 6).2=E2 at hS hT2
 simp only[hb]
 simp only[cq] at hS
 clear hok hb2 hb
 rw[← hY] at hS
 go_wp2_with (go_skip)
 have hS:St w0 bs w (⟨b8,#[.int .i64 0,.int .u32 0],176,true⟩::⟨b9,#[.int .i64 0,.int .u32 0],176,true⟩::(⟨b13,#[.int .i64 u1,.int .u32 u2],176,true⟩::⟨b11,#[.int .i64 v1,.int .u32 v2],176,true⟩::⟨b,cA (some ⟨bo,0,none⟩) L.length sts.length (cv sts) pg,121,true⟩::⟨bo,#[.pointer ph],115,true⟩::(Eh++(E2++(sts.map bU++H1))))):=hS.p
 obtain⟨Y2,hY2⟩:∃ Y2,(⟨b13,#[.int .i64 u1,.int .u32 u2],176,true⟩::⟨b11,#[.int .i64 v1,.int .u32 v2],176,true⟩::⟨b,cA (some ⟨bo,0,none⟩) L.length sts.length (cv sts) pg,121,true⟩::⟨bo,#[.pointer ph],115,true⟩::(Eh++(E2++(sts.map bU++H1))))=Y2:=⟨_,rfl⟩
 have z1:Has Y2 b13 #[.int .i64 u1,.int .u32 u2] 176:=by rw[← hY2];infer_instance
 have z2:Has Y2 b11 #[.int .i64 v1,.int .u32 v2] 176:=by rw[← hY2];infer_instance
 rw[hY2] at hS
 refine ao [⟨(undef,[⟨b8,#[.int .i64 0,.int .u32 0],176,true⟩]),[(2,fun _ x=>x.2=[⟨b8,#[.int .i64 u1,.int .u32 u2],176,true⟩])]⟩,⟨(undef,[⟨b9,#[.int .i64 0,.int .u32 0],176,true⟩]),[(3,fun _ x=>x.2=[⟨b9,#[.int .i64 v1,.int .u32 v2],176,true⟩])]⟩] Y2 (⟨b8,#[.int .i64 0,.int .u32 0],176,true⟩::⟨b9,#[.int .i64 0,.int .u32 0],176,true⟩::Y2) (by simp) hS (by kernel_rfl) (by kernel_rfl) ?_
 refine fV (fun χ w hw=>ai _ _ rfl hw) ?_
 refine fV (fun χ w hw=>ai _ _ rfl hw) ?_
 refine ap 0 0 rfl rfl (by kernel_rfl) (by kernel_rfl) (by kernel_rfl) (fun _=>rfl) (fun _=>undef) ?_ ?_
 ·rintro χ X w _ hS
  exact aK _ _ _ rfl (show St w0 bs w (⟨b8,#[.int .i64 0,.int .u32 0],176,true⟩::(X++_)) from hS) (fun w' hS'=>⟨(undef,[⟨b8,#[.int .i64 u1,.int .u32 u2],176,true⟩]),rfl,rfl,hS'⟩)
 refine ap 1 0 rfl rfl (by kernel_rfl) (by kernel_rfl) (by kernel_rfl) (fun _=>rfl) (fun _=>undef) ?_ ?_
 ·rintro χ X w _ hS
  exact aK _ _ _ rfl (show St w0 bs w (⟨b9,#[.int .i64 0,.int .u32 0],176,true⟩::(X++_)) from hS) (fun w' hS'=>⟨(undef,[⟨b9,#[.int .i64 v1,.int .u32 v2],176,true⟩]),rfl,rfl,hS'⟩)
 refine fV (fun χ w hw=>aG rfl) ?_
 refine bC rfl ?_
 intro χ w hok hS
 obtain⟨hD1,_⟩:=hok _ (.head _)
 obtain⟨hD2,_⟩:=hok _ (.tail _ (.head _))
 have hD1:(χ 2).2=[⟨b8,#[.int .i64 u1,.int .u32 u2],176,true⟩]:=hD1
 have hD2:(χ 3).2=[⟨b9,#[.int .i64 v1,.int .u32 v2],176,true⟩]:=hD2
 have hS:St w0 bs w (((χ 2).2++((χ 3).2++[]))++Y2):=hS
 rw[hD1,hD2] at hS
 clear hok hD1 hD2
 simp only[cq] at hS
 go_wp2_with (go_skip)
 refine bodyPost_ret (gT rfl hS) rfl ?_
 rw[← hY2] at hS
 exact hR _ _ (hTn'.out _ _ hT2 rfl) (by simp only[bX];exact hS.p)
def vQ (T:Ar)(m i f c:Int):Ar:=(iJ (oI (some (some T.1)) (fk T m i).1 (fk T m i).2 f (jv T m c)),T.2.1,T.2.2)
theorem oc {p:Option Addr}{T:Ar}(hO:St w0 bs w H)(hT:AA p T E)[hc:Cut H E H1](m i f c:Int)(her:fP T m i=0)(hev:mj T m c=0)(r v u:Rf)(hr:fk T m i=r)(hv:jv T m c=v)(hes:mm (some (some T.1)) r.1 r.2 f v=0)(hu:oo (some (some T.1)) r.1 r.2 f v=u){T': Ar}(hT' : vQ T m i f c=T')
  (hR:∀ E' w',AA p T' E'->St w0 bs w' (E'++H1)->ab R (.tuple #[.agg #[.int .i64 u.1,.int .u32 u.2],.agg #[.int .i64 v.1,.int .u32 v.2],.int .i64 0]) w'):Calls prog 78 #[.pointer p,.int .i64 m,.int .i64 i,.int .i64 f,.int .i64 c] w R:=by
 have hS:=hO.fr E H1
 clear hO
 subst hT'
 have hvw:=sP hT m c
 rw[hv] at hvw
 obtain⟨v1,v2⟩:=v
 obtain⟨u1,u2⟩:=u
 obtain⟨r1,r2⟩:=r
 have hv':=HD hv
 have hev':=HD hev
 have hr':=HD hr
 have her':=HD her
 have hTe:vQ T m i f c=(iJ (oI (some (some T.1)) r1 r2 f (v1,v2)),T.2.1,T.2.2):=by unfold vQ;rw[hr,hv]
 rw[hTe] at hR
 clear hv hev hr her hTe
 go_enter func78,ntmps78
 go_wp2_with (first|refine aq (o:=⟨some 10,_,_,_,_,_⟩) _ rfl hS ?_;clear hS;intro b10 w _ hS|refine aq (o:=⟨some 11,_,_,_,_,_⟩) _ rfl hS ?_;clear hS;intro b11 w _ hS|(first|go_at_call 122;refine jq hS hT m i (r1,r2) 0 hr'.out her'.out ?_|go_at_call 125;refine oa hS hT m c (v1,v2) 0 hv'.out hev'.out ?_);clear hS;intro w _ hS;unfold ab|refine aq (o:=⟨some 13,_,_,_,_,_⟩) _ rfl hS ?_;clear hS;intro b13 w _ hS|refine aq (o:=⟨some 15,_,_,_,_,_⟩) _ rfl hS ?_;clear hS;intro b15 w _ hS|refine ak rfl hS ?_;clear hS;intro w hS)
 obtain⟨L,ks,G⟩:=T
 obtain⟨b,bo,ph,Eh,pg,Eg,sts,rfl,hH,hG,hks,hW,hGw,h1,h4,rfl⟩:=id hT
 have hes2:mm (some (some L)) r1 r2 f (v1,v2)=0:=hes
 have hu2:oo (some (some L)) r1 r2 f (v1,v2)=(u1,u2):=hu
 obtain⟨L',hL',hll⟩:∃ L',oI (some (some L)) r1 r2 f (v1,v2)=some (some L')∧L'.length=L.length:=by
  unfold oI
  rw[if_pos hes2]
  exact⟨_,rfl,by simp[oq,iJ]⟩
 have hes':=HD hes2
 have hu':=HD hu2
 have hL2':=HD hL'
 have hvg':=HD hvw.2
 have hR:∀ E' w',AA (some ⟨b,0,none⟩) (L',ks,G) E'->St w0 bs w' (E'++H1)->ab R (.tuple #[.agg #[.int .i64 u1,.int .u32 u2],.agg #[.int .i64 v1,.int .u32 v2],.int .i64 0]) w':=fun E' w' h=>hR E' w' (by simp only[hL',iJ];exact h)
 have hS:St w0 bs w (Eh++(⟨b15,#[.int .i64 v1,.int .u32 v2],176,true⟩::⟨b13,#[.int .i64 r1,.int .u32 r2],176,true⟩::⟨b11,#[.int .i64 0,.int .u32 0],176,true⟩::⟨b10,#[.int .i64 0,.int .u32 0],176,true⟩::⟨b,cA (some ⟨bo,0,none⟩) L.length sts.length (cv sts) pg,121,true⟩::⟨bo,#[.pointer ph],115,true⟩::(Eg++(sts.map bU++H1)))):=by
  simp only[bX] at hS
  exact hS.p
 have hTn:∀ Eh' Z,HA ph (some (some L')) Eh'->Z=⟨b,cA (some ⟨bo,0,none⟩) L.length sts.length (cv sts) pg,121,true⟩::⟨bo,#[.pointer ph],115,true⟩::(Eh'++(Eg++sts.map bU))->AA (some ⟨b,0,none⟩) (L',ks,G) Z:=by
  rintro Eh' Z hH' rfl
  exact⟨b,bo,ph,Eh',pg,Eg,sts,rfl,hH',hG,hks,hW,hGw,h1,h4,by rw[hll]⟩
 have hTn':=HD hTn
 obtain⟨Y,hY⟩:∃ Y,⟨b15,#[.int .i64 v1,.int .u32 v2],176,true⟩::⟨b13,#[.int .i64 r1,.int .u32 r2],176,true⟩::⟨b11,#[.int .i64 0,.int .u32 0],176,true⟩::⟨b10,#[.int .i64 0,.int .u32 0],176,true⟩::⟨b,cA (some ⟨bo,0,none⟩) L.length sts.length (cv sts) pg,121,true⟩::⟨bo,#[.pointer ph],115,true⟩::(Eg++(sts.map bU++H1))=Y:=⟨_,rfl⟩
 have y1:Has Y b15 #[.int .i64 v1,.int .u32 v2] 176:=by rw[← hY];infer_instance
 have y3:Has Y b13 #[.int .i64 r1,.int .u32 r2] 176:=by rw[← hY];infer_instance
 have y2:Has Y b (cA (some ⟨bo,0,none⟩) L.length sts.length (cv sts) pg) 121:=by rw[← hY];infer_instance
 have y4:Has Y bo #[.pointer ph] 115:=by rw[← hY];infer_instance
 rw[hY] at hS
 clear hT hu hu2 hes hes2 hL' hvw hTn hks hW hGw hG hll
 refine ao [⟨(undef,Eh),[(10,fun _ x=>HA ph (some (some L')) x.2)]⟩,⟨(undef,[]),[(14,fun _ x=>∃ b,x=(.pointer (some ⟨b,0,none⟩),[⟨b,#[.int .i64 0,.int .u32 0],176,true⟩])),(15,fun y x=>∃ b,y.1=.pointer (some ⟨b,0,none⟩)∧x.2=[⟨b,#[.int .i64 u1,.int .u32 u2],176,true⟩])]⟩]
  Y (Eh++Y) (by simp) hS (by kernel_rfl) (by kernel_rfl) ?_
 refine fV (fun χ w hw=>ad rfl) ?_
 refine fV (fun χ w hw=>ah rfl) ?_
 refine fV (fun χ w hw=>ag rfl) ?_
 (refine fV (fun χ w hw=>ac _ _ rfl hw) ?_)
 refine fV (fun χ w hw=>ah rfl) ?_
 refine fV (fun χ w hw=>ag rfl) ?_
 (refine fV (fun χ w hw=>ac _ _ rfl hw) ?_)
 (refine fV (fun χ w hw=>ai _ _ rfl hw) ?_)
 refine fV (fun χ w hw=>ad rfl) ?_
 (refine fV (fun χ w hw=>ai _ _ rfl hw) ?_)
 refine cj 0 0 rfl rfl (by kernel_rfl) (by kernel_rfl) (by kernel_rfl) 126 [_,_,_,_] rfl (fun _=>rfl) ae (fun _=>.tuple #[.agg #[.int .i64 u1,.int .u32 u2],.int .i64 0]) ?_ ?_
 ·intro χ X w _ hS
  exact vd (show St w0 bs w (Eh++(X++_)) from hS) hH r1 r2 f v1 v2 hvg'.out (u1,u2) 0 hL2'.out hu'.out hes'.out (fun E' w' hT' hS'=>⟨(undef,E'),rfl,hT',show St w0 bs w' (E'++(X++_)) from hS'.p⟩)
 refine fV (fun χ w hw=>ad rfl) ?_
 refine fV (fun χ w hw=>aB rfl) ?_
 refine fV (fun χ w hw=>aB rfl) ?_
 refine ap 1 0 rfl rfl (by kernel_rfl) (by kernel_rfl) (by kernel_rfl) (fun _=>rfl) (fun x=>x.1) ?_ ?_
 ·intro χ X w _ hS
  exact bE rfl (show St w0 bs w (X++_) from hS) (fun b w' _ hS'=>⟨(_,[_]),rfl,⟨b,rfl⟩,hS'⟩)
 refine ap 1 1 rfl rfl (by kernel_rfl) (by kernel_rfl) (by kernel_rfl) (fun _=>rfl) (fun _=>undef) ?_ ?_
 ·rintro χ X w ⟨⟨b,hb⟩,_⟩ hS
  have hS:St w0 bs w ((χ 14).2++(X++_)):=hS
  rw[hb] at hS
  have hS:St w0 bs w (⟨b,#[.int .i64 0,.int .u32 0],176,true⟩::(X++_)):=hS
  have hb1:(χ 14).1=.pointer (some ⟨b,0,none⟩):=by rw[hb]
  exact aZ rfl hS hb1 (fun w' hS'=>⟨(undef,[⟨b,#[.int .i64 u1,.int .u32 u2],176,true⟩]),rfl,⟨b,hb1,rfl⟩,hS'⟩)
 refine fV (fun χ w hw=>aG rfl) ?_
 refine bC rfl ?_
 intro χ w hok hS
 obtain⟨hT2,_⟩:=hok _ (.head _)
 have hT2:HA ph (some (some L')) (χ 10).2:=hT2
 obtain⟨⟨b16,hb⟩,⟨bo',hb1,hb2⟩,_⟩:=hok _ (.tail _ (.head _))
 rw[hb] at hb1
 obtain⟨⟩:=hb1
 have hS:St w0 bs w (((χ 10).2++((χ 15).2++[]))++Y):=hS
 rw[hb2,List.append_nil,List.append_assoc] at hS
 generalize (χ 10).2=E2 at hS hT2
 simp only[hb]
 simp only[cq] at hS
 clear hok hb2 hb
 rw[← hY] at hS
 go_wp2_with (go_skip)
 have hS:St w0 bs w (⟨b10,#[.int .i64 0,.int .u32 0],176,true⟩::⟨b11,#[.int .i64 0,.int .u32 0],176,true⟩::(⟨b16,#[.int .i64 u1,.int .u32 u2],176,true⟩::⟨b15,#[.int .i64 v1,.int .u32 v2],176,true⟩::⟨b13,#[.int .i64 r1,.int .u32 r2],176,true⟩::⟨b,cA (some ⟨bo,0,none⟩) L.length sts.length (cv sts) pg,121,true⟩::⟨bo,#[.pointer ph],115,true⟩::(E2++(Eg++(sts.map bU++H1))))):=hS.p
 obtain⟨Y2,hY2⟩:∃ Y2,(⟨b16,#[.int .i64 u1,.int .u32 u2],176,true⟩::⟨b15,#[.int .i64 v1,.int .u32 v2],176,true⟩::⟨b13,#[.int .i64 r1,.int .u32 r2],176,true⟩::⟨b,cA (some ⟨bo,0,none⟩) L.length sts.length (cv sts) pg,121,true⟩::⟨bo,#[.pointer ph],115,true⟩::(E2++(Eg++(sts.map bU++H1))))=Y2:=⟨_,rfl⟩
 have z1:Has Y2 b16 #[.int .i64 u1,.int .u32 u2] 176:=by rw[← hY2];infer_instance
 have z2:Has Y2 b15 #[.int .i64 v1,.int .u32 v2] 176:=by rw[← hY2];infer_instance
 rw[hY2] at hS
 refine ao [⟨(undef,[⟨b10,#[.int .i64 0,.int .u32 0],176,true⟩]),[(2,fun _ x=>x.2=[⟨b10,#[.int .i64 u1,.int .u32 u2],176,true⟩])]⟩,⟨(undef,[⟨b11,#[.int .i64 0,.int .u32 0],176,true⟩]),[(3,fun _ x=>x.2=[⟨b11,#[.int .i64 v1,.int .u32 v2],176,true⟩])]⟩] Y2 (⟨b10,#[.int .i64 0,.int .u32 0],176,true⟩::⟨b11,#[.int .i64 0,.int .u32 0],176,true⟩::Y2) (by simp) hS (by kernel_rfl) (by kernel_rfl) ?_
 refine fV (fun χ w hw=>ai _ _ rfl hw) ?_
 refine fV (fun χ w hw=>ai _ _ rfl hw) ?_
 refine ap 0 0 rfl rfl (by kernel_rfl) (by kernel_rfl) (by kernel_rfl) (fun _=>rfl) (fun _=>undef) ?_ ?_
 ·rintro χ X w _ hS
  exact aK _ _ _ rfl (show St w0 bs w (⟨b10,#[.int .i64 0,.int .u32 0],176,true⟩::(X++_)) from hS) (fun w' hS'=>⟨(undef,[⟨b10,#[.int .i64 u1,.int .u32 u2],176,true⟩]),rfl,rfl,hS'⟩)
 refine ap 1 0 rfl rfl (by kernel_rfl) (by kernel_rfl) (by kernel_rfl) (fun _=>rfl) (fun _=>undef) ?_ ?_
 ·rintro χ X w _ hS
  exact aK _ _ _ rfl (show St w0 bs w (⟨b11,#[.int .i64 0,.int .u32 0],176,true⟩::(X++_)) from hS) (fun w' hS'=>⟨(undef,[⟨b11,#[.int .i64 v1,.int .u32 v2],176,true⟩]),rfl,rfl,hS'⟩)
 refine fV (fun χ w hw=>aG rfl) ?_
 refine bC rfl ?_
 intro χ w hok hS
 obtain⟨hD1,_⟩:=hok _ (.head _)
 obtain⟨hD2,_⟩:=hok _ (.tail _ (.head _))
 have hD1:(χ 2).2=[⟨b10,#[.int .i64 u1,.int .u32 u2],176,true⟩]:=hD1
 have hD2:(χ 3).2=[⟨b11,#[.int .i64 v1,.int .u32 v2],176,true⟩]:=hD2
 have hS:St w0 bs w (((χ 2).2++((χ 3).2++[]))++Y2):=hS
 rw[hD1,hD2] at hS
 clear hok hD1 hD2
 simp only[cq] at hS
 go_wp2_with (go_skip)
 refine bodyPost_ret (gT rfl hS) rfl ?_
 rw[← hY2] at hS
 exact hR _ _ (hTn'.out _ _ hT2 rfl) (by simp only[bX];exact hS.p)
open Go Go.RowKit Go.Mm
def e8 (z k g:Int):Ar:=(iJ (sI z g),List.replicate k.toNat [],zero8)
theorem tB {sts:List Sk}(h:sts.length<4)(b:Nat)(x:List Rf×List Rf):(cv sts).set sts.length (some ⟨b,0,none⟩)=cv (sts++[(b,x)]):=by
 unfold cv
 rw[List.set_append_right _ _ (by simp)]
 have e:4 - sts.length=(4 - (sts++[(b,x)]).length)+1:=by simp;omega
 simp only[List.length_map,Nat.sub_self,List.map_append,List.map_cons,List.map_nil,List.append_assoc]
 rw[e,List.replicate_succ,List.set_cons_zero]
 rfl
theorem wC (b:Nat):SkW (b,[],ec):=⟨by simp [ec],fun r hr=>by cases hr⟩
theorem sD (hO:St w0 bs w H)(z g:Int)(k:Nat)(hg:0≤g∧g≤4294967295)(hn:cO z g=true)(hk:1≤k∧k≤4){T': Ar}(hT' : e8 z k g=T')
  (hR:∀ p E w',AA p T' E->St w0 bs w' (E++H)->ab R (.tuple #[.pointer p,.int .i64 0]) w'):Calls prog 21 #[.int .i64 z,.int .i64 k,.int .u32 g] w R:=by
 have hS:=hO
 clear hO
 subst hT'
 have hT0:sI z g=some (some (iJ (sI z g))):=by unfold sI;rw[hn];rfl
 have he0:kF z g=0:=by unfold kF;rw[hn];rfl
 have hz:z=((iJ (sI z g)).length:Int):=by
  simp only[cO,Bool.and_eq_true,decide_eq_true_eq] at hn
  rw[show(iJ (sI z g)).length=z.toNat from ?_]
  ·omega
  ·unfold sI
   rw[show cO z g=true from ?_]
   ·simp[iJ]
   ·simp only[cO,Bool.and_eq_true,decide_eq_true_eq];exact hn
 obtain⟨L,hL⟩:∃ L,iJ (sI z g)=L:=⟨_,rfl⟩
 rw[hL] at hT0 hz
 have hTA:e8 z k g=(L,List.replicate k [],zero8):=by simp only[e8,hL,Int.toNat_natCast]
 rw[hTA] at hR
 have hT0':=HD hT0
 have he0':=HD he0
 have hz':=HD hz
 obtain⟨k1,k4⟩:=hk
 have d1:decide ((k:Int)<1)=false:=DF
 have d2:decide (4<(k:Int))=false:=DF
 have d1' : decide (k<1)=false:=DF
 have d2' : decide (4<k)=false:=DF
 clear hT0 he0 hz hL hTA hn
 go_enter func21,ntmps21
 go_wp2_with (first|go_at_call 40;refine A7 hS z g hg 0 hT0'.out he0'.out ?_;clear hS;intro ph Eh w hH hS;unfold ab|go_at_call 41;refine Be hS ?_;clear hS;intro pg Eg w hG hS;unfold ab|refine am 115 rfl hS ?_;clear hS;intro bo w _ hS|refine am 121 rfl hS ?_;clear hS;intro b w _ hS|refine aL rfl ?_)
 have hS0:St w0 bs _ (⟨b,cA (some ⟨bo,0,none⟩) z k (cv []) pg,121,true⟩::⟨bo,#[.pointer ph],115,true⟩::(Eh++(Eg++(([] : List Sk).map bU++H)))):=(show St w0 bs _ (⟨b,cA (some ⟨bo,0,none⟩) z k [none,none,none,none] pg,121,true⟩::⟨bo,#[.pointer ph],115,true⟩::(Eh++(Eg++H))) from hS.p)
 clear hS
 go_loopw [37] (fun u wr=>∃ (i:Nat) (sts:List Sk),i≤k∧u=.int .i64 i∧sts.length=i∧sts.map (·.2.1)=List.replicate i []∧(∀ x∈sts,SkW x)∧St w0 bs wr (⟨b,cA (some ⟨bo,0,none⟩) z k (cv sts) pg,121,true⟩::⟨bo,#[.pointer ph],115,true⟩::(Eh++(Eg++(sts.map bU++H))))) (fun u _=>k - (intOf u).toNat)
 case atStart=>exact⟨0,[],Nat.zero_le _,rfl,rfl,rfl,by simp,hS0⟩
 case round=>
  clear hS0
  obtain⟨i,sts,hi,rfl,hl,hks,hW,hS⟩:=hrel
  by_cases hlt:i<k
  ·have hls:(cv sts).length=4:=cC (by omega)
   have hix:=PP (P:=prog) (t:=119) (b:=b) (off:=0+3) (i:=i) underlying119 (z:=1) (by omega)
   rw[Nat.zero_add,Nat.mul_one] at hix
   obtain⟨q0,hq0⟩:∃ q0,(cv sts)[i]?=some q0:=⟨_,List.getElem?_eq_getElem (by omega)⟩
   have dk:decide ((i:Int)<(k:Int))=true:=DT
   have dk' : decide (i<k)=true:=decide_eq_true hlt
   have hsn:∀ nb,(cv sts).set i (some ⟨nb,0,none⟩)=cv (sts++[(nb,[],ec)]):=fun nb=>by
    have:=tB (sts:=sts) (by omega) nb ([],ec)
    rw[hl] at this
    exact this
   go_wp2_with (go_skip)
   refine dz [⟨(undef,[]),[(2,[],fun _ _ x=>∃ nb,x=(.pointer (some ⟨nb,0,none⟩),[bU (nb,[],ec)]))]⟩,⟨(undef,[⟨b,cA (some ⟨bo,0,none⟩) z k (cv sts) pg,121,true⟩]),[(6,[2],fun q _ x=>∃ a,(q.getD 0 default).1=.pointer a∧x.2=[⟨b,cA (some ⟨bo,0,none⟩) z k ((cv sts).set i a) pg,121,true⟩])]⟩] (⟨bo,#[.pointer ph],115,true⟩::(Eh++(Eg++(sts.map bU++H)))) (⟨b,cA (some ⟨bo,0,none⟩) z k (cv sts) pg,121,true⟩::⟨bo,#[.pointer ph],115,true⟩::(Eh++(Eg++(sts.map bU++H)))) (by simp) hS (by kernel_rfl) (by kernel_rfl) ?_
   (refine aS (fun _=>rfl) rfl (fun χ w hw=>ad rfl) ?_)
   (refine aS (fun _=>rfl) rfl (fun χ w hw=>ad rfl) ?_)
   refine yl 0 0 rfl rfl 42 [] rfl (fun _=>rfl) ae (fun x=>x.1) ?_ ?_
   ·intro χ X w _ hS
    exact z9 (show St w0 bs w (X++_) from hS) (fun nb w' hS'=>⟨(.pointer (some ⟨nb,0,none⟩),[bU (nb,[],ec)]),rfl,⟨nb,rfl⟩,hS'⟩)
   refine aS (fun _=>rfl) rfl (fun χ w hw=>ah rfl) ?_
   (refine aS (fun _=>rfl) rfl (fun χ w hw=>ag rfl) ?_)
   (refine aS (fun _=>rfl) rfl (fun χ w hw=>aY _ _ _ rfl) ?_)
   refine vj 1 0 0 1 rfl rfl rfl (fun _=>rfl) (fun _=>undef) ?_ ?_
   ·rintro χ X w _ ⟨⟨nb,hnb⟩,_⟩ hS
    have hset:SetAt (cA (some ⟨bo,0,none⟩) z k (cv sts) pg) (3+i) (χ 2).1 (cA (some ⟨bo,0,none⟩) z k ((cv sts).set i (some ⟨nb,0,none⟩)) pg):=by rw[hnb];exact D3 hq0
    have hone:OneCell (χ 2).1:=by rw[hnb];infer_instance
    exact bV rfl (show St w0 bs w (⟨b,cA (some ⟨bo,0,none⟩) z k (cv sts) pg,121,true⟩::((χ 2).2++(X++_))) from hS) (fun w' hS'=>⟨(undef,[⟨b,cA (some ⟨bo,0,none⟩) z k ((cv sts).set i (some ⟨nb,0,none⟩)) pg,121,true⟩]),rfl,⟨_,by show(χ 2).1=_;rw[hnb],rfl⟩,hS'⟩)
   refine kl rfl ?_
   intro χ w hok hS
   obtain⟨⟨nb,hnb⟩,_⟩:=hok _ (.head _)
   obtain⟨⟨a,ha,hD⟩,_⟩:=hok _ (.tail _ (.head _))
   have ha:(χ 2).1=.pointer a:=ha
   rw[hnb] at ha
   obtain⟨⟩:=ha
   have hS:St w0 bs w (((χ 2).2++((χ 6).2++[]))++(⟨bo,#[.pointer ph],115,true⟩::(Eh++(Eg++(sts.map bU++H))))):=hS
   have hD:(χ 6).2=[⟨b,cA (some ⟨bo,0,none⟩) z k ((cv sts).set i (some ⟨nb,0,none⟩)) pg,121,true⟩]:=hD
   rw[hD,hnb,hsn nb] at hS
   simp only[cq] at hS
   simp only[hnb]
   clear hok hD hnb
   go_wp2_with (go_skip)
   go_roundw
   case rel=>
    refine⟨i+1,sts++[(nb,[],ec)],by omega,by go_num,by simp[hl],by rw[List.map_append,hks,List.replicate_succ'];rfl,fun x hx=>?_,?_⟩
    ·rcases List.mem_append.1 hx with hx|hx
     ·exact hW x hx
     ·rw[List.mem_singleton.1 hx];exact wC nb
    ·have e:(sts++[(nb,[],ec)]).map bU=sts.map bU++[bU (nb,[],ec)]:=by rw[List.map_append];rfl
     rw[e]
     simp only[List.append_assoc,List.cons_append,List.nil_append]
     exact hS.p
   case measure=>simp[intOf];omega
  ·obtain rfl:k=i:=by omega
   have dk:decide ((k:Int)<(k:Int))=false:=DF
   have dk' : decide (k<k)=false:=DF
   go_wp2_with (go_skip)
   refine hR _ (⟨b,cA (some ⟨bo,0,none⟩) z k (cv sts) pg,121,true⟩::⟨bo,#[.pointer ph],115,true⟩::(Eh++(Eg++sts.map bU))) _ ⟨b,bo,ph,Eh,pg,Eg,sts,rfl,hH,hG,by rw[hks],hW,fun x hx=>?_,by omega,by omega,by rw[hl,← hz'.out]⟩ (by simp only[bX];exact hS.p)
   have:x=(0,0):=(List.mem_replicate.1 hx).2
   rw[this]
   exact⟨by decide,by decide,by decide⟩
end Go.Proofs.YtnbgljbhkeffkaaGreatDoor
