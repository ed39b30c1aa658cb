/-
  Contracts of what the law TopPasses reaches, part 21: ArnO.
-/
import Derived.Test.YtnbgljbhkeffkaaGreatDoorQ18
open Go.Proofs.Tryz
set_option linter.unusedVariables false
set_option linter.unusedSimpArgs false
set_option maxHeartbeats 4000000
set_option maxRecDepth 100000
namespace Go.Proofs.YtnbgljbhkeffkaaGreatDoor
open Go Go.RowKit Go.Mm
variable {R:Ending->World->Prop}{w:World}{w0:World}{bs:List Nat}{H H' H1 E:List Ent}
section
variable {b bo fl ff m:Nat}{capl capf:List Value}{z el:Int}{k:Nat}{ps:List (Option Addr)}{pg:Option Addr}{sk:Sk}{Hl:List Ent}
theorem xX (hO:St w0 bs w H)[hH:Has H b (cA (some ⟨bo,0,none⟩) z k ps pg) 121](hk:k≤4)(hps:ps.length=4)(hm:m<k)(hp:ps.getD m none=some ⟨sk.1,0,none⟩)(hW:SkW sk)(hlt:sk.2.1.length<32)
  [hL:Has Hl sk.1 (dO sk.2.1.length (sk.2.1++sk.2.2)) 205] (henl:∀ args w,(callFunc fl args).run prog w=.ok (.enter fl args) w) (henf:∀ args w,(callFunc ff args).run prog w=.ok (.enter ff args) w)
  (x:Int) (hx:x≠0) (Φ:List Ent->Prop)
  (hlook:∀ X w',St w0 bs w' (H++X)->Calls prog fl capl.toArray w' (fun e w''=>e=.returned (.int .i64 0)∧St w0 bs w'' (Hl++X)))
  (hfind:∀ X w',St w0 bs w' (Hl++X)->Calls prog ff capf.toArray w' (fun e w''=>∃ Y,e=.returned (.tuple #[.agg #[.int .i64 0,.int .u32 0],.int .i64 x])∧Φ Y∧St w0 bs w'' (Y++X)))
  (hR:∀ Y w',Φ Y->St w0 bs w' Y->ab R (.tuple #[.agg #[.int .i64 0,.int .u32 0],.int .i64 x]) w') :
  Calls prog 112 #[.pointer (some ⟨b,0,none⟩),.int .i64 (m:Int),.func (.func fl) #[] capl.toArray,.func (.func ff) #[] capf.toArray] w R:=by
 have hS:=hO
 clear hO
 have hq':=HD (show(if (0:Int)≤(m:Int)∧(m:Int)<k then ps.getD (m:Int).toNat none else none)=some ⟨sk.1,0,none⟩ by rw[if_pos (by omega),Int.toNat_natCast];exact hp)
 have he':=HD (show(if (0:Int)≤(m:Int)∧(m:Int)<k then (0:Int) else 3)=0 by rw[if_pos (by omega)])
 obtain⟨n,hn⟩:∃ n,sk.2.1.length=n:=⟨_,rfl⟩
 have hlt' : n<32:=by omega
 have d1:decide (32≤n)=false:=DF
 have d1' : decide (32≤(n:Int))=false:=DF
 have qx:(x == 0)=false:=beq_eq_false_iff_ne.2 hx
 have qx2:decide (x=0)=false:=decide_eq_false hx
 have qx3:(x != 0)=true:=by simpa using hx
 rw[hn] at hL
 clear hm hp hW hlt hn hx
 go_enter func112,ntmps112
 go_wp2_with (first|refine aq (o:=⟨some 8,_,_,_,_,_⟩) _ rfl hS ?_;clear hS;intro b8 w _ hS|refine aq 176 rfl hS ?_;clear hS;intro b13 w _ hS|go_at_call 128;refine dT hS hk hps m (some ⟨sk.1,0,none⟩) 0 hq'.out he'.out ?_;clear hS;intro w hS;unfold ab|(refine aF (.call { callee:=.value (.tmp 24),args:=#[],argTypes:=#[] }) rfl ?_;refine ee rfl henl ?_;refine(hlook _ _ (show St w0 bs _ (H++[⟨b8,#[.int .i64 0,.int .u32 0],176,true⟩]) from hS.p)).mono ?_;clear hS;rintro e w ⟨rfl,hS⟩;refine⟨_,rfl,?_⟩)|go_at_call 176;refine tW hS (n:=n) (by omega) ?_;clear hS;intro w hS;unfold ab|(refine aF (.call { callee:=.value (.tmp 35),args:=#[],argTypes:=#[] }) rfl ?_;refine ee rfl henf ?_;refine(hfind _ _ hS).mono ?_;clear hS;rintro e2 w ⟨Y,rfl,hY,hS⟩;refine⟨_,rfl,?_⟩)|refine aL rfl ?_|refine ak rfl hS ?_;clear hS;intro w hS)
 refine bodyPost_ret (aJ rfl hS) rfl ?_
 exact hR Y _ hY hS.p
end
def Dh (T:Ar)(m n:Int)(h:Bool):Int:=if fm T m then (if gZ n h≠0 then gZ n h else if 32≤(ez T m).length then 4 else i8 (some (some T.1)) n h) else 3
def Of (T:Ar)(m n:Int)(h:Bool):Rf:=if Dh T m n h=0 then kX (some (some T.1)) n h else (0,0)
def Oe (T:Ar)(m n:Int)(h:Bool):Ar:=if Dh T m n h=0 then fg T m n h else T
theorem ma {p:Option Addr}{T:Ar}(hO:St w0 bs w H)(hT:AA p T E)[hc:Cut H E H1](m n:Int)(h:Bool)(hm:fm T m=true)(hn:gZ n h=0)(hlt:(ez T m).length<32)(x:Int)(he:i8 (some (some T.1)) n h=x)(hx:x≠0)
  (hR:∀ E' w',AA p T E'->St w0 bs w' (E'++H1)->ab R (.tuple #[.agg #[.int .i64 0,.int .u32 0],.int .i64 x]) w'):Calls prog 72 #[.pointer p,.int .i64 m,.int .i64 n,.bool h] w R:=by
 have hS:=hO.fr E H1
 clear hO
 obtain⟨L,ks,G⟩:=T
 obtain⟨b,bo,ph,Eh,pg,Eg,sts,rfl,hH,hG,hks,hW,hGw,h1,h4,rfl⟩:=id hT
 simp only[bX] at hS
 have hlp:=cC h4
 obtain⟨j,sk,rfl,hj,hsk,hrt⟩:=d7 hm hks
 have hWs:=hW sk (List.mem_of_getElem? hsk)
 have hlen:=hWs.len
 have hp:=ft hsk
 have hq':=HD (show(if (0:Int)≤(j:Int)∧(j:Int)<(sts.length:Int) then (cv sts).getD (j:Int).toNat none else none)=some ⟨sk.1,0,none⟩ by rw[if_pos (by omega),Int.toNat_natCast];exact hp)
 have he':=HD (show(if (0:Int)≤(j:Int)∧(j:Int)<(sts.length:Int) then (0:Int) else 3)=0 by rw[if_pos (by omega)])
 have hspl:=ei hsk
 have hL32:(sk.2.1++sk.2.2).length=32:=by rw[List.length_append];exact hlen
 have hn32:sk.2.1.length≤32:=by omega
 rw[hspl] at hS
 simp only[bX] at hS
 have hmk:qD (some (some L)) n h=some (some L)∧kX (some (some L)) n h=(0,0):=by
  cases hi:lN L n h with
  | none=>exact⟨by simp only[qD,hi],by simp only[kX,hi]⟩
  | some i=>
   exfalso
   have hb:o9 n h=true:=by
    cases hb:o9 n h with
    | true=>rfl
    | false=>unfold lN at hi;rw[hb] at hi;cases hi
   have he3:i8 (some (some L)) n h=0:=by simp only[i8,hb,hi];rfl
   exact hx (he.symm.trans he3)
 have hTn:∀ Eh' Y,HA ph (some (some L)) Eh'->Y=⟨b,cA (some ⟨bo,0,none⟩) L.length sts.length (cv sts) pg,121,true⟩::⟨bo,#[.pointer ph],115,true⟩::(Eh'++(Eg++sts.map bU))->AA (some ⟨b,0,none⟩) (L,ks,G) Y:=by
  rintro Eh' Y hH' rfl
  exact⟨b,bo,ph,Eh',pg,Eg,sts,rfl,hH',hG,hks,hW,hGw,h1,h4,rfl⟩
 have hTn':=HD hTn
 have hlt2:sk.2.1.length<32:=by rw[hrt];exact hlt
 have hn':=HD hn
 have hx':=HD hx
 have hm2':=HD hmk.1
 have hr':=HD hmk.2
 have hme':=HD he
 have hp':=HD hp
 have hWs':=HD hWs
 clear hm hks hW hGw hWs hlen hp hL32 hrt hn hmk he hlt hTn hx
 go_enter func72,ntmps72
 go_wp2_with (first|refine am 62 rfl hS ?_;clear hS;intro b4 w _ hS|refine am 3 rfl hS ?_;clear hS;intro b6 w _ hS|refine am 4 rfl hS ?_;clear hS;intro b7 w _ hS|refine aq 176 rfl hS ?_;clear hS;intro b8 w _ hS|refine af rfl hS ?_)
 refine xX (fl:=113) (ff:=115) (capl:=[_,_]) (capf:=[_,_,_]) (sk:=sk) (Hl:=⟨b8,#[.int .i64 0,.int .u32 0],176,true⟩::⟨b7,#[.bool h],4,true⟩::⟨b6,#[.int .i64 n],3,true⟩::⟨b4,#[.pointer (some ⟨b,0,none⟩)],62,true⟩::⟨b,cA (some ⟨bo,0,none⟩) L.length sts.length (cv sts) pg,121,true⟩::⟨bo,#[.pointer ph],115,true⟩::(Eh++(Eg++((sts.take j).map bU++(bU sk::((sts.drop (j+1)).map bU++H1)))))) hS h4 hlp hj hp'.out hWs'.out hlt2 ae ae x hx'.out
  (fun Y=>∃ Eh',HA ph (some (some L)) Eh'∧Y=⟨b8,#[.int .i64 0,.int .u32 0],176,true⟩::⟨b7,#[.bool h],4,true⟩::⟨b6,#[.int .i64 n],3,true⟩::⟨b4,#[.pointer (some ⟨b,0,none⟩)],62,true⟩::⟨b,cA (some ⟨bo,0,none⟩) L.length sts.length (cv sts) pg,121,true⟩::⟨bo,#[.pointer ph],115,true⟩::(Eh'++(Eg++((sts.take j).map bU++(bU sk::((sts.drop (j+1)).map bU++H1)))))) ?_ ?_ ?_
 ·intro X w' hS'
  exact zh (n:=n) (h:=h) hS' (fun w'' hS''=>⟨by rw[hn'.out],hS''⟩)
 ·intro X w' hS'
  refine zg (b:=b) (bo:=bo) (bs:=bs) (w0:=w0) (z:=L.length) (k:=sts.length) (ps:=cv sts) (pg:=pg) (Z:=⟨b8,#[.int .i64 0,.int .u32 0],176,true⟩::(Eg++((sts.take j).map bU++(bU sk::((sts.drop (j+1)).map bU++(H1++X)))))) hH (some (some L)) (0,0) x hm2'.out hr'.out hme'.out ?_ (fun Eh' w'' hH' hS''=>⟨_,rfl,⟨Eh',hH',rfl⟩,?_⟩)
  ·simp only[bX] at hS'
   exact hS'.p
  ·simp only[bX]
   exact hS''.p
 ·rintro Y w ⟨Eh',hH',rfl⟩ hS
  unfold ab
  go_wp2_with ((refine ak rfl hS ?_);clear hS;intro w hS)
  refine bodyPost_ret (aJ rfl hS) rfl ?_
  exact hR _ _ (hTn'.out _ _ hH' rfl) (by simp only[List.cons_append,List.append_assoc,hspl];exact hS.p)
def Dq (T:Ar)(m i f:Int):Int:=if fm T m then (if uY T m i f≠0 then uY T m i f else if 32≤(ez T m).length then 4 else 0) else 3
def Oz (T:Ar)(m i f:Int):Rf:=if Dq T m i f=0 then qL T m i f else (0,0)
def Oy (T:Ar)(m i f:Int):Ar:=if Dq T m i f=0 then oy T m (qL T m i f) else T
def Dy (T:Ar)(m f:Int):Int:=if fm T m then (if Bi T f≠0 then Bi T f else if 32≤(ez T m).length then 4 else 0) else 3
def OG (T:Ar)(m f:Int):Rf:=if Dy T m f=0 then ow (some (true,T.2.2)) f else (0,0)
def OF (T:Ar)(m f:Int):Ar:=if Dy T m f=0 then oy T m (ow (some (true,T.2.2)) f) else T
def Am (T:Ar)(m i g:Int):Int:=if mj T m i≠0 then mj T m i else if ou g then 0 else 3
def Nq (T:Ar)(m i g:Int):Rf:=if Am T m i g=0 then T.2.2.getD g.toNat (0,0) else (0,0)
def Nr (T:Ar)(m i g:Int):Rf:=if Am T m i g=0 then jv T m i else (0,0)
def Ns (T:Ar)(m i g:Int):Ar:=if Am T m i g=0 then xp T g (jv T m i) else T
def zP (T:Ar)(m i f c:Int):Int:=if fP T m i≠0 then fP T m i else if mj T m c≠0 then mj T m c else mm (some (some T.1)) (fk T m i).1 (fk T m i).2 f (jv T m c)
def Mp (T:Ar)(m i f c:Int):Rf:=if zP T m i f c=0 then oo (some (some T.1)) (fk T m i).1 (fk T m i).2 f (jv T m c) else (0,0)
def Mq (T:Ar)(m i f c:Int):Rf:=if zP T m i f c=0 then jv T m c else (0,0)
def Mr (T:Ar)(m i f c:Int):Ar:=if zP T m i f c=0 then vQ T m i f c else T
theorem kx {p:Option Addr}{T:Ar}(hO:St w0 bs w H)(hT:AA p T E)[hc:Cut H E H1](z k:Nat)(hz:T.1.length=z)(hk:T.2.1.length=k)
  (hR:∀ w',AA p T E->St w0 bs w' (E++H1)->ab R (.tuple #[.int .i64 z,.int .i64 k]) w'):Calls prog 229 #[.pointer p] w R:=by
 have hS:=hO.fr E H1
 clear hO
 obtain⟨L,ks,G⟩:=T
 obtain⟨b,bo,ph,Eh,pg,Eg,sts,rfl,hH,hG,hks,hW,hGw,h1,h4,rfl⟩:=id hT
 simp only[bX] at hS
 have hlp:=cC h4
 have e1:L.length=z:=hz
 have e2:sts.length=k:=by rw[← hk,← hks,List.length_map]
 have hTn:∀ w',St w0 bs w' (⟨b,cA (some ⟨bo,0,none⟩) L.length sts.length (cv sts) pg,121,true⟩::⟨bo,#[.pointer ph],115,true⟩::(Eh++(Eg++sts.map bU))++H1)->ab R (.tuple #[.int .i64 L.length,.int .i64 sts.length]) w':=fun w' h=>by rw[e1,e2];exact hR w' hT h
 have hTn':=HD hTn
 clear hks hW hGw e1 e2 hTn hz hk hR
 go_enter func229,ntmps229
 go_wp2_with (first|go_at_call 193;refine fM hS ?_;clear hS;intro w hS;unfold ab|refine av hS (fun hne=>?_);(repeat (go_big_quiet_want;first|((refine aE bk (fun w hS=>ac _ _ rfl hS) ?_);go_big_quiet_on)|(go_big_quiet_op;go_big_quiet_on)));refine wpQuiet_nil ?_;clear hS hne;intro w hS)
 exact hTn'.out _ (by simp only[bX];exact hS.p)
theorem pG {p:Option Addr}{T:Ar}(hO:St w0 bs w H)(hT:AA p T E)[hc:Cut H E H1]{l:List Rf}(hl:zn (some (true,T.2.2))=l)
  (hR:∀ v E' w',AA p T E->RS v l E'->St w0 bs w' (E'++(E++H1))->ab R v w'):Calls prog 445 #[.pointer p] w R:=by
 have hS:=hO.fr E H1
 clear hO
 obtain⟨L,ks,G⟩:=T
 obtain⟨b,bo,ph,Eh,pg,Eg,sts,rfl,hH,hG,hks,hW,hGw,h1,h4,rfl⟩:=id hT
 simp only[bX] at hS
 have hlp:=cC h4
 have hcg' : CellAt (cA (some ⟨bo,0,none⟩) L.length sts.length (cv sts) pg) (0+7) (.pointer pg):=Hu hlp
 have hl':=HD hl
 clear hks hW hGw hl
 go_enter func445,ntmps445
 go_wp2_with (first|go_at_call 193;refine fM hS ?_;clear hS;intro w hS;unfold ab|(go_at_call 461;refine Bh hS hG ?_;clear hS;intro v E1 w hA _ hS;have hone:=hA.one;unfold ab)|refine af rfl hS ?_)
 replace hA:RS v l E1:=by rw[← hl'.out];exact hA
 exact hR _ _ _ hT hA (by simp only[bX];exact hS.p)
theorem sC {p:Option Addr}{T:Ar}(hO:St w0 bs w H)(hT:AA p T E)[hc:Cut H E H1](s g:Int){o:Ob}(e:Int)(ho:qy (some (some T.1)) s g=o)(he:eJ (some (some T.1)) s g=e)
  (hR:∀ w',AA p T E->St w0 bs w' (E++H1)->ab R (.tuple #[.agg (gr o),.int .i64 e]) w'):Calls prog 392 #[.pointer p,.agg #[.int .i64 s,.int .u32 g]] w R:=by
 have hS:=hO.fr E H1
 clear hO
 obtain⟨L,ks,G⟩:=T
 obtain⟨b,bo,ph,Eh,pg,Eg,sts,rfl,hH,hG,hks,hW,hGw,h1,h4,rfl⟩:=id hT
 simp only[bX] at hS
 have hlp:=cC h4
 have hoW:ObW o:=by rw[← ho];exact hH.obw s g
 have ho':=HD ho
 have he':=HD he
 obtain⟨on,oF,oh⟩:=o
 have hF4:oF.length=4:=hoW.len
 have hA:=dr (n:=on) (h:=oh) hF4
 have hZ:=cV (n:=on) (h:=oh) hF4
 have hO2:=dB (n:=0) (n':=on) (h:=false) (h':=oh) (F:=zero4) rfl hF4
 clear hks hW hGw ho he hoW
 go_enter func392,ntmps392
 go_wp2_with (first|refine am 176 rfl hS ?_;clear hS;intro b3 w _ hS|refine aq 195 rfl hS ?_;clear hS;intro b4 w _ hS|go_at_call 193;refine fM hS ?_;clear hS;intro w hS;unfold ab)
 refine ao [⟨(undef,[⟨b4,aN 0 zero4 false,195,true⟩]),[(11,fun _ x=>x.2=[⟨b4,aN on oF oh,195,true⟩])]⟩]
  (⟨b3,#[.int .i64 s,.int .u32 g],176,true⟩::(⟨b,cA (some ⟨bo,0,none⟩) L.length sts.length (cv sts) pg,121,true⟩::⟨bo,#[.pointer ph],115,true⟩::(Eh++(Eg++(sts.map bU++H1))))) (⟨b4,aN 0 zero4 false,195,true⟩::⟨b3,#[.int .i64 s,.int .u32 g],176,true⟩::(⟨b,cA (some ⟨bo,0,none⟩) L.length sts.length (cv sts) pg,121,true⟩::⟨bo,#[.pointer ph],115,true⟩::(Eh++(Eg++(sts.map bU++H1))))) (by simp) hS.p (by kernel_rfl) (by kernel_rfl) ?_
 (refine fV (fun χ w hw=>ad rfl) ?_)
 (refine fV (fun χ w hw=>ah rfl) ?_)
 (refine fV (fun χ w hw=>ag rfl) ?_)
 (refine fV (fun χ w hw=>ac _ _ rfl hw) ?_)
 (refine fV (fun χ w hw=>ah rfl) ?_)
 (refine fV (fun χ w hw=>ag rfl) ?_)
 (refine fV (fun χ w hw=>ac _ _ rfl hw) ?_)
 (refine fV (fun χ w hw=>ai _ _ rfl hw) ?_)
 refine cQ 424 [_,_] rfl (fun _=>rfl) rfl ae (.tuple #[.agg (aN on oF oh),.int .i64 e]) (fun X w hS=>iI (show St w0 bs w (X++(_::_::_::(Eh++_))) from hS) hH s g (on,oF,oh) e ho'.out he'.out (fun w' _ hS'=>⟨rfl,hS'.p⟩)) ?_
 (refine fV (fun χ w hw=>aB rfl) ?_)
 (refine fV (fun χ w hw=>aB rfl) ?_)
 refine ap 0 0 rfl rfl (by kernel_rfl) (by kernel_rfl) (by kernel_rfl) (fun _=>rfl) (fun _=>undef) ?_ ?_
 ·intro χ X w _ hS
  exact aK _ _ _ rfl (show St w0 bs w (⟨b4,aN 0 zero4 false,195,true⟩::(X++_)) from hS) (fun w' hS'=>⟨(undef,[⟨b4,aN on oF oh,195,true⟩]),rfl,rfl,hS'⟩)
 (refine fV (fun χ w hw=>aG rfl) ?_)
 refine bC rfl ?_
 intro χ w hok hS
 obtain⟨hD,_⟩:=hok _ (.head _)
 have hD:(χ 11).2=[⟨b4,aN on oF oh,195,true⟩]:=hD
 have hS:St w0 bs w (((χ 11).2++[])++(⟨b3,#[.int .i64 s,.int .u32 g],176,true⟩::(⟨b,cA (some ⟨bo,0,none⟩) L.length sts.length (cv sts) pg,121,true⟩::⟨bo,#[.pointer ph],115,true⟩::(Eh++(Eg++(sts.map bU++H1)))))):=hS
 rw[hD] at hS
 simp only[cq] at hS
 clear hok hD
 go_wp2_with (go_skip)
 refine bodyPost_ret (aJ rfl hS) rfl ?_
 exact hR _ hT (by simp only[bX];exact hS.p)
def DE (T:Ar)(s g:Int):Ar:=(iJ (ya (some (some T.1)) s g),T.2.1,T.2.2)
theorem yH {p:Option Addr}{T:Ar}(hO:St w0 bs w H)(hT:AA p T E)[hc:Cut H E H1](s g:Int){T': Ar}(e:Int)(hT' : DE T s g=T')(he:eJ (some (some T.1)) s g=e)
  (hR:∀ E' w',AA p T' E'->St w0 bs w' (E'++H1)->ab R (.int .i64 e) w'):Calls prog 403 #[.pointer p,.agg #[.int .i64 s,.int .u32 g]] w R:=by
 have hS:=hO.fr E H1
 clear hO
 subst hT'
 obtain⟨L,ks,G⟩:=T
 obtain⟨b,bo,ph,Eh,pg,Eg,sts,rfl,hH,hG,hks,hW,hGw,h1,h4,rfl⟩:=id hT
 simp only[bX] at hS
 have hlp:=cC h4
 obtain⟨L',hL',hll⟩:∃ L',ya (some (some L)) s g=some (some L')∧L'.length=L.length:=by
  unfold ya
  split
  ·exact⟨_,rfl,by simp[kG,iJ]⟩
  ·exact⟨_,rfl,rfl⟩
 have hTn:∀ Eh' Z,HA ph (some (some L')) Eh'->Z=⟨b,cA (some ⟨bo,0,none⟩) L.length sts.length (cv sts) pg,121,true⟩::⟨bo,#[.pointer ph],115,true⟩::(Eh'++(Eg++sts.map bU))->AA (some ⟨b,0,none⟩) (DE (L,ks,G) s g) Z:=by
  rintro Eh' Z hH' rfl
  have e:DE (L,ks,G) s g=(L',ks,G):=by simp only[DE,hL',iJ]
  rw[e]
  exact⟨b,bo,ph,Eh',pg,Eg,sts,rfl,hH',hG,hks,hW,hGw,h1,h4,by rw[hll]⟩
 have hTn':=HD hTn
 have hL2':=HD hL'
 have he':=HD he
 clear hks hW hGw hTn hL' he hll
 go_enter func403,ntmps403
 go_wp2_with (first|refine am 176 rfl hS ?_;clear hS;intro b3 w _ hS|go_at_call 193;refine fM hS ?_;clear hS;intro w hS;unfold ab)
 refine ao [⟨(undef,Eh),[(8,fun _ x=>HA ph (some (some L')) x.2)]⟩]
  (⟨b3,#[.int .i64 s,.int .u32 g],176,true⟩::(⟨b,cA (some ⟨bo,0,none⟩) L.length sts.length (cv sts) pg,121,true⟩::⟨bo,#[.pointer ph],115,true⟩::(Eg++(sts.map bU++H1)))) (Eh++(⟨b3,#[.int .i64 s,.int .u32 g],176,true⟩::(⟨b,cA (some ⟨bo,0,none⟩) L.length sts.length (cv sts) pg,121,true⟩::⟨bo,#[.pointer ph],115,true⟩::(Eg++(sts.map bU++H1))))) (by simp) hS.p (by kernel_rfl) (by kernel_rfl) ?_
 (refine fV (fun χ w hw=>ad rfl) ?_)
 (refine fV (fun χ w hw=>ah rfl) ?_)
 (refine fV (fun χ w hw=>ag rfl) ?_)
 (refine fV (fun χ w hw=>ac _ _ rfl hw) ?_)
 (refine fV (fun χ w hw=>ah rfl) ?_)
 (refine fV (fun χ w hw=>ag rfl) ?_)
 (refine fV (fun χ w hw=>ac _ _ rfl hw) ?_)
 (refine fV (fun χ w hw=>ai _ _ rfl hw) ?_)
 refine cj 0 0 rfl rfl (by kernel_rfl) (by kernel_rfl) (by kernel_rfl) 427 [_,_] rfl (fun _=>rfl) ae (fun _=>.int .i64 e) ?_ ?_
 ·intro χ X w _ hS
  exact xU (show St w0 bs w (Eh++(X++_)) from hS) hH s g e hL2'.out he'.out (fun E' w' hT' hS'=>⟨(undef,E'),rfl,hT',show St w0 bs w' (E'++(X++_)) from hS'.p⟩)
 (refine fV (fun χ w hw=>aG rfl) ?_)
 refine bC rfl ?_
 intro χ w hok hS
 obtain⟨hD,_⟩:=hok _ (.head _)
 have hD:HA ph (some (some L')) (χ 8).2:=hD
 have hS:St w0 bs w (((χ 8).2++[])++(⟨b3,#[.int .i64 s,.int .u32 g],176,true⟩::(⟨b,cA (some ⟨bo,0,none⟩) L.length sts.length (cv sts) pg,121,true⟩::⟨bo,#[.pointer ph],115,true⟩::(Eg++(sts.map bU++H1))))):=hS
 rw[List.append_nil] at hS
 generalize (χ 8).2=Eh' at hS hD
 clear hok
 go_wp2_with (go_skip)
 exact hR _ _ (hTn'.out _ _ hD rfl) (by simp only[bX];exact hS.p)
end Go.Proofs.YtnbgljbhkeffkaaGreatDoor
