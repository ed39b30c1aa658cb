/-
  Contracts of what the law TopPasses reaches, part 13: HeapC HeapD HeapE HeapF.
-/
import Derived.Test.YtnbgljbhkeffkaaGreatDoorQ10
open Go.Proofs.Tryz
set_option linter.unusedVariables false
set_option linter.unusedSimpArgs false
set_option maxHeartbeats 4000000
set_option maxRecDepth 100000
namespace Go.Proofs.YtnbgljbhkeffkaaGreatDoor
open Go.RowKit Go.Mm
variable {R:Ending->World->Prop}{w:World}{w0:World}{bs:List Nat}{H H' H1 E:List Ent}
def j9 (T:Hp)(s g:Int):Bool:=decide (eJ T s g=0)
def qy (T:Hp)(s g:Int):Ob:=if eJ T s g=0 then Ss T s else io
def vV (T:Hp)(s g i:Int):Int×Int:=if eJ T s g=0 then se (Ss T s) i else (0,0)
def A3 (T:Hp)(s g i:Int):Int:=if eJ T s g=0 then kK (Ss T s) i else eJ T s g
theorem dY {T:Hp}{s g:Int}(h:eJ T s g=0):∃ (L:List Hs) (j:Nat),T=some (some L)∧s=j∧j<L.length∧iN (some (cY L)) j g=0∧(L.getD j d8).1=1∧(L.getD j d8).2.1=g∧Ss T s=(L.getD j d8).2.2:=by
 rcases T with _|_|L
 ·cases h
 ·cases h
 obtain⟨j,rfl,hj,hx⟩:=ig h
 rw[cb] at hj
 rw[cT] at hx
 obtain⟨h1,h2⟩:=Prod.mk.inj hx
 exact⟨L,j,rfl,rfl,hj,h,h1,h2,by unfold Ss;rw[Int.toNat_natCast];rfl⟩
theorem DB {L:List Hs}{i:Nat}(h:i<L.length):L.getD i d8∈L:=by
 rw[List.getD_eq_getElem?_getD,List.getElem?_eq_getElem h];exact List.getElem_mem h
theorem HpW.at {L:List Hs}(hW:HpW L){i:Nat}(h:i<L.length):ObW (L.getD i d8).2.2:=hW.ob _ (DB h)
theorem HA.obw {p:Option Addr}{T:Hp}(hT:HA p T E)(s g:Int):ObW (qy T s g):=by
 unfold qy
 split
 ·next h=>
  obtain⟨L,j,rfl,rfl,hj,_,_,_,ho⟩:=dY h
  rw[ho]
  exact hT.1.at hj
 ·exact kN
theorem lT {p:Option Addr}{T:Hp}(hO:St w0 bs w H)(hT:HA p T E)[hc:Cut H E H1](s g:Int)(v:Bool)(hv:j9 T s g=v)
  (hR:∀ w',HA p T E->St w0 bs w' (E++H1)->ab R (.bool v) w'):Calls prog 349 #[.pointer p,.agg #[.int .i64 s,.int .u32 g]] w R:=by
 have hS:=hO.fr E H1
 clear hO
 subst hv
 obtain⟨e,he⟩:∃ e,eJ T s g=e:=⟨_,rfl⟩
 unfold j9 at hR
 rw[he] at hR
 by_cases h0:e=0
 case neg=>
  have d:decide (e=0)=false:=decide_eq_false h0
  have d2:(e == 0)=false:=beq_eq_false_iff_ne.2 h0
  rw[d] at hR
  have he':=HD he
  clear he
  go_enter func349,ntmps349
  go_wp2_with (first|refine am 176 rfl hS ?_;clear hS;intro bo w _ hS|go_at_call 184;refine iq hS hT s g e he'.out h0 ?_;clear hS;intro w _ hS;unfold ab|refine au rfl hS ?_)
  exact hR _ hT hS.p
 case pos=>
 subst h0
 obtain⟨L,j,rfl,rfl,hj,hck,_,_,_⟩:=dY he
 obtain⟨hW,b,bt,Et,rfl,hTt,rfl⟩:=id hT
 have hdo:∀ (Z:List Ent) (Y:List Ent) w',St w0 bs w' ((⟨b,bW (some ⟨bt,0,none⟩) L.length (aT L),198,true⟩::(Et++Z))++Y)->Calls prog 385 #[.pointer (some ⟨b,2+j * 10,none⟩)] w' (fun e' w''=>∃ x,e'=.returned (.int .i64 0)∧x=⟨b,bW (some ⟨bt,0,none⟩) L.length (aT L),198,true⟩::(Et++Z)∧St w0 bs w'' (x++Y)):=by
  intro Z Y w hS
  simp only[bX] at hS
  go_enter func385,ntmps385
  go_wp2_with (go_skip)
  refine bodyPost_ret (cH rfl) rfl ?_
  (exact⟨rfl,hS.p⟩)
 clear he
 go_enter func349,ntmps349
 go_wp2_with (first|refine am 176 rfl hS ?_;clear hS;intro bo w _ hS|(go_at_call 184;refine kO (H1:=⟨bo,#[.int .i64 j,.int .u32 g],176,true⟩::H1) (show St w0 bs w ((⟨b,bW (some ⟨bt,0,none⟩) L.length (aT L),198,true⟩::Et)++(⟨bo,#[.int .i64 j,.int .u32 g],176,true⟩::H1)) from hS.p) hW hTt hj hck 385 [] 0 _ ae (fun Y w' hS=>hdo _ Y w' hS) ?_;clear hS;rintro x w rfl hS;unfold ab)|refine au rfl hS ?_)
 exact hR _ hT (by simp only[List.cons_append];exact hS.p)
theorem iI {p:Option Addr}{T:Hp}(hO:St w0 bs w H)(hT:HA p T E)[hc:Cut H E H1](s g:Int)(o:Ob)(e:Int)(ho:qy T s g=o)(he:eJ T s g=e)
  (hR:∀ w',HA p T E->St w0 bs w' (E++H1)->ab R (.tuple #[.agg (gr o),.int .i64 e]) w'):Calls prog 424 #[.pointer p,.agg #[.int .i64 s,.int .u32 g]] w R:=by
 have hS:=hO.fr E H1
 clear hO
 by_cases h0:e=0
 case neg=>
  have hE2:qy T s g=io:=by unfold qy;rw[he,if_neg h0]
  rw[hE2] at ho
  subst ho
  have hR' : ∀ w',HA p T E->St w0 bs w' (E++H1)->ab R (.tuple #[.agg (aN 0 zero4 false),.int .i64 e]) w':=hR
  have he':=HD he
  clear he hE2 hR
  go_enter func424,ntmps424
  go_wp2_with (first|refine am 176 rfl hS ?_;clear hS;intro bo w _ hS|go_at_call 184;refine iq hS hT s g e he'.out h0 ?_;clear hS;intro w _ hS;unfold ab|refine au rfl hS ?_|refine ak rfl hS ?_;clear hS;intro w hS|refine aq _ rfl hS ?_;clear hS;intro bN w hbN hS)
  refine bodyPost_ret (aJ rfl hS) rfl ?_
  exact hR' _ hT hS.p
 case pos=>
 subst h0
 obtain⟨L,j,rfl,rfl,hj,hck,_,_,hob⟩:=dY he
 obtain⟨hW,b,bt,Et,rfl,hTt,rfl⟩:=id hT
 have hoo:(L.getD j d8).2.2=o:=by rw[← ho,← hob];unfold qy;rw[if_pos he]
 have hoW:ObW o:=by rw[← hoo];exact hW.at hj
 have hcell:=Bb (t:=some ⟨bt,0,none⟩) (z:=L.length) (jR hj rfl) (show ObW (L.getD j d8).2.2 by rw[hoo];exact hoW)
 rw[hoo] at hcell
 obtain⟨n,F,h⟩:=o
 have hF4:F.length=4:=hoW.len
 have hA:=dr (n:=n) (h:=h) hF4
 have hZ:=cV (n:=n) (h:=h) hF4
 have hO2:=dB (n:=0) (n':=n) (h:=false) (h':=h) (F:=zero4) rfl hF4
 have hcell:CellsAt (bW (some ⟨bt,0,none⟩) L.length (aT L)) (2+j * 10) 10 (aN n F h):=hcell
 have hR' : ∀ w',HA (some ⟨b,0,none⟩) (some (some L)) (⟨b,bW (some ⟨bt,0,none⟩) L.length (aT L),198,true⟩::Et)->St w0 bs w' ((⟨b,bW (some ⟨bt,0,none⟩) L.length (aT L),198,true⟩::Et)++H1)->ab R (.tuple #[.agg (aN n F h),.int .i64 0]) w':=hR
 clear ho he hob hoo hoW hR
 have hdo:∀ (bu:Nat) (Z Y:List Ent) w',St w0 bs w' ((⟨b,bW (some ⟨bt,0,none⟩) L.length (aT L),198,true⟩::(Et++(⟨bu,aN 0 zero4 false,195,true⟩::Z)))++Y) ->
   Calls prog 450 #[.pointer (some ⟨b,2+j * 10,none⟩),.pointer (some ⟨bu,0,none⟩)] w' (fun e' w''=>∃ x,e'=.returned (.int .i64 0)∧x=⟨b,bW (some ⟨bt,0,none⟩) L.length (aT L),198,true⟩::(Et++(⟨bu,aN n F h,195,true⟩::Z))∧St w0 bs w'' (x++Y)):=by
  intro bu Z Y w hS
  simp only[bX] at hS
  go_enter func450,ntmps450
  go_wp2_with (first|refine au rfl hS ?_|refine ak rfl hS ?_;clear hS;intro w hS)
  refine bodyPost_ret (cH rfl) rfl ?_
  (exact⟨_,rfl,rfl,by simp only[bX];exact hS.p⟩)
 simp only[List.cons_append] at hS
 clear hcell
 go_enter func424,ntmps424
 go_wp2_with (first|refine am 176 rfl hS ?_;clear hS;intro bo w _ hS|refine aq (o:=⟨some 4,_,_,_,_,_⟩) _ rfl hS ?_;clear hS;intro b4 w _ hS|refine aq 195 rfl hS ?_;clear hS;intro bu w _ hS|(go_at_call 184;refine kO (H1:=⟨bu,aN 0 zero4 false,195,true⟩::⟨b4,aN 0 zero4 false,195,true⟩::⟨bo,#[.int .i64 j,.int .u32 g],176,true⟩::H1) (show St w0 bs w ((⟨b,bW (some ⟨bt,0,none⟩) L.length (aT L),198,true⟩::Et)++(⟨bu,aN 0 zero4 false,195,true⟩::⟨b4,aN 0 zero4 false,195,true⟩::⟨bo,#[.int .i64 j,.int .u32 g],176,true⟩::H1)) from by simp only[List.cons_append];exact hS.p) hW hTt hj hck 450 [.pointer (some ⟨bu,0,none⟩)] 0 _ ae (fun Y w' hS=>hdo bu _ Y w' hS) ?_;clear hS;rintro x w rfl hS;unfold ab)|refine au rfl hS ?_|refine ak rfl hS ?_;clear hS;intro w hS)
 refine bodyPost_ret (aJ rfl hS) rfl ?_
 exact hR' _ hT (by simp only[List.cons_append];exact hS.p)
theorem xR {p:Option Addr}{T:Hp}(hO:St w0 bs w H)(hT:HA p T E)[hc:Cut H E H1](s g i:Int)(r:Int×Int)(e:Int)(hr:vV T s g i=r)(he:A3 T s g i=e)
  (hR:∀ w',HA p T E->St w0 bs w' (E++H1)->ab R (.tuple #[.agg #[.int .i64 r.1,.int .u32 r.2],.int .i64 e]) w'):Calls prog 123 #[.pointer p,.agg #[.int .i64 s,.int .u32 g],.int .i64 i] w R:=by
 have hS:=hO.fr E H1
 clear hO
 obtain⟨e0,he0⟩:∃ e,eJ T s g=e:=⟨_,rfl⟩
 by_cases h0:e0=0
 case neg=>
  have hE1:A3 T s g i=e0:=by unfold A3;rw[he0,if_neg h0]
  have hE2:vV T s g i=(0,0):=by unfold vV;rw[he0,if_neg h0]
  rw[hE1] at he
  rw[hE2] at hr
  subst he hr
  have he':=HD he0
  clear he0 hE1 hE2
  go_enter func123,ntmps123
  go_wp2_with (first|refine am 176 rfl hS ?_;clear hS;intro bo w _ hS|go_at_call 184;refine iq hS hT s g e0 he'.out h0 ?_;clear hS;intro w _ hS;unfold ab|refine au rfl hS ?_|refine ak rfl hS ?_;clear hS;intro w hS|(first|refine aq _ rfl hS ?_|refine am _ rfl hS ?_);clear hS;intro bN w hbN hS)
  refine bodyPost_ret (aJ rfl hS) rfl ?_
  exact hR _ hT hS.p
 case pos=>
 subst h0
 obtain⟨L,j,rfl,rfl,hj,hck,_,_,hob⟩:=dY he0
 obtain⟨hW,b,bt,Et,rfl,hTt,rfl⟩:=id hT
 obtain⟨o,ho⟩:∃ o,(L.getD j d8).2.2=o:=⟨_,rfl⟩
 have hoW:ObW o:=by rw[← ho];exact hW.at hj
 have hcell:=Bb (t:=some ⟨bt,0,none⟩) (z:=L.length) (jR hj rfl) (show ObW (L.getD j d8).2.2 by rw[ho];exact hoW)
 unfold vV at hr
 unfold A3 at he
 rw[he0,if_pos rfl,hob,ho] at hr he
 rw[ho] at hcell
 have hr':=HD hr
 have he':=HD he
 clear he0 hob ho hr he
 have hdo:∀ (bi bu:Nat) (Z Y:List Ent) w',St w0 bs w' ((⟨b,bW (some ⟨bt,0,none⟩) L.length (aT L),198,true⟩::(Et++(⟨bu,#[.int .i64 0,.int .u32 0],176,true⟩::⟨bi,#[.int .i64 i],3,true⟩::Z)))++Y) ->
   Calls prog 185 #[.pointer (some ⟨b,2+j * 10,none⟩),.pointer (some ⟨bi,0,none⟩),.pointer (some ⟨bu,0,none⟩)] w' (fun e' w''=>∃ x,e'=.returned (.int .i64 e)∧x=⟨b,bW (some ⟨bt,0,none⟩) L.length (aT L),198,true⟩::(Et++(⟨bu,#[.int .i64 r.1,.int .u32 r.2],176,true⟩::⟨bi,#[.int .i64 i],3,true⟩::Z))∧St w0 bs w'' (x++Y)):=by
  intro bi bu Z Y w hS
  simp only[bX] at hS
  go_enter func185,ntmps185
  go_wp2_with (go_skip)
  refine ao [⟨(undef,[⟨bu,#[.int .i64 0,.int .u32 0],176,true⟩]),[(8,fun _ y=>y.2=[⟨bu,#[.int .i64 r.1,.int .u32 r.2],176,true⟩])]⟩] (⟨b,bW (some ⟨bt,0,none⟩) L.length (aT L),198,true⟩::(Et++(⟨bi,#[.int .i64 i],3,true⟩::(Z++Y)))) (⟨bu,#[.int .i64 0,.int .u32 0],176,true⟩::⟨b,bW (some ⟨bt,0,none⟩) L.length (aT L),198,true⟩::(Et++(⟨bi,#[.int .i64 i],3,true⟩::(Z++Y)))) (by simp) hS.p (by kernel_rfl) (by kernel_rfl) ?_
  (refine fV (fun χ w hw=>ad rfl) ?_)
  (refine fV (fun χ w hw=>ah rfl) ?_)
  (refine fV (fun χ w hw=>ai _ _ rfl hw) ?_)
  (refine fV (fun χ w hw=>ac _ _ rfl hw) ?_)
  refine cQ 186 [_,_] rfl (fun _=>rfl) rfl ae (.tuple #[.agg #[.int .i64 r.1,.int .u32 r.2],.int .i64 e]) (fun X w hS=>jX hS hoW i r e hr'.out he'.out (fun w' hS'=>⟨rfl,hS'⟩)) ?_
  (refine fV (fun χ w hw=>ad rfl) ?_)
  (refine fV (fun χ w hw=>aB rfl) ?_)
  (refine fV (fun χ w hw=>aB rfl) ?_)
  refine ap 0 0 rfl rfl (by(rfl)) (by(rfl)) (by(rfl)) (fun _=>rfl) (fun _=>undef) ?_ ?_
  ·intro χ X w _ hS
   exact aK _ _ _ rfl (show St w0 bs w (⟨bu,#[.int .i64 0,.int .u32 0],176,true⟩::(X++_)) from hS) (fun w' hS'=>⟨(undef,[⟨bu,#[.int .i64 r.1,.int .u32 r.2],176,true⟩]),rfl,rfl,hS'⟩)
  (refine fV (fun χ w hw=>aG rfl) ?_)
  refine bC rfl ?_
  intro χ w hok hS
  obtain⟨h1,_⟩:=hok _ (.head _)
  have hS:St w0 bs w (((χ 8).2++[])++(⟨b,bW (some ⟨bt,0,none⟩) L.length (aT L),198,true⟩::(Et++(⟨bi,#[.int .i64 i],3,true⟩::(Z++Y))))):=hS
  rw[h1] at hS
  simp only[List.cons_append,List.nil_append,List.append_nil] at hS
  clear hok h1
  go_wp2_with (go_skip)
  refine bodyPost_ret (cH rfl) rfl ?_
  refine⟨_,rfl,rfl,?_⟩
  simp only[bX]
  exact hS.p
 simp only[List.cons_append] at hS
 clear hcell
 go_enter func123,ntmps123
 go_wp2_with (first|refine am 176 rfl hS ?_;clear hS;intro bo w _ hS|refine am 3 rfl hS ?_;clear hS;intro bi w _ hS|refine aq (o:=⟨some 6,_,_,_,_,_⟩) _ rfl hS ?_;clear hS;intro b6 w _ hS|refine aq 176 rfl hS ?_;clear hS;intro bu w _ hS|(go_at_call 184;refine kO (H1:=⟨bu,#[.int .i64 0,.int .u32 0],176,true⟩::⟨bi,#[.int .i64 i],3,true⟩::⟨b6,#[.int .i64 0,.int .u32 0],176,true⟩::⟨bo,#[.int .i64 j,.int .u32 g],176,true⟩::H1) (show St w0 bs w ((⟨b,bW (some ⟨bt,0,none⟩) L.length (aT L),198,true⟩::Et)++(⟨bu,#[.int .i64 0,.int .u32 0],176,true⟩::⟨bi,#[.int .i64 i],3,true⟩::⟨b6,#[.int .i64 0,.int .u32 0],176,true⟩::⟨bo,#[.int .i64 j,.int .u32 g],176,true⟩::H1)) from by simp only[List.cons_append];exact hS.p) hW hTt hj hck 185 [.pointer (some ⟨bi,0,none⟩),.pointer (some ⟨bu,0,none⟩)] e _ ae (fun Y w' hS=>hdo bi bu _ Y w' hS) ?_;clear hS;rintro x w rfl hS;unfold ab)|refine au rfl hS ?_|refine ak rfl hS ?_;clear hS;intro w hS)
 refine bodyPost_ret (aJ rfl hS) rfl ?_
 exact hR _ hT (by simp only[List.cons_append];exact hS.p)
open Go.RowKit Go.Mm
def kG (L:List Hs)(i:Nat)(g:Int):List Hs:=L.set i (if g<4294967295 then (0,g+1,io) else (2,g,io))
def ya (T:Hp)(s g:Int):Hp:=if eJ T s g=0 then some (some (kG (iJ T) s.toNat g)) else T
def jr (T:Hp):List (Int×Int):=v8 (some (cY (iJ T)))
def Do (T:Hp):Int:=nR 0 (some (cY (iJ T)))
theorem HpW.set {L:List Hs}(hW:HpW L){i:Nat}{x:Hs}(h1:x.1=0∨x.1=1∨x.1=2)(h2:1≤x.2.1∧x.2.1≤4294967295)(h3:ObW x.2.2):HpW (L.set i x):=
 ⟨by rw[List.length_set];exact hW.lo,by rw[List.length_set];exact hW.hi,by rw[ja];exact hW.tb.set i h1 h2,fun y hy=>by
  rcases List.mem_or_eq_of_mem_set hy with h|h
  ·exact hW.ob y h
  ·rw[h];exact h3⟩
theorem DD {L:List Hs}(hW:HpW L){i:Nat}{g:Int}(hi:i<L.length)(hck:iN (some (cY L)) i g=0):HpW (kG L i g)∧cY (kG L i g)=xW (cY L) i g∧aT (kG L i g)=(aT L).set i io∧(kG L i g).length=L.length:=by
 have hx:(cY L).getD i (0,0)=(1,g):=by
  obtain⟨j,hj,_,h⟩:=ig hck
  rw[show i=j by omega];exact h
 have hg:=hW.tb.gn _ (eu (L:=cY L) (i:=i) (by rw[cb];exact hi))
 rw[hx] at hg
 simp only at hg
 refine⟨?_,?_,?_,by unfold kG;rw[List.length_set]⟩
 ·unfold kG
  split
  ·exact hW.set (.inl rfl) (by simp only;omega) kN
  ·exact hW.set (.inr (.inr rfl)) hg kN
 ·unfold kG xW
  rw[if_pos hck,Int.toNat_natCast,ja]
  split <;> rfl
 ·unfold kG
  rw[← jQ hi]
  split <;> rfl
theorem xU {p:Option Addr}{T:Hp}(hO:St w0 bs w H)(hT:HA p T E)[hc:Cut H E H1](s g:Int){T': Hp}(e:Int)(hT' : ya T s g=T')(he:eJ T s g=e)
  (hR:∀ E' w',HA p T' E'->St w0 bs w' (E'++H1)->ab R (.int .i64 e) w'):Calls prog 427 #[.pointer p,.agg #[.int .i64 s,.int .u32 g]] w R:=by
 have hS:=hO.fr E H1
 clear hO
 by_cases h0:e=0
 case neg=>
  have hE2:ya T s g=T:=by unfold ya;rw[he,if_neg h0]
  rw[hE2] at hT'
  subst hT'
  have he':=HD he
  clear he hE2
  go_enter func427,ntmps427
  go_wp2_with (first|refine am 176 rfl hS ?_;clear hS;intro bo w _ hS|refine am 110 rfl hS ?_;clear hS;intro bd w _ hS|go_at_call 184;refine iq hS hT s g e he'.out h0 ?_;clear hS;intro w _ hS;unfold ab|(first|refine af rfl hS ?_|refine au rfl hS ?_))
  exact hR _ _ hT hS.p
 case pos=>
 subst h0
 obtain⟨L,j,rfl,rfl,hj,hck,_,_,_⟩:=dY he
 obtain⟨hW,b,bt,Et,rfl,hTt,rfl⟩:=id hT
 obtain⟨hW2,hb2,hp2,hl2⟩:=DD hW hj hck
 have hT2:T'=some (some (kG L j g)):=by rw[← hT'];unfold ya;rw[if_pos he,Int.toNat_natCast];rfl
 have hgv:ov (some (cY L)) j g=some (cY (kG L j g)):=by rw[hb2];rfl
 have hset:=lU (t:=some ⟨bt,0,none⟩) (z:=L.length) (O:=aT L) (i:=j) (by rw[gW hW.hi];have:=hW.hi;omega) kN
 rw[← hp2] at hset
 have hset:SetsAt (bW (some ⟨bt,0,none⟩) L.length (aT L)) (2+j * 10) (aN 0 zero4 false) (bW (some ⟨bt,0,none⟩) L.length (aT (kG L j g))):=hset
 subst hT2
 have hgv':=HD hgv
 have hck':=HD hck
 have hW2':=HD hW2
 have hl2':=HD hl2
 have hdo:∀ (bo bd:Nat) (Y:List Ent) w',St w0 bs w' ((⟨b,bW (some ⟨bt,0,none⟩) L.length (aT L),198,true⟩::(Et++(⟨bo,#[.int .i64 j,.int .u32 g],176,true⟩::⟨bd,#[.pointer (some ⟨b,0,none⟩)],110,true⟩::H1)))++Y) ->
   Calls prog 452 #[.pointer (some ⟨b,2+j * 10,none⟩),.pointer (some ⟨bd,0,none⟩),.pointer (some ⟨bo,0,none⟩)] w' (fun e' w''=>∃ x,e'=.returned (.int .i64 0)∧(∃ E',HA (some ⟨b,0,none⟩) (some (some (kG L j g))) E'∧x=E'++(⟨bo,#[.int .i64 j,.int .u32 g],176,true⟩::⟨bd,#[.pointer (some ⟨b,0,none⟩)],110,true⟩::H1))∧St w0 bs w'' (x++Y)):=by
  intro bo bd Y w hS
  simp only[bX] at hS
  clear hT' he hgv hck hW2 hp2 hb2 hl2
  go_enter func452,ntmps452
  go_wp2_with (first|refine aL rfl ?_|refine ak rfl hS ?_;clear hS;intro w hS)
  have hS:St w0 bs w (Et++(⟨b,bW (some ⟨bt,0,none⟩) L.length (aT (kG L j g)),198,true⟩::⟨bo,#[.int .i64 j,.int .u32 g],176,true⟩::⟨bd,#[.pointer (some ⟨b,0,none⟩)],110,true⟩::(H1++Y))):=hS.p
  refine ao [⟨(undef,Et),[(5,fun _ x=>TA (some ⟨bt,0,none⟩) (some (cY (kG L j g))) x.2)]⟩] (⟨b,bW (some ⟨bt,0,none⟩) L.length (aT (kG L j g)),198,true⟩::⟨bo,#[.int .i64 j,.int .u32 g],176,true⟩::⟨bd,#[.pointer (some ⟨b,0,none⟩)],110,true⟩::(H1++Y)) (Et++(⟨b,bW (some ⟨bt,0,none⟩) L.length (aT (kG L j g)),198,true⟩::⟨bo,#[.int .i64 j,.int .u32 g],176,true⟩::⟨bd,#[.pointer (some ⟨b,0,none⟩)],110,true⟩::(H1++Y))) (by simp) hS (by kernel_rfl) (by kernel_rfl) ?_
  (refine fV (fun χ w hw=>ac _ _ rfl hw) ?_)
  (refine fV (fun χ w hw=>ah rfl) ?_)
  (refine fV (fun χ w hw=>ag rfl) ?_)
  (refine fV (fun χ w hw=>ac _ _ rfl hw) ?_)
  (refine fV (fun χ w hw=>ai _ _ rfl hw) ?_)
  refine cj 0 0 rfl rfl (by(rfl)) (by(rfl)) (by(rfl)) 331 [_,_] rfl (fun _=>rfl) ae (fun _=>.int .i64 0) ?_ ?_
  ·intro χ X w _ hS
   exact SB (show St w0 bs w (Et++(X++_)) from hS) hTt j g (fun E' w' hT2 hS'=>⟨(undef,E'),by rw[hck'.out],by rw[← hgv'.out];exact hT2,show St w0 bs w' (E'++(X++_)) from hS'.p⟩)
  (refine fV (fun χ w hw=>aG rfl) ?_)
  refine bC rfl ?_
  intro χ w hok hS
  obtain⟨hT2,_⟩:=hok _ (.head _)
  have hS:St w0 bs w (((χ 5).2++[])++(⟨b,bW (some ⟨bt,0,none⟩) L.length (aT (kG L j g)),198,true⟩::⟨bo,#[.int .i64 j,.int .u32 g],176,true⟩::⟨bd,#[.pointer (some ⟨b,0,none⟩)],110,true⟩::(H1++Y))):=hS
  rw[List.append_nil] at hS
  generalize (χ 5).2=E2 at hS hT2
  clear hok
  go_wp2_with (go_skip)
  refine bodyPost_ret (cH rfl) rfl ?_
  refine⟨_,rfl,⟨⟨b,bW (some ⟨bt,0,none⟩) L.length (aT (kG L j g)),198,true⟩::E2,⟨hW2'.out,b,bt,E2,rfl,hT2,by rw[hl2'.out]⟩,rfl⟩,?_⟩
  simp only[bX]
  exact hS.p
 clear hT' he hgv hW2 hb2 hp2 hset hl2
 simp only[List.cons_append] at hS
 go_enter func427,ntmps427
 go_wp2_with (first|refine am 176 rfl hS ?_;clear hS;intro bo w _ hS|refine am 110 rfl hS ?_;clear hS;intro bd w _ hS|(go_at_call 184;refine kO (H1:=⟨bo,#[.int .i64 j,.int .u32 g],176,true⟩::⟨bd,#[.pointer (some ⟨b,0,none⟩)],110,true⟩::H1) (show St w0 bs w ((⟨b,bW (some ⟨bt,0,none⟩) L.length (aT L),198,true⟩::Et)++(⟨bo,#[.int .i64 j,.int .u32 g],176,true⟩::⟨bd,#[.pointer (some ⟨b,0,none⟩)],110,true⟩::H1)) from by simp only[List.cons_append];exact hS.p) hW hTt hj hck 452 [.pointer (some ⟨bd,0,none⟩),.pointer (some ⟨bo,0,none⟩)] 0 _ ae (fun Y w' hS=>hdo bo bd Y w' hS) ?_;clear hS;rintro x w ⟨E2,hT2,rfl⟩ hS;unfold ab)|(first|refine af rfl hS ?_|refine au rfl hS ?_))
 exact hR _ _ hT2 hS.p
theorem px {p:Option Addr}{T:Hp}(hO:St w0 bs w H)(hT:HA p T E)[hc:Cut H E H1](l:List (Int×Int))(hl:jr T=l)
  (hR:∀ v E' w',RS v l E'->St w0 bs w' (E'++(E++H1))->ab R v w'):Calls prog 391 #[.pointer p] w R:=by
 have hS:=hO.fr E H1
 clear hO hc
 subst hl
 rcases T with _|_|L
 ·go_enter func391,ntmps391
  go_wp2_with (go_at_call 179;refine bO hS hT false rfl ?_;clear hS;intro w hS;unfold ab)
  exact hR _ _ _ RS.nil hS.p
 ·go_enter func391,ntmps391
  go_wp2_with (go_at_call 179;refine bO hS hT false rfl ?_;clear hS;intro w hS;unfold ab)
  exact hR _ _ _ RS.nil hS.p
 obtain⟨hW,b,bt,Et,rfl,hTt,rfl⟩:=id hT
 clear hW
 go_enter func391,ntmps391
 go_wp2_with (first|go_at_call 179;refine bO hS hT true rfl ?_;clear hS;intro w hS;(try simp only[cq] at hS);unfold ab|(go_at_call 418;refine tD hS hTt ?_;clear hS;intro v2 E3 w hL _ hS;have hone2:=hL.one;unfold ab)|refine af rfl hS ?_)
 exact hR _ _ _ hL (by simp only[List.cons_append];exact hS.p)
theorem xS {p:Option Addr}{T:Hp}(hO:St w0 bs w H)(hT:HA p T E)[hc:Cut H E H1](m:Int)(hm:Do T=m)
  (hR:∀ w',HA p T E->St w0 bs w' (E++H1)->ab R (.int .i64 m) w'):Calls prog 205 #[.pointer p] w R:=by
 have hS:=hO.fr E H1
 clear hO hc
 rcases T with _|_|L
 ·obtain rfl:0=m:=hm
  go_enter func205,ntmps205
  go_wp2_with (go_at_call 179;refine bO hS hT false rfl ?_;clear hS;intro w hS;unfold ab)
  exact hR _ hT hS.p
 ·obtain rfl:0=m:=hm
  go_enter func205,ntmps205
  go_wp2_with (go_at_call 179;refine bO hS hT false rfl ?_;clear hS;intro w hS;unfold ab)
  exact hR _ hT hS.p
 obtain⟨hW,b,bt,Et,rfl,hTt,rfl⟩:=id hT
 have hm2:nR 0 (some (cY L))=m:=hm
 have hm':=HD hm2
 clear hW hm hm2
 go_enter func205,ntmps205
 go_wp2_with (first|go_at_call 179;refine bO hS hT true rfl ?_;clear hS;intro w hS;(try simp only[cq] at hS);unfold ab|go_at_call 219;refine lp hS hTt ?_;clear hS;intro w _ hS;rw[hm'.out];unfold ab|refine af rfl hS ?_)
 exact hR _ hT (by simp only[List.cons_append];exact hS.p)
theorem eH {p:Option Addr}{T:Hp}(hO:St w0 bs w H)(hT:HA p T E)[hc:Cut H E H1](T' : Hp)(hT' : Fo T=T')
  (hR:∀ p' E' w',HA p' T' E'->HA p T E->St w0 bs w' (E'++(E++H1))->ab R (.pointer p') w'):Calls prog 288 #[.pointer p] w R:=by
 have hS:=hO.fr E H1
 clear hO
 subst hT'
 rcases T with _|_|L
 ·go_enter func288,ntmps288
  go_wp2_with (go_at_call 179;refine bO hS hT false rfl ?_;clear hS;intro w hS;unfold ab)
  exact hR _ _ _ HA.none hT hS.p
 ·go_enter func288,ntmps288
  go_wp2_with (go_at_call 179;refine bO hS hT false rfl ?_;clear hS;intro w hS;unfold ab)
  exact hR _ _ _ HA.none hT hS.p
 obtain⟨hW,b,bt,Et,rfl,hTt,rfl⟩:=id hT
 have hl:=gW hW.hi
 have hcp:sL (some (cY L))=some (cY L):=by
  have:=hW.lo
  simp[sL,fe,cb,this]
 have hcp':=HD hcp
 obtain⟨O,hO2⟩:∃ O,aT L=O:=⟨_,rfl⟩
 rw[hO2] at hl
 have i1:=Dw (t:=some ⟨bt,0,none⟩) (z:=L.length) hl
 have i2:=A8 (t:=some ⟨bt,0,none⟩) (z:=L.length) hl
 have i3:=A9 (t:=some ⟨bt,0,none⟩) (z:=L.length) (cs:=bW none 0 eV) (by rw[bW,co fS];rfl) hl
 have i4:=Ba (t:=some ⟨bt,0,none⟩) (z:=L.length) (O:=O)
 have i5:=fun t'=>Dv (t:=some ⟨bt,0,none⟩) (z:=L.length) (O:=O) t'
 have hO2':=HD hO2
 rw[hO2] at hS
 clear hcp hl
 go_enter func288,ntmps288
 go_wp2_with (first|go_at_call 179;refine bO hS (show HA (some ⟨b,0,none⟩) (some (some L)) (⟨b,bW (some ⟨bt,0,none⟩) L.length O,198,true⟩::Et) from⟨hW,b,bt,Et,rfl,hTt,by rw[hO2]⟩) true rfl ?_;clear hS;intro w hS;simp only[List.cons_append] at hS;unfold ab|refine aq 198 rfl hS ?_;clear hS;intro bc w _ hS|go_at_call 136;refine gN hS hTt ?_;clear hS;intro q E2 w h2 _ hS;rw[hcp'.out] at h2;unfold ab|(first|refine af rfl hS ?_|refine au rfl hS ?_)|(first|refine bP rfl hS ?_|refine ak rfl hS ?_);clear hS;intro w hS)
 obtain⟨bq,rfl⟩:∃ bq,q=some ⟨bq,0,none⟩:=by obtain⟨_,bq,h,_⟩:=id h2;exact⟨bq,h⟩
 refine hR _ (⟨bc,bW (some ⟨bq,0,none⟩) L.length O,198,true⟩::E2) _ ⟨hW,bc,bq,E2,rfl,h2,by rw[hO2]⟩ hT ?_
 rw[hO2]
 simp only[List.cons_append]
 exact hS.p
open Go.RowKit Go.Mm
def lN (L:List Hs)(n:Int)(h:Bool):Option Nat:=if o9 n h then v9 (some (cY L)) else none
def qE (L:List Hs)(i:Nat)(o:Ob):List Hs:=L.set i (1,(L.getD i d8).2.1,o)
def qD (T:Hp)(n:Int)(h:Bool):Hp:=
 match T with
 | some (some L)=>match lN L n h with
  | some i=>some (some (qE L i (lM n h)))
  | none=>some (some L)
 | T=>T
def i8 (T:Hp)(n:Int)(h:Bool):Int:=
 match T with
 | some (some L)=>if o9 n h then (if (lN L n h).isSome then 0 else 4) else 2
 | _=>1
def kX (T:Hp)(n:Int)(h:Bool):Int×Int:=
 match T with
 | some (some L)=>match lN L n h with
  | some i=>((i:Int),(L.getD i d8).2.1)
  | none=>(0,0)
 | _=>(0,0)
theorem Dg {L:List Hs}(hW:HpW L){i:Nat}{o:Ob}(hi:i<L.length)(ho:ObW o):HpW (qE L i o):=by
 have hg:=hW.tb.gn _ (eu (L:=cY L) (i:=i) (by rw[cb];exact hi))
 rw[cT] at hg
 exact hW.set (.inr (.inl rfl)) hg ho
theorem xQ {p:Option Addr}{T:Hp}(hO:St w0 bs w H)(hT:HA p T E)[hc:Cut H E H1](n:Int)(h:Bool){T': Hp}(r:Int×Int)(e:Int)(hT' : qD T n h=T')(hr:kX T n h=r)(he:i8 T n h=e)
  (hR:∀ E' w',HA p T' E'->St w0 bs w' (E'++H1)->ab R (.tuple #[.agg #[.int .i64 r.1,.int .u32 r.2],.int .i64 e]) w'):Calls prog 116 #[.pointer p,.int .i64 n,.bool h] w R:=by
 have hS:=hO.fr E H1
 clear hO
 subst hT' he hr
 rcases T with _|_|L
 ·simp only[qD,i8,kX] at hR
  go_enter func116,ntmps116
  go_wp2_with (first|refine aq 176 rfl hS ?_;clear hS;intro br w _ hS|go_at_call 179;refine bO hS hT false rfl ?_;clear hS;intro w hS;unfold ab|refine aL rfl ?_|refine ak rfl hS ?_;clear hS;intro w hS)
  refine bodyPost_ret (aJ rfl hS) rfl ?_
  exact hR _ _ hT hS.p
 ·simp only[qD,i8,kX] at hR
  go_enter func116,ntmps116
  go_wp2_with (first|refine aq 176 rfl hS ?_;clear hS;intro br w _ hS|go_at_call 179;refine bO hS hT false rfl ?_;clear hS;intro w hS;unfold ab|refine aL rfl ?_|refine ak rfl hS ?_;clear hS;intro w hS)
  refine bodyPost_ret (aJ rfl hS) rfl ?_
  exact hR _ _ hT hS.p
 obtain⟨hW,b,bt,Et,rfl,hTt,rfl⟩:=id hT
 cases hb:o9 n h with
 | false=>
  have e1:lM n h=io:=by unfold lM;rw[hb];rfl
  have e2:gZ n h=2:=by unfold gZ;rw[hb];rfl
  simp only[qD,i8,kX,lN,hb,Bool.false_eq_true,if_false] at hR
  have e1':=HD e1
  have e2':=HD e2
  clear e1 e2 hW hb
  go_enter func116,ntmps116
  go_wp2_with (first|refine aq 176 rfl hS ?_;clear hS;intro br w _ hS|go_at_call 179;refine bO hS hT true rfl ?_;clear hS;intro w hS;(try simp only[cq] at hS);unfold ab|(go_at_call 114;refine lL hS n h _ 2 e1'.out e2'.out ?_;clear hS;intro w hS;have hz:gr io=aN 0 zero4 false:=rfl;rw[hz];unfold ab)|refine aL rfl ?_|refine ak rfl hS ?_;clear hS;intro w hS|refine aq _ rfl hS ?_;clear hS;intro bN w hbN hS)
  refine bodyPost_ret (aJ rfl hS) rfl ?_
  exact hR _ _ hT hS.p
 | true=>
  have e1:lM n h=(n,zero4,h):=by unfold lM;rw[hb];rfl
  have e2:gZ n h=0:=by unfold gZ;rw[hb];rfl
  have hoW:=nk hb
  simp only[qD,i8,kX,lN,hb,if_true,e1] at hR
  have e1':=HD e1
  have e2':=HD e2
  clear e1 e2 hb
  cases htk:v9 (some (cY L)) with
  | none=>
   obtain⟨g1,g2,g3,g4⟩:=pO (L:=cY L) (by rw[cb];exact hW.lo) htk
   rw[htk] at hR
   simp only[Option.isSome_none,Bool.false_eq_true,if_false] at hR
   have g4' : ir (some (cY L))=some (cY L):=by simp only[ir,g4]
   have hW':=HD hW
   have g1':=HD g1
   have g2':=HD g2
   have g3':=HD g3
   have g5':=HD g4'
   clear htk g1 g2 g3 g4 g4' hW
   go_enter func116,ntmps116
   go_wp2_with (first|refine aq 176 rfl hS ?_;clear hS;intro br w _ hS|go_at_call 179;refine bO hS hT true rfl ?_;clear hS;intro w hS;(try simp only[cq] at hS);unfold ab|(go_at_call 114;refine lL hS n h _ 0 e1'.out e2'.out ?_;clear hS;intro w hS;have hz:gr (n,zero4,h)=aN n zero4 h:=rfl;rw[hz];unfold ab)|go_at_call 180;refine jd hS hTt ?_;rw[g1'.out,g2'.out,g3'.out,g5'.out];clear hS;intro E2 w hT2 hS;(try simp only[cq] at hS);unfold ab|refine aL rfl ?_|refine af rfl hS ?_|refine ak rfl hS ?_;clear hS;intro w hS|refine aq _ rfl hS ?_;clear hS;intro bN w hbN hS)
   refine bodyPost_ret (aJ rfl hS) rfl ?_
   exact hR (⟨b,bW (some ⟨bt,0,none⟩) L.length (aT L),198,true⟩::E2) _ ⟨hW'.out,b,bt,E2,rfl,hT2,rfl⟩ hS.p
  | some i=>
   obtain⟨g1,g2,g3,g4,hi,_⟩:=lk htk
   rw[htk] at hR
   simp only[Option.isSome_some,if_true] at hR
   rw[cb] at hi
   obtain⟨g,hg⟩:∃ g,(L.getD i d8).2.1=g:=⟨_,rfl⟩
   have g3g:kD (some (cY L))=g:=by rw[g3,cT];exact hg
   have g4' : ir (some (cY L))=some (cY (qE L i (n,zero4,h))):=by
    simp only[ir,g4]
    unfold qE
    rw[ja,cT]
   have hWN:=Dg hW hi hoW
   have hpad:(aT L).set i (n,zero4,h)=aT (qE L i (n,zero4,h)):=jQ hi (x:=(1,(L.getD i d8).2.1,(n,zero4,h)))
   have hset:=lU (t:=some ⟨bt,0,none⟩) (z:=L.length) (O:=aT L) (i:=i) (by rw[gW hW.hi];have:=hW.hi;omega) hoW
   rw[hpad] at hset
   have hset:SetsAt (bW (some ⟨bt,0,none⟩) L.length (aT L)) (2+i * 10) (aN n zero4 h) (bW (some ⟨bt,0,none⟩) L.length (aT (qE L i (n,zero4,h)))):=hset
   have hix:=y9 (b:=b) (i:=i) (by have:=hW.hi;omega)
   have hlN:(qE L i (n,zero4,h)).length=L.length:=by unfold qE;rw[List.length_set]
   rw[hg] at hR
   have hWN':=HD hWN
   have hlN':=HD hlN
   have g1':=HD g1
   have g2':=HD g2
   have g3':=HD g3g
   have g5':=HD g4'
   clear htk g1 g2 g3 g3g g4 g4' hW hg hpad hWN hlN
   go_enter func116,ntmps116
   go_wp2_with (first|refine aq (o:=⟨some 6,_,_,_,_,_⟩) _ rfl hS ?_;clear hS;intro b6 w _ hS|refine aq 195 rfl hS ?_;clear hS;intro b8 w _ hS|refine aq (o:=⟨some 10,_,_,_,_,_⟩) _ rfl hS ?_;clear hS;intro b10 w _ hS|go_at_call 179;refine bO hS hT true rfl ?_;clear hS;intro w hS;(try simp only[cq] at hS);unfold ab|(go_at_call 114;refine lL hS n h _ 0 e1'.out e2'.out ?_;clear hS;intro w hS;have hz:gr (n,zero4,h)=aN n zero4 h:=rfl;rw[hz];unfold ab)|go_at_call 180;refine jd hS hTt ?_;rw[g1'.out,g2'.out,g3'.out,g5'.out];clear hS;intro E2 w hT2 hS;(try simp only[cq] at hS);unfold ab|refine af rfl hS ?_|refine ak rfl hS ?_;clear hS;intro w hS)
   refine ao [⟨(undef,[⟨b,bW (some ⟨bt,0,none⟩) L.length (aT L),198,true⟩]),[(7,fun _ y=>y.2=[⟨b,bW (some ⟨bt,0,none⟩) L.length (aT (qE L i (n,zero4,h))),198,true⟩])]⟩] (⟨b10,#[.int .i64 i,.int .u32 g],176,true⟩::⟨b8,aN n zero4 h,195,true⟩::⟨b6,#[.int .i64 0,.int .u32 0],176,true⟩::(E2++H1)) (⟨b,bW (some ⟨bt,0,none⟩) L.length (aT L),198,true⟩::⟨b10,#[.int .i64 i,.int .u32 g],176,true⟩::⟨b8,aN n zero4 h,195,true⟩::⟨b6,#[.int .i64 0,.int .u32 0],176,true⟩::(E2++H1)) (by simp) hS.p (by kernel_rfl) (by kernel_rfl) ?_
   (refine fV (fun χ w hw=>ad rfl) ?_)
   (refine fV (fun χ w hw=>ag rfl) ?_)
   (refine fV (fun χ w hw=>ac _ _ rfl hw) ?_)
   (refine fV (fun χ w hw=>ai _ _ rfl hw) ?_)
   (refine fV (fun χ w hw=>ah rfl) ?_)
   (refine fV (fun χ w hw=>ag rfl) ?_)
   (refine fV (fun χ w hw=>aY _ _ _ rfl) ?_)
   refine ap 0 0 rfl rfl (by(rfl)) (by(rfl)) (by(rfl)) (fun _=>rfl) (fun _=>undef) ?_ ?_
   ·intro χ X w _ hS
    exact aK _ _ _ rfl (show St w0 bs w (⟨b,bW (some ⟨bt,0,none⟩) L.length (aT L),198,true⟩::(X++_)) from hS) (fun w' hS'=>⟨(undef,[⟨b,bW (some ⟨bt,0,none⟩) L.length (aT (qE L i (n,zero4,h))),198,true⟩]),rfl,rfl,hS'⟩)
   refine bC rfl ?_
   intro χ w hok hS
   obtain⟨h1,_⟩:=hok _ (.head _)
   have hS:St w0 bs w (((χ 7).2++[])++(⟨b10,#[.int .i64 i,.int .u32 g],176,true⟩::⟨b8,aN n zero4 h,195,true⟩::⟨b6,#[.int .i64 0,.int .u32 0],176,true⟩::(E2++H1))):=hS
   rw[h1] at hS
   simp only[List.cons_append,List.nil_append,List.append_nil] at hS
   clear hok h1
   go_wp2_with (first|refine au rfl hS ?_|refine ak rfl hS ?_;clear hS;intro w hS)
   refine bodyPost_ret (aJ rfl hS) rfl ?_
   exact hR (⟨b,bW (some ⟨bt,0,none⟩) L.length (aT (qE L i (n,zero4,h))),198,true⟩::E2) _ ⟨hWN'.out,b,bt,E2,rfl,hT2,by rw[hlN'.out]⟩ hS.p
open Go.RowKit Go.Mm
def mm (T:Hp)(s g i:Int)(v:Int×Int):Int:=
 if eJ T s g=0 then (if kK (Ss T s) i=0 then (if cd v.1 v.2 0 0 then 0 else eJ T v.1 v.2) else kK (Ss T s) i) else eJ T s g
def oo (T:Hp)(s g i:Int)(v:Int×Int):Int×Int:=if mm T s g i v=0 then se (Ss T s) i else (0,0)
def oq (L:List Hs)(j:Nat)(g:Int)(o:Ob):List Hs:=L.set j (1,g,o)
def oI (T:Hp)(s g i:Int)(v:Int×Int):Hp:=if mm T s g i v=0 then some (some (oq (iJ T) s.toNat g (zO (Ss T s) i v))) else T
theorem vY {p:Option Addr}{T:Hp}(hT:HA p T E){s g:Int}(h:eJ T s g=0):fc (s,g)=false:=by
 obtain⟨L,j,rfl,rfl,hj,hck,_,h2,_⟩:=dY h
 have hW:=hT.1
 have hg:=hW.tb.gn _ (eu (L:=cY L) (i:=j) (by rw[cb];exact hj))
 rw[cT,h2] at hg
 have:=hW.hi
 unfold fc
 have d1:decide ((j:Int)<0)=false:=DF
 have d2:decide ((256:Int)≤(j:Int))=false:=DF
 have d3:decide (g<1)=false:=decide_eq_false (by simp only at hg;omega)
 simp[d1,d2,d3]
theorem CK {L:List Hs}(hW:HpW L){j:Nat}{g:Int}{o:Ob}(hj:j<L.length)(hck:iN (some (cY L)) j g=0)(ho:ObW o):HpW (oq L j g o)∧cY (oq L j g o)=cY L∧aT (oq L j g o)=(aT L).set j o∧(oq L j g o).length=L.length:=by
 have hx:(cY L).getD j (0,0)=(1,g):=by
  obtain⟨k,hk,_,h⟩:=ig hck
  rw[show j=k by omega];exact h
 have hg:=hW.tb.gn _ (eu (L:=cY L) (i:=j) (by rw[cb];exact hj))
 rw[hx] at hg
 refine⟨hW.set (.inr (.inl rfl)) hg ho,?_,(jQ hj _).symm,by unfold oq;rw[List.length_set]⟩
 unfold oq
 rw[ja]
 apply List.ext_getElem?
 intro k
 rw[List.getElem?_set]
 split
 ·next e=>
  subst e
  have hl:j<(cY L).length:=by rw[cb];exact hj
  rw[if_pos hl,List.getElem?_eq_getElem hl]
  rw[List.getD_eq_getElem?_getD,List.getElem?_eq_getElem hl] at hx
  exact congrArg some hx.symm
 ·rfl
theorem wu {q:Value}(hO:St w0 bs w H)(hR:∀ w',St w0 bs w' H->ab R (.int .i64 0) w'):Calls prog 188 #[q] w R:=by
 have hS:=hO
 clear hO
 go_enter func188,ntmps188
 go_wp2_with (go_skip)
 exact hR _ hS.p
theorem eB {L:List Hs}{j:Nat}{s g:Int}{b bt:Nat}{Et:List Ent}(hO:St w0 bs w H)(hW:HpW L)(hTt:TA (some ⟨bt,0,none⟩) (some (cY L)) Et)
  [hc:Cut H (⟨b,bW (some ⟨bt,0,none⟩) L.length (aT L),198,true⟩::Et) H1] (hj:j<L.length) (hck:iN (some (cY L)) j g=0) (hs:s=j)
  (hR:∀ w',St w0 bs w' ((⟨b,bW (some ⟨bt,0,none⟩) L.length (aT L),198,true⟩::Et)++H1)->ab R (.int .i64 0) w'):Calls prog 184 #[.pointer (some ⟨b,0,none⟩),.agg #[.int .i64 s,.int .u32 g],.func (.func 188) #[] #[]] w R:=by
 subst hs
 refine kO (L:=L) hO hW hTt hj hck 188 [] 0 (fun x=>x=⟨b,bW (some ⟨bt,0,none⟩) L.length (aT L),198,true⟩::(Et++H1)) ae (fun X w' hS=>wu hS (fun w'' hS''=>⟨_,rfl,rfl,hS''⟩)) (fun x w' hx hS'=>?_)
 subst hx
 exact hR _ hS'
def BN (w0:World)(bs:List Nat)(Y:List Ent)(v:Int)(Φ:List Ent->Prop)(e:Ending)(w:World):Prop:=∃ x,e=.returned (.int .i64 v)∧Φ x∧St w0 bs w (x++Y)
theorem zN {L:List Hs}{j:Nat}{g i vs vg:Int}{b bt:Nat}{Et:List Ent}(hW:HpW L)(hTt:TA (some ⟨bt,0,none⟩) (some (cY L)) Et)(hj:j<L.length)(hck:iN (some (cY L)) j g=0)(hvg:0≤vg∧vg≤4294967295)
  (T' : Hp) (r:Int×Int) (e:Int) (hT' : oI (some (some L)) j g i (vs,vg)=T') (hr:oo (some (some L)) j g i (vs,vg)=r) (he:mm (some (some L)) j g i (vs,vg)=e) :
  ∀ (bi bv bd bu:Nat) (Z Y:List Ent) (Φ:List Ent->Prop) (hΦ:∀ E',HA (some ⟨b,0,none⟩) T' E'->Φ (E'++(⟨bu,#[.int .i64 r.1,.int .u32 r.2],176,true⟩::⟨bd,#[.pointer (some ⟨b,0,none⟩)],110,true⟩::⟨bv,#[.int .i64 vs,.int .u32 vg],176,true⟩::⟨bi,#[.int .i64 i],3,true⟩::Z))) w',St w0 bs w' ((⟨b,bW (some ⟨bt,0,none⟩) L.length (aT L),198,true⟩::(Et++(⟨bu,#[.int .i64 0,.int .u32 0],176,true⟩::⟨bd,#[.pointer (some ⟨b,0,none⟩)],110,true⟩::⟨bv,#[.int .i64 vs,.int .u32 vg],176,true⟩::⟨bi,#[.int .i64 i],3,true⟩::Z)))++Y) ->
   Calls prog 187 #[.pointer (some ⟨b,2+j * 10,none⟩),.pointer (some ⟨bi,0,none⟩),.pointer (some ⟨bv,0,none⟩),.pointer (some ⟨bd,0,none⟩),.pointer (some ⟨bu,0,none⟩)] w' (BN w0 bs Y e Φ):=by
 intro bi bv bd bu Z Y Φ hΦ w hS
 simp only[bX] at hS
 have hT:HA (some ⟨b,0,none⟩) (some (some L)) (⟨b,bW (some ⟨bt,0,none⟩) L.length (aT L),198,true⟩::Et):=⟨hW,b,bt,Et,rfl,hTt,rfl⟩
 have hwi:eJ (some (some L)) j g=0:=hck
 obtain⟨o,ho⟩:∃ o,(L.getD j d8).2.2=o:=⟨_,rfl⟩
 have hob:Ss (some (some L)) j=o:=by unfold Ss;rw[Int.toNat_natCast];exact ho
 have hoW:ObW o:=by rw[← ho];exact hW.at hj
 have hcell:=Bb (t:=some ⟨bt,0,none⟩) (z:=L.length) (jR hj rfl) (show ObW (L.getD j d8).2.2 by rw[ho];exact hoW)
 rw[ho] at hcell
 obtain⟨r0,hr0⟩:∃ r,se o i=r:=⟨_,rfl⟩
 have hr':=HD hr0
 cases hin:u7 o i with
 | false=>
  have hg:kK o i=3:=by unfold kK;rw[hin];rfl
  have hr00:se o i=(0,0):=by unfold se;rw[hin];rfl
  have hE:mm (some (some L)) j g i (vs,vg)=3:=by unfold mm;rw[hwi,if_pos rfl,hob,hg,if_neg (by decide)]
  have hR2:oo (some (some L)) j g i (vs,vg)=(0,0):=by unfold oo;rw[hE,if_neg (by decide)]
  have hT2:oI (some (some L)) j g i (vs,vg)=some (some L):=by unfold oI;rw[hE,if_neg (by decide)]
  rw[hE] at he
  rw[hR2] at hr
  rw[hT2] at hT'
  rw[hr00] at hr0
  subst he hr hT' hr0
  have hg':=HD hg
  clear hg hr00 hE hR2 hT2 hin ho hob hwi
  go_enter func187,ntmps187
  go_wp2_with (go_skip)
  refine ao [⟨(undef,[]),[(8,fun _ x=>∃ b7,x=(.pointer (some ⟨b7,0,none⟩),[⟨b7,#[.int .i64 0,.int .u32 0],176,true⟩])),(9,fun y x=>∃ b7,y.1=.pointer (some ⟨b7,0,none⟩)∧x.2=[⟨b7,#[.int .i64 ((0,0):Int×Int).1,.int .u32 ((0,0):Int×Int).2],176,true⟩])]⟩] (⟨b,bW (some ⟨bt,0,none⟩) L.length (aT L),198,true⟩::(Et++(⟨bu,#[.int .i64 0,.int .u32 0],176,true⟩::⟨bd,#[.pointer (some ⟨b,0,none⟩)],110,true⟩::⟨bv,#[.int .i64 vs,.int .u32 vg],176,true⟩::⟨bi,#[.int .i64 i],3,true⟩::(Z++Y)))) (⟨b,bW (some ⟨bt,0,none⟩) L.length (aT L),198,true⟩::(Et++(⟨bu,#[.int .i64 0,.int .u32 0],176,true⟩::⟨bd,#[.pointer (some ⟨b,0,none⟩)],110,true⟩::⟨bv,#[.int .i64 vs,.int .u32 vg],176,true⟩::⟨bi,#[.int .i64 i],3,true⟩::(Z++Y)))) (by simp) hS.p (by kernel_rfl) (by kernel_rfl) ?_
  (refine fV (fun χ w hw=>ad rfl) ?_)
  (refine fV (fun χ w hw=>ah rfl) ?_)
  (refine fV (fun χ w hw=>ai _ _ rfl hw) ?_)
  (refine fV (fun χ w hw=>ac _ _ rfl hw) ?_)
  refine cQ 186 [_,_] rfl (fun _=>rfl) rfl ae (.tuple #[.agg #[.int .i64 ((0,0):Int×Int).1,.int .u32 ((0,0):Int×Int).2],.int .i64 3]) (fun X w hS=>jX hS hoW i ((0,0):Int×Int) 3 hr'.out hg'.out (fun w' hS'=>⟨rfl,hS'⟩)) ?_
  (refine fV (fun χ w hw=>ad rfl) ?_)
  (refine fV (fun χ w hw=>aB rfl) ?_)
  (refine fV (fun χ w hw=>aB rfl) ?_)
  refine ap 0 0 rfl rfl (by(rfl)) (by(rfl)) (by(kernel_rfl)) (fun _=>rfl) (fun x=>x.1) ?_ ?_
  ·intro χ X w _ hS
   exact bE rfl (show St w0 bs w (X++_) from hS) (fun b' w' _ hS'=>⟨(_,[_]),rfl,⟨b',rfl⟩,hS'⟩)
  refine ap 0 1 rfl rfl (by(rfl)) (by(kernel_rfl)) (by(rfl)) (fun _=>rfl) (fun _=>undef) ?_ ?_
  ·rintro χ X w ⟨⟨b7,hb⟩,_⟩ hS
   have hS:St w0 bs w ((χ 8).2++(X++_)):=hS
   rw[hb] at hS
   have hS:St w0 bs w (⟨b7,#[.int .i64 0,.int .u32 0],176,true⟩::(X++_)):=hS
   have hb1:(χ 8).1=.pointer (some ⟨b7,0,none⟩):=by rw[hb]
   exact aZ rfl hS hb1 (fun w' hS'=>⟨(undef,[⟨b7,#[.int .i64 ((0,0):Int×Int).1,.int .u32 ((0,0):Int×Int).2],176,true⟩]),rfl,⟨b7,hb1,rfl⟩,hS'⟩)
  (refine fV (fun χ w hw=>aG rfl) ?_)
  refine bC rfl ?_
  intro χ w hok hS
  obtain⟨⟨b7,hb⟩,⟨b7',hb1,hb2⟩,_⟩:=hok _ (.head _)
  rw[hb] at hb1
  obtain⟨⟩:=hb1
  have hS:St w0 bs w (((χ 9).2++[])++(⟨b,bW (some ⟨bt,0,none⟩) L.length (aT L),198,true⟩::(Et++(⟨bu,#[.int .i64 0,.int .u32 0],176,true⟩::⟨bd,#[.pointer (some ⟨b,0,none⟩)],110,true⟩::⟨bv,#[.int .i64 vs,.int .u32 vg],176,true⟩::⟨bi,#[.int .i64 i],3,true⟩::(Z++Y))))):=hS
  rw[hb2] at hS
  simp only[hb]
  simp only[List.cons_append,List.nil_append,List.append_nil] at hS
  clear hok hb2 hb
  go_wp2_with (go_skip)
  refine bodyPost_ret (cH rfl) rfl ?_
  refine⟨_,rfl,hΦ _ hT,?_⟩
  simp only[bX]
  exact hS.p
 | true=>
  have hg:kK o i=0:=by unfold kK;rw[hin];rfl
  obtain⟨ev,hev⟩:∃ ev,eJ (some (some L)) vs vg=ev:=⟨_,rfl⟩
  by_cases hbad:cd vs vg 0 0=false∧ev≠0
  ·obtain⟨hv0,hv1⟩:=hbad
   have hE:mm (some (some L)) j g i (vs,vg)=ev:=by unfold mm;rw[hwi,if_pos rfl,hob,hg,if_pos rfl,hv0,if_neg (by decide)];exact hev
   have hR2:oo (some (some L)) j g i (vs,vg)=(0,0):=by unfold oo;rw[hE,if_neg hv1]
   have hT2:oI (some (some L)) j g i (vs,vg)=some (some L):=by unfold oI;rw[hE,if_neg hv1]
   rw[hE] at he
   rw[hR2] at hr
   rw[hT2] at hT'
   subst he hr hT'
   have hz:=gp hv0
   have hg':=HD hg
   have hev':=HD hev
   have q:(ev != 0)=true:=by simpa using hv1
   clear hg hE hR2 hT2 hin ho hob hwi hv0 hev hr0
   go_enter func187,ntmps187
   go_wp2_with (go_skip)
   refine ao [⟨(undef,[]),[(8,fun _ x=>∃ b7,x=(.pointer (some ⟨b7,0,none⟩),[⟨b7,#[.int .i64 0,.int .u32 0],176,true⟩])),(9,fun y x=>∃ b7,y.1=.pointer (some ⟨b7,0,none⟩)∧x.2=[⟨b7,#[.int .i64 (r0).1,.int .u32 (r0).2],176,true⟩])]⟩] (⟨b,bW (some ⟨bt,0,none⟩) L.length (aT L),198,true⟩::(Et++(⟨bu,#[.int .i64 0,.int .u32 0],176,true⟩::⟨bd,#[.pointer (some ⟨b,0,none⟩)],110,true⟩::⟨bv,#[.int .i64 vs,.int .u32 vg],176,true⟩::⟨bi,#[.int .i64 i],3,true⟩::(Z++Y)))) (⟨b,bW (some ⟨bt,0,none⟩) L.length (aT L),198,true⟩::(Et++(⟨bu,#[.int .i64 0,.int .u32 0],176,true⟩::⟨bd,#[.pointer (some ⟨b,0,none⟩)],110,true⟩::⟨bv,#[.int .i64 vs,.int .u32 vg],176,true⟩::⟨bi,#[.int .i64 i],3,true⟩::(Z++Y)))) (by simp) hS.p (by kernel_rfl) (by kernel_rfl) ?_
   (refine fV (fun χ w hw=>ad rfl) ?_)
   (refine fV (fun χ w hw=>ah rfl) ?_)
   (refine fV (fun χ w hw=>ai _ _ rfl hw) ?_)
   (refine fV (fun χ w hw=>ac _ _ rfl hw) ?_)
   refine cQ 186 [_,_] rfl (fun _=>rfl) rfl ae (.tuple #[.agg #[.int .i64 (r0).1,.int .u32 (r0).2],.int .i64 0]) (fun X w hS=>jX hS hoW i r0 0 hr'.out hg'.out (fun w' hS'=>⟨rfl,hS'⟩)) ?_
   (refine fV (fun χ w hw=>ad rfl) ?_)
   (refine fV (fun χ w hw=>aB rfl) ?_)
   (refine fV (fun χ w hw=>aB rfl) ?_)
   refine ap 0 0 rfl rfl (by(rfl)) (by(rfl)) (by(kernel_rfl)) (fun _=>rfl) (fun x=>x.1) ?_ ?_
   ·intro χ X w _ hS
    exact bE rfl (show St w0 bs w (X++_) from hS) (fun b' w' _ hS'=>⟨(_,[_]),rfl,⟨b',rfl⟩,hS'⟩)
   refine ap 0 1 rfl rfl (by(rfl)) (by(kernel_rfl)) (by(rfl)) (fun _=>rfl) (fun _=>undef) ?_ ?_
   ·rintro χ X w ⟨⟨b7,hb⟩,_⟩ hS
    have hS:St w0 bs w ((χ 8).2++(X++_)):=hS
    rw[hb] at hS
    have hS:St w0 bs w (⟨b7,#[.int .i64 0,.int .u32 0],176,true⟩::(X++_)):=hS
    have hb1:(χ 8).1=.pointer (some ⟨b7,0,none⟩):=by rw[hb]
    exact aZ rfl hS hb1 (fun w' hS'=>⟨(undef,[⟨b7,#[.int .i64 (r0).1,.int .u32 (r0).2],176,true⟩]),rfl,⟨b7,hb1,rfl⟩,hS'⟩)
   (refine fV (fun χ w hw=>aG rfl) ?_)
   refine bC rfl ?_
   intro χ w hok hS
   obtain⟨⟨b7,hb⟩,⟨b7',hb1,hb2⟩,_⟩:=hok _ (.head _)
   rw[hb] at hb1
   obtain⟨⟩:=hb1
   have hS:St w0 bs w (((χ 9).2++[])++(⟨b,bW (some ⟨bt,0,none⟩) L.length (aT L),198,true⟩::(Et++(⟨bu,#[.int .i64 0,.int .u32 0],176,true⟩::⟨bd,#[.pointer (some ⟨b,0,none⟩)],110,true⟩::⟨bv,#[.int .i64 vs,.int .u32 vg],176,true⟩::⟨bi,#[.int .i64 i],3,true⟩::(Z++Y))))):=hS
   rw[hb2] at hS
   simp only[hb]
   simp only[List.cons_append,List.nil_append,List.append_nil] at hS
   clear hok hb2 hb
   go_wp2_with (first|go_at_call 184;refine iq (show St w0 bs w ((⟨b,bW (some ⟨bt,0,none⟩) L.length (aT L),198,true⟩::Et)++(⟨b7,#[.int .i64 r0.1,.int .u32 r0.2],176,true⟩::⟨bu,#[.int .i64 0,.int .u32 0],176,true⟩::⟨bd,#[.pointer (some ⟨b,0,none⟩)],110,true⟩::⟨bv,#[.int .i64 vs,.int .u32 vg],176,true⟩::⟨bi,#[.int .i64 i],3,true⟩::(Z++Y))) from by simp only[List.cons_append];exact hS.p) hT vs vg ev hev'.out hv1 ?_;clear hS;intro w _ hS;simp only[List.cons_append] at hS;unfold ab|refine wV (.binOp .neq _ _ _ _) rfl (bK rfl) ?_|refine aL rfl ?_|(first|refine af rfl hS ?_|refine au rfl hS ?_))
   refine bodyPost_ret (cH rfl) rfl ?_
   refine⟨_,rfl,hΦ _ hT,?_⟩
   simp only[bX]
   exact hS.p
  ·have hE:mm (some (some L)) j g i (vs,vg)=0:=by
    unfold mm
    rw[hwi,if_pos rfl,hob,hg,if_pos rfl]
    cases hv0:cd vs vg 0 0 with
    | true=>rfl
    | false=>
     rw[if_neg (by decide)]
     show eJ (some (some L)) vs vg=0
     rw[hev]
     exact Decidable.byContradiction fun h=>hbad ⟨hv0,h⟩
   have hw:fc (vs,vg)=false:=by
    cases hv0:cd vs vg 0 0 with
    | true=>
     unfold fc f8
     rw[hv0];rfl
    | false=>
     refine vY hT ?_
     rw[hev]
     exact Decidable.byContradiction fun h=>hbad ⟨hv0,h⟩
   obtain⟨o',ho'⟩:∃ o',zO o i (vs,vg)=o':=⟨_,rfl⟩
   have ho'W:ObW o':=by rw[← ho'];exact hoW.set hin hw hvg
   have hst1:BP o i (vs,vg)=o':=by unfold BP;rw[hin];exact ho'
   have hR2:oo (some (some L)) j g i (vs,vg)=r0:=by unfold oo;rw[hE,if_pos rfl,hob];exact hr0
   have hT2:oI (some (some L)) j g i (vs,vg)=some (some (oq L j g o')):=by unfold oI;rw[hE,if_pos rfl,hob,Int.toNat_natCast,ho'];rfl
   have hWN:=CK hW hj hck ho'W
   have hset:=lU (t:=some ⟨bt,0,none⟩) (z:=L.length) (O:=aT L) (i:=j) (by rw[gW hW.hi];have:=hW.hi;omega) ho'W
   rw[← hWN.2.2.1] at hset
   rw[hE] at he
   rw[hR2] at hr
   rw[hT2] at hT'
   subst he hr hT'
   have ho'e:=HD hst1
   have hg':=HD hg
   have hWN':=HD hWN
   have hev0:cd vs vg 0 0=false->eJ (some (some L)) vs vg=0:=fun h=>by rw[hev];exact Decidable.byContradiction fun q=>hbad ⟨h,q⟩
   clear hg hE hR2 hT2 hin ho hob hwi hr0 hbad hev ho' hst1 hWN
   cases hv0:cd vs vg 0 0 with
   | true=>
    have hz:=gp hv0
    clear hv0 hev0
    go_enter func187,ntmps187
    go_wp2_with (go_skip)
    refine ao [⟨(undef,[]),[(8,fun _ x=>∃ b7,x=(.pointer (some ⟨b7,0,none⟩),[⟨b7,#[.int .i64 0,.int .u32 0],176,true⟩])),(9,fun y x=>∃ b7,y.1=.pointer (some ⟨b7,0,none⟩)∧x.2=[⟨b7,#[.int .i64 (r0).1,.int .u32 (r0).2],176,true⟩])]⟩] (⟨b,bW (some ⟨bt,0,none⟩) L.length (aT L),198,true⟩::(Et++(⟨bu,#[.int .i64 0,.int .u32 0],176,true⟩::⟨bd,#[.pointer (some ⟨b,0,none⟩)],110,true⟩::⟨bv,#[.int .i64 vs,.int .u32 vg],176,true⟩::⟨bi,#[.int .i64 i],3,true⟩::(Z++Y)))) (⟨b,bW (some ⟨bt,0,none⟩) L.length (aT L),198,true⟩::(Et++(⟨bu,#[.int .i64 0,.int .u32 0],176,true⟩::⟨bd,#[.pointer (some ⟨b,0,none⟩)],110,true⟩::⟨bv,#[.int .i64 vs,.int .u32 vg],176,true⟩::⟨bi,#[.int .i64 i],3,true⟩::(Z++Y)))) (by simp) hS.p (by kernel_rfl) (by kernel_rfl) ?_
    (refine fV (fun χ w hw=>ad rfl) ?_)
    (refine fV (fun χ w hw=>ah rfl) ?_)
    (refine fV (fun χ w hw=>ai _ _ rfl hw) ?_)
    (refine fV (fun χ w hw=>ac _ _ rfl hw) ?_)
    refine cQ 186 [_,_] rfl (fun _=>rfl) rfl ae (.tuple #[.agg #[.int .i64 (r0).1,.int .u32 (r0).2],.int .i64 0]) (fun X w hS=>jX hS hoW i r0 0 hr'.out hg'.out (fun w' hS'=>⟨rfl,hS'⟩)) ?_
    (refine fV (fun χ w hw=>ad rfl) ?_)
    (refine fV (fun χ w hw=>aB rfl) ?_)
    (refine fV (fun χ w hw=>aB rfl) ?_)
    refine ap 0 0 rfl rfl (by(rfl)) (by(rfl)) (by(kernel_rfl)) (fun _=>rfl) (fun x=>x.1) ?_ ?_
    ·intro χ X w _ hS
     exact bE rfl (show St w0 bs w (X++_) from hS) (fun b' w' _ hS'=>⟨(_,[_]),rfl,⟨b',rfl⟩,hS'⟩)
    refine ap 0 1 rfl rfl (by(rfl)) (by(kernel_rfl)) (by(rfl)) (fun _=>rfl) (fun _=>undef) ?_ ?_
    ·rintro χ X w ⟨⟨b7,hb⟩,_⟩ hS
     have hS:St w0 bs w ((χ 8).2++(X++_)):=hS
     rw[hb] at hS
     have hS:St w0 bs w (⟨b7,#[.int .i64 0,.int .u32 0],176,true⟩::(X++_)):=hS
     have hb1:(χ 8).1=.pointer (some ⟨b7,0,none⟩):=by rw[hb]
     exact aZ rfl hS hb1 (fun w' hS'=>⟨(undef,[⟨b7,#[.int .i64 (r0).1,.int .u32 (r0).2],176,true⟩]),rfl,⟨b7,hb1,rfl⟩,hS'⟩)
    (refine fV (fun χ w hw=>aG rfl) ?_)
    refine bC rfl ?_
    intro χ w hok hS
    obtain⟨⟨b7,hb⟩,⟨b7',hb1,hb2⟩,_⟩:=hok _ (.head _)
    rw[hb] at hb1
    obtain⟨⟩:=hb1
    have hS:St w0 bs w (((χ 9).2++[])++(⟨b,bW (some ⟨bt,0,none⟩) L.length (aT L),198,true⟩::(Et++(⟨bu,#[.int .i64 0,.int .u32 0],176,true⟩::⟨bd,#[.pointer (some ⟨b,0,none⟩)],110,true⟩::⟨bv,#[.int .i64 vs,.int .u32 vg],176,true⟩::⟨bi,#[.int .i64 i],3,true⟩::(Z++Y))))):=hS
    rw[hb2] at hS
    simp only[hb]
    simp only[List.cons_append,List.nil_append,List.append_nil] at hS
    clear hok hb2 hb
    go_wp2_with (first|refine wV (.binOp .neq _ _ _ _) rfl (bK rfl) ?_|refine aL rfl ?_|refine au rfl hS ?_)
    have hO4:=dB (n:=0) (n':=o'.1) (h:=false) (h':=o'.2.2) (F:=zero4) rfl ho'W.len
    have hZ4:=cV (n:=o'.1) (h:=o'.2.2) ho'W.len
    have hA4:=dr (n:=o'.1) (h:=o'.2.2) ho'W.len
    refine ao [⟨(undef,[]),[(10,fun _ x=>∃ b7,x=(.pointer (some ⟨b7,0,none⟩),[⟨b7,aN 0 zero4 false,195,true⟩])),(12,fun y x=>∃ b7,y.1=.pointer (some ⟨b7,0,none⟩)∧x.2=[⟨b7,gr o',195,true⟩])]⟩,
      ⟨(undef,[]),[(11,fun _ x=>∃ b7,x=(.pointer (some ⟨b7,0,none⟩),[⟨b7,#[.int .i64 0,.int .u32 0],176,true⟩])),(13,fun y x=>∃ b7,y.1=.pointer (some ⟨b7,0,none⟩)∧x.2=[⟨b7,#[.int .i64 r0.1,.int .u32 r0.2],176,true⟩])]⟩] (⟨b,bW (some ⟨bt,0,none⟩) L.length (aT L),198,true⟩::(Et++(⟨b7,#[.int .i64 r0.1,.int .u32 r0.2],176,true⟩::⟨bu,#[.int .i64 0,.int .u32 0],176,true⟩::⟨bd,#[.pointer (some ⟨b,0,none⟩)],110,true⟩::⟨bv,#[.int .i64 vs,.int .u32 vg],176,true⟩::⟨bi,#[.int .i64 i],3,true⟩::(Z++Y)))) (⟨b,bW (some ⟨bt,0,none⟩) L.length (aT L),198,true⟩::(Et++(⟨b7,#[.int .i64 r0.1,.int .u32 r0.2],176,true⟩::⟨bu,#[.int .i64 0,.int .u32 0],176,true⟩::⟨bd,#[.pointer (some ⟨b,0,none⟩)],110,true⟩::⟨bv,#[.int .i64 vs,.int .u32 vg],176,true⟩::⟨bi,#[.int .i64 i],3,true⟩::(Z++Y)))) (by simp) hS.p (by kernel_rfl) (by kernel_rfl) ?_
    (refine fV (fun χ w hw=>ad rfl) ?_)
    (refine fV (fun χ w hw=>ah rfl) ?_)
    (refine fV (fun χ w hw=>ai _ _ rfl hw) ?_)
    (refine fV (fun χ w hw=>ac _ _ rfl hw) ?_)
    (refine fV (fun χ w hw=>ai _ _ rfl hw) ?_)
    refine cQ 189 [_,_,_] rfl (fun _=>rfl) rfl ae (.tuple #[.agg (gr o'),.agg #[.int .i64 r0.1,.int .u32 r0.2],.int .i64 0]) (fun X w hS=>o8 hS hoW i vs vg hw hvg o' r0 0 ho'e.out hr'.out hg'.out (fun w' hS'=>⟨rfl,hS'⟩)) ?_
    (refine fV (fun χ w hw=>ad rfl) ?_)
    (refine fV (fun χ w hw=>aB rfl) ?_)
    (refine fV (fun χ w hw=>aB rfl) ?_)
    (refine fV (fun χ w hw=>aB rfl) ?_)
    refine ap 0 0 rfl rfl (by(rfl)) (by(rfl)) (by(kernel_rfl)) (fun _=>rfl) (fun x=>x.1) ?_ ?_
    ·intro χ X w _ hS
     exact bE rfl (show St w0 bs w (X++_) from hS) (fun b' w' _ hS'=>⟨(_,[_]),rfl,⟨b',rfl⟩,hS'⟩)
    refine ap 1 0 rfl rfl (by(rfl)) (by(rfl)) (by(kernel_rfl)) (fun _=>rfl) (fun x=>x.1) ?_ ?_
    ·intro χ X w _ hS
     exact bE rfl (show St w0 bs w (X++_) from hS) (fun b' w' _ hS'=>⟨(_,[_]),rfl,⟨b',rfl⟩,hS'⟩)
    refine ap 0 1 rfl rfl (by(rfl)) (by(kernel_rfl)) (by(rfl)) (fun _=>rfl) (fun _=>undef) ?_ ?_
    ·rintro χ X w ⟨⟨b7,hb⟩,_⟩ hS
     have hS:St w0 bs w ((χ 10).2++(X++_)):=hS
     rw[hb] at hS
     have hS:St w0 bs w (⟨b7,aN 0 zero4 false,195,true⟩::(X++_)):=hS
     have hb1:(χ 10).1=.pointer (some ⟨b7,0,none⟩):=by rw[hb]
     exact aZ rfl hS hb1 (fun w' hS'=>⟨(undef,[⟨b7,gr o',195,true⟩]),rfl,⟨b7,hb1,rfl⟩,hS'⟩)
    refine ap 1 1 rfl rfl (by(rfl)) (by(kernel_rfl)) (by(rfl)) (fun _=>rfl) (fun _=>undef) ?_ ?_
    ·rintro χ X w ⟨⟨b7,hb⟩,_⟩ hS
     have hS:St w0 bs w ((χ 11).2++(X++_)):=hS
     rw[hb] at hS
     have hS:St w0 bs w (⟨b7,#[.int .i64 0,.int .u32 0],176,true⟩::(X++_)):=hS
     have hb1:(χ 11).1=.pointer (some ⟨b7,0,none⟩):=by rw[hb]
     exact aZ rfl hS hb1 (fun w' hS'=>⟨(undef,[⟨b7,#[.int .i64 r0.1,.int .u32 r0.2],176,true⟩]),rfl,⟨b7,hb1,rfl⟩,hS'⟩)
    (refine fV (fun χ w hw=>aG rfl) ?_)
    refine bC rfl ?_
    intro χ w hok hS
    obtain⟨⟨b10,hb⟩,⟨b10',hb1,hb2⟩,_⟩:=hok _ (.head _)
    rw[hb] at hb1
    obtain⟨⟩:=hb1
    obtain⟨⟨b11,hc⟩,⟨b11',hc1,hc2⟩,_⟩:=hok _ (.tail _ (.head _))
    rw[hc] at hc1
    obtain⟨⟩:=hc1
    have hS:St w0 bs w (((χ 12).2++((χ 13).2++[]))++(⟨b,bW (some ⟨bt,0,none⟩) L.length (aT L),198,true⟩::(Et++(⟨b7,#[.int .i64 r0.1,.int .u32 r0.2],176,true⟩::⟨bu,#[.int .i64 0,.int .u32 0],176,true⟩::⟨bd,#[.pointer (some ⟨b,0,none⟩)],110,true⟩::⟨bv,#[.int .i64 vs,.int .u32 vg],176,true⟩::⟨bi,#[.int .i64 i],3,true⟩::(Z++Y))))):=hS
    rw[hb2,hc2] at hS
    simp only[hb,hc]
    simp only[List.cons_append,List.nil_append,List.append_nil] at hS
    clear hok hb2 hb hc2 hc
    go_wp2_with (go_skip)
    refine ao [⟨(undef,[⟨b,bW (some ⟨bt,0,none⟩) L.length (aT L),198,true⟩]),[(4,fun _ y=>y.2=[⟨b,bW (some ⟨bt,0,none⟩) L.length (aT (oq L j g o')),198,true⟩])]⟩,⟨(undef,[⟨bu,#[.int .i64 0,.int .u32 0],176,true⟩]),[(5,fun _ y=>y.2=[⟨bu,#[.int .i64 r0.1,.int .u32 r0.2],176,true⟩])]⟩]
     (⟨b10,gr o',195,true⟩::⟨b11,#[.int .i64 r0.1,.int .u32 r0.2],176,true⟩::(Et++(⟨b7,#[.int .i64 r0.1,.int .u32 r0.2],176,true⟩::⟨bd,#[.pointer (some ⟨b,0,none⟩)],110,true⟩::⟨bv,#[.int .i64 vs,.int .u32 vg],176,true⟩::⟨bi,#[.int .i64 i],3,true⟩::(Z++Y))))
     (⟨b,bW (some ⟨bt,0,none⟩) L.length (aT L),198,true⟩::⟨bu,#[.int .i64 0,.int .u32 0],176,true⟩::⟨b10,gr o',195,true⟩::⟨b11,#[.int .i64 r0.1,.int .u32 r0.2],176,true⟩::(Et++(⟨b7,#[.int .i64 r0.1,.int .u32 r0.2],176,true⟩::⟨bd,#[.pointer (some ⟨b,0,none⟩)],110,true⟩::⟨bv,#[.int .i64 vs,.int .u32 vg],176,true⟩::⟨bi,#[.int .i64 i],3,true⟩::(Z++Y)))) (by simp) hS.p (by kernel_rfl) (by kernel_rfl) ?_
    (refine fV (fun χ w hw=>ad rfl) ?_)
    (refine fV (fun χ w hw=>ai _ _ rfl hw) ?_)
    (refine fV (fun χ w hw=>ai _ _ rfl hw) ?_)
    (refine fV (fun χ w hw=>ah rfl) ?_)
    refine ap 0 0 rfl rfl (by(rfl)) (by(rfl)) (by(rfl)) (fun _=>rfl) (fun _=>undef) ?_ ?_
    ·intro χ X w _ hS
     exact aK _ _ _ rfl (show St w0 bs w (⟨b,bW (some ⟨bt,0,none⟩) L.length (aT L),198,true⟩::(X++_)) from hS) (fun w' hS'=>⟨(undef,[⟨b,bW (some ⟨bt,0,none⟩) L.length (aT (oq L j g o')),198,true⟩]),rfl,rfl,hS'⟩)
    refine ap 1 0 rfl rfl (by(rfl)) (by(rfl)) (by(rfl)) (fun _=>rfl) (fun _=>undef) ?_ ?_
    ·intro χ X w _ hS
     exact aK _ _ _ rfl (show St w0 bs w (⟨bu,#[.int .i64 0,.int .u32 0],176,true⟩::(X++_)) from hS) (fun w' hS'=>⟨(undef,[⟨bu,#[.int .i64 r0.1,.int .u32 r0.2],176,true⟩]),rfl,rfl,hS'⟩)
    refine bC rfl ?_
    intro χ w hok hS
    obtain⟨h1,_⟩:=hok _ (.head _)
    obtain⟨h2,_⟩:=hok _ (.tail _ (.head _))
    have hS:St w0 bs w (((χ 4).2++((χ 5).2++[]))++(⟨b10,gr o',195,true⟩::⟨b11,#[.int .i64 r0.1,.int .u32 r0.2],176,true⟩::(Et++(⟨b7,#[.int .i64 r0.1,.int .u32 r0.2],176,true⟩::⟨bd,#[.pointer (some ⟨b,0,none⟩)],110,true⟩::⟨bv,#[.int .i64 vs,.int .u32 vg],176,true⟩::⟨bi,#[.int .i64 i],3,true⟩::(Z++Y))))):=hS
    rw[h1,h2] at hS
    simp only[List.cons_append,List.nil_append,List.append_nil] at hS
    clear hok h1 h2
    go_wp2_with (go_skip)
    refine bodyPost_ret (cH rfl) rfl ?_
    refine⟨_,rfl,hΦ (⟨b,bW (some ⟨bt,0,none⟩) L.length (aT (oq L j g o')),198,true⟩::Et) ⟨hWN'.out.1,b,bt,Et,rfl,by rw[hWN'.out.2.1];exact hTt,by rw[hWN'.out.2.2.2]⟩,?_⟩
    simp only[bX]
    exact hS.p
   | false=>
    have hz:=gp hv0
    obtain⟨L2,k,hL2,hk1,hk,hckk,_,_,_⟩:=dY (hev0 hv0)
    obtain⟨⟩:=hL2
    have hk1':=HD hk1
    clear hv0 hev0 hk1
    go_enter func187,ntmps187
    go_wp2_with (go_skip)
    refine ao [⟨(undef,[]),[(8,fun _ x=>∃ b7,x=(.pointer (some ⟨b7,0,none⟩),[⟨b7,#[.int .i64 0,.int .u32 0],176,true⟩])),(9,fun y x=>∃ b7,y.1=.pointer (some ⟨b7,0,none⟩)∧x.2=[⟨b7,#[.int .i64 (r0).1,.int .u32 (r0).2],176,true⟩])]⟩] (⟨b,bW (some ⟨bt,0,none⟩) L.length (aT L),198,true⟩::(Et++(⟨bu,#[.int .i64 0,.int .u32 0],176,true⟩::⟨bd,#[.pointer (some ⟨b,0,none⟩)],110,true⟩::⟨bv,#[.int .i64 vs,.int .u32 vg],176,true⟩::⟨bi,#[.int .i64 i],3,true⟩::(Z++Y)))) (⟨b,bW (some ⟨bt,0,none⟩) L.length (aT L),198,true⟩::(Et++(⟨bu,#[.int .i64 0,.int .u32 0],176,true⟩::⟨bd,#[.pointer (some ⟨b,0,none⟩)],110,true⟩::⟨bv,#[.int .i64 vs,.int .u32 vg],176,true⟩::⟨bi,#[.int .i64 i],3,true⟩::(Z++Y)))) (by simp) hS.p (by kernel_rfl) (by kernel_rfl) ?_
    (refine fV (fun χ w hw=>ad rfl) ?_)
    (refine fV (fun χ w hw=>ah rfl) ?_)
    (refine fV (fun χ w hw=>ai _ _ rfl hw) ?_)
    (refine fV (fun χ w hw=>ac _ _ rfl hw) ?_)
    refine cQ 186 [_,_] rfl (fun _=>rfl) rfl ae (.tuple #[.agg #[.int .i64 (r0).1,.int .u32 (r0).2],.int .i64 0]) (fun X w hS=>jX hS hoW i r0 0 hr'.out hg'.out (fun w' hS'=>⟨rfl,hS'⟩)) ?_
    (refine fV (fun χ w hw=>ad rfl) ?_)
    (refine fV (fun χ w hw=>aB rfl) ?_)
    (refine fV (fun χ w hw=>aB rfl) ?_)
    refine ap 0 0 rfl rfl (by(rfl)) (by(rfl)) (by(kernel_rfl)) (fun _=>rfl) (fun x=>x.1) ?_ ?_
    ·intro χ X w _ hS
     exact bE rfl (show St w0 bs w (X++_) from hS) (fun b' w' _ hS'=>⟨(_,[_]),rfl,⟨b',rfl⟩,hS'⟩)
    refine ap 0 1 rfl rfl (by(rfl)) (by(kernel_rfl)) (by(rfl)) (fun _=>rfl) (fun _=>undef) ?_ ?_
    ·rintro χ X w ⟨⟨b7,hb⟩,_⟩ hS
     have hS:St w0 bs w ((χ 8).2++(X++_)):=hS
     rw[hb] at hS
     have hS:St w0 bs w (⟨b7,#[.int .i64 0,.int .u32 0],176,true⟩::(X++_)):=hS
     have hb1:(χ 8).1=.pointer (some ⟨b7,0,none⟩):=by rw[hb]
     exact aZ rfl hS hb1 (fun w' hS'=>⟨(undef,[⟨b7,#[.int .i64 (r0).1,.int .u32 (r0).2],176,true⟩]),rfl,⟨b7,hb1,rfl⟩,hS'⟩)
    (refine fV (fun χ w hw=>aG rfl) ?_)
    refine bC rfl ?_
    intro χ w hok hS
    obtain⟨⟨b7,hb⟩,⟨b7',hb1,hb2⟩,_⟩:=hok _ (.head _)
    rw[hb] at hb1
    obtain⟨⟩:=hb1
    have hS:St w0 bs w (((χ 9).2++[])++(⟨b,bW (some ⟨bt,0,none⟩) L.length (aT L),198,true⟩::(Et++(⟨bu,#[.int .i64 0,.int .u32 0],176,true⟩::⟨bd,#[.pointer (some ⟨b,0,none⟩)],110,true⟩::⟨bv,#[.int .i64 vs,.int .u32 vg],176,true⟩::⟨bi,#[.int .i64 i],3,true⟩::(Z++Y))))):=hS
    rw[hb2] at hS
    simp only[hb]
    simp only[List.cons_append,List.nil_append,List.append_nil] at hS
    clear hok hb2 hb
    go_wp2_with (first|go_at_call 184;refine eB (L:=L) (j:=k) (show St w0 bs w ((⟨b,bW (some ⟨bt,0,none⟩) L.length (aT L),198,true⟩::Et)++(⟨b7,#[.int .i64 r0.1,.int .u32 r0.2],176,true⟩::⟨bu,#[.int .i64 0,.int .u32 0],176,true⟩::⟨bd,#[.pointer (some ⟨b,0,none⟩)],110,true⟩::⟨bv,#[.int .i64 vs,.int .u32 vg],176,true⟩::⟨bi,#[.int .i64 i],3,true⟩::(Z++Y))) from by simp only[List.cons_append];exact hS.p) hW hTt hk hckk hk1'.out ?_;clear hS;intro w hS;simp only[List.cons_append] at hS;unfold ab|refine wV (.binOp .neq _ _ _ _) rfl (bK rfl) ?_|refine aL rfl ?_|(first|refine af rfl hS ?_|refine au rfl hS ?_))
    have hO4:=dB (n:=0) (n':=o'.1) (h:=false) (h':=o'.2.2) (F:=zero4) rfl ho'W.len
    have hZ4:=cV (n:=o'.1) (h:=o'.2.2) ho'W.len
    have hA4:=dr (n:=o'.1) (h:=o'.2.2) ho'W.len
    refine ao [⟨(undef,[]),[(10,fun _ x=>∃ b7,x=(.pointer (some ⟨b7,0,none⟩),[⟨b7,aN 0 zero4 false,195,true⟩])),(12,fun y x=>∃ b7,y.1=.pointer (some ⟨b7,0,none⟩)∧x.2=[⟨b7,gr o',195,true⟩])]⟩,
      ⟨(undef,[]),[(11,fun _ x=>∃ b7,x=(.pointer (some ⟨b7,0,none⟩),[⟨b7,#[.int .i64 0,.int .u32 0],176,true⟩])),(13,fun y x=>∃ b7,y.1=.pointer (some ⟨b7,0,none⟩)∧x.2=[⟨b7,#[.int .i64 r0.1,.int .u32 r0.2],176,true⟩])]⟩] (⟨b,bW (some ⟨bt,0,none⟩) L.length (aT L),198,true⟩::(Et++(⟨b7,#[.int .i64 r0.1,.int .u32 r0.2],176,true⟩::⟨bu,#[.int .i64 0,.int .u32 0],176,true⟩::⟨bd,#[.pointer (some ⟨b,0,none⟩)],110,true⟩::⟨bv,#[.int .i64 vs,.int .u32 vg],176,true⟩::⟨bi,#[.int .i64 i],3,true⟩::(Z++Y)))) (⟨b,bW (some ⟨bt,0,none⟩) L.length (aT L),198,true⟩::(Et++(⟨b7,#[.int .i64 r0.1,.int .u32 r0.2],176,true⟩::⟨bu,#[.int .i64 0,.int .u32 0],176,true⟩::⟨bd,#[.pointer (some ⟨b,0,none⟩)],110,true⟩::⟨bv,#[.int .i64 vs,.int .u32 vg],176,true⟩::⟨bi,#[.int .i64 i],3,true⟩::(Z++Y)))) (by simp) hS.p (by kernel_rfl) (by kernel_rfl) ?_
    (refine fV (fun χ w hw=>ad rfl) ?_)
    (refine fV (fun χ w hw=>ah rfl) ?_)
    (refine fV (fun χ w hw=>ai _ _ rfl hw) ?_)
    (refine fV (fun χ w hw=>ac _ _ rfl hw) ?_)
    (refine fV (fun χ w hw=>ai _ _ rfl hw) ?_)
    refine cQ 189 [_,_,_] rfl (fun _=>rfl) rfl ae (.tuple #[.agg (gr o'),.agg #[.int .i64 r0.1,.int .u32 r0.2],.int .i64 0]) (fun X w hS=>o8 hS hoW i vs vg hw hvg o' r0 0 ho'e.out hr'.out hg'.out (fun w' hS'=>⟨rfl,hS'⟩)) ?_
    (refine fV (fun χ w hw=>ad rfl) ?_)
    (refine fV (fun χ w hw=>aB rfl) ?_)
    (refine fV (fun χ w hw=>aB rfl) ?_)
    (refine fV (fun χ w hw=>aB rfl) ?_)
    refine ap 0 0 rfl rfl (by(rfl)) (by(rfl)) (by(kernel_rfl)) (fun _=>rfl) (fun x=>x.1) ?_ ?_
    ·intro χ X w _ hS
     exact bE rfl (show St w0 bs w (X++_) from hS) (fun b' w' _ hS'=>⟨(_,[_]),rfl,⟨b',rfl⟩,hS'⟩)
    refine ap 1 0 rfl rfl (by(rfl)) (by(rfl)) (by(kernel_rfl)) (fun _=>rfl) (fun x=>x.1) ?_ ?_
    ·intro χ X w _ hS
     exact bE rfl (show St w0 bs w (X++_) from hS) (fun b' w' _ hS'=>⟨(_,[_]),rfl,⟨b',rfl⟩,hS'⟩)
    refine ap 0 1 rfl rfl (by(rfl)) (by(kernel_rfl)) (by(rfl)) (fun _=>rfl) (fun _=>undef) ?_ ?_
    ·rintro χ X w ⟨⟨b7,hb⟩,_⟩ hS
     have hS:St w0 bs w ((χ 10).2++(X++_)):=hS
     rw[hb] at hS
     have hS:St w0 bs w (⟨b7,aN 0 zero4 false,195,true⟩::(X++_)):=hS
     have hb1:(χ 10).1=.pointer (some ⟨b7,0,none⟩):=by rw[hb]
     exact aZ rfl hS hb1 (fun w' hS'=>⟨(undef,[⟨b7,gr o',195,true⟩]),rfl,⟨b7,hb1,rfl⟩,hS'⟩)
    refine ap 1 1 rfl rfl (by(rfl)) (by(kernel_rfl)) (by(rfl)) (fun _=>rfl) (fun _=>undef) ?_ ?_
    ·rintro χ X w ⟨⟨b7,hb⟩,_⟩ hS
     have hS:St w0 bs w ((χ 11).2++(X++_)):=hS
     rw[hb] at hS
     have hS:St w0 bs w (⟨b7,#[.int .i64 0,.int .u32 0],176,true⟩::(X++_)):=hS
     have hb1:(χ 11).1=.pointer (some ⟨b7,0,none⟩):=by rw[hb]
     exact aZ rfl hS hb1 (fun w' hS'=>⟨(undef,[⟨b7,#[.int .i64 r0.1,.int .u32 r0.2],176,true⟩]),rfl,⟨b7,hb1,rfl⟩,hS'⟩)
    (refine fV (fun χ w hw=>aG rfl) ?_)
    refine bC rfl ?_
    intro χ w hok hS
    obtain⟨⟨b10,hb⟩,⟨b10',hb1,hb2⟩,_⟩:=hok _ (.head _)
    rw[hb] at hb1
    obtain⟨⟩:=hb1
    obtain⟨⟨b11,hc⟩,⟨b11',hc1,hc2⟩,_⟩:=hok _ (.tail _ (.head _))
    rw[hc] at hc1
    obtain⟨⟩:=hc1
    have hS:St w0 bs w (((χ 12).2++((χ 13).2++[]))++(⟨b,bW (some ⟨bt,0,none⟩) L.length (aT L),198,true⟩::(Et++(⟨b7,#[.int .i64 r0.1,.int .u32 r0.2],176,true⟩::⟨bu,#[.int .i64 0,.int .u32 0],176,true⟩::⟨bd,#[.pointer (some ⟨b,0,none⟩)],110,true⟩::⟨bv,#[.int .i64 vs,.int .u32 vg],176,true⟩::⟨bi,#[.int .i64 i],3,true⟩::(Z++Y))))):=hS
    rw[hb2,hc2] at hS
    simp only[hb,hc]
    simp only[List.cons_append,List.nil_append,List.append_nil] at hS
    clear hok hb2 hb hc2 hc
    go_wp2_with (go_skip)
    refine ao [⟨(undef,[⟨b,bW (some ⟨bt,0,none⟩) L.length (aT L),198,true⟩]),[(4,fun _ y=>y.2=[⟨b,bW (some ⟨bt,0,none⟩) L.length (aT (oq L j g o')),198,true⟩])]⟩,⟨(undef,[⟨bu,#[.int .i64 0,.int .u32 0],176,true⟩]),[(5,fun _ y=>y.2=[⟨bu,#[.int .i64 r0.1,.int .u32 r0.2],176,true⟩])]⟩]
     (⟨b10,gr o',195,true⟩::⟨b11,#[.int .i64 r0.1,.int .u32 r0.2],176,true⟩::(Et++(⟨b7,#[.int .i64 r0.1,.int .u32 r0.2],176,true⟩::⟨bd,#[.pointer (some ⟨b,0,none⟩)],110,true⟩::⟨bv,#[.int .i64 vs,.int .u32 vg],176,true⟩::⟨bi,#[.int .i64 i],3,true⟩::(Z++Y))))
     (⟨b,bW (some ⟨bt,0,none⟩) L.length (aT L),198,true⟩::⟨bu,#[.int .i64 0,.int .u32 0],176,true⟩::⟨b10,gr o',195,true⟩::⟨b11,#[.int .i64 r0.1,.int .u32 r0.2],176,true⟩::(Et++(⟨b7,#[.int .i64 r0.1,.int .u32 r0.2],176,true⟩::⟨bd,#[.pointer (some ⟨b,0,none⟩)],110,true⟩::⟨bv,#[.int .i64 vs,.int .u32 vg],176,true⟩::⟨bi,#[.int .i64 i],3,true⟩::(Z++Y)))) (by simp) hS.p (by kernel_rfl) (by kernel_rfl) ?_
    (refine fV (fun χ w hw=>ad rfl) ?_)
    (refine fV (fun χ w hw=>ai _ _ rfl hw) ?_)
    (refine fV (fun χ w hw=>ai _ _ rfl hw) ?_)
    (refine fV (fun χ w hw=>ah rfl) ?_)
    refine ap 0 0 rfl rfl (by(rfl)) (by(rfl)) (by(rfl)) (fun _=>rfl) (fun _=>undef) ?_ ?_
    ·intro χ X w _ hS
     exact aK _ _ _ rfl (show St w0 bs w (⟨b,bW (some ⟨bt,0,none⟩) L.length (aT L),198,true⟩::(X++_)) from hS) (fun w' hS'=>⟨(undef,[⟨b,bW (some ⟨bt,0,none⟩) L.length (aT (oq L j g o')),198,true⟩]),rfl,rfl,hS'⟩)
    refine ap 1 0 rfl rfl (by(rfl)) (by(rfl)) (by(rfl)) (fun _=>rfl) (fun _=>undef) ?_ ?_
    ·intro χ X w _ hS
     exact aK _ _ _ rfl (show St w0 bs w (⟨bu,#[.int .i64 0,.int .u32 0],176,true⟩::(X++_)) from hS) (fun w' hS'=>⟨(undef,[⟨bu,#[.int .i64 r0.1,.int .u32 r0.2],176,true⟩]),rfl,rfl,hS'⟩)
    refine bC rfl ?_
    intro χ w hok hS
    obtain⟨h1,_⟩:=hok _ (.head _)
    obtain⟨h2,_⟩:=hok _ (.tail _ (.head _))
    have hS:St w0 bs w (((χ 4).2++((χ 5).2++[]))++(⟨b10,gr o',195,true⟩::⟨b11,#[.int .i64 r0.1,.int .u32 r0.2],176,true⟩::(Et++(⟨b7,#[.int .i64 r0.1,.int .u32 r0.2],176,true⟩::⟨bd,#[.pointer (some ⟨b,0,none⟩)],110,true⟩::⟨bv,#[.int .i64 vs,.int .u32 vg],176,true⟩::⟨bi,#[.int .i64 i],3,true⟩::(Z++Y))))):=hS
    rw[h1,h2] at hS
    simp only[List.cons_append,List.nil_append,List.append_nil] at hS
    clear hok h1 h2
    go_wp2_with (go_skip)
    refine bodyPost_ret (cH rfl) rfl ?_
    refine⟨_,rfl,hΦ (⟨b,bW (some ⟨bt,0,none⟩) L.length (aT (oq L j g o')),198,true⟩::Et) ⟨hWN'.out.1,b,bt,Et,rfl,by rw[hWN'.out.2.1];exact hTt,by rw[hWN'.out.2.2.2]⟩,?_⟩
    simp only[bX]
    exact hS.p
theorem vd {p:Option Addr}{T:Hp}(hO:St w0 bs w H)(hT:HA p T E)[hc:Cut H E H1](s g i vs vg:Int)(hvg:0≤vg∧vg≤4294967295){T': Hp}(r:Int×Int)(e:Int)(hT' : oI T s g i (vs,vg)=T')(hr:oo T s g i (vs,vg)=r)(he:mm T s g i (vs,vg)=e)
  (hR:∀ E' w',HA p T' E'->St w0 bs w' (E'++H1)->ab R (.tuple #[.agg #[.int .i64 r.1,.int .u32 r.2],.int .i64 e]) w'):Calls prog 126 #[.pointer p,.agg #[.int .i64 s,.int .u32 g],.int .i64 i,.agg #[.int .i64 vs,.int .u32 vg]] w R:=by
 have hS:=hO.fr E H1
 clear hO
 obtain⟨e0,he0⟩:∃ e,eJ T s g=e:=⟨_,rfl⟩
 by_cases h0:e0=0
 case neg=>
  have hE1:mm T s g i (vs,vg)=e0:=by unfold mm;rw[he0,if_neg h0]
  have hE2:oo T s g i (vs,vg)=(0,0):=by unfold oo;rw[hE1,if_neg h0]
  have hE3:oI T s g i (vs,vg)=T:=by unfold oI;rw[hE1,if_neg h0]
  rw[hE1] at he
  rw[hE2] at hr
  rw[hE3] at hT'
  subst he hr hT'
  have he':=HD he0
  clear he0 hE1 hE2 hE3
  go_enter func126,ntmps126
  go_wp2_with (first|refine am 110 rfl hS ?_;clear hS;intro bd w _ hS|refine am 3 rfl hS ?_;clear hS;intro bi w _ hS|refine am 176 rfl hS ?_;clear hS;intro bv w _ hS|go_at_call 184;refine iq hS hT s g e0 he'.out h0 ?_;clear hS;intro w _ hS;unfold ab|(first|refine af rfl hS ?_|refine au rfl hS ?_)|refine ak rfl hS ?_;clear hS;intro w hS|refine aq _ rfl hS ?_;clear hS;intro bN w hbN hS)
  refine bodyPost_ret (aJ rfl hS) rfl ?_
  exact hR _ _ hT hS.p
 case pos=>
 subst h0
 obtain⟨L,j,rfl,rfl,hj,hck,_,_,_⟩:=dY he0
 obtain⟨hW,b,bt,Et,rfl,hTt,rfl⟩:=id hT
 have hdo:=fun bi bv bd bu (Z Y:List Ent) (Φ:List Ent->Prop) hΦ (w' : World) hS=>zN (w0:=w0) (bs:=bs) (b:=b) (bt:=bt) hW hTt hj hck hvg T' r e hT' hr he bi bv bd bu Z Y Φ hΦ w' hS
 have hdo':=HD hdo
 clear he0 hT' hr he hdo
 simp only[List.cons_append] at hS
 go_enter func126,ntmps126
 go_wp2_with (first|refine am 110 rfl hS ?_;clear hS;intro bd w _ hS|refine am 3 rfl hS ?_;clear hS;intro bi w _ hS|refine am (o:=⟨some 5,_,_,_,_,_⟩) _ rfl hS ?_;clear hS;intro bo w _ hS|refine am 176 rfl hS ?_;clear hS;intro bv w _ hS|refine aq (o:=⟨some 8,_,_,_,_,_⟩) _ rfl hS ?_;clear hS;intro b8 w _ hS|refine aq 176 rfl hS ?_;clear hS;intro bu w _ hS|(go_at_call 184;refine kO (H1:=⟨bu,#[.int .i64 0,.int .u32 0],176,true⟩::⟨bd,#[.pointer (some ⟨b,0,none⟩)],110,true⟩::⟨bv,#[.int .i64 vs,.int .u32 vg],176,true⟩::⟨bi,#[.int .i64 i],3,true⟩::⟨b8,#[.int .i64 0,.int .u32 0],176,true⟩::⟨bo,#[.int .i64 j,.int .u32 g],176,true⟩::H1) (show St w0 bs w ((⟨b,bW (some ⟨bt,0,none⟩) L.length (aT L),198,true⟩::Et)++(⟨bu,#[.int .i64 0,.int .u32 0],176,true⟩::⟨bd,#[.pointer (some ⟨b,0,none⟩)],110,true⟩::⟨bv,#[.int .i64 vs,.int .u32 vg],176,true⟩::⟨bi,#[.int .i64 i],3,true⟩::⟨b8,#[.int .i64 0,.int .u32 0],176,true⟩::⟨bo,#[.int .i64 j,.int .u32 g],176,true⟩::H1)) from by simp only[List.cons_append];exact hS.p) hW hTt hj hck 187 [.pointer (some ⟨bi,0,none⟩),.pointer (some ⟨bv,0,none⟩),.pointer (some ⟨bd,0,none⟩),.pointer (some ⟨bu,0,none⟩)] e (fun x=>∃ E',HA (some ⟨b,0,none⟩) T' E'∧x=E'++(⟨bu,#[.int .i64 r.1,.int .u32 r.2],176,true⟩::⟨bd,#[.pointer (some ⟨b,0,none⟩)],110,true⟩::⟨bv,#[.int .i64 vs,.int .u32 vg],176,true⟩::⟨bi,#[.int .i64 i],3,true⟩::⟨b8,#[.int .i64 0,.int .u32 0],176,true⟩::⟨bo,#[.int .i64 j,.int .u32 g],176,true⟩::H1)) ae (fun Y w' hS=>hdo'.out bi bv bd bu _ Y _ (fun E' h=>⟨E',h,rfl⟩) w' hS) ?_;clear hS;rintro x w ⟨E2,hT2,rfl⟩ hS;unfold ab)|(first|refine af rfl hS ?_|refine au rfl hS ?_)|refine ak rfl hS ?_;clear hS;intro w hS)
 refine bodyPost_ret (aJ rfl hS) rfl ?_
 exact hR _ _ hT2 hS.p
end Go.Proofs.YtnbgljbhkeffkaaGreatDoor
