/-
  Contracts of what the law TopPasses reaches, part 15: Scn Phs.
-/
import Derived.Test.YtnbgljbhkeffkaaGreatDoorQ11
import Derived.Test.YtnbgljbhkeffkaaGreatDoorQ12
import Derived.Test.YtnbgljbhkeffkaaGreatDoorQ10
import Derived.Test.YtnbgljbhkeffkaaGreatDoorQ07
open Go.Proofs.Tryz
set_option linter.unusedVariables false
set_option linter.unusedSimpArgs false
set_option maxHeartbeats 4000000
set_option maxRecDepth 100000
namespace Go.Proofs.YtnbgljbhkeffkaaGreatDoor
open Go.RowKit Go.Mm
variable {R:Ending->World->Prop}{w:World}{w0:World}{bs:List Nat}{H H' H1 H2 E E1 E2:List Ent}
def EQ:Cq->Bool
 | some (some _)=>true
 | _=>false
theorem vu (T:Cq):(Le T).isNone=!EQ T:=by rcases T with _|_|_ <;> rfl
theorem vt (T:Sq):(Ld T).isNone=!i7 T:=by rcases T with _|_|_ <;> rfl
def oC (T:Cq)(S:Sq):Bool:=EQ T && i7 S
theorem cZ {p q:Option Addr}{T:Cq}{S:Sq}(hO:St w0 bs w H)(hT:KA p T E1)(hU:SA q S E2)[hc:Cut H E1 H1][hd:Cut H1 E2 H2]{v:Bool}(hv:oC T S=v)
  (hR:∀ w',St w0 bs w' (E1++(E2++H2))->ab R (.bool v) w'):Calls prog 272 #[.pointer p,.pointer q] w R:=by
 have hS:=(hO.fr E1 H1)
 have hS:St w0 bs w (E1++(E2++H2)):=hS.p
 clear hO
 subst hv
 have n1:=vu T
 have n2:=vt S
 unfold oC at hR
 cases h1:EQ T with
 | false=>
  rw[h1] at n1 hR
  clear h1
  go_enter func272,ntmps272
  go_wp2_with (go_at_call 343;refine lI hS hT rfl ?_;clear hS;intro p3 E5 w hT3 hS;have hn3:=hT3.nil;rw[n1] at hn3;simp only[Bool.not_false] at hn3;unfold ab)
  exact hR _ hS.p
 | true=>
  rw[h1] at n1 hR
  cases h2:i7 S with
  | false=>
   rw[h2] at n2 hR
   clear h1 h2
   go_enter func272,ntmps272
   go_wp2_with (first|(go_at_call 343;refine lI hS hT rfl ?_;clear hS;intro p3 E5 w hT3 hS;have hn3:=hT3.nil;rw[n1] at hn3;simp only[Bool.not_true] at hn3;unfold ab)|(go_at_call 344;refine pY hS hU rfl ?_;clear hS;intro p4 E6 w hT4 hS;have hn4:=hT4.nil;rw[n2] at hn4;simp only[Bool.not_false] at hn4;unfold ab))
   exact hR _ hS.p
  | true=>
   rw[h2] at n2 hR
   clear h1 h2
   go_enter func272,ntmps272
   go_wp2_with (first|(go_at_call 343;refine lI hS hT rfl ?_;clear hS;intro p3 E5 w hT3 hS;have hn3:=hT3.nil;rw[n1] at hn3;simp only[Bool.not_true] at hn3;unfold ab)|(go_at_call 344;refine pY hS hU rfl ?_;clear hS;intro p4 E6 w hT4 hS;have hn4:=hT4.nil;rw[n2] at hn4;simp only[Bool.not_true] at hn4;unfold ab))
   exact hR _ hS.p
theorem z3 {T:Cq}{s:Int}(h:vS T s=true):o6 T s=0:=by
 rcases T with _|_|⟨n,L⟩
 ·cases h
 ·cases h
 ·simp only[vS] at h
  simp only[o6]
  split at h
  ·rw[if_pos (by assumption)]
  ·cases h
theorem zZ {T:Cq}{s:Int}(h:vS T s=false):z0 T s=T:=by
 rcases T with _|_|⟨n,L⟩
 ·rfl
 ·rfl
 ·simp only[vS] at h
  simp only[z0]
  split
  ·rename_i hs
   rw[if_pos hs] at h
   have:=of_decide_eq_false h
   rw[Col.shadeL,if_neg this]
  ·rfl
def CE (T:Cq)(S:Sq)(s:Int):Bool:=oC T S && vS T s
def CM (T:Cq)(S:Sq)(s:Int):Int:=if oC T S then (if vS T s then Al S s else o6 T s) else 1
def wD (T:Cq)(S:Sq)(s:Int):Cq:=if oC T S then z0 T s else T
def yU (T:Cq)(S:Sq)(s:Int):Sq:=if oC T S && vS T s then uc S s else S
theorem gO {p q:Option Addr}{T:Cq}{S:Sq}(hO:St w0 bs w H)(hT:KA p T E1)(hU:SA q S E2)[hc:Cut H E1 H1][hd:Cut H1 E2 H2](s:Int){T': Cq}{S': Sq}{v:Bool}{e:Int}(hT' : wD T S s=T')(hS' : yU T S s=S')(hv:CE T S s=v)(he:CM T S s=e)
  (hR:∀ E1 E2 w',KA p T' E1->SA q S' E2->St w0 bs w' (E1++(E2++H2))->ab R (.tuple #[.bool v,.int .i64 e]) w'):Calls prog 192 #[.pointer p,.pointer q,.int .i64 s] w R:=by
 have hS:=(hO.fr E1 H1)
 have hS:St w0 bs w (E1++(E2++H2)):=hS.p
 clear hO
 subst hT' hS' hv he
 unfold wD yU CE CM at hR
 cases hvl:oC T S with
 | false=>
  simp only[hvl,Bool.false_and,Bool.false_eq_true,if_false] at hR
  go_enter func192,ntmps192
  go_wp2_with (go_at_call 272;refine cZ hS hT hU hvl ?_;clear hS;intro w hS;unfold ab)
  exact hR _ _ _ hT hU hS.p
 | true=>
  cases hsb:vS T s with
  | false=>
   have hno:=zZ hsb
   simp only[hvl,hsb,hno,Bool.and_false,Bool.false_eq_true,if_false,if_true] at hR
   obtain⟨e,he⟩:∃ e,o6 T s=e:=⟨_,rfl⟩
   rw[he] at hR
   by_cases h0:e=0
   ·subst h0
    go_enter func192,ntmps192
    go_wp2_with (first|go_at_call 272;refine cZ hS hT hU hvl ?_;clear hS;intro w hS;unfold ab|go_at_call 273;refine jM hS hT s hno hsb he ?_;clear hS hT;intro E1 w hT hS;unfold ab)
    exact hR _ _ _ hT hU hS.p
   ·have d:decide (e=0)=false:=decide_eq_false h0
    go_enter func192,ntmps192
    go_wp2_with (first|go_at_call 272;refine cZ hS hT hU hvl ?_;clear hS;intro w hS;unfold ab|go_at_call 273;refine jM hS hT s hno hsb he ?_;clear hS hT;intro E1 w hT hS;unfold ab)
    exact hR _ _ _ hT hU hS.p
  | true=>
   have he:=z3 hsb
   simp only[hvl,hsb,Bool.and_true,if_true] at hR
   go_enter func192,ntmps192
   go_wp2_with (first|go_at_call 272;refine cZ hS hT hU hvl ?_;clear hS;intro w hS;unfold ab|go_at_call 273;refine jM hS hT s rfl hsb he ?_;clear hS hT;intro E1 w hT hS;unfold ab|go_at_call 274;refine wx hS hU s rfl rfl rfl ?_;clear hS hU;intro E2 w hU hS;unfold ab)
   exact hR _ _ _ hT hU hS.p
theorem jH {P:Program}{fn:Func}{p q r:Tmp}(h:fn.results=#[.tmp p,.tmp q,.tmp r]){tmps:List Value}{x y z:Value}[hp:Nth tmps p x][hq:Nth tmps q y][hr:Nth tmps r z]{w:World} :
  (results fn tmps.toArray).run P w=.ok (.tuple #[x,y,z]) w:=by
 have h1:tmps[p]?.getD undef=x:=by simp[hp.h]
 have h2:tmps[q]?.getD undef=y:=by simp[hq.h]
 have h3:tmps[r]?.getD undef=z:=by simp[hr.h]
 simp[results,h,h1,h2,h3]
def IJ (T:Cq)(S:Sq)(f:Int):Bool:=oC T S && (Dx T f && xn S (Bc T f))
def Pz (T:Cq)(S:Sq)(f:Int):Int:=if IJ T S f then Bc T f else 0
def PB (T:Cq)(S:Sq)(f:Int):Int:=if oC T S then (if Dx T f then (if xn S (Bc T f) then Al S (Bc T f) else 4) else 0) else 1
def Px (T:Cq)(S:Sq)(f:Int):Sq:=if IJ T S f then uc S (Bc T f) else S
def PU (T:Cq)(S:Sq):Bool:=oC T S && !Dx T 0
def PT (T:Cq)(S:Sq):Int:=if oC T S then 0 else 1
open Go Go.RowKit Go.Mm
variable {R:Ending->World->Prop}{w:World}{w0:World}{bs:List Nat}{H H' H1 E:List Ent}
abbrev Ck:=Nat×Nat×Int×List Bool
def Fs (b:Bool):List Value:=[.bool b]
theorem rd (b:Bool):(Fs b).length=1:=rfl
def mg (m:Nat):List Bool:=(List.range 4).map fun i=>decide (i<m)
def kH (ph m:Nat)(cy:Int)(l:List Bool):Array Value:=cX [.int .i64 ph,.int .i64 m,.int .i64 cy] Fs l ((mg m).map Value.bool)
section
variable {ph m:Nat}{cy:Int}{l:List Bool}
instance PZ:CellAt (kH ph m cy l) 0 (.int .i64 ph):=cz rfl
instance PY:CellAt (kH ph m cy l) 1 (.int .i64 m):=cz rfl
instance Lq:CellAt (kH ph m cy l) 2 (.int .i64 cy):=cz rfl
end
def CA (p:Option Addr)(T:Ck)(E:List Ent):Prop:=∃ b,p=some ⟨b,0,none⟩∧T.1<6∧1≤T.2.1∧T.2.1≤4∧T.2.2.2.length=4∧E=[⟨b,kH T.1 T.2.1 T.2.2.1 T.2.2.2,289,true⟩]
theorem da {b ph m:Nat}{cy:Int}{l:List Bool}(hO:St w0 bs w H)[hH:Has H b (kH ph m cy l) 289](hm:1≤m)(hR:∀ w',St w0 bs w' H->ab R (.bool true) w'):Calls prog 181 #[.pointer (some ⟨b,0,none⟩)] w R:=by
 have hS:=hO
 clear hO
 have d:decide (0<(m:Int))=true:=DT
 have d2:decide (0<m)=true:=DT
 go_enter func181,ntmps181
 go_wp2_with (refine af rfl hS ?_)
 exact hR _ hS
theorem db {p:Option Addr}{T:Ck}(hO:St w0 bs w H)(hT:CA p T E)[hc:Cut H E H1](hR:∀ w',CA p T E->St w0 bs w' (E++H1)->ab R (.int .i64 T.1) w'):Calls prog 119 #[.pointer p] w R:=by
 have hS:=hO.fr E H1
 clear hO
 obtain⟨ph,m,cy,l⟩:=T
 obtain⟨b,rfl,h6,hm1,hm4,hl4,rfl⟩:=id hT
 simp only at h6 hm1 hm4 hl4
 simp only[cq] at hS
 go_enter func119,ntmps119
 go_wp2_with (first|go_at_call 181;refine da hS hm1 ?_;clear hS;intro w hS;unfold ab|refine af rfl hS ?_)
 exact hR _ hT hS
theorem su {p:Option Addr}{T:Ck}(hO:St w0 bs w H)(hT:CA p T E)[hc:Cut H E H1](hR:∀ w',CA p T E->St w0 bs w' (E++H1)->ab R (.int .i64 T.2.2.1) w'):Calls prog 350 #[.pointer p] w R:=by
 have hS:=hO.fr E H1
 clear hO
 obtain⟨ph,m,cy,l⟩:=T
 obtain⟨b,rfl,h6,hm1,hm4,hl4,rfl⟩:=id hT
 simp only at h6 hm1 hm4 hl4
 simp only[cq] at hS
 go_enter func350,ntmps350
 go_wp2_with (first|go_at_call 181;refine da hS hm1 ?_;clear hS;intro w hS;unfold ab|refine af rfl hS ?_)
 exact hR _ hT hS
def yg (T:Ck)(i:Int):Int:=if 0≤i∧i<(T.2.1:Int) then 0 else 3
theorem jn {p:Option Addr}{T:Ck}(hO:St w0 bs w H)(hT:CA p T E)[hc:Cut H E H1](i e:Int)(he:yg T i=e)(hR:∀ w',CA p T E->St w0 bs w' (E++H1)->ab R (.int .i64 e) w'):Calls prog 270 #[.pointer p,.int .i64 i] w R:=by
 have hS:=hO.fr E H1
 clear hO
 obtain⟨ph,m,cy,l⟩:=T
 obtain⟨b,rfl,h6,hm1,hm4,hl4,rfl⟩:=id hT
 simp only at h6 hm1 hm4 hl4
 simp only[cq] at hS
 subst he
 unfold yg at hR
 simp only at hR
 by_cases h1:i<0
 ·have d:decide (i<0)=true:=decide_eq_true h1
  rw[if_neg (by omega)] at hR
  go_enter func270,ntmps270
  go_wp2_with (go_at_call 181;refine da hS hm1 ?_;clear hS;intro w hS;unfold ab)
  exact hR _ hT hS
 ·have d:decide (i<0)=false:=decide_eq_false h1
  by_cases h2:(m:Int)≤i
  ·have d2:decide ((m:Int)≤i)=true:=decide_eq_true h2
   rw[if_neg (by omega)] at hR
   go_enter func270,ntmps270
   go_wp2_with (first|go_at_call 181;refine da hS hm1 ?_;clear hS;intro w hS;unfold ab|refine af rfl hS ?_)
   exact hR _ hT hS
  ·have d2:decide ((m:Int)≤i)=false:=decide_eq_false h2
   rw[if_pos (by omega)] at hR
   go_enter func270,ntmps270
   go_wp2_with (first|go_at_call 181;refine da hS hm1 ?_;clear hS;intro w hS;unfold ab|refine af rfl hS ?_)
   exact hR _ hT hS
theorem ea {b ph m:Nat}{cy:Int}{l:List Bool}(hO:St w0 bs w H)[hH:Has H b (kH ph m cy l) 289](h6:ph<6){x:Bool}(hx:(decide (ph=1) || decide (ph=2))=x)(hR:∀ w',St w0 bs w' H->ab R (.bool x) w'):Calls prog 347 #[.pointer (some ⟨b,0,none⟩)] w R:=by
 have hS:=hO
 clear hO
 subst hx
 have h:ph=0∨ph=1∨ph=2∨ph=3∨ph=4∨ph=5:=by omega
 rcases h with rfl|rfl|rfl|rfl|rfl|rfl
 all_goals
  go_enter func347,ntmps347
  go_wp2_with (refine af rfl hS ?_)
  exact hR _ hS
theorem Lp {ph m:Nat}{cy:Int}{l:List Bool}{j:Nat}{x:Bool}(h:l[j]?=some x):CellAt (kH ph m cy l) (3+j * 1) (.bool x):=⟨by
 have:=(cK (pre:=[.int .i64 ph,.int .i64 m,.int .i64 cy]) (post:=(mg m).map Value.bool) rd h rfl).h 0 (by omega)
 simpa [kH,Fs] using this⟩
def oz (T:Ck)(i:Int):Bool:=if yg T i≠0 then false else if T.1=1 then T.2.2.2.getD i.toNat false else decide (T.1=2∨T.1=3)
theorem kq {p:Option Addr}{T:Ck}(hO:St w0 bs w H)(hT:CA p T E)[hc:Cut H E H1](i:Int)(x:Bool)(hx:oz T i=x)(hR:∀ w',CA p T E->St w0 bs w' (E++H1)->ab R (.bool x) w'):Calls prog 190 #[.pointer p,.int .i64 i] w R:=by
 subst hx
 obtain⟨e,he⟩:∃ e,yg T i=e:=⟨_,rfl⟩
 by_cases h0:e=0
 case neg=>
  have q:(e != 0)=true:=by simpa using h0
  have d:decide (e=0)=false:=decide_eq_false h0
  have hb:oz T i=false:=by unfold oz;rw[he,if_pos h0]
  rw[hb] at hR
  have hS:=hO.fr E H1
  clear hO hb
  go_enter func190,ntmps190
  go_wp2_with (go_at_call 270;refine jn hS hT i e he ?_;clear hS;intro w _ hS;unfold ab)
  exact hR _ hT hS
 subst h0
 have hb:oz T i=if T.1=1 then T.2.2.2.getD i.toNat false else decide (T.1=2∨T.1=3):=by unfold oz;rw[he,if_neg (by decide)]
 rw[hb] at hR
 have hin:0≤i∧i<(T.2.1:Int):=by
  unfold yg at he
  split at he
  ·assumption
  ·cases he
 have he':=HD he
 clear hb he
 have hS:=hO.fr E H1
 clear hO
 obtain⟨ph,m,cy,l⟩:=T
 obtain⟨b,rfl,h6,hm1,hm4,hl4,rfl⟩:=id hT
 simp only at h6 hm1 hm4 hl4
 simp only[cq] at hS
 simp only at hin hR
 obtain⟨j,rfl⟩:∃ j:Nat,i=j:=⟨i.toNat,by omega⟩
 have hj4:j<4:=by omega
 obtain⟨y,hy⟩:∃ y,l[j]?=some y:=⟨_,List.getElem?_eq_getElem (show j<l.length by omega)⟩
 have hcy:=Lp (ph:=ph) (m:=m) (cy:=cy) hy
 have hix:=PP (P:=prog) (t:=287) (m:=4) (z:=1) (b:=b) (off:=0+3) (i:=j) underlying287 hj4
 have hyd:l.getD (j:Int).toNat false=y:=by rw[Int.toNat_natCast,List.getD_eq_getElem?_getD,hy];rfl
 rw[hyd] at hR
 have h:ph=0∨ph=1∨ph=2∨ph=3∨ph=4∨ph=5:=by omega
 clear hyd hy hin
 rcases h with rfl|rfl|rfl|rfl|rfl|rfl
 all_goals
  go_enter func190,ntmps190
  go_wp2_with (first|go_at_call 270;refine jn hS hT j 0 he'.out ?_;clear hS;intro w _ hS;simp only[cq] at hS;unfold ab|refine aM rfl ?_|refine af rfl hS ?_)
  exact hR _ hT hS
instance Hc:AggT prog 287 4:=⟨by kernel_rfl,by kernel_rfl⟩
instance Lo:BuildT prog 287 [] #[.bool false,.bool false,.bool false,.bool false]:=⟨fun w=>by kernel_rfl⟩
def seen0:List Bool:=[false,false,false,false]
theorem ns {l:List Bool}(h:l.length=4):∃ a b c d,l=[a,b,c,d]:=by
 match l,h with
 | [a,b,c,d],_=>exact⟨a,b,c,d,rfl⟩
theorem vv {b ph m:Nat}{cy:Int}{l:List Bool}(hO:St w0 bs w (⟨b,kH ph m cy l,289,true⟩::H))(hl:l.length=4)(q:Nat)(hR:∀ w',St w0 bs w' (⟨b,kH q m cy seen0,289,true⟩::H)->ab R (.tuple #[]) w'):Calls prog 416 #[.pointer (some ⟨b,0,none⟩),.int .i64 q] w R:=by
 have hS:=hO
 clear hO
 have s1:SetAt (kH ph m cy l) 0 (.int .i64 q) (kH q m cy l):=dv (by simp) rfl
 have s2:SetsAt (kH q m cy l) (0+3) #[.bool false,.bool false,.bool false,.bool false] (kH q m cy seen0):=by
  obtain⟨x1,x2,x3,x4,rfl⟩:=ns hl
  exact⟨by rfl,by simp[kH,cX,Fs,mg]⟩
 go_enter func416,ntmps416
 go_wp2_with (first|refine aL rfl ?_|(first|refine bP rfl hS ?_|refine ak rfl hS ?_);clear hS;intro w hS)
 refine bodyPost_end (results_none rfl _ _ _) rfl ?_
 exact hR _ hS
def mM (p:Nat):Bool:=decide (p=1) || decide (p=2)
theorem vx {p:Option Addr}{T:Ck}(hO:St w0 bs w H)(hT:CA p T E)[hc:Cut H E H1](h0:T.1=0)(hR:∀ E' w',CA p (1,T.2.1,T.2.2.1,seen0) E'->St w0 bs w' (E'++H1)->ab R (.int .i64 0) w'):Calls prog 383 #[.pointer p] w R:=by
 have hS:=hO.fr E H1
 clear hO
 obtain⟨ph,m,cy,l⟩:=T
 obtain⟨b,rfl,h6,hm1,hm4,hl4,rfl⟩:=id hT
 simp only at h6 hm1 hm4 hl4
 simp only[cq] at hS
 simp only at h0 hR
 subst h0
 go_enter func383,ntmps383
 go_wp2_with (first|(first|go_at_call 181;refine da hS hm1 ?_|go_at_call 416;refine vv hS hl4 1 ?_);clear hS;intro w hS;unfold ab|refine af rfl hS ?_)
 exact hR _ _ ⟨b,rfl,by simp,hm1,hm4,rfl,rfl⟩ hS.p
theorem DO {ph m:Nat}{cy:Int}{l:List Bool}{j:Nat}{x:Bool}(h:l[j]?=some x)(y:Bool):SetAt (kH ph m cy l) (3+j * 1) (.bool y) (kH ph m cy (l.set j y)):=iO rd (j:=0) h (by decide) rfl (by simp)
def iW (T:Ck)(i:Nat):Ck:=if mM T.1 then (T.1,T.2.1,T.2.2.1,T.2.2.2.set i true) else T
def yN (T:Ck)(i:Nat):Bool:=mM T.1 && !(T.2.2.2.getD i false)
def zp (T:Ck):Int:=if mM T.1 then 0 else 8
theorem l4 {p:Option Addr}{T:Ck}(hO:St w0 bs w H)(hT:CA p T E)[hc:Cut H E H1](i:Nat)(hi:i<T.2.1){T': Ck}(v:Bool)(e:Int)(hT' : iW T i=T')(hv:yN T i=v)(he:zp T=e)
  (hR:∀ E' w',CA p T' E'->St w0 bs w' (E'++H1)->ab R (.tuple #[.bool v,.int .i64 e]) w'):Calls prog 276 #[.pointer p,.int .i64 i] w R:=by
 subst hT' hv he
 have hfi:yg T i=0:=by unfold yg;rw[if_pos (by omega)]
 have hfi':=HD hfi
 clear hfi
 have hS:=hO.fr E H1
 clear hO
 obtain⟨ph,m,cy,l⟩:=T
 obtain⟨b,rfl,h6,hm1,hm4,hl4,rfl⟩:=id hT
 simp only at h6 hm1 hm4 hl4
 simp only[cq] at hS
 simp only at hi
 obtain⟨x,hx⟩:∃ x,l[i]?=some x:=⟨_,List.getElem?_eq_getElem (show i<l.length by omega)⟩
 have hcy:=Lp (ph:=ph) (m:=m) (cy:=cy) hx
 have hse:=DO (ph:=ph) (m:=m) (cy:=cy) hx true
 have hix:=PP (P:=prog) (t:=287) (m:=4) (z:=1) (b:=b) (off:=0+3) (i:=i) underlying287 (by omega)
 have hxd:l.getD i false=x:=by rw[List.getD_eq_getElem?_getD,hx];rfl
 unfold iW yN zp at hR
 simp only[hxd] at hR
 have hsh':=HD (show(decide (ph=1) || decide (ph=2))=mM ph from rfl)
 have hls:(l.set i true).length=4:=by rw[List.length_set];exact hl4
 clear hxd hx
 cases hk:mM ph with
 | false=>
  rw[hk] at hR hsh'
  go_enter func276,ntmps276
  go_wp2_with (first|go_at_call 270;refine jn hS hT i 0 hfi'.out ?_;clear hS;intro w _ hS;simp only[cq] at hS;unfold ab|go_at_call 347;refine ea hS h6 hsh'.out ?_;clear hS;intro w hS;unfold ab)
  exact hR _ _ hT hS.p
 | true=>
  rw[hk] at hR hsh'
  simp only[Bool.true_and,if_true] at hR
  go_enter func276,ntmps276
  go_wp2_with (first|go_at_call 270;refine jn hS hT i 0 hfi'.out ?_;clear hS;intro w _ hS;simp only[cq] at hS;unfold ab|go_at_call 347;refine ea hS h6 hsh'.out ?_;clear hS;intro w hS;unfold ab|refine aM rfl ?_|refine af rfl hS ?_|refine bP rfl hS ?_;clear hS;intro w hS)
  exact hR _ _ ⟨b,rfl,h6,hm1,hm4,hls,rfl⟩ hS.p
def rH (T:Ck):Bool:=mM T.1 && decide (T.2.2.2=mg T.2.1)
theorem vJ (m:Nat):(mg m).length=4:=by simp [mg]
theorem BB {xs ys:List Bool}(hx:xs.length=4)(hy:ys.length=4){b:Bool}(hb:decide (xs=ys)=b):AggEq prog 287 (xs.map Value.bool).toArray (ys.map Value.bool).toArray b:=by
 have hs:ScalarT prog 4:=⟨by kernel_rfl,by kernel_rfl⟩
 have hc:(prog).cellsOf 4=1:=by kernel_rfl
 obtain⟨x1,x2,x3,x4,rfl⟩:=ns hx
 obtain⟨y1,y2,y3,y4,rfl⟩:=ns hy
 have hr:∀ w,(Op.equalIn 10000 287 (.agg ([x1,x2,x3,x4].map Value.bool).toArray) (.agg ([y1,y2,y3,y4].map Value.bool).toArray)).run prog w=.ok b w:=fun w=>by
  have hi:∃ i,(prog).info? 4=some i:=Option.isSome_iff_exists.1 (by kernel_rfl)
  obtain⟨ii,hi⟩:=hi
  rw[ld (len:=4) 9999 _ _ underlying287 hi (fun i=>Value.bool ([x1,x2,x3,x4].getD i false)) (fun i=>Value.bool ([y1,y2,y3,y4].getD i false)) (fun i=>[x1,x2,x3,x4].getD i false == [y1,y2,y3,y4].getD i false) ?_ ?_ ?_ w]
  ·have e:((List.range 4).all fun i=>[x1,x2,x3,x4].getD i false == [y1,y2,y3,y4].getD i false)=b:=by
    rw[← hb]
    simp only[List.range_succ,List.range_zero,List.nil_append,List.cons_append,List.all_cons,List.all_nil,List.getD_cons_zero,List.getD_cons_succ,Bool.and_true,List.cons.injEq,and_true]
    cases x1 <;> cases x2 <;> cases x3 <;> cases x4 <;> cases y1 <;> cases y2 <;> cases y3 <;> cases y4 <;> rfl
   rw[e]
  ·intro i hi w
   rw[hc,Nat.mul_one]
   have:i=0∨i=1∨i=2∨i=3:=by omega
   rcases this with rfl|rfl|rfl|rfl <;> exact cG hs rfl w
  ·intro i hi w
   rw[hc,Nat.mul_one]
   have:i=0∨i=1∨i=2∨i=3:=by omega
   rcases this with rfl|rfl|rfl|rfl <;> exact cG hs rfl w
  ·intro i hi w
   exact run_equalIn_bool' w 9998 _ _ _ (by kernel_rfl)
 exact⟨fun w=>by rw[run_eql_struct,hr];rfl,fun w=>by rw[run_neq_struct,hr];rfl,by kernel_rfl⟩
theorem DP {ph m:Nat}{cy:Int}{l:List Bool}(h:l.length=4):CellsAt (kH ph m cy l) (0+3) 4 (l.map Value.bool).toArray:=by
 obtain⟨a,b,c,d,rfl⟩:=ns h
 exact⟨fun j hj=>by
  have:j=0∨j=1∨j=2∨j=3:=by omega
  rcases this with rfl|rfl|rfl|rfl <;> rfl,rfl⟩
theorem DQ {ph m:Nat}{cy:Int}{l:List Bool}(h:l.length=4):CellsAt (kH ph m cy l) (0+7) 4 ((mg m).map Value.bool).toArray:=by
 obtain⟨a,b,c,d,rfl⟩:=ns h
 exact⟨fun j hj=>by
  have:j=0∨j=1∨j=2∨j=3:=by omega
  rcases this with rfl|rfl|rfl|rfl <;> rfl,rfl⟩
theorem fL {p:Option Addr}{T:Ck}(hO:St w0 bs w H)(hT:CA p T E)[hc:Cut H E H1](v:Bool)(hv:rH T=v)(hR:∀ w',CA p T E->St w0 bs w' (E++H1)->ab R (.bool v) w'):Calls prog 425 #[.pointer p] w R:=by
 subst hv
 have hS:=hO.fr E H1
 clear hO
 obtain⟨ph,m,cy,l⟩:=T
 obtain⟨b,rfl,h6,hm1,hm4,hl4,rfl⟩:=id hT
 simp only at h6 hm1 hm4 hl4
 simp only[cq] at hS
 unfold rH at hR
 simp only at hR
 have hsh':=HD (show(decide (ph=1) || decide (ph=2))=mM ph from rfl)
 have hq:=BB (b:=decide (l=mg m)) hl4 (vJ m) rfl
 have hca:=DP (ph:=ph) (m:=m) (cy:=cy) hl4
 have hcb:=DQ (ph:=ph) (m:=m) (cy:=cy) hl4
 cases hk:mM ph with
 | false=>
  rw[hk] at hR hsh'
  go_enter func425,ntmps425
  go_wp2_with (refine av hS (fun hne=>?_);(repeat (first|go_big_quiet_skip|(go_big_quiet_want;first|(refine cU 181 [_] rfl ae (.bool true) (fun w hw=>da (bk w hw) hm1 (fun w' h2=>⟨rfl,⟨w',h2.p⟩,rfl⟩)) ?_;go_big_quiet_on)|(refine cU 347 [_] rfl ae (.bool _) (fun w hw=>ea (bk w hw) h6 hsh'.out (fun w' h2=>⟨rfl,⟨w',h2.p⟩,rfl⟩)) ?_;go_big_quiet_on)|(go_big_quiet_op;go_big_quiet_on))));refine wpQuiet_nil ?_;clear hS hne;intro w hS)
  exact hR _ hT hS
 | true=>
  rw[hk] at hR hsh'
  go_enter func425,ntmps425
  go_wp2_with (refine av hS (fun hne=>?_);(repeat (go_big_quiet_want;first|(refine cU 181 [_] rfl ae (.bool true) (fun w hw=>da (bk w hw) hm1 (fun w' h2=>⟨rfl,⟨w',h2.p⟩,rfl⟩)) ?_;go_big_quiet_on)|(refine cU 347 [_] rfl ae (.bool _) (fun w hw=>ea (bk w hw) h6 hsh'.out (fun w' h2=>⟨rfl,⟨w',h2.p⟩,rfl⟩)) ?_;go_big_quiet_on)|((refine aE bk (fun w hS=>ai _ _ rfl hS) ?_);go_big_quiet_on)|(refine fA (.binOp .eql _ _ _ _) rfl ?_;refine aH (fun w _=>dh rfl) ?_;go_big_quiet_on)|(go_big_quiet_op;go_big_quiet_on)));refine wpQuiet_nil ?_;clear hS hne;intro w hS)
  exact hR _ hT hS
def jk (T:Ck):Ck:=((T.1+1) % 6,T.2.1,if T.1=5 then T.2.2.1+1 else T.2.2.1,seen0)
theorem nU {p:Option Addr}{T:Ck}(hO:St w0 bs w H)(hT:CA p T E)[hc:Cut H E H1](hg:rH T=true∨3≤T.1)(hcy:0≤T.2.2.1∧T.2.2.1<1000000)(T' : Ck)(hT' : jk T=T')
  (hR:∀ E' w',CA p T' E'->St w0 bs w' (E'++H1)->ab R (.int .i64 0) w'):Calls prog 394 #[.pointer p] w R:=by
 subst hT'
 have hrd:rH T=true∨mM T.1=false:=by
  rcases hg with h|h
  ·exact .inl h
  ·right;unfold mM;rw[DF,DF];rfl
 have hne:T.1≠0:=by
  rcases hg with h|h
  ·intro h0;rw[rH,h0] at h;cases h
  ·omega
 have hT0:=hT
 have hS:=hO.fr E H1
 clear hO
 obtain⟨ph,m,cy,l⟩:=T
 obtain⟨b,rfl,h6,hm1,hm4,hl4,rfl⟩:=id hT
 simp only at h6 hm1 hm4 hl4
 simp only[cq] at hS
 unfold jk at hR
 simp only at hR hcy hne hrd
 have hsh':=HD (show(decide (ph=1) || decide (ph=2))=mM ph from rfl)
 have hq:ph=1∨ph=2∨ph=3∨ph=4∨ph=5:=by omega
 have s1:SetAt (kH 5 m cy l) (0+2) (.int .i64 (cy+1)) (kH 5 m (cy+1) l):=dv (by simp) rfl
 clear hg hT0
 rcases hrd with hrd|hrd
 ·have hk:mM ph=true:=by unfold rH at hrd;simp only[Bool.and_eq_true] at hrd;exact hrd.1
  have hrd':=HD hrd
  rw[hk] at hsh'
  have hq2:ph=1∨ph=2:=by simpa [mM] using hk
  clear hrd hq
  rcases hq2 with rfl|rfl
  all_goals
   go_enter func394,ntmps394
   go_wp2_with (first|(first|go_at_call 181;refine da hS hm1 ?_|go_at_call 347;refine ea hS h6 hsh'.out ?_);clear hS;intro w hS;unfold ab|go_at_call 425;refine fL hS hT true hrd'.out ?_;clear hS;intro w _ hS;simp only[cq] at hS;unfold ab|go_at_call 416;refine vv hS hl4 _ ?_;clear hS;intro w hS;unfold ab|refine af rfl hS ?_)
   exact hR _ _ ⟨b,rfl,by simp,hm1,hm4,rfl,rfl⟩ hS
 ·rw[hrd] at hsh'
  have hq2:ph=3∨ph=4∨ph=5:=by
   have : ¬ (ph=1∨ph=2):=by intro h;rcases h with rfl|rfl <;> cases hrd
   omega
  clear hrd hq
  rcases hq2 with rfl|rfl|rfl
  all_goals
   go_enter func394,ntmps394
   go_wp2_with (first|(first|go_at_call 181;refine da hS hm1 ?_|go_at_call 347;refine ea hS h6 hsh'.out ?_|go_at_call 416;refine vv hS hl4 _ ?_);clear hS;intro w hS;unfold ab|refine af rfl hS ?_|refine bP rfl hS ?_;clear hS;intro w hS)
   exact hR _ _ ⟨b,rfl,by simp,hm1,hm4,rfl,rfl⟩ hS
def Ch (m:Nat)(k:Nat):Array Value:=#[.int .i64 0,.int .i64 m,.int .i64 0,.bool false,.bool false,.bool false,.bool false,.bool (decide (0<k)),.bool (decide (1<k)),.bool (decide (2<k)),.bool (decide (3<k))]
theorem yA (m:Nat):Ch m m=kH 0 m 0 seen0:=rfl
theorem yz {m k:Nat}(hk:k<4):SetAt (Ch m k) (0+7+k * 1) (.bool true) (Ch m (k+1)):=by
 have:k=0∨k=1∨k=2∨k=3:=by omega
 rcases this with rfl|rfl|rfl|rfl <;> exact⟨rfl,by simp[Ch]⟩
instance Ln {m:Int} : BuildT prog 289 [(0,.int .i64 0),(1,.int .i64 m)] #[.int .i64 0,.int .i64 m,.int .i64 0,.bool false,.bool false,.bool false,.bool false,.bool false,.bool false,.bool false,.bool false]:=⟨fun w=>by kernel_rfl⟩
def nj (m:Nat):Ck:=(0,m,0,seen0)
theorem BD (hO:St w0 bs w H)(m:Nat)(hm:1≤m∧m≤4)(hR:∀ p E w',CA p (nj m) E->St w0 bs w' (E++H)->ab R (.tuple #[.pointer p,.int .i64 0]) w'):Calls prog 92 #[.int .i64 m] w R:=by
 have hS:=hO
 clear hO
 obtain⟨h1,h4⟩:=hm
 have d1:decide ((m:Int)<1)=false:=DF
 have d2:decide (4<(m:Int))=false:=DF
 have d1' : decide (m<1)=false:=DF
 have d2' : decide (4<m)=false:=DF
 go_enter func92,ntmps92
 go_wp2_with (first|refine am 289 rfl hS ?_;clear hS;intro b w _ hS|refine aL rfl ?_)
 have hS0:St w0 bs _ (⟨b,Ch m 0,289,true⟩::H):=hS
 clear hS
 go_loopw [16] (fun u wr=>∃ i:Nat,i≤m∧u=.int .i64 i∧St w0 bs wr (⟨b,Ch m i,289,true⟩::H)) (fun u _=>m - (intOf u).toNat)
 case atStart=>exact⟨0,Nat.zero_le _,rfl,hS0⟩
 case round=>
  clear hS0
  obtain⟨i,hi,rfl,hS⟩:=hrel
  by_cases hlt:i<m
  ·have hix:=PP (P:=prog) (t:=287) (m:=4) (z:=1) (b:=b) (off:=0+7) (i:=i) underlying287 (by omega)
   have hse:=yz (m:=m) (k:=i) (by omega)
   have dk:decide ((i:Int)<(m:Int))=true:=DT
   have dk' : decide (i<m)=true:=decide_eq_true hlt
   go_wp2_with (first|refine aM rfl ?_|refine bP rfl hS ?_;clear hS;intro w hS)
   go_roundw
   case rel=>exact⟨i+1,by omega,by go_num,hS⟩
   case measure=>simp[intOf];omega
  ·obtain rfl:i=m:=by omega
   have dk:decide ((i:Int)<(i:Int))=false:=DF
   have dk' : decide (i<i)=false:=decide_eq_false hlt
   rw[yA] at hS
   go_wp2_with (go_skip)
   exact hR _ _ _ ⟨b,rfl,by simp[nj],h1,h4,rfl,rfl⟩ hS
end Go.Proofs.YtnbgljbhkeffkaaGreatDoor
