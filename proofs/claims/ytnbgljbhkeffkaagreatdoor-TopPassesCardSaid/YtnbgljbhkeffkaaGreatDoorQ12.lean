/-
  Contracts of what the law TopPasses reaches, part 12: Frf Pnt.
-/
import Derived.Test.YtnbgljbhkeffkaaGreatDoorQ04
import Derived.Test.YtnbgljbhkeffkaaGreatDoorQ06
import Derived.Test.YtnbgljbhkeffkaaGreatDoorQ03
open Go.Proofs.Tryz
set_option linter.unusedVariables false
set_option linter.unusedSimpArgs false
set_option maxHeartbeats 4000000
set_option maxRecDepth 100000
namespace Go.Proofs.YtnbgljbhkeffkaaGreatDoor
open Go.RowKit Go.Mm
attribute [local go_sem] Oper.semAt_some
variable {R:Ending->World->Prop}{w:World}{w0:World}{bs:List Nat}{H H' H1 E:List Ent}
def xa (F:List (Int×Int)):List (Int×Int):=(gl (ib F) 4).map (fun i=>F.getD i (0,0))
theorem qo (F:List (Int×Int)):(xa F).length≤4:=by
 rw[xa,List.length_map]
 exact e9 (ib F) 4
theorem RS.blocks {v:Value}{l l' : List (Int×Int)}{E E' : List Ent}(h:RS v l E)(h' : RS v l' E'):∀ e∈E,∃ e'∈E',e'.b=e.b:=by
 rcases h.or with ⟨rfl,_,rfl⟩|⟨g,cap,sp,rfl,rfl,_⟩
 ·intro e he;cases he
 ·rcases h'.or with ⟨hv,_,_⟩|⟨g',cap',sp',hv,rfl,_⟩
  ·cases hv
  ·obtain rfl:g=g':=by
    simp only[Value.slice.injEq,Option.some.injEq,Addr.mk.injEq] at hv
    exact hv.1.1
   intro e he
   obtain rfl:=List.mem_singleton.1 he
   exact⟨_,List.mem_singleton.2 rfl,rfl⟩
theorem DG {l:List Value}{x y:Value}{p q:Nat} : (#[p,q].zip #[x,y]).foldl (fun t ((p:Tmp),v)=>t.setIfInBounds p v) l.toArray=((l.set p x).set q y).toArray:=by simp
theorem yh {W:World}{n:Int}{F:List (Int×Int)}{h:Bool}(hF4:F.length=4)(hO:St w0 bs W H)
  (hR:∀ v E' w',RS v (xa F) E'->St w0 bs w' (E'++H)->ab R v w'):Calls prog 477 #[.agg (aN n F h)] W R:=by
 have hS:=hO
 clear hO
 have hobA:=dr (n:=n) (h:=h) hF4
 refine(callsIn_wide (n:=3)).1 ?_
 have hF:=bY
 refine callsIn_of_wp_marks func477 rfl trivial ?_ rfl
 simp only[ntmps477,List.size_toArray,List.length_cons,List.length_nil,Nat.reduceAdd,Nat.reduceSub,Array.replicate_succ,Array.replicate_zero,List.push_toArray,List.append_toArray,List.nil_append,List.cons_append]
 gi_wp2_with (first|refine aD (.alloc 345) rfl ?_;refine aa hF rfl rfl (cg _ rfl hS ?_);clear hS;intro bl w _ hS|refine aD (.box 195 _) rfl ?_;refine aa hF rfl rfl (eh _ _ rfl hS ?_);clear hS;intro bb w _ hS|gi_at_call 264;refine callsIn_wide.2 (ke hS ?_);clear hS;intro bo w hS;unfold ab|refine aa hF rfl rfl (ar (ai _ _ rfl hS) ?_))
 refine rJ (w0:=w0) (bs:=bs) (X:=Value×List Ent) (Y:=Unit) (by omega) (gf:=340) (lb:=#[.pointer (some ⟨bo,0,none⟩)]) rfl ae
  (K:=[⟨bo,aN n F h,195,true⟩]) hS.chg.size (fun e he=>hS.lt (by simp at he;simp[he]))
  (gu (m:=3 - 1) hF4 (by omega) bo (hS.get ⟨_,_,_,_⟩ (.head _))) (fun _=>rfl)
  (fun pre x=>pre.length≤5∧RS x.1 (pre.map (fun a=>F.getD a.i (0,0))) x.2) (fun _ x=>⟨bo,aN n F h,195,true⟩::⟨bl,#[x.1],345,true⟩::⟨bb,aN n F h,195,true⟩::(x.2++H)) (fun _ _ _ e he=>by simp at he;simp[he])
  (fun _ _ _=>False) (fun _ _ _=>[])
  (x0:=(.slice none 0 0,[])) ⟨by simp,RS.nil⟩ hS 176 (fun x=>#[.int .i64 (F.getD x.i (0,0)).1,.int .u32 (F.getD x.i (0,0)).2]) ?_
  (fun x bv=>{ tmps:=#[.agg (aN n F h),.pointer (some ⟨bb,0,none⟩),.slice none 0 0,.pointer (some ⟨bl,0,none⟩),undef,.pointer (some ⟨bv,0,none⟩),.agg (aN n F h),.func (.func 340) #[] #[.pointer (some ⟨bo,0,none⟩)],.int .i64 (x.i:Nat),.agg #[.int .i64 (F.getD x.i (0,0)).1,.int .u32 (F.getD x.i (0,0)).2],undef,undef,undef,undef,undef],defers:=[] }) ?assign ?body ?done ?stop
 ·rintro W xs ⟨v,E1⟩ xs' ⟨v',E2⟩ ⟨_,h1⟩ ⟨_,h2⟩ g1 g2 e he
  have q1:=g1 ⟨bl,#[v],345,true⟩ (by simp)
  have q2:=g2 ⟨bl,#[v'],345,true⟩ (by simp)
  simp only at q1 q2
  rw[q1] at q2
  obtain rfl:v=v':=by simpa using q2
  simp only[List.mem_cons,List.mem_append] at he
  rcases he with rfl|rfl|rfl|he|he
  ·exact⟨_,.head _,rfl⟩
  ·exact⟨_,.tail _ (.head _),rfl⟩
  ·exact⟨_,.tail _ (.tail _ (.head _)),rfl⟩
  ·obtain⟨e',he',q⟩:=RS.blocks h1 h2 e he
   exact⟨e',by simp[he'],q⟩
  ·exact⟨e,by simp[he],rfl⟩
 case assign=>
  clear hR
  intro l pre el x W0 hc hnew hS
  have hF:=cu l
  rw[DG]
  simp only[List.set_cons_succ,List.set_cons_zero]
  gi_wp2_with (first|refine aD (.alloc 176) rfl ?_;refine aa hF rfl rfl (cg _ rfl hS ?_);clear hS;intro bv w hbv hS|refine aa hF rfl rfl (de _ _ _ rfl hS ?_);clear hS;intro w hS)
  exact⟨_,by omega,rfl,hS⟩
 case body=>
  clear hS hR
  rintro l pre el ⟨v,E0⟩ bv W0 ⟨_,hsl⟩ hlt _ hS
  have hF:=cu l
  have hpl:(pre.map (fun a=>F.getD a.i (0,0))).length≤5:=by rw[List.length_map];omega
  have hsl:Sl 176 2 v (pre.map (fun a=>F.getD a.i (0,0))).length ((pre.map (fun a=>F.getD a.i (0,0))).flatMap dE) E0:=hsl
  have hone0:=hsl.one
  simp only at hS
  gi_wp2_with (first|refine aa hF rfl rfl (eD _ _ _ rfl hS (by decide) rfl (by decide) (by decide) ?_);clear hS;intro bN w hbN hS|(refine aD (.call { callee:=.builtin .append,args:=#[_,_],argTypes:=#[_,_] }) rfl ?_;refine aa hF rfl rfl (eW _ _ _ _ rfl rfl hS (by rfl) hsl (by rfl) (by simp only[maxLen];omega) (by omega) ?_);clear hS;intro v' E' w hsl' hne hS;have hone:=hsl'.one)|(first|refine aa hF rfl rfl (ar (ac _ _ rfl hS) ?_)|refine aa hF rfl rfl (ar (ai _ _ rfl hS) ?_))|refine aa hF rfl rfl (cL _ _ _ rfl hS ?_);clear hS;intro w hS)
  refine⟨(v',E'),⟨by rw[List.length_append];simp only[List.length_map] at hpl;simp only[List.length_cons,List.length_nil];omega,?_⟩,hS.p⟩
  rw[List.map_append]
  exact RS.snoc hsl'
 case done=>
  rintro d xs ⟨v,E0⟩ w2 hxs ⟨_,hsl⟩ hS0 hd
  clear hS
  have hS:=hS0.rebase
  have hone0:=Sl.one hsl
  simp only at hS
  gi_wp2_with (refine aa hF rfl rfl (ar (ac _ _ rfl hS) ?_))
  refine bS hd hS0 hS (fun W3 hS3=>⟨v,cH rfl,?_⟩)
  have e:xs.map (fun a=>F.getD a.i (0,0))=xa F:=by rw[xa,← hxs,List.map_map];rfl
  rw[e] at hsl
  exact hR v E0 W3 hsl hS3.p
 case stop=>
  rintro d c pre y w2 _ hf
  exact hf.elim
open Go Go.RowKit Go.Mm
abbrev Cq:=Option (Option (Nat×List Int))
def KA (p:Option Addr)(T:Cq)(E:List Ent):Prop:=match T with
 | none=>p=none∧E=[]
 | some none=>∃ b,p=some ⟨b,0,none⟩∧E=[⟨b,Col.paintCells 0 Col.zerosL,285,true⟩]
 | some (some (n,L))=>1≤n∧n≤256∧L.length=256∧(∀ c∈L,c=0∨c=1∨c=2)∧∃ b,p=some ⟨b,0,none⟩∧E=[⟨b,Col.paintCells n L,285,true⟩]
theorem KA.nil {p:Option Addr}{T:Cq}{E:List Ent}(h:KA p T E):p.isNone=T.isNone:=by
 rcases T with _|_|⟨n,L⟩
 ·rw[h.1];rfl
 ·obtain⟨b,rfl,_⟩:=h;rfl
 ·obtain⟨_,_,_,_,b,rfl,_⟩:=h;rfl
def ER (z:Int):Cq:=if 1≤z∧z≤256 then some (some (z.toNat,Col.zerosL)) else none
theorem Ap (hO:St w0 bs w H)(z:Int){T:Cq}(e:Int)(hT:ER z=T)(he:(if 1≤z∧z≤256 then (0:Int) else 2)=e)(hR:∀ p E w',KA p T E->St w0 bs w' (E++H)->ab R (.tuple #[.pointer p,.int .i64 e]) w') :
  Calls prog 91 #[.int .i64 z] w R:=by
 subst hT he
 unfold ER at hR
 by_cases hz:1≤z∧z≤256
 ·rw[if_pos hz,if_pos hz] at hR
  refine Col.new_ok hO z hz.1 hz.2 (fun b w' hS=>hR (some ⟨b,0,none⟩) [⟨b,Col.paintCells z Col.zerosL,285,true⟩] w' ⟨by omega,by omega,Col.zerosLen,fun c hc=>.inl (List.mem_replicate.1 hc).2,b,rfl,?_⟩ hS)
  rw[Int.toNat_of_nonneg (by omega)]
 ·rw[if_neg hz,if_neg hz] at hR
  exact Col.new_bad z (by omega) (hR none [] w ⟨rfl,rfl⟩ hO)
def Le:Cq->Cq
 | some (some x)=>some (some x)
 | _=>none
theorem lI {p:Option Addr}{T:Cq}(hO:St w0 bs w H)(hT:KA p T E)[hc:Cut H E H1]{T': Cq}(hT' : Le T=T')(hR:∀ p' E' w',KA p' T' E'->St w0 bs w' (E'++(E++H1))->ab R (.pointer p') w') :
  Calls prog 343 #[.pointer p] w R:=by
 have hS:=hO.fr E H1
 clear hO
 subst hT'
 rcases T with _|_|⟨n,L⟩
 ·obtain⟨rfl,rfl⟩:=hT
  exact Col.copy_nil (hR none [] w ⟨rfl,rfl⟩ hS)
 ·obtain⟨b,rfl,rfl⟩:=hT
  exact Col.copy_zero (hS.has inferInstance) (hR none [] w ⟨rfl,rfl⟩ hS)
 ·obtain⟨h1,h2,h3,h4,b,rfl,rfl⟩:=hT
  exact Col.copy_ok hS (by omega) h3 (fun b' w' hS'=>hR _ [⟨b',Col.paintCells n L,285,true⟩] w' ⟨h1,h2,h3,h4,b',rfl,rfl⟩ hS')
def o6 (T:Cq)(s:Int):Int:=match T with
 | some (some (n,_))=>if 0≤s∧s<n then 0 else 3
 | _=>1
def uw (T:Cq)(s:Int):Int:=match T with
 | some (some (n,L))=>if 0≤s∧s<n then L.getD s.toNat 0 else 0
 | _=>0
theorem f7 {p:Option Addr}{T:Cq}(hO:St w0 bs w H)(hT:KA p T E)[hc:Cut H E H1](s r e:Int)(hr:uw T s=r)(he:o6 T s=e)(hR:∀ w',St w0 bs w' (E++H1)->ab R (.tuple #[.int .i64 r,.int .i64 e]) w') :
  Calls prog 423 #[.pointer p,.int .i64 s] w R:=by
 have hS:=hO.fr E H1
 clear hO
 subst hr he
 rcases T with _|_|⟨n,L⟩
 ·obtain⟨rfl,rfl⟩:=hT
  exact Col.of_nil s (fun w' hc=>hR w' (hS.nil hc))
 ·obtain⟨b,rfl,rfl⟩:=hT
  exact Col.of_zero (hS.has inferInstance) s (fun w' hc=>hR w' (hS.nil hc))
 ·obtain⟨h1,h2,h3,h4,b,rfl,rfl⟩:=hT
  unfold uw o6 at hR
  by_cases hs:0≤s∧s<n
  ·simp only[if_pos hs] at hR
   obtain⟨i,rfl⟩:∃ i:Nat,s=i:=⟨s.toNat,by omega⟩
   rw[Int.toNat_natCast] at hR
   exact Col.of_ok (n:=n) (L:=L) hS (by omega) (by omega) (fun c hc=>by rcases h4 c hc with rfl|rfl|rfl <;> decide) i hs.2 hR
  ·simp only[if_neg hs] at hR
   exact Col.of_range (n:=n) (L:=L) hS (by omega) s (by omega) hR
def vS (T:Cq)(s:Int):Bool:=match T with
 | some (some (n,L))=>if 0≤s∧s<n then decide (L.getD s.toNat 0=0) else false
 | _=>false
def z0 (T:Cq)(s:Int):Cq:=match T with
 | some (some (n,L))=>if 0≤s∧s<n then some (some (n,Col.shadeL L s.toNat)) else some (some (n,L))
 | T=>T
theorem fW {L:List Int}{i:Nat}{c:Int}(h3:L.length=256)(h4:∀ c∈L,c=0∨c=1∨c=2)(hc:c=0∨c=1∨c=2):(L.set i c).length=256∧∀ d∈L.set i c,d=0∨d=1∨d=2:=by
 refine⟨by rw[List.length_set];exact h3,fun x hx=>?_⟩
 rcases List.mem_or_eq_of_mem_set hx with hx|hx
 ·exact h4 x hx
 ·rw[hx];exact hc
theorem jM {p:Option Addr}{T:Cq}(hO:St w0 bs w H)(hT:KA p T E)[hc:Cut H E H1](s:Int){T': Cq}{v:Bool}{e:Int}(hT' : z0 T s=T')(hv:vS T s=v)(he:o6 T s=e)
  (hR:∀ E' w',KA p T' E'->St w0 bs w' (E'++H1)->ab R (.tuple #[.bool v,.int .i64 e]) w'):Calls prog 273 #[.pointer p,.int .i64 s] w R:=by
 have hS:=hO.fr E H1
 clear hO
 subst hT' hv he
 rcases T with _|_|⟨n,L⟩
 ·have hT0:=hT
  obtain⟨rfl,rfl⟩:=hT
  exact Col.shade_nil s (fun w' hc=>hR _ w' hT0 (hS.nil hc))
 ·have hT0:=hT
  obtain⟨b,rfl,rfl⟩:=hT
  exact Col.shade_zero (hS.has inferInstance) s (fun w' hc=>hR _ w' hT0 (hS.nil hc))
 ·have hT0:=hT
  obtain⟨h1,h2,h3,h4,b,rfl,rfl⟩:=hT
  unfold z0 vS o6 at hR
  by_cases hs:0≤s∧s<n
  ·simp only[if_pos hs] at hR
   obtain⟨i,rfl⟩:∃ i:Nat,s=i:=⟨s.toNat,by omega⟩
   rw[Int.toNat_natCast] at hR
   refine Col.shade_ok (n:=n) (L:=L) (H':=⟨b,Col.paintCells n (Col.shadeL L i),285,true⟩::H1) hS (by omega) (by omega) i hs.2 (hu:=gH) (fun w' hS'=>hR [⟨b,Col.paintCells n (Col.shadeL L i),285,true⟩] w' ⟨h1,h2,?_,?_,b,rfl,rfl⟩ hS')
   ·unfold Col.shadeL;split
    ·exact(fW (c:=1) h3 h4 (.inr (.inl rfl))).1
    ·exact h3
   ·unfold Col.shadeL;split
    ·exact(fW (c:=1) h3 h4 (.inr (.inl rfl))).2
    ·exact h4
  ·simp only[if_neg hs] at hR
   exact Col.shade_range (n:=n) (L:=L) hS (by omega) s (by omega) (fun w' hS'=>hR _ w' hT0 hS')
def Fq (T:Cq)(s:Int):Int:=match T with
 | some (some (n,L))=>if 0≤s∧s<n then Col.blackE 1 L s.toNat else 3
 | _=>1
def Cm (T:Cq)(s:Int):Cq:=match T with
 | some (some (n,L))=>if 0≤s∧s<n then some (some (n,Col.blackL 1 L s.toNat)) else some (some (n,L))
 | T=>T
theorem oX {p:Option Addr}{T:Cq}(hO:St w0 bs w H)(hT:KA p T E)[hc:Cut H E H1](s:Int)(T' : Cq)(e:Int)(hT' : Cm T s=T')(he:Fq T s=e)
  (hR:∀ E' w',KA p T' E'->St w0 bs w' (E'++H1)->ab R (.int .i64 e) w'):Calls prog 182 #[.pointer p,.int .i64 s,.int .u8 1] w R:=by
 have hS:=hO.fr E H1
 clear hO
 subst hT' he
 rcases T with _|_|⟨n,L⟩
 ·have hT0:=hT
  obtain⟨rfl,rfl⟩:=hT
  exact Col.blacken_nil s 1 (fun w' hc=>hR _ w' hT0 (hS.nil hc))
 ·have hT0:=hT
  obtain⟨b,rfl,rfl⟩:=hT
  exact Col.blacken_zero (hS.has inferInstance) s 1 (fun w' hc=>hR _ w' hT0 (hS.nil hc))
 ·have hT0:=hT
  obtain⟨h1,h2,h3,h4,b,rfl,rfl⟩:=hT
  unfold Cm Fq at hR
  by_cases hs:0≤s∧s<n
  ·simp only[if_pos hs] at hR
   obtain⟨i,rfl⟩:∃ i:Nat,s=i:=⟨s.toNat,by omega⟩
   rw[Int.toNat_natCast] at hR
   refine Col.blacken_ok (n:=n) (L:=L) (H':=⟨b,Col.paintCells n (Col.blackL 1 L i),285,true⟩::H1) hS (by omega) (by omega) i hs.2 1 (hu:=gH) (fun w' hS'=>hR [⟨b,Col.paintCells n (Col.blackL 1 L i),285,true⟩] w' ⟨h1,h2,?_,?_,b,rfl,rfl⟩ hS')
   ·unfold Col.blackL;split
    ·exact(fW (c:=2) h3 h4 (.inr (.inr rfl))).1
    ·exact h3
   ·unfold Col.blackL;split
    ·exact(fW (c:=2) h3 h4 (.inr (.inr rfl))).2
    ·exact h4
  ·simp only[if_neg hs] at hR
   exact Col.blacken_range (n:=n) (L:=L) hS (by omega) s 1 (by omega) (fun w' hS'=>hR _ w' hT0 hS')
theorem jN {p:Option Addr}{T:Cq}(hO:St w0 bs w H)(hT:KA p T E)[hc:Cut H E H1](s:Int){T': Cq}{e:Int}(hT' : Cm T s=T')(he:Fq T s=e)
  (hR:∀ E' w',KA p T' E'->St w0 bs w' (E'++H1)->ab R (.int .i64 e) w'):Calls prog 464 #[.pointer p,.int .i64 s] w R:=by
 have hS:=hO.fr E H1
 clear hO
 go_enter func464,ntmps464
 go_wp2_with (go_at_call 182;refine oX hS hT s T' e hT' he ?_;clear hS;intro E' w hT' hS;unfold ab)
 exact hR _ _ hT' hS
def Bc (T:Cq)(f:Int):Int:=match T with
 | some (some (n,L))=>((Col.firstOf (Col.isGrey L f) n).getD 0:Nat)
 | _=>0
def Dx (T:Cq)(f:Int):Bool:=match T with
 | some (some (n,L))=>(Col.firstOf (Col.isGrey L f) n).isSome
 | _=>false
theorem lH {p:Option Addr}{T:Cq}(hO:St w0 bs w H)(hT:KA p T E)[hc:Cut H E H1](f:Int){r:Int}(v:Bool)(hr:Bc T f=r)(hv:Dx T f=v)(hR:∀ w',St w0 bs w' (E++H1)->ab R (.tuple #[.int .i64 r,.bool v]) w') :
  Calls prog 447 #[.pointer p,.int .i64 f] w R:=by
 have hS:=hO.fr E H1
 clear hO
 subst hr hv
 rcases T with _|_|⟨n,L⟩
 ·obtain⟨rfl,rfl⟩:=hT
  exact Col.grey_nil (fun w' hc=>hR w' (hS.nil hc))
 ·obtain⟨b,rfl,rfl⟩:=hT
  exact Col.grey_zero (hS.has inferInstance) (fun w' hc=>hR w' (hS.nil hc))
 ·obtain⟨h1,h2,h3,h4,b,rfl,rfl⟩:=hT
  exact Col.grey_ok (n:=n) (L:=L) hS (by omega) h2 h3 hR
end Go.Proofs.YtnbgljbhkeffkaaGreatDoor
