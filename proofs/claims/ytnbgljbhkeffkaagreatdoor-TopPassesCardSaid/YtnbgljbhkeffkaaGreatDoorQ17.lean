/-
  Contracts of what the law TopPasses reaches, part 17: Chl Chm Sca Bfr Drn.
-/
import Derived.Test.YtnbgljbhkeffkaaGreatDoorQ13
import Derived.Test.YtnbgljbhkeffkaaGreatDoorQ15
import Derived.Test.YtnbgljbhkeffkaaGreatDoorQ08
open Go.Proofs.Tryz
set_option linter.unusedVariables false
set_option linter.unusedSimpArgs false
set_option maxHeartbeats 4000000
set_option maxRecDepth 100000
namespace Go.Proofs.YtnbgljbhkeffkaaGreatDoor
open Go.RowKit Go.Mm
attribute [local go_sem] Oper.semAt_some
variable {R:Ending->World->Prop}{w:World}{w0:World}{bs:List Nat}{H H' H1 E:List Ent}
theorem yC {w w' : World}{bs:List Nat}(h:Chg w w' bs)(hs:∀ b∈bs,w'.heap[b]?=w.heap[b]?):Chg w w' []:=
 ⟨h.os,h.tape,h.output,h.size,fun k hk _=>by
  by_cases hb:k∈bs
  ·exact hs k hb
  ·exact h.same k hk hb⟩
theorem wv {W:World}{L:List Ent}(hE:∀ e∈L,W.heap[e.b]?=some (.cells e.cs e.T (0,0)))(hnd:L.Pairwise (fun x y=>x.b≠y.b)):St W (L.map (·.b)) W L:=
 St.start hE hnd (fun e he _=>List.mem_map_of_mem he)
def j8 (T:Hp)(l:List (Int×Int))(i:Nat):Bool:=j9 T (l.getD i (0,0)).1 (l.getD i (0,0)).2
def Ci (T:Hp)(l:List (Int×Int)):List Int:=(gl (j8 T l) l.length).map (fun i=>(l.getD i (0,0)).1)
structure ChOf (T:Hp)(l:List (Int×Int)) where
 i:Nat
 lt:i<l.length
 is:j8 T l i=true
theorem sv {m:Nat}{p:Option Addr}{T:Hp}{n:Int}{F:List (Int×Int)}{hd:Bool}{lr:List (Int×Int)}(hlr:xa F=lr)(hF4:F.length=4)(h1:1≤m)(bh bx:Nat){W:World}
  (hE:∀ e∈((⟨bh,#[.pointer p],110,true⟩:Ent)::⟨bx,aN n F hd,195,true⟩::E),W.heap[e.b]?=some (.cells e.cs e.T (0,0)))
  (hnd:((⟨bh,#[.pointer p],110,true⟩:Ent)::⟨bx,aN n F hd,195,true⟩::E).Pairwise (fun x y=>x.b≠y.b)) (hT:HA p T E) :
  SeqStopsK Fence.wide m prog 476 #[.pointer (some ⟨bx,0,none⟩),.pointer (some ⟨bh,0,none⟩)] (fun x:ChOf T lr=>#[.int .i64 (lr.getD x.i (0,0)).1]) (KeptT 176 (bh::bx::E.map (·.b)))
   (fun xs=>xs.map (·.i)=gl (j8 T lr) lr.length) (fun pre=>∃ k,k<lr.length∧j8 T lr k=true∧pre.map (·.i)=gl (j8 T lr) k++[k]) 5 W:=by
 intro l J Jx W1 hW hJ hJx hY h0
 have hF:=bY
 have hE1:∀ e∈((⟨bh,#[.pointer p],110,true⟩:Ent)::⟨bx,aN n F hd,195,true⟩::E),W1.heap[e.b]?=some (.cells e.cs e.T (0,0)):=fun e he=>by
  have h1:=hE e he
  rw[hW.block e.b (bG h1)]
  exact h1
 have hS:=wv hE1 hnd
 have hobA:=dr (n:=n) (h:=hd) hF4
 have hl4:lr.length≤4:=by rw[← hlr];exact qo F
 refine callsIn_of_wp func476 rfl trivial ?_ rfl
 simp only[ntmps476,List.size_toArray,List.length_cons,List.length_nil,Nat.reduceAdd,Nat.reduceSub,Array.replicate_succ,Array.replicate_zero,List.push_toArray,List.append_toArray,List.nil_append,List.cons_append]
 have hY':=HD hY
 have hJ':=HD hJ
 have hE1':=HD hE1
 clear hY hJ hJx hW hE hE1
 gi_wp2_with (first|(gi_at_call 477;refine callsIn_wide.2 (yh hF4 hS ?_);clear hS;intro v1 Er w hRS hS;rw[hlr] at hRS;have hone:=hRS.one;have hln:=hRS.len rfl;unfold ab)|refine aD (.call { callee:=.builtin .len,args:=#[_],argTypes:=#[_] }) rfl ?_;refine aa hF rfl rfl (ar (aA rfl) ?_)|refine aa hF rfl rfl (ar (ai _ _ rfl hS) ?_))
 obtain⟨LA,hLA⟩:∃ LA,Er++((⟨bh,#[.pointer p],110,true⟩:Ent)::⟨bx,aN n F hd,195,true⟩::E)=LA:=⟨_,rfl⟩
 have hFA:∀ e∈LA,w.heap[e.b]?=some (.cells e.cs e.T (0,0)):=by rw[← hLA];exact hS.get
 have hndA:LA.Pairwise (fun x y=>x.b≠y.b):=by rw[← hLA];exact hS.nd
 have hchg:Chg W1 w []:=yC hS.chg (fun b' hb=>by
  obtain⟨e,he,rfl⟩:=List.mem_map.1 hb
  rw[hE1'.out e he,hFA e (by rw[← hLA];exact List.mem_append_right _ he)])
 have hErT:∀ e∈Er,e.T=176:=by
  rcases hRS.or with ⟨_,_,rfl⟩|⟨g,cap,sp,_,rfl,_⟩
  ·intro e he;cases he
  ·intro e he
   obtain rfl:=List.mem_singleton.1 he
   rfl
 have hkp:∀ w1 w2,(∀ e∈LA,w1.heap[e.b]?=some (.cells e.cs e.T (0,0)))->KeptT 176 (bh::bx::E.map (·.b)) w1 w2->∀ e∈LA,w2.heap[e.b]?=some (.cells e.cs e.T (0,0)):=by
  intro w1 w2 hF1 hk e he
  have hg2:=hF1 e he
  rw[← hLA] at he
  simp only[List.mem_append] at he
  rcases he with he|he
  ·rw[hErT e he] at hg2
   rw[hErT e he]
   exact hk.2 _ _ _ hg2
  ·rw[hk.1 e.b (by simp only[List.mem_cons,List.mem_map] at he ⊢;rcases he with rfl|rfl|he;exact .inl rfl;exact .inr (.inl rfl);exact .inr (.inr ⟨e,he,rfl⟩))]
   exact hg2
 have hndA':=HD hndA
 have hkp':=HD hkp
 have hLA':=HD hLA
 gi_loopw [9] (fun v wr=>∃ (k:Nat) (xs:List (ChOf T lr)),k≤lr.length∧v=.int .i64 k∧xs.map (·.i)=gl (j8 T lr) k∧J xs wr∧∀ e∈LA,wr.heap[e.b]?=some (.cells e.cs e.T (0,0))) (fun v _=>lr.length - (intOf v).toNat)
 case atStart=>exact⟨0,[],Nat.zero_le _,rfl,rfl,hJ'.out _ _ _ none h0 (hchg.grown none) (fun r e=>by cases e),hFA⟩
 case round=>
  clear hS hFA hndA hchg hErT hkp
  obtain⟨k,xs,hkl,rfl,hxs,hJk,hFk⟩:=hrel
  have hxs':=HD hxs
  have hFk':=HD hFk
  have hS:=wv hFk hndA'.out
  rw[← hLA] at hS
  clear hxs hFk hLA
  by_cases hlt:k<lr.length
  ·obtain⟨⟨s,g⟩,hx⟩:∃ x,lr.getD k (0,0)=x:=⟨_,rfl⟩
   obtain⟨gx,sp,ix,hh,hcx⟩:=hRS.at hlt hx
   have ix:=ix k rfl
   simp only at hcx
   have hltI:(k:Int)<lr.length:=by omega
   have hkb:(k:Int)<5:=by omega
   cases hz:j9 T s g with
   | true=>
    have hst:j8 T lr k=true:=by unfold j8;rw[hx];exact hz
    have hgl:=HD (Sv hst)
    have hx':=HD hx
    have hst':=HD hst
    clear hx hst
    gi_wp2_with (first|refine aa hF rfl rfl (ar (aY _ _ _ rfl) ?_)|refine aD (.alloc 176) rfl ?_;refine aa hF rfl rfl (cg _ rfl hS ?_);clear hS;intro br w hbr hS|gi_at_call 349;refine callsIn_wide.2 (lT hS hT s g true hz ?_);clear hS;intro w _ hS;unfold ab|(first|refine aa hF rfl rfl (ar (ac _ _ rfl hS) ?_)|refine aa hF rfl rfl (ar (ai _ _ rfl hS) ?_))|refine aa hF rfl rfl (de _ _ _ rfl hS ?_);clear hS;intro w hS)
    have hFw:∀ e∈LA,w.heap[e.b]?=some (.cells e.cs e.T (0,0)):=fun e he=>hS.get e (by
     rw[← hLA'.out] at he;simp only[List.mem_cons,List.mem_append] at he ⊢;rcases he with he|rfl|rfl|he <;> simp[*])
    have hchg:Chg wr w []:=yC hS.chg (fun b' hb=>by
     obtain⟨e,he,rfl⟩:=List.mem_map.1 hb
     rw[hLA'.out] at he
     rw[hFw e he,hFk'.out e he])
    have hJw:=hJ'.out _ _ _ none hJk (hchg.grown none) (fun r e=>by cases e)
    have hYw:=hY'.out xs ⟨k,hlt,hst'.out⟩ _ hJw (by have:=e9 (j8 T lr) k;have h2:=congrArg List.length hxs'.out;rw[List.length_map] at h2;omega)
    simp only[hx'.out] at hYw
    obtain⟨fn,tmps,assign,body,hy,hRd⟩:=hYw
    rw[hy,Oper.uponIn_round]
    refine⟨fun _=>h1,hRd.mono ?_⟩
    rintro e W' (⟨rfl,hJ',hk'⟩|⟨rfl,hJx'⟩)
    ·gi_wp2
     go_roundw
     case rel=>exact⟨k+1,_,by omega,by go_num,by rw[hgl.out,List.map_append,hxs'.out];rfl,hJ',hkp'.out _ _ hFw hk'⟩
     case measure=>simp[intOf];omega
    ·gi_wp2
     refine bodyPost_ret (results_none rfl _ _ _) rfl ?_
     exact⟨⟨_,rfl⟩,.inr ⟨_,⟨k,hlt,hst'.out,by rw[List.map_append,hxs'.out];rfl⟩,hJx'⟩⟩
   | false=>
    have hst:j8 T lr k=false:=by unfold j8;rw[hx];exact hz
    have hgl:=HD (eS hst)
    clear hx hst
    gi_wp2_with (first|refine aa hF rfl rfl (ar (aY _ _ _ rfl) ?_)|refine aD (.alloc 176) rfl ?_;refine aa hF rfl rfl (cg _ rfl hS ?_);clear hS;intro br w hbr hS|gi_at_call 349;refine callsIn_wide.2 (lT hS hT s g false hz ?_);clear hS;intro w _ hS;unfold ab|(first|refine aa hF rfl rfl (ar (ac _ _ rfl hS) ?_)|refine aa hF rfl rfl (ar (ai _ _ rfl hS) ?_))|refine aa hF rfl rfl (de _ _ _ rfl hS ?_);clear hS;intro w hS)
    have hFw:∀ e∈LA,w.heap[e.b]?=some (.cells e.cs e.T (0,0)):=fun e he=>hS.get e (by
     rw[← hLA'.out] at he;simp only[List.mem_cons,List.mem_append] at he ⊢;rcases he with he|rfl|rfl|he <;> simp[*])
    have hchg:Chg wr w []:=yC hS.chg (fun b' hb=>by
     obtain⟨e,he,rfl⟩:=List.mem_map.1 hb
     rw[hLA'.out] at he
     rw[hFw e he,hFk'.out e he])
    have hJw:=hJ'.out _ _ _ none hJk (hchg.grown none) (fun r e=>by cases e)
    go_roundw
    case rel=>exact⟨k+1,xs,by omega,by go_num,by rw[hgl.out,hxs'.out],hJw,hFw⟩
    case measure=>simp[intOf];omega
  ·obtain rfl:k=lr.length:=by omega
   gi_wp2_with (refine aa hF rfl rfl (ar (bQ _ _ rfl) ?_))
   go_end0
   exact⟨⟨_,rfl⟩,.inl ⟨_,hxs'.out,hJk⟩⟩
open Go.RowKit Go.Mm
attribute [local go_sem] Oper.semAt_some
instance F5:ScalarT prog 174:=⟨by kernel_rfl,by kernel_rfl⟩
instance FB:ZeroT prog 174 #[.slice none 0 0]:=⟨by kernel_rfl⟩
instance Ek:SliceT prog 174 3:=⟨by kernel_rfl⟩
instance Fk:ElemT prog 3 1 8 #[.int .i64 0]:=⟨by kernel_rfl⟩
def IS (v:Value)(l:List Int)(E:List Ent):Prop:=Sl 3 1 v l.length (l.flatMap sb) E
theorem IS.nil:IS (.slice none 0 0) [] []:=fu
theorem IS.one {v:Value}{l:List Int}(h:IS v l E):OneCell v:=Sl.one h
theorem IS.snoc {v:Value}{l:List Int}{x:Int}(h:Sl 3 1 v (l.length+1) (l.flatMap sb++#[.int .i64 x].toList) E):IS v (l++[x]) E:=by
 unfold IS
 rw[List.length_append,List.flatMap_append]
 simpa [sb] using h
theorem IS.ty {v:Value}{l:List Int}(h:IS v l E):∀ e∈E,e.T=3:=by
 rcases h.or with ⟨_,_,rfl⟩|⟨g,cap,sp,_,rfl,_⟩
 ·intro e he;cases he
 ·intro e he
  obtain rfl:=List.mem_singleton.1 he
  rfl
theorem yB {W:World}{p:Option Addr}{n:Int}{F:List (Int×Int)}{hd:Bool}(hF4:F.length=4)(hO:St w0 bs W H)
  (hR:∀ bh bx w',St w0 bs w' (⟨bx,aN n F hd,195,true⟩::⟨bh,#[.pointer p],110,true⟩::H)->ab R (.func (.func 476) #[] #[.pointer (some ⟨bx,0,none⟩),.pointer (some ⟨bh,0,none⟩)]) w') :
  Calls prog 473 #[.pointer p,.agg (aN n F hd)] W R:=by
 have hS:=hO
 have hobA:=dr (n:=n) (h:=hd) hF4
 go_enter func473,ntmps473
 go_wp2_with ((refine am _ rfl hS ?_);clear hS;intro bN w hbN hS)
 exact hR _ _ _ hS
theorem BJ {W:World}{p:Option Addr}{T:Hp}{n:Int}{F:List (Int×Int)}{hd:Bool}{lr:List (Int×Int)}(hlr:xa F=lr)(hF4:F.length=4){bh bx:Nat}
  (hO:St w0 bs W (⟨bx,aN n F hd,195,true⟩::⟨bh,#[.pointer p],110,true⟩::(E++H1))) (hT:HA p T E)
  (hR:∀ v E' w',IS v (Ci T lr) E'->St w0 bs w' (E'++(⟨bx,aN n F hd,195,true⟩::⟨bh,#[.pointer p],110,true⟩::(E++H1)))->ab R v w') :
  Calls prog 475 #[.slice none 0 0,.func (.func 476) #[] #[.pointer (some ⟨bx,0,none⟩),.pointer (some ⟨bh,0,none⟩)]] W R:=by
 have hS:=hO
 clear hO
 refine(callsIn_wide (n:=3)).1 ?_
 have hF:=bY
 refine callsIn_of_wp_marks func475 rfl trivial ?_ rfl
 simp only[ntmps475,List.size_toArray,List.length_cons,List.length_nil,Nat.reduceAdd,Nat.reduceSub,Array.replicate_succ,Array.replicate_zero,List.push_toArray,List.append_toArray,List.nil_append,List.cons_append]
 gi_wp2_with (refine aD (.box 174 _) rfl ?_;refine aa hF rfl rfl (eh _ _ rfl hS ?_);clear hS;intro bN w _ hS)
 have hnd:=hS.nd
 have hstop:=sv (m:=3 - 1) (p:=p) (T:=T) (n:=n) (hd:=hd) (E:=E) hlr hF4 (by omega) bh bx (W:=w) (fun e he=>hS.get _ (by
  simp only[List.mem_cons,List.mem_append] at he ⊢
  rcases he with rfl|rfl|he <;> simp[*])) (by
  simp only[List.pairwise_cons,List.mem_cons,List.mem_append,forall_eq_or_imp] at hnd ⊢
  obtain⟨_,⟨n1,n2⟩,n3,n4⟩:=hnd
  exact⟨⟨fun e=>n1 e.symm,fun a ha=>n3 a (.inl ha)⟩,fun a ha=>n2 a (.inl ha),(List.pairwise_append.1 n4).1⟩) hT
 refine rK (w0:=w0) (bs:=bs) (X:=Value×List Ent) (Y:=Unit) (by omega) (gf:=476) (lb:=#[.pointer (some ⟨bx,0,none⟩),.pointer (some ⟨bh,0,none⟩)]) rfl ae 176
  (K:=⟨bh,#[.pointer p],110,true⟩::⟨bx,aN n F hd,195,true⟩::E) hS.chg.size ?_
  hstop (fun _=>rfl)
  (fun pre x=>pre.length≤5∧IS x.1 (pre.map (fun a=>(lr.getD a.i (0,0)).1)) x.2) (fun _ x=>⟨bN,#[x.1],174,true⟩::(x.2++(⟨bx,aN n F hd,195,true⟩::⟨bh,#[.pointer p],110,true⟩::(E++H1)))) ?_ ?_
  (fun _ _ _=>False) (fun _ _ _=>[])
  (x0:=(.slice none 0 0,[])) ⟨by simp,IS.nil⟩ hS
  (fun x=>{ tmps:=#[.slice none 0 0,.func (.func 476) #[] #[.pointer (some ⟨bx,0,none⟩),.pointer (some ⟨bh,0,none⟩)],.pointer (some ⟨bN,0,none⟩),undef,.slice none 0 0,.int .i64 (lr.getD x.i (0,0)).1,.func (.func 476) #[] #[.pointer (some ⟨bx,0,none⟩),.pointer (some ⟨bh,0,none⟩)],.int .i64 (lr.getD x.i (0,0)).1,undef,undef,undef,undef,undef],defers:=[] }) ?assign ?body ?done ?stop
 ·intro e he
  refine hS.lt ?_
  simp only[List.mem_cons,List.mem_append] at he ⊢
  rcases he with rfl|rfl|he <;> simp[*]
 ·intro _ _ _ e he
  simp only[List.mem_cons,List.mem_append] at he ⊢
  rcases he with rfl|rfl|he <;> simp[*]
 ·rintro _ ⟨_,E1⟩ _ ⟨_,E2⟩ ⟨_,h1⟩ _ e he ht
  simp only[List.mem_cons,List.mem_append] at he ⊢
  rcases he with rfl|he|he
  ·exact absurd (show 174=176 from ht) (by decide)
  ·rw[IS.ty h1 e he] at ht
   exact absurd (show 3=176 from ht) (by decide)
  ·exact .inr (.inr he)
 case assign=>
  clear hnd hstop hS hT hR
  intro l x W K hK
  have hF:=cu l
  gi_wp2
  exact hK
 case body=>
  clear hnd hstop hS hR
  rintro l pre el ⟨v,E0⟩ w2 ⟨_,hsl⟩ hlt hS
  have hF:=cu l
  have hpl:(pre.map (fun a=>(lr.getD a.i (0,0)).1)).length≤5:=by rw[List.length_map];omega
  have hsl:Sl 3 1 v (pre.map (fun a=>(lr.getD a.i (0,0)).1)).length ((pre.map (fun a=>(lr.getD a.i (0,0)).1)).flatMap sb) E0:=hsl
  have hone0:=hsl.one
  simp only at hS
  gi_wp2_with (first|refine aa hF rfl rfl (eD _ _ _ rfl hS (by decide) rfl (by decide) (by decide) ?_);clear hS;intro bN w hbN hS|(refine aD (.call { callee:=.builtin .append,args:=#[_,_],argTypes:=#[_,_] }) rfl ?_;refine aa hF rfl rfl (eW _ _ _ _ rfl rfl hS (by rfl) hsl (by rfl) (by simp only[maxLen];omega) (by omega) ?_);clear hS;intro v' E' w hsl' hne hS;have hone:=hsl'.one)|refine aa hF rfl rfl (ar (ac _ _ rfl hS) ?_)|refine aa hF rfl rfl (cL _ _ _ rfl hS ?_);clear hS;intro w hS)
  refine⟨(v',E'),⟨by rw[List.length_append];simp only[List.length_map] at hpl;simp only[List.length_cons,List.length_nil];omega,?_⟩,hS.p⟩
  rw[List.map_append]
  exact IS.snoc hsl'
 case done=>
  rintro d xs ⟨v,E0⟩ w2 hxs ⟨_,hsl⟩ hS0 hd
  clear hnd hstop hS
  have hS:=hS0.rebase
  have hone0:=Sl.one hsl
  simp only at hS
  gi_wp2_with (refine aa hF rfl rfl (ar (ac _ _ rfl hS) ?_))
  refine bS hd hS0 hS (fun W3 hS3=>⟨v,cH rfl,?_⟩)
  have e:xs.map (fun a=>(lr.getD a.i (0,0)).1)=Ci T lr:=by rw[Ci,← hxs,List.map_map];rfl
  rw[e] at hsl
  exact hR v E0 W3 hsl hS3.p
 case stop=>
  rintro d c pre y w2 _ hf
  exact hf.elim
theorem nT {W:World}{p:Option Addr}{T:Hp}{n:Int}{F:List (Int×Int)}{hd:Bool}{lr:List (Int×Int)}(hlr:xa F=lr)(hF4:F.length=4){bh bx:Nat}
  (hO:St w0 bs W (⟨bx,aN n F hd,195,true⟩::⟨bh,#[.pointer p],110,true⟩::(E++H1))) (hT:HA p T E)
  (hR:∀ v E' w',IS v (Ci T lr) E'->St w0 bs w' (E'++(⟨bx,aN n F hd,195,true⟩::⟨bh,#[.pointer p],110,true⟩::(E++H1)))->ab R v w') :
  Calls prog 472 #[.func (.func 476) #[] #[.pointer (some ⟨bx,0,none⟩),.pointer (some ⟨bh,0,none⟩)]] W R:=by
 have hS:=hO
 clear hO
 go_enter func472,ntmps472
 go_wp2_with (go_at_call 475;refine BJ hlr hF4 hS hT ?_;clear hS;intro v E' w hI hS;have hone:=hI.one;unfold ab)
 exact hR _ _ _ hI hS
def kM (T:Hp)(s g:Int):List Int:=if eJ T s g=0 then Ci T (xa (Ss T s).2.1) else []
theorem dM {W:World}{p:Option Addr}{T:Hp}(hO:St w0 bs W H)(hT:HA p T E)[hc:Cut H E H1](s g:Int){l:List Int}{e:Int}(hl:kM T s g=l)(he:eJ T s g=e)
  (hR:∀ v E' w',IS v l E'->HA p T E->St w0 bs w' (E'++(E++H1))->ab R (.tuple #[v,.int .i64 e]) w'):Calls prog 469 #[.pointer p,.agg #[.int .i64 s,.int .u32 g]] W R:=by
 have hS:=hO.fr E H1
 clear hO
 have hW:=hT.obw s g
 obtain⟨o,ho⟩:∃ o,qy T s g=o:=⟨_,rfl⟩
 rw[ho] at hW
 by_cases h0:e=0
 ·subst h0
  have hoa:Ss T s=o:=by rw[← ho,qy,if_pos he]
  rw[kM,if_pos he,hoa] at hl
  obtain⟨n,F,hd⟩:=o
  have hF4:F.length=4:=hW.len
  have hobA:=dr (n:=n) (h:=hd) hF4
  have hov:SetsAt (aN 0 zero4 false) 0 (gr (n,F,hd)) (aN n F hd):=dB rfl hF4
  have hsz:SizeIs (gr (n,F,hd)) 10:=cV hF4
  have hon:OneCells (gr (n,F,hd)):=objOnes
  clear hoa
  go_enter func469,ntmps469
  go_wp2_with (first|refine am 176 rfl hS ?_;clear hS;intro br w _ hS|go_at_call 424;refine iI hS hT s g _ _ ho he ?_;clear hS;intro w _ hS;unfold ab|go_at_call 473;refine yB hF4 hS ?_;clear hS;intro bh bx w hS;unfold ab|(go_at_call 472;(refine nT (n:=n) (hd:=hd) rfl hF4 (E:=E) (H1:=⟨bN,aN n F hd,195,true⟩::⟨br,#[.int .i64 s,.int .u32 g],176,true⟩::H1) hS.p hT ?_);clear hS;intro v E' w hI hS;have hone:=hI.one;unfold ab)|refine au rfl hS ?_|refine ak rfl hS ?_;clear hS;intro w hS|refine aq _ rfl hS ?_;clear hS;intro bN w hbN hS)
  subst hl
  exact hR _ _ _ hI hT hS.p
 ·rw[kM,if_neg (by rw[he];exact h0)] at hl
  subst hl
  have ho0:o=io:=by rw[← ho,qy,if_neg (by rw[he];exact h0)]
  subst ho0
  have q:decide (e=0)=false:=decide_eq_false h0
  have hov:SetsAt (aN 0 zero4 false) 0 (gr io) (gr io):=dB rfl rfl
  have hsz:SizeIs (gr io) 10:=cV rfl
  have hon:OneCells (gr io):=objOnes
  go_enter func469,ntmps469
  go_wp2_with (first|refine am 176 rfl hS ?_;clear hS;intro br w _ hS|go_at_call 424;refine iI hS hT s g _ _ ho he ?_;clear hS;intro w _ hS;unfold ab|refine au rfl hS ?_|refine ak rfl hS ?_;clear hS;intro w hS|refine aq _ rfl hS ?_;clear hS;intro bN w hbN hS)
  exact hR _ _ _ IS.nil hT hS.p
open Go.RowKit Go.Mm
variable {R:Ending->World->Prop}{w:World}{w0:World}{bs:List Nat}{H H' H1 H2 H3 E E0 E1 E2 Ev:List Ent}
theorem IS.len {v:Value}{l:List Int}(h:IS v l E){n:Nat}(hn:l.length=n):LenV prog 174 v n:=by
 subst hn
 refine⟨?_,3,underlying174⟩
 rcases h.or with ⟨rfl,h0,_⟩|⟨g,cap,sp,rfl,_⟩
 ·exact⟨none,0,by rw[h0]⟩
 ·exact⟨_,cap,rfl⟩
theorem IS.at {v:Value}{l:List Int}(h:IS v l E){i:Nat}(hi:i<l.length){x:Int}(hx:l.getD i 0=x) :
  ∃ g sp,(∀ j:Int,j=i->IdxV prog 174 v j ⟨g,i,none⟩)∧Has E g (cX [] sb l sp) 3∧CellAt (cX [] sb l sp) i (.int .i64 x):=by
 subst hx
 obtain⟨g,cap,sp,rfl,rfl,h1,h2,h3⟩:=Sl.some h (by omega)
 refine⟨g,sp,fun j hj=>⟨fun w=>?_⟩,lV,?_⟩
 ·subst hj
  have h2:0≤(i:Int):=by omega
  simp[Instr.indexAt,asIntOf,run_underlying underlying174,hi,aU (P:=prog) (t:=3) (n:=1) (by kernel_rfl),Addr.add_lit]
 ·refine jo (pre:=[]) cE (i:=i) (j:=0) (a:=l.getD i 0) ?_ (by decide) rfl (by simp)
  rw[List.getD_eq_getElem?_getD,List.getElem?_eq_getElem hi];rfl
def rb (T:Cq)(s:Int):Bool:=decide (o6 T s≠0)
theorem DX {T:Cq}{s e:Int}(h:o6 T s=e):rb T s=decide (e≠0):=by rw [rb,h]
theorem iw {p:Option Addr}{T:Cq}{bp:Nat}(hO:St w0 bs w (E++(⟨bp,#[.pointer p],207,true⟩::H1)))(hT:KA p T E)(s:Int)(b:Bool)(hb:rb T s=b)
  (hR:∀ w',St w0 bs w' (E++(⟨bp,#[.pointer p],207,true⟩::H1))->ab R (.bool b) w'):Calls prog 470 #[.int .i64 s,.pointer (some ⟨bp,0,none⟩)] w R:=by
 have hS:=hO
 clear hO
 obtain⟨e,he⟩:∃ e,o6 T s=e:=⟨_,rfl⟩
 rw[DX he] at hb
 by_cases h0:e=0
 ·subst h0
  obtain rfl:false=b:=hb
  go_enter func470,ntmps470
  go_wp2_with (first|go_at_call 423;refine f7 hS hT s _ _ rfl he ?_;clear hS;intro w hS;unfold ab|refine af rfl hS ?_)
  exact hR _ hS.p
 ·have q:(e != 0)=true:=by simpa using h0
  obtain rfl:true=b:=by rw[← hb];exact(decide_eq_true h0).symm
  go_enter func470,ntmps470
  go_wp2_with (first|go_at_call 423;refine f7 hS hT s _ _ rfl he ?_;clear hS;intro w hS;unfold ab|refine af rfl hS ?_)
  exact hR _ hS.p
def ny (f:Int->Bool)(l:List Int):Int:=match firstOf (fun i=>f (l.getD i 0)) l.length with
 | some i=>i
 | none=>-1
theorem u9 {f:Int->Bool}{l:List Int} : decide (0≤ny f l)=l.any f:=by
 rw[Bool.eq_iff_iff,decide_eq_true_eq,List.any_eq_true]
 unfold ny
 cases h:firstOf (fun i=>f (l.getD i 0)) l.length with
 | some i=>
  obtain⟨h1,h2,_⟩:=ic h
  simp only[Int.natCast_nonneg,true_iff]
  refine⟨l.getD i 0,?_,h2⟩
  rw[List.getD_eq_getElem?_getD,List.getElem?_eq_getElem h1]
  exact List.getElem_mem h1
 | none=>
  constructor
  ·intro h0;simp only at h0;omega
  ·rintro⟨x,hx,hf⟩
   exfalso
   obtain⟨i,hi,rfl⟩:=List.mem_iff_getElem.1 hx
   rw[firstOf,List.find?_eq_none] at h
   refine h i (List.mem_range.2 hi) ?_
   rw[List.getD_eq_getElem?_getD,List.getElem?_eq_getElem hi]
   exact hf
theorem xN {p:Option Addr}{T:Cq}{bp:Nat}{v:Value}{l:List Int}(hO:St w0 bs w (Ev++(E++(⟨bp,#[.pointer p],207,true⟩::H1))))(hA:IS v l Ev)(hT:KA p T E)(hl:l.length≤1000)
  (hR:∀ w',St w0 bs w' (Ev++(E++(⟨bp,#[.pointer p],207,true⟩::H1)))->ab R (.int .i64 (ny (rb T) l)) w'):Calls prog 474 #[v,.func (.func 470) #[] #[.pointer (some ⟨bp,0,none⟩)]] w R:=by
 have hS:=hO
 clear hO
 have hlen:=hA.len rfl
 have hone:=hA.one
 go_enter func474,ntmps474
 go_wp2_with (refine wV (.call { callee:=.builtin .len,args:=#[_],argTypes:=#[_] }) rfl (aA rfl) ?_)
 go_loopw [8] (fun u wr=>∃ k:Nat,k≤l.length∧u=.int .i64 k∧(∀ j,j<k->rb T (l.getD j 0)=false)∧St w0 bs wr (Ev++(E++(⟨bp,#[.pointer p],207,true⟩::H1)))) (fun u _=>l.length - (intOf u).toNat)
 case atStart=>exact⟨0,Nat.zero_le _,rfl,fun j hj=>absurd hj (Nat.not_lt_zero _),hS⟩
 case round=>
  clear hS
  obtain⟨k,hk,rfl,hno,hS⟩:=hrel
  by_cases hlt:k<l.length
  ·obtain⟨x,hx⟩:∃ x,l.getD k 0=x:=⟨_,rfl⟩
   obtain⟨gx,sp,ix,hh,hcx⟩:=hA.at hlt hx
   have ix:=ix k rfl
   have hno':=HD hno
   obtain⟨b,hb⟩:∃ b,rb T x=b:=⟨_,rfl⟩
   have hb':=HD hb
   have hx':=HD hx
   clear hx hno hb
   cases b with
   | true=>
    have e:ny (rb T) l=k:=by
     unfold ny
     rw[nC hlt (fun j hj=>hno'.out j hj) (by simp only[hx'.out,hb'.out])]
    rw[e] at hR
    clear e
    go_wp2_with (first|go_at_call 470;refine iw (H1:=Ev++H1) hS.p hT x true hb'.out ?_;clear hS;intro w hS;unfold ab|refine aM rfl ?_|refine af rfl hS ?_)
    exact hR _ hS.p
   | false=>
    go_wp2_with (first|go_at_call 470;refine iw (H1:=Ev++H1) hS.p hT x false hb'.out ?_;clear hS;intro w hS;unfold ab|refine aM rfl ?_|refine af rfl hS ?_)
    go_roundw
    case rel=>
     refine⟨k+1,by omega,by go_num,fun j hj=>?_,hS.p⟩
     by_cases e:j=k
     ·subst e;rw[hx'.out];exact hb'.out
     ·exact hno'.out j (by omega)
    case measure=>simp[intOf];omega
  ·obtain rfl:k=l.length:=by omega
   have e:ny (rb T) l=-1:=by
    unfold ny
    rw[nB (fun j hj=>hno j hj)]
   rw[e] at hR
   clear hno e
   go_wp2_with (go_skip)
   exact hR _ hS.p
theorem l3 {p:Option Addr}{T:Cq}{bp:Nat}{v:Value}{l:List Int}(hO:St w0 bs w (Ev++(E++(⟨bp,#[.pointer p],207,true⟩::H1))))(hA:IS v l Ev)(hT:KA p T E)(hl:l.length≤1000){b:Bool}(hb:l.any (rb T)=b)
  (hR:∀ w',St w0 bs w' (Ev++(E++(⟨bp,#[.pointer p],207,true⟩::H1)))->ab R (.bool b) w'):Calls prog 471 #[v,.func (.func 470) #[] #[.pointer (some ⟨bp,0,none⟩)]] w R:=by
 have hS:=hO
 clear hO
 have hone:=hA.one
 rw[← u9] at hb
 obtain⟨i,hi⟩:∃ i,ny (rb T) l=i:=⟨_,rfl⟩
 rw[hi] at hb
 have hi':=HD hi
 clear hi
 go_enter func471,ntmps471
 go_wp2_with (go_at_call 474;refine xN hS hA hT hl ?_;clear hS;intro w hS;rw[hi'.out];unfold ab)
 try subst hb
 exact hR _ hS.p
def lw (x:Cq×Sq×Nat)(s:Int):Cq×Sq×Nat:=(wD x.1 x.2.1 s,yU x.1 x.2.1 s,x.2.2+if CE x.1 x.2.1 s then 1 else 0)
theorem tJ:∀ (l:List Int) (x:Cq×Sq×Nat),(l.foldl lw x).2.2≤x.2.2+l.length
 | [],x=>Nat.le_refl _
 | s::l,x=>by
  have:=tJ l (lw x s)
  have h2:(lw x s).2.2≤x.2.2+1:=by simp only[lw];split <;> omega
  simp only[List.foldl_cons,List.length_cons]
  omega
theorem tI {l:List Int}{k:Nat}(hk:k<l.length){x:Cq×Sq×Nat} : (l.take (k+1)).foldl lw x=lw ((l.take k).foldl lw x) (l.getD k 0):=by
 rw[List.take_succ_eq_append_getElem hk,List.foldl_append,List.getD_eq_getElem?_getD,List.getElem?_eq_getElem hk]
 rfl
theorem vz (Hh:Hp)(s g:Int):(kM Hh s g).length≤4:=by
 unfold kM
 split
 ·rw[Ci,List.length_map]
  exact Nat.le_trans (e9 _ _) (qo _)
 ·exact Nat.zero_le _
def F0 (Hh:Hp)(T:Cq)(s g:Int):Bool:=rb T s || (kM Hh s g).any (rb T)
def BR (Hh:Hp)(T:Cq)(S:Sq)(s g:Int):Cq×Sq×Nat:=(kM Hh s g).foldl lw (T,S,0)
def F3 (Hh:Hp)(T:Cq)(S:Sq):Bool:=sd Hh && oC T S
def EB (Hh:Hp)(T:Cq)(S:Sq)(s g:Int):Bool:=F3 Hh T S && decide (eJ Hh s g=0) && !F0 Hh T s g && decide (uw T s=1)
def Iv (Hh:Hp)(T:Cq)(S:Sq)(s g:Int):Int:=if F3 Hh T S then (if eJ Hh s g=0 then (if F0 Hh T s g then 3 else if uw T s=1 then Fq (BR Hh T S s g).1 s else 8) else eJ Hh s g) else 1
def Iu (Hh:Hp)(T:Cq)(S:Sq)(s g:Int):Nat:=if EB Hh T S s g then (BR Hh T S s g).2.2 else 0
def Ez (Hh:Hp)(T:Cq)(S:Sq)(s g:Int):Cq:=if EB Hh T S s g then Cm (BR Hh T S s g).1 s else T
def EA (Hh:Hp)(T:Cq)(S:Sq)(s g:Int):Sq:=if EB Hh T S s g then (BR Hh T S s g).2.1 else S
theorem fO {p:Option Addr}{a:Bool}(h:p.isNone=a)(h' : a=!true):∃ x,p=some x:=by
 cases p with
 | none=>rw[h'] at h;cases h
 | some x=>exact⟨x,rfl⟩
theorem Bw {T:Hp}(h:sd T=false):Fo T=none:=by unfold Fo;rw [h];rfl
theorem nS (T:Hp):(Fo T).isNone=!sd T:=by rcases T with _|_|_ <;> rfl
theorem wG {ph p q:Option Addr}{Hh:Hp}{T:Cq}{S:Sq}(hO:St w0 bs w H)(hH:HA ph Hh E0)(hT:KA p T E1)(hU:SA q S E2)[hc:Cut H E0 H1][hd:Cut H1 E1 H2][hf:Cut H2 E2 H3](s g:Int){T': Cq}{S': Sq}{n:Nat}{e:Int}
  (hT' : Ez Hh T S s g=T') (hS' : EA Hh T S s g=S') (hn:Iu Hh T S s g=n) (he:Iv Hh T S s g=e)
  (hR:∀ E1 E2 w',KA p T' E1->SA q S' E2->St w0 bs w' (E0++(E1++(E2++H3)))->ab R (.tuple #[.int .i64 n,.int .i64 e]) w'):Calls prog 463 #[.pointer ph,.pointer p,.pointer q,.agg #[.int .i64 s,.int .u32 g]] w R:=by
 have hS:=(hO.fr E0 H1)
 have hS:St w0 bs w (E0++(E1++(E2++H3))):=hS.p
 clear hO
 subst hT' hS' hn he
 have n1:=nS Hh
 unfold Ez EA Iu Iv EB F3 at hR
 cases hok:sd Hh with
 | false=>
  have hcp:=Bw hok
  simp only[hok,Bool.false_and,Bool.false_eq_true,if_false] at hR
  clear hok n1
  go_enter func463,ntmps463
  go_wp2_with (first|go_skip|refine am 207 rfl hS ?_;clear hS;intro bp w _ hS|refine am 176 rfl hS ?_;clear hS;intro br w _ hS|(go_at_call 288;refine eH hS hH none hcp ?_;clear hS;intro p9 E9 w hH9 _ hS;obtain⟨rfl,rfl⟩:=hH9;simp only[List.nil_append] at hS;unfold ab))
  exact hR _ _ _ hT hU hS.p
 | true=>
  rw[hok] at n1
  simp only[hok,Bool.true_and] at hR
  clear hok
  cases hvl:oC T S with
  | false=>
   simp only[hvl,Bool.false_and,Bool.false_eq_true,if_false] at hR
   go_enter func463,ntmps463
   go_wp2_with (first|refine am 207 rfl hS ?_;clear hS;intro bp w _ hS|refine am 176 rfl hS ?_;clear hS;intro br w _ hS|(go_at_call 288;refine eH hS hH _ rfl ?_;clear hS;intro p9 E9 w hH9 _ hS;obtain⟨a9,rfl⟩:=fO hH9.nil n1;clear hH9;unfold ab)|go_at_call 272;refine cZ hS hT hU hvl ?_;clear hS;intro w hS;unfold ab|refine af rfl hS ?_)
   exact hR _ _ _ hT hU hS.p
  | true=>
   simp only[hvl,Bool.true_and,if_true] at hR
   obtain⟨e,he⟩:∃ e,eJ Hh s g=e:=⟨_,rfl⟩
   by_cases h0:e=0
   case neg=>
    have d:decide (e=0)=false:=decide_eq_false h0
    simp only[he,d,decide_false,Bool.false_and,Bool.false_eq_true,if_false,h0] at hR
    obtain⟨l,hl⟩:∃ l,kM Hh s g=l:=⟨_,rfl⟩
    go_enter func463,ntmps463
    go_wp2_with (first|refine am 207 rfl hS ?_;clear hS;intro bp w _ hS|refine am 176 rfl hS ?_;clear hS;intro br w _ hS|(go_at_call 288;refine eH hS hH _ rfl ?_;clear hS;intro p9 E9 w hH9 _ hS;obtain⟨a9,rfl⟩:=fO hH9.nil n1;clear hH9;unfold ab)|go_at_call 272;refine cZ hS hT hU hvl ?_;clear hS;intro w hS;unfold ab|(go_at_call 469;refine dM hS hH s g hl he ?_;clear hS;intro v Ev w hI _ hS;have hone:=hI.one;have hln:=hI.len rfl;unfold ab)|(first|refine af rfl hS ?_|refine au rfl hS ?_))
    exact hR _ _ _ hT hU hS.p
   subst h0
   simp only[he,decide_true,Bool.true_and,if_true] at hR
   obtain⟨l,hl⟩:∃ l,kM Hh s g=l:=⟨_,rfl⟩
   have hl4:l.length≤4:=by rw[← hl];exact vz Hh s g
   have n2:=nS Hh
   unfold F0 BR at hR
   simp only[hl] at hR
   cases hb1:rb T s with
   | true=>
    simp only[hb1,Bool.true_or,Bool.not_true,Bool.false_and,Bool.false_eq_true,if_false,if_true] at hR
    go_enter func463,ntmps463
    go_wp2_with (first|refine am 207 rfl hS ?_;clear hS;intro bp w _ hS|refine am 176 rfl hS ?_;clear hS;intro br w _ hS|(go_at_call 288;refine eH hS hH _ rfl ?_;clear hS;intro p9 E9 w hH9 _ hS;obtain⟨a9,rfl⟩:=fO hH9.nil n1;clear hH9;unfold ab)|go_at_call 272;refine cZ hS hT hU hvl ?_;clear hS;intro w hS;unfold ab|(go_at_call 469;refine dM hS hH s g hl he ?_;clear hS;intro v Ev w hI _ hS;have hone:=hI.one;have hln:=hI.len rfl;unfold ab)|go_at_call 470;refine iw (H1:=Ev++(E0++(E2++(⟨br,#[.int .i64 s,.int .u32 g],176,true⟩::H3)))) hS.p hT s _ hb1 ?_;clear hS;intro w hS;unfold ab|(first|refine af rfl hS ?_|refine au rfl hS ?_))
    exact hR _ _ _ hT hU hS.p
   | false=>
    simp only[hb1,Bool.false_or] at hR
    cases hb2:l.any (rb T) with
    | true=>
     simp only[hb2,Bool.not_true,Bool.false_and,Bool.false_eq_true,if_false,if_true] at hR
     go_enter func463,ntmps463
     go_wp2_with (first|refine am 207 rfl hS ?_;clear hS;intro bp w _ hS|refine am 176 rfl hS ?_;clear hS;intro br w _ hS|(go_at_call 288;refine eH hS hH _ rfl ?_;clear hS;intro p9 E9 w hH9 _ hS;obtain⟨a9,rfl⟩:=fO hH9.nil n1;clear hH9;unfold ab)|go_at_call 272;refine cZ hS hT hU hvl ?_;clear hS;intro w hS;unfold ab|(go_at_call 469;refine dM hS hH s g hl he ?_;clear hS;intro v Ev w hI _ hS;have hone:=hI.one;have hln:=hI.len rfl;unfold ab)|(first|go_at_call 470;refine iw (H1:=Ev++(E0++(E2++(⟨br,#[.int .i64 s,.int .u32 g],176,true⟩::H3)))) hS.p hT s _ hb1 ?_|go_at_call 471;refine l3 (H1:=E0++(E2++(⟨br,#[.int .i64 s,.int .u32 g],176,true⟩::H3))) hS.p hI hT (by omega) hb2 ?_);clear hS;intro w hS;unfold ab|(first|refine af rfl hS ?_|refine au rfl hS ?_))
     exact hR _ _ _ hT hU hS.p
    | false=>
     simp only[hb2,Bool.not_false,Bool.true_and,Bool.false_eq_true,if_false,if_true] at hR
     obtain⟨c,hc⟩:∃ c,uw T s=c:=⟨_,rfl⟩
     by_cases h1:c=1
     case neg=>
      have d:decide (c=1)=false:=decide_eq_false h1
      have q:(c != 1)=true:=by simpa using h1
      simp only[hc,d,Bool.false_eq_true,if_false,h1] at hR
      go_enter func463,ntmps463
      go_wp2_with (first|refine am 207 rfl hS ?_;clear hS;intro bp w _ hS|refine am 176 rfl hS ?_;clear hS;intro br w _ hS|(go_at_call 288;refine eH hS hH _ rfl ?_;clear hS;intro p9 E9 w hH9 _ hS;obtain⟨a9,rfl⟩:=fO hH9.nil n1;clear hH9;unfold ab)|go_at_call 272;refine cZ hS hT hU hvl ?_;clear hS;intro w hS;unfold ab|(go_at_call 469;refine dM hS hH s g hl he ?_;clear hS;intro v Ev w hI _ hS;have hone:=hI.one;have hln:=hI.len rfl;unfold ab)|(first|go_at_call 470;refine iw (H1:=Ev++(E0++(E2++(⟨br,#[.int .i64 s,.int .u32 g],176,true⟩::H3)))) hS.p hT s _ hb1 ?_|go_at_call 471;refine l3 (H1:=E0++(E2++(⟨br,#[.int .i64 s,.int .u32 g],176,true⟩::H3))) hS.p hI hT (by omega) hb2 ?_|go_at_call 423;refine f7 hS hT s _ _ hc rfl ?_);clear hS;intro w hS;unfold ab|(first|refine af rfl hS ?_|refine au rfl hS ?_))
      exact hR _ _ _ hT hU hS.p
     subst h1
     simp only[hc,decide_true,if_true] at hR
     go_enter func463,ntmps463
     go_wp2_with (first|refine am 207 rfl hS ?_;clear hS;intro bp w _ hS|refine am 176 rfl hS ?_;clear hS;intro br w _ hS|(go_at_call 288;refine eH hS hH _ rfl ?_;clear hS;intro p9 E9 w hH9 _ hS;obtain⟨a9,rfl⟩:=fO hH9.nil n1;clear hH9;unfold ab)|go_at_call 272;refine cZ hS hT hU hvl ?_;clear hS;intro w hS;unfold ab|(go_at_call 469;refine dM hS hH s g hl he ?_;clear hS;intro v Ev w hI _ hS;have hone:=hI.one;have hln:=hI.len rfl;unfold ab)|(first|go_at_call 470;refine iw (H1:=Ev++(E0++(E2++(⟨br,#[.int .i64 s,.int .u32 g],176,true⟩::H3)))) hS.p hT s _ hb1 ?_|go_at_call 471;refine l3 (H1:=E0++(E2++(⟨br,#[.int .i64 s,.int .u32 g],176,true⟩::H3))) hS.p hI hT (by omega) hb2 ?_|go_at_call 423;refine f7 hS hT s _ _ hc rfl ?_);clear hS;intro w hS;unfold ab|refine wV (.call { callee:=.builtin .len,args:=#[_],argTypes:=#[_] }) rfl (aA rfl) ?_|(first|refine af rfl hS ?_|refine au rfl hS ?_))
     have hS0:St w0 bs w (E1++(E2++(Ev++(⟨bp,#[.pointer p],207,true⟩::(E0++(⟨br,#[.int .i64 s,.int .u32 g],176,true⟩::H3)))))):=hS.p
     have hT0:=hT
     have hU0:=hU
     clear hS hT hU hb1 hb2 hc hl n2 n1
     go_loopw [15,59] (fun c u wr=>∃ (k:Nat) (E1 E2:List Ent),k≤l.length∧u=.int .i64 k∧c=.int .i64 (((l.take k).foldl lw (T,S,0)).2.2:Nat)∧KA p ((l.take k).foldl lw (T,S,0)).1 E1∧SA q ((l.take k).foldl lw (T,S,0)).2.1 E2∧St w0 bs wr (E1++(E2++(Ev++(⟨bp,#[.pointer p],207,true⟩::(E0++(⟨br,#[.int .i64 s,.int .u32 g],176,true⟩::H3))))))) (fun _ u _=>l.length - (intOf u).toNat)
     case atStart=>exact⟨0,E1,E2,Nat.zero_le _,rfl,rfl,hT0,hU0,hS0⟩
     case round=>
      clear hS0 hT0 hU0
      obtain⟨k,E1,E2,hk,rfl,rfl,hT,hU,hS⟩:=hrel
      by_cases hlt:k<l.length
      ·obtain⟨x,hx⟩:∃ x,l.getD k 0=x:=⟨_,rfl⟩
       obtain⟨gx,sp,ix,hh,hcx⟩:=hI.at hlt hx
       have ix:=ix k rfl
       have hst:=tI hlt (x:=(T,S,0))
       have hle:=tJ (l.take k) (T,S,0)
       rw[List.length_take] at hle
       obtain⟨y,hy⟩:∃ y,(l.take k).foldl lw (T,S,0)=y:=⟨_,rfl⟩
       rw[hy,hx] at hst
       rw[hy] at hle hT hU ⊢
       obtain⟨Ty,Sy,n⟩:=y
       simp only at hT hU hle ⊢
       have hn4:n≤4:=by omega
       have hst':=HD hst
       have hx':=HD hx
       have hy':=HD hy
       clear hst hx hy hle
       cases hbb:CE Ty Sy x with
       | true=>
        have e3:lw (Ty,Sy,n) x=(wD Ty Sy x,yU Ty Sy x,n+1):=by simp only[lw,hbb,if_true]
        have e3':=HD e3
        clear e3
        go_wp2_with (first|go_at_call 192;refine gO hS hT hU x rfl rfl hbb rfl ?_;clear hS hT hU;intro E1 E2 w hT hU hS;unfold ab|refine aM rfl ?_|refine af rfl hS ?_)
        go_roundw
        case rel=>exact⟨k+1,E1,E2,by omega,by go_num,by rw[hst'.out,e3'.out];go_num,by rw[hst'.out,e3'.out];exact hT,by rw[hst'.out,e3'.out];exact hU,hS.p⟩
        case measure=>simp[intOf];omega
       | false=>
        have e3:lw (Ty,Sy,n) x=(wD Ty Sy x,yU Ty Sy x,n):=by simp only[lw,hbb,Bool.false_eq_true,if_false,Nat.add_zero]
        have e3':=HD e3
        clear e3
        go_wp2_with (first|go_at_call 192;refine gO hS hT hU x rfl rfl hbb rfl ?_;clear hS hT hU;intro E1 E2 w hT hU hS;unfold ab|refine aM rfl ?_|refine af rfl hS ?_)
        go_roundw
        case rel=>exact⟨k+1,E1,E2,by omega,by go_num,by rw[hst'.out,e3'.out],by rw[hst'.out,e3'.out];exact hT,by rw[hst'.out,e3'.out];exact hU,hS.p⟩
        case measure=>simp[intOf];omega
      ·obtain rfl:k=l.length:=by omega
       rw[List.take_length] at hT hU ⊢
       obtain⟨y,hy⟩:∃ y,l.foldl lw (T,S,0)=y:=⟨_,rfl⟩
       rw[hy] at hT hU hR ⊢
       obtain⟨Ty,Sy,n⟩:=y
       simp only at hT hU hR ⊢
       clear hy
       go_wp2_with (first|go_at_call 464;refine jN hS hT s rfl rfl ?_;clear hS hT;intro E1 w hT hS;unfold ab|refine af rfl hS ?_)
       exact hR _ _ _ hT hU hS.p
end Go.Proofs.YtnbgljbhkeffkaaGreatDoor
namespace Go.Mm
open Go Go.RowKit
section
variable {α:Type}{f:α->List Value}{z:Nat}{pre post:List Value}{R:List α}
theorem l7 (hf:∀ a,(f a).length=z){j off:Nat}{v:Value}(h:post[j]?=some v)(ho:off=pre.length+R.length * z+j):CellAt (cX pre f R post) off v:=
 ⟨by subst ho;unfold cX;rw[List.getElem?_toArray,List.getElem?_append_right (by omega),List.getElem?_append_right (by rw[bw hf];omega),bw hf,show pre.length+R.length * z+j - pre.length - R.length * z=j by omega,h]⟩
theorem gA (hf:∀ a,(f a).length=z){j off:Nat}{v:Value}{post' : List Value}(h:j<post.length)(he:post.set j v=post')(ho:off=pre.length+R.length * z+j):SetAt (cX pre f R post) off v (cX pre f R post'):=
 ⟨by subst ho;unfold cX;rw[List.setIfInBounds_toArray,List.set_append_right _ _ (by omega),List.set_append_right _ _ (by rw[bw hf];omega),bw hf,show pre.length+R.length * z+j - pre.length - R.length * z=j by omega,he],by rw[co hf];omega⟩
end
end Go.Mm
namespace Go.Proofs.YtnbgljbhkeffkaaGreatDoor
open Go.RowKit Go.Mm
attribute [local go_sem] Oper.semAt_some
variable {R' : Ending->World->Prop}{w:World}{w0:World}{bs:List Nat}{H H' H1 E:List Ent}
def gB (R:List Int)(z f n:Nat)(wh:Bool):Array Value:=cX [] sb R [.int .i64 z,.int .i64 f,.int .i64 n,.bool wh]
abbrev Bx:=Nat×List Int×Nat×Nat×Nat×Bool
def ce (x:Bx):Ent:=⟨x.1,gB x.2.1 x.2.2.1 x.2.2.2.1 x.2.2.2.2.1 x.2.2.2.2.2,295,true⟩
structure BxW (x:Bx)(z:Nat)(l:List Int):Prop where
 len:x.2.1.length=64
 sz:x.2.2.1=z
 z1:1≤z
 z64:z≤64
 fr:x.2.2.2.1<z
 cn:x.2.2.2.2.1=l.length
 le:l.length≤z
 at' : ∀ j,j<l.length->x.2.1.getD ((x.2.2.2.1+j) % z) 0=l.getD j 0
section
variable {R:List Int}{z f n:Nat}{wh:Bool}
theorem vB (h:R.length=64):CellAt (gB R z f n wh) (0+64) (.int .i64 z):=l7 cE (j:=0) rfl (by simp [h])
theorem BG (h:R.length=64):CellAt (gB R z f n wh) (0+65) (.int .i64 f):=l7 cE (j:=1) rfl (by simp [h])
theorem yG (h:R.length=64):CellAt (gB R z f n wh) (0+66) (.int .i64 n):=l7 cE (j:=2) rfl (by simp [h])
theorem Hi (h:R.length=64)(k:Nat):SetAt (gB R z f n wh) (0+65) (.int .i64 k) (gB R z k n wh):=gA cE (j:=1) (by simp) rfl (by simp [h])
theorem DZ (h:R.length=64)(k:Nat):SetAt (gB R z f n wh) (0+66) (.int .i64 k) (gB R z f k wh):=gA cE (j:=2) (by simp) rfl (by simp [h])
theorem DY (h:R.length=64)(k:Bool):SetAt (gB R z f n wh) (0+67) (.bool k) (gB R z f n k):=gA cE (j:=3) (by simp) rfl (by simp [h])
theorem Hj {i:Nat}{x:Int}(h:R[i]?=some x):CellAt (gB R z f n wh) (0+i * 1) (.int .i64 x):=jo cE (i:=i) (j:=0) h (by decide) rfl (by simp)
theorem D0 {i:Nat}{x:Int}(h:R[i]?=some x)(y:Int):SetAt (gB R z f n wh) (0+i * 1) (.int .i64 y) (gB (R.set i y) z f n wh):=iO cE (i:=i) (j:=0) h (by decide) rfl (by simp)
end
instance LD:ScalarT prog 218:=⟨by kernel_rfl,by kernel_rfl⟩
instance LI {z:Nat} : BuildT prog 295 [(1,.int .i64 z),(4,.bool true)] (gB gF z 0 0 true):=⟨fun w=>by kernel_rfl⟩
instance LH {b off:Nat} : FieldAt prog 295 0 b off off:=⟨fun w=>by kernel_rfl⟩
instance LG {b off:Nat} : FieldAt prog 295 1 b off (off+64):=⟨fun w=>by kernel_rfl⟩
instance LF {b off:Nat} : FieldAt prog 295 2 b off (off+65):=⟨fun w=>by kernel_rfl⟩
instance LE {b off:Nat} : FieldAt prog 295 3 b off (off+66):=⟨fun w=>by kernel_rfl⟩
theorem BI {R:List Int}{z f n:Nat}{wh:Bool} : OneCells (gB R z f n wh):=fY (by intro v hv;cases hv) qN (by intro v hv;simp only [List.mem_cons,List.not_mem_nil,or_false] at hv;rcases hv with rfl|rfl|rfl|rfl <;> rfl)
theorem jp {b:Nat}{R:List Int}{z f n:Nat}{wh:Bool}(hO:St w0 bs w H)[hH:Has H b (gB R z f n wh) 295][c0:CellAt (gB R z f n wh) (0+64) (.int .i64 z)](hz:1≤z)(hR:∀ w',St w0 bs w' H->ab R' (.bool true) w'):Calls prog 271 #[.pointer (some ⟨b,0,none⟩)] w R':=by
 have hS:=hO
 clear hO
 have d:decide (0<(z:Int))=true:=DT
 have d2:decide (0<z)=true:=DT
 go_enter func271,ntmps271
 go_wp2_with (refine af rfl hS ?_)
 exact hR _ hS
theorem BH (hO:St w0 bs w H)(z:Nat)(hz:1≤z∧z≤64)(hR:∀ x w',BxW x z []->St w0 bs w' (ce x::H)->ab R' (.tuple #[.pointer (some ⟨x.1,0,none⟩),.int .i64 0]) w'):Calls prog 94 #[.int .i64 z] w R':=by
 have hS:=hO
 clear hO
 have d:decide ((z:Int)<1)=false:=DF
 have d2:decide (z<1)=false:=DF
 have d3:decide (64<(z:Int))=false:=DF
 have d4:decide (64<z)=false:=DF
 have ho:=BI (R:=gF) (z:=z) (f:=0) (n:=0) (wh:=true)
 go_enter func94,ntmps94
 go_wp2_with (first|refine am 295 rfl hS ?_;clear hS;intro b w _ hS|refine aL rfl ?_)
 exact hR (b,gF,z,0,0,true) _ ⟨by simp[gF],rfl,hz.1,hz.2,by show 0<z;omega,rfl,by simp,by simp⟩ hS
theorem wW {z f i j:Nat}(hi:i<z)(hj:j<z)(h:i≠j):(f+i) % z≠(f+j) % z:=by
 intro e
 have h1:=Nat.sub_mod_eq_zero_of_mod_eq e
 have h2:=Nat.sub_mod_eq_zero_of_mod_eq e.symm
 rcases Nat.lt_or_ge i j with h3|h3
 ·rw[show f+j - (f+i)=j - i by omega,Nat.mod_eq_of_lt (by omega)] at h2;omega
 ·rw[show f+i - (f+j)=i - j by omega,Nat.mod_eq_of_lt (by omega)] at h1;omega
theorem BxW.note {b:Nat}{R:List Int}{z f n:Nat}{wh:Bool}{l:List Int}(h:BxW (b,R,z,f,n,wh) z l)(hl:l.length<z)(s:Int):BxW (b,R.set ((f+n) % z) s,z,f,n+1,wh) z (l++[s]):=by
 have hn:n=l.length:=h.cn
 have hf:f<z:=h.fr
 have h64:=h.z64
 have hlen:R.length=64:=h.len
 have hm:(f+n) % z<R.length:=by rw[hlen];exact Nat.lt_of_lt_of_le (Nat.mod_lt _ (by omega)) h64
 refine⟨by simp[hlen],rfl,h.z1,h64,hf,by simp[hn],by simp;omega,fun j hj=>?_⟩
 rw[List.length_append,List.length_singleton] at hj
 show(R.set ((f+n) % z) s).getD ((f+j) % z) 0=(l++[s]).getD j 0
 rw[List.getD_eq_getElem?_getD,List.getD_eq_getElem?_getD]
 by_cases hjn:j=n
 ·subst hjn
  rw[List.getElem?_set_self hm,List.getElem?_append_right (by omega),show j - l.length=0 by omega]
  rfl
 ·rw[List.getElem?_set_ne (wW (by omega) (by omega) (fun e=>hjn e.symm)),List.getElem?_append_left (by omega)]
  have:=h.at' j (by omega)
  rw[List.getD_eq_getElem?_getD,List.getD_eq_getElem?_getD] at this
  exact this
theorem rc {x:Bx}{z:Nat}{l:List Int}(hO:St w0 bs w (ce x::H))(hW:BxW x z l)(s:Int)(hs:0≤s∧s<256)(v:Bool)(hv:decide (l.length<z)=v)
  (hR:∀ x' w',x'.1=x.1->BxW x' z (if v then l++[s] else l)->St w0 bs w' (ce x'::H)->ab R' (.tuple #[.bool v,.int .i64 0]) w'):Calls prog 191 #[.pointer (some ⟨x.1,0,none⟩),.int .i64 s] w R':=by
 have hS:=hO
 clear hO
 obtain⟨b,R,z',f,n,wh⟩:=x
 obtain rfl:z'=z:=hW.sz
 have hn:n=l.length:=hW.cn
 have hf:f<z':=hW.fr
 have hz1:=hW.z1
 have h64:=hW.z64
 have hle:=hW.le
 have hlen:R.length=64:=hW.len
 simp only[ce] at hS
 have c0:=vB (R:=R) (z:=z') (f:=f) (n:=n) (wh:=wh) hlen
 have c1:=BG (R:=R) (z:=z') (f:=f) (n:=n) (wh:=wh) hlen
 have c2:=yG (R:=R) (z:=z') (f:=f) (n:=n) (wh:=wh) hlen
 have d1:decide (s<0)=false:=DF
 have d2:decide (256≤s)=false:=DF
 cases v with
 | false=>
  have hnz:n=z':=by have:=of_decide_eq_false hv;omega
  have d3:((n:Int) == (z' : Int))=true:=by rw[hnz];simp
  have d4:decide (n=z')=true:=decide_eq_true hnz
  have d5:decide ((n:Int)=(z' : Int))=true:=DT
  have s3:=DY (R:=R) (z:=z') (f:=f) (n:=n) (wh:=wh) hlen false
  clear hv hn hnz
  go_enter func191,ntmps191
  go_wp2_with (first|go_at_call 271;refine jp hS hz1 ?_;clear hS;intro w hS;unfold ab|refine bP rfl hS ?_;clear hS;intro w hS|refine av hS (fun hne=>?_);(repeat (go_big_quiet_want;first|((refine aE bk (fun w hS=>ac _ _ rfl hS) ?_);go_big_quiet_on)|(go_big_quiet_op;go_big_quiet_on)));refine wpQuiet_nil ?_;clear hS hne;intro w hS)
  exact hR (b,R,z',f,n,false) _ rfl ⟨hW.len,rfl,hz1,h64,hf,hW.cn,hle,hW.at'⟩ hS
 | true=>
  have hlt:l.length<z':=of_decide_eq_true hv
  have d3:((n:Int) == (z' : Int))=false:=beq_eq_false_iff_ne.2 (by omega)
  have d4:decide (n=z')=false:=DF
  have d5:decide ((n:Int)=(z' : Int))=false:=DF
  have hm:(f+n) % z'<z':=Nat.mod_lt _ (by omega)
  obtain⟨k,hk⟩:∃ k,(f+n) % z'=k:=⟨_,rfl⟩
  rw[hk] at hm
  have e1:SumIs (f:Int) (n:Int) ((f:Int)+n):=⟨rfl,by omega,by omega⟩
  have e2' : RemIs ((f:Int)+(n:Int)) (z' : Int) (k:Int):=⟨by rw[Int.tmod_eq_emod_of_nonneg (by omega),← Int.natCast_add];omega,by omega⟩
  have hix:=PP (P:=prog) (t:=229) (m:=64) (z:=1) (b:=b) (off:=0) (i:=k) underlying229 (by omega)
  obtain⟨y,hy⟩:∃ y,R[k]?=some y:=⟨_,List.getElem?_eq_getElem (by omega)⟩
  have s0:=D0 (z:=z') (f:=f) (n:=n) (wh:=wh) hy s
  have c2':=yG (R:=R.set k s) (z:=z') (f:=f) (n:=n) (wh:=wh) (by rw[List.length_set];exact hlen)
  have s2':=DZ (R:=R.set k s) (z:=z') (f:=f) (n:=n) (wh:=wh) (by rw[List.length_set];exact hlen) (n+1)
  have s2'' : SetAt (gB (R.set k s) z' f n wh) (0+66) (.int .i64 ((n:Int)+1)) (gB (R.set k s) z' f (n+1) wh):=by have:=s2';rwa [Int.natCast_add] at this
  have hNW:=hW.note hlt s
  rw[hk] at hNW
  have hNW':=HD hNW
  have b1:(n:Int)≤64:=by omega
  have b2:(f:Int)≤64:=by omega
  clear hv hn hlt hk hy hNW
  go_enter func191,ntmps191
  go_wp2_with (first|go_at_call 271;refine jp hS hz1 ?_;clear hS;intro w hS;unfold ab|refine af rfl hS ?_|refine bP rfl hS ?_;clear hS;intro w hS|refine av hS (fun hne=>?_);(repeat (go_big_quiet_want;first|((refine aE bk (fun w hS=>ac _ _ rfl hS) ?_);go_big_quiet_on)|(go_big_quiet_op;go_big_quiet_on)));refine wpQuiet_nil ?_;clear hS hne;intro w hS|refine aR 19 hS ?_;clear hS;intro w hS;simp only[List.take_succ_cons,List.take_zero,List.drop_succ_cons,List.drop_zero];(repeat (first|refine ax rfl (ac _ _ rfl hS) ?_|refine dn (.binOp .add _ _ _ _) rfl ?_;refine ax rfl (bL rfl) ?_|refine dn (.binOp .rem _ _ _ _) rfl ?_;refine ax rfl (cw rfl) ?_|refine ax rfl (aY _ _ _ rfl) ?_|still_step));refine wpStill_nil ?_)
  exact hR (b,R.set k s,z',f,n+1,wh) _ rfl (by simpa using hNW'.out) hS
theorem sA {x:Bx}{z:Nat}{l:List Int}(hO:St w0 bs w (ce x::H))(hW:BxW x z l)(hR:∀ x' w',x'.1=x.1->BxW x' z l->St w0 bs w' (ce x'::H)->ab R' (.tuple #[]) w'):Calls prog 398 #[.pointer (some ⟨x.1,0,none⟩)] w R':=by
 have hS:=hO
 clear hO
 obtain⟨b,R,z',f,n,wh⟩:=x
 obtain rfl:z'=z:=hW.sz
 have hz1:=hW.z1
 have hlen:R.length=64:=hW.len
 simp only[ce] at hS
 have c0:=vB (R:=R) (z:=z') (f:=f) (n:=n) (wh:=wh) hlen
 have s3:=DY (R:=R) (z:=z') (f:=f) (n:=n) (wh:=wh) hlen true
 go_enter func398,ntmps398
 go_wp2_with (first|go_at_call 271;refine jp hS hz1 ?_;clear hS;intro w hS;unfold ab|refine bP rfl hS ?_;clear hS;intro w hS)
 refine bodyPost_end (results_none rfl _ _ _) rfl ?_
 exact hR (b,R,z',f,n,true) _ rfl ⟨hW.len,rfl,hz1,hW.z64,hW.fr,hW.cn,hW.le,hW.at'⟩ hS
open Go.RowKit Go.Mm
attribute [local go_sem] Oper.semAt_some
structure Upto (n:Nat) where
 j:Nat
 lt:j<n
instance F6:ScalarT prog 3:=⟨by kernel_rfl,by kernel_rfl⟩
theorem x8 {W:World}{b:Nat}(hO:St w0 bs W H)(mo:Int)
  (hR:∀ bm bp w',St w0 bs w' (⟨bm,#[.int .i64 mo],3,true⟩::⟨bp,#[.pointer (some ⟨b,0,none⟩)],218,true⟩::H)->ab R' (.func (.func 451) #[] #[.pointer (some ⟨bm,0,none⟩),.pointer (some ⟨bp,0,none⟩)]) w') :
  Calls prog 426 #[.pointer (some ⟨b,0,none⟩),.int .i64 mo] W R':=by
 have hS:=hO
 go_enter func426,ntmps426
 go_wp2_with ((refine am _ rfl hS ?_);clear hS;intro bN w hbN hS)
 exact hR _ _ _ hS
theorem sg {m:Nat}{b:Nat}{R:List Int}{z f n:Nat}{wh:Bool}{l:List Int}(hW:BxW (b,R,z,f,n,wh) z l)(h1:1≤m)(bm bp:Nat){W:World}
  (hE:∀ e∈[(⟨bm,#[.int .i64 64],3,true⟩:Ent),⟨bp,#[.pointer (some ⟨b,0,none⟩)],218,true⟩,⟨b,gB R z f n wh,295,true⟩],W.heap[e.b]?=some (.cells e.cs e.T (0,0))) (hnd:([(⟨bm,#[.int .i64 64],3,true⟩:Ent),⟨bp,#[.pointer (some ⟨b,0,none⟩)],218,true⟩,⟨b,gB R z f n wh,295,true⟩]).Pairwise (fun x y=>x.b≠y.b)) :
  SeqStopsK Fence.wide m prog 451 #[.pointer (some ⟨bm,0,none⟩),.pointer (some ⟨bp,0,none⟩)] (fun x:Upto n=>#[.int .i64 (l.getD x.j 0)]) (Kept (([(⟨bm,#[.int .i64 64],3,true⟩:Ent),⟨bp,#[.pointer (some ⟨b,0,none⟩)],218,true⟩,⟨b,gB R z f n wh,295,true⟩]).map (·.b)))
   (fun xs=>xs.map (·.j)=List.range n) (fun pre=>∃ k,k<n∧pre.map (·.j)=List.range k++[k]) 65 W:=by
 intro l' J Jx W1 hWb hJ hJx hY h0
 have hF:=bY
 have hE1:∀ e∈[(⟨bm,#[.int .i64 64],3,true⟩:Ent),⟨bp,#[.pointer (some ⟨b,0,none⟩)],218,true⟩,⟨b,gB R z f n wh,295,true⟩],W1.heap[e.b]?=some (.cells e.cs e.T (0,0)):=fun e he=>by
  have h1:=hE e he
  rw[hWb.block e.b (bG h1)]
  exact h1
 have hS:=wv hE1 hnd
 have hn:n=l.length:=hW.cn
 have hf:f<z:=hW.fr
 have hz1:=hW.z1
 have h64:=hW.z64
 have hle:=hW.le
 have hlen:R.length=64:=hW.len
 have c0:=vB (R:=R) (z:=z) (f:=f) (n:=n) (wh:=wh) hlen
 have c1:=BG (R:=R) (z:=z) (f:=f) (n:=n) (wh:=wh) hlen
 have c2:=yG (R:=R) (z:=z) (f:=f) (n:=n) (wh:=wh) hlen
 have b1:(n:Int)≤64:=by omega
 have b2:(f:Int)≤64:=by omega
 have mi:MinIs (64:Int) (n:Int) (n:Int):=⟨by split <;> omega⟩
 refine callsIn_of_wp func451 rfl trivial ?_ rfl
 simp only[ntmps451,List.size_toArray,List.length_cons,List.length_nil,Nat.reduceAdd,Nat.reduceSub,Array.replicate_succ,Array.replicate_zero,List.push_toArray,List.append_toArray,List.nil_append,List.cons_append]
 have hY':=HD hY
 have hJ':=HD hJ
 have hE1':=HD hE1
 have hW':=HD hW
 have hn':=HD hn
 clear hY hJ hJx hWb hE hE1 hn hW
 gi_wp2_with (refine wpIn_wide.2 ?_;refine av hS (fun hne=>?_);(repeat (go_big_quiet_want;first|((refine aE bk (fun w hS=>ac _ _ rfl hS) ?_);go_big_quiet_on)|(refine aH (fun w _=>ah rfl) ?_;go_big_quiet_on)|(refine fA (.call { callee:=.builtin .min,args:=#[_,_],argTypes:=#[_,_] }) rfl ?_;refine aH (fun w _=>jF rfl) ?_;go_big_quiet_on)|(refine aH (fun w _=>ag rfl) ?_;go_big_quiet_on)|(refine aH (fun w _=>ad rfl) ?_;go_big_quiet_on)));refine wpQuiet_nil ?_;clear hS hne;intro w hS)
 obtain⟨LA,hLA⟩:∃ LA,[(⟨bm,#[.int .i64 64],3,true⟩:Ent),⟨bp,#[.pointer (some ⟨b,0,none⟩)],218,true⟩,⟨b,gB R z f n wh,295,true⟩]=LA:=⟨_,rfl⟩
 have hFA:∀ e∈LA,w.heap[e.b]?=some (.cells e.cs e.T (0,0)):=by rw[← hLA];exact hS.get
 have hchg:Chg W1 w []:=yC hS.chg (fun b' hb=>by
  obtain⟨e,he,rfl⟩:=List.mem_map.1 hb
  rw[hE1'.out e he,hFA e (by rw[← hLA];exact he)])
 have hndA:LA.Pairwise (fun x y=>x.b≠y.b):=by rw[← hLA];exact hnd
 have hndA':=HD hndA
 have hLA':=HD hLA
 gi_loopw [11] (fun v wr=>∃ (k:Nat) (xs:List (Upto n)),k≤n∧v=.int .i64 k∧xs.map (·.j)=List.range k∧J xs wr∧∀ e∈LA,wr.heap[e.b]?=some (.cells e.cs e.T (0,0))) (fun v _=>n - (intOf v).toNat)
 case atStart=>exact⟨0,[],Nat.zero_le _,rfl,rfl,hJ'.out _ _ _ none h0 (hchg.grown none) (fun r e=>by cases e),hFA⟩
 case round=>
  clear hS hFA hndA hchg
  obtain⟨k,xs,hkl,rfl,hxs,hJk,hFk⟩:=hrel
  have hxs':=HD hxs
  have hFk':=HD hFk
  have hS:=wv hFk hndA'.out
  rw[← hLA] at hS
  clear hxs hFk hLA
  by_cases hlt:k<n
  ·have dk:decide ((k:Int)<(n:Int))=true:=DT
   have dk' : decide (k<n)=true:=decide_eq_true hlt
   have hm:(f+k) % z<z:=Nat.mod_lt _ (by omega)
   have hat:=hW'.out.at' k (by have:=hn'.out;omega)
   simp only at hat
   obtain⟨q,hq⟩:∃ q,(f+k) % z=q:=⟨_,rfl⟩
   rw[hq] at hm hat
   have e1:SumIs (f:Int) (k:Int) ((f:Int)+k):=⟨rfl,by omega,by omega⟩
   have e2:RemIs ((f:Int)+(k:Int)) (z:Int) (q:Int):=⟨by rw[Int.tmod_eq_emod_of_nonneg (by omega),← Int.natCast_add];omega,by omega⟩
   have hix:=PP (P:=prog) (t:=229) (m:=64) (z:=1) (b:=b) (off:=0) (i:=q) underlying229 (by omega)
   obtain⟨y,hy⟩:∃ y,R[q]?=some y:=⟨_,List.getElem?_eq_getElem (by omega)⟩
   have ca:=Hj (z:=z) (f:=f) (n:=n) (wh:=wh) hy
   have hyl:l.getD k 0=y:=by rw[← hat,List.getD_eq_getElem?_getD,hy];rfl
   have hltI:(k:Int)<n:=by omega
   have hk64:(k:Int)≤64:=by omega
   have hyl':=HD hyl
   clear hq hm hat hy hyl
   gi_wp2_with (refine aa hF rfl rfl (ar (bQ _ _ rfl) ?_))
   have hSd:=hS.drawn (wr.drawn+1)
   have hJd:J xs { wr with drawn:=wr.drawn+1 }:=hJ'.out _ _ _ none hJk ⟨rfl,rfl,rfl,Nat.le_refl _,fun _ _ _=>rfl⟩ (fun r e=>by cases e)
   have hYw:=hY'.out xs ⟨k,hlt⟩ _ hJd (by have:=congrArg List.length hxs'.out;rw[List.length_map,List.length_range] at this;omega)
   simp only[hyl'.out] at hYw
   refine lC (X:=Bool) hF (fun G χ w'=>if G 17 then (if χ 17 then J (xs++[⟨k,hlt⟩]) w'∧∀ e∈LA,w'.heap[e.b]?=some (.cells e.cs e.T (0,0)) else Jx (xs++[⟨k,hlt⟩]) w') else w'={ wr with drawn:=wr.drawn+1 }) (fun i=>i == 17) rfl ?_
   have hcw:∀ (G:Gs) (χ:Nat->Bool) (w' : World),G 17=false->(if G 17 then (if χ 17 then J (xs++[⟨k,hlt⟩]) w'∧∀ e∈LA,w'.heap[e.b]?=some (.cells e.cs e.T (0,0)) else Jx (xs++[⟨k,hlt⟩]) w') else w'={ wr with drawn:=wr.drawn+1 }) ->
     St wr (List.map (fun x=>x.b) [(⟨bm,#[.int .i64 64],3,true⟩:Ent),⟨bp,#[.pointer (some ⟨b,0,none⟩)],218,true⟩,⟨b,gB R z f n wh,295,true⟩]) w' [(⟨bm,#[.int .i64 64],3,true⟩:Ent),⟨bp,#[.pointer (some ⟨b,0,none⟩)],218,true⟩,⟨b,gB R z f n wh,295,true⟩]:=by
    intro G χ w' h17 hC
    rw[h17,if_neg (by simp)] at hC
    subst hC
    exact hSd
   (refine cR hF rfl (fun _=>rfl) rfl (fun G χ w hg hC=>ad rfl) ?_)
   (refine cR hF rfl (fun _=>rfl) rfl (fun G χ w hg hC=>ac _ _ rfl (hcw G χ w (hg 17 (by kernel_rfl)) hC)) ?_)
   (refine cR hF rfl (fun _=>rfl) rfl (fun G χ w hg hC=>ac _ _ rfl (hcw G χ w (hg 17 (by kernel_rfl)) hC)) ?_)
   (refine cR hF rfl (fun _=>rfl) rfl (fun G χ w hg hC=>ah rfl) ?_)
   (refine cR hF rfl (fun _=>rfl) rfl (fun G χ w hg hC=>ag rfl) ?_)
   (refine cR hF rfl (fun _=>rfl) rfl (fun G χ w hg hC=>ac _ _ rfl (hcw G χ w (hg 17 (by kernel_rfl)) hC)) ?_)
   (refine cR hF rfl (fun _=>rfl) rfl (fun G χ w hg hC=>ad rfl) ?_)
   (refine cR hF rfl (fun _=>rfl) rfl (fun G χ w hg hC=>bL rfl) ?_)
   (refine cR hF rfl (fun _=>rfl) rfl (fun G χ w hg hC=>ac _ _ rfl (hcw G χ w (hg 17 (by kernel_rfl)) hC)) ?_)
   (refine cR hF rfl (fun _=>rfl) rfl (fun G χ w hg hC=>ah rfl) ?_)
   (refine cR hF rfl (fun _=>rfl) rfl (fun G χ w hg hC=>ag rfl) ?_)
   (refine cR hF rfl (fun _=>rfl) rfl (fun G χ w hg hC=>ac _ _ rfl (hcw G χ w (hg 17 (by kernel_rfl)) hC)) ?_)
   (refine cR hF rfl (fun _=>rfl) rfl (fun G χ w hg hC=>cw rfl) ?_)
   (refine cR hF rfl (fun _=>rfl) rfl (fun G χ w hg hC=>ah rfl) ?_)
   (refine cR hF rfl (fun _=>rfl) rfl (fun G χ w hg hC=>ag rfl) ?_)
   (refine cR hF rfl (fun _=>rfl) rfl (fun G χ w hg hC=>aY _ _ _ rfl) ?_)
   (refine cR hF rfl (fun _=>rfl) rfl (fun G χ w hg hC=>ac _ _ rfl (hcw G χ w (hg 17 (by kernel_rfl)) hC)) ?_)
   refine ye (fun _=>rfl) rfl (fun x=>.bool x) ?_ ?_
   ·intro G χ w' h17 hC
    simp only[h17,Bool.false_eq_true,if_false] at hC
    subst hC
    refine rp (xs:=[_]) rfl hF (fun h=>h1) hYw ?_
    rintro e W' (⟨rfl,hJ2,hk'⟩|⟨rfl,hJx2⟩)
    ·refine⟨_,rfl,true,rfl,?_⟩
     simp only[bT,if_true]
     refine⟨hJ2,fun e he=>?_⟩
     have hg2:=hSd.get e (by rw[← hLA'.out] at he;exact he)
     rw[← hLA'.out] at he
     rw[hk' e.b (List.mem_map_of_mem he)]
     exact hg2
    ·refine⟨_,rfl,false,rfl,?_⟩
     simp only[bT,if_true,Bool.false_eq_true,if_false]
     exact hJx2
   refine yf hF rfl (fun _=>rfl) rfl (fun χ=>.bool (!(χ 17))) (fun χ χ' hh=>(show Value.bool (!(χ 17))=Value.bool (!(χ' 17)) by rw[hh 17 (.inr (by kernel_rfl))])) (fun G χ w hC=>tN rfl) ?_
   intro χ G w' hG hC
   have h17:=hG 17 (by simp)
   rw[h17,if_pos rfl] at hC
   cases hχ:χ 17 with
   | true=>
    rw[hχ,if_pos rfl] at hC
    simp only[Nat.reduceAdd,hχ,Bool.not_true]
    gi_wp2
    go_roundw
    case rel=>exact⟨k+1,_,by omega,by go_num,by rw[List.map_append,hxs'.out,List.range_succ];rfl,hC.1,hC.2⟩
    case measure=>simp[intOf];omega
   | false=>
    rw[hχ,if_neg (by simp)] at hC
    simp only[Nat.reduceAdd,hχ,Bool.not_false]
    gi_wp2
    refine bodyPost_ret (results_none rfl _ _ _) rfl ?_
    exact⟨⟨_,rfl⟩,.inr ⟨_,⟨k,hlt,by rw[List.map_append,hxs'.out];rfl⟩,hC⟩⟩
  ·obtain rfl:k=n:=by omega
   gi_wp2_with (refine aa hF rfl rfl (ar (bQ _ _ rfl) ?_))
   go_end0
   exact⟨⟨_,rfl⟩,.inl ⟨_,hxs'.out,hJk⟩⟩
theorem gS {P:Program}{fn:Func}{p q:Tmp}(h:fn.results=#[.tmp p,.tmp q]){tmps:List Value}{x y:Value}[hp:Nth tmps p x][hq:Nth tmps q y]{w:World} :
  (results fn tmps.toArray).run P w=.ok (.tuple #[x,y]) w:=by
 have h1:tmps[p]?.getD undef=x:=by simp[hp.h]
 have h2:tmps[q]?.getD undef=y:=by simp[hq.h]
 simp[results,h,h1,h2]
theorem j3 {α:Type}(l:List α)(d:α):(List.range l.length).map (fun i=>l.getD i d)=l:=by
 apply List.ext_getElem (by simp)
 intro i h1 h2
 simp[h2]
theorem nZ {W:World}{x:Bx}{z:Nat}{l:List Int}(hO:St w0 bs W (ce x::H))(hW:BxW x z l)
  (hR:∀ x' v E' w',x'.1=x.1->BxW x' z []->IS v l E'->St w0 bs w' (ce x'::(E'++H))->ab R' (.tuple #[v,.int .i64 0]) w'):Calls prog 397 #[.pointer (some ⟨x.1,0,none⟩),.int .i64 64] W R':=by
 have hS:=hO
 clear hO
 obtain⟨b,R,z',f,n,wh⟩:=x
 obtain rfl:z=z':=hW.sz.symm
 have hn:n=l.length:=hW.cn
 have hf:f<z:=hW.fr
 have hz1:=hW.z1
 have h64:=hW.z64
 have hle:=hW.le
 have hlen:R.length=64:=hW.len
 have c0:=vB (R:=R) (z:=z) (f:=f) (n:=n) (wh:=wh) hlen
 simp only[ce] at hS
 refine(callsIn_wide (n:=3)).1 ?_
 have hF:=bY
 refine callsIn_of_wp_marks func397 rfl trivial ?_ rfl
 simp only[ntmps397,List.size_toArray,List.length_cons,List.length_nil,Nat.reduceAdd,Nat.reduceSub,Array.replicate_succ,Array.replicate_zero,List.push_toArray,List.append_toArray,List.nil_append,List.cons_append]
 have hn':=HD hn
 clear hn
 gi_wp2_with (first|gi_at_call 271;refine callsIn_wide.2 (jp hS hz1 ?_);clear hS;intro w hS;unfold ab|refine aD (.alloc 174) rfl ?_;refine aa hF rfl rfl (cg _ rfl hS ?_);clear hS;intro bN w _ hS|gi_at_call 426;refine callsIn_wide.2 (x8 hS 64 ?_);clear hS;intro bm bp w hS;unfold ab)
 have hnd:=hS.nd
 have hstop:=sg (m:=3 - 1) hW (by omega) bm bp (W:=w) (fun e he=>hS.get _ (by
  simp only[List.mem_cons,List.not_mem_nil,or_false] at he ⊢
  rcases he with rfl|rfl|rfl <;> simp[*])) (by
  simp only[List.pairwise_cons,List.mem_cons,List.mem_nil_iff,forall_eq_or_imp] at hnd ⊢
  obtain⟨⟨n1,_,n3,_⟩,⟨_,n5,_⟩,_⟩:=hnd
  exact⟨⟨n1,n3,fun _ h=>h.elim⟩,⟨n5,fun _ h=>h.elim⟩,⟨fun _ h=>h.elim,List.Pairwise.nil⟩⟩)
 refine eO (w0:=w0) (bs:=bs) (X:=Value×List Ent) (Y:=Unit) (by omega) (gf:=451) (lb:=#[.pointer (some ⟨bm,0,none⟩),.pointer (some ⟨bp,0,none⟩)]) rfl ae
  (K:=[(⟨bm,#[.int .i64 64],3,true⟩:Ent),⟨bp,#[.pointer (some ⟨b,0,none⟩)],218,true⟩,⟨b,gB R z f n wh,295,true⟩]) hS.chg.size ?_
  hstop (fun _=>rfl)
  (fun pre x=>pre.length≤65∧IS x.1 (pre.map (fun a=>l.getD a.j 0)) x.2) (fun _ x=>⟨bN,#[x.1],174,true⟩::(x.2++(⟨bm,#[.int .i64 64],3,true⟩::⟨bp,#[.pointer (some ⟨b,0,none⟩)],218,true⟩::⟨b,gB R z f n wh,295,true⟩::H))) ?_
  (fun _ _ _=>False) (fun _ _ _=>[])
  (x0:=(.slice none 0 0,[])) ⟨by simp,IS.nil⟩ hS.p
  (fun x=>{ tmps:=#[.pointer (some ⟨b,0,none⟩),.int .i64 64,undef,undef,.slice none 0 0,.int .i64 0,.pointer (some ⟨bN,0,none⟩),.int .i64 (l.getD x.j 0),.bool false,.pointer (some ⟨b,0,none⟩),.bool true,.bool false,.bool false,.int .i64 64,.bool false,.pointer (some ⟨b,0,none⟩),.int .i64 64,.func (.func 451) #[] #[.pointer (some ⟨bm,0,none⟩),.pointer (some ⟨bp,0,none⟩)],.int .i64 (l.getD x.j 0),undef,undef,undef,undef,undef,undef,undef,undef,undef,undef,undef,undef,undef,undef,undef,undef,undef,undef,undef,undef,undef,undef,undef,undef,undef,undef,undef,undef,undef],defers:=[] }) ?assign ?body ?done ?stop
 ·intro e he
  refine hS.lt ?_
  simp only[List.mem_cons,List.not_mem_nil,or_false] at he ⊢
  rcases he with rfl|rfl|rfl <;> simp[*]
 ·intro _ _ _ e he
  simp only[List.mem_cons,List.mem_append,List.not_mem_nil,or_false] at he ⊢
  rcases he with rfl|rfl|rfl <;> simp[*]
 case assign=>
  clear hnd hstop hS hR
  intro l2 x W2 K hK
  have hF:=cu l2
  gi_wp2
  exact hK
 case body=>
  clear hnd hstop hS hR
  rintro l2 pre el ⟨v,E0⟩ w2 ⟨_,hsl⟩ hlt hS
  have hF:=cu l2
  have hpl:(pre.map (fun a=>l.getD a.j 0)).length≤65:=by rw[List.length_map];omega
  have hsl:Sl 3 1 v (pre.map (fun a=>l.getD a.j 0)).length ((pre.map (fun a=>l.getD a.j 0)).flatMap sb) E0:=hsl
  have hone0:=hsl.one
  simp only at hS
  gi_wp2_with (first|refine aa hF rfl rfl (eD _ _ _ rfl hS (by decide) rfl (by decide) (by decide) ?_);clear hS;intro bN w hbN hS|(refine aD (.call { callee:=.builtin .append,args:=#[_,_],argTypes:=#[_,_] }) rfl ?_;refine aa hF rfl rfl (eW _ _ _ _ rfl rfl hS (by rfl) hsl (by rfl) (by simp only[maxLen];omega) (by omega) ?_);clear hS;intro v' E' w hsl' hne hS;have hone:=hsl'.one)|refine aa hF rfl rfl (ar (ac _ _ rfl hS) ?_)|refine aa hF rfl rfl (cL _ _ _ rfl hS ?_);clear hS;intro w hS)
  refine⟨(v',E'),⟨by rw[List.length_append];simp only[List.length_map] at hpl;simp only[List.length_cons,List.length_nil];omega,?_⟩,hS.p⟩
  rw[List.map_append]
  exact IS.snoc hsl'
 case done=>
  rintro d xs ⟨v,E0⟩ w2 hxs ⟨_,hsl⟩ hS0 hd
  clear hnd hstop hS
  have hS:=hS0.rebase
  have e:xs.map (fun a=>l.getD a.j 0)=l:=by
   have h1:xs.map (fun a=>l.getD a.j 0)=(xs.map (·.j)).map (fun j=>l.getD j 0):=by rw[List.map_map];rfl
   rw[h1,hxs,hn'.out]
   exact j3 l 0
  rw[e] at hsl
  have hone0:=Sl.one hsl
  have hln:=hsl.len hn'.out.symm
  have hm:(f+n) % z<z:=Nat.mod_lt _ (by omega)
  obtain⟨q,hq⟩:∃ q,(f+n) % z=q:=⟨_,rfl⟩
  rw[hq] at hm
  have e1:SumIs (f:Int) (n:Int) ((f:Int)+n):=⟨rfl,by omega,by have:=hn'.out;omega⟩
  have e2:RemIs ((f:Int)+(n:Int)) (z:Int) (q:Int):=⟨by rw[Int.tmod_eq_emod_of_nonneg (by omega),← Int.natCast_add];omega,by omega⟩
  have c1:=BG (R:=R) (z:=z) (f:=f) (n:=n) (wh:=wh) hlen
  have c2:=yG (R:=R) (z:=z) (f:=q) (n:=n) (wh:=wh) hlen
  have c0':=vB (R:=R) (z:=z) (f:=q) (n:=n) (wh:=wh) hlen
  have s1:=Hi (R:=R) (z:=z) (f:=f) (n:=n) (wh:=wh) hlen q
  have s2:=DZ (R:=R) (z:=z) (f:=q) (n:=n) (wh:=wh) hlen 0
  have s2' : SetAt (gB R z q n wh) (0+66) (.int .i64 (IntKind.i64.wrap 0)) (gB R z q 0 wh):=by
   rw[show IntKind.i64.wrap 0=0 from by decide];exact s2
  have hWq:BxW (b,R,z,q,0,wh) z []:=⟨hlen,rfl,hz1,h64,hm,rfl,Nat.zero_le _,by simp⟩
  simp only at hS
  have e':=HD e
  have hq':=HD hq
  clear e hq
  gi_wp2_with (first|refine wpIn_wide.2 ?_;refine aR 15 hS ?_;clear hS;intro w hS;simp only[List.take_succ_cons,List.take_zero,List.drop_succ_cons,List.drop_zero];(repeat (first|refine ax rfl (ac _ _ rfl hS) ?_|refine dn (.binOp .add _ _ _ _) rfl ?_;refine ax rfl (bL rfl) ?_|refine dn (.binOp .rem _ _ _ _) rfl ?_;refine ax rfl (cw rfl) ?_|refine dn (.call { callee:=.builtin .len,args:=#[_],argTypes:=#[_] }) rfl ?_;refine ax rfl (aA rfl) ?_|still_step));refine wpStill_nil ?_;refine bP rfl hS ?_;clear hS;intro w hS;go_wp2|refine wpIn_wide.2 ?_;refine aR 9 hS ?_;clear hS;intro w hS;simp only[List.take_succ_cons,List.take_zero,List.drop_succ_cons,List.drop_zero];(repeat (first|refine ax rfl (ac _ _ rfl hS) ?_|refine dn (.call { callee:=.builtin .len,args:=#[_],argTypes:=#[_] }) rfl ?_;refine ax rfl (aA rfl) ?_|still_step));refine wpStill_nil ?_;refine bP rfl hS ?_;clear hS;intro w hS;go_wp2|refine aa hF rfl rfl (ar (ac _ _ rfl hS) ?_))
  refine bS hd hS0 hS (fun W3 hS3=>⟨_,gS rfl,?_⟩)
  exact hR (b,R,z,q,0,wh) v E0 W3 rfl hWq hsl (show St w0 bs W3 (⟨b,gB R z q 0 wh,295,true⟩::(E0++H)) from hS3.p)
 case stop=>
  rintro d c pre y w2 _ hf
  exact hf.elim
end Go.Proofs.YtnbgljbhkeffkaaGreatDoor
