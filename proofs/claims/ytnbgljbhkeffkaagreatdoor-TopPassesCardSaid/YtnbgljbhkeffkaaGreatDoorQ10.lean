/-
  Contracts of what the law TopPasses reaches, part 10: SlotsC Hobj Heap HeapB.
-/
import Derived.Test.YtnbgljbhkeffkaaGreatDoorQ06
import Derived.Test.YtnbgljbhkeffkaaGreatDoorQ05
open Go.Proofs.Tryz
set_option linter.unusedVariables false
set_option linter.unusedSimpArgs false
set_option maxHeartbeats 4000000
set_option maxRecDepth 100000
namespace Go.Proofs.YtnbgljbhkeffkaaGreatDoor
open Go.RowKit Go.Mm
attribute [local go_sem] Oper.semAt_some
variable {R:Ending->World->Prop}{w:World}{w0:World}{bs:List Nat}{H H' H1 E:List Ent}{L X:List (Int×Int)}{b:Nat}{n:Int}
instance MP:ScalarT prog 143:=⟨by kernel_rfl,by kernel_rfl⟩
def iG:Tb->List (Int×Int)
 | none=>[]
 | some L=>L
theorem ju {m:Nat}{W:World}(hP:zq W b n X){v:Bool}(hv:decide (0<n)=v)(hR:ab R (.bool v) W):CallsIn Fence.wide m prog 195 #[.pointer (some ⟨b,0,none⟩)] W R:=callsIn_wide.2 (cF hP v hv hR)
theorem ms {m:Nat}{W:World}(hR:ab R (.bool false) W):CallsIn Fence.wide m prog 195 #[.pointer none] W R:=callsIn_wide.2 (eL hR)
structure SltOf (st:Int)(L:List (Int×Int)) where
 i:Nat
 lt:i<L.length
 is:cJ st L i=true
theorem nv {m:Nat}{p:Option Addr}{T:Tb}{L:List (Int×Int)}(hL:iG T=L){st:Int}(h1:1≤m)(bp bf:Nat){W:World}
  (hE:∀ e∈((⟨bp,#[.pointer p],143,true⟩:Ent)::⟨bf,#[.int .i64 st],3,true⟩::E),W.heap[e.b]?=some (.cells e.cs e.T (0,0)))
  (hnd:((⟨bp,#[.pointer p],143,true⟩:Ent)::⟨bf,#[.int .i64 st],3,true⟩::E).Pairwise (fun x y=>x.b≠y.b)) (hT:TA p T E) :
  SeqStopsK Fence.wide m prog 341 #[.pointer (some ⟨bp,0,none⟩),.pointer (some ⟨bf,0,none⟩)] (fun i:SltOf st L=>#[.int .i64 (i.i:Nat),.int .u32 (L.getD i.i (0,0)).2]) (Kept (bp::bf::E.map (·.b)))
   (fun xs=>xs.map (·.i)=gl (cJ st L) L.length) (fun pre=>∃ k,k<L.length∧cJ st L k=true∧pre.map (·.i)=gl (cJ st L) k++[k]) 257 W:=by
 intro l J Jx W1 hW hJ hJx hY h0
 have hF:=bY
 have hk:∀ W',Kept (bp::bf::E.map (·.b)) W1 W'->St W' [] W' (⟨bp,#[.pointer p],143,false⟩::⟨bf,#[.int .i64 st],3,false⟩::ro E):=by
  intro W' hk
  refine tV (E:=(⟨bp,#[.pointer p],143,true⟩:Ent)::⟨bf,#[.int .i64 st],3,true⟩::E) (fun e he=>?_) hnd
  have h1:=hE e he
  rw[hk e.b,hW.block e.b (bG h1)]
  ·exact h1
  ·simp only[List.mem_cons] at he
   rcases he with rfl|rfl|he
   ·simp
   ·simp
   ·simp only[List.mem_cons,List.mem_map];exact .inr (.inr ⟨e,he,rfl⟩)
 have hS:=hk W1 (fun _ _=>rfl)
 clear hE hnd
 refine callsIn_of_wp func341 rfl trivial ?_ rfl
 simp only[ntmps341,List.size_toArray,List.length_cons,List.length_nil,Nat.reduceAdd,Nat.reduceSub,Array.replicate_succ,Array.replicate_zero,List.push_toArray,List.append_toArray,List.nil_append,List.cons_append]
 rcases T with _|L'
 ·obtain⟨rfl,rfl⟩:=hT
  obtain rfl:L=[]:=hL.symm
  clear hk hJ hJx hY hW
  simp only[ro,List.map_nil] at hS
  gi_wp2_with (first|gi_at_call 195;refine ms ?_;unfold ab|refine aa hF rfl rfl (ar (ac _ _ rfl hS) ?_))
  refine bodyPost_ret (results_none rfl _ _ _) rfl ?_
  exact⟨⟨_,rfl⟩,.inl ⟨[],rfl,h0⟩⟩
 obtain rfl:L=L':=hL.symm
 obtain⟨hw,b,rfl,rfl⟩:=hT
 simp only[List.map_cons,List.map_nil] at *
 by_cases hl:0<L.length
 ·have hval:decide ((0:Int)<L.length)=true:=by simpa using hl
  have h256:(L.length:Int)≤256:=by have:=hw.hi;omega
  have hk':=HD hk
  have hY':=HD hY
  have hJ':=HD hJ
  clear hl hk hJx hY hJ hW
  simp only[ro,List.map_cons,List.map_nil] at hS
  gi_wp2_with (first|gi_at_call 195;refine ju (hS.has inferInstance) hval ?_;unfold ab|refine aa hF rfl rfl (ar (ac _ _ rfl hS) ?_)|refine wpIn_wide.2 ?_;refine av hS (fun hne=>?_);(repeat (go_big_quiet_want;first|((refine aE bk (fun w hS=>ac _ _ rfl hS) ?_);go_big_quiet_on)|(go_big_quiet_op;go_big_quiet_on)));refine wpQuiet_nil ?_;clear hS hne;intro w hS)
  have hlt0:∀ x∈[bp,bf,b],x<W1.heap.size:=by
   intro x hx
   have:=hk'.out W1 (fun _ _=>rfl)
   simp only[List.mem_cons,List.not_mem_nil,or_false] at hx
   rcases hx with rfl|rfl|rfl
   ·exact this.lt (e:=⟨_,_,_,_⟩) (.head _)
   ·exact this.lt (e:=⟨_,_,_,_⟩) (.tail _ (.head _))
   ·exact this.lt (e:=⟨_,_,_,_⟩) (.tail _ (.tail _ (.head _)))
  have hlt':=HD hlt0
  clear hlt0
  gi_loopw [18] (fun v wr=>∃ (k:Nat) (xs:List (SltOf st L)),k≤L.length∧v=.int .i64 k∧xs.map (·.i)=gl (cJ st L) k∧J xs wr∧Kept [bp,bf,b] W1 wr) (fun v _=>L.length - (intOf v).toNat)
  case atStart=>exact⟨0,[],Nat.zero_le _,rfl,rfl,hJ'.out _ _ _ none h0 (hS.chg.grown none) (fun r e=>by cases e),eR hS.chg hlt'.out⟩
  case round=>
   clear hS
   obtain⟨k,xs,hkl,rfl,hxs,hJk,hkk⟩:=hrel
   have hxs':=HD hxs
   clear hxs
   have hS:=hk'.out wr hkk
   simp only[ro,List.map_cons,List.map_nil] at hS
   by_cases hlt:k<L.length
   ·have hb:=ll (n:=L.length) (fB hlt)
    obtain⟨⟨s,g⟩,hx⟩:∃ x,L.getD k (0,0)=x:=⟨_,rfl⟩
    rw[hx] at hb
    simp only at hb
    by_cases hs:s=st
    ·have hst:cJ st L k=true:=by unfold cJ;rw[hx];simpa using hs
     have hgl:=HD (Sv hst)
     have q:(s == st)=true:=by simpa using hs
     have hx':=HD hx
     have hst':=HD hst
     clear hx hs hst
     gi_wp2_with (first|(first|refine aa hF rfl rfl (ar (ac _ _ rfl hS) ?_)|refine aa hF rfl rfl (ar (ai _ _ rfl hS) ?_))|refine aa hF rfl rfl (de _ _ _ rfl hS ?_);clear hS;intro w hS|refine aa hF rfl rfl (cg _ rfl hS ?_);clear hS;intro bN w hbN hS)
     have hJw:=hJ'.out _ _ _ none hJk (hS.chg.grown none) (fun r e=>by cases e)
     have hkw:=hkk.trans (eR (bs:=[bp,bf,b]) hS.chg (fun x hx=>by have:=hlt'.out x hx;have h2:=hkk x hx;exact ji h2 this))
     have hYw:=hY'.out xs ⟨k,hlt,hst'.out⟩ _ hJw (by have:=e9 (cJ st L) k;have h2:=congrArg List.length hxs'.out;rw[List.length_map] at h2;omega)
     simp only[hx'.out] at hYw
     obtain⟨fn,tmps,assign,body,hy,hRd⟩:=hYw
     rw[hy,Oper.uponIn_round]
     refine⟨fun _=>h1,hRd.mono ?_⟩
     rintro e W' (⟨rfl,hJ',hk'⟩|⟨rfl,hJx'⟩)
     ·gi_wp2
      go_roundw
      case rel=>exact⟨k+1,_,by omega,by go_num,by rw[hgl.out,List.map_append,hxs'.out];rfl,hJ',hkw.trans hk'⟩
      case measure=>simp[intOf];omega
     ·gi_wp2
      refine bodyPost_ret (results_none rfl _ _ _) rfl ?_
      exact⟨⟨_,rfl⟩,.inr ⟨_,⟨k,hlt,hst'.out,by rw[List.map_append,hxs'.out];rfl⟩,hJx'⟩⟩
    ·have hst:cJ st L k=false:=by unfold cJ;rw[hx];simpa using hs
     have hgl:=HD (eS hst)
     have q:(s == st)=false:=by simpa using hs
     clear hx hs hst
     gi_wp2_with (first|(first|refine aa hF rfl rfl (ar (ac _ _ rfl hS) ?_)|refine aa hF rfl rfl (ar (ai _ _ rfl hS) ?_))|refine aa hF rfl rfl (de _ _ _ rfl hS ?_);clear hS;intro w hS|refine aa hF rfl rfl (cg _ rfl hS ?_);clear hS;intro bN w hbN hS)
     have hJw:=hJ'.out _ _ _ none hJk (hS.chg.grown none) (fun r e=>by cases e)
     have hkw:=hkk.trans (eR (bs:=[bp,bf,b]) hS.chg (fun x hx=>by have:=hlt'.out x hx;have h2:=hkk x hx;exact ji h2 this))
     go_roundw
     case rel=>exact⟨k+1,xs,by omega,by go_num,by rw[hgl.out,hxs'.out],hJw,hkw⟩
     case measure=>simp[intOf];omega
   ·obtain rfl:k=L.length:=by omega
    gi_wp2_with (refine aa hF rfl rfl (ar (bQ _ _ rfl) ?_))
    go_end0
    exact⟨⟨_,rfl⟩,.inl ⟨_,hxs'.out,hJk⟩⟩
 ·have hval:decide ((0:Int)<L.length)=false:=by simpa using hl
  have hn:L.length=0:=by omega
  clear hl hk hJ hJx hY hW
  simp only[ro,List.map_cons,List.map_nil] at hS
  gi_wp2_with (first|gi_at_call 195;refine ju (hS.has inferInstance) hval ?_;unfold ab|refine aa hF rfl rfl (ar (ac _ _ rfl hS) ?_))
  refine bodyPost_ret (results_none rfl _ _ _) rfl ?_
  have e0:gl (cJ st L) L.length=[]:=by rw[hn];rfl
  exact⟨⟨_,rfl⟩,.inl ⟨[],e0.symm,h0⟩⟩
theorem u5 {W:World}{st:Int}{p:Option Addr}(hO:St w0 bs W H)
  (hR:∀ bp bf w',St w0 bs w' (⟨bf,#[.int .i64 st],3,true⟩::⟨bp,#[.pointer p],143,true⟩::H)->ab R (.func (.func 341) #[] #[.pointer (some ⟨bp,0,none⟩),.pointer (some ⟨bf,0,none⟩)]) w') :
  Calls prog 266 #[.pointer p,.int .i64 st] W R:=by
 have hS:=hO
 go_enter func266,ntmps266
 go_wp2_with ((refine am _ rfl hS ?_);clear hS;intro bN w hbN hS)
 exact hR _ _ _ hS
theorem zx (T:Tb):v8 T=(gl (cJ 1 (iG T)) (iG T).length).map (gV (iG T)):=by
 cases T <;> rfl
theorem tD {W:World}{p:Option Addr}{T:Tb}(hO:St w0 bs W H)(hT:TA p T E)[hc:Cut H E H1]
  (hR:∀ v E' w',RS v (v8 T) E'->TA p T E->St w0 bs w' (E'++(E++H1))->ab R v w'):Calls prog 418 #[.pointer p] W R:=by
 have hS:=hO.fr E H1
 clear hO
 have hlen:(iG T).length≤256:=by
  cases T with
  | none=>simp[iG]
  | some L=>exact hT.1.hi
 refine(callsIn_wide (n:=3)).1 ?_
 have hF:=bY
 refine callsIn_of_wp_marks func418 rfl trivial ?_ rfl
 simp only[ntmps418,List.size_toArray,List.length_cons,List.length_nil,Nat.reduceAdd,Nat.reduceSub,Array.replicate_succ,Array.replicate_zero,List.push_toArray,List.append_toArray,List.nil_append,List.cons_append]
 gi_wp2_with (first|gi_at_call 266;refine callsIn_wide.2 (u5 hS ?_);clear hS;intro bp bf w hS;unfold ab|refine aa hF rfl rfl (cg _ rfl hS ?_);clear hS;intro bN w hbN hS)
 have hnd:=hS.nd
 have hstop:=nv (m:=3 - 1) (p:=p) (T:=T) rfl (st:=1) (E:=E) (by omega) bp bf (W:=w) (fun e he=>by
  simp only[List.mem_cons] at he
  rcases he with rfl|rfl|he
  ·exact hS.get _ (.tail _ (.head _))
  ·exact hS.get _ (.head _)
  ·exact hS.get _ (by simp[he])) (by
  simp only[List.pairwise_cons,List.mem_cons,List.mem_append,forall_eq_or_imp] at hnd ⊢
  obtain⟨⟨n1,n2,n3⟩,⟨n4,n5⟩,⟨n6,n7⟩⟩:=hnd
  refine⟨⟨fun e=>n1 e.symm,fun a ha=>n5 a (.inl ha)⟩,fun a ha=>n3 a (.inl ha),(List.pairwise_append.1 n7).1⟩) hT
 refine eO (w0:=w0) (bs:=bs) (X:=Value×List Ent) (Y:=Unit) (by omega) (gf:=341) (lb:=#[.pointer (some ⟨bp,0,none⟩),.pointer (some ⟨bf,0,none⟩)]) rfl ae
  (K:=⟨bp,#[.pointer p],143,true⟩::⟨bf,#[.int .i64 1],3,true⟩::E) hS.chg.size ?_
  hstop (fun _=>rfl)
  (fun pre x=>pre.length≤257∧RS x.1 (pre.map (fun a=>gV (iG T) a.i)) x.2) (fun _ x=>⟨bf,#[.int .i64 1],3,true⟩::⟨bp,#[.pointer p],143,true⟩::⟨bN,#[x.1],345,true⟩::(x.2++(E++H1))) ?_
  (fun _ _ _=>False) (fun _ _ _=>[])
  (x0:=(.slice none 0 0,[])) ⟨by simp,RS.nil⟩ hS
  (fun x=>{ tmps:=#[.pointer p,undef,.slice none 0 0,.pointer (some ⟨bN,0,none⟩),.int .i64 (x.i:Nat),.int .u32 ((iG T).getD x.i (0,0)).2,.pointer p,.func (.func 341) #[] #[.pointer (some ⟨bp,0,none⟩),.pointer (some ⟨bf,0,none⟩)],.int .i64 (x.i:Nat),.int .u32 ((iG T).getD x.i (0,0)).2,undef,undef,undef,undef,undef,undef,undef],defers:=[] }) ?assign ?body ?done ?stop
 ·intro e he
  refine hS.lt ?_
  simp only[List.mem_cons,List.mem_append] at he ⊢
  rcases he with rfl|rfl|he <;> simp[*]
 ·intro _ _ _ e he
  simp only[List.mem_cons,List.mem_append] at he ⊢
  rcases he with rfl|rfl|he <;> simp[*]
 case assign=>
  clear hnd hstop hS hT hR hlen
  intro l x W K hK
  have hF:=cu l
  gi_wp2
  exact hK
 case body=>
  clear hnd hstop hS hR
  rintro l pre el ⟨v,E0⟩ w2 ⟨_,hsl⟩ hlt hS
  have hF:=cu l
  have hpl:(pre.map (fun a=>gV (iG T) a.i)).length≤256:=by rw[List.length_map];omega
  have hsl:Sl 176 2 v (pre.map (fun a=>gV (iG T) a.i)).length ((pre.map (fun a=>gV (iG T) a.i)).flatMap dE) E0:=hsl
  have hone0:=hsl.one
  simp only at hS
  gi_wp2_with (first|refine aa hF rfl rfl (eD _ _ _ rfl hS (by decide) rfl (by decide) (by decide) ?_);clear hS;intro bN w hbN hS|(refine aD (.call { callee:=.builtin .append,args:=#[_,_],argTypes:=#[_,_] }) rfl ?_;refine aa hF rfl rfl (eW _ _ _ _ rfl rfl hS (by rfl) hsl (by rfl) (by simp only[maxLen];omega) (by omega) ?_);clear hS;intro v' E' w hsl' hne hS;have hone:=hsl'.one)|refine aa hF rfl rfl (ar (bQ _ _ rfl) ?_)|refine aa hF rfl rfl (ar (ac _ _ rfl hS) ?_)|refine aa hF rfl rfl (cL _ _ _ rfl hS ?_);clear hS;intro w hS)
  refine⟨(v',E'),⟨by rw[List.length_append];simp only[List.length_map] at hpl;simp only[List.length_cons,List.length_nil];omega,?_⟩,hS.p⟩
  rw[List.map_append]
  exact RS.snoc hsl'
 case done=>
  rintro d xs ⟨v,E0⟩ w2 hxs ⟨_,hsl⟩ hS0 hd
  clear hnd hstop hS
  have hS:=hS0.rebase
  have hone0:=Sl.one hsl
  simp only at hS
  gi_wp2_with (refine aa hF rfl rfl (ar (ac _ _ rfl hS) ?_))
  refine bS hd hS0 hS (fun W3 hS3=>⟨v,cH rfl,?_⟩)
  have e:xs.map (fun a=>gV (iG T) a.i)=v8 T:=by rw[zx,← hxs,List.map_map];rfl
  rw[e] at hsl
  exact hR v E0 W3 hsl hT hS3.p
 case stop=>
  rintro d c pre y w2 _ hf
  exact hf.elim
theorem jd {W:World}{p:Option Addr}{T:Tb}(hO:St w0 bs W H)(hT:TA p T E)[hc:Cut H E H1]
  (hR:∀ E' w',TA p (ir T) E'->St w0 bs w' (E'++H1)->ab R (.tuple #[.agg #[.int .i64 (kC T),.int .u32 (kD T)],.int .i64 (jx T)]) w'):Calls prog 180 #[.pointer p] W R:=by
 have hS:=hO.fr E H1
 clear hO
 by_cases hok:fe T=true
 ·rcases T with _|L
  ·cases hok
  have hl:0<L.length:=by simpa [fe] using hok
  obtain⟨hw,b,rfl,rfl⟩:=id hT
  simp only[cq] at hS
  have hval:decide ((0:Int)<L.length)=true:=by simpa using hl
  have h256:L.length≤256:=hw.hi
  have hl':=HD hl
  clear hl hok
  refine(callsIn_wide (n:=3)).1 ?_
  have hF:=bY
  refine callsIn_of_wp_marks func180 rfl trivial ?_ rfl
  simp only[ntmps180,List.size_toArray,List.length_cons,List.length_nil,Nat.reduceAdd,Nat.reduceSub,Array.replicate_succ,Array.replicate_zero,List.push_toArray,List.append_toArray,List.nil_append,List.cons_append]
  gi_wp2_with (first|refine aD (.alloc 176) rfl ?_;refine aa hF rfl rfl (cg _ rfl hS ?_);clear hS;intro br w _ hS|refine aD (.alloc 31) rfl ?_;refine aa hF rfl rfl (cg _ rfl hS ?_);clear hS;intro be w _ hS|refine aD (.box 143 _) rfl ?_;refine aa hF rfl rfl (eh _ _ rfl hS ?_);clear hS;intro bt w _ hS|gi_at_call 195;refine ju (hS.has inferInstance) hval ?_;unfold ab|gi_at_call 266;refine callsIn_wide.2 (u5 hS ?_);clear hS;intro bp bf w hS;unfold ab|refine aa hF rfl rfl (ar (ac _ _ rfl hS) ?_))
  have hnd:=hS.nd
  have hstop:=nv (m:=3 - 1) (p:=some ⟨b,0,none⟩) (T:=some L) (L:=L) rfl (st:=0) (E:=[⟨b,dG L.length (fC L),239,true⟩]) (by omega) bp bf (W:=w) (fun e he=>by
   simp only[List.mem_cons,List.not_mem_nil,or_false] at he
   rcases he with rfl|rfl|rfl
   ·exact hS.get _ (.tail _ (.head _))
   ·exact hS.get _ (.head _)
   ·exact hS.get _ (by simp)) (by
   simp only[List.pairwise_cons,List.mem_cons,List.mem_append,forall_eq_or_imp] at hnd ⊢
   simp only[List.not_mem_nil,false_implies,implies_true,and_true,List.Pairwise.nil]
   exact⟨⟨fun e=>hnd.1.1 e.symm,hnd.2.1.2.2.2.1⟩,hnd.1.2.2.2.2.1⟩) hT
  refine eO (w0:=w0) (bs:=bs) (X:=Unit) (Y:=SltOf 0 L) (by omega) (gf:=341) (lb:=#[.pointer (some ⟨bp,0,none⟩),.pointer (some ⟨bf,0,none⟩)]) rfl ae
   (K:=[⟨bp,#[.pointer (some ⟨b,0,none⟩)],143,true⟩,⟨bf,#[.int .i64 0],3,true⟩,⟨b,dG L.length (fC L),239,true⟩]) hS.chg.size ?_
   hstop (fun _=>rfl)
   (fun pre _=>pre=[]) (fun _ _=>⟨bf,#[.int .i64 0],3,true⟩::⟨bp,#[.pointer (some ⟨b,0,none⟩)],143,true⟩::⟨be,#[.int .i64 0],31,true⟩::⟨br,#[.int .i64 0,.int .u32 0],176,true⟩::⟨bt,#[.pointer (some ⟨b,0,none⟩)],143,true⟩::⟨b,dG L.length (fC L),239,true⟩::H1) ?_
   (fun c pre y=>c=.ret∧pre=[y]) (fun _ _ y=>⟨bf,#[.int .i64 0],3,true⟩::⟨bp,#[.pointer (some ⟨b,0,none⟩)],143,true⟩::⟨be,#[.int .i64 0],31,true⟩::⟨br,#[.int .i64 (y.i:Nat),.int .u32 (L.getD y.i (0,0)).2],176,true⟩::⟨bt,#[.pointer (some ⟨b,0,none⟩)],143,true⟩ ::
    ⟨b,dG L.length (fC (L.set y.i (1,(L.getD y.i (0,0)).2))),239,true⟩::H1)
   (x0:=()) rfl hS
   (fun x=>{ tmps:=#[.pointer (some ⟨b,0,none⟩),.pointer (some ⟨bt,0,none⟩),.pointer (some ⟨br,0,none⟩),.pointer (some ⟨be,0,none⟩),.int .i64 (x.i:Nat),.int .u32 (L.getD x.i (0,0)).2,.pointer (some ⟨b,0,none⟩),.bool true,.bool false,undef,.pointer (some ⟨b,0,none⟩),
    .func (.func 341) #[] #[.pointer (some ⟨bp,0,none⟩),.pointer (some ⟨bf,0,none⟩)],.int .i64 (x.i:Nat),.int .u32 (L.getD x.i (0,0)).2,undef,undef,undef,undef,undef,undef,undef,undef,undef,undef],defers:=[] }) ?assign ?body ?done ?stop
  ·intro e he
   refine hS.lt ?_
   simp only[List.mem_cons,List.not_mem_nil,or_false] at he ⊢
   rcases he with rfl|rfl|rfl <;> simp
  ·intro _ _ _ e he
   simp only[List.mem_cons,List.not_mem_nil,or_false] at he ⊢
   rcases he with rfl|rfl|rfl <;> simp
  case assign=>
   clear hnd hstop hS hT hR
   intro l x W K hK
   have hF:=cu l
   gi_wp2
   exact hK
  case body=>
   clear hnd hstop hS hR
   rintro l pre ⟨k,hk,hst⟩ ⟨⟩ w2 rfl _ hS
   have hF:=cu l
   have hset:=iR (n:=L.length) (fB hk) 1
   rw[jP hk] at hset
   obtain⟨g,hg⟩:∃ g,(L.getD k (0,0)).2=g:=⟨_,rfl⟩
   rw[hg] at hset
   have hki:(k:Int)<256:=by omega
   simp only[hg]
   have hg':=HD hg
   clear hg
   gi_wp2_with (first|refine aa hF rfl rfl (ar (bQ _ _ rfl) ?_)|refine aa hF rfl rfl (ar (ac _ _ rfl hS) ?_)|(first|refine aa hF rfl rfl (cL _ _ _ rfl hS ?_)|refine aa hF rfl rfl (de _ _ _ rfl hS ?_));clear hS;intro w hS)
   refine⟨⟨k,hk,hst⟩,⟨rfl,rfl⟩,?_⟩
   obtain rfl:=hg'.out
   exact hS.p
  case done=>
   rintro d xs ⟨⟩ w2 hxs hnil hS0 hd
   have hS:=hS0.rebase
   gi_wp2_with (first|refine aa hF rfl rfl (ar (bQ _ _ rfl) ?_)|(first|refine aa hF rfl rfl (cL _ _ _ rfl hS ?_)|refine aa hF rfl rfl (de _ _ _ rfl hS ?_));clear hS;intro w hS)
   refine bS hd hS0 hS (fun W3 hS3=>⟨_,dp rfl hS3,?_⟩)
   have e:v9 (some L)=none:=by
    refine ew ?_
    rw[← hxs,hnil];rfl
   obtain⟨e1,e2,e3,e4⟩:=pO hl'.out e
   rw[e1,e2,e3,ir,e4] at hR
   exact hR _ _ hT hS3.p
  case stop=>
   rintro d c pre y w2 ⟨k,hk,hg,hpre⟩ ⟨rfl,rfl⟩ hS0 hd
   gi_wp2
   refine bS hd hS0 hS0.rebase (fun W3 hS3=>⟨_,dp rfl hS3,?_⟩)
   have e:v9 (some L)=some y.i:=fa hk hg hpre
   obtain⟨e1,e2,e3,e4,e5,e6,_⟩:=lk e
   rw[e1,e2,e3,ir,e4] at hR
   refine hR _ _ ⟨hw.set _ (by simp) (hw.gn (L.getD y.i (0,0)) (eu e5)),b,rfl,rfl⟩ ?_
   rw[List.length_set]
   exact hS3.p
 ·have hok' : fe T=false:=by simpa using hok
  have e1:jx T=1:=by unfold jx;rw[hok'];rfl
  have e0:kC T=0∧kD T=0∧ir T=T:=by
   rcases T with _|L
   ·exact⟨rfl,rfl,rfl⟩
   ·have hn:L=[]:=by
     have:L.length=0:=by simpa [fe] using hok'
     exact List.eq_nil_of_length_eq_zero this
    subst hn
    exact⟨rfl,rfl,rfl⟩
  rw[e1,e0.1,e0.2.1,e0.2.2] at hR
  rcases T with _|L
  ·obtain⟨rfl,rfl⟩:=id hT
   simp only[List.nil_append] at hS
   clear e1 e0 hok hok'
   go_enter func180,ntmps180
   go_wp2_with (first|go_at_call 195;refine eL ?_;unfold ab|refine aL rfl ?_|refine af rfl hS ?_|(first|refine bP rfl hS ?_|refine ak rfl hS ?_);clear hS;intro w hS|(first|refine aq _ rfl hS ?_|refine am _ rfl hS ?_);clear hS;intro bN w hbN hS)
   refine bodyPost_ret (dp rfl hS) rfl ?_
   exact hR _ _ hT hS.p
  ·obtain⟨hw,b,rfl,rfl⟩:=id hT
   simp only[cq] at hS
   have hval:decide ((0:Int)<L.length)=false:=by simpa [fe] using hok'
   clear e1 e0 hok hok'
   go_enter func180,ntmps180
   go_wp2_with (first|go_at_call 195;refine cF (hS.has inferInstance) _ hval ?_;unfold ab|refine aL rfl ?_|refine af rfl hS ?_|(first|refine bP rfl hS ?_|refine ak rfl hS ?_);clear hS;intro w hS|(first|refine aq _ rfl hS ?_|refine am _ rfl hS ?_);clear hS;intro bN w hbN hS)
   refine bodyPost_ret (dp rfl hS) rfl ?_
   exact hR _ _ hT hS.p
end Go.Proofs.YtnbgljbhkeffkaaGreatDoor
namespace Go.Mm
open Go Go.RowKit
theorem gT {P:Program}{fn:Func}{p q r:Tmp}{t u:TypeId}(h:fn.results=#[.cell p t,.cell q u,.tmp r]){tmps:List Value}{b c:Nat}{v3:Value}[hp:Nth tmps p (.pointer (some ⟨b,0,none⟩))][hq:Nth tmps q (.pointer (some ⟨c,0,none⟩))][hr:Nth tmps r v3]
  {w0 w:World} {bs:List Nat} {H:List Ent} (hS:St w0 bs w H) {v v' : Value} [hv:LoadV P H t b 0 v] [hv' : LoadV P H u c 0 v'] : (results fn tmps.toArray).run P w=.ok (.tuple #[v,v',v3]) w:=by
 have h1:tmps[p]?.getD undef=.pointer (some ⟨b,0,none⟩):=by simp[hp.h]
 have h2:tmps[q]?.getD undef=.pointer (some ⟨c,0,none⟩):=by simp[hq.h]
 have h3:tmps[r]?.getD undef=v3:=by simp[hr.h]
 simp[results,h,h1,h2,h3,asAddr,hv.h _ _ _ hS,hv'.h _ _ _ hS]
theorem PP {P:Program}{t e:TypeId}{m z b off i:Nat}(ht:P.underlying t=some (.array m e))(hi:i<m)(hs:(P.info? e).map (·.size)=some z:=by kernel_rfl):IdxV P t (.pointer (some ⟨b,off,none⟩)) i ⟨b,off+i * z,none⟩:=⟨fun w=>by
 have h2:0≤(i:Int):=by omega
 simp[Instr.indexAt,asIntOf,run_underlying ht,Instr.sureAddr,hi,aU hs,Addr.add_lit]⟩
end Go.Mm
namespace Go.Proofs.YtnbgljbhkeffkaaGreatDoor
open Go.RowKit Go.Mm
variable {R:Ending->World->Prop}{w:World}{w0:World}{bs:List Nat}{H H' H1 E:List Ent}
abbrev Ob:=Int×List (Int×Int)×Bool
def zero4:List (Int×Int):=[(0,0),(0,0),(0,0),(0,0)]
def io:Ob:=(0,zero4,false)
structure ObW (o:Ob):Prop where
 len:o.2.1.length=4
 ok:qs o.1 o.2.1 o.2.2=true
 gn:∀ x∈o.2.1,0≤x.2∧x.2≤4294967295
abbrev gr (o:Ob):Array Value:=aN o.1 o.2.1 o.2.2
def o9 (n:Int)(h:Bool):Bool:=decide (0≤n) && decide (n≤4) && !(h && decide (0<n))
def lM (n:Int)(h:Bool):Ob:=if o9 n h then (n,zero4,h) else io
def gZ (n:Int)(h:Bool):Int:=if o9 n h then 0 else 2
def u7 (o:Ob)(i:Int):Bool:=decide (0≤i) && decide (i<o.1)
def se (o:Ob)(i:Int):Int×Int:=if u7 o i then o.2.1.getD i.toNat (0,0) else (0,0)
def kK (o:Ob)(i:Int):Int:=if u7 o i then 0 else 3
def zO (o:Ob)(i:Int)(r:Int×Int):Ob:=(o.1,o.2.1.set i.toNat r,o.2.2)
def BP (o:Ob)(i:Int)(r:Int×Int):Ob:=if u7 o i then zO o i r else io
theorem vX:fc (0,0)=false:=by decide
theorem lK (n:Int)(h:Bool):qs n zero4 h=o9 n h:=by
 have hg:gl (ib zero4) 4=[]:=by decide
 unfold qs o9
 rw[hg]
 simp
theorem nk {n:Int}{h:Bool}(hb:o9 n h=true):ObW (n,zero4,h):=by
 refine⟨rfl,by rw[lK];exact hb,fun x hx=>?_⟩
 simp only[zero4,List.mem_cons,List.not_mem_nil,or_false,or_self] at hx
 rw[hx];simp
theorem kN:ObW io:=nk (by decide)
theorem Db (n:Int)(h:Bool):ObW (lM n h):=by
 unfold lM
 cases hb:o9 n h with
 | true=>exact nk hb
 | false=>exact kN
theorem ObW.n4 {o:Ob}(h:ObW o):0≤o.1∧o.1≤4:=by
 have:=h.ok
 unfold qs at this
 simp only[Bool.and_eq_true,decide_eq_true_eq] at this
 exact⟨this.1.1.1,this.1.1.2⟩
theorem ok_iff {n:Int}{F:List (Int×Int)}{h:Bool} : qs n F h=true↔o9 n h=true∧∀ i,i<4->ib F i=true->fi n F i=false:=by
 unfold qs o9
 rw[Bool.and_eq_true,List.all_eq_true]
 refine and_congr_right fun _=>?_
 constructor
 ·intro q i hi hf
  have:=q i (mem_gl.2 ⟨hi,hf⟩)
  simpa using this
 ·intro q i hi
  obtain⟨h1,h2⟩:=mem_gl.1 hi
  rw[q i h1 h2];rfl
theorem ObW.set {o:Ob}(h:ObW o){i:Int}(hi:u7 o i=true){r:Int×Int}(hr:fc r=false)(hg:0≤r.2∧r.2≤4294967295):ObW (zO o i r):=by
 simp only[u7,Bool.and_eq_true,decide_eq_true_eq] at hi
 obtain⟨k,rfl⟩:=Int.eq_ofNat_of_zero_le hi.1
 have h4:=h.n4
 have hk:k<o.2.1.length:=by rw[h.len];omega
 refine⟨by unfold zO;rw[List.length_set];exact h.len,?_,fun x hx=>?_⟩
 ·unfold zO
  simp only[Int.toNat_natCast]
  obtain⟨h1,h2⟩:=ok_iff.1 h.ok
  refine ok_iff.2 ⟨h1,fun j hj hf=>?_⟩
  unfold ib at hf
  unfold fi
  rw[sf hk] at hf ⊢
  by_cases e:j=k
  ·subst e
   rw[if_pos rfl,hr]
   simp;omega
  ·rw[if_neg e] at hf ⊢
   exact h2 j hj hf
 ·rcases List.mem_or_eq_of_mem_set hx with hx|hx
  ·exact h.gn x hx
  ·rw[hx];exact hg
theorem xM {o:Ob}(h:ObW o){i:Int}(hi:u7 o i=true):∃ k:Nat,i=k∧k<4∧(k:Int)<o.1:=by
 simp only[u7,Bool.and_eq_true,decide_eq_true_eq] at hi
 obtain⟨k,rfl⟩:=Int.eq_ofNat_of_zero_le hi.1
 have h4:=h.n4
 exact⟨k,rfl,by omega,hi.2⟩
theorem objOnes {n:Int}{F:List (Int×Int)}{h:Bool} : OneCells (aN n F h):=fY (by simp [Value.oneCell']) gM (by simp [Value.oneCell'])
instance C5 {n:Int}{F:List (Int×Int)}{h:Bool} : OneCells (aN n F h):=objOnes
theorem cV {n:Int}{F:List (Int×Int)}{h:Bool}(hF:F.length=4):SizeIs (aN n F h) 10:=ij aW (by rw [hF];rfl)
theorem dB {n n' : Int}{F F' : List (Int×Int)}{h h' : Bool}(hF:F.length=4)(hF' : F'.length=4):SetsAt (aN n F h) 0 (aN n' F' h') (aN n' F' h'):=ik aW (by rw [aN,co aW,hF,hF'];rfl)
theorem C7 {n:Int}{F:List (Int×Int)}{h:Bool}{i:Nat}{x:Int×Int}(hx:F[i]?=some x):CellsAt (aN n F h) (1+i * 2) 2 #[.int .i64 x.1,.int .u32 x.2]:=cK aW hx rfl
theorem uy {n:Int}{F:List (Int×Int)}{h:Bool}{i:Nat}(hi:i<F.length)(s g:Int):SetsAt (aN n F h) (1+i * 2) #[.int .i64 s,.int .u32 g] (aN n (F.set i (s,g)) h):=fX aW (a':=(s,g)) hi rfl
instance OD:ZeroT prog 195 (aN 0 zero4 false):=⟨by kernel_rfl⟩
instance OE {n:Int}{h:Bool} : BuildT prog 195 [(0,.int .i64 n),(2,.bool h)] (aN n zero4 h):=⟨fun w=>by kernel_rfl⟩
instance KJ:BuildT prog 195 [] (aN 0 zero4 false):=⟨fun w=>by kernel_rfl⟩
instance KG {n:Int}{h:Bool} : SizeIs (aN n zero4 h) 10:=cV rfl
instance KK {n:Int}{h:Bool} : CellsAt (aN n zero4 h) 0 10 (aN n zero4 h):=dr rfl
instance KH {n n' : Int}{h h' : Bool} : SetsAt (aN n zero4 h) 0 (aN n' zero4 h') (aN n' zero4 h'):=dB rfl rfl
instance KI {b off:Nat} : FieldAt prog 195 2 b off (off+9):=⟨fun w=>by kernel_rfl⟩
theorem lL (hO:St w0 bs w H)(n:Int)(h:Bool)(o:Ob)(e:Int)(ho:lM n h=o)(he:gZ n h=e)
  (hR:∀ w',St w0 bs w' H->ab R (.tuple #[.agg (gr o),.int .i64 e]) w'):Calls prog 114 #[.int .i64 n,.bool h] w R:=by
 have hS:=hO
 clear hO
 subst ho he
 unfold lM gZ at hR
 cases hb:o9 n h with
 | true=>
  rw[hb] at hR
  simp only[if_true] at hR
  have hck:vy n zero4 h=0:=by unfold vy;rw[lK,hb];rfl
  have hck':=HD hck
  clear hb hck
  go_enter func114,ntmps114
  go_wp2_with (first|go_at_call 178;refine eU (F:=zero4) rfl (nk (n:=0) (h:=false) (by decide)).gn hS ?_;clear hS;intro w hS;rw[hck'.out];unfold ab|refine aL rfl ?_|refine au rfl hS ?_|refine ak rfl hS ?_;clear hS;intro w hS|refine aq _ rfl hS ?_;clear hS;intro bN w hbN hS)
  refine bodyPost_ret (aJ rfl hS) rfl ?_
  exact hR _ hS.p
 | false=>
  rw[hb] at hR
  simp only[Bool.false_eq_true,if_false] at hR
  have hck:vy n zero4 h=2:=by unfold vy;rw[lK,hb];rfl
  have hck':=HD hck
  clear hb hck
  go_enter func114,ntmps114
  go_wp2_with (first|go_at_call 178;refine eU (F:=zero4) rfl (nk (n:=0) (h:=false) (by decide)).gn hS ?_;clear hS;intro w hS;rw[hck'.out];unfold ab|refine aL rfl ?_|refine au rfl hS ?_|refine ak rfl hS ?_;clear hS;intro w hS|refine aq _ rfl hS ?_;clear hS;intro bN w hbN hS)
  refine bodyPost_ret (aJ rfl hS) rfl ?_
  exact hR _ hS.p
theorem o8 (hO:St w0 bs w H){o:Ob}(hW:ObW o)(i s g:Int)(hw:fc (s,g)=false)(hg:0≤g∧g≤4294967295)(o' : Ob)(r:Int×Int)(e:Int)(ho:BP o i (s,g)=o')(hr:se o i=r)(he:kK o i=e)
  (hR:∀ w',St w0 bs w' H->ab R (.tuple #[.agg (gr o'),.agg #[.int .i64 r.1,.int .u32 r.2],.int .i64 e]) w'):Calls prog 189 #[.agg (gr o),.int .i64 i,.agg #[.int .i64 s,.int .u32 g]] w R:=by
 have hS:=hO
 clear hO
 subst ho hr he
 obtain⟨n,F,h⟩:=o
 show Calls _ _ #[.agg (aN n F h),_,_] w R
 have hF4:F.length=4:=hW.len
 have hck:vy n F h=0:=by unfold vy;rw[hW.ok];rfl
 have hck':=HD hck
 have hA:=dr (n:=n) (h:=h) hF4
 have hZ:=cV (n:=n) (h:=h) hF4
 have hgn':=HD hW.gn
 have hF4':=HD hF4
 have hw':=HD hw
 have hg':=HD hg
 unfold BP se kK at hR
 cases hi:u7 (n,F,h) i with
 | false=>
  rw[hi] at hR
  simp only[Bool.false_eq_true,if_false] at hR
  have hin:i<0∨n≤i:=by
   rw[← Bool.not_eq_true] at hi
   simp only[u7,Bool.and_eq_true,decide_eq_true_eq] at hi
   omega
  clear hi hck hw hg hF4
  by_cases h0:i<0
  ·have d1:decide (i<0)=true:=decide_eq_true h0
   clear hin
   go_enter func189,ntmps189
   go_wp2_with (first|go_at_call 178;refine eU hF4'.out hgn'.out hS ?_;clear hS;intro w hS;rw[hck'.out];unfold ab|(go_at_call 265;refine ed hg'.out false hw'.out ?_;intro w hch;replace hS:=hS.nil hch;clear hch;unfold ab)|refine aL rfl ?_|refine au rfl hS ?_|refine ak rfl hS ?_;clear hS;intro w hS|(first|refine aq _ rfl hS ?_|refine am _ rfl hS ?_);clear hS;intro bN w hbN hS)
   refine bodyPost_ret (gT rfl hS) rfl ?_
   exact hR _ hS.p
  ·have d1:decide (i<0)=false:=decide_eq_false h0
   have d2:decide (n≤i)=true:=DT
   clear hin
   go_enter func189,ntmps189
   go_wp2_with (first|go_at_call 178;refine eU hF4'.out hgn'.out hS ?_;clear hS;intro w hS;rw[hck'.out];unfold ab|(go_at_call 265;refine ed hg'.out false hw'.out ?_;intro w hch;replace hS:=hS.nil hch;clear hch;unfold ab)|refine aL rfl ?_|(first|refine af rfl hS ?_|refine au rfl hS ?_)|refine ak rfl hS ?_;clear hS;intro w hS|(first|refine aq _ rfl hS ?_|refine am _ rfl hS ?_);clear hS;intro bN w hbN hS)
   refine bodyPost_ret (gT rfl hS) rfl ?_
   exact hR _ hS.p
 | true=>
  rw[hi] at hR
  simp only[if_true] at hR
  obtain⟨k,rfl,hk4,hkn⟩:=xM hW hi
  simp only at hkn
  have hkl:k<F.length:=by rw[hF4];exact hk4
  obtain⟨x,hx⟩:∃ x,F.getD k (0,0)=x:=⟨_,rfl⟩
  have hx2:F[k]?=some x:=by rw[← hx,List.getD_eq_getElem?_getD,List.getElem?_eq_getElem hkl];rfl
  have c1:=C7 (n:=n) (h:=h) hx2
  have c2:=uy (n:=n) (h:=h) hkl s g
  have hF4s:(F.set k (s,g)).length=4:=by rw[List.length_set];exact hF4
  have hA2:=dr (n:=n) (h:=h) hF4s
  have hZ2:=cV (n:=n) (h:=h) hF4s
  have hO2:=dB (n:=0) (n':=n) (h:=false) (h':=h) (F:=zero4) rfl hF4s
  have hix:∀ b:Nat,IdxV prog 193 (.pointer (some ⟨b,0+1,none⟩)) k ⟨b,1+k * 2,none⟩:=fun b=>by
   have:=PP (P:=prog) (t:=193) (m:=4) (z:=2) (e:=176) (b:=b) (off:=0+1) (by kernel_rfl) hk4
   simpa using this
  simp only[Int.toNat_natCast,hx] at hR
  have d1:decide ((k:Int)<0)=false:=DF
  have d2:decide (n≤(k:Int))=false:=DF
  have hR' : ∀ w',St w0 bs w' H->ab R (.tuple #[.agg (aN n (F.set k (s,g)) h),.agg #[.int .i64 x.1,.int .u32 x.2],.int .i64 0]) w':=hR
  clear hi hck hw hg hF4 hx hx2 hkl hR hF4s
  go_enter func189,ntmps189
  go_wp2_with (first|go_at_call 178;refine eU hF4'.out hgn'.out hS ?_;clear hS;intro w hS;rw[hck'.out];unfold ab|(go_at_call 265;refine ed hg'.out false hw'.out ?_;intro w hch;replace hS:=hS.nil hch;clear hch;unfold ab)|refine am 195 rfl hS ?_;clear hS;intro b3 w _ hS|refine aq 195 rfl hS ?_;clear hS;intro b6 w _ hS|refine aq (o:=⟨some 7,_,_,_,_,_⟩) _ rfl hS ?_;clear hS;intro b7 w _ hS|refine aq (o:=⟨some 9,_,_,_,_,_⟩) _ rfl hS ?_;clear hS;intro b9 w _ hS|refine am 176 rfl hS ?_;clear hS;intro b5 w _ hS|refine aM rfl ?_|(first|refine af rfl hS ?_|refine au rfl hS ?_)|refine ak rfl hS ?_;clear hS;intro w hS)
  refine ao [⟨(undef,[⟨b6,aN 0 zero4 false,195,true⟩]),[(2,fun _ y=>y.2=[⟨b6,aN n (F.set k (s,g)) h,195,true⟩])]⟩,⟨(undef,[⟨b7,#[.int .i64 0,.int .u32 0],176,true⟩]),[(3,fun _ y=>y.2=[⟨b7,#[.int .i64 x.1,.int .u32 x.2],176,true⟩])]⟩]
   (⟨b3,aN n (F.set k (s,g)) h,195,true⟩::⟨b9,#[.int .i64 x.1,.int .u32 x.2],176,true⟩::H) (⟨b6,aN 0 zero4 false,195,true⟩::⟨b7,#[.int .i64 0,.int .u32 0],176,true⟩::⟨b3,aN n (F.set k (s,g)) h,195,true⟩::⟨b9,#[.int .i64 x.1,.int .u32 x.2],176,true⟩::H) (by simp) hS.p (by kernel_rfl) (by kernel_rfl) ?_
  (refine fV (fun χ w hw=>ai _ _ rfl hw) ?_)
  (refine fV (fun χ w hw=>ai _ _ rfl hw) ?_)
  refine ap 0 0 rfl rfl (by(rfl)) (by(rfl)) (by(rfl)) (fun _=>rfl) (fun _=>undef) ?_ ?_
  ·intro χ X w _ hS
   exact aK _ _ _ rfl (show St w0 bs w (⟨b6,aN 0 zero4 false,195,true⟩::(X++_)) from hS) (fun w' hS'=>⟨(undef,[⟨b6,aN n (F.set k (s,g)) h,195,true⟩]),rfl,rfl,hS'⟩)
  refine ap 1 0 rfl rfl (by(rfl)) (by(rfl)) (by(rfl)) (fun _=>rfl) (fun _=>undef) ?_ ?_
  ·intro χ X w _ hS
   exact aK _ _ _ rfl (show St w0 bs w (⟨b7,#[.int .i64 0,.int .u32 0],176,true⟩::(X++_)) from hS) (fun w' hS'=>⟨(undef,[⟨b7,#[.int .i64 x.1,.int .u32 x.2],176,true⟩]),rfl,rfl,hS'⟩)
  (refine fV (fun χ w hw=>aG rfl) ?_)
  refine bC rfl ?_
  intro χ w hok hS
  obtain⟨h1,_⟩:=hok _ (.head _)
  obtain⟨h2,_⟩:=hok _ (.tail _ (.head _))
  have hS:St w0 bs w (((χ 2).2++((χ 3).2++[]))++(⟨b3,aN n (F.set k (s,g)) h,195,true⟩::⟨b9,#[.int .i64 x.1,.int .u32 x.2],176,true⟩::H)):=hS
  rw[h1,h2] at hS
  simp only[List.cons_append,List.nil_append,List.append_nil] at hS
  clear hok h1 h2
  go_wp2_with (go_skip)
  refine bodyPost_ret (gT rfl hS) rfl ?_
  exact hR' _ hS.p
theorem jX (hO:St w0 bs w H){o:Ob}(hW:ObW o)(i:Int)(r:Int×Int)(e:Int)(hr:se o i=r)(he:kK o i=e)
  (hR:∀ w',St w0 bs w' H->ab R (.tuple #[.agg #[.int .i64 r.1,.int .u32 r.2],.int .i64 e]) w'):Calls prog 186 #[.agg (gr o),.int .i64 i] w R:=by
 have hS:=hO
 clear hO
 obtain⟨o',ho⟩:∃ o',BP o i (0,0)=o':=⟨_,rfl⟩
 have hl4:o'.2.1.length=4:=by
  rw[← ho]
  unfold BP
  split
  ·show(o.2.1.set _ _).length=4
   rw[List.length_set];exact hW.len
  ·rfl
 have hO2:=dB (n:=0) (n':=o'.1) (h:=false) (h':=o'.2.2) (F:=zero4) rfl hl4
 have hA:=dr (n:=o.1) (h:=o.2.2) hW.len
 have hZ:=cV (n:=o.1) (h:=o.2.2) hW.len
 have hZ2:=cV (n:=o'.1) (h:=o'.2.2) hl4
 have hr':=HD hr
 have he':=HD he
 have ho':=HD ho
 clear hr he ho
 obtain⟨n,F,h⟩:=o
 obtain⟨n',F',h'⟩:=o'
 show Calls _ _ #[.agg (aN n F h),_] w R
 simp only at hO2 hA hZ hZ2
 go_enter func186,ntmps186
 go_wp2_with (first|go_at_call 189;refine o8 hS hW i 0 0 vX (by decide) _ r e ho'.out hr'.out he'.out ?_;clear hS;intro w hS;unfold ab|refine aL rfl ?_|refine au rfl hS ?_|refine ak rfl hS ?_;clear hS;intro w hS|(first|refine aq _ rfl hS ?_|refine am _ rfl hS ?_);clear hS;intro bN w hbN hS)
 refine bodyPost_ret (aJ rfl hS) rfl ?_
 exact hR _ hS.p
end Go.Proofs.YtnbgljbhkeffkaaGreatDoor
namespace Go.Mm
open Go Go.RowKit
section
variable {P:Program}{o:Oper}{a:Act}{w:World}
theorem mH {f:Nat}{cap:List Value}(y:Operand)(xs:List Operand){ts:Array TypeId}(ho:o.op=.call { callee:=.value y,args:=xs.toArray,argTypes:=ts }){vs:List Value}[hE:EvL a xs vs][hy:Ev a y (.func (.func f) #[] cap.toArray)]
  (he:∀ args w,(callFunc f args).run P w=.ok (.enter f args) w) {Φ:Value->World->Prop} (h:Calls P f (vs++cap).toArray w (fun e w''=>∃ u,e=.returned u∧Φ u w'')):bB P o a w Φ:=by
 have hr:(execOp a.eval o).run P w=.ok (.enter f (vs++cap).toArray) w:=by
  have hE':=hE.h
  have hy':=hy.h
  simp[execOp,ho,resolve,invoke,Deferred.ofValue,Act.eval,List.map_toArray,hE',he] at hy' ⊢
  simp[hy',resolve,invoke,Deferred.ofValue,hE',he]
 unfold bB
 rw[hr]
 exact h
end
end Go.Mm
namespace Go.Proofs.YtnbgljbhkeffkaaGreatDoor
open Go.RowKit Go.Mm
variable {R:Ending->World->Prop}{w:World}{w0:World}{bs:List Nat}{H H' H1 E:List Ent}
abbrev Hs:=Int×Int×Ob
abbrev Hp:=Option (Option (List Hs))
abbrev d8:Hs:=(0,0,io)
def cY (L:List Hs):List (Int×Int):=L.map (fun x=>(x.1,x.2.1))
def AE (L:List Hs):List Ob:=L.map (·.2.2)
structure HpW (L:List Hs):Prop where
 lo:0<L.length
 hi:L.length≤256
 tb:TbW (cY L)
 ob:∀ x∈L,ObW x.2.2
theorem cb (L:List Hs):(cY L).length=L.length:=by simp [cY]
theorem cT {L:List Hs}{i:Nat} : (cY L).getD i (0,0)=((L.getD i d8).1,(L.getD i d8).2.1):=by
 unfold cY
 rw[List.getD_eq_getElem?_getD,List.getD_eq_getElem?_getD,List.getElem?_map]
 cases L[i]? <;> rfl
theorem ja {L:List Hs}{i:Nat}{x:Hs} : cY (L.set i x)=(cY L).set i (x.1,x.2.1):=by simp [cY]
theorem jb (n:Nat)(g:Int):cY (List.replicate n (0,g,io))=List.replicate n (0,g):=by simp [cY]
def sd:Hp->Bool
 | some (some _)=>true
 | _=>false
def iJ:Hp->List Hs
 | some (some L)=>L
 | _=>[]
def sI (z g:Int):Hp:=if cO z g then some (some (List.replicate z.toNat (0,g,io))) else none
def eJ (T:Hp)(s g:Int):Int:=match T with
 | some (some L)=>iN (some (cY L)) s g
 | _=>1
def Ss (T:Hp)(s:Int):Ob:=((iJ T).getD s.toNat d8).2.2
def Fo (T:Hp):Hp:=if sd T then T else none
def DH (F:List (Int×Int)):List (Int×Int):=[F.getD 0 (0,0),F.getD 1 (0,0),F.getD 2 (0,0),F.getD 3 (0,0)]
theorem yd {F:List (Int×Int)}(h:F.length=4):DH F=F:=by
 match F,h with
 | [a,b,c,d],_=>rfl
def C8 (o:Ob):List Value:=(aN o.1 (DH o.2.1) o.2.2).toList
theorem fS (o:Ob):(C8 o).length=10:=rfl
theorem xx (o:Ob):∀ v∈C8 o,v.oneCell'=true:=fun v hv=>objOnes.h v hv
theorem uz {o:Ob}(h:ObW o):(C8 o).toArray=gr o:=by
 unfold C8
 rw[yd h.len]
def aT (L:List Hs):List Ob:=AE L++List.replicate (256 - L.length) io
theorem gW {L:List Hs}(h:L.length≤256):(aT L).length=256:=by simp [aT,AE];omega
theorem jR {L:List Hs}{i:Nat}(h:i<L.length){x:Hs}(hx:L.getD i d8=x):(aT L)[i]?=some x.2.2:=by
 subst hx
 have h1:i<(AE L).length:=by simpa [AE] using h
 unfold aT
 rw[List.getElem?_append_left h1]
 simp[AE,h]
theorem jQ {L:List Hs}{i:Nat}(h:i<L.length)(x:Hs):(aT L).set i x.2.2=aT (L.set i x):=by
 have h1:i<(List.map (fun x:Hs=>x.2.2) L).length:=by simpa using h
 simp[aT,AE,List.set_append_left _ _ h1]
def bW (t:Option Addr)(z:Int)(O:List Ob):Array Value:=cX [.pointer t,.int .i64 z] C8 O []
section
variable {t:Option Addr}{z:Int}{O:List Ob}
instance PN:CellAt (bW t z O) 0 (.pointer t):=cz rfl
instance hp1:CellAt (bW t z O) 1 (.int .i64 z):=cz rfl
theorem Bb {i:Nat}{o:Ob}(h:O[i]?=some o)(hW:ObW o):CellsAt (bW t z O) (2+i * 10) 10 (gr o):=by
 rw[← uz hW]
 exact cK fS h rfl
theorem lU {i:Nat}(h:i<O.length){o:Ob}(hW:ObW o):SetsAt (bW t z O) (2+i * 10) (gr o) (bW t z (O.set i o)):=by
 rw[← uz hW]
 exact fX fS h rfl
theorem Dw (h:O.length=256):CellsAt (bW t z O) 0 2562 (bW t z O):=kw fS (by rw [h];rfl)
theorem Ba:OneCells (bW t z O):=fY (by simp [Value.oneCell']) xx (by simp)
theorem A8 (h:O.length=256):SizeIs (bW t z O) 2562:=ij fS (by rw [h];rfl)
theorem Dv (t' : Option Addr):SetAt (bW t z O) 0 (.pointer t') (bW t' z O):=dv (by simp) rfl
theorem A9 {cs:Array Value}(hc:cs.size=2562)(h:O.length=256):SetsAt cs 0 (bW t z O) (bW t z O):=ik fS (by rw [hc,h];rfl)
end
def eV:List Ob:=List.replicate 256 io
instance HF:AggT prog 198 2562:=⟨by kernel_rfl,by kernel_rfl⟩
instance FF:ZeroT prog 198 (bW none 0 eV):=⟨by kernel_rfl⟩
instance Hq {p:Option Addr}{z:Int} : BuildT prog 198 [(0,.pointer p),(1,.int .i64 z)] (bW p z eV):=⟨fun w=>by kernel_rfl⟩
instance MS:ScalarT prog 110:=⟨by kernel_rfl,by kernel_rfl⟩
instance KF {b off:Nat} : FieldAt prog 198 0 b off off:=⟨fun w=>by kernel_rfl⟩
instance KE {b off:Nat} : FieldAt prog 198 2 b off (off+2):=⟨fun w=>by kernel_rfl⟩
instance KD {b off:Nat} : FieldAt prog 176 0 b off off:=⟨fun w=>by kernel_rfl⟩
def HA (p:Option Addr)(T:Hp)(E:List Ent):Prop:=
 match T with
 | none=>p=none∧E=[]
 | some none=>∃ b,p=some ⟨b,0,none⟩∧E=[⟨b,bW none 0 eV,198,true⟩]
 | some (some L)=>HpW L∧∃ b bt Et,p=some ⟨b,0,none⟩∧TA (some ⟨bt,0,none⟩) (some (cY L)) Et∧E=⟨b,bW (some ⟨bt,0,none⟩) L.length (aT L),198,true⟩::Et
theorem HA.nil {p:Option Addr}{T:Hp}(h:HA p T E):p.isNone=T.isNone:=by
 rcases T with _|_|L
 ·obtain⟨rfl,_⟩:=h;rfl
 ·obtain⟨b,rfl,_⟩:=h;rfl
 ·obtain⟨_,b,bt,Et,rfl,_⟩:=h;rfl
theorem HA.none:HA none none []:=⟨rfl,rfl⟩
theorem bO {p:Option Addr}{T:Hp}(hO:St w0 bs w H)(hT:HA p T E)[hc:Cut H E H1](b:Bool)(hb:sd T=b)
  (hR:∀ w',St w0 bs w' (E++H1)->ab R (.bool b) w'):Calls prog 179 #[.pointer p] w R:=by
 have hS:=hO.fr E H1
 clear hO hc
 subst hb
 rcases T with _|_|L
 ·obtain⟨rfl,rfl⟩:=hT
  simp only[List.nil_append] at hS
  go_enter func179,ntmps179
  go_wp2_with (go_skip)
  exact hR _ hS.p
 ·obtain⟨b,rfl,rfl⟩:=hT
  simp only[cq] at hS
  go_enter func179,ntmps179
  go_wp2_with (refine af rfl hS ?_)
  exact hR _ hS.p
 ·obtain⟨_,b,bt,Et,rfl,hTt,rfl⟩:=hT
  simp only[cq] at hS
  go_enter func179,ntmps179
  go_wp2_with (refine af rfl hS ?_)
  exact hR _ hS.p
theorem A7 (hO:St w0 bs w H)(z g:Int)(hg:0≤g∧g≤4294967295){T:Hp}(e:Int)(hT0:sI z g=T)(he0:kF z g=e)(hR:∀ p E w',HA p T E->St w0 bs w' (E++H)->ab R (.tuple #[.pointer p,.int .i64 e]) w') :
  Calls prog 40 #[.int .i64 z,.int .u32 g] w R:=by
 have hS:=hO
 subst hT0 he0
 clear hO
 cases hok:cO z g with
 | true=>
  have e1:ni z g=some (cY (List.replicate z.toNat (0,g,io))):=by unfold ni;rw[hok,jb];rfl
  have e2:kF z g=0:=by unfold kF;rw[hok];rfl
  unfold sI at hR
  rw[hok,e2] at hR
  simp only[if_true] at hR
  have hok':=hok
  simp only[cO,Bool.and_eq_true,decide_eq_true_eq] at hok'
  obtain⟨⟨h1,h2⟩,h5⟩:=hok'
  have q1:decide (z<1)=false:=DF
  have q2:decide (256<z)=false:=DF
  have q3:decide (g<1)=false:=DF
  have e1':=HD e1
  have e2':=HD e2
  have hW:HpW (List.replicate z.toNat (0,g,io)):=⟨by rw[List.length_replicate];omega,by rw[List.length_replicate];omega,by rw[jb];exact TbW.rep (by omega) (by omega),fun x hx=>by rw[(List.mem_replicate.1 hx).2];exact kN⟩
  have hpad:aT (List.replicate z.toNat (0,g,io))=eV:=by
   simp only[aT,AE,List.map_replicate,List.length_replicate,eV,List.replicate_append_replicate]
   congr 1;omega
  have hz:((List.replicate z.toNat ((0,g,io):Hs)).length:Int)=z:=by rw[List.length_replicate];omega
  have hpad':=HD hpad
  have hz':=HD hz
  clear hok h1 h2 h5 e1 e2 hpad hz
  go_enter func40,ntmps40
  go_wp2_with (first|go_at_call 48;refine iv hS z g hg ?_;clear hS;intro pt Et w hTt hS;rw[e1'.out] at hTt;rw[e2'.out];unfold ab|refine aL rfl ?_|refine am _ rfl hS ?_;clear hS;intro bN w hbN hS)
  obtain⟨bt,hpt⟩:∃ bt,pt=some ⟨bt,0,none⟩:=by obtain⟨_,bt,h,_⟩:=id hTt;exact⟨bt,h⟩
  subst hpt
  refine hR _ (⟨bN,bW (some ⟨bt,0,none⟩) z eV,198,true⟩::Et) _ ⟨hW,bN,bt,Et,rfl,hTt,?_⟩ hS
  rw[hpad'.out,hz'.out]
 | false=>
  have e2:kF z g=2:=by unfold kF;rw[hok];rfl
  unfold sI at hR
  rw[hok,e2] at hR
  have hno : ¬ cO z g=true:=by rw[hok];simp
  simp only[cO,Bool.and_eq_true,decide_eq_true_eq] at hno
  clear hok e2
  by_cases h1:z<1
  ·have q1:decide (z<1)=true:=decide_eq_true h1
   go_enter func40,ntmps40
   go_wp2_with (go_skip)
   exact hR Option.none [] _ HA.none hS
  have q1:decide (z<1)=false:=decide_eq_false h1
  by_cases h2:256<z
  ·have q2:decide (256<z)=true:=decide_eq_true h2
   go_enter func40,ntmps40
   go_wp2_with (go_skip)
   exact hR Option.none [] _ HA.none hS
  have q2:decide (256<z)=false:=decide_eq_false h2
  have q3:decide (g<1)=true:=DT
  go_enter func40,ntmps40
  go_wp2_with (go_skip)
  exact hR Option.none [] _ HA.none hS.p
open Go.RowKit Go.Mm
theorem y9 {b i:Nat}(hi:i<256):IdxV prog 196 (.pointer (some ⟨b,0+2,none⟩)) i ⟨b,2+i * 10,none⟩:=by
 have h:=PP (P:=prog) (t:=196) (m:=256) (z:=10) (e:=195) (b:=b) (off:=0+2) (by kernel_rfl) hi
 simpa using h
theorem iq {p:Option Addr}{T:Hp}(hO:St w0 bs w H)(hT:HA p T E)[hc:Cut H E H1](s g:Int){fv:Value}[h1:OneCell fv](e:Int)(he:eJ T s g=e)(h0:e≠0)
  (hR:∀ w',HA p T E->St w0 bs w' (E++H1)->ab R (.int .i64 e) w'):Calls prog 184 #[.pointer p,.agg #[.int .i64 s,.int .u32 g],fv] w R:=by
 have hS:=hO.fr E H1
 clear hO
 subst he
 rcases T with _|_|L
 ·go_enter func184,ntmps184
  go_wp2_with (first|refine am 176 rfl hS ?_;clear hS;intro bo w _ hS|go_at_call 179;refine bO hS hT false rfl ?_;clear hS;intro w hS;(try simp only[cq] at hS);unfold ab)
  exact hR _ hT hS.p
 ·go_enter func184,ntmps184
  go_wp2_with (first|refine am 176 rfl hS ?_;clear hS;intro bo w _ hS|go_at_call 179;refine bO hS hT false rfl ?_;clear hS;intro w hS;(try simp only[cq] at hS);unfold ab)
  exact hR _ hT hS.p
 obtain⟨hW,b,bt,Et,rfl,hTt,rfl⟩:=id hT
 have hlo:=hW.lo
 have hlt:(cY L).length=L.length:=cb L
 by_cases hs0:s<0
 ·have e0:eJ (some (some L)) s g=3:=vw (L:=cY L) (by omega) (.inl hs0) g
  have d1:decide (s<0)=true:=decide_eq_true hs0
  rw[e0] at hR
  clear e0 h0 hW hlo hlt
  go_enter func184,ntmps184
  go_wp2_with (first|refine am 176 rfl hS ?_;clear hS;intro bo w _ hS|go_at_call 179;refine bO hS hT true rfl ?_;clear hS;intro w hS;(try simp only[cq] at hS);unfold ab|refine av hS (fun hne=>?_);(repeat (first|go_big_quiet_skip|(go_big_quiet_want;first|((refine aE bk (fun w hS=>ac _ _ rfl hS) ?_);go_big_quiet_on)|(go_big_quiet_op;go_big_quiet_on))));refine wpQuiet_nil ?_;clear hS hne;intro w hS)
  exact hR _ hT hS.p
 by_cases hs1:(L.length:Int)≤s
 ·have e0:eJ (some (some L)) s g=3:=vw (L:=cY L) (by omega) (.inr (by omega)) g
  have d1:decide (s<0)=false:=decide_eq_false hs0
  have d2:decide ((L.length:Int)≤s)=true:=decide_eq_true hs1
  rw[e0] at hR
  clear e0 h0 hW hlo hlt
  go_enter func184,ntmps184
  go_wp2_with (first|refine am 176 rfl hS ?_;clear hS;intro bo w _ hS|go_at_call 179;refine bO hS hT true rfl ?_;clear hS;intro w hS;(try simp only[cq] at hS);unfold ab|refine av hS (fun hne=>?_);(repeat (go_big_quiet_want;first|((refine aE bk (fun w hS=>ac _ _ rfl hS) ?_);go_big_quiet_on)|(go_big_quiet_op;go_big_quiet_on)));refine wpQuiet_nil ?_;clear hS hne;intro w hS)
  exact hR _ hT hS.p
 have d1:decide (s<0)=false:=decide_eq_false hs0
 have d2:decide ((L.length:Int)≤s)=false:=decide_eq_false hs1
 have hce:iN (some (cY L)) s g=7:=by
  obtain⟨j,rfl⟩:=Int.eq_ofNat_of_zero_le (show 0≤s by omega)
  have h2:iN (some (cY L)) j g≠0:=h0
  rw[zl (by omega)] at h2 ⊢
  split at h2
  ·exact absurd rfl h2
  ·next h3=>rw[if_neg h3]
 have e0:eJ (some (some L)) s g=7:=hce
 rw[e0] at hR
 have hce':=HD hce
 have hq:IntEq (7:Int) 0 false:=⟨by decide⟩
 clear e0 h0 hW hlo hlt hce
 go_enter func184,ntmps184
 go_wp2_with (first|refine am 176 rfl hS ?_;clear hS;intro bo w _ hS|go_at_call 179;refine bO hS hT true rfl ?_;clear hS;intro w hS;(try simp only[cq] at hS);unfold ab|refine av hS (fun hne=>?_);(repeat (go_big_quiet_want;first|((first|refine aE bk (fun w hS=>ac _ _ rfl hS) ?_|refine aE bk (fun w hS=>ai _ _ rfl hS) ?_);go_big_quiet_on)|(go_big_quiet_op;go_big_quiet_on)));refine wpQuiet_nil ?_;clear hS hne;intro w hS)
 refine jI [] rfl hS (hpk:=mX) ?_
 (refine fV (fun χ w hw=>ad rfl) ?_)
 (refine fV (fun χ w hw=>ah rfl) ?_)
 (refine fV (fun χ w hw=>ag rfl) ?_)
 (refine fV (fun χ w hw=>ac _ _ rfl hw) ?_)
 (refine fV (fun χ w hw=>ai _ _ rfl hw) ?_)
 refine cQ 269 [_,_] rfl (fun _=>rfl) rfl ae (.int .i64 7) (fun X w hS=>fw hS hTt s g (fun w' _ hS'=>⟨by rw[hce'.out],hS'.p⟩)) ?_
 (refine fV (fun χ w hw=>rC rfl) ?_)
 (refine fV (fun χ w hw=>aG rfl) ?_)
 refine bC rfl ?_
 intro χ w hok hS
 replace hS:=cB hS
 clear hok
 go_wp2_with (go_skip)
 exact hR _ hT hS.p
theorem kO {L:List Hs}{i:Nat}{g:Int}{b bt:Nat}{Et:List Ent}(hO:St w0 bs w H)(hW:HpW L)(hTt:TA (some ⟨bt,0,none⟩) (some (cY L)) Et)
  [hc:Cut H (⟨b,bW (some ⟨bt,0,none⟩) L.length (aT L),198,true⟩::Et) H1] (hi:i<L.length) (hck:iN (some (cY L)) i g=0) (f:Nat) (cap:List Value) (v:Int) (Φ:List Ent->Prop)
  (hen:∀ args w,(callFunc f args).run prog w=.ok (.enter f args) w)
  (hdo:∀ X w',St w0 bs w' ((⟨b,bW (some ⟨bt,0,none⟩) L.length (aT L),198,true⟩::(Et++H1))++X)->Calls prog f ([Value.pointer (some ⟨b,2+i * 10,none⟩)]++cap).toArray w' (fun e w''=>∃ x,e=.returned (.int .i64 v)∧Φ x∧St w0 bs w'' (x++X)))
  (hR:∀ x w',Φ x->St w0 bs w' x->ab R (.int .i64 v) w'):Calls prog 184 #[.pointer (some ⟨b,0,none⟩),.agg #[.int .i64 i,.int .u32 g],.func (.func f) #[] cap.toArray] w R:=by
 have hS:=hO.fr (⟨b,bW (some ⟨bt,0,none⟩) L.length (aT L),198,true⟩::Et) H1
 clear hO
 have hi256:i<256:=by have:=hW.hi;omega
 have hT:HA (some ⟨b,0,none⟩) (some (some L)) (⟨b,bW (some ⟨bt,0,none⟩) L.length (aT L),198,true⟩::Et):=⟨hW,b,bt,Et,rfl,hTt,rfl⟩
 obtain⟨s,hs⟩:∃ s:Int,s=i:=⟨_,rfl⟩
 have d1:decide (s<0)=false:=DF
 have d2:decide ((L.length:Int)≤s)=false:=DF
 rw[← hs] at hck
 have hce':=HD hck
 have hix:IdxV prog 196 (.pointer (some ⟨b,0+2,none⟩)) s ⟨b,2+i * 10,none⟩:=by rw[hs];exact y9 hi256
 show Calls prog _ #[_,.agg #[.int .i64 ((i:Nat):Int),.int .u32 g],_] w R
 rw[← hs]
 clear hck hW hi hs hi256
 go_enter func184,ntmps184
 go_wp2_with (first|refine am 176 rfl hS ?_;clear hS;intro bo w _ hS|go_at_call 179;refine bO hS hT true rfl ?_;clear hS;intro w hS;(try simp only[cq] at hS);unfold ab|refine av hS (fun hne=>?_);(repeat (go_big_quiet_want;first|((first|refine aE bk (fun w hS=>ac _ _ rfl hS) ?_|refine aE bk (fun w hS=>ai _ _ rfl hS) ?_);go_big_quiet_on)|(go_big_quiet_op;go_big_quiet_on)));refine wpQuiet_nil ?_;clear hS hne;intro w hS)
 refine jI [] rfl hS (hpk:=mX) ?_
 (refine fV (fun χ w hw=>ad rfl) ?_)
 (refine fV (fun χ w hw=>ah rfl) ?_)
 (refine fV (fun χ w hw=>ag rfl) ?_)
 (refine fV (fun χ w hw=>ac _ _ rfl hw) ?_)
 (refine fV (fun χ w hw=>ai _ _ rfl hw) ?_)
 refine cQ 269 [_,_] rfl (fun _=>rfl) rfl ae (.int .i64 0) (fun X w hS=>fw hS hTt s g (fun w' _ hS'=>⟨by rw[hce'.out],hS'.p⟩)) ?_
 (refine fV (fun χ w hw=>wI rfl) ?_)
 (refine fV (fun χ w hw=>aG rfl) ?_)
 refine bC rfl ?_
 intro χ w hok hS
 replace hS:=cB hS
 clear hok
 go_wp2_with (go_skip)
 have hS:St w0 bs w (⟨b,bW (some ⟨bt,0,none⟩) L.length (aT L),198,true⟩::(Et++(⟨bo,#[.int .i64 s,.int .u32 g],176,true⟩::H1))):=hS.p
 refine ao [⟨(undef,⟨b,bW (some ⟨bt,0,none⟩) L.length (aT L),198,true⟩::(Et++H1)),[(7,fun _ x=>Φ x.2)]⟩] [⟨bo,#[.int .i64 s,.int .u32 g],176,true⟩] (⟨b,bW (some ⟨bt,0,none⟩) L.length (aT L),198,true⟩::(Et++(H1++[⟨bo,#[.int .i64 s,.int .u32 g],176,true⟩]))) (by simp) hS.p (by kernel_rfl) (by kernel_rfl) ?_
 (refine fV (fun χ w hw=>ad rfl) ?_)
 (refine fV (fun χ w hw=>ad rfl) ?_)
 (refine fV (fun χ w hw=>ag rfl) ?_)
 (refine fV (fun χ w hw=>ac _ _ rfl hw) ?_)
 (refine fV (fun χ w hw=>ah rfl) ?_)
 (refine fV (fun χ w hw=>ag rfl) ?_)
 (refine fV (fun χ w hw=>aY _ _ _ rfl) ?_)
 refine ap 0 0 rfl rfl (by(rfl)) (by(rfl)) (by(rfl)) (fun _=>rfl) (fun _=>.int .i64 v) ?_ ?_
 ·intro χ X w _ hS
  exact mH (.tmp 32) [_] rfl hen ((hdo (X++[⟨bo,#[.int .i64 s,.int .u32 g],176,true⟩]) w (show St w0 bs w ((⟨b,bW (some ⟨bt,0,none⟩) L.length (aT L),198,true⟩::(Et++H1))++(X++[⟨bo,#[.int .i64 s,.int .u32 g],176,true⟩])) from hS)).mono fun e w'' ⟨x,h1,h2,h3⟩=>⟨_,h1,(undef,x),rfl,h2,h3⟩)
 (refine fV (fun χ w hw=>aG rfl) ?_)
 refine bC rfl ?_
 intro χ w hok hS
 obtain⟨hΦ,_⟩:=hok _ (.head _)
 have hS:St w0 bs w (((χ 7).2++[])++[⟨bo,#[.int .i64 s,.int .u32 g],176,true⟩]):=hS
 rw[List.append_nil] at hS
 generalize (χ 7).2=x at hS hΦ
 clear hok
 go_wp2_with (go_skip)
 exact hR x _ hΦ hS.p
end Go.Proofs.YtnbgljbhkeffkaaGreatDoor
