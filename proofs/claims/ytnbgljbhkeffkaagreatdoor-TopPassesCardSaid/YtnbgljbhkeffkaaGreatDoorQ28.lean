/-
  Contracts of what the law TopPasses reaches, part 28: Lkr Sts Bat Opc.
-/
import Derived.Test.YtnbgljbhkeffkaaGreatDoorQ26
open Go.Proofs.Tryz
set_option linter.unusedVariables false
set_option linter.unusedSimpArgs false
set_option maxHeartbeats 4000000
set_option maxRecDepth 100000
namespace Go.Proofs.YtnbgljbhkeffkaaGreatDoor
open Go.RowKit Go.Mm
variable {R:Ending->World->Prop}{w W:World}{w0:World}{As bs:List Nat}{H H' H1 H2 H3 E E' E1 E2 Ea Eh Er:List Ent}
variable {Ms Ms1 Ms2 Ms3:dF}
def bH (m:Nat):Array Value:=#[.int .i64 0,.map (some m)]
abbrev zK:Array Value:=#[.string { data:=#[] },.int .i64 0,.int .i64 0,.int .i64 0,.int .i64 0]
abbrev vK (s:ByteArray):Array Value:=#[.string s,.int .i64 (-1),.int .i64 0,.int .i64 0,.int .i64 2]
instance Kt:MapTy prog 107 99 358:=⟨by kernel_rfl,by kernel_rfl⟩
instance Ks:ScalarT prog 107:=⟨by kernel_rfl,by kernel_rfl⟩
instance GP:AggT prog 358 5:=⟨by kernel_rfl,by kernel_rfl⟩
instance Kr:ZeroT prog 358 zK:=⟨by kernel_rfl⟩
instance Kq:ZeroV prog 358 (.agg zK):=⟨fun w=>by kernel_rfl⟩
instance Ku {b off:Nat} : FieldAt prog 109 1 b off (off+1):=⟨fun w=>by kernel_rfl⟩
instance Kv {m:Nat} : BuildT prog 109 [(1,.map (some m))] (bH m):=⟨fun w=>by kernel_rfl⟩
section
variable {b m:Nat}{s:ByteArray}{i g:Int}
instance Ou:CellAt (bH m) (0+1) (.map (some m)):=⟨rfl⟩
theorem uV (hO:St w0 bs w H)[hH:Has H b (bH m) 109](hR:∀ w',St w0 bs w' H->ab R (.bool true) w'):Calls prog 212 #[.pointer (some ⟨b,0,none⟩)] w R:=by
 have hS:=hO
 clear hO
 go_enter func212,ntmps212
 go_wp2_with (first|refine aF (.binOp .neq _ _ (.const (.map none)) _) rfl ?_;refine wU (lx rfl) ?_|refine af rfl hS ?_)
 exact hR _ hS
theorem AZ (hB:Mps W As w0 bs Ms)(hO:St w0 bs w H)(hR:∀ b m w0' bs' w',Mps W As w0' bs' ((m,[])::Ms)->St w0' bs' w' (⟨b,bH m,109,true⟩::H)->ab R (.pointer (some ⟨b,0,none⟩)) w'):Calls prog 20 #[] w R:=by
 have hS:=hO
 clear hO
 go_enter func20,ntmps20
 go_wp2_with (first|refine aF (.makeMap _ none) rfl ?_;refine iQ rfl hB hS ?_;clear hB hS;intro m w hB hS|refine am 109 rfl hS ?_;clear hS;intro b w _ hS|refine aL rfl ?_)
 exact hR _ _ _ _ _ hB hS
theorem rZ (hB:Mps W As w0 bs Ms)(hO:St w0 bs w H)[hH:Has H b (bH m) 109](hi:0≤i∧i<64)(hg:1≤g∧g≤4294967295)(hT:TagW s)[hM:MapIn Ms m []][hu:MapUp Ms m [] [(.agg (vD i g),.agg (vK s))] Ms1](hR:∀ w0' bs' w',Mps W As w0' bs' Ms1->St w0' bs' w' H->ab R (.int .i64 0) w'):Calls prog 152 #[.pointer (some ⟨b,0,none⟩),.agg (vD i g),.string s] w R:=by
 have hS:=hO
 clear hO
 have ho:=HD (show kT 1 i g=0 by unfold kT;rw[if_pos];simp;omega)
 have hg':=HD (show 0≤g∧g≤4294967295 by omega)
 clear hi hg
 go_enter func152,ntmps152
 go_wp2_with (first|refine am 99 rfl hS ?_;clear hS;intro b4 w _ hS|(first|go_at_call 212;refine uV (m:=m) hS ?_|go_at_call 213;refine jT hS 1 i g hg'.out 0 ho.out ?_|go_at_call 96;refine gI hS hT ?_);clear hS;intro w hS;unfold ab|refine au rfl hS ?_)
 refine fR 9 10 zK zK 358 hS ?_
 (refine fV (fun χ w hw=>ad rfl) ?_)
 (refine fV (fun χ w hw=>ah rfl) ?_)
 (refine fV (fun χ w hw=>ag rfl) ?_)
 (refine fV (fun χ w hw=>ac _ _ rfl hw) ?_)
 (refine fV (fun χ w hw=>ai _ _ rfl hw) ?_)
 (refine fV (fun χ w hw=>dS rfl hB hw) ?_)
 (refine fV (fun χ w hw=>ad rfl) ?_)
 (refine fV (fun χ w hw=>aB rfl) ?_)
 (refine fV (fun χ w hw=>aB rfl) ?_)
 (refine rf rfl rfl rfl (fun _=>rfl) ?_)
 (refine re rfl rfl rfl (fun _=>rfl) ?_)
 (refine fV (fun χ w hw=>aG rfl) ?_)
 refine l9 rfl ?_
 intro b7 χ w hb hS
 simp only[hb]
 clear hb χ
 go_wp2_with (first|refine aF (.call { callee:=.builtin .len,args:=#[_],argTypes:=#[_] }) rfl ?_;refine wU (tL rfl hB hS) ?_|refine aR 7 hS ?_;clear hS;intro w hS;simp only[List.take_succ_cons,List.take_zero,List.drop_succ_cons,List.drop_zero];(repeat (first|(first|refine ax rfl (ac _ _ rfl hS) ?_|refine ax rfl (ai _ _ rfl hS) ?_)|still_step));refine wpStill_nil ?_|refine wS (gL rfl hB hS ?_);clear hB hS;intro w hB hS|refine af rfl hS ?_)
 exact hR _ _ _ hB hS.p
theorem nX (hO:St w0 bs w H){x y:Int}(hx:1≤x∧x≤y∧y≤1048576)(hR:∀ w',St w0 bs w' H->ab R (.int .i64 0) w'):Calls prog 39 #[.int .i64 x,.int .i64 y] w R:=by
 have hS:=hO
 clear hO
 have d1:decide (x<1)=false:=DF
 have d2:decide (y<x)=false:=DF
 have d3:decide (1048576<y)=false:=DF
 go_enter func39,ntmps39
 go_wp2_with (go_skip)
 exact hR _ hS
end
open Go.RowKit Go.Mm
abbrev c5 (a b c d e:Int):Array Value:=#[.int .i64 a,.int .i64 b,.int .i64 c,.int .i64 d,.int .i64 e]
instance Ih:AggT prog 392 5:=⟨by kernel_rfl,by kernel_rfl⟩
instance FS:AggT prog 489 5:=⟨by kernel_rfl,by kernel_rfl⟩
instance Mt:ZeroT prog 392 (c5 0 0 0 0 0):=⟨by kernel_rfl⟩
instance Ie:ZeroT prog 489 (c5 0 0 0 0 0):=⟨by kernel_rfl⟩
instance If {a b c d e:Int} : BuildT prog 392 [(0,.int .i64 a),(1,.int .i64 b),(2,.int .i64 c),(3,.int .i64 d),(4,.int .i64 e)] (c5 a b c d e):=⟨fun w=>by kernel_rfl⟩
instance Ig {a b c d e:Int} : BuildT prog 489 [(0,.int .i64 a),(1,.int .i64 b),(2,.int .i64 c),(3,.int .i64 d),(4,.int .i64 e)] (c5 a b c d e):=⟨fun w=>by kernel_rfl⟩
instance FR {a d:Int} : BuildT prog 489 [(0,.int .i64 a),(3,.int .i64 d)] (c5 a 0 0 d 0):=⟨fun w=>by kernel_rfl⟩
theorem mJ {b i:Nat}(hi:i<5):IdxV prog 489 (.pointer (some ⟨b,0,none⟩)) i ⟨b,0+i * 1,none⟩:=PP (P:=prog) (t:=489) (m:=5) (z:=1) (e:=3) (by kernel_rfl) hi
instance ME {b:Nat} : IdxV prog 489 (.pointer (some ⟨b,0,none⟩)) 0 ⟨b,0,none⟩:=mJ (i:=0) (by decide)
instance MD {b:Nat} : IdxV prog 489 (.pointer (some ⟨b,0,none⟩)) 1 ⟨b,1,none⟩:=mJ (i:=1) (by decide)
instance MC {b:Nat} : IdxV prog 489 (.pointer (some ⟨b,0,none⟩)) 2 ⟨b,2,none⟩:=mJ (i:=2) (by decide)
instance MB {b:Nat} : IdxV prog 489 (.pointer (some ⟨b,0,none⟩)) 3 ⟨b,3,none⟩:=mJ (i:=3) (by decide)
instance Mz {b:Nat} : IdxV prog 489 (.pointer (some ⟨b,0,none⟩)) 4 ⟨b,4,none⟩:=mJ (i:=4) (by decide)
section
variable {a b c d e:Int}
theorem rx (hO:St w0 bs w H)(hR:∀ w',St w0 bs w' H->ab R (.agg (c5 a b c d e)) w'):Calls prog 379 #[.agg (c5 a b c d e)] w R:=by
 have hS:=hO
 clear hO
 go_enter func379,ntmps379
 go_wp2_with (first|refine am 392 rfl hS ?_;clear hS;intro b1 w _ hS|refine aq 489 rfl hS ?_;clear hS;intro b2 w _ hS|refine aL rfl ?_|refine af rfl hS ?_|refine ak rfl hS ?_;clear hS;intro w hS)
 refine bodyPost_ret (aI rfl hS) rfl ?_
 exact hR _ hS.p
theorem tv (hO:St w0 bs w H)(hR:∀ w',St w0 bs w' H->ab R (.agg (c5 a b c d e)) w'):Calls prog 380 #[.agg (c5 a b c d e)] w R:=by
 have hS:=hO
 clear hO
 go_enter func380,ntmps380
 go_wp2_with (first|refine am 489 rfl hS ?_;clear hS;intro b1 w _ hS|refine aq 392 rfl hS ?_;clear hS;intro b2 w _ hS|refine aM rfl ?_|refine aL rfl ?_|refine af rfl hS ?_|refine ak rfl hS ?_;clear hS;intro w hS)
 refine bodyPost_ret (aI rfl hS) rfl ?_
 exact hR _ hS.p
end
section
variable {n:Int}
instance My:IxA prog 489 (.agg (c5 n n 0 0 0)) (.int .i64 0) (.int .i64 n):=⟨fun w=>by kernel_rfl⟩
instance Mx:IxA prog 489 (.agg (c5 n n 0 0 0)) (.int .i64 1) (.int .i64 n):=⟨fun w=>by kernel_rfl⟩
instance Mw:IxA prog 489 (.agg (c5 n n 0 0 0)) (.int .i64 2) (.int .i64 0):=⟨fun w=>by kernel_rfl⟩
instance Mv:IxA prog 489 (.agg (c5 n n 0 0 0)) (.int .i64 3) (.int .i64 0):=⟨fun w=>by kernel_rfl⟩
instance Mu:IxA prog 489 (.agg (c5 n n 0 0 0)) (.int .i64 4) (.int .i64 0):=⟨fun w=>by kernel_rfl⟩
theorem tw (hO:St w0 bs w H)(hn:n=0∨n=1)(hR:∀ w',St w0 bs w' H->ab R (.int .i64 0) w'):Calls prog 328 #[.agg (c5 n n 0 0 0)] w R:=by
 have hS:=hO
 clear hO
 have d1:decide (n<0)=false:=DF
 have d2:decide (10000<n)=false:=DF
 have b1:0≤n∧n≤1:=by omega
 go_enter func328,ntmps328
 go_wp2_with (first|refine am 392 rfl hS ?_;clear hS;intro bx w _ hS|go_at_call 379;refine rx hS ?_;clear hS;intro w hS;unfold ab|refine au rfl hS ?_)
 have hS0:=hS
 clear hS
 go_loopw [8,3] (fun u x wr=>∃ k:Int,((k=0∧x=.int .i64 0)∨(k=1∧x=.int .i64 0)∨(k=2∧x=.int .i64 n)∨(k=3∧x=.int .i64 n)∨(k=4∧x=.int .i64 n)∨(k=5∧x=.int .i64 n))∧u=.int .i64 k∧St w0 bs wr (⟨bx,c5 n n 0 0 0,392,true⟩::H)) (fun u _ _=>5 - (intOf u).toNat)
 case atStart=>exact⟨0,.inl ⟨rfl,rfl⟩,rfl,hS0⟩
 case round=>
  clear hS0
  obtain⟨k,⟨rfl,rfl⟩|⟨rfl,rfl⟩|⟨rfl,rfl⟩|⟨rfl,rfl⟩|⟨rfl,rfl⟩|⟨rfl,rfl⟩,rfl,hS⟩:=hrel
  ·go_wp2_with (refine wU (cD rfl) ?_)
   go_roundw
   case rel=>exact⟨1,.inr (.inl ⟨rfl,rfl⟩),rfl,hS⟩
   case measure=>simp[intOf]
  ·go_wp2_with (refine wU (cD rfl) ?_)
   go_roundw
   case rel=>exact⟨2,.inr (.inr (.inl ⟨rfl,by go_num⟩)),rfl,hS⟩
   case measure=>simp[intOf]
  ·go_wp2_with (refine wU (cD rfl) ?_)
   go_roundw
   case rel=>exact⟨3,.inr (.inr (.inr (.inl ⟨rfl,by go_num⟩))),rfl,hS⟩
   case measure=>simp[intOf]
  ·go_wp2_with (refine wU (cD rfl) ?_)
   go_roundw
   case rel=>exact⟨4,.inr (.inr (.inr (.inr (.inl ⟨rfl,by go_num⟩)))),rfl,hS⟩
   case measure=>simp[intOf]
  ·go_wp2_with (refine wU (cD rfl) ?_)
   go_roundw
   case rel=>exact⟨5,.inr (.inr (.inr (.inr (.inr ⟨rfl,by go_num⟩)))),rfl,hS⟩
   case measure=>simp[intOf]
  ·go_wp2_with (refine af rfl hS ?_)
   exact hR _ hS.weak
end
section
variable {n:Int}{p:Option Addr}{T:Tb}{me:Nat}{o:Option (Array Value)}
theorem ww (hO:St w0 bs w H)(hn:n=0∨n=1)(hR:∀ w',St w0 bs w' H->ab R (.tuple #[.int .i64 n,.int .i64 0]) w'):Calls prog 247 #[.agg (c5 n n 0 0 0)] w R:=by
 have hS:=hO
 clear hO
 have b1:0≤n∧n≤1:=by omega
 have hn':=HD hn
 clear hn
 go_enter func247,ntmps247
 go_wp2_with (first|refine am 392 rfl hS ?_;clear hS;intro bx w _ hS|go_at_call 328;refine tw hS hn'.out ?_;clear hS;intro w hS;unfold ab|(first|refine af rfl hS ?_|refine au rfl hS ?_))
 exact hR _ hS.p
def Lv (o:Option (Array Value))(n:Int):Prop:=(o=none∧n=0)∨(n=1∧∃ i g tg,o=some (bJ i g 1 0 tg))
theorem gJ (hO:St w0 bs w H)(hT:fj p T me o E)[hc:Cut H E H1](hl:Lv o n)(k:Int)(N:Nat)(hN:(N:Int)=if k=1 then n else 0)(hR:∀ x c w',St w0 bs w' (E++H1)->ab R (.slice x N c) w'):Calls prog 169 #[.pointer p,.int .i64 k] w R:=by
 rcases hl with ⟨rfl,rfl⟩|⟨rfl,i,g,tg,rfl⟩
 ·have:N=0:=by split at hN <;> omega
  subst this
  exact mA hO hT k (fun w' h=>hR _ _ w' h)
 ·refine oD hO hT k (decide (1=k)) rfl (fun v' E' w' h1 h2=>?_)
  have hlen:(if decide ((1:Int)=k)=true then [(1:Int)] else []).length=N:=by
   by_cases hk:k=1
   ·subst hk;simp at hN ⊢;omega
   ·have hk' : ¬ (1:Int)=k:=fun h=>hk h.symm
    rw[if_neg hk] at hN
    simp[hk'];omega
  obtain⟨⟨x,c,hv⟩,_⟩:=IS.len h1 hlen
  subst hv
  exact hR _ _ _ (cB h2)
end
section
variable {N:Nat}{p:Option Addr}{T:Tb}{me:Nat}{o:Option (Array Value)}
theorem Cw (hB:Mps W As w0 bs Ms)(hO:St w0 bs w H)(hT:fj p T me o E)[hc:Cut H E H1](hl:Lv o N)(l:List (Value×Value))(hle:l=[]∨∃ i g s h,l=[(vI i,.agg (fd i g s h))])[hM:MapIn Ms me l](hR:∀ w0' bs' w',Mps W As w0' bs' Ms->St w0' bs' w' (E++H1)->ab R (.tuple #[.agg (c5 N N 0 0 0),.int .i64 0]) w'):Calls prog 329 #[.pointer p,.int .i64 0] w R:=by
 have hS:=hO.fr E H1
 clear hO
 have hl':=HD hl
 have hle':=HD hle
 have hN:(N:Int)=0∨(N:Int)=1:=by rcases hl with ⟨_,h⟩|⟨h,_⟩ <;> omega
 have hlsn:Cc o=N:=by
  rcases hl with ⟨rfl,h⟩|⟨h,i,g,tg,rfl⟩
  ·simp[Cc];omega
  ·simp[Cc];omega
 have b1:0≤(N:Int)∧(N:Int)≤1:=by omega
 have hlsn':=HD hlsn
 clear hl hle hlsn hN
 go_enter func329,ntmps329
 go_wp2_with (first|refine aq (o:=⟨some 4,_,_,_,_,_⟩) 392 rfl hS ?_;clear hS;intro b4 w _ hS|refine aq (o:=⟨some 6,_,_,_,_,_⟩) 489 rfl hS ?_;clear hS;intro b6 w _ hS|go_at_call 320;refine pQ hB hS hT l hle'.out ?_;clear hB hS;intro bc w0 bs w hB hS;unfold ab|go_at_call 148;refine sX hS hT ?_;rw[hlsn'.out];clear hS;intro w hS;unfold ab|refine aL rfl ?_|refine ak rfl hS ?_;clear hS;intro w hS)
 have hS0:=hS
 clear hS
 have hlv:∀ (N:Nat) x c,LenV prog 174 (.slice x N c) N:=fun _ _ _=>⟨⟨_,_,rfl⟩,⟨3,by kernel_rfl⟩⟩
 have hs0:SumIs (0:Int) ((0:Nat):Int) 0:=⟨by simp,by decide,by decide⟩
 have hsN:SumIs (0:Int) (N:Int) N:=⟨by simp,by omega,by omega⟩
 go_loopw [7] (fun u wr=>∃ k:Int,(k=1∧St w0 bs wr (⟨b6,c5 N 0 0 0 0,489,true⟩::(E++(⟨b4,c5 0 0 0 0 0,392,true⟩::H1)))∨(k=2∨k=3∨k=4∨k=5)∧St w0 bs wr (⟨b6,c5 N N 0 0 0,489,true⟩::(E++(⟨b4,c5 0 0 0 0 0,392,true⟩::H1))))∧u=.int .i64 k) (fun u _=>5 - (intOf u).toNat)
 case atStart=>exact⟨1,.inl ⟨rfl,hS0⟩,rfl⟩
 case round=>
  clear hS0
  obtain⟨k,⟨rfl,hS⟩|⟨rfl|rfl|rfl|rfl,hS⟩,rfl⟩:=hrel
  ·go_wp2_with (go_skip)
   refine aj (X:=CpX) (fun w=>St w0 bs w (⟨b6,c5 N 0 0 0 0,489,true⟩::(E++(⟨b4,c5 0 0 0 0 0,392,true⟩::H1))))
    [(5,fun _ w=>St w0 bs w (⟨b6,c5 N 0 0 0 0,489,true⟩::(E++(⟨b4,c5 0 0 0 0 0,392,true⟩::H1)))),
    (9,fun _ w=>St w0 bs w (⟨b6,c5 N N 0 0 0,489,true⟩::(E++(⟨b4,c5 0 0 0 0 0,392,true⟩::H1))))] (hS.drawn _) (by kernel_rfl) (by kernel_rfl) ?_
   (refine oP (fun χ w=>ad rfl) ?_)
   (refine oP (fun χ w=>aY _ _ _ rfl) ?_)
   refine jW 1 (fun w=>St w0 bs w (⟨b6,c5 N 0 0 0 0,489,true⟩::(E++(⟨b4,c5 0 0 0 0 0,392,true⟩::H1)))) (by kernel_rfl) (fun i hi χ w hw=>match i,hi with|0,_=>hw|1,_=>hw) (fun _=>rfl) rfl (fun χ w hw=>ac _ _ rfl hw) ?_
   (refine oP (fun χ w=>ad rfl) ?_)
   (refine oP (fun χ w=>ad rfl) ?_)
   refine aO 0 rfl (by kernel_rfl) (fun _=>rfl) (fun x=>.slice x.x N x.c) (fun χ w hw=>aw rfl ae ?_) ?_
   ·exact gJ (show St w0 bs w (⟨b6,c5 N 0 0 0 0,489,true⟩::(E++(⟨b4,c5 0 0 0 0 0,392,true⟩::H1))) from hw) hT hl'.out 1 N (by simp) (fun x c w' h=>⟨_,rfl,⟨none,[],x,0,c,0⟩,rfl,(show St w0 bs w' (⟨b6,c5 N 0 0 0 0,489,true⟩::(E++(⟨b4,c5 0 0 0 0 0,392,true⟩::H1))) from h.p)⟩)
   refine eQ 5 (fun _=>rfl) rfl (fun _=>.int .i64 ((N:Nat):Int)) (fun χ w=>aA rfl) ?_
   refine oP (fun χ w=>bL rfl) ?_
   (refine oP (fun χ w=>aY _ _ _ rfl) ?_)
   refine aO 1 rfl (by kernel_rfl) (fun _=>rfl) (fun _=>undef) (fun χ w hw=>bV rfl (show St w0 bs w (⟨b6,c5 N 0 0 0 0,489,true⟩::(E++(⟨b4,c5 0 0 0 0 0,392,true⟩::H1))) from hw) (fun w' hS'=>⟨default,rfl,hS'⟩)) ?_
   refine aV rfl ?_
   intro χ w hS
   replace hS:St w0 bs w (⟨b6,c5 N N 0 0 0,489,true⟩::(E++(⟨b4,c5 0 0 0 0 0,392,true⟩::H1))):=hS
   obtain⟨y,hy⟩:∃ y,y=(χ 5).x:=⟨_,rfl⟩
   obtain⟨cc,hcc⟩:∃ c,c=(χ 5).c:=⟨_,rfl⟩
   simp only[Nat.zero_add,Nat.reduceAdd,← hy,← hcc]
   clear hy hcc χ
   go_wp2_with (go_skip)
   go_roundw
   case rel=>exact⟨2,.inr ⟨.inl rfl,hS⟩,rfl⟩
   case measure=>simp[intOf]
  ·go_wp2_with (go_skip)
   refine aj (X:=CpX) (fun w=>St w0 bs w (⟨b6,c5 N N 0 0 0,489,true⟩::(E++(⟨b4,c5 0 0 0 0 0,392,true⟩::H1))))
    [(5,fun _ w=>St w0 bs w (⟨b6,c5 N N 0 0 0,489,true⟩::(E++(⟨b4,c5 0 0 0 0 0,392,true⟩::H1)))),
    (9,fun _ w=>St w0 bs w (⟨b6,c5 N N 0 0 0,489,true⟩::(E++(⟨b4,c5 0 0 0 0 0,392,true⟩::H1))))] (hS.drawn _) (by kernel_rfl) (by kernel_rfl) ?_
   (refine oP (fun χ w=>ad rfl) ?_)
   (refine oP (fun χ w=>aY _ _ _ rfl) ?_)
   refine jW 1 (fun w=>St w0 bs w (⟨b6,c5 N N 0 0 0,489,true⟩::(E++(⟨b4,c5 0 0 0 0 0,392,true⟩::H1)))) (by kernel_rfl) (fun i hi χ w hw=>match i,hi with|0,_=>hw|1,_=>hw) (fun _=>rfl) rfl (fun χ w hw=>ac _ _ rfl hw) ?_
   (refine oP (fun χ w=>ad rfl) ?_)
   (refine oP (fun χ w=>ad rfl) ?_)
   refine aO 0 rfl (by kernel_rfl) (fun _=>rfl) (fun x=>.slice x.x 0 x.c) (fun χ w hw=>aw rfl ae ?_) ?_
   ·exact gJ (show St w0 bs w (⟨b6,c5 N N 0 0 0,489,true⟩::(E++(⟨b4,c5 0 0 0 0 0,392,true⟩::H1))) from hw) hT hl'.out 2 0 (by simp) (fun x c w' h=>⟨_,rfl,⟨none,[],x,0,c,0⟩,rfl,(show St w0 bs w' (⟨b6,c5 N N 0 0 0,489,true⟩::(E++(⟨b4,c5 0 0 0 0 0,392,true⟩::H1))) from h.p)⟩)
   refine eQ 5 (fun _=>rfl) rfl (fun _=>.int .i64 ((0:Nat):Int)) (fun χ w=>aA rfl) ?_
   refine oP (fun χ w=>bL rfl) ?_
   (refine oP (fun χ w=>aY _ _ _ rfl) ?_)
   refine aO 1 rfl (by kernel_rfl) (fun _=>rfl) (fun _=>undef) (fun χ w hw=>bV rfl (show St w0 bs w (⟨b6,c5 N N 0 0 0,489,true⟩::(E++(⟨b4,c5 0 0 0 0 0,392,true⟩::H1))) from hw) (fun w' hS'=>⟨default,rfl,hS'⟩)) ?_
   refine aV rfl ?_
   intro χ w hS
   replace hS:St w0 bs w (⟨b6,c5 N N 0 0 0,489,true⟩::(E++(⟨b4,c5 0 0 0 0 0,392,true⟩::H1))):=hS
   obtain⟨y,hy⟩:∃ y,y=(χ 5).x:=⟨_,rfl⟩
   obtain⟨cc,hcc⟩:∃ c,c=(χ 5).c:=⟨_,rfl⟩
   simp only[Nat.zero_add,Nat.reduceAdd,← hy,← hcc]
   clear hy hcc χ
   go_wp2_with (go_skip)
   go_roundw
   case rel=>exact⟨3,.inr ⟨.inr (.inl rfl),hS⟩,rfl⟩
   case measure=>simp[intOf]
  ·go_wp2_with (go_skip)
   refine aj (X:=CpX) (fun w=>St w0 bs w (⟨b6,c5 N N 0 0 0,489,true⟩::(E++(⟨b4,c5 0 0 0 0 0,392,true⟩::H1))))
    [(5,fun _ w=>St w0 bs w (⟨b6,c5 N N 0 0 0,489,true⟩::(E++(⟨b4,c5 0 0 0 0 0,392,true⟩::H1)))),
    (9,fun _ w=>St w0 bs w (⟨b6,c5 N N 0 0 0,489,true⟩::(E++(⟨b4,c5 0 0 0 0 0,392,true⟩::H1))))] (hS.drawn _) (by kernel_rfl) (by kernel_rfl) ?_
   (refine oP (fun χ w=>ad rfl) ?_)
   (refine oP (fun χ w=>aY _ _ _ rfl) ?_)
   refine jW 1 (fun w=>St w0 bs w (⟨b6,c5 N N 0 0 0,489,true⟩::(E++(⟨b4,c5 0 0 0 0 0,392,true⟩::H1)))) (by kernel_rfl) (fun i hi χ w hw=>match i,hi with|0,_=>hw|1,_=>hw) (fun _=>rfl) rfl (fun χ w hw=>ac _ _ rfl hw) ?_
   (refine oP (fun χ w=>ad rfl) ?_)
   (refine oP (fun χ w=>ad rfl) ?_)
   refine aO 0 rfl (by kernel_rfl) (fun _=>rfl) (fun x=>.slice x.x 0 x.c) (fun χ w hw=>aw rfl ae ?_) ?_
   ·exact gJ (show St w0 bs w (⟨b6,c5 N N 0 0 0,489,true⟩::(E++(⟨b4,c5 0 0 0 0 0,392,true⟩::H1))) from hw) hT hl'.out 3 0 (by simp) (fun x c w' h=>⟨_,rfl,⟨none,[],x,0,c,0⟩,rfl,(show St w0 bs w' (⟨b6,c5 N N 0 0 0,489,true⟩::(E++(⟨b4,c5 0 0 0 0 0,392,true⟩::H1))) from h.p)⟩)
   refine eQ 5 (fun _=>rfl) rfl (fun _=>.int .i64 ((0:Nat):Int)) (fun χ w=>aA rfl) ?_
   refine oP (fun χ w=>bL rfl) ?_
   (refine oP (fun χ w=>aY _ _ _ rfl) ?_)
   refine aO 1 rfl (by kernel_rfl) (fun _=>rfl) (fun _=>undef) (fun χ w hw=>bV rfl (show St w0 bs w (⟨b6,c5 N N 0 0 0,489,true⟩::(E++(⟨b4,c5 0 0 0 0 0,392,true⟩::H1))) from hw) (fun w' hS'=>⟨default,rfl,hS'⟩)) ?_
   refine aV rfl ?_
   intro χ w hS
   replace hS:St w0 bs w (⟨b6,c5 N N 0 0 0,489,true⟩::(E++(⟨b4,c5 0 0 0 0 0,392,true⟩::H1))):=hS
   obtain⟨y,hy⟩:∃ y,y=(χ 5).x:=⟨_,rfl⟩
   obtain⟨cc,hcc⟩:∃ c,c=(χ 5).c:=⟨_,rfl⟩
   simp only[Nat.zero_add,Nat.reduceAdd,← hy,← hcc]
   clear hy hcc χ
   go_wp2_with (go_skip)
   go_roundw
   case rel=>exact⟨4,.inr ⟨.inr (.inr (.inl rfl)),hS⟩,rfl⟩
   case measure=>simp[intOf]
  ·go_wp2_with (go_skip)
   refine aj (X:=CpX) (fun w=>St w0 bs w (⟨b6,c5 N N 0 0 0,489,true⟩::(E++(⟨b4,c5 0 0 0 0 0,392,true⟩::H1))))
    [(5,fun _ w=>St w0 bs w (⟨b6,c5 N N 0 0 0,489,true⟩::(E++(⟨b4,c5 0 0 0 0 0,392,true⟩::H1)))),
    (9,fun _ w=>St w0 bs w (⟨b6,c5 N N 0 0 0,489,true⟩::(E++(⟨b4,c5 0 0 0 0 0,392,true⟩::H1))))] (hS.drawn _) (by kernel_rfl) (by kernel_rfl) ?_
   (refine oP (fun χ w=>ad rfl) ?_)
   (refine oP (fun χ w=>aY _ _ _ rfl) ?_)
   refine jW 1 (fun w=>St w0 bs w (⟨b6,c5 N N 0 0 0,489,true⟩::(E++(⟨b4,c5 0 0 0 0 0,392,true⟩::H1)))) (by kernel_rfl) (fun i hi χ w hw=>match i,hi with|0,_=>hw|1,_=>hw) (fun _=>rfl) rfl (fun χ w hw=>ac _ _ rfl hw) ?_
   (refine oP (fun χ w=>ad rfl) ?_)
   (refine oP (fun χ w=>ad rfl) ?_)
   refine aO 0 rfl (by kernel_rfl) (fun _=>rfl) (fun x=>.slice x.x 0 x.c) (fun χ w hw=>aw rfl ae ?_) ?_
   ·exact gJ (show St w0 bs w (⟨b6,c5 N N 0 0 0,489,true⟩::(E++(⟨b4,c5 0 0 0 0 0,392,true⟩::H1))) from hw) hT hl'.out 4 0 (by simp) (fun x c w' h=>⟨_,rfl,⟨none,[],x,0,c,0⟩,rfl,(show St w0 bs w' (⟨b6,c5 N N 0 0 0,489,true⟩::(E++(⟨b4,c5 0 0 0 0 0,392,true⟩::H1))) from h.p)⟩)
   refine eQ 5 (fun _=>rfl) rfl (fun _=>.int .i64 ((0:Nat):Int)) (fun χ w=>aA rfl) ?_
   refine oP (fun χ w=>bL rfl) ?_
   (refine oP (fun χ w=>aY _ _ _ rfl) ?_)
   refine aO 1 rfl (by kernel_rfl) (fun _=>rfl) (fun _=>undef) (fun χ w hw=>bV rfl (show St w0 bs w (⟨b6,c5 N N 0 0 0,489,true⟩::(E++(⟨b4,c5 0 0 0 0 0,392,true⟩::H1))) from hw) (fun w' hS'=>⟨default,rfl,hS'⟩)) ?_
   refine aV rfl ?_
   intro χ w hS
   replace hS:St w0 bs w (⟨b6,c5 N N 0 0 0,489,true⟩::(E++(⟨b4,c5 0 0 0 0 0,392,true⟩::H1))):=hS
   obtain⟨y,hy⟩:∃ y,y=(χ 5).x:=⟨_,rfl⟩
   obtain⟨cc,hcc⟩:∃ c,c=(χ 5).c:=⟨_,rfl⟩
   simp only[Nat.zero_add,Nat.reduceAdd,← hy,← hcc]
   clear hy hcc χ
   go_wp2_with (go_skip)
   go_roundw
   case rel=>exact⟨5,.inr ⟨.inr (.inr (.inr rfl)),hS⟩,rfl⟩
   case measure=>simp[intOf]
  ·go_wp2_with (first|go_at_call 380;refine tv hS ?_;clear hS;intro w hS;unfold ab|refine au rfl hS ?_|refine ak rfl hS ?_;clear hS;intro w hS)
   refine bodyPost_ret (aJ rfl hS) rfl ?_
   exact hR _ _ _ hB hS.p
end
open Go.RowKit Go.Mm
section
variable {p:Option Addr}{T:Tb}{me:Nat}{o:Option (Array Value)}
theorem nV (hB:Mps W As w0 bs Ms)(hO:St w0 bs w H)(hT:fj p T me o E)[hc:Cut H E H1](l:List (Value×Value))(hle:l=[]∨∃ i g s h,l=[(vI i,.agg (fd i g s h))])[hM:MapIn Ms me l](hR:∀ w0' bs' w',Mps W As w0' bs' Ms->St w0' bs' w' (E++H1)->ab R (.bool true) w'):Calls prog 240 #[.pointer p] w R:=by
 have hS:=hO.fr E H1
 clear hO
 have hle':=HD hle
 clear hle
 go_enter func240,ntmps240
 go_wp2_with (go_at_call 320;refine pQ hB hS hT l hle'.out ?_;clear hB hS;intro bc w0 bs w hB hS;unfold ab)
 exact hR _ _ _ hB hS
end
theorem zW (hO:St w0 bs w H)(v f:Value)[OneCell v][OneCell f](hR:∀ w',St w0 bs w' H->ab R (.tuple #[]) w'):Calls prog 429 #[v,.int .i64 0,.int .i64 0,f] w R:=by
 have hS0:=hO
 clear hO
 go_enter func429,ntmps429
 go_wp2_with (go_skip)
 go_loopw [8] (fun u wr=>u=.int .i64 1∧St w0 bs wr H) (fun _ _=>0)
 case atStart=>exact⟨rfl,hS0⟩
 case round=>
  clear hS0
  obtain⟨rfl,hS⟩:=hrel
  go_wp2_with (go_skip)
  refine bodyPost_end (results_none rfl _ _ _) rfl ?_
  exact hR _ hS
theorem zU (hO:St w0 bs w H){v:Value}(f:Value){k:Int}[OneCell v][OneCell f](hR:∀ w',St w0 bs w' H->ab R (.tuple #[]) w'):Calls prog 407 #[v,.int .i64 0,.int .i64 0,.int .i64 k,f] w R:=by
 have hS0:=hO
 clear hO
 go_enter func407,ntmps407
 go_wp2_with (go_skip)
 go_loopw [1,2] (fun x y wr=>x=.int .i64 0∧y=.int .i64 0∧St w0 bs wr H) (fun _ _ _=>0)
 case atStart=>exact⟨rfl,rfl,hS0⟩
 case round=>
  clear hS0
  obtain⟨rfl,rfl,hS⟩:=hrel
  go_wp2_with (go_at_call 429;refine zW hS v f ?_;clear hS;intro w hS;unfold ab)
  refine bodyPost_ret (results_none rfl _ _ _) rfl ?_
  exact hR _ hS
theorem tC (hO:St w0 bs w H)(hR:∀ n w',St w0 bs w' H->ab R (.int .i64 n) w'):Calls prog 438 #[.int .u64 0] w R:=by
 have hS:=hO
 clear hO
 go_enter func438,ntmps438
 go_wp2_with (go_skip)
 exact hR _ _ hS
theorem zV (hO:St w0 bs w H)(hR:∀ n w',St w0 bs w' H->ab R (.int .i64 n) w'):Calls prog 408 #[.int .u64 0] w R:=by
 have hS:=hO
 clear hO
 go_enter func408,ntmps408
 go_wp2_with (go_at_call 438;refine tC hS ?_;clear hS;intro n w hS;unfold ab)
 exact hR _ _ hS
theorem wB (hO:St w0 bs w H)(x:Option Addr)(c:Nat){f:Value}[OneCell f](hR:∀ w',St w0 bs w' H->ab R (.tuple #[]) w'):Calls prog 368 #[.slice x 0 c,f] w R:=by
 have hS:=hO
 clear hO
 go_enter func368,ntmps368
 go_wp2_with (first|go_at_call 408;refine zV hS ?_;clear hS;intro k w hS;unfold ab|go_at_call 407;refine zU hS f ?_;clear hS;intro w hS;unfold ab)
 refine bodyPost_end (results_none rfl _ _ _) rfl ?_
 exact hR _ hS
instance LB:ZeroT prog 478 #[.nilFunc]:=⟨by kernel_rfl⟩
instance LC:ScalarT prog 478:=⟨by kernel_rfl,by kernel_rfl⟩
section
variable {n:Int}{p:Option Addr}{T:Tb}{me:Nat}{o:Option (Array Value)}
theorem pD (hO:St w0 bs w H)(hT:fj p T me o E)[hc:Cut H E H1](hl:Lv o n)(hR:∀ x c w',St w0 bs w' (E++H1)->ab R (.slice x 0 c) w'):Calls prog 321 #[.pointer p] w R:=by
 have hS:=hO.fr E H1
 clear hO
 have hl':=HD hl
 clear hl
 go_enter func321,ntmps321
 go_wp2_with (first|refine am 67 rfl hS ?_;clear hS;intro b1 w _ hS|refine aq 478 rfl hS ?_;clear hS;intro b3 w _ hS|go_at_call 169;refine gJ hS hT hl'.out 2 0 rfl ?_;clear hS;intro x c w hS;unfold ab|go_at_call 368;refine wB hS x c ?_;clear hS;intro w hS;unfold ab|refine af rfl hS ?_|refine bP rfl hS ?_;clear hS;intro w hS)
 exact hR _ _ _ (by(try simp only[aP]);exact hS.p)
theorem BF (hB:Mps W As w0 bs Ms)(hO:St w0 bs w H)(hT:fj p T me o E)[hc:Cut H E H1](hl:Lv o n)(l:List (Value×Value))(hle:l=[]∨∃ i g s h,l=[(vI i,.agg (fd i g s h))])[hM:MapIn Ms me l](k:Nat)(hR:∀ w0' bs' w',Mps W As w0' bs' Ms->St w0' bs' w' (E++H1)->ab R (.tuple #[.slice none 0 0,.int .i64 0]) w'):Calls prog 241 #[.pointer p,.int .i64 0,.int .i64 k] w R:=by
 have hS:=hO.fr E H1
 clear hO
 have hl':=HD hl
 have hle':=HD hle
 clear hl hle
 have d1:decide ((k:Int)<0)=false:=DF
 go_enter func241,ntmps241
 go_wp2_with (first|go_at_call 240;refine nV hB hS hT l hle'.out ?_;clear hB hS;intro w0 bs w hB hS;unfold ab|(go_at_call 321;refine pD hS hT hl'.out ?_;clear hS;intro x c w hS;unfold ab;have hlv:LenV prog 174 (.slice x 0 c) 0:=⟨⟨_,_,rfl⟩,⟨3,by kernel_rfl⟩⟩)|refine wV (.call { callee:=.builtin .len,args:=#[_],argTypes:=#[_] }) rfl (aA rfl) ?_)
 have hS0:=hS
 clear hS
 go_loopw [8,33] (fun x u wr=>x=.slice none 0 0∧u=.int .i64 0∧St w0 bs wr (E++H1)) (fun _ _ _=>0)
 case atStart=>exact⟨rfl,rfl,hS0⟩
 case round=>
  clear hS0
  obtain⟨rfl,rfl,hS⟩:=hrel
  go_wp2_with (go_skip)
  exact hR _ _ _ hB hS
end
section
variable {pw:Option Addr}{L:List (Int×Int)}{mf ml b5 b7:Nat}{u4 u6:Value}
theorem yD (y:Value)[OneCell y](hO:St w0 bs w (⟨b7,#[.slice none 0 0],174,true⟩::⟨b5,#[.pointer pw],56,true⟩::(E++H)))(hT:OW pw L mf ml E)(hR:∀ w',St w0 bs w' (⟨b7,#[.slice none 0 0],174,true⟩::⟨b5,#[.pointer pw],56,true⟩::(E++H))->ab R (.tuple #[]) w'):Calls prog 324 #[y,.pointer (some ⟨b5,0,none⟩),.pointer (some ⟨b7,0,none⟩),u4,u6] w R:=by
 have hS:=hO
 clear hO
 go_enter func324,ntmps324
 go_wp2_with (first|go_at_call 242;refine oZ hS hT ?_;clear hS;intro w hS;unfold ab|refine af rfl hS ?_)
 have hS0:St w0 bs w (⟨b7,#[.slice none 0 0],174,true⟩::⟨b5,#[.pointer pw],56,true⟩::(E++H)):=hS.p
 clear hS
 go_loopw [21] (fun u wr=>u=.int .i64 0∧St w0 bs wr (⟨b7,#[.slice none 0 0],174,true⟩::⟨b5,#[.pointer pw],56,true⟩::(E++H))) (fun _ _=>0)
 case atStart=>exact⟨rfl,hS0⟩
 case round=>
  clear hS0
  obtain⟨rfl,hS⟩:=hrel
  go_wp2_with (go_skip)
  (refine bodyPost_end (results_none rfl _ _ _) rfl ?_;exact hR _ hS)
theorem sy (hO:St w0 bs w (⟨b7,#[.slice none 0 0],174,true⟩::⟨b5,#[.pointer pw],56,true⟩::(E++H)))(hT:OW pw L mf ml E)(hR:∀ w',St w0 bs w' (⟨b7,#[.slice none 0 0],174,true⟩::⟨b5,#[.pointer pw],56,true⟩::(E++H))->ab R (.slice none 0 0) w'):Calls prog 323 #[.slice none 0 0,.func (.func 324) #[] #[.pointer (some ⟨b5,0,none⟩),.pointer (some ⟨b7,0,none⟩),u4,u6]] w R:=by
 have hS:=hO
 clear hO
 refine(callsIn_wide (n:=3)).1 ?_
 have hF:=bY
 refine callsIn_of_wp_marks func323 rfl trivial ?_ rfl
 simp only[ntmps323,List.size_toArray,List.length_cons,List.length_nil,Nat.reduceAdd,Nat.reduceSub,Array.replicate_succ,Array.replicate_zero,List.push_toArray,List.append_toArray,List.nil_append,List.cons_append]
 gi_wp2_with (refine aD (.box 43 _) rfl ?_;refine aa hF rfl rfl (eh _ _ rfl hS ?_);clear hS;intro b2 w _ hS)
 refine ek (by omega) (gf:=324) (lb:=#[.pointer (some ⟨b5,0,none⟩),.pointer (some ⟨b7,0,none⟩),u4,u6]) rfl ae hS ?_ ?_
 ·intro y W1 hy k hS1
  refine yD (b5:=b5) (b7:=b7) (pw:=pw) (H:=⟨b2,#[.slice none 0 0],43,true⟩::H) y hS1.p hT (fun w' hS'=>⟨⟨_,rfl⟩,hS'.p⟩)
 ·intro d W1 hS1 hd
  have hS0:=hS1
  clear hS
  have hS:=hS1.rebase
  clear hS1
  gi_wp2_with (refine aa hF rfl rfl (ar (ac _ _ rfl hS) ?_))
  refine bS hd hS0 hS (fun W3 hS3=>⟨_,cH rfl,?_⟩)
  exact hR W3 hS3.p
theorem pC (hO:St w0 bs w (⟨b7,#[.slice none 0 0],174,true⟩::⟨b5,#[.pointer pw],56,true⟩::(E++H)))(hT:OW pw L mf ml E)(hR:∀ w',St w0 bs w' (⟨b7,#[.slice none 0 0],174,true⟩::⟨b5,#[.pointer pw],56,true⟩::(E++H))->ab R (.slice none 0 0) w'):Calls prog 243 #[.func (.func 324) #[] #[.pointer (some ⟨b5,0,none⟩),.pointer (some ⟨b7,0,none⟩),u4,u6]] w R:=by
 have hS:=hO
 clear hO
 go_enter func243,ntmps243
 go_wp2_with (go_at_call 323;refine sy hS hT ?_;clear hS;intro w hS;unfold ab)
 exact hR _ hS
end
section
variable {p pw:Option Addr}{T:Tb}{me mf ml:Nat}{o:Option (Array Value)}{L:List (Int×Int)}{c:Cfg}{n:Int}{Ew:List Ent}
theorem nW (hO:St w0 bs w H)(hR:∀ b4 b5 b6 b7 w',St w0 bs w' (⟨b7,#[.slice none 0 0],174,true⟩::⟨b6,dD c,28,true⟩::⟨b5,#[.pointer pw],56,true⟩::⟨b4,#[.pointer p],67,true⟩::H)->ab R (.func (.func 324) #[] #[.pointer (some ⟨b5,0,none⟩),.pointer (some ⟨b7,0,none⟩),.pointer (some ⟨b4,0,none⟩),.pointer (some ⟨b6,0,none⟩)]) w'):Calls prog 244 #[.pointer p,.pointer pw,.agg (dD c),.slice none 0 0] w R:=by
 have hS:=hO
 clear hO
 go_enter func244,ntmps244
 go_wp2_with (first|refine am 67 rfl hS ?_;clear hS;intro b4 w _ hS|refine am 56 rfl hS ?_;clear hS;intro b5 w _ hS|refine am 28 rfl hS ?_;clear hS;intro b6 w _ hS|refine am 174 rfl hS ?_;clear hS;intro b7 w _ hS)
 exact hR _ _ _ _ _ hS
abbrev Hg (b5:Nat)(c:Cfg)(E Ew H:List Ent):List Ent:=⟨b5,dD c,28,true⟩::(E++(Ew++H))
theorem BE (hB:Mps W As w0 bs Ms)(hO:St w0 bs w H)(hT:fj p T me o E)[hc:Cut H E H1](hW:OW pw L mf ml Ew)[hd:Cut H1 Ew H2](hcf:CfgW c)(hl:Lv o n)(l:List (Value×Value))(hle:l=[]∨∃ i g s h,l=[(vI i,.agg (fd i g s h))])[hM:MapIn Ms me l](hL:0<L.length){l2:List (Value×Value)}[hM2:MapIn Ms mf l2][hM3:MapIn Ms ml []](hR:∀ w0' bs' w',Mps W As w0' bs' Ms->St w0' bs' w' (E++(Ew++H2))->ab R (.tuple #[.slice none 0 0,.int .i64 0]) w'):Calls prog 164 #[.pointer p,.pointer pw,.agg (dD c)] w R:=by
 have hS:=hO.fr E H1
 have hS:St w0 bs w (E++(Ew++H2)):=hS.p
 clear hO
 have hle':=HD hle
 have hl':=HD hl
 have hb:=hcf.ba
 have hbs:=HD hcf.bs
 have d1:decide (c.ba<1)=false:=DF
 have d2:decide (64<c.ba)=false:=DF
 have d3:decide ((c.ba:Int)<1)=false:=DF
 have d4:decide (64<(c.ba:Int))=false:=DF
 have hone:OneCells (dD c):=⟨by intro v hv;simp only[dD,List.mem_cons,List.not_mem_nil,or_false] at hv;rcases hv with rfl|rfl|rfl|rfl|rfl|rfl|rfl|rfl|rfl|rfl <;> rfl⟩
 have hsz:SizeIs (dD c) 10:=⟨rfl⟩
 have hcl:CellsAt (dD c) 0 10 (dD c):=⟨fun j hj=>by simp,rfl⟩
 have hcd:=hc
 clear hl hle hb hcf
 go_enter func164,ntmps164
 go_wp2_with (first|refine am 28 rfl hS ?_;clear hS;intro b5 w _ hS|go_at_call 240;refine nV hB hS hT l hle'.out ?_;clear hB hS;intro w0 bs w hB hS;unfold ab|(go_at_call 33;refine qq hL hB hS hW ?_;clear hB hS;intro p' mf' ml' E' w0 bs w hW' hB hS;replace hB:=hB.drop.drop;obtain⟨bq,pf,pb,pd,Ef,Eb,Ed,ba,bl,Tb,Td,rfl,_,_,_,rfl⟩:=hW';unfold ab)|go_at_call 39;refine nX hS hbs.out ?_;clear hS;intro w hS;unfold ab|refine af rfl hS ?_)
 replace hS:St w0 bs w (Hg b5 c E Ew H2):=by simp only[bX] at hS;exact hS.p
 refine aj (X:=Unit) (Jm W As Ms (Hg b5 c E Ew H2)) [(5,fun _ w=>Jm W As Ms (Hg b5 c E Ew H2) w)] ⟨w0,bs,hB,hS.drawn _⟩ (by kernel_rfl) (by kernel_rfl) ?_
 (refine oP (fun χ w=>ad rfl) ?_)
 (refine oP (fun χ w=>ad rfl) ?_)
 refine dA 0 242 [_] rfl (fun _=>rfl) rfl ae (.int .i64 0) (fun χ w hw=>by
  obtain⟨w0,bs,hB,hS⟩:=hw
  exact oZ hS hW (fun w' hS=>⟨rfl,w0,bs,hB,hS.p⟩)) ?_
 (refine oP (fun χ w=>ag rfl) ?_)
 refine bF 0 (fun _=>rfl) rfl (fun χ w hw=>by obtain⟨w0,bs,hB,hS⟩:=hw;exact ac _ _ rfl hS) ?_
 refine aO 0 rfl (by kernel_rfl) (fun _=>rfl) (fun _=>.tuple #[.slice none 0 0,.int .i64 0]) (fun χ w hw=>aw rfl ae ?_) ?_
 ·obtain⟨w0,bs,hB,hS⟩:=hw
  exact BF hB hS hT hl'.out l hle'.out c.ba (fun w0' bs' w' hB hS=>⟨_,rfl,(),rfl,w0',bs',hB,hS.p⟩)
 (refine oP (fun χ w=>ad rfl) ?_)
 (refine oP (fun χ w=>aB rfl) ?_)
 (refine oP (fun χ w=>aB rfl) ?_)
 (refine oP (fun χ w=>aG rfl) ?_)
 (refine oP (fun χ w=>aG rfl) ?_)
 refine aV rfl ?_
 rintro χ w ⟨w0,bs,hB,hS⟩
 go_wp2_with (first|go_at_call 244;refine nW hS ?_;clear hS;intro b14 b15 b16 b17 w hS;unfold ab|go_at_call 243;refine pC (H:=⟨b16,dD c,28,true⟩::⟨b14,#[.pointer p],67,true⟩::⟨b5,dD c,28,true⟩::(E++H2)) hS.p hW ?_;clear hS;intro w hS;unfold ab|refine au rfl hS ?_)
 exact hR _ _ _ hB hS.p
end
open Go Go.RowKit Go.Mm
def wsL:List (ByteArray×ByteArray):=[({ data:=#[] },{ data:=#[] }),({ data:=#[110,101,119] },{ data:=#[109,110] }),({ data:=#[108,111,97,100] },{ data:=#[109,114,105] }),({ data:=#[115,116,111,114,101] },{ data:=#[109,114,105,118] }),({ data:=#[100,114,111,112] },{ data:=#[109,114] }),({ data:=#[112,117,116] },{ data:=#[109,82,103] }),({ data:=#[103,101,116] },{ data:=#[109,103] }),({ data:=#[97,99,107] },{ data:=#[109] }),({ data:=#[111,112,101,110] },{ data:=#[109,107,98,113] }),({ data:=#[100,117,112] },{ data:=#[109,100] }),({ data:=#[117,115,101] },{ data:=#[109,100] }),({ data:=#[114,101,110,101,119] },{ data:=#[109,100,116] }),({ data:=#[99,108,111,115,101] },{ data:=#[109,100] }),({ data:=#[109,97,114,107] },{ data:=#[115] }),({ data:=#[98,97,116,99,104] },{ data:=#[] }),({ data:=#[116,105,99,107] },{ data:=#[84] }),({ data:=#[99,121,99,108,101] },{ data:=#[] }),({ data:=#[97,110,115,119,101,114] },{ data:=#[97] })]
def FH (x:ByteArray×ByteArray):List Value:=[.string x.1,.string x.2]
def Cn:Array Value:=(wsL.flatMap FH).toArray
theorem sN:∀ (l:List (ByteArray×ByteArray)) (k:Nat) (x y:ByteArray),l[k]?=some (x,y)->(l.flatMap FH)[k * 2]?=some (.string x)∧(l.flatMap FH)[k * 2+1]?=some (.string y)
 | [],k,x,y,h=>by simp at h
 | z::l,0,x,y,h=>by simp at h;subst h;exact⟨rfl,rfl⟩
 | z::l,k+1,x,y,h=>by
  have:=sN l k x y (by simpa using h)
  rw[show(k+1) * 2=k * 2+2 by omega,show k * 2+2+1=(k * 2+1)+2 by omega]
  exact this
theorem FI {k:Nat}{x y:ByteArray}(h:wsL[k]?=some (x,y)):CellsAt Cn (k * 2) 2 #[.string x,.string y]:=by
 obtain⟨h1,h2⟩:=sN wsL k x y h
 exact⟨fun j hj=>match j,hj with|0,_=>by simpa [Cn] using h1|1,_=>by simpa [Cn] using h2,rfl⟩
instance JU:AggT prog 165 2:=⟨by kernel_rfl,by kernel_rfl⟩
instance NT:ZeroT prog 165 #[.string { data:=#[] },.string { data:=#[] }]:=⟨by kernel_rfl⟩
instance NU:ElemT prog 165 2 32 #[.string { data:=#[] },.string { data:=#[] }]:=⟨by kernel_rfl⟩
instance JQ:SliceT prog 250 165:=⟨by kernel_rfl⟩
instance JT:BuildT prog 165 [] #[.string { data:=#[] },.string { data:=#[] }]:=⟨fun w=>by kernel_rfl⟩
instance JS {s t:ByteArray} : BuildT prog 165 [(0,.string s),(1,.string t)] #[.string s,.string t]:=⟨fun w=>by kernel_rfl⟩
theorem rU (hO:St w0 bs w H)(hR:∀ b w',St w0 bs w' (⟨b,Cn,165,true⟩::H)->ab R (.slice (some ⟨b,0,none⟩) 18 18) w'):Calls prog 95 #[] w R:=by
 have hS:=hO
 clear hO
 go_enter func95,ntmps95
 go_wp2_with (first|((refine f5 18 [(0,_),(1,_),(2,_),(3,_),(4,_),(5,_),(6,_),(7,_),(8,_),(9,_),(10,_),(11,_),(12,_),(13,_),(14,_),(15,_),(16,_),(17,_)] rfl hS (by decide) rfl (by decide) (by decide) ?_);clear hS;intro bN w _ hS;replace hS:St w0 bs w (⟨bN,Cn,165,true⟩::H):=hS)|refine aL rfl ?_)
 exact hR _ _ hS
section
variable {k:Nat}{x y:ByteArray}
theorem y5 (hO:St w0 bs w H)(hk:wsL[k]?=some (x,y))(h1:1≤k)(hR:∀ w',St w0 bs w' H->ab R (.tuple #[.agg #[.string x,.string y],.bool true]) w'):Calls prog 55 #[.int .i64 k] w R:=by
 have hS:=hO
 clear hO
 have hlt:k<18:=(List.getElem?_eq_some_iff.1 hk).1
 have d1:decide (k<1)=false:=DF
 have d2:decide ((k:Int)<1)=false:=DF
 have d3:decide (18≤k)=false:=DF
 have d4:decide (18≤(k:Int))=false:=DF
 have hc:=FI hk
 have hk':=HD hk
 clear hk
 have hix:∀ b,IdxV prog 250 (.slice (some ⟨b,0,none⟩) 18 18) k ⟨b,k * 2,none⟩:=fun b=>fG (P:=prog) (z:=2) (i:=k) (e:=165) (by kernel_rfl) hlt
 go_enter func55,ntmps55
 go_wp2_with (first|refine aq 165 rfl hS ?_;clear hS;intro b2 w _ hS|(go_at_call 95;refine rU hS ?_;clear hS;intro b w hS;have hix':=hix b;unfold ab)|refine aM rfl ?_|refine au rfl hS ?_|refine ak rfl hS ?_;clear hS;intro w hS)
 refine bodyPost_ret (aJ rfl hS) rfl ?_
 exact hR _ hS.weak
end
def Dl:List (Nat×Nat×Int×Int):=[(109,1,0,3),(110,2,0,4),(114,2,0,31),(82,2,-1,31),(105,3,0,3),(118,4,-1,31),(103,3,0,7),(100,2,0,1999),(115,2,1,10000),(98,3,0,1048576),(107,2,1,3)]
instance JM {b off:Nat} : FieldAt prog 38 0 b off off:=⟨fun w=>by kernel_rfl⟩
instance JL {b off:Nat} : FieldAt prog 38 1 b off (off+1):=⟨fun w=>by kernel_rfl⟩
instance JK {b off:Nat} : FieldAt prog 38 2 b off (off+2):=⟨fun w=>by kernel_rfl⟩
instance JJ {b off:Nat} : FieldAt prog 38 3 b off (off+3):=⟨fun w=>by kernel_rfl⟩
instance JI {b off:Nat} : FieldAt prog 38 4 b off (off+4):=⟨fun w=>by kernel_rfl⟩
instance JH {b off:Nat} : FieldAt prog 38 5 b off (off+5):=⟨fun w=>by kernel_rfl⟩
instance NN:ZeroT prog 38 #[.int .i64 0,.int .i64 0,.int .i64 0,.int .i64 0,.int .i64 0,.string { data:=#[] }]:=⟨by kernel_rfl⟩
instance JN:AggT prog 38 6:=⟨by kernel_rfl,by kernel_rfl⟩
theorem C3 {b c j:Nat}{lo hi:Int}(h:(c,j,lo,hi)∈Dl)(hO:St w0 bs w H)(hR:∀ w',St w0 bs w' H->ab R (.tuple #[.pointer (some ⟨b,j,none⟩),.int .i64 lo,.int .i64 hi]) w'):Calls prog 56 #[.pointer (some ⟨b,0,none⟩),.int .i32 c] w R:=by
 have hS:=hO
 clear hO
 simp only[Dl,List.mem_cons,Prod.mk.injEq,List.not_mem_nil,or_false] at h
 rcases h with ⟨rfl,rfl,rfl,rfl⟩|⟨rfl,rfl,rfl,rfl⟩|⟨rfl,rfl,rfl,rfl⟩|⟨rfl,rfl,rfl,rfl⟩|⟨rfl,rfl,rfl,rfl⟩|⟨rfl,rfl,rfl,rfl⟩|⟨rfl,rfl,rfl,rfl⟩|⟨rfl,rfl,rfl,rfl⟩|⟨rfl,rfl,rfl,rfl⟩|⟨rfl,rfl,rfl,rfl⟩|⟨rfl,rfl,rfl,rfl⟩ <;>
 ·go_enter func56,ntmps56
  go_wp2_with (go_skip)
  refine bodyPost_ret (jH rfl) rfl ?_
  exact hR _ hS
theorem GI {b:Nat}(hO:St w0 bs w H)(hR:∀ w',St w0 bs w' H->ab R (.tuple #[.pointer none,.int .i64 0,.int .i64 0]) w'):Calls prog 56 #[.pointer (some ⟨b,0,none⟩),.int .i32 113] w R:=by
 have hS:=hO
 clear hO
 go_enter func56,ntmps56
 go_wp2_with (go_skip)
 (refine bodyPost_ret (jH rfl) rfl ?_;exact hR _ hS)
theorem Gn {s:ByteArray}(hT:TagW s)(hO:St w0 bs w H)(hR:∀ w',St w0 bs w' H->ab R (.bool true) w'):Calls prog 57 #[.int .i32 113,.string s] w R:=by
 have hS:=hO
 clear hO
 go_enter func57,ntmps57
 go_wp2_with (go_at_call 96;refine gI hS hT ?_;clear hS;intro w hS;unfold ab)
 exact hR _ hS
def aQ (l:List Int)(s:ByteArray):Array Value:=(l.map (fun n=>Value.int .i64 n)++[Value.string s]).toArray
inductive Pts (s0:ByteArray):List Nat->List Int->ByteArray->List Int->ByteArray->Prop
 | nil {l s} : Pts s0 [] l s l s
 | num {c r j lo hi v l s l' s'} : (c,j,lo,hi)∈Dl->l[j]?=some v->lo≤v->v≤hi->Pts s0 r (l.set j 0) s l' s'->Pts s0 (c::r) l s l' s'
 | tag {r l s l' s'} : TagW s0->Pts s0 r l { data:=#[] } l' s'->Pts s0 (113::r) l s l' s'
theorem uT {c j:Nat}{lo hi:Int}(h:(c,j,lo,hi)∈Dl):c<128∧c≠113∧1≤j∧j<5:=by
 simp only[Dl,List.mem_cons,Prod.mk.injEq,List.not_mem_nil,or_false] at h
 omega
def g5 (y:ByteArray):List Nat:=y.data.toList.map (·.toNat)
theorem nq (y:ByteArray):(g5 y).length=y.size:=by simp [g5]
theorem rY {y:ByteArray}{i:Nat}(h:i<y.size):(g5 y).drop i=(y[i]'h).toNat::(g5 y).drop (i+1):=by
 have hi:i<(g5 y).length:=by rw[nq];exact h
 rw[List.drop_eq_getElem_cons hi]
 congr 1
 simp[g5]
 rfl
theorem za {P:Program}{d pos:Nat}{y:ByteArray}(hd:w.heap[d]?=some (.stringIter y pos))(h:pos<y.size)(ha:(y[pos]'h).toNat<128)(ty:TypeId):(Instr.next (.pointer (some ⟨d,0,none⟩)) true ty).run P w=.ok (.tuple #[.bool true,.int .i64 pos,.int .i32 (y[pos]'h).toNat]) (w.putObj d (.stringIter y (pos+1))):=by
 simp[Instr.next,getObj,setObj,Sem.run,hd,h,decode_ascii y pos h ha,goInt,World.putObj]
theorem AF {P:Program}{d pos:Nat}{y:ByteArray}(hd:w.heap[d]?=some (.stringIter y pos))(h : ¬ pos<y.size)(ty:TypeId):(Instr.next (.pointer (some ⟨d,0,none⟩)) true ty).run P w=.ok (.tuple #[.bool false]) w:=by
 simp[Instr.next,getObj,Sem.run,hd,h]
def Sn (w0:World)(bs:List Nat)(H:List Ent)(d:Nat)(y:ByteArray)(pos:Nat)(w:World):Prop:=St w0 bs w H∧w0.heap.size≤d∧w.heap[d]?=some (.stringIter y pos)
theorem Sn.turn {d pos pos' : Nat}{y:ByteArray}(h:Sn w0 bs H d y pos w):Sn w0 bs H d y pos' (w.putObj d (.stringIter y pos')):=by
 obtain⟨hS,hge,hd⟩:=h
 have k:=Chg.other w d (.stringIter y pos')
 have f1:∀ e∈H,e.b∉[d]:=fun e he hx=>by
  rw[List.mem_singleton] at hx
  have:=hS.get e he
  rw[hx,hd] at this
  cases this
 refine⟨⟨hS.chg.trans k (fun x hx hl=>?_),fun e he=>k.get (hS.get e he) (f1 e he),hS.nd,hS.wr⟩,hge,?_⟩
 ·rw[List.mem_singleton] at hx;omega
 ·simp[World.putObj,bG hd]
theorem Sn.go {d pos:Nat}{y:ByteArray}{w' : World}(h:Sn w0 bs H d y pos w)(hS' : St w (wl H) w' H'):Sn w0 bs H' d y pos w':=by
 obtain⟨hS,hge,hd⟩:=h
 refine⟨hS.rejoin hS',hge,?_⟩
 rw[hS'.chg.same d (bG hd) (fun hx=>?_)]
 ·exact hd
 ·obtain⟨e,he,_,rfl⟩:=mem_wl.1 hx
  rw[hS.get e he] at hd
  cases hd
section
variable {l0:List Int}{s0:ByteArray}{k:Nat}{x y:ByteArray}
instance NS {a:Int}{l:List Int}{s:ByteArray} : CellAt (aQ (a::l) s) 0 (.int .i64 a):=⟨rfl⟩
instance NR {a b:Int}{l:List Int}{s:ByteArray} : CellAt (aQ (a::b::l) s) (0+1) (.int .i64 b):=⟨rfl⟩
instance NQ {a b c:Int}{l:List Int}{s:ByteArray} : CellAt (aQ (a::b::c::l) s) (0+2) (.int .i64 c):=⟨rfl⟩
instance NP {a b c d:Int}{l:List Int}{s:ByteArray} : CellAt (aQ (a::b::c::d::l) s) (0+3) (.int .i64 d):=⟨rfl⟩
instance NO {a b c d e:Int}{l:List Int}{s:ByteArray} : CellAt (aQ (a::b::c::d::e::l) s) (0+4) (.int .i64 e):=⟨rfl⟩
theorem NV {l:List Int}{s:ByteArray}(h:l.length=5):CellAt (aQ l s) (0+5) (.string s):=⟨by simp [aQ,h]⟩
theorem JV {l:List Int}{s:ByteArray}{j:Nat}{v:Int}(h:l[j]?=some v):CellAt (aQ l s) j (.int .i64 v):=⟨by
 obtain⟨hl,rfl⟩:=List.getElem?_eq_some_iff.1 h
 simp[aQ,List.getElem?_append,hl]⟩
theorem NW {l:List Int}{s:ByteArray}{j:Nat}{v:Int}(h:l[j]?=some v):SetAt (aQ l s) j (.int .i64 0) (aQ (l.set j 0) s):=⟨by
 have:=(List.getElem?_eq_some_iff.1 h).1
 simp[aQ,List.set_append,this,List.map_set],by
 have:=(List.getElem?_eq_some_iff.1 h).1
 simp[aQ];omega⟩
theorem GG {l:List Int}{s:ByteArray}(h:l.length=5):SetAt (aQ l s) (0+5) (.string { data:=#[] }) (aQ l { data:=#[] }):=⟨by simp [aQ,List.set_append,h],by simp [aQ,h]⟩
theorem BX {l:List Int}{s:ByteArray}(h:l.length=5):CellsAt (aQ l s) 0 6 (aQ l s):=⟨fun j _=>by rw [Nat.zero_add],by simp [aQ,h]⟩
theorem eo {l:List Int}{s:ByteArray} : OneCells (aQ l s):=⟨by
 intro v hv
 simp only[aQ,List.mem_append,List.mem_map,List.mem_singleton] at hv
 rcases hv with ⟨n,_,rfl⟩|rfl <;> rfl⟩
theorem AB {cs:Array Value}{l:List Int}{s:ByteArray}(hn:cs.size=6)(h:l.length=5):SetsAt cs 0 (aQ l s) (aQ l s):=⟨by
 have:cs.toList.drop 6=[]:=List.drop_eq_nil_of_le (by simp[hn])
 simp[aQ,h,this],by simp[aQ,h,hn]⟩
instance JR {k:Int} : BuildT prog 38 [(0,.int .i64 k)] (aQ [k,0,0,0,0] { data:=#[] }):=⟨fun w=>by kernel_rfl⟩
theorem pA {P:Program}{t:TypeId}{s:ByteArray}(hs:ScalarT P t)(ht:P.underlying t=some .string:=by kernel_rfl):CellEq P t (.string s) (.string s) true:=
 ⟨fun d w=>by rw[run_equalIn_string w d t s s ht];simp,hs⟩
instance GF {s:ByteArray} : CellEq prog 9 (.string s) (.string s) true:=pA inferInstance
theorem C0 {k:Int} : AggEq prog 38 (aQ [k,0,0,0,0] { data:=#[] }) (aQ [k,0,0,0,0] { data:=#[] }) true:=by
 have h:=fN (P:=prog) (t:=38) [(3,0),(3,1),(3,2),(3,3),(3,4),(9,5)] (xs:=#[.int .i64 k,.int .i64 0,.int .i64 0,.int .i64 0,.int .i64 0,.string { data:=#[] }]) (ys:=#[.int .i64 k,.int .i64 0,.int .i64 0,.int .i64 0,.int .i64 0,.string { data:=#[] }])
 simpa [aQ] using h
theorem na (hO:St w0 bs w H)(hk:wsL[k]?=some (x,y))(h1:1≤k)(l5:l0.length=5)(hk0:l0[0]?=some (k:Int))(hP:Pts s0 (g5 y) l0 s0 [k,0,0,0,0] { data:=#[] })(hR:∀ w',St w0 bs w' H->ab R (.int .i64 0) w'):Calls prog 27 #[.agg (aQ l0 s0)] w R:=by
 have hS:=hO
 clear hO
 have hk':=HD hk
 have hP':=HD hP
 have l5':=HD l5
 have hone:=eo (l:=l0) (s:=s0)
 have hsz:SizeIs (aQ l0 s0) 6:=⟨by simp[aQ,l5]⟩
 have hcl:=BX (s:=s0) l5
 have hov:=AB (s:=s0) (cs:=#[.int .i64 0,.int .i64 0,.int .i64 0,.int .i64 0,.int .i64 0,.string { data:=#[] }]) rfl l5
 have hc0:=JV (s:=s0) hk0
 clear hk hP l5 hk0
 go_enter func27,ntmps27
 go_wp2_with (first|refine am 38 rfl hS ?_;clear hS;intro b1 w _ hS|refine aq 165 rfl hS ?_;clear hS;intro b3 w _ hS|refine aq 38 rfl hS ?_;clear hS;intro b5 w _ hS|go_at_call 55;refine y5 hS hk'.out h1 ?_;clear hS;intro w hS;unfold ab|(first|refine af rfl hS ?_|refine au rfl hS ?_)|refine ak rfl hS ?_;clear hS;intro w hS)
 have hN0:Sn w0 bs (⟨b5,aQ l0 s0,38,true⟩::⟨b3,#[.string x,.string y],165,true⟩::⟨b1,aQ l0 s0,38,true⟩::H) w.heap.size y 0 (w.iter y 0):=⟨St.iter hS y 0,hS.chg.size,World.iter_heap w y 0⟩
 clear hS hov
 go_loopw [4] (fun u wr=>u=.bool true∧∃ pos l s,pos≤y.size∧Pts s0 ((g5 y).drop pos) l s [k,0,0,0,0] { data:=#[] }∧l.length=5∧Sn w0 bs (⟨b5,aQ l s,38,true⟩::⟨b3,#[.string x,.string y],165,true⟩::⟨b1,aQ l0 s0,38,true⟩::H) w.heap.size y pos wr) (fun _ wr=>y.size - wr.iterPos w.heap.size)
 case atStart=>exact⟨rfl,0,l0,s0,Nat.zero_le _,hP'.out,l5'.out,hN0⟩
 case round=>
  clear hN0
  obtain⟨rfl,pos,l,s,hle,hPt,hl5,hN⟩:=hrel
  have hS:=hN.1
  have hl5':=HD hl5
  clear hl5
  by_cases hp:pos<y.size
  ·rw[rY hp] at hPt
   obtain⟨c,hcc⟩:∃ c,(y[pos]'hp).toNat=c:=⟨_,rfl⟩
   have hit:=HD (iterPos_of hN.2.2)
   rw[hcc] at hPt
   generalize hls:(g5 y).drop (pos+1)=ls at hPt
   cases hPt with
   | num h1 h2 h3 h4 h5=>
    rename_i j lo hi v
    obtain⟨q1,q2,q3,q4⟩:=uT h1
    have hnx:∀ ty,(Instr.next (.pointer (some ⟨w.heap.size,0,none⟩)) true ty).run prog wr=.ok (.tuple #[.bool true,.int .i64 pos,.int .i32 c]) (wr.putObj w.heap.size (.stringIter y (pos+1))):=fun ty=>by
     have:=za (P:=prog) hN.2.2 hp (by omega) ty
     rw[hcc] at this
     exact this
    replace hN:=hN.turn (pos':=pos+1)
    clear hS
    have hS:=hN.1
    have d1:decide (lo≤v)=true:=decide_eq_true h3
    have d2:decide (v≤hi)=true:=decide_eq_true h4
    have hcv:=JV (s:=s) h2
    have hsv:=NW (s:=s) h2
    have hlt:=HD hp
    have h5':=HD h5
    have h1':=HD h1
    have hle':=HD hle
    clear h1 h2 h3 h4 h5 hp hle q1 q2 q3 q4 hcc
    go_wp2_with (first|(go_at_call 56;refine C3 h1'.out hN.1.rebase ?_;clear hS;intro w1 hS1;replace hN:=hN.go hS1;clear hS1;have hS:=hN.1;unfold ab)|((refine bP rfl hN.1.rebase ?_);clear hS;intro w1 hS1;replace hN:=hN.go hS1;clear hS1;have hS:=hN.1)|refine af rfl hS ?_)
    go_roundw
    case rel=>exact⟨rfl,pos+1,_,s,hlt.out,by rw[hls];exact h5'.out,by rw[List.length_set];exact hl5'.out,hN⟩
    case measure=>rw[iterPos_of hN.2.2,hit.out];have:=hlt.out;omega
   | tag h1 h2=>
    have hnx:∀ ty,(Instr.next (.pointer (some ⟨w.heap.size,0,none⟩)) true ty).run prog wr=.ok (.tuple #[.bool true,.int .i64 pos,.int .i32 113]) (wr.putObj w.heap.size (.stringIter y (pos+1))):=fun ty=>by
     have:=za (P:=prog) hN.2.2 hp (by omega) ty
     rw[hcc] at this
     exact this
    replace hN:=hN.turn (pos':=pos+1)
    clear hS
    have hS:=hN.1
    have hsv:=GG (s:=s) hl5'.out
    have hcv:=NV (s:=s0) l5'.out
    have hlt:=HD hp
    have h1':=HD h1
    have h2':=HD h2
    clear h1 h2 hp hle hcc
    go_wp2_with (first|(go_at_call 56;refine GI hN.1.rebase ?_;clear hS;intro w1 hS1;replace hN:=hN.go hS1;clear hS1;have hS:=hN.1;unfold ab)|(go_at_call 57;refine Gn h1'.out hN.1.rebase ?_;clear hS;intro w1 hS1;replace hN:=hN.go hS1;clear hS1;have hS:=hN.1;unfold ab)|((refine bP rfl hN.1.rebase ?_);clear hS;intro w1 hS1;replace hN:=hN.go hS1;clear hS1;have hS:=hN.1)|refine af rfl hS ?_)
    go_roundw
    case rel=>exact⟨rfl,pos+1,l,_,hlt.out,by rw[hls];exact h2'.out,hl5'.out,hN⟩
    case measure=>rw[iterPos_of hN.2.2,hit.out];have:=hlt.out;omega
  ·have hnx:∀ ty,(Instr.next (.pointer (some ⟨w.heap.size,0,none⟩)) true ty).run prog wr=.ok (.tuple #[.bool false]) wr:=fun ty=>AF hN.2.2 hp ty
   rw[List.drop_eq_nil_of_le (by rw[nq];omega)] at hPt
   cases hPt
   have heq:=C0 (k:=k)
   have hcl2:=BX (s:={ data:=#[] }) hl5'.out
   have hone2:=eo (l:=[(k:Int),0,0,0,0]) (s:={ data:=#[] })
   go_wp2_with (first|refine wV (.binOp .neq _ _ _ _) rfl (bK rfl) ?_|refine aL rfl ?_|(first|refine af rfl hS ?_|refine au rfl hS ?_))
   exact hR _ hS.p
def zc (y:ByteArray):Bool:=decide (1≤y.size) && ((y.extract 0 1).toList == [109])
theorem CX (hO:St w0 bs w H)(y:ByteArray)(v:Bool)(hv:zc y=v)(hR:∀ w',St w0 bs w' H->ab R (.bool v) w'):Calls prog 98 #[.string y,.string { data:=#[109] }] w R:=by
 have hS:=hO
 clear hO
 by_cases hy:1≤y.size
 ·have hv2:((y.extract 0 1).toList == [109])=v:=by simpa [zc,hy] using hv
  have d1:decide (1≤y.size)=true:=decide_eq_true hy
  have d2:decide (1≤(y.size:Int))=true:=DT
  clear hv
  go_enter func98,ntmps98
  go_wp2_with (go_skip)
  exact hR _ hS
 ·have hv2:false=v:=by simpa [zc,hy] using hv
  have d1:decide (1≤y.size)=false:=decide_eq_false hy
  have d2:decide (1≤(y.size:Int))=false:=DF
  clear hv
  subst hv2
  go_enter func98,ntmps98
  go_wp2_with (go_skip)
  exact hR _ hS
theorem Av (hO:St w0 bs w H)(y:ByteArray)(v:Bool)(hv:zc y=v)(hR:∀ w',St w0 bs w' H->ab R (.bool v) w'):Calls prog 58 #[.string y,.string { data:=#[109] }] w R:=by
 have hS:=hO
 clear hO
 have hv':=HD hv
 clear hv
 go_enter func58,ntmps58
 go_wp2_with (go_at_call 98;refine CX hS y v hv'.out ?_;clear hS;intro w hS;unfold ab)
 exact hR _ hS
theorem ur (hO:St w0 bs w H)(hk:wsL[k]?=some (x,y))(h1:1≤k){v:Bool}(hv:zc y=v)(hR:∀ w',St w0 bs w' H->ab R (.bool v) w'):Calls prog 28 #[.int .i64 k] w R:=by
 have hS:=hO
 clear hO
 have hk':=HD hk
 have hv':=HD hv
 clear hk hv
 go_enter func28,ntmps28
 go_wp2_with (first|refine aq 165 rfl hS ?_;clear hS;intro b3 w _ hS|(first|go_at_call 55;refine y5 hS hk'.out h1 ?_|go_at_call 58;refine Av hS y v hv'.out ?_);clear hS;intro w hS;unfold ab|refine af rfl hS ?_|refine ak rfl hS ?_;clear hS;intro w hS)
 exact hR _ hS.weak
end
end Go.Proofs.YtnbgljbhkeffkaaGreatDoor
