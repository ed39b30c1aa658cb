/-
  Contracts of what the law TopPasses reaches, part 22: Mkt Mku Mkv Swp.
-/
import Derived.Test.YtnbgljbhkeffkaaGreatDoorQ19
import Derived.Test.YtnbgljbhkeffkaaGreatDoorQ21
import Derived.Test.YtnbgljbhkeffkaaGreatDoorQ09
open Go.Proofs.Tryz
set_option linter.unusedVariables false
set_option linter.unusedSimpArgs false
set_option maxHeartbeats 4000000
set_option maxRecDepth 100000
namespace Go.Proofs.YtnbgljbhkeffkaaGreatDoor
open Go.RowKit Go.Mm
variable {R:Ending->World->Prop}{w:World}{w0:World}{bs:List Nat}{H H' H1 H2 H3 E E' E1 E2 Ea Eh Er:List Ent}
section
variable {z m bz:Nat}{p pa:Option Addr}{M:Mk}{T:Ar}
instance J7:ZeroT prog 110 #[.pointer none]:=⟨by kernel_rfl⟩
theorem eq (hO:St w0 bs w H)(hA:AA pa T Ea)(hT:MA z m bz p M E)[hc:Cut H Ea H1][hd:Cut H1 E H2](hz:T.1.length=z)(hk:T.2.1.length=m)
  (hR:∀ w',St w0 bs w' (Ea++(E++H2))->ab R (.int .i64 0) w'):Calls prog 275 #[.pointer p,.pointer pa] w R:=by
 have hS:=hO.fr Ea H1
 have hS:St w0 bs w (Ea++(E++H2)):=hS.p
 clear hO
 obtain⟨b,pc,pp,ps,S,v,xs,Ec,Ep,Es,Ev,rfl,hC,hK,hSt,hok,hV,hxl,hxw,hfl,hm,rfl⟩:=id hT
 simp only[aP] at hS
 have hone:=hV.one
 have hz1:1≤z:=hK.1
 have hz256:z≤256:=hK.2.1
 have d1:((z:Int) == 0)=false:=beq_eq_false_iff_ne.2 (by omega)
 have d2:decide ((z:Int)=0)=false:=DF
 have d3:decide (z=0)=false:=DF
 have hz':=HD hz
 have hk':=HD hk
 clear hz hk
 go_enter func275,ntmps275
 go_wp2_with (first|go_at_call 118;refine cI hS hz1 ?_;clear hS;intro w hS;unfold ab|go_at_call 229;refine kx hS hA z m hz'.out hk'.out ?_;clear hS;intro w _ hS;unfold ab|refine af rfl hS ?_)
 exact hR _ (by simp only[aP];exact hS.p)
theorem kW (hO:St w0 bs w H)(hA:AA pa T Ea)(hT:MA z m bz p M E)[hc:Cut H Ea H1][hd:Cut H1 E H2]
  (hR:∀ bh bm ph Eh w',HA ph (some (some T.1)) Eh->St w0 bs w' (Eh++(E++(⟨bh,#[.pointer ph],110,true⟩::⟨bm,#[.pointer p],123,true⟩::(Ea++H2))))->ab R (.func (.func 348) #[] #[.pointer (some ⟨bh,0,none⟩),.pointer (some ⟨bm,0,none⟩)]) w'):Calls prog 277 #[.pointer p,.pointer pa] w R:=by
 have hS:=hO.fr Ea H1
 have hS:St w0 bs w (Ea++(E++H2)):=hS.p
 clear hO
 go_enter func277,ntmps277
 go_wp2_with (first|refine am 123 rfl hS ?_;clear hS;intro bm w _ hS|go_at_call 204;refine il hS hA ?_;clear hS;intro ph Eh w _ hH hS;unfold ab|refine aq 110 rfl hS ?_;clear hS;intro bh w _ hS|refine bP rfl hS ?_;clear hS;intro w hS)
 exact hR _ _ _ _ _ hH hS.p
theorem uL (hO:St w0 bs w H)(hA:AA pa T Ea)(hT:MA z m bz p M E)[hc:Cut H Ea H1][hd:Cut H1 E H2](h1:M.k.1=1)(hcy:0≤M.k.2.2.1∧M.k.2.2.1<1000000)(hg8:(zn (some (true,T.2.2))).length≤300)
  (hR:∀ M' E' w',(M'.k=M.k∨rH M.k=true∧M'.k=jk M.k)->M'.bf=M.bf->Up M.L M'.L->MA z m bz p M' E'->St w0 bs w' (Ea++(E'++H2))->ab R (.tuple #[]) w'):Calls prog 420 #[.pointer p,.pointer pa] w R:=by
 have hS:=hO.fr Ea H1
 have hS:St w0 bs w (Ea++(E++H2)):=hS.p
 clear hO
 obtain⟨b,pc,pp,ps,S,v,xs,Ec,Ep,Es,Ev,rfl,hC,hK,hSt,hok,hV,hxl,hxw,hfl,hm,rfl⟩:=id hT
 simp only[aP] at hS
 have hone:=hV.one
 have hz1:1≤z:=hK.1
 have hz256:z≤256:=hK.2.1
 obtain⟨x,hx⟩:∃ x,rH M.k=x:=⟨_,rfl⟩
 have hx':=HD hx
 cases x with
 | false=>
  clear hx
  go_enter func420,ntmps420
  go_wp2_with (first|go_at_call 425;refine fL hS hC false hx'.out ?_;clear hS;intro w _ hS;unfold ab|refine af rfl hS ?_)
  refine bodyPost_end (results_none rfl _ _ _) rfl ?_
  exact hR M _ _ (.inl rfl) rfl (Up.refl _) hT (by simp only[aP];exact hS.p)
 | true=>
  clear hx
  have hT2' : ∀ Ec2,CA pc (jk M.k) Ec2->MA z m bz (some ⟨b,0,none⟩) { M with k:=jk M.k } (⟨b,cW z m pc pp ps v,211,true⟩::(Ec2++(Ep++(Es++(Ev++xs.map ce))))):=fun Ec2 hC2=>⟨b,pc,pp,ps,S,v,xs,Ec2,Ep,Es,Ev,rfl,hC2,hK,hSt,hok,hV,hxl,hxw,hfl,hm,rfl⟩
  go_enter func420,ntmps420
  go_wp2_with (first|go_at_call 425;refine fL hS hC true hx'.out ?_;clear hS;intro w _ hS;unfold ab|(go_at_call 394;refine nU hS hC (.inl hx'.out) hcy _ rfl ?_;clear hS;intro Ec2 w hC2 hS;have hT2:=hT2' Ec2 hC2;have hS:St w0 bs w (Ea++((⟨b,cW z m pc pp ps v,211,true⟩::(Ec2++(Ep++(Es++(Ev++xs.map ce)))))++H2)):=(by simp only[aP];exact hS.p);unfold ab)|go_at_call 277;refine kW hS hA hT2 ?_;clear hS;intro bh bm ph Eh w hH hS;unfold ab|(go_at_call 445;refine pG hS hA rfl ?_;clear hS;intro vg Eg w _ hRS hS;have hone2:=hRS.one;unfold ab)|go_at_call 348;refine tH (H3:=Ea++H2) hS.p hRS hg8 hH hT2 ?_;clear hS;intro M1 E1 w hSh hT3 hS;unfold ab|refine af rfl hS ?_)
  refine bodyPost_end (results_none rfl _ _ _) rfl ?_
  exact hR M1 _ _ (.inr ⟨hx'.out,hSh.k⟩) hSh.bf hSh.up hT3 hS.p
theorem uM (hO:St w0 bs w H)(hA:AA pa T Ea)(hT:MA z m bz p M E)[hc:Cut H Ea H1][hd:Cut H1 E H2](h1:M.k.1=2)(hcy:0≤M.k.2.2.1∧M.k.2.2.1<1000000)
  (hR:∀ k' E' w',(k'=M.k∨rH M.k=true∧k'=jk M.k)->MA z m bz p { M with k:=k' } E'->St w0 bs w' (Ea++(E'++H2))->ab R (.tuple #[]) w'):Calls prog 421 #[.pointer p,.pointer pa] w R:=by
 have hS:=hO.fr Ea H1
 have hS:St w0 bs w (Ea++(E++H2)):=hS.p
 clear hO
 obtain⟨b,pc,pp,ps,S,v,xs,Ec,Ep,Es,Ev,rfl,hC,hK,hSt,hok,hV,hxl,hxw,hfl,hm,rfl⟩:=id hT
 simp only[aP] at hS
 have hone:=hV.one
 have hz1:1≤z:=hK.1
 have hz256:z≤256:=hK.2.1
 obtain⟨x,hx⟩:∃ x,rH M.k=x:=⟨_,rfl⟩
 have hx':=HD hx
 cases x with
 | false=>
  clear hx
  go_enter func421,ntmps421
  go_wp2_with (first|go_at_call 425;refine fL hS hC false hx'.out ?_;clear hS;intro w _ hS;unfold ab|refine af rfl hS ?_)
  refine bodyPost_end (results_none rfl _ _ _) rfl ?_
  exact hR M.k _ _ (.inl rfl) hT (by simp only[aP];exact hS.p)
 | true=>
  clear hx
  go_enter func421,ntmps421
  go_wp2_with (first|go_at_call 425;refine fL hS hC true hx'.out ?_;clear hS;intro w _ hS;unfold ab|go_at_call 394;refine nU hS hC (.inl hx'.out) hcy _ rfl ?_;clear hS;intro Ec2 w hC2 hS;unfold ab|refine af rfl hS ?_)
  refine bodyPost_end (results_none rfl _ _ _) rfl ?_
  exact hR (jk M.k) _ _ (.inr ⟨hx'.out,rfl⟩) ⟨b,pc,pp,ps,S,v,xs,Ec2,Ep,Es,Ev,rfl,hC2,hK,hSt,hok,hV,hxl,hxw,hfl,hm,rfl⟩ (by simp only[aP];exact hS.p)
theorem qB (hO:St w0 bs w H)(hA:AA pa T Ea)(hT:MA z m bz p M E)[hc:Cut H Ea H1][hd:Cut H1 E H2]{s:Int}(h300:(jr (some (some T.1))).length≤300)
  (hR:∀ L' E' w',Up M.L L'->MA z m bz p { M with L:=L' } E'->St w0 bs w' (Ea++(E'++H2))->ab R (.tuple #[]) w'):Calls prog 448 #[.pointer p,.pointer pa,.int .i64 s] w R:=by
 have hS:=hO.fr Ea H1
 have hS:St w0 bs w (Ea++(E++H2)):=hS.p
 clear hO
 obtain⟨b,pc,pp,ps,S,v,xs,Ec,Ep,Es,Ev,rfl,hC,hK,hSt,hok,hV,hxl,hxw,hfl,hm,rfl⟩:=id hT
 simp only[aP] at hS
 have hone:=hV.one
 have hz1:1≤z:=hK.1
 have hz256:z≤256:=hK.2.1
 obtain⟨l,hl⟩:∃ l,jr (some (some T.1))=l:=⟨_,rfl⟩
 rw[hl] at h300
 have hl':=HD hl
 clear hl
 go_enter func448,ntmps448
 go_wp2_with (first|go_at_call 204;refine il hS hA ?_;clear hS;intro ph Eh w _ hH hS;unfold ab|(go_at_call 391;refine px hS hH l hl'.out ?_;clear hS;intro vl El w hRS hS;have hone0:=hRS.one;have hln:=hRS.len rfl;unfold ab)|refine wV (.call { callee:=.builtin .len,args:=#[_],argTypes:=#[_] }) rfl (aA rfl) ?_)
 have hS0:St w0 bs w (⟨b,cW z m pc pp ps v,211,true⟩::(El++(Eh++(Ea++(Ec++(Ep++(Es++(Ev++(xs.map ce++H2))))))))):=hS.p
 clear hS
 go_loopw [14] (fun u wr=>∃ (k:Nat),k≤l.length∧u=.int .i64 k∧St w0 bs wr (⟨b,cW z m pc pp ps v,211,true⟩::(El++(Eh++(Ea++(Ec++(Ep++(Es++(Ev++(xs.map ce++H2)))))))))) (fun u _=>l.length - (intOf u).toNat)
 case atStart=>exact⟨0,Nat.zero_le _,rfl,hS0⟩
 case round=>
  clear hS0
  obtain⟨k,hk,rfl,hS⟩:=hrel
  by_cases hlt:k<l.length
  ·obtain⟨⟨s1,g1⟩,hx⟩:∃ x,l.getD k (0,0)=x:=⟨_,rfl⟩
   obtain⟨gx,sp,ix,hh,hcx⟩:=hRS.at hlt hx
   have ix:=ix k rfl
   simp only at hcx
   have dk:decide ((k:Int)<(l.length:Int))=true:=DT
   have dk' : decide (k<l.length)=true:=decide_eq_true hlt
   have hk300:(k:Int)≤300:=by omega
   clear hx
   by_cases hq:s1=s
   ·have d1:(s1 == s)=true:=by simp[hq]
    have d2:decide (s1=s)=true:=decide_eq_true hq
    have hq':=HD hq
    clear hq
    go_wp2_with (first|refine aq 176 rfl hS ?_;clear hS;intro br w _ hS|refine aR 10 hS ?_;clear hS;intro w hS;simp only[List.take_succ_cons,List.take_zero,List.drop_succ_cons,List.drop_zero];(repeat (first|(first|refine ax rfl (ac _ _ rfl hS) ?_|refine ax rfl (ai _ _ rfl hS) ?_)|still_step));refine wpStill_nil ?_|go_at_call 463;refine xj hS hH hK hSt hok s1 g1 ?_;clear hS;intro L2 S2 Ep2 Es2 w n2 e2 hU hok2 hK2 hSt2 hS;unfold ab|refine aM rfl ?_|(first|refine af rfl hS ?_|refine au rfl hS ?_)|refine ak rfl hS ?_;clear hS;intro w hS)
    refine bodyPost_ret (results_none rfl _ _ _) rfl ?_
    exact hR L2 _ _ hU ⟨b,pc,pp,ps,S2,v,xs,Ec,Ep2,Es2,Ev,rfl,hC,hK2,hSt2,hok2,hV,hxl,hxw,hfl,hm,rfl⟩ (by simp only[aP];exact hS.p)
   ·have d1:(s1 == s)=false:=by simp[hq]
    have d2:decide (s1=s)=false:=decide_eq_false hq
    go_wp2_with (first|refine aq 176 rfl hS ?_;clear hS;intro br w _ hS|refine aM rfl ?_|(first|refine af rfl hS ?_|refine au rfl hS ?_)|refine ak rfl hS ?_;clear hS;intro w hS)
    go_roundw
    case rel=>exact⟨k+1,by omega,by go_num,hS.p⟩
    case measure=>simp[intOf];omega
  ·obtain rfl:k=l.length:=by omega
   have dk:decide ((l.length:Int)<(l.length:Int))=false:=DF
   have dk' : decide (l.length<l.length)=false:=DF
   obtain⟨L2,hb2,hU⟩:=vA (z:=z) (L:=M.L) (s:=s)
   have hb2':=HD hb2
   clear hb2
   go_wp2_with (first|go_at_call 464;refine jN hS hK s hb2'.out rfl ?_;clear hS;intro Ep2 w hK2 hS;unfold ab|refine af rfl hS ?_)
   refine bodyPost_end (results_none rfl _ _ _) rfl ?_
   exact hR L2 _ _ hU ⟨b,pc,pp,ps,S,v,xs,Ec,Ep2,Es,Ev,rfl,hC,hK2,hSt,hok,hV,hxl,hxw,hfl,hm,rfl⟩ (by simp only[aP];exact hS.p)
end
open Go.RowKit Go.Mm
theorem jL {S:Sq}(h:i7 S=true):i7 (EK S)=true:=by
 rcases S with _|_|⟨z,o,l⟩
 ·cases h
 ·cases h
 ·rfl
theorem BxW.le64 {x:Bx}{z:Nat}{l:List Int}(h:BxW x z l):l.length≤64:=Nat.le_trans h.le h.z64
section
variable {z m bz:Nat}{p pa:Option Addr}{M:Mk}{T:Ar}
theorem uK (hO:St w0 bs w H)(hA:AA pa T Ea)(hT:MA z m bz p M E)[hc:Cut H Ea H1][hd:Cut H1 E H2](h1:M.k.1=3)(hcy:0≤M.k.2.2.1∧M.k.2.2.1<1000000)(h300:(jr (some (some T.1))).length≤300)
  (hR:∀ M' E' w',(M'.k=M.k∨M'.k=jk M.k)->M'.bf=List.replicate m []->Up M.L M'.L->(∀ j,∀ s∈M.bf.getD j [],0≤s∧s<z->M'.L.getD s.toNat 0≠0)->MA z m bz p M' E'->St w0 bs w' (Ea++(E'++H2))->ab R (.tuple #[]) w'):Calls prog 422 #[.pointer p,.pointer pa] w R:=by
 have hS:=hO.fr Ea H1
 have hS:St w0 bs w (Ea++(E++H2)):=hS.p
 clear hO
 obtain⟨b,pc,pp,ps,S,v,xs,Ec,Ep,Es,Ev,rfl,hC,hK,hSt,hok,hV,hxl,hxw,hfl,hm,rfl⟩:=id hT
 simp only[aP] at hS
 have hone:=hV.one
 have hz1:1≤z:=hK.1
 have hz256:z≤256:=hK.2.1
 have hln:=hV.len hxl
 have hm4:=hC.m14
 have hxw':=HD hxw
 have hfl':=HD hfl
 clear hT hfl
 go_enter func422,ntmps422
 go_wp2_with (first|refine wV (.call { callee:=.builtin .len,args:=#[_],argTypes:=#[_] }) rfl (aA rfl) ?_|refine af rfl hS ?_)
 have hS0:St w0 bs w (⟨b,cW z m pc pp ps v,211,true⟩::(Ea++(Ec++(Ep++(Es++(Ev++(xs.map ce++H2))))))):=hS.p
 clear hS
 go_loopw [19] (fun u wr=>∃ (i:Nat) (ys:List Bx) (L1:List Int) (S1:Sq) (Ep1 Es1:List Ent),i≤m∧u=.int .i64 i∧ys.length=m∧PV v ys Ev∧(∀ j x,ys[j]?=some x->BxW x bz (if j<i then [] else M.bf.getD j []))∧Up M.L L1∧(∀ j,j<i->∀ s∈M.bf.getD j [],0≤s∧s<z->L1.getD s.toNat 0≠0)∧i7 S1=true∧KA pp (some (some (z,L1))) Ep1∧SA ps S1 Es1∧St w0 bs wr (⟨b,cW z m pc pp ps v,211,true⟩::(Ea++(Ec++(Ep1++(Es1++(Ev++(ys.map ce++H2)))))))) (fun u _=>m - (intOf u).toNat)
 case atStart=>exact⟨0,xs,M.L,S,Ep,Es,Nat.zero_le _,rfl,hxl,hV,fun j x hx=>by simpa using hxw'.out j x hx,Up.refl _,fun j hj=>absurd hj (Nat.not_lt_zero _),hok,hK,hSt,hS0⟩
 case round=>
  clear hS0 hK hSt hok hxl
  obtain⟨i,ys,L1,S1,Ep1,Es1,hi,rfl,hyl,hVy,hyw,hU1,hN1,hok1,hK1,hSt1,hS⟩:=hrel
  have hyw':=HD hyw
  have hU1':=HD hU1
  have hN1':=HD hN1
  clear hU1 hN1
  by_cases hlt:i<m
  ·obtain⟨x,hx⟩:∃ x,ys[i]?=some x:=⟨_,List.getElem?_eq_getElem (by omega)⟩
   obtain⟨g,cs,hix,hhas,hcell⟩:=hVy.at hx
   have hxW:=hyw i x hx
   rw[if_neg (by omega)] at hxW
   rw[ku hx] at hS
   have hS:St w0 bs wr (ce x::(⟨b,cW z m pc pp ps v,211,true⟩::(Ea++(Ec++(Ep1++(Es1++(Ev++((ys.take i).map ce++((ys.drop (i+1)).map ce++H2))))))))):=by
    simp only[List.append_assoc,List.cons_append] at hS
    exact hS.p
   have dk:decide ((i:Int)<(m:Int))=true:=DT
   have dk' : decide (i<m)=true:=decide_eq_true hlt
   have hx':=HD hx
   obtain⟨l,hl⟩:∃ l,M.bf.getD i []=l:=⟨_,rfl⟩
   rw[hl] at hxW
   have hl':=HD hl
   have hl64:=hxW.le64
   clear hx hyw hl
   go_wp2_with (first|(go_at_call 397;refine nZ hS hxW ?_;clear hS;intro x1 v1 Ex w hb1 hW1 hI hS;have hone1:=hI.one;have hln1:=hI.len rfl;unfold ab)|refine wV (.call { callee:=.builtin .len,args:=#[_],argTypes:=#[_] }) rfl (aA rfl) ?_|refine aM rfl ?_|refine af rfl hS ?_)
   have hS0:St w0 bs w (ce x1::(Ex++(⟨b,cW z m pc pp ps v,211,true⟩::(Ea++(Ec++(Ep1++(Es1++(Ev++((ys.take i).map ce++((ys.drop (i+1)).map ce++H2)))))))))):=hS.p
   clear hS
   obtain⟨wo,rfl⟩:∃ wo:World,wo=w:=⟨_,rfl⟩
   go_loopw [30] (fun u wr=>∃ (q:Nat) (L2:List Int) (S2:Sq) (Ep2 Es2:List Ent),q≤l.length∧u=.int .i64 q∧Up L1 L2∧(∀ s∈l.take q,0≤s∧s<z->L2.getD s.toNat 0≠0)∧i7 S2=true∧KA pp (some (some (z,L2))) Ep2∧SA ps S2 Es2∧St w0 bs wr (ce x1::(Ex++(⟨b,cW z m pc pp ps v,211,true⟩::(Ea++(Ec++(Ep2++(Es2++(Ev++((ys.take i).map ce++((ys.drop (i+1)).map ce++H2))))))))))) (fun u _=>l.length - (intOf u).toNat)
   case atStart=>exact⟨0,L1,S1,Ep1,Es1,Nat.zero_le _,rfl,Up.refl _,by simp,hok1,hK1,hSt1,hS0⟩
   case round=>
    clear hS0 hK1 hSt1 hok1
    obtain⟨q,L2,S2,Ep2,Es2,hq,rfl,hU2,hN2,hok2,hK2,hSt2,hS⟩:=hrel
    have hU2':=HD hU2
    have hN2':=HD hN2
    clear hU2 hN2
    by_cases hlq:q<l.length
    ·obtain⟨s,hs⟩:∃ s,l.getD q 0=s:=⟨_,rfl⟩
     obtain⟨g2,sp2,ix2,hh2,hc2⟩:=hI.at hlq hs
     have ix2:=ix2 q rfl
     have htk:l.take (q+1)=l.take q++[s]:=by
      rw[List.take_add_one,List.getElem?_eq_getElem hlq]
      rw[List.getD_eq_getElem?_getD,List.getElem?_eq_getElem hlq] at hs
      simp only[Option.getD_some] at hs
      rw[hs];rfl
     have htk':=HD htk
     have dq:decide ((q:Int)<(l.length:Int))=true:=DT
     have dq' : decide (q<l.length)=true:=decide_eq_true hlq
     have hq64:(q:Int)≤64:=by omega
     clear htk hs
     go_wp2_with (first|refine aR 9 hS ?_;clear hS;intro w hS;simp only[List.take_succ_cons,List.take_zero,List.drop_succ_cons,List.drop_zero];(repeat (first|refine ax rfl (ac _ _ rfl hS) ?_|still_step));refine wpStill_nil ?_|go_at_call 192;refine kS hS hK2 hSt2 hok2 s ?_;clear hS;intro L3 S3 Ep3 Es3 w v3 e3 hU3 hat3 hok3 hK3 hSt3 hS;unfold ab|refine aM rfl ?_|refine af rfl hS ?_)
     go_roundw
     case rel=>
      refine⟨q+1,L3,S3,Ep3,Es3,by omega,by go_num,hU2'.out.trans hU3,fun t ht hr=>?_,hok3,hK3,hSt3,hS.p⟩
      rw[htk'.out] at ht
      rcases List.mem_append.1 ht with ht|ht
      ·exact hU3 _ (hN2'.out t ht hr)
      ·obtain rfl:=List.mem_singleton.1 ht
       exact hat3 hr
     case measure=>simp[intOf];omega
    ·obtain rfl:q=l.length:=by omega
     have dq:decide ((l.length:Int)<(l.length:Int))=false:=DF
     have dq' : decide (l.length<l.length)=false:=DF
     have hi4:(i:Int)≤4:=by omega
     go_wp2_with (go_skip)
     go_roundw
     case rel=>
      refine⟨i+1,ys.set i x1,L2,S2,Ep2,Es2,by omega,by go_num,by rw[List.length_set];exact hyl,hVy.set hx'.out hb1,fun j y hy=>?_,hU1'.out.trans hU2'.out,fun j hj s hs hr=>?_,hok2,hK2,hSt2,?_⟩
      ·rw[List.getElem?_set] at hy
       split at hy
       ·rename_i hij
        subst hij
        split at hy
        ·obtain rfl:=Option.some.inj hy
         rw[if_pos (by omega)];exact hW1
        ·cases hy
       ·rename_i hij
        have:=hyw'.out j y hy
        by_cases hji:j<i
        ·rw[if_pos (by omega)];rwa [if_pos hji] at this
        ·rw[if_neg (by omega)];rwa [if_neg hji] at this
      ·by_cases hji:j<i
       ·exact hU2'.out _ (hN1'.out j hji s hs hr)
       ·obtain rfl:j=i:=by omega
        rw[hl'.out] at hs
        exact hN2'.out s (by rw[List.take_length];exact hs) hr
      ·rw[l6 hx'.out]
       simp only[List.append_assoc,List.cons_append]
       exact hS.p
     case measure=>simp[intOf];omega
  ·obtain rfl:i=m:=by omega
   have dk:decide ((i:Int)<(i:Int))=false:=DF
   have dk' : decide (i<i)=false:=decide_eq_false hlt
   have hbf:∀ j x,ys[j]?=some x->BxW x bz ((List.replicate i ([] : List Int)).getD j []):=fun j y hy=>by
    have:=hyw'.out j y hy
    have hj:j<i:=by rw[← hyl];exact(List.getElem?_eq_some_iff.1 hy).1
    rw[if_pos hj] at this
    simpa [List.getD_eq_getElem?_getD,List.getElem?_replicate,hj] using this
   have hall:∀ L2,Up L1 L2->∀ j,∀ s∈M.bf.getD j [],0≤s∧s<z->L2.getD s.toNat 0≠0:=fun L2 hU j s hs hr=>by
    by_cases hj:j<i
    ·exact hU _ (hN1'.out j hj s hs hr)
    ·rw[List.getD_eq_getElem?_getD,List.getElem?_eq_none (by have:=hfl'.out;omega)] at hs
     cases hs
   have hall':=HD hall
   have hbf':=HD hbf
   have hS:St w0 bs wr (Ea++(⟨b,cW z i pc pp ps v,211,true⟩::(Ec++(Ep1++(Es1++(Ev++(ys.map ce++H2))))))):=hS.p
   clear hyw hall hbf
   cases hpb:EM S1 with
   | true=>
    have hpb':=HD hpb
    clear hpb
    obtain⟨c,hc⟩:∃ c,uw (some (some (z,L1))) (EL S1)=c:=⟨_,rfl⟩
    have hc':=HD hc
    clear hc
    by_cases hg:c=1
    ·have dg:(c == 1)=true:=by simp[hg]
     have dg' : decide (c=1)=true:=decide_eq_true hg
     have hg':=HD hg
     clear hg
     go_wp2_with (first|go_at_call 446;refine jC hS hSt1 true rfl rfl hpb'.out ?_;clear hS;intro Es2 w hSt2 hS;unfold ab|go_at_call 423;refine f7 hS hK1 _ c _ hc'.out rfl ?_;clear hS;intro w hS;unfold ab|go_at_call 448;refine qB (T:=T) (M:=⟨M.k,L1,List.replicate i []⟩) (E:=⟨b,cW z i pc pp ps v,211,true⟩::(Ec++(Ep1++(Es2++(Ev++ys.map ce))))) (H2:=H2) (show St w0 bs w (Ea++((⟨b,cW z i pc pp ps v,211,true⟩::(Ec++(Ep1++(Es2++(Ev++ys.map ce)))))++H2)) from(by simp only[aP];exact hS.p)) hA ⟨b,pc,pp,ps,_,v,ys,Ec,Ep1,Es2,Ev,rfl,hC,hK1,hSt2,jL hok1,hVy,hyl,hbf'.out,by simp,hm,rfl⟩ h300 ?_;clear hS;intro L3 E3 w hU3 hT3 hS;unfold ab|refine af rfl hS ?_)
     refine bodyPost_end (results_none rfl _ _ _) rfl ?_
     exact hR ⟨M.k,L3,List.replicate i []⟩ _ _ (.inl rfl) rfl (hU1'.out.trans hU3) (hall'.out _ hU3) hT3 hS.p
    ·have dg:(c == 1)=false:=by simp[hg]
     have dg' : decide (c=1)=false:=decide_eq_false hg
     go_wp2_with (first|go_at_call 446;refine jC hS hSt1 true rfl rfl hpb'.out ?_;clear hS;intro Es2 w hSt2 hS;unfold ab|go_at_call 423;refine f7 hS hK1 _ c _ hc'.out rfl ?_;clear hS;intro w hS;unfold ab|refine af rfl hS ?_)
     refine bodyPost_end (results_none rfl _ _ _) rfl ?_
     exact hR ⟨M.k,L1,List.replicate i []⟩ _ _ (.inl rfl) rfl hU1'.out (hall'.out _ (Up.refl _)) ⟨b,pc,pp,ps,_,v,ys,Ec,Ep1,Es2,Ev,rfl,hC,hK1,hSt2,jL hok1,hVy,hyl,hbf'.out,by simp,hm,rfl⟩ (by simp only[aP];exact hS.p)
   | false=>
    have hpb':=HD hpb
    clear hpb
    cases hgy:Dx (some (some (z,L1))) 0 with
    | true=>
     have hgy':=HD hgy
     clear hgy
     obtain⟨c,hc⟩:∃ c,uw (some (some (z,L1))) (Bc (some (some (z,L1))) 0)=c:=⟨_,rfl⟩
     have hc':=HD hc
     clear hc
     by_cases hg:c=1
     ·have dg:(c == 1)=true:=by simp[hg]
      have dg' : decide (c=1)=true:=decide_eq_true hg
      have hg':=HD hg
      clear hg
      go_wp2_with (first|go_at_call 446;refine jC hS hSt1 false rfl rfl hpb'.out ?_;clear hS;intro Es2 w hSt2 hS;unfold ab|(first|go_at_call 447;refine lH hS hK1 0 true rfl hgy'.out ?_|go_at_call 423;refine f7 hS hK1 _ c _ hc'.out rfl ?_);clear hS;intro w hS;unfold ab|go_at_call 448;refine qB (T:=T) (M:=⟨M.k,L1,List.replicate i []⟩) (E:=⟨b,cW z i pc pp ps v,211,true⟩::(Ec++(Ep1++(Es2++(Ev++ys.map ce))))) (H2:=H2) (show St w0 bs w (Ea++((⟨b,cW z i pc pp ps v,211,true⟩::(Ec++(Ep1++(Es2++(Ev++ys.map ce)))))++H2)) from(by simp only[aP];exact hS.p)) hA ⟨b,pc,pp,ps,_,v,ys,Ec,Ep1,Es2,Ev,rfl,hC,hK1,hSt2,jL hok1,hVy,hyl,hbf'.out,by simp,hm,rfl⟩ h300 ?_;clear hS;intro L3 E3 w hU3 hT3 hS;unfold ab|refine af rfl hS ?_)
      refine bodyPost_end (results_none rfl _ _ _) rfl ?_
      exact hR ⟨M.k,L3,List.replicate i []⟩ _ _ (.inl rfl) rfl (hU1'.out.trans hU3) (hall'.out _ hU3) hT3 hS.p
     ·have dg:(c == 1)=false:=by simp[hg]
      have dg' : decide (c=1)=false:=decide_eq_false hg
      go_wp2_with (first|go_at_call 446;refine jC hS hSt1 false rfl rfl hpb'.out ?_;clear hS;intro Es2 w hSt2 hS;unfold ab|(first|go_at_call 447;refine lH hS hK1 0 true rfl hgy'.out ?_|go_at_call 423;refine f7 hS hK1 _ c _ hc'.out rfl ?_);clear hS;intro w hS;unfold ab|refine af rfl hS ?_)
      refine bodyPost_end (results_none rfl _ _ _) rfl ?_
      exact hR ⟨M.k,L1,List.replicate i []⟩ _ _ (.inl rfl) rfl hU1'.out (hall'.out _ (Up.refl _)) ⟨b,pc,pp,ps,_,v,ys,Ec,Ep1,Es2,Ev,rfl,hC,hK1,hSt2,jL hok1,hVy,hyl,hbf'.out,by simp,hm,rfl⟩ (by simp only[aP];exact hS.p)
    | false=>
     have hgy':=HD hgy
     clear hgy
     go_wp2_with (first|go_at_call 446;refine jC hS hSt1 false rfl rfl hpb'.out ?_;clear hS;intro Es2 w hSt2 hS;unfold ab|go_at_call 447;refine lH hS hK1 0 false rfl hgy'.out ?_;clear hS;intro w hS;unfold ab|go_at_call 394;refine nU hS hC (.inr (by omega)) hcy _ rfl ?_;clear hS;intro Ec2 w hC2 hS;unfold ab|refine af rfl hS ?_)
     refine bodyPost_ret (results_none rfl _ _ _) rfl ?_
     exact hR ⟨jk M.k,L1,List.replicate i []⟩ _ _ (.inr rfl) rfl hU1'.out (hall'.out _ (Up.refl _)) ⟨b,pc,pp,ps,_,v,ys,Ec2,Ep1,Es2,Ev,rfl,hC2,hK1,hSt2,jL hok1,hVy,hyl,hbf'.out,by simp,hm,rfl⟩ (by simp only[aP];exact hS.p)
end
open Go.RowKit Go.Mm
instance J1:AggT prog 504 6:=⟨by kernel_rfl,by kernel_rfl⟩
instance N5:ZeroT prog 504 #[.nilFunc,.nilFunc,.nilFunc,.nilFunc,.nilFunc,.nilFunc]:=⟨by kernel_rfl⟩
instance J0:BuildT prog 504 [(0,.func (.func 419) #[] #[]),(1,.func (.func 420) #[] #[]),(2,.func (.func 421) #[] #[]),(3,.func (.func 422) #[] #[]),(4,.func (.func 419) #[] #[]),(5,.func (.func 419) #[] #[])] #[.func (.func 419) #[] #[],.func (.func 420) #[] #[],.func (.func 421) #[] #[],.func (.func 422) #[] #[],.func (.func 419) #[] #[],.func (.func 419) #[] #[]]:=⟨fun w=>by kernel_rfl⟩
theorem j0 (hO:St w0 bs w H)(hR:∀ w',St w0 bs w' H->ab R (.agg #[.func (.func 419) #[] #[],.func (.func 420) #[] #[],.func (.func 421) #[] #[],.func (.func 422) #[] #[],.func (.func 419) #[] #[],.func (.func 419) #[] #[]]) w'):Calls prog 389 #[] w R:=by
 have hS:=hO
 clear hO
 go_enter func389,ntmps389
 go_wp2_with (first|refine aq 504 rfl hS ?_;clear hS;intro bN w _ hS|refine aL rfl ?_|refine ak rfl hS ?_;clear hS;intro w hS)
 refine bodyPost_ret (aI rfl hS) rfl ?_
 exact hR _ hS.weak
def iP (z m:Nat)(M M' : Mk):Prop:=
 ((M.k.1=1∨M.k.1=2)∧(M'.k=M.k∨rH M.k=true∧M'.k=jk M.k)∧M'.bf=M.bf∧Up M.L M'.L) ∨
 (M.k.1=3∧(M'.k=M.k∨M'.k=jk M.k)∧M'.bf=List.replicate m []∧Up M.L M'.L∧∀ j,∀ s∈M.bf.getD j [],0≤s∧s<z->M'.L.getD s.toNat 0≠0)
section
variable {z m bz:Nat}{p pa:Option Addr}{M:Mk}{T:Ar}
instance :Inhabited Mk:=⟨⟨(0,0,0,[]),[],[]⟩⟩
theorem xI (hO:St w0 bs w H)(hA:AA pa T Ea)(hT:MA z m bz p M E)[hc:Cut H Ea H1][hd:Cut H1 E H2](hz:T.1.length=z)(hk:T.2.1.length=m)(h13:1≤M.k.1∧M.k.1≤3)(hcy:0≤M.k.2.2.1∧M.k.2.2.1<1000000)(h300:(jr (some (some T.1))).length≤300)(hg8:(zn (some (true,T.2.2))).length≤300)
  (hR:∀ M' E' w',iP z m M M'->MA z m bz p M' E'->St w0 bs w' (Ea++(E'++H2))->ab R (.int .i64 0) w'):Calls prog 358 #[.pointer p,.pointer pa] w R:=by
 have hS:=hO.fr Ea H1
 have hS:St w0 bs w (Ea++(E++H2)):=hS.p
 clear hO
 obtain⟨b,pc,pp,ps,S,v,xs,Ec,Ep,Es,Ev,rfl,hC,hK,hSt,hok,hV,hxl,hxw,hfl,hm,rfl⟩:=id hT
 simp only[aP] at hS
 have hone:=hV.one
 have hz1:1≤z:=hK.1
 have hz256:z≤256:=hK.2.1
 have hz':=HD hz
 have hk':=HD hk
 have hS:St w0 bs w (Ea++((⟨b,cW z m pc pp ps v,211,true⟩::(Ec++(Ep++(Es++(Ev++xs.map ce)))))++H2)):=(by simp only[aP];exact hS.p)
 clear hz hk
 have h3:M.k.1=1∨M.k.1=2∨M.k.1=3:=by omega
 clear h13
 rcases h3 with h3|h3|h3
 ·have h3':=h3
  have hix:IxA prog 504 (.agg #[.func (.func 419) #[] #[],.func (.func 420) #[] #[],.func (.func 421) #[] #[],.func (.func 422) #[] #[],.func (.func 419) #[] #[],.func (.func 419) #[] #[]]) (.int .i64 1) (.func (.func 420) #[] #[]):=⟨fun w=>by kernel_rfl⟩
  go_enter func358,ntmps358
  go_wp2_with (go_at_call 275;refine eq hS hA hT hz'.out hk'.out ?_;clear hS;intro w hS;unfold ab)
  refine gm (X:=Mk×List Ent) 9 (fun w=>St w0 bs w (Ea++((⟨b,cW z m pc pp ps v,211,true⟩::(Ec++(Ep++(Es++(Ev++xs.map ce)))))++H2))) (fun x w=>iP z m M x.1∧MA z m bz (some ⟨b,0,none⟩) x.1 x.2∧St w0 bs w (Ea++(x.2++H2))) (hS.drawn _) ?_
  refine iD 389 [] rfl (fun _=>rfl) rfl ae (.agg #[.func (.func 419) #[] #[],.func (.func 420) #[] #[],.func (.func 421) #[] #[],.func (.func 422) #[] #[],.func (.func 419) #[] #[],.func (.func 419) #[] #[]]) (fun χ w hw=>j0 hw (fun w' hS'=>⟨rfl,hS'⟩)) ?_
  refine cr (fun _=>rfl) rfl (fun χ w hw=>ad rfl) ?_
  refine cr (fun _=>rfl) rfl (fun χ w hw=>ah rfl) ?_
  refine cr (fun _=>rfl) rfl (fun χ w hw=>ag rfl) ?_
  (refine cr (fun _=>rfl) rfl (fun χ w hw=>ac _ _ rfl hw) ?_)
  refine iD 119 [_] rfl (fun _=>rfl) rfl ae (.int .i64 1) (fun χ w hw=>by
   have hw:St w0 bs w (⟨b,cW z m pc pp ps v,211,true⟩::(Ea++(Ec++(Ep++(Es++(Ev++(xs.map ce++H2))))))):=by
    have hS:=hw
    simp only[bX] at hS
    exact hS.p
   exact db hw hC (fun w' _ hS=>⟨by rw[h3'];rfl,(by simp only[aP];exact hS.p)⟩)) ?_
  refine cr (fun _=>rfl) rfl (fun χ w hw=>cD rfl) ?_
  refine cr (fun _=>rfl) rfl (fun χ w hw=>ad rfl) ?_
  refine cr (fun _=>rfl) rfl (fun χ w hw=>ad rfl) ?_
  refine uv (fun _=>rfl) rfl (fun _=>.tuple #[]) (fun χ w hw=>eE [_,_] rfl ae ?_) ?_
  ·have hS:St w0 bs w (Ea++((⟨b,cW z m pc pp ps v,211,true⟩::(Ec++(Ep++(Es++(Ev++xs.map ce)))))++H2)):=hw
   exact uL hS hA hT h3' hcy hg8 (fun M' E' w' q1 q2 q3 hT' hS'=>⟨_,rfl,(M',E'),rfl,.inl ⟨.inl h3',q1,q2,q3⟩,hT',hS'⟩)
  refine o5 rfl ?_
  rintro χ w ⟨hst,hT2,hS⟩
  generalize χ 9=x at hst hT2 hS
  obtain⟨M2,E2⟩:=x
  go_wp2_with (go_skip)
  exact hR M2 E2 _ hst hT2 hS
 ·have h3':=h3
  have hix:IxA prog 504 (.agg #[.func (.func 419) #[] #[],.func (.func 420) #[] #[],.func (.func 421) #[] #[],.func (.func 422) #[] #[],.func (.func 419) #[] #[],.func (.func 419) #[] #[]]) (.int .i64 2) (.func (.func 421) #[] #[]):=⟨fun w=>by kernel_rfl⟩
  go_enter func358,ntmps358
  go_wp2_with (go_at_call 275;refine eq hS hA hT hz'.out hk'.out ?_;clear hS;intro w hS;unfold ab)
  refine gm (X:=Mk×List Ent) 9 (fun w=>St w0 bs w (Ea++((⟨b,cW z m pc pp ps v,211,true⟩::(Ec++(Ep++(Es++(Ev++xs.map ce)))))++H2))) (fun x w=>iP z m M x.1∧MA z m bz (some ⟨b,0,none⟩) x.1 x.2∧St w0 bs w (Ea++(x.2++H2))) (hS.drawn _) ?_
  refine iD 389 [] rfl (fun _=>rfl) rfl ae (.agg #[.func (.func 419) #[] #[],.func (.func 420) #[] #[],.func (.func 421) #[] #[],.func (.func 422) #[] #[],.func (.func 419) #[] #[],.func (.func 419) #[] #[]]) (fun χ w hw=>j0 hw (fun w' hS'=>⟨rfl,hS'⟩)) ?_
  refine cr (fun _=>rfl) rfl (fun χ w hw=>ad rfl) ?_
  refine cr (fun _=>rfl) rfl (fun χ w hw=>ah rfl) ?_
  refine cr (fun _=>rfl) rfl (fun χ w hw=>ag rfl) ?_
  (refine cr (fun _=>rfl) rfl (fun χ w hw=>ac _ _ rfl hw) ?_)
  refine iD 119 [_] rfl (fun _=>rfl) rfl ae (.int .i64 2) (fun χ w hw=>by
   have hw:St w0 bs w (⟨b,cW z m pc pp ps v,211,true⟩::(Ea++(Ec++(Ep++(Es++(Ev++(xs.map ce++H2))))))):=by
    have hS:=hw
    simp only[bX] at hS
    exact hS.p
   exact db hw hC (fun w' _ hS=>⟨by rw[h3'];rfl,(by simp only[aP];exact hS.p)⟩)) ?_
  refine cr (fun _=>rfl) rfl (fun χ w hw=>cD rfl) ?_
  refine cr (fun _=>rfl) rfl (fun χ w hw=>ad rfl) ?_
  refine cr (fun _=>rfl) rfl (fun χ w hw=>ad rfl) ?_
  refine uv (fun _=>rfl) rfl (fun _=>.tuple #[]) (fun χ w hw=>eE [_,_] rfl ae ?_) ?_
  ·have hS:St w0 bs w (Ea++((⟨b,cW z m pc pp ps v,211,true⟩::(Ec++(Ep++(Es++(Ev++xs.map ce)))))++H2)):=hw
   exact uM hS hA hT h3' hcy (fun k' E' w' q1 hT' hS'=>⟨_,rfl,({ M with k:=k' },E'),rfl,.inl ⟨.inr h3',q1,rfl,Up.refl _⟩,hT',hS'⟩)
  refine o5 rfl ?_
  rintro χ w ⟨hst,hT2,hS⟩
  generalize χ 9=x at hst hT2 hS
  obtain⟨M2,E2⟩:=x
  go_wp2_with (go_skip)
  exact hR M2 E2 _ hst hT2 hS
 ·have h3':=h3
  have hix:IxA prog 504 (.agg #[.func (.func 419) #[] #[],.func (.func 420) #[] #[],.func (.func 421) #[] #[],.func (.func 422) #[] #[],.func (.func 419) #[] #[],.func (.func 419) #[] #[]]) (.int .i64 3) (.func (.func 422) #[] #[]):=⟨fun w=>by kernel_rfl⟩
  go_enter func358,ntmps358
  go_wp2_with (go_at_call 275;refine eq hS hA hT hz'.out hk'.out ?_;clear hS;intro w hS;unfold ab)
  refine gm (X:=Mk×List Ent) 9 (fun w=>St w0 bs w (Ea++((⟨b,cW z m pc pp ps v,211,true⟩::(Ec++(Ep++(Es++(Ev++xs.map ce)))))++H2))) (fun x w=>iP z m M x.1∧MA z m bz (some ⟨b,0,none⟩) x.1 x.2∧St w0 bs w (Ea++(x.2++H2))) (hS.drawn _) ?_
  refine iD 389 [] rfl (fun _=>rfl) rfl ae (.agg #[.func (.func 419) #[] #[],.func (.func 420) #[] #[],.func (.func 421) #[] #[],.func (.func 422) #[] #[],.func (.func 419) #[] #[],.func (.func 419) #[] #[]]) (fun χ w hw=>j0 hw (fun w' hS'=>⟨rfl,hS'⟩)) ?_
  refine cr (fun _=>rfl) rfl (fun χ w hw=>ad rfl) ?_
  refine cr (fun _=>rfl) rfl (fun χ w hw=>ah rfl) ?_
  refine cr (fun _=>rfl) rfl (fun χ w hw=>ag rfl) ?_
  (refine cr (fun _=>rfl) rfl (fun χ w hw=>ac _ _ rfl hw) ?_)
  refine iD 119 [_] rfl (fun _=>rfl) rfl ae (.int .i64 3) (fun χ w hw=>by
   have hw:St w0 bs w (⟨b,cW z m pc pp ps v,211,true⟩::(Ea++(Ec++(Ep++(Es++(Ev++(xs.map ce++H2))))))):=by
    have hS:=hw
    simp only[bX] at hS
    exact hS.p
   exact db hw hC (fun w' _ hS=>⟨by rw[h3'];rfl,(by simp only[aP];exact hS.p)⟩)) ?_
  refine cr (fun _=>rfl) rfl (fun χ w hw=>cD rfl) ?_
  refine cr (fun _=>rfl) rfl (fun χ w hw=>ad rfl) ?_
  refine cr (fun _=>rfl) rfl (fun χ w hw=>ad rfl) ?_
  refine uv (fun _=>rfl) rfl (fun _=>.tuple #[]) (fun χ w hw=>eE [_,_] rfl ae ?_) ?_
  ·have hS:St w0 bs w (Ea++((⟨b,cW z m pc pp ps v,211,true⟩::(Ec++(Ep++(Es++(Ev++xs.map ce)))))++H2)):=hw
   exact uK hS hA hT h3' hcy h300 (fun M' E' w' q1 q2 q3 q4 hT' hS'=>⟨_,rfl,(M',E'),rfl,.inr ⟨h3',q1,q2,q3,q4⟩,hT',hS'⟩)
  refine o5 rfl ?_
  rintro χ w ⟨hst,hT2,hS⟩
  generalize χ 9=x at hst hT2 hS
  obtain⟨M2,E2⟩:=x
  go_wp2_with (go_skip)
  exact hR M2 E2 _ hst hT2 hS
theorem AV (hO:St w0 bs w H)(hA:AA pa T Ea)(hT:MA z m bz p M E)[hc:Cut H Ea H1][hd:Cut H1 E H2](hz:T.1.length=z)(hk:T.2.1.length=m)(i:Nat)(hi:i<m)(h32:(ez T i).length≤300)
  (hR:∀ M' E' w' (v:Bool) (e:Int),M'.k=iW M.k i->M'.bf=M.bf->Up M.L M'.L->(yN M.k i=true->M.k.1=2->∀ r∈ez T i,j9 (some (some T.1)) r.1 r.2=true->0≤r.1∧r.1<z->M'.L.getD r.1.toNat 0≠0)->MA z m bz p M' E'->St w0 bs w' (Ea++(E'++H2))->ab R (.tuple #[.bool v,.int .i64 e]) w'):Calls prog 199 #[.pointer p,.pointer pa,.int .i64 i] w R:=by
 have hS:=hO.fr Ea H1
 have hS:St w0 bs w (Ea++(E++H2)):=hS.p
 clear hO
 obtain⟨b,pc,pp,ps,S,v,xs,Ec,Ep,Es,Ev,rfl,hC,hK,hSt,hok,hV,hxl,hxw,hfl,hm,rfl⟩:=id hT
 simp only[aP] at hS
 have hone:=hV.one
 have hz1:1≤z:=hK.1
 have hz256:z≤256:=hK.2.1
 have hin:fm T i=true:=by unfold fm;rw[hk];simp;exact hi
 have hmu:AO T i=0:=by unfold AO;rw[if_pos hin]
 have hrl:(if fm T i then ez T i else [])=ez T i:=if_pos hin
 have hz':=HD hz
 have hk':=HD hk
 have hmu':=HD hmu
 have hrl':=HD hrl
 have hS:St w0 bs w (Ea++((⟨b,cW z m pc pp ps v,211,true⟩::(Ec++(Ep++(Es++(Ev++xs.map ce)))))++H2)):=(by simp only[aP];exact hS.p)
 have hT2' : ∀ Ec2,CA pc (iW M.k i) Ec2->MA z m bz (some ⟨b,0,none⟩) { M with k:=iW M.k i } (⟨b,cW z m pc pp ps v,211,true⟩::(Ec2++(Ep++(Es++(Ev++xs.map ce))))):=fun Ec2 hC2=>⟨b,pc,pp,ps,S,v,xs,Ec2,Ep,Es,Ev,rfl,hC2,hK,hSt,hok,hV,hxl,hxw,hfl,by show(iW M.k i).2.1=m;unfold iW;split <;> exact hm,rfl⟩
 have hp2:(iW M.k i).1=M.k.1:=by unfold iW;split <;> rfl
 clear hz hk hmu hrl hin
 cases hv:yN M.k i with
 | false=>
  cases hsk:mM M.k.1 with
  | false=>
   have he:zp M.k=8:=by unfold zp;rw[hsk];rfl
   have hv':=HD hv
   have he':=HD he
   clear hv he hsk
   go_enter func199,ntmps199
   go_wp2_with (first|go_at_call 275;refine eq hS hA hT hz'.out hk'.out ?_;clear hS;intro w hS;simp only[bX] at hS;unfold ab|go_at_call 276;refine l4 hS hC i (by omega) false 8 rfl hv'.out he'.out ?_;clear hS;intro Ec2 w hC2 hS;unfold ab|refine af rfl hS ?_)
   exact hR { M with k:=iW M.k i } _ _ _ _ rfl rfl (Up.refl _) (fun h=>by rw[hv'.out] at h;cases h) (hT2' Ec2 hC2) (by simp only[aP];exact hS.p)
  | true=>
   have he:zp M.k=0:=by unfold zp;rw[hsk];rfl
   have hv':=HD hv
   have he':=HD he
   clear hv he hsk
   go_enter func199,ntmps199
   go_wp2_with (first|go_at_call 275;refine eq hS hA hT hz'.out hk'.out ?_;clear hS;intro w hS;simp only[bX] at hS;unfold ab|go_at_call 276;refine l4 hS hC i (by omega) false 0 rfl hv'.out he'.out ?_;clear hS;intro Ec2 w hC2 hS;unfold ab|refine af rfl hS ?_)
   exact hR { M with k:=iW M.k i } _ _ _ _ rfl rfl (Up.refl _) (fun h=>by rw[hv'.out] at h;cases h) (hT2' Ec2 hC2) (by simp only[aP];exact hS.p)
 | true=>
  have hsk:mM M.k.1=true:=by unfold yN at hv;simp only[Bool.and_eq_true] at hv;exact hv.1
  have he:zp M.k=0:=by unfold zp;rw[hsk];rfl
  have hv':=HD hv
  have he':=HD he
  have hsk':=HD hsk
  clear hv he hsk
  by_cases h2:M.k.1=2
  ·have hp3:(iW M.k i).1=2:=hp2.trans h2
   have dq:(((iW M.k i).1:Int) == 2)=true:=by rw[hp3];rfl
   have dq' : decide ((iW M.k i).1=2)=true:=decide_eq_true hp3
   have dq2:decide (((iW M.k i).1:Int)=2)=true:=by rw[hp3];rfl
   have h2':=HD h2
   clear hp2 hp3 h2
   go_enter func199,ntmps199
   go_wp2_with (first|go_at_call 275;refine eq hS hA hT hz'.out hk'.out ?_;clear hS;intro w hS;simp only[bX] at hS;unfold ab|(go_at_call 276;refine l4 hS hC i (by omega) true 0 rfl hv'.out he'.out ?_;clear hS;intro Ec2 w hC2 hS;have hT2:=hT2' Ec2 hC2;unfold ab)|go_at_call 119;refine db hS hC2 ?_;clear hS;intro w _ hS;unfold ab|(go_at_call 203;refine od hS hA i 0 hrl'.out hmu'.out ?_;clear hS;intro vs Er w _ hRS hS;have hone2:=hRS.one;have hS:St w0 bs w (Er++(Ea++((⟨b,cW z m pc pp ps v,211,true⟩::(Ec2++(Ep++(Es++(Ev++xs.map ce)))))++H2))):=(by simp only[aP];exact hS.p);unfold ab)|go_at_call 277;refine kW hS hA hT2 ?_;clear hS;intro bh bm ph Eh w hH hS;unfold ab|go_at_call 348;refine tH (H3:=Ea++H2) hS.p hRS h32 hH hT2 ?_;clear hS;intro M1 E1 w hSh hT3 hS;unfold ab|refine af rfl hS ?_)
   exact hR M1 _ _ _ _ hSh.k hSh.bf hSh.up (fun _ _ r hr hh hz=>hSh.at' r hr hh hz) hT3 hS.p
  ·have hp3:(iW M.k i).1≠2:=by rw[hp2];exact h2
   have dq:(((iW M.k i).1:Int) == 2)=false:=beq_eq_false_iff_ne.2 (by omega)
   have dq' : decide ((iW M.k i).1=2)=false:=decide_eq_false hp3
   have dq2:decide (((iW M.k i).1:Int)=2)=false:=DF
   have h2':=HD h2
   clear hp2 hp3 h2
   go_enter func199,ntmps199
   go_wp2_with (first|go_at_call 275;refine eq hS hA hT hz'.out hk'.out ?_;clear hS;intro w hS;simp only[bX] at hS;unfold ab|(go_at_call 276;refine l4 hS hC i (by omega) true 0 rfl hv'.out he'.out ?_;clear hS;intro Ec2 w hC2 hS;have hT2:=hT2' Ec2 hC2;unfold ab)|go_at_call 119;refine db hS hC2 ?_;clear hS;intro w _ hS;unfold ab|refine af rfl hS ?_)
   exact hR { M with k:=iW M.k i } _ _ _ _ rfl rfl (Up.refl _) (fun _ h=>absurd h h2'.out) hT2 (by simp only[aP];exact hS.p)
end
open Go.RowKit Go.Mm
def kE (z nx c:Nat):Array Value:=#[.int .i64 z,.int .i64 nx,.int .i64 c]
def SP (p:Option Addr)(z nx:Nat)(E:List Ent):Prop:=∃ b c,p=some ⟨b,0,none⟩∧c≤256∧c≤nx∧1≤z∧z≤256∧nx≤z∧E=[⟨b,kE z nx c,224,true⟩]
instance Id:AggT prog 222 1:=⟨by kernel_rfl,by kernel_rfl⟩
instance Ic:BuildT prog 222 [] #[.int .i64 0]:=⟨fun w=>by kernel_rfl⟩
instance In {z n:Nat} : BuildT prog 224 [(0,.int .i64 z),(1,.int .i64 n)] (kE z n 0):=⟨fun w=>by kernel_rfl⟩
section
variable {z nx c:Nat}
instance Pw:CellAt (kE z nx c) 0 (.int .i64 z):=⟨rfl⟩
instance Pv:CellAt (kE z nx c) (0+1) (.int .i64 nx):=⟨rfl⟩
instance Pu:CellAt (kE z nx c) (0+2) (.int .i64 c):=⟨rfl⟩
instance It {k:Nat} : SetAt (kE z nx c) (0+1) (.int .i64 ((k:Int)+1)) (kE z (k+1) c):=⟨rfl,by simp [kE]⟩
instance Ir {k:Nat} : SetAt (kE z nx c) (0+2) (.int .i64 ((k:Int)+1)) (kE z nx (k+1)):=⟨rfl,by simp [kE]⟩
end
theorem lm {b z nx c:Nat}(hO:St w0 bs w H)[hH:Has H b (kE z nx c) 224](hz:1≤z)(hR:∀ w',St w0 bs w' H->ab R (.bool true) w'):Calls prog 399 #[.pointer (some ⟨b,0,none⟩)] w R:=by
 have hS:=hO
 clear hO
 have d:decide (0<(z:Int))=true:=DT
 have d2:decide (0<z)=true:=DT
 go_enter func399,ntmps399
 go_wp2_with (refine af rfl hS ?_)
 exact hR _ hS
theorem zT {z:Nat}(hO:St w0 bs w H)(hz:1≤z∧z≤256)(hR:∀ p E w',SP p z z E->St w0 bs w' (E++H)->ab R (.tuple #[.pointer p,.int .i64 0]) w'):Calls prog 44 #[.int .i64 z] w R:=by
 have hS:=hO
 clear hO
 have d:decide ((z:Int)<1)=false:=DF
 have d2:decide (z<1)=false:=DF
 have d3:decide (256<(z:Int))=false:=DF
 have d4:decide (256<z)=false:=DF
 go_enter func44,ntmps44
 go_wp2_with (first|refine am 224 rfl hS ?_;clear hS;intro b w _ hS|refine aL rfl ?_)
 exact hR _ _ _ ⟨b,0,rfl,by omega,by omega,hz.1,hz.2,Nat.le_refl _,rfl⟩ hS
section
variable {z nx m bz:Nat}{p pa pm:Option Addr}{M:Mk}{T:Ar}
theorem tA (hO:St w0 bs w H)(hT:SP p z nx E)[hc:Cut H E H1](hR:∀ E' w',SP p z 0 E'->St w0 bs w' (E'++H1)->ab R (.int .i64 0) w'):Calls prog 362 #[.pointer p] w R:=by
 have hS:=hO.fr E H1
 clear hO
 obtain⟨b,c,rfl,hc256,hcn,hz1,hz256,hnz,rfl⟩:=id hT
 simp only[cq] at hS
 have s1:SetAt (kE z nx c) (0+1) (.int .i64 0) (kE z 0 c):=⟨rfl,by simp[kE]⟩
 have s2:SetsAt (kE z 0 c) (0+2) #[.int .i64 0] (kE z 0 0):=⟨rfl,by simp[kE]⟩
 go_enter func362,ntmps362
 go_wp2_with (first|go_at_call 399;refine lm hS hz1 ?_;clear hS;intro w hS;unfold ab|refine aL rfl ?_|(first|refine bP rfl hS ?_|refine ak rfl hS ?_);clear hS;intro w hS)
 exact hR _ _ ⟨b,0,rfl,by omega,by omega,hz1,hz256,by omega,rfl⟩ hS
theorem ln (hO:St w0 bs w H)(hT:SP p z nx E)[hc:Cut H E H1](x:Bool)(hx:decide (nx=z)=x)(hR:∀ w',St w0 bs w' (E++H1)->ab R (.bool x) w'):Calls prog 364 #[.pointer p] w R:=by
 have hS:=hO.fr E H1
 clear hO
 obtain⟨b,c,rfl,hc256,hcn,hz1,hz256,hnz,rfl⟩:=id hT
 simp only[cq] at hS
 have d1:((nx:Int) == (z:Int))=x:=by rw[← hx];by_cases h:nx=z <;> simp[h];omega
 have d2:decide ((nx:Int)=(z:Int))=x:=by rw[← hx];congr 1;apply propext;omega
 go_enter func364,ntmps364
 go_wp2_with (refine av hS (fun hne=>?_);(repeat (go_big_quiet_want;first|(refine cU 399 [_] rfl ae (.bool true) (fun w hw=>lm (bk w hw) hz1 (fun w' h2=>⟨rfl,⟨w',h2.p⟩,rfl⟩)) ?_;go_big_quiet_on)|((refine aE bk (fun w hS=>ac _ _ rfl hS) ?_);go_big_quiet_on)|(go_big_quiet_op;go_big_quiet_on)));refine wpQuiet_nil ?_;clear hS hne;intro w hS)
 exact hR _ hS
theorem wA {b c:Nat}(hO:St w0 bs w (⟨b,kE z nx c,224,true⟩::H))(hcc:c≤256)(hR:∀ w',St w0 bs w' (⟨b,kE z nx (c+1),224,true⟩::H)->ab R (.tuple #[]) w'):Calls prog 405 #[.pointer (some ⟨b,0+2,none⟩)] w R:=by
 have hS:=hO
 clear hO
 have b1:(c:Int)≤256:=by omega
 go_enter func405,ntmps405
 go_wp2_with (first|refine af rfl hS ?_|refine bP rfl hS ?_;clear hS;intro w hS)
 refine bodyPost_end (results_none rfl _ _ _) rfl ?_
 exact hR _ hS
def AR (z:Nat)(s:Int):Int:=if 0≤s∧s<z then 0 else 3
def zd (M:Mk)(z:Nat)(s:Int):Bool:=if 0≤s∧s<z then decide (M.L.getD s.toNat 0≠0) else false
theorem dH (hO:St w0 bs w H)(hT:MA z m bz p M E)[hc:Cut H E H1](s:Int)(hR:∀ w',St w0 bs w' (E++H1)->ab R (.tuple #[.bool (zd M z s),.int .i64 (AR z s)]) w'):Calls prog 390 #[.pointer p,.int .i64 s] w R:=by
 unfold zd AR at hR
 by_cases h:0≤s∧s<z
 ·rw[if_pos h,if_pos h] at hR
  obtain⟨i,rfl⟩:∃ i:Nat,s=i:=⟨s.toNat,by omega⟩
  rw[Int.toNat_natCast] at hR
  exact rV hO hT i (by omega) rfl hR
 ·rw[if_neg h,if_neg h] at hR
  exact pe hO hT s h hR
theorem tz (hO:St w0 bs w H)(hT:SP p z nx E)(hA:AA pa T Ea)(hM:MA z m bz pm M E2)[hc:Cut H E H1][hd:Cut H1 Ea H2][he:Cut H2 E2 H3](hz:T.1.length=z)(h5:M.k.1=5)(hnx:nx<z)
  (hR:∀ w',St w0 bs w' (E++(Ea++(E2++H3)))->ab R (.int .i64 0) w'):Calls prog 400 #[.pointer p,.pointer pa,.pointer pm] w R:=by
 have hS:=hO.fr E H1
 have hS:St w0 bs w (E++(Ea++(E2++H3))):=hS.p
 clear hO
 obtain⟨b,c,rfl,hc256,hcn,hz1,hz256,hnz,rfl⟩:=id hT
 simp only[cq] at hS
 have d1:((z:Int) == 0)=false:=beq_eq_false_iff_ne.2 (by omega)
 have d2:decide ((z:Int)=0)=false:=DF
 have d3:decide (z=0)=false:=DF
 have e0:AR z 0=0:=if_pos (by omega)
 have e1:AR z ((z:Int) - 1)=0:=if_pos (by omega)
 have e2:AR z (z:Int)=3:=if_neg (by omega)
 have hz':=HD hz
 have h5':=HD h5
 have hdn':=HD (show decide (nx=z)=false from DF)
 have hzm:(z:Int)≤256:=by omega
 have hzi:(z:Int) ≥ 1:=by omega
 clear hz h5
 go_enter func400,ntmps400
 go_wp2_with (first|go_at_call 399;refine lm hS hz1 ?_;clear hS;intro w hS;unfold ab|go_at_call 229;refine kx hS hA z _ hz'.out rfl ?_;clear hS;intro w _ hS;unfold ab|go_at_call 390;refine dH hS hM _ ?_;clear hS;intro w hS;unfold ab|go_at_call 364;refine ln hS hT false hdn'.out ?_;clear hS;intro w hS;simp only[cq] at hS;unfold ab|go_at_call 231;refine ep hS hM ?_;rw[h5'.out];clear hS;intro w hS;unfold ab|refine af rfl hS ?_)
 exact hR _ (by simp only[aP];exact hS.p)
instance FQ:ScalarT prog 3:=⟨by kernel_rfl,by kernel_rfl⟩
theorem yT {bc:Nat}{nx:Nat}(hO:St w0 bs w H)[hH:Has H bc #[.int .i64 nx] 3](s g:Int)(x:Bool)(hx:decide (s=nx)=x)(hR:∀ w',St w0 bs w' H->ab R (.bool x) w'):Calls prog 402 #[.agg #[.int .i64 s,.int .u32 g],.pointer (some ⟨bc,0,none⟩)] w R:=by
 have hS:=hO
 clear hO
 have d1:(s == (nx:Int))=x:=by rw[← hx];by_cases h:s=nx <;> simp[h]
 go_enter func402,ntmps402
 go_wp2_with (first|refine am 176 rfl hS ?_;clear hS;intro br w _ hS|refine af rfl hS ?_)
 exact hR _ hS.weak
theorem te {bc:Nat}{nx:Nat}{v:Value}{l:List Rg}(hO:St w0 bs w (Er++(⟨bc,#[.int .i64 nx],3,true⟩::H)))(hRS:RS v l Er)(hl:l.length≤300)
  (hR:∀ (r:Int) w',(r=-1∧l.find? (fun x=>decide (x.1=(nx:Int)))=none∨∃ (i:Nat) (g:Int),r=i∧i<l.length∧l.getD i (0,0)=((nx:Int),g)∧l.find? (fun x=>decide (x.1=(nx:Int)))=some ((nx:Int),g))->St w0 bs w' (Er++(⟨bc,#[.int .i64 nx],3,true⟩::H))->ab R (.int .i64 r) w'):Calls prog 401 #[v,.func (.func 402) #[] #[.pointer (some ⟨bc,0,none⟩)]] w R:=by
 have hS0:=hO
 clear hO
 have hone0:=hRS.one
 have hln:=hRS.len rfl
 have hS:=hS0
 clear hS0
 go_enter func401,ntmps401
 go_wp2_with (refine wV (.call { callee:=.builtin .len,args:=#[_],argTypes:=#[_] }) rfl (aA rfl) ?_)
 have hS0:=hS
 clear hS
 go_loopw [8] (fun u wr=>∃ (k:Nat),k≤l.length∧u=.int .i64 k∧(l.take k).find? (fun x=>decide (x.1=(nx:Int)))=none∧St w0 bs wr (Er++(⟨bc,#[.int .i64 nx],3,true⟩::H))) (fun u _=>l.length - (intOf u).toNat)
 case atStart=>exact⟨0,Nat.zero_le _,rfl,rfl,hS0⟩
 case round=>
  clear hS0
  obtain⟨k,hk,rfl,hfd,hS⟩:=hrel
  have hfd':=HD hfd
  clear hfd
  by_cases hlt:k<l.length
  ·obtain⟨⟨s,g⟩,hx⟩:∃ x,l.getD k (0,0)=x:=⟨_,rfl⟩
   obtain⟨gx,sp,ix,hh,hcx⟩:=hRS.at hlt hx
   have ix:=ix k rfl
   simp only at hcx
   have dk:decide ((k:Int)<(l.length:Int))=true:=DT
   have dk' : decide (k<l.length)=true:=decide_eq_true hlt
   have hk300:(k:Int)≤300:=by omega
   have hx':=HD hx
   clear hx
   cases hq:decide (s=(nx:Int)) with
   | true=>
    have hq':=HD hq
    clear hq
    go_wp2_with (first|go_at_call 402;refine yT hS s g true hq'.out ?_;clear hS;intro w hS;unfold ab|refine aM rfl ?_|refine au rfl hS ?_)
    obtain rfl:s=(nx:Int):=of_decide_eq_true hq'.out
    refine hR _ _ (.inr ⟨k,g,rfl,hlt,hx'.out,?_⟩) hS
    have e:l=l.take k++(((nx:Int),g)::l.drop (k+1)):=by
     have h1:=hx'.out
     rw[List.getD_eq_getElem?_getD,List.getElem?_eq_getElem hlt] at h1
     simp only[Option.getD_some] at h1
     rw[← h1,← List.drop_eq_getElem_cons hlt,List.take_append_drop]
    rw[e,List.find?_append,hfd'.out]
    simp
   | false=>
    have hq':=HD hq
    clear hq
    go_wp2_with (first|go_at_call 402;refine yT hS s g false hq'.out ?_;clear hS;intro w hS;unfold ab|refine aM rfl ?_|refine au rfl hS ?_)
    go_roundw
    case rel=>
     refine⟨k+1,by omega,by go_num,?_,hS⟩
     have h1:=hx'.out
     rw[List.getD_eq_getElem?_getD,List.getElem?_eq_getElem hlt] at h1
     simp only[Option.getD_some] at h1
     rw[List.take_add_one,List.getElem?_eq_getElem hlt,h1,List.find?_append,hfd'.out]
     simpa using of_decide_eq_false hq'.out
    case measure=>simp[intOf];omega
  ·obtain rfl:k=l.length:=by omega
   have hfd2:=hfd'.out
   rw[List.take_length] at hfd2
   have hfd3:=HD hfd2
   clear hfd2
   have dk:decide ((l.length:Int)<(l.length:Int))=false:=DF
   have dk' : decide (l.length<l.length)=false:=DF
   go_wp2_with (go_skip)
   exact hR _ _ (.inl ⟨rfl,hfd3.out⟩) hS
theorem dj {P:Program}{fn:Func}{p q r:Tmp}{t:TypeId}(h:fn.results=#[.cell p t,.tmp q,.tmp r]){tmps:List Value}{b:Nat}{u v:Value}[hp:Nth tmps p (.pointer (some ⟨b,0,none⟩))][hq:Nth tmps q u][hr:Nth tmps r v]
  {w0 w:World} {bs:List Nat} {H:List Ent} (hS:St w0 bs w H) {x:Value} [hv:LoadV P H t b 0 x] : (results fn tmps.toArray).run P w=.ok (.tuple #[x,u,v]) w:=by
 have h1:tmps[p]?.getD undef=.pointer (some ⟨b,0,none⟩):=by simp[hp.h]
 have h2:tmps[q]?.getD undef=u:=by simp[hq.h]
 have h3:tmps[r]?.getD undef=v:=by simp[hr.h]
 simp[results,h,h1,h2,h3,asAddr,hv.h _ _ _ hS]
def oH (T:Ar)(M:Mk)(nx:Nat):Option Rg:=if M.L.getD nx 0≠0 then none else (jr (some (some T.1))).find? (fun x=>decide (x.1=(nx:Int)))
def vP (T:Ar)(M:Mk)(nx:Nat):Ar:=match oH T M nx with
 | none=>T
 | some r=>DE T r.1 r.2
def pV (T:Ar)(M:Mk)(nx:Nat):Mk:=match oH T M nx with
 | none=>M
 | some _=>{ M with L:=M.L.set nx 0 }
theorem wz (hO:St w0 bs w H)(hT:SP p z nx E)(hA:AA pa T Ea)(hM:MA z m bz pm M E2)[hc:Cut H E H1][hd:Cut H1 Ea H2][he:Cut H2 E2 H3](hz:T.1.length=z)(h5:M.k.1=5)(hnx:nx<z)(h300:(jr (some (some T.1))).length≤300)(hwi:∀ r∈jr (some (some T.1)),eJ (some (some T.1)) r.1 r.2=0)
  (hR:∀ E' Ea' E2' w',SP p z (nx+1) E'->AA pa (vP T M nx) Ea'->MA z m bz pm (pV T M nx) E2'->St w0 bs w' (E'++(Ea'++(E2'++H3)))->ab R (.tuple #[.agg #[.int .i64 ((oH T M nx).getD (0,0)).1,.int .u32 ((oH T M nx).getD (0,0)).2],.bool (oH T M nx).isSome,.int .i64 0]) w'):Calls prog 363 #[.pointer p,.pointer pa,.pointer pm] w R:=by
 have hS:=hO.fr E H1
 have hS:St w0 bs w (E++(Ea++(E2++H3))):=hS.p
 clear hO
 obtain⟨b,c,rfl,hc256,hcn,hz1,hz256,hnz,rfl⟩:=id hT
 simp only[cq] at hS
 have hz':=HD hz
 have h5':=HD h5
 obtain⟨l,hl⟩:∃ l,jr (some (some T.1))=l:=⟨_,rfl⟩
 rw[hl] at h300 hwi
 have hl':=HD hl
 have bn:(nx:Int)≤256:=by omega
 have hT1:∀ c',c'≤256->c'≤nx+1->SP (some ⟨b,0,none⟩) z (nx+1) [⟨b,kE z (nx+1) c',224,true⟩]:=fun c' h1 h2=>⟨b,c',rfl,h1,h2,hz1,hz256,by omega,rfl⟩
 have hx0:=HD (show zd M z nx=decide (M.L.getD nx 0≠0) by unfold zd;rw[if_pos (by omega),Int.toNat_natCast])
 clear hz h5 hl
 go_enter func363,ntmps363
 go_wp2_with (first|refine aq (o:=⟨some 6,_,_,_,_,_⟩) 176 rfl hS ?_;clear hS;intro b6 w _ hS|refine aq 3 rfl hS ?_;clear hS;intro b10 w _ hS|go_at_call 400;refine tz hS hT hA hM hz'.out h5'.out hnx ?_;clear hS;intro w hS;simp only[cq] at hS;unfold ab|go_at_call 204;refine il hS hA ?_;clear hS;intro ph Eh w _ hH hS;unfold ab|(go_at_call 391;refine px hS hH l hl'.out ?_;clear hS;intro vl El w hRS hS;have hone0:=hRS.one;have hln:=hRS.len rfl;unfold ab)|refine af rfl hS ?_|refine bP rfl hS ?_;clear hS;intro w hS)
 obtain⟨x,hx⟩:∃ x,zd M z nx=x:=⟨_,rfl⟩
 have hx':=HD hx
 refine te (Er:=El) (bc:=b10) (show St w0 bs w (El++(⟨b10,#[.int .i64 nx],3,true⟩::⟨b,kE z (nx+1) c,224,true⟩::(Ea++(E2++(⟨b6,#[.int .i64 0,.int .u32 0],176,true⟩::H3))))) from hS.p) hRS h300 ?_
 clear hS
 intro r w hr hS
 unfold ab
 have hx1:=hx0.out
 rw[hx] at hx1
 cases x with
 | true=>
  have hsw:oH T M nx=none:=by unfold oH;rw[if_pos (by simpa using hx1.symm)]
  simp only[vP,pV,hsw] at hR
  clear hx hx1 hsw hr
  go_wp2_with (first|go_at_call 390;refine dH hS hM nx ?_;rw[hx'.out];clear hS;intro w hS;unfold ab|refine aL rfl ?_|refine af rfl hS ?_|refine ak rfl hS ?_;clear hS;intro w hS)
  refine bodyPost_ret (dj rfl hS) rfl ?_
  exact hR _ _ _ _ (hT1 c hc256 (by omega)) hA hM hS.p
 | false=>
  have hsw:oH T M nx=l.find? (fun x=>decide (x.1=(nx:Int))):=by unfold oH;rw[if_neg (by simpa using hx1.symm),hl'.out]
  clear hx hx1
  rcases hr with ⟨rfl,hfd⟩|⟨i,g,rfl,hi,hxx,hfd⟩
  ·rw[hfd] at hsw
   simp only[vP,pV,hsw] at hR
   clear hsw hfd
   go_wp2_with (first|go_at_call 390;refine dH hS hM nx ?_;rw[hx'.out];clear hS;intro w hS;unfold ab|refine aL rfl ?_|refine af rfl hS ?_|refine ak rfl hS ?_;clear hS;intro w hS)
   refine bodyPost_ret (dj rfl hS) rfl ?_
   exact hR _ _ _ _ (hT1 c hc256 (by omega)) hA hM hS.p
  ·rw[hfd] at hsw
   simp only[vP,pV,hsw] at hR
   have hmem:((nx:Int),g)∈l:=by rw[← hxx,List.getD_eq_getElem?_getD,List.getElem?_eq_getElem hi];exact List.getElem_mem hi
   have hw0:=hwi _ hmem
   obtain⟨gx,sp,ix,hh,hcx⟩:=hRS.at hi hxx
   have ix:=ix i rfl
   simp only at hcx hw0
   have di:decide ((i:Int)<0)=false:=DF
   have hi300:(i:Int)≤300:=by omega
   have hw0':=HD hw0
   clear hw0 hmem hxx hi hsw hfd
   go_wp2_with (first|go_at_call 390;refine dH hS hM nx ?_;rw[hx'.out];clear hS;intro w hS;unfold ab|go_at_call 403;refine yH hS hA nx g 0 rfl hw0'.out ?_;clear hS;intro Ea2 w hA2 hS;unfold ab|go_at_call 404;refine uN hS hM nx hnx ?_;clear hS;intro E3 w hM3 hS;unfold ab|go_at_call 405;refine wA (b:=b) (z:=z) (nx:=nx+1) (c:=c) (H:=El++(Ea2++(E3++(⟨b6,#[.int .i64 0,.int .u32 0],176,true⟩::H3)))) hS.p hc256 ?_;clear hS;intro w hS;unfold ab|refine aM rfl ?_|(first|refine af rfl hS ?_|refine au rfl hS ?_)|refine ak rfl hS ?_;clear hS;intro w hS)
   refine bodyPost_ret (dj rfl hS) rfl ?_
   exact hR _ _ _ _ (hT1 (c+1) (by omega) (by omega)) hA2 hM3 hS.p
end
end Go.Proofs.YtnbgljbhkeffkaaGreatDoor
