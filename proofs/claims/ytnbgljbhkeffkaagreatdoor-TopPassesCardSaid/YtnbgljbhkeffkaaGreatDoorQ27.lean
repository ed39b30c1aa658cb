/-
  Contracts of what the law TopPasses reaches, part 27: Rfq.
-/
import Derived.Test.YtnbgljbhkeffkaaGreatDoorQ24
import Derived.Test.YtnbgljbhkeffkaaGreatDoorQ25
open Go.Proofs.Tryz
set_option linter.unusedVariables false
set_option linter.unusedSimpArgs false
set_option maxHeartbeats 4000000
set_option maxRecDepth 100000
namespace Go.Proofs.YtnbgljbhkeffkaaGreatDoor
open Go.RowKit Go.Mm
variable {R:Ending->World->Prop}{w W:World}{w0:World}{As bs:List Nat}{H H' H1 H2 H3 E E' E1 E2 Ea Eh Er:List Ent}
variable {Ms Ms1 Ms2 Ms3 Ms4 Ms5:dF}
def lB (a b c:Nat):Array Value:=#[.pointer (some ⟨a,0,none⟩),.pointer (some ⟨b,0,none⟩),.pointer (some ⟨c,0,none⟩),.int .i64 256]
instance IK:ScalarT prog 64:=⟨by kernel_rfl,by kernel_rfl⟩
instance Gb {x y z:Option Addr} : BuildT prog 140 [(0,.pointer x),(1,.pointer y),(2,.pointer z)] #[.pointer x,.pointer y,.pointer z]:=⟨fun w=>by kernel_rfl⟩
instance IL {a b c:Nat} : BuildT prog 142 [(0,.agg #[.pointer (some ⟨a,0,none⟩),.pointer (some ⟨b,0,none⟩),.pointer (some ⟨c,0,none⟩)]),(1,.int .i64 256)] (lB a b c):=⟨fun w=>by kernel_rfl⟩
section
variable {a b c:Nat}
instance M7:CellAt (lB a b c) 0 (.pointer (some ⟨a,0,none⟩)):=⟨rfl⟩
instance M6:CellAt (lB a b c) (0+1) (.pointer (some ⟨b,0,none⟩)):=⟨rfl⟩
instance M5:CellAt (lB a b c) (0+2) (.pointer (some ⟨c,0,none⟩)):=⟨rfl⟩
instance M4:CellAt (lB a b c) (0+3) (.int .i64 256):=⟨rfl⟩
end
def RQ (p:Option Addr)(mo mb mc:Nat)(q:Int)(E:List Ent):Prop:=∃ b b1 b2 b3,p=some ⟨b,0,none⟩∧1≤q∧q≤64 ∧
 E=[⟨b,lB b1 b2 b3,142,true⟩,⟨b1,gD 256 (some mo) (some mb),228,true⟩,⟨b2,kJ q,231,true⟩,⟨b3,#[.map (some mc)],234,true⟩]
theorem gR {b a1 a2 a3:Nat}(hO:St w0 bs w H)[hH:Has H b (lB a1 a2 a3) 142](hR:∀ w',St w0 bs w' H->ab R (.bool true) w'):Calls prog 232 #[.pointer (some ⟨b,0,none⟩)] w R:=by
 have hS:=hO
 clear hO
 go_enter func232,ntmps232
 go_wp2_with (refine af rfl hS ?_)
 exact hR _ hS
theorem z7 (hB:Mps W As w0 bs Ms)(hO:St w0 bs w H)(q:Int)(hq:1≤q∧q≤64)(hR:∀ p mo mb mc E w0' bs' w',RQ p mo mb mc q E->Mps W As w0' bs' ((mc,[])::(mb,[])::(mo,[])::Ms)->St w0' bs' w' (E++H)->ab R (.tuple #[.pointer p,.int .i64 0]) w'):Calls prog 23 #[.int .i64 256,.int .i64 q] w R:=by
 have hS:=hO
 clear hO
 have d1:decide (q<1)=false:=DF
 have d2:decide (64<q)=false:=DF
 have hq':=HD hq
 clear hq
 go_enter func23,ntmps23
 go_wp2_with (first|go_at_call 45;refine At hB hS 256 (by decide) ?_;clear hB hS;intro p1 mo mb E1 w0' bs' w ⟨b1,e1,_,_,e2⟩ hB hS;subst e1 e2;unfold ab|go_at_call 46;refine Ah hS q hq'.out ?_;clear hS;intro p2 E2 w ⟨b2,e1,_,_,e2⟩ hS;subst e1 e2;unfold ab|go_at_call 47;refine By hB hS ?_;clear hB hS;intro p3 mc E3 w0' bs' w ⟨b3,e1,e2⟩ hB hS;subst e1 e2;unfold ab|refine am 142 rfl hS ?_;clear hS;intro b w _ hS|refine aL rfl ?_)
 exact hR _ _ _ _ _ _ _ _ ⟨b,b1,b2,b3,rfl,hq'.out.1,hq'.out.2,rfl⟩ hB (by(try simp only[aP]);exact hS.p)
section
variable {p:Option Addr}{mo mb mc:Nat}{q:Int}
theorem wN (hO:St w0 bs w H)(hT:RQ p mo mb mc q E)[hc:Cut H E H1](hR:∀ w',St w0 bs w' (E++H1)->ab R (.int .i64 q) w'):Calls prog 161 #[.pointer p] w R:=by
 have hS:=hO.fr E H1
 clear hO
 obtain⟨b,b1,b2,b3,rfl,hq1,hq64,rfl⟩:=id hT
 simp only[cq] at hS
 have hq0:0<q:=by omega
 go_enter func161,ntmps161
 go_wp2_with (first|(first|go_at_call 232;refine gR hS ?_|go_at_call 233;refine xd hS hq0 hq64 ?_);clear hS;intro w hS;unfold ab|refine af rfl hS ?_)
 exact hR _ (by(try simp only[aP]);exact hS.p)
theorem wP (hO:St w0 bs w H)(hT:RQ p mo mb mc q E)[hc:Cut H E H1](hR:∀ w',St w0 bs w' (E++H1)->ab R (.tuple #[.int .i64 0,.bool false]) w'):Calls prog 238 #[.pointer p] w R:=by
 have hS:=hO.fr E H1
 clear hO
 obtain⟨b,b1,b2,b3,rfl,hq1,hq64,rfl⟩:=id hT
 simp only[cq] at hS
 have hq0:0<q:=by omega
 go_enter func238,ntmps238
 go_wp2_with (first|(first|go_at_call 232;refine gR hS ?_|go_at_call 318;refine xe hS hq0 ?_);clear hS;intro w hS;unfold ab|refine af rfl hS ?_)
 exact hR _ (by(try simp only[aP]);exact hS.p)
end
section
variable {b b1 b2 b3 mo mb mc:Nat}{q:Int}{i s g:Int}
theorem tU (hB:Mps W As w0 bs Ms)(hO:St w0 bs w H)[hH:Has H b (lB b1 b2 b3) 142][hH3:Has H b3 #[.map (some mc)] 234](i:Int)(hi:0≤i∧i<256)[hM:MapIn Ms mc []](hR:∀ w',St w0 bs w' H->ab R (.bool true) w'):Calls prog 254 #[.pointer (some ⟨b,0,none⟩),.int .i64 i] w R:=by
 have hS:=hO
 clear hO
 go_enter func254,ntmps254
 go_wp2_with (first|refine aq (o:=⟨some 5,_,_,_,_,_⟩) 451 rfl hS ?_;clear hS;intro b5 w _ hS|go_at_call 332;refine yy hB hS i hi ?_;clear hS;intro w hS;unfold ab|refine af rfl hS ?_|refine ak rfl hS ?_;clear hS;intro w hS)
 exact hR _ hS.p
theorem tT (hB:Mps W As w0 bs Ms)(hO:St w0 bs w H)[hH:Has H b (lB b1 b2 b3) 142][hH3:Has H b3 #[.map (some mc)] 234](i:Int)(hi:0≤i∧i<256)[hM:MapIn Ms mc [(vI i,vI s)]](hR:∀ w',St w0 bs w' H->ab R (.bool false) w'):Calls prog 254 #[.pointer (some ⟨b,0,none⟩),.int .i64 i] w R:=by
 have hS:=hO
 clear hO
 go_enter func254,ntmps254
 go_wp2_with (first|refine aq (o:=⟨some 5,_,_,_,_,_⟩) 451 rfl hS ?_;clear hS;intro b5 w _ hS|go_at_call 332;refine yx (s:=s) hB hS i hi ?_;clear hS;intro w hS;unfold ab|refine af rfl hS ?_|refine ak rfl hS ?_;clear hS;intro w hS)
 exact hR _ hS.p
theorem wO {c3 c4 c5:Nat}(hB:Mps W As w0 bs Ms)(hO:St w0 bs w (⟨c5,#[.int .i64 s,.int .u32 g],176,true⟩::⟨c3,#[.pointer (some ⟨b,0,none⟩)],64,true⟩::⟨c4,#[.int .i64 i],3,true⟩::⟨b,lB b1 b2 b3,142,true⟩::⟨b1,gD 256 (some mo) (some mb),228,true⟩::⟨b2,kJ q,231,true⟩::⟨b3,#[.map (some mc)],234,true⟩::H))(hi:0≤i∧i<256)(hs:0≤s∧s<256)(hg:1≤g)
  [h1:MapIn Ms mb []] [h2:MapIn Ms mc []] [h3:MapIn Ms mo []] [hz1:MapUp Ms mo [] [(vI i,vR 0 0)] Ms1] [hz2:MapUp Ms1 mo [(vI i,vR 0 0)] [(vI i,vR s g)] Ms2] [hz3:MapUp Ms2 mb [] [(vR s g,vI 0)] Ms3] [hz4:MapUp Ms3 mb [(vR s g,vI 0)] [(vR s g,vI i)] Ms4] [h4:MapIn Ms4 mc []] [hz5:MapUp Ms4 mc [] [(vI i,vI 1)] Ms5]
  (hR:∀ w0' bs' w',Mps W As w0' bs' Ms5->St w0' bs' w' (⟨b,lB b1 b2 b3,142,true⟩::⟨b1,gD 256 (some mo) (some mb),228,true⟩::⟨b2,kJ q,231,true⟩::⟨b3,#[.map (some mc)],234,true⟩::H)->ab R (.int .i64 0) w'):Calls prog 292 #[.pointer (some ⟨c5,0,none⟩),.pointer (some ⟨c3,0,none⟩),.pointer (some ⟨c4,0,none⟩)] w R:=by
 have hS:=hO
 clear hO
 have d1:decide (s<0)=false:=DF
 have d2:decide (256≤s)=false:=DF
 have d3:(g == 0)=false:=beq_eq_false_iff_ne.2 (by omega)
 have d4:decide (g=0)=false:=DF
 have hT:PH (some ⟨b1,0,none⟩) 256 mo mb [⟨b1,gD 256 (some mo) (some mb),228,true⟩]:=⟨b1,rfl,by decide,by decide,rfl⟩
 go_enter func292,ntmps292
 go_wp2_with (first|refine av hS (fun hne=>?_);(repeat (go_big_quiet_want;first|(refine cU 234 [_,_] rfl ae (.tuple #[.int .i64 0,.bool false]) (fun w hw=>CW hB (bk w hw) hT s g (fun w' h2=>⟨rfl,⟨w',h2.p⟩,rfl⟩)) ?_;go_big_quiet_on)|((first|refine aE bk (fun w hS=>ac _ _ rfl hS) ?_|refine aE bk (fun w hS=>ai _ _ rfl hS) ?_);go_big_quiet_on)|(refine aH (fun w _=>ah rfl) ?_;go_big_quiet_on)|(go_big_quiet_op;go_big_quiet_on)));refine wpQuiet_nil ?_;clear hS hne;intro w hS|go_at_call 254;refine tU (b1:=b1) (b2:=b2) (b3:=b3) (mc:=mc) hB hS i hi ?_;clear hS;intro w hS;unfold ab|refine aR 7 hS ?_;clear hS;intro w hS;simp only[List.take_succ_cons,List.take_zero,List.drop_succ_cons,List.drop_zero];(repeat (first|(first|refine ax rfl (ac _ _ rfl hS) ?_|refine ax rfl (ai _ _ rfl hS) ?_)|still_step));refine wpStill_nil ?_|refine aR 6 hS ?_;clear hS;intro w hS;simp only[List.take_succ_cons,List.take_zero,List.drop_succ_cons,List.drop_zero];(repeat (first|refine ax rfl (ac _ _ rfl hS) ?_|still_step));refine wpStill_nil ?_|go_at_call 293;refine Au hB hS hT i s g hi hs hg ?_;clear hB hS;intro w0' bs' w hB hS;simp only[cq] at hS;unfold ab|go_at_call 294;refine BA (m:=mc) hB hS i hi ?_;clear hB hS;intro w0' bs' w hB hS;unfold ab|refine af rfl hS ?_)
 exact hR _ _ _ hB (by(try simp only[aP]);exact hS.p)
theorem wQ {c2 c3 c6:Nat}(hB:Mps W As w0 bs Ms)(hO:St w0 bs w (⟨c6,#[.bool false],4,true⟩::⟨c3,#[.int .i64 i],3,true⟩::⟨c2,#[.pointer (some ⟨b,0,none⟩)],64,true⟩::⟨b,lB b1 b2 b3,142,true⟩::⟨b1,gD 256 (some mo) (some mb),228,true⟩::⟨b2,kJ q,231,true⟩::⟨b3,#[.map (some mc)],234,true⟩::H))(hi:0≤i∧i<256)(hq0:0<q)
  [h0:MapIn Ms mc [(vI i,vI 1)]] [h1:MapIn Ms mo [(vI i,vR s g)]] [hz1:MapUp Ms mo [(vI i,vR s g)] [] Ms1] [h3:MapIn Ms1 mb [(vR s g,vI i)]] [hz2:MapUp Ms1 mb [(vR s g,vI i)] [] Ms2] [h4:MapIn Ms2 mc [(vI i,vI 1)]] [hz3:MapUp Ms2 mc [(vI i,vI 1)] [(vI i,vI 3)] Ms3] [h5:MapIn Ms3 mc [(vI i,vI 3)]] [hz4:MapUp Ms3 mc [(vI i,vI 3)] [] Ms4]
  (hR:∀ w0' bs' w',Mps W As w0' bs' Ms4->St w0' bs' w' (⟨c6,#[.bool true],4,true⟩::⟨b,lB b1 b2 b3,142,true⟩::⟨b1,gD 256 (some mo) (some mb),228,true⟩::⟨b2,kJ q,231,true⟩::⟨b3,#[.map (some mc)],234,true⟩::H)->ab R (.int .i64 0) w'):Calls prog 253 #[.pointer (some ⟨c2,0,none⟩),.pointer (some ⟨c3,0,none⟩),.pointer (some ⟨c6,0,none⟩)] w R:=by
 have hS:=hO
 clear hO
 have hT:PH (some ⟨b1,0,none⟩) 256 mo mb [⟨b1,gD 256 (some mo) (some mb),228,true⟩]:=⟨b1,rfl,by decide,by decide,rfl⟩
 go_enter func253,ntmps253
 go_wp2_with (first|go_at_call 254;refine tT (b1:=b1) (b2:=b2) (b3:=b3) (mc:=mc) (s:=1) hB hS i hi ?_;clear hS;intro w hS;unfold ab|refine aR 6 hS ?_;clear hS;intro w hS;simp only[List.take_succ_cons,List.take_zero,List.drop_succ_cons,List.drop_zero];(repeat (first|refine ax rfl (ac _ _ rfl hS) ?_|still_step));refine wpStill_nil ?_|go_at_call 235;refine ug hB hS hT i s g hi ?_;clear hB hS;intro w0' bs' w hB hS;simp only[cq] at hS;unfold ab|go_at_call 255;refine rL (z:=q) hS hq0 i ?_;clear hS;intro w hS;unfold ab|go_at_call 256;refine ss (m:=mc) hB hS i hi ?_;clear hB hS;intro w0' bs' w hB hS;unfold ab|go_at_call 257;refine sr (m:=mc) hB hS i hi ?_;clear hB hS;intro w0' bs' w hB hS;unfold ab|refine af rfl hS ?_|refine bP rfl hS ?_;clear hS;intro w hS)
 exact hR _ _ _ hB (by(try simp only[aP]);exact hS.p)
theorem tR {c3 c4 c5:Nat}(hB:Mps W As w0 bs Ms)(hO:St w0 bs w (⟨c5,#[.int .i64 s,.int .u32 g],176,true⟩::⟨c3,#[.pointer (some ⟨b,0,none⟩)],64,true⟩::⟨c4,#[.int .i64 i],3,true⟩::⟨b,lB b1 b2 b3,142,true⟩::⟨b1,gD 256 (some mo) (some mb),228,true⟩::⟨b2,kJ q,231,true⟩::⟨b3,#[.map (some mc)],234,true⟩::H))(hi:0≤i∧i<256)(hs:0≤s∧s<256)(hg:1≤g)
  [h1:MapIn Ms mb []] [h2:MapIn Ms mc []] [h3:MapIn Ms mo []] [hz1:MapUp Ms mo [] [(vI i,vR 0 0)] Ms1] [hz2:MapUp Ms1 mo [(vI i,vR 0 0)] [(vI i,vR s g)] Ms2] [hz3:MapUp Ms2 mb [] [(vR s g,vI 0)] Ms3] [hz4:MapUp Ms3 mb [(vR s g,vI 0)] [(vR s g,vI i)] Ms4] [h4:MapIn Ms4 mc []] [hz5:MapUp Ms4 mc [] [(vI i,vI 1)] Ms5]
  (hR:∀ w0' bs' w',Mps W As w0' bs' Ms5->St w0' bs' w' (⟨b,lB b1 b2 b3,142,true⟩::⟨b1,gD 256 (some mo) (some mb),228,true⟩::⟨b2,kJ q,231,true⟩::⟨b3,#[.map (some mc)],234,true⟩::H)->ab R (.int .i64 0) w'):Calls prog 252 #[.pointer (some ⟨b,0,none⟩),.int .i64 i,.func (.func 292) #[] #[.pointer (some ⟨c5,0,none⟩),.pointer (some ⟨c3,0,none⟩),.pointer (some ⟨c4,0,none⟩)]] w R:=by
 have hS:=hO
 clear hO
 have d1:decide (i<0)=false:=DF
 have d2:decide (256≤i)=false:=DF
 go_enter func252,ntmps252
 go_wp2_with (first|go_at_call 232;refine gR hS ?_;clear hS;intro w hS;unfold ab|go_at_call 292;refine wO (Ms1:=Ms1) (Ms2:=Ms2) (Ms3:=Ms3) (Ms4:=Ms4) (Ms5:=Ms5) hB hS hi hs hg ?_;clear hB hS;intro w0' bs' w hB hS;unfold ab|refine af rfl hS ?_)
 exact hR _ _ _ hB hS
theorem tS {c2 c3 c6:Nat}(hB:Mps W As w0 bs Ms)(hO:St w0 bs w (⟨c6,#[.bool false],4,true⟩::⟨c3,#[.int .i64 i],3,true⟩::⟨c2,#[.pointer (some ⟨b,0,none⟩)],64,true⟩::⟨b,lB b1 b2 b3,142,true⟩::⟨b1,gD 256 (some mo) (some mb),228,true⟩::⟨b2,kJ q,231,true⟩::⟨b3,#[.map (some mc)],234,true⟩::H))(hi:0≤i∧i<256)(hq0:0<q)
  [h0:MapIn Ms mc [(vI i,vI 1)]] [h1:MapIn Ms mo [(vI i,vR s g)]] [hz1:MapUp Ms mo [(vI i,vR s g)] [] Ms1] [h3:MapIn Ms1 mb [(vR s g,vI i)]] [hz2:MapUp Ms1 mb [(vR s g,vI i)] [] Ms2] [h4:MapIn Ms2 mc [(vI i,vI 1)]] [hz3:MapUp Ms2 mc [(vI i,vI 1)] [(vI i,vI 3)] Ms3] [h5:MapIn Ms3 mc [(vI i,vI 3)]] [hz4:MapUp Ms3 mc [(vI i,vI 3)] [] Ms4]
  (hR:∀ w0' bs' w',Mps W As w0' bs' Ms4->St w0' bs' w' (⟨c6,#[.bool true],4,true⟩::⟨b,lB b1 b2 b3,142,true⟩::⟨b1,gD 256 (some mo) (some mb),228,true⟩::⟨b2,kJ q,231,true⟩::⟨b3,#[.map (some mc)],234,true⟩::H)->ab R (.int .i64 0) w'):Calls prog 252 #[.pointer (some ⟨b,0,none⟩),.int .i64 i,.func (.func 253) #[] #[.pointer (some ⟨c2,0,none⟩),.pointer (some ⟨c3,0,none⟩),.pointer (some ⟨c6,0,none⟩)]] w R:=by
 have hS:=hO
 clear hO
 have d1:decide (i<0)=false:=DF
 have d2:decide (256≤i)=false:=DF
 go_enter func252,ntmps252
 go_wp2_with (first|go_at_call 232;refine gR hS ?_;clear hS;intro w hS;unfold ab|go_at_call 253;refine wQ (s:=s) (g:=g) (Ms1:=Ms1) (Ms2:=Ms2) (Ms3:=Ms3) (Ms4:=Ms4) hB hS hi hq0 ?_;clear hB hS;intro w0' bs' w hB hS;unfold ab|refine af rfl hS ?_)
 exact hR _ _ _ hB hS
end
section
variable {p:Option Addr}{mo mb mc:Nat}{q:Int}
theorem mS (hB:Mps W As w0 bs Ms)(hO:St w0 bs w H)(hT:RQ p mo mb mc q E)[hc:Cut H E H1](i s g:Int)(hi:0≤i∧i<256)(hs:0≤s∧s<256)(hg:1≤g)
  [h1:MapIn Ms mb []] [h2:MapIn Ms mc []] [h3:MapIn Ms mo []] [hz1:MapUp Ms mo [] [(vI i,vR 0 0)] Ms1] [hz2:MapUp Ms1 mo [(vI i,vR 0 0)] [(vI i,vR s g)] Ms2] [hz3:MapUp Ms2 mb [] [(vR s g,vI 0)] Ms3] [hz4:MapUp Ms3 mb [(vR s g,vI 0)] [(vR s g,vI i)] Ms4] [h4:MapIn Ms4 mc []] [hz5:MapUp Ms4 mc [] [(vI i,vI 1)] Ms5]
  (hR:∀ w0' bs' w',Mps W As w0' bs' Ms5->St w0' bs' w' (E++H1)->ab R (.int .i64 0) w'):Calls prog 211 #[.pointer p,.int .i64 i,.agg #[.int .i64 s,.int .u32 g]] w R:=by
 have hS:=hO.fr E H1
 clear hO
 obtain⟨b,b1,b2,b3,rfl,hq1,hq64,rfl⟩:=id hT
 simp only[cq] at hS
 have hq0:0<q:=by omega
 go_enter func211,ntmps211
 go_wp2_with (first|refine am 64 rfl hS ?_;clear hS;intro c3 w _ hS|refine am 3 rfl hS ?_;clear hS;intro c4 w _ hS|refine am 176 rfl hS ?_;clear hS;intro c5 w _ hS|go_at_call 252;refine tR (b:=b) (b1:=b1) (b2:=b2) (b3:=b3) (q:=q) (Ms1:=Ms1) (Ms2:=Ms2) (Ms3:=Ms3) (Ms4:=Ms4) (Ms5:=Ms5) (H:=H1) hB (show St w0 bs _ (⟨c5,#[.int .i64 s,.int .u32 g],176,true⟩::⟨c3,#[.pointer (some ⟨b,0,none⟩)],64,true⟩::⟨c4,#[.int .i64 i],3,true⟩::⟨b,lB b1 b2 b3,142,true⟩::⟨b1,gD 256 (some mo) (some mb),228,true⟩::⟨b2,kJ q,231,true⟩::⟨b3,#[.map (some mc)],234,true⟩::H1) from hS.p) hi hs hg ?_;clear hB hS;intro w0' bs' w hB hS;unfold ab|refine af rfl hS ?_)
 exact hR _ _ _ hB (by(try simp only[aP]);exact hS.p)
theorem rD (hB:Mps W As w0 bs Ms)(hO:St w0 bs w H)(hT:RQ p mo mb mc q E)[hc:Cut H E H1](i s g:Int)(hi:0≤i∧i<256)
  [h0:MapIn Ms mc [(vI i,vI 1)]] [h1:MapIn Ms mo [(vI i,vR s g)]] [hz1:MapUp Ms mo [(vI i,vR s g)] [] Ms1] [h3:MapIn Ms1 mb [(vR s g,vI i)]] [hz2:MapUp Ms1 mb [(vR s g,vI i)] [] Ms2] [h4:MapIn Ms2 mc [(vI i,vI 1)]] [hz3:MapUp Ms2 mc [(vI i,vI 1)] [(vI i,vI 3)] Ms3] [h5:MapIn Ms3 mc [(vI i,vI 3)]] [hz4:MapUp Ms3 mc [(vI i,vI 3)] [] Ms4]
  (hR:∀ w0' bs' w',Mps W As w0' bs' Ms4->St w0' bs' w' (E++H1)->ab R (.tuple #[.bool true,.int .i64 0]) w'):Calls prog 172 #[.pointer p,.int .i64 i] w R:=by
 have hS:=hO.fr E H1
 clear hO
 obtain⟨b,b1,b2,b3,rfl,hq1,hq64,rfl⟩:=id hT
 simp only[cq] at hS
 have hq0:0<q:=by omega
 go_enter func172,ntmps172
 go_wp2_with (first|refine am 64 rfl hS ?_;clear hS;intro c2 w _ hS|refine am 3 rfl hS ?_;clear hS;intro c3 w _ hS|refine aq 4 rfl hS ?_;clear hS;intro c6 w _ hS|go_at_call 252;refine tS (b:=b) (b1:=b1) (b2:=b2) (b3:=b3) (q:=q) (s:=s) (g:=g) (Ms1:=Ms1) (Ms2:=Ms2) (Ms3:=Ms3) (Ms4:=Ms4) (H:=H1) hB (show St w0 bs _ (⟨c6,#[.bool false],4,true⟩::⟨c3,#[.int .i64 i],3,true⟩::⟨c2,#[.pointer (some ⟨b,0,none⟩)],64,true⟩::⟨b,lB b1 b2 b3,142,true⟩::⟨b1,gD 256 (some mo) (some mb),228,true⟩::⟨b2,kJ q,231,true⟩::⟨b3,#[.map (some mc)],234,true⟩::H1) from hS.p) hi hq0 ?_;clear hB hS;intro w0' bs' w hB hS;unfold ab|refine af rfl hS ?_|refine bP rfl hS ?_;clear hS;intro w hS)
 exact hR _ _ _ hB (by(try simp only[aP]);exact hS.p)
end
end Go.Proofs.YtnbgljbhkeffkaaGreatDoor
