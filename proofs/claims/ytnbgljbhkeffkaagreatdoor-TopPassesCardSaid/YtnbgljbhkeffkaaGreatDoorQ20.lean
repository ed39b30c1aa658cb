/-
  Contracts of what the law TopPasses reaches, part 20: Tgs Rsv.
-/
import Derived.Test.YtnbgljbhkeffkaaGreatDoorQ17
import Derived.Laws.RangeString
import Derived.Laws.Runes
import Derived.Laws.Strings
import Derived.LoopTactic
import Derived.Test.YtnbgljbhkeffkaaGreatDoorQ14
import Derived.Test.YtnbgljbhkeffkaaGreatDoorQ09
open Go.Proofs.Tryz
set_option linter.unusedVariables false
set_option linter.unusedSimpArgs false
set_option maxHeartbeats 4000000
set_option maxRecDepth 100000
namespace Go.Proofs.YtnbgljbhkeffkaaGreatDoor
open Go.RowKit Go.Mm
variable {R:Ending->World->Prop}{w W:World}{w0:World}{As bs:List Nat}{H H' H1 H2 H3 E E' E1 E2 Ea Eh Er:List Ent}
structure TagW (s:ByteArray):Prop where
 lo:1≤s.size
 hi:s.size≤24
 pl:∀ i (h:i<s.size),32≤(s[i]'h).toNat∧(s[i]'h).toNat<127
theorem Cs (c:Int)(hc:32≤c∧c<127){w:World}{R:Ending->World->Prop}(hR:R (.returned (.bool true)) w):Calls prog 141 #[.int .i32 c] w R:=by
 have d1:decide (32≤c)=true:=DT
 have d2:(c != 127)=true:=by simp;omega
 have d3:decide (c≠127)=true:=DT
 go_enter func141,ntmps141
 go_wp2
 exact hR
theorem zy {s:ByteArray}(hT:TagW s)(w:World):Calls prog 140 #[.string s,.func (.func 141) #[] #[]] w (fun e w'=>e=.returned (.tuple #[.int .i64 s.size,.bool true])∧∃ pos,w'=w.iter s pos):=by
 have h24:=hT.hi
 have hpl:=HD hT.pl
 clear hT
 go_enter func140,ntmps140
 go_wp2
 go_loopw [6] (fun n w'=>∃ (pos:Nat),pos≤s.size∧w'=w.iter s pos∧n=.int .i64 pos) (fun _ w'=>s.size - w'.iterPos w.heap.size)
 case atStart=>exact⟨0,Nat.zero_le _,rfl,rfl⟩
 case round=>
  obtain⟨pos,hle,rfl,rfl⟩:=hrel
  by_cases hp:pos<s.size
  ·obtain⟨q1,q2⟩:=hpl.out pos hp
   have hdc:=decode_ascii s pos hp (by omega)
   have hnx:∀ ty,(Instr.next (.pointer (some ⟨w.heap.size,0,none⟩)) true ty).run prog (w.iter s pos)=.ok (.tuple #[.bool true,.int .i64 pos,.int .i32 (s[pos]'hp).toNat]) (w.iter s (pos+1)):=fun ty=>by
    have:=run_next_any (P:=prog) w s pos ty hp
    rw[hdc] at this
    exact this
   obtain⟨c,hcc⟩:∃ c:Int,c=(s[pos]'hp).toNat:=⟨_,rfl⟩
   rw[← hcc] at hnx
   have hc:32≤c∧c<127:=by omega
   have d1:(c == 65533)=false:=by simp;omega
   have d2:decide (c=65533)=false:=DF
   have b1:(pos:Int)≤24:=by omega
   clear hcc hdc
   go_wp2_with (go_at_call 141;refine Cs c hc ?_)
   go_roundw
   case rel=>exact⟨pos+1,by omega,rfl,by go_num⟩
   case measure=>simp;omega
  ·have hnx:∀ ty,(Instr.next (.pointer (some ⟨w.heap.size,0,none⟩)) true ty).run prog (w.iter s pos)=_:=fun ty=>run_next_end w s pos ty hp
   obtain rfl:pos=s.size:=by omega
   go_wp2
   (refine bodyPost_ret (gS rfl) rfl ?_;exact⟨rfl,_,rfl⟩)
theorem St.iter (hS:St w0 bs w H)(s:ByteArray)(pos:Nat):St w0 bs (w.iter s pos) H:=by
 have:=hS.nil (Chg.alloc w (.stringIter s pos))
 exact this
theorem gI {s:ByteArray}(hO:St w0 bs w H)(hT:TagW s)(hR:∀ w',St w0 bs w' H->ab R (.int .i64 0) w'):Calls prog 96 #[.string s] w R:=by
 have hS:=hO
 clear hO
 have h1:=hT.lo
 have h24:=hT.hi
 have d1:decide ((96:Int)<(s.size:Int))=false:=DF
 have d2:decide (96<s.size)=false:=DF
 have d3:decide ((s.size:Int)<1)=false:=DF
 have d4:decide (s.size<1)=false:=DF
 have d5:decide ((24:Int)<(s.size:Int))=false:=DF
 have d6:decide (24<s.size)=false:=DF
 go_enter func96,ntmps96
 go_wp2_with (go_at_call 140;refine(zy hT w).mono ?_;rintro e w' ⟨rfl,pos,rfl⟩;replace hS:=St.iter hS s pos)
 exact hR _ hS
open Go.RowKit Go.Mm
def bJ (i g st wy:Int)(s:ByteArray):Array Value:=#[.int .i64 1,.int .i64 i,.int .u32 g,.int .i64 st,.int .i64 wy,.int .i64 0,.int .i64 0,.string s]
instance II:AggT prog 314 8:=⟨by kernel_rfl,by kernel_rfl⟩
instance F9:AggT prog 499 3:=⟨by kernel_rfl,by kernel_rfl⟩
instance F8:AggT prog 500 15:=⟨by kernel_rfl,by kernel_rfl⟩
instance F7:ScalarT prog 9:=⟨by kernel_rfl,by kernel_rfl⟩
instance ED:ScalarT prog 2:=⟨by kernel_rfl,by kernel_rfl⟩
instance IA:ScalarT prog 4:=⟨by kernel_rfl,by kernel_rfl⟩
instance ID {b off:Nat} : FieldAt prog 314 0 b off off:=⟨fun w=>by kernel_rfl⟩
instance IC {b off:Nat} : FieldAt prog 314 1 b off (off+3):=⟨fun w=>by kernel_rfl⟩
instance M3:ZeroT prog 314 #[.int .i64 0,.int .i64 0,.int .u32 0,.int .i64 0,.int .i64 0,.int .i64 0,.int .i64 0,.string { data:=#[] }]:=⟨by kernel_rfl⟩
instance Iz:ZeroT prog 499 #[.string { data:=#[] },.int .i64 0,.bool false]:=⟨by kernel_rfl⟩
instance Iy:ZeroT prog 500 #[.string { data:=#[] },.int .i64 0,.bool false,.string { data:=#[] },.int .i64 0,.bool false,.string { data:=#[] },.int .i64 0,.bool false,.string { data:=#[] },.int .i64 0,.bool false,.string { data:=#[] },.int .i64 0,.bool false]:=⟨by kernel_rfl⟩
instance IH {s:ByteArray}{n:Int}{b:Bool} : BuildT prog 499 [(0,.string s),(1,.int .i64 n),(2,.bool b)] #[.string s,.int .i64 n,.bool b]:=⟨fun w=>by kernel_rfl⟩
instance IG {a b c d:ByteArray}{i j k l:Int}{x y z t:Bool} : BuildT prog 500 [(1,.agg #[.string a,.int .i64 i,.bool x]),(2,.agg #[.string b,.int .i64 j,.bool y]),(3,.agg #[.string c,.int .i64 k,.bool z]),(4,.agg #[.string d,.int .i64 l,.bool t])] #[.string { data:=#[] },.int .i64 0,.bool false,.string a,.int .i64 i,.bool x,.string b,.int .i64 j,.bool y,.string c,.int .i64 k,.bool z,.string d,.int .i64 l,.bool t]:=⟨fun w=>by kernel_rfl⟩
instance IE {i g:Int}{s:ByteArray} : BuildT prog 314 [(0,.agg #[.int .i64 1,.int .i64 i,.int .u32 g]),(1,.int .i64 1),(5,.string s)] (bJ i g 1 0 s):=⟨fun w=>by kernel_rfl⟩
section
variable {i g st wy:Int}{s:ByteArray}
instance yW:OneCells (bJ i g st wy s):=⟨by
 intro v hv
 simp only[bJ,List.mem_cons,List.not_mem_nil,or_false] at hv
 rcases hv with rfl|rfl|rfl|rfl|rfl|rfl|rfl|rfl <;> rfl⟩
instance Ga:SizeIs (bJ i g st wy s) 8:=⟨rfl⟩
instance Py:CellsAt (bJ i g st wy s) 0 3 #[.int .i64 1,.int .i64 i,.int .u32 g]:=⟨fun j hj=>match j,hj with|0,_=>rfl|1,_=>rfl|2,_=>rfl,rfl⟩
instance CO:CellsAt (bJ i g st wy s) 0 8 (bJ i g st wy s):=⟨fun j _=>by rw [Nat.zero_add],rfl⟩
instance M0:CellAt (bJ i g st wy s) (0+3) (.int .i64 st):=⟨rfl⟩
instance MZ:CellAt (bJ i g st wy s) (0+4) (.int .i64 wy):=⟨rfl⟩
instance MY:CellAt (bJ i g st wy s) (0+5) (.int .i64 0):=⟨rfl⟩
instance MX:CellAt (bJ i g st wy s) (0+6) (.int .i64 0):=⟨rfl⟩
instance MW:CellAt (bJ i g st wy s) (0+7) (.string s):=⟨rfl⟩
instance MV {k:Int} : SetAt (bJ i g st wy s) (0+3) (.int .i64 k) (bJ i g k wy s):=⟨rfl,by simp [bJ]⟩
instance MU {k:Int} : SetAt (bJ i g st wy s) (0+4) (.int .i64 k) (bJ i g st k s):=⟨rfl,by simp [bJ]⟩
instance MT:SetAt (bJ i g st wy s) (0+6) (.int .i64 0) (bJ i g st wy s):=⟨rfl,by simp [bJ]⟩
theorem qi {n a b:Int}(x:Bool)(hx:(decide (a≤n) && decide (n≤b))=x)(hO:St w0 bs w H)(hR:∀ w',St w0 bs w' H->ab R (.bool x) w'):Calls prog 336 #[.int .i64 n,.int .i64 a,.int .i64 b] w R:=by
 have hS:=hO
 clear hO
 by_cases h1:a≤n
 ·have d1:decide (a≤n)=true:=decide_eq_true h1
  rw[d1,Bool.true_and] at hx
  subst hx
  go_enter func336,ntmps336
  go_wp2_with (go_skip)
  exact hR _ hS
 ·have d1:decide (a≤n)=false:=decide_eq_false h1
  rw[d1,Bool.false_and] at hx
  subst hx
  go_enter func336,ntmps336
  go_wp2_with (go_skip)
  exact hR _ hS
theorem lA {n:Int}(hn:0≤n∧n≤1099511627776)(hO:St w0 bs w H)(hR:∀ w',St w0 bs w' H->ab R (.bool true) w'):Calls prog 337 #[.int .i64 n] w R:=by
 have hS:=hO
 clear hO
 have hx:=HD (show(decide (0≤n) && decide (n≤1099511627776))=true by simp[hn])
 go_enter func337,ntmps337
 go_wp2_with (go_at_call 336;refine qi true hx.out hS ?_;clear hS;intro w hS;unfold ab)
 exact hR _ hS
theorem kP (hO:St w0 bs w H)(hR:∀ w',St w0 bs w' H->ab R (.agg #[.string { data:=#[] },.int .i64 0,.bool false,.string { data:=#[108,105,118,101] },.int .i64 0,.bool false,.string { data:=#[99,108,111,115,105,110,103] },.int .i64 3,.bool true,.string { data:=#[114,101,108,101,97,115,101,100] },.int .i64 3,.bool false,.string { data:=#[113,117,97,114,97,110,116,105,110,101] },.int .i64 3,.bool false]) w'):Calls prog 387 #[] w R:=by
 have hS:=hO
 clear hO
 go_enter func387,ntmps387
 go_wp2_with (first|refine aq 500 rfl hS ?_;clear hS;intro b0 w _ hS|refine aL rfl ?_|refine ak rfl hS ?_;clear hS;intro w hS)
 refine bodyPost_ret (aI rfl hS) rfl ?_
 exact hR _ hS.weak
end
section
variable {i g:Int}{s:ByteArray}
instance Oh:MinIs (0:Int) (1:Int) (0:Int):=⟨by decide⟩
instance Og:MinIs (3:Int) (1:Int) (1:Int):=⟨by decide⟩
theorem tP (hO:St w0 bs w H)(hi:0≤i∧i<64)(hg:1≤g∧g≤4294967295)(hR:∀ w',St w0 bs w' H->ab R (.bool true) w'):Calls prog 354 #[.agg (bJ i g 1 0 s)] w R:=by
 have hS:=hO
 clear hO
 have ho:=HD (show kT 1 i g=0 by unfold kT;rw[if_pos];simp;omega)
 have hg':=HD (show 0≤g∧g≤4294967295 by omega)
 have hix:IxA prog 500 (.agg #[.string { data:=#[] },.int .i64 0,.bool false,.string { data:=#[108,105,118,101] },.int .i64 0,.bool false,.string { data:=#[99,108,111,115,105,110,103] },.int .i64 3,.bool true,.string { data:=#[114,101,108,101,97,115,101,100] },.int .i64 3,.bool false,.string { data:=#[113,117,97,114,97,110,116,105,110,101] },.int .i64 3,.bool false]) (.int .i64 1) (.agg #[.string { data:=#[108,105,118,101] },.int .i64 0,.bool false]):=⟨fun w=>by kernel_rfl⟩
 go_enter func354,ntmps354
 go_wp2_with (first|refine am 314 rfl hS ?_;clear hS;intro b1 w _ hS|go_at_call 213;refine jT hS 1 i g hg'.out 0 ho.out ?_;clear hS;intro w hS;unfold ab|(first|refine af rfl hS ?_|refine au rfl hS ?_))
 refine ao [⟨(undef,[]),[(4,fun _ x=>∃ b,x=(.pointer (some ⟨b,0,none⟩),[⟨b,#[.string { data:=#[] },.int .i64 0,.bool false],499,true⟩])),(5,fun y x=>∃ b,y.1=.pointer (some ⟨b,0,none⟩)∧x.2=[⟨b,#[.string { data:=#[108,105,118,101] },.int .i64 0,.bool false],499,true⟩])]⟩]
  (⟨b1,bJ i g 1 0 s,314,true⟩::H) (⟨b1,bJ i g 1 0 s,314,true⟩::H) (by simp) hS.p (by kernel_rfl) (by kernel_rfl) ?_
 refine cQ 387 [] rfl (fun _=>rfl) rfl ae (.agg #[.string { data:=#[] },.int .i64 0,.bool false,.string { data:=#[108,105,118,101] },.int .i64 0,.bool false,.string { data:=#[99,108,111,115,105,110,103] },.int .i64 3,.bool true,.string { data:=#[114,101,108,101,97,115,101,100] },.int .i64 3,.bool false,.string { data:=#[113,117,97,114,97,110,116,105,110,101] },.int .i64 3,.bool false]) (fun X w hS=>kP hS (fun w' hS'=>⟨rfl,hS'⟩)) ?_
 (refine fV (fun χ w hw=>ag rfl) ?_)
 (refine fV (fun χ w hw=>ac _ _ rfl hw) ?_)
 refine fV (fun χ w hw=>cD rfl) ?_
 refine ap 0 0 rfl rfl rfl rfl (by kernel_rfl) (fun _=>rfl) (fun x=>x.1) ?_ ?_
 ·intro χ L w _ hS
  exact bE rfl (show St w0 bs w (L++_) from hS) (fun b w' _ hS'=>⟨(_,[_]),rfl,⟨b,rfl⟩,hS'⟩)
 refine ap 0 1 rfl rfl rfl (by kernel_rfl) rfl (fun _=>rfl) (fun _=>undef) ?_ ?_
 ·rintro χ L w ⟨⟨b,hb⟩,_⟩ hS
  have hS:St w0 bs w ((χ 4).2++(L++_)):=hS
  rw[hb] at hS
  have hS:St w0 bs w (⟨b,#[.string { data:=#[] },.int .i64 0,.bool false],499,true⟩::(L++_)):=hS
  have hb1:(χ 4).1=.pointer (some ⟨b,0,none⟩):=by rw[hb]
  exact aZ rfl hS hb1 (fun w' hS'=>⟨(undef,[⟨b,#[.string { data:=#[108,105,118,101] },.int .i64 0,.bool false],499,true⟩]),rfl,⟨b,hb1,rfl⟩,hS'⟩)
 refine bC rfl ?_
 intro χ w hok hS
 obtain⟨⟨bo,hb⟩,⟨bo',hb1,hb2⟩,_⟩:=hok _ (.head _)
 rw[hb] at hb1
 obtain⟨⟩:=hb1
 have hS:St w0 bs w (((χ 5).2++[])++(⟨b1,bJ i g 1 0 s,314,true⟩::H)):=hS
 rw[hb2,List.append_nil] at hS
 simp only[hb]
 simp only[cq] at hS
 clear hok hb2 hb
 go_wp2_with (first|(first|go_at_call 336;refine qi true rfl hS ?_|go_at_call 337;refine lA (by decide) hS ?_);clear hS;intro w hS;unfold ab|refine wV (.call { callee:=.builtin .min,args:=#[_,_],argTypes:=#[_,_] }) rfl (jF rfl) ?_|refine af rfl hS ?_)
 exact hR _ hS.p
theorem tO (hO:St w0 bs w H)(hi:0≤i∧i<64)(hg:1≤g∧g≤4294967295)(hR:∀ w',St w0 bs w' H->ab R (.bool true) w'):Calls prog 354 #[.agg (bJ i g 2 1 s)] w R:=by
 have hS:=hO
 clear hO
 have ho:=HD (show kT 1 i g=0 by unfold kT;rw[if_pos];simp;omega)
 have hg':=HD (show 0≤g∧g≤4294967295 by omega)
 have hix:IxA prog 500 (.agg #[.string { data:=#[] },.int .i64 0,.bool false,.string { data:=#[108,105,118,101] },.int .i64 0,.bool false,.string { data:=#[99,108,111,115,105,110,103] },.int .i64 3,.bool true,.string { data:=#[114,101,108,101,97,115,101,100] },.int .i64 3,.bool false,.string { data:=#[113,117,97,114,97,110,116,105,110,101] },.int .i64 3,.bool false]) (.int .i64 2) (.agg #[.string { data:=#[99,108,111,115,105,110,103] },.int .i64 3,.bool true]):=⟨fun w=>by kernel_rfl⟩
 go_enter func354,ntmps354
 go_wp2_with (first|refine am 314 rfl hS ?_;clear hS;intro b1 w _ hS|go_at_call 213;refine jT hS 1 i g hg'.out 0 ho.out ?_;clear hS;intro w hS;unfold ab|(first|refine af rfl hS ?_|refine au rfl hS ?_))
 refine ao [⟨(undef,[]),[(4,fun _ x=>∃ b,x=(.pointer (some ⟨b,0,none⟩),[⟨b,#[.string { data:=#[] },.int .i64 0,.bool false],499,true⟩])),(5,fun y x=>∃ b,y.1=.pointer (some ⟨b,0,none⟩)∧x.2=[⟨b,#[.string { data:=#[99,108,111,115,105,110,103] },.int .i64 3,.bool true],499,true⟩])]⟩]
  (⟨b1,bJ i g 2 1 s,314,true⟩::H) (⟨b1,bJ i g 2 1 s,314,true⟩::H) (by simp) hS.p (by kernel_rfl) (by kernel_rfl) ?_
 refine cQ 387 [] rfl (fun _=>rfl) rfl ae (.agg #[.string { data:=#[] },.int .i64 0,.bool false,.string { data:=#[108,105,118,101] },.int .i64 0,.bool false,.string { data:=#[99,108,111,115,105,110,103] },.int .i64 3,.bool true,.string { data:=#[114,101,108,101,97,115,101,100] },.int .i64 3,.bool false,.string { data:=#[113,117,97,114,97,110,116,105,110,101] },.int .i64 3,.bool false]) (fun X w hS=>kP hS (fun w' hS'=>⟨rfl,hS'⟩)) ?_
 (refine fV (fun χ w hw=>ag rfl) ?_)
 (refine fV (fun χ w hw=>ac _ _ rfl hw) ?_)
 refine fV (fun χ w hw=>cD rfl) ?_
 refine ap 0 0 rfl rfl rfl rfl (by kernel_rfl) (fun _=>rfl) (fun x=>x.1) ?_ ?_
 ·intro χ L w _ hS
  exact bE rfl (show St w0 bs w (L++_) from hS) (fun b w' _ hS'=>⟨(_,[_]),rfl,⟨b,rfl⟩,hS'⟩)
 refine ap 0 1 rfl rfl rfl (by kernel_rfl) rfl (fun _=>rfl) (fun _=>undef) ?_ ?_
 ·rintro χ L w ⟨⟨b,hb⟩,_⟩ hS
  have hS:St w0 bs w ((χ 4).2++(L++_)):=hS
  rw[hb] at hS
  have hS:St w0 bs w (⟨b,#[.string { data:=#[] },.int .i64 0,.bool false],499,true⟩::(L++_)):=hS
  have hb1:(χ 4).1=.pointer (some ⟨b,0,none⟩):=by rw[hb]
  exact aZ rfl hS hb1 (fun w' hS'=>⟨(undef,[⟨b,#[.string { data:=#[99,108,111,115,105,110,103] },.int .i64 3,.bool true],499,true⟩]),rfl,⟨b,hb1,rfl⟩,hS'⟩)
 refine bC rfl ?_
 intro χ w hok hS
 obtain⟨⟨bo,hb⟩,⟨bo',hb1,hb2⟩,_⟩:=hok _ (.head _)
 rw[hb] at hb1
 obtain⟨⟩:=hb1
 have hS:St w0 bs w (((χ 5).2++[])++(⟨b1,bJ i g 2 1 s,314,true⟩::H)):=hS
 rw[hb2,List.append_nil] at hS
 simp only[hb]
 simp only[cq] at hS
 clear hok hb2 hb
 go_wp2_with (first|go_skip|(first|go_at_call 336;refine qi true rfl hS ?_|go_at_call 337;refine lA (by decide) hS ?_);clear hS;intro w hS;unfold ab|refine wV (.call { callee:=.builtin .min,args:=#[_,_],argTypes:=#[_,_] }) rfl (jF rfl) ?_|refine af rfl hS ?_)
 exact hR _ hS.p
theorem jG (st wy:Int)(hs:(st=1∧wy=0)∨(st=2∧wy=1))(hO:St w0 bs w H)(hi:0≤i∧i<64)(hg:1≤g∧g≤4294967295)(hT:TagW s)(hR:∀ w',St w0 bs w' H->ab R (.int .i64 0) w'):Calls prog 297 #[.agg (bJ i g st wy s)] w R:=by
 have hS:=hO
 clear hO
 have hp:∀ (w:World) (w0:World) (bs:List Nat) (H:List Ent) (R:Ending->World->Prop),St w0 bs w H->(∀ w',St w0 bs w' H->ab R (.bool true) w')->Calls prog 354 #[.agg (bJ i g st wy s)] w R:=by
  intro w w0 bs H R h1 h2
  rcases hs with ⟨rfl,rfl⟩|⟨rfl,rfl⟩
  ·exact tP h1 hi hg h2
  ·exact tO h1 hi hg h2
 have hp':=HD hp
 clear hp hi hg hs
 go_enter func297,ntmps297
 go_wp2_with (first|refine am 314 rfl hS ?_;clear hS;intro b1 w _ hS|(first|go_at_call 354;refine hp'.out _ _ _ _ _ hS ?_|go_at_call 96;refine gI hS hT ?_);clear hS;intro w hS;unfold ab|(first|refine af rfl hS ?_|refine au rfl hS ?_))
 exact hR _ hS.p
theorem z6 (hO:St w0 bs w H)(hi:0≤i∧i<64)(hg:1≤g∧g≤4294967295)(hT:TagW s)(hR:∀ w',St w0 bs w' H->ab R (.tuple #[.agg (bJ i g 1 0 s),.int .i64 0]) w'):Calls prog 214 #[.agg #[.int .i64 1,.int .i64 i,.int .u32 g],.string s] w R:=by
 have hS:=hO
 clear hO
 have hi':=HD hi
 have hg':=HD hg
 have s1:SetsAt #[.int .i64 0,.int .i64 0,.int .u32 0,.int .i64 0,.int .i64 0,.int .i64 0,.int .i64 0,.string { data:=#[] }] 0 (bJ i g 1 0 s) (bJ i g 1 0 s):=⟨by simp[bJ],by simp[bJ]⟩
 clear hi hg
 go_enter func214,ntmps214
 go_wp2_with (first|refine am 99 rfl hS ?_;clear hS;intro b2 w _ hS|refine aq (o:=⟨some 4,_,_,_,_,_⟩) 314 rfl hS ?_;clear hS;intro b4 w _ hS|refine aq 314 rfl hS ?_;clear hS;intro b6 w _ hS|go_at_call 297;refine jG 1 0 (.inl ⟨rfl,rfl⟩) hS hi'.out hg'.out hT ?_;clear hS;intro w hS;unfold ab|refine aL rfl ?_|refine au rfl hS ?_|refine ak rfl hS ?_;clear hS;intro w hS)
 refine bodyPost_ret (aJ rfl hS) rfl ?_
 exact hR _ hS.p
theorem oM (hO:St w0 bs w H)(hi:0≤i∧i<64)(hg:1≤g∧g≤4294967295)(hT:TagW s)(hR:∀ w',St w0 bs w' H->ab R (.int .i64 0) w'):Calls prog 335 #[.agg (bJ i g 1 0 s),.bool true,.int .i64 1] w R:=by
 have hS:=hO
 clear hO
 have hi':=HD hi
 have hg':=HD hg
 clear hi hg
 go_enter func335,ntmps335
 go_wp2_with (first|refine am 314 rfl hS ?_;clear hS;intro b3 w _ hS|go_at_call 297;refine jG 1 0 (.inl ⟨rfl,rfl⟩) hS hi'.out hg'.out hT ?_;clear hS;intro w hS;unfold ab|(first|refine af rfl hS ?_|refine au rfl hS ?_))
 exact hR _ hS.p
theorem tQ (hO:St w0 bs w H)(hi:0≤i∧i<64)(hg:1≤g∧g≤4294967295)(hT:TagW s)(hR:∀ w',St w0 bs w' H->ab R (.tuple #[.agg (bJ i g 2 1 s),.int .i64 0]) w'):Calls prog 258 #[.agg (bJ i g 1 0 s),.int .i64 1,.int .i64 0] w R:=by
 have hS:=hO
 clear hO
 have hi':=HD hi
 have hg':=HD hg
 have s1:SetsAt #[.int .i64 0,.int .i64 0,.int .u32 0,.int .i64 0,.int .i64 0,.int .i64 0,.int .i64 0,.string { data:=#[] }] 0 (bJ i g 2 1 s) (bJ i g 2 1 s):=⟨by simp[bJ],by simp[bJ]⟩
 clear hi hg
 go_enter func258,ntmps258
 go_wp2_with (first|refine am 314 rfl hS ?_;clear hS;intro b3 w _ hS|refine aq 314 rfl hS ?_;clear hS;intro b6 w _ hS|refine av hS (fun hne=>?_);(repeat (go_big_quiet_want;first|(refine cU 336 [_,_,_] rfl ae (.bool true) (fun w hw=>qi true rfl (bk w hw) (fun w' h2=>⟨rfl,⟨w',h2.p⟩,rfl⟩)) ?_;go_big_quiet_on)|(refine cU 337 [_] rfl ae (.bool true) (fun w hw=>lA (by decide) (bk w hw) (fun w' h2=>⟨rfl,⟨w',h2.p⟩,rfl⟩)) ?_;go_big_quiet_on)|(refine cU 335 [_,_,_] rfl ae (.int .i64 0) (fun w hw=>oM (bk w hw) hi'.out hg'.out hT (fun w' h2=>⟨rfl,⟨w',h2.p⟩,rfl⟩)) ?_;go_big_quiet_on)|((refine aE bk (fun w hS=>ai _ _ rfl hS) ?_);go_big_quiet_on)|(go_big_quiet_op;go_big_quiet_on)));refine wpQuiet_nil ?_;clear hS hne;intro w hS|refine au rfl hS ?_|(first|refine bP rfl hS ?_|refine ak rfl hS ?_);clear hS;intro w hS)
 refine bodyPost_ret (aJ rfl hS) rfl ?_
 exact hR _ hS.p
end
end Go.Proofs.YtnbgljbhkeffkaaGreatDoor
