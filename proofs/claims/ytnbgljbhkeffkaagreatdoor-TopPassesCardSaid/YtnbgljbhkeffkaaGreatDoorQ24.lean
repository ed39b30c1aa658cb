/-
  Contracts of what the law TopPasses reaches, part 24: Que Tba Tbb Tbc Tbd.
-/
import Derived.Test.YtnbgljbhkeffkaaGreatDoorQ23
import Derived.Test.YtnbgljbhkeffkaaGreatDoorQ20
open Go.Proofs.Tryz
set_option linter.unusedVariables false
set_option linter.unusedSimpArgs false
set_option maxHeartbeats 4000000
set_option maxRecDepth 100000
namespace Go.Proofs.YtnbgljbhkeffkaaGreatDoor
open Go.RowKit Go.Mm
variable {R:Ending->World->Prop}{w W:World}{w0:World}{As bs:List Nat}{H H' H1 H2 H3 E E' E1 E2 Ea Eh Er:List Ent}
variable {Ms Ms1 Ms2 Ms3:dF}
def kJ (z:Int):Array Value:=(.int .i64 z::.int .i64 0::.int .i64 0::List.replicate 64 (Value.int .i64 0)).toArray
def QU (p:Option Addr)(z:Int)(E:List Ent):Prop:=∃ b,p=some ⟨b,0,none⟩∧0<z∧z≤64∧E=[⟨b,kJ z,231,true⟩]
instance Ji:ScalarT prog 134:=⟨by kernel_rfl,by kernel_rfl⟩
instance Jj {z:Int} : BuildT prog 231 [(0,.int .i64 z)] (kJ z):=⟨fun w=>by kernel_rfl⟩
section
variable {z:Int}
instance Nj:CellAt (kJ z) 0 (.int .i64 z):=⟨rfl⟩
instance Ni:CellAt (kJ z) (0+2) (.int .i64 0):=⟨rfl⟩
end
section
variable {b:Nat}{z:Int}
theorem jK (hO:St w0 bs w H)[hH:Has H b (kJ z) 231](hz0:0<z)(hR:∀ w',St w0 bs w' H->ab R (.bool true) w'):Calls prog 313 #[.pointer (some ⟨b,0,none⟩)] w R:=by
 have hS:=hO
 clear hO
 have d:decide (0<z)=true:=decide_eq_true hz0
 go_enter func313,ntmps313
 go_wp2_with (refine af rfl hS ?_)
 exact hR _ hS
theorem Ah (hO:St w0 bs w H)(z:Int)(hz:1≤z∧z≤64)(hR:∀ p E w',QU p z E->St w0 bs w' (E++H)->ab R (.tuple #[.pointer p,.int .i64 0]) w'):Calls prog 46 #[.int .i64 z] w R:=by
 have hS:=hO
 clear hO
 have d1:decide (z<1)=false:=DF
 have d2:decide (64<z)=false:=DF
 go_enter func46,ntmps46
 go_wp2_with (first|refine am 231 rfl hS ?_;clear hS;intro b w _ hS|refine aL rfl ?_)
 exact hR _ _ _ ⟨b,rfl,by omega,hz.2,rfl⟩ hS
theorem xh (hO:St w0 bs w H)(hR:∀ bq w',St w0 bs w' (⟨bq,#[.pointer (some ⟨b,0,none⟩)],134,true⟩::H)->ab R (.func (.func 406) #[] #[.pointer (some ⟨bq,0,none⟩)]) w'):Calls prog 365 #[.pointer (some ⟨b,0,none⟩)] w R:=by
 have hS:=hO
 clear hO
 go_enter func365,ntmps365
 go_wp2_with (refine am 134 rfl hS ?_;clear hS;intro bq w _ hS)
 exact hR _ _ hS
theorem xi {bq:Nat}(y:Value)[OneCell y](hO:St w0 bs w H)[hH:Has H bq #[.pointer (some ⟨b,0,none⟩)] 134][hH2:Has H b (kJ z) 231](hz0:0<z)(hR:∀ w',St w0 bs w' H->ab R (.tuple #[]) w'):Calls prog 406 #[y,.pointer (some ⟨bq,0,none⟩)] w R:=by
 have hS0:=hO
 clear hO
 go_enter func406,ntmps406
 go_wp2_with (go_skip)
 go_loopw [3] (fun u wr=>u=.int .i64 0∧St w0 bs wr H) (fun _ _=>0)
 case atStart=>exact⟨rfl,hS0⟩
 case round=>
  clear hS0
  obtain⟨rfl,hS⟩:=hrel
  go_wp2_with (first|go_at_call 313;refine jK hS hz0 ?_;clear hS;intro w hS;unfold ab|refine af rfl hS ?_)
  refine bodyPost_ret (results_none rfl _ _ _) rfl ?_
  exact hR _ hS
theorem xf (hO:St w0 bs w H)[hH:Has H b (kJ z) 231](hz0:0<z)(i:Int)(hR:∀ w',St w0 bs w' H->ab R (.int .i64 (-1)) w'):Calls prog 316 #[.pointer (some ⟨b,0,none⟩),.int .i64 i] w R:=by
 have hS:=hO
 clear hO
 refine(callsIn_wide (n:=3)).1 ?_
 have hF:=bY
 refine callsIn_of_wp_marks func316 rfl trivial ?_ rfl
 simp only[ntmps316,List.size_toArray,List.length_cons,List.length_nil,Nat.reduceAdd,Nat.reduceSub,Array.replicate_succ,Array.replicate_zero,List.push_toArray,List.append_toArray,List.nil_append,List.cons_append]
 gi_wp2_with (first|refine aD (.box 3 _) rfl ?_;refine aa hF rfl rfl (eh _ _ rfl hS ?_);clear hS;intro b3 w _ hS|refine aD (.alloc 3) rfl ?_;refine aa hF rfl rfl (cg _ rfl hS ?_);clear hS;intro b4 w _ hS|gi_at_call 365;refine callsIn_wide.2 (xh hS ?_);clear hS;intro bq w hS;unfold ab)
 refine ek (by omega) (gf:=406) (lb:=#[.pointer (some ⟨bq,0,none⟩)]) rfl ae hS ?_ ?_
 ·intro y W1 hy k hS1
  exact xi (b:=b) (z:=z) y hS1 hz0 (fun w' hS'=>⟨⟨_,rfl⟩,hS'⟩)
 ·intro d W1 hS1 hd
  have hS0:=hS1
  clear hS
  have hS:=hS1.rebase
  clear hS1
  gi_wp2_with ((refine aa hF rfl rfl (cL _ _ _ rfl hS ?_));clear hS;intro w hS)
  refine bS hd hS0 hS (fun W3 hS3=>⟨_,aI rfl hS3,?_⟩)
  exact hR W3 hS3.p
theorem xe (hO:St w0 bs w H)[hH:Has H b (kJ z) 231](hz0:0<z)(hR:∀ w',St w0 bs w' H->ab R (.tuple #[.int .i64 0,.bool false]) w'):Calls prog 318 #[.pointer (some ⟨b,0,none⟩)] w R:=by
 have hS:=hO
 clear hO
 go_enter func318,ntmps318
 go_wp2_with (first|go_at_call 313;refine jK hS hz0 ?_;clear hS;intro w hS;unfold ab|refine af rfl hS ?_)
 exact hR _ hS
theorem rL (hO:St w0 bs w H)[hH:Has H b (kJ z) 231](hz0:0<z)(i:Int)(hR:∀ w',St w0 bs w' H->ab R (.bool false) w'):Calls prog 255 #[.pointer (some ⟨b,0,none⟩),.int .i64 i] w R:=by
 have hS:=hO
 clear hO
 go_enter func255,ntmps255
 go_wp2_with (go_at_call 316;refine xf hS hz0 i ?_;clear hS;intro w hS;unfold ab)
 exact hR _ hS
theorem xd (hO:St w0 bs w H)[hH:Has H b (kJ z) 231](hz0:0<z)(hz:z≤64)(hR:∀ w',St w0 bs w' H->ab R (.int .i64 z) w'):Calls prog 233 #[.pointer (some ⟨b,0,none⟩)] w R:=by
 have hS:=hO
 clear hO
 go_enter func233,ntmps233
 go_wp2_with (first|go_at_call 313;refine jK hS hz0 ?_;clear hS;intro w hS;unfold ab|refine av hS (fun hne=>?_);(repeat (go_big_quiet_want;first|((refine aE bk (fun w hS=>ac _ _ rfl hS) ?_);go_big_quiet_on)|(refine aH (fun w _=>ah rfl) ?_;go_big_quiet_on)|(go_big_quiet_op;go_big_quiet_on)));refine wpQuiet_nil ?_;clear hS hne;intro w hS)
 exact hR _ hS
end
open Go.RowKit Go.Mm
instance K1:AggT prog 259 3:=⟨by kernel_rfl,by kernel_rfl⟩
instance OR:ZeroT prog 259 #[.int .i64 0,.int .i64 0,.int .u32 0]:=⟨by kernel_rfl⟩
instance OS {k i g:Int} : BuildT prog 259 [(0,.int .i64 k),(1,.int .i64 i),(2,.int .u32 g)] #[.int .i64 k,.int .i64 i,.int .u32 g]:=⟨fun w=>by kernel_rfl⟩
instance K0 {b off:Nat} : FieldAt prog 259 1 b off (off+1):=⟨fun w=>by kernel_rfl⟩
abbrev vD (i g:Int):Array Value:=#[.int .i64 1,.int .i64 i,.int .u32 g]
theorem AD (hO:St w0 bs w H)(k i g:Int)(hg:0≤g∧g≤4294967295)(hR:∀ w',St w0 bs w' H->ab R (.agg #[.int .i64 k,.int .i64 i,.int .i64 g]) w'):Calls prog 302 #[.agg #[.int .i64 k,.int .i64 i,.int .u32 g]] w R:=by
 have hS:=hO
 clear hO
 obtain⟨g0,g1⟩:=hg
 go_enter func302,ntmps302
 go_wp2_with (first|refine am 259 rfl hS ?_;clear hS;intro bo w _ hS|refine aq 420 rfl hS ?_;clear hS;intro br w _ hS|refine aL rfl ?_|refine af rfl hS ?_|refine ak rfl hS ?_;clear hS;intro w hS)
 refine bodyPost_ret (aI rfl hS) rfl ?_
 exact hR _ hS.p
theorem Dd (hO:St w0 bs w H)(i g:Int)(hi:0≤i∧i<256)(hg:1≤g∧g≤4294967295)(hR:∀ w',St w0 bs w' H->ab R (.int .i64 0) w'):Calls prog 296 #[.agg #[.int .i64 1,.int .i64 i,.int .i64 g],.int .i64 256] w R:=by
 have hS:=hO
 clear hO
 obtain⟨g0,g1⟩:=hg
 have i0:∀ b,IdxV prog 420 (.pointer (some ⟨b,0,none⟩)) 0 ⟨b,0,none⟩:=fun b=>kV (b:=b) (j:=0) (by decide) (z:=0) rfl
 have i1:∀ b,IdxV prog 420 (.pointer (some ⟨b,0,none⟩)) 1 ⟨b,1,none⟩:=fun b=>kV (b:=b) (j:=1) (by decide) (z:=1) rfl
 have i2:∀ b,IdxV prog 420 (.pointer (some ⟨b,0,none⟩)) 2 ⟨b,2,none⟩:=fun b=>kV (b:=b) (j:=2) (by decide) (z:=2) rfl
 have q3:decide (i<0)=false:=DF
 have q4:decide (256≤i)=false:=DF
 go_enter func296,ntmps296
 go_wp2_with (first|refine am 420 rfl hS ?_;clear hS;intro bo w _ hS|go_at_call 49;refine iK g0 g1 ?_;unfold ab|refine aM rfl ?_|refine af rfl hS ?_)
 exact hR _ hS.p
theorem pz (hO:St w0 bs w H)(i g:Int)(hi:0≤i∧i<256)(hg:1≤g∧g≤4294967295)(hR:∀ w',St w0 bs w' H->ab R (.int .i64 0) w'):Calls prog 221 #[.agg (vD i g)] w R:=by
 have hS:=hO
 clear hO
 have hg':=HD hg
 have hi':=HD hi
 clear hg hi
 go_enter func221,ntmps221
 go_wp2_with (first|refine am 259 rfl hS ?_;clear hS;intro bo w _ hS|(first|go_at_call 302;refine AD hS 1 i g ⟨by have:=hg'.out;omega,hg'.out.2⟩ ?_|go_at_call 296;refine Dd hS i g hi'.out hg'.out ?_);clear hS;intro w hS;unfold ab|refine au rfl hS ?_)
 exact hR _ hS.p
def LS (v:Value)(o:Option (Array Value))(E:List Ent):Prop:=match o with
 | none=>v=.slice none 0 0∧E=[]
 | some r=>r.size=8∧OneCells r∧∃ g cap sp,v=.slice (some ⟨g,0,none⟩) 1 cap∧1≤cap∧cap≤maxLen∧8+sp.length=cap * 8∧E=[⟨g,(r.toList++sp).toArray,314,true⟩]
theorem LS.one {v:Value}{o:Option (Array Value)}(h:LS v o E):OneCell v:=by
 cases o with
 | none=>obtain⟨rfl,_⟩:=h;exact⟨rfl⟩
 | some r=>obtain⟨_,_,g,cap,sp,rfl,_⟩:=h;exact⟨rfl⟩
def Cc (o:Option (Array Value)):Nat:=if o.isSome then 1 else 0
instance FM:SliceT prog 147 314:=⟨by kernel_rfl⟩
theorem LS.len {v:Value}{o:Option (Array Value)}(h:LS v o E):LenV prog 147 v (Cc o):=by
 cases o with
 | none=>obtain⟨rfl,_⟩:=h;exact⟨⟨_,_,rfl⟩,⟨314,by kernel_rfl⟩⟩
 | some r=>obtain⟨_,_,g,cap,sp,rfl,_⟩:=h;exact⟨⟨_,_,rfl⟩,⟨314,by kernel_rfl⟩⟩
def f6 (pt:Option Addr)(me:Nat)(v:Value):Array Value:=#[.pointer pt,.map (some me),v]
def fj (p:Option Addr)(T:Tb)(me:Nat)(o:Option (Array Value))(E:List Ent):Prop:=
 ∃ b pt v Et Ev,p=some ⟨b,0,none⟩∧TA pt T Et∧LS v o Ev∧E=⟨b,f6 pt me v,149,true⟩::(Et++Ev)
instance HR:ScalarT prog 67:=⟨by kernel_rfl,by kernel_rfl⟩
instance HQ:ScalarT prog 143:=⟨by kernel_rfl,by kernel_rfl⟩
instance HS:ScalarT prog 146:=⟨by kernel_rfl,by kernel_rfl⟩
instance HT:ScalarT prog 147:=⟨by kernel_rfl,by kernel_rfl⟩
instance HU:MapTy prog 146 3 365:=⟨by kernel_rfl,by kernel_rfl⟩
abbrev zE:Array Value:=#[.int .i64 0,.int .i64 0,.int .u32 0,.int .i64 0,.int .i64 0,.int .u32 0]
abbrev fd (i g s h:Int):Array Value:=#[.int .i64 1,.int .i64 i,.int .u32 g,.int .i64 1,.int .i64 s,.int .u32 h]
instance HP:ZeroV prog 365 (.agg zE):=⟨fun w=>by kernel_rfl⟩
instance HO:AggT prog 365 6:=⟨by kernel_rfl,by kernel_rfl⟩
instance Mh:ZeroT prog 365 zE:=⟨by kernel_rfl⟩
instance HN:BuildT prog 365 [] zE:=⟨fun w=>by kernel_rfl⟩
instance HX {b off:Nat} : FieldAt prog 149 0 b off off:=⟨fun w=>by kernel_rfl⟩
instance HW {b off:Nat} : FieldAt prog 149 1 b off (off+1):=⟨fun w=>by kernel_rfl⟩
instance HV {b off:Nat} : FieldAt prog 149 2 b off (off+2):=⟨fun w=>by kernel_rfl⟩
instance HY {pt:Option Addr}{me:Nat} : BuildT prog 149 [(0,.pointer pt),(1,.map (some me))] (f6 pt me (.slice none 0 0)):=⟨fun w=>by kernel_rfl⟩
instance FO {pt:Option Addr}{me:Nat}{x:Option Addr}{n c:Nat} : BuildT prog 149 [(0,.pointer pt),(1,.map (some me)),(2,.slice x n c)] (f6 pt me (.slice x n c)):=⟨fun w=>by kernel_rfl⟩
section
variable {pt:Option Addr}{me:Nat}{v:Value}
instance Mn:CellAt (f6 pt me v) 0 (.pointer pt):=⟨rfl⟩
instance Ml:CellAt (f6 pt me v) (0+1) (.map (some me)):=⟨rfl⟩
instance Mj:CellAt (f6 pt me v) (0+2) v:=⟨rfl⟩
instance Mi {u:Value} : SetAt (f6 pt me v) (0+2) u (f6 pt me u):=⟨rfl,by simp [f6]⟩
end
theorem dx {b me:Nat}{pt:Option Addr}{v:Value}(hO:St w0 bs w H)[hH:Has H b (f6 pt me v) 149](hR:∀ w',St w0 bs w' H->ab R (.bool true) w'):Calls prog 207 #[.pointer (some ⟨b,0,none⟩)] w R:=by
 have hS:=hO
 clear hO
 go_enter func207,ntmps207
 go_wp2_with (first|refine aF (.binOp .neq _ _ (.const (.map none)) _) rfl ?_;refine wU (lx rfl) ?_|refine af rfl hS ?_)
 exact hR _ hS
abbrev ia (z:Nat)(g:Int):Tb:=some (List.replicate z (0,g))
theorem zF (hB:Mps W As w0 bs Ms)(hO:St w0 bs w H)(g:Int)(hg:1≤g∧g≤4294967295)(hR:∀ p me E w0' bs' w',fj p (ia 256 g) me none E->Mps W As w0' bs' ((me,[])::Ms)->St w0' bs' w' (E++H)->ab R (.tuple #[.pointer p,.int .i64 0]) w'):Calls prog 24 #[.int .i64 256,.int .u32 g] w R:=by
 have hS:=hO
 clear hO
 have hok:cO 256 g=true:=by unfold cO;simp;omega
 have e1:=HD (show ni 256 g=ia 256 g by unfold ni;rw[if_pos hok];rfl)
 have e2:=HD (show kF 256 g=0 by unfold kF;rw[if_pos hok])
 have hg':=HD (show 0≤g∧g≤4294967295 by omega)
 clear hok hg
 go_enter func24,ntmps24
 go_wp2_with (first|go_at_call 48;refine iv hS 256 g hg'.out ?_;rw[e1.out,e2.out];clear hS;intro pt Et w hT hS;unfold ab|refine aF (.makeMap _ none) rfl ?_;refine iQ rfl hB hS ?_;clear hB hS;intro me w hB hS|refine am 149 rfl hS ?_;clear hS;intro b w _ hS|refine aL rfl ?_)
 exact hR _ _ _ _ _ _ ⟨b,pt,_,Et,[],rfl,hT,⟨rfl,rfl⟩,rfl⟩ hB (by simpa using hS)
section
variable {p:Option Addr}{T:Tb}{me:Nat}{o:Option (Array Value)}
theorem sX (hO:St w0 bs w H)(hT:fj p T me o E)[hc:Cut H E H1](hR:∀ w',St w0 bs w' (E++H1)->ab R (.int .i64 (Cc o)) w'):Calls prog 148 #[.pointer p] w R:=by
 have hS:=hO.fr E H1
 clear hO
 obtain⟨b,pt,v,Et,Ev,rfl,hTt,hL,rfl⟩:=id hT
 simp only[aP] at hS
 have hone:=hL.one
 have hlen:=hL.len
 go_enter func148,ntmps148
 go_wp2_with (first|go_at_call 207;refine dx hS ?_;clear hS;intro w hS;unfold ab|refine wV (.call { callee:=.builtin .len,args:=#[_],argTypes:=#[_] }) rfl (aA rfl) ?_|refine af rfl hS ?_)
 exact hR _ (by(try simp only[aP]);exact hS.p)
theorem wa (hO:St w0 bs w H)(hT:fj p T me o E)[hc:Cut H E H1](hR:∀ w',St w0 bs w' (E++H1)->ab R (.int .i64 (nR 0 T)) w'):Calls prog 206 #[.pointer p] w R:=by
 have hS:=hO.fr E H1
 clear hO
 obtain⟨b,pt,v,Et,Ev,rfl,hTt,hL,rfl⟩:=id hT
 simp only[aP] at hS
 have hone:=hL.one
 have hlen:=hL.len
 go_enter func206,ntmps206
 go_wp2_with (first|go_at_call 207;refine dx hS ?_;clear hS;intro w hS;unfold ab|go_at_call 219;refine lp hS hTt ?_;clear hS;intro w _ hS;unfold ab|refine af rfl hS ?_)
 exact hR _ (by(try simp only[aP]);exact hS.p)
theorem rl (hO:St w0 bs w H)(s g:Int)(hs:0≤s∧s<256)(hg:1≤g)(hR:∀ w',St w0 bs w' H->ab R (.bool true) w'):Calls prog 215 #[.agg #[.int .i64 s,.int .u32 g]] w R:=by
 have hS:=hO
 clear hO
 have d1:decide (0≤s)=true:=DT
 have d2:decide (s<256)=true:=DT
 have d3:decide (0<g)=true:=DT
 go_enter func215,ntmps215
 go_wp2_with (first|refine am 176 rfl hS ?_;clear hS;intro b1 w _ hS|refine af rfl hS ?_)
 exact hR _ hS.p
theorem s9 {b:Nat}(hO:St w0 bs w H)(hR:∀ b1 w',St w0 bs w' (⟨b1,#[.pointer (some ⟨b,0,none⟩)],67,true⟩::H)->ab R (.func (.func 355) #[] #[.pointer (some ⟨b1,0,none⟩)]) w'):Calls prog 299 #[.pointer (some ⟨b,0,none⟩)] w R:=by
 have hS:=hO
 clear hO
 go_enter func299,ntmps299
 go_wp2_with (refine am 67 rfl hS ?_;clear hS;intro b1 w _ hS)
 exact hR _ _ hS
theorem pT {b b1:Nat}{pt:Option Addr}{v:Value}(y:Value)[OneCell y](hB:Mps W As w0 bs Ms)(hO:St w0 bs w H)[hH:Has H b1 #[.pointer (some ⟨b,0,none⟩)] 67][hH2:Has H b (f6 pt me v) 149][hM:MapIn Ms me []](hR:∀ w',St w0 bs w' H->ab R (.tuple #[]) w'):Calls prog 355 #[y,.pointer (some ⟨b1,0,none⟩)] w R:=by
 have hS0:=hO
 clear hO
 go_enter func355,ntmps355
 go_wp2_with (go_skip)
 go_loopw [6] (fun u wr=>∃ k:Nat,k≤256∧u=.int .i64 k∧St w0 bs wr H) (fun u _=>256 - (intOf u).toNat)
 case atStart=>exact⟨0,by omega,rfl,hS0⟩
 case round=>
  clear hS0
  obtain⟨k,hk,rfl,hS⟩:=hrel
  by_cases hlt:k<256
  ·have dk:decide ((k:Int)<256)=true:=DT
   have dk' : decide (k<256)=true:=decide_eq_true hlt
   have b1' : (k:Int)≤256:=by omega
   go_wp2_with (first|refine aq 365 rfl hS ?_;clear hS;intro b4 w _ hS|refine wU (dS rfl hB hS) ?_|refine af rfl hS ?_|refine ak rfl hS ?_;clear hS;intro w hS)
   go_roundw
   case rel=>exact⟨k+1,by omega,by go_num,hS.weak⟩
   case measure=>simp[intOf];omega
  ·obtain rfl:k=256:=by omega
   go_wp2_with (go_skip)
   refine bodyPost_ret (results_none rfl _ _ _) rfl ?_
   exact hR _ hS
theorem oE {b:Nat}{pt:Option Addr}{v:Value}(hB:Mps W As w0 bs Ms)(hO:St w0 bs w H)[hH2:Has H b (f6 pt me v) 149][hM:MapIn Ms me []](s g:Int)(hR:∀ w',St w0 bs w' H->ab R (.bool false) w'):Calls prog 218 #[.pointer (some ⟨b,0,none⟩),.agg #[.int .i64 s,.int .u32 g]] w R:=by
 have hS:=hO
 clear hO
 refine(callsIn_wide (n:=3)).1 ?_
 have hF:=bY
 refine callsIn_of_wp_marks func218 rfl trivial ?_ rfl
 simp only[ntmps218,List.size_toArray,List.length_cons,List.length_nil,Nat.reduceAdd,Nat.reduceSub,Array.replicate_succ,Array.replicate_zero,List.push_toArray,List.append_toArray,List.nil_append,List.cons_append]
 gi_wp2_with (first|refine aD (.box 176 _) rfl ?_;refine aa hF rfl rfl (eh _ _ rfl hS ?_);clear hS;intro b3 w _ hS|refine aD (.alloc 4) rfl ?_;refine aa hF rfl rfl (cg _ rfl hS ?_);clear hS;intro b4 w _ hS|gi_at_call 299;refine callsIn_wide.2 (s9 hS ?_);clear hS;intro b1 w hS;unfold ab)
 refine ek (by omega) (gf:=355) (lb:=#[.pointer (some ⟨b1,0,none⟩)]) rfl ae hS ?_ ?_
 ·intro y W1 hy k hS1
  obtain⟨hB1,_⟩:Mps W As W1 (wl _) Ms∧True:=⟨hB.step hS k,trivial⟩
  exact pT (me:=me) (pt:=pt) (v:=v) y hB1 hS1 (fun w' hS'=>⟨⟨_,rfl⟩,hS'⟩)
 ·intro d W1 hS1 hd
  have hS0:=hS1
  clear hS
  have hS:=hS1.rebase
  clear hS1
  gi_wp2_with ((refine aa hF rfl rfl (cL _ _ _ rfl hS ?_));clear hS;intro w hS)
  refine bS hd hS0 hS (fun W3 hS3=>⟨_,aI rfl hS3,?_⟩)
  exact hR W3 hS3.p
end
open Go.RowKit Go.Mm
instance G5:DifIs (1:Int) (1:Int) (0:Int):=⟨by decide,by decide,by decide⟩
section
variable {g cap:Nat}{r:Array Value}{sp:List Value}
theorem qG:IdxV prog 147 (.slice (some ⟨g,0,none⟩) 1 cap) 0 ⟨g,0,none⟩:=fG (P:=prog) (z:=8) (i:=0) (e:=314) (by kernel_rfl) (by decide)
theorem AX {j:Nat}{u:Value}(hr:r.size=8)(hj:j<8)(h:r[j]?=some u):CellAt (r.toList++sp).toArray j u:=⟨by
 have:j<r.toList.length:=by simp[hr,hj]
 simp[List.getElem?_append_left this,h]⟩
theorem lO (hr:r.size=8):CellsAt (r.toList++sp).toArray 0 8 r:=⟨fun j hj=>by
 have:j<r.toList.length:=by simpa [hr] using hj
 simp[List.getElem?_append_left this],hr⟩
theorem Dm {r' : Array Value}(hr:r.size=8)(hr' : r'.size=8):SetsAt (r.toList++sp).toArray 0 r' (r'.toList++sp).toArray:=⟨by
 apply Array.ext'
 simp[hr,hr'],by simp[hr,hr']⟩
end
section
variable {p:Option Addr}{T:Tb}{me:Nat}{o:Option (Array Value)}{i g s h:Int}{tg:ByteArray}
theorem zG {og:Int}{oi:Int}{hs hg:Int}(hB:Mps W As w0 bs Ms)(hO:St w0 bs w H)(hT:fj p T me (some (bJ oi og 1 0 tg)) E)[hc:Cut H E H1](hE:jx T=0)(hI:kC T=i)(hG:kD T=g)[hM:MapIn Ms me []][hu:MapUp Ms me [] [(vI i,.agg (fd i g hs hg))] Ms1]
  (hR:∀ E' w0' bs' w',fj p (ir T) me (some (bJ oi og 1 0 tg)) E'->Mps W As w0' bs' Ms1->St w0' bs' w' (E'++H1)->ab R (.tuple #[.agg (vD i g),.int .i64 0]) w'):Calls prog 220 #[.pointer p,.int .i64 1,.agg #[.int .i64 hs,.int .u32 hg]] w R:=by
 have hS:=hO.fr E H1
 clear hO
 obtain⟨b,pt,v,Et,Ev,rfl,hTt,hL,rfl⟩:=id hT
 obtain⟨hrs,hro,gx,cap,sp,rfl,hc1,hc2,hc3,rfl⟩:=id hL
 simp only[aP] at hS
 have hE':=HD hE
 have hI':=HD hI
 have hG':=HD hG
 have hix:=qG (g:=gx) (cap:=cap)
 have hce:CellAt ((bJ oi og 1 0 tg).toList++sp).toArray 0 (.int .i64 1):=AX hrs (by decide) rfl
 clear hE hI hG
 go_enter func220,ntmps220
 go_wp2_with (first|refine am 176 rfl hS ?_;clear hS;intro b5 w _ hS|refine aq (o:=⟨some 6,_,_,_,_,_⟩) 259 rfl hS ?_;clear hS;intro b6 w _ hS|go_at_call 180;refine jd hS hTt ?_;rw[hE'.out,hI'.out,hG'.out];clear hS;intro Et2 w hTt2 hS;unfold ab|refine aq (o:=⟨some 8,_,_,_,_,_⟩) 176 rfl hS ?_;clear hS;intro b8 w _ hS|refine af rfl hS ?_|refine ak rfl hS ?_;clear hS;intro w hS)
 refine fR 15 16 #[.int .i64 0,.int .i64 0,.int .u32 0] (vD i g) 259 hS ?_
 (refine fV (fun χ w hw=>ad rfl) ?_)
 (refine fV (fun χ w hw=>ah rfl) ?_)
 (refine fV (fun χ w hw=>ag rfl) ?_)
 (refine fV (fun χ w hw=>ac _ _ rfl hw) ?_)
 (refine fV (fun χ w hw=>ad rfl) ?_)
 (refine fV (fun χ w hw=>aC rfl) ?_)
 (refine fV (fun χ w hw=>aY _ _ _ rfl) ?_)
 (refine fV (fun χ w hw=>ag rfl) ?_)
 (refine fV (fun χ w hw=>ag rfl) ?_)
 (refine fV (fun χ w hw=>ac _ _ rfl hw) ?_)
 (refine fV (fun χ w hw=>ag rfl) ?_)
 (refine fV (fun χ w hw=>ac _ _ rfl hw) ?_)
 (refine fV (fun χ w hw=>ag rfl) ?_)
 (refine fV (fun χ w hw=>ac _ _ rfl hw) ?_)
 (refine fV (fun χ w hw=>bQ _ _ rfl) ?_)
 (refine rf rfl rfl rfl (fun _=>rfl) ?_)
 (refine re rfl rfl rfl (fun _=>rfl) ?_)
 refine l9 rfl ?_
 intro b10 χ w hb hS
 simp only[hb]
 clear hb χ
 go_wp2_with (first|refine aR 10 hS ?_;clear hS;intro w hS;simp only[List.take_succ_cons,List.take_zero,List.drop_succ_cons,List.drop_zero];(repeat (first|(first|refine ax rfl (ac _ _ rfl hS) ?_|refine ax rfl (ai _ _ rfl hS) ?_)|still_step));refine wpStill_nil ?_|refine wS (gL rfl hB hS ?_);clear hB hS;intro w hB hS|refine au rfl hS ?_|refine ak rfl hS ?_;clear hS;intro w hS)
 refine bodyPost_ret (aJ rfl hS) rfl ?_
 exact hR _ _ _ _ ⟨b,pt,_,Et2,_,rfl,hTt2,⟨hrs,hro,gx,cap,sp,rfl,hc1,hc2,hc3,rfl⟩,rfl⟩ hB (by(try simp only[aP]);exact hS.p)
theorem sY (hO:St w0 bs w H){f:Value}[OneCell f](hR:∀ w',St w0 bs w' H->ab R (.int .i64 (-1)) w'):Calls prog 298 #[.slice none 0 0,f] w R:=by
 have hS0:=hO
 clear hO
 have hlen:LenV prog 147 (.slice none 0 0) 0:=⟨⟨_,_,rfl⟩,⟨314,by kernel_rfl⟩⟩
 go_enter func298,ntmps298
 go_wp2_with (refine wV (.call { callee:=.builtin .len,args:=#[_],argTypes:=#[_] }) rfl (aA rfl) ?_)
 go_loopw [8] (fun u wr=>u=.int .i64 0∧St w0 bs wr H) (fun _ _=>0)
 case atStart=>exact⟨rfl,hS0⟩
 case round=>
  clear hS0
  obtain⟨rfl,hS⟩:=hrel
  go_wp2_with (go_skip)
  exact hR _ hS
theorem mC (hO:St w0 bs w H){f:Value}[OneCell f](hR:∀ w',St w0 bs w' H->ab R (.bool false) w'):Calls prog 216 #[.slice none 0 0,f] w R:=by
 have hS:=hO
 clear hO
 go_enter func216,ntmps216
 go_wp2_with (go_at_call 298;refine sY hS ?_;clear hS;intro w hS;unfold ab)
 exact hR _ hS
instance GZ {i g st wy:Int}{s:ByteArray} : FlatOf [.agg (bJ i g st wy s)] (bJ i g st wy s).toList:=⟨by simp [Value.cells]⟩
instance FN:ElemT prog 314 8 72 #[.int .i64 0,.int .i64 0,.int .u32 0,.int .i64 0,.int .i64 0,.int .i64 0,.int .i64 0,.string { data:=#[] }]:=⟨by kernel_rfl⟩
theorem wb {oi og:Int}{hs hg:Int}(hB:Mps W As w0 bs Ms)(hO:St w0 bs w H)(hT:fj p T me none E)[hc:Cut H E H1](hoi:0≤oi∧oi<64)(hog:1≤og∧og≤4294967295)(htg:TagW tg)(hhs:0≤hs∧hs<256)(hhg:1≤hg)(hE:jx T=0)(hI:kC T=i)(hG:kD T=g)(hroom:nR 0 T≠0)[hM:MapIn Ms me []][hu:MapUp Ms me [] [(vI i,.agg (fd i g hs hg))] Ms1]
  (hR:∀ E' w0' bs' w',fj p (ir T) me (some (bJ oi og 1 0 tg)) E'->Mps W As w0' bs' Ms1->St w0' bs' w' (E'++H1)->ab R (.tuple #[.agg (vD i g),.int .i64 0]) w'):Calls prog 153 #[.pointer p,.agg #[.int .i64 1,.int .i64 oi,.int .u32 og],.string tg,.agg #[.int .i64 hs,.int .u32 hg]] w R:=by
 have hS:=hO.fr E H1
 clear hO
 obtain⟨b,pt,v,Et,Ev,rfl,hTt,hL,rfl⟩:=id hT
 obtain⟨rfl,rfl⟩:=id hL
 simp only[List.cons_append,List.nil_append,List.append_assoc,List.append_nil] at hS
 have hlen:LenV prog 147 (.slice none 0 0) 0:=⟨⟨_,_,rfl⟩,⟨314,by kernel_rfl⟩⟩
 have s1:SetsAt #[.int .i64 0,.int .i64 0,.int .u32 0,.int .i64 0,.int .i64 0,.int .i64 0,.int .i64 0,.string { data:=#[] }] 0 (bJ oi og 1 0 tg) (bJ oi og 1 0 tg):=⟨by simp[bJ],by simp[bJ]⟩
 obtain⟨rm,hrm⟩:∃ n:Int,nR 0 T=n:=⟨_,rfl⟩
 have d1:(rm == 0)=false:=beq_eq_false_iff_ne.2 (by rw[← hrm];exact hroom)
 have d2:decide (rm=0)=false:=decide_eq_false (by rw[← hrm];exact hroom)
 have hrm':=HD hrm
 have h1':=HD hoi
 have h2':=HD hog
 have h3':=HD hhs
 have h4':=HD hhg
 have hE':=HD hE
 have hI':=HD hI
 have hG':=HD hG
 clear hoi hog hhs hhg hE hI hG hroom hrm
 go_enter func153,ntmps153
 go_wp2_with (first|refine am (o:=⟨some 5,_,_,_,_,_⟩) 99 rfl hS ?_;clear hS;intro b5 w _ hS|refine am (o:=⟨some 7,_,_,_,_,_⟩) 176 rfl hS ?_;clear hS;intro b7 w _ hS|refine aq (o:=⟨some 8,_,_,_,_,_⟩) 259 rfl hS ?_;clear hS;intro b8 w _ hS|refine aq (o:=⟨some 10,_,_,_,_,_⟩) 314 rfl hS ?_;clear hS;intro b10 w _ hS|(first|go_at_call 207;refine dx hS ?_|go_at_call 214;refine z6 hS h1'.out h2'.out htg ?_|go_at_call 215;refine rl hS hs hg h3'.out h4'.out ?_|go_at_call 216;refine mC hS ?_|go_at_call 218;refine oE (me:=me) hB hS hs hg ?_);clear hS;intro w hS;unfold ab|go_at_call 219;refine lp hS hTt ?_;rw[hrm'.out];clear hS;intro w _ hS;unfold ab|refine wV (.call { callee:=.builtin .len,args:=#[_],argTypes:=#[_] }) rfl (aA rfl) ?_|(first|refine af rfl hS ?_|refine au rfl hS ?_)|refine ak rfl hS ?_;clear hS;intro w hS)
 refine iA b 149 314 (f6 pt me) (.slice none 0 0) [] (⟨b10,bJ oi og 1 0 tg,314,true⟩::⟨b8,#[.int .i64 0,.int .i64 0,.int .u32 0],259,true⟩::⟨b7,#[.int .i64 hs,.int .u32 hg],176,true⟩::(Et++H1)) 8 0 [] (bJ oi og 1 0 tg) hS ?_
 (refine oP (fun χ w=>ad rfl) ?_)
 (refine oP (fun χ w=>ad rfl) ?_)
 (refine oP (fun χ w=>ah rfl) ?_)
 (refine oP (fun χ w=>ag rfl) ?_)
 (refine lf (fun _=>rfl) rfl (fun χ w Y hw=>ac _ _ rfl hw) ?_)
 (refine lf (fun _=>rfl) rfl (fun χ w Y hw=>ai _ _ rfl hw) ?_)
 refine vF rfl (fun _=>rfl) (fun χ w hw=>?_) ?_
 ·exact fo 66 rfl (by simp) (eD _ 1 [(0,_)] rfl hw (by decide) rfl (by decide) (by decide) (fun bn w' _ hS'=>⟨_,rfl,bn,rfl,by simpa using hS'⟩))
 refine vG rfl rfl rfl 67 rfl (fun χ=>by simp) (fun _=>rfl) rfl fu CO (by decide) (by decide) ?_
 (refine oP (fun χ w=>ah rfl) ?_)
 (refine oP (fun χ w=>ag rfl) ?_)
 refine vC rfl rfl (fun _=>rfl) (fun χ w v' hv' h1 hw=>?_) ?_
 ·subst hv'
  exact bV rfl hw (fun w' hS'=>⟨rfl,hS'⟩)
 refine pH rfl ?_
 intro v' E2 χ w hv' hsl hne hS
 obtain⟨bn,hbn⟩:∃ x,x=(χ 6).2.2:=⟨_,rfl⟩
 simp only[← hv',← hbn]
 clear hv' hbn χ
 obtain⟨gx,cap,sp,rfl,rfl,hc1,hc2,hc3⟩:=hsl.some (by decide)
 simp only[List.nil_append,List.cons_append] at hS
 have hL2:LS (.slice (some ⟨gx,0,none⟩) 1 cap) (some (bJ oi og 1 0 tg)) [⟨gx,((bJ oi og 1 0 tg).toList++sp).toArray,314,true⟩]:=⟨rfl,yW,gx,cap,sp,rfl,hc1,hc2,by simpa [bJ] using hc3,by simp⟩
 have hT2:fj (some ⟨b,0,none⟩) T me (some (bJ oi og 1 0 tg)) (⟨b,f6 pt me (.slice (some ⟨gx,0,none⟩) 1 cap),149,true⟩::(Et++[⟨gx,((bJ oi og 1 0 tg).toList++sp).toArray,314,true⟩])):=⟨b,pt,_,Et,_,rfl,hTt,hL2,rfl⟩
 have hln2:=hL2.len
 have hS0:St w0 bs w (⟨b8,#[.int .i64 0,.int .i64 0,.int .u32 0],259,true⟩::⟨b7,#[.int .i64 hs,.int .u32 hg],176,true⟩::((⟨b,f6 pt me (.slice (some ⟨gx,0,none⟩) 1 cap),149,true⟩::(Et++[⟨gx,((bJ oi og 1 0 tg).toList++sp).toArray,314,true⟩]))++H1)):=by
  simp only[List.cons_append,List.append_assoc,List.nil_append]
  exact hS.p
 clear hS
 go_wp2_with (go_skip)
 refine aj (X:=Unit) (fun w=>St w0 bs w (⟨b8,#[.int .i64 0,.int .i64 0,.int .u32 0],259,true⟩::⟨b7,#[.int .i64 hs,.int .u32 hg],176,true⟩::((⟨b,f6 pt me (.slice (some ⟨gx,0,none⟩) 1 cap),149,true⟩::(Et++[⟨gx,((bJ oi og 1 0 tg).toList++sp).toArray,314,true⟩]))++H1)))
  [(7,fun _ w=>∃ E' w0' bs',fj (some ⟨b,0,none⟩) (ir T) me (some (bJ oi og 1 0 tg)) E'∧Mps W As w0' bs' Ms1∧St w0' bs' w (E'++(⟨b8,#[.int .i64 0,.int .i64 0,.int .u32 0],259,true⟩::⟨b7,#[.int .i64 hs,.int .u32 hg],176,true⟩::H1))),
  (10,fun _ w=>∃ E' w0' bs',fj (some ⟨b,0,none⟩) (ir T) me (some (bJ oi og 1 0 tg)) E'∧Mps W As w0' bs' Ms1∧St w0' bs' w (⟨b8,vD i g,259,true⟩::(E'++H1)))] (hS0.drawn _) (by kernel_rfl) (by kernel_rfl) ?_
 (refine oP (fun χ w=>ad rfl) ?_)
 (refine oP (fun χ w=>ad rfl) ?_)
 (refine oP (fun χ w=>ah rfl) ?_)
 (refine oP (fun χ w=>ag rfl) ?_)
 (refine bF 0 (fun _=>rfl) rfl (fun χ w hw=>ac _ _ rfl (show St _ _ w _ from hw)) ?_)
 (refine oP (fun χ w=>aA rfl) ?_)
 (refine bF 0 (fun _=>rfl) rfl (fun χ w hw=>ai _ _ rfl (show St _ _ w _ from hw)) ?_)
 refine aO 0 rfl (by kernel_rfl) (fun _=>rfl) (fun _=>.tuple #[.agg (vD i g),.int .i64 0]) (fun χ w hw=>aw rfl ae ?_) ?_
 ·refine zG hB (show St w0 bs w _ from hw) hT2 hE'.out hI'.out hG'.out (fun E' w0' bs' w' g1 g2 g3=>⟨_,rfl,(),rfl,E',w0',bs',g1,g2,g3⟩)
 (refine oP (fun χ w=>aB rfl) ?_)
 (refine oP (fun χ w=>aB rfl) ?_)
 refine aO 1 rfl (by kernel_rfl) (fun _=>rfl) (fun _=>undef) (fun χ w hw=>?_) ?_
 ·obtain⟨E',w0',bs',g1,g2,g3⟩:=hw
  exact aK _ _ _ rfl (show St w0' bs' w (⟨b8,#[.int .i64 0,.int .i64 0,.int .u32 0],259,true⟩::(E'++H1)) from g3.p) (fun w' hS'=>⟨(),rfl,E',w0',bs',g1,g2,hS'⟩)
 (refine oP (fun χ w=>aG rfl) ?_)
 refine aV rfl ?_
 rintro χ w ⟨E',w0',bs',g1,g2,hS⟩
 clear χ
 go_wp2_with (go_skip)
 refine bodyPost_ret (aJ rfl hS) rfl ?_
 exact hR E' _ _ _ g1 g2 hS.p
end
open Go.RowKit Go.Mm
section
variable {p:Option Addr}{T:Tb}{me:Nat}{o:Option (Array Value)}{i g s h:Int}{tg:ByteArray}
instance KY:ZeroT prog 50 #[.slice none 0 0]:=⟨by kernel_rfl⟩
instance KZ:ScalarT prog 50:=⟨by kernel_rfl,by kernel_rfl⟩
theorem DL:AggEq prog 259 (vD i g) (vD i g) true:=by
 have h:=fN (P:=prog) (t:=259) [(3,0),(3,1),(26,2)] (xs:=vD i g) (ys:=vD i g)
 simpa using h
theorem CZ:AggEq prog 99 (vD i g) (vD i g) true:=by
 have h:=fN (P:=prog) (t:=99) [(3,0),(3,1),(26,2)] (xs:=vD i g) (ys:=vD i g)
 simpa using h
theorem pP (hB:Mps W As w0 bs Ms)(hO:St w0 bs w H)(hT:fj p T me o E)[hc:Cut H E H1](i g:Int)(hi:0≤i∧i<256)(hg:1≤g∧g≤4294967295)[hM:MapIn Ms me [(vI i,.agg (fd i g s h))]](hR:∀ w',St w0 bs w' (E++H1)->ab R (.tuple #[.agg (fd i g s h),.int .i64 0]) w'):Calls prog 223 #[.pointer p,.agg (vD i g)] w R:=by
 have hS:=hO.fr E H1
 clear hO
 obtain⟨b,pt,v,Et,Ev,rfl,hTt,hL,rfl⟩:=id hT
 simp only[aP] at hS
 have hone:=hL.one
 have hlen:=hL.len
 have hi':=HD hi
 have hg':=HD hg
 have hq:=DL (i:=i) (g:=g)
 clear hi hg
 go_enter func223,ntmps223
 go_wp2_with (first|refine am 259 rfl hS ?_;clear hS;intro b3 w _ hS|refine aq (o:=⟨some 4,_,_,_,_,_⟩) 365 rfl hS ?_;clear hS;intro b4 w _ hS|(first|go_at_call 207;refine dx hS ?_|go_at_call 221;refine pz hS i g hi'.out hg'.out ?_);clear hS;intro w hS;unfold ab|refine au rfl hS ?_)
 refine fR 10 11 zE (fd i g s h) 365 hS ?_
 (refine fV (fun χ w hw=>ad rfl) ?_)
 (refine fV (fun χ w hw=>ah rfl) ?_)
 (refine fV (fun χ w hw=>ag rfl) ?_)
 (refine fV (fun χ w hw=>ac _ _ rfl hw) ?_)
 (refine fV (fun χ w hw=>ag rfl) ?_)
 (refine fV (fun χ w hw=>ac _ _ rfl hw) ?_)
 (refine fV (fun χ w hw=>dS rfl hB hw) ?_)
 (refine fV (fun χ w hw=>ad rfl) ?_)
 (refine fV (fun χ w hw=>aB rfl) ?_)
 (refine fV (fun χ w hw=>aB rfl) ?_)
 (refine rf rfl rfl rfl (fun _=>rfl) ?_)
 (refine re rfl rfl rfl (fun _=>rfl) ?_)
 (refine fV (fun χ w hw=>aG rfl) ?_)
 refine l9 rfl ?_
 intro b6 χ w hb hS
 simp only[hb]
 clear hb χ
 go_wp2_with (first|refine wV (.binOp .neq _ _ _ _) rfl (bK rfl) ?_|refine au rfl hS ?_|refine ak rfl hS ?_;clear hS;intro w hS)
 refine bodyPost_ret (aJ rfl hS) rfl ?_
 exact hR _ (by(try simp only[aP]);exact hS.p)
theorem sW (hB:Mps W As w0 bs Ms)(hO:St w0 bs w H)(hT:fj p T me o E)[hc:Cut H E H1](i g:Int)(hi:0≤i∧i<256)(hg:1≤g∧g≤4294967295)[hM:MapIn Ms me []](hR:∀ w',St w0 bs w' (E++H1)->ab R (.tuple #[.agg zE,.int .i64 7]) w'):Calls prog 223 #[.pointer p,.agg (vD i g)] w R:=by
 have hS:=hO.fr E H1
 clear hO
 obtain⟨b,pt,v,Et,Ev,rfl,hTt,hL,rfl⟩:=id hT
 simp only[aP] at hS
 have hone:=hL.one
 have hlen:=hL.len
 have hi':=HD hi
 have hg':=HD hg
 clear hi hg
 go_enter func223,ntmps223
 go_wp2_with (first|refine am 259 rfl hS ?_;clear hS;intro b3 w _ hS|refine aq (o:=⟨some 4,_,_,_,_,_⟩) 365 rfl hS ?_;clear hS;intro b4 w _ hS|(first|go_at_call 207;refine dx hS ?_|go_at_call 221;refine pz hS i g hi'.out hg'.out ?_);clear hS;intro w hS;unfold ab|refine au rfl hS ?_)
 refine fR 10 11 zE zE 365 hS ?_
 (refine fV (fun χ w hw=>ad rfl) ?_)
 (refine fV (fun χ w hw=>ah rfl) ?_)
 (refine fV (fun χ w hw=>ag rfl) ?_)
 (refine fV (fun χ w hw=>ac _ _ rfl hw) ?_)
 (refine fV (fun χ w hw=>ag rfl) ?_)
 (refine fV (fun χ w hw=>ac _ _ rfl hw) ?_)
 (refine fV (fun χ w hw=>dS rfl hB hw) ?_)
 (refine fV (fun χ w hw=>ad rfl) ?_)
 (refine fV (fun χ w hw=>aB rfl) ?_)
 (refine fV (fun χ w hw=>aB rfl) ?_)
 (refine rf rfl rfl rfl (fun _=>rfl) ?_)
 (refine re rfl rfl rfl (fun _=>rfl) ?_)
 (refine fV (fun χ w hw=>aG rfl) ?_)
 refine l9 rfl ?_
 intro b6 χ w hb hS
 simp only[hb]
 clear hb χ
 go_wp2_with (first|go_skip|refine aL rfl ?_|refine ak rfl hS ?_;clear hS;intro w hS)
 refine bodyPost_ret (aJ rfl hS) rfl ?_
 exact hR _ (by(try simp only[aP]);exact hS.p)
theorem we (hB:Mps W As w0 bs Ms)(hO:St w0 bs w H)(hT:fj p T me o E)[hc:Cut H E H1](i g:Int)(hi:0≤i∧i<256)(hg:1≤g∧g≤4294967295)[hM:MapIn Ms me [(vI i,.agg (fd i g s h))]](hR:∀ w',St w0 bs w' (E++H1)->ab R (.tuple #[.int .i64 1,.int .i64 0]) w'):Calls prog 222 #[.pointer p,.agg (vD i g)] w R:=by
 have hS:=hO.fr E H1
 clear hO
 have hi':=HD hi
 have hg':=HD hg
 clear hi hg
 go_enter func222,ntmps222
 go_wp2_with (first|refine am 259 rfl hS ?_;clear hS;intro b3 w _ hS|refine aq (o:=⟨some 6,_,_,_,_,_⟩) 365 rfl hS ?_;clear hS;intro b6 w _ hS|go_at_call 223;refine pP (s:=s) (h:=h) hB hS hT i g hi'.out hg'.out ?_;clear hS;intro w hS;unfold ab|(first|refine af rfl hS ?_|refine au rfl hS ?_)|refine ak rfl hS ?_;clear hS;intro w hS)
 exact hR _ (by(try simp only[aP]);exact hS.p)
theorem ta (hB:Mps W As w0 bs Ms)(hO:St w0 bs w H)(hT:fj p T me o E)[hc:Cut H E H1](i g:Int)(hi:0≤i∧i<256)(hg:1≤g∧g≤4294967295)[hM:MapIn Ms me []](hR:∀ w',St w0 bs w' (E++H1)->ab R (.tuple #[.int .i64 0,.int .i64 7]) w'):Calls prog 222 #[.pointer p,.agg (vD i g)] w R:=by
 have hS:=hO.fr E H1
 clear hO
 have hi':=HD hi
 have hg':=HD hg
 clear hi hg
 go_enter func222,ntmps222
 go_wp2_with (first|refine am 259 rfl hS ?_;clear hS;intro b3 w _ hS|refine aq (o:=⟨some 6,_,_,_,_,_⟩) 365 rfl hS ?_;clear hS;intro b6 w _ hS|go_at_call 223;refine sW hB hS hT i g hi'.out hg'.out ?_;clear hS;intro w hS;unfold ab|(first|refine af rfl hS ?_|refine au rfl hS ?_)|refine ak rfl hS ?_;clear hS;intro w hS)
 exact hR _ (by(try simp only[aP]);exact hS.p)
theorem mE {r:Array Value}(hO:St w0 bs w H)(hT:fj p T me (some r) E)[hc:Cut H E H1](hR:∀ w',St w0 bs w' (E++H1)->ab R (.int .i64 0) w'):Calls prog 224 #[.pointer p,.int .i64 1] w R:=by
 have hS:=hO.fr E H1
 clear hO
 obtain⟨b,pt,v,Et,Ev,rfl,hTt,hL,rfl⟩:=id hT
 simp only[aP] at hS
 have hone:=hL.one
 have hlen:=hL.len
 have hlen:LenV prog 147 v 1:=hlen
 go_enter func224,ntmps224
 go_wp2_with (first|go_at_call 207;refine dx hS ?_;clear hS;intro w hS;unfold ab|refine wV (.call { callee:=.builtin .len,args:=#[_],argTypes:=#[_] }) rfl (aA rfl) ?_|refine af rfl hS ?_)
 exact hR _ (by(try simp only[aP]);exact hS.p)
theorem mB {r:Array Value}(hB:Mps W As w0 bs Ms)(hO:St w0 bs w H)(hT:fj p T me (some r) E)[hc:Cut H E H1][hM:MapIn Ms me []](hR:∀ w',St w0 bs w' (E++H1)->ab R (.tuple #[.slice none 0 0,.int .i64 0]) w'):Calls prog 250 #[.pointer p,.int .i64 1] w R:=by
 have hS:=hO.fr E H1
 clear hO
 obtain⟨b,pt,v,Et,Ev,rfl,hTt,hL,rfl⟩:=id hT
 simp only[aP] at hS
 have hone:=hL.one
 have hlen:=hL.len
 have hS:St w0 bs w ((⟨b,f6 pt me v,149,true⟩::(Et++Ev))++H1):=by
  simp only[bX];exact hS
 refine(callsIn_wide (n:=3)).1 ?_
 have hF:=bY
 refine callsIn_of_wp_marks func250 rfl trivial ?_ rfl
 simp only[ntmps250,List.size_toArray,List.length_cons,List.length_nil,Nat.reduceAdd,Nat.reduceSub,Array.replicate_succ,Array.replicate_zero,List.push_toArray,List.append_toArray,List.nil_append,List.cons_append]
 gi_wp2_with (first|refine aD (.box 3 _) rfl ?_;refine aa hF rfl rfl (eh _ _ rfl hS ?_);clear hS;intro b3 w _ hS|refine aD (.alloc 50) rfl ?_;refine aa hF rfl rfl (cg _ rfl hS ?_);clear hS;intro b7 w _ hS|gi_at_call 224;refine callsIn_wide.2 (mE hS hT ?_);clear hS;intro w hS;simp only[bX] at hS;unfold ab|gi_at_call 299;refine callsIn_wide.2 (s9 hS ?_);clear hS;intro b1 w hS;unfold ab|refine aa hF rfl rfl (ar (ac _ _ rfl hS) ?_))
 refine ek (by omega) (gf:=355) (lb:=#[.pointer (some ⟨b1,0,none⟩)]) rfl ae hS ?_ ?_
 ·intro y W1 hy k hS1
  have hB1:=hB.step hS k
  exact pT (me:=me) (pt:=pt) (v:=v) y hB1 hS1 (fun w' hS'=>⟨⟨_,rfl⟩,hS'⟩)
 ·intro d W1 hS1 hd
  have hS0:=hS1
  clear hS
  have hS:=hS1.rebase
  clear hS1
  gi_wp2_with (refine aa hF rfl rfl (ar (ac _ _ rfl hS) ?_))
  refine bS hd hS0 hS (fun W3 hS3=>⟨_,gS rfl,?_⟩)
  exact hR W3 (by simp only[bX];exact hS3.p)
theorem wd {u:Value}(hB:Mps W As w0 bs Ms)(hO:St w0 bs w H)(hT:fj p T me o E)[hc:Cut H E H1](i g:Int)[hM:MapIn Ms me [(vI i,u)]][hu:MapUp Ms me [(vI i,u)] [] Ms1](hR:∀ E' w0' bs' w',fj p (ov T i g) me o E'->Mps W As w0' bs' Ms1->St w0' bs' w' (E'++H1)->ab R (.tuple #[]) w'):Calls prog 251 #[.pointer p,.agg (vD i g)] w R:=by
 have hS:=hO.fr E H1
 clear hO
 obtain⟨b,pt,v,Et,Ev,rfl,hTt,hL,rfl⟩:=id hT
 simp only[aP] at hS
 have hone:=hL.one
 have hlen:=hL.len
 go_enter func251,ntmps251
 go_wp2_with (first|refine am 259 rfl hS ?_;clear hS;intro b3 w _ hS|refine aR 9 hS ?_;clear hS;intro w hS;simp only[List.take_succ_cons,List.take_zero,List.drop_succ_cons,List.drop_zero];(repeat (first|refine ax rfl (ac _ _ rfl hS) ?_|still_step));refine wpStill_nil ?_|refine aR 6 hS ?_;clear hS;intro w hS;simp only[List.take_succ_cons,List.take_zero,List.drop_succ_cons,List.drop_zero];(repeat (first|refine ax rfl (ac _ _ rfl hS) ?_|still_step));refine wpStill_nil ?_|refine aF (.call { callee:=.builtin .delete,args:=#[_,_],argTypes:=#[_,_] }) rfl ?_;refine wS (iu rfl hB hS ?_);clear hB hS;intro w hB hS|go_at_call 331;refine SB hS hTt i g ?_;clear hS;intro Et2 w hTt2 hS;unfold ab)
 refine bodyPost_end (results_none rfl _ _ _) rfl ?_
 exact hR _ _ _ _ ⟨b,pt,v,Et2,Ev,rfl,hTt2,hL,rfl⟩ hB (by(try simp only[aP]);exact hS.p)
theorem s7 {r:Array Value}(hB:Mps W As w0 bs Ms)(hO:St w0 bs w H)(hT:fj p T me (some r) E)[hc:Cut H E H1](i g:Int)(hi:0≤i∧i<256)(hg:1≤g∧g≤4294967295)[hM:MapIn Ms me [(vI i,.agg (fd i g s h))]][hu:MapUp Ms me [(vI i,.agg (fd i g s h))] [] Ms1][hM1:MapIn Ms1 me []](hR:∀ E' w0' bs' w',fj p (ov T i g) me (some r) E'->Mps W As w0' bs' Ms1->St w0' bs' w' (E'++H1)->ab R (.tuple #[.int .i64 1,.bool true,.int .i64 0]) w'):Calls prog 228 #[.pointer p,.agg (vD i g)] w R:=by
 have hS:=hO.fr E H1
 clear hO
 have hi':=HD hi
 have hg':=HD hg
 have hlen:LenV prog 50 (.slice none 0 0) 0:=⟨⟨_,_,rfl⟩,⟨259,by kernel_rfl⟩⟩
 clear hi hg
 go_enter func228,ntmps228
 go_wp2_with (first|refine am 259 rfl hS ?_;clear hS;intro b3 w _ hS|refine aq (o:=⟨some 7,_,_,_,_,_⟩) 365 rfl hS ?_;clear hS;intro b7 w _ hS|go_at_call 223;refine pP (s:=s) (h:=h) hB hS hT i g hi'.out hg'.out ?_;clear hS;intro w hS;unfold ab|go_at_call 251;refine wd hB hS hT i g ?_;clear hB hS;intro E2 w0' bs' w hT2 hB hS;unfold ab|go_at_call 250;refine mB hB hS hT2 ?_;clear hS;intro w hS;unfold ab|refine wV (.call { callee:=.builtin .len,args:=#[_],argTypes:=#[_] }) rfl (aA rfl) ?_|(first|refine af rfl hS ?_|refine au rfl hS ?_)|refine ak rfl hS ?_;clear hS;intro w hS)
 refine bodyPost_ret (jH rfl) rfl ?_
 exact hR _ _ _ _ hT2 hB hS.p
theorem sZ {i g st wy:Int}(hO:St w0 bs w H)(hT:fj p T me (some (bJ i g st wy tg)) E)[hc:Cut H E H1](hR:∀ w',St w0 bs w' (E++H1)->ab R (.tuple #[.agg (bJ i g st wy tg),.int .i64 0]) w'):Calls prog 157 #[.pointer p,.int .i64 1] w R:=by
 have hS:=hO.fr E H1
 clear hO
 obtain⟨b,pt,v,Et,Ev,rfl,hTt,hL,rfl⟩:=id hT
 obtain⟨hrs,hro,gx,cap,sp,rfl,hc1,hc2,hc3,rfl⟩:=id hL
 have hix:=qG (g:=gx) (cap:=cap)
 have hce:CellsAt ((bJ i g st wy tg).toList++sp).toArray 0 8 (bJ i g st wy tg):=lO hrs
 have s1:SetsAt #[.int .i64 0,.int .i64 0,.int .u32 0,.int .i64 0,.int .i64 0,.int .i64 0,.int .i64 0,.string { data:=#[] }] 0 (bJ i g st wy tg) (bJ i g st wy tg):=⟨by simp[bJ],by simp[bJ]⟩
 go_enter func157,ntmps157
 go_wp2_with (first|refine aq (o:=⟨some 4,_,_,_,_,_⟩) 314 rfl hS ?_;clear hS;intro b4 w _ hS|go_at_call 224;refine mE hS hT ?_;clear hS;intro w hS;simp only[bX] at hS;unfold ab|refine aM rfl ?_|(first|refine af rfl hS ?_|refine au rfl hS ?_)|refine ak rfl hS ?_;clear hS;intro w hS)
 refine bodyPost_ret (aJ rfl hS) rfl ?_
 exact hR _ (by(try simp only[aP]);exact hS.p)
theorem zC {i g:Int}(hB:Mps W As w0 bs Ms)(hO:St w0 bs w H)(hT:fj p T me (some (bJ i g 1 0 tg)) E)[hc:Cut H E H1](hi:0≤i∧i<64)(hg:1≤g∧g≤4294967295)(htg:TagW tg)[hM:MapIn Ms me []](hR:∀ E' w',fj p T me (some (bJ i g 2 1 tg)) E'->St w0 bs w' (E'++H1)->ab R (.int .i64 0) w'):Calls prog 259 #[.pointer p,.int .i64 1,.agg (bJ i g 2 1 tg)] w R:=by
 have hS:=hO.fr E H1
 clear hO
 have hi':=HD hi
 have hg':=HD hg
 have hqo:=CZ (i:=i) (g:=g)
 have hlen0:LenV prog 50 (.slice none 0 0) 0:=⟨⟨_,_,rfl⟩,⟨259,by kernel_rfl⟩⟩
 have s1:SetsAt #[.int .i64 0,.int .i64 0,.int .u32 0,.int .i64 0,.int .i64 0,.int .i64 0,.int .i64 0,.string { data:=#[] }] 0 (bJ i g 1 0 tg) (bJ i g 1 0 tg):=⟨by simp[bJ],by simp[bJ]⟩
 clear hi hg
 go_enter func259,ntmps259
 go_wp2_with (first|refine am 314 rfl hS ?_;clear hS;intro b5 w _ hS|refine aq (o:=⟨some 7,_,_,_,_,_⟩) 314 rfl hS ?_;clear hS;intro b7 w _ hS|(first|go_at_call 157;refine sZ hS hT ?_|go_at_call 297;refine jG 2 1 (.inr ⟨rfl,rfl⟩) hS hi'.out hg'.out htg ?_|go_at_call 250;refine mB hB hS hT ?_);clear hS;intro w hS;unfold ab|refine wV (.binOp .neq _ _ _ _) rfl (bK rfl) ?_|refine wV (.call { callee:=.builtin .len,args:=#[_],argTypes:=#[_] }) rfl (aA rfl) ?_|(first|refine af rfl hS ?_|refine au rfl hS ?_)|refine ak rfl hS ?_;clear hS;intro w hS)
 obtain⟨b,pt,v,Et,Ev,rfl,hTt,hL,rfl⟩:=id hT
 obtain⟨hrs,hro,gx,cap,sp,rfl,hc1,hc2,hc3,rfl⟩:=id hL
 simp only[aP] at hS
 have hix:=qG (g:=gx) (cap:=cap)
 have hset:SetsAt ((bJ i g 1 0 tg).toList++sp).toArray 0 (bJ i g 2 1 tg) ((bJ i g 2 1 tg).toList++sp).toArray:=Dm hrs rfl
 go_wp2_with (first|refine aR 8 hS ?_;clear hS;intro w hS;simp only[List.take_succ_cons,List.take_zero,List.drop_succ_cons,List.drop_zero];(repeat (first|(first|refine ax rfl (ac _ _ rfl hS) ?_|refine ax rfl (ai _ _ rfl hS) ?_)|refine dn (.binOp .sub _ _ _ _) rfl ?_;refine ax rfl (aC rfl) ?_|refine ax rfl (aY _ _ _ rfl) ?_|still_step));refine wpStill_nil ?_|refine ak rfl hS ?_;clear hS;intro w hS)
 exact hR _ _ ⟨b,pt,_,Et,_,rfl,hTt,⟨rfl,yW,gx,cap,sp,rfl,hc1,hc2,hc3,rfl⟩,rfl⟩ (by(try simp only[aP]);exact hS.p)
end
end Go.Proofs.YtnbgljbhkeffkaaGreatDoor
namespace Go.Mm
open Go Go.RowKit
section
variable {P:Program}{ops:Array Oper}{md:Region.Mode}{X:Type}{C:Gs->(Nat->X)->World->Prop}{m:Nat->Bool}
variable {EE:List Nat->((Nat->X)->Act)->Prop}{k:Nat}{M:List Nat}{o:Oper}{rest:List Oper}{A A' : (Nat->X)->Act}
theorem qO (hw:∀ χ,Region.wanted o (yielded ops (A χ).tmps)=true)(hm:m k=true)(v:X->Value)
  (hv:∀ G χ w,G k=false->(∀ s∈M,dR md ops s k=true->G s=true)->(∀ j,dR md ops k j=true->G j=false)->C G χ w->bB P o (A χ) w (fun u w'=>∃ x,u=v x∧C (up G k true) (up χ k x) w')) [hp:∀ χ,Put (A χ) o.dst (v (χ k)) (A' χ)]
  (h:aX P md ops C m EE (k+1) (k::M) rest A'):aX P md ops C m EE k M (o::rest) A:=by
 refine .inl ⟨hw,fun χ=>v (χ k),fun χ χ' h=>by show v (χ k)=v (χ' k);rw[h k (.inl rfl)],?_,?_⟩
 ·unfold Yy
  rw[if_pos hm]
  intro G χ w hk hM hF hC
  refine(ef (P:=P)).mono _ _ _ _ _ (fun u w' ⟨x,h2,h3⟩=>⟨x,by show u=v (up χ k x k);rw[bT];exact h2,h3⟩) (hv G χ w hk hM hF hC)
 ·rw[if_pos hm,show(fun χ=>(A χ).put o.dst (v (χ k)))=A' from funext fun χ=>(hp χ).h]
  exact h
end
section
variable {P:Program}{o:Oper}{a:Act}{w:World}
theorem jE {t t': TypeId}{x:Operand}(ho:o.op=.binOp .eql t x (.const (.slice none 0 0)) t'){e:TypeId}[ht:SliceT P t e]{n m:Nat}[hx:Ev a x (.slice none n m)] : ay P o a w (.bool true):=by
 have hg:∀ y,(eqGuard .eql t x y (.slice none n m) (.slice none 0 0)).run P w=.ok () w:=fun y=>by simp[eqGuard]
 have hc:a.eval (.const (.slice none 0 0))=.slice none 0 0:=rfl
 have hb:=Lib.run_eql_slice_nil (P:=P) w t e none n m 0 0 ht.h
 unfold ay
 simp only[execOp,ho,hx.h,hc,Sem.run_bind,hg,hb,Result.andThen_ok,Sem.run_pure]
 rfl
end
section
variable {W w0 w:World}{As bs:List Nat}{Ms:List (Nat×List (Value×Value))}{H:List Ent}{P:Program}{o:Oper}{a:Act}{Φ:Value->World->Prop}
theorem ru {tt:TypeId}(ho:o.op=.makeMap tt none)(hB:Mps W As w0 bs Ms)(hS:St w0 bs w H)
  (h:∀ M w',Mps W As w' (wl H) ((M,[])::Ms)->St w' (wl H) w' H->Φ (.map (some M)) w'):bB P o a w Φ:=by
 obtain⟨h1,h2⟩:=hB.made hS #[] 0 (by simp)
 have hr:(execOp a.eval o).run P w=.ok (.value (.map (some w.heap.size))) (w.alloc (.map #[] 0)):=by
  simp only[execOp,ho,Instr.makeMap,newObj,Sem.run_bind,Sem.run_pure,Result.andThen_ok]
  rfl
 unfold bB
 rw[hr]
 exact h _ _ h1 h2
end
end Go.Mm
namespace Go.Proofs.YtnbgljbhkeffkaaGreatDoor
open Go.RowKit Go.Mm
variable {R:Ending->World->Prop}{w W:World}{w0:World}{As bs:List Nat}{H H' H1 H2 H3 E E' E1 E2 Ea Eh Er:List Ent}
variable {Ms Ms1 Ms2 Ms3:dF}
section
variable {p:Option Addr}{T:Tb}{me:Nat}{o:Option (Array Value)}{i g s h:Int}{tg:ByteArray}
theorem s8 {v:Value}(hO:St w0 bs w H)(hL:LS v o E)[hc:Cut H E H1](hR:∀ v' E' w',LS v' o E'->St w0 bs w' (E'++(E++H1))->ab R v' w'):Calls prog 366 #[v] w R:=by
 have hS:=hO.fr E H1
 clear hO
 cases o with
 | none=>
  obtain⟨rfl,rfl⟩:=id hL
  go_enter func366,ntmps366
  go_wp2_with (refine aF (.binOp .eql _ _ (.const (.slice none _ _)) _) rfl ?_;refine wU (jE rfl) ?_)
  exact hR _ [] _ ⟨rfl,rfl⟩ hS.p
 | some r=>
  obtain⟨hrs,hro,gx,cap,sp,rfl,hc1,hc2,hc3,rfl⟩:=id hL
  have i1:CellsAt (r.toList++sp).toArray 0 8 r:=lO hrs
  simp only[cq] at hS
  go_enter func366,ntmps366
  go_wp2_with (first|refine aF (.buildSlice _ 0 _) rfl ?_;refine wS (pX rfl hS ?_);clear hS;intro bz w _ hS|refine aF (.call { callee:=.builtin .append,args:=#[_,_],argTypes:=#[_,_] }) rfl ?_;refine wS (eW (k:=8) _ _ _ _ rfl rfl hS (by rfl) pZ (by rfl) (by simp only[maxLen];omega) (by omega) ?_);clear hS;intro v' E' w hsl' hne hS|refine aF (.binOp .eql _ _ (.const (.slice none _ _)) _) rfl ?_;refine wU (qa rfl) ?_)
  obtain⟨g2,cap2,sp2,rfl,rfl,k1,k2,k3⟩:=hsl'.some (by decide)
  simp only[List.nil_append,List.cons_append] at hS
  exact hR _ [⟨g2,(r.toList++sp2).toArray,314,true⟩] _ ⟨hrs,hro,g2,cap2,sp2,rfl,k1,k2,by simpa [hrs] using k3,rfl⟩ hS.p
structure CpX where
 p:Option Addr
 E:List Ent
 x:Option Addr
 n:Nat
 c:Nat
 m:Nat
instance :Inhabited CpX:=⟨⟨none,[],none,0,0,0⟩⟩
def cpTb (W:World)(As:List Nat)(Ms:dF)(T:Tb)(o:Option (Array Value))(HH:List Ent):Gs->(Nat->CpX)->World->Prop:=fun G χ w=>
 (G 4=true->TA (χ 4).p (sL T) (χ 4).E)∧(G 10=true->LS (.slice (χ 10).x (χ 10).n (χ 10).c) o (χ 10).E) ∧
 Jm W As (if G 5 then ((χ 5).m,[])::Ms else Ms) ((if G 12 then [⟨(χ 12).m,f6 (χ 4).p (χ 5).m (.slice (χ 10).x (χ 10).n (χ 10).c),149,true⟩] else [])++((if G 10 then (χ 10).E else [])++((if G 4 then (χ 4).E else [])++HH))) w
def DN:Nat->Bool:=fun i=>i == 4 || (i == 5 || (i == 10 || i == 12))
theorem cpTb.st {W:World}{As:List Nat}{Ms:dF}{T:Tb}{o:Option (Array Value)}{HH:List Ent}{G:Gs}{χ:Nat->CpX}{w:World}(h:cpTb W As Ms T o HH G χ w):∃ w0 bs,St w0 bs w HH:=by
 obtain⟨_,_,w0,bs,_,hS⟩:=h
 exact⟨w0,bs,cB (cB (cB hS))⟩
theorem pQ (hB:Mps W As w0 bs Ms)(hO:St w0 bs w H)(hT:fj p T me o E)[hc:Cut H E H1](l:List (Value×Value))(hl:l=[]∨∃ i g s h,l=[(vI i,.agg (fd i g s h))])[hM:MapIn Ms me l]
  (hR:∀ b w0' bs' w',Mps W As w0' bs' Ms->St w0' bs' w' (E++H1)->ab R (.pointer (some ⟨b,0,none⟩)) w'):Calls prog 320 #[.pointer p] w R:=by
 have hS:=hO.fr E H1
 clear hO
 obtain⟨b,pt,v,Et,Ev,rfl,hTt,hL,rfl⟩:=id hT
 simp only[aP] at hS
 have hone:=hL.one
 go_enter func320,ntmps320
 go_wp2_with (go_at_call 207;refine dx hS ?_;clear hS;intro w hS;unfold ab)
 refine dP (X:=CpX) (cpTb W As Ms T o (⟨b,f6 pt me v,149,true⟩::(Et++(Ev++H1)))) DN (by kernel_rfl) (by kernel_rfl) ⟨(fun h=>by cases h),(fun h=>by cases h),w0,bs,hB,hS.drawn _⟩ ?_
 (refine eI (fun _=>rfl) rfl (fun G χ w _ _=>ad rfl) ?_)
 (refine eI (fun _=>rfl) rfl (fun G χ w _ _=>ah rfl) ?_)
 (refine eI (fun _=>rfl) rfl (fun G χ w _ _=>ag rfl) ?_)
 (refine eI (fun _=>rfl) rfl (fun G χ w _ hC=>by obtain⟨w0,bs,hw⟩:=cpTb.st hC;exact ac _ _ rfl hw) ?_)
 refine qO (fun _=>rfl) rfl (fun x=>.pointer x.p) (fun G χ w hk hGM hF hC=>?_) ?_
 ·have h10:G 10=false:=hF 10 (by kernel_rfl)
  have h12:G 12=false:=hF 12 (by kernel_rfl)
  obtain⟨_,_,w0,bs,hB,hS⟩:=hC
  simp only[hk,h10,h12,Bool.false_eq_true,if_false,List.nil_append] at hS
  refine aw rfl ae (gN hS hTt (fun p' E' w' g1 _ g3=>⟨_,rfl,⟨p',E',none,0,0,0⟩,rfl,fun _=>g1,fun hq=>?_,w0,bs,?_,?_⟩))
  ·rw[show up G 4 true 10=G 10 from rfl,h10] at hq;cases hq
  ·exact hB
  ·simp only[show up G 4 true 10=G 10 from rfl,show up G 4 true 12=G 12 from rfl,show up G 4 true 4=true from rfl,h10,h12,Bool.false_eq_true,if_false,if_true,List.nil_append]
   exact(show St w0 bs w' (E'++(⟨b,f6 pt me v,149,true⟩::(Et++(Ev++H1)))) from g3.p)
 refine qO (fun _=>rfl) rfl (fun x=>.map (some x.m)) (fun G χ w hk hGM hF hC=>?_) ?_
 ·have h12:G 12=false:=hF 12 (by kernel_rfl)
  obtain⟨f1,f2,w0,bs,hB,hS⟩:=hC
  simp only[hk,h12,Bool.false_eq_true,if_false,List.nil_append] at hS hB
  refine ru rfl hB hS (fun N w' g1 g2=>⟨⟨none,[],none,0,0,N⟩,rfl,f1,f2,w',_,g1,?_⟩)
  simp only[show up G 5 true 12=G 12 from rfl,h12,Bool.false_eq_true,if_false,List.nil_append]
  exact g2
 (refine eI (fun _=>rfl) rfl (fun G χ w _ _=>ad rfl) ?_)
 (refine eI (fun _=>rfl) rfl (fun G χ w _ _=>ah rfl) ?_)
 (refine eI (fun _=>rfl) rfl (fun G χ w _ _=>ag rfl) ?_)
 (refine eI (fun _=>rfl) rfl (fun G χ w _ hC=>by obtain⟨w0,bs,hw⟩:=cpTb.st hC;exact ac _ _ rfl hw) ?_)
 refine qO (fun _=>rfl) rfl (fun x=>.slice x.x x.n x.c) (fun G χ w hk hGM hF hC=>?_) ?_
 ·have h4:G 4=true:=hGM 4 (by simp) (by kernel_rfl)
  have h12:G 12=false:=hF 12 (by kernel_rfl)
  obtain⟨f1,_,w0,bs,hB,hS⟩:=hC
  simp only[hk,h4,h12,Bool.false_eq_true,if_false,if_true,List.nil_append] at hS
  have hS:St w0 bs w (Ev++((χ 4).E++(⟨b,f6 pt me v,149,true⟩::(Et++H1)))):=hS.p
  refine aw rfl ae (s8 hS hL (fun v' E' w' g1 g3=>?_))
  obtain⟨x,n,c,rfl⟩:∃ x n c,v'=.slice x n c:=by
   cases o with
   | none=>exact⟨_,_,_,g1.1⟩
   | some r=>obtain⟨_,_,_,_,_,q,_⟩:=g1;exact⟨_,_,_,q⟩
  refine⟨_,rfl,⟨none,E',x,n,c,0⟩,rfl,f1,fun _=>g1,w0,bs,hB,?_⟩
  simp only[show up G 10 true 10=true from rfl,show up G 10 true 12=G 12 from rfl,show up G 10 true 4=G 4 from rfl,h4,h12,Bool.false_eq_true,if_false,if_true,List.nil_append]
  exact(show St w0 bs w' (E'++((χ 4).E++(⟨b,f6 pt me v,149,true⟩::(Et++(Ev++H1))))) from g3.p)
 refine lW (fun _=>rfl) rfl (fun χ=>.agg (f6 (χ 4).p (χ 5).m (.slice (χ 10).x (χ 10).n (χ 10).c))) (fun χ χ' h=>?_) (fun G χ w _ _=>bQ _ _ rfl) ?_
 ·simp only
  rw[h 4 (.inr (by kernel_rfl)),h 5 (.inr (by kernel_rfl)),h 10 (.inr (by kernel_rfl))]
 refine qO (fun _=>rfl) rfl (fun x=>.pointer (some ⟨x.m,0,none⟩)) (fun G χ w hk hGM hF hC=>?_) ?_
 ·have h4:G 4=true:=hGM 4 (by simp) (by kernel_rfl)
  have h10:G 10=true:=hGM 10 (by simp) (by kernel_rfl)
  obtain⟨f1,f2,w0,bs,hB,hS⟩:=hC
  simp only[hk,h4,h10,Bool.false_eq_true,if_false,if_true,List.nil_append] at hS
  refine fp rfl hS (fun bn w' _ g=>⟨⟨none,[],none,0,0,bn⟩,rfl,f1,f2,w0,bs,hB,?_⟩)
  simp only[show up G 12 true 12=true from rfl,show up G 12 true 10=G 10 from rfl,show up G 12 true 4=G 4 from rfl,h4,h10,if_true]
  exact g
 refine lW (fun _=>rfl) rfl (fun χ=>.pointer (some ⟨(χ 12).m,0,none⟩)) (qP (j:=12) (by kernel_rfl) (fun x:CpX=>.pointer (some ⟨x.m,0,none⟩))) (fun G χ w _ _=>aG rfl) ?_
 intro χ G w hG hC
 have h4:G 4=true:=hG 4 (by simp[DN])
 have h5:G 5=true:=hG 5 (by simp[DN])
 have h10:G 10=true:=hG 10 (by simp[DN])
 have h12:G 12=true:=hG 12 (by simp[DN])
 obtain⟨f1,f2,w0,bs,hB,hS⟩:=hC
 simp only[h4,h5,h10,h12,if_true] at hS hB
 replace f1:=f1 h4
 replace f2:=f2 h10
 clear hG h4 h5 h10 h12
 simp only[Nat.zero_add,Nat.reduceAdd]
 generalize χ 12=x12 at hS ⊢
 generalize χ 4=x4 at hS f1 ⊢
 generalize χ 5=x5 at hS hB ⊢
 generalize χ 10=x10 at hS f2 ⊢
 obtain⟨_,_,_,_,_,bn⟩:=x12
 obtain⟨p4,E4,_,_,_,_⟩:=x4
 obtain⟨_,_,_,_,_,N⟩:=x5
 obtain⟨_,E10,sx,sn,sc,_⟩:=x10
 simp only at hS f1 f2 hB
 have hS:St w0 bs w (⟨bn,f6 p4 N (.slice sx sn sc),149,true⟩::⟨b,f6 pt me v,149,true⟩::(Et++(Ev++H1))):=hS.p
 clear χ
 have hNme:N≠me:=fun hq=>by
  have hnd:=hB.nd
  rw[List.pairwise_cons] at hnd
  exact hnd.1 _ hM.h hq
 go_wp2_with (first|refine wS (pW rfl hB hS ?_);clear hB hS;intro rI w hI hB hS|refine af rfl hS ?_)
 have hI0:=hI
 have hB0:=hB
 have hS0:=hS
 clear hI hB hS
 go_loopw [4] (fun _ wr=>(∃ w0 bs,Itr W w0 bs rI me l false∧Mps W As w0 bs ((N,[])::Ms)∧St w0 bs wr (⟨bn,f6 p4 N (.slice sx sn sc),149,true⟩::⟨b,f6 pt me v,149,true⟩::(Et++(Ev++H1)))) ∨
   ∃ y u w0 bs,l=[(y,u)]∧Itr W w0 bs rI me l true∧Mps W As w0 bs ((N,[(y,u)])::Ms)∧St w0 bs wr (⟨bn,f6 p4 N (.slice sx sn sc),149,true⟩::⟨b,f6 pt me v,149,true⟩::(Et++(Ev++H1)))) (fun _ wr=>j7 wr me rI)
 case atStart=>exact .inl ⟨_,_,hI0,hB0,hS0⟩
 case round=>
  clear hI0 hB0 hS0
  rcases hrel with ⟨w0,bs,hI,hB,hS⟩|⟨y,u,w0,bs,rfl,hI,hB,hS⟩
  ·rcases hl with rfl|⟨i,g,s,h,rfl⟩
   ·go_wp2_with (refine wS (jz rfl hI (.inr rfl) hS ?_))
    exact hR _ _ _ _ hB.drop (by(try simp only[aP]);exact hS.p)
   ·have hlf:=(hI.now hS).left0
    go_wp2_with (first|refine wS (th rfl hB hI hS ?_);clear hB hI hS;intro w hI hB hS|refine wS (wt rfl hI hS ?_)|refine aq 365 rfl hS ?_;clear hS;intro b5 w _ hS|refine aR 6 hS ?_;clear hS;intro w hS;simp only[List.take_succ_cons,List.take_zero,List.drop_succ_cons,List.drop_zero];(repeat (first|(first|refine ax rfl (ac _ _ rfl hS) ?_|refine ax rfl (ai _ _ rfl hS) ?_)|still_step));refine wpStill_nil ?_|refine wS (ti rfl hI hNme hB hS ?_);clear hB hI hS;intro w hI hB hS|refine ak rfl hS ?_;clear hS;intro w hS)
    go_roundw
    case rel=>exact .inr ⟨_,_,_,_,rfl,hI,hB,hS.p⟩
    case measure=>
     have:=(hI.now hS).left1
     simp only[List.length_cons,List.length_nil] at hlf
     omega
  ·go_wp2_with (refine wS (jz rfl hI (.inl rfl) hS ?_))
   exact hR _ _ _ _ hB.drop (by(try simp only[aP]);exact hS.p)
theorem mA (hO:St w0 bs w H)(hT:fj p T me none E)[hc:Cut H E H1](k:Int)(hR:∀ w',St w0 bs w' (E++H1)->ab R (.slice none 0 0) w'):Calls prog 169 #[.pointer p,.int .i64 k] w R:=by
 have hS:=hO.fr E H1
 clear hO
 obtain⟨b,pt,v,Et,Ev,rfl,hTt,hL,rfl⟩:=id hT
 obtain⟨rfl,rfl⟩:=id hL
 simp only[List.cons_append,List.nil_append,List.append_assoc,List.append_nil] at hS
 have hlen:LenV prog 147 (.slice none 0 0) 0:=⟨⟨_,_,rfl⟩,⟨314,by kernel_rfl⟩⟩
 go_enter func169,ntmps169
 go_wp2_with (first|go_at_call 207;refine dx hS ?_;clear hS;intro w hS;unfold ab|refine wV (.call { callee:=.builtin .len,args:=#[_],argTypes:=#[_] }) rfl (aA rfl) ?_|refine af rfl hS ?_)
 have hS0:=hS
 clear hS
 go_loopw [16,5] (fun u x wr=>u=.int .i64 0∧x=.slice none 0 0∧St w0 bs wr (⟨b,f6 pt me (.slice none 0 0),149,true⟩::(Et++H1))) (fun _ _ _=>0)
 case atStart=>exact⟨rfl,rfl,hS0⟩
 case round=>
  clear hS0
  obtain⟨rfl,rfl,hS⟩:=hrel
  go_wp2_with (go_skip)
  exact hR _ (by simp only[List.append_nil,List.cons_append];exact hS)
theorem oD {i g st wy:Int}(hO:St w0 bs w H)(hT:fj p T me (some (bJ i g st wy tg)) E)[hc:Cut H E H1](k:Int)(q:Bool)(hq:decide (st=k)=q)(hR:∀ v' E' w',IS v' (if q then [1] else []) E'->St w0 bs w' (E'++(E++H1))->ab R v' w'):Calls prog 169 #[.pointer p,.int .i64 k] w R:=by
 have hS:=hO.fr E H1
 clear hO
 obtain⟨b,pt,v,Et,Ev,rfl,hTt,hL,rfl⟩:=id hT
 obtain⟨hrs,hro,gx,cap,sp,rfl,hc1,hc2,hc3,rfl⟩:=id hL
 simp only[aP] at hS
 have hlen:LenV prog 147 (.slice (some ⟨gx,0,none⟩) 1 cap) 1:=hL.len
 have hix:=qG (g:=gx) (cap:=cap)
 have hce:CellsAt ((bJ i g st wy tg).toList++sp).toArray 0 8 (bJ i g st wy tg):=lO hrs
 have s1:SetsAt #[.int .i64 0,.int .i64 0,.int .u32 0,.int .i64 0,.int .i64 0,.int .i64 0,.int .i64 0,.string { data:=#[] }] 0 (bJ i g st wy tg) (bJ i g st wy tg):=⟨by simp[bJ],by simp[bJ]⟩
 have d1:(st == k)=q:=by rw[← hq];by_cases h:st=k <;> simp[h]
 have hsl:Sl 3 1 (.slice none 0 0) 0 [] []:=fu
 go_enter func169,ntmps169
 go_wp2_with (first|go_at_call 207;refine dx hS ?_;clear hS;intro w hS;unfold ab|refine wV (.call { callee:=.builtin .len,args:=#[_],argTypes:=#[_] }) rfl (aA rfl) ?_|refine af rfl hS ?_)
 have hS0:=hS
 clear hS
 go_loopw [16,5] (fun u x wr=>(u=.int .i64 0∧x=.slice none 0 0∧St w0 bs wr (⟨b,f6 pt me (.slice (some ⟨gx,0,none⟩) 1 cap),149,true⟩::(Et++(⟨gx,((bJ i g st wy tg).toList++sp).toArray,314,true⟩::H1)))) ∨
  ∃ E',u=.int .i64 1∧IS x (if q then [1] else []) E'∧St w0 bs wr (E'++(⟨b,f6 pt me (.slice (some ⟨gx,0,none⟩) 1 cap),149,true⟩::(Et++(⟨gx,((bJ i g st wy tg).toList++sp).toArray,314,true⟩::H1))))) (fun u _ _=>1 - (intOf u).toNat)
 case atStart=>exact .inl ⟨rfl,rfl,hS0⟩
 case round=>
  clear hS0
  rcases hrel with ⟨rfl,rfl,hS⟩|⟨E',rfl,hI,hS⟩
  ·cases q with
   | true=>
    go_wp2_with (first|refine aq 314 rfl hS ?_;clear hS;intro b7 w _ hS|refine f5 1 [(0,_)] rfl hS (by decide) rfl (by decide) (by decide) ?_;clear hS;intro bN w hbN hS|(refine aF (.call { callee:=.builtin .append,args:=#[_,_],argTypes:=#[_,_] }) rfl ?_;refine wS (eW (k:=1) _ _ _ _ rfl rfl hS (by rfl) hsl (by rfl) (by decide) (by decide) ?_);clear hS;intro v' E' w hsl' hne hS;have hone:=hsl'.one)|refine aM rfl ?_|(first|refine af rfl hS ?_|refine au rfl hS ?_)|refine ak rfl hS ?_;clear hS;intro w hS)
    go_roundw
    case rel=>exact .inr ⟨_,by go_num,by simpa [IS,sb] using hsl',hS.p⟩
    case measure=>simp[intOf]
   | false=>
    go_wp2_with (first|refine aq 314 rfl hS ?_;clear hS;intro b7 w _ hS|refine aM rfl ?_|(first|refine af rfl hS ?_|refine au rfl hS ?_)|refine ak rfl hS ?_;clear hS;intro w hS)
    go_roundw
    case rel=>exact .inr ⟨[],by go_num,IS.nil,hS.p⟩
    case measure=>simp[intOf]
  ·go_wp2_with (go_skip)
   exact hR _ _ _ hI (by(try simp only[aP]);exact hS.p)
end
end Go.Proofs.YtnbgljbhkeffkaaGreatDoor
