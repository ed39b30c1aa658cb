/-
  Contracts of what the law TopPasses reaches, part 11: RefSl Vars VarsB Sta.
-/
import Derived.Test.YtnbgljbhkeffkaaGreatDoorQ06
import Derived.ChangeKeysEq
import Derived.Test.YtnbgljbhkeffkaaGreatDoorQ05
open Go.Proofs.Tryz
set_option linter.unusedVariables false
set_option linter.unusedSimpArgs false
set_option maxHeartbeats 4000000
set_option maxRecDepth 100000
namespace Go.Proofs.YtnbgljbhkeffkaaGreatDoor
open Go.RowKit Go.Mm
variable {R:Ending->World->Prop}{w:World}{w0:World}{bs:List Nat}{H H' H1 H2 E E1 E2:List Ent}{l l1 l2:List (Int×Int)}{v v1 v2:Value}
def OC (l:List (Int×Int))(x:Int×Int):Int:=match firstOf (fun i=>cd x.1 x.2 (l.getD i (0,0)).1 (l.getD i (0,0)).2) l.length with
 | some i=>i
 | none=>-1
theorem kQ {b off m c:Nat}{cs:Array Value}{T:TypeId}(hO:St w0 bs w H)[hH:Has H b cs T](hlm:l.length=m)(hc:CellsAt cs off (m * 2) (l.flatMap dE).toArray)(hm:m≤1000)
  (hR:∀ v' E' w',RS v' l E'->St w0 bs w' (E'++H)->ab R v' w'):Calls prog 351 #[.slice (some ⟨b,off,none⟩) m c] w R:=by
 have hS:=hO
 clear hO
 have hones:OneCells (l.flatMap dE).toArray:=⟨by
  intro u hu
  simp only[List.mem_flatMap] at hu
  obtain⟨x,_,hx⟩:=hu
  exact gM x u hx⟩
 obtain⟨k,hk⟩:∃ k,m * 2=k:=⟨_,rfl⟩
 rw[hk] at hc
 go_enter func351,ntmps351
 go_wp2_with (first|refine aF (.binOp .eql _ _ (.const (.slice none _ _)) _) rfl ?_;refine wU (qa rfl) ?_|refine aF (.buildSlice _ 0 _) rfl ?_;refine bI rfl (pX rfl hS ?_);clear hS;intro bz w hbz hS|(refine aF (.call { callee:=.builtin .append,args:=#[_,_],argTypes:=#[_,_] }) rfl ?_;refine bI rfl (eW _ _ _ _ rfl rfl hS (by rfl) pZ hk (by simp only[maxLen];omega) (by omega) ?_);clear hS;intro v' E' w hsl' hne hS;have hone:=hsl'.one))
 refine hR _ E' _ ?_ hS.p
 unfold RS
 rw[hlm]
 simpa using hsl'
open Go.RowKit Go.Mm
variable {R:Ending->World->Prop}{w:World}{w0:World}{bs:List Nat}{H H' H1 E:List Ent}{L:List (Int×Int)}{m:Bool}
abbrev Gt:=Option (Bool×List (Int×Int))
def vN:Gt->Bool
 | some (true,_)=>true
 | _=>false
def vL:Gt->List (Int×Int)
 | some (_,L)=>L
 | none=>[]
def ou (i:Int):Bool:=decide (0≤i) && decide (i<8)
def vE (T:Gt)(i:Int):Int:=if vN T then (if ou i then 0 else 3) else 1
def ow (T:Gt)(i:Int):Int×Int:=if vE T i=0 then (vL T).getD i.toNat (0,0) else (0,0)
def mW (T:Gt)(i:Int)(r:Int×Int):Int:=if vN T then (if fc r then 2 else vE T i) else 1
def BT (T:Gt)(i:Int)(r:Int×Int):Int×Int:=if mW T i r=0 then (vL T).getD i.toNat (0,0) else (0,0)
def BS (T:Gt)(i:Int)(r:Int×Int):Gt:=if mW T i r=0 then some (true,(vL T).set i.toNat r) else T
def zn (T:Gt):List (Int×Int):=(vL T).filter f8
def PX (T:Gt):Gt:=if vN T then T else none
def zero8:List (Int×Int):=List.replicate 8 (0,0)
def N1:Gt:=some (true,zero8)
theorem lQ {i:Int}(h:ou i=true):∃ k:Nat,i=k∧k<8∧i.toNat=k:=by
 simp[ou] at h
 exact⟨i.toNat,by omega,by omega,rfl⟩
theorem A5 {i:Int}(h:ou i=false):i<0∨8≤i:=by
 simp[ou] at h
 omega
theorem BC (r:Int×Int):vy 1 [r,(0,0),(0,0),(0,0)] false=if fc r then 2 else 0:=by
 have e:qs 1 [r,(0,0),(0,0),(0,0)] false=!fc r:=by
  unfold qs
  cases hn:f8 r with
  | true=>
   have hg:gl (ib [r,(0,0),(0,0),(0,0)]) 4=[0]:=by
    have h0:ib [r,(0,0),(0,0),(0,0)] 0=true:=hn
    have h1:ib [r,(0,0),(0,0),(0,0)] 1=false:=rfl
    have h2:ib [r,(0,0),(0,0),(0,0)] 2=false:=rfl
    have h3:ib [r,(0,0),(0,0),(0,0)] 3=false:=rfl
    rw[eS h3,eS h2,eS h1,Sv h0];rfl
   rw[hg]
   simp[fi]
  | false=>
   have hg:gl (ib [r,(0,0),(0,0),(0,0)]) 4=[]:=by
    have h0:ib [r,(0,0),(0,0),(0,0)] 0=false:=hn
    have h1:ib [r,(0,0),(0,0),(0,0)] 1=false:=rfl
    have h2:ib [r,(0,0),(0,0),(0,0)] 2=false:=rfl
    have h3:ib [r,(0,0),(0,0),(0,0)] 3=false:=rfl
    rw[eS h3,eS h2,eS h1,eS h0];rfl
   rw[hg]
   simp[fc,hn]
 unfold vy
 rw[e]
 cases fc r <;> rfl
def li (m:Bool)(L:List (Int×Int)):Array Value:=cX [.bool m] dE L []
instance Mc:CellAt (li m L) 0 (.bool m):=cz rfl
instance Pn:AggT prog 200 16:=⟨by kernel_rfl,by kernel_rfl⟩
instance Hk:BuildT prog 202 [(0,.bool true)] (li true zero8):=⟨fun w=>by kernel_rfl⟩
instance LN {s g:Int} : BuildT prog 193 [(0,.agg #[.int .i64 s,.int .u32 g])] (nE [(s,g),(0,0),(0,0),(0,0)]):=⟨fun w=>by kernel_rfl⟩
instance LM {s g:Int} : BuildT prog 195 [(0,.int .i64 1),(1,.agg (nE [(s,g),(0,0),(0,0),(0,0)]))] (aN 1 [(s,g),(0,0),(0,0),(0,0)] false):=⟨fun w=>by kernel_rfl⟩
theorem pK {i:Nat}{x:Int×Int}(h:L[i]?=some x):CellsAt (li m L) (1+i * 2) 2 #[.int .i64 x.1,.int .u32 x.2]:=cK aW h rfl
theorem zu {i:Nat}(h:i<L.length)(s g:Int):SetsAt (li m L) (1+i * 2) #[.int .i64 s,.int .u32 g] (li m (L.set i (s,g))):=fX aW (a':=(s,g)) h rfl
theorem eT {i:Nat}(h:i<L.length){x:Int×Int}(hx:L.getD i (0,0)=x):L[i]?=some x:=by
 rw[← hx,List.getD_eq_getElem?_getD,List.getElem?_eq_getElem h];rfl
def GA (p:Option Addr)(T:Gt)(E:List Ent):Prop:=
 match T with
 | none=>p=none∧E=[]
 | some (m,L)=>L.length=8∧(m=false->L=zero8)∧∃ b,p=some ⟨b,0,none⟩∧E=[⟨b,li m L,202,true⟩]
theorem Be (hO:St w0 bs w H)(hR:∀ p E w',GA p N1 E->St w0 bs w' (E++H)->ab R (.pointer p) w'):Calls prog 41 #[] w R:=by
 have hS:=hO
 go_enter func41,ntmps41
 go_wp2_with (first|refine aL rfl ?_|refine am _ rfl hS ?_;clear hS;intro bN w hbN hS)
 exact hR _ _ _ ⟨rfl,fun h=>(by cases h),_,rfl,rfl⟩ hS
theorem et {p:Option Addr}{T:Gt}(hO:St w0 bs w H)(hT:GA p T E)[hc:Cut H E H1]{i:Int}(e:Int)(he:vE T i=e)
  (hR:∀ w',GA p T E->St w0 bs w' (E++H1)->ab R (.int .i64 e) w'):Calls prog 194 #[.pointer p,.int .i64 i] w R:=by
 have hS:=hO.fr E H1
 clear hO
 subst he
 replace hR:∀ w',St w0 bs w' (E++H1)->ab R (.int .i64 (vE T i)) w':=fun w'=>hR w' hT
 rcases T with _|⟨m,L⟩
 ·obtain⟨rfl,rfl⟩:=hT
  simp only[List.nil_append] at hS
  go_enter func194,ntmps194
  go_wp2_with (go_skip)
  exact hR _ hS.p
 obtain⟨_,_,b,rfl,rfl⟩:=hT
 simp only[cq] at hS
 cases m with
 | false=>
  go_enter func194,ntmps194
  go_wp2_with (refine af rfl hS ?_)
  exact hR _ hS.p
 | true=>
  cases hin:ou i with
  | true=>
   simp only[vE,vN,hin,if_true] at hR
   obtain⟨k,rfl,hk,_⟩:=lQ hin
   have q1:decide ((k:Int)<0)=false:=DF
   have q2:decide (8≤(k:Int))=false:=DF
   clear hin
   go_enter func194,ntmps194
   go_wp2_with (refine af rfl hS ?_)
   exact hR _ hS.p
  | false=>
   simp only[vE,vN,hin,if_true,Bool.false_eq_true,if_false] at hR
   by_cases h0:i<0
   ·have q1:decide (i<0)=true:=decide_eq_true h0
    clear hin
    go_enter func194,ntmps194
    go_wp2_with (refine af rfl hS ?_)
    exact hR _ hS.p
   ·have q1:decide (i<0)=false:=decide_eq_false h0
    have q2:decide (8≤i)=true:=decide_eq_true (by have:=A5 hin;omega)
    clear hin
    go_enter func194,ntmps194
    go_wp2_with (refine af rfl hS ?_)
    exact hR _ hS.p
theorem lj {T:Gt}{i:Int}(h:vE T i=0):∃ L k,T=some (true,L)∧i=((k:Nat):Int)∧k<8∧i.toNat=k:=by
 rcases T with _|⟨m,L⟩
 ·cases h
 ·cases m with
  | false=>cases h
  | true=>
   simp only[vE,vN,if_true] at h
   cases hin:ou i with
   | true=>obtain⟨k,h1,h2,h3⟩:=lQ hin;exact⟨L,k,rfl,h1,h2,h3⟩
   | false=>rw[hin] at h;cases h
theorem Bg {p:Option Addr}{T:Gt}(hO:St w0 bs w H)(hT:GA p T E)[hc:Cut H E H1](i:Int)(r:Int×Int)(e:Int)(hr:ow T i=r)(he:vE T i=e)
  (hR:∀ w',GA p T E->St w0 bs w' (E++H1)->ab R (.tuple #[.agg #[.int .i64 r.1,.int .u32 r.2],.int .i64 e]) w'):Calls prog 132 #[.pointer p,.int .i64 i] w R:=by
 have hS:=hO.fr E H1
 clear hO
 by_cases h0:vE T i=0
 ·obtain rfl:e=0:=he.symm.trans h0
  obtain⟨L,k,rfl,rfl,hk,hk'⟩:=lj h0
  obtain⟨h8,hm,b,rfl,rfl⟩:=id hT
  unfold ow at hr
  rw[if_pos h0,hk'] at hr
  have hb:=pK (m:=true) (eT (L:=L) (i:=k) (by omega) hr)
  simp only[cq] at hS
  have he':=HD h0
  have h8I:(k:Int)<8:=by omega
  clear h0 hr he
  go_enter func132,ntmps132
  go_wp2_with (first|go_at_call 194;refine et hS hT 0 he'.out ?_;clear hS;intro w _ hS;simp only[cq] at hS;unfold ab|refine au rfl hS ?_|refine ak rfl hS ?_;clear hS;intro w hS|refine aq _ rfl hS ?_;clear hS;intro bN w hbN hS)
  refine bodyPost_ret (aJ rfl hS) rfl ?_
  exact hR _ hT hS.p
 ·have q:(e != 0)=true:=by rw[← he];simpa using h0
  obtain rfl:r=(0,0):=by rw[← hr];unfold ow;rw[if_neg h0]
  have he':=HD he
  clear h0 hr he
  go_enter func132,ntmps132
  go_wp2_with (first|go_at_call 194;refine et hS hT e he'.out ?_;clear hS;intro w _ hS;unfold ab|refine aL rfl ?_|refine ak rfl hS ?_;clear hS;intro w hS|refine aq _ rfl hS ?_;clear hS;intro bN w hbN hS)
  refine bodyPost_ret (aJ rfl hS) rfl ?_
  exact hR _ hT hS.p
theorem kh {s g:Int}(hO:St w0 bs w H)(hg:0≤g∧g≤4294967295)(e:Int)(he:(if fc (s,g) then 2 else 0)=e)(hR:∀ w',St w0 bs w' H->ab R (.int .i64 e) w') :
  Calls prog 178 #[.agg (aN 1 [(s,g),(0,0),(0,0),(0,0)] false)] w R:=by
 refine eU rfl (fun x hx=>?_) hO (fun w' h=>?_)
 ·simp only[List.mem_cons,List.not_mem_nil,or_false] at hx
  rcases hx with rfl|rfl|rfl|rfl
  ·exact hg
  all_goals simp
 ·rw[BC,he];exact hR w' h
theorem Bd {p:Option Addr}{T:Gt}(hO:St w0 bs w H)(hT:GA p T E)[hc:Cut H E H1](i s g:Int)(hg:0≤g∧g≤4294967295){T': Gt}(r:Int×Int)(e:Int)(hT' : BS T i (s,g)=T')(hr:BT T i (s,g)=r)(he:mW T i (s,g)=e)
  (hR:∀ E' w',GA p T' E'->St w0 bs w' (E'++H1)->ab R (.tuple #[.agg #[.int .i64 r.1,.int .u32 r.2],.int .i64 e]) w'):Calls prog 130 #[.pointer p,.int .i64 i,.agg #[.int .i64 s,.int .u32 g]] w R:=by
 have hS:=hO.fr E H1
 clear hO
 subst hT' hr he
 by_cases h0:mW T i (s,g)=0
 ·have hv:vN T=true:=by
   cases h:vN T with
   | true=>rfl
   | false=>unfold mW at h0;rw[h] at h0;cases h0
  have hw:fc (s,g)=false:=by
   cases h:fc (s,g) with
   | false=>rfl
   | true=>unfold mW at h0;rw[hv,h] at h0;cases h0
  have hvE:vE T i=0:=by unfold mW at h0;rw[hv,hw] at h0;exact h0
  obtain⟨L,k,rfl,rfl,hk,hk'⟩:=lj hvE
  obtain⟨h8,hm,b,rfl,rfl⟩:=id hT
  obtain⟨x,hx⟩:∃ x,L.getD k (0,0)=x:=⟨_,rfl⟩
  simp only[BS,BT,h0,if_true,hk',vL,hx] at hR
  have hb:=pK (m:=true) (eT (L:=L) (i:=k) (by omega) hx)
  have hset:=zu (m:=true) (L:=L) (i:=k) (by omega) s g
  simp only[cq] at hS
  have hvE':=HD hvE
  have hw':=HD hw
  have h8I:(k:Int)<8:=by omega
  have h8':=HD h8
  clear h0 hw hvE hx hv hk' h8
  go_enter func130,ntmps130
  go_wp2_with (first|go_at_call 194;refine et hS hT 0 hvE'.out ?_;clear hS;intro w _ hS;simp only[cq] at hS;unfold ab|go_at_call 178;refine kh hS hg 0 (by rw[hw'.out];rfl) ?_;clear hS;intro w hS;unfold ab|refine aR 6 hS ?_;clear hS;intro w hS;simp only[List.take_succ_cons,List.take_zero,List.drop_succ_cons,List.drop_zero];(repeat (first|refine ax rfl (ai _ _ rfl hS) ?_|still_step));refine wpStill_nil ?_|refine aL rfl ?_|refine au rfl hS ?_|refine ak rfl hS ?_;clear hS;intro w hS|(first|refine aq _ rfl hS ?_|refine am _ rfl hS ?_);clear hS;intro bN w hbN hS)
  refine bodyPost_ret (aJ rfl hS) rfl ?_
  exact hR _ _ ⟨by rw[List.length_set];exact h8'.out,fun h=>(by cases h),b,rfl,rfl⟩ hS.p
 ·have q:(mW T i (s,g) != 0)=true:=by simpa using h0
  have e2:BT T i (s,g)=(0,0):=by unfold BT;rw[if_neg h0]
  have e3:BS T i (s,g)=T:=by unfold BS;rw[if_neg h0]
  rw[e2,e3] at hR
  cases hv:vN T with
  | false=>
   have e1:mW T i (s,g)=1:=by unfold mW;rw[hv];rfl
   have hvE:vE T i=1:=by unfold vE;rw[hv];rfl
   rw[e1] at hR
   have hvE':=HD hvE
   cases hw:fc (s,g) with
   | false=>
    have hw':=HD hw
    clear h0 q e1 e2 e3 hvE hw hv
    go_enter func130,ntmps130
    go_wp2_with (first|go_at_call 194;refine et hS hT 1 hvE'.out ?_;clear hS;intro w _ hS;unfold ab|go_at_call 178;refine kh hS hg 0 (by rw[hw'.out];rfl) ?_;clear hS;intro w hS;unfold ab|refine aL rfl ?_|refine au rfl hS ?_|refine ak rfl hS ?_;clear hS;intro w hS|(first|refine aq _ rfl hS ?_|refine am _ rfl hS ?_);clear hS;intro bN w hbN hS)
    refine bodyPost_ret (aJ rfl hS) rfl ?_
    exact hR _ _ hT hS.p
   | true=>
    have hw':=HD hw
    clear h0 q e1 e2 e3 hvE hw hv
    go_enter func130,ntmps130
    go_wp2_with (first|go_at_call 194;refine et hS hT 1 hvE'.out ?_;clear hS;intro w _ hS;unfold ab|go_at_call 178;refine kh hS hg 2 (by rw[hw'.out];rfl) ?_;clear hS;intro w hS;unfold ab|refine aL rfl ?_|refine au rfl hS ?_|refine ak rfl hS ?_;clear hS;intro w hS|(first|refine aq _ rfl hS ?_|refine am _ rfl hS ?_);clear hS;intro bN w hbN hS)
    refine bodyPost_ret (aJ rfl hS) rfl ?_
    exact hR _ _ hT hS.p
  | true=>
   obtain⟨e,hvE⟩:∃ e,vE T i=e:=⟨_,rfl⟩
   have q1:(e != 1)=true:=by
    rw[← hvE];unfold vE;rw[hv]
    cases ou i <;> rfl
   have hvE':=HD hvE
   cases hw:fc (s,g) with
   | false=>
    have e1:mW T i (s,g)=e:=by unfold mW;rw[hv,hw];exact hvE
    rw[e1] at hR q
    have hw':=HD hw
    clear h0 e1 e2 e3 hvE hw hv
    go_enter func130,ntmps130
    go_wp2_with (first|go_at_call 194;refine et hS hT e hvE'.out ?_;clear hS;intro w _ hS;unfold ab|go_at_call 178;refine kh hS hg 0 (by rw[hw'.out];rfl) ?_;clear hS;intro w hS;unfold ab|refine aL rfl ?_|refine au rfl hS ?_|refine ak rfl hS ?_;clear hS;intro w hS|(first|refine aq _ rfl hS ?_|refine am _ rfl hS ?_);clear hS;intro bN w hbN hS)
    refine bodyPost_ret (aJ rfl hS) rfl ?_
    exact hR _ _ hT hS.p
   | true=>
    have e1:mW T i (s,g)=2:=by unfold mW;rw[hv,hw];rfl
    rw[e1] at hR
    have hw':=HD hw
    clear h0 q e1 e2 e3 hvE hw hv
    go_enter func130,ntmps130
    go_wp2_with (first|go_at_call 194;refine et hS hT e hvE'.out ?_;clear hS;intro w _ hS;unfold ab|go_at_call 178;refine kh hS hg 2 (by rw[hw'.out];rfl) ?_;clear hS;intro w hS;unfold ab|refine aL rfl ?_|refine au rfl hS ?_|refine ak rfl hS ?_;clear hS;intro w hS|(first|refine aq _ rfl hS ?_|refine am _ rfl hS ?_);clear hS;intro bN w hbN hS)
    refine bodyPost_ret (aJ rfl hS) rfl ?_
    exact hR _ _ hT hS.p
end Go.Proofs.YtnbgljbhkeffkaaGreatDoor
namespace Go.Mm
open Go Go.RowKit
section
variable {P:Program}
theorem iV (d:Nat){e:TypeId}{n len:Nat}(xs ys:Array Value)(us vs:Nat->Value)(bb:Nat->Bool)
  (h1:∀ i,i<len->∀ w,(part e xs (i * n)).run P w=.ok (us i) w) (h2:∀ i,i<len->∀ w,(part e ys (i * n)).run P w=.ok (vs i) w) (h3:∀ i,i<len->∀ w,(Op.equalIn d e (us i) (vs i)).run P w=.ok (bb i) w) (w:World) :
  ∀ is:List Nat,(∀ i∈is,i<len)->(Op.eqItems d e n xs ys is).run P w=.ok (is.all bb) w
 | [],_=>by simp[Op.eqItems]
 | i::is,h=>by
  have hi:=h i (by simp)
  have ih:=iV d xs ys us vs bb h1 h2 h3 w is (fun j hj=>h j (by simp[hj]))
  simp only[Op.eqItems,Sem.run_bind,h1 i hi,h2 i hi,h3 i hi,Result.andThen_ok,List.all_cons]
  cases hb:bb i with
  | false=>simp
  | true=>simp[ih]
theorem ld (d:Nat){t e:TypeId}{len:Nat}{i:TypeInfo}(xs ys:Array Value)(ht:P.underlying t=some (.array len e))(hi:P.info? e=some i)(us vs:Nat->Value)(bb:Nat->Bool)
  (h1:∀ i,i<len->∀ w,(part e xs (i * P.cellsOf e)).run P w=.ok (us i) w) (h2:∀ i,i<len->∀ w,(part e ys (i * P.cellsOf e)).run P w=.ok (vs i) w) (h3:∀ i,i<len->∀ w,(Op.equalIn d e (us i) (vs i)).run P w=.ok (bb i) w) (w:World) :
  (Op.equalIn (d+1) t (.agg xs) (.agg ys)).run P w=.ok ((List.range len).all bb) w:=by
 rw[run_equalIn_array w d xs ys ht hi]
 exact iV d xs ys us vs bb h1 h2 h3 w _ (fun i hi=>List.mem_range.1 hi)
class SufV (P:Program)(t:TypeId)(v:Value)(m:Int)(v' : outParam Value):Prop where
 h:∀ w,(Instr.sliceAt t v (some (.int .i64 m)) none none).run P w=.ok v' w
theorem tK {o:Oper}{a:Act}{w:World}{v:Value}{t:TypeId}{x y:Operand}(ho:o.op=.slice t x (some y) none none){m:Int}{v' : Value}[hx:Ev a x v][hy:Ev a y (.int .i64 m)][hp:SufV P t v m v'] : ay P o a w v':=by
 unfold ay
 simp only[execOp,ho,hx.h,Option.map_none,Option.map_some,hy.h,Sem.run_bind,hp.h,Result.andThen_ok,Sem.run_pure]
theorem zJ {t e:TypeId}{z g n cap m:Nat}(ht:P.underlying t=some (.slice e))(hm:m≤n)(hc:m<cap)(hs:(P.info? e).map (·.size)=some z:=by kernel_rfl):SufV P t (.slice (some ⟨g,0,none⟩) n cap) m (.slice (some ⟨g,m * z,none⟩) (n - m) (cap - m)):=⟨fun w=>by
 have h2:0≤(m:Int):=by omega
 have h3:cap≠m:=by omega
 simp[Instr.sliceAt,run_underlying ht,Instr.slice,Instr.sliceBounds,Instr.sliceBound,asIntOf,hm,aU hs,h3,Addr.add_lit]⟩
theorem Ao {t e:TypeId}{z g n cap m:Nat}(ht:P.underlying t=some (.slice e))(hm:m≤cap)(hz:0<cap)(hs:(P.info? e).map (·.size)=some z:=by kernel_rfl):PreV P t (.slice (some ⟨g,0,none⟩) n cap) m (.slice (some ⟨g,0,none⟩) m cap):=⟨fun w=>by
 have h2:0≤(m:Int):=by omega
 have h3:cap≠0:=by omega
 simp[Instr.sliceAt,run_underlying ht,Instr.slice,Instr.sliceBounds,Instr.sliceBound,asIntOf,hm,aU hs,Addr.add]⟩
theorem fG {t e:TypeId}{z g n cap i:Nat}(ht:P.underlying t=some (.slice e))(hi:i<n)(hs:(P.info? e).map (·.size)=some z:=by kernel_rfl):IdxV P t (.slice (some ⟨g,0,none⟩) n cap) i ⟨g,i * z,none⟩:=⟨fun w=>by
 have h2:0≤(i:Int):=by omega
 simp[Instr.indexAt,asIntOf,run_underlying ht,hi,aU hs,Addr.add_lit]⟩
theorem rj {α:Type}{f:α->List Value}{z:Nat}(hf:∀ a,(f a).length=z)(hz:0<z)(a:α)(n:Nat):Builtin.zeroCells (f a).toArray n=((List.replicate n a).flatMap f).toArray:=by
 apply Array.ext_getElem?
 intro i
 have hsz:((List.replicate n a).flatMap f).length=n * z:=by rw[bw hf,List.length_replicate]
 by_cases hi:i<n * z
 ·have h1:i / z<n:=(Nat.div_lt_iff_lt_mul hz).2 hi
  have h2:i % z<z:=Nat.mod_lt _ hz
  have h3:=kf hf (List.replicate n a) (i / z) (i % z) a (by rw[List.getElem?_replicate,if_pos h1]) h2
  rw[show i / z * z+i % z=i by rw[Nat.mul_comm];exact Nat.div_add_mod i z] at h3
  have h5:(((List.replicate n a).flatMap f).toArray)[i]?=(f a)[i % z]?:=by rw[List.getElem?_toArray,h3]
  rw[h5]
  have h4:i % z<(f a).length:=by rw[hf];exact h2
  have h6:(f a)[i % z]?=some ((f a)[i % z]):=List.getElem?_eq_getElem h4
  simp[Builtin.zeroCells,hf,hi,h6]
 ·rw[Array.getElem?_eq_none (by simp[Builtin.zeroCells,hf];omega),Array.getElem?_eq_none (by simp only[List.size_toArray,hsz];omega)]
theorem yE {α:Type}{f:α->List Value}{z:Nat}(hf:∀ a,(f a).length=z){R:List α}{post:List Value}{m k:Nat}(hm:m+k=R.length)(a:α):SetsAt (cX [] f R post) (m * z) ((List.replicate k a).flatMap f).toArray (cX [] f (R.take m++List.replicate k a) post):=by
 have h1:(R.flatMap f).length=R.length * z:=bw hf R
 have h2:((R.take m).flatMap f).length=m * z:=by rw[bw hf,List.length_take];congr 1;omega
 have h3:((List.replicate k a).flatMap f).length=k * z:=by rw[bw hf,List.length_replicate]
 have hsp:R.flatMap f=(R.take m).flatMap f++(R.drop m).flatMap f:=by rw[← List.flatMap_append,List.take_append_drop]
 have h4:((R.drop m).flatMap f).length=k * z:=by rw[bw hf,List.length_drop];congr 1;omega
 refine⟨?_,?_⟩
 ·unfold cX
  simp only[List.nil_append,List.size_toArray,h3]
  congr 1
  rw[hsp,List.flatMap_append]
  have e1:(((R.take m).flatMap f++(R.drop m).flatMap f)++post).take (m * z)=(R.take m).flatMap f:=by
   rw[List.append_assoc];exact List.take_left' h2
  have e2:(((R.take m).flatMap f++(R.drop m).flatMap f)++post).drop (m * z+k * z)=post:=by
   exact List.drop_left' (by rw[List.length_append,h2,h4])
  rw[e1,e2,List.append_assoc]
 ·rw[co hf,List.size_toArray,h3,← hm,Nat.add_mul]
  simp only[List.length_nil]
  omega
end
end Go.Mm
namespace Go.Proofs.YtnbgljbhkeffkaaGreatDoor
open Go.RowKit Go.Mm
variable {R:Ending->World->Prop}{w:World}{w0:World}{bs:List Nat}{H H' H1 E:List Ent}{L l:List (Int×Int)}{m:Bool}{v:Value}
theorem xc (d:Nat){s g s' g': Int}(w:World):(Op.equalIn (d+2) 176 (.agg #[.int .i64 s,.int .u32 g]) (.agg #[.int .i64 s',.int .u32 g'])).run prog w=.ok (cd s g s' g') w:=by
 have h:EqSp prog [(3,0),(26,1)] #[.int .i64 s,.int .u32 g] #[.int .i64 s',.int .u32 g'] (decide (s=s') && (decide (g=g') && true)):=inferInstance
 have:=h.h d w (Program.fieldsOf prog 176).toList (by kernel_rfl)
 rw[run_equalIn_agg w (d+1) _ _ _ (by kernel_rfl) (by kernel_rfl),this]
 simp[cd]
theorem D1 (h8:L.length=8)(L' : List (Int×Int))(h8' : L'.length=8):AggEq prog 200 (nE L) (nE L') (decide (L=L')):=by
 have hr:∀ w,(Op.equalIn 10000 200 (.agg (nE L)) (.agg (nE L'))).run prog w=.ok (decide (L=L')) w:=by
  intro w
  have hc:Program.cellsOf prog 176=2:=by kernel_rfl
  obtain⟨inf,_,hinf,_⟩:=e_ref.parts
  rw[ld 9999 (e:=176) (len:=8) (nE L) (nE L') (by kernel_rfl) hinf (fun i=>.agg #[.int .i64 (L.getD i (0,0)).1,.int .u32 (L.getD i (0,0)).2])
   (fun i=>.agg #[.int .i64 (L'.getD i (0,0)).1,.int .u32 (L'.getD i (0,0)).2]) (fun i=>cd (L.getD i (0,0)).1 (L.getD i (0,0)).2 (L'.getD i (0,0)).1 (L'.getD i (0,0)).2)
   (fun i hi w=>by rw[hc];exact eX vM (cK (pre:=[]) aW (eT (L:=L) (i:=i) (by omega) rfl) (by simp)) w)
   (fun i hi w=>by rw[hc];exact eX vM (cK (pre:=[]) aW (eT (L:=L') (i:=i) (by omega) rfl) (by simp)) w)
   (fun i _ w=>xc 9997 w)]
  congr 1
  rw[Bool.eq_iff_iff,List.all_eq_true,decide_eq_true_eq]
  constructor
  ·intro h
   refine List.ext_getElem (h8.trans h8'.symm) (fun i h1 h2=>?_)
   have:=refB_iff.1 (h i (List.mem_range.2 (by omega)))
   simpa [h1,h2] using this
  ·rintro rfl i _
   exact rG
 exact⟨fun w=>by rw[run_eql_struct,hr];rfl,fun w=>by rw[run_neq_struct,hr];rfl,by kernel_rfl⟩
theorem rg (h8:L.length=8){b:Bool}(h:decide (L=zero8)=b):AggEq prog 200 (nE L) (nE zero8) b:=by subst h;exact D1 h8 zero8 rfl
instance Pj:BuildT prog 200 [] (nE zero8):=⟨fun w=>by kernel_rfl⟩
theorem FJ (h:L.length=8):CellsAt (li m L) 1 16 (nE L):=⟨fun j hj=>by
 simp only[li,nE,cX,List.nil_append,List.append_nil,List.cons_append,List.getElem?_toArray]
 rw[show 1+j=j+1 by omega,List.getElem?_cons_succ],by simp[nE,co aW,h]⟩
theorem yM {s g:Int}(b:Bool)(hb:cd s g 0 0=b)(hR:∀ w',Chg w w' []->ab R (.bool b) w'):Calls prog 467 #[.agg #[.int .i64 s,.int .u32 g]] w R:=by
 have hS:St w [] w []:=St.start0
 have q:=gp hb
 clear hb
 go_enter func467,ntmps467
 go_wp2_with (first|refine wV (.binOp .eql _ _ _ _) rfl (dh rfl) ?_|refine aL rfl ?_|refine au rfl hS ?_|refine am _ rfl hS ?_;clear hS;intro bN w hbN hS)
 exact hR _ hS.chg
def lS (l:List (Int×Int)):Int:=match firstOf (fun i=>!f8 (l.getD i (0,0))) l.length with
 | some i=>i
 | none=>-1
theorem jJ (hO:St w0 bs w H)(hA:RS v l E)[hc:Cut H E H1](hl:l.length≤1000)
  (hR:∀ w',St w0 bs w' (E++H1)->ab R (.int .i64 (lS l)) w'):Calls prog 401 #[v,.func (.func 467) #[] #[]] w R:=by
 have hS:=hO.fr E H1
 clear hO hc
 have hlen:=hA.len rfl
 have hone:=hA.one
 go_enter func401,ntmps401
 go_wp2_with (refine wV (.call { callee:=.builtin .len,args:=#[_],argTypes:=#[_] }) rfl (aA rfl) ?_)
 go_loopw [8] (fun u wr=>∃ k:Nat,k≤l.length∧u=.int .i64 k∧(∀ j,j<k->f8 (l.getD j (0,0))=true)∧St w0 bs wr (E++H1)) (fun u _=>l.length - (intOf u).toNat)
 case atStart=>exact⟨0,Nat.zero_le _,rfl,fun j hj=>absurd hj (Nat.not_lt_zero _),hS⟩
 case round=>
  clear hS
  obtain⟨k,hk,rfl,hno,hS⟩:=hrel
  by_cases hlt:k<l.length
  ·obtain⟨⟨xs,xg⟩,hx⟩:∃ x,l.getD k (0,0)=x:=⟨_,rfl⟩
   obtain⟨gx,sp,ix,hh,hcx⟩:=hA.at hlt hx
   have ix:=ix k rfl
   simp only at hcx
   have hno':=HD hno
   obtain⟨b,hb⟩:∃ b,cd xs xg 0 0=b:=⟨_,rfl⟩
   have hb':=HD hb
   have hx':=HD hx
   clear hx hno hb
   cases b with
   | true=>
    have e:lS l=k:=by
     unfold lS
     rw[nC hlt (fun j hj=>by rw[hno'.out j hj];rfl) (by simp only[hx'.out,f8,hb'.out];rfl)]
    rw[e] at hR
    clear e
    go_wp2_with (first|(go_at_call 467;refine yM true hb'.out ?_;intro w hch;replace hS:=hS.nil hch;clear hch;unfold ab)|refine aM rfl ?_|refine au rfl hS ?_)
    exact hR _ hS.p
   | false=>
    go_wp2_with (first|(go_at_call 467;refine yM false hb'.out ?_;intro w hch;replace hS:=hS.nil hch;clear hch;unfold ab)|refine aM rfl ?_|refine au rfl hS ?_)
    go_roundw
    case rel=>
     refine⟨k+1,by omega,by go_num,fun j hj=>?_,hS.p⟩
     by_cases e:j=k
     ·subst e;rw[hx'.out];simp only[f8,hb'.out];rfl
     ·exact hno'.out j (by omega)
    case measure=>simp[intOf];omega
  ·obtain rfl:k=l.length:=by omega
   have e:lS l=-1:=by
    unfold lS
    rw[nB (fun j hj=>by rw[hno j hj];rfl)]
   rw[e] at hR
   clear hno e
   go_wp2_with (go_skip)
   exact hR _ hS.p
theorem lY {k:Nat}(hk:k<l.length){x:Int×Int}(hx:l.getD k (0,0)=x)(h:f8 x=true):(l.take (k+1)).filter f8=(l.take k).filter f8++[x]:=by
 have e:l[k]=x:=by rw[← hx,List.getD_eq_getElem?_getD,List.getElem?_eq_getElem hk];rfl
 rw[List.take_succ_eq_append_getElem hk,List.filter_append,e]
 simp[h]
theorem iT {k:Nat}(hk:k<l.length){x:Int×Int}(hx:l.getD k (0,0)=x)(h:f8 x=false):(l.take (k+1)).filter f8=(l.take k).filter f8:=by
 have e:l[k]=x:=by rw[← hx,List.getD_eq_getElem?_getD,List.getElem?_eq_getElem hk];rfl
 rw[List.take_succ_eq_append_getElem hk,List.filter_append,e]
 simp[h]
theorem oT (hO:St w0 bs w H)(hA:RS v l E)[hc:Cut H E H1](hl:l.length≤1000)
  (hR:∀ v' E' w',RS v' (l.filter f8) E'->St w0 bs w' (E'++H1)->ab R v' w'):Calls prog 466 #[v,.func (.func 467) #[] #[]] w R:=by
 have hS:=hO.fr E H1
 clear hO hc
 have hone:=hA.one
 cases hz:firstOf (fun i=>!f8 (l.getD i (0,0))) l.length with
 | none=>
  have e:lS l=-1:=by unfold lS;rw[hz]
  have e2:l.filter f8=l:=by
   rw[List.filter_eq_self]
   intro x hx
   obtain⟨i,hi,rfl⟩:=List.getElem_of_mem hx
   unfold firstOf at hz
   rw[List.find?_eq_none] at hz
   have:=hz i (List.mem_range.2 hi)
   simpa [hi] using this
  rw[e2] at hR
  have e':=HD e
  have hlen:=hA.len rfl
  clear hz e e2
  go_enter func466,ntmps466
  go_wp2_with (go_at_call 401;refine jJ hS hA hl ?_;clear hS;intro w hS;rw[e'.out];unfold ab)
  exact hR _ _ _ hA hS
 | some k0=>
  obtain⟨hk0,hz1,hz2⟩:=ic hz
  have e:lS l=k0:=by unfold lS;rw[hz]
  have e':=HD e
  obtain⟨gb,cap,sp,rfl,rfl,hcap,hcm,hsp⟩:=hA.some (by omega)
  have hfirst:l.take k0=(l.take (k0+1)).filter f8:=by
   rw[iT hk0 rfl (by simpa using hz1)]
   symm
   rw[List.filter_eq_self]
   intro x hx
   obtain⟨i,hi,rfl⟩:=List.getElem_of_mem hx
   rw[List.length_take] at hi
   have:=hz2 i (by omega)
   rw[List.getElem_take]
   simpa [show i<l.length by omega] using this
  have hA':=HD hA
  clear hz hz1 hz2 e hA
  obtain⟨n,hn⟩:∃ n,l.length=n:=⟨_,rfl⟩
  rw[hn] at hk0 hcap hl hA' hone
  simp only[cq] at hS
  rw[hn]
  have hn':=HD hn
  have hfirst':=HD hfirst
  have hsp':=HD hsp
  clear hfirst hsp hn
  go_enter func466,ntmps466
  go_wp2_with (go_at_call 401;refine jJ hS hA'.out (by rw[hn'.out];exact hl) ?_;clear hS;intro w hS;rw[e'.out];simp only[cq] at hS;unfold ab)
  have q0:((k0:Int) == -1)=false:=beq_eq_false_iff_ne.2 (by omega)
  rw[q0]
  go_loopw [6,5] (fun u a5 wr=>∃ (j i:Nat) (X:List (Int×Int)),j≤n∧i<j∧u=.int .i64 j∧a5=.int .i64 i∧X.length=n∧X.take i=(l.take j).filter f8∧X.drop j=l.drop j∧St w0 bs wr (⟨gb,cX [] dE X sp,176,true⟩::H1)) (fun u _ _=>n - (intOf u).toNat)
  case atStart=>exact⟨k0+1,k0,l,by omega,by omega,by go_num,rfl,hn'.out,hfirst'.out,rfl,hS⟩
  case round=>
   clear hS
   obtain⟨j,i,X,hjn,hij,rfl,rfl,hX,hXt,hXd,hS⟩:=hrel
   have hXt':=HD hXt
   have hXd':=HD hXd
   have hX':=HD hX
   have hlen:LenV prog 345 (.slice (some ⟨gb,0,none⟩) n cap) n:=⟨⟨_,_,rfl⟩,176,underlying345⟩
   by_cases hlt:j<n
   ·have hXj:X.getD j (0,0)=l.getD j (0,0):=by
     have:=congrArg (fun q=>q.getD 0 (0,0)) hXd
     simpa using this
    obtain⟨⟨xs,xg⟩,hx⟩:∃ x,X.getD j (0,0)=x:=⟨_,rfl⟩
    have hxl:=hXj.symm.trans hx
    have ix:=fG (P:=prog) (t:=345) (e:=176) (z:=2) (g:=gb) (cap:=cap) underlying345 hlt
    have iy:=fG (P:=prog) (t:=345) (e:=176) (z:=2) (g:=gb) (cap:=cap) (n:=n) (i:=i) underlying345 (by omega)
    have hcx:CellsAt (cX [] dE X sp) (j * 2) 2 #[.int .i64 xs,.int .u32 xg]:=cK (pre:=[]) aW (eT (L:=X) (by omega) hx) (by simp)
    have hset:SetsAt (cX [] dE X sp) (i * 2) #[.int .i64 xs,.int .u32 xg] (cX [] dE (X.set i (xs,xg)) sp):=fX (pre:=[]) aW (a':=(xs,xg)) (by omega) (by simp)
    obtain⟨b,hb⟩:∃ b,cd xs xg 0 0=b:=⟨_,rfl⟩
    have hb':=HD hb
    have hxl':=HD hxl
    clear hXt hXd hX hXj hx hxl hb
    cases b with
    | true=>
     go_wp2_with (first|(go_at_call 467;refine yM true hb'.out ?_;intro w hch;replace hS:=hS.nil hch;clear hch;unfold ab)|refine wV (.call { callee:=.builtin .len,args:=#[_],argTypes:=#[_] }) rfl (aA rfl) ?_|refine aM rfl ?_|refine au rfl hS ?_|refine ak rfl hS ?_;clear hS;intro w hS|refine aq _ rfl hS ?_;clear hS;intro bN w hbN hS)
     go_roundw
     case rel=>
      refine⟨j+1,i,X,by omega,by omega,by go_num,rfl,hX'.out,?_,?_,hS.p⟩
      ·rw[hXt'.out,iT (by rw[hn'.out];exact hlt) hxl'.out (by simp only[f8,hb'.out];rfl)]
      ·rw[← List.drop_drop,← List.drop_drop,hXd'.out]
     case measure=>simp[intOf];omega
    | false=>
     go_wp2_with (first|(go_at_call 467;refine yM false hb'.out ?_;intro w hch;replace hS:=hS.nil hch;clear hch;unfold ab)|refine wV (.call { callee:=.builtin .len,args:=#[_],argTypes:=#[_] }) rfl (aA rfl) ?_|refine aM rfl ?_|refine au rfl hS ?_|refine ak rfl hS ?_;clear hS;intro w hS|refine aq _ rfl hS ?_;clear hS;intro bN w hbN hS)
     go_roundw
     case rel=>
      refine⟨j+1,i+1,X.set i (xs,xg),by omega,by omega,by go_num,by go_num,by rw[List.length_set];exact hX'.out,?_,?_,hS.p⟩
      ·rw[lY (by rw[hn'.out];exact hlt) hxl'.out (by simp only[f8,hb'.out];rfl),← hXt'.out]
       have h1:i<(X.set i (xs,xg)).length:=by rw[List.length_set,hX'.out];omega
       rw[List.take_succ_eq_append_getElem h1,List.take_set_of_le (Nat.le_refl i),List.getElem_set_self]
      ·rw[List.drop_set_of_lt (by omega),← List.drop_drop,← List.drop_drop,hXd'.out]
     case measure=>simp[intOf];omega
   ·obtain⟨rfl⟩:n=j:=by omega
    have hin:i≤n:=by omega
    have hsu:=zJ (P:=prog) (t:=345) (e:=176) (z:=2) (g:=gb) (n:=n) (cap:=cap) (m:=i) underlying345 hin (by omega)
    have hpr:=Ao (P:=prog) (t:=345) (e:=176) (z:=2) (g:=gb) (n:=n) (cap:=cap) (m:=i) underlying345 (by omega) (by omega)
    have hzr:Builtin.zeroCells #[.int .i64 0,.int .u32 0] (n - i)=((List.replicate (n - i) ((0:Int),(0:Int))).flatMap dE).toArray:=rj aW (by decide) (0,0) (n - i)
    have hone1:OneCells (Builtin.zeroCells #[.int .i64 0,.int .u32 0] (n - i)):=⟨by
     rw[hzr]
     intro u hu
     simp only[List.mem_flatMap] at hu
     obtain⟨x,_,hx⟩:=hu
     exact gM x u hx⟩
    have hfill:SetsAt (cX [] dE X sp) (i * 2) (Builtin.zeroCells #[.int .i64 0,.int .u32 0] (n - i)) (cX [] dE (X.take i++List.replicate (n - i) (0,0)) sp):=by
     rw[hzr];exact yE aW (by omega) (0,0)
    clear hXt hXd hX hzr
    go_wp2_with (first|refine aF (.slice _ _ (some _) none none) rfl ?_;refine bI rfl (ar (tK rfl) ?_)|refine aF (.call { callee:=.builtin .clear,args:=#[_],argTypes:=#[_] }) rfl ?_;refine bI rfl (tm rfl hS (by omega) ?_);clear hS;intro w hS|refine wV (.call { callee:=.builtin .len,args:=#[_],argTypes:=#[_] }) rfl (aA rfl) ?_|refine wV (.slice _ _ none (some _) none) rfl (mN rfl) ?_)
    have hlf:(l.take n).filter f8=l.filter f8:=by rw[List.take_of_length_le (Nat.le_of_eq hn'.out)]
    have hil:(l.filter f8).length=i:=by rw[← hlf,← hXt'.out,List.length_take,hX'.out];omega
    refine hR (.slice (some ⟨gb,0,none⟩) i cap) [⟨gb,cX [] dE (X.take i++List.replicate (n - i) (0,0)) sp,176,true⟩] _ ⟨?_,.inr ⟨gb,cap,(List.replicate (n - i) ((0:Int),(0:Int))).flatMap dE++sp,?_,?_,?_,hcm,?_⟩⟩ hS
    ·rw[bw aW]
    ·rw[hil]
    ·rw[← hlf,← hXt'.out]
     simp[cX,List.flatMap_append]
    ·rw[hil];omega
    ·have h1:=hsp'.out
     rw[bw aW,hn'.out] at h1
     rw[bw aW,List.length_append,bw aW,List.length_replicate,hil]
     omega
theorem Bh {p:Option Addr}{T:Gt}(hO:St w0 bs w H)(hT:GA p T E)[hc:Cut H E H1]
  (hR:∀ v E' w',RS v (zn T) E'->GA p T E->St w0 bs w' (E'++(E++H1))->ab R v w'):Calls prog 461 #[.pointer p] w R:=by
 have hS:=hO.fr E H1
 clear hO
 replace hR:∀ v E' w',RS v (zn T) E'->St w0 bs w' (E'++(E++H1))->ab R v w':=fun v E' w' h=>hR v E' w' h hT
 rcases T with _|⟨m,L⟩
 ·obtain⟨rfl,rfl⟩:=hT
  simp only[List.nil_append] at hS
  go_enter func461,ntmps461
  go_wp2_with (go_skip)
  exact hR _ [] _ RS.nil hS.p
 obtain⟨h8,hm,b,rfl,rfl⟩:=hT
 simp only[cq] at hS
 have hcl:=FJ (m:=m) h8
 by_cases hz:L=zero8
 ·have e:zn (some (m,L))=[]:=by
   rw[hz]
   show zero8.filter f8=[]
   decide
  rw[e] at hR
  have q:=rg h8 (decide_eq_true hz)
  clear hz e h8 hm
  go_enter func461,ntmps461
  go_wp2_with (first|refine wV (.binOp .eql _ _ _ _) rfl (dh rfl) ?_|refine aL rfl ?_|refine au rfl hS ?_)
  exact hR _ [] _ RS.nil hS.p
 ·have q:=rg h8 (decide_eq_false hz)
  have h8':=HD h8
  have hcl3:Hid (CellsAt (li m L) 1 (8 * 2) (L.flatMap dE).toArray):=HD (by simpa [nE,cX] using hcl)
  clear hz h8 hm
  go_enter func461,ntmps461
  go_wp2_with (first|refine wV (.binOp .eql _ _ _ _) rfl (dh rfl) ?_|(go_at_call 351;refine kQ hS h8'.out hcl3.out (by omega) ?_;clear hS;intro v1 E1 w hA hS;have hone:=hA.one;unfold ab)|(go_at_call 466;refine oT hS hA (by rw[h8'.out];omega) ?_;clear hS;intro v2 E2 w hA2 hS;have hone2:=hA2.one;unfold ab)|refine aL rfl ?_|refine au rfl hS ?_)
  exact hR _ _ _ hA2 hS.p
end Go.Proofs.YtnbgljbhkeffkaaGreatDoor
namespace Go.Mm
open Go Go.RowKit
theorem qM {P:Program}{t e:TypeId}{m b off i:Nat}(ht:P.underlying t=some (.array m e))(hi:i<m)(hs:(P.info? e).map (·.size)=some 1:=by kernel_rfl):IdxV P t (.pointer (some ⟨b,off,none⟩)) i ⟨b,off+i,none⟩:=⟨fun w=>by
 have h2:0≤(i:Int):=by omega
 simp[Instr.indexAt,asIntOf,run_underlying ht,Instr.sureAddr,hi,aU hs,Addr.add_lit]⟩
end Go.Mm
namespace Go.Proofs.YtnbgljbhkeffkaaGreatDoor
open Go Go.RowKit Go.Mm
variable {R:Ending->World->Prop}{w:World}{w0:World}{bs:List Nat}{H H' H1 E:List Ent}
def sb (x:Int):List Value:=[.int .i64 x]
theorem cE (x:Int):(sb x).length=1:=rfl
theorem qN (x:Int):∀ v∈sb x,v.oneCell'=true:=by
 intro v hv
 simp only[sb,List.mem_cons,List.not_mem_nil,or_false] at hv
 rw[hv];rfl
def dU (o:Bool)(mo z n:Int)(L:List Int):Array Value:=cX [.bool o,.int .i64 mo,.int .i64 z,.int .i64 n] sb L []
section
variable {o:Bool}{mo z n:Int}{L:List Int}
instance Ps:CellAt (dU o mo z n L) 2 (.int .i64 z):=cz rfl
instance Pr:CellAt (dU o mo z n L) 3 (.int .i64 n):=cz rfl
instance MM : CellAt (dU o mo z n L) (0+1) (.int .i64 mo):=cz rfl
instance ML : CellAt (dU o mo z n L) (0+2) (.int .i64 z):=cz rfl
instance MK : CellAt (dU o mo z n L) (0+3) (.int .i64 n):=cz rfl
instance MI (p:Bool):SetAt (dU o mo z n L) 0 (.bool p) (dU p mo z n L):=dv (by simp) rfl
instance MG (p:Int):SetAt (dU o mo z n L) (0+1) (.int .i64 p) (dU o p z n L):=dv (by simp) rfl
instance MF (p:Int):SetAt (dU o mo z n L) (0+3) (.int .i64 p) (dU o mo z p L):=dv (by simp) rfl
theorem FV {i:Nat}{x:Int}(h:L[i]?=some x):CellAt (dU o mo z n L) (0+4+i) (.int .i64 x):=jo cE (i:=i) (j:=0) h (by decide) rfl (by simp)
theorem Cx {i:Nat}{x:Int}(h:L[i]?=some x)(y:Int):SetAt (dU o mo z n L) (0+4+i) (.int .i64 y) (dU o mo z n (L.set i y)):=iO cE (i:=i) (j:=0) h (by decide) rfl (by simp)
theorem Cz (h:L.length=64):CellsAt (dU o mo z n L) 0 (68) (dU o mo z n L):=kw cE (by simp [h])
theorem tx (h:L.length=64):SizeIs (dU o mo z n L) (68):=ij cE (by simp [h])
theorem zR {cs:Array Value}(hn:cs.size=68)(h:L.length=64):SetsAt cs 0 (dU o mo z n L) (dU o mo z n L):=ik cE (by simp [hn,h])
theorem zS:OneCells (dU o mo z n L):=fY (by intro v hv;simp only [List.mem_cons,List.not_mem_nil,or_false] at hv;rcases hv with rfl|rfl|rfl|rfl <;> rfl) qN (by intro v hv;cases hv)
end
def gF:List Int:=List.replicate 64 0
instance FU:AggT prog 293 (68):=⟨by kernel_rfl,by kernel_rfl⟩
instance FT:ScalarT prog 3:=⟨by kernel_rfl,by kernel_rfl⟩
instance Ej:ScalarT prog 4:=⟨by kernel_rfl,by kernel_rfl⟩
instance MJ:ZeroT prog 293 (dU false 0 0 0 gF):=⟨by kernel_rfl⟩
instance Im {z:Int} : BuildT prog 293 [(1,.int .i64 z)] (dU false 0 z 0 gF):=⟨fun w=>by kernel_rfl⟩
instance Il {b off:Nat} : FieldAt prog 293 0 b off off:=⟨fun w=>by kernel_rfl⟩
instance Ik {b off:Nat} : FieldAt prog 293 1 b off (off+2):=⟨fun w=>by kernel_rfl⟩
instance Ij {b off:Nat} : FieldAt prog 293 2 b off (off+3):=⟨fun w=>by kernel_rfl⟩
instance Ii {b off:Nat} : FieldAt prog 293 3 b off (off+4):=⟨fun w=>by kernel_rfl⟩
instance Io {b off:Nat} : FieldAt prog 291 1 b off (off+1):=⟨fun w=>by kernel_rfl⟩
abbrev Sq:=Option (Option (Nat×Bool×List Int))
def SA (p:Option Addr)(T:Sq)(E:List Ent):Prop:=match T with
 | none=>p=none∧E=[]
 | some none=>∃ b,p=some ⟨b,0,none⟩∧E=[⟨b,dU false 0 0 0 gF,293,true⟩]
 | some (some (z,o,l))=>1≤z∧z≤64∧l.length≤z∧∃ b mo sp,(0≤mo∧mo≤64)∧l.length+sp.length=64∧p=some ⟨b,0,none⟩∧E=[⟨b,dU o mo z l.length (l++sp),293,true⟩]
def i7:Sq->Bool
 | some (some _)=>true
 | _=>false
theorem SA.nil {p:Option Addr}{T:Sq}{E:List Ent}(h:SA p T E):p.isNone=T.isNone:=by
 rcases T with _|_|⟨z,o,l⟩
 ·rw[h.1];rfl
 ·obtain⟨b,rfl,_⟩:=h;rfl
 ·obtain⟨_,_,_,b,mo,sp,_,_,rfl,_⟩:=h;rfl
theorem ci {p:Option Addr}{T:Sq}(hO:St w0 bs w H)(hT:SA p T E)[hc:Cut H E H1](v:Bool)(hv:i7 T=v)(hR:∀ w',St w0 bs w' (E++H1)->ab R (.bool v) w') :
  Calls prog 346 #[.pointer p] w R:=by
 have hS:=hO.fr E H1
 clear hO
 subst hv
 rcases T with _|_|⟨z,o,l⟩
 ·obtain⟨rfl,rfl⟩:=hT
  go_enter func346,ntmps346
  go_wp2_with (go_skip)
  exact hR _ hS
 ·obtain⟨b,rfl,rfl⟩:=hT
  simp only[cq] at hS
  go_enter func346,ntmps346
  go_wp2_with (refine af rfl hS ?_)
  exact hR _ hS
 ·obtain⟨h1,h2,h3,b,mo,sp,_,_,rfl,rfl⟩:=hT
  simp only[cq] at hS
  have d:decide (0<(z:Int))=true:=DT
  have d' : decide (0<z)=true:=DT
  go_enter func346,ntmps346
  go_wp2_with (refine af rfl hS ?_)
  exact hR _ hS
def Da (z:Int):Sq:=if 1≤z∧z≤64 then some (some (z.toNat,false,[])) else none
theorem zQ (hO:St w0 bs w H)(z:Int){T:Sq}(e:Int)(hT:Da z=T)(he:(if 1≤z∧z≤64 then (0:Int) else 2)=e)(hR:∀ p E w',SA p T E->St w0 bs w' (E++H)->ab R (.tuple #[.pointer p,.int .i64 e]) w') :
  Calls prog 93 #[.int .i64 z] w R:=by
 have hS:=hO
 clear hO
 subst hT he
 by_cases hz:1≤z∧z≤64
 ·unfold Da at hR
  rw[if_pos hz,if_pos hz] at hR
  obtain⟨h1,h2⟩:=hz
  have d1:decide (z<1)=false:=DF
  have d2:decide (64<z)=false:=DF
  go_enter func93,ntmps93
  go_wp2_with (first|refine aL rfl ?_|refine am _ rfl hS ?_;clear hS;intro bN w hbN hS)
  refine hR _ _ _ ⟨by omega,by omega,Nat.zero_le _,bN,0,gF,⟨by decide,by decide⟩,rfl,rfl,rfl⟩ ?_
  rw[Int.toNat_of_nonneg (by omega)]
  exact hS
 ·unfold Da at hR
  rw[if_neg hz,if_neg hz] at hR
  by_cases h1:z<1
  ·have d1:decide (z<1)=true:=decide_eq_true h1
   go_enter func93,ntmps93
   go_wp2_with (go_skip)
   exact hR none [] _ ⟨rfl,rfl⟩ hS
  ·have d1:decide (z<1)=false:=decide_eq_false h1
   have d2:decide (64<z)=true:=DT
   go_enter func93,ntmps93
   go_wp2_with (go_skip)
   exact hR none [] _ ⟨rfl,rfl⟩ hS
def PM:Sq->Nat
 | some (some (_,_,l))=>l.length
 | _=>0
def PE:Sq->Bool
 | some (some (_,o,_))=>o
 | _=>false
def Ld:Sq->Sq
 | some (some x)=>some (some x)
 | _=>none
theorem pY {p:Option Addr}{T:Sq}(hO:St w0 bs w H)(hT:SA p T E)[hc:Cut H E H1]{T': Sq}(hT' : Ld T=T')(hR:∀ p' E' w',SA p' T' E'->St w0 bs w' (E'++(E++H1))->ab R (.pointer p') w') :
  Calls prog 344 #[.pointer p] w R:=by
 have hS:=hO.fr E H1
 clear hO
 subst hT'
 rcases T with _|_|⟨z,o,l⟩
 ·go_enter func344,ntmps344
  go_wp2_with (go_at_call 346;refine ci hS hT _ rfl ?_;clear hS;intro w hS;unfold ab)
  exact hR none [] _ ⟨rfl,rfl⟩ hS
 ·go_enter func344,ntmps344
  go_wp2_with (go_at_call 346;refine ci hS hT _ rfl ?_;clear hS;intro w hS;unfold ab)
  exact hR none [] _ ⟨rfl,rfl⟩ hS
 ·obtain⟨h1,h2,h3,b,mo,sp,hmo,hl,rfl,rfl⟩:=id hT
  have hl64:(l++sp).length=64:=by rw[List.length_append];exact hl
  have i1:=Cz (o:=o) (mo:=mo) (z:=z) (n:=l.length) hl64
  have i2:=tx (o:=o) (mo:=mo) (z:=z) (n:=l.length) hl64
  have i3:SetsAt (dU false 0 0 0 gF) 0 (dU o mo z l.length (l++sp)) (dU o mo z l.length (l++sp)):=zR (by rw[dU,co cE];rfl) hl64
  have i4:=zS (o:=o) (mo:=mo) (z:=z) (n:=l.length) (L:=l++sp)
  go_enter func344,ntmps344
  go_wp2_with (first|go_at_call 346;refine ci hS hT _ rfl ?_;clear hS;intro w hS;unfold ab;simp only[cq] at hS|refine au rfl hS ?_|refine ak rfl hS ?_;clear hS;intro w hS|refine aq _ rfl hS ?_;clear hS;intro bN w hbN hS)
  exact hR _ _ _ ⟨h1,h2,h3,_,mo,sp,hmo,hl,rfl,rfl⟩ hS
def Al (T:Sq)(x:Int):Int:=match T with
 | some (some _)=>if x<0∨256≤x then 3 else 0
 | _=>1
def xn (T:Sq)(x:Int):Bool:=match T with
 | some (some (z,_,l))=>if x<0∨256≤x then false else decide (l.length≠z)
 | _=>false
def uc (T:Sq)(x:Int):Sq:=match T with
 | some (some (z,o,l))=>if x<0∨256≤x then some (some (z,o,l)) else if l.length=z then some (some (z,true,l)) else some (some (z,o,l++[x]))
 | T=>T
def EL (T:Sq):Int:=match T with
 | some (some (_,_,l))=>l.getLastD 0
 | _=>0
def EM (T:Sq):Bool:=match T with
 | some (some (_,_,l))=>!l.isEmpty
 | _=>false
def EK (T:Sq):Sq:=match T with
 | some (some (z,o,l))=>some (some (z,o,l.dropLast))
 | T=>T
theorem wx {p:Option Addr}{T:Sq}(hO:St w0 bs w H)(hT:SA p T E)[hc:Cut H E H1](x:Int){T': Sq}{v:Bool}{e:Int}(hT' : uc T x=T')(hv:xn T x=v)(he:Al T x=e)
  (hR:∀ E' w',SA p T' E'->St w0 bs w' (E'++H1)->ab R (.tuple #[.bool v,.int .i64 e]) w'):Calls prog 274 #[.pointer p,.int .i64 x] w R:=by
 have hS:=hO.fr E H1
 clear hO
 subst hT' hv he
 rcases T with _|_|⟨z,o,l⟩
 ·go_enter func274,ntmps274
  go_wp2_with (go_at_call 346;refine ci hS hT _ rfl ?_;clear hS;intro w hS;unfold ab)
  exact hR _ _ hT hS
 ·go_enter func274,ntmps274
  go_wp2_with (go_at_call 346;refine ci hS hT _ rfl ?_;clear hS;intro w hS;unfold ab)
  exact hR _ _ hT hS
 ·obtain⟨h1,h2,h3,b,mo,sp,hmo,hl,rfl,rfl⟩:=id hT
  by_cases hx:x<0∨256≤x
  ·have e1:Al (some (some (z,o,l))) x=3:=by simp only[Al,if_pos hx]
   have e2:xn (some (some (z,o,l))) x=false:=by simp only[xn,if_pos hx]
   have e3:uc (some (some (z,o,l))) x=some (some (z,o,l)):=by simp only[uc,if_pos hx]
   rw[e1,e2,e3] at hR
   clear e1 e2 e3
   by_cases h0:x<0
   ·have d1:decide (x<0)=true:=decide_eq_true h0
    go_enter func274,ntmps274
    go_wp2_with (go_at_call 346;refine ci hS hT _ rfl ?_;clear hS;intro w hS;unfold ab)
    exact hR _ _ hT hS
   ·have d1:decide (x<0)=false:=decide_eq_false h0
    have d2:decide (256≤x)=true:=DT
    go_enter func274,ntmps274
    go_wp2_with (go_at_call 346;refine ci hS hT _ rfl ?_;clear hS;intro w hS;unfold ab)
    exact hR _ _ hT hS
  ·have d1:decide (x<0)=false:=DF
   have d2:decide (256≤x)=false:=DF
   have e1:Al (some (some (z,o,l))) x=0:=by simp only[Al,if_neg hx]
   rw[e1] at hR
   by_cases hf:l.length=z
   ·have e2:xn (some (some (z,o,l))) x=false:=by simp only[xn,if_neg hx];exact DF
    have e3:uc (some (some (z,o,l))) x=some (some (z,true,l)):=by simp only[uc,if_neg hx,if_pos hf]
    rw[e2,e3] at hR
    clear e1 e2 e3 hx hT
    subst hf
    go_enter func274,ntmps274
    go_wp2_with (first|go_at_call 346;refine ci (T:=some (some (_,o,l))) hS ⟨h1,h2,by omega,b,mo,_,hmo,hl,rfl,rfl⟩ _ rfl ?_;clear hS;intro w hS;unfold ab;simp only[cq] at hS|refine av hS (fun hne=>?_);(repeat (go_big_quiet_want;first|((refine aE bk (fun w hS=>ac _ _ rfl hS) ?_);go_big_quiet_on)|(go_big_quiet_op;go_big_quiet_on)));refine wpQuiet_nil ?_;clear hS hne;intro w hS|refine bP rfl hS ?_;clear hS;intro w hS)
    exact hR _ _ ⟨h1,h2,Nat.le_refl _,b,mo,sp,hmo,hl,rfl,rfl⟩ hS
   ·have e2:xn (some (some (z,o,l))) x=true:=by simp only[xn,if_neg hx];exact DT
    have e3:uc (some (some (z,o,l))) x=some (some (z,o,l++[x])):=by simp only[uc,if_neg hx,if_neg hf]
    rw[e2,e3] at hR
    obtain⟨n,hn⟩:∃ n,l.length=n:=⟨_,rfl⟩
    have hnz:n<z:=by omega
    obtain⟨y,sp',rfl⟩:∃ y sp',sp=y::sp':=by
     cases sp with
     | nil=>simp at hl;omega
     | cons y sp'=>exact⟨y,sp',rfl⟩
    have hat:(l++y::sp')[n]?=some y:=by rw[List.getElem?_append_right (by omega),hn];simp
    have hss:=fun q:Int=>Cx (o:=o) (mo:=mo) (z:=z) (n:=(n:Int)) hat q
    have hnew:(l++y::sp').set n x=l++[x]++sp':=by rw[List.set_append_right _ _ (by omega),hn];simp
    have ix:=qM (P:=prog) (t:=229) (b:=b) (off:=0+4) (i:=n) underlying229 (by omega)
    have f1:((n:Int) == (z:Int))=false:=beq_eq_false_iff_ne.2 (by omega)
    have f2:decide ((n:Int)=(z:Int))=false:=DF
    have f3:decide (n=z)=false:=DF
    have s1:SumIs (n:Int) 1 ((n+1:Nat):Int):=⟨by omega,by omega,by omega⟩
    obtain⟨mo',hmo'⟩:∃ q:Int,(if ((n+1:Nat):Int) > mo then ((n+1:Nat):Int) else mo)=q:=⟨_,rfl⟩
    have mx:MaxIs mo ((n+1:Nat):Int) mo':=⟨hmo'⟩
    have hm2:0≤mo'∧mo'≤64:=by split at hmo' <;> omega
    have hnew':=HD hnew
    have hm2':=HD hm2
    have hl':=HD hl
    have hn':=HD hn
    clear e1 e2 e3 hx hT hf hat hnew hmo' hm2 hn
    go_enter func274,ntmps274
    go_wp2_with (go_at_call 346;refine ci (T:=some (some (_,o,l))) hS ⟨h1,h2,by omega,b,mo,_,hmo,hl,rfl,rfl⟩ _ rfl ?_;clear hS;intro w hS;unfold ab;simp only[cq] at hS;rw[hn'.out] at hS)
    refine av hS (fun hne=>?_)
    go_big_quiet_want;(refine aH (fun w _=>ad rfl) ?_;go_big_quiet_on)
    go_big_quiet_want;(refine aH (fun w _=>ah rfl) ?_;go_big_quiet_on)
    go_big_quiet_want;(refine aH (fun w _=>ag rfl) ?_;go_big_quiet_on)
    go_big_quiet_want;(refine aE bk (fun w hS=>ac _ _ rfl hS) ?_;go_big_quiet_on)
    go_big_quiet_want;(refine aH (fun w _=>ad rfl) ?_;go_big_quiet_on)
    go_big_quiet_want;(refine aH (fun w _=>ah rfl) ?_;go_big_quiet_on)
    go_big_quiet_want;(refine aH (fun w _=>ag rfl) ?_;go_big_quiet_on)
    go_big_quiet_want;(refine aE bk (fun w hS=>ac _ _ rfl hS) ?_;go_big_quiet_on)
    go_big_quiet_want;(go_big_quiet_op;go_big_quiet_on)
    go_big_quiet_want;(refine aH (fun w _=>aG rfl) ?_;go_big_quiet_on)
    refine wpQuiet_nil ?_
    clear hS hne
    intro w hS
    go_wp2_with (go_skip)
    have hS:St w0 bs _ (⟨b,dU o mo z (n:Int) (l++y::sp'),293,true⟩::H1):=hS.p
    refine dz [⟨(undef,[⟨b,dU o mo z (n:Int) (l++y::sp'),293,true⟩]),[(9,[],fun _ _ zz=>zz.2=[⟨b,dU o mo z (n:Int) ((l++y::sp').set n x),293,true⟩])]⟩]
     H1 (⟨b,dU o mo z (n:Int) (l++y::sp'),293,true⟩::H1) (by simp) hS (by kernel_rfl) (by kernel_rfl) ?_
    refine aS (fun _=>rfl) rfl (fun χ w hw=>ad rfl) ?_
    refine aS (fun _=>rfl) rfl (fun χ w hw=>ad rfl) ?_
    refine aS (fun _=>rfl) rfl (fun χ w hw=>ah rfl) ?_
    refine aS (fun _=>rfl) rfl (fun χ w hw=>ag rfl) ?_
    refine fU 0 0 rfl (fun _=>rfl) rfl (fun _=>.int .i64 (n:Int)) (fun _ _ _=>rfl) (fun χ X w _ hS=>ac _ _ rfl (show St w0 bs w (⟨b,dU o mo z (n:Int) (l++y::sp'),293,true⟩::(X++_)) from hS)) ?_
    refine aS (fun _=>rfl) rfl (fun χ w hw=>ad rfl) ?_
    refine aS (fun _=>rfl) rfl (fun χ w hw=>ah rfl) ?_
    refine aS (fun _=>rfl) rfl (fun χ w hw=>ag rfl) ?_
    refine aS (fun _=>rfl) rfl (fun χ w hw=>aY _ _ _ rfl) ?_
    refine fJ 0 0 rfl rfl (by kernel_rfl) (by kernel_rfl) (by kernel_rfl) (by kernel_rfl) (fun _=>rfl) (fun _=>undef) ?_ ?_
    ·intro χ X w _ hS
     exact bV rfl (show St w0 bs w (⟨b,dU o mo z (n:Int) (l++y::sp'),293,true⟩::(X++_)) from hS) (fun w' hS'=>⟨(undef,[⟨b,dU o mo z (n:Int) ((l++y::sp').set n x),293,true⟩]),rfl,rfl,hS'⟩)
    refine kl rfl ?_
    intro χ w hok hS
    obtain⟨hD,_⟩:=hok _ (.head _)
    have hD:(χ 9).2=[⟨b,dU o mo z (n:Int) ((l++y::sp').set n x),293,true⟩]:=hD
    have hS:St w0 bs w (((χ 9).2++[])++H1):=hS
    rw[hD] at hS
    simp only[aP] at hS
    clear hok hD
    go_wp2_with (first|refine wV (.binOp .add _ _ _ _) rfl (bL rfl) ?_|refine af rfl hS ?_|refine bP rfl hS ?_;clear hS;intro w hS)
    have hS:St w0 bs _ (⟨b,dU o mo z ((n+1:Nat):Int) ((l++y::sp').set n x),293,true⟩::H1):=hS.p
    refine dz [⟨(undef,[⟨b,dU o mo z ((n+1:Nat):Int) ((l++y::sp').set n x),293,true⟩]),[(14,[],fun _ _ zz=>zz.2=[⟨b,dU o mo' z ((n+1:Nat):Int) ((l++y::sp').set n x),293,true⟩])]⟩]
     H1 (⟨b,dU o mo z ((n+1:Nat):Int) ((l++y::sp').set n x),293,true⟩::H1) (by simp) hS (by kernel_rfl) (by kernel_rfl) ?_
    refine aS (fun _=>rfl) rfl (fun χ w hw=>ad rfl) ?_
    refine aS (fun _=>rfl) rfl (fun χ w hw=>ad rfl) ?_
    refine aS (fun _=>rfl) rfl (fun χ w hw=>ah rfl) ?_
    refine aS (fun _=>rfl) rfl (fun χ w hw=>ag rfl) ?_
    refine aS (fun _=>rfl) rfl (fun χ w hw=>ag rfl) ?_
    refine fU 0 0 rfl (fun _=>rfl) rfl (fun _=>.int .i64 mo) (fun _ _ _=>rfl) (fun χ X w _ hS=>ac _ _ rfl (show St w0 bs w (⟨b,dU o mo z ((n+1:Nat):Int) ((l++y::sp').set n x),293,true⟩::(X++_)) from hS)) ?_
    refine aS (fun _=>rfl) rfl (fun χ w hw=>ad rfl) ?_
    refine aS (fun _=>rfl) rfl (fun χ w hw=>ah rfl) ?_
    refine aS (fun _=>rfl) rfl (fun χ w hw=>ag rfl) ?_
    refine fU 0 0 rfl (fun _=>rfl) rfl (fun _=>.int .i64 ((n+1:Nat):Int)) (fun _ _ _=>rfl) (fun χ X w _ hS=>ac _ _ rfl (show St w0 bs w (⟨b,dU o mo z ((n+1:Nat):Int) ((l++y::sp').set n x),293,true⟩::(X++_)) from hS)) ?_
    refine aS (fun _=>rfl) rfl (fun χ w hw=>mQ rfl) ?_
    refine aS (fun _=>rfl) rfl (fun χ w hw=>ah rfl) ?_
    refine aS (fun _=>rfl) rfl (fun χ w hw=>ag rfl) ?_
    refine aS (fun _=>rfl) rfl (fun χ w hw=>ag rfl) ?_
    refine fJ 0 0 rfl rfl (by kernel_rfl) (by kernel_rfl) (by kernel_rfl) (by kernel_rfl) (fun _=>rfl) (fun _=>undef) ?_ ?_
    ·intro χ X w _ hS
     exact bV rfl (show St w0 bs w (⟨b,dU o mo z ((n+1:Nat):Int) ((l++y::sp').set n x),293,true⟩::(X++_)) from hS) (fun w' hS'=>⟨(undef,[⟨b,dU o mo' z ((n+1:Nat):Int) ((l++y::sp').set n x),293,true⟩]),rfl,rfl,hS'⟩)
    refine kl rfl ?_
    intro χ w hok hS
    obtain⟨hD,_⟩:=hok _ (.head _)
    have hD:(χ 14).2=[⟨b,dU o mo' z ((n+1:Nat):Int) ((l++y::sp').set n x),293,true⟩]:=hD
    have hS:St w0 bs w (((χ 14).2++[])++H1):=hS
    rw[hD] at hS
    simp only[aP] at hS
    clear hok hD
    go_wp2_with (go_skip)
    refine hR [⟨b,dU o mo' z ((n+1:Nat):Int) ((l++y::sp').set n x),293,true⟩] _ ⟨h1,h2,by rw[List.length_append,hn'.out];simp;omega,b,mo',sp',hm2'.out,?_,rfl,?_⟩ hS
    ·have:=hl'.out
     simp at this ⊢
     omega
    ·rw[hnew'.out,List.length_append,hn'.out];rfl
theorem jC {p:Option Addr}{T:Sq}(hO:St w0 bs w H)(hT:SA p T E)[hc:Cut H E H1]{T': Sq}{r:Int}(v:Bool)(hT' : EK T=T')(hr:EL T=r)(hv:EM T=v)
  (hR:∀ E' w',SA p T' E'->St w0 bs w' (E'++H1)->ab R (.tuple #[.int .i64 r,.bool v]) w'):Calls prog 446 #[.pointer p] w R:=by
 have hS:=hO.fr E H1
 clear hO
 subst hT' hr hv
 rcases T with _|_|⟨z,o,l⟩
 ·go_enter func446,ntmps446
  go_wp2_with (first|go_skip|go_at_call 346;refine ci hS hT _ rfl ?_;clear hS;intro w hS;unfold ab)
  exact hR _ _ hT hS
 ·go_enter func446,ntmps446
  go_wp2_with (first|go_skip|go_at_call 346;refine ci hS hT _ rfl ?_;clear hS;intro w hS;unfold ab)
  exact hR _ _ hT hS
 ·obtain⟨h1,h2,h3,b,mo,sp,hmo,hl,rfl,rfl⟩:=id hT
  rcases List.eq_nil_or_concat l with rfl|⟨l',y,rfl⟩
  ·go_enter func446,ntmps446
   go_wp2_with (first|go_at_call 346;refine ci hS hT _ rfl ?_;clear hS;intro w hS;unfold ab;simp only[List.cons_append,List.nil_append,List.length_nil] at hS|refine af rfl hS ?_)
   exact hR _ _ ⟨h1,h2,h3,b,mo,sp,hmo,hl,rfl,rfl⟩ hS
  ·have e1:EK (some (some (z,o,l'.concat y)))=some (some (z,o,l')):=by simp[EK]
   have e2:EL (some (some (z,o,l'.concat y)))=y:=by simp[EL]
   have e3:EM (some (some (z,o,l'.concat y)))=true:=by simp[EM]
   rw[e1,e2,e3] at hR
   obtain⟨n,hn⟩:∃ n,l'.length=n:=⟨_,rfl⟩
   have hcl:(l'.concat y).length=n+1:=by rw[List.length_concat,hn]
   have hcc:l'.concat y++sp=l'++(y::sp):=by simp
   have hat:(l'++(y::sp))[n]?=some y:=by rw[List.getElem?_append_right (by omega),hn];simp
   have hca:=FV (o:=o) (mo:=mo) (z:=z) (n:=(n:Int)) hat
   have hn64:n<64:=by rw[hcl] at hl;omega
   have ix:=qM (P:=prog) (t:=229) (b:=b) (off:=0+4) (i:=n) underlying229 hn64
   have f1:(((n+1:Nat):Int) == 0)=false:=beq_eq_false_iff_ne.2 (by omega)
   have f2:decide (((n+1:Nat):Int)=0)=false:=DF
   have f3:decide (n+1=0)=false:=DF
   have s1:DifIs ((n+1:Nat):Int) 1 (n:Int):=⟨by omega,by omega,by omega⟩
   have hcl':=HD hcl
   have hcc':=HD hcc
   have hn':=HD hn
   have hl':=HD hl
   clear e1 e2 e3 hat hn hcl hcc hl
   go_enter func446,ntmps446
   go_wp2_with (first|go_at_call 346;refine ci hS hT _ rfl ?_;clear hS;intro w hS;unfold ab;simp only[cq] at hS;rw[hcl'.out,hcc'.out] at hS;clear hT|refine wV (.binOp .sub _ _ _ _) rfl (aC rfl) ?_|refine af rfl hS ?_|refine bP rfl hS ?_;clear hS;intro w hS)
   refine av hS (fun hne=>?_)
   go_big_quiet_want;(refine aH (fun w _=>ad rfl) ?_;go_big_quiet_on)
   go_big_quiet_want;(refine aH (fun w _=>ad rfl) ?_;go_big_quiet_on)
   go_big_quiet_want;(refine aH (fun w _=>ah rfl) ?_;go_big_quiet_on)
   go_big_quiet_want;(refine aH (fun w _=>ag rfl) ?_;go_big_quiet_on)
   go_big_quiet_want;(refine aE bk (fun w hS=>ac _ _ rfl hS) ?_;go_big_quiet_on)
   go_big_quiet_want;(refine aH (fun w _=>ah rfl) ?_;go_big_quiet_on)
   go_big_quiet_want;(refine aH (fun w _=>ag rfl) ?_;go_big_quiet_on)
   go_big_quiet_want;(refine aH (fun w _=>aY _ _ _ rfl) ?_;go_big_quiet_on)
   go_big_quiet_want;(refine aE bk (fun w hS=>ac _ _ rfl hS) ?_;go_big_quiet_on)
   go_big_quiet_want;(refine aH (fun w _=>aG rfl) ?_;go_big_quiet_on)
   go_big_quiet_want;(refine aH (fun w _=>aG rfl) ?_;go_big_quiet_on)
   refine wpQuiet_nil ?_
   clear hS hne
   intro w hS
   go_wp2_with (go_skip)
   refine hR [⟨b,dU o mo z (n:Int) (l'++y::sp),293,true⟩] _ ⟨h1,h2,?_,b,mo,y::sp,hmo,?_,rfl,?_⟩ hS
   ·have:=hcl'.out
    rw[hn'.out];omega
   ·have:=hl'.out
    rw[hcl'.out] at this
    simp[hn'.out];omega
   ·rw[hn'.out]
end Go.Proofs.YtnbgljbhkeffkaaGreatDoor
