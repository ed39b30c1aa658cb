/-
  Contracts of what the law TopPasses reaches, part 14: Desk DeskB DeskG Bufs.
-/
import Derived.Test.YtnbgljbhkeffkaaGreatDoorQ10
open Go.Proofs.Tryz
set_option linter.unusedVariables false
set_option linter.unusedSimpArgs false
set_option maxHeartbeats 4000000
set_option maxRecDepth 100000
namespace Go.Mm
open Go Go.RowKit
section
variable {P:Program}{o:Oper}{a:Act}{w:World}
end
theorem xO {P:Program}{t e:TypeId}{m z b off i:Nat}(hi:i<m)(ht:P.underlying t=some (.array m e):=by kernel_rfl)(hs:(P.info? e).map (·.size)=some z:=by kernel_rfl):IdxV P t (.pointer (some ⟨b,off,none⟩)) i ⟨b,off+i * z,none⟩:=⟨fun w=>by
 have h2:0≤(i:Int):=by omega
 simp[Instr.indexAt,asIntOf,run_underlying ht,Instr.sureAddr,hi,aU hs,Addr.add_lit]⟩
end Go.Mm
namespace Go.Proofs.YtnbgljbhkeffkaaGreatDoor
open Go.RowKit Go.Mm
variable {R:Ending->World->Prop}{w:World}{w0:World}{bs:List Nat}{H H' H1 E:List Ent}
abbrev Ls:=Int×Int×Int
abbrev Dk:=Option (Option (List Ls))
def tc (L:List Ls):List (Int×Int):=L.map (fun x=>(x.1,x.2.1))
def FL (L:List Ls):List Int:=L.map (·.2.2)
structure DkW (L:List Ls):Prop where
 lo:0<L.length
 hi:L.length≤64
 tb:TbW (tc L)
 un:∀ x∈L,0≤x.2.2∧x.2.2≤1099511627776
theorem wg (L:List Ls):(tc L).length=L.length:=by simp [tc]
theorem pR (n:Nat)(g:Int):tc (List.replicate n (0,g,0))=List.replicate n (0,g):=by simp [tc]
def DM:Dk->Bool
 | some (some _)=>true
 | _=>false
def OT:Dk->List Ls
 | some (some L)=>L
 | _=>[]
def jY (z g:Int):Bool:=decide (1≤z) && decide (z≤64) && decide (1≤g)
def GK (z g:Int):Dk:=if jY z g then some (some (List.replicate z.toNat (0,g,0))) else none
def uA (z g:Int):Int:=if jY z g then 0 else 2
def Pt (n:Int):Bool:=decide (1≤n) && decide (n≤1048576)
def Pq (n:Int):Bool:=decide (0≤n) && decide (n≤1099511627776)
def Po (T:Dk)(ok:Bool)(k i g:Int):Int:=
 match T with
 | some (some L)=>if ok && decide (k=3) && decide (0≤i) && decide (i<64) && decide (1≤g) then iN (some (tc L)) i g else 2
 | _=>1
def Me (T:Dk)(i:Int):Int:=((OT T).getD i.toNat (0,0,0)).2.2
def Fp (T:Dk):Dk:=if DM T then T else none
def pv (x:Int):List Value:=[.int .i64 x]
theorem u0 (x:Int):(pv x).length=1:=rfl
def rR (L:List Ls):List Int:=FL L++List.replicate (64 - L.length) 0
theorem uk {L:List Ls}(h:L.length≤64):(rR L).length=64:=by simp [rR,FL];omega
def dW (t:Option Addr)(B:List Int):Array Value:=cX [.pointer t] pv B []
section
variable {t:Option Addr}{B:List Int}
instance K3:CellAt (dW t B) 0 (.pointer t):=cz rfl
end
def mp:List Int:=List.replicate 64 0
instance Ht {p:Option Addr} : BuildT prog 247 [(0,.pointer p)] (dW p mp):=⟨fun w=>by kernel_rfl⟩
instance L7:AggT prog 99 3:=⟨by kernel_rfl,by kernel_rfl⟩
instance HK:ZeroT prog 99 #[.int .i64 0,.int .i64 0,.int .u32 0]:=⟨by kernel_rfl⟩
instance LL {k i g:Int} : BuildT prog 99 [(0,.int .i64 k),(1,.int .i64 i),(2,.int .u32 g)] #[.int .i64 k,.int .i64 i,.int .u32 g]:=⟨fun w=>by kernel_rfl⟩
instance DJ {b off:Nat} : FieldAt prog 247 0 b off off:=⟨fun w=>by kernel_rfl⟩
instance DI {b off:Nat} : FieldAt prog 247 1 b off (off+1):=⟨fun w=>by kernel_rfl⟩
instance Fe {b off:Nat} : FieldAt prog 176 0 b off off:=⟨fun w=>by kernel_rfl⟩
instance Fd {b off:Nat} : FieldAt prog 176 1 b off (off+1):=⟨fun w=>by kernel_rfl⟩
instance Ff {b off:Nat} : FieldAt prog 99 0 b off off:=⟨fun w=>by kernel_rfl⟩
def DA (p:Option Addr)(T:Dk)(E:List Ent):Prop:=
 match T with
 | none=>p=none∧E=[]
 | some none=>∃ b,p=some ⟨b,0,none⟩∧E=[⟨b,dW none mp,247,true⟩]
 | some (some L)=>DkW L∧∃ b bt Et,p=some ⟨b,0,none⟩∧TA (some ⟨bt,0,none⟩) (some (tc L)) Et∧E=⟨b,dW (some ⟨bt,0,none⟩) (rR L),247,true⟩::Et
theorem DA.none:DA none none []:=⟨rfl,rfl⟩
theorem vk {p:Option Addr}{T:Dk}(hO:St w0 bs w H)(hT:DA p T E)[hc:Cut H E H1](b:Bool)(hb:DM T=b)
  (hR:∀ w',St w0 bs w' (E++H1)->ab R (.bool b) w'):Calls prog 139 #[.pointer p] w R:=by
 have hS:=hO.fr E H1
 clear hO hc
 subst hb
 rcases T with _|_|L
 ·obtain⟨rfl,rfl⟩:=hT
  simp only[List.nil_append] at hS
  go_enter func139,ntmps139
  go_wp2_with (go_skip)
  exact hR _ hS.p
 ·obtain⟨b,rfl,rfl⟩:=hT
  simp only[cq] at hS
  go_enter func139,ntmps139
  go_wp2_with (refine af rfl hS ?_)
  exact hR _ hS.p
 ·obtain⟨_,b,bt,Et,rfl,hTt,rfl⟩:=hT
  simp only[cq] at hS
  go_enter func139,ntmps139
  go_wp2_with (refine af rfl hS ?_)
  exact hR _ hS.p
theorem Bq (hO:St w0 bs w H)(z g:Int)(hg:0≤g∧g≤4294967295){T:Dk}(e:Int)(hT0:GK z g=T)(he0:uA z g=e)(hR:∀ p E w',DA p T E->St w0 bs w' (E++H)->ab R (.tuple #[.pointer p,.int .i64 e]) w') :
  Calls prog 52 #[.int .i64 z,.int .u32 g] w R:=by
 have hS:=hO
 subst hT0 he0
 clear hO
 cases hok:jY z g with
 | true=>
  unfold GK uA at hR
  rw[hok] at hR
  simp only[if_true] at hR
  have hok':=hok
  simp only[jY,Bool.and_eq_true,decide_eq_true_eq] at hok'
  obtain⟨⟨h1,h2⟩,h5⟩:=hok'
  have q1:decide (z<1)=false:=DF
  have q2:decide (64<z)=false:=DF
  have hn:cO z g=true:=by simp only[cO,Bool.and_eq_true,decide_eq_true_eq];omega
  have e1:ni z g=some (tc (List.replicate z.toNat (0,g,0))):=by unfold ni;rw[hn,pR];rfl
  have e2:kF z g=0:=by unfold kF;rw[hn];rfl
  have e1':=HD e1
  have e2':=HD e2
  have hW:DkW (List.replicate z.toNat (0,g,0)):=⟨by rw[List.length_replicate];omega,by rw[List.length_replicate];omega,by rw[pR];exact TbW.rep (by omega) (by omega),fun x hx=>by rw[(List.mem_replicate.1 hx).2];simp⟩
  have hpad:rR (List.replicate z.toNat (0,g,0))=mp:=by
   simp only[rR,FL,List.map_replicate,List.length_replicate,mp,List.replicate_append_replicate]
   congr 1;omega
  have hpad':=HD hpad
  clear hok h1 h2 h5 hn e1 e2 hpad
  go_enter func52,ntmps52
  go_wp2_with (first|go_at_call 48;refine iv hS z g hg ?_;clear hS;intro pt Et w hTt hS;rw[e1'.out] at hTt;rw[e2'.out];unfold ab|refine aL rfl ?_|refine am _ rfl hS ?_;clear hS;intro bN w hbN hS)
  obtain⟨bt,hpt⟩:∃ bt,pt=some ⟨bt,0,none⟩:=by obtain⟨_,bt,h,_⟩:=id hTt;exact⟨bt,h⟩
  subst hpt
  refine hR _ (⟨bN,dW (some ⟨bt,0,none⟩) mp,247,true⟩::Et) _ ⟨hW,bN,bt,Et,rfl,hTt,?_⟩ hS
  rw[hpad'.out]
 | false=>
  unfold GK uA at hR
  rw[hok] at hR
  have hno : ¬ jY z g=true:=by rw[hok];simp
  simp only[jY,Bool.and_eq_true,decide_eq_true_eq] at hno
  clear hok
  by_cases h1:z<1
  ·have q1:decide (z<1)=true:=decide_eq_true h1
   go_enter func52,ntmps52
   go_wp2_with (go_skip)
   exact hR Option.none [] _ DA.none hS
  have q1:decide (z<1)=false:=decide_eq_false h1
  by_cases h2:64<z
  ·have q2:decide (64<z)=true:=decide_eq_true h2
   go_enter func52,ntmps52
   go_wp2_with (go_skip)
   exact hR Option.none [] _ DA.none hS
  have q2:decide (64<z)=false:=decide_eq_false h2
  have hn:cO z g=false:=by
   rw[Bool.eq_false_iff]
   simp only[ne_eq,cO,Bool.and_eq_true,decide_eq_true_eq]
   omega
  have e1:ni z g=none:=by unfold ni;rw[hn];rfl
  have e2:kF z g=2:=by unfold kF;rw[hn];rfl
  have e1':=HD e1
  have e2':=HD e2
  clear hno hn e1 e2
  go_enter func52,ntmps52
  go_wp2_with (go_at_call 48;refine iv hS z g hg ?_;clear hS;intro pt Et w hTt hS;rw[e1'.out] at hTt;rw[e2'.out];unfold ab)
  exact hR Option.none [] _ DA.none hS.p
open Go.RowKit Go.Mm
instance HE:AggT prog 420 3:=⟨by kernel_rfl,by kernel_rfl⟩
instance FE:ZeroT prog 420 #[.int .i64 0,.int .i64 0,.int .i64 0]:=⟨by kernel_rfl⟩
instance Ho {k i g:Int} : BuildT prog 420 [(0,.int .i64 k),(1,.int .i64 i),(2,.int .i64 g)] #[.int .i64 k,.int .i64 i,.int .i64 g]:=⟨fun w=>by kernel_rfl⟩
theorem AC (hO:St w0 bs w H)(k i g:Int)(hg:0≤g∧g≤4294967295)(hR:∀ w',St w0 bs w' H->ab R (.agg #[.int .i64 k,.int .i64 i,.int .i64 g]) w'):Calls prog 295 #[.agg #[.int .i64 k,.int .i64 i,.int .u32 g]] w R:=by
 have hS:=hO
 clear hO
 obtain⟨g0,g1⟩:=hg
 go_enter func295,ntmps295
 go_wp2_with (first|refine am 99 rfl hS ?_;clear hS;intro bo w _ hS|refine aq 420 rfl hS ?_;clear hS;intro br w _ hS|refine aL rfl ?_|refine af rfl hS ?_|refine ak rfl hS ?_;clear hS;intro w hS)
 refine bodyPost_ret (aI rfl hS) rfl ?_
 exact hR _ hS.p
theorem kV {b:Nat}{j:Nat}(hj:j<3){z:Int}(hz:z=j):IdxV prog 420 (.pointer (some ⟨b,0,none⟩)) z ⟨b,0+j * 1,none⟩:=by
 subst hz
 exact xO (m:=3) (e:=3) hj
def kT (k i g:Int):Int:=if decide (1≤k) && decide (k≤3) && decide (0≤i) && decide (i<64) && decide (1≤g) then 0 else 2
theorem xA (hO:St w0 bs w H)(k i g:Int)(hg:0≤g∧g≤4294967295)(e:Int)(he:kT k i g=e)(hR:∀ w',St w0 bs w' H->ab R (.int .i64 e) w'):Calls prog 296 #[.agg #[.int .i64 k,.int .i64 i,.int .i64 g],.int .i64 64] w R:=by
 have hS:=hO
 clear hO
 obtain⟨g0,g1⟩:=hg
 have i0:∀ b,IdxV prog 420 (.pointer (some ⟨b,0,none⟩)) 0 ⟨b,0,none⟩:=fun b=>kV (b:=b) (j:=0) (by decide) (z:=0) rfl
 have i1:∀ b,IdxV prog 420 (.pointer (some ⟨b,0,none⟩)) 1 ⟨b,1,none⟩:=fun b=>kV (b:=b) (j:=1) (by decide) (z:=1) rfl
 have i2:∀ b,IdxV prog 420 (.pointer (some ⟨b,0,none⟩)) 2 ⟨b,2,none⟩:=fun b=>kV (b:=b) (j:=2) (by decide) (z:=2) rfl
 by_cases h1:k<1
 ·have q1:decide (k<1)=true:=decide_eq_true h1
  have e0:kT k i g=2:=by unfold kT;rw[if_neg];simp only[Bool.and_eq_true,decide_eq_true_eq];omega
  rw[e0] at he;subst he
  clear e0
  go_enter func296,ntmps296
  go_wp2_with (first|go_skip|refine am 420 rfl hS ?_;clear hS;intro bo w _ hS|refine aM rfl ?_|refine af rfl hS ?_)
  exact hR _ hS.p
 have q1:decide (k<1)=false:=decide_eq_false h1
 by_cases h2:3<k
 ·have q2:decide (3<k)=true:=decide_eq_true h2
  have e0:kT k i g=2:=by unfold kT;rw[if_neg];simp only[Bool.and_eq_true,decide_eq_true_eq];omega
  rw[e0] at he;subst he
  clear e0
  go_enter func296,ntmps296
  go_wp2_with (first|go_skip|refine am 420 rfl hS ?_;clear hS;intro bo w _ hS|refine aM rfl ?_|refine af rfl hS ?_)
  exact hR _ hS.p
 have q2:decide (3<k)=false:=decide_eq_false h2
 by_cases h3:i<0
 ·have q3:decide (i<0)=true:=decide_eq_true h3
  have e0:kT k i g=2:=by unfold kT;rw[if_neg];simp only[Bool.and_eq_true,decide_eq_true_eq];omega
  rw[e0] at he;subst he
  clear e0
  go_enter func296,ntmps296
  go_wp2_with (first|go_skip|refine am 420 rfl hS ?_;clear hS;intro bo w _ hS|refine aM rfl ?_|refine af rfl hS ?_)
  exact hR _ hS.p
 have q3:decide (i<0)=false:=decide_eq_false h3
 by_cases h4:64≤i
 ·have q4:decide (64≤i)=true:=decide_eq_true h4
  have e0:kT k i g=2:=by unfold kT;rw[if_neg];simp only[Bool.and_eq_true,decide_eq_true_eq];omega
  rw[e0] at he;subst he
  clear e0
  go_enter func296,ntmps296
  go_wp2_with (first|refine am 420 rfl hS ?_;clear hS;intro bo w _ hS|refine aM rfl ?_|refine af rfl hS ?_)
  exact hR _ hS.p
 have q4:decide (64≤i)=false:=decide_eq_false h4
 by_cases h5:1≤g
 ·have e0:kT k i g=0:=by unfold kT;rw[if_pos];simp only[Bool.and_eq_true,decide_eq_true_eq];omega
  rw[e0] at he;subst he
  clear e0
  go_enter func296,ntmps296
  go_wp2_with (first|refine am 420 rfl hS ?_;clear hS;intro bo w _ hS|go_at_call 49;refine iK h5 g1 ?_;unfold ab|refine aM rfl ?_|refine af rfl hS ?_)
  exact hR _ hS.p
 ·obtain rfl:g=0:=by omega
  have e0:kT k i 0=2:=by unfold kT;rw[if_neg];simp only[Bool.and_eq_true,decide_eq_true_eq];omega
  rw[e0] at he;subst he
  clear e0
  go_enter func296,ntmps296
  go_wp2_with (first|refine am 420 rfl hS ?_;clear hS;intro bo w _ hS|go_at_call 49;refine gt ?_;unfold ab|refine aM rfl ?_|refine af rfl hS ?_)
  exact hR _ hS.p
theorem jT (hO:St w0 bs w H)(k i g:Int)(hg:0≤g∧g≤4294967295)(e:Int)(he:kT k i g=e)(hR:∀ w',St w0 bs w' H->ab R (.int .i64 e) w'):Calls prog 213 #[.agg #[.int .i64 k,.int .i64 i,.int .u32 g]] w R:=by
 have hS:=hO
 clear hO
 go_enter func213,ntmps213
 go_wp2_with (first|refine am 99 rfl hS ?_;clear hS;intro bo w _ hS|(first|go_at_call 295;refine AC hS k i g hg ?_|go_at_call 296;refine xA hS k i g hg e he ?_);clear hS;intro w hS;unfold ab|refine au rfl hS ?_)
 exact hR _ hS.p
end Go.Proofs.YtnbgljbhkeffkaaGreatDoor
namespace Go.Mm
open Go Go.RowKit
section
variable {G:Gs}{χ:Nat->Gx}{k:Nat}
theorem nf:∀ (l:List (Nat×(Gx->Gx->Prop))) (s:Nat) (y:Gx),(∀ q∈l.take s,G q.1=true)->ot G χ y l->sH χ y (l.take s)
 | [],s,y,_,_=>by simp[sH]
 | (j,p)::l,0,y,_,_=>trivial
 | (j,p)::l,s+1,y,h,hok=>by
  rw[List.take_succ_cons] at h ⊢
  unfold ot at hok
  rw[if_pos (h (j,p) (by simp))] at hok
  exact⟨hok.1,nf l s (χ j) (fun q hq=>h q (by simp[hq])) hok.2⟩
variable {P:Program}{ops:Array Oper}{md:Region.Mode}{w0:World}{bs:List Nat}{H:List Ent}{items:List Item}
variable {EE:List Nat->((Nat->Gx)->Act)->Prop}{M:List Nat}{o:Oper}{rest:List Oper}{A A' : (Nat->Gx)->Act}
theorem vh (n s:Nat){it:Item}(hit:items[n]?=some it)(hpre:((it.st.take s).all fun q=>M.contains q.1 && dR md ops q.1 k)=true)
  (hw:∀ χ,Region.wanted o (yielded ops (A χ).tmps)=true) (hm:mI items k=false) (v:(Nat->Gx)->Value) (hs:kz md ops k v)
  (hv:∀ χ w,sH χ it.x0 (it.st.take s)->St w0 bs w H->ay P o (A χ) w (v χ)) [hp:∀ χ,Put (A χ) o.dst (v χ) (A' χ)]
  (h:aX P md ops (CI w0 bs items H) (mI items) EE (k+1) M rest A'):aX P md ops (CI w0 bs items H) (mI items) EE k M (o::rest) A:=by
 refine .inl ⟨hw,v,hs,?_,?_⟩
 ·unfold Yy
  rw[if_neg (by rw[hm];simp)]
  intro G χ w hT _ hC
  have hG:∀ q∈it.st.take s,G q.1=true:=fun q hq=>by
   have:=List.all_eq_true.1 hpre q hq
   simp only[Bool.and_eq_true] at this
   exact hT q.1 (by simpa using this.1) this.2
  have hok:=nf it.st s it.x0 hG (hC.1 it (List.mem_of_getElem? hit))
  unfold bB
  rw[hv χ w hok (CI.base hC)]
  exact⟨rfl,hC⟩
 ·rw[if_neg (by rw[hm];simp),show(fun χ=>(A χ).put o.dst (v χ))=A' from funext fun χ=>(hp χ).h]
  exact h
theorem fp {a:Act}{w:World}{t:TypeId}{x:Operand}(ho:o.op=.box t x)(hS:St w0 bs w H){u:Value}[hx:Ev a x u]{cs:Array Value}[hc:CellsOf u cs]{Φ:Value->World->Prop}
  (h:∀ b w',w.heap.size≤b->St w0 bs w' (⟨b,cs,t,true⟩::H)->Φ (.pointer (some ⟨b,0,none⟩)) w'):bB P o a w Φ:=by
 have hS' : St w0 bs (w.alloc (.cells cs t (0,0))) (⟨w.heap.size,cs,t,true⟩::H):=hS.new (Chg.alloc w _) (Nat.le_refl _) (dw w)
 have hr:(execOp a.eval o).run P w=.ok (.value (.pointer (some ⟨w.heap.size,0,none⟩))) (w.alloc (.cells cs t (0,0))):=by
  simp only[execOp,ho,Instr.box,Sem.run_bind,Sem.run_pure,Result.andThen_ok,hx.h,newVar,newRow,hc.h,run_newObj]
  rfl
 unfold bB
 rw[hr]
 exact h _ _ (Nat.le_refl _) hS'
end
end Go.Mm
namespace Go.Proofs.YtnbgljbhkeffkaaGreatDoor
open Go.RowKit Go.Mm
variable {R:Ending->World->Prop}{w:World}{w0:World}{bs:List Nat}{H H' H1 E:List Ent}
theorem az {L:List Int}{n:Nat}(h:L.length=n+1):∃ a L',L=a::L'∧L'.length=n:=by
 cases L with
 | nil=>cases h
 | cons a L=>exact⟨a,L,rfl,by simpa using h⟩
theorem pB {B:List Int}(hB:B.length=64)(p:Option Addr):BuildT prog 247 [(0,.pointer p),(1,.agg (B.flatMap pv).toArray)] (dW p B):=by
 obtain⟨a0,B0,rfl,h0⟩:=az hB
 obtain⟨a1,B1,rfl,h1⟩:=az h0
 obtain⟨a2,B2,rfl,h2⟩:=az h1
 obtain⟨a3,B3,rfl,h3⟩:=az h2
 obtain⟨a4,B4,rfl,h4⟩:=az h3
 obtain⟨a5,B5,rfl,h5⟩:=az h4
 obtain⟨a6,B6,rfl,h6⟩:=az h5
 obtain⟨a7,B7,rfl,h7⟩:=az h6
 obtain⟨a8,B8,rfl,h8⟩:=az h7
 obtain⟨a9,B9,rfl,h9⟩:=az h8
 obtain⟨a10,B10,rfl,h10⟩:=az h9
 obtain⟨a11,B11,rfl,h11⟩:=az h10
 obtain⟨a12,B12,rfl,h12⟩:=az h11
 obtain⟨a13,B13,rfl,h13⟩:=az h12
 obtain⟨a14,B14,rfl,h14⟩:=az h13
 obtain⟨a15,B15,rfl,h15⟩:=az h14
 obtain⟨a16,B16,rfl,h16⟩:=az h15
 obtain⟨a17,B17,rfl,h17⟩:=az h16
 obtain⟨a18,B18,rfl,h18⟩:=az h17
 obtain⟨a19,B19,rfl,h19⟩:=az h18
 obtain⟨a20,B20,rfl,h20⟩:=az h19
 obtain⟨a21,B21,rfl,h21⟩:=az h20
 obtain⟨a22,B22,rfl,h22⟩:=az h21
 obtain⟨a23,B23,rfl,h23⟩:=az h22
 obtain⟨a24,B24,rfl,h24⟩:=az h23
 obtain⟨a25,B25,rfl,h25⟩:=az h24
 obtain⟨a26,B26,rfl,h26⟩:=az h25
 obtain⟨a27,B27,rfl,h27⟩:=az h26
 obtain⟨a28,B28,rfl,h28⟩:=az h27
 obtain⟨a29,B29,rfl,h29⟩:=az h28
 obtain⟨a30,B30,rfl,h30⟩:=az h29
 obtain⟨a31,B31,rfl,h31⟩:=az h30
 obtain⟨a32,B32,rfl,h32⟩:=az h31
 obtain⟨a33,B33,rfl,h33⟩:=az h32
 obtain⟨a34,B34,rfl,h34⟩:=az h33
 obtain⟨a35,B35,rfl,h35⟩:=az h34
 obtain⟨a36,B36,rfl,h36⟩:=az h35
 obtain⟨a37,B37,rfl,h37⟩:=az h36
 obtain⟨a38,B38,rfl,h38⟩:=az h37
 obtain⟨a39,B39,rfl,h39⟩:=az h38
 obtain⟨a40,B40,rfl,h40⟩:=az h39
 obtain⟨a41,B41,rfl,h41⟩:=az h40
 obtain⟨a42,B42,rfl,h42⟩:=az h41
 obtain⟨a43,B43,rfl,h43⟩:=az h42
 obtain⟨a44,B44,rfl,h44⟩:=az h43
 obtain⟨a45,B45,rfl,h45⟩:=az h44
 obtain⟨a46,B46,rfl,h46⟩:=az h45
 obtain⟨a47,B47,rfl,h47⟩:=az h46
 obtain⟨a48,B48,rfl,h48⟩:=az h47
 obtain⟨a49,B49,rfl,h49⟩:=az h48
 obtain⟨a50,B50,rfl,h50⟩:=az h49
 obtain⟨a51,B51,rfl,h51⟩:=az h50
 obtain⟨a52,B52,rfl,h52⟩:=az h51
 obtain⟨a53,B53,rfl,h53⟩:=az h52
 obtain⟨a54,B54,rfl,h54⟩:=az h53
 obtain⟨a55,B55,rfl,h55⟩:=az h54
 obtain⟨a56,B56,rfl,h56⟩:=az h55
 obtain⟨a57,B57,rfl,h57⟩:=az h56
 obtain⟨a58,B58,rfl,h58⟩:=az h57
 obtain⟨a59,B59,rfl,h59⟩:=az h58
 obtain⟨a60,B60,rfl,h60⟩:=az h59
 obtain⟨a61,B61,rfl,h61⟩:=az h60
 obtain⟨a62,B62,rfl,h62⟩:=az h61
 obtain⟨a63,B63,rfl,h63⟩:=az h62
 obtain rfl:B63=[]:=List.eq_nil_of_length_eq_zero h63
 exact⟨fun w=>by kernel_rfl⟩
theorem yp {t:Option Addr}{B:List Int}(hB:B.length=64):CellsAt (dW t B) (0+1) 64 (B.flatMap pv).toArray:=by
 have hl:=bw u0 B
 refine⟨fun j hj=>?_,by simp[hl,hB]⟩
 unfold dW cX
 simp
 rw[Nat.add_comm 1 j,List.getElem?_cons_succ]
instance Ma:AggT prog 245 64:=⟨by kernel_rfl,by kernel_rfl⟩
theorem yn {p:Option Addr}{T:Dk}(hO:St w0 bs w H)(hT:DA p T E)[hc:Cut H E H1]{T': Dk}(hT' : Fp T=T')
  (hR:∀ p' E' w',DA p' T' E'->DA p T E->St w0 bs w' (E'++(E++H1))->ab R (.pointer p') w'):Calls prog 89 #[.pointer p] w R:=by
 have hS:=hO.fr E H1
 clear hO
 subst hT'
 rcases T with _|_|L
 ·go_enter func89,ntmps89
  go_wp2_with (go_at_call 139;refine vk hS hT false rfl ?_;clear hS;intro w hS;unfold ab)
  exact hR _ _ _ DA.none hT hS.p
 ·go_enter func89,ntmps89
  go_wp2_with (go_at_call 139;refine vk hS hT false rfl ?_;clear hS;intro w hS;unfold ab)
  exact hR _ _ _ DA.none hT hS.p
 obtain⟨hW,b,bt,Et,rfl,hTt,rfl⟩:=id hT
 have hl64:=uk hW.hi
 obtain⟨B,hB⟩:∃ B,rR L=B:=⟨_,rfl⟩
 rw[hB] at hl64
 have i1:=yp (t:=some ⟨bt,0,none⟩) hl64
 have i2:=fun q=>pB hl64 q
 have hcp:sL (some (tc L))=some (tc L):=by
  have:=hW.lo
  simp[sL,fe,wg,this]
 have hcp':=HD hcp
 have hB':=HD hB
 rw[hB] at hS
 clear hcp
 go_enter func89,ntmps89
 go_wp2_with (go_at_call 139;refine vk hS (show DA (some ⟨b,0,none⟩) (some (some L)) (⟨b,dW (some ⟨bt,0,none⟩) B,247,true⟩::Et) from⟨hW,b,bt,Et,rfl,hTt,by rw[hB]⟩) true rfl ?_;clear hS;intro w hS;simp only[List.cons_append] at hS;unfold ab)
 refine ao [⟨(undef,[]),[(4,fun _ x=>∃ q,x.1=.pointer q∧TA q (some (tc L)) x.2),(10,fun y x=>∃ b' q,y.1=.pointer q∧x.1=.pointer (some ⟨b',0,none⟩)∧x.2=⟨b',dW q B,247,true⟩::y.2)]⟩] (⟨b,dW (some ⟨bt,0,none⟩) B,247,true⟩::(Et++H1)) (⟨b,dW (some ⟨bt,0,none⟩) B,247,true⟩::(Et++H1)) (by simp) hS.p (by kernel_rfl) (by kernel_rfl) ?_
 (refine fV (fun χ w hw=>ad rfl) ?_)
 (refine fV (fun χ w hw=>ah rfl) ?_)
 (refine fV (fun χ w hw=>ag rfl) ?_)
 (refine fV (fun χ w hw=>ac _ _ rfl hw) ?_)
 refine cj 0 0 rfl rfl (by(rfl)) (by(rfl)) (by(kernel_rfl)) 136 [_] rfl (fun _=>rfl) ae (fun x=>x.1) ?_ ?_
 ·intro χ X w _ hS
  exact gN (show St w0 bs w (X++(⟨b,dW (some ⟨bt,0,none⟩) B,247,true⟩::(Et++H1))) from hS) hTt (fun q E2 w' h2 _ hS'=>by rw[hcp'.out] at h2;exact⟨(.pointer q,E2),rfl,⟨q,rfl,h2⟩,show St w0 bs w' (E2++(X++(⟨b,dW (some ⟨bt,0,none⟩) B,247,true⟩::(Et++H1)))) from hS'.p⟩)
 (refine fV (fun χ w hw=>ad rfl) ?_)
 (refine fV (fun χ w hw=>ah rfl) ?_)
 (refine fV (fun χ w hw=>ag rfl) ?_)
 (refine fV (fun χ w hw=>ai _ _ rfl hw) ?_)
 refine vh 0 1 rfl (by(kernel_rfl)) (fun _=>rfl) rfl (fun χ=>.agg (cX [(χ 4).1] pv B [])) (gK (j:=4) (by kernel_rfl) (fun x=>.agg (cX [x.1] pv B []))) (fun χ w hok hw=>?_) ?_
 ·obtain⟨⟨q,hq,_⟩,_⟩:=hok
  simp only[hq]
  exact bQ _ _ rfl
 refine ap 0 1 rfl rfl (by(rfl)) (by(kernel_rfl)) (by(rfl)) (fun _=>rfl) (fun x=>x.1) ?_ ?_
 ·rintro χ X w ⟨⟨q,hq,h2⟩,_⟩ hS
  exact fp rfl (show St w0 bs w ((χ 4).2++(X++_)) from hS) (fun b' w' _ hS'=>⟨(.pointer (some ⟨b',0,none⟩),⟨b',cX [(χ 4).1] pv B [],247,true⟩::(χ 4).2),rfl,⟨b',q,hq,rfl,by rw[hq];rfl⟩,hS'⟩)
 refine xY (fun _=>rfl) rfl (gK (j:=10) (by kernel_rfl) (fun x=>x.1)) (fun χ w hw=>aG rfl) ?_
 refine bC rfl ?_
 intro χ w hok hS
 obtain⟨⟨q,hq,h2⟩,⟨b',q',hq',hx1,hx2⟩,_⟩:=hok _ (.head _)
 rw[hq] at hq'
 obtain⟨⟩:=hq'
 have hS:St w0 bs w (((χ 10).2++[])++(⟨b,dW (some ⟨bt,0,none⟩) B,247,true⟩::(Et++H1))):=hS
 rw[hx2,List.append_nil] at hS
 simp only[hx1]
 generalize (χ 4).2=E2 at hS h2
 simp only[List.cons_append] at hS
 clear hok hx1 hx2 hq
 go_wp2_with (go_skip)
 obtain⟨bq,rfl⟩:∃ bq,q=some ⟨bq,0,none⟩:=by obtain⟨_,bq,h,_⟩:=id h2;exact⟨bq,h⟩
 refine hR _ (⟨b',dW (some ⟨bq,0,none⟩) B,247,true⟩::E2) _ ⟨hW,b',bq,E2,rfl,h2,by rw[hB]⟩ hT ?_
 rw[hB]
 simp only[List.cons_append]
 exact hS
open Go.RowKit Go.Mm
abbrev Bf:=Int×Int×Int
abbrev Pl:=Option (Option (Int×List Bf))
def td (L:List Bf):List (Int×Int):=L.map (fun x=>(x.1,x.2.1))
def He (L:List Bf):List Int:=L.map (·.2.2)
structure PlW (M:Int)(L:List Bf):Prop where
 lo:0<L.length
 hi:L.length≤64
 tb:TbW (td L)
 by_:∀ x∈L,(x.1=1->1≤x.2.2∧x.2.2≤65536)∧(x.1≠1->x.2.2=0)
 mo:1≤M∧M≤16777216
theorem wj (L:List Bf):(td L).length=L.length:=by simp [td]
def CS:Pl->Bool
 | some (some _)=>true
 | _=>false
def Nu:Pl->List Bf
 | some (some (_,L))=>L
 | _=>[]
def jZ (z M g:Int):Bool:=decide (1≤z) && decide (z≤64) && decide (1≤M) && decide (M≤16777216) && decide (1≤g)
def AI (z M g:Int):Pl:=if jZ z M g then some (some (M,List.replicate z.toNat (0,g,0))) else none
def uB (z M g:Int):Int:=if jZ z M g then 0 else 2
def G0:Pl->Int->Int->Int->Int
 | some (some (_,L)),k,i,g=>if k=2 then (if g7 (td L) i then (if iN (some (td L)) i g=0 then 0 else 7) else 3) else 2
 | _,_,_,_=>1
def PR (T:Pl)(k i g:Int):Int×Int:=if G0 T k i g=0 then (i,g) else (0,0)
def P0 (T:Pl)(k i g:Int):Int:=if G0 T k i g=0 then ((Nu T).getD i.toNat (0,0,0)).2.2 else 0
def Md (L:List Bf)(i:Nat)(g:Int):List Bf:=L.set i (if g<4294967295 then (0,g+1,0) else (2,g,0))
def Pp:Pl->Int->Int->Int->Pl
 | some (some (M,L)),k,i,g=>if G0 (some (some (M,L))) k i g=0 then some (some (M,Md L i.toNat g)) else some (some (M,L))
 | T,_,_,_=>T
def Cf (T:Pl):Pl:=if CS T then T else none
def xP (x:Int):List Value:=[.int .i64 x]
theorem g8 (x:Int):(xP x).length=1:=rfl
theorem vc (x:Int):∀ v∈xP x,v.oneCell'=true:=by
 intro v hv
 simp only[xP,List.mem_cons,List.not_mem_nil,or_false] at hv
 rw[hv];rfl
def m7 (L:List Bf):List Int:=He L++List.replicate (64 - L.length) 0
theorem jS {L:List Bf}(h:L.length≤64):(m7 L).length=64:=by simp [m7,He];omega
def dV (t:Option Addr)(n M:Int)(B:List Int):Array Value:=cX [.pointer t,.int .i64 n,.int .i64 M] xP B []
section
variable {t:Option Addr}{n M:Int}{B:List Int}
instance Jt:CellAt (dV t n M B) 0 (.pointer t):=cz rfl
theorem xr (h:B.length=64):CellsAt (dV t n M B) 0 67 (dV t n M B):=kw g8 (by rw [h];rfl)
theorem uf:OneCells (dV t n M B):=fY (by simp [Value.oneCell']) vc (by simp)
theorem ud (h:B.length=64):SizeIs (dV t n M B) 67:=ij g8 (by rw [h];rfl)
theorem ue {t' : Option Addr}{n' M' : Int}{B' : List Int}(h:B.length=64)(h' : B'.length=64):SetsAt (dV t n M B) 0 (dV t' n' M' B') (dV t' n' M' B'):=ik g8 (by rw [dV,co g8,h,h'];rfl)
theorem xq (u:Option Addr):SetAt (dV t n M B) 0 (.pointer u) (dV u n M B):=dv (by simp) rfl
end
def gc:List Int:=List.replicate 64 0
instance HC:AggT prog 244 67:=⟨by kernel_rfl,by kernel_rfl⟩
instance FC:ZeroT prog 244 (dV none 0 0 gc):=⟨by kernel_rfl⟩
instance Hn {p:Option Addr}{n M:Int} : BuildT prog 244 [(0,.pointer p),(1,.int .i64 n),(2,.int .i64 M)] (dV p n M gc):=⟨fun w=>by kernel_rfl⟩
def PA (p:Option Addr)(T:Pl)(E:List Ent):Prop:=
 match T with
 | none=>p=none∧E=[]
 | some none=>∃ b,p=some ⟨b,0,none⟩∧E=[⟨b,dV none 0 0 gc,244,true⟩]
 | some (some (M,L))=>PlW M L∧∃ b bt Et,p=some ⟨b,0,none⟩∧TA (some ⟨bt,0,none⟩) (some (td L)) Et∧E=⟨b,dV (some ⟨bt,0,none⟩) L.length M (m7 L),244,true⟩::Et
theorem PA.none:PA none none []:=⟨rfl,rfl⟩
theorem oV {p:Option Addr}{T:Pl}(hO:St w0 bs w H)(hT:PA p T E)[hc:Cut H E H1](b:Bool)(hb:CS T=b)
  (hR:∀ w',St w0 bs w' (E++H1)->ab R (.bool b) w'):Calls prog 138 #[.pointer p] w R:=by
 have hS:=hO.fr E H1
 clear hO hc
 subst hb
 rcases T with _|_|⟨M,L⟩
 ·obtain⟨rfl,rfl⟩:=hT
  simp only[List.nil_append] at hS
  go_enter func138,ntmps138
  go_wp2_with (go_skip)
  exact hR _ hS.p
 ·obtain⟨b,rfl,rfl⟩:=hT
  simp only[cq] at hS
  go_enter func138,ntmps138
  go_wp2_with (refine af rfl hS ?_)
  exact hR _ hS.p
 ·obtain⟨_,b,bt,Et,rfl,hTt,rfl⟩:=hT
  simp only[cq] at hS
  go_enter func138,ntmps138
  go_wp2_with (refine af rfl hS ?_)
  exact hR _ hS.p
theorem pS (n:Nat)(g:Int):td (List.replicate n (0,g,0))=List.replicate n (0,g):=by simp [td]
theorem Aw (hO:St w0 bs w H)(z M g:Int)(hg:0≤g∧g≤4294967295){T:Pl}(e:Int)(hT0:AI z M g=T)(he0:uB z M g=e)(hR:∀ p E w',PA p T E->St w0 bs w' (E++H)->ab R (.tuple #[.pointer p,.int .i64 e]) w') :
  Calls prog 51 #[.int .i64 z,.int .i64 M,.int .u32 g] w R:=by
 have hS:=hO
 subst hT0 he0
 clear hO
 cases hok:jZ z M g with
 | true=>
  unfold AI uB at hR
  rw[hok] at hR
  simp only[if_true] at hR
  have hok':=hok
  simp only[jZ,Bool.and_eq_true,decide_eq_true_eq] at hok'
  obtain⟨⟨⟨⟨h1,h2⟩,h3⟩,h4⟩,h5⟩:=hok'
  have q1:decide (z<1)=false:=DF
  have q2:decide (64<z)=false:=DF
  have q3:decide (M<1)=false:=DF
  have q4:decide (16777216<M)=false:=DF
  have q5:decide (g<1)=false:=DF
  have hn:cO z g=true:=by simp only[cO,Bool.and_eq_true,decide_eq_true_eq];omega
  have e1:ni z g=some (td (List.replicate z.toNat (0,g,0))):=by unfold ni;rw[hn,pS];rfl
  have e2:kF z g=0:=by unfold kF;rw[hn];rfl
  have e1':=HD e1
  have e2':=HD e2
  have hz:z=((List.replicate z.toNat ((0:Int),g,(0:Int))).length:Nat):=by rw[List.length_replicate];omega
  have hW:PlW M (List.replicate z.toNat (0,g,0)):=⟨by rw[List.length_replicate];omega,by rw[List.length_replicate];omega,by rw[pS];exact TbW.rep (by omega) (by omega),fun x hx=>by rw[(List.mem_replicate.1 hx).2];simp,h3,h4⟩
  have hpad:m7 (List.replicate z.toNat (0,g,0))=gc:=by
   simp only[m7,He,List.map_replicate,List.length_replicate,gc,List.replicate_append_replicate]
   congr 1;omega
  have hz':=HD hz
  have hpad':=HD hpad
  clear hok h1 h2 h3 h4 h5 hn e1 e2 hz hpad
  go_enter func51,ntmps51
  go_wp2_with (first|go_at_call 48;refine iv hS z g hg ?_;clear hS;intro pt Et w hTt hS;rw[e1'.out] at hTt;rw[e2'.out];unfold ab|refine aL rfl ?_|refine am _ rfl hS ?_;clear hS;intro bN w hbN hS)
  obtain⟨bt,hpt⟩:∃ bt,pt=some ⟨bt,0,none⟩:=by obtain⟨_,bt,h,_⟩:=id hTt;exact⟨bt,h⟩
  subst hpt
  refine hR _ (⟨bN,dV (some ⟨bt,0,none⟩) z M gc,244,true⟩::Et) _ ⟨hW,bN,bt,Et,rfl,hTt,?_⟩ hS
  rw[hpad'.out,← hz'.out]
 | false=>
  unfold AI uB at hR
  rw[hok] at hR
  have hno:z<1∨64<z∨M<1∨16777216<M∨g<1:=by
   have : ¬ jZ z M g=true:=by rw[hok];simp
   simp only[jZ,Bool.and_eq_true,decide_eq_true_eq] at this
   omega
  clear hok
  by_cases h1:z<1
  ·have q1:decide (z<1)=true:=decide_eq_true h1
   go_enter func51,ntmps51
   go_wp2_with (go_skip)
   exact hR Option.none [] _ PA.none hS
  have q1:decide (z<1)=false:=decide_eq_false h1
  by_cases h2:64<z
  ·have q2:decide (64<z)=true:=decide_eq_true h2
   go_enter func51,ntmps51
   go_wp2_with (go_skip)
   exact hR Option.none [] _ PA.none hS
  have q2:decide (64<z)=false:=decide_eq_false h2
  by_cases h3:M<1
  ·have q3:decide (M<1)=true:=decide_eq_true h3
   go_enter func51,ntmps51
   go_wp2_with (go_skip)
   exact hR Option.none [] _ PA.none hS
  have q3:decide (M<1)=false:=decide_eq_false h3
  by_cases h4:16777216<M
  ·have q4:decide (16777216<M)=true:=decide_eq_true h4
   go_enter func51,ntmps51
   go_wp2_with (go_skip)
   exact hR Option.none [] _ PA.none hS
  have q4:decide (16777216<M)=false:=decide_eq_false h4
  have q5:decide (g<1)=true:=DT
  go_enter func51,ntmps51
  go_wp2_with (go_skip)
  exact hR Option.none [] _ PA.none hS
theorem xt {p:Option Addr}{T:Pl}(hO:St w0 bs w H)(hT:PA p T E)[hc:Cut H E H1]{T': Pl}(hT' : Cf T=T')
  (hR:∀ p' E' w',PA p' T' E'->PA p T E->St w0 bs w' (E'++(E++H1))->ab R (.pointer p') w'):Calls prog 88 #[.pointer p] w R:=by
 have hS:=hO.fr E H1
 clear hO
 subst hT'
 replace hR:∀ p' E' w',PA p' (Cf T) E'->St w0 bs w' (E'++(E++H1))->ab R (.pointer p') w':=fun p' E' w' h=>hR p' E' w' h hT
 rcases T with _|_|⟨M,L⟩
 ·go_enter func88,ntmps88
  go_wp2_with (go_at_call 138;refine oV hS hT false rfl ?_;clear hS;intro w hS;(try simp only[cq] at hS);unfold ab)
  exact hR Option.none [] _ PA.none hS.p
 ·go_enter func88,ntmps88
  go_wp2_with (go_at_call 138;refine oV hS hT false rfl ?_;clear hS;intro w hS;(try simp only[cq] at hS);unfold ab)
  exact hR Option.none [] _ PA.none hS.p
 ·obtain⟨hW,b,bt,Et,rfl,hTt,rfl⟩:=id hT
  have i1:=xr (t:=some ⟨bt,0,none⟩) (n:=L.length) (M:=M) (jS hW.hi)
  have i2:=ue (t:=none) (n:=0) (M:=0) (t':=some ⟨bt,0,none⟩) (n':=L.length) (M':=M) (B:=gc) (B':=m7 L) rfl (jS hW.hi)
  have i3:=uf (t:=some ⟨bt,0,none⟩) (n:=L.length) (M:=M) (B:=m7 L)
  have i4:=ud (t:=some ⟨bt,0,none⟩) (n:=L.length) (M:=M) (jS hW.hi)
  have i5:=fun u=>xq (t:=some ⟨bt,0,none⟩) (n:=L.length) (M:=M) (B:=m7 L) u
  have hcp:sL (some (td L))=some (td L):=by
   have:=hW.lo
   simp[sL,fe,wj,this]
  have hcp':=HD hcp
  have hW':=HD hW
  clear hcp hW
  go_enter func88,ntmps88
  go_wp2_with (first|go_at_call 138;refine oV hS hT true rfl ?_;clear hS;intro w hS;(try simp only[cq] at hS);unfold ab|(go_at_call 136;refine gN hS hTt ?_;clear hS;intro pt2 Et2 w hTt2 _ hS;rw[hcp'.out] at hTt2;have i6:=i5 pt2;unfold ab)|(first|refine af rfl hS ?_|refine au rfl hS ?_)|(first|refine bP rfl hS ?_|refine ak rfl hS ?_);clear hS;intro w hS|refine aq _ rfl hS ?_;clear hS;intro bN w hbN hS)
  obtain⟨bt2,hpt⟩:∃ bt,pt2=some ⟨bt,0,none⟩:=by obtain⟨_,bt,h,_⟩:=id hTt2;exact⟨bt,h⟩
  subst hpt
  exact hR _ (⟨bN,_,_,_⟩::Et2) _ ⟨hW'.out,bN,bt2,Et2,rfl,hTt2,rfl⟩ hS.p
end Go.Proofs.YtnbgljbhkeffkaaGreatDoor
