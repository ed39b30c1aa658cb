/-
  Contracts of what the law TopPasses reaches, part 23: Cyc Cyd Cye Pht.
-/
import Derived.Test.YtnbgljbhkeffkaaGreatDoorQ22
open Go.Proofs.Tryz
set_option linter.unusedVariables false
set_option linter.unusedSimpArgs false
set_option maxHeartbeats 4000000
set_option maxRecDepth 100000
namespace Go.Proofs.YtnbgljbhkeffkaaGreatDoor
open Go.RowKit Go.Mm
variable {R:Ending->World->Prop}{w:World}{w0:World}{bs:List Nat}{H H' H1 H2 H3 E E' E1 E2 Ea Eh Er:List Ent}
structure Cfg where
 z:Nat
 m:Nat
 st:Nat
 bz:Nat
 qu:Nat
 qt:Nat
 ba:Nat
 bs:Int
 cp:Int
 fs:Int
def dD (c:Cfg):Array Value:=#[.int .i64 c.z,.int .i64 c.m,.int .i64 c.st,.int .i64 c.bz,.int .i64 c.qu,.int .i64 c.qt,.int .i64 c.ba,.int .i64 c.bs,.int .i64 c.cp,.int .u32 c.fs]
structure CfgW (c:Cfg):Prop where
 z:1≤c.z∧c.z≤256
 m:1≤c.m∧c.m≤4
 st:1≤c.st∧c.st≤64
 bz:1≤c.bz∧c.bz≤64
 qu:1≤c.qu∧c.qu≤64
 qt:1≤c.qt∧c.qt≤256
 ba:1≤c.ba∧c.ba≤64
 bs:1≤c.bs∧c.bs≤c.cp∧c.cp≤1048576
 fs:1≤c.fs∧c.fs≤4294967295
instance Lw:AggT prog 28 10:=⟨by kernel_rfl,by kernel_rfl⟩
instance Lt {b off:Nat} : FieldAt prog 28 1 b off (off+1):=⟨fun w=>by kernel_rfl⟩
instance Lr {b off:Nat} : FieldAt prog 28 6 b off (off+6):=⟨fun w=>by kernel_rfl⟩
section
variable {c:Cfg}
instance Pg:CellAt (dD c) 0 (.int .i64 c.z):=⟨rfl⟩
instance Pf:CellAt (dD c) (0+1) (.int .i64 c.m):=⟨rfl⟩
instance Pe:CellAt (dD c) (0+2) (.int .i64 c.st):=⟨rfl⟩
instance Pd:CellAt (dD c) (0+3) (.int .i64 c.bz):=⟨rfl⟩
instance Pc:CellAt (dD c) (0+4) (.int .i64 c.qu):=⟨rfl⟩
instance Pb:CellAt (dD c) (0+5) (.int .i64 c.qt):=⟨rfl⟩
instance Pa:CellAt (dD c) (0+6) (.int .i64 c.ba):=⟨rfl⟩
instance O9:CellAt (dD c) (0+7) (.int .i64 c.bs):=⟨rfl⟩
instance O8:CellAt (dD c) (0+8) (.int .i64 c.cp):=⟨rfl⟩
instance O7:CellAt (dD c) (0+9) (.int .u32 c.fs):=⟨rfl⟩
end
structure Cy where
 M:Mk
 nx:Nat
 at' : Nat
 bg:Int
 asked:Bool
def du (pm ps:Option Addr)(z m:Nat)(a:Nat)(bg:Int)(q:Bool):Array Value:=#[.pointer pm,.pointer ps,.int .i64 z,.int .i64 m,.int .i64 a,.int .i64 bg,.bool q]
def gE (z m bz:Nat)(p:Option Addr)(C:Cy)(E:List Ent):Prop:=
 ∃ b pm ps Em Es,p=some ⟨b,0,none⟩∧MA z m bz pm C.M Em∧SP ps z C.nx Es∧E=⟨b,du pm ps z m C.at' C.bg C.asked,130,true⟩::(Em++Es)
instance K5:ScalarT prog 126:=⟨by kernel_rfl,by kernel_rfl⟩
instance K7 {b off:Nat} : FieldAt prog 130 0 b off off:=⟨fun w=>by kernel_rfl⟩
instance K6 {b off:Nat} : FieldAt prog 130 1 b off (off+1):=⟨fun w=>by kernel_rfl⟩
section
variable {pm ps:Option Addr}{z m a:Nat}{bg:Int}{q:Bool}
instance O4:CellAt (du pm ps z m a bg q) 0 (.pointer pm):=⟨rfl⟩
instance O3:CellAt (du pm ps z m a bg q) (0+1) (.pointer ps):=⟨rfl⟩
instance O2:CellAt (du pm ps z m a bg q) (0+2) (.int .i64 z):=⟨rfl⟩
instance O1:CellAt (du pm ps z m a bg q) (0+3) (.int .i64 m):=⟨rfl⟩
instance O0:CellAt (du pm ps z m a bg q) (0+4) (.int .i64 a):=⟨rfl⟩
instance OZ:CellAt (du pm ps z m a bg q) (0+5) (.int .i64 bg):=⟨rfl⟩
instance OY:CellAt (du pm ps z m a bg q) (0+6) (.bool q):=⟨rfl⟩
instance OX:SetAt (du pm ps z m a bg q) (0+4) (.int .i64 0) (du pm ps z m 0 bg q):=⟨rfl,by simp [du]⟩
instance K4 {k:Nat} : SetAt (du pm ps z m a bg q) (0+4) (.int .i64 ((k:Int)+1)) (du pm ps z m (k+1) bg q):=⟨rfl,by simp [du]⟩
instance OV {k:Int} : SetAt (du pm ps z m a bg q) (0+5) (.int .i64 k) (du pm ps z m a k q):=⟨rfl,by simp [du]⟩
instance OU {k:Bool} : SetAt (du pm ps z m a bg q) (0+6) (.bool k) (du pm ps z m a bg k):=⟨rfl,by simp [du]⟩
instance K8:BuildT prog 130 [(0,.pointer pm),(1,.pointer ps),(2,.int .i64 z),(3,.int .i64 m)] (du pm ps z m 0 0 false):=⟨fun w=>by kernel_rfl⟩
end
theorem ey {b qm z m a:Nat}{ps:Option Addr}{bg:Int}{q:Bool}(hO:St w0 bs w H)[hH:Has H b (du (some ⟨qm,0,none⟩) ps z m a bg q) 130](hR:∀ w',St w0 bs w' H->ab R (.bool true) w'):Calls prog 117 #[.pointer (some ⟨b,0,none⟩)] w R:=by
 have hS:=hO
 clear hO
 go_enter func117,ntmps117
 go_wp2_with (refine af rfl hS ?_)
 exact hR _ hS
theorem iM {b qm z m a:Nat}{ps:Option Addr}{bg:Int}{q:Bool}(hO:St w0 bs w H)[hH:Has H b (du (some ⟨qm,0,none⟩) ps z m a bg q) 130](hR:∀ w',St w0 bs w' H->ab R (.pointer (some ⟨qm,0,none⟩)) w'):Calls prog 73 #[.pointer (some ⟨b,0,none⟩)] w R:=by
 have hS:=hO
 clear hO
 go_enter func73,ntmps73
 go_wp2_with (first|go_at_call 117;refine ey hS ?_;clear hS;intro w hS;unfold ab|refine af rfl hS ?_)
 exact hR _ hS
theorem Bs {c:Cfg}(hc:CfgW c)(hO:St w0 bs w H)(hR:∀ p E w',gE c.z c.m c.bz p ⟨⟨nj c.m,Col.zerosL,List.replicate c.m []⟩,c.z,0,0,false⟩ E->St w0 bs w' (E++H)->ab R (.tuple #[.pointer p,.int .i64 0]) w'):Calls prog 22 #[.agg (dD c)] w R:=by
 have hS:=hO
 clear hO
 have hone:OneCells (dD c):=⟨by intro v hv;simp only[dD,List.mem_cons,List.not_mem_nil,or_false] at hv;rcases hv with rfl|rfl|rfl|rfl|rfl|rfl|rfl|rfl|rfl|rfl <;> rfl⟩
 have hsz:SizeIs (dD c) 10:=⟨rfl⟩
 go_enter func22,ntmps22
 go_wp2_with (first|refine am 28 rfl hS ?_;clear hS;intro bc w _ hS|go_at_call 43;refine AS hS c.st hc.z hc.m hc.st hc.bz ?_;clear hS;intro pm Em w hM hS;unfold ab|go_at_call 44;refine zT hS hc.z ?_;clear hS;intro ps Es w hP hS;unfold ab|refine am 130 rfl hS ?_;clear hS;intro b w _ hS|refine aL rfl ?_|refine af rfl hS ?_)
 exact hR _ _ _ ⟨b,pm,ps,Em,Es,rfl,hM,hP,rfl⟩ (by simp only[aP];exact hS.p)
section
variable {z m bz:Nat}{p pa:Option Addr}{C:Cy}{T:Ar}
theorem nK (hO:St w0 bs w H)(hT:gE z m bz p C E)[hc:Cut H E H1](h0:C.M.k.1=0)(hR:∀ bg E' w',gE z m bz p ⟨{ C.M with k:=(1,C.M.k.2.1,C.M.k.2.2.1,seen0) },C.nx,C.at',bg,false⟩ E'->St w0 bs w' (E'++H1)->ab R (.int .i64 0) w'):Calls prog 260 #[.pointer p] w R:=by
 have hS:=hO.fr E H1
 clear hO
 obtain⟨b,pm,ps,Em,Es,rfl,hM,hP,rfl⟩:=id hT
 obtain⟨qm,rfl⟩:=hM.isp
 simp only[aP] at hS
 go_enter func260,ntmps260
 go_wp2_with (first|go_at_call 338;refine uO hS hM h0 ?_;clear hS;intro E2 w hM2 hS;unfold ab|refine af rfl hS ?_|refine bP rfl hS ?_;clear hS;intro w hS)
 exact hR (wrap64 (C.bg+1)) _ _ ⟨b,some ⟨qm,0,none⟩,ps,E2,Es,rfl,hM2,hP,rfl⟩ (by simp only[aP];exact hS.p)
def kB (C C' : Cy):Prop:=C'.nx=C.nx∧C'.at'=C.at'∧(C'.M=C.M∨C.M.k.1=0∧C'.M={ C.M with k:=(1,C.M.k.2.1,C.M.k.2.2.1,seen0) })
theorem Bt (hO:St w0 bs w H)(hT:gE z m bz p C E)[hc:Cut H E H1](hR:∀ C' E' w' (v:Bool),kB C C'->gE z m bz p C' E'->St w0 bs w' (E'++H1)->ab R (.bool v) w'):Calls prog 174 #[.pointer p] w R:=by
 have hT0:=hT
 have hS:=hO.fr E H1
 clear hO
 obtain⟨b,pm,ps,Em,Es,rfl,hM,hP,rfl⟩:=id hT
 obtain⟨qm,rfl⟩:=hM.isp
 simp only[aP] at hS
 by_cases h0:C.M.k.1=0
 ·have d1:((C.M.k.1:Int) == 0)=true:=by rw[h0];rfl
  have d2:decide (C.M.k.1=0)=true:=decide_eq_true h0
  have d3:decide ((C.M.k.1:Int)=0)=true:=by rw[h0];rfl
  have h0':=HD h0
  have hS:St w0 bs w ((⟨b,du (some ⟨qm,0,none⟩) ps z m C.at' C.bg C.asked,130,true⟩::(Em++Es))++H1):=(by simp only[aP];exact hS.p)
  clear h0
  go_enter func174,ntmps174
  go_wp2_with (first|go_at_call 117;refine ey hS ?_;clear hS;intro w hS;unfold ab|(go_at_call 231;have hS:=(show St w0 bs _ (⟨b,du (some ⟨qm,0,none⟩) ps z m C.at' C.bg C.asked,130,true⟩::(Em++(Es++H1))) from(by simp only[bX] at hS;exact hS.p));refine ep hS hM ?_;clear hS;intro w hS;have hS:St w0 bs w ((⟨b,du (some ⟨qm,0,none⟩) ps z m C.at' C.bg C.asked,130,true⟩::(Em++Es))++H1):=(by simp only[aP];exact hS.p);unfold ab)|go_at_call 260;refine nK hS hT0 h0'.out ?_;clear hS;intro bg2 E2 w hT2 hS;unfold ab|refine af rfl hS ?_)
  exact hR ⟨{ C.M with k:=(1,C.M.k.2.1,C.M.k.2.2.1,seen0) },C.nx,C.at',bg2,false⟩ _ _ _ ⟨rfl,rfl,.inr ⟨h0'.out,rfl⟩⟩ hT2 hS
 ·have d1:((C.M.k.1:Int) == 0)=false:=beq_eq_false_iff_ne.2 (by omega)
  have d2:decide (C.M.k.1=0)=false:=decide_eq_false h0
  have d3:decide ((C.M.k.1:Int)=0)=false:=DF
  clear h0
  go_enter func174,ntmps174
  go_wp2_with (first|(first|go_at_call 117;refine ey hS ?_|go_at_call 231;refine ep hS hM ?_);clear hS;intro w hS;unfold ab|refine af rfl hS ?_|refine bP rfl hS ?_;clear hS;intro w hS)
  exact hR ⟨C.M,C.nx,C.at',C.bg,true⟩ _ _ _ ⟨rfl,rfl,.inl rfl⟩ ⟨b,some ⟨qm,0,none⟩,ps,Em,Es,rfl,hM,hP,rfl⟩ (by simp only[aP];exact hS.p)
theorem yu (hO:St w0 bs w H)(hT:gE z m bz p C E)[hc:Cut H E H1](h0:C.M.k.1=0){va:Value}{rm:Int}(hR:∀ C' E' w',kB C C'->gE z m bz p C' E'->St w0 bs w' (E'++H1)->ab R (.tuple #[.agg #[.int .i64 0,.int .u32 0],.bool false,.int .i64 0]) w'):Calls prog 309 #[.pointer p,va,.int .i64 rm] w R:=by
 have hT0:=hT
 have hS:=hO.fr E H1
 clear hO
 obtain⟨b,pm,ps,Em,Es,rfl,hM,hP,rfl⟩:=id hT
 obtain⟨qm,rfl⟩:=hM.isp
 simp only[aP] at hS
 have hS:St w0 bs w ((⟨b,du (some ⟨qm,0,none⟩) ps z m C.at' C.bg C.asked,130,true⟩::(Em++Es))++H1):=(by simp only[aP];exact hS.p)
 cases hq:C.asked with
 | true=>
  rw[hq] at hS hT0
  clear hT
  go_enter func309,ntmps309
  go_wp2_with (first|refine aq 176 rfl hS ?_;clear hS;intro b6 w _ hS|go_at_call 260;refine nK hS hT0 h0 ?_;clear hS;intro bg2 E2 w hT2 hS;unfold ab|refine aL rfl ?_|refine af rfl hS ?_|refine ak rfl hS ?_;clear hS;intro w hS)
  refine bodyPost_ret (dj rfl hS) rfl ?_
  exact hR ⟨{ C.M with k:=(1,C.M.k.2.1,C.M.k.2.2.1,seen0) },C.nx,C.at',bg2,false⟩ _ _ ⟨rfl,rfl,.inr ⟨h0,rfl⟩⟩ hT2 hS.p
 | false=>
  rw[hq] at hS
  clear hT
  go_enter func309,ntmps309
  go_wp2_with (first|refine aq 176 rfl hS ?_;clear hS;intro b6 w _ hS|refine aL rfl ?_|refine af rfl hS ?_|refine ak rfl hS ?_;clear hS;intro w hS)
  refine bodyPost_ret (dj rfl hS) rfl ?_
  exact hR C _ _ ⟨rfl,rfl,.inl rfl⟩ hT0 (by rw[hq];exact hS.p)
theorem Bu (hO:St w0 bs w H)(hA:AA pa T Ea)(hT:gE z m bz p C E)[hc:Cut H Ea H1][hd:Cut H1 E H2](hz:T.1.length=z)(hk:T.2.1.length=m)(i:Nat)(hi:i<m)(h32:(ez T i).length≤300)
  (hR:∀ M' E' w' (v:Bool) (e:Int),M'.k=iW C.M.k i->M'.bf=C.M.bf->Up C.M.L M'.L->(yN C.M.k i=true->C.M.k.1=2->∀ r∈ez T i,j9 (some (some T.1)) r.1 r.2=true->0≤r.1∧r.1<z->M'.L.getD r.1.toNat 0≠0)->gE z m bz p { C with M:=M' } E'->St w0 bs w' (Ea++(E'++H2))->ab R (.tuple #[.bool v,.int .i64 e]) w'):Calls prog 143 #[.pointer p,.pointer pa,.int .i64 i] w R:=by
 have hS:=hO.fr Ea H1
 have hS:St w0 bs w (Ea++(E++H2)):=hS.p
 clear hO
 obtain⟨b,pm,ps,Em,Es,rfl,hM,hP,rfl⟩:=id hT
 obtain⟨qm,rfl⟩:=hM.isp
 simp only[aP] at hS
 have hz':=HD hz
 have hk':=HD hk
 clear hz hk
 go_enter func143,ntmps143
 go_wp2_with (first|go_at_call 117;refine ey hS ?_;clear hS;intro w hS;unfold ab|go_at_call 199;refine AV hS hA hM hz'.out hk'.out i hi h32 ?_;clear hS;intro M2 E2 w v e q1 q2 q3 q4 hM2 hS;unfold ab|refine af rfl hS ?_)
 exact hR M2 _ _ _ _ q1 q2 q3 q4 ⟨b,some ⟨qm,0,none⟩,ps,E2,Es,rfl,hM2,hP,rfl⟩ (by simp only[aP];exact hS.p)
theorem vq (hO:St w0 bs w H)(hT:gE z m bz p C E)[hc:Cut H E H1](hR:∀ w',St w0 bs w' (E++H1)->ab R (.int .i64 C.bg) w'):Calls prog 201 #[.pointer p] w R:=by
 have hS:=hO.fr E H1
 clear hO
 obtain⟨b,pm,ps,Em,Es,rfl,hM,hP,rfl⟩:=id hT
 obtain⟨qm,rfl⟩:=hM.isp
 simp only[aP] at hS
 go_enter func201,ntmps201
 go_wp2_with (first|go_at_call 117;refine ey hS ?_;clear hS;intro w hS;unfold ab|refine af rfl hS ?_)
 exact hR _ (by simp only[aP];exact hS.p)
theorem vp (hO:St w0 bs w H)(hT:gE z m bz p C E)[hc:Cut H E H1](hR:∀ w',St w0 bs w' (E++H1)->ab R (.int .i64 C.M.k.2.2.1) w'):Calls prog 202 #[.pointer p] w R:=by
 have hS:=hO.fr E H1
 clear hO
 obtain⟨b,pm,ps,Em,Es,rfl,hM,hP,rfl⟩:=id hT
 obtain⟨qm,rfl⟩:=hM.isp
 simp only[aP] at hS
 go_enter func202,ntmps202
 go_wp2_with (first|(first|go_at_call 117;refine ey hS ?_|go_at_call 286;refine rW hS hM ?_);clear hS;intro w hS;unfold ab|refine af rfl hS ?_)
 exact hR _ (by simp only[aP];exact hS.p)
end
open Go.RowKit Go.Mm
section
variable {z m bz:Nat}{p pa:Option Addr}{C:Cy}{T:Ar}
theorem yv (hO:St w0 bs w H)(hA:AA pa T Ea)(hT:gE z m bz p C E)[hc:Cut H Ea H1][hd:Cut H1 E H2](hz:T.1.length=z)(hk:T.2.1.length=m)(h13:1≤C.M.k.1∧C.M.k.1≤3)(hcy:0≤C.M.k.2.2.1∧C.M.k.2.2.1<1000000)(h300:(jr (some (some T.1))).length≤300)(hg8:(zn (some (true,T.2.2))).length≤300){rm:Value}
  (hR:∀ M' E' w',iP z m C.M M'->gE z m bz p { C with M:=M',at':=if M'.k.1=4 then 0 else C.at' } E'->St w0 bs w' (Ea++(E'++H2))->ab R (.tuple #[.agg #[.int .i64 0,.int .u32 0],.bool false,.int .i64 0]) w'):Calls prog 310 #[.pointer p,.pointer pa,rm] w R:=by
 have hS:=hO.fr Ea H1
 have hS:St w0 bs w (Ea++(E++H2)):=hS.p
 clear hO
 obtain⟨b,pm,ps,Em,Es,rfl,hM,hP,rfl⟩:=id hT
 obtain⟨qm,rfl⟩:=hM.isp
 simp only[aP] at hS
 have hz':=HD hz
 have hk':=HD hk
 clear hz hk
 go_enter func310,ntmps310
 go_wp2_with (first|refine aq 176 rfl hS ?_;clear hS;intro b6 w _ hS|go_at_call 358;refine xI hS hA hM hz'.out hk'.out h13 hcy h300 hg8 ?_;clear hS;intro M2 E2 w hst hM2 hS;unfold ab|refine af rfl hS ?_)
 by_cases h4:M2.k.1=4
 ·have d1:((M2.k.1:Int) == 4)=true:=by rw[h4];rfl
  have d2:decide (M2.k.1=4)=true:=decide_eq_true h4
  have d3:decide ((M2.k.1:Int)=4)=true:=by rw[h4];rfl
  have h4':=HD h4
  clear h4
  go_wp2_with (first|go_at_call 231;refine ep hS hM2 ?_;clear hS;intro w hS;unfold ab|refine aL rfl ?_|(first|refine bP rfl hS ?_|refine ak rfl hS ?_);clear hS;intro w hS)
  refine bodyPost_ret (dj rfl hS) rfl ?_
  exact hR M2 _ _ hst ⟨b,some ⟨qm,0,none⟩,ps,E2,Es,rfl,hM2,hP,by rw[if_pos h4'.out]⟩ (by simp only[aP];exact hS.p)
 ·have d1:((M2.k.1:Int) == 4)=false:=beq_eq_false_iff_ne.2 (by omega)
  have d2:decide (M2.k.1=4)=false:=decide_eq_false h4
  have d3:decide ((M2.k.1:Int)=4)=false:=DF
  have h4':=HD h4
  clear h4
  go_wp2_with (first|go_at_call 231;refine ep hS hM2 ?_;clear hS;intro w hS;unfold ab|refine aL rfl ?_|refine ak rfl hS ?_;clear hS;intro w hS)
  refine bodyPost_ret (dj rfl hS) rfl ?_
  exact hR M2 _ _ hst ⟨b,some ⟨qm,0,none⟩,ps,E2,Es,rfl,hM2,hP,by rw[if_neg h4'.out]⟩ (by simp only[aP];exact hS.p)
def Kept (z:Nat)(T:Ar)(M:Mk)(i:Nat):Prop:=zd M z i=true∨∀ r∈jr (some (some T.1)),r.1=(i:Int)->(qy (some (some T.1)) r.1 r.2).2.2=false
instance Lm:AggT prog 195 10:=⟨by kernel_rfl,by kernel_rfl⟩
theorem qY (hO:St w0 bs w H)(hA:AA pa T Ea)(hT:gE z m bz p C E)[hc:Cut H Ea H1][hd:Cut H1 E H2](i:Nat)(hi:i<z)(hkp:Kept z T C.M i)(h300:(jr (some (some T.1))).length≤300)(hwi:∀ r∈jr (some (some T.1)),eJ (some (some T.1)) r.1 r.2=0)
  (hR:∀ s g w',St w0 bs w' (Ea++(E++H2))->ab R (.tuple #[.agg #[.int .i64 s,.int .u32 g],.bool false]) w'):Calls prog 359 #[.pointer p,.pointer pa,.int .i64 i] w R:=by
 have hS:=hO.fr Ea H1
 have hS:St w0 bs w (Ea++(E++H2)):=hS.p
 clear hO
 obtain⟨b,pm,ps,Em,Es,rfl,hM,hP,rfl⟩:=id hT
 obtain⟨qm,rfl⟩:=hM.isp
 simp only[aP] at hS
 obtain⟨l,hl⟩:∃ l,jr (some (some T.1))=l:=⟨_,rfl⟩
 unfold Kept at hkp
 rw[hl] at h300 hkp hwi
 have hl':=HD hl
 have he0:=HD (show AR z i=0 by unfold AR;rw[if_pos (by omega)])
 clear hl
 obtain⟨x,hx⟩:∃ x,zd C.M z i=x:=⟨_,rfl⟩
 have hx':=HD hx
 cases x with
 | true=>
  clear hx
  go_enter func359,ntmps359
  go_wp2_with (first|refine aq 176 rfl hS ?_;clear hS;intro b6 w _ hS|go_at_call 390;refine dH hS hM i ?_;rw[hx'.out,he0.out];clear hS;intro w hS;unfold ab|refine aL rfl ?_|refine af rfl hS ?_|refine ak rfl hS ?_;clear hS;intro w hS)
  refine bodyPost_ret (aJ rfl hS) rfl ?_
  exact hR _ _ _ (by simp only[aP];exact hS.p)
 | false=>
  have hkp:∀ r∈l,r.1=(i:Int)->(qy (some (some T.1)) r.1 r.2).2.2=false:=by
   rcases hkp with h|h
   ·rw[hx] at h;cases h
   ·exact h
  have hkp':=HD hkp
  clear hx hkp
  go_enter func359,ntmps359
  go_wp2_with (first|refine aq 176 rfl hS ?_;clear hS;intro b6 w _ hS|go_at_call 390;refine dH hS hM i ?_;rw[hx'.out,he0.out];clear hS;intro w hS;unfold ab|go_at_call 204;refine il hS hA ?_;clear hS;intro ph Eh w _ hH hS;unfold ab|(go_at_call 391;refine px hS hH l hl'.out ?_;clear hS;intro vl El w hRS hS;have hone0:=hRS.one;have hln:=hRS.len rfl;unfold ab)|refine wV (.call { callee:=.builtin .len,args:=#[_],argTypes:=#[_] }) rfl (aA rfl) ?_|refine af rfl hS ?_)
  have hS0:St w0 bs w (⟨b6,#[.int .i64 0,.int .u32 0],176,true⟩::(El++(Ea++(⟨b,du (some ⟨qm,0,none⟩) ps z m C.at' C.bg C.asked,130,true⟩::(Em++(Es++H2)))))):=hS.p
  clear hS
  go_loopw [33] (fun u wr=>∃ (k:Nat),k≤l.length∧u=.int .i64 k∧St w0 bs wr (⟨b6,#[.int .i64 0,.int .u32 0],176,true⟩::(El++(Ea++(⟨b,du (some ⟨qm,0,none⟩) ps z m C.at' C.bg C.asked,130,true⟩::(Em++(Es++H2))))))) (fun u _=>l.length - (intOf u).toNat)
  case atStart=>exact⟨0,Nat.zero_le _,rfl,hS0⟩
  case round=>
   clear hS0
   obtain⟨k,hk,rfl,hS⟩:=hrel
   by_cases hlt:k<l.length
   ·obtain⟨⟨s1,g1⟩,hx⟩:∃ x,l.getD k (0,0)=x:=⟨_,rfl⟩
    obtain⟨gx,sp,ix,hh,hcx⟩:=hRS.at hlt hx
    have ix:=ix k rfl
    simp only at hcx
    have dk:decide ((k:Int)<(l.length:Int))=true:=DT
    have dk' : decide (k<l.length)=true:=decide_eq_true hlt
    have hk300:(k:Int)≤300:=by omega
    have hmem:(s1,g1)∈l:=by rw[← hx,List.getD_eq_getElem?_getD,List.getElem?_eq_getElem hlt];exact List.getElem_mem hlt
    clear hx
    by_cases hq:s1=i
    ·have d1:(s1 == (i:Int))=true:=by simp[hq]
     have d2:decide (s1=i)=true:=decide_eq_true hq
     have hf:=hkp'.out _ hmem hq
     obtain⟨⟨on,oF,oh⟩,ho⟩:∃ o,qy (some (some T.1)) s1 g1=o:=⟨_,rfl⟩
     simp only at hf
     rw[ho] at hf
     have hoW:ObW (on,oF,oh):=by
      obtain⟨_,_,_,_,_,_,_,_,hH0,_⟩:=id hA
      rw[← ho];exact hH0.obw s1 g1
     have hF4:oF.length=4:=hoW.len
     obtain rfl:oh=false:=hf
     have hh9:CellAt (aN on oF false) (0+9) (.bool false):=C6 hF4
     have hAl:=dr (n:=on) (h:=false) hF4
     have hZ:=cV (n:=on) (h:=false) hF4
     have hO2:=dB (n:=0) (n':=on) (h:=false) (h':=false) (F:=zero4) rfl hF4
     have ho':=HD ho
     have hw0:=HD (hwi _ hmem)
     clear hq hmem hoW ho
     go_wp2_with (first|refine aq 176 rfl hS ?_;clear hS;intro br w _ hS|refine aq 195 rfl hS ?_;clear hS;intro bo w _ hS|go_at_call 392;refine sC hS hA s1 g1 0 ho'.out hw0.out ?_;clear hS;intro w _ hS;unfold ab|refine aM rfl ?_|(first|refine af rfl hS ?_|refine au rfl hS ?_)|refine ak rfl hS ?_;clear hS;intro w hS)
     refine aj (X:=Unit) (fun w=>St w0 bs w (⟨bo,aN on oF false,195,true⟩::⟨br,#[.int .i64 s1,.int .u32 g1],176,true⟩::⟨b6,#[.int .i64 0,.int .u32 0],176,true⟩::(El++(Ea++(⟨b,du (some ⟨qm,0,none⟩) ps z m C.at' C.bg C.asked,130,true⟩::(Em++(Es++H2))))))) [(7,fun _ w=>St w0 bs w (⟨bo,aN on oF false,195,true⟩::⟨br,#[.int .i64 s1,.int .u32 g1],176,true⟩::⟨b6,#[.int .i64 s1,.int .u32 g1],176,true⟩::(El++(Ea++(⟨b,du (some ⟨qm,0,none⟩) ps z m C.at' C.bg C.asked,130,true⟩::(Em++(Es++H2)))))))] (hS.p.drawn _) (by kernel_rfl) (by kernel_rfl) ?_
     (refine bF 0 (fun _=>rfl) rfl (fun χ w hw=>ai _ _ rfl (show St _ _ w _ from hw)) ?_)
     (refine oP (fun χ w=>ad rfl) ?_)
     (refine oP (fun χ w=>wJ rfl) ?_)
     (refine oP (fun χ w=>ad rfl) ?_)
     (refine oP (fun χ w=>ag rfl) ?_)
     refine dt (fun w=>∃ X,St w0 bs w (⟨bo,aN on oF false,195,true⟩::X)) ⟨fun w h=>⟨_,h⟩,fun s hs χ w h=>by simp only[List.mem_singleton] at hs;subst hs;exact⟨_,h⟩⟩ (fun _=>rfl) rfl (v:=.bool false) (fun χ w hw=>by obtain⟨X,hw⟩:=hw;exact ac _ _ rfl hw) ?_
     (refine oP (fun χ w=>gP rfl) ?_)
     refine aO 0 rfl (by kernel_rfl) (fun _=>rfl) (fun _=>undef) (fun χ w hw=>aK _ _ _ rfl (show St w0 bs w _ from hw) (fun w' hS'=>⟨(),rfl,hS'⟩)) ?_
     (refine oP (fun χ w=>aG rfl) ?_)
     refine aV rfl ?_
     intro χ w hS
     have hS:St w0 bs w (⟨bo,aN on oF false,195,true⟩::⟨br,#[.int .i64 s1,.int .u32 g1],176,true⟩::⟨b6,#[.int .i64 s1,.int .u32 g1],176,true⟩::(El++(Ea++(⟨b,du (some ⟨qm,0,none⟩) ps z m C.at' C.bg C.asked,130,true⟩::(Em++(Es++H2)))))):=hS
     go_wp2_with (go_skip)
     refine bodyPost_ret (aJ rfl hS) rfl ?_
     exact hR _ _ _ (by simp only[aP];exact hS.p)
    ·have d1:(s1 == (i:Int))=false:=by simp[hq]
     have d2:decide (s1=i)=false:=decide_eq_false hq
     clear hq hmem
     go_wp2_with (first|refine aq 176 rfl hS ?_;clear hS;intro br w _ hS|refine aM rfl ?_|(first|refine af rfl hS ?_|refine au rfl hS ?_)|refine ak rfl hS ?_;clear hS;intro w hS)
     go_roundw
     case rel=>exact⟨k+1,by omega,by go_num,hS.p⟩
     case measure=>simp[intOf];omega
   ·obtain rfl:k=l.length:=by omega
    have dk:decide ((l.length:Int)<(l.length:Int))=false:=DF
    have dk' : decide (l.length<l.length)=false:=DF
    go_wp2_with (first|refine aL rfl ?_|refine ak rfl hS ?_;clear hS;intro w hS)
    refine bodyPost_ret (aJ rfl hS) rfl ?_
    exact hR _ _ _ (by simp only[aP];exact hS.p)
theorem nL {b10 b5:Nat}{rm:Int}(hO:St w0 bs w H)[h1:Has H b10 #[.bool false] 4][h2:Has H b5 #[.int .i64 rm] 3](hR:∀ w',St w0 bs w' H->ab R (.bool false) w'):Calls prog 360 #[.pointer (some ⟨b10,0,none⟩),.pointer (some ⟨b5,0,none⟩)] w R:=by
 have hS:=hO
 clear hO
 go_enter func360,ntmps360
 go_wp2_with (first|go_skip|refine af rfl hS ?_)
 exact hR _ hS
theorem nJ (hO:St w0 bs w H)(hA:AA pa T Ea)(hT:gE z m bz p C E)[hc:Cut H Ea H1][hd:Cut H1 E H2](h4:C.M.k.1=4)(hi:C.at'<z)(hcy:0≤C.M.k.2.2.1∧C.M.k.2.2.1<1000000)(hkp:Kept z T C.M C.at')(h300:(jr (some (some T.1))).length≤300)(hwi:∀ r∈jr (some (some T.1)),eJ (some (some T.1)) r.1 r.2=0)(rm:Int)
  (hR:∀ C' E' w',(C'.bg=C.bg∧C'.asked=C.asked∧C'.at'=C.at'+1∧(C.at'+1=z->C'.M={ C.M with k:=jk C.M.k }∧C'.nx=0)∧(C.at'+1≠z->C'.M=C.M∧C'.nx=C.nx))->gE z m bz p C' E'->St w0 bs w' (Ea++(E'++H2))->ab R (.tuple #[.agg #[.int .i64 0,.int .u32 0],.bool false,.int .i64 0]) w'):Calls prog 311 #[.pointer p,.pointer pa,.int .i64 rm] w R:=by
 have hS:=hO.fr Ea H1
 have hS:St w0 bs w (Ea++(E++H2)):=hS.p
 clear hO
 obtain⟨b,pm,ps,Em,Es,rfl,hM,hP,rfl⟩:=id hT
 obtain⟨qm,rfl⟩:=hM.isp
 simp only[aP] at hS
 have hz256:z≤256:=by
  obtain⟨_,_,_,_,_,_,h,_⟩:=id hP
  exact h
 have b1:(C.at' : Int)≤256:=by omega
 by_cases he:C.at'+1=z
 ·have d1:((C.at' : Int)+1 == (z:Int))=true:=beq_iff_eq.2 (by omega)
  have d2:decide ((C.at' : Int)+1=(z:Int))=true:=DT
  have d3:decide (C.at'+1=z)=true:=DT
  have he':=HD he
  have hi':=HD hi
  have h4':=HD h4
  clear he hi h4
  go_enter func311,ntmps311
  go_wp2_with (first|refine am 3 rfl hS ?_;clear hS;intro b5 w _ hS|refine aq (o:=⟨some 6,_,_,_,_,_⟩) 176 rfl hS ?_;clear hS;intro b6 w _ hS|refine aq 176 rfl hS ?_;clear hS;intro b9 w _ hS|(go_at_call 359;have hS:=(show St w0 bs _ (⟨b6,#[.int .i64 0,.int .u32 0],176,true⟩::⟨b5,#[.int .i64 rm],3,true⟩::(Ea++((⟨b,du (some ⟨qm,0,none⟩) ps z m C.at' C.bg C.asked,130,true⟩::(Em++Es))++H2))) from(by simp only[aP];exact hS.p));refine qY hS hA hT C.at' hi'.out hkp h300 hwi ?_;clear hS;intro s g w hS;simp only[bX] at hS;unfold ab)|refine aq 4 rfl hS ?_;clear hS;intro b10 w _ hS|go_at_call 360;refine nL (b10:=b10) (b5:=b5) (rm:=rm) hS ?_;clear hS;intro w hS;unfold ab|refine av hS (fun hne=>?_);(repeat (go_big_quiet_want;first|((first|refine aE bk (fun w hS=>ac _ _ rfl hS) ?_|refine aE bk (fun w hS=>ai _ _ rfl hS) ?_);go_big_quiet_on)|(refine aH (fun w _=>ah rfl) ?_;go_big_quiet_on)|(go_big_quiet_op;go_big_quiet_on)));refine wpQuiet_nil ?_;clear hS hne;intro w hS|go_at_call 361;refine AU hS hM h4'.out hcy ?_;clear hS;intro E2 w hM2 hS;unfold ab|go_at_call 362;refine tA hS hP ?_;clear hS;intro Es2 w hP2 hS;unfold ab|refine gj 2 ⟨b6,#[.int .i64 0,.int .u32 0],176,true⟩ ⟨b6,#[.int .i64 0,.int .u32 0],176,true⟩ hS ?_;(repeat (first|refine m8 (fun _=>rfl) rfl (fun χ w x hw=>ac _ _ rfl hw) ?_|refine m8 (fun _=>rfl) rfl (fun χ w x hw=>ai _ _ rfl hw) ?_|refine uo rfl (fun _=>rfl) (fun χ w hw=>aK _ _ _ rfl hw (fun w hS=>⟨rfl,hS⟩)) ?_|refine oP (fun χ w=>aG rfl) ?_));refine o4 rfl ?_;clear hS;intro χ w hS;clear χ|refine aL rfl ?_|refine af rfl hS ?_|(first|refine bP rfl hS ?_|refine ak rfl hS ?_);clear hS;intro w hS)
  refine bodyPost_ret (dj rfl hS) rfl ?_
  exact hR ⟨{ C.M with k:=jk C.M.k },0,C.at'+1,C.bg,C.asked⟩ _ _ ⟨rfl,rfl,rfl,fun _=>⟨rfl,rfl⟩,fun h=>absurd he'.out h⟩ ⟨b,some ⟨qm,0,none⟩,ps,E2,Es2,rfl,hM2,hP2,rfl⟩ (by simp only[aP];exact hS.p)
 ·have d1:((C.at' : Int)+1 == (z:Int))=false:=beq_eq_false_iff_ne.2 (by omega)
  have d2:decide ((C.at' : Int)+1=(z:Int))=false:=DF
  have d3:decide (C.at'+1=z)=false:=DF
  have he':=HD he
  have hi':=HD hi
  clear he hi
  go_enter func311,ntmps311
  go_wp2_with (first|refine am 3 rfl hS ?_;clear hS;intro b5 w _ hS|refine aq (o:=⟨some 6,_,_,_,_,_⟩) 176 rfl hS ?_;clear hS;intro b6 w _ hS|refine aq 176 rfl hS ?_;clear hS;intro b9 w _ hS|(go_at_call 359;have hS:=(show St w0 bs _ (⟨b6,#[.int .i64 0,.int .u32 0],176,true⟩::⟨b5,#[.int .i64 rm],3,true⟩::(Ea++((⟨b,du (some ⟨qm,0,none⟩) ps z m C.at' C.bg C.asked,130,true⟩::(Em++Es))++H2))) from(by simp only[aP];exact hS.p));refine qY hS hA hT C.at' hi'.out hkp h300 hwi ?_;clear hS;intro s g w hS;simp only[bX] at hS;unfold ab)|refine aq 4 rfl hS ?_;clear hS;intro b10 w _ hS|go_at_call 360;refine nL (b10:=b10) (b5:=b5) (rm:=rm) hS ?_;clear hS;intro w hS;unfold ab|refine av hS (fun hne=>?_);(repeat (go_big_quiet_want;first|((first|refine aE bk (fun w hS=>ac _ _ rfl hS) ?_|refine aE bk (fun w hS=>ai _ _ rfl hS) ?_);go_big_quiet_on)|(refine aH (fun w _=>ah rfl) ?_;go_big_quiet_on)|(go_big_quiet_op;go_big_quiet_on)));refine wpQuiet_nil ?_;clear hS hne;intro w hS|refine gj 2 ⟨b6,#[.int .i64 0,.int .u32 0],176,true⟩ ⟨b6,#[.int .i64 0,.int .u32 0],176,true⟩ hS ?_;(repeat (first|refine m8 (fun _=>rfl) rfl (fun χ w x hw=>ac _ _ rfl hw) ?_|refine m8 (fun _=>rfl) rfl (fun χ w x hw=>ai _ _ rfl hw) ?_|refine uo rfl (fun _=>rfl) (fun χ w hw=>aK _ _ _ rfl hw (fun w hS=>⟨rfl,hS⟩)) ?_|refine oP (fun χ w=>aG rfl) ?_));refine o4 rfl ?_;clear hS;intro χ w hS;clear χ|refine aL rfl ?_|refine af rfl hS ?_|(first|refine bP rfl hS ?_|refine ak rfl hS ?_);clear hS;intro w hS)
  refine bodyPost_ret (dj rfl hS) rfl ?_
  exact hR ⟨C.M,C.nx,C.at'+1,C.bg,C.asked⟩ _ _ ⟨rfl,rfl,rfl,fun h=>absurd h he'.out,fun _=>⟨rfl,rfl⟩⟩ ⟨b,some ⟨qm,0,none⟩,ps,Em,Es,rfl,hM,hP,rfl⟩ (by simp only[aP];exact hS.p)
end
open Go.RowKit Go.Mm
section
variable {z m bz:Nat}{p pa:Option Addr}{C:Cy}{T:Ar}
def D5 (z m:Nat)(T:Ar)(C C' : Cy):Prop:=C'.nx=C.nx+1∧C'.at'=C.at'∧(C.nx+1=z->C'.M=⟨jk C.M.k,Col.zerosL,List.replicate m []⟩)∧(C.nx+1≠z->C'.M=pV T C.M C.nx)
theorem pU (T:Ar)(M:Mk)(i:Nat):(pV T M i).k=M.k:=by unfold pV;split <;> rfl
theorem vn (hO:St w0 bs w H)(hA:AA pa T Ea)(hT:gE z m bz p C E)[hc:Cut H Ea H1][hd:Cut H1 E H2](hz:T.1.length=z)(h5:C.M.k.1=5)(hi:C.nx<z)(hcy:0≤C.M.k.2.2.1∧C.M.k.2.2.1<1000000)(h300:(jr (some (some T.1))).length≤300)(hwi:∀ r∈jr (some (some T.1)),eJ (some (some T.1)) r.1 r.2=0){rm:Value}
  (hR:∀ C' Ea' E' w',D5 z m T C C'->AA pa (vP T C.M C.nx) Ea'->gE z m bz p C' E'->St w0 bs w' (Ea'++(E'++H2))->ab R (.tuple #[.agg #[.int .i64 0,.int .u32 0],.bool false,.int .i64 0]) w'):Calls prog 312 #[.pointer p,.pointer pa,rm] w R:=by
 have hS:=hO.fr Ea H1
 have hS:St w0 bs w (Ea++(E++H2)):=hS.p
 clear hO
 obtain⟨b,pm,ps,Em,Es,rfl,hM,hP,rfl⟩:=id hT
 obtain⟨qm,rfl⟩:=hM.isp
 simp only[aP] at hS
 have hz':=HD hz
 have h5':=HD h5
 have h5'':=HD (show(pV T C.M C.nx).k.1=5 by rw[pU];exact h5)
 have hcy2:0≤(pV T C.M C.nx).k.2.2.1∧(pV T C.M C.nx).k.2.2.1<1000000:=by rw[pU];exact hcy
 have hi':=HD hi
 clear hz h5 hi
 go_enter func312,ntmps312
 go_wp2_with (refine aq (o:=⟨some 6,_,_,_,_,_⟩) 176 rfl hS ?_;clear hS;intro b6 w _ hS)
 obtain⟨⟨s0,g0⟩,hr0⟩:∃ r,(oH T C.M C.nx).getD (0,0)=r:=⟨_,rfl⟩
 obtain⟨x0,hx0⟩:∃ x,(oH T C.M C.nx).isSome=x:=⟨_,rfl⟩
 have hr0':=HD hr0
 have hx0':=HD hx0
 clear hr0 hx0
 refine ao [⟨(undef,Es++(Ea++Em)),[(9,fun _ x=>∃ Es' Ea' Em',SP ps z (C.nx+1) Es'∧AA pa (vP T C.M C.nx) Ea'∧MA z m bz (some ⟨qm,0,none⟩) (pV T C.M C.nx) Em'∧x.2=Es'++(Ea'++Em'))]⟩,⟨(undef,[]),[(14,fun _ x=>∃ b,x=(.pointer (some ⟨b,0,none⟩),[⟨b,#[.int .i64 0,.int .u32 0],176,true⟩])),(15,fun y x=>∃ b,y.1=.pointer (some ⟨b,0,none⟩)∧x.2=[⟨b,#[.int .i64 s0,.int .u32 g0],176,true⟩])]⟩]
  (⟨b6,#[.int .i64 0,.int .u32 0],176,true⟩::⟨b,du (some ⟨qm,0,none⟩) ps z m C.at' C.bg C.asked,130,true⟩::H2) (Es++(Ea++(Em++(⟨b6,#[.int .i64 0,.int .u32 0],176,true⟩::⟨b,du (some ⟨qm,0,none⟩) ps z m C.at' C.bg C.asked,130,true⟩::H2)))) (by simp) hS.p (by kernel_rfl) (by kernel_rfl) ?_
 (refine fV (fun χ w hw=>ad rfl) ?_)
 (refine fV (fun χ w hw=>ah rfl) ?_)
 (refine fV (fun χ w hw=>ag rfl) ?_)
 (refine fV (fun χ w hw=>ac _ _ rfl hw) ?_)
 (refine fV (fun χ w hw=>ad rfl) ?_)
 (refine fV (fun χ w hw=>ad rfl) ?_)
 (refine fV (fun χ w hw=>ah rfl) ?_)
 (refine fV (fun χ w hw=>ag rfl) ?_)
 (refine fV (fun χ w hw=>ac _ _ rfl hw) ?_)
 refine cj 0 0 rfl rfl rfl rfl (by kernel_rfl) 363 [_,_,_] rfl (fun _=>rfl) ae (fun _=>.tuple #[.agg #[.int .i64 s0,.int .u32 g0],.bool x0,.int .i64 0]) ?_ ?_
 ·intro χ L w _ hS
  have hS:St w0 bs w ((Es++(Ea++Em))++(L++(⟨b6,#[.int .i64 0,.int .u32 0],176,true⟩::⟨b,du (some ⟨qm,0,none⟩) ps z m C.at' C.bg C.asked,130,true⟩::H2))):=hS
  have hS:St w0 bs w (Es++(Ea++(Em++(L++(⟨b6,#[.int .i64 0,.int .u32 0],176,true⟩::⟨b,du (some ⟨qm,0,none⟩) ps z m C.at' C.bg C.asked,130,true⟩::H2))))):=by simp only[List.append_assoc] at hS;exact hS
  refine wz hS hP hA hM hz'.out h5'.out hi'.out h300 hwi ?_
  intro E' Ea' E2' w' h1 h2 h3 hS'
  rw[hr0'.out,hx0'.out]
  exact⟨(undef,E'++(Ea'++E2')),rfl,⟨E',Ea',E2',h1,h2,h3,rfl⟩,by simp only[List.append_assoc];exact hS'⟩
 (refine fV (fun χ w hw=>ad rfl) ?_)
 (refine fV (fun χ w hw=>aB rfl) ?_)
 (refine fV (fun χ w hw=>aB rfl) ?_)
 (refine fV (fun χ w hw=>aB rfl) ?_)
 refine ap 1 0 rfl rfl rfl rfl (by kernel_rfl) (fun _=>rfl) (fun x=>x.1) ?_ ?_
 ·intro χ L w _ hS
  exact bE rfl (show St w0 bs w (L++_) from hS) (fun b w' _ hS'=>⟨(_,[_]),rfl,⟨b,rfl⟩,hS'⟩)
 refine ap 1 1 rfl rfl rfl (by kernel_rfl) rfl (fun _=>rfl) (fun _=>undef) ?_ ?_
 ·rintro χ L w ⟨⟨b,hb⟩,_⟩ hS
  have hS:St w0 bs w ((χ 14).2++(L++_)):=hS
  rw[hb] at hS
  have hS:St w0 bs w (⟨b,#[.int .i64 0,.int .u32 0],176,true⟩::(L++_)):=hS
  have hb1:(χ 14).1=.pointer (some ⟨b,0,none⟩):=by rw[hb]
  exact aZ rfl hS hb1 (fun w' hS'=>⟨(undef,[⟨b,#[.int .i64 s0,.int .u32 g0],176,true⟩]),rfl,⟨b,hb1,rfl⟩,hS'⟩)
 (refine fV (fun χ w hw=>aG rfl) ?_)
 (refine fV (fun χ w hw=>aG rfl) ?_)
 refine bC rfl ?_
 intro χ w hok hS
 obtain⟨⟨Es2,Ea2,Em2,hP2,hA2,hM2,he2⟩,_⟩:=hok _ (.head _)
 obtain⟨⟨bo,hb⟩,⟨bo',hb1,hb2⟩,_⟩:=hok _ (.tail _ (.head _))
 rw[hb] at hb1
 obtain⟨⟩:=hb1
 have hS:St w0 bs w (((χ 9).2++((χ 15).2++[]))++(⟨b6,#[.int .i64 0,.int .u32 0],176,true⟩::⟨b,du (some ⟨qm,0,none⟩) ps z m C.at' C.bg C.asked,130,true⟩::H2)):=hS
 rw[hb2,he2,List.append_nil] at hS
 simp only[hb]
 simp only[aP] at hS
 clear hok hb2 hb he2
 by_cases he:C.nx+1=z
 ·have hd1:=HD (show decide (C.nx+1=z)=true from decide_eq_true he)
  have he':=HD he
  clear he
  go_wp2_with (first|go_at_call 364;refine ln hS hP2 true hd1.out ?_;clear hS;intro w hS;unfold ab|go_at_call 361;refine AT hS hM2 h5''.out hcy2 ?_;clear hS;intro Em3 w hM3 hS;rw[pU] at hM3;unfold ab|refine aL rfl ?_|refine af rfl hS ?_|refine ak rfl hS ?_;clear hS;intro w hS)
  refine bodyPost_ret (dj rfl hS) rfl ?_
  exact hR ⟨⟨jk C.M.k,Col.zerosL,List.replicate m []⟩,C.nx+1,C.at',C.bg,C.asked⟩ _ _ _ ⟨rfl,rfl,fun _=>rfl,fun h=>absurd he'.out h⟩ hA2 ⟨b,some ⟨qm,0,none⟩,ps,Em3,Es2,rfl,hM3,hP2,rfl⟩ (by simp only[aP];exact hS.p)
 ·have hd1:=HD (show decide (C.nx+1=z)=false from decide_eq_false he)
  have he':=HD he
  clear he
  go_wp2_with (first|go_at_call 364;refine ln hS hP2 false hd1.out ?_;clear hS;intro w hS;unfold ab|refine aL rfl ?_|refine af rfl hS ?_|refine ak rfl hS ?_;clear hS;intro w hS)
  refine bodyPost_ret (dj rfl hS) rfl ?_
  exact hR ⟨pV T C.M C.nx,C.nx+1,C.at',C.bg,C.asked⟩ _ _ _ ⟨rfl,rfl,fun h=>absurd h he'.out,fun _=>rfl⟩ hA2 ⟨b,some ⟨qm,0,none⟩,ps,Em2,Es2,rfl,hM2,hP2,rfl⟩ (by simp only[aP];exact hS.p)
instance Lc:AggT prog 376 6:=⟨by kernel_rfl,by kernel_rfl⟩
instance O5:ZeroT prog 376 #[.nilFunc,.nilFunc,.nilFunc,.nilFunc,.nilFunc,.nilFunc]:=⟨by kernel_rfl⟩
instance Lb:BuildT prog 376 [(0,.func (.func 309) #[] #[]),(1,.func (.func 310) #[] #[]),(2,.func (.func 310) #[] #[]),(3,.func (.func 310) #[] #[]),(4,.func (.func 311) #[] #[]),(5,.func (.func 312) #[] #[])] #[.func (.func 309) #[] #[],.func (.func 310) #[] #[],.func (.func 310) #[] #[],.func (.func 310) #[] #[],.func (.func 311) #[] #[],.func (.func 312) #[] #[]]:=⟨fun w=>by kernel_rfl⟩
theorem vr (hO:St w0 bs w H)(hR:∀ w',St w0 bs w' H->ab R (.agg #[.func (.func 309) #[] #[],.func (.func 310) #[] #[],.func (.func 310) #[] #[],.func (.func 310) #[] #[],.func (.func 311) #[] #[],.func (.func 312) #[] #[]]) w'):Calls prog 230 #[] w R:=by
 have hS:=hO
 clear hO
 go_enter func230,ntmps230
 go_wp2_with (first|refine aq 376 rfl hS ?_;clear hS;intro bN w _ hS|refine aL rfl ?_|refine ak rfl hS ?_;clear hS;intro w hS)
 refine bodyPost_ret (aI rfl hS) rfl ?_
 exact hR _ hS.weak
structure CyPre (z m:Nat)(T:Ar)(C:Cy):Prop where
 hz:T.1.length=z
 hm:T.2.1.length=m
 hph:C.M.k.1≤5
 hcy:0≤C.M.k.2.2.1∧C.M.k.2.2.1<1000000
 hal:(jr (some (some T.1))).length≤300
 hgl:(zn (some (true,T.2.2))).length≤300
 hwi:∀ r∈jr (some (some T.1)),eJ (some (some T.1)) r.1 r.2=0
 hdi:C.M.k.1=4->C.at'<z∧Kept z T C.M C.at'
 hsw:C.M.k.1=5->C.nx<z
def i9 (z m:Nat)(T:Ar)(C:Cy)(T' : Ar)(C' : Cy):Prop:=
 (C.M.k.1=0∧T'=T∧kB C C') ∨
 (1≤C.M.k.1∧C.M.k.1≤3∧T'=T∧iP z m C.M C'.M∧C'.nx=C.nx∧C'.at'=if C'.M.k.1=4 then 0 else C.at') ∨
 (C.M.k.1=4∧T'=T∧C'.at'=C.at'+1∧(C.at'+1=z->C'.M={ C.M with k:=jk C.M.k }∧C'.nx=0)∧(C.at'+1≠z->C'.M=C.M∧C'.nx=C.nx)) ∨
 (C.M.k.1=5∧T'=vP T C.M C.nx∧D5 z m T C C')
theorem zk (hO:St w0 bs w H)(hA:AA pa T Ea)(hT:gE z m bz p C E)[hc:Cut H Ea H1][hd:Cut H1 E H2](hp:CyPre z m T C)(rm:Int) :
  ∃ f,IxA prog 376 (.agg #[.func (.func 309) #[] #[],.func (.func 310) #[] #[],.func (.func 310) #[] #[],.func (.func 310) #[] #[],.func (.func 311) #[] #[],.func (.func 312) #[] #[]]) (.int .i64 C.M.k.1) (.func (.func f) #[] #[])∧(∀ args w,(callFunc f args).run prog w=.ok (.enter f args) w) ∧
   ∀ (R:Ending->World->Prop),(∀ T' C' Ea' E' w',i9 z m T C T' C'->AA pa T' Ea'->gE z m bz p C' E'->St w0 bs w' (Ea'++(E'++H2))->ab R (.tuple #[.agg #[.int .i64 0,.int .u32 0],.bool false,.int .i64 0]) w')->Calls prog f #[.pointer p,.pointer pa,.int .i64 rm] w R:=by
 have hS:=hO.fr Ea H1
 have hS:St w0 bs w (Ea++(E++H2)):=hS.p
 have hph:=hp.hph
 have h6:C.M.k.1=0∨C.M.k.1=1∨C.M.k.1=2∨C.M.k.1=3∨C.M.k.1=4∨C.M.k.1=5:=by omega
 have hmk:1≤C.M.k.1∧C.M.k.1≤3->∀ (R:Ending->World->Prop),(∀ T' C' Ea' E' w',i9 z m T C T' C'->AA pa T' Ea'->gE z m bz p C' E'->St w0 bs w' (Ea'++(E'++H2))->ab R (.tuple #[.agg #[.int .i64 0,.int .u32 0],.bool false,.int .i64 0]) w')->Calls prog 310 #[.pointer p,.pointer pa,.int .i64 rm] w R:=
  fun h R hR=>yv hS hA hT hp.hz hp.hm h hp.hcy hp.hal hp.hgl (fun M' E' w' h1 h2 h3=>hR T { C with M:=M',at':=if M'.k.1=4 then 0 else C.at' } _ _ _ (.inr (.inl ⟨h.1,h.2,rfl,h1,rfl,rfl⟩)) hA h2 h3)
 rcases h6 with h|h|h|h|h|h
 ·refine⟨309,by rw[h];exact⟨fun w=>by kernel_rfl⟩,ae,fun R hR=>?_⟩
  exact yu (show St w0 bs w (E++(Ea++H2)) from hS.p) hT h (fun C' E' w' h1 h2 h3=>hR T C' _ _ _ (.inl ⟨h,rfl,h1⟩) hA h2 (show St w0 bs w' (Ea++(E'++H2)) from h3.p))
 ·exact⟨310,by rw[h];exact⟨fun w=>by kernel_rfl⟩,ae,hmk (by omega)⟩
 ·exact⟨310,by rw[h];exact⟨fun w=>by kernel_rfl⟩,ae,hmk (by omega)⟩
 ·exact⟨310,by rw[h];exact⟨fun w=>by kernel_rfl⟩,ae,hmk (by omega)⟩
 ·refine⟨311,by rw[h];exact⟨fun w=>by kernel_rfl⟩,ae,fun R hR=>?_⟩
  exact nJ hS hA hT h (hp.hdi h).1 hp.hcy (hp.hdi h).2 hp.hal hp.hwi rm (fun C' E' w' h1 h2 h3=>hR T C' _ _ _ (.inr (.inr (.inl ⟨h,rfl,h1.2.2⟩))) hA h2 h3)
 ·refine⟨312,by rw[h];exact⟨fun w=>by kernel_rfl⟩,ae,fun R hR=>?_⟩
  exact vn hS hA hT hp.hz h (hp.hsw h) hp.hcy hp.hal hp.hwi (fun C' Ea' E' w' h1 h2 h3 h4=>hR _ C' _ _ _ (.inr (.inr (.inr ⟨h,rfl,h1⟩))) h2 h3 h4)
structure CyX where
 T:Ar
 C:Cy
 Ea:List Ent
 E:List Ent
instance :Inhabited CyX:=⟨⟨([],[],[]),⟨⟨(0,0,0,[]),[],[]⟩,0,0,0,false⟩,[],[]⟩⟩
theorem yt (hO:St w0 bs w H)(hA:AA pa T Ea)(hT:gE z m bz p C E)[hc:Cut H Ea H1][hd:Cut H1 E H2](hp:CyPre z m T C)(hz1:1≤z)(rm:Int)(hrm:0≤rm)
  (hR:∀ T' C' Ea' E' w',i9 z m T C T' C'->AA pa T' Ea'->gE z m bz p C' E'->St w0 bs w' (Ea'++(E'++H2))->ab R (.tuple #[.agg #[.int .i64 0,.int .u32 0],.bool false,.int .i64 0]) w'):Calls prog 160 #[.pointer p,.pointer pa,.int .i64 rm] w R:=by
 have hS:=hO.fr Ea H1
 have hS:St w0 bs w (Ea++(E++H2)):=hS.p
 clear hO
 obtain⟨b,pm,ps,Em,Es,rfl,hM,hP,rfl⟩:=id hT
 obtain⟨qm,rfl⟩:=hM.isp
 simp only[aP] at hS
 have hp':=HD hp
 have d1:((z:Int) == 0)=false:=beq_eq_false_iff_ne.2 (by omega)
 have d2:decide ((z:Int)=0)=false:=DF
 have d3:decide (z=0)=false:=DF
 have d4:decide (rm<0)=false:=DF
 have hz':=HD hp.hz
 have hk':=HD hp.hm
 clear hp
 go_enter func160,ntmps160
 go_wp2_with (first|refine aq 176 rfl hS ?_;clear hS;intro b6 w _ hS|go_at_call 229;refine kx hS hA z m hz'.out hk'.out ?_;clear hS;intro w _ hS;unfold ab|go_at_call 117;refine ey hS ?_;clear hS;intro w hS;unfold ab|refine af rfl hS ?_)
 have hS0:St w0 bs w (Ea++((⟨b,du (some ⟨qm,0,none⟩) ps z m C.at' C.bg C.asked,130,true⟩::(Em++Es))++(⟨b6,#[.int .i64 0,.int .u32 0],176,true⟩::H2))):=(by simp only[aP];exact hS.p)
 obtain⟨f,hix,hen,hf⟩:∃ f,IxA prog 376 (.agg #[.func (.func 309) #[] #[],.func (.func 310) #[] #[],.func (.func 310) #[] #[],.func (.func 310) #[] #[],.func (.func 311) #[] #[],.func (.func 312) #[] #[]]) (.int .i64 C.M.k.1) (.func (.func f) #[] #[])∧(∀ args w,(callFunc f args).run prog w=.ok (.enter f args) w) ∧
   ∀ (w:World) (R:Ending->World->Prop),St w0 bs w (Ea++((⟨b,du (some ⟨qm,0,none⟩) ps z m C.at' C.bg C.asked,130,true⟩::(Em++Es))++(⟨b6,#[.int .i64 0,.int .u32 0],176,true⟩::H2)))->(∀ T' C' Ea' E' w',i9 z m T C T' C'->AA pa T' Ea'->gE z m bz (some ⟨b,0,none⟩) C' E'->St w0 bs w' (Ea'++(E'++(⟨b6,#[.int .i64 0,.int .u32 0],176,true⟩::H2)))->ab R (.tuple #[.agg #[.int .i64 0,.int .u32 0],.bool false,.int .i64 0]) w')->Calls prog f #[.pointer (some ⟨b,0,none⟩),.pointer pa,.int .i64 rm] w R:=by
  obtain⟨f,h1,h2,_⟩:=zk hS0 hA hT hp'.out rm
  refine⟨f,h1,h2,fun w R hw hR=>?_⟩
  obtain⟨f2,h3,h4,h5⟩:=zk hw hA hT hp'.out rm
  have:f=f2:=by
   have e1:=h1.h w
   rw[h3.h w] at e1
   simpa using e1.symm
  subst this
  exact h5 R hR
 refine aj (X:=CyX) (fun w=>St w0 bs w (Ea++((⟨b,du (some ⟨qm,0,none⟩) ps z m C.at' C.bg C.asked,130,true⟩::(Em++Es))++(⟨b6,#[.int .i64 0,.int .u32 0],176,true⟩::H2))))
  [(10,fun χ w=>i9 z m T C (χ 10).T (χ 10).C∧AA pa (χ 10).T (χ 10).Ea∧gE z m bz (some ⟨b,0,none⟩) (χ 10).C (χ 10).E∧St w0 bs w ((χ 10).Ea++((χ 10).E++(⟨b6,#[.int .i64 0,.int .u32 0],176,true⟩::H2)))),
  (14,fun χ w=>i9 z m T C (χ 10).T (χ 10).C∧AA pa (χ 10).T (χ 10).Ea∧gE z m bz (some ⟨b,0,none⟩) (χ 10).C (χ 10).E∧St w0 bs w ((χ 10).Ea++((χ 10).E++(⟨b6,#[.int .i64 0,.int .u32 0],176,true⟩::H2))))] (hS0.drawn _) (by kernel_rfl) (by kernel_rfl) ?_
 refine dA 0 230 [] rfl (fun _=>rfl) rfl ae (.agg #[.func (.func 309) #[] #[],.func (.func 310) #[] #[],.func (.func 310) #[] #[],.func (.func 310) #[] #[],.func (.func 311) #[] #[],.func (.func 312) #[] #[]]) (fun χ w hw=>vr hw (fun w' hS'=>⟨rfl,hS'⟩)) ?_
 (refine oP (fun χ w=>ad rfl) ?_)
 (refine oP (fun χ w=>ah rfl) ?_)
 (refine oP (fun χ w=>ag rfl) ?_)
 (refine bF 0 (fun _=>rfl) rfl (fun χ w hw=>ac _ _ rfl (show St _ _ w _ from hw)) ?_)
 refine dA 0 231 [_] rfl (fun _=>rfl) rfl ae (.int .i64 C.M.k.1) (fun χ w hw=>by
   have hS:St w0 bs w (Ea++((⟨b,du (some ⟨qm,0,none⟩) ps z m C.at' C.bg C.asked,130,true⟩::(Em++Es))++(⟨b6,#[.int .i64 0,.int .u32 0],176,true⟩::H2))):=hw
   simp only[bX] at hS
   exact ep hS hM (fun w' hS=>⟨rfl,(show St w0 bs w' (Ea++((⟨b,du (some ⟨qm,0,none⟩) ps z m C.at' C.bg C.asked,130,true⟩::(Em++Es))++(⟨b6,#[.int .i64 0,.int .u32 0],176,true⟩::H2))) from(by simp only[aP];exact hS.p))⟩)) ?_
 (refine oP (fun χ w=>cD rfl) ?_)
 (refine oP (fun χ w=>ad rfl) ?_)
 (refine oP (fun χ w=>ad rfl) ?_)
 (refine oP (fun χ w=>ad rfl) ?_)
 refine aO 0 rfl (by kernel_rfl) (fun _=>rfl) (fun _=>.tuple #[.agg #[.int .i64 0,.int .u32 0],.bool false,.int .i64 0]) (fun χ w hw=>eE [_,_,_] rfl hen ?_) ?_
 ·exact hf w _ hw (fun T' C' Ea' E' w' h1 h2 h3 h4=>⟨_,rfl,(⟨T',C',Ea',E'⟩:CyX),rfl,h1,h2,h3,h4⟩)
 (refine oP (fun χ w=>aB rfl) ?_)
 (refine oP (fun χ w=>aB rfl) ?_)
 (refine oP (fun χ w=>aB rfl) ?_)
 refine aO 1 rfl (by kernel_rfl) (fun _=>rfl) (fun _=>undef) (fun χ w hw=>by
  obtain⟨h1,h2,h3,h4⟩:=hw
  refine aK _ _ _ rfl (show St w0 bs w (⟨b6,#[.int .i64 0,.int .u32 0],176,true⟩::((χ 10).Ea++((χ 10).E++H2))) from h4.p) (fun w' hS'=>⟨default,rfl,h1,h2,h3,?_⟩)
  exact(show St w0 bs w' ((χ 10).Ea++((χ 10).E++(⟨b6,#[.int .i64 0,.int .u32 0],176,true⟩::H2))) from hS'.p)) ?_
 (refine oP (fun χ w=>aG rfl) ?_)
 (refine oP (fun χ w=>aG rfl) ?_)
 refine aV rfl ?_
 rintro χ w ⟨h1,h2,h3,hS⟩
 generalize χ 10=x at h1 h2 h3 hS
 obtain⟨T2,C2,Ea2,E2⟩:=x
 simp only at h1 h2 h3 hS
 go_wp2_with (go_skip)
 refine bodyPost_ret (dj rfl hS) rfl ?_
 exact hR T2 C2 _ _ _ h1 h2 h3 hS.p
end
open Go.RowKit Go.Mm
variable {R:Ending->World->Prop}{w W:World}{w0:World}{As bs:List Nat}{H H' H1 H2 H3 E E' E1 E2 Ea Eh Er:List Ent}
abbrev dF:=List (Nat×List (Value×Value))
variable {Ms Ms1 Ms2 Ms3:dF}
abbrev vI (n:Int):Value:=.int .i64 n
abbrev vR (s g:Int):Value:=.agg #[.int .i64 s,.int .u32 g]
instance JY:MapTy prog 225 3 176:=⟨by kernel_rfl,by kernel_rfl⟩
instance JX:MapTy prog 226 176 3:=⟨by kernel_rfl,by kernel_rfl⟩
instance GT {n:Int} : KeyOk prog 3 (.int .i64 n):=fT (by kernel_rfl)
instance GR {s g:Int} : KeyOk prog 176 (.agg #[.int .i64 s,.int .u32 g]):=kZ [(3,0),(26,1)] (by
 intro x hx
 simp only[List.mem_cons,List.not_mem_nil,or_false] at hx
 rcases hx with rfl|rfl
 ·exact⟨.i64,s,by kernel_rfl,⟨by kernel_rfl,by kernel_rfl⟩,rfl⟩
 ·exact⟨.u32,g,by kernel_rfl,⟨by kernel_rfl,by kernel_rfl⟩,rfl⟩)
theorem A4 {n:Int}{v:Value} : KeyFind prog 3 (.int .i64 n) [(.int .i64 n,v)] (some 0):=j6 (by have:=k5 (P:=prog) (t:=3) (q:=.i64) (a:=n) (b:=n) (by kernel_rfl);simpa using this)
instance EX {n:Int}{v:Value} : KeyFind prog 3 (.int .i64 n) [(.int .i64 n,v)] (some 0):=A4
instance GU {s g:Int}{v:Value} : KeyFind prog 176 (.agg #[.int .i64 s,.int .u32 g]) [(.agg #[.int .i64 s,.int .u32 g],v)] (some 0):=j6 (r8 (hq:=gp (by simp [cd])))
class ZeroV (P:Program)(e:TypeId)(z:outParam Value):Prop where
 h:∀ w,(zeroValue e).run P w=.ok z w
instance zv_int:ZeroV prog 3 (.int .i64 0):=⟨fun w=>by kernel_rfl⟩
instance zv_ref:ZeroV prog 176 (.agg #[.int .i64 0,.int .u32 0]):=⟨fun w=>by kernel_rfl⟩
section
variable {P:Program}{e:TypeId}{z x v:Value}{l:List (Value×Value)}
instance EW [h:ZeroV P e z] : Looks P e l none true (.tuple #[z,.bool false]):=⟨.inr ⟨z,rfl,h.h,rfl⟩⟩
instance GO:Looks P e ((x,v)::l) (some 0) true (.tuple #[v,.bool true]):=⟨.inl ⟨0,(x,v),rfl,rfl,rfl⟩⟩
end
def gD (z:Int)(mo mb:Option Nat):Array Value:=#[.int .i64 z,.map mo,.map mb]
def PH (p:Option Addr)(z:Int)(mo mb:Nat)(E:List Ent):Prop:=∃ b,p=some ⟨b,0,none⟩∧0<z∧z≤256∧E=[⟨b,gD z (some mo) (some mb),228,true⟩]
instance Ju:ScalarT prog 131:=⟨by kernel_rfl,by kernel_rfl⟩
instance Gl:ScalarT prog 225:=⟨by kernel_rfl,by kernel_rfl⟩
instance Gk:ScalarT prog 226:=⟨by kernel_rfl,by kernel_rfl⟩
instance Jw {b off:Nat} : FieldAt prog 228 1 b off (off+1):=⟨fun w=>by kernel_rfl⟩
instance Jv {b off:Nat} : FieldAt prog 228 2 b off (off+2):=⟨fun w=>by kernel_rfl⟩
section
variable {z:Int}{mo mb:Option Nat}
instance Nx:CellAt (gD z mo mb) 0 (.int .i64 z):=⟨rfl⟩
instance Nw:CellAt (gD z mo mb) (0+1) (.map mo):=⟨rfl⟩
instance Nv:CellAt (gD z mo mb) (0+2) (.map mb):=⟨rfl⟩
instance Jy:BuildT prog 228 [(0,.int .i64 z),(1,.map mo),(2,.map mb)] (gD z mo mb):=⟨fun w=>by kernel_rfl⟩
end
theorem qp {b:Nat}{z:Int}{mo mb:Option Nat}(hO:St w0 bs w H)[hH:Has H b (gD z mo mb) 228](hz:0<z)(hR:∀ w',St w0 bs w' H->ab R (.bool true) w'):Calls prog 314 #[.pointer (some ⟨b,0,none⟩)] w R:=by
 have hS:=hO
 clear hO
 have d:decide (0<z)=true:=decide_eq_true hz
 go_enter func314,ntmps314
 go_wp2_with (refine af rfl hS ?_)
 exact hR _ hS
theorem mY {b:Nat}{z:Int}{mo mb:Option Nat}(hO:St w0 bs w H)[hH:Has H b (gD z mo mb) 228](hz:0<z)(i:Int)(hi:0≤i∧i<z)(hR:∀ w',St w0 bs w' H->ab R (.int .i64 0) w'):Calls prog 315 #[.pointer (some ⟨b,0,none⟩),.int .i64 i] w R:=by
 have hS:=hO
 clear hO
 have d1:decide (i<0)=false:=DF
 have d2:decide (z≤i)=false:=DF
 go_enter func315,ntmps315
 go_wp2_with (first|go_at_call 314;refine qp hS hz ?_;clear hS;intro w hS;unfold ab|refine af rfl hS ?_)
 exact hR _ hS
section
variable {p:Option Addr}{z:Int}{mo mb:Nat}
theorem At (hB:Mps W As w0 bs Ms)(hO:St w0 bs w H)(z:Int)(hz:1≤z∧z≤256)(hR:∀ p mo mb E w0' bs' w',PH p z mo mb E->Mps W As w0' bs' ((mb,[])::(mo,[])::Ms)->St w0' bs' w' (E++H)->ab R (.tuple #[.pointer p,.int .i64 0]) w'):Calls prog 45 #[.int .i64 z] w R:=by
 have hS:=hO
 clear hO
 have d1:decide (z<1)=false:=DF
 have d2:decide (256<z)=false:=DF
 go_enter func45,ntmps45
 go_wp2_with (first|refine aF (.makeMap 225 none) rfl ?_;refine iQ rfl hB hS ?_;clear hB hS;intro mo w hB hS|refine aF (.makeMap 226 none) rfl ?_;refine iQ rfl hB hS ?_;clear hB hS;intro mb w hB hS|refine am 228 rfl hS ?_;clear hS;intro b w _ hS|refine aL rfl ?_)
 exact hR _ _ _ _ _ _ _ ⟨b,rfl,by omega,hz.2,rfl⟩ hB hS
theorem CW (hB:Mps W As w0 bs Ms)(hO:St w0 bs w H)(hT:PH p z mo mb E)[hc:Cut H E H1][hM:MapIn Ms mb []](s g:Int)(hR:∀ w',St w0 bs w' (E++H1)->ab R (.tuple #[.int .i64 0,.bool false]) w'):Calls prog 234 #[.pointer p,.agg #[.int .i64 s,.int .u32 g]] w R:=by
 have hS:=hO.fr E H1
 clear hO
 obtain⟨b,rfl,hz0,hz256,rfl⟩:=id hT
 simp only[cq] at hS
 go_enter func234,ntmps234
 go_wp2_with (first|refine am 176 rfl hS ?_;clear hS;intro b3 w _ hS|go_at_call 314;refine qp hS hz0 ?_;clear hS;intro w hS;unfold ab|refine av hS (fun hne=>?_);(repeat (go_big_quiet_want;first|(refine aH (fun w hw=>dS rfl hB (bk w hw)) ?_;go_big_quiet_on)|((first|refine aE bk (fun w hS=>ac _ _ rfl hS) ?_|refine aE bk (fun w hS=>ai _ _ rfl hS) ?_);go_big_quiet_on)|(refine aH (fun w _=>ah rfl) ?_;go_big_quiet_on)|(go_big_quiet_op;go_big_quiet_on)));refine wpQuiet_nil ?_;clear hS hne;intro w hS)
 exact hR _ (by(try simp only[aP]);exact hS.p)
theorem ug (hB:Mps W As w0 bs Ms)(hO:St w0 bs w H)(hT:PH p z mo mb E)[hc:Cut H E H1](i s g:Int)(hi:0≤i∧i<z)[h1:MapIn Ms mo [(vI i,vR s g)]][h2:MapUp Ms mo [(vI i,vR s g)] [] Ms1][h3:MapIn Ms1 mb [(vR s g,vI i)]][h4:MapUp Ms1 mb [(vR s g,vI i)] [] Ms2]
  (hR:∀ w0' bs' w',Mps W As w0' bs' Ms2->St w0' bs' w' (E++H1)->ab R (.tuple #[.agg #[.int .i64 s,.int .u32 g],.int .i64 0]) w'):Calls prog 235 #[.pointer p,.int .i64 i] w R:=by
 have hS:=hO.fr E H1
 clear hO
 obtain⟨b,rfl,hz0,hz256,rfl⟩:=id hT
 simp only[cq] at hS
 go_enter func235,ntmps235
 go_wp2_with (first|refine aq (o:=⟨some 4,_,_,_,_,_⟩) 176 rfl hS ?_;clear hS;intro b4 w _ hS|refine aq 176 rfl hS ?_;clear hS;intro b7 w _ hS|go_at_call 315;refine mY hS hz0 i hi ?_;clear hS;intro w hS;unfold ab|refine wU (dS rfl hB hS) ?_|refine aR 5 hS ?_;clear hS;intro w hS;simp only[List.take_succ_cons,List.take_zero,List.drop_succ_cons,List.drop_zero];(repeat (first|(first|refine ax rfl (ac _ _ rfl hS) ?_|refine ax rfl (ai _ _ rfl hS) ?_)|still_step));refine wpStill_nil ?_|refine aF (.call { callee:=.builtin .delete,args:=#[_,_],argTypes:=#[_,_] }) rfl ?_;refine wS (iu rfl hB hS ?_);clear hB hS;intro w hB hS|(first|refine af rfl hS ?_|refine au rfl hS ?_)|refine ak rfl hS ?_;clear hS;intro w hS)
 refine bodyPost_ret (aJ rfl hS) rfl ?_
 exact hR _ _ _ hB hS.p
theorem Au (hB:Mps W As w0 bs Ms)(hO:St w0 bs w H)(hT:PH p z mo mb E)[hc:Cut H E H1](i s g:Int)(hi:0≤i∧i<z)(hs:0≤s∧s<256)(hg:1≤g)[h1:MapIn Ms mo []][h2:MapIn Ms mb []][hz1:MapUp Ms mo [] [(vI i,vR 0 0)] Ms1][hz2:MapUp Ms1 mo [(vI i,vR 0 0)] [(vI i,vR s g)] Ms2][hz3:MapUp Ms2 mb [] [(vR s g,vI 0)] Ms3]{Ms4:dF}[hz4:MapUp Ms3 mb [(vR s g,vI 0)] [(vR s g,vI i)] Ms4]
  (hR:∀ w0' bs' w',Mps W As w0' bs' Ms4->St w0' bs' w' (E++H1)->ab R (.int .i64 0) w'):Calls prog 293 #[.pointer p,.int .i64 i,.agg #[.int .i64 s,.int .u32 g]] w R:=by
 have hS:=hO.fr E H1
 clear hO
 obtain⟨b,rfl,hz0,hz256,rfl⟩:=id hT
 simp only[cq] at hS
 have d1:decide (s<0)=false:=DF
 have d2:decide (256≤s)=false:=DF
 have d3:(g == 0)=false:=beq_eq_false_iff_ne.2 (by omega)
 have d4:decide (g=0)=false:=DF
 go_enter func293,ntmps293
 go_wp2_with (first|refine am 176 rfl hS ?_;clear hS;intro b5 w _ hS|refine aq 176 rfl hS ?_;clear hS;intro b8 w _ hS|go_at_call 315;refine mY hS hz0 i hi ?_;clear hS;intro w hS;unfold ab|refine wU (dS rfl hB hS) ?_|refine av hS (fun hne=>?_);(repeat (go_big_quiet_want;first|(refine aH (fun w hw=>dS rfl hB (bk w hw)) ?_;go_big_quiet_on)|((first|refine aE bk (fun w hS=>ac _ _ rfl hS) ?_|refine aE bk (fun w hS=>ai _ _ rfl hS) ?_);go_big_quiet_on)|(refine aH (fun w _=>ah rfl) ?_;go_big_quiet_on)|(go_big_quiet_op;go_big_quiet_on)));refine wpQuiet_nil ?_;clear hS hne;intro w hS|refine af rfl hS ?_|refine ak rfl hS ?_;clear hS;intro w hS)
 have hS:St w0 bs w (⟨b5,#[.int .i64 s,.int .u32 g],176,true⟩::⟨b,gD z (some mo) (some mb),228,true⟩::H1):=hS.p
 refine aj (X:=Nat×Nat) (Jm W As Ms (⟨b5,#[.int .i64 s,.int .u32 g],176,true⟩::⟨b,gD z (some mo) (some mb),228,true⟩::H1))
  [(12,fun χ w=>w.heap[mo]?=some (.map #[⟨vI i,vR 0 0,(χ 12).1⟩] (χ 12).2)∧Jm W As Ms1 (⟨b5,#[.int .i64 s,.int .u32 g],176,true⟩::⟨b,gD z (some mo) (some mb),228,true⟩::H1) w),
  (14,fun χ w=>Jm W As Ms2 (⟨b5,#[.int .i64 s,.int .u32 g],176,true⟩::⟨b,gD z (some mo) (some mb),228,true⟩::H1) w),
  (15,fun χ w=>w.heap[mb]?=some (.map #[⟨vR s g,vI 0,(χ 15).1⟩] (χ 15).2)∧Jm W As Ms3 (⟨b5,#[.int .i64 s,.int .u32 g],176,true⟩::⟨b,gD z (some mo) (some mb),228,true⟩::H1) w),
  (17,fun χ w=>Jm W As Ms4 (⟨b5,#[.int .i64 s,.int .u32 g],176,true⟩::⟨b,gD z (some mo) (some mb),228,true⟩::H1) w)] ⟨w0,bs,hB,hS.drawn _⟩ (by kernel_rfl) (by kernel_rfl) ?_
 (refine oP (fun χ w=>ad rfl) ?_)
 (refine oP (fun χ w=>ah rfl) ?_)
 (refine oP (fun χ w=>ag rfl) ?_)
 refine dt (fun w=>∃ w0 bs,St w0 bs w (⟨b5,#[.int .i64 s,.int .u32 g],176,true⟩::⟨b,gD z (some mo) (some mb),228,true⟩::H1)) ⟨fun w ⟨w0,bs,_,h⟩=>⟨w0,bs,h⟩,fun x hx χ w h=>by
  simp only[List.mem_cons,List.not_mem_nil,or_false] at hx
  rcases hx with rfl|rfl|rfl|rfl
  ·obtain⟨_,w0,bs,_,h⟩:=h;exact⟨w0,bs,h⟩
  ·obtain⟨w0,bs,_,h⟩:=h;exact⟨w0,bs,h⟩
  ·obtain⟨_,w0,bs,_,h⟩:=h;exact⟨w0,bs,h⟩
  ·obtain⟨w0,bs,_,h⟩:=h;exact⟨w0,bs,h⟩⟩ (fun _=>rfl) rfl (fun χ w hw=>by obtain⟨w0,bs,hw⟩:=hw;exact ac _ _ rfl hw) ?_
 (refine oP (fun χ w=>ad rfl) ?_)
 (refine oP (fun χ w=>ad rfl) ?_)
 (refine oP (fun χ w=>ah rfl) ?_)
 (refine oP (fun χ w=>ag rfl) ?_)
 refine dt (fun w=>∃ w0 bs,St w0 bs w (⟨b5,#[.int .i64 s,.int .u32 g],176,true⟩::⟨b,gD z (some mo) (some mb),228,true⟩::H1)) ⟨fun w ⟨w0,bs,_,h⟩=>⟨w0,bs,h⟩,fun x hx χ w h=>by
  simp only[List.mem_cons,List.not_mem_nil,or_false] at hx
  rcases hx with rfl|rfl|rfl|rfl
  ·obtain⟨_,w0,bs,_,h⟩:=h;exact⟨w0,bs,h⟩
  ·obtain⟨w0,bs,_,h⟩:=h;exact⟨w0,bs,h⟩
  ·obtain⟨_,w0,bs,_,h⟩:=h;exact⟨w0,bs,h⟩
  ·obtain⟨w0,bs,_,h⟩:=h;exact⟨w0,bs,h⟩⟩ (fun _=>rfl) rfl (fun χ w hw=>by obtain⟨w0,bs,hw⟩:=hw;exact ac _ _ rfl hw) ?_
 refine dt (fun w=>∃ w0 bs,St w0 bs w (⟨b5,#[.int .i64 s,.int .u32 g],176,true⟩::⟨b,gD z (some mo) (some mb),228,true⟩::H1)) ⟨fun w ⟨w0,bs,_,h⟩=>⟨w0,bs,h⟩,fun x hx χ w h=>by
  simp only[List.mem_cons,List.not_mem_nil,or_false] at hx
  rcases hx with rfl|rfl|rfl|rfl
  ·obtain⟨_,w0,bs,_,h⟩:=h;exact⟨w0,bs,h⟩
  ·obtain⟨w0,bs,_,h⟩:=h;exact⟨w0,bs,h⟩
  ·obtain⟨_,w0,bs,_,h⟩:=h;exact⟨w0,bs,h⟩
  ·obtain⟨w0,bs,_,h⟩:=h;exact⟨w0,bs,h⟩⟩ (fun _=>rfl) rfl (fun χ w hw=>by obtain⟨w0,bs,hw⟩:=hw;exact ai _ _ rfl hw) ?_
 refine dt (fun w=>∃ w0 bs,St w0 bs w (⟨b5,#[.int .i64 s,.int .u32 g],176,true⟩::⟨b,gD z (some mo) (some mb),228,true⟩::H1)) ⟨fun w ⟨w0,bs,_,h⟩=>⟨w0,bs,h⟩,fun x hx χ w h=>by
  simp only[List.mem_cons,List.not_mem_nil,or_false] at hx
  rcases hx with rfl|rfl|rfl|rfl
  ·obtain⟨_,w0,bs,_,h⟩:=h;exact⟨w0,bs,h⟩
  ·obtain⟨w0,bs,_,h⟩:=h;exact⟨w0,bs,h⟩
  ·obtain⟨_,w0,bs,_,h⟩:=h;exact⟨w0,bs,h⟩
  ·obtain⟨w0,bs,_,h⟩:=h;exact⟨w0,bs,h⟩⟩ (fun _=>rfl) rfl (fun χ w hw=>by obtain⟨w0,bs,hw⟩:=hw;exact ai _ _ rfl hw) ?_
 (refine oP (fun χ w=>ad rfl) ?_)
 refine aO 0 rfl (by kernel_rfl) (fun _=>rfl) (fun x=>.tuple #[vR 0 0,.int .i64 x.1]) (fun χ w hw=>by
  obtain⟨w0,bs,hB,hS⟩:=hw
  exact jA rfl hB hS (fun w=>zv_ref.h w) (hu:=hz1) (fun n ck w' g1 g2 g3=>⟨(n,ck),rfl,g1,_,_,g2,g3⟩)) ?_
 refine eQ 12 (fun _=>rfl) rfl (fun x=>.int .i64 x.1) (fun χ w=>aB rfl) ?_
 refine aO 1 rfl (by kernel_rfl) (fun _=>rfl) (fun _=>undef) (fun χ w hw=>by
  obtain⟨g1,w0,bs,hB,hS⟩:=hw
  exact jB rfl hB hS g1 (hu:=hz2) (fun w' g2 g3=>⟨default,rfl,_,_,g2,g3⟩)) ?_
 refine aO 2 rfl (by kernel_rfl) (fun _=>rfl) (fun x=>.tuple #[vI 0,.int .i64 x.1]) (fun χ w hw=>by
  obtain⟨w0,bs,hB,hS⟩:=hw
  exact jA rfl hB hS (fun w=>zv_int.h w) (hu:=hz3) (fun n ck w' g1 g2 g3=>⟨(n,ck),rfl,g1,_,_,g2,g3⟩)) ?_
 refine eQ 15 (fun _=>rfl) rfl (fun x=>.int .i64 x.1) (fun χ w=>aB rfl) ?_
 refine aO 3 rfl (by kernel_rfl) (fun _=>rfl) (fun _=>undef) (fun χ w hw=>by
  obtain⟨g1,w0,bs,hB,hS⟩:=hw
  exact jB rfl hB hS g1 (hu:=hz4) (fun w' g2 g3=>⟨default,rfl,_,_,g2,g3⟩)) ?_
 refine aV rfl ?_
 rintro χ w ⟨w0',bs',hB,hS⟩
 go_wp2_with (go_skip)
 exact hR _ _ _ hB (by(try simp only[aP]);exact hS.p)
end
end Go.Proofs.YtnbgljbhkeffkaaGreatDoor
