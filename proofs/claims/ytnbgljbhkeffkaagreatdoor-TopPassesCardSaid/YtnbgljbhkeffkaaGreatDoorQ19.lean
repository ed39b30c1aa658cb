/-
  Contracts of what the law TopPasses reaches, part 19: Pnw Mkr Mkg Mkw Mks.
-/
import Derived.Test.YtnbgljbhkeffkaaGreatDoorQ17
open Go.Proofs.Tryz
set_option linter.unusedVariables false
set_option linter.unusedSimpArgs false
set_option maxHeartbeats 4000000
set_option maxRecDepth 100000
namespace Go.Proofs.YtnbgljbhkeffkaaGreatDoor
open Go.RowKit Go.Mm
variable {R:Ending->World->Prop}{w:World}{w0:World}{bs:List Nat}{H H' H1 H2 H3 E E0 E1 E2:List Ent}
def Up (L L' : List Int):Prop:=∀ i,L.getD i 0≠0->L'.getD i 0≠0
theorem Up.refl (L:List Int):Up L L:=fun _ h=>h
theorem Up.trans {A B C:List Int}(h:Up A B)(k:Up B C):Up A C:=fun i hi=>k i (h i hi)
theorem sQ {L:List Int}{i:Nat}{c:Int}(hc:c≠0):Up L (L.set i c):=fun j hj=>by
 rw[List.getD_eq_getElem?_getD] at hj ⊢
 rw[List.getElem?_set]
 split
 ·subst_vars
  split
  ·simpa using hc
  ·rename_i h
   rw[List.getElem?_eq_none (by omega)] at hj
   exact absurd rfl hj
 ·exact hj
theorem mt (L:List Int)(i:Nat):Up L (Col.shadeL L i):=by
 unfold Col.shadeL;split
 ·exact sQ (by decide)
 ·exact Up.refl L
theorem tG {L:List Int}{i:Nat}(hi:i<L.length):(Col.shadeL L i).getD i 0≠0:=by
 unfold Col.shadeL;split
 ·rw[List.getD_eq_getElem?_getD,List.getElem?_set_self hi];decide
 ·assumption
theorem mu (f:Int)(L:List Int)(i:Nat):Up L (Col.blackL f L i):=by
 unfold Col.blackL;split
 ·exact sQ (by decide)
 ·exact Up.refl L
theorem zY {z:Nat}{L:List Int}{S:Sq}(hok:i7 S=true){i:Nat}(hi:i<z):wD (some (some (z,L))) S i=some (some (z,Col.shadeL L i)):=by
 have hv:oC (some (some (z,L))) S=true:=by simp[oC,EQ,hok]
 unfold wD
 rw[if_pos hv]
 simp only[z0]
 rw[if_pos (by omega),Int.toNat_natCast]
theorem Ak {S:Sq}(h:i7 S=true)(x:Int):i7 (uc S x)=true:=by
 rcases S with _|_|⟨z,o,l⟩
 ·cases h
 ·cases h
 ·unfold uc;simp only;(repeat' split) <;> rfl
theorem oK {T:Cq}{S:Sq}(h:i7 S=true)(x:Int):i7 (yU T S x)=true:=by
 unfold yU;split
 ·exact Ak h x
 ·exact h
theorem mV {p q:Option Addr}{z:Nat}{L:List Int}{S:Sq}(hO:St w0 bs w H)(hT:KA p (some (some (z,L))) E1)(hU:SA q S E2)(hok:i7 S=true)[hc:Cut H E1 H1][hd:Cut H1 E2 H2](i:Nat)(hi:i<z)
  (hR:∀ L' S' E1' E2' w' v e,Up L L'->L'.getD i 0≠0->i7 S'=true->KA p (some (some (z,L'))) E1'->SA q S' E2'->St w0 bs w' (E1'++(E2'++H2))->ab R (.tuple #[.bool v,.int .i64 e]) w'):Calls prog 192 #[.pointer p,.pointer q,.int .i64 i] w R:=by
 have h256:z≤256:=hT.2.1
 have hlen:L.length=256:=hT.2.2.1
 refine gO hO hT hU i (zY hok hi) rfl rfl rfl ?_
 intro E1' E2' w' hT' hU' hS'
 exact hR _ _ _ _ _ _ _ (mt L i) (tG (by omega)) (oK hok _) hT' hU' hS'
theorem vA {z:Nat}{L:List Int}{s:Int} : ∃ L',Cm (some (some (z,L))) s=some (some (z,L'))∧Up L L':=by
 simp only[Cm];split
 ·exact⟨_,rfl,mu 1 L _⟩
 ·exact⟨_,rfl,Up.refl L⟩
theorem p6 {z:Nat}{L:List Int}{S:Sq}{s:Int} : ∃ L',wD (some (some (z,L))) S s=some (some (z,L'))∧Up L L':=by
 unfold wD;split
 ·simp only[z0];split
  ·exact⟨_,rfl,mt L _⟩
  ·exact⟨_,rfl,Up.refl L⟩
 ·exact⟨_,rfl,Up.refl L⟩
theorem p7 {z:Nat} : ∀ (l:List Int) (L:List Int) (S:Sq) (n:Nat),i7 S=true->∃ L' S' n',l.foldl lw (some (some (z,L)),S,n)=(some (some (z,L')),S',n')∧Up L L'∧i7 S'=true
 | [],L,S,n,h=>⟨L,S,n,rfl,Up.refl L,h⟩
 | s::l,L,S,n,h=>by
  obtain⟨L1,h1,u1⟩:=p6 (z:=z) (L:=L) (S:=S) (s:=s)
  obtain⟨L2,S2,n2,h2,u2,o2⟩:=p7 l L1 (yU (some (some (z,L))) S s) (n+if CE (some (some (z,L))) S s then 1 else 0) (oK h s)
  exact⟨L2,S2,n2,by rw[List.foldl_cons];simp only[lw,h1];exact h2,u1.trans u2,o2⟩
theorem xj {ph p q:Option Addr}{Hh:Hp}{z:Nat}{L:List Int}{S:Sq}(hO:St w0 bs w H)(hH:HA ph Hh E0)(hT:KA p (some (some (z,L))) E1)(hU:SA q S E2)(hok:i7 S=true)[hc:Cut H E0 H1][hd:Cut H1 E1 H2][hf:Cut H2 E2 H3](s g:Int)
  (hR:∀ L' S' E1' E2' w' (n:Nat) e,Up L L'->i7 S'=true->KA p (some (some (z,L'))) E1'->SA q S' E2'->St w0 bs w' (E0++(E1'++(E2'++H3)))->ab R (.tuple #[.int .i64 n,.int .i64 e]) w'):Calls prog 463 #[.pointer ph,.pointer p,.pointer q,.agg #[.int .i64 s,.int .u32 g]] w R:=by
 have hx:∃ L' S',Ez Hh (some (some (z,L))) S s g=some (some (z,L'))∧EA Hh (some (some (z,L))) S s g=S'∧Up L L'∧i7 S'=true:=by
  obtain⟨L1,S1,n1,h1,u1,o1⟩:=p7 (z:=z) (kM Hh s g) L S 0 hok
  unfold Ez EA
  split
  ·unfold BR;rw[h1]
   obtain⟨L2,h2,u2⟩:=vA (z:=z) (L:=L1) (s:=s)
   exact⟨L2,S1,h2,rfl,u1.trans u2,o1⟩
  ·exact⟨L,S,rfl,rfl,Up.refl L,hok⟩
 obtain⟨L',S',h1,h2,u,o⟩:=hx
 exact wG hO hH hT hU s g h1 h2 rfl rfl (fun E1' E2' w' hT' hU' hS'=>hR L' S' E1' E2' w' _ _ u o hT' hU' hS')
theorem xk {p:Option Addr}{z:Nat}{L:List Int}(hO:St w0 bs w H)(hT:KA p (some (some (z,L))) E)[hc:Cut H E H1](i:Nat)(hi:i<z)
  (hR:∀ L' E' w' e,Up L L'->KA p (some (some (z,L'))) E'->St w0 bs w' (E'++H1)->ab R (.int .i64 e) w'):Calls prog 120 #[.pointer p,.int .i64 i] w R:=by
 have hS:=hO.fr E H1
 clear hO
 obtain⟨h1,h2,h3,h4,b,rfl,rfl⟩:=hT
 simp only[cq] at hS
 have hk:(Col.blackL 0 L i).length=256∧∀ d∈Col.blackL 0 L i,d=0∨d=1∨d=2:=by
  unfold Col.blackL;split
  ·exact fW (c:=2) h3 h4 (.inr (.inr rfl))
  ·exact⟨h3,h4⟩
 have hiI:(i:Int)<z:=by omega
 go_enter func120,ntmps120
 go_wp2_with (go_at_call 182;refine Col.blacken_ok (n:=z) (L:=L) (H':=⟨b,Col.paintCells z (Col.blackL 0 L i),285,true⟩::H1) hS (by omega) (by omega) i hiI 0 (hu:=gH) ?_;clear hS;intro w hS;unfold ab)
 exact hR _ _ _ _ (mu 0 L i) ⟨h1,h2,hk.1,hk.2,b,rfl,rfl⟩ hS
theorem rO {p:Option Addr}{z:Nat}{L:List Int}(hO:St w0 bs w H)(hT:KA p (some (some (z,L))) E)[hc:Cut H E H1](i:Nat)(hi:i<z)
  (hR:∀ E' w',KA p (some (some (z,L.set i 0))) E'->St w0 bs w' (E'++H1)->ab R (.int .i64 0) w'):Calls prog 428 #[.pointer p,.int .i64 i] w R:=by
 have hS:=hO.fr E H1
 clear hO
 obtain⟨h1,h2,h3,h4,b,rfl,rfl⟩:=hT
 have hk:=fW (i:=i) (c:=0) h3 h4 (.inl rfl)
 exact Col.bleach_ok (n:=z) (L:=L) (H':=⟨b,Col.paintCells z (L.set i 0),285,true⟩::H1) hS (by omega) (by omega) i (by omega) (hu:=gH)
  (fun w' hS'=>hR _ w' ⟨h1,h2,hk.1,hk.2,b,rfl,rfl⟩ hS')
theorem ua {p:Option Addr}{z:Nat}{L:List Int}(hO:St w0 bs w H)(hT:KA p (some (some (z,L))) E)[hc:Cut H E H1]
  (hR:∀ E' w',KA p (some (some (z,Col.zerosL))) E'->St w0 bs w' (E'++H1)->ab R (.tuple #[]) w'):Calls prog 395 #[.pointer p] w R:=by
 have hS:=hO.fr E H1
 clear hO
 obtain⟨h1,h2,h3,h4,b,rfl,rfl⟩:=hT
 exact Col.clear_ok (n:=z) (L:=L) (H':=⟨b,Col.paintCells z Col.zerosL,285,true⟩::H1) hS (by omega) h3 (hu:=gH)
  (fun w' hS'=>hR _ w' ⟨h1,h2,Col.zerosLen,fun c hc=>.inl (List.mem_replicate.1 hc).2,b,rfl,rfl⟩ hS')
instance FW:AggT prog 291 2:=⟨by kernel_rfl,by kernel_rfl⟩
instance Ip:BuildT prog 291 [] #[.bool false,.int .i64 0]:=⟨fun w=>by kernel_rfl⟩
theorem tf {p:Option Addr}{S:Sq}(hO:St w0 bs w H)(hT:SA p S E)(hok:i7 S=true)[hc:Cut H E H1]
  (hR:∀ S' E' w',i7 S'=true->SA p S' E'->St w0 bs w' (E'++H1)->ab R (.tuple #[]) w'):Calls prog 396 #[.pointer p] w R:=by
 have hS:=hO.fr E H1
 clear hO
 rcases S with _|_|⟨z,o,l⟩
 ·cases hok
 ·cases hok
 obtain⟨h1,h2,h3,b,mo,sp,hmo,hl,rfl,rfl⟩:=id hT
 have hU:SA (some ⟨b,0,none⟩) (some (some (z,o,l))) [⟨b,dU o mo z l.length (l++sp),293,true⟩]:=hT
 have hov:SetsAt (dU o mo z 0 (l++sp)) 0 #[.bool false,.int .i64 0] (dU false 0 z 0 (l++sp)):=⟨rfl,by rw[(tx (by rw[List.length_append];exact hl)).h];decide⟩
 have hlen:(l++sp).length=64:=by rw[List.length_append];exact hl
 go_enter func396,ntmps396
 go_wp2_with (first|go_at_call 346;refine ci hS hU true rfl ?_;clear hS;intro w hS;simp only[cq] at hS;unfold ab|refine aL rfl ?_|(first|refine bP rfl hS ?_|refine ak rfl hS ?_);clear hS;intro w hS)
 refine bodyPost_end (results_none rfl _ _ _) rfl ?_
 exact hR (some (some (z,false,[]))) _ _ rfl ⟨h1,h2,by simp,b,0,l++sp,by simp,by simpa using hlen,rfl,rfl⟩ hS
open Go.RowKit Go.Mm
variable {R:Ending->World->Prop}{w:World}{w0:World}{bs:List Nat}{H H' H1 H2 E E' : List Ent}
structure Mk where
 k:Ck
 L:List Int
 bf:List (List Int)
def cW (z m:Nat)(pc pp ps:Option Addr)(v:Value):Array Value:=#[.int .i64 z,.int .i64 m,.pointer pc,.pointer pp,.pointer ps,v]
def uh (xs:List Bx):List Value:=xs.map fun x=>.pointer (some ⟨x.1,0,none⟩)
def PV (v:Value)(xs:List Bx)(E:List Ent):Prop:=Sl 218 1 v xs.length (uh xs) E
theorem PV.one {v:Value}{xs:List Bx}{E:List Ent}(h:PV v xs E):OneCell v:=Sl.one h
theorem PV.len {v:Value}{xs:List Bx}{E:List Ent}(h:PV v xs E){n:Nat}(hn:xs.length=n):LenV prog 209 v n:=by
 subst hn
 refine⟨?_,218,underlying209⟩
 rcases h.or with ⟨rfl,h0,_⟩|⟨g,cap,sp,rfl,_⟩
 ·exact⟨none,0,by rw[h0]⟩
 ·exact⟨_,cap,rfl⟩
theorem PV.at {v:Value}{xs:List Bx}{E:List Ent}(h:PV v xs E){i:Nat}{x:Bx}(hi:xs[i]?=some x) :
  ∃ g cs,IdxV prog 209 v i ⟨g,i,none⟩∧Has E g cs 218∧CellAt cs i (.pointer (some ⟨x.1,0,none⟩)):=by
 have hlt:i<xs.length:=(List.getElem?_eq_some_iff.1 hi).1
 obtain⟨g,cap,sp,rfl,rfl,h1,h2,h3⟩:=Sl.some h (by omega)
 refine⟨g,_,⟨fun w=>?_⟩,lV,⟨?_⟩⟩
 ·have h2:0≤(i:Int):=by omega
  simp[Instr.indexAt,asIntOf,run_underlying underlying209,hlt,aU (P:=prog) (t:=218) (n:=1) (by kernel_rfl),Addr.add_lit]
 ·rw[List.getElem?_toArray,List.getElem?_append_left (by simp[uh];omega)]
  simp[uh,hi]
def MA (z m bz:Nat)(p:Option Addr)(M:Mk)(E:List Ent):Prop:=
 ∃ b pc pp ps S v xs Ec Ep Es Ev,p=some ⟨b,0,none⟩∧CA pc M.k Ec∧KA pp (some (some (z,M.L))) Ep∧SA ps S Es∧i7 S=true∧PV v xs Ev∧xs.length=m∧(∀ i x,xs[i]?=some x->BxW x bz (M.bf.getD i []))∧M.bf.length=m∧M.k.2.1=m ∧
  E=⟨b,cW z m pc pp ps v,211,true⟩::(Ec++(Ep++(Es++(Ev++xs.map ce))))
theorem MA.isp {z m bz:Nat}{p:Option Addr}{M:Mk}(h:MA z m bz p M E):∃ b,p=some ⟨b,0,none⟩:=by
 obtain⟨b,_,_,_,_,_,_,_,_,_,_,rfl,_⟩:=h;exact⟨b,rfl⟩
theorem CA.m14 {p:Option Addr}{T:Ck}(h:CA p T E):1≤T.2.1∧T.2.1≤4∧T.1<6∧T.2.2.2.length=4:=by
 obtain⟨b,_,h6,h1,h4,hl,_⟩:=h;exact⟨h1,h4,h6,hl⟩
instance J9:ScalarT prog 123:=⟨by kernel_rfl,by kernel_rfl⟩
instance Kb:ScalarT prog 206:=⟨by kernel_rfl,by kernel_rfl⟩
instance Ka:ScalarT prog 207:=⟨by kernel_rfl,by kernel_rfl⟩
instance J8:ScalarT prog 208:=⟨by kernel_rfl,by kernel_rfl⟩
instance Kc:ScalarT prog 209:=⟨by kernel_rfl,by kernel_rfl⟩
instance Ke {b off:Nat} : FieldAt prog 211 2 b off (off+2):=⟨fun w=>by kernel_rfl⟩
instance Kd {b off:Nat} : FieldAt prog 211 5 b off (off+5):=⟨fun w=>by kernel_rfl⟩
instance Kf {z m:Nat} : BuildT prog 211 [(0,.int .i64 z),(1,.int .i64 m)] (cW z m none none none (.slice none 0 0)):=⟨fun w=>by kernel_rfl⟩
section
variable {z m:Nat}{pc pp ps:Option Addr}{v:Value}
instance PL:CellAt (cW z m pc pp ps v) 0 (.int .i64 z):=⟨rfl⟩
instance PK:CellAt (cW z m pc pp ps v) (0+1) (.int .i64 m):=⟨rfl⟩
instance PJ:CellAt (cW z m pc pp ps v) (0+2) (.pointer pc):=⟨rfl⟩
instance PI:CellAt (cW z m pc pp ps v) (0+3) (.pointer pp):=⟨rfl⟩
instance PG:CellAt (cW z m pc pp ps v) (0+4) (.pointer ps):=⟨rfl⟩
instance PF:CellAt (cW z m pc pp ps v) (0+5) v:=⟨rfl⟩
instance Od {q:Option Addr} : SetAt (cW z m pc pp ps v) (0+2) (.pointer q) (cW z m q pp ps v):=⟨rfl,by simp [cW]⟩
instance Oc {q:Option Addr} : SetAt (cW z m pc pp ps v) (0+3) (.pointer q) (cW z m pc q ps v):=⟨rfl,by simp [cW]⟩
instance Oa {q:Option Addr} : SetAt (cW z m pc pp ps v) (0+4) (.pointer q) (cW z m pc pp q v):=⟨rfl,by simp [cW]⟩
instance N9 {u:Value} : SetAt (cW z m pc pp ps v) (0+5) u (cW z m pc pp ps u):=⟨rfl,by simp [cW]⟩
end
theorem cI {b z m:Nat}{pc pp ps:Option Addr}{v:Value}(hO:St w0 bs w H)[hH:Has H b (cW z m pc pp ps v) 211](hz:1≤z)(hR:∀ w',St w0 bs w' H->ab R (.bool true) w'):Calls prog 118 #[.pointer (some ⟨b,0,none⟩)] w R:=by
 have hS:=hO
 clear hO
 have d:decide (0<(z:Int))=true:=DT
 have d2:decide (0<z)=true:=DT
 go_enter func118,ntmps118
 go_wp2_with (refine af rfl hS ?_)
 exact hR _ hS
section
variable {z m bz:Nat}{p:Option Addr}{M:Mk}
theorem uO (hO:St w0 bs w H)(hT:MA z m bz p M E)[hc:Cut H E H1](h0:M.k.1=0)(hR:∀ E' w',MA z m bz p { M with k:=(1,M.k.2.1,M.k.2.2.1,seen0) } E'->St w0 bs w' (E'++H1)->ab R (.int .i64 0) w'):Calls prog 338 #[.pointer p] w R:=by
 have hS:=hO.fr E H1
 clear hO
 obtain⟨b,pc,pp,ps,S,v,xs,Ec,Ep,Es,Ev,rfl,hC,hK,hSt,hok,hV,hxl,hxw,hfl,hm,rfl⟩:=id hT
 simp only[aP] at hS
 have hone:=hV.one
 have hz1:1≤z:=hK.1
 have hz256:z≤256:=hK.2.1
 go_enter func338,ntmps338
 go_wp2_with (first|go_at_call 118;refine cI hS hz1 ?_;clear hS;intro w hS;unfold ab|go_at_call 383;refine vx hS hC h0 ?_;clear hS;intro Ec2 w hC2 hS;unfold ab|refine af rfl hS ?_)
 exact hR _ _ ⟨b,pc,pp,ps,S,v,xs,_,Ep,Es,Ev,rfl,hC2,hK,hSt,hok,hV,hxl,hxw,hfl,hm,rfl⟩ (by simp only[aP];exact hS.p)
theorem ep (hO:St w0 bs w H)(hT:MA z m bz p M E)[hc:Cut H E H1](hR:∀ w',St w0 bs w' (E++H1)->ab R (.int .i64 M.k.1) w'):Calls prog 231 #[.pointer p] w R:=by
 have hS:=hO.fr E H1
 clear hO
 obtain⟨b,pc,pp,ps,S,v,xs,Ec,Ep,Es,Ev,rfl,hC,hK,hSt,hok,hV,hxl,hxw,hfl,hm,rfl⟩:=id hT
 simp only[aP] at hS
 have hone:=hV.one
 have hz1:1≤z:=hK.1
 have hz256:z≤256:=hK.2.1
 go_enter func231,ntmps231
 go_wp2_with (first|go_at_call 118;refine cI hS hz1 ?_;clear hS;intro w hS;unfold ab|go_at_call 119;refine db hS hC ?_;clear hS;intro w _ hS;unfold ab|refine af rfl hS ?_)
 exact hR _ (by simp only[aP];exact hS.p)
theorem rW (hO:St w0 bs w H)(hT:MA z m bz p M E)[hc:Cut H E H1](hR:∀ w',St w0 bs w' (E++H1)->ab R (.int .i64 M.k.2.2.1) w'):Calls prog 286 #[.pointer p] w R:=by
 have hS:=hO.fr E H1
 clear hO
 obtain⟨b,pc,pp,ps,S,v,xs,Ec,Ep,Es,Ev,rfl,hC,hK,hSt,hok,hV,hxl,hxw,hfl,hm,rfl⟩:=id hT
 simp only[aP] at hS
 have hone:=hV.one
 have hz1:1≤z:=hK.1
 have hz256:z≤256:=hK.2.1
 go_enter func286,ntmps286
 go_wp2_with (first|go_at_call 118;refine cI hS hz1 ?_;clear hS;intro w hS;unfold ab|go_at_call 350;refine su hS hC ?_;clear hS;intro w _ hS;unfold ab|refine af rfl hS ?_)
 exact hR _ (by simp only[aP];exact hS.p)
theorem nm (hO:St w0 bs w H)(hT:MA z m bz p M E)[hc:Cut H E H1](x:Bool)(hx:decide (4≤M.k.1)=x)(hR:∀ w',St w0 bs w' (E++H1)->ab R (.bool x) w'):Calls prog 393 #[.pointer p] w R:=by
 have hS:=hO.fr E H1
 clear hO
 have d:decide (4≤(M.k.1:Int))=x:=by rw[← hx];congr 1;apply propext;omega
 go_enter func393,ntmps393
 go_wp2_with (go_at_call 231;refine ep hS hT ?_;clear hS;intro w hS;unfold ab)
 exact hR _ hS
theorem rV (hO:St w0 bs w H)(hT:MA z m bz p M E)[hc:Cut H E H1](i:Nat)(hi:i<z){x:Bool}(hx:decide (M.L.getD i 0≠0)=x)(hR:∀ w',St w0 bs w' (E++H1)->ab R (.tuple #[.bool x,.int .i64 0]) w'):Calls prog 390 #[.pointer p,.int .i64 i] w R:=by
 have hS:=hO.fr E H1
 clear hO
 obtain⟨b,pc,pp,ps,S,v,xs,Ec,Ep,Es,Ev,rfl,hC,hK,hSt,hok,hV,hxl,hxw,hfl,hm,rfl⟩:=id hT
 simp only[aP] at hS
 have hone:=hV.one
 have hz1:1≤z:=hK.1
 have hz256:z≤256:=hK.2.1
 have h1:uw (some (some (z,M.L))) i=M.L.getD i 0:=by simp only[uw];rw[if_pos (by omega),Int.toNat_natCast]
 have h2:o6 (some (some (z,M.L))) i=0:=by simp only[o6];rw[if_pos (by omega)]
 obtain⟨c,hcc⟩:∃ c,M.L.getD i 0=c:=⟨_,rfl⟩
 rw[hcc] at h1 hx
 have d:(c != 0)=x:=by rw[← hx];by_cases h:c=0 <;> simp[h]
 have d2:(!decide (c=0))=x:=by rw[← hx];by_cases h:c=0 <;> simp[h]
 have d3:decide (c=0)=!x:=by rw[← hx];by_cases h:c=0 <;> simp[h]
 have h1':=HD h1
 have h2':=HD h2
 clear hcc h1 h2 hx
 go_enter func390,ntmps390
 go_wp2_with (first|(first|go_at_call 118;refine cI hS hz1 ?_|go_at_call 423;refine f7 hS hK i c 0 h1'.out h2'.out ?_);clear hS;intro w hS;unfold ab|refine af rfl hS ?_)
 exact hR _ (by simp only[aP];exact hS.p)
theorem pe (hO:St w0 bs w H)(hT:MA z m bz p M E)[hc:Cut H E H1](s:Int)(hs : ¬ (0≤s∧s<z))(hR:∀ w',St w0 bs w' (E++H1)->ab R (.tuple #[.bool false,.int .i64 3]) w'):Calls prog 390 #[.pointer p,.int .i64 s] w R:=by
 have hS:=hO.fr E H1
 clear hO
 obtain⟨b,pc,pp,ps,S,v,xs,Ec,Ep,Es,Ev,rfl,hC,hK,hSt,hok,hV,hxl,hxw,hfl,hm,rfl⟩:=id hT
 simp only[aP] at hS
 have hone:=hV.one
 have hz1:1≤z:=hK.1
 have hz256:z≤256:=hK.2.1
 have h1:uw (some (some (z,M.L))) s=0:=by simp only[uw];rw[if_neg hs]
 have h2:o6 (some (some (z,M.L))) s=3:=by simp only[o6];rw[if_neg hs]
 have h1':=HD h1
 have h2':=HD h2
 clear h1 h2 hs
 go_enter func390,ntmps390
 go_wp2_with (first|(first|go_at_call 118;refine cI hS hz1 ?_|go_at_call 423;refine f7 hS hK s 0 3 h1'.out h2'.out ?_);clear hS;intro w hS;unfold ab|refine af rfl hS ?_)
 exact hR _ (by simp only[aP];exact hS.p)
theorem uN (hO:St w0 bs w H)(hT:MA z m bz p M E)[hc:Cut H E H1](i:Nat)(hi:i<z)(hR:∀ E' w',MA z m bz p { M with L:=M.L.set i 0 } E'->St w0 bs w' (E'++H1)->ab R (.int .i64 0) w'):Calls prog 404 #[.pointer p,.int .i64 i] w R:=by
 have hS:=hO.fr E H1
 clear hO
 obtain⟨b,pc,pp,ps,S,v,xs,Ec,Ep,Es,Ev,rfl,hC,hK,hSt,hok,hV,hxl,hxw,hfl,hm,rfl⟩:=id hT
 simp only[aP] at hS
 have hone:=hV.one
 have hz1:1≤z:=hK.1
 have hz256:z≤256:=hK.2.1
 go_enter func404,ntmps404
 go_wp2_with (first|go_at_call 118;refine cI hS hz1 ?_;clear hS;intro w hS;unfold ab|go_at_call 428;refine rO hS hK i hi ?_;clear hS;intro Ep2 w hK2 hS;unfold ab|refine af rfl hS ?_)
 exact hR _ _ ⟨b,pc,pp,ps,S,v,xs,Ec,_,Es,Ev,rfl,hC,hK2,hSt,hok,hV,hxl,hxw,hfl,hm,rfl⟩ (by simp only[aP];exact hS.p)
theorem qC (hO:St w0 bs w H)(hT:MA z m bz p M E)[hc:Cut H E H1](i:Nat)(hi:i<z)(g:Int)(hg:1≤g)(hR:∀ L' E' w',Up M.L L'->MA z m bz p { M with L:=L' } E'->St w0 bs w' (E'++H1)->ab R (.int .i64 0) w'):Calls prog 74 #[.pointer p,.agg #[.int .i64 i,.int .u32 g]] w R:=by
 have hS:=hO.fr E H1
 clear hO
 obtain⟨b,pc,pp,ps,S,v,xs,Ec,Ep,Es,Ev,rfl,hC,hK,hSt,hok,hV,hxl,hxw,hfl,hm,rfl⟩:=id hT
 simp only[aP] at hS
 have hone:=hV.one
 have hz1:1≤z:=hK.1
 have hz256:z≤256:=hK.2.1
 have d1:decide ((i:Int)<0)=false:=DF
 have d2:decide ((z:Int)≤(i:Int))=false:=DF
 have d2' : decide (z≤i)=false:=DF
 have d3:(g == 0)=false:=beq_eq_false_iff_ne.2 (by omega)
 have d3' : decide (g=0)=false:=DF
 by_cases h2:2≤M.k.1
 ·have d4:decide ((2:Int)≤(M.k.1:Int))=true:=DT
  have d4' : decide (2≤M.k.1)=true:=decide_eq_true h2
  go_enter func74,ntmps74
  go_wp2_with (first|refine am 176 rfl hS ?_;clear hS;intro br w _ hS|go_at_call 118;refine cI hS hz1 ?_;clear hS;intro w hS;unfold ab|refine av hS (fun hne=>?_);(repeat (go_big_quiet_want;first|((refine aE bk (fun w hS=>ac _ _ rfl hS) ?_);go_big_quiet_on)|(refine aH (fun w _=>ah rfl) ?_;go_big_quiet_on)|(go_big_quiet_op;go_big_quiet_on)));refine wpQuiet_nil ?_;clear hS hne;intro w hS|refine aR 6 hS ?_;clear hS;intro w hS;simp only[List.take_succ_cons,List.take_zero,List.drop_succ_cons,List.drop_zero];(repeat (first|refine ax rfl (ac _ _ rfl hS) ?_|still_step));refine wpStill_nil ?_|go_at_call 119;refine db hS hC ?_;clear hS;intro w _ hS;unfold ab|go_at_call 120;refine xk hS hK i hi ?_;clear hS;intro L2 Ep2 w e2 hU hK2 hS;unfold ab|refine af rfl hS ?_)
  exact hR L2 _ _ hU ⟨b,pc,pp,ps,S,v,xs,Ec,_,Es,Ev,rfl,hC,hK2,hSt,hok,hV,hxl,hxw,hfl,hm,rfl⟩ (by simp only[aP];exact hS.p)
 ·have d4:decide ((2:Int)≤(M.k.1:Int))=false:=DF
  have d4' : decide (2≤M.k.1)=false:=decide_eq_false h2
  go_enter func74,ntmps74
  go_wp2_with (first|refine am 176 rfl hS ?_;clear hS;intro br w _ hS|go_at_call 118;refine cI hS hz1 ?_;clear hS;intro w hS;unfold ab|refine av hS (fun hne=>?_);(repeat (go_big_quiet_want;first|((refine aE bk (fun w hS=>ac _ _ rfl hS) ?_);go_big_quiet_on)|(refine aH (fun w _=>ah rfl) ?_;go_big_quiet_on)|(go_big_quiet_op;go_big_quiet_on)));refine wpQuiet_nil ?_;clear hS hne;intro w hS|go_at_call 119;refine db hS hC ?_;clear hS;intro w _ hS;unfold ab|refine af rfl hS ?_)
  exact hR M.L _ _ (Up.refl _) hT (by simp only[aP];exact hS.p)
end
open Go.RowKit Go.Mm
theorem ku {xs:List Bx}{i:Nat}{x:Bx}(h:xs[i]?=some x):xs.map ce=(xs.take i).map ce++(ce x::(xs.drop (i+1)).map ce):=by
 obtain⟨hi,hx⟩:=List.getElem?_eq_some_iff.1 h
 have:xs=xs.take i++(x::xs.drop (i+1)):=by rw[← hx,← List.drop_eq_getElem_cons hi,List.take_append_drop]
 rw[← List.map_cons,← List.map_append,← this]
theorem l6 {xs:List Bx}{i:Nat}{x x' : Bx}(h:xs[i]?=some x):(xs.set i x').map ce=(xs.take i).map ce++(ce x'::(xs.drop (i+1)).map ce):=by
 obtain⟨hi,hx⟩:=List.getElem?_eq_some_iff.1 h
 rw[List.set_eq_take_append_cons_drop,if_pos hi,List.map_append,List.map_cons]
theorem xu {xs:List Bx}{i:Nat}{x x' : Bx}(h:xs[i]?=some x)(hb:x'.1=x.1):uh (xs.set i x')=uh xs:=by
 unfold uh
 rw[List.map_set,hb]
 apply List.ext_getElem?
 intro j
 rw[List.getElem?_set]
 split
 ·subst_vars
  obtain⟨hi,hx⟩:=List.getElem?_eq_some_iff.1 h
  simp[hi,hx]
 ·rfl
theorem PV.set {v:Value}{xs:List Bx}{E:List Ent}(hV:PV v xs E){i:Nat}{x x' : Bx}(h:xs[i]?=some x)(hb:x'.1=x.1):PV v (xs.set i x') E:=by
 unfold PV
 rw[xu h hb,List.length_set]
 exact hV
section
variable {z m bz:Nat}{p:Option Addr}{M:Mk}
theorem AU (hO:St w0 bs w H)(hT:MA z m bz p M E)[hc:Cut H E H1](h4:M.k.1=4)(hcy:0≤M.k.2.2.1∧M.k.2.2.1<1000000)(hR:∀ E' w',MA z m bz p { M with k:=jk M.k } E'->St w0 bs w' (E'++H1)->ab R (.int .i64 0) w'):Calls prog 361 #[.pointer p] w R:=by
 have hend:decide (4≤M.k.1)=true:=DT
 have hS:=hO.fr E H1
 clear hO
 obtain⟨b,pc,pp,ps,S,v,xs,Ec,Ep,Es,Ev,rfl,hC,hK,hSt,hok,hV,hxl,hxw,hfl,hm,rfl⟩:=id hT
 simp only[aP] at hS
 have hone:=hV.one
 have hz1:1≤z:=hK.1
 have hz256:z≤256:=hK.2.1
 have hE0:=hT
 have hg1:(jk M.k).1=5:=by simp[jk,h4]
 have hS:St w0 bs w ((⟨b,cW z m pc pp ps v,211,true⟩::(Ec++(Ep++(Es++(Ev++xs.map ce)))))++H1):=(by simp only[aP];exact hS.p)
 obtain⟨k',hk'⟩:∃ k',jk M.k=k':=⟨_,rfl⟩
 rw[hk'] at hg1 hR
 have hg1':=HD hg1
 have hk2:=HD hk'
 have hd:((k'.1:Int) != 0)=true:=by rw[hg1];rfl
 have hd2:decide ((k'.1:Int)=0)=false:=by rw[hg1];rfl
 have hd3:decide (k'.1=0)=false:=by rw[hg1];rfl
 clear hg1 hk'
 go_enter func361,ntmps361
 go_wp2_with (first|go_at_call 118;refine cI hS hz1 ?_;clear hS;intro w hS;unfold ab|go_at_call 393;refine nm hS hE0 true hend ?_;clear hS;intro w hS;simp only[aP] at hS;unfold ab|go_at_call 394;refine nU hS hC (.inr (by omega)) hcy k' hk2.out ?_;clear hS;intro Ec2 w hC2 hS;unfold ab|go_at_call 119;refine db hS hC2 ?_;clear hS;intro w _ hS;unfold ab|refine af rfl hS ?_)
 exact hR _ _ ⟨b,pc,pp,ps,S,v,xs,_,Ep,Es,Ev,rfl,hC2,hK,hSt,hok,hV,hxl,hxw,hfl,by show k'.2.1=m;rw[← hk2.out];exact hm,rfl⟩ (by simp only[aP];exact hS.p)
theorem AT (hO:St w0 bs w H)(hT:MA z m bz p M E)[hc:Cut H E H1](h5:M.k.1=5)(hcy:0≤M.k.2.2.1∧M.k.2.2.1<1000000)(hR:∀ E' w',MA z m bz p ⟨jk M.k,Col.zerosL,List.replicate m []⟩ E'->St w0 bs w' (E'++H1)->ab R (.int .i64 0) w'):Calls prog 361 #[.pointer p] w R:=by
 have hend:decide (4≤M.k.1)=true:=DT
 have hS:=hO.fr E H1
 clear hO
 obtain⟨b,pc,pp,ps,S,v,xs,Ec,Ep,Es,Ev,rfl,hC,hK,hSt,hok,hV,hxl,hxw,hfl,hm,rfl⟩:=id hT
 simp only[aP] at hS
 have hone:=hV.one
 have hz1:1≤z:=hK.1
 have hz256:z≤256:=hK.2.1
 have hE0:=hT
 have hg1:(jk M.k).1=0:=by simp[jk,h5]
 have hm4:=hC.m14
 have hS:St w0 bs w ((⟨b,cW z m pc pp ps v,211,true⟩::(Ec++(Ep++(Es++(Ev++xs.map ce)))))++H1):=(by simp only[aP];exact hS.p)
 obtain⟨k',hk'⟩:∃ k',jk M.k=k':=⟨_,rfl⟩
 rw[hk'] at hg1 hR
 have hk2:=HD hk'
 have hd:((k'.1:Int) != 0)=false:=by rw[hg1];rfl
 have hd2:decide ((k'.1:Int)=0)=true:=by rw[hg1];rfl
 have hd3:decide (k'.1=0)=true:=by rw[hg1];rfl
 have hln:=hV.len hxl
 have hg1':=HD hg1
 clear hg1 hk'
 go_enter func361,ntmps361
 go_wp2_with (first|go_at_call 118;refine cI hS hz1 ?_;clear hS;intro w hS;unfold ab|go_at_call 393;refine nm hS hE0 true hend ?_;clear hS;intro w hS;simp only[aP] at hS;unfold ab|go_at_call 394;refine nU hS hC (.inr (by omega)) hcy k' hk2.out ?_;clear hS;intro Ec2 w hC2 hS;unfold ab|go_at_call 119;refine db hS hC2 ?_;rw[hg1'.out];clear hS;intro w _ hS;unfold ab|go_at_call 395;refine ua hS hK ?_;clear hS;intro Ep2 w hK2 hS;unfold ab|go_at_call 396;refine tf hS hSt hok ?_;clear hS;intro S2 Es2 w hok2 hSt2 hS;unfold ab|refine wV (.call { callee:=.builtin .len,args:=#[_],argTypes:=#[_] }) rfl (aA rfl) ?_|refine af rfl hS ?_)
 have hS0:St w0 bs w (⟨b,cW z m pc pp ps v,211,true⟩::(Ec2++(Ep2++(Es2++(Ev++(xs.map ce++H1)))))):=hS.p
 clear hS
 go_loopw [45] (fun u wr=>∃ (i:Nat) (ys:List Bx),i≤m∧u=.int .i64 i∧ys.length=m∧PV v ys Ev∧(∀ j x,ys[j]?=some x->BxW x bz (if j<i then [] else M.bf.getD j []))∧St w0 bs wr (⟨b,cW z m pc pp ps v,211,true⟩::(Ec2++(Ep2++(Es2++(Ev++(ys.map ce++H1))))))) (fun u _=>m - (intOf u).toNat)
 case atStart=>exact⟨0,xs,Nat.zero_le _,rfl,hxl,hV,fun j x hx=>by simpa using hxw j x hx,hS0⟩
 case round=>
  clear hS0
  obtain⟨i,ys,hi,rfl,hyl,hVy,hyw,hS⟩:=hrel
  have hyw':=HD hyw
  by_cases hlt:i<m
  ·obtain⟨x,hx⟩:∃ x,ys[i]?=some x:=⟨_,List.getElem?_eq_getElem (by omega)⟩
   obtain⟨g,cs,hix,hhas,hcell⟩:=hVy.at hx
   have hxW:=hyw i x hx
   rw[if_neg (by omega)] at hxW
   rw[ku hx] at hS
   have hS:St w0 bs wr (ce x::(⟨b,cW z m pc pp ps v,211,true⟩::(Ec2++(Ep2++(Es2++(Ev++((ys.take i).map ce++((ys.drop (i+1)).map ce++H1)))))))):=by
    simp only[List.append_assoc,List.cons_append] at hS
    exact hS.p
   have dk:decide ((i:Int)<(m:Int))=true:=DT
   have dk' : decide (i<m)=true:=decide_eq_true hlt
   have hx':=HD hx
   clear hx hyw
   go_wp2_with (first|(go_at_call 397;refine nZ hS hxW ?_;clear hS;intro x1 v1 Ex w hb1 hW1 hI hS;have hone1:=hI.one;unfold ab)|go_at_call 398;rw[← hb1];refine sA hS hW1 ?_;clear hS;intro x2 w hb2 hW2 hS;unfold ab|refine aM rfl ?_|refine af rfl hS ?_)
   go_roundw
   case rel=>
    refine⟨i+1,ys.set i x2,by omega,by go_num,by rw[List.length_set];exact hyl,hVy.set hx'.out (hb2.trans hb1),fun j y hy=>?_,?_⟩
    ·rw[List.getElem?_set] at hy
     split at hy
     ·rename_i hij
      subst hij
      split at hy
      ·obtain rfl:=Option.some.inj hy
       rw[if_pos (by omega)];exact hW2
      ·cases hy
     ·rename_i hij
      have:=hyw'.out j y hy
      by_cases hji:j<i
      ·rw[if_pos (by omega)];rwa [if_pos hji] at this
      ·rw[if_neg (by omega)];rwa [if_neg hji] at this
    ·rw[l6 hx'.out]
     simp only[List.append_assoc,List.cons_append]
     exact hS.p
   case measure=>simp[intOf];omega
  ·obtain rfl:i=m:=by omega
   have dk:decide ((i:Int)<(i:Int))=false:=DF
   have dk' : decide (i<i)=false:=decide_eq_false hlt
   clear hyw
   go_wp2_with (go_skip)
   exact hR _ _ ⟨b,pc,pp,ps,S2,v,ys,Ec2,Ep2,Es2,Ev,rfl,hC2,hK2,hSt2,hok2,hVy,hyl,fun j y hy=>by
    have:=hyw'.out j y hy
    have hj:j<i:=by rw[← hyl];exact(List.getElem?_eq_some_iff.1 hy).1
    rw[if_pos hj] at this
    simpa [List.getD_eq_getElem?_getD,List.getElem?_replicate,hj] using this,by simp,by show k'.2.1=i;rw[← hk2.out];exact hm,rfl⟩ (by simp only[aP];exact hS.p)
theorem PV.nil:PV (.slice none 0 0) [] []:=fu
theorem PV.snoc {v:Value}{xs:List Bx}{x:Bx}(h:Sl 218 1 v (xs.length+1) (uh xs++#[Value.pointer (some ⟨x.1,0,none⟩)].toList) E):PV v (xs++[x]) E:=by
 unfold PV
 rw[List.length_append,show uh (xs++[x])=uh xs++#[Value.pointer (some ⟨x.1,0,none⟩)].toList by simp[uh]]
 exact h
instance FX:SliceT prog 209 218:=⟨by kernel_rfl⟩
instance G4:ElemT prog 218 1 8 #[.pointer none]:=⟨by kernel_rfl⟩
theorem AS (hO:St w0 bs w H)(sz:Nat)(hz:1≤z∧z≤256)(hm:1≤m∧m≤4)(hs:1≤sz∧sz≤64)(hb:1≤bz∧bz≤64)
  (hR:∀ p E w',MA z m bz p ⟨nj m,Col.zerosL,List.replicate m []⟩ E->St w0 bs w' (E++H)->ab R (.tuple #[.pointer p,.int .i64 0]) w'):Calls prog 43 #[.int .i64 z,.int .i64 m,.int .i64 sz,.int .i64 bz] w R:=by
 have hS:=hO
 clear hO
 have h1:ER z=some (some (z,Col.zerosL)):=by unfold ER;rw[if_pos (by omega),Int.toNat_natCast]
 have h2:Da sz=some (some (sz,false,[])):=by unfold Da;rw[if_pos (by omega),Int.toNat_natCast]
 have h3:(if 1≤(z:Int)∧(z:Int)≤256 then (0:Int) else 2)=0:=if_pos (by omega)
 have h4:(if 1≤(sz:Int)∧(sz:Int)≤64 then (0:Int) else 2)=0:=if_pos (by omega)
 have h1':=HD h1
 have h2':=HD h2
 have h3':=HD h3
 have h4':=HD h4
 clear h1 h2 h3 h4
 go_enter func43,ntmps43
 go_wp2_with (first|refine am 211 rfl hS ?_;clear hS;intro b w _ hS|go_at_call 91;refine Ap hS z 0 h1'.out h3'.out ?_;clear hS;intro pp Ep w hK hS;unfold ab|go_at_call 92;refine BD hS m hm ?_;clear hS;intro pc Ec w hC hS;unfold ab|go_at_call 93;refine zQ hS sz 0 h2'.out h4'.out ?_;clear hS;intro ps Es w hSt hS;unfold ab|refine aL rfl ?_|refine bP rfl hS ?_;clear hS;intro w hS)
 have hS0:St w0 bs w (⟨b,cW z m pc pp ps (.slice none 0 0),211,true⟩::(Ec++(Ep++(Es++(([] : List Ent)++(([] : List Bx).map ce++H)))))):=by
  simp only[List.map_nil,List.nil_append];exact hS.p
 clear hS
 go_loopw [52] (fun u wr=>∃ (i:Nat) (ys:List Bx) (v:Value) (Ev:List Ent),i≤m∧u=.int .i64 i∧ys.length=i∧PV v ys Ev∧(∀ x∈ys,BxW x bz [])∧St w0 bs wr (⟨b,cW z m pc pp ps v,211,true⟩::(Ec++(Ep++(Es++(Ev++(ys.map ce++H))))))) (fun u _=>m - (intOf u).toNat)
 case atStart=>exact⟨0,[],_,[],Nat.zero_le _,rfl,rfl,PV.nil,by simp,hS0⟩
 case round=>
  clear hS0
  obtain⟨i,ys,v,Ev,hi,rfl,hyl,hVy,hyw,hS⟩:=hrel
  have hsl:Sl 218 1 v ys.length (uh ys) Ev:=hVy
  have hone:=hsl.one
  have hpl:ys.length≤4:=by omega
  have hyl':=HD hyl
  clear hyl
  by_cases hlt:i<m
  ·have dk:decide ((i:Int)<(m:Int))=true:=DT
   have dk' : decide (i<m)=true:=decide_eq_true hlt
   go_wp2_with (first|go_at_call 94;refine BH hS bz hb ?_;clear hS;intro x w hW hS;unfold ab|refine f5 _ _ rfl hS (by decide) rfl (by decide) (by decide) ?_;clear hS;intro bN w hbN hS|(refine aF (.call { callee:=.builtin .append,args:=#[_,_],argTypes:=#[_,_] }) rfl ?_;refine wS (eW _ _ _ _ rfl rfl hS (by rfl) hsl (by rfl) (by simp only[maxLen];omega) (by omega) ?_);clear hS;intro v' E' w hsl' hne hS;have hone:=hsl'.one)|refine af rfl hS ?_|refine bP rfl hS ?_;clear hS;intro w hS)
   go_roundw
   case rel=>
    refine⟨i+1,ys++[x],v',E',by omega,by go_num,by rw[List.length_append,hyl'.out];rfl,PV.snoc hsl',fun y hy=>?_,?_⟩
    ·rcases List.mem_append.1 hy with hy|hy
     ·exact hyw y hy
     ·obtain rfl:=List.mem_singleton.1 hy;exact hW
    ·rw[List.map_append]
     simp only[List.map_cons,List.map_nil,List.append_assoc,List.cons_append,List.nil_append]
     exact hS.p
   case measure=>simp[intOf];omega
  ·obtain rfl:i=m:=by omega
   have dk:decide ((i:Int)<(i:Int))=false:=DF
   have dk' : decide (i<i)=false:=decide_eq_false hlt
   go_wp2_with (go_skip)
   exact hR _ _ _ ⟨b,pc,pp,ps,_,v,ys,Ec,Ep,Es,Ev,rfl,hC,hK,hSt,rfl,hVy,hyl'.out,fun j y hy=>by
    have hj:j<i:=by rw[← hyl'.out];exact(List.getElem?_eq_some_iff.1 hy).1
    have:=hyw y (List.mem_of_getElem? hy)
    simpa [List.getD_eq_getElem?_getD,List.getElem?_replicate,hj] using this,by simp,rfl,rfl⟩ (by simp only[aP];exact hS.p)
end
open Go.RowKit Go.Mm
abbrev Rg:=Int×Int
structure Nt (M M' : Mk)(i:Nat)(X:List Int):Prop where
 k:M'.k=M.k
 up:Up M.L M'.L
 sub:∀ j,∀ s∈M.bf.getD j [],s∈M'.bf.getD j []
 got:∀ s∈X,M'.L.getD s.toNat 0≠0∨s∈M'.bf.getD i []
theorem Nt.nil (M:Mk)(i:Nat):Nt M M i []:=⟨rfl,Up.refl _,fun _ _ h=>h,by simp⟩
theorem Nt.step {M M' M2:Mk}{i:Nat}{X:List Int}{s:Int}(h:Nt M M' i X)(h2:Nt M' M2 i [s]):Nt M M2 i (X++[s]):=
 ⟨h2.k.trans h.k,h.up.trans h2.up,fun j s hs=>h2.sub j s (h.sub j s hs),fun t ht=>by
  rcases List.mem_append.1 ht with ht|ht
  ·rcases h.got t ht with h3|h3
   ·exact .inl (h2.up _ h3)
   ·exact .inr (h2.sub _ _ h3)
  ·exact h2.got t ht⟩
def mK (r:List Rg):List Int:=(r.filter fun x=>!cd x.1 x.2 0 0).map (·.1)
theorem zX {r:List Rg}{x:Rg}(h:cd x.1 x.2 0 0=true):mK (r++[x])=mK r:=by simp [mK,h]
theorem p5 {r:List Rg}{x:Rg}(h:cd x.1 x.2 0 0=false):mK (r++[x])=mK r++[x.1]:=by simp [mK,h]
instance Jh:AggT prog 343 4:=⟨by kernel_rfl,by kernel_rfl⟩
instance Nh:ZeroT prog 343 #[.int .i64 0,.int .u32 0,.int .i64 0,.int .u32 0]:=⟨by kernel_rfl⟩
instance Jg {a b c d:Int} : BuildT prog 343 [(0,.agg #[.int .i64 a,.int .u32 b]),(1,.agg #[.int .i64 c,.int .u32 d])] #[.int .i64 a,.int .u32 b,.int .i64 c,.int .u32 d]:=⟨fun w=>by kernel_rfl⟩
section
variable {z m bz:Nat}{p:Option Addr}{M:Mk}
theorem uJ (hO:St w0 bs w H)(hT:MA z m bz p M E)[hc:Cut H E H1](i:Nat)(hi:i<m)(u n:Rg)(hu:0≤u.1∧u.1<z)(hn:0≤n.1∧n.1<z)
  (hR:∀ M' E' w',Nt M M' i (if oz M.k i then mK [u,n] else [])->MA z m bz p M' E'->St w0 bs w' (E'++H1)->ab R (.int .i64 0) w'):Calls prog 127 #[.pointer p,.int .i64 i,.agg #[.int .i64 u.1,.int .u32 u.2],.agg #[.int .i64 n.1,.int .u32 n.2]] w R:=by
 have hT0:=hT
 have hS:=hO.fr E H1
 clear hO
 obtain⟨b,pc,pp,ps,S,v,xs,Ec,Ep,Es,Ev,rfl,hC,hK,hSt,hok,hV,hxl,hxw,hfl,hm,rfl⟩:=id hT
 simp only[aP] at hS
 have hone:=hV.one
 have hz1:1≤z:=hK.1
 have hz256:z≤256:=hK.2.1
 obtain⟨s0,g0⟩:=u
 obtain⟨s1,g1⟩:=n
 simp only at hu hn hR
 have key:∀ k:Nat,k<2->∃ r:Rg,[((s0,g0):Rg),(s1,g1)].take (k+1)=[((s0,g0):Rg),(s1,g1)].take k++[r]∧0≤r.1∧r.1<z ∧
   ∀ w,(Instr.index 343 (.agg #[.int .i64 s0,.int .u32 g0,.int .i64 s1,.int .u32 g1]) (.int .i64 k)).run prog w=.ok (.agg #[.int .i64 r.1,.int .u32 r.2]) w:=by
  intro k hk
  have:k=0∨k=1:=by omega
  rcases this with rfl|rfl
  ·exact⟨(s0,g0),rfl,hu.1,hu.2,fun w=>by kernel_rfl⟩
  ·exact⟨(s1,g1),rfl,hn.1,hn.2,fun w=>by kernel_rfl⟩
 have key':=HD key
 have di1:decide ((i:Int)<0)=false:=DF
 have di2:decide ((m:Int)≤(i:Int))=false:=DF
 have di3:decide (m≤i)=false:=DF
 obtain⟨x,hx⟩:∃ x,oz M.k i=x:=⟨_,rfl⟩
 rw[hx] at hR
 have hx':=HD hx
 have hT0':=HD hT0
 clear key hu hn hx hT0
 go_enter func127,ntmps127
 go_wp2_with (first|refine am 176 rfl hS ?_;clear hS;intro br w _ hS|go_at_call 118;refine cI hS hz1 ?_;clear hS;intro w hS;unfold ab|refine aq 343 rfl hS ?_;clear hS;intro b9 w _ hS|refine aL rfl ?_|(first|refine af rfl hS ?_|refine au rfl hS ?_)|refine ak rfl hS ?_;clear hS;intro w hS)
 have hS0:St w0 bs w (⟨b9,#[.int .i64 s0,.int .u32 g0,.int .i64 s1,.int .u32 g1],343,true⟩::⟨b,cW z m pc pp ps v,211,true⟩::(Ec++(Ep++(Es++(Ev++(xs.map ce++H1)))))):=hS.p
 clear hS
 go_loopw [35] (fun u wr=>∃ k:Nat,k≤2∧u=.int .i64 k∧St w0 bs wr (⟨b9,#[.int .i64 s0,.int .u32 g0,.int .i64 s1,.int .u32 g1],343,true⟩::⟨b,cW z m pc pp ps v,211,true⟩::(Ec++(Ep++(Es++(Ev++(xs.map ce++H1))))))) (fun u _=>2 - (intOf u).toNat)
 case atStart=>exact⟨0,Nat.zero_le _,rfl,hS0⟩
 case round=>
  clear hS0
  obtain⟨k,hk,rfl,hS⟩:=hrel
  by_cases hlt:k<2
  ·obtain⟨⟨s,g⟩,_,h0,h1,hix⟩:=key'.out k hlt
   simp only at h0 h1 hix
   have d1:decide (s<0)=false:=DF
   have d2:decide ((z:Int)≤s)=false:=DF
   have dk:decide ((k:Int)<2)=true:=DT
   have dk' : decide (k<2)=true:=decide_eq_true hlt
   cases hq:cd s g 0 0 with
   | true=>
    have q:=gp hq
    clear hq
    go_wp2_with (first|refine aq 176 rfl hS ?_;clear hS;intro br2 w _ hS|refine av hS (fun hne=>?_);(repeat (first|go_big_quiet_skip|(go_big_quiet_want;first|((refine aE bk (fun w hS=>ai _ _ rfl hS) ?_);go_big_quiet_on)|(refine fA (.binOp .neq _ _ _ _) rfl ?_;refine aH (fun w _=>bK rfl) ?_;go_big_quiet_on)|(go_big_quiet_op;go_big_quiet_on))));refine wpQuiet_nil ?_;clear hS hne;intro w hS|refine ak rfl hS ?_;clear hS;intro w hS)
    go_roundw
    case rel=>exact⟨k+1,by omega,by go_num,hS.p⟩
    case measure=>simp[intOf];omega
   | false=>
    have q:=gp hq
    clear hq
    go_wp2_with (first|refine aq 176 rfl hS ?_;clear hS;intro br2 w _ hS|refine av hS (fun hne=>?_);(repeat (go_big_quiet_want;first|((first|refine aE bk (fun w hS=>ac _ _ rfl hS) ?_|refine aE bk (fun w hS=>ai _ _ rfl hS) ?_);go_big_quiet_on)|(refine aH (fun w _=>ah rfl) ?_;go_big_quiet_on)|(refine fA (.binOp .neq _ _ _ _) rfl ?_;refine aH (fun w _=>bK rfl) ?_;go_big_quiet_on)|(go_big_quiet_op;go_big_quiet_on)));refine wpQuiet_nil ?_;clear hS hne;intro w hS|refine ak rfl hS ?_;clear hS;intro w hS)
    go_roundw
    case rel=>exact⟨k+1,by omega,by go_num,hS.p⟩
    case measure=>simp[intOf];omega
  ·obtain rfl:k=2:=by omega
   cases x with
   | false=>
    go_wp2_with (first|go_at_call 190;refine kq hS hC i false hx'.out ?_;clear hS;intro w _ hS;unfold ab|refine af rfl hS ?_)
    exact hR M _ _ (Nt.nil M i) hT0'.out (by simp only[aP];exact hS.p)
   | true=>
    go_wp2_with (first|go_at_call 190;refine kq hS hC i true hx'.out ?_;clear hS;intro w _ hS;unfold ab|(first|refine af rfl hS ?_|refine au rfl hS ?_))
    have hS0:St w0 bs w ((⟨b,cW z m pc pp ps v,211,true⟩::(Ec++(Ep++(Es++(Ev++xs.map ce)))))++(⟨b9,#[.int .i64 s0,.int .u32 g0,.int .i64 s1,.int .u32 g1],343,true⟩::H1)):=(by simp only[aP];exact hS.p)
    clear hS
    obtain⟨wo,rfl⟩:∃ wo:World,wo=w:=⟨_,rfl⟩
    go_loopw [64] (fun u wr=>∃ (k:Nat) (M1:Mk) (E1:List Ent),k≤2∧u=.int .i64 k∧Nt M M1 i (mK ([((s0,g0):Rg),(s1,g1)].take k))∧MA z m bz (some ⟨b,0,none⟩) M1 E1∧St w0 bs wr (E1++(⟨b9,#[.int .i64 s0,.int .u32 g0,.int .i64 s1,.int .u32 g1],343,true⟩::H1))) (fun u _=>2 - (intOf u).toNat)
    case atStart=>exact⟨0,M,_,Nat.zero_le _,rfl,Nt.nil M i,hT0'.out,hS0⟩
    case round=>
     clear hS0 hC hK hSt hok hV hxl hxw hfl hm hone hT
     obtain⟨k,M1,E1,hk,rfl,hN,hT1,hS⟩:=hrel
     have hN':=HD hN
     have hT1':=HD hT1
     obtain⟨b',pc,pp,ps,S,v,xs,Ec,Ep,Es,Ev,hbb,hC,hK,hSt,hok,hV,hxl,hxw,hfl,hm,rfl⟩:=hT1
     obtain⟨⟩:=hbb
     simp only[aP] at hS
     have hone:=hV.one
     clear hN
     by_cases hlt:k<2
     ·obtain⟨⟨s,g⟩,hr,h0,h1,hix⟩:=key'.out k hlt
      simp only at h0 h1 hix
      have hr':=HD hr
      have dk:decide ((k:Int)<2)=true:=DT
      have dk' : decide (k<2)=true:=decide_eq_true hlt
      clear hr
      cases hq:cd s g 0 0 with
      | true=>
       have q:=gp hq
       have hq':=HD hq
       clear hq
       go_wp2_with (first|refine aq 176 rfl hS ?_;clear hS;intro br2 w _ hS|refine wV (.binOp .eql _ _ _ _) rfl (dh rfl) ?_|refine aL rfl ?_|refine au rfl hS ?_|refine ak rfl hS ?_;clear hS;intro w hS)
       go_roundw
       case rel=>exact⟨k+1,M1,_,by omega,by go_num,by rw[hr'.out,zX hq'.out];exact hN'.out,hT1'.out,(by simp only[aP];exact hS.p)⟩
       case measure=>simp[intOf];omega
      | false=>
       have q:=gp hq
       have hq':=HD hq
       clear hq
       obtain⟨j,rfl⟩:∃ j:Nat,s=j:=⟨s.toNat,by omega⟩
       obtain⟨y,hy⟩:∃ y,xs[i]?=some y:=⟨_,List.getElem?_eq_getElem (by omega)⟩
       obtain⟨gb,cs,hixb,hhas,hcell⟩:=hV.at hy
       have hyW:=hxw i y hy
       have hy':=HD hy
       have hxw':=HD hxw
       have hfl':=HD hfl
       rw[ku hy] at hS
       have hS:St w0 bs wr (ce y::(⟨b,cW z m pc pp ps v,211,true⟩::(Ec++(Ep++(Es++(Ev++((xs.take i).map ce++((xs.drop (i+1)).map ce++(⟨b9,#[.int .i64 s0,.int .u32 g0,.int .i64 s1,.int .u32 g1],343,true⟩::H1))))))))):=by
        simp only[List.append_assoc,List.cons_append] at hS
        exact hS.p
       clear hy hxw hfl
       cases hvb:decide ((M1.bf.getD i []).length<bz) with
       | true=>
        have hvb':=HD hvb
        clear hvb
        go_wp2_with (first|refine aq 176 rfl hS ?_;clear hS;intro br2 w _ hS|refine wV (.binOp .eql _ _ _ _) rfl (dh rfl) ?_|refine aL rfl ?_|refine au rfl hS ?_|refine ak rfl hS ?_;clear hS;intro w hS)
        have hS:St w0 bs w (ce y::(⟨br2,#[.int .i64 j,.int .u32 g],176,true⟩::(⟨b,cW z m pc pp ps v,211,true⟩::(Ec++(Ep++(Es++(Ev++((xs.take i).map ce++((xs.drop (i+1)).map ce++(⟨b9,#[.int .i64 s0,.int .u32 g0,.int .i64 s1,.int .u32 g1],343,true⟩::H1)))))))))):=hS.p
        refine ao [⟨(undef,[ce y]),[(9,fun _ x=>∃ y1:Bx,x.2=[ce y1]∧y1.1=y.1∧BxW y1 bz (M1.bf.getD i []++[(j:Int)]))]⟩] (⟨br2,#[.int .i64 j,.int .u32 g],176,true⟩::(⟨b,cW z m pc pp ps v,211,true⟩::(Ec++(Ep++(Es++(Ev++((xs.take i).map ce++((xs.drop (i+1)).map ce++(⟨b9,#[.int .i64 s0,.int .u32 g0,.int .i64 s1,.int .u32 g1],343,true⟩::H1))))))))) _ rfl hS (by kernel_rfl) (by kernel_rfl) ?_
        refine fV (fun χ w hw=>ad rfl) ?_
        refine fV (fun χ w hw=>ah rfl) ?_
        refine fV (fun χ w hw=>ag rfl) ?_
        (refine fV (fun χ w hw=>ac _ _ rfl hw) ?_)
        refine fV (fun χ w hw=>ad rfl) ?_
        refine fV (fun χ w hw=>aY _ _ _ rfl) ?_
        (refine fV (fun χ w hw=>ac _ _ rfl hw) ?_)
        refine fV (fun χ w hw=>ag rfl) ?_
        (refine fV (fun χ w hw=>ac _ _ rfl hw) ?_)
        refine cj 0 0 rfl rfl rfl rfl rfl 191 [_,_] rfl (fun _=>rfl) ae (fun _=>.tuple #[.bool true,.int .i64 0]) ?_ ?_
        ·intro χ X w _ hS
         exact rc (show St w0 bs w (ce y::(X++_)) from hS) hyW j (by omega) true hvb'.out (fun y1 w' hb1 hW1 hS'=>⟨(undef,[ce y1]),rfl,⟨y1,rfl,hb1,hW1⟩,hS'⟩)
        refine fV (fun χ w hw=>ad rfl) ?_
        refine fV (fun χ w hw=>aB rfl) ?_
        refine fV (fun χ w hw=>aB rfl) ?_
        refine fV (fun χ w hw=>aG rfl) ?_
        refine fV (fun χ w hw=>aG rfl) ?_
        refine bC rfl ?_
        intro χ w hok hS
        obtain⟨⟨y1,hb2,hb1,hW1⟩,_⟩:=hok _ (.head _)
        have hS:St w0 bs w (((χ 9).2++[])++(⟨br2,#[.int .i64 j,.int .u32 g],176,true⟩::(⟨b,cW z m pc pp ps v,211,true⟩::(Ec++(Ep++(Es++(Ev++((xs.take i).map ce++((xs.drop (i+1)).map ce++(⟨b9,#[.int .i64 s0,.int .u32 g0,.int .i64 s1,.int .u32 g1],343,true⟩::H1)))))))))):=hS
        rw[hb2] at hS
        simp only[cq] at hS
        clear hok hb2
        go_wp2_with (go_skip)
        go_roundw
        case rel=>
         have hil:i<M1.bf.length:=by rw[hfl'.out];exact hi
         have hget:(M1.bf.set i (M1.bf.getD i []++[(j:Int)])).getD i []=M1.bf.getD i []++[(j:Int)]:=by
          rw[List.getD_eq_getElem?_getD,List.getElem?_set_self hil];rfl
         have hget2:∀ q,q≠i->(M1.bf.set i (M1.bf.getD i []++[(j:Int)])).getD q []=M1.bf.getD q []:=fun q hq=>by
          rw[List.getD_eq_getElem?_getD,List.getElem?_set_ne (fun e=>hq e.symm),List.getD_eq_getElem?_getD]
         refine⟨k+1,{ M1 with bf:=M1.bf.set i (M1.bf.getD i []++[(j:Int)]) },⟨b,cW z m pc pp ps v,211,true⟩::(Ec++(Ep++(Es++(Ev++(xs.set i y1).map ce)))),by omega,by go_num,?_,?_,?_⟩
         ·rw[hr'.out,p5 hq'.out]
          refine hN'.out.step ⟨rfl,Up.refl _,fun q s hs=>?_,fun s hs=>.inr ?_⟩
          ·by_cases hqi:q=i
           ·subst hqi;rw[hget];exact List.mem_append_left _ hs
           ·rw[hget2 q hqi];exact hs
          ·rw[hget];exact List.mem_append_right _ hs
         ·refine⟨b,pc,pp,ps,S,v,xs.set i y1,Ec,Ep,Es,Ev,rfl,hC,hK,hSt,hok,hV.set hy'.out hb1,by rw[List.length_set];exact hxl,fun q t ht=>?_,by rw[List.length_set];exact hfl'.out,hm,rfl⟩
          by_cases hqi:q=i
          ·subst hqi
           rw[List.getElem?_set_self (by omega)] at ht
           obtain rfl:=Option.some.inj ht
           show BxW _ bz ((M1.bf.set q _).getD q [])
           rw[hget];exact hW1
          ·rw[List.getElem?_set_ne (fun e=>hqi e.symm)] at ht
           show BxW _ bz ((M1.bf.set i _).getD q [])
           rw[hget2 q hqi];exact hxw'.out q t ht
         ·rw[l6 hy'.out]
          simp only[List.append_assoc,List.cons_append]
          exact hS.p
        case measure=>simp[intOf];omega
       | false=>
        have hvb':=HD hvb
        clear hvb
        go_wp2_with (first|refine aq 176 rfl hS ?_;clear hS;intro br2 w _ hS|refine wV (.binOp .eql _ _ _ _) rfl (dh rfl) ?_|refine aL rfl ?_|refine au rfl hS ?_|refine ak rfl hS ?_;clear hS;intro w hS)
        have hS:St w0 bs w (ce y::(⟨br2,#[.int .i64 j,.int .u32 g],176,true⟩::(⟨b,cW z m pc pp ps v,211,true⟩::(Ec++(Ep++(Es++(Ev++((xs.take i).map ce++((xs.drop (i+1)).map ce++(⟨b9,#[.int .i64 s0,.int .u32 g0,.int .i64 s1,.int .u32 g1],343,true⟩::H1)))))))))):=hS.p
        refine ao [⟨(undef,[ce y]),[(9,fun _ x=>∃ y1:Bx,x.2=[ce y1]∧y1.1=y.1∧BxW y1 bz (M1.bf.getD i []))]⟩] (⟨br2,#[.int .i64 j,.int .u32 g],176,true⟩::(⟨b,cW z m pc pp ps v,211,true⟩::(Ec++(Ep++(Es++(Ev++((xs.take i).map ce++((xs.drop (i+1)).map ce++(⟨b9,#[.int .i64 s0,.int .u32 g0,.int .i64 s1,.int .u32 g1],343,true⟩::H1))))))))) _ rfl hS (by kernel_rfl) (by kernel_rfl) ?_
        refine fV (fun χ w hw=>ad rfl) ?_
        refine fV (fun χ w hw=>ah rfl) ?_
        refine fV (fun χ w hw=>ag rfl) ?_
        (refine fV (fun χ w hw=>ac _ _ rfl hw) ?_)
        refine fV (fun χ w hw=>ad rfl) ?_
        refine fV (fun χ w hw=>aY _ _ _ rfl) ?_
        (refine fV (fun χ w hw=>ac _ _ rfl hw) ?_)
        refine fV (fun χ w hw=>ag rfl) ?_
        (refine fV (fun χ w hw=>ac _ _ rfl hw) ?_)
        refine cj 0 0 rfl rfl rfl rfl rfl 191 [_,_] rfl (fun _=>rfl) ae (fun _=>.tuple #[.bool false,.int .i64 0]) ?_ ?_
        ·intro χ X w _ hS
         exact rc (show St w0 bs w (ce y::(X++_)) from hS) hyW j (by omega) false hvb'.out (fun y1 w' hb1 hW1 hS'=>⟨(undef,[ce y1]),rfl,⟨y1,rfl,hb1,hW1⟩,hS'⟩)
        refine fV (fun χ w hw=>ad rfl) ?_
        refine fV (fun χ w hw=>aB rfl) ?_
        refine fV (fun χ w hw=>aB rfl) ?_
        refine fV (fun χ w hw=>aG rfl) ?_
        refine fV (fun χ w hw=>aG rfl) ?_
        refine bC rfl ?_
        intro χ w hok hS
        obtain⟨⟨y1,hb2,hb1,hW1⟩,_⟩:=hok _ (.head _)
        have hS:St w0 bs w (((χ 9).2++[])++(⟨br2,#[.int .i64 j,.int .u32 g],176,true⟩::(⟨b,cW z m pc pp ps v,211,true⟩::(Ec++(Ep++(Es++(Ev++((xs.take i).map ce++((xs.drop (i+1)).map ce++(⟨b9,#[.int .i64 s0,.int .u32 g0,.int .i64 s1,.int .u32 g1],343,true⟩::H1)))))))))):=hS
        rw[hb2] at hS
        simp only[cq] at hS
        clear hok hb2
        go_wp2_with (first|refine aR 10 hS ?_;clear hS;intro w hS;simp only[List.take_succ_cons,List.take_zero,List.drop_succ_cons,List.drop_zero];(repeat (first|refine ax rfl (ac _ _ rfl hS) ?_|still_step));refine wpStill_nil ?_|go_at_call 192;refine mV hS hK hSt hok j (by omega) ?_;clear hS;intro L2 S2 Ep2 Es2 w v2 e2 hU hat hok2 hK2 hSt2 hS;unfold ab)
        go_roundw
        case rel=>
         refine⟨k+1,{ M1 with L:=L2 },⟨b,cW z m pc pp ps v,211,true⟩::(Ec++(Ep2++(Es2++(Ev++(xs.set i y1).map ce)))),by omega,by go_num,?_,?_,?_⟩
         ·rw[hr'.out,p5 hq'.out]
          refine hN'.out.step ⟨rfl,hU,fun q s hs=>hs,fun s hs=>.inl ?_⟩
          obtain rfl:=List.mem_singleton.1 hs
          exact hat
         ·refine⟨b,pc,pp,ps,S2,v,xs.set i y1,Ec,Ep2,Es2,Ev,rfl,hC,hK2,hSt2,hok2,hV.set hy'.out hb1,by rw[List.length_set];exact hxl,fun q t ht=>?_,hfl'.out,hm,rfl⟩
          by_cases hqi:q=i
          ·subst hqi
           rw[List.getElem?_set_self (by omega)] at ht
           obtain rfl:=Option.some.inj ht
           exact hW1
          ·rw[List.getElem?_set_ne (fun e=>hqi e.symm)] at ht
           exact hxw'.out q t ht
         ·rw[l6 hy'.out]
          simp only[List.append_assoc,List.cons_append]
          exact hS.p
        case measure=>simp[intOf];omega
     ·obtain rfl:k=2:=by omega
      go_wp2_with (go_skip)
      exact hR M1 _ _ hN'.out hT1'.out (by simp only[aP];exact hS.p)
end
open Go.RowKit Go.Mm
variable {R:Ending->World->Prop}{w:World}{w0:World}{bs:List Nat}{H H' H1 H2 H3 E E' E1 E2 Ea Eh Er:List Ent}
theorem kS {p q:Option Addr}{z:Nat}{L:List Int}{S:Sq}(hO:St w0 bs w H)(hT:KA p (some (some (z,L))) E1)(hU:SA q S E2)(hok:i7 S=true)[hc:Cut H E1 H1][hd:Cut H1 E2 H2](s:Int)
  (hR:∀ L' S' E1' E2' w' v e,Up L L'->(0≤s∧s<z->L'.getD s.toNat 0≠0)->i7 S'=true->KA p (some (some (z,L'))) E1'->SA q S' E2'->St w0 bs w' (E1'++(E2'++H2))->ab R (.tuple #[.bool v,.int .i64 e]) w'):Calls prog 192 #[.pointer p,.pointer q,.int .i64 s] w R:=by
 by_cases hs:0≤s∧s<z
 ·obtain⟨i,rfl⟩:∃ i:Nat,s=i:=⟨s.toNat,by omega⟩
  exact mV hO hT hU hok i (by omega) (fun L' S' E1' E2' w' v e hu hat=>hR L' S' E1' E2' w' v e hu (fun _=>by rw[Int.toNat_natCast];exact hat))
 ·obtain⟨L1,h1,u1⟩:=p6 (z:=z) (L:=L) (S:=S) (s:=s)
  exact gO hO hT hU s h1 rfl rfl rfl (fun E1' E2' w' hT' hU' hS'=>hR L1 _ E1' E2' w' _ _ u1 (fun h=>absurd h hs) (oK hok s) hT' hU' hS')
structure Sh (z:Nat)(Hh:Hp)(M M1:Mk)(l:List Rg):Prop where
 k:M1.k=M.k
 bf:M1.bf=M.bf
 up:Up M.L M1.L
 at' : ∀ r∈l,j9 Hh r.1 r.2=true->0≤r.1∧r.1<z->M1.L.getD r.1.toNat 0≠0
section
variable {z m bz:Nat}{p:Option Addr}{M:Mk}
instance GL:ScalarT prog 110:=⟨by kernel_rfl,by kernel_rfl⟩
theorem tH {bh bm:Nat}{ph:Option Addr}{Hh:Hp}{l:List Rg}{vl:Value}(hO:St w0 bs w (Er++(Eh++(E++(⟨bh,#[.pointer ph],110,true⟩::⟨bm,#[.pointer p],123,true⟩::H3)))))(hRS:RS vl l Er)(hl:l.length≤300)(hH:HA ph Hh Eh)(hT:MA z m bz p M E)
  (hR:∀ M1 E1 w',Sh z Hh M M1 l->MA z m bz p M1 E1->St w0 bs w' (Er++(Eh++(E1++(⟨bh,#[.pointer ph],110,true⟩::⟨bm,#[.pointer p],123,true⟩::H3))))->ab R (.tuple #[]) w'):Calls prog 348 #[vl,.pointer (some ⟨bh,0,none⟩),.pointer (some ⟨bm,0,none⟩)] w R:=by
 have hS0:=hO
 clear hO
 obtain⟨b,rfl⟩:=hT.isp
 have hone0:=hRS.one
 have hln:=hRS.len rfl
 have hT0:=HD hT
 clear hT
 go_enter func348,ntmps348
 go_wp2_with (refine wV (.call { callee:=.builtin .len,args:=#[_],argTypes:=#[_] }) rfl (aA rfl) ?_)
 go_loopw [8] (fun u wr=>∃ (k:Nat) (M1:Mk) (E1:List Ent),k≤l.length∧u=.int .i64 k∧Sh z Hh M M1 (l.take k)∧MA z m bz (some ⟨b,0,none⟩) M1 E1∧St w0 bs wr (Er++(Eh++(E1++(⟨bh,#[.pointer ph],110,true⟩::⟨bm,#[.pointer (some ⟨b,0,none⟩)],123,true⟩::H3))))) (fun u _=>l.length - (intOf u).toNat)
 case atStart=>exact⟨0,M,E,Nat.zero_le _,rfl,⟨rfl,rfl,Up.refl _,by simp⟩,hT0.out,hS0⟩
 case round=>
  clear hS0
  obtain⟨k,M1,E1,hk,rfl,hN,hT1,hS⟩:=hrel
  have hN':=HD hN
  have hT1':=HD hT1
  obtain⟨b',pc,pp,ps,S,v,xs,Ec,Ep,Es,Ev,hbb,hC,hK,hSt,hok,hV,hxl,hxw,hfl,hm,rfl⟩:=hT1
  obtain⟨⟩:=hbb
  simp only[aP] at hS
  have hone:=hV.one
  clear hN
  by_cases hlt:k<l.length
  ·obtain⟨⟨s,g⟩,hx⟩:∃ x,l.getD k (0,0)=x:=⟨_,rfl⟩
   obtain⟨gx,sp,ix,hh,hcx⟩:=hRS.at hlt hx
   have ix:=ix k rfl
   simp only at hcx
   have htk:l.take (k+1)=l.take k++[(s,g)]:=by
    rw[List.take_add_one,List.getElem?_eq_getElem hlt]
    rw[List.getD_eq_getElem?_getD,List.getElem?_eq_getElem hlt] at hx
    simp only[Option.getD_some] at hx
    rw[hx];rfl
   have htk':=HD htk
   have dk:decide ((k:Int)<(l.length:Int))=true:=DT
   have dk' : decide (k<l.length)=true:=decide_eq_true hlt
   have hk300:(k:Int)≤300:=by omega
   clear htk hx
   cases hz:j9 Hh s g with
   | false=>
    have hz':=HD hz
    clear hz
    go_wp2_with (first|refine aq 176 rfl hS ?_;clear hS;intro br w _ hS|go_at_call 349;refine lT hS hH s g false hz'.out ?_;clear hS;intro w _ hS;unfold ab|refine aM rfl ?_|(first|refine af rfl hS ?_|refine au rfl hS ?_)|refine ak rfl hS ?_;clear hS;intro w hS)
    go_roundw
    case rel=>
     refine⟨k+1,M1,_,by omega,by go_num,⟨hN'.out.k,hN'.out.bf,hN'.out.up,fun r hr hh=>?_⟩,hT1'.out,(by simp only[aP];exact hS.p)⟩
     rw[htk'.out] at hr
     rcases List.mem_append.1 hr with hr|hr
     ·exact hN'.out.at' r hr hh
     ·obtain rfl:=List.mem_singleton.1 hr
      rw[hz'.out] at hh;cases hh
    case measure=>simp[intOf];omega
   | true=>
    have hz':=HD hz
    clear hz
    go_wp2_with (first|refine aq 176 rfl hS ?_;clear hS;intro br w _ hS|go_at_call 349;refine lT hS hH s g true hz'.out ?_;clear hS;intro w _ hS;unfold ab|refine aM rfl ?_|(first|refine af rfl hS ?_|refine au rfl hS ?_)|refine ak rfl hS ?_;clear hS;intro w hS|refine aR 10 hS ?_;clear hS;intro w hS;simp only[List.take_succ_cons,List.take_zero,List.drop_succ_cons,List.drop_zero];(repeat (first|refine ax rfl (ac _ _ rfl hS) ?_|still_step));refine wpStill_nil ?_|go_at_call 192;refine kS hS hK hSt hok _ ?_;clear hS;intro L2 S2 Ep2 Es2 w v2 e2 hU hat hok2 hK2 hSt2 hS;unfold ab)
    go_roundw
    case rel=>
     refine⟨k+1,{ M1 with L:=L2 },⟨b,cW z m pc pp ps v,211,true⟩::(Ec++(Ep2++(Es2++(Ev++xs.map ce)))),by omega,by go_num,⟨hN'.out.k,hN'.out.bf,hN'.out.up.trans hU,fun r hr hh hr2=>?_⟩,⟨b,pc,pp,ps,S2,v,xs,Ec,Ep2,Es2,Ev,rfl,hC,hK2,hSt2,hok2,hV,hxl,hxw,hfl,hm,rfl⟩,(by simp only[aP];exact hS.p)⟩
     rw[htk'.out] at hr
     rcases List.mem_append.1 hr with hr|hr
     ·exact hU _ (hN'.out.at' r hr hh hr2)
     ·obtain rfl:=List.mem_singleton.1 hr
      exact hat hr2
    case measure=>simp[intOf];omega
  ·obtain rfl:k=l.length:=by omega
   have hN2:=hN'.out
   rw[List.take_length] at hN2
   have dk:decide ((l.length:Int)<(l.length:Int))=false:=DF
   have dk' : decide (l.length<l.length)=false:=DF
   go_wp2_with (go_skip)
   refine bodyPost_end (results_none rfl _ _ _) rfl ?_
   exact hR M1 _ _ hN2 hT1'.out (by simp only[aP];exact hS.p)
end
end Go.Proofs.YtnbgljbhkeffkaaGreatDoor
