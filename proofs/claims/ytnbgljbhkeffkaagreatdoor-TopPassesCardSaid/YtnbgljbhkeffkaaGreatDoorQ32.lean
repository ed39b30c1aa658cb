/-
  Contracts of what the law TopPasses reaches, part 32: Plw.
-/
import Derived.Test.YtnbgljbhkeffkaaGreatDoorQ29
open Go.Proofs.Tryz
set_option linter.unusedVariables false
set_option linter.unusedSimpArgs false
set_option maxHeartbeats 4000000
set_option maxRecDepth 100000
namespace Go.Proofs.YtnbgljbhkeffkaaGreatDoor
open Go Go.Mm
theorem dQ {L:List Hs}{i j:Nat}{c:Hs}(h:i<L.length):(L.set i c).getD j d8=if j=i then c else L.getD j d8:=by
 rw[List.getD_eq_getElem?_getD,List.getElem?_set,List.getD_eq_getElem?_getD]
 by_cases e:i=j
 ·subst e;simp[h]
 ·rw[if_neg e,if_neg (fun q=>e q.symm)]
abbrev ve (L:List Hs):Hp:=some (some L)
theorem wiz_iff {L:List Hs}{s g:Int} : eJ (ve L) s g=0↔∃ i:Nat,s=i∧i<L.length∧(L.getD i d8).1=1∧(L.getD i d8).2.1=g:=by
 constructor
 ·intro h
  obtain⟨i,h1,h2,h3⟩:=ig (L:=cY L) h
  rw[cT] at h3
  rw[cb] at h2
  exact⟨i,h1,h2,congrArg Prod.fst h3,congrArg Prod.snd h3⟩
 ·rintro⟨i,rfl,h2,h3,h4⟩
  show iN (some (cY L)) i g=0
  rw[zl (by rw[cb];exact h2),cT,h3,h4,if_pos rfl]
theorem ux {L:List Hs}{i:Nat} : Ss (ve L) (i:Int)=(L.getD i d8).2.2:=by
 unfold Ss iJ
 rw[Int.toNat_natCast]
theorem alz_mem {L:List Hs}{r:Rg} : r∈jr (ve L)↔∃ i:Nat,i<L.length∧(L.getD i d8).1=1∧r=((i:Int),(L.getD i d8).2.1):=by
 show r∈Cv 1 (cY L) (cY L).length↔_
 unfold Cv
 rw[List.mem_map]
 constructor
 ·rintro⟨i,hi,rfl⟩
  rw[mem_gl,cb] at hi
  obtain⟨h1,h2⟩:=hi
  unfold cJ at h2
  rw[cT] at h2
  exact⟨i,h1,by simpa using h2,by unfold gV;rw[cT]⟩
 ·rintro⟨i,h1,h2,rfl⟩
  refine⟨i,?_,by unfold gV;rw[cT]⟩
  rw[mem_gl,cb]
  exact⟨h1,by unfold cJ;rw[cT,h2];rfl⟩
theorem yL {L:List Hs} : (jr (ve L)).length≤L.length:=by
 show(Cv 1 (cY L) (cY L).length).length≤_
 unfold Cv
 rw[List.length_map,cb]
 exact e9 _ _
structure HI (z:Nat)(L:List Hs)(hn:Nat)(hg:Int):Prop where
 len:L.length=z
 zz:1≤z∧z≤256
 gn:∀ i<z,1≤(L.getD i d8).2.1
 hl:hn<z
 hs:(L.getD hn d8).1=1∧(L.getD hn d8).2.1=hg
 fl:∀ i,i≠hn->(L.getD i d8).2.2.2.2=false
section
variable {z hn:Nat}{hg:Int}{L:List Hs}
theorem HI.wi (h:HI z L hn hg):eJ (ve L) hn hg=0:=wiz_iff.2 ⟨hn,rfl,by rw [h.len];exact h.hl,h.hs.1,h.hs.2⟩
theorem HI.g1 (h:HI z L hn hg):1≤hg:=by have:=h.gn hn h.hl;rw [h.hs.2] at this;exact this
theorem HI.set (h:HI z L hn hg){i:Nat}{x:Hs}(hi:i<z)(hne:i≠hn)(hx:1≤x.2.1)(hf:x.2.2.2.2=false):HI z (L.set i x) hn hg:=by
 have hl:i<L.length:=by rw[h.len];exact hi
 refine⟨by rw[List.length_set];exact h.len,h.zz,fun j hj=>?_,h.hl,?_,fun j hj=>?_⟩
 ·rw[dQ hl];split
  ·exact hx
  ·exact h.gn j hj
 ·rw[dQ hl,if_neg (fun e=>hne e.symm)]
  exact h.hs
 ·rw[dQ hl];split
  ·exact hf
  ·exact h.fl j hj
theorem HI.al (h:HI z L hn hg):∀ r∈jr (ve L),eJ (ve L) r.1 r.2=0:=fun r hr=>by
 obtain⟨i,h1,h2,rfl⟩:=alz_mem.1 hr
 exact wiz_iff.2 ⟨i,rfl,h1,h2,rfl⟩
theorem HI.kept (h:HI z L hn hg){T:Ar}(hT:T.1=L){M:Mk}{i:Nat}(hi:i<z)(hm:i=hn->M.L.getD hn 0≠0):Kept z T M i:=by
 subst hT
 by_cases he:i=hn
 ·subst he
  left
  unfold zd
  rw[if_pos (by omega)]
  simpa using hm rfl
 ·right
  intro r hr hri
  have hw:=h.al r hr
  unfold qy
  rw[if_pos hw]
  obtain⟨j,h1,h2,rfl⟩:=alz_mem.1 hr
  rw[ux]
  have:j=i:=by simp only at hri;omega
  subst this
  exact h.fl j he
theorem HI.sweep {T:Ar}(h:HI z T.1 hn hg){M:Mk}{nx:Nat}(hm:M.L.getD hn 0≠0):HI z (vP T M nx).1 hn hg∧(vP T M nx).2=T.2:=by
 unfold vP
 cases hf:oH T M nx with
 | none=>exact⟨h,rfl⟩
 | some r=>
  have hf':=hf
  unfold oH at hf
  split at hf
  ·cases hf
  ·rename_i hw
   have hr:=List.mem_of_find?_eq_some hf
   have hrn:r.1=(nx:Int):=by have:=List.find?_some hf;simpa using this
   have hwi:=h.al r hr
   obtain⟨j,h1,h2,rfl⟩:=alz_mem.1 hr
   have hj:j=nx:=by simp only at hrn;omega
   subst hj
   have hne:j≠hn:=fun e=>by subst e;exact hw hm
   refine⟨?_,rfl⟩
   show HI z (iJ (ya (some (some T.1)) j _)) hn hg
   unfold ya
   rw[if_pos hwi]
   show HI z (kG T.1 ((j:Int).toNat) _) hn hg
   unfold kG
   rw[Int.toNat_natCast]
   have hg1:=h.gn j (by rw[← h.len];exact h1)
   split
   ·exact h.set (by rw[← h.len];exact h1) hne (by show 1≤(T.1.getD j d8).2.1+1;omega) rfl
   ·exact h.set (by rw[← h.len];exact h1) hne hg1 rfl
theorem Cu {T:Ar}{M:Mk}{nx:Nat}(hm:M.L.getD hn 0≠0):(pV T M nx).L.getD hn 0≠0:=by
 unfold pV
 cases hf:oH T M nx with
 | none=>exact hm
 | some r=>
  unfold oH at hf
  split at hf
  ·cases hf
  ·rename_i hw
   have hne:nx≠hn:=fun e=>by subst e;exact hw hm
   show(M.L.set nx 0).getD hn 0≠0
   rw[List.getD_eq_getElem?_getD,List.getElem?_set,if_neg hne,← List.getD_eq_getElem?_getD]
   exact hm
end
def Mkd (hn:Nat)(M:Mk):Prop:=M.L.getD hn 0≠0∨∃ j,(hn:Int)∈M.bf.getD j []
structure GC (z m hn B:Nat)(S:Ck->Prop)(C:Cy):Prop where
 ph:C.M.k.1≤5
 km:C.M.k.2.1=m
 cy:0≤C.M.k.2.2.1∧C.M.k.2.2.1≤B
 at4:C.M.k.1=4->C.at'<z
 nx5:C.M.k.1=5->C.nx<z
 p2:C.M.k.1=2->Mkd hn C.M∨S C.M.k
 p3:C.M.k.1=3->Mkd hn C.M
 p4:4≤C.M.k.1->C.M.L.getD hn 0≠0
def vW (k:Nat):Ck->Prop:=fun c=>c.2.2.2.getD k false=false
def iX:Ck->Prop:=fun _=>False
section
variable {z m hn B:Nat}{S:Ck->Prop}{C C' : Cy}
theorem Mkd.nt {M M' : Mk}{i:Nat}{X:List Int}(h:Mkd hn M)(hN:Nt M M' i X):Mkd hn M':=by
 rcases h with h|⟨j,h⟩
 ·exact .inl (hN.up hn h)
 ·exact .inr ⟨j,hN.sub j _ h⟩
theorem GC.weak {S' : Ck->Prop}(h:GC z m hn B S C)(hs:∀ c,S c->S' c):GC z m hn B S' C:=⟨h.ph,h.km,h.cy,h.at4,h.nx5,fun q=>(h.p2 q).imp id (hs _),h.p3,h.p4⟩
theorem GC.more {B' : Nat}(h:GC z m hn B S C)(hb:B≤B'):GC z m hn B' S C:=⟨h.ph,h.km,⟨h.cy.1,by have:=h.cy.2;omega⟩,h.at4,h.nx5,h.p2,h.p3,h.p4⟩
theorem GC.nt {M' : Mk}{i:Nat}{X:List Int}(h:GC z m hn B S C)(hN:Nt C.M M' i X):GC z m hn B S { C with M:=M' }:=by
 have hk:=hN.k
 refine⟨by rw[hk];exact h.ph,by rw[hk];exact h.km,by rw[hk];exact h.cy,fun q=>h.at4 (by rw[← hk];exact q),fun q=>h.nx5 (by rw[← hk];exact q),fun q=>?_,fun q=>?_,fun q=>?_⟩
 ·rw[hk] at q ⊢
  exact(h.p2 q).imp (fun x=>x.nt hN) id
 ·rw[hk] at q
  exact(h.p3 q).nt hN
 ·rw[hk] at q
  exact hN.up hn (h.p4 q)
theorem GC.up {L' : List Int}(h:GC z m hn B S C)(hU:Up C.M.L L'):GC z m hn B S { C with M:={ C.M with L:=L' } }:=
 h.nt (M':={ C.M with L:=L' }) (i:=0) (X:=[]) ⟨rfl,hU,fun _ _ h=>h,by simp⟩
theorem GC.note {M' : Mk}{i:Nat}{u:Rg}{hg:Int}(hg1:1≤hg)(hi:i<m)(h:GC z m hn B S C)(hN:Nt C.M M' i (if oz C.M.k i then mK [u,((hn:Int),hg)] else [])):GC z m hn B iX { C with M:=M' }:=by
 have hk:=hN.k
 have h2:=h.nt hN
 have hmem:C.M.k.1=2∨C.M.k.1=3->Mkd hn M':=fun q=>by
  have hb:oz C.M.k i=true:=by
   have hfi:yg C.M.k i=0:=by
    unfold yg
    rw[if_pos (by rw[h.km];omega)]
   unfold oz
   rw[hfi,if_neg (by simp),if_neg (by omega)]
   exact decide_eq_true q
  rw[if_pos hb] at hN
  have hz:cd (hn:Int) hg 0 0=false:=lD (x:=((hn:Int),hg)) (y:=(0,0)) (by simp;omega)
  have hx:(hn:Int)∈mK [u,((hn:Int),hg)]:=by
   unfold mK
   rw[List.mem_map]
   exact⟨((hn:Int),hg),List.mem_filter.2 ⟨by simp,by simp[hz]⟩,rfl⟩
  rcases hN.got _ hx with h|h
  ·left
   rwa [Int.toNat_natCast] at h
  ·exact .inr ⟨i,h⟩
 exact⟨h2.ph,h2.km,h2.cy,h2.at4,h2.nx5,fun q=>.inl (hmem (.inl (by rw[← hk];exact q))),fun q=>h2.p3 q,fun q=>h2.p4 q⟩
theorem GC.ask (h:GC z m hn B S C)(hA:kB C C'):GC z m hn B S C':=by
 obtain⟨h1,h2,h3|⟨h3,h4⟩⟩:=hA
 ·exact⟨by rw[h3];exact h.ph,by rw[h3];exact h.km,by rw[h3];exact h.cy,fun q=>by rw[h2];exact h.at4 (by rw[← h3];exact q),fun q=>by rw[h1];exact h.nx5 (by rw[← h3];exact q),fun q=>by rw[h3] at q ⊢;exact h.p2 q,fun q=>by rw[h3] at q ⊢;exact h.p3 q,fun q=>by rw[h3] at q ⊢;exact h.p4 q⟩
 ·have e:C'.M.k.1=1:=by rw[h4]
  exact⟨by omega,by rw[h4];exact h.km,by rw[h4];exact h.cy,fun q=>by omega,fun q=>by omega,fun q=>by omega,fun q=>by omega,fun q=>by omega⟩
theorem GC.ack {k i:Nat}{T:Ar}{hg:Int}{rs:List (List Rf)}(h:GC z m hn B (vW k) C)(hA:pI z T C C' i)(hl:0≤(hn:Int)∧(hn:Int)<z)(hh:j9 (some (some T.1)) hn hg=true)(hrt:i=k->((hn:Int),hg)∈ez T i):GC z m hn B (vW k) C':=by
 obtain⟨M',rfl,h1,h2,h3,h4⟩:=hA
 have hp:M'.k.1=C.M.k.1:=by rw[h1];unfold iW;split <;> rfl
 have hm:M'.k.2.1=C.M.k.2.1:=by rw[h1];unfold iW;split <;> rfl
 have hc:M'.k.2.2.1=C.M.k.2.2.1:=by rw[h1];unfold iW;split <;> rfl
 have hmk:Mkd hn C.M->Mkd hn M':=fun q=>q.imp (h3 hn) (fun ⟨j,hj⟩=>⟨j,by rw[h2];exact hj⟩)
 refine⟨by show M'.k.1≤5;rw[hp];exact h.ph,by show M'.k.2.1=m;rw[hm];exact h.km,by show 0≤M'.k.2.2.1∧_;rw[hc];exact h.cy,fun q=>h.at4 (by rw[← hp];exact q),fun q=>h.nx5 (by rw[← hp];exact q),fun q=>?_,fun q=>?_,fun q=>?_⟩
 ·have q' : C.M.k.1=2:=by rw[← hp];exact q
  rcases h.p2 q' with h5|h5
  ·exact .inl (hmk h5)
  ·by_cases hik:i=k
   ·left
    left
    have hb:yN C.M.k i=true:=by
     unfold yN mM
     rw[q',hik]
     unfold vW at h5
     rw[h5]
     rfl
    have:=h4 hb q' _ (hrt hik) hh hl
    simpa using this
   ·right
    unfold vW at h5 ⊢
    show M'.k.2.2.2.getD k false=false
    rw[h1]
    unfold iW
    rw[if_pos (by unfold mM;rw[q'];rfl)]
    show(C.M.k.2.2.2.set i true).getD k false=false
    rw[List.getD_eq_getElem?_getD,List.getElem?_set,if_neg hik,← List.getD_eq_getElem?_getD]
    exact h5
 ·have q' : C.M.k.1=3:=by rw[← hp];exact q
  exact hmk (h.p3 q')
 ·have q' : 4≤C.M.k.1:=by rw[← hp];exact q
  exact h3 hn (h.p4 q')
theorem oU {c:Ck}{k:Nat}(h:rH c=true)(hk:k<c.2.1)(h4:c.2.1≤4):c.2.2.2.getD k false=true:=by
 unfold rH at h
 simp only[Bool.and_eq_true,decide_eq_true_eq] at h
 rw[h.2]
 unfold mg
 rw[List.getD_eq_getElem?_getD,List.getElem?_map,List.getElem?_range (by omega)]
 simp[hk]
theorem GC.step {k:Nat}{T T' : Ar}(hz1:1≤z)(hkm:k<m)(hm4:m≤4)(h:GC z m hn B (vW k) C)(hl:hn<z)(hO:i9 z m T C T' C'):GC z m hn (B+1) (vW k) C':=by
 rcases hO with ⟨h0,rfl,hA⟩|⟨h1,h3,rfl,hS,hx,ha⟩|⟨h4,rfl,ha,hy,hn'⟩|⟨h5,rfl,hw⟩
 ·exact(h.ask hA).more (by omega)
 ·have hcy:=h.cy
  rcases hS with ⟨h12,hk|⟨hr,hk⟩,hb,hU⟩|⟨h13,hk,hb,hU,hd⟩
  ·have hmk:Mkd hn C.M->Mkd hn C'.M:=fun q=>q.imp (hU hn) (fun ⟨j,hj⟩=>⟨j,by rw[hb];exact hj⟩)
   refine⟨by rw[hk];exact h.ph,by rw[hk];exact h.km,by rw[hk];omega,fun q=>by rw[hk] at q;omega,fun q=>by rw[hk] at q;omega,fun q=>?_,fun q=>by rw[hk] at q;omega,fun q=>by rw[hk] at q;omega⟩
   rw[hk] at q ⊢
   exact(h.p2 q).imp hmk id
  ·have hp:C'.M.k.1=C.M.k.1+1:=by
    rw[hk];show(C.M.k.1+1) % 6=_
    omega
   have hm' : C'.M.k.2.1=m:=by rw[hk];exact h.km
   have hc:C'.M.k.2.2.1=C.M.k.2.2.1:=by
    rw[hk];show(if C.M.k.1=5 then _ else _)=_
    rw[if_neg (by omega)]
   have hmk:Mkd hn C.M->Mkd hn C'.M:=fun q=>q.imp (hU hn) (fun ⟨j,hj⟩=>⟨j,by rw[hb];exact hj⟩)
   refine⟨by omega,hm',by rw[hc];omega,fun q=>by omega,fun q=>by omega,fun q=>?_,fun q=>?_,fun q=>by omega⟩
   ·right
    show C'.M.k.2.2.2.getD k false=false
    rw[hk]
    show seen0.getD k false=false
    unfold seen0
    rcases(by omega:k=0∨k=1∨k=2∨k=3) with rfl|rfl|rfl|rfl <;> rfl
   ·rcases h.p2 (by omega) with h6|h6
    ·exact hmk h6
    ·exfalso
     have:=oU (k:=k) hr (by rw[h.km];exact hkm) (by rw[h.km];exact hm4)
     unfold vW at h6
     rw[this] at h6
     cases h6
  ·have hmk:C'.M.L.getD hn 0≠0:=by
    rcases h.p3 h13 with h6|⟨j,hj⟩
    ·exact hU hn h6
    ·have:=hd j _ hj (by omega)
     rwa [Int.toNat_natCast] at this
   rcases hk with hk|hk
   ·exact⟨by rw[hk];exact h.ph,by rw[hk];exact h.km,by rw[hk];omega,fun q=>by rw[hk] at q;omega,fun q=>by rw[hk] at q;omega,fun q=>.inl (.inl hmk),fun q=>.inl hmk,fun q=>hmk⟩
   ·have hp:C'.M.k.1=4:=by
     rw[hk];show(C.M.k.1+1) % 6=_
     omega
    have hc:C'.M.k.2.2.1=C.M.k.2.2.1:=by
     rw[hk];show(if C.M.k.1=5 then _ else _)=_
     rw[if_neg (by omega)]
    exact⟨by omega,by rw[hk];exact h.km,by rw[hc];omega,fun q=>by rw[ha,if_pos hp];omega,fun q=>by omega,fun q=>.inl (.inl hmk),fun q=>.inl hmk,fun q=>hmk⟩
 ·have hcy:=h.cy
  have hmk:=h.p4 (by omega)
  have hat:=h.at4 h4
  by_cases he:C.at'+1=z
  ·obtain⟨hM,hx⟩:=hy he
   have hp:C'.M.k.1=5:=by
    rw[hM];show(C.M.k.1+1) % 6=_
    omega
   have hc:C'.M.k.2.2.1=C.M.k.2.2.1:=by
    rw[hM];show(if C.M.k.1=5 then _ else _)=_
    rw[if_neg (by omega)]
   have hL:C'.M.L=C.M.L:=by rw[hM]
   exact⟨by omega,by rw[hM];exact h.km,by rw[hc];omega,fun q=>by omega,fun q=>by rw[hx];omega,fun q=>by omega,fun q=>by omega,fun q=>by rw[hL];exact hmk⟩
  ·obtain⟨hM,hx⟩:=hn' he
   exact⟨by rw[hM];exact h.ph,by rw[hM];exact h.km,by rw[hM];omega,fun q=>by rw[ha];omega,fun q=>by rw[hM] at q;omega,fun q=>by rw[hM] at q;omega,fun q=>by rw[hM] at q;omega,fun q=>by rw[hM];exact hmk⟩
 ·have hcy:=h.cy
  have hmk:=h.p4 (by omega)
  obtain⟨w1,w2,w3,w4⟩:=hw
  by_cases he:C.nx+1=z
  ·have hM:=w3 he
   have hp:C'.M.k.1=0:=by
    rw[hM];show(C.M.k.1+1) % 6=_
    omega
   have hc:C'.M.k.2.2.1=C.M.k.2.2.1+1:=by
    rw[hM];show(if C.M.k.1=5 then _ else _)=_
    rw[if_pos h5]
   exact⟨by omega,by rw[hM];exact h.km,by rw[hc];omega,fun q=>by omega,fun q=>by omega,fun q=>by omega,fun q=>by omega,fun q=>by omega⟩
  ·have hM:=w4 he
   have hk:C'.M.k=C.M.k:=by rw[hM];exact pU _ _ _
   have hnx:=h.nx5 h5
   exact⟨by rw[hk];exact h.ph,by rw[hk];exact h.km,by rw[hk];omega,fun q=>by rw[hk] at q;omega,fun q=>by rw[w1];omega,fun q=>by rw[hk] at q;omega,fun q=>by rw[hk] at q;omega,fun q=>by rw[hM];exact Cu hmk⟩
end
end Go.Proofs.YtnbgljbhkeffkaaGreatDoor
