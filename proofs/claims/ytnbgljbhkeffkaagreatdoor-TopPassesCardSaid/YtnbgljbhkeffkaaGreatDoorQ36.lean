/-
  The law 'TopPasses' as a row: for every input it returns true, and each argument reads afterwards as it read before. No condition.
-/
import Derived.Test.YtnbgljbhkeffkaaGreatDoorQ35
import Derived.Test.YtnbgljbhkeffkaaGreatDoorTopf
import Derived.Handed
import Derived.LaidLaws
import Derived.JoinedOf
open Go.Proofs.Tryz
set_option linter.unusedVariables false
set_option linter.unusedSimpArgs false
set_option maxHeartbeats 4000000
set_option maxRecDepth 100000
namespace Go.Proofs.YtnbgljbhkeffkaaGreatDoor.topPassesLaw
open Go Go.Mm Go.ChangeShapes Go.WideShapes Go.ChangeAt Go.RowKit
theorem SI:ownKnob Tryz.prog.godebug=none:=by kernel_rfl
theorem SC:laidOutB Tryz.prog=true:=by kernel_rfl
def Sz:Array Value:=#[.int .u8 0,.int .u8 111,.int .u8 108,.int .u8 102]
abbrev SD : List (String × DataW Unit) := [("estray/answer.letters", Rows.laid_estray_answer_letters)]
noncomputable def Sw (os:Os):World:=
 { World.holding Tryz.prog os ⟨#[],#[],[]⟩ with heap:=(World.holding Tryz.prog os ⟨#[],#[],[]⟩).heap.modify 0 fun
   | .cells _ t frozen=>.cells Sz t frozen
   | o=>o }
abbrev SF:Array Value:=#[.agg #[.int .u8 0,.int .u8 0,.int .u8 0,.int .u8 0,.int .u8 0,.int .u8 0,.int .u8 0,.int .u8 0],.slice none 0 0]
theorem Su (os:Os):((Sw os).forCall (fun _ _=>0) ⟨#[],SF,[]⟩).memory.heap[0]?=some (.cells Sz 348 (0,0)):=by kernel_rfl
theorem SG (os:Os)(started:os.Started)(H:Type)(enc:TypeId×Value->H) :
  ReturnsInHanded {} Tryz.checked os 3 .any (fun w args=>(Rows.topPassesSpec.pre enc Tryz.prog Tryz.f3 [] false w args∧laidMet Tryz.prog SD w)∧sizedMet enc Tryz.prog Tryz.f3 (OpenSpec.ofChange Rows.topPassesSpec) false w args)
   (Rows.topPassesSpec.post enc Tryz.prog Tryz.f3 false true false false):=by
 refine returnsInHanded_of_change_and (C:=Tryz.checked) (X:=fun w _=>laidMet Tryz.prog SD w) (fun _ _ _ hh h=>h.of_heap hh) SI started (by kernel_rfl) Tryz.func3
  (ChangeSpec.witness_at (enc:=enc) (C:=Tryz.checked) (os:=os) (X:=fun w _=>laidMet Tryz.prog SD w) false (Sw os) SF 8 rfl (by kernel_rfl) (by kernel_rfl) (by kernel_rfl) (by kernel_rfl) (by kernel_rfl)
   ⟨_,⟨0,348,Sz,8,[],[],by kernel_rfl,by kernel_rfl,by kernel_rfl,by kernel_rfl,rfl,rfl⟩,by decide,fun b off h=>by
    have h' : MemPlace.cell b off∈[MemPlace.cell 0 0,.cell 0 1,.cell 0 2,.cell 0 3]:=h
    have hb:b=0:=by
     simp at h'
     omega
    subst hb
    refine⟨⟨_,_,Su os⟩,fun u v hc=>?_⟩
    simp only[World.cell?,Su os] at hc
    simp at h'
    rcases h' with rfl|rfl|rfl|rfl <;> simp[Sz] at hc⟩) ?_
 intro W base args ds gs before hval0 hW hcnd _ _ _
 have hval:∀ (j:Nat) t v,Tryz.f3.params[j]?=some t->args[j]?=some v->Value.okWide Tryz.prog W .any base t v:=hval0
 have hW':=hW
 obtain⟨p,q,hA0,hV,rfl,hfz,hnd⟩:=hW
 have hA:DataW.TrodAll enc Tryz.prog W 0 (fun _=>true) true Tryz.f3.params.toList args.toList ds p:=hA0
 rw[Tryz.params3] at hA hval
 obtain⟨v0,vs0,d0,ds0,p0,q0,hargs,rfl,rfl,h0,r0⟩:=trodAll_cons hA
 obtain⟨v1,vs1,d1,ds1,p1,q1,rfl,rfl,rfl,h1,r1⟩:=trodAll_cons r0
 obtain⟨rfl,rfl,rfl⟩:=trodAll_nil r1
 obtain rfl:args=#[v0,v1]:=by cases args;simp_all
 obtain⟨rfl,rfl⟩:=trodVars_none hV
 have k0:=h0
 have lt0:∀ x∈p0,x.block<W.heap.size:=by obtain⟨m,hm⟩:=k0;exact DataW.trod_lt m _ _ _ hm
 obtain⟨f0,hf0⟩:=h0
 obtain⟨cs0,rfl,w0⟩:=vT (ks:=[.i .u8,.i .u8,.i .u8,.i .u8,.i .u8,.i .u8,.i .u8,.i .u8]) (fuel:=5) (by decide) hf0
 have k1:=h1
 have lt1:∀ x∈p1,x.block<W.heap.size:=by obtain⟨m,hm⟩:=k1;exact DataW.trod_lt m _ _ _ hm
 obtain⟨f1,hf1⟩:=h1
 obtain⟨n1,b1,o1,F1,w1⟩:=BV (ks:=[.i .u8]) (fuel:=5) Tryz.underlying24 (by decide) (okWide_slice Tryz.underlying24 (hval 1 24 v1 rfl rfl)) hf1
 clear hA0 hval0
 refine(BO cs0 w0 v1 w1 (R:=fun e w'=>e=.returned (.bool true)∧Below W.heap.size W w') (fun w' h=>⟨rfl,h.below⟩)).mono fun e W' ⟨he,bel⟩=>?_
 subst he
 exact⟨_,rfl,_,_,_,[],_,[],hW',trodAll_mk1 (shut_bool Tryz.underlying4 _),(trodAll_cons_mk (Below.trod SC (by kernel_rfl) (of_decide_eq_true (by kernel_rfl)) k0 bel lt0) (trodAll_cons_mk (Below.trod SC (by kernel_rfl) (of_decide_eq_true (by kernel_rfl)) k1 bel lt1) trodAll_mk0)),rfl,bel.frame _,fun h=>by cases h⟩
theorem SH:Rows.topPassesRow.holds Tryz.pinned (OpenSpec.ofChange Rows.topPassesSpec):=
 OpenClaim.holds_of_wide 3 Tryz.f3 rfl rfl rfl rfl rfl rfl rfl ⟨rfl,rfl,rfl,rfl,rfl⟩ rfl rfl rfl rfl rfl (by kernel_rfl) Tryz.func3 topFacts.closed
  (of_decide_eq_true (by kernel_rfl)) (by unfold Func.isWrapper;first|(rw[if_pos (by decide +kernel)];kernel_rfl)|(rw[if_neg (by decide +kernel)];exact⟨rfl,rfl⟩))
  (fun os started H enc _=>SG os started H enc)
theorem proved:Rows.TopPassesSaid:=SH
end Go.Proofs.YtnbgljbhkeffkaaGreatDoor.topPassesLaw
