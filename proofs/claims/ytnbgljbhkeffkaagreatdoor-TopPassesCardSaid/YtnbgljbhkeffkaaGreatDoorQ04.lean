/-
  Contracts of what the law TopPasses reaches, part 4: IterT IterV.
-/
import Derived.Test.YtnbgljbhkeffkaaGreatDoorQ01
open Go.Proofs.Tryz
set_option linter.unusedVariables false
set_option linter.unusedSimpArgs false
set_option maxHeartbeats 4000000
set_option maxRecDepth 100000
namespace Go.Mm
open Go Go.RowKit
section
variable {P:Program}{n:Nat}{w0 w:World}{bs:List Nat}
def KeptT (Tk:TypeId)(bs:List Nat)(W W' : World):Prop:=Kept bs W W'∧∀ (k:Nat) (cs:Array Value) (fz:Nat×Nat),W.heap[k]?=some (Obj.cells cs Tk fz)->W'.heap[k]?=some (Obj.cells cs Tk fz)
theorem KeptT.trans {Tk:TypeId}{bs:List Nat}{A B C:World}(h:KeptT Tk bs A B)(k:KeptT Tk bs B C):KeptT Tk bs A C:=⟨h.1.trans k.1,fun i cs fz hi=>k.2 i cs fz (h.2 i cs fz hi)⟩
theorem r9 {Tk:TypeId}{bs:List Nat}{w:World}(hb:∀ b∈bs,b<w.heap.size)(W:World)(l:Nat)(o o' : Obj)(hl:w.heap.size≤l)(h1:W.heap[l]?=some o)(h2:o.isCells=false)(h3:o.isWalk=false):KeptT Tk bs W (W.putObj l o'):=
 ⟨g6 hb W l o o' hl h1 h2 h3,fun k cs fz hk=>by
  rw[World.putObj_heap_other (fun e=>by
   subst e
   rw[h1] at hk
   cases hk
   cases h2)]
  exact hk⟩
theorem uZ {Tk:TypeId}{bs:List Nat}{W W' : World}{Hr Hs:List Ent}(hS:St W (wl Hr) W Hr)(hs:St W (wl Hr) W' Hs)(hT:∀ e∈Hr,e.T=Tk->e∈Hs)(hb:∀ b∈bs,W'.heap[b]?=W.heap[b]?):KeptT Tk bs W W':=by
 refine⟨hb,fun k cs fz hk=>?_⟩
 by_cases hm:k∈wl Hr
 ·obtain⟨e,he,hw,rfl⟩:=mem_wl.1 hm
  have h1:=hS.get e he
  rw[h1] at hk
  have ht:e.T=Tk:=by cases hk;rfl
  rw[hs.get e (hT e he ht),← h1,h1]
  exact hk
 ·rw[hs.chg.same k (bG hk) hm]
  exact hk
theorem rK {α X Y:Type}{g:Operand}{ps:Array Tmp}{assign body:Code}{Q:Exit->Act->World->Prop}{a:Act}
  (h1:1≤n) {gf:Nat} {lb:Array Value} (hg:a.eval g=.func (.func gf) #[] lb) (eg:∀ args w,(callFunc gf args).run P w=.ok (.enter gf args) w)
  (Tk:TypeId) {encs:α->Array Value} {K:List Ent} {S Sp:List α->Prop} {N:Nat} (hw:w0.heap.size≤w.heap.size) (hKw:∀ e∈K,e.b<w.heap.size)
  (hseq:SeqStopsK Fence.wide (n - 1) P gf lb encs (KeptT Tk (K.map (·.b))) S Sp N w) (hps:∀ x,(encs x).size=ps.size)
  (C:List α->X->Prop) (Hf:List α->X->List Ent) (hK:∀ xs x,C xs x->∀ e∈K,e∈Hf xs x) (hKT:∀ xs x xs' x',C xs x->C xs' x'->∀ e∈Hf xs x,e.T=Tk->e∈Hf xs' x') (D:Code->List α->Y->Prop) (Hx:Code->List α->Y->List Ent) {x0:X} (h0:C [] x0) (hS:St w0 bs w (Hf [] x0)) (a₁:α->Act)
  (hassign:∀ (l:Nat) (x:α) (W:World) (K:Act->World->Prop),K (a₁ x) W ->
   assign.wpIn (Fence.wide.inRound l) (n - 1 - 1) P (Exit.then K (fun _ _ _=>False)) { tmps:=(ps.zip (encs x)).foldl (fun t (p,v)=>t.setIfInBounds p v) a.tmps,defers:=[] } W)
  (hbody:∀ (l:Nat) (pre:List α) (el:α) (x:X) (W:World),C pre x->pre.length<N->St W (wl (Hf pre x)) W (Hf pre x) ->
   body.wpIn (Fence.wide.inRound l) (n - 1 - 1) P (fZ W (Hf pre x) (pre++[el]) C Hf D Hx) (a₁ el) W)
  (hdone:∀ (d:Nat) (xs:List α) (x:X) (W:World),S xs->C xs x->St w0 bs W (Hf xs x)->(w0.heap.size≤d∧W.heap[d]?=some (.deferred (some [])))->Q .normal { a with defers:={ target:=.collected d,args:=#[] }::a.defers } W)
  (hstop:∀ (d:Nat) (c:Code) (pre:List α) (y:Y) (W:World),Sp pre->D c pre y->St w0 bs W (Hx c pre y)->(w0.heap.size≤d∧W.heap[d]?=some (.deferred (some [])))->c.wpIn Fence.wide n P Q { a with defers:={ target:=.collected d,args:=#[] }::a.defers } W) :
  (Code.rangeFunc g ps assign body).wpIn Fence.wide n P Q a w:=by
 refine wpIn_rangeFunc_ownF rfl h1 (gf:=gf) (lb:=lb) hg trivial eg hseq KeptT.trans (r9 (by simpa using hKw)) (Below.refl _ _) hps
  (fun s W=>∃ x,C s x∧St w0 bs W (Hf s x)) (fun c s W=>∃ y,D c s y∧St w0 bs W (Hx c s y)) (fD hw C Hf) (fun c=>fD hw (D c) (Hx c)) ⟨x0,h0,hS⟩ a₁ hassign ?_ ?_ ?_
 ·rintro l pre el W ⟨x,hc,hs⟩ hlen
  refine wpIn_mono (hbody l pre el x W hc hlen hs.rebase) ?_
  intro e a' W' hp
  cases e with
  | normal=>
   obtain⟨x',hc',hs'⟩:=hp
   refine⟨hs.keeps hs'.chg,uZ hs.rebase hs' (fun e he ht=>hKT _ _ _ _ hc hc' e he ht) (fun b hb=>?_),x',hc',hs.rejoin hs'⟩
   obtain⟨k,hk,rfl⟩:=List.mem_map.1 hb
   rw[hs.get k (hK _ _ hc k hk),hs'.get k (hK _ _ hc' k hk)]
  | ret=>obtain⟨y,hd,hs'⟩:=hp;exact⟨hs.keeps hs'.chg,y,hd,hs.rejoin hs'⟩
  | exit id=>obtain⟨y,hd,hs'⟩:=hp;exact⟨hs.keeps hs'.chg,y,hd,hs.rejoin hs'⟩
  | goto t=>exact hp.elim
  | panic ch=>exact hp.elim
  | outgrown=>exact hp.elim
 ·rintro d xs W hd hs ⟨x,hc,hS'⟩ hk
  exact hdone d xs x W hs hc hS' ⟨Nat.le_trans hw hd,hk⟩
 ·rintro d c pre W hd hsp ⟨y,hD,hS'⟩ hk
  exact hstop d c pre y W hsp hD hS' ⟨Nat.le_trans hw hd,hk⟩
end
open Go Go.RowKit
section
variable {P:Program}{n:Nat}{w0 w:World}{bs:List Nat}
theorem rJ {α X Y:Type}{g:Operand}{ps:Array Tmp}{assign body:Code}{Q:Exit->Act->World->Prop}{a:Act}
  (h1:1≤n) {gf:Nat} {lb:Array Value} (hg:a.eval g=.func (.func gf) #[] lb) (eg:∀ args w,(callFunc gf args).run P w=.ok (.enter gf args) w)
  {encs:α->Array Value} {K:List Ent} {S Sp:List α->Prop} {N:Nat} (hw:w0.heap.size≤w.heap.size) (hKw:∀ e∈K,e.b<w.heap.size)
  (hseq:SeqStopsK Fence.wide (n - 1) P gf lb encs (Kept (K.map (·.b))) S Sp N w) (hps:∀ x,(encs x).size=ps.size)
  (C:List α->X->Prop) (Hf:List α->X->List Ent) (hK:∀ xs x,C xs x->∀ e∈K,e∈Hf xs x) (D:Code->List α->Y->Prop) (Hx:Code->List α->Y->List Ent) {x0:X} (h0:C [] x0) (hS:St w0 bs w (Hf [] x0))
  (Tv:TypeId) (vcs:α->Array Value) (hT:∀ (W:World) xs x xs' x',C xs x->C xs' x'->(∀ e∈Hf xs x,W.heap[e.b]?=some (.cells e.cs e.T (0,0)))->(∀ e∈Hf xs' x',W.heap[e.b]?=some (.cells e.cs e.T (0,0)))->∀ e∈Hf xs x,∃ e'∈Hf xs' x',e'.b=e.b) (a₁:α->Nat->Act)
  (hassign:∀ (l:Nat) (pre:List α) (el:α) (x:X) (W:World),C pre x->w.heap.size≤W.heap.size->St W (wl (Hf pre x)) W (Hf pre x) ->
   assign.wpIn (Fence.wide.inRound l) (n - 1 - 1) P (Exit.then (fun a' W'=>∃ bv,w.heap.size≤bv∧a'=a₁ el bv∧St W (wl (Hf pre x)) W' (⟨bv,vcs el,Tv,true⟩::Hf pre x)) (fun _ _ _=>False)) { tmps:=(ps.zip (encs el)).foldl (fun t (p,v)=>t.setIfInBounds p v) a.tmps,defers:=[] } W)
  (hbody:∀ (l:Nat) (pre:List α) (el:α) (x:X) (bv:Nat) (W:World),C pre x->pre.length<N->w.heap.size≤W.heap.size->St W (wl (⟨bv,vcs el,Tv,true⟩::Hf pre x)) W (⟨bv,vcs el,Tv,true⟩::Hf pre x) ->
   body.wpIn (Fence.wide.inRound l) (n - 1 - 1) P (fZ W (⟨bv,vcs el,Tv,true⟩::Hf pre x) (pre++[el]) C Hf D Hx) (a₁ el bv) W)
  (hdone:∀ (d:Nat) (xs:List α) (x:X) (W:World),S xs->C xs x->St w0 bs W (Hf xs x)->(w0.heap.size≤d∧W.heap[d]?=some (.deferred (some [])))->Q .normal { a with defers:={ target:=.collected d,args:=#[] }::a.defers } W)
  (hstop:∀ (d:Nat) (c:Code) (pre:List α) (y:Y) (W:World),Sp pre->D c pre y->St w0 bs W (Hx c pre y)->(w0.heap.size≤d∧W.heap[d]?=some (.deferred (some [])))->c.wpIn Fence.wide n P Q { a with defers:={ target:=.collected d,args:=#[] }::a.defers } W) :
  (Code.rangeFunc g ps assign body).wpIn Fence.wide n P Q a w:=by
 refine wpIn_rangeFunc_ownH rfl h1 (gf:=gf) (lb:=lb) hg trivial eg hseq Kept.trans (g6 (by simpa using hKw)) (Below.refl _ _) hps
  (fun s W=>w.heap.size≤W.heap.size∧∃ x,C s x∧St w0 bs W (Hf s x)) (fun c s W=>∃ y,D c s y∧St w0 bs W (Hx c s y)) (OwnFrom.and (fun _ _ _ _ h hg _=>Nat.le_trans h hg.size) (fD hw C Hf)) (fun c=>fD hw (D c) (Hx c)) ⟨Nat.le_refl _,x0,h0,hS⟩
  (fun el a' W=>∃ bv,w.heap.size≤bv∧a'=a₁ el bv∧W.heap[bv]?=some (.cells (vcs el) Tv (0,0))∧∃ xs x,C xs x∧(∀ e∈Hf xs x,W.heap[e.b]?=some (.cells e.cs e.T (0,0)))∧∀ e∈Hf xs x,bv≠e.b) ?_ ?_ ?_ ?_ ?_
 ·rintro x a' s W W' row ⟨bv,h1,h2,h3,ys,y,hy1,hy2,hy3⟩ hg' hr
  have hk:∀ (z:Nat) (cs:Array Value) (T:TypeId),W.heap[z]?=some (.cells cs T (0,0))->W'.heap[z]?=some (.cells cs T (0,0)):=by
   intro z cs T hz
   rw[hg'.block z (bG hz) (fun e=>?_)]
   ·exact hz
   ·obtain⟨_,o,ho,hc⟩:=hr z e.symm
    rw[hz] at ho
    cases ho;cases hc
  exact⟨bv,h1,h2,hk _ _ _ h3,ys,y,hy1,fun e he=>hk _ _ _ (hy2 e he),hy3⟩
 ·rintro l pre el W K' ⟨hsz,x,hc,hs⟩ hK'
  refine wpIn_mono (hassign l pre el x W hc hsz hs.rebase) ?_
  intro e a' W' hp
  cases e with
  | normal=>
   obtain⟨bv,hb1,hb2,hs'⟩:=hp
   have hs2:St W (wl (Hf pre x)) W' (Hf pre x):=hs'.weak
   refine hK' a' W' ((hs.keeps hs'.chg).from _) ?_ ⟨Nat.le_trans hsz hs'.chg.size,x,hc,hs.rejoin hs2⟩ ⟨bv,hb1,hb2,hs'.get _ (.head _),pre,x,hc,hs2.get,(List.pairwise_cons.1 hs'.nd).1⟩
   intro b hb
   obtain⟨k,hk,rfl⟩:=List.mem_map.1 hb
   rw[hs.get k (hK _ _ hc k hk),hs2.get k (hK _ _ hc k hk)]
  | _=>exact hp.elim
 ·rintro l pre el a' W _ _ ⟨hsz,x,hc,hs⟩ ⟨bv,hb1,rfl,hb3,ys,y,hy1,hy2,hy3⟩ hlen
  have hbig:St W (wl (⟨bv,vcs el,Tv,true⟩::Hf pre x)) W (⟨bv,vcs el,Tv,true⟩::Hf pre x):=by
   refine St.start (fun e he=>?_) (List.pairwise_cons.2 ⟨fun e he q=>?_,hs.nd⟩) (fun e he hw'=>mem_wl.2 ⟨e,he,hw',rfl⟩)
   ·rcases List.mem_cons.1 he with rfl|he
    ·exact hb3
    ·exact hs.get e he
   ·simp only at q
    obtain⟨e',he',hee⟩:=hT W _ _ _ _ hc hy1 hs.get hy2 e he
    exact hy3 e' he' (by rw[hee];exact q)
  -- the block of the variable: a new one,for the caller
  have join:∀ {W' : World} {H' : List Ent},St W (wl (⟨bv,vcs el,Tv,true⟩::Hf pre x)) W' H'->St w0 bs W' H':=by
   intro W' H' hs'
   refine⟨hs.chg.trans hs'.chg ?_,hs'.get,hs'.nd,?_⟩
   ·intro z hz hlt
    obtain⟨e,he,hw',rfl⟩:=mem_wl.1 hz
    rcases List.mem_cons.1 he with rfl|he
    ·simp only at hlt;omega
    ·rcases hs.wr e he hw' with h|h
     ·exact h
     ·omega
   ·intro e he hw'
    rcases hs'.wr e he hw' with h|h
    ·obtain⟨y,hy,hyw,hye⟩:=mem_wl.1 h
     rcases List.mem_cons.1 hy with rfl|hy
     ·exact .inr (by rw[← hye];simp only;omega)
     ·rw[← hye];exact hs.wr y hy hyw
    ·exact .inr (Nat.le_trans hs.chg.size h)
  refine wpIn_mono (hbody l pre el x bv W hc hlen (by have:=bG hb3;omega) hbig) ?_
  intro e a' W' hp
  cases e with
  | normal=>
   obtain⟨x',hc',hs'⟩:=hp
   refine⟨(hbig.keeps hs'.chg).from _,?_,Nat.le_trans hsz hs'.chg.size,x',hc',join hs'⟩
   intro b hb
   obtain⟨k,hk,rfl⟩:=List.mem_map.1 hb
   rw[hs.get k (hK _ _ hc k hk),hs'.get k (hK _ _ hc' k hk)]
  | ret=>obtain⟨y,hd,hs'⟩:=hp;exact⟨(hbig.keeps hs'.chg).from _,y,hd,join hs'⟩
  | exit id=>obtain⟨y,hd,hs'⟩:=hp;exact⟨(hbig.keeps hs'.chg).from _,y,hd,join hs'⟩
  | goto t=>exact hp.elim
  | panic ch=>exact hp.elim
  | outgrown=>exact hp.elim
 ·rintro d xs W hd hs ⟨_,x,hc,hS'⟩ hk
  exact hdone d xs x W hs hc hS' ⟨Nat.le_trans hw hd,hk⟩
 ·rintro d c pre W hd hsp ⟨y,hD,hS'⟩ hk
  exact hstop d c pre y W hsp hD hS' ⟨Nat.le_trans hw hd,hk⟩
end
end Go.Mm
