/-
  Contracts of what the law TopPasses reaches, part 26: Fds Alg Ifc Owd Owe Qta.
-/
import Derived.Test.YtnbgljbhkeffkaaGreatDoorQ24
import Derived.Laws.Externs
open Go.Proofs.Tryz
set_option linter.unusedVariables false
set_option linter.unusedSimpArgs false
set_option maxHeartbeats 4000000
set_option maxRecDepth 100000
namespace Go.Proofs.YtnbgljbhkeffkaaGreatDoor
open Go.RowKit Go.Mm
variable {R:Ending->World->Prop}{w W:World}{w0:World}{As bs:List Nat}{H H' H1 H2 H3 E E' E1 E2 Ea Eh Er:List Ent}
variable {Ms Ms1 Ms2 Ms3:dF}
instance KO:MapTy prog 240 99 3:=⟨by kernel_rfl,by kernel_rfl⟩
instance KN:ScalarT prog 240:=⟨by kernel_rfl,by kernel_rfl⟩
instance GS {k i g:Int} : KeyOk prog 99 (.agg #[.int .i64 k,.int .i64 i,.int .u32 g]):=kZ [(3,0),(3,1),(26,2)] (by
 intro x hx
 simp only[List.mem_cons,List.not_mem_nil,or_false] at hx
 rcases hx with rfl|rfl|rfl
 ·exact⟨.i64,k,by kernel_rfl,⟨by kernel_rfl,by kernel_rfl⟩,rfl⟩
 ·exact⟨.i64,i,by kernel_rfl,⟨by kernel_rfl,by kernel_rfl⟩,rfl⟩
 ·exact⟨.u32,g,by kernel_rfl,⟨by kernel_rfl,by kernel_rfl⟩,rfl⟩)
theorem oL {P:Program}(w:World){M:Nat}{es:Array MapEntry}{ck:Nat}(t:TypeId)(hb:w.heap[M]?=some (.map es ck)):(Extern.MapsClone.clone #[.iface t (.map (some M))]).run P w=.ok (.iface t (.map (some w.heap.size))) (w.alloc (.map es ck)):=by
 have e:Extern.MapsClone.clone #[.iface t (.map (some M))]=(getObj M >>= fun o=>match o with
   | .map entries clock=>(newObj (.map entries clock) >>= fun n=>pure (.iface t (.map (some n))))
   | _ => stuck "maps.clone: a map expected") := rfl
 rw[e]
 simp[MapKept.run_getObj_map hb,Result.andThen,go_sem]
theorem rz {P:Program}{w:World}(t xT k e:TypeId){v:Value}(h:P.underlying t=some (.map k e):=by kernel_rfl):(Instr.typeAssert (.iface t v) xT t false).run P w=.ok v w:=by
 simp[Instr.typeAssert,run_underlying h,go_sem,Result.andThen]
theorem AW {M:Nat}{es:Array MapEntry}{ck:Nat}(w:World)(hb:w.heap[M]?=some (.map es ck)):Calls prog 137 #[.map (some M)] w fun e w'=>e=.returned (.map (some w.heap.size))∧w'=w.alloc (.map es ck):=by
 have hq:=fun w=>run_eql_map_nil (P:=prog) w 240 99 3 (some M) (by kernel_rfl)
 go_enter func137,ntmps137
 go_wp2
 rw[run_callFunc_extern (P:=prog) (f:=196) (fn:=f196) func196 (by kernel_rfl) (by kernel_rfl) (by kernel_rfl) (e:=Extern.MapsClone.clone) (by kernel_rfl),oL w 240 hb]
 simp only[Result.andThen]
 rw[Oper.upon_value]
 go_wp2
 rw[rz 240 20 99 3]
 simp only[Result.andThen]
 rw[Oper.upon_value]
 go_wp2
 (go_ret;exact⟨rfl,rfl⟩)
theorem uS {M:Nat}{l:List (Value×Value)}(hB:Mps W As w0 bs Ms)(hO:St w0 bs w H)[hM:MapIn Ms M l](hR:∀ N w0' bs' w',Mps W As w0' bs' ((N,l)::Ms)->St w0' bs' w' H->ab R (.map (some N)) w'):Calls prog 137 #[.map (some M)] w R:=by
 obtain⟨es,ck,h1,h2,h3⟩:=hB.now hO hM.h
 simp only at h1 h2
 refine(AW w h1).mono ?_
 rintro e w' ⟨rfl,rfl⟩
 obtain⟨g1,g2⟩:=hB.made hO es ck h3
 rw[h2] at g1
 exact hR _ _ _ _ g1 g2
def sJ (pi:Option Addr)(m:Nat):Array Value:=#[.pointer pi,.map (some m)]
def FD (p:Option Addr)(T:Tb)(m:Nat)(E:List Ent):Prop:=∃ b bi Ei,p=some ⟨b,0,none⟩∧TA (some ⟨bi,0,none⟩) T Ei∧E=⟨b,sJ (some ⟨bi,0,none⟩) m,242,true⟩::Ei
instance KQ {b off:Nat} : FieldAt prog 242 0 b off off:=⟨fun w=>by kernel_rfl⟩
instance KP {b off:Nat} : FieldAt prog 242 1 b off (off+1):=⟨fun w=>by kernel_rfl⟩
instance KR {pi:Option Addr}{m:Nat} : BuildT prog 242 [(0,.pointer pi),(1,.map (some m))] (sJ pi m):=⟨fun w=>by kernel_rfl⟩
section
variable {pi:Option Addr}{m:Nat}
instance OI:CellAt (sJ pi m) 0 (.pointer pi):=⟨rfl⟩
instance OH:CellAt (sJ pi m) (0+1) (.map (some m)):=⟨rfl⟩
end
theorem rh {p:Option Addr}{L:List (Int×Int)}(h:TA p (some L) E):∃ b,p=some ⟨b,0,none⟩:=by
 obtain⟨_,b,rfl,_⟩:=h
 exact⟨b,rfl⟩
theorem qV {b bi m:Nat}(hO:St w0 bs w H)[hH:Has H b (sJ (some ⟨bi,0,none⟩) m) 242](hR:∀ w',St w0 bs w' H->ab R (.bool true) w'):Calls prog 135 #[.pointer (some ⟨b,0,none⟩)] w R:=by
 have hS:=hO
 clear hO
 go_enter func135,ntmps135
 go_wp2_with (refine af rfl hS ?_)
 exact hR _ hS
theorem Bo (hB:Mps W As w0 bs Ms)(hO:St w0 bs w H)(g:Int)(hg:1≤g∧g≤4294967295)(hR:∀ p m E w0' bs' w',FD p (ia 64 g) m E->Mps W As w0' bs' ((m,[])::Ms)->St w0' bs' w' (E++H)->ab R (.tuple #[.pointer p,.int .i64 0]) w'):Calls prog 50 #[.int .i64 64,.int .u32 g] w R:=by
 have hS:=hO
 clear hO
 have hok:cO 64 g=true:=by unfold cO;simp;omega
 have e1:=HD (show ni 64 g=ia 64 g by unfold ni;rw[if_pos hok];rfl)
 have e2:=HD (show kF 64 g=0 by unfold kF;rw[if_pos hok])
 have hg':=HD (show 0≤g∧g≤4294967295 by omega)
 clear hok hg
 go_enter func50,ntmps50
 go_wp2_with (first|(go_at_call 48;refine iv hS 64 g hg'.out ?_;rw[e1.out,e2.out];clear hS;intro pt Et w hT hS;obtain⟨bi,rfl⟩:=rh hT;unfold ab)|refine aF (.makeMap _ none) rfl ?_;refine iQ rfl hB hS ?_;clear hB hS;intro m w hB hS|refine am 242 rfl hS ?_;clear hS;intro b w _ hS|refine aL rfl ?_)
 exact hR _ _ _ _ _ _ ⟨b,bi,Et,rfl,hT,rfl⟩ hB (by(try simp only[aP]);exact hS.p)
theorem yj (hO:St w0 bs w H)(s g:Int)(hR:∀ w',St w0 bs w' H->ab R (.agg (vD s g)) w'):Calls prog 352 #[.agg #[.int .i64 s,.int .u32 g]] w R:=by
 have hS:=hO
 clear hO
 go_enter func352,ntmps352
 go_wp2_with (first|refine am 176 rfl hS ?_;clear hS;intro b1 w _ hS|refine aq 99 rfl hS ?_;clear hS;intro b2 w _ hS|refine aL rfl ?_|refine af rfl hS ?_|refine ak rfl hS ?_;clear hS;intro w hS)
 refine bodyPost_ret (aI rfl hS) rfl ?_
 exact hR _ hS.p
section
variable {p:Option Addr}{T:Tb}{m:Nat}
theorem yi {i g:Int}(hB:Mps W As w0 bs Ms)(hO:St w0 bs w H)(hT:FD p T m E)[hc:Cut H E H1](hE:jx T=0)(hI:kC T=i)(hG:kD T=g)[hM:MapIn Ms m []][hu:MapUp Ms m [] [(.agg (vD i g),vI 5)] Ms1]
  (hR:∀ E' w0' bs' w',FD p (ir T) m E'->Mps W As w0' bs' Ms1->St w0' bs' w' (E'++H1)->ab R (.tuple #[.agg (vD i g),.int .i64 0]) w'):Calls prog 289 #[.pointer p,.int .i64 5] w R:=by
 have hS:=hO.fr E H1
 clear hO
 obtain⟨b,bi,Ei,rfl,hTi,rfl⟩:=id hT
 simp only[List.cons_append] at hS
 have hE':=HD hE
 have hI':=HD hI
 have hG':=HD hG
 clear hE hI hG
 go_enter func289,ntmps289
 go_wp2_with (first|refine aq (o:=⟨some 4,_,_,_,_,_⟩) 99 rfl hS ?_;clear hS;intro b4 w _ hS|refine aq (o:=⟨some 6,_,_,_,_,_⟩) 176 rfl hS ?_;clear hS;intro b6 w _ hS|refine aq (o:=⟨some 8,_,_,_,_,_⟩) 99 rfl hS ?_;clear hS;intro b8 w _ hS|go_at_call 135;refine qV (bi:=bi) (m:=m) hS ?_;clear hS;intro w hS;unfold ab|go_at_call 180;refine jd hS hTi ?_;rw[hE'.out,hI'.out,hG'.out];clear hS;intro Et2 w hTt2 hS;unfold ab|go_at_call 352;refine yj hS i g ?_;clear hS;intro w hS;unfold ab|refine aR 6 hS ?_;clear hS;intro w hS;simp only[List.take_succ_cons,List.take_zero,List.drop_succ_cons,List.drop_zero];(repeat (first|(first|refine ax rfl (ac _ _ rfl hS) ?_|refine ax rfl (ai _ _ rfl hS) ?_)|still_step));refine wpStill_nil ?_|refine wS (gL rfl hB hS ?_);clear hB hS;intro w hB hS|(first|refine af rfl hS ?_|refine au rfl hS ?_)|refine ak rfl hS ?_;clear hS;intro w hS)
 refine bodyPost_ret (aJ rfl hS) rfl ?_
 exact hR _ _ _ _ ⟨b,bi,Et2,rfl,hTt2,rfl⟩ hB (by(try simp only[aP]);exact hS.p)
abbrev Bp (W:World)(As:List Nat)(Ms:dF)(L:List (Int×Int))(l:List (Value×Value))(HH:List Ent):lg CpX:=
 [(4,fun χ w=>TA (χ 4).p (some L) (χ 4).E∧Jm W As Ms ((χ 4).E++HH) w),
 (9,fun χ w=>TA (χ 4).p (some L) (χ 4).E∧Jm W As (((χ 9).m,l)::Ms) ((χ 4).E++HH) w),
 (11,fun χ w=>TA (χ 4).p (some L) (χ 4).E∧Jm W As (((χ 9).m,l)::Ms) (⟨(χ 11).m,sJ (χ 4).p (χ 9).m,242,true⟩::((χ 4).E++HH)) w)]
theorem KS {W:World}{As:List Nat}{Ms:dF}{L:List (Int×Int)}{l:List (Value×Value)}{HH:List Ent} : (∀ w,Jm W As Ms HH w->∃ w0 bs,St w0 bs w HH)∧∀ s∈Bp W As Ms L l HH,∀ χ w,s.2 χ w->∃ w0 bs,St w0 bs w HH:=by
 refine⟨fun w ⟨w0,bs,_,h⟩=>⟨w0,bs,h⟩,fun s hs χ w h=>?_⟩
 simp only[Bp,List.mem_cons,List.not_mem_nil,or_false] at hs
 rcases hs with rfl|rfl|rfl
 ·obtain⟨_,w0,bs,_,h⟩:=h;exact⟨w0,bs,cB h⟩
 ·obtain⟨_,w0,bs,_,h⟩:=h;exact⟨w0,bs,cB h⟩
 ·obtain⟨_,w0,bs,_,h⟩:=h;exact⟨w0,bs,cB (cB (A:=[_]) h)⟩
theorem qW {l:List (Value×Value)}{L:List (Int×Int)}(hL:0<L.length)(hB:Mps W As w0 bs Ms)(hO:St w0 bs w H)(hT:FD p (some L) m E)[hc:Cut H E H1][hM:MapIn Ms m l]
  (hR:∀ p' m' E' w0' bs' w',FD p' (some L) m' E'->Mps W As w0' bs' ((m',l)::Ms)->St w0' bs' w' (E'++(E++H1))->ab R (.pointer p') w'):Calls prog 87 #[.pointer p] w R:=by
 have hS:=hO.fr E H1
 clear hO
 obtain⟨b,bi,Ei,rfl,hTi,rfl⟩:=id hT
 simp only[List.cons_append] at hS
 have hcp:sL (some L)=some L:=by unfold sL;rw[if_pos];simp[fe,hL]
 have hcp':=HD hcp
 clear hcp
 go_enter func87,ntmps87
 go_wp2_with (go_at_call 135;refine qV (bi:=bi) (m:=m) hS ?_;clear hS;intro w hS;unfold ab)
 refine aj (X:=CpX) (Jm W As Ms (⟨b,sJ (some ⟨bi,0,none⟩) m,242,true⟩::(Ei++H1))) (Bp W As Ms L l (⟨b,sJ (some ⟨bi,0,none⟩) m,242,true⟩::(Ei++H1))) ⟨w0,bs,hB,hS.drawn _⟩ (by kernel_rfl) (by kernel_rfl) ?_
 (refine oP (fun χ w=>ad rfl) ?_)
 (refine oP (fun χ w=>ah rfl) ?_)
 (refine oP (fun χ w=>ag rfl) ?_)
 refine dt _ KS (fun _=>rfl) rfl (fun χ w hw=>by obtain⟨w0,bs,hw⟩:=hw;exact ac _ _ rfl hw) ?_
 refine aO 0 rfl (by kernel_rfl) (fun _=>rfl) (fun x=>.pointer x.p) (fun χ w hw=>aw rfl ae ?_) ?_
 ·obtain⟨w0,bs,hB,hS⟩:=hw
  refine gN hS hTi (fun p' E' w' g1 _ g3=>⟨_,rfl,⟨p',E',none,0,0,0⟩,rfl,(by rw[hcp'.out] at g1;exact g1),w0,bs,hB,(show St w0 bs w' (E'++(⟨b,sJ (some ⟨bi,0,none⟩) m,242,true⟩::(Ei++H1))) from g3.p)⟩)
 (refine oP (fun χ w=>ad rfl) ?_)
 (refine oP (fun χ w=>ah rfl) ?_)
 (refine oP (fun χ w=>ag rfl) ?_)
 refine dt _ KS (fun _=>rfl) rfl (fun χ w hw=>by obtain⟨w0,bs,hw⟩:=hw;exact ac _ _ rfl hw) ?_
 refine aO 1 rfl (by kernel_rfl) (fun _=>rfl) (fun x=>.map (some x.m)) (fun χ w hw=>aw rfl ae ?_) ?_
 ·obtain⟨f1,w0,bs,hB,hS⟩:=hw
  exact uS hB hS (fun N w0' bs' w' g1 g2=>⟨_,rfl,⟨none,[],none,0,0,N⟩,rfl,f1,w0',bs',g1,g2⟩)
 refine o7 2 (by kernel_rfl) (fun _=>rfl) rfl (fun χ=>.agg (sJ (χ 4).p (χ 9).m)) (fun χ χ' h=>?_) (fun χ w _=>bQ _ _ rfl) ?_
 ·simp only
  rw[h 4 (.inr (by kernel_rfl)),h 9 (.inr (by kernel_rfl))]
 refine aO 2 rfl (by kernel_rfl) (fun _=>rfl) (fun x=>.pointer (some ⟨x.m,0,none⟩)) (fun χ w hw=>?_) ?_
 ·obtain⟨f1,w0,bs,hB,hS⟩:=hw
  exact fp rfl hS (fun bn w' _ g=>⟨⟨none,[],none,0,0,bn⟩,rfl,f1,w0,bs,hB,(show St w0 bs w' (⟨bn,sJ (χ 4).p (χ 9).m,242,true⟩::((χ 4).E++(⟨b,sJ (some ⟨bi,0,none⟩) m,242,true⟩::(Ei++H1)))) from g)⟩)
 refine eQ 11 (fun _=>rfl) rfl (fun x=>.pointer (some ⟨x.m,0,none⟩)) (fun χ w=>aG rfl) ?_
 refine aV rfl ?_
 rintro χ w ⟨f1,w0,bs,hB,hS⟩
 obtain⟨b4,hb4⟩:=rh f1
 simp only[Nat.zero_add,Nat.reduceAdd]
 generalize χ 4=x4 at hS f1 hb4 ⊢
 generalize χ 9=x9 at hS hB ⊢
 generalize χ 11=x11 at hS ⊢
 obtain⟨p4,E4,_,_,_,_⟩:=x4
 obtain⟨_,_,_,_,_,N⟩:=x9
 obtain⟨_,_,_,_,_,bn⟩:=x11
 simp only at hS f1 hB hb4
 subst hb4
 clear χ
 go_wp2_with (go_skip)
 exact hR _ _ _ _ _ _ ⟨bn,b4,E4,rfl,f1,rfl⟩ hB (by(try simp only[aP]);exact hS.p)
end
open Go.RowKit Go.Mm
abbrev dd:Array Value:=#[.bool true,.slice none 0 0]
instance LW:ScalarT prog 94:=⟨by kernel_rfl,by kernel_rfl⟩
instance LZ:ScalarT prog 174:=⟨by kernel_rfl,by kernel_rfl⟩
instance L5:BuildT prog 249 [(0,.bool true)] dd:=⟨fun w=>by kernel_rfl⟩
instance Hz:BuildT prog 249 [(0,.bool true),(1,.slice none 0 0)] dd:=⟨fun w=>by kernel_rfl⟩
instance L4:CellAt dd (0+1) (.slice none 0 0):=⟨rfl⟩
instance Hy:SliceT prog 174 3:=⟨by kernel_rfl⟩
theorem ol {b:Nat}(hO:St w0 bs w H)[hH:Has H b dd 249](hR:∀ w',St w0 bs w' H->ab R (.bool true) w'):Calls prog 134 #[.pointer (some ⟨b,0,none⟩)] w R:=by
 have hS:=hO
 clear hO
 go_enter func134,ntmps134
 go_wp2_with (refine af rfl hS ?_)
 exact hR _ hS
theorem BL (hO:St w0 bs w H)(hR:∀ b w',St w0 bs w' (⟨b,dd,249,true⟩::H)->ab R (.pointer (some ⟨b,0,none⟩)) w'):Calls prog 53 #[] w R:=by
 have hS:=hO
 clear hO
 go_enter func53,ntmps53
 go_wp2_with (first|refine am 249 rfl hS ?_;clear hS;intro b w _ hS|refine aL rfl ?_)
 exact hR _ _ hS
theorem yJ {b:Nat}(hO:St w0 bs w H)[hH:Has H b dd 249](hR:∀ w',St w0 bs w' H->ab R (.int .i64 1) w'):Calls prog 210 #[.pointer (some ⟨b,0,none⟩)] w R:=by
 have hS:=hO
 clear hO
 have hlen:LenV prog 174 (.slice none 0 0) 0:=⟨⟨_,_,rfl⟩,⟨3,by kernel_rfl⟩⟩
 go_enter func210,ntmps210
 go_wp2_with (first|go_at_call 134;refine ol hS ?_;clear hS;intro w hS;unfold ab|refine wV (.call { callee:=.builtin .len,args:=#[_],argTypes:=#[_] }) rfl (aA rfl) ?_|refine af rfl hS ?_)
 exact hR _ hS
theorem vH (hO:St w0 bs w H)(hR:∀ w',St w0 bs w' H->ab R (.slice none 0 0) w'):Calls prog 90 #[.slice none 0 0] w R:=by
 have hS:=hO
 clear hO
 go_enter func90,ntmps90
 go_wp2_with (refine aF (.binOp .eql _ _ (.const (.slice none _ _)) _) rfl ?_;refine wU (jE rfl) ?_)
 exact hR _ hS
theorem yK {b:Nat}(hO:St w0 bs w H)[hH:Has H b dd 249](hR:∀ b' w',St w0 bs w' (⟨b',dd,249,true⟩::H)->ab R (.pointer (some ⟨b',0,none⟩)) w'):Calls prog 86 #[.pointer (some ⟨b,0,none⟩)] w R:=by
 have hS:=hO
 clear hO
 go_enter func86,ntmps86
 go_wp2_with (first|(first|go_at_call 134;refine ol hS ?_|go_at_call 90;refine vH hS ?_);clear hS;intro w hS;unfold ab|refine am 249 rfl hS ?_;clear hS;intro b2 w _ hS|refine aL rfl ?_|refine af rfl hS ?_)
 exact hR _ _ hS
def cS (m:Nat):Array Value:=#[.slice none 0 0,.map (some m)]
instance Kz:MapTy prog 102 99 174:=⟨by kernel_rfl,by kernel_rfl⟩
instance Kx:ScalarT prog 102:=⟨by kernel_rfl,by kernel_rfl⟩
instance Ky:ScalarT prog 43:=⟨by kernel_rfl,by kernel_rfl⟩
instance Kw:ScalarT prog 55:=⟨by kernel_rfl,by kernel_rfl⟩
instance GQ:SliceT prog 43 101:=⟨by kernel_rfl⟩
instance KB {m:Nat} : BuildT prog 104 [(1,.map (some m))] (cS m):=⟨fun w=>by kernel_rfl⟩
section
variable {b m:Nat}
instance Ox:CellAt (cS m) 0 (.slice none 0 0):=⟨rfl⟩
instance Ow:CellAt (cS m) (0+1) (.map (some m)):=⟨rfl⟩
instance Ov:SetAt (cS m) 0 (.slice none 0 0) (cS m):=⟨rfl,by simp [cS]⟩
theorem qH (hO:St w0 bs w H)[hH:Has H b (cS m) 104](hR:∀ w',St w0 bs w' H->ab R (.bool true) w'):Calls prog 36 #[.pointer (some ⟨b,0,none⟩)] w R:=by
 have hS:=hO
 clear hO
 go_enter func36,ntmps36
 go_wp2_with (first|refine aF (.binOp .neq _ _ (.const (.map none)) _) rfl ?_;refine wU (lx rfl) ?_|refine af rfl hS ?_)
 exact hR _ hS
theorem uW (hB:Mps W As w0 bs Ms)(hO:St w0 bs w H)(hR:∀ b m w0' bs' w',Mps W As w0' bs' ((m,[])::Ms)->St w0' bs' w' (⟨b,cS m,104,true⟩::H)->ab R (.pointer (some ⟨b,0,none⟩)) w'):Calls prog 54 #[] w R:=by
 have hS:=hO
 clear hO
 go_enter func54,ntmps54
 go_wp2_with (first|refine aF (.makeMap _ none) rfl ?_;refine iQ rfl hB hS ?_;clear hB hS;intro m w hB hS|refine am 104 rfl hS ?_;clear hS;intro b w _ hS|refine aL rfl ?_)
 exact hR _ _ _ _ _ hB hS
theorem nu (hO:St w0 bs w H)(hR:∀ w',St w0 bs w' H->ab R (.slice none 0 0) w'):Calls prog 37 #[.slice none 0 0] w R:=by
 have hS:=hO
 clear hO
 go_enter func37,ntmps37
 go_wp2_with (refine aF (.binOp .eql _ _ (.const (.slice none _ _)) _) rfl ?_;refine wU (jE rfl) ?_)
 exact hR _ hS
theorem A0 (hO:St w0 bs w H)[hH:Has H b (cS m) 104](hR:∀ w',St w0 bs w' H->ab R (.slice none 0 0) w'):Calls prog 18 #[.pointer (some ⟨b,0,none⟩)] w R:=by
 have hS:=hO
 clear hO
 go_enter func18,ntmps18
 go_wp2_with (first|(first|go_at_call 36;refine qH hS ?_|go_at_call 37;refine nu hS ?_);clear hS;intro w hS;unfold ab|refine af rfl hS ?_)
 exact hR _ hS
theorem qI (hB:Mps W As w0 bs Ms)(hO:St w0 bs w H)[hH:Has H b (cS m) 104][hM:MapIn Ms m []](hR:∀ b' m' w0' bs' w',Mps W As w0' bs' ((m',[])::Ms)->St w0' bs' w' (⟨b',cS m',104,true⟩::H)->ab R (.pointer (some ⟨b',0,none⟩)) w'):Calls prog 35 #[.pointer (some ⟨b,0,none⟩)] w R:=by
 have hS:=hO
 clear hO
 go_enter func35,ntmps35
 go_wp2_with (first|go_at_call 36;refine qH hS ?_;clear hS;intro w hS;unfold ab|go_at_call 54;refine uW hB hS ?_;clear hB hS;intro b3 m3 w0' bs' w hB hS;unfold ab|go_at_call 37;refine nu hS ?_;clear hS;intro w hS;unfold ab|refine wS (pW rfl hB hS ?_);clear hB hS;intro rI w hI hB hS|refine af rfl hS ?_|refine bP rfl hS ?_;clear hS;intro w hS)
 have hS0:=hS
 clear hS
 go_loopw [4] (fun _ wr=>St w (wl (⟨b3,cS m3,104,true⟩::H)) wr (⟨b3,cS m3,104,true⟩::H)) (fun _ _=>0)
 case atStart=>exact hS0
 case round=>
  clear hS0
  have hS:=hrel
  go_wp2_with (refine wS (jz rfl hI (.inr rfl) hS ?_))
  exact hR _ _ _ _ _ hB hS
end
end Go.Proofs.YtnbgljbhkeffkaaGreatDoor
namespace Go.Mm
open Go Go.RowKit
section
variable {P:Program}{o:Oper}{a:Act}{w:World}
class PlainT (P:Program)(t:TypeId)(z:outParam Value):Prop where
 u:∃ d,P.underlying t=some d∧(match d with|.interface _=>False|_=>True)
 z:∀ w,(zeroValue t).run P w=.ok z w
theorem eY {t:TypeId}{x:Operand}(ho:o.op=.makeInterface t x){v z:Value}[hx:Ev a x v][ht:PlainT P t z] : ay P o a w (.iface t v):=by
 obtain⟨d,h1,h2⟩:=ht.u
 unfold ay
 cases d <;> simp_all [execOp,Instr.makeInterface,run_underlying h1,hx.h,Result.andThen]
theorem je {t xT:TypeId}{x:Operand}(ho:o.op=.typeAssert x xT t true){v z:Value}[hx:Ev a x (.iface t v)][ht:PlainT P t z] : ay P o a w (.tuple #[v,.bool true]):=by
 obtain⟨d,h1,h2⟩:=ht.u
 unfold ay
 cases d <;> simp_all [execOp,Instr.typeAssert,run_underlying h1,hx.h,Result.andThen]
theorem p8 {t xT:TypeId}{x:Operand}(ho:o.op=.typeAssert x xT t true){t' : TypeId}{v z:Value}[hx:Ev a x (.iface t' v)][ht:PlainT P t z](hne:t'≠t):ay P o a w (.tuple #[z,.bool false]):=by
 obtain⟨d,h1,h2⟩:=ht.u
 have hz:=ht.z w
 unfold ay
 cases d <;> simp_all [execOp,Instr.typeAssert,run_underlying h1,hx.h,Result.andThen]
theorem wH {t xT:TypeId}{x:Operand}(ho:o.op=.typeAssert x xT t true){z:Value}[hx:Ev a x .nilIface][ht:PlainT P t z] : ay P o a w (.tuple #[z,.bool false]):=by
 obtain⟨d,h1,h2⟩:=ht.u
 have hz:=ht.z w
 unfold ay
 cases d <;> simp_all [execOp,Instr.typeAssert,run_underlying h1,hx.h,Result.andThen]
end
end Go.Mm
namespace Go.Proofs.YtnbgljbhkeffkaaGreatDoor
open Go.RowKit Go.Mm
instance Jr:PlainT prog 151 (.pointer none):=⟨⟨_,underlying151,trivial⟩,fun w=>by kernel_rfl⟩
instance Jq:PlainT prog 154 (.pointer none):=⟨⟨_,underlying154,trivial⟩,fun w=>by kernel_rfl⟩
instance Js:PlainT prog 157 (.pointer none):=⟨⟨_,underlying157,trivial⟩,fun w=>by kernel_rfl⟩
open Go.RowKit Go.Mm
variable {R:Ending->World->Prop}{w W:World}{w0:World}{As bs:List Nat}{H H' H1 H2 H3 E E' E1 E2 Ea Eh Er:List Ent}
variable {Ms Ms1 Ms2 Ms3:dF}
def cM (x y z:Value)(ba bl:Nat):Array Value:=#[.nilIface,x,y,z,.pointer (some ⟨ba,0,none⟩),.pointer (some ⟨bl,0,none⟩),.int .i64 0]
abbrev iF (p:Option Addr):Value:=.iface 151 (.pointer p)
abbrev iB (p:Option Addr):Value:=.iface 154 (.pointer p)
abbrev iL (p:Option Addr):Value:=.iface 157 (.pointer p)
def OW (p:Option Addr)(L:List (Int×Int))(mf ml:Nat)(E:List Ent):Prop:=
 ∃ b pf pb pd Ef Eb Ed ba bl Tb Td,p=some ⟨b,0,none⟩∧FD pf (some L) mf Ef∧PA pb Tb Eb∧DA pd Td Ed ∧
  E=⟨b,cM (iF pf) (iB pb) (iL pd) ba bl,96,true⟩::⟨ba,dd,249,true⟩::⟨bl,cS ml,104,true⟩::(Ef++(Eb++Ed))
instance Jz:ScalarT prog 56:=⟨by kernel_rfl,by kernel_rfl⟩
instance JA:ScalarT prog 92:=⟨by kernel_rfl,by kernel_rfl⟩
instance Gq:AggT prog 93 4:=⟨by kernel_rfl,by kernel_rfl⟩
instance JE {b off:Nat} : FieldAt prog 96 0 b off off:=⟨fun w=>by kernel_rfl⟩
instance JD {b off:Nat} : FieldAt prog 96 1 b off (off+4):=⟨fun w=>by kernel_rfl⟩
instance JC {b off:Nat} : FieldAt prog 96 2 b off (off+5):=⟨fun w=>by kernel_rfl⟩
instance JB {b off:Nat} : FieldAt prog 96 3 b off (off+6):=⟨fun w=>by kernel_rfl⟩
instance JF {ba bl:Nat} : BuildT prog 96 [(1,.pointer (some ⟨ba,0,none⟩)),(2,.pointer (some ⟨bl,0,none⟩))] (cM .nilIface .nilIface .nilIface ba bl):=⟨fun w=>by kernel_rfl⟩
instance Gp {ba bl:Nat} : BuildT prog 96 [(1,.pointer (some ⟨ba,0,none⟩)),(2,.pointer (some ⟨bl,0,none⟩)),(3,.int .i64 0)] (cM .nilIface .nilIface .nilIface ba bl):=⟨fun w=>by kernel_rfl⟩
theorem um {b i:Nat}(hi:i<4):IdxV prog 93 (.pointer (some ⟨b,0,none⟩)) i ⟨b,0+i,none⟩:=by
 have:=PP (P:=prog) (t:=93) (m:=4) (z:=1) (e:=92) (b:=b) (off:=0) (i:=i) (by kernel_rfl) hi
 simpa using this
instance NM {b:Nat} : IdxV prog 93 (.pointer (some ⟨b,0,none⟩)) 1 ⟨b,0+1,none⟩:=um (i:=1) (by decide)
instance NL {b:Nat} : IdxV prog 93 (.pointer (some ⟨b,0,none⟩)) 2 ⟨b,0+2,none⟩:=um (i:=2) (by decide)
instance NK {b:Nat} : IdxV prog 93 (.pointer (some ⟨b,0,none⟩)) 3 ⟨b,0+3,none⟩:=um (i:=3) (by decide)
section
variable {x y z:Value}{ba bl:Nat}
instance NF:CellAt (cM x y z ba bl) (0+1) x:=⟨rfl⟩
instance NE:CellAt (cM x y z ba bl) (0+4) (.pointer (some ⟨ba,0,none⟩)):=⟨rfl⟩
instance ND:CellAt (cM x y z ba bl) (0+5) (.pointer (some ⟨bl,0,none⟩)):=⟨rfl⟩
instance NC:CellAt (cM x y z ba bl) (0+6) (.int .i64 0):=⟨rfl⟩
instance NB {u:Value} : SetAt (cM x y z ba bl) (0+1) u (cM u y z ba bl):=⟨rfl,by simp [cM]⟩
instance NA {u:Value} : SetAt (cM x y z ba bl) (0+2) u (cM x u z ba bl):=⟨rfl,by simp [cM]⟩
instance Nz {u:Value} : SetAt (cM x y z ba bl) (0+3) u (cM x y u ba bl):=⟨rfl,by simp [cM]⟩
theorem gX {b:Nat}(hO:St w0 bs w H)[hH:Has H b (cM x y z ba bl) 96](hR:∀ w',St w0 bs w' H->ab R (.bool true) w'):Calls prog 34 #[.pointer (some ⟨b,0,none⟩)] w R:=by
 have hS:=hO
 clear hO
 go_enter func34,ntmps34
 go_wp2_with (refine af rfl hS ?_)
 exact hR _ hS
theorem xv (hO:St w0 bs w H)(hR:∀ w',St w0 bs w' H->ab R (.bool true) w'):Calls prog 208 #[.int .i64 1,.int .i64 5] w R:=by
 have hS:=hO
 clear hO
 go_enter func208,ntmps208
 go_wp2_with (go_skip)
 exact hR _ hS
end
section
variable {p:Option Addr}{L:List (Int×Int)}{mf ml:Nat}
theorem oZ (hO:St w0 bs w H)(hT:OW p L mf ml E)[hc:Cut H E H1](hR:∀ w',St w0 bs w' (E++H1)->ab R (.int .i64 0) w'):Calls prog 242 #[.pointer p] w R:=by
 have hS:=hO.fr E H1
 clear hO
 obtain⟨b,pf,pb,pd,Ef,Eb,Ed,ba,bl,Tb,Td,rfl,hF,hP,hD,rfl⟩:=id hT
 simp only[aP] at hS
 go_enter func242,ntmps242
 go_wp2_with (first|go_at_call 34;refine gX hS ?_;clear hS;intro w hS;unfold ab|refine af rfl hS ?_)
 exact hR _ (by(try simp only[aP]);exact hS.p)
theorem rS (hB:Mps W As w0 bs Ms)(hO:St w0 bs w H)(hT:OW p L mf ml E)[hc:Cut H E H1][hM:MapIn Ms ml []](hR:∀ b' m' w0' bs' w',Mps W As w0' bs' ((m',[])::Ms)->St w0' bs' w' (⟨b',cS m',104,true⟩::(E++H1))->ab R (.pointer (some ⟨b',0,none⟩)) w'):Calls prog 17 #[.pointer p] w R:=by
 have hS:=hO.fr E H1
 clear hO
 obtain⟨b,pf,pb,pd,Ef,Eb,Ed,ba,bl,Tb,Td,rfl,hF,hP,hD,rfl⟩:=id hT
 simp only[aP] at hS
 go_enter func17,ntmps17
 go_wp2_with (first|go_at_call 34;refine gX hS ?_;clear hS;intro w hS;unfold ab|go_at_call 35;refine qI (m:=ml) hB hS ?_;clear hB hS;intro b2 m2 w0' bs' w hB hS;unfold ab|refine af rfl hS ?_)
 exact hR _ _ _ _ _ hB (by(try simp only[aP]);exact hS.p)
theorem Ax (hB:Mps W As w0 bs Ms)(hO:St w0 bs w H)(g:Int)(hg:1≤g∧g≤4294967295)(hR:∀ p mf ml E w0' bs' w',OW p (List.replicate 64 (0,g)) mf ml E->Mps W As w0' bs' ((ml,[])::(mf,[])::Ms)->St w0' bs' w' (E++H)->ab R (.tuple #[.pointer p,.int .i64 0]) w'):Calls prog 25 #[.int .u32 g] w R:=by
 have hS:=hO
 clear hO
 have eb:=HD (show uB 64 1048576 g=0 by unfold uB jZ;simp;omega)
 have el:=HD (show uA 64 g=0 by unfold uA jY;simp;omega)
 have hg0:=HD (show 0≤g∧g≤4294967295 by omega)
 have hg':=HD hg
 clear hg
 go_enter func25,ntmps25
 go_wp2_with (first|go_at_call 49;refine iK hg'.out.1 hg'.out.2 ?_;unfold ab|go_at_call 50;refine Bo hB hS g hg'.out ?_;clear hB hS;intro pf mf Ef w0' bs' w hF hB hS;unfold ab|go_at_call 51;refine Aw hS 64 1048576 g hg0.out 0 rfl eb.out ?_;clear hS;intro pb Eb w hP hS;unfold ab|go_at_call 52;refine Bq hS 64 g hg0.out 0 rfl el.out ?_;clear hS;intro pd Ed w hD hS;unfold ab|go_at_call 53;refine BL hS ?_;clear hS;intro ba w hS;unfold ab|go_at_call 54;refine uW hB hS ?_;clear hB hS;intro bl ml w0' bs' w hB hS;unfold ab|refine am 96 rfl hS ?_;clear hS;intro b w _ hS|refine aL rfl ?_)
 have hS0:St w0' bs' w (⟨b,cM .nilIface .nilIface .nilIface ba bl,96,true⟩::⟨ba,dd,249,true⟩::⟨bl,cS ml,104,true⟩::(Ef++(Eb++(Ed++H)))):=hS.p
 refine aj (X:=Unit) (fun w=>St w0' bs' w (⟨b,cM .nilIface .nilIface .nilIface ba bl,96,true⟩::⟨ba,dd,249,true⟩::⟨bl,cS ml,104,true⟩::(Ef++(Eb++(Ed++H)))))
  [(12,fun _ w=>St w0' bs' w (⟨b,cM (iF pf) .nilIface .nilIface ba bl,96,true⟩::⟨ba,dd,249,true⟩::⟨bl,cS ml,104,true⟩::(Ef++(Eb++(Ed++H))))),
  (16,fun _ w=>St w0' bs' w (⟨b,cM (iF pf) (iB pb) .nilIface ba bl,96,true⟩::⟨ba,dd,249,true⟩::⟨bl,cS ml,104,true⟩::(Ef++(Eb++(Ed++H))))),
  (20,fun _ w=>St w0' bs' w (⟨b,cM (iF pf) (iB pb) (iL pd) ba bl,96,true⟩::⟨ba,dd,249,true⟩::⟨bl,cS ml,104,true⟩::(Ef++(Eb++(Ed++H)))))] (hS0.drawn _) (by kernel_rfl) (by kernel_rfl) ?_
 (refine oP (fun χ w=>ad rfl) ?_)
 (refine oP (fun χ w=>ad rfl) ?_)
 (refine oP (fun χ w=>ad rfl) ?_)
 (refine oP (fun χ w=>ad rfl) ?_)
 (refine oP (fun χ w=>eY rfl) ?_)
 (refine oP (fun χ w=>ad rfl) ?_)
 (refine oP (fun χ w=>eY rfl) ?_)
 (refine oP (fun χ w=>ad rfl) ?_)
 (refine oP (fun χ w=>eY rfl) ?_)
 (refine oP (fun χ w=>ah rfl) ?_)
 (refine oP (fun χ w=>ag rfl) ?_)
 (refine oP (fun χ w=>aY _ _ _ rfl) ?_)
 refine aO 0 rfl (by kernel_rfl) (fun _=>rfl) (fun _=>undef) (fun χ w hw=>bV rfl (show St w0' bs' w _ from hw) (fun w' hS'=>⟨(),rfl,hS'⟩)) ?_
 (refine oP (fun χ w=>ah rfl) ?_)
 (refine oP (fun χ w=>ag rfl) ?_)
 (refine oP (fun χ w=>aY _ _ _ rfl) ?_)
 refine aO 1 rfl (by kernel_rfl) (fun _=>rfl) (fun _=>undef) (fun χ w hw=>bV rfl (show St w0' bs' w _ from hw) (fun w' hS'=>⟨(),rfl,hS'⟩)) ?_
 (refine oP (fun χ w=>ah rfl) ?_)
 (refine oP (fun χ w=>ag rfl) ?_)
 (refine oP (fun χ w=>aY _ _ _ rfl) ?_)
 refine aO 2 rfl (by kernel_rfl) (fun _=>rfl) (fun _=>undef) (fun χ w hw=>bV rfl (show St w0' bs' w _ from hw) (fun w' hS'=>⟨(),rfl,hS'⟩)) ?_
 refine aV rfl ?_
 intro χ w hS
 replace hS:St w0' bs' w (⟨b,cM (iF pf) (iB pb) (iL pd) ba bl,96,true⟩::⟨ba,dd,249,true⟩::⟨bl,cS ml,104,true⟩::(Ef++(Eb++(Ed++H)))):=hS
 clear χ
 go_wp2_with (go_skip)
 exact hR _ _ _ _ _ _ _ ⟨b,pf,pb,pd,Ef,Eb,Ed,ba,bl,_,_,rfl,hF,hP,hD,rfl⟩ hB (by(try simp only[aP]);exact hS.p)
theorem xb {P:Program}{fn:Func}{p q r:Tmp}{t:TypeId}(h:fn.results=#[.tmp q,.cell p t,.tmp r]){tmps:List Value}{b:Nat}{u v:Value}[hp:Nth tmps p (.pointer (some ⟨b,0,none⟩))][hq:Nth tmps q u][hr:Nth tmps r v]
  {w0 w:World} {bs:List Nat} {H:List Ent} (hS:St w0 bs w H) {x:Value} [hv:LoadV P H t b 0 x] : (results fn tmps.toArray).run P w=.ok (.tuple #[u,x,v]) w:=by
 have h1:tmps[p]?.getD undef=.pointer (some ⟨b,0,none⟩):=by simp[hp.h]
 have h2:tmps[q]?.getD undef=u:=by simp[hq.h]
 have h3:tmps[r]?.getD undef=v:=by simp[hr.h]
 simp[results,h,h1,h2,h3,asAddr,hv.h _ _ _ hS]
theorem ul {b ba bl:Nat}{y z:Value}{pf:Option Addr}{Ef:List Ent}{i g:Int}{L' : List (Int×Int)}(hB:Mps W As w0 bs Ms)(hO:St w0 bs w (⟨b,cM (iF pf) y z ba bl,96,true⟩::(Ef++H)))(hF:FD pf (some L) mf Ef)(hL:0<L.length)(hE:jx (some L)=0)(hI:kC (some L)=i)(hG:kD (some L)=g)(hT:ir (some L)=some L')[hM:MapIn Ms mf []]
  (hR:∀ p2 m2 E2 w0' bs' w',FD p2 (some L') m2 E2->Mps W As w0' bs' ((m2,[(.agg (vD i g),vI 5)])::Ms)->St w0' bs' w' (E2++(⟨b,cM (iF pf) y z ba bl,96,true⟩::(Ef++H)))->ab R (.tuple #[iF p2,.agg (vD i g),.int .i64 0]) w'):Calls prog 209 #[.pointer (some ⟨b,0,none⟩),.int .i64 1,.int .i64 5] w R:=by
 have hS:=hO
 clear hO
 have hT':=HD hT
 have hE':=HD hE
 have hI':=HD hI
 have hG':=HD hG
 clear hT hE hI hG
 go_enter func209,ntmps209
 go_wp2_with (first|refine aq (o:=⟨some 7,_,_,_,_,_⟩) 99 rfl hS ?_;clear hS;intro b7 w _ hS|refine aq (o:=⟨some 11,_,_,_,_,_⟩) 99 rfl hS ?_;clear hS;intro b11 w _ hS|refine wU (je rfl) ?_|go_at_call 87;refine qW hL hB hS hF ?_;clear hB hS;intro p2 m2 E2 w0' bs' w hF2 hB hS;unfold ab|go_at_call 289;refine yi hB hS hF2 hE'.out hI'.out hG'.out ?_;rw[hT'.out];clear hB hS;intro E3 w0' bs' w hF3 hB hS;unfold ab|refine gj 5 ⟨b7,#[.int .i64 0,.int .i64 0,.int .u32 0],99,true⟩ ⟨b7,vD i g,99,true⟩ hS ?_;(repeat (first|refine m8 (fun _=>rfl) rfl (fun χ w x hw=>ai _ _ rfl hw) ?_|refine uo rfl (fun _=>rfl) (fun χ w hw=>aK _ _ _ rfl hw (fun w hS=>⟨rfl,hS⟩)) ?_|refine oP (fun χ w=>ad rfl) ?_|refine oP (fun χ w=>aG rfl) ?_|refine oP (fun χ w=>eY rfl) ?_));refine o4 rfl ?_;clear hS;intro χ w hS;clear χ|refine aM rfl ?_|refine af rfl hS ?_|refine ak rfl hS ?_;clear hS;intro w hS)
 refine bodyPost_ret (xb rfl hS) rfl ?_
 exact hR _ _ _ _ _ _ hF3 hB (by(try simp only[aP]);exact hS.p)
theorem o0 {i g:Int}{L' : List (Int×Int)}(hB:Mps W As w0 bs Ms)(hO:St w0 bs w H)(hT:OW p L mf ml E)[hc:Cut H E H1](hL:0<L.length)(hE:jx (some L)=0)(hI:kC (some L)=i)(hG:kD (some L)=g)(hL' : ir (some L)=some L')[hM:MapIn Ms mf []]
  (hR:∀ m2 E2 w0' bs' w',OW p L' m2 ml E2->Mps W As w0' bs' ((m2,[(.agg (vD i g),vI 5)])::Ms)->St w0' bs' w' (E2++H1)->ab R (.tuple #[.agg (vD i g),.int .i64 0]) w'):Calls prog 149 #[.pointer p,.int .i64 1,.int .i64 5] w R:=by
 have hS:=hO.fr E H1
 clear hO
 obtain⟨b,pf,pb,pd,Ef,Eb,Ed,ba,bl,Tb,Td,rfl,hF,hP,hD,rfl⟩:=id hT
 simp only[aP] at hS
 have hT':=HD hL'
 have hE':=HD hE
 have hI':=HD hI
 have hG':=HD hG
 clear hL' hE hI hG
 go_enter func149,ntmps149
 go_wp2_with (first|refine aq (o:=⟨some 6,_,_,_,_,_⟩) 99 rfl hS ?_;clear hS;intro b6 w _ hS|refine aq (o:=⟨some 9,_,_,_,_,_⟩) 99 rfl hS ?_;clear hS;intro b9 w _ hS|(first|go_at_call 34;refine gX hS ?_|go_at_call 208;refine xv hS ?_);clear hS;intro w hS;unfold ab|go_at_call 209;refine ul hB (show St w0 bs _ (⟨b,cM (iF pf) (iB pb) (iL pd) ba bl,96,true⟩::(Ef++(⟨b6,#[.int .i64 0,.int .i64 0,.int .u32 0],99,true⟩::⟨ba,dd,249,true⟩::⟨bl,cS ml,104,true⟩::(Eb++(Ed++H1))))) from hS.p) hF hL hE'.out hI'.out hG'.out hT'.out ?_;clear hB hS;intro p2 m2 E2 w0' bs' w hF2 hB hS;unfold ab|go_at_call 210;refine yJ hS ?_;clear hS;intro w hS;unfold ab|refine aM rfl ?_|(first|refine af rfl hS ?_|refine au rfl hS ?_)|(first|refine bP rfl hS ?_|refine ak rfl hS ?_);clear hS;intro w hS)
 refine bodyPost_ret (aJ rfl hS) rfl ?_
 exact hR _ _ _ _ _ ⟨b,p2,pb,pd,E2,Eb,Ed,ba,bl,Tb,Td,rfl,hF2,hP,hD,rfl⟩ hB (by(try simp only[aP]);exact hS.p)
end
open Go.RowKit Go.Mm
abbrev Ay (W:World)(As:List Nat)(Ms:dF)(HH:List Ent):lg CpX:=
 [(4,fun χ w=>Jm W As Ms (⟨(χ 4).m,dd,249,true⟩::HH) w),
 (9,fun χ w=>Jm W As (((χ 9).n,[])::Ms) (⟨(χ 9).m,cS (χ 9).n,104,true⟩::⟨(χ 4).m,dd,249,true⟩::HH) w),
 (15,fun χ w=>Jm W As (((χ 9).n,[])::Ms) (⟨(χ 15).m,cM .nilIface .nilIface .nilIface (χ 4).m (χ 9).m,96,true⟩::⟨(χ 9).m,cS (χ 9).n,104,true⟩::⟨(χ 4).m,dd,249,true⟩::HH) w)]
theorem Gr {W:World}{As:List Nat}{Ms:dF}{HH:List Ent} : (∀ w,Jm W As Ms HH w->∃ w0 bs,St w0 bs w HH)∧∀ s∈Ay W As Ms HH,∀ χ w,s.2 χ w->∃ w0 bs,St w0 bs w HH:=by
 refine⟨fun w ⟨w0,bs,_,h⟩=>⟨w0,bs,h⟩,fun s hs χ w h=>?_⟩
 simp only[Ay,List.mem_cons,List.not_mem_nil,or_false] at hs
 rcases hs with rfl|rfl|rfl
 ·obtain⟨w0,bs,_,h⟩:=h;exact⟨w0,bs,cB (A:=[_]) h⟩
 ·obtain⟨w0,bs,_,h⟩:=h;exact⟨w0,bs,cB (A:=[_,_]) h⟩
 ·obtain⟨w0,bs,_,h⟩:=h;exact⟨w0,bs,cB (A:=[_,_,_]) h⟩
instance JG {x y z:Value}{ba bl:Nat} : CellsAt (cM x y z ba bl) 0 4 #[.nilIface,x,y,z]:=⟨fun j hj=>match j,hj with|0,_=>rfl|1,_=>rfl|2,_=>rfl|3,_=>rfl,rfl⟩
section
variable {x y z:Value}
instance NJ:IxA prog 93 (.agg #[.nilIface,x,y,z]) (.int .i64 0) .nilIface:=⟨fun w=>by kernel_rfl⟩
instance NI:IxA prog 93 (.agg #[.nilIface,x,y,z]) (.int .i64 1) x:=⟨fun w=>by kernel_rfl⟩
instance NH:IxA prog 93 (.agg #[.nilIface,x,y,z]) (.int .i64 2) y:=⟨fun w=>by kernel_rfl⟩
instance NG:IxA prog 93 (.agg #[.nilIface,x,y,z]) (.int .i64 3) z:=⟨fun w=>by kernel_rfl⟩
end
section
variable {p:Option Addr}{L:List (Int×Int)}{mf ml:Nat}
theorem qq {l:List (Value×Value)}(hL:0<L.length)(hB:Mps W As w0 bs Ms)(hO:St w0 bs w H)(hT:OW p L mf ml E)[hc:Cut H E H1][hM:MapIn Ms mf l][hM2:MapIn Ms ml []]
  (hR:∀ p' mf' ml' E' w0' bs' w',OW p' L mf' ml' E'->Mps W As w0' bs' ((mf',l)::(ml',[])::Ms)->St w0' bs' w' (E'++(E++H1))->ab R (.pointer p') w'):Calls prog 33 #[.pointer p] w R:=by
 have hS:=hO.fr E H1
 clear hO
 obtain⟨b,pf,pb,pd,Ef,Eb,Ed,ba,bl,Tb,Td,rfl,hF,hP,hD,rfl⟩:=id hT
 simp only[aP] at hS
 go_enter func33,ntmps33
 go_wp2_with (go_at_call 34;refine gX hS ?_;clear hS;intro w hS;unfold ab)
 refine aj (X:=CpX) (Jm W As Ms (⟨b,cM (iF pf) (iB pb) (iL pd) ba bl,96,true⟩::⟨ba,dd,249,true⟩::⟨bl,cS ml,104,true⟩::(Ef++(Eb++(Ed++H1))))) (Ay W As Ms (⟨b,cM (iF pf) (iB pb) (iL pd) ba bl,96,true⟩::⟨ba,dd,249,true⟩::⟨bl,cS ml,104,true⟩::(Ef++(Eb++(Ed++H1))))) ⟨w0,bs,hB,hS.drawn _⟩ (by kernel_rfl) (by kernel_rfl) ?_
 (refine oP (fun χ w=>ad rfl) ?_)
 (refine oP (fun χ w=>ah rfl) ?_)
 (refine oP (fun χ w=>ag rfl) ?_)
 refine dt _ Gr (fun _=>rfl) rfl (fun χ w hw=>by obtain⟨w0,bs,hw⟩:=hw;exact ac _ _ rfl hw) ?_
 refine aO 0 rfl (by kernel_rfl) (fun _=>rfl) (fun x=>.pointer (some ⟨x.m,0,none⟩)) (fun χ w hw=>aw rfl ae ?_) ?_
 ·obtain⟨w0,bs,hB,hS⟩:=hw
  exact yK hS (fun bn w' g=>⟨_,rfl,⟨none,[],none,0,0,bn⟩,rfl,w0,bs,hB,g⟩)
 (refine oP (fun χ w=>ad rfl) ?_)
 (refine oP (fun χ w=>ah rfl) ?_)
 (refine oP (fun χ w=>ag rfl) ?_)
 refine dt _ Gr (fun _=>rfl) rfl (fun χ w hw=>by obtain⟨w0,bs,hw⟩:=hw;exact ac _ _ rfl hw) ?_
 refine aO 1 rfl (by kernel_rfl) (fun _=>rfl) (fun x=>.pointer (some ⟨x.m,0,none⟩)) (fun χ w hw=>aw rfl ae ?_) ?_
 ·obtain⟨w0,bs,hB,hS⟩:=hw
  exact qI (m:=ml) hB hS (fun bn m2 w0' bs' w' g1 g2=>⟨_,rfl,⟨none,[],none,m2,0,bn⟩,rfl,w0',bs',g1,g2⟩)
 (refine oP (fun χ w=>ad rfl) ?_)
 (refine oP (fun χ w=>ah rfl) ?_)
 (refine oP (fun χ w=>ag rfl) ?_)
 refine dt _ Gr (fun _=>rfl) rfl (fun χ w hw=>by obtain⟨w0,bs,hw⟩:=hw;exact ac _ _ rfl hw) ?_
 refine o7 2 (by kernel_rfl) (fun _=>rfl) rfl (fun χ=>.agg (cM .nilIface .nilIface .nilIface (χ 4).m (χ 9).m)) (fun χ χ' h=>?_) (fun χ w _=>bQ _ _ rfl) ?_
 ·simp only
  rw[h 4 (.inr (by kernel_rfl)),h 9 (.inr (by kernel_rfl))]
 refine aO 2 rfl (by kernel_rfl) (fun _=>rfl) (fun x=>.pointer (some ⟨x.m,0,none⟩)) (fun χ w hw=>?_) ?_
 ·obtain⟨w0,bs,hB,hS⟩:=hw
  exact fp rfl hS (fun bn w' _ g=>⟨⟨none,[],none,0,0,bn⟩,rfl,w0,bs,hB,(show St w0 bs w' (⟨bn,cM .nilIface .nilIface .nilIface (χ 4).m (χ 9).m,96,true⟩::⟨(χ 9).m,cS (χ 9).n,104,true⟩::⟨(χ 4).m,dd,249,true⟩::⟨b,cM (iF pf) (iB pb) (iL pd) ba bl,96,true⟩::⟨ba,dd,249,true⟩::⟨bl,cS ml,104,true⟩::(Ef++(Eb++(Ed++H1)))) from g)⟩)
 refine eQ 15 (fun _=>rfl) rfl (fun x=>.pointer (some ⟨x.m,0,none⟩)) (fun χ w=>aG rfl) ?_
 refine aV rfl ?_
 rintro χ w ⟨w0,bs,hB,hS⟩
 simp only[Nat.zero_add,Nat.reduceAdd]
 generalize χ 4=x4 at hS ⊢
 generalize χ 9=x9 at hS hB ⊢
 generalize χ 15=x15 at hS ⊢
 obtain⟨_,_,_,_,_,ba2⟩:=x4
 obtain⟨_,_,_,ml2,_,bl2⟩:=x9
 obtain⟨_,_,_,_,_,b2⟩:=x15
 simp only at hS hB
 clear χ
 go_wp2_with (refine au rfl hS ?_)
 have hS0:=hS
 have hB0:=hB
 clear hS hB
 go_loopw [32] (fun u wr=>
  (∃ w0 bs,(u=.int .i64 0∨u=.int .i64 1)∧Mps W As w0 bs ((ml2,[])::Ms)∧St w0 bs wr (⟨b2,cM .nilIface .nilIface .nilIface ba2 bl2,96,true⟩::⟨bl2,cS ml2,104,true⟩::⟨ba2,dd,249,true⟩::⟨b,cM (iF pf) (iB pb) (iL pd) ba bl,96,true⟩::⟨ba,dd,249,true⟩::⟨bl,cS ml,104,true⟩::(Ef++(Eb++(Ed++H1))))) ∨
  (∃ w0 bs p2 m2 E2,u=.int .i64 2∧FD p2 (some L) m2 E2∧Mps W As w0 bs ((m2,l)::(ml2,[])::Ms)∧St w0 bs wr (⟨b2,cM (iF p2) .nilIface .nilIface ba2 bl2,96,true⟩::(E2++(⟨bl2,cS ml2,104,true⟩::⟨ba2,dd,249,true⟩::⟨b,cM (iF pf) (iB pb) (iL pd) ba bl,96,true⟩::⟨ba,dd,249,true⟩::⟨bl,cS ml,104,true⟩::(Ef++(Eb++(Ed++H1))))))) ∨
  (∃ w0 bs p2 m2 E2 p3 E3,u=.int .i64 3∧FD p2 (some L) m2 E2∧PA p3 (Cf Tb) E3∧Mps W As w0 bs ((m2,l)::(ml2,[])::Ms)∧St w0 bs wr (⟨b2,cM (iF p2) (iB p3) .nilIface ba2 bl2,96,true⟩::(E3++(E2++(⟨bl2,cS ml2,104,true⟩::⟨ba2,dd,249,true⟩::⟨b,cM (iF pf) (iB pb) (iL pd) ba bl,96,true⟩::⟨ba,dd,249,true⟩::⟨bl,cS ml,104,true⟩::(Ef++(Eb++(Ed++H1)))))))) ∨
  (∃ w0 bs p2 m2 E2 p3 E3 p4 E4,u=.int .i64 4∧FD p2 (some L) m2 E2∧PA p3 (Cf Tb) E3∧DA p4 (Fp Td) E4∧Mps W As w0 bs ((m2,l)::(ml2,[])::Ms)∧St w0 bs wr (⟨b2,cM (iF p2) (iB p3) (iL p4) ba2 bl2,96,true⟩::(E4++(E3++(E2++(⟨bl2,cS ml2,104,true⟩::⟨ba2,dd,249,true⟩::⟨b,cM (iF pf) (iB pb) (iL pd) ba bl,96,true⟩::⟨ba,dd,249,true⟩::⟨bl,cS ml,104,true⟩::(Ef++(Eb++(Ed++H1)))))))))) (fun u _=>4 - (intOf u).toNat)
 case atStart=>exact .inl ⟨_,_,.inl rfl,hB0,hS0⟩
 case round=>
  clear hS0 hB0
  rcases hrel with ⟨w0,bs,rfl|rfl,hB,hS⟩|⟨w0,bs,p2,m2,E2,rfl,hF2,hB,hS⟩|⟨w0,bs,p2,m2,E2,p3,E3,rfl,hF2,hP2,hB,hS⟩|⟨w0,bs,p2,m2,E2,p3,E3,p4,E4,rfl,hF2,hP2,hD2,hB,hS⟩
  ·go_wp2_with (first|refine wU (wH rfl) ?_|refine wU (cD rfl) ?_)
   go_roundw
   case rel=>exact .inl ⟨_,_,.inr rfl,hB,hS⟩
   case measure=>simp[intOf]
  ·go_wp2_with (first|refine wU (je rfl) ?_|refine wU (cD rfl) ?_)
   refine aj (X:=CpX) (Jm W As ((ml2,[])::Ms) (⟨b2,cM .nilIface .nilIface .nilIface ba2 bl2,96,true⟩::⟨bl2,cS ml2,104,true⟩::⟨ba2,dd,249,true⟩::⟨b,cM (iF pf) (iB pb) (iL pd) ba bl,96,true⟩::⟨ba,dd,249,true⟩::⟨bl,cS ml,104,true⟩::(Ef++(Eb++(Ed++H1)))))
    [(3,fun χ w=>FD (χ 3).p (some L) (χ 3).n (χ 3).E∧Jm W As (((χ 3).n,l)::(ml2,[])::Ms) ((χ 3).E++(⟨b2,cM .nilIface .nilIface .nilIface ba2 bl2,96,true⟩::⟨bl2,cS ml2,104,true⟩::⟨ba2,dd,249,true⟩::⟨b,cM (iF pf) (iB pb) (iL pd) ba bl,96,true⟩::⟨ba,dd,249,true⟩::⟨bl,cS ml,104,true⟩::(Ef++(Eb++(Ed++H1))))) w),
    (8,fun χ w=>FD (χ 3).p (some L) (χ 3).n (χ 3).E∧Jm W As (((χ 3).n,l)::(ml2,[])::Ms) (⟨b2,cM (iF (χ 3).p) .nilIface .nilIface ba2 bl2,96,true⟩::((χ 3).E++(⟨bl2,cS ml2,104,true⟩::⟨ba2,dd,249,true⟩::⟨b,cM (iF pf) (iB pb) (iL pd) ba bl,96,true⟩::⟨ba,dd,249,true⟩::⟨bl,cS ml,104,true⟩::(Ef++(Eb++(Ed++H1)))))) w)] ⟨w0,bs,hB,hS.drawn _⟩ (by kernel_rfl) (by kernel_rfl) ?_
   (refine oP (fun χ w=>ad rfl) ?_)
   (refine oP (fun χ w=>ad rfl) ?_)
   (refine oP (fun χ w=>ad rfl) ?_)
   refine aO 0 rfl (by kernel_rfl) (fun _=>rfl) (fun x=>.pointer x.p) (fun χ w hw=>aw rfl ae ?_) ?_
   ·obtain⟨w0,bs,hB,hS⟩:=hw
    exact qW hL hB hS hF (fun q m3 E3 w0' bs' w' g1 g2 g3=>⟨_,rfl,⟨q,E3,none,m3,0,0⟩,rfl,g1,w0',bs',g2,(show St w0' bs' w' (E3++(⟨b2,cM .nilIface .nilIface .nilIface ba2 bl2,96,true⟩::⟨bl2,cS ml2,104,true⟩::⟨ba2,dd,249,true⟩::⟨b,cM (iF pf) (iB pb) (iL pd) ba bl,96,true⟩::⟨ba,dd,249,true⟩::⟨bl,cS ml,104,true⟩::(Ef++(Eb++(Ed++H1))))) from g3.p)⟩)
   refine eQ 3 (fun _=>rfl) rfl (fun x=>iF x.p) (fun χ w=>eY rfl) ?_
   (refine oP (fun χ w=>ah rfl) ?_)
   (refine oP (fun χ w=>ag rfl) ?_)
   (refine oP (fun χ w=>aY _ _ _ rfl) ?_)
   refine aO 1 rfl (by kernel_rfl) (fun _=>rfl) (fun _=>undef) (fun χ w hw=>?_) ?_
   ·obtain⟨g1,w0,bs,hB,hS⟩:=hw
    exact bV rfl (show St w0 bs w (⟨b2,cM .nilIface .nilIface .nilIface ba2 bl2,96,true⟩::((χ 3).E++(⟨bl2,cS ml2,104,true⟩::⟨ba2,dd,249,true⟩::⟨b,cM (iF pf) (iB pb) (iL pd) ba bl,96,true⟩::⟨ba,dd,249,true⟩::⟨bl,cS ml,104,true⟩::(Ef++(Eb++(Ed++H1)))))) from hS.p) (fun w' hS'=>⟨default,rfl,g1,w0,bs,hB,hS'⟩)
   refine aV rfl ?_
   rintro χ w ⟨g1,w0,bs,hB,hS⟩
   simp only[Nat.zero_add,Nat.reduceAdd]
   generalize χ 3=x3 at g1 hB hS ⊢
   obtain⟨q,E3,_,m3,_,_⟩:=x3
   simp only at g1 hB hS
   clear χ
   go_wp2_with (go_skip)
   go_roundw
   case rel=>exact .inr (.inl ⟨_,_,_,_,_,rfl,g1,hB,hS⟩)
   case measure=>simp[intOf]
  ·go_wp2_with (first|(first|refine wU (je rfl) ?_|refine wU (p8 (t':=154) rfl (by decide)) ?_)|refine wU (cD rfl) ?_)
   refine aj (X:=CpX) (fun w=>St w0 bs w (⟨b2,cM (iF p2) .nilIface .nilIface ba2 bl2,96,true⟩::(E2++(⟨bl2,cS ml2,104,true⟩::⟨ba2,dd,249,true⟩::⟨b,cM (iF pf) (iB pb) (iL pd) ba bl,96,true⟩::⟨ba,dd,249,true⟩::⟨bl,cS ml,104,true⟩::(Ef++(Eb++(Ed++H1)))))))
    [(3,fun χ w=>PA (χ 3).p (Cf Tb) (χ 3).E∧St w0 bs w ((χ 3).E++(⟨b2,cM (iF p2) .nilIface .nilIface ba2 bl2,96,true⟩::(E2++(⟨bl2,cS ml2,104,true⟩::⟨ba2,dd,249,true⟩::⟨b,cM (iF pf) (iB pb) (iL pd) ba bl,96,true⟩::⟨ba,dd,249,true⟩::⟨bl,cS ml,104,true⟩::(Ef++(Eb++(Ed++H1)))))))),
    (8,fun χ w=>PA (χ 3).p (Cf Tb) (χ 3).E∧St w0 bs w (⟨b2,cM (iF p2) (iB (χ 3).p) .nilIface ba2 bl2,96,true⟩::((χ 3).E++(E2++(⟨bl2,cS ml2,104,true⟩::⟨ba2,dd,249,true⟩::⟨b,cM (iF pf) (iB pb) (iL pd) ba bl,96,true⟩::⟨ba,dd,249,true⟩::⟨bl,cS ml,104,true⟩::(Ef++(Eb++(Ed++H1))))))))] (hS.drawn _) (by kernel_rfl) (by kernel_rfl) ?_
   (refine oP (fun χ w=>ad rfl) ?_)
   (refine oP (fun χ w=>ad rfl) ?_)
   (refine oP (fun χ w=>ad rfl) ?_)
   refine aO 0 rfl (by kernel_rfl) (fun _=>rfl) (fun x=>.pointer x.p) (fun χ w hw=>aw rfl ae ?_) ?_
   ·exact xt (show St w0 bs w (⟨b2,cM (iF p2) .nilIface .nilIface ba2 bl2,96,true⟩::(E2++(⟨bl2,cS ml2,104,true⟩::⟨ba2,dd,249,true⟩::⟨b,cM (iF pf) (iB pb) (iL pd) ba bl,96,true⟩::⟨ba,dd,249,true⟩::⟨bl,cS ml,104,true⟩::(Ef++(Eb++(Ed++H1)))))) from hw) hP rfl (fun q E3 w' g1 _ g3=>⟨_,rfl,⟨q,E3,none,0,0,0⟩,rfl,g1,(show St w0 bs w' (E3++(⟨b2,cM (iF p2) .nilIface .nilIface ba2 bl2,96,true⟩::(E2++(⟨bl2,cS ml2,104,true⟩::⟨ba2,dd,249,true⟩::⟨b,cM (iF pf) (iB pb) (iL pd) ba bl,96,true⟩::⟨ba,dd,249,true⟩::⟨bl,cS ml,104,true⟩::(Ef++(Eb++(Ed++H1))))))) from g3.p)⟩)
   refine eQ 3 (fun _=>rfl) rfl (fun x=>iB x.p) (fun χ w=>eY rfl) ?_
   (refine oP (fun χ w=>ah rfl) ?_)
   (refine oP (fun χ w=>ag rfl) ?_)
   (refine oP (fun χ w=>aY _ _ _ rfl) ?_)
   refine aO 1 rfl (by kernel_rfl) (fun _=>rfl) (fun _=>undef) (fun χ w hw=>?_) ?_
   ·obtain⟨g1,hS⟩:=hw
    exact bV rfl (show St w0 bs w (⟨b2,cM (iF p2) .nilIface .nilIface ba2 bl2,96,true⟩::((χ 3).E++(E2++(⟨bl2,cS ml2,104,true⟩::⟨ba2,dd,249,true⟩::⟨b,cM (iF pf) (iB pb) (iL pd) ba bl,96,true⟩::⟨ba,dd,249,true⟩::⟨bl,cS ml,104,true⟩::(Ef++(Eb++(Ed++H1))))))) from hS.p) (fun w' hS'=>⟨default,rfl,g1,hS'⟩)
   refine aV rfl ?_
   rintro χ w ⟨g1,hS⟩
   simp only[Nat.zero_add,Nat.reduceAdd]
   generalize χ 3=x3 at g1 hS ⊢
   obtain⟨q,E3,_,m3,_,_⟩:=x3
   simp only at g1 hS
   clear χ
   go_wp2_with (go_skip)
   go_roundw
   case rel=>exact .inr (.inr (.inl ⟨_,_,_,_,_,_,_,rfl,hF2,g1,hB,hS⟩))
   case measure=>simp[intOf]
  ·go_wp2_with (first|(first|refine wU (je rfl) ?_|refine wU (p8 (t':=157) rfl (by decide)) ?_)|refine wU (cD rfl) ?_)
   refine aj (X:=CpX) (fun w=>St w0 bs w (⟨b2,cM (iF p2) (iB p3) .nilIface ba2 bl2,96,true⟩::(E3++(E2++(⟨bl2,cS ml2,104,true⟩::⟨ba2,dd,249,true⟩::⟨b,cM (iF pf) (iB pb) (iL pd) ba bl,96,true⟩::⟨ba,dd,249,true⟩::⟨bl,cS ml,104,true⟩::(Ef++(Eb++(Ed++H1))))))))
    [(3,fun χ w=>DA (χ 3).p (Fp Td) (χ 3).E∧St w0 bs w ((χ 3).E++(⟨b2,cM (iF p2) (iB p3) .nilIface ba2 bl2,96,true⟩::(E3++(E2++(⟨bl2,cS ml2,104,true⟩::⟨ba2,dd,249,true⟩::⟨b,cM (iF pf) (iB pb) (iL pd) ba bl,96,true⟩::⟨ba,dd,249,true⟩::⟨bl,cS ml,104,true⟩::(Ef++(Eb++(Ed++H1))))))))),
    (8,fun χ w=>DA (χ 3).p (Fp Td) (χ 3).E∧St w0 bs w (⟨b2,cM (iF p2) (iB p3) (iL (χ 3).p) ba2 bl2,96,true⟩::((χ 3).E++(E3++(E2++(⟨bl2,cS ml2,104,true⟩::⟨ba2,dd,249,true⟩::⟨b,cM (iF pf) (iB pb) (iL pd) ba bl,96,true⟩::⟨ba,dd,249,true⟩::⟨bl,cS ml,104,true⟩::(Ef++(Eb++(Ed++H1)))))))))] (hS.drawn _) (by kernel_rfl) (by kernel_rfl) ?_
   (refine oP (fun χ w=>ad rfl) ?_)
   (refine oP (fun χ w=>ad rfl) ?_)
   (refine oP (fun χ w=>ad rfl) ?_)
   refine aO 0 rfl (by kernel_rfl) (fun _=>rfl) (fun x=>.pointer x.p) (fun χ w hw=>aw rfl ae ?_) ?_
   ·exact yn (show St w0 bs w (⟨b2,cM (iF p2) (iB p3) .nilIface ba2 bl2,96,true⟩::(E3++(E2++(⟨bl2,cS ml2,104,true⟩::⟨ba2,dd,249,true⟩::⟨b,cM (iF pf) (iB pb) (iL pd) ba bl,96,true⟩::⟨ba,dd,249,true⟩::⟨bl,cS ml,104,true⟩::(Ef++(Eb++(Ed++H1))))))) from hw) hD rfl (fun q E4 w' g1 _ g3=>⟨_,rfl,⟨q,E4,none,0,0,0⟩,rfl,g1,(show St w0 bs w' (E4++(⟨b2,cM (iF p2) (iB p3) .nilIface ba2 bl2,96,true⟩::(E3++(E2++(⟨bl2,cS ml2,104,true⟩::⟨ba2,dd,249,true⟩::⟨b,cM (iF pf) (iB pb) (iL pd) ba bl,96,true⟩::⟨ba,dd,249,true⟩::⟨bl,cS ml,104,true⟩::(Ef++(Eb++(Ed++H1)))))))) from g3.p)⟩)
   refine eQ 3 (fun _=>rfl) rfl (fun x=>iL x.p) (fun χ w=>eY rfl) ?_
   (refine oP (fun χ w=>ah rfl) ?_)
   (refine oP (fun χ w=>ag rfl) ?_)
   (refine oP (fun χ w=>aY _ _ _ rfl) ?_)
   refine aO 1 rfl (by kernel_rfl) (fun _=>rfl) (fun _=>undef) (fun χ w hw=>?_) ?_
   ·obtain⟨g1,hS⟩:=hw
    exact bV rfl (show St w0 bs w (⟨b2,cM (iF p2) (iB p3) .nilIface ba2 bl2,96,true⟩::((χ 3).E++(E3++(E2++(⟨bl2,cS ml2,104,true⟩::⟨ba2,dd,249,true⟩::⟨b,cM (iF pf) (iB pb) (iL pd) ba bl,96,true⟩::⟨ba,dd,249,true⟩::⟨bl,cS ml,104,true⟩::(Ef++(Eb++(Ed++H1)))))))) from hS.p) (fun w' hS'=>⟨default,rfl,g1,hS'⟩)
   refine aV rfl ?_
   rintro χ w ⟨g1,hS⟩
   simp only[Nat.zero_add,Nat.reduceAdd]
   generalize χ 3=x3 at g1 hS ⊢
   obtain⟨q,E4,_,m3,_,_⟩:=x3
   simp only at g1 hS
   clear χ
   go_wp2_with (go_skip)
   go_roundw
   case rel=>exact .inr (.inr (.inr ⟨_,_,_,_,_,_,_,_,_,rfl,hF2,hP2,g1,hB,hS⟩))
   case measure=>simp[intOf]
  ·go_wp2_with (go_skip)
   exact hR _ _ _ _ _ _ _ ⟨b2,p2,p3,p4,E2,E3,E4,ba2,bl2,_,_,rfl,hF2,hP2,hD2,rfl⟩ hB (by(try simp only[aP]);exact hS.p)
end
open Go.RowKit Go.Mm
def bD (z:Int):Array Value:=#[.int .i64 z,.pointer none]
instance Jl:ScalarT prog 68:=⟨by kernel_rfl,by kernel_rfl⟩
instance Ge:ScalarT prog 161:=⟨by kernel_rfl,by kernel_rfl⟩
instance Jn:ScalarT prog 25:=⟨by kernel_rfl,by kernel_rfl⟩
instance Gi:AggT prog 416 2:=⟨by kernel_rfl,by kernel_rfl⟩
instance Jp {z:Int} : BuildT prog 163 [(0,.int .i64 z)] (bD z):=⟨fun w=>by kernel_rfl⟩
instance Jo {f:Nat}{cap:Array Value}{e:Int} : BuildT prog 416 [(0,.func (.func f) #[] cap),(1,.int .i64 e)] #[.func (.func f) #[] cap,.int .i64 e]:=⟨fun w=>by kernel_rfl⟩
instance Jk:ZeroT prog 416 #[.nilFunc,.int .i64 0]:=⟨by kernel_rfl⟩
instance Gf:SliceT prog 464 416:=⟨by kernel_rfl⟩
instance Gh:ElemT prog 416 2 16 #[.nilFunc,.int .i64 0]:=⟨by kernel_rfl⟩
section
variable {b:Nat}{z:Int}
instance Nl:CellAt (bD z) 0 (.int .i64 z):=⟨rfl⟩
instance Nk:SetAt (bD z) (0+1) (.pointer none) (bD z):=⟨rfl,by simp [bD]⟩
theorem jg (hO:St w0 bs w H)[hH:Has H b (bD z) 163](hz:0<z)(hR:∀ w',St w0 bs w' H->ab R (.bool true) w'):Calls prog 246 #[.pointer (some ⟨b,0,none⟩)] w R:=by
 have hS:=hO
 clear hO
 have d:decide (0<z)=true:=decide_eq_true hz
 go_enter func246,ntmps246
 go_wp2_with (refine af rfl hS ?_)
 exact hR _ hS
theorem Ai (hO:St w0 bs w H)(z:Int)(hz:1≤z∧z≤256)(hR:∀ b w',St w0 bs w' (⟨b,bD z,163,true⟩::H)->ab R (.tuple #[.pointer (some ⟨b,0,none⟩),.int .i64 0]) w'):Calls prog 26 #[.int .i64 z] w R:=by
 have hS:=hO
 clear hO
 have d1:decide (z<1)=false:=DF
 have d2:decide (256<z)=false:=DF
 go_enter func26,ntmps26
 go_wp2_with (first|refine am 163 rfl hS ?_;clear hS;intro b w _ hS|refine aL rfl ?_)
 exact hR _ _ hS
theorem mU (hO:St w0 bs w (⟨b,bD z,163,true⟩::H))(hz:0<z)(u:Int)(hR:∀ w',St w0 bs w' (⟨b,bD z,163,true⟩::H)->ab R (.tuple #[]) w'):Calls prog 166 #[.pointer (some ⟨b,0,none⟩),.int .i64 u] w R:=by
 have hS:=hO
 clear hO
 by_cases h1:0≤u
 ·have d1:decide (0≤u)=true:=decide_eq_true h1
  by_cases h2:u<z
  ·have d2:decide (u<z)=true:=decide_eq_true h2
   go_enter func166,ntmps166
   go_wp2_with (first|go_at_call 246;refine jg (z:=z) hS hz ?_;clear hS;intro w hS;unfold ab|refine af rfl hS ?_|refine bP rfl hS ?_;clear hS;intro w hS)
   refine bodyPost_end (results_none rfl _ _ _) rfl ?_
   exact hR _ hS
  ·have d2:decide (u<z)=false:=decide_eq_false h2
   go_enter func166,ntmps166
   go_wp2_with (first|go_at_call 246;refine jg (z:=z) hS hz ?_;clear hS;intro w hS;unfold ab|refine af rfl hS ?_)
   refine bodyPost_end (results_none rfl _ _ _) rfl ?_
   exact hR _ hS
 ·have d1:decide (0≤u)=false:=decide_eq_false h1
  go_enter func166,ntmps166
  go_wp2_with (go_at_call 246;refine jg (z:=z) hS hz ?_;clear hS;intro w hS;unfold ab)
  refine bodyPost_end (results_none rfl _ _ _) rfl ?_
  exact hR _ hS
theorem Np {b4:Nat}(hO:St w0 bs w H)[h4:Has H b4 #[.pointer (some ⟨b,0,none⟩)] 68][hH:Has H b (bD z) 163](hz:0<z)(hR:∀ w',St w0 bs w' H->ab R (.bool false) w'):Calls prog 279 #[.pointer (some ⟨b4,0,none⟩)] w R:=by
 have hS:=hO
 clear hO
 go_enter func279,ntmps279
 go_wp2_with (first|go_at_call 246;refine jg (z:=z) hS hz ?_;clear hS;intro w hS;unfold ab|refine af rfl hS ?_)
 exact hR _ hS
theorem No {b5 b7:Nat}(hO:St w0 bs w H)[h5:Has H b5 #[.int .i64 0] 3][h7:Has H b7 #[.int .i64 0] 3](hR:∀ w',St w0 bs w' H->ab R (.bool false) w'):Calls prog 280 #[.pointer (some ⟨b5,0,none⟩),.pointer (some ⟨b7,0,none⟩)] w R:=by
 have hS:=hO
 clear hO
 go_enter func280,ntmps280
 go_wp2_with (refine af rfl hS ?_)
 exact hR _ hS
theorem Nn {b6 b7:Nat}(hO:St w0 bs w H)[h5:Has H b6 #[.int .i64 0] 3][h7:Has H b7 #[.int .i64 0] 3](hR:∀ w',St w0 bs w' H->ab R (.bool false) w'):Calls prog 281 #[.pointer (some ⟨b6,0,none⟩),.pointer (some ⟨b7,0,none⟩)] w R:=by
 have hS:=hO
 clear hO
 go_enter func281,ntmps281
 go_wp2_with (first|go_skip|refine af rfl hS ?_)
 exact hR _ hS
theorem Nm {b4 b5:Nat}(hO:St w0 bs w H)[h5:Has H b5 #[.int .i64 0] 3][h4:Has H b4 #[.pointer (some ⟨b,0,none⟩)] 68][hH:Has H b (bD z) 163](hz:0<z)(hR:∀ w',St w0 bs w' H->ab R (.bool true) w'):Calls prog 282 #[.pointer (some ⟨b5,0,none⟩),.pointer (some ⟨b4,0,none⟩)] w R:=by
 have hS:=hO
 clear hO
 have d:decide (0<z)=true:=decide_eq_true hz
 go_enter func282,ntmps282
 go_wp2_with (refine av hS (fun hne=>?_);(repeat (go_big_quiet_want;first|((refine aE bk (fun w hS=>ac _ _ rfl hS) ?_);go_big_quiet_on)|(refine aH (fun w _=>ah rfl) ?_;go_big_quiet_on)|(go_big_quiet_op;go_big_quiet_on)));refine wpQuiet_nil ?_;clear hS hne;intro w hS)
 exact hR _ hS
end
section
variable {b bN b4 b5 b6 b7:Nat}{z:Int}
def rA (b4 b5 b6 b7:Nat):Array Value:=#[.func (.func 279) #[] #[.pointer (some ⟨b4,0,none⟩)],.int .i64 1,.func (.func 280) #[] #[.pointer (some ⟨b5,0,none⟩),.pointer (some ⟨b7,0,none⟩)],.int .i64 2,.func (.func 281) #[] #[.pointer (some ⟨b6,0,none⟩),.pointer (some ⟨b7,0,none⟩)],.int .i64 2]
def rB (b4 b5 b6 b7:Nat):Array Value:=#[.func (.func 282) #[] #[.pointer (some ⟨b5,0,none⟩),.pointer (some ⟨b4,0,none⟩)],.int .i64 0,.func (.func 283) #[] #[.pointer (some ⟨b4,0,none⟩),.pointer (some ⟨b6,0,none⟩),.pointer (some ⟨b7,0,none⟩)],.int .i64 13,.func (.func 285) #[] #[],.int .i64 12]
theorem qj {i:Nat}(hi:i<3):IdxV prog 464 (.slice (some ⟨bN,0,none⟩) 3 3) i ⟨bN,i * 2,none⟩:=fG (P:=prog) (z:=2) (e:=416) (by kernel_rfl) hi
theorem rN (hO:St w0 bs w H)[hN:Has H bN (rA b4 b5 b6 b7) 416][h4:Has H b4 #[.pointer (some ⟨b,0,none⟩)] 68][h5:Has H b5 #[.int .i64 0] 3][h6:Has H b6 #[.int .i64 0] 3][h7:Has H b7 #[.int .i64 0] 3][hH:Has H b (bD z) 163](hz:0<z)
  (hR:∀ w',St w0 bs w' H->ab R (.int .i64 0) w'):Calls prog 278 #[.slice (some ⟨bN,0,none⟩) 3 3] w R:=by
 have hS:=hO
 clear hO
 have hlen:LenV prog 464 (.slice (some ⟨bN,0,none⟩) 3 3) 3:=⟨⟨_,_,rfl⟩,⟨416,by kernel_rfl⟩⟩
 have i0:IdxV prog 464 (.slice (some ⟨bN,0,none⟩) 3 3) 0 ⟨bN,0,none⟩:=qj (i:=0) (by decide)
 have i1:IdxV prog 464 (.slice (some ⟨bN,0,none⟩) 3 3) 1 ⟨bN,2,none⟩:=qj (i:=1) (by decide)
 have i2:IdxV prog 464 (.slice (some ⟨bN,0,none⟩) 3 3) 2 ⟨bN,4,none⟩:=qj (i:=2) (by decide)
 have c0:CellsAt (rA b4 b5 b6 b7) 0 2 #[.func (.func 279) #[] #[.pointer (some ⟨b4,0,none⟩)],.int .i64 1]:=⟨fun j hj=>match j,hj with|0,_=>rfl|1,_=>rfl,rfl⟩
 have c1:CellsAt (rA b4 b5 b6 b7) 2 2 #[.func (.func 280) #[] #[.pointer (some ⟨b5,0,none⟩),.pointer (some ⟨b7,0,none⟩)],.int .i64 2]:=⟨fun j hj=>match j,hj with|0,_=>rfl|1,_=>rfl,rfl⟩
 have c2:CellsAt (rA b4 b5 b6 b7) 4 2 #[.func (.func 281) #[] #[.pointer (some ⟨b6,0,none⟩),.pointer (some ⟨b7,0,none⟩)],.int .i64 2]:=⟨fun j hj=>match j,hj with|0,_=>rfl|1,_=>rfl,rfl⟩
 go_enter func278,ntmps278
 go_wp2_with (refine wV (.call { callee:=.builtin .len,args:=#[_],argTypes:=#[_] }) rfl (aA rfl) ?_)
 have hS0:=hS
 clear hS
 go_loopw [7] (fun u wr=>∃ k:Int,(k=0∨k=1∨k=2∨k=3)∧u=.int .i64 k∧St w0 bs wr H) (fun u _=>3 - (intOf u).toNat)
 case atStart=>exact⟨0,.inl rfl,rfl,hS0⟩
 case round=>
  clear hS0
  obtain⟨k,rfl|rfl|rfl|rfl,rfl,hS⟩:=hrel
  ·go_wp2_with (first|refine aq 416 rfl hS ?_;clear hS;intro br w _ hS|go_at_call 279;refine Np (b:=b) (z:=z) hS hz ?_;clear hS;intro w hS;unfold ab|refine aM rfl ?_|(first|refine af rfl hS ?_|refine au rfl hS ?_)|refine ak rfl hS ?_;clear hS;intro w hS)
   go_roundw
   case rel=>exact⟨_,_,_,_,_,_,_,_,_,_,_,_,⟨1,.inr (.inl rfl),rfl,hS.weak⟩,rfl⟩
   case measure=>simp[intOf]
  ·go_wp2_with (first|refine aq 416 rfl hS ?_;clear hS;intro br w _ hS|go_at_call 280;refine No hS ?_;clear hS;intro w hS;unfold ab|refine aM rfl ?_|(first|refine af rfl hS ?_|refine au rfl hS ?_)|refine ak rfl hS ?_;clear hS;intro w hS)
   go_roundw
   case rel=>exact⟨_,_,_,_,_,_,_,_,_,_,_,_,⟨2,.inr (.inr (.inl rfl)),rfl,hS.weak⟩,rfl⟩
   case measure=>simp[intOf]
  ·go_wp2_with (first|refine aq 416 rfl hS ?_;clear hS;intro br w _ hS|go_at_call 281;refine Nn hS ?_;clear hS;intro w hS;unfold ab|refine aM rfl ?_|(first|refine af rfl hS ?_|refine au rfl hS ?_)|refine ak rfl hS ?_;clear hS;intro w hS)
   go_roundw
   case rel=>exact⟨_,_,_,_,_,_,_,_,_,_,_,_,⟨3,.inr (.inr (.inr rfl)),rfl,hS.weak⟩,rfl⟩
   case measure=>simp[intOf]
  ·go_wp2_with (go_skip)
   exact hR _ hS
theorem rM (hO:St w0 bs w H)[hN:Has H bN (rB b4 b5 b6 b7) 416][h4:Has H b4 #[.pointer (some ⟨b,0,none⟩)] 68][h5:Has H b5 #[.int .i64 0] 3][hH:Has H b (bD z) 163](hz:0<z)
  (hR:∀ w',St w0 bs w' H->ab R (.int .i64 0) w'):Calls prog 278 #[.slice (some ⟨bN,0,none⟩) 3 3] w R:=by
 have hS:=hO
 clear hO
 have hlen:LenV prog 464 (.slice (some ⟨bN,0,none⟩) 3 3) 3:=⟨⟨_,_,rfl⟩,⟨416,by kernel_rfl⟩⟩
 have i0:IdxV prog 464 (.slice (some ⟨bN,0,none⟩) 3 3) 0 ⟨bN,0,none⟩:=qj (i:=0) (by decide)
 have c0:CellsAt (rB b4 b5 b6 b7) 0 2 #[.func (.func 282) #[] #[.pointer (some ⟨b5,0,none⟩),.pointer (some ⟨b4,0,none⟩)],.int .i64 0]:=⟨fun j hj=>match j,hj with|0,_=>rfl|1,_=>rfl,rfl⟩
 go_enter func278,ntmps278
 go_wp2_with (refine wV (.call { callee:=.builtin .len,args:=#[_],argTypes:=#[_] }) rfl (aA rfl) ?_)
 have hS0:=hS
 clear hS
 go_loopw [7] (fun u wr=>u=.int .i64 0∧St w0 bs wr H) (fun _ _=>0)
 case atStart=>exact⟨rfl,hS0⟩
 case round=>
  clear hS0
  obtain⟨rfl,hS⟩:=hrel
  go_wp2_with (first|refine aq 416 rfl hS ?_;clear hS;intro br w _ hS|go_at_call 282;refine Nm (b:=b) (z:=z) hS hz ?_;clear hS;intro w hS;unfold ab|refine aM rfl ?_|(first|refine af rfl hS ?_|refine au rfl hS ?_)|refine ak rfl hS ?_;clear hS;intro w hS)
  exact hR _ hS.weak
end
section
variable {b:Nat}{z:Int}
instance Gg {x1 x2 x3:Value}{e1 e2 e3:Int} : FlatOf [.agg #[x1,.int .i64 e1],.agg #[x2,.int .i64 e2],.agg #[x3,.int .i64 e3]] [x1,.int .i64 e1,x2,.int .i64 e2,x3,.int .i64 e3]:=⟨by simp [Value.cells]⟩
theorem Aj (hO:St w0 bs w (⟨b,bD z,163,true⟩::H))(hz:0<z)(hR:∀ w',St w0 bs w' (⟨b,bD z,163,true⟩::H)->ab R (.int .i64 0) w'):Calls prog 200 #[.pointer (some ⟨b,0,none⟩),.int .i64 0,.int .i64 0,.int .i64 0] w R:=by
 have hS:=hO
 clear hO
 go_enter func200,ntmps200
 go_wp2_with (first|refine am (o:=⟨some 4,_,_,_,_,_⟩) 68 rfl hS ?_;clear hS;intro b4 w _ hS|refine am (o:=⟨some 5,_,_,_,_,_⟩) 3 rfl hS ?_;clear hS;intro b5 w _ hS|refine am (o:=⟨some 6,_,_,_,_,_⟩) 3 rfl hS ?_;clear hS;intro b6 w _ hS|refine am (o:=⟨some 7,_,_,_,_,_⟩) 3 rfl hS ?_;clear hS;intro b7 w _ hS|(refine aF (o:=⟨some 16,_,_,_,_,_⟩) (.buildSlice _ _ _) rfl ?_;refine f5 3 [(0,_),(1,_),(2,_)] rfl hS (by decide) rfl (by decide) (by decide) ?_;clear hS;intro bN w hbN hS;replace hS:St w0 bs w (⟨bN,rA b4 b5 b6 b7,416,true⟩::_):=hS)|(refine aF (o:=⟨some 29,_,_,_,_,_⟩) (.buildSlice _ _ _) rfl ?_;refine f5 3 [(0,_),(1,_),(2,_)] rfl hS (by decide) rfl (by decide) (by decide) ?_;clear hS;intro bM w hbM hS;replace hS:St w0 bs w (⟨bM,rB b4 b5 b6 b7,416,true⟩::_):=hS)|(go_at_call 278;first|(refine rM (bN:=bM) (b:=b) (b4:=b4) (b5:=b5) (b6:=b6) (b7:=b7) (z:=z) hS hz ?_;clear hS;intro w hS;unfold ab)|(refine rN (bN:=bN) (b:=b) (b4:=b4) (b5:=b5) (b6:=b6) (b7:=b7) (z:=z) hS hz ?_;clear hS;intro w hS;unfold ab))|go_at_call 166;refine mU (b:=b) (z:=z) (H:=⟨bN,rA b4 b5 b6 b7,416,true⟩::⟨b7,#[.int .i64 0],3,true⟩::⟨b6,#[.int .i64 0],3,true⟩::⟨b5,#[.int .i64 0],3,true⟩::⟨b4,#[.pointer (some ⟨b,0,none⟩)],68,true⟩::H) hS.p hz 0 ?_;clear hS;intro w hS;unfold ab|refine aL rfl ?_|refine af rfl hS ?_)
 exact hR _ hS.p
end
end Go.Proofs.YtnbgljbhkeffkaaGreatDoor
