/-
  Contracts of what the law TopPasses reaches, part 25: Cln.
-/
import Derived.Test.YtnbgljbhkeffkaaGreatDoorQ23
open Go.Proofs.Tryz
set_option linter.unusedVariables false
set_option linter.unusedSimpArgs false
set_option maxHeartbeats 4000000
set_option maxRecDepth 100000
namespace Go.Proofs.YtnbgljbhkeffkaaGreatDoor
open Go.RowKit Go.Mm
variable {R:Ending->World->Prop}{w W:World}{w0:World}{As bs:List Nat}{H H' H1 H2 H3 E E' E1 E2 Ea Eh Er:List Ent}
variable {Ms Ms1 Ms2 Ms3:dF}
instance JZ:MapTy prog 232 3 3:=⟨by kernel_rfl,by kernel_rfl⟩
instance Lh:ScalarT prog 232:=⟨by kernel_rfl,by kernel_rfl⟩
instance Lg:ScalarT prog 137:=⟨by kernel_rfl,by kernel_rfl⟩
instance Hb:AggT prog 451 2:=⟨by kernel_rfl,by kernel_rfl⟩
instance Li {m:Option Nat} : BuildT prog 234 [(0,.map m)] #[.map m]:=⟨fun w=>by kernel_rfl⟩
instance Lf:ZeroT prog 451 #[.int .i64 0,.int .i64 0]:=⟨by kernel_rfl⟩
instance Ll:BuildT prog 451 [] #[.int .i64 0,.int .i64 0]:=⟨fun w=>by kernel_rfl⟩
instance Lj {x y:Int} : BuildT prog 451 [(0,.int .i64 x),(1,.int .i64 y)] #[.int .i64 x,.int .i64 y]:=⟨fun w=>by kernel_rfl⟩
def CL (p:Option Addr)(m:Nat)(E:List Ent):Prop:=∃ b,p=some ⟨b,0,none⟩∧E=[⟨b,#[.map (some m)],234,true⟩]
section
variable {b m:Nat}{i s:Int}
theorem By (hB:Mps W As w0 bs Ms)(hO:St w0 bs w H)(hR:∀ p m E w0' bs' w',CL p m E->Mps W As w0' bs' ((m,[])::Ms)->St w0' bs' w' (E++H)->ab R (.pointer p) w'):Calls prog 47 #[] w R:=by
 have hS:=hO
 clear hO
 go_enter func47,ntmps47
 go_wp2_with (first|refine aF (.makeMap _ none) rfl ?_;refine iQ rfl hB hS ?_;clear hB hS;intro m w hB hS|refine am 234 rfl hS ?_;clear hS;intro b w _ hS|refine aL rfl ?_)
 exact hR _ _ _ _ _ _ ⟨b,rfl,rfl⟩ hB hS
theorem ra (hB:Mps W As w0 bs Ms)(hO:St w0 bs w H)[hH:Has H b #[.map (some m)] 234][hM:MapIn Ms m []](i:Int)(hi:0≤i∧i<256)(hR:∀ w',St w0 bs w' H->ab R (.tuple #[.int .i64 0,.int .i64 5]) w'):Calls prog 334 #[.pointer (some ⟨b,0,none⟩),.int .i64 i] w R:=by
 have hS:=hO
 clear hO
 have d1:decide (i<0)=false:=DF
 have d2:decide (256≤i)=false:=DF
 go_enter func334,ntmps334
 go_wp2_with (first|refine wU (dS rfl hB hS) ?_|refine aF (.binOp .eql _ _ (.const (.map none)) _) rfl ?_;refine wU (qb rfl) ?_|refine af rfl hS ?_)
 exact hR _ hS
theorem kp (hB:Mps W As w0 bs Ms)(hO:St w0 bs w H)[hH:Has H b #[.map (some m)] 234](i:Int)(hi:0≤i∧i<256)[hM:MapIn Ms m [(vI i,vI s)]](hR:∀ w',St w0 bs w' H->ab R (.tuple #[.int .i64 s,.int .i64 0]) w'):Calls prog 334 #[.pointer (some ⟨b,0,none⟩),.int .i64 i] w R:=by
 have hS:=hO
 clear hO
 have d1:decide (i<0)=false:=DF
 have d2:decide (256≤i)=false:=DF
 go_enter func334,ntmps334
 go_wp2_with (first|refine wU (dS rfl hB hS) ?_|refine aF (.binOp .eql _ _ (.const (.map none)) _) rfl ?_;refine wU (qb rfl) ?_|refine af rfl hS ?_)
 exact hR _ hS
theorem BA (hB:Mps W As w0 bs Ms)(hO:St w0 bs w H)[hH:Has H b #[.map (some m)] 234](i:Int)(hi:0≤i∧i<256)[hM:MapIn Ms m []][hu:MapUp Ms m [] [(vI i,vI 1)] Ms1](hR:∀ w0' bs' w',Mps W As w0' bs' Ms1->St w0' bs' w' H->ab R (.int .i64 0) w'):Calls prog 294 #[.pointer (some ⟨b,0,none⟩),.int .i64 i] w R:=by
 have hS:=hO
 clear hO
 go_enter func294,ntmps294
 go_wp2_with (first|go_at_call 334;refine ra hB hS i hi ?_;clear hS;intro w hS;unfold ab|refine wS (gL rfl hB hS ?_);clear hB hS;intro w hB hS|refine af rfl hS ?_)
 exact hR _ _ _ hB hS
theorem Bz (hB:Mps W As w0 bs Ms)(hO:St w0 bs w H)[hH:Has H b #[.map (some m)] 234](i:Int)(hi:0≤i∧i<256)(j:Int)[hM:MapIn Ms m [(vI i,vI 1)]][hu:MapUp Ms m [(vI i,vI 1)] [(vI i,vI j)] Ms1](hR:∀ w0' bs' w',Mps W As w0' bs' Ms1->St w0' bs' w' H->ab R (.tuple #[.bool true,.int .i64 0]) w'):Calls prog 333 #[.pointer (some ⟨b,0,none⟩),.int .i64 i,.int .i64 j] w R:=by
 have hS:=hO
 clear hO
 go_enter func333,ntmps333
 go_wp2_with (first|go_at_call 334;refine kp hB hS i hi ?_;clear hS;intro w hS;unfold ab|refine wS (tj rfl hB hS ?_);clear hB hS;intro w hB hS|refine af rfl hS ?_)
 exact hR _ _ _ hB hS
theorem ss (hB:Mps W As w0 bs Ms)(hO:St w0 bs w H)[hH:Has H b #[.map (some m)] 234](i:Int)(hi:0≤i∧i<256)[hM:MapIn Ms m [(vI i,vI 1)]][hu:MapUp Ms m [(vI i,vI 1)] [(vI i,vI 3)] Ms1](hR:∀ w0' bs' w',Mps W As w0' bs' Ms1->St w0' bs' w' H->ab R (.tuple #[.bool true,.int .i64 0]) w'):Calls prog 256 #[.pointer (some ⟨b,0,none⟩),.int .i64 i] w R:=by
 have hS:=hO
 clear hO
 go_enter func256,ntmps256
 go_wp2_with (go_at_call 333;refine Bz hB hS i hi 3 ?_;clear hB hS;intro w0' bs' w hB hS;unfold ab)
 exact hR _ _ _ hB hS
theorem yy (hB:Mps W As w0 bs Ms)(hO:St w0 bs w H)[hH:Has H b #[.map (some m)] 234](i:Int)(hi:0≤i∧i<256)[hM:MapIn Ms m []](hR:∀ w',St w0 bs w' H->ab R (.tuple #[.agg #[.int .i64 0,.int .i64 0],.int .i64 5]) w'):Calls prog 332 #[.pointer (some ⟨b,0,none⟩),.int .i64 i] w R:=by
 have hS:=hO
 clear hO
 go_enter func332,ntmps332
 go_wp2_with (first|refine aq 451 rfl hS ?_;clear hS;intro b4 w _ hS|go_at_call 334;refine ra hB hS i hi ?_;clear hS;intro w hS;unfold ab|refine aL rfl ?_|refine ak rfl hS ?_;clear hS;intro w hS)
 refine bodyPost_ret (aJ rfl hS) rfl ?_
 exact hR _ hS.p
theorem yx (hB:Mps W As w0 bs Ms)(hO:St w0 bs w H)[hH:Has H b #[.map (some m)] 234](i:Int)(hi:0≤i∧i<256)[hM:MapIn Ms m [(vI i,vI s)]](hR:∀ w',St w0 bs w' H->ab R (.tuple #[.agg #[.int .i64 i,.int .i64 s],.int .i64 0]) w'):Calls prog 332 #[.pointer (some ⟨b,0,none⟩),.int .i64 i] w R:=by
 have hS:=hO
 clear hO
 go_enter func332,ntmps332
 go_wp2_with (first|refine aq 451 rfl hS ?_;clear hS;intro b4 w _ hS|go_at_call 334;refine kp hB hS i hi ?_;clear hS;intro w hS;unfold ab|refine aL rfl ?_|refine ak rfl hS ?_;clear hS;intro w hS)
 refine bodyPost_ret (aJ rfl hS) rfl ?_
 exact hR _ hS.p
theorem sr (hB:Mps W As w0 bs Ms)(hO:St w0 bs w H)[hH:Has H b #[.map (some m)] 234](i:Int)(hi:0≤i∧i<256)[hM:MapIn Ms m [(vI i,vI 3)]][hu:MapUp Ms m [(vI i,vI 3)] [] Ms1](hR:∀ w0' bs' w',Mps W As w0' bs' Ms1->St w0' bs' w' H->ab R (.int .i64 0) w'):Calls prog 257 #[.pointer (some ⟨b,0,none⟩),.int .i64 i] w R:=by
 have hS:=hO
 clear hO
 go_enter func257,ntmps257
 go_wp2_with (first|go_at_call 334;refine kp hB hS i hi ?_;clear hS;intro w hS;unfold ab|refine aF (.call { callee:=.builtin .delete,args:=#[_,_],argTypes:=#[_,_] }) rfl ?_;refine wS (iu rfl hB hS ?_);clear hB hS;intro w hB hS|refine af rfl hS ?_)
 exact hR _ _ _ hB hS
end
end Go.Proofs.YtnbgljbhkeffkaaGreatDoor
