/-
  Contracts of what the law TopPasses reaches, part 3: KCol KColB KColC KGreyN.
-/
import Derived.Test.YtnbgljbhkeffkaaGreatDoorQ01
open Go.Proofs.Tryz
set_option linter.unusedVariables false
set_option linter.unusedSimpArgs false
set_option maxHeartbeats 4000000
set_option maxRecDepth 100000
namespace Go.Proofs.YtnbgljbhkeffkaaGreatDoor.Col
open Go.RowKit Go.Mm
def paintCells (n:Int)(L:List Int):Array Value:=(Value.int .i64 n::L.map (Value.int .u8)).toArray
instance Gm {n:Int}{L:List Int} : CellAt (paintCells n L) 0 (.int .i64 n):=⟨rfl⟩
theorem jO {n:Int}{L:List Int}{i:Nat}(h:i<L.length):CellAt (paintCells n L) (1+i) (.int .u8 (L.getD i 0)):=
 ⟨by simp[paintCells,Nat.add_comm 1 i,h]⟩
theorem lJ {n:Int}{L:List Int}{i:Nat}(c:Int)(h:i<L.length):SetAt (paintCells n L) (1+i) (.int .u8 c) (paintCells n (L.set i c)):=
 ⟨by simp[paintCells,Nat.add_comm 1 i],by simp[paintCells];omega⟩
instance yV:ScalarT prog 3:=⟨by kernel_rfl,by kernel_rfl⟩
instance z4:ScalarT prog 4:=⟨by kernel_rfl,by kernel_rfl⟩
instance MO:ScalarT prog 5:=⟨by kernel_rfl,by kernel_rfl⟩
instance FG:ZeroT prog 4 #[.bool false]:=⟨by kernel_rfl⟩
instance HL:ZeroT prog 3 #[.int .i64 0]:=⟨by kernel_rfl⟩
abbrev dC (w:World)(b:Nat)(n:Int)(L:List Int):Prop:=w.heap[b]?=some (.cells (paintCells n L) 285 (0,0))
variable {R:Ending->World->Prop}{w:World}{b:Nat}{n:Int}{L:List Int}
theorem j5 (hR:ab R (.bool false) w):Calls prog 342 #[.pointer none] w R:=by
 go_enter func342,ntmps342
 go_wp2
 exact hR
theorem dZ (hP:dC w b n L)(hR:ab R (.bool (decide (0<n))) w):Calls prog 342 #[.pointer (some ⟨b,0,none⟩)] w R:=by
 have hS:St w [] w [⟨b,paintCells n L,285,false⟩]:=St.start1 hP (by simp)
 clear hP
 go_enter func342,ntmps342
 go_wp2_with (refine af rfl hS ?_)
 exact hR
theorem jt {s:Int}{f:Value}(hR:ab R (.int .i64 1) w):Calls prog 267 #[.pointer none,.int .i64 s,f] w R:=by
 go_enter func267,ntmps267
 go_wp2_with (go_at_call 342;refine j5 ?_;unfold ab)
 exact hR
theorem ip (hP:dC w b 0 L){s:Int}{f:Value}(hR:ab R (.int .i64 1) w):Calls prog 267 #[.pointer (some ⟨b,0,none⟩),.int .i64 s,f] w R:=by
 go_enter func267,ntmps267
 go_wp2_with (go_at_call 342;refine dZ hP ?_;unfold ab)
 exact hR
theorem gg (hP:dC w b n L)(hn:0<n){s:Int}(hs:s<0∨n≤s){f:Value}(hR:ab R (.int .i64 3) w) :
  Calls prog 267 #[.pointer (some ⟨b,0,none⟩),.int .i64 s,f] w R:=by
 have hS:St w [] w [⟨b,paintCells n L,285,false⟩]:=St.start1 hP (by simp)
 by_cases h0:s<0
 ·have d1:decide (s<0)=true:=by simpa using h0
  go_enter func267,ntmps267
  go_wp2_with (go_at_call 342;refine dZ hP ?_;unfold ab)
  exact hR
 ·have d1:decide (s<0)=false:=by simpa using h0
  have d2:decide (n≤s)=true:=by simp;omega
  go_enter func267,ntmps267
  go_wp2_with (first|go_at_call 342;refine dZ hP ?_;unfold ab|refine af rfl hS ?_)
  exact hR
theorem eB (hP:dC w b n L)(i:Nat)(hi:(i:Int)<n)(hn:n≤256)(f:Nat)(caps:Array Value)
  (hC:Calls prog f (#[.pointer (some ⟨b,1+i,none⟩)]++caps) w (Mb R)) (he:∀ args w,(callFunc f args).run prog w=.ok (.enter f args) w) :
  Calls prog 267 #[.pointer (some ⟨b,0,none⟩),.int .i64 i,.func (.func f) #[] caps] w R:=by
 have hS:St w [] w [⟨b,paintCells n L,285,false⟩]:=St.start1 hP (by simp)
 have hn0:0<n:=by omega
 go_enter func267,ntmps267
 go_wp2_with (first|go_at_call 342;refine dZ hP ?_;unfold ab|refine af rfl hS ?_)
 refine hC.mono ?_
 rintro e w' ⟨v,rfl,hr⟩
 go_wp2
 exact hr
variable {w0:World}{bs:List Nat}{H H' : List Ent}
theorem ae {f: Nat}  (h: (match prog.funcs[f]? with | some fn => !(fn.name == "runtime.NumGoroutine") && fn.body.isSome | none => false) = true:=by kernel_rfl): ∀ args w, (callFunc f args).run prog w = .ok (.enter f args) w := by
 intro args w
 cases hf:prog.funcs[f]? with
 | none=>simp[hf] at h
 | some fn=>
  simp only[hf,Bool.and_eq_true,Bool.not_eq_true'] at h
  cases hb:fn.body with
  | none=>simp[hb] at h
  | some c=>have:=h.1;simp at this;simp[callFunc,hf,this,hb]
theorem NX {b2:Nat}{T2:TypeId}{c:Int}(hO:St w0 bs w H){off:Nat}{cs:Array Value}{T:TypeId}[hH:Has H b cs T][hc:CellAt cs off (.int .u8 c)](h0:0≤c)(h1:c≤255)[hu:Upd H b2 #[.int .i64 c] T2 H']{v:Value}[hb2:Has H b2 #[v] T2]
  (hR:∀ w',St w0 bs w' H'->ab R (.int .i64 0) w'):Calls prog 449 #[.pointer (some ⟨b,off,none⟩),.pointer (some ⟨b2,0,none⟩)] w R:=by
 have hS:=hO
 clear hO
 go_enter func449,ntmps449
 go_wp2_with (first|refine af rfl hS ?_|refine bP rfl hS ?_;clear hS;intro w hS)
 exact hR _ hS
theorem of_nil (s:Int)(hR:∀ w',Chg w w' []->ab R (.tuple #[.int .i64 0,.int .i64 1]) w'):Calls prog 423 #[.pointer none,.int .i64 s] w R:=by
 have hS:St w [] w []:=St.start0
 go_enter func423,ntmps423
 go_wp2_with (first|go_at_call 267;refine jt ?_;unfold ab|refine af rfl hS ?_|refine bP rfl hS ?_;clear hS;intro w hS|refine aq _ rfl hS ?_;clear hS;intro bN w hbN hS)
 exact hR _ hS.chg
theorem of_zero (hP:dC w b 0 L)(s:Int)(hR:∀ w',Chg w w' []->ab R (.tuple #[.int .i64 0,.int .i64 1]) w'):Calls prog 423 #[.pointer (some ⟨b,0,none⟩),.int .i64 s] w R:=by
 have hS:St w [] w [⟨b,paintCells 0 L,285,false⟩]:=St.start1 hP (by simp)
 go_enter func423,ntmps423
 go_wp2_with (first|go_at_call 267;refine ip (hS.has inferInstance) ?_;unfold ab|refine af rfl hS ?_|refine bP rfl hS ?_;clear hS;intro w hS|refine aq _ rfl hS ?_;clear hS;intro bN w hbN hS)
 exact hR _ hS.chg
theorem of_range (hO:St w0 bs w H)[hH:Has H b (paintCells n L) 285](hn:0<n)(s:Int)(hs:s<0∨n≤s)(hR:∀ w',St w0 bs w' H->ab R (.tuple #[.int .i64 0,.int .i64 3]) w') :
  Calls prog 423 #[.pointer (some ⟨b,0,none⟩),.int .i64 s] w R:=by
 have hS:St w [] w [⟨b,paintCells n L,285,false⟩]:=St.start1 (hO.has hH) (by simp)
 go_enter func423,ntmps423
 go_wp2_with (first|go_at_call 267;refine gg (hS.has inferInstance) hn hs ?_;unfold ab|refine af rfl hS ?_|refine bP rfl hS ?_;clear hS;intro w hS|refine aq _ rfl hS ?_;clear hS;intro bN w hbN hS)
 exact hR _ (hO.nil hS.chg)
theorem of_ok (hO:St w0 bs w H)[hH:Has H b (paintCells n L) 285](hn:n≤256)(hl:n≤L.length)(hc:∀ c∈L,0≤c∧c≤255)(i:Nat)(hi:(i:Int)<n)
  (hR:∀ w',St w0 bs w' H->ab R (.tuple #[.int .i64 (L.getD i 0),.int .i64 0]) w') :
  Calls prog 423 #[.pointer (some ⟨b,0,none⟩),.int .i64 i] w R:=by
 have hS:St w [] w [⟨b,paintCells n L,285,false⟩]:=St.start1 (hO.has hH) (by simp)
 have hil:i<L.length:=by omega
 have hce:=hc (L.getD i 0) (by simp[hil])
 have hcell:=jO (n:=n) hil
 generalize hcc:L.getD i 0=c at *
 clear hcc
 obtain⟨c0,c1⟩:=hce
 go_enter func423,ntmps423
 go_wp2_with (first|go_at_call 267;refine eB (hS.has inferInstance) i hi hn _ _ (NX hS c0 c1 ?_) ae;clear hS;intro w hS;refine Ce ?_;unfold ab|refine af rfl hS ?_|refine bP rfl hS ?_;clear hS;intro w hS|refine aq _ rfl hS ?_;clear hS;intro bN w hbN hS)
 exact hR _ (hO.nil hS.chg)
theorem lu {b2:Nat}{T2:TypeId}(hO:St w0 bs w H){off:Nat}{cs cs' : Array Value}{T:TypeId}[hH:Has H b cs T][hc:CellAt cs off (.int .u8 0)][hsc:SetAt cs off (.int .u8 1) cs']{H1:List Ent}{v:Value}[hb2:Has H b2 #[v] T2]
  [hu:Upd H b2 #[.bool true] T2 H1] [hH2:Has H1 b2 #[.bool true] T2] [hH1:Has H1 b cs T] [hu1:Upd H1 b cs' T H']
  (hR:∀ w',St w0 bs w' H'->ab R (.int .i64 0) w'):Calls prog 345 #[.pointer (some ⟨b,off,none⟩),.pointer (some ⟨b2,0,none⟩)] w R:=by
 have hS:=hO
 clear hO
 go_enter func345,ntmps345
 go_wp2_with (first|refine af rfl hS ?_|refine bP rfl hS ?_;clear hS;intro w hS)
 exact hR _ hS
theorem lv {b2:Nat}{T2:TypeId}{c:Int}(hO:St w0 bs w H){off:Nat}{cs:Array Value}{T:TypeId}[hH:Has H b cs T][hc:CellAt cs off (.int .u8 c)](hcz:(c == 0)=false){v:Value}[hb2:Has H b2 #[v] T2]
  [hu:Upd H b2 #[.bool false] T2 H'] [hH1:Has H' b2 #[.bool false] T2]
  (hR:∀ w',St w0 bs w' H'->ab R (.int .i64 0) w'):Calls prog 345 #[.pointer (some ⟨b,off,none⟩),.pointer (some ⟨b2,0,none⟩)] w R:=by
 have hS:=hO
 clear hO
 go_enter func345,ntmps345
 go_wp2_with (first|refine af rfl hS ?_|refine bP rfl hS ?_;clear hS;intro w hS)
 exact hR _ hS
theorem shade_nil (s:Int)(hR:∀ w',Chg w w' []->ab R (.tuple #[.bool false,.int .i64 1]) w'):Calls prog 273 #[.pointer none,.int .i64 s] w R:=by
 have hS:St w [] w []:=St.start0
 go_enter func273,ntmps273
 go_wp2_with (first|go_at_call 267;refine jt ?_;unfold ab|refine af rfl hS ?_|refine bP rfl hS ?_;clear hS;intro w hS|refine aq _ rfl hS ?_;clear hS;intro bN w hbN hS)
 exact hR _ hS.chg
theorem shade_zero (hP:dC w b 0 L)(s:Int)(hR:∀ w',Chg w w' []->ab R (.tuple #[.bool false,.int .i64 1]) w'):Calls prog 273 #[.pointer (some ⟨b,0,none⟩),.int .i64 s] w R:=by
 have hS:St w [] w [⟨b,paintCells 0 L,285,false⟩]:=St.start1 hP (by simp)
 go_enter func273,ntmps273
 go_wp2_with (first|go_at_call 267;refine ip (hS.has inferInstance) ?_;unfold ab|refine af rfl hS ?_|refine bP rfl hS ?_;clear hS;intro w hS|refine aq _ rfl hS ?_;clear hS;intro bN w hbN hS)
 exact hR _ hS.chg
theorem shade_range (hO:St w0 bs w H)[hH:Has H b (paintCells n L) 285](hn:0<n)(s:Int)(hs:s<0∨n≤s)(hR:∀ w',St w0 bs w' H->ab R (.tuple #[.bool false,.int .i64 3]) w') :
  Calls prog 273 #[.pointer (some ⟨b,0,none⟩),.int .i64 s] w R:=by
 have hS:St w [] w [⟨b,paintCells n L,285,false⟩]:=St.start1 (hO.has hH) (by simp)
 go_enter func273,ntmps273
 go_wp2_with (first|go_at_call 267;refine gg (hS.has inferInstance) hn hs ?_;unfold ab|refine af rfl hS ?_|refine bP rfl hS ?_;clear hS;intro w hS|refine aq _ rfl hS ?_;clear hS;intro bN w hbN hS)
 exact hR _ (hO.nil hS.chg)
def shadeL (L:List Int)(i:Nat):List Int:=if L.getD i 0=0 then L.set i 1 else L
theorem shade_ok (hO:St w0 bs w H)[hH:Has H b (paintCells n L) 285](hn:n≤256)(hl:n≤L.length)(i:Nat)(hi:(i:Int)<n)
  [hu:Upd H b (paintCells n (shadeL L i)) 285 H']
  (hR:∀ w',St w0 bs w' H'->ab R (.tuple #[.bool (decide (L.getD i 0=0)),.int .i64 0]) w') :
  Calls prog 273 #[.pointer (some ⟨b,0,none⟩),.int .i64 i] w R:=by
 have hS:St w [b] w [⟨b,paintCells n L,285,true⟩]:=St.start1 (hO.has hH) (by simp)
 have hil:i<L.length:=by omega
 have hcell:=jO (n:=n) hil
 have hset:=lJ (n:=n) 1 hil
 unfold shadeL at hu
 generalize hcc:L.getD i 0=c at *
 by_cases hz:c=0
 ·rw[if_pos hz] at hu
  simp only[hz,decide_true] at hR hcell
  clear hcc hz
  go_enter func273,ntmps273
  go_wp2_with (first|go_at_call 267;refine eB (hS.has inferInstance) i hi hn _ _ (lu hS ?_) ae;clear hS;intro w hS;refine Ce ?_;unfold ab|refine af rfl hS ?_|refine bP rfl hS ?_;clear hS;intro w hS|refine aq _ rfl hS ?_;clear hS;intro bN w hbN hS)
  exact hR _ (hO.upd hS.chg (hS.has inferInstance))
 ·rw[if_neg hz] at hu
  have hz' : (c == 0)=false:=by simpa using hz
  simp only[hz,decide_false] at hR
  clear hcc hz
  go_enter func273,ntmps273
  go_wp2_with (first|go_at_call 267;refine eB (hS.has inferInstance) i hi hn _ _ (lv hS hz' ?_) ae;clear hS;intro w hS;refine Ce ?_;unfold ab|refine af rfl hS ?_|refine bP rfl hS ?_;clear hS;intro w hS|refine aq _ rfl hS ?_;clear hS;intro bN w hbN hS)
  exact hR _ (hO.upd hS.chg (hS.has inferInstance))
theorem l8 {b2:Nat}{T2:TypeId}{f:Int}(hO:St w0 bs w H){off:Nat}{cs cs' : Array Value}{T:TypeId}[hH:Has H b cs T][hc:CellAt cs off (.int .u8 f)][hsc:SetAt cs off (.int .u8 2) cs'][hb2:Has H b2 #[.int .u8 f] T2]
  [hu1:Upd H b cs' T H']
  (hR:∀ w',St w0 bs w' H'->ab R (.int .i64 0) w'):Calls prog 268 #[.pointer (some ⟨b,off,none⟩),.pointer (some ⟨b2,0,none⟩)] w R:=by
 have hS:=hO
 clear hO
 go_enter func268,ntmps268
 go_wp2_with (first|refine bP rfl hS ?_;clear hS;intro w hS|refine av hS (fun hne=>?_);(repeat (go_big_quiet_want;first|((refine aE bk (fun w hS=>ac _ _ rfl hS) ?_);go_big_quiet_on)|(go_big_quiet_op;go_big_quiet_on)));refine wpQuiet_nil ?_;clear hS hne;intro w hS)
 exact hR _ hS
theorem nY {b2:Nat}{T2:TypeId}{c f:Int}(hO:St w0 bs w H){off:Nat}{cs:Array Value}{T:TypeId}[hH:Has H b cs T][hc:CellAt cs off (.int .u8 c)](hcz:(c != f)=true)[hb2:Has H b2 #[.int .u8 f] T2]
  (hR:∀ w',St w0 bs w' H->ab R (.int .i64 8) w'):Calls prog 268 #[.pointer (some ⟨b,off,none⟩),.pointer (some ⟨b2,0,none⟩)] w R:=by
 have hS:=hO
 clear hO
 go_enter func268,ntmps268
 go_wp2_with (refine av hS (fun hne=>?_);(repeat (go_big_quiet_want;first|((refine aE bk (fun w hS=>ac _ _ rfl hS) ?_);go_big_quiet_on)|(go_big_quiet_op;go_big_quiet_on)));refine wpQuiet_nil ?_;clear hS hne;intro w hS)
 exact hR _ hS
theorem blacken_nil (s f:Int)(hR:∀ w',Chg w w' []->ab R (.int .i64 1) w'):Calls prog 182 #[.pointer none,.int .i64 s,.int .u8 f] w R:=by
 have hS:St w [] w []:=St.start0
 go_enter func182,ntmps182
 go_wp2_with (first|go_at_call 267;refine jt ?_;unfold ab|refine am _ rfl hS ?_;clear hS;intro bN w hbN hS)
 exact hR _ hS.chg
theorem blacken_zero (hP:dC w b 0 L)(s f:Int)(hR:∀ w',Chg w w' []->ab R (.int .i64 1) w'):Calls prog 182 #[.pointer (some ⟨b,0,none⟩),.int .i64 s,.int .u8 f] w R:=by
 have hS:St w [] w [⟨b,paintCells 0 L,285,false⟩]:=St.start1 hP (by simp)
 go_enter func182,ntmps182
 go_wp2_with (first|go_at_call 267;refine ip (hS.has inferInstance) ?_;unfold ab|refine am _ rfl hS ?_;clear hS;intro bN w hbN hS)
 exact hR _ hS.chg
theorem blacken_range (hO:St w0 bs w H)[hH:Has H b (paintCells n L) 285](hn:0<n)(s f:Int)(hs:s<0∨n≤s)(hR:∀ w',St w0 bs w' H->ab R (.int .i64 3) w') :
  Calls prog 182 #[.pointer (some ⟨b,0,none⟩),.int .i64 s,.int .u8 f] w R:=by
 have hS:St w [] w [⟨b,paintCells n L,285,false⟩]:=St.start1 (hO.has hH) (by simp)
 go_enter func182,ntmps182
 go_wp2_with (first|go_at_call 267;refine gg (hS.has inferInstance) hn hs ?_;unfold ab|refine am _ rfl hS ?_;clear hS;intro bN w hbN hS)
 exact hR _ (hO.nil hS.chg)
def blackL (f:Int)(L:List Int)(i:Nat):List Int:=if L.getD i 0=f then L.set i 2 else L
def blackE (f:Int)(L:List Int)(i:Nat):Int:=if L.getD i 0=f then 0 else 8
theorem blacken_ok (hO:St w0 bs w H)[hH:Has H b (paintCells n L) 285](hn:n≤256)(hl:n≤L.length)(i:Nat)(hi:(i:Int)<n)(f:Int)
  [hu:Upd H b (paintCells n (blackL f L i)) 285 H']
  (hR:∀ w',St w0 bs w' H'->ab R (.int .i64 (blackE f L i)) w') :
  Calls prog 182 #[.pointer (some ⟨b,0,none⟩),.int .i64 i,.int .u8 f] w R:=by
 have hS:St w [b] w [⟨b,paintCells n L,285,true⟩]:=St.start1 (hO.has hH) (by simp)
 have hil:i<L.length:=by omega
 have hcell:=jO (n:=n) hil
 have hset:=lJ (n:=n) 2 hil
 unfold blackL at hu
 unfold blackE at hR
 generalize hcc:L.getD i 0=c at *
 by_cases hz:c=f
 ·rw[if_pos hz] at hu hR
  rw[hz] at hcell
  clear hcc hz
  go_enter func182,ntmps182
  go_wp2_with (first|go_at_call 267;refine eB (hS.has inferInstance) i hi hn _ _ (l8 hS ?_) ae;clear hS;intro w hS;refine Ce ?_;unfold ab|refine am _ rfl hS ?_;clear hS;intro bN w hbN hS)
  exact hR _ (hO.upd hS.chg (hS.has inferInstance))
 ·rw[if_neg hz] at hu hR
  have hz' : (c != f)=true:=by simpa using hz
  clear hcc hz
  go_enter func182,ntmps182
  go_wp2_with (first|go_at_call 267;refine eB (hS.has inferInstance) i hi hn _ _ (nY hS hz' ?_) ae;clear hS;intro w hS;refine Ce ?_;unfold ab|refine am _ rfl hS ?_;clear hS;intro bN w hbN hS)
  exact hR _ (hO.upd hS.chg (hS.has inferInstance))
theorem yF (hO:St w0 bs w H){off:Nat}{cs cs' : Array Value}{T:TypeId}[hH:Has H b cs T][hsc:SetAt cs off (.int .u8 0) cs'][hu1:Upd H b cs' T H']
  (hR:∀ w',St w0 bs w' H'->ab R (.int .i64 0) w'):Calls prog 453 #[.pointer (some ⟨b,off,none⟩)] w R:=by
 have hS:=hO
 clear hO
 go_enter func453,ntmps453
 go_wp2_with ((refine bP rfl hS ?_);clear hS;intro w hS)
 exact hR _ hS
theorem bleach_ok (hO:St w0 bs w H)[hH:Has H b (paintCells n L) 285](hn:n≤256)(hl:n≤L.length)(i:Nat)(hi:(i:Int)<n)
  [hu:Upd H b (paintCells n (L.set i 0)) 285 H']
  (hR:∀ w',St w0 bs w' H'->ab R (.int .i64 0) w') :
  Calls prog 428 #[.pointer (some ⟨b,0,none⟩),.int .i64 i] w R:=by
 have hS:St w [b] w [⟨b,paintCells n L,285,true⟩]:=St.start1 (hO.has hH) (by simp)
 have hil:i<L.length:=by omega
 have hset:=lJ (n:=n) 0 hil
 go_enter func428,ntmps428
 go_wp2_with (go_at_call 267;refine eB (hS.has inferInstance) i hi hn _ _ (yF hS ?_) ae;clear hS;intro w hS;refine Ce ?_;unfold ab)
 exact hR _ (hO.upd hS.chg (hS.has inferInstance))
def zerosL:List Int:=List.replicate 256 0
instance Fr {n:Int} : BuildT prog 285 [(0,.int .i64 n)] (paintCells n zerosL):=⟨fun w=>by kernel_rfl⟩
instance D6:ZeroT prog 285 (paintCells 0 zerosL):=⟨by kernel_rfl⟩
instance Fv:AggT prog 285 257:=⟨by kernel_rfl,by kernel_rfl⟩
theorem uj {n:Int}{L:List Int}(h:L.length=256):CellsAt (paintCells n L) 0 257 (paintCells n L):=
 ⟨fun j _=>by simp,by simp[paintCells,h]⟩
theorem rQ {n m:Int}{L M:List Int}(h:L.length=256)(h' : M.length=256):SetsAt (paintCells n L) 0 (paintCells m M) (paintCells m M):=
 ⟨by simp[paintCells,h,h'],by simp[paintCells,h,h']⟩
theorem ui {n:Int}{L:List Int} : OneCells (paintCells n L):=⟨by
 intro v hv
 simp[paintCells] at hv
 rcases hv with rfl|⟨_,_,rfl⟩ <;> rfl⟩
theorem rP {n:Int}{L:List Int}(h:L.length=256):SizeIs (paintCells n L) 257:=⟨by simp [paintCells,h]⟩
theorem zerosLen:zerosL.length=256:=List.length_replicate
theorem new_bad (s:Int)(hs:s<1∨256<s)(hR:ab R (.tuple #[.pointer none,.int .i64 2]) w):Calls prog 91 #[.int .i64 s] w R:=by
 by_cases h0:s<1
 ·have d1:decide (s<1)=true:=by simpa using h0
  go_enter func91,ntmps91
  go_wp2
  exact hR
 ·have d1:decide (s<1)=false:=by simpa using h0
  have d2:decide (256<s)=true:=by simp;omega
  go_enter func91,ntmps91
  go_wp2
  exact hR
theorem new_ok (hO:St w0 bs w H)(s:Int)(h1:1≤s)(h2:s≤256)
  (hR:∀ b w',St w0 bs w' (⟨b,paintCells s zerosL,285,true⟩::H)->ab R (.tuple #[.pointer (some ⟨b,0,none⟩),.int .i64 0]) w'):Calls prog 91 #[.int .i64 s] w R:=by
 have hS:=hO
 have d1:decide (s<1)=false:=by simp;omega
 have d2:decide (256<s)=false:=by simp;omega
 go_enter func91,ntmps91
 go_wp2_with (first|refine aL rfl ?_|refine am _ rfl hS ?_;clear hS;intro bN w hbN hS)
 exact hR _ _ hS
theorem copy_nil (hR:ab R (.pointer none) w):Calls prog 343 #[.pointer none] w R:=by
 go_enter func343,ntmps343
 go_wp2_with (go_at_call 342;refine j5 ?_;unfold ab)
 exact hR
theorem copy_zero (hP:dC w b 0 L)(hR:ab R (.pointer none) w):Calls prog 343 #[.pointer (some ⟨b,0,none⟩)] w R:=by
 go_enter func343,ntmps343
 go_wp2_with (go_at_call 342;refine dZ hP ?_;unfold ab)
 exact hR
theorem copy_ok (hO:St w0 bs w H)[hH:Has H b (paintCells n L) 285](hn:0<n)(hl:L.length=256)
  (hR:∀ b' w',St w0 bs w' (⟨b',paintCells n L,285,true⟩::H)->ab R (.pointer (some ⟨b',0,none⟩)) w'):Calls prog 343 #[.pointer (some ⟨b,0,none⟩)] w R:=by
 have hS:=hO
 have i1:=uj (n:=n) hl
 have i2:=rQ (n:=0) (m:=n) zerosLen hl
 have i3:=ui (n:=n) (L:=L)
 have i4:=rP (n:=n) hl
 go_enter func343,ntmps343
 go_wp2_with (first|go_at_call 342;refine dZ (hS.has hH) ?_;unfold ab|refine au rfl hS ?_|refine ak rfl hS ?_;clear hS;intro w hS|refine aq _ rfl hS ?_;clear hS;intro bN w hbN hS)
 exact hR _ _ hS
instance OQ:ElemT prog 5 1 1 #[.int .u8 0]:=⟨by kernel_rfl⟩
instance Iq:SliceT prog 24 5:=⟨by kernel_rfl⟩
theorem oA:Builtin.zeroCells #[.int .u8 0] 256=(zerosL.map (Value.int .u8)).toArray:=by kernel_rfl
theorem oY {n:Int}{L:List Int}(h:L.length=256):SetsAt (paintCells n L) 1 (Builtin.zeroCells #[.int .u8 0] 256) (paintCells n zerosL):=
 ⟨by rw[oA];simp[paintCells,h,zerosLen],by rw[oA];simp[paintCells,h,zerosLen]⟩
theorem ut:OneCells (Builtin.zeroCells #[.int .u8 0] 256):=⟨by
 rw[oA];intro v hv;simp at hv;obtain⟨_,_,rfl⟩:=hv;rfl⟩
theorem clear_ok (hO:St w0 bs w H)[hH:Has H b (paintCells n L) 285](hn:0<n)(hl:L.length=256)[hu:Upd H b (paintCells n zerosL) 285 H']
  (hR:∀ w',St w0 bs w' H'->ab R (.tuple #[]) w'):Calls prog 395 #[.pointer (some ⟨b,0,none⟩)] w R:=by
 have hS:=hO
 have i1:=oY (n:=n) hl
 have i2:=ut
 go_enter func395,ntmps395
 go_wp2_with (first|go_at_call 342;refine dZ (hS.has hH) ?_;unfold ab|refine aF (.call { callee:=.builtin .clear,args:=#[_],argTypes:=#[_] }) rfl ?_;refine wS (tm rfl hS (by decide) ?_);clear hS;intro w hS)
 go_end0
 exact hR _ hS
open Go.RowKit Go.Mm
variable {R:Ending->World->Prop}{w:World}{b:Nat}{n:Int}{L:List Int}{w0:World}{bs:List Nat}{H H' : List Ent}
def Ha (c:Int)(L:List Int)(k:Nat):Nat:=((L.take k).filter (fun x=>x == c)).length
def O6 (L:List Int)(k:Nat):Array Value:=#[.int .i64 (Ha 0 L k),.int .i64 (Ha 1 L k),.int .i64 (Ha 2 L k)]
open Go.RowKit Go.Mm
attribute [local go_sem] Oper.semAt_some
variable {R:Ending->World->Prop}{w:World}{b:Nat}{L:List Int}{w0:World}{bs:List Nat}{H H' : List Ent}
theorem qF {m:Nat}{n:Int}{W:World}(hP:dC W b n L)(hR:ab R (.bool (decide (0<n))) W):CallsIn Fence.wide m prog 342 #[.pointer (some ⟨b,0,none⟩)] W R:=callsIn_wide.2 (dZ hP hR)
instance MQ:ScalarT prog 207:=⟨by kernel_rfl,by kernel_rfl⟩
def isGrey (L:List Int)(f:Int)(i:Nat):Bool:=decide (f≤i) && (L.getD i 0 == 1)
theorem g9 {L:List Int}{f:Int}{k:Nat}(h:(k:Int)≤f∨k=0):gl (isGrey L f) k=[]:=by
 unfold gl
 rw[List.filter_eq_nil_iff]
 intro i hi
 simp only[List.mem_range] at hi
 simp[isGrey]
 intro _
 omega
theorem qR {p:Nat->Bool}{k n:Nat}(h:k≤n∨gl p k=[])(hn:n≤k):gl p k=gl p n:=by
 rcases h with h|h
 ·rw[show k=n by omega]
 ·rw[h]
  symm
  unfold gl at *
  rw[List.filter_eq_nil_iff] at *
  intro i hi
  exact h i (by simp at hi ⊢;omega)
theorem py {n m:Nat}{f:Int}(h1:1≤m)(bp bf:Nat){W:World}(hp:W.heap[bp]?=some (.cells #[.pointer (some ⟨b,0,none⟩)] 207 (0,0)))(hf:W.heap[bf]?=some (.cells #[.int .i64 f] 3 (0,0)))
  (hP:dC W b n L) (hpf:bp≠bf∧bp≠b∧bf≠b) (hn:0<n) (hn2:n≤256) (hl:L.length=256) :
  SeqStopsK Fence.wide m prog 468 #[.pointer (some ⟨bp,0,none⟩),.pointer (some ⟨bf,0,none⟩)] (fun i:Nat=>#[.int .i64 i]) (Kept [bp,bf,b])
   (fun xs=>xs=gl (isGrey L f) n) (fun pre=>∃ k,k<n∧isGrey L f k=true∧pre=gl (isGrey L f) k++[k]) 257 W:=by
 intro l J Jx W1 hW hJ hJx hY h0
 have hF:=bY
 have hk:∀ W',Kept [bp,bf,b] W1 W'->St W' [] W' [⟨bp,#[.pointer (some ⟨b,0,none⟩)],207,false⟩,⟨bf,#[.int .i64 f],3,false⟩,⟨b,paintCells n L,285,false⟩]:=by
  intro W' hk
  have g:∀ x o,W.heap[x]?=some o->x∈[bp,bf,b]->W'.heap[x]?=some o:=fun x o ho hx=>by
   rw[hk x hx,hW.block x (bG ho)];exact ho
  refine St.start ?_ ?_ (by simp)
  ·simp only[List.mem_cons,List.not_mem_nil,or_false,forall_eq_or_imp,forall_eq]
   exact⟨g _ _ hp (by simp),g _ _ hf (by simp),g _ _ hP (by simp)⟩
  ·simp[hpf.1,hpf.2.1,hpf.2.2]
 have hS:=hk W1 (fun _ _=>rfl)
 refine callsIn_of_wp func468 rfl trivial ?_ rfl
 simp only[ntmps468,List.size_toArray,List.length_cons,List.length_nil,Nat.reduceAdd,Nat.reduceSub,Array.replicate_succ,Array.replicate_zero,List.push_toArray,List.append_toArray,List.nil_append,List.cons_append]
 have hn0:(0:Int)<n:=by omega
 by_cases hf0:0≤f
 ·obtain⟨g,rfl⟩:=Int.eq_ofNat_of_zero_le hf0
  clear hf0
  gi_wp2_with (first|gi_at_call 342;refine qF (hS.has inferInstance) ?_;unfold ab|refine aa hF rfl rfl (ar (ac _ _ rfl hS) ?_))
  gi_loopw [4] (fun v wr=>∃ k:Nat,v=.int .i64 k∧g≤(k:Int)∧(k≤n∨gl (isGrey L g) k=[])∧J (gl (isGrey L g) k) wr∧Kept [bp,bf,b] W1 wr) (fun v _=>n - (intOf v).toNat)
  case atStart=>exact⟨g,rfl,by omega,.inr (g9 (by omega)),by rw[g9 (by omega)];exact h0,fun _ _=>rfl⟩
  case round=>
   obtain⟨k,rfl,hfk,hor,hJk,hkk⟩:=hrel
   have hS:=hk wr hkk
   by_cases hlt:k<n
   ·have hcell:=jO (n:=n) (L:=L) (i:=k) (by omega)
    by_cases hg:L.getD k 0=1
    ·have hgk:isGrey L g k=true:=by simp only[isGrey,hg,hfk];decide
     have hgl:=HD (Sv hgk)
     rw[hg] at hcell
     clear hg
     obtain⟨fn,tmps,assign,body,hy,hRd⟩:=hY (gl (isGrey L g) k) k wr hJk (by have:=e9 (isGrey L g) k;omega)
     gi_wp2_with (refine aa hF rfl rfl (ar (ac _ _ rfl hS) ?_))
     refine hRd.mono ?_
     rintro e W' (⟨rfl,hJ',hk'⟩|⟨rfl,hJx'⟩)
     ·gi_wp2
      go_roundw
      case rel=>exact⟨k+1,by go_num,by omega,.inl (by omega),by rw[hgl.out];exact hJ',hkk.trans hk'⟩
      case measure=>simp[intOf];omega
     ·gi_wp2
      refine bodyPost_ret (results_none rfl _ _ _) rfl ?_
      exact⟨⟨_,rfl⟩,.inr ⟨_,⟨k,hlt,hgk,rfl⟩,hJx'⟩⟩
    ·have hgk:isGrey L g k=false:=by simp only[isGrey,beq_eq_false_iff_ne.2 hg,Bool.and_false]
     have hgl:=HD (eS hgk)
     have hne:(L.getD k 0 == 1)=false:=by simpa using hg
     clear hg
     generalize L.getD k 0=c at *
     gi_wp2_with (refine aa hF rfl rfl (ar (ac _ _ rfl hS) ?_))
     go_roundw
     case rel=>exact⟨k+1,by go_num,by omega,.inl (by omega),by rw[hgl.out];exact hJk,hkk⟩
     case measure=>simp[intOf];omega
   ·have hd1:n≤k:=by omega
    gi_wp2_with (refine aa hF rfl rfl (ar (ac _ _ rfl hS) ?_))
    go_end0
    exact⟨⟨_,rfl⟩,.inl ⟨gl (isGrey L g) k,qR hor hd1,hJk⟩⟩
 ·have hf1:f<0:=by omega
  gi_wp2_with (first|gi_at_call 342;refine qF (hS.has inferInstance) ?_;unfold ab|refine aa hF rfl rfl (ar (ac _ _ rfl hS) ?_))
  gi_loopw [4] (fun v wr=>∃ k:Nat,v=.int .i64 k∧f≤(k:Int)∧(k≤n∨gl (isGrey L f) k=[])∧J (gl (isGrey L f) k) wr∧Kept [bp,bf,b] W1 wr) (fun v _=>n - (intOf v).toNat)
  case atStart=>exact⟨0,rfl,by omega,.inr (g9 (by omega)),by rw[g9 (by omega)];exact h0,fun _ _=>rfl⟩
  case round=>
   obtain⟨k,rfl,hfk,hor,hJk,hkk⟩:=hrel
   have hS:=hk wr hkk
   by_cases hlt:k<n
   ·have hcell:=jO (n:=n) (L:=L) (i:=k) (by omega)
    by_cases hg:L.getD k 0=1
    ·have hgk:isGrey L f k=true:=by simp only[isGrey,hg,hfk];decide
     have hgl:=HD (Sv hgk)
     rw[hg] at hcell
     clear hg
     obtain⟨fn,tmps,assign,body,hy,hRd⟩:=hY (gl (isGrey L f) k) k wr hJk (by have:=e9 (isGrey L f) k;omega)
     gi_wp2_with (refine aa hF rfl rfl (ar (ac _ _ rfl hS) ?_))
     refine hRd.mono ?_
     rintro e W' (⟨rfl,hJ',hk'⟩|⟨rfl,hJx'⟩)
     ·gi_wp2
      go_roundw
      case rel=>exact⟨k+1,by go_num,by omega,.inl (by omega),by rw[hgl.out];exact hJ',hkk.trans hk'⟩
      case measure=>simp[intOf];omega
     ·gi_wp2
      refine bodyPost_ret (results_none rfl _ _ _) rfl ?_
      exact⟨⟨_,rfl⟩,.inr ⟨_,⟨k,hlt,hgk,rfl⟩,hJx'⟩⟩
    ·have hgk:isGrey L f k=false:=by simp only[isGrey,beq_eq_false_iff_ne.2 hg,Bool.and_false]
     have hgl:=HD (eS hgk)
     have hne:(L.getD k 0 == 1)=false:=by simpa using hg
     clear hg
     generalize L.getD k 0=c at *
     gi_wp2_with (refine aa hF rfl rfl (ar (ac _ _ rfl hS) ?_))
     go_roundw
     case rel=>exact⟨k+1,by go_num,by omega,.inl (by omega),by rw[hgl.out];exact hJk,hkk⟩
     case measure=>simp[intOf];omega
   ·have hd1:n≤k:=by omega
    gi_wp2_with (refine aa hF rfl rfl (ar (ac _ _ rfl hS) ?_))
    go_end0
    exact⟨⟨_,rfl⟩,.inl ⟨gl (isGrey L f) k,qR hor hd1,hJk⟩⟩
theorem nz {W:World}{f:Int}{p:Option Addr}(hO:St w0 bs W H)
  (hR:∀ bp bf w',St w0 bs w' (⟨bf,#[.int .i64 f],3,true⟩::⟨bp,#[.pointer p],207,true⟩::H)->ab R (.func (.func 468) #[] #[.pointer (some ⟨bp,0,none⟩),.pointer (some ⟨bf,0,none⟩)]) w') :
  Calls prog 462 #[.pointer p,.int .i64 f] W R:=by
 have hS:=hO
 go_enter func462,ntmps462
 go_wp2_with ((refine am _ rfl hS ?_);clear hS;intro bN w hbN hS)
 exact hR _ _ _ hS
def firstOf (p:Nat->Bool)(n:Nat):Option Nat:=(List.range n).find? p
theorem ew {p:Nat->Bool}{n:Nat}(h:gl p n=[]):firstOf p n=none:=by
 unfold firstOf gl at *
 rw[List.find?_eq_none]
 rw[List.filter_eq_nil_iff] at h
 exact h
theorem fa {p:Nat->Bool}{n k y:Nat}(hk:k<n)(hp:p k=true)(h : [y]=gl p k++[k]):firstOf p n=some y:=by
 have h0:gl p k=[]:=by
  cases hg:gl p k with
  | nil=>rfl
  | cons a l=>rw[hg] at h;simp at h
 rw[h0] at h
 simp at h;subst h
 unfold firstOf
 obtain⟨m,rfl⟩:∃ m,n=y+1+m:=⟨n - (y+1),by omega⟩
 unfold gl at h0
 rw[List.filter_eq_nil_iff] at h0
 rw[List.range_add,List.find?_append,List.range_succ,List.find?_append,List.find?_eq_none.2 (by simpa using h0)]
 simp[hp]
theorem grey_ok {W:World}{n:Nat}{f:Int}(hO:St w0 bs W H)[hH:Has H b (paintCells n L) 285](hn:0<n)(hn2:n≤256)(hl:L.length=256)
  (hR:∀ w',St w0 bs w' H->ab R (.tuple #[.int .i64 ((firstOf (isGrey L f) n).getD 0:Nat),.bool (firstOf (isGrey L f) n).isSome]) w'):Calls prog 447 #[.pointer (some ⟨b,0,none⟩),.int .i64 f] W R:=by
 have hS:St W [] W [⟨b,paintCells n L,285,false⟩]:=St.start1 (hO.has hH) (by simp)
 refine(callsIn_wide (n:=3)).1 ?_
 have hF:=bY
 refine callsIn_of_wp_marks func447 rfl trivial ?_ rfl
 simp only[ntmps447,List.size_toArray,List.length_cons,List.length_nil,Nat.reduceAdd,Nat.reduceSub,Array.replicate_succ,Array.replicate_zero,List.push_toArray,List.append_toArray,List.nil_append,List.cons_append]
 gi_wp2_with (first|gi_at_call 462;refine callsIn_wide.2 (nz hS ?_);clear hS;intro bp bf w hS;unfold ab|refine aa hF rfl rfl (cg _ rfl hS ?_);clear hS;intro bN w hbN hS)
 rename_i c0 _ _ _ _ _
 have hnd:=hS.nd
 simp only[List.pairwise_cons,List.mem_cons,List.not_mem_nil,or_false,forall_eq_or_imp,forall_eq,List.Pairwise.nil,and_true,false_implies,implies_true] at hnd
 obtain⟨⟨n1,n2,n3,n4⟩,⟨n5,n6,n7⟩,_⟩:=hnd
 refine eO (w0:=W) (bs:=[]) (X:=Unit) (Y:=Nat) (by omega) (gf:=468) (lb:=#[.pointer (some ⟨bp,0,none⟩),.pointer (some ⟨bf,0,none⟩)]) rfl ae
  (K:=[⟨bp,#[.pointer (some ⟨b,0,none⟩)],207,true⟩,⟨bf,#[.int .i64 f],3,true⟩,⟨b,paintCells n L,285,false⟩]) hS.chg.size ?_
  (py (by omega) bp bf (hS.has inferInstance) (hS.has inferInstance) (hS.has inferInstance) ⟨fun e=>n1 e.symm,n7,n4⟩ hn hn2 hl) (fun _=>rfl)
  (fun pre _=>pre=[]) (fun _ _=>[⟨bf,#[.int .i64 f],3,true⟩,⟨bp,#[.pointer (some ⟨b,0,none⟩)],207,true⟩,⟨bN,#[.bool false],4,true⟩,⟨c0,#[.int .i64 0],3,true⟩,⟨b,paintCells n L,285,false⟩]) ?_
  (fun c pre y=>c=.ret∧pre=[y]) (fun _ _ y=>[⟨bf,#[.int .i64 f],3,true⟩,⟨bp,#[.pointer (some ⟨b,0,none⟩)],207,true⟩,⟨bN,#[.bool true],4,true⟩,⟨c0,#[.int .i64 (y:Nat)],3,true⟩,⟨b,paintCells n L,285,false⟩])
  (x0:=()) rfl hS
  (fun x=>{ tmps:=#[.pointer (some ⟨b,0,none⟩),.int .i64 f,undef,undef,.pointer (some ⟨c0,0,none⟩),.pointer (some ⟨bN,0,none⟩),.int .i64 x,.pointer (some ⟨b,0,none⟩),.int .i64 f,.func (.func 468) #[] #[.pointer (some ⟨bp,0,none⟩),.pointer (some ⟨bf,0,none⟩)],.int .i64 x,undef],defers:=[] }) ?assign ?body ?done ?stop
 ·intro e he
  simp only[List.mem_cons,List.not_mem_nil,or_false] at he
  rcases he with rfl|rfl|rfl
  ·exact hS.lt (e:=⟨bp,_,_,_⟩) (by simp)
  ·exact hS.lt (e:=⟨bf,_,_,_⟩) (by simp)
  ·exact hS.lt (e:=⟨b,_,_,_⟩) (by simp)
 ·intro _ _ _ e he
  simp only[List.mem_cons,List.not_mem_nil,or_false] at he ⊢
  rcases he with rfl|rfl|rfl <;> simp
 case assign=>
  intro l x W K hK
  gi_wp2
  exact hK
 case body=>
  rintro l pre el ⟨⟩ w2 rfl _ hS
  have hF:=cu l
  gi_wp2_with ((refine aa hF rfl rfl (cL _ _ _ rfl hS ?_));clear hS;intro w hS)
  exact⟨el,⟨rfl,rfl⟩,hS⟩
 case done=>
  rintro d xs ⟨⟩ w2 hxs hnil hS0 hd
  have hS:=hS0.rebase
  gi_wp2_with ((refine aa hF rfl rfl (cL _ _ _ rfl hS ?_));clear hS;intro w hS)
  refine bS hd hS0 hS (fun W3 hS3=>⟨_,dp rfl hS3,?_⟩)
  have e:firstOf (isGrey L f) n=none:=ew (hxs.symm.trans hnil)
  rw[e] at hR
  exact hR _ (hO.nil hS3.chg)
 case stop=>
  rintro d c pre y w2 ⟨k,hk,hg,hpre⟩ ⟨rfl,rfl⟩ hS0 hd
  gi_wp2
  refine bS hd hS0 hS0.rebase (fun W3 hS3=>⟨_,dp rfl hS3,?_⟩)
  have e:firstOf (isGrey L f) n=some y:=fa hk hg hpre
  rw[e] at hR
  exact hR _ (hO.nil hS3.chg)
open Go.RowKit Go.Mm
attribute [local go_sem] Oper.semAt_some
variable {R:Ending->World->Prop}{w:World}{b:Nat}{n:Int}{L:List Int}{w0:World}{bs:List Nat}{H H' : List Ent}
def mh (p:Option Addr)(E:List Ent):Prop:=∀ (R:Ending->World->Prop) (w0:World) (bs:List Nat) (w:World),St w0 bs w E->ab R (.bool false) w->Calls prog 342 #[.pointer p] w R
theorem AJ:mh none []:=fun _ _ _ _ _ h=>j5 h
theorem xz {wr:Bool} : mh (some ⟨b,0,none⟩) [⟨b,paintCells 0 L,285,wr⟩]:=fun _ _ _ _ hS h=>dZ (hS.has inferInstance) h
theorem kL {m:Nat}{f:Int}{p:Option Addr}{E:List Ent}(h1:1≤m)(bp bf:Nat){W:World}(hp:W.heap[bp]?=some (.cells #[.pointer p] 207 (0,0)))(hf:W.heap[bf]?=some (.cells #[.int .i64 f] 3 (0,0)))
  (hE:∀ e∈E,W.heap[e.b]?=some (.cells e.cs e.T (0,0))) (hnd:((⟨bp,#[.pointer p],207,false⟩:Ent)::⟨bf,#[.int .i64 f],3,false⟩::E).Pairwise (fun x y=>x.b≠y.b)) (hwr:∀ e∈E,e.wr=false) (hM:mh p E) :
  SeqStopsK Fence.wide m prog 468 #[.pointer (some ⟨bp,0,none⟩),.pointer (some ⟨bf,0,none⟩)] (fun i:Nat=>#[.int .i64 i]) (Kept (bp::bf::E.map (·.b)))
   (fun xs=>xs=[]) (fun _=>False) 0 W:=by
 intro l J Jx W1 hW hJ hJx hY h0
 have hF:=bY
 have g:∀ x o,W.heap[x]?=some o->W1.heap[x]?=some o:=fun x o ho=>by rw[hW.block x (bG ho)];exact ho
 have hS:St W1 [] W1 (⟨bp,#[.pointer p],207,false⟩::⟨bf,#[.int .i64 f],3,false⟩::E):=by
  refine St.start (fun e he=>?_) hnd (fun e he hw=>?_)
  ·rcases List.mem_cons.1 he with rfl|he
   ·exact g _ _ hp
   ·rcases List.mem_cons.1 he with rfl|he
    ·exact g _ _ hf
    ·exact g _ _ (hE e he)
  ·rcases List.mem_cons.1 he with rfl|he
   ·cases hw
   ·rcases List.mem_cons.1 he with rfl|he
    ·cases hw
    ·rw[hwr e he] at hw;cases hw
 have hM':=HD hM
 clear hE hnd hwr hp hf g hM hY hJx hJ hW
 refine callsIn_of_wp func468 rfl trivial ?_ rfl
 simp only[ntmps468,List.size_toArray,List.length_cons,List.length_nil,Nat.reduceAdd,Nat.reduceSub,Array.replicate_succ,Array.replicate_zero,List.push_toArray,List.append_toArray,List.nil_append,List.cons_append]
 gi_wp2_with (first|gi_at_call 342;refine callsIn_wide.2 (hM'.out _ _ _ _ (hS.weak (H':=E)) ?_);unfold ab|refine aa hF rfl rfl (ar (ac _ _ rfl hS) ?_))
 refine bodyPost_ret (results_none rfl _ _ _) rfl ?_
 exact⟨⟨_,rfl⟩,.inl ⟨[],rfl,h0⟩⟩
theorem qQ {W:World}{f:Int}{p:Option Addr}{E:List Ent}(hE:∀ e∈E,W.heap[e.b]?=some (.cells e.cs e.T (0,0)))(hndE:E.Pairwise (fun x y=>x.b≠y.b))(hwr:∀ e∈E,e.wr=false)(hM:mh p E)
  (hR:∀ w',Chg W w' []->ab R (.tuple #[.int .i64 0,.bool false]) w'):Calls prog 447 #[.pointer p,.int .i64 f] W R:=by
 have hS:St W [] W E:=St.start hE hndE (fun e he hw=>by rw[hwr e he] at hw;cases hw)
 refine(callsIn_wide (n:=3)).1 ?_
 have hF:=bY
 refine callsIn_of_wp_marks func447 rfl trivial ?_ rfl
 simp only[ntmps447,List.size_toArray,List.length_cons,List.length_nil,Nat.reduceAdd,Nat.reduceSub,Array.replicate_succ,Array.replicate_zero,List.push_toArray,List.append_toArray,List.nil_append,List.cons_append]
 gi_wp2_with (first|gi_at_call 462;refine callsIn_wide.2 (nz hS ?_);clear hS;intro bp bf w hS;unfold ab|refine aa hF rfl rfl (cg _ rfl hS ?_);clear hS;intro bN w hbN hS)
 rename_i c0 _ _ _ _ _
 have hnd:=hS.nd
 simp only[List.pairwise_cons,List.mem_cons,forall_eq_or_imp] at hnd
 obtain⟨⟨n1,n2,n3,n4⟩,⟨n5,n6,n7⟩,⟨n8,n9⟩,n10,n11⟩:=hnd
 refine eO (w0:=W) (bs:=[]) (X:=Unit) (Y:=Nat) (by omega) (gf:=468) (lb:=#[.pointer (some ⟨bp,0,none⟩),.pointer (some ⟨bf,0,none⟩)]) rfl ae
  (K:=⟨bp,#[.pointer p],207,true⟩::⟨bf,#[.int .i64 f],3,true⟩::E) hS.chg.size ?_
  (kL (by omega) bp bf (hS.has inferInstance) (hS.has inferInstance) (fun e he=>hS.get e (by simp[he])) (List.pairwise_cons.2 ⟨fun y hy=>?_,List.pairwise_cons.2 ⟨fun y hy=>n4 y hy,hndE⟩⟩) hwr hM) (fun _=>rfl)
  (fun pre _=>pre=[]) (fun _ _=>⟨bf,#[.int .i64 f],3,true⟩::⟨bp,#[.pointer p],207,true⟩::⟨bN,#[.bool false],4,true⟩::⟨c0,#[.int .i64 0],3,true⟩::E) ?_
  (fun c pre y=>False) (fun _ _ y=>[])
  (x0:=()) rfl hS
  (fun x=>{ tmps:=#[.pointer p,.int .i64 f,undef,undef,.pointer (some ⟨c0,0,none⟩),.pointer (some ⟨bN,0,none⟩),.int .i64 x,.pointer p,.int .i64 f,.func (.func 468) #[] #[.pointer (some ⟨bp,0,none⟩),.pointer (some ⟨bf,0,none⟩)],.int .i64 x,undef],defers:=[] }) ?assign ?body ?done ?stop
 ·intro e he
  refine hS.lt ?_
  simp only[List.mem_cons] at he ⊢
  rcases he with rfl|rfl|he <;> simp[*]
 ·rcases List.mem_cons.1 hy with rfl|hy
  ·exact fun e=>n1 e.symm
  ·exact n7 y hy
 ·intro _ _ _ e he
  simp only[List.mem_cons] at he ⊢
  rcases he with rfl|rfl|he <;> simp[*]
 case assign=>
  clear hE hndE hwr hM hS n1 n2 n3 n4 n5 n6 n7 n8 n9 n10 n11 hR
  intro l x W K hK
  have hF:=cu l
  gi_wp2
  exact hK
 case body=>
  rintro l pre el ⟨⟩ w2 rfl hlt _
  exact absurd hlt (Nat.not_lt_zero _)
 case done=>
  rintro d xs ⟨⟩ w2 hxs hnil hS0 hd
  have hS:=hS0.rebase
  gi_wp2_with ((refine aa hF rfl rfl (cL _ _ _ rfl hS ?_));clear hS;intro w hS)
  refine bS hd hS0 hS (fun W3 hS3=>⟨_,dp rfl hS3,?_⟩)
  exact hR _ hS3.chg
 case stop=>
  rintro d c pre y w2 hf _ _ _
  exact hf.elim
theorem grey_nil {W:World}{f:Int}(hR:∀ w',Chg W w' []->ab R (.tuple #[.int .i64 0,.bool false]) w'):Calls prog 447 #[.pointer none,.int .i64 f] W R:=
 qQ (E:=[]) (by simp) .nil (by simp) AJ hR
theorem grey_zero {W:World}{f:Int}(hP:dC W b 0 L)(hR:∀ w',Chg W w' []->ab R (.tuple #[.int .i64 0,.bool false]) w'):Calls prog 447 #[.pointer (some ⟨b,0,none⟩),.int .i64 f] W R:=
 qQ (E:=[⟨b,paintCells 0 L,285,false⟩]) (by simpa using hP) (by simp) (by simp) xz hR
end Go.Proofs.YtnbgljbhkeffkaaGreatDoor.Col
