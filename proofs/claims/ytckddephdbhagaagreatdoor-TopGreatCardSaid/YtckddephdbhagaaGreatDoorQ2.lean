/- A part of the proof that TopGreat answers true: what some of the functions on its road compute. -/
import Derived.Laws.MakeOwn
import Derived.Test.YtckddephdbhagaaGreatDoorQ1
set_option linter.unusedVariables false
set_option linter.unusedSimpArgs false
namespace Go.Q
open Go.RowKit Go.Proofs
structure Tree (G:Nat) (par wt:Nat→Int):Prop where
 g1:1≤G
 g2:G≤256
 p0:par 0=0
 w0:wt 0=1
 parOk:∀ g,0 < g→g < G→0≤par g∧par g < g
 wtOk:∀ g,g < G→1≤wt g∧wt g≤65536
 dep:∀ g,g < G→∃ d,d≤4∧Dep par g d
theorem grp_even (par wt:Nat→Int) (g:Nat):grp par wt (g * 2)= .int .i64 (par g):=by
 simp only [grp,show g * 2 % 2=0 from by omega,show g * 2 / 2=g from by omega,if_true]
theorem grp_odd (par wt:Nat→Int) (g:Nat):grp par wt (g * 2+1)= .int .i64 (wt g):=by
 simp only [grp,show (g * 2+1) % 2≠0 from by omega,show (g * 2+1) / 2=g from by omega,if_false]
theorem gweighs_yes (n:Int) (h1:1≤n) (h2:n≤65536) (w:World):Calls Tryz.prog 257 #[.int .i64 n] w fun e w' => e= .returned (.bool true)∧w=w' :=by
 go_enter Tryz.func257,Tryz.ntmps257
 go_wp2
 go_ret
 exact ⟨rfl,rfl⟩
set_option maxRecDepth 100000 in
theorem check_ok (gb G cap:Nat) (par wt:Nat→Int) (T:Tree G par wt) (w:World) (hr:Row w gb (G * 2) (grp par wt)):
  Calls Tryz.prog 195 #[.slice (some ⟨gb,0,none⟩) G cap] w fun e w' => e= .returned (.tuple #[.int .i64 (-1), .int .i64 0])∧Below w.heap.size w w' :=by
 have c0:=hr.cell (i:=0) (by have:=T.g1;omega)
 have c1:=hr.cell (i:=1) (by have:=T.g1;omega)
 have e0:grp par wt 0= .int .i64 0:=by rw [show 0=0 * 2 from rfl,grp_even,T.p0]
 have e1:grp par wt 1= .int .i64 1:=by rw [show 1=0 * 2+1 from rfl,grp_odd,T.w0]
 rw [e0] at c0
 rw [e1] at c1
 clear e0 e1
 have g1:=T.g1
 have g2:=T.g2
 have k1:(1:Int)≤(G:Int):=by omega
 have k2:(G:Int)≤256:=by omega
 have k3:((G:Int)==0)=false:=by simp;omega
 have lg:=hr.lt
 go_enter Tryz.func195,Tryz.ntmps195
 go_wp2
 go_loopw [4] (fun v wr=> ∃ g:Nat,1≤g∧g≤G∧v= .int .i64 g∧Below w.heap.size w wr) (fun v _=> G - (intOf v).toNat)
 case atStart=> exact ⟨1,by omega,by omega,rfl,belowX⟩
 case round=>
  obtain ⟨g,hg1,hgG,rfl,hb⟩:=hrel
  have R:=hr.below hb hr.lt
  by_cases hg:g < G
  ·have i0:(g:Int) < (G:Int):=by omega
   have i1:(0:Int) < (g:Int):=by omega
   have hp:=T.parOk g (by omega) hg
   have hw:=T.wtOk g hg
   obtain ⟨d,hd,hD⟩:=T.dep g hg
   have p0:=R.cell (i:=g * 2) (by omega)
   have p1:=R.cell (i:=g * 2+1) (by omega)
   rw [grp_even] at p0
   rw [grp_odd] at p1
   have q0:=hp.1
   have q1:=hp.2
   have q2:=hw.1
   have q3:=hw.2
   have q4:(d:Int)≤4:=by omega
   clear hp hw
   go_wp2_with fail
   refine (gweighs_yes (wt g) q2 q3 _).mono ?_;rintro e w1 ⟨rfl,rfl⟩
   go_wp2_with fail
   refine (depth_any gb G cap par wt g d hD (by omega) T.parOk hg _ R).mono ?_;rintro e w1 ⟨rfl,hb1⟩
   go_wp2
   go_roundw
   case rel=> exact ⟨g+1,by omega,by omega,by go_num,hb.trans (hb1.mono hb.size)⟩
   case measure=> simp [intOf];omega
  ·have i0:(G:Int)≤(g:Int):=by omega
   go_wp2
   go_ret2
   exact ⟨rfl,hb⟩
theorem gright_ok (gb G cap:Nat) (par wt:Nat→Int) (T:Tree G par wt) (w:World) (hr:Row w gb (G * 2) (grp par wt)):
  Calls Tryz.prog 121 #[.slice (some ⟨gb,0,none⟩) G cap] w fun e w' => e= .returned (.bool true)∧Below w.heap.size w w' :=by
 go_enter Tryz.func121,Tryz.ntmps121
 go_wp2_with fail
 refine (check_ok gb G cap par wt T w hr).mono ?_;rintro e w1 ⟨rfl,hb⟩
 go_wp2
 go_ret
 exact ⟨rfl,hb⟩
abbrev cfgv (C cr:Int) (gb G cap:Nat):Value:= .agg #[.int .i64 C, .int .u64 cr, .slice (some ⟨gb,0,none⟩) G cap]
theorem rightConfig_ok (C cr:Int) (gb G cap:Nat) (par wt:Nat→Int) (h1:1≤C) (h2:C≤64) (h3:0≤cr) (h4:cr≤1099511627776) (T:Tree G par wt) (w:World) (hr:Row w gb (G * 2) (grp par wt)):
  Calls Tryz.prog 56 #[cfgv C cr gb G cap] w fun e w' => e= .returned (.bool true)∧Below w.heap.size w w' :=by
 have lg:=hr.lt
 go_enter Tryz.func56,Tryz.ntmps56
 go_wp2_with fail
 refine (gright_ok gb G cap par wt T _ (hr.alloc _)).mono ?_;rintro e w1 ⟨rfl,hb⟩
 go_wp2
 go_ret
 exact ⟨rfl,belowX⟩
end Go.Q
namespace Go.Q
open Go.RowKit Go.Proofs
theorem Tryz.infoInt:(Tryz.prog.info? 3).map (fun i=> (i.zero,i.size,i.bytes))=some (some (.int .i64 0),1,8):=by kernel_rfl
theorem Tryz.infoGroup:(Tryz.prog.info? 71).map (fun i=> (i.zero,i.size,i.bytes))=some (some (.agg #[.int .i64 0, .int .i64 0]),2,16):=by kernel_rfl
theorem Tryz.infoTask:(Tryz.prog.info? 119).map (fun i=> (i.zero,i.size,i.bytes))=some (some (.agg #[.int .i64 0, .int .i64 0, .int .i64 0, .int .i64 0, .int .u64 0, .bool false, .int .u64 0, .int .u32 0]),8,64):=by kernel_rfl
theorem Tryz.infoSpot:(Tryz.prog.info? 122).map (fun i=> (i.zero,i.size,i.bytes))=some (some (.agg #[.int .u64 0, .int .u32 0, .int .u64 0]),3,24):=by kernel_rfl
section
variable {P:Program} {W:World} {ops:Array Oper} {rest:List Oper} {o:Oper} {a:Act} {Q:Exit→Act→World→Prop}
theorem wpList_app_row (hgd:o.guard=none) (s x:Operand) (t:TypeId) (ho:o.op= .call { callee:= .builtin .append,args:= #[s,x],argTypes:= #[t,t] })
  (e:TypeId) (i:TypeInfo) (z:Value) (size bytes:Nat) (ht:P.underlying t=some (.slice e)) (hi:P.info? e=some i) (hz:i.zero=some z) (hsize:i.size=size) (hby:i.bytes=bytes) (hzs:z.cells.size=size) (hsz:0 < size) (hbb:bytes≤1000)
  (b m c:Nat) (F:Nat→Value) (hr:Row W b (m * size) F) (hm:0 < m) (hm2:m≤1000000000) (h1:∀ i,i < m * size→(F i).oneCell' =true) (hs:a.eval s= .slice (some ⟨W.heap.size,0,none⟩) 0 0) (hx:a.eval x= .slice (some ⟨b,0,none⟩) m c)
  (h:∀ g cap w1,W.heap.size≤g→g < w1.heap.size→m≤cap→Row w1 g (m * size) F→Mod No W w1→wpList P ops Q rest (a.put o.dst (.slice (some ⟨g,0,none⟩) m cap)) w1):wpList P ops Q (o::rest) a (W.alloc (.cells #[] e)):=by
 refine wpList_append_lies _ hgd s x t ho W.heap.size e i z size bytes ht hi hz hsize hby hzs hsz _ 0 [] hs (World.ownsRow_made W #[] 0 (Nat.le_refl _) (Nat.zero_le _) (by simp)) ⟨b,0,none⟩ m c ((List.range (m * size)).map F) hx (by simp) ?_ ?_ hm (by simp only [maxLen];omega) (by have:(0+m) * bytes≤1000000000 * 1000:=Nat.mul_le_mul (by omega) hbb;omega) (by simp) _ rfl ?_
 ·intro j u hj
  have hjm:j < m * size:=by have:=(List.getElem?_eq_some_iff.1 hj).1;simpa using this
  simp only [List.getElem?_map,List.getElem?_range hjm,Option.map_some,Option.some.injEq] at hj
  rw [Addr.add_lit,Nat.zero_add,(hr.alloc _).cell hjm,hj]
 ·intro u hu
  obtain ⟨j,hj,rfl⟩:=List.mem_map.1 hu
  exact h1 j (by simpa using hj)
 ·intro g cap w1 hown hgrow hat hlt
  simp only [Nat.zero_add,List.nil_append] at hown
  simp only [Value.ownBlock,World.size_alloc] at hgrow hat
  have hgs:=hgrow.size
  simp only [World.size_alloc] at hgs
  have hR:=(own_row hown).congr (G:=F) (fun i hi=> by simp [hi])
  simp only [Nat.zero_add]
  refine h g cap w1 ?_ hlt (own_cap hown) hR ⟨hgrow.os,hgrow.tape,hgrow.output,by omega,fun k hk _=> (hgrow.block k (by simp;omega) (by simp;omega)).trans (Below.heap_alloc _ _ _ hk)⟩
  rcases hat with hat|hat
  ·simp at hat;omega
  ·omega
end
set_option maxRecDepth 100000 in
theorem cloneInts (b m c:Nat) (F:Nat→Value) (w:World) (hr:Row w b (m * 1) F) (hm:0 < m) (hm2:m≤1000000000) (h1:∀ i,i < m * 1→(F i).oneCell' =true):
  Calls Tryz.prog 87 #[.slice (some ⟨b,0,none⟩) m c] w fun e w' => ∃ g cap,e= .returned (.slice (some ⟨g,0,none⟩) m cap)∧w.heap.size≤g∧g < w'.heap.size∧m≤cap∧Row w' g (m * 1) F∧Mod No w w' :=by
 obtain ⟨i0,hi,hz0,hz1,hz2⟩:=info_parts Tryz.infoInt
 have q22:∀ (w:World) (a:Option Addr) (n c n' c' :Nat),(binOp .eql 44 (.slice a n c) (.slice none n' c')).run Tryz.prog w= .ok (.bool a.isNone) w:=fun w a n c n' c' => Lib.run_eql_slice_nil w _ _ a n c n' c' Tryz.underlying44
 have HH:=Lib.hid hr;clear hr
 go_enter Tryz.func87,Tryz.ntmps87
 go_wp2_with (at_builtin;go_must (refine wpList_app_row rfl _ _ 44 rfl 3 i0 (.int .i64 0) 1 8 Tryz.underlying44 hi hz0 hz1 hz2 rfl (by decide) (by decide) b m c F HH.out hm hm2 h1 rfl rfl ?_);intro g cap w1 g1 g2 g3 g4 g5)
 go_wp2
 go_ret
 exact ⟨g,cap,rfl,g1,g2,g3,g4,g5⟩
set_option maxRecDepth 100000 in
theorem cloneGroups (b m c:Nat) (F:Nat→Value) (w:World) (hr:Row w b (m * 2) F) (hm:0 < m) (hm2:m≤1000000000) (h1:∀ i,i < m * 2→(F i).oneCell' =true):
  Calls Tryz.prog 57 #[.slice (some ⟨b,0,none⟩) m c] w fun e w' => ∃ g cap,e= .returned (.slice (some ⟨g,0,none⟩) m cap)∧w.heap.size≤g∧g < w'.heap.size∧m≤cap∧Row w' g (m * 2) F∧Mod No w w' :=by
 obtain ⟨i0,hi,hz0,hz1,hz2⟩:=info_parts Tryz.infoGroup
 have q22:∀ (w:World) (a:Option Addr) (n c n' c' :Nat),(binOp .eql 38 (.slice a n c) (.slice none n' c')).run Tryz.prog w= .ok (.bool a.isNone) w:=fun w a n c n' c' => Lib.run_eql_slice_nil w _ _ a n c n' c' Tryz.underlying38
 have HH:=Lib.hid hr;clear hr
 go_enter Tryz.func57,Tryz.ntmps57
 go_wp2_with (at_builtin;go_must (refine wpList_app_row rfl _ _ 38 rfl 71 i0 _ 2 16 Tryz.underlying38 hi hz0 hz1 hz2 rfl (by decide) (by decide) b m c F HH.out hm hm2 h1 rfl rfl ?_);intro g cap w1 g1 g2 g3 g4 g5)
 go_wp2
 go_ret
 exact ⟨g,cap,rfl,g1,g2,g3,g4,g5⟩
set_option maxRecDepth 100000 in
theorem cloneTasks (b m c:Nat) (F:Nat→Value) (w:World) (hr:Row w b (m * 8) F) (hm:0 < m) (hm2:m≤1000000000) (h1:∀ i,i < m * 8→(F i).oneCell' =true):
  Calls Tryz.prog 123 #[.slice (some ⟨b,0,none⟩) m c] w fun e w' => ∃ g cap,e= .returned (.slice (some ⟨g,0,none⟩) m cap)∧w.heap.size≤g∧g < w'.heap.size∧m≤cap∧Row w' g (m * 8) F∧Mod No w w' :=by
 obtain ⟨i0,hi,hz0,hz1,hz2⟩:=info_parts Tryz.infoTask
 have q22:∀ (w:World) (a:Option Addr) (n c n' c' :Nat),(binOp .eql 45 (.slice a n c) (.slice none n' c')).run Tryz.prog w= .ok (.bool a.isNone) w:=fun w a n c n' c' => Lib.run_eql_slice_nil w _ _ a n c n' c' Tryz.underlying45
 have HH:=Lib.hid hr;clear hr
 go_enter Tryz.func123,Tryz.ntmps123
 go_wp2_with (at_builtin;go_must (refine wpList_app_row rfl _ _ 45 rfl 119 i0 _ 8 64 Tryz.underlying45 hi hz0 hz1 hz2 rfl (by decide) (by decide) b m c F HH.out hm hm2 h1 rfl rfl ?_);intro g cap w1 g1 g2 g3 g4 g5)
 go_wp2
 go_ret
 exact ⟨g,cap,rfl,g1,g2,g3,g4,g5⟩
theorem cloneTasks_nil (n c:Nat) (w:World):
  Calls Tryz.prog 123 #[.slice none n c] w fun e w' => e= .returned (.slice none 0 0)∧w=w' :=by
 have q22:∀ (w:World) (a:Option Addr) (n c n' c' :Nat),(binOp .eql 45 (.slice a n c) (.slice none n' c')).run Tryz.prog w= .ok (.bool a.isNone) w:=fun w a n c n' c' => Lib.run_eql_slice_nil w _ _ a n c n' c' Tryz.underlying45
 go_enter Tryz.func123,Tryz.ntmps123
 go_wp2
 go_ret
 exact ⟨rfl,rfl⟩
set_option maxRecDepth 100000 in
theorem cloneSpots (b m c:Nat) (F:Nat→Value) (w:World) (hr:Row w b (m * 3) F) (hm:0 < m) (hm2:m≤1000000000) (h1:∀ i,i < m * 3→(F i).oneCell' =true):
  Calls Tryz.prog 124 #[.slice (some ⟨b,0,none⟩) m c] w fun e w' => ∃ g cap,e= .returned (.slice (some ⟨g,0,none⟩) m cap)∧w.heap.size≤g∧g < w'.heap.size∧m≤cap∧Row w' g (m * 3) F∧Mod No w w' :=by
 obtain ⟨i0,hi,hz0,hz1,hz2⟩:=info_parts Tryz.infoSpot
 have q22:∀ (w:World) (a:Option Addr) (n c n' c' :Nat),(binOp .eql 103 (.slice a n c) (.slice none n' c')).run Tryz.prog w= .ok (.bool a.isNone) w:=fun w a n c n' c' => Lib.run_eql_slice_nil w _ _ a n c n' c' Tryz.underlying103
 have HH:=Lib.hid hr;clear hr
 go_enter Tryz.func124,Tryz.ntmps124
 go_wp2_with (at_builtin;go_must (refine wpList_app_row rfl _ _ 103 rfl 122 i0 _ 3 24 Tryz.underlying103 hi hz0 hz1 hz2 rfl (by decide) (by decide) b m c F HH.out hm hm2 h1 rfl rfl ?_);intro g cap w1 g1 g2 g3 g4 g5)
 go_wp2
 go_ret
 exact ⟨g,cap,rfl,g1,g2,g3,g4,g5⟩
end Go.Q
namespace Go.Q
open Go.RowKit Go.Proofs
def fl (l:List Value):Nat→Value:=fun i=> l.getD i undef
theorem row_newL (w:World) (l:List Value) (t:TypeId):Row (w.alloc (.cells l.toArray t)) w.heap.size l.length (fl l):=Row.new w _ t (by simp) (fun i hi=> by
 simp only [List.getElem?_toArray,fl,List.getD_eq_getElem?_getD,List.getElem?_eq_getElem hi,Option.getD_some])
theorem mk_fact {P:Program} (t e:TypeId) (z:Value) (size bytes:Nat) (ht:P.underlying t=some (.slice e)) (hinfo:(P.info? e).map (fun i=> (i.zero,i.size,i.bytes))=some (some z,size,bytes))
  (n:Nat) (hb:bytes * n≤281474976710656) (h63:n≤9223372036854775807) (w:World):
  (Instr.makeSlice t (.int .i64 (n:Int)) (.int .i64 (n:Int))).run P w= .ok (.slice (some ⟨w.heap.size,0,none⟩) n n) (w.alloc (.cells (madeCells z.cells (n * size)) e)):=by
 obtain ⟨i,hi,hz,hs,hbb⟩:=info_parts hinfo
 have hb' :(i.bytes:Int) * (n:Int)≤281474976710656:=by
  have h:((i.bytes * n:Nat):Int)≤281474976710656:=by rw [hbb];omega
  rwa [Int.natCast_mul] at h
 have hr:=run_make (P:=P) (w:=w) t e i z ht hi hz .i64 .i64 n n (by omega) (Int.le_refl _) hb' (by omega)
 simp only [Int.toNat_natCast,hs] at hr
 exact hr
theorem row_made (w:World) (z:Array Value) (N:Nat) (t:TypeId) (F:Nat→Value) (h:∀ i,i < N→z[i % z.size]! =F i):Row (w.alloc (.cells (madeCells z N) t)) w.heap.size N F:=
 Row.new w _ t (by rw [size_madeCells];omega) (fun i hi=> by simp [madeCells,hi,h i hi])
theorem row_newL' (w:World) (b:Nat) (l:List Value) (t:TypeId) (hb:b=w.heap.size):Row (w.alloc (.cells l.toArray t)) b l.length (fl l):=hb▸row_newL w l t
theorem row_made' (w:World) (b:Nat) (z:Array Value) (N:Nat) (t:TypeId) (F:Nat→Value) (hb:b=w.heap.size) (h:∀ i,i < N→z[i % z.size]! =F i):Row (w.alloc (.cells (madeCells z N) t)) b N F:=hb▸row_made w z N t F h
theorem IMap.new' (w:World) (q:IntKind) (b:Nat) (hb:b=w.heap.size):IMap (w.alloc (.map #[] 0)) q b []:=hb▸IMap.new w q
inductive Own|no|x|gb|cb|ub|tb|qo|ao|lb|tk|qi (g:Nat)|ai (g:Nat)|q (g c:Nat)
inductive QSt|e (fl ld:Int)|o (fl ld id v r k:Int)
abbrev ptr (b:Nat):Value:= .pointer (some ⟨b,0,none⟩)
abbrev slc (b n c:Nat):Value:= .slice (some ⟨b,0,none⟩) n c
def QAt (w:World) (ow:Nat→Own) (t:Own) (q:Nat):QSt→Prop
 | .e fl ld=> ∃ h pb eb,QE w q h pb eb 65792 fl ld∧ow q=t∧ow h=t∧ow pb=t∧ow eb=t
 | .o fl ld id v r k=> ∃ h pb eb ib,QO w q h pb eb ib 65792 fl ld id v r k∧ow q=t∧ow h=t∧ow pb=t∧ow eb=t∧ow ib=t
structure SB where
 (gb gcap cb ccap ub ucap tb qo qcap ao acap lb lcap tk:Nat)
 (qi ai:Nat→Nat)
 (q:Nat→Nat→Nat)
structure TSt where
 (id group weight cpu mask:Int)
 (ready:Bool)
 (v r k:Int)
structure SSt where
 (C G:Nat)
 cr:Int
 (par wt:Nat→Int)
 (clocks current loads:Nat→Int)
 work:Int
 task:Option TSt
 qs:Nat→Nat→QSt
 aside:Nat→Nat→Int×Int
def asd (f:Nat→Int×Int) (k:Int):Nat→Value:=fun i=> if i % 3=0 then .int .u64 (f (i / 3)).1 else if i % 3=1 then .int .u32 (f (i / 3)).2 else .int .u32 k
def ints (f:Nat→Int):Nat→Value:=fun i=> .int .i64 (f i)
theorem asd0 (f:Nat→Int×Int) (k:Int) (c:Nat):asd f k (c * 3)= .int .u64 (f c).1:=by
 simp only [asd,show c * 3 % 3=0 from by omega,show c * 3 / 3=c from by omega,if_true]
theorem asd1 (f:Nat→Int×Int) (k:Int) (c:Nat):asd f k (c * 3+1)= .int .u32 (f c).2:=by
 simp only [asd,show (c * 3+1) % 3=1 from by omega,show (c * 3+1) / 3=c from by omega,if_true]
 simp
theorem asd2 (f:Nat→Int×Int) (k:Int) (c:Nat):asd f k (c * 3+2)= .int .u32 k:=by
 simp only [asd,show (c * 3+2) % 3=2 from by omega]
 simp
def xrow (B:SB) (s:SSt):Nat→Value:=fl [.int .i64 s.C, .int .u64 s.cr,slc B.gb s.G B.gcap,slc B.cb s.C B.ccap,slc B.ub s.C B.ucap, .map (some B.tb),slc B.qo s.G B.qcap,slc B.ao s.G B.acap,slc B.lb s.C B.lcap, .int .i64 s.work]
def trow (t:TSt):Nat→Value:=fl [.int .i64 t.group, .int .i64 t.weight, .int .i64 t.cpu, .int .u64 t.mask, .bool t.ready, .int .u64 t.v, .int .u32 t.r, .int .u32 t.k]
def tmapv (B:SB) (s:SSt):List (Int×Value):=match s.task with|none=> []|some t=> [(t.id,ptr B.tk)]
def Part (w:World) (ow:Nat→Own) (x:Nat) (B:SB) (s:SSt):Own→Prop
 | .no=> True
 | .x=> ow x= .x∧Row w x 10 (xrow B s)
 | .gb=> ow B.gb= .gb∧Row w B.gb (s.G * 2) (grp s.par s.wt)
 | .cb=> ow B.cb= .cb∧Row w B.cb s.C (ints s.clocks)
 | .ub=> ow B.ub= .ub∧Row w B.ub s.C (ints s.current)
 | .lb=> ow B.lb= .lb∧Row w B.lb s.C (ints s.loads)
 | .tb=> ow B.tb= .tb∧IMap w .i64 B.tb (tmapv B s)
 | .tk=> ∀ t,s.task=some t→ow B.tk= .tk∧Row w B.tk 8 (trow t)
 | .qo=> ow B.qo= .qo∧Row w B.qo s.G (fun g=> slc (B.qi g) s.C s.C)
 | .ao=> ow B.ao= .ao∧Row w B.ao s.G (fun g=> slc (B.ai g) s.C s.C)
 | .qi g=> g < s.G→ow (B.qi g)= .qi g∧Row w (B.qi g) s.C (fun c=> ptr (B.q g c))
 | .ai g=> g < s.G→ow (B.ai g)= .ai g∧Row w (B.ai g) (s.C * 3) (asd (s.aside g) (s.wt g))
 | .q g c=> g < s.G→c < s.C→QAt w ow (.q g c) (B.q g c) (s.qs g c)
def SAt (w:World) (ow:Nat→Own) (x:Nat) (B:SB) (s:SSt):Prop:=(∀ t,Part w ow x B s t)∧∀ b,ow b≠ .no→b < w.heap.size
theorem QE.lts {w:World} {q h pb eb:Nat} {n fl ld:Int} (x:QE w q h pb eb n fl ld):q < w.heap.size∧h < w.heap.size∧pb < w.heap.size∧eb < w.heap.size:=
 ⟨x.row.lt,x.heap.row.lt,x.heap.map.lt,x.ents.lt⟩
theorem QO.lts {w:World} {q h pb eb ib:Nat} {n fl ld id v r k:Int} (x:QO w q h pb eb ib n fl ld id v r k):q < w.heap.size∧h < w.heap.size∧pb < w.heap.size∧eb < w.heap.size∧ib < w.heap.size:=by
 obtain ⟨cap,hr⟩:=x.heap.row
 exact ⟨x.row.lt,hr.lt,x.heap.map.lt,x.ents.lt,x.heap.items.lt⟩
section
variable {S:Nat→Prop} {w w' :World} {ow ow' :Nat→Own} {x:Nat} {B:SB} {s s' :SSt} {t:Own}
theorem QAt.mod {q:Nat} {st:QSt} (h:QAt w ow t q st) (hm:Mod S w w') (hs:∀ b,ow b=t→¬S b) (ho:∀ b,b < w.heap.size→ow' b=ow b):QAt w' ow' t q st:=by
 cases st with
 |e fl ld=>
  obtain ⟨h,pb,eb,X,h0,h1,h2,h3⟩:=h
  obtain ⟨l0,l1,l2,l3⟩:=X.lts
  exact ⟨h,pb,eb,X.mod hm (hs _ h0) (hs _ h1) (hs _ h2) (hs _ h3),by rw [ho _ l0,h0],by rw [ho _ l1,h1],by rw [ho _ l2,h2],by rw [ho _ l3,h3]⟩
 |o fl ld id v r k=>
  obtain ⟨h,pb,eb,ib,X,h0,h1,h2,h3,h4⟩:=h
  obtain ⟨l0,l1,l2,l3,l4⟩:=X.lts
  exact ⟨h,pb,eb,ib,X.mod hm (hs _ h0) (hs _ h1) (hs _ h2) (hs _ h3) (hs _ h4),by rw [ho _ l0,h0],by rw [ho _ l1,h1],by rw [ho _ l2,h2],by rw [ho _ l3,h3],by rw [ho _ l4,h4]⟩
theorem rowPart {b N:Nat} {F:Nat→Value} (h:ow b=t∧Row w b N F) (hm:Mod S w w') (hs:∀ b,ow b=t→¬S b) (ho:∀ b,b < w.heap.size→ow' b=ow b):ow' b=t∧Row w' b N F:=
 ⟨by rw [ho _ h.2.lt,h.1],h.2.mod hm (hs _ h.1)⟩
theorem Part.mod (h:Part w ow x B s t) (hm:Mod S w w') (hs:∀ b,ow b=t→t≠ .no→¬S b) (ho:∀ b,b < w.heap.size→ow' b=ow b):Part w' ow' x B s t:=by
 cases t with
 |no=> trivial
 |x=> exact rowPart h hm (fun b e=> hs b e (by simp)) ho
 |gb=> exact rowPart h hm (fun b e=> hs b e (by simp)) ho
 |cb=> exact rowPart h hm (fun b e=> hs b e (by simp)) ho
 |ub=> exact rowPart h hm (fun b e=> hs b e (by simp)) ho
 |lb=> exact rowPart h hm (fun b e=> hs b e (by simp)) ho
 |qo=> exact rowPart h hm (fun b e=> hs b e (by simp)) ho
 |ao=> exact rowPart h hm (fun b e=> hs b e (by simp)) ho
 |tb=> exact ⟨by rw [ho _ h.2.lt,h.1],h.2.mod hm (hs _ h.1 (by simp))⟩
 |tk=> exact fun t ht=> rowPart (h t ht) hm (fun b e=> hs b e (by simp)) ho
 |qi g=> exact fun hg=> rowPart (h hg) hm (fun b e=> hs b e (by simp)) ho
 |ai g=> exact fun hg=> rowPart (h hg) hm (fun b e=> hs b e (by simp)) ho
 |q g c=> exact fun hg hc=> QAt.mod (h hg hc) hm (fun b e=> hs b e (by simp)) ho
def ext (ow:Nat→Own) (w w' :World) (t:Own):Nat→Own:=fun b=> if b < w.heap.size then ow b else if b < w'.heap.size then t else .no
theorem ext_old {b:Nat} (h:b < w.heap.size):ext ow w w' t b=ow b:=if_pos h
theorem ext_new {b:Nat} (h:w.heap.size≤b) (h' :b < w'.heap.size):ext ow w w' t b=t:=by unfold ext;rw [if_neg (by omega),if_pos h']
theorem SAt.mod (h:SAt w ow x B s) (hm:Mod S w w') (hs:∀ b,S b→ow b= .no):SAt w' ow x B s:=
 ⟨fun t=> (h.1 t).mod hm (fun b e hn hS=> hn (by rw [←e,hs b hS])) (fun _ _=> rfl),fun b hb=> Nat.lt_of_lt_of_le (h.2 b hb) hm.size⟩
theorem SAt.no (h:SAt w ow x B s) (hm:Mod No w w'):SAt w' ow x B s:=h.mod hm (fun _ hb=> hb.elim)
theorem SAt.upd {B' :SB} (h:SAt w ow x B s) (t:Own) (hm:Mod (fun b=> ow b=t∧t≠ .no) w w') (hp:Part w' (ext ow w w' t) x B' s' t)
  (hr:∀ t',t' ≠t→Part w' (ext ow w w' t) x B s t' →Part w' (ext ow w w' t) x B' s' t'):SAt w' (ext ow w w' t) x B' s' :=by
 have hz:=hm.size
 refine ⟨fun t' => ?_,fun b hb=> ?_⟩
 ·by_cases e:t' =t
  ·exact e▸hp
  ·exact hr t' e ((h.1 t').mod hm (fun b eb hn hS=> e (eb.symm.trans hS.1)) (fun b hb=> ext_old hb))
 ·unfold ext at hb
  split at hb
  ·omega
  ·split at hb
   ·assumption
   ·exact absurd rfl hb
theorem SAt.cx (h:SAt w ow x B s):ow x= .x∧Row w x 10 (xrow B s):=h.1 .x
theorem Row.cL {w:World} {b N:Nat} {l:List Value} (h:Row w b N (fl l)) (i:Nat) (v:Value) (hi:i < N) (e:l.getD i undef=v):w.cell? ⟨b,i,none⟩=some v:=by
 rw [h.cell hi];exact congrArg some e
end
end Go.Q
namespace Go.Q
open Go.RowKit Go.Proofs
def QSt.len:QSt→Nat| .e _ _=> 0| .o _ _ _ _ _ _=> 1
def QSt.fl:QSt→Int| .e f _=> f| .o f _ _ _ _ _=> f
def upd2 {α:Type} (f:Nat→Nat→α) (g c:Nat) (a:α):Nat→Nat→α:=fun g' c' => if g' =g∧c' =c then a else f g' c'
def upd1 {α:Type} (f:Nat→α) (i:Nat) (a:α):Nat→α:=fun j=> if j=i then a else f j
theorem upd2_same {α:Type} (f:Nat→Nat→α) (g c:Nat) (a:α):upd2 f g c a g c=a:=by simp [upd2]
theorem upd2_other {α:Type} (f:Nat→Nat→α) (g c g' c' :Nat) (a:α) (h:¬(g' =g∧c' =c)):upd2 f g c a g' c' =f g' c' :=by simp only [upd2,if_neg h]
section
variable {S:Nat→Prop} {w w' :World} {ow ow' :Nat→Own} {x:Nat} {B:SB} {s s' :SSt} {t:Own}
theorem SAt.set {B' :SB} (h:SAt w ow x B s) (t:Own) (hm:Mod (fun b=> ow b=t∧t≠ .no) w w') (hp:Part w' ow x B' s' t) (hr:∀ t',t' ≠t→Part w' ow x B s t' →Part w' ow x B' s' t'):SAt w' ow x B' s' :=by
 refine ⟨fun t' => ?_,fun b hb=> Nat.lt_of_lt_of_le (h.2 b hb) hm.size⟩
 by_cases e:t' =t
 ·exact e▸hp
 ·exact hr t' e ((h.1 t').mod hm (fun b eb hn hS=> e (eb.symm.trans hS.1)) (fun b hb=> rfl))
theorem SAt.look (h:SAt w ow x B s):w.cell? ⟨x,0,none⟩=some (.int .i64 s.C)∧w.cell? ⟨x,1,none⟩=some (.int .u64 s.cr)∧w.cell? ⟨x,2,none⟩=some (slc B.gb s.G B.gcap)∧w.cell? ⟨x,3,none⟩=some (slc B.cb s.C B.ccap)∧w.cell? ⟨x,4,none⟩=some (slc B.ub s.C B.ucap)∧
  w.cell? ⟨x,5,none⟩=some (.map (some B.tb))∧w.cell? ⟨x,6,none⟩=some (slc B.qo s.G B.qcap)∧w.cell? ⟨x,7,none⟩=some (slc B.ao s.G B.acap)∧w.cell? ⟨x,8,none⟩=some (slc B.lb s.C B.lcap)∧w.cell? ⟨x,9,none⟩=some (.int .i64 s.work):=by
 have r:=h.cx.2
 exact ⟨r.cL 0 _ (by omega) rfl,r.cL 1 _ (by omega) rfl,r.cL 2 _ (by omega) rfl,r.cL 3 _ (by omega) rfl,r.cL 4 _ (by omega) rfl,r.cL 5 _ (by omega) rfl,r.cL 6 _ (by omega) rfl,r.cL 7 _ (by omega) rfl,r.cL 8 _ (by omega) rfl,r.cL 9 _ (by omega) rfl⟩
theorem SAt.qp (h:SAt w ow x B s) {g c:Nat} (hg:g < s.G) (hc:c < s.C):w.cell? ⟨B.qo,g,none⟩=some (slc (B.qi g) s.C s.C)∧w.cell? ⟨B.qi g,c,none⟩=some (ptr (B.q g c)):=
 ⟨(h.1 .qo).2.cell hg,(h.1 (.qi g) hg).2.cell hc⟩
theorem SAt.ap (h:SAt w ow x B s) {g c:Nat} (hg:g < s.G) (hc:c < s.C):w.cell? ⟨B.ao,g,none⟩=some (slc (B.ai g) s.C s.C)∧w.cell? ⟨B.ai g,c * 3,none⟩=some (.int .u64 (s.aside g c).1)∧w.cell? ⟨B.ai g,c * 3+1,none⟩=some (.int .u32 (s.aside g c).2)∧w.cell? ⟨B.ai g,c * 3+2,none⟩=some (.int .u32 (s.wt g)):=by
 have r:=(h.1 (.ai g) hg).2
 refine ⟨(h.1 .ao).2.cell hg, ?_, ?_, ?_⟩
 ·rw [r.cell (by omega),asd0]
 ·rw [r.cell (by omega),asd1]
 ·rw [r.cell (by omega),asd2]
theorem SAt.gp (h:SAt w ow x B s) {g:Nat} (hg:g < s.G):w.cell? ⟨B.gb,g * 2,none⟩=some (.int .i64 (s.par g))∧w.cell? ⟨B.gb,g * 2+1,none⟩=some (.int .i64 (s.wt g)):=by
 have r:=(h.1 .gb).2
 refine ⟨?_, ?_⟩
 ·rw [r.cell (by omega),grp_even]
 ·rw [r.cell (by omega),grp_odd]
theorem SAt.tp (h:SAt w ow x B s) {t:TSt} (ht:s.task=some t):w.cell? ⟨B.tk,0,none⟩=some (.int .i64 t.group)∧w.cell? ⟨B.tk,1,none⟩=some (.int .i64 t.weight)∧w.cell? ⟨B.tk,2,none⟩=some (.int .i64 t.cpu)∧w.cell? ⟨B.tk,3,none⟩=some (.int .u64 t.mask)∧w.cell? ⟨B.tk,4,none⟩=some (.bool t.ready)∧
  w.cell? ⟨B.tk,5,none⟩=some (.int .u64 t.v)∧w.cell? ⟨B.tk,6,none⟩=some (.int .u32 t.r)∧w.cell? ⟨B.tk,7,none⟩=some (.int .u32 t.k):=by
 have r:=(h.1 .tk t ht).2
 exact ⟨r.cL 0 _ (by omega) rfl,r.cL 1 _ (by omega) rfl,r.cL 2 _ (by omega) rfl,r.cL 3 _ (by omega) rfl,r.cL 4 _ (by omega) rfl,r.cL 5 _ (by omega) rfl,r.cL 6 _ (by omega) rfl,r.cL 7 _ (by omega) rfl⟩
theorem SAt.updq (h:SAt w ow x B s) {g c:Nat} (st:QSt) (hm:Mod (fun b=> ow b= .q g c) w w') (hq:QAt w' (ext ow w w' (.q g c)) (.q g c) (B.q g c) st):SAt w' (ext ow w w' (.q g c)) x B { s with qs:=upd2 s.qs g c st }:=by
 refine h.upd (.q g c) (hm.mono (fun b _ e=> ⟨e,by simp⟩)) (fun _ _=> by simpa only [upd2_same] using hq) ?_
 intro t' ht' hp
 cases t' with
 |q g' c' =>
  intro hg hc
  have:=hp hg hc
  simp only [Part] at this ⊢
  rw [upd2_other _ _ _ _ _ _ (by rintro ⟨rfl,rfl⟩;exact ht' rfl)]
  exact this
 |_=> exact hp
theorem sLen (h:SAt w ow x B s) {g c:Nat} (hg:g < s.G) (hc:c < s.C):Calls Tryz.prog 173 #[ptr (B.q g c)] w fun e w' => e= .returned (.int .i64 (s.qs g c).len)∧w=w' :=by
 have hq:=h.1 (.q g c) hg hc
 revert hq
 cases s.qs g c with
 |e f l=> rintro ⟨h,pb,eb,X,_⟩;exact qLen _ _ _ _ _ _ _ _ (by omega) _ X.row X.ents rfl
 |o f l id v r k=> rintro ⟨h,pb,eb,ib,X,_⟩;exact qLen _ _ _ _ _ _ _ _ (by omega) _ X.row X.ents rfl
theorem sFloor (h:SAt w ow x B s) {g c:Nat} (hg:g < s.G) (hc:c < s.C):Calls Tryz.prog 92 #[ptr (B.q g c)] w fun e w' => e= .returned (.int .u64 (s.qs g c).fl)∧w=w' :=by
 have hq:=h.1 (.q g c) hg hc
 revert hq
 cases s.qs g c with
 |e f l=> rintro ⟨h,pb,eb,X,_⟩;exact qFloor _ _ _ _ _ _ (by omega) _ X.row
 |o f l id v r k=> rintro ⟨h,pb,eb,ib,X,_⟩;exact qFloor _ _ _ _ _ _ (by omega) _ X.row
theorem sEnter (h:SAt w ow x B s) {g c:Nat} (hg:g < s.G) (hc:c < s.C) (fl ld id v r k:Int) (hs:s.qs g c= .e fl ld) (h0:0≤id) (h1:id < 65792) (he:REnt v r k) (hld:0≤ld) (hld2:ld≤1000000):
  Calls Tryz.prog 249 #[ptr (B.q g c), .int .i64 id,ent v r k] w fun e w' => e= .returned (.int .i64 0)∧Mod (fun b=> ow b= .q g c) w w' ∧SAt w' (ext ow w w' (.q g c)) x B { s with qs:=upd2 s.qs g c (.o (mxI fl v) (ld+k) id v r k) }:=by
 have hq:=h.1 (.q g c) hg hc
 rw [hs] at hq
 obtain ⟨hb,pb,eb,X,o0,o1,o2,o3⟩:=hq
 refine (qEnter _ hb pb eb 65792 fl ld id v r k (by omega) h0 h1 he hld hld2 w X).mono ?_
 rintro e w' ⟨rfl,hm,ib,i0,i1,X'⟩
 obtain ⟨l0,l1,l2,l3⟩:=X.lts
 have hm' :Mod (fun b=> ow b= .q g c) w w' :=hm.mono (by rintro b _ (rfl|rfl|rfl|rfl) <;> assumption)
 exact ⟨rfl,hm',h.updq _ hm' ⟨hb,pb,eb,ib,X',by rw [ext_old l0,o0],by rw [ext_old l1,o1],by rw [ext_old l2,o2],by rw [ext_old l3,o3],ext_new i0 i1⟩⟩
theorem sFirst_one (h:SAt w ow x B s) {g c:Nat} (hg:g < s.G) (hc:c < s.C) (fl ld id v r k:Int) (hs:s.qs g c= .o fl ld id v r k):Calls Tryz.prog 369 #[ptr (B.q g c)] w fun e w' => e= .returned (.tuple #[.int .i64 id, .bool true])∧Below w.heap.size w w' :=by
 have hq:=h.1 (.q g c) hg hc
 rw [hs] at hq
 obtain ⟨hb,pb,eb,ib,X,_⟩:=hq
 exact qFirst_one _ hb pb eb ib 65792 fl ld id v r k (by omega) w X
theorem sGet_one (h:SAt w ow x B s) {g c:Nat} (hg:g < s.G) (hc:c < s.C) (fl ld id v r k:Int) (hs:s.qs g c= .o fl ld id v r k) (h0:0≤id) (h1:id < 65792):Calls Tryz.prog 175 #[ptr (B.q g c), .int .i64 id] w fun e w' => e= .returned (.tuple #[ent v r k, .bool true])∧Below w.heap.size w w' :=by
 have hq:=h.1 (.q g c) hg hc
 rw [hs] at hq
 obtain ⟨hb,pb,eb,ib,X,_⟩:=hq
 exact qGet _ hb pb eb ib 65792 fl ld id v r k (by omega) h0 h1 w X
theorem sCharge (h:SAt w ow x B s) {g c:Nat} (hg:g < s.G) (hc:c < s.C) (fl ld id v r k t:Int) (hs:s.qs g c= .o fl ld id v r k) (h0:0≤id) (h1:id < 65792) (he:REnt v r k) (hv:v≤1000000000000000) (ht:0≤t) (ht2:t≤1000000) (hld:0≤ld) (hld2:ld≤1000000):
  Calls Tryz.prog 364 #[ptr (B.q g c), .int .i64 id, .int .i64 t] w fun e w' => e= .returned (.int .i64 0)∧Mod (fun b=> ow b= .q g c) w w' ∧
   SAt w' (ext ow w w' (.q g c)) x B { s with qs:=upd2 s.qs g c (.o (mxI fl (v+(t * 1048576+r) / k)) ld id (v+(t * 1048576+r) / k) ((t * 1048576+r) % k) k) }:=by
 have hq:=h.1 (.q g c) hg hc
 rw [hs] at hq
 obtain ⟨hb,pb,eb,ib,X,o0,o1,o2,o3,o4⟩:=hq
 refine (qCharge _ hb pb eb ib 65792 fl ld id v r k t (by omega) h0 h1 he hv ht ht2 hld hld2 w X).mono ?_
 rintro e w' ⟨rfl,hm,X'⟩
 obtain ⟨l0,l1,l2,l3,l4⟩:=X.lts
 have hm' :Mod (fun b=> ow b= .q g c) w w' :=hm.mono (by rintro b _ (rfl|rfl|rfl|rfl|rfl) <;> assumption)
 exact ⟨rfl,hm',h.updq _ hm' ⟨hb,pb,eb,ib,X',by rw [ext_old l0,o0],by rw [ext_old l1,o1],by rw [ext_old l2,o2],by rw [ext_old l3,o3],by rw [ext_old l4,o4]⟩⟩
end
end Go.Q
namespace Go.Q
open Go.RowKit Go.Proofs
def entQ (par wt:Nat→Int) (az:Nat→Nat→Int×Int) (c:Nat):Nat→Nat→(m v r k:Int)→(Nat→Nat→QSt)→Nat→Nat→QSt
 |0,g,m,v,r,k,f=> upd2 f g c (.o (mxI 0 v) (0+k) m v r k)
 |d+1,g,m,v,r,k,f=> entQ par wt az c d (par g).toNat (65536+g) (az g c).1 (az g c).2 (wt g) (upd2 f g c (.o (mxI 0 v) (0+k) m v r k))
def chn (par wt:Nat→Int):Nat→Nat→Int→Int→Nat→Option (Int×Int)
 |0,g,m,k,x=> if x=g then some (m,k) else none
 |d+1,g,m,k,x=> if x=g then some (m,k) else chn par wt d (par g).toNat (65536+g) (wt g) x
section
variable {par wt:Nat→Int}
theorem Dep.up' {g d:Nat} (h:Dep par g (d+1)):0 < g∧0≤par g∧Dep par (par g).toNat d:=by
 cases h with
 |up h0 hp hd=> rw [hp];exact ⟨h0,by omega,by simpa using hd⟩
theorem Dep.zero {g:Nat} (h:Dep par g 0):g=0:=by cases h;rfl
theorem chn_le {G:Nat} (hpar:∀ g,0 < g→g < G→0≤par g∧par g < g):∀ (d g:Nat) (m k:Int) (x:Nat),g < G→Dep par g d→chn par wt d g m k x≠none→x≤g
 |0,g,m,k,x,hg,hd,h=> by
  unfold chn at h
  split at h
  ·omega
  ·exact absurd rfl h
 |d+1,g,m,k,x,hg,hd,h=> by
  obtain ⟨h0,h1,h2⟩:=hd.up'
  have:=hpar g h0 hg
  unfold chn at h
  split at h
  ·omega
  ·have:=chn_le hpar d _ _ _ x (by omega) h2 h;omega
theorem chn_root:∀ (d g:Nat) (m k:Int),Dep par g d→∃ m' k',chn par wt d g m k 0=some (m',k')
 |0,g,m,k,hd=> by
  have:=hd.zero;subst this
  exact ⟨m,k,by simp [chn]⟩
 |d+1,g,m,k,hd=> by
  obtain ⟨h0,h1,h2⟩:=hd.up'
  obtain ⟨m',k',h⟩:=chn_root d (par g).toNat (65536+g) (wt g) h2
  exact ⟨m',k',by unfold chn;rw [if_neg (by omega),h]⟩
theorem chn_mem {G:Nat} (hpar:∀ g,0 < g→g < G→0≤par g∧par g < g):∀ (d g:Nat) (m k:Int) (x:Nat) (m' k' :Int),g < G→Dep par g d→chn par wt d g m k x=some (m',k')→(x=g∧m' =m∧k' =k)∨(x < g∧∃ h,0 < h∧h≤g∧m' =65536+(h:Int)∧k' =wt h∧par h=x∧∃ m2 k2,chn par wt d g m k h=some (m2,k2))
 |0,g,m,k,x,m',k',hg,hd,h=> by
  unfold chn at h
  split at h
  ·rename_i e
   simp only [Option.some.injEq,Prod.mk.injEq] at h
   exact .inl ⟨e,h.1.symm,h.2.symm⟩
  ·contradiction
 |d+1,g,m,k,x,m',k',hg,hd,h=> by
  obtain ⟨h0,h1,h2⟩:=hd.up'
  have hp:=hpar g h0 hg
  unfold chn at h
  split at h
  ·rename_i e
   simp only [Option.some.injEq,Prod.mk.injEq] at h
   exact .inl ⟨e,h.1.symm,h.2.symm⟩
  ·rename_i e
   rcases chn_mem hpar d _ _ _ x m' k' (by omega) h2 h with ⟨e1,e2,e3⟩|⟨hlt,h',a1,a2,a3,a4,a5,m2,k2,a6⟩
   ·exact .inr ⟨by omega,g,h0,Nat.le_refl _,e2,e3,by omega,m,k,by simp [chn]⟩
   ·refine .inr ⟨by omega,h',a1,by omega,a3,a4,a5,m2,k2, ?_⟩
    unfold chn
    rw [if_neg (by omega)]
    exact a6
theorem chn_par {G:Nat} (hpar:∀ g,0 < g→g < G→0≤par g∧par g < g):∀ (d g:Nat) (m k:Int) (x:Nat) (m' k' :Int),g < G→Dep par g d→0 < x→chn par wt d g m k x=some (m',k')→chn par wt d g m k (par x).toNat=some (65536+(x:Int),wt x)
 |0,g,m,k,x,m',k',hg,hd,hx,h=> by
  have:=hd.zero;subst this
  unfold chn at h
  rw [if_neg (by omega)] at h
  contradiction
 |d+1,g,m,k,x,m',k',hg,hd,hx,h=> by
  obtain ⟨h0,h1,h2⟩:=hd.up'
  have hp:=hpar g h0 hg
  unfold chn at h
  split at h
  ·rename_i e
   subst e
   unfold chn
   rw [if_neg (by omega)]
   cases d <;> simp [chn]
  ·rename_i e
   have hle:=chn_le hpar d _ _ _ x (by omega) h2 (by rw [h];simp)
   have:=chn_par hpar d _ _ _ x m' k' (by omega) h2 hx h
   have hx2:=hpar x hx (by omega)
   unfold chn
   rw [if_neg (by omega)]
   exact this
theorem chn_succ (d g:Nat) (m k:Int) (x:Nat):chn par wt (d+1) g m k x=if x=g then some (m,k) else chn par wt d (par g).toNat (65536+(g:Int)) (wt g) x:=rfl
theorem chn_zero (g:Nat) (m k:Int) (x:Nat):chn par wt 0 g m k x=if x=g then some (m,k) else none:=rfl
theorem entQ_chn (az:Nat→Nat→Int×Int) (c:Nat) (haz:∀ g,az g c=(0,0)) {G:Nat} (hpar:∀ g,0 < g→g < G→0≤par g∧par g < g):∀ (d g:Nat) (m k:Int) (f:Nat→Nat→QSt) (x y:Nat),g < G→Dep par g d→
  entQ par wt az c d g m 0 0 k f x y=if y=c then (match chn par wt d g m k x with|some (m',k')=> .o 0 k' m' 0 0 k' |none=> f x y) else f x y
 |0,g,m,k,f,x,y,hg,hd=> by
  rw [chn_zero]
  simp only [entQ,upd2]
  by_cases hy:y=c <;> by_cases hx:x=g <;> simp [hy,hx,mxI]
 |d+1,g,m,k,f,x,y,hg,hd=> by
  obtain ⟨h0,h1,h2⟩:=hd.up'
  have hp:=hpar g h0 hg
  rw [chn_succ]
  simp only [entQ]
  rw [haz]
  rw [entQ_chn az c haz hpar d _ _ _ _ x y (by omega) h2]
  by_cases hx:x=g
  ·subst hx
   have hn:chn par wt d (par x).toNat (65536+(x:Int)) (wt x) x=none:=Classical.byContradiction fun h=> by have:=chn_le hpar d _ _ _ x (by omega) h2 h;omega
   rw [hn]
   by_cases hy:y=c <;> simp [hy,upd2,mxI]
  ·rw [if_neg hx,upd2_other _ _ _ _ _ _ (by rintro ⟨rfl,_⟩;exact hx rfl)]
end
end Go.Q
