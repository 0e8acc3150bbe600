/- A part of the proof that TopGreat answers true: what some of the functions on its road compute. -/
import Derived.Test.YtckddephdbhagaaGreatDoorQ2
import Derived.Test.YtckddephdbhagaaGreatDoorQ3
set_option linter.unusedVariables false
set_option linter.unusedSimpArgs false
namespace Go.Q
open Go.RowKit Go.Proofs
structure TK where
 (id group weight cpu mask:Int)
 (ready:Bool)
 (v r:Int)
structure ASt where
 (C G:Nat)
 cr:Int
 (par wt:Nat→Int)
 (clocks current:Nat→Int)
 task:Option TK
 spots:Nat→Nat→Int×Int×Int
inductive SOwn|no|gb|cl|cu|tk|so|si (g:Nat)
structure STB where
 (gb gcap cl ccap cu ucap:Nat)
 tv:Value
 (so scap:Nat)
 si:Nat→Nat
 sc:Nat→Nat
def tkc (t:TK):List Value:= [.int .i64 t.id, .int .i64 t.group, .int .i64 t.weight, .int .i64 t.cpu, .int .u64 t.mask, .bool t.ready, .int .u64 t.v, .int .u32 t.r]
abbrev tkv (t:TK):Value:= .agg #[.int .i64 t.id, .int .i64 t.group, .int .i64 t.weight, .int .i64 t.cpu, .int .u64 t.mask, .bool t.ready, .int .u64 t.v, .int .u32 t.r]
def spt (f:Nat→Int×Int×Int):Nat→Value:=fun i=> if i % 3=0 then .int .u64 (f (i / 3)).1 else if i % 3=1 then .int .u32 (f (i / 3)).2.1 else .int .u64 (f (i / 3)).2.2
theorem spt0 (f:Nat→Int×Int×Int) (c:Nat):spt f (c * 3)= .int .u64 (f c).1:=by
 simp only [spt,show c * 3 % 3=0 from by omega,show c * 3 / 3=c from by omega,if_true]
theorem spt1 (f:Nat→Int×Int×Int) (c:Nat):spt f (c * 3+1)= .int .u32 (f c).2.1:=by
 simp only [spt,show (c * 3+1) % 3=1 from by omega,show (c * 3+1) / 3=c from by omega,if_true]
 simp
theorem spt2 (f:Nat→Int×Int×Int) (c:Nat):spt f (c * 3+2)= .int .u64 (f c).2.2:=by
 simp only [spt,show (c * 3+2) % 3=2 from by omega,show (c * 3+2) / 3=c from by omega]
 simp
abbrev cfgOf (B:STB) (A:ASt):Value:= .agg #[.int .i64 A.C, .int .u64 A.cr,slc B.gb A.G B.gcap]
abbrev stv (B:STB) (A:ASt):Value:= .agg #[.int .i64 A.C, .int .u64 A.cr,slc B.gb A.G B.gcap,slc B.cl A.C B.ccap,slc B.cu A.C B.ucap,B.tv,slc B.so A.G B.scap]
def strow (B:STB) (A:ASt):List Value:= [.int .i64 A.C, .int .u64 A.cr,slc B.gb A.G B.gcap,slc B.cl A.C B.ccap,slc B.cu A.C B.ucap,B.tv,slc B.so A.G B.scap]
def SPart (w:World) (ow:Nat→SOwn) (B:STB) (A:ASt):SOwn→Prop
 | .no=> True
 | .gb=> ow B.gb= .gb∧Row w B.gb (A.G * 2) (grp A.par A.wt)
 | .cl=> ow B.cl= .cl∧Row w B.cl A.C (ints A.clocks)
 | .cu=> ow B.cu= .cu∧Row w B.cu A.C (ints A.current)
 | .tk=> match A.task with
  |none=> ∃ a c,B.tv= .slice a 0 c
  |some t=> ∃ b c,B.tv=slc b 1 c∧ow b= .tk∧Row w b 8 (fl (tkc t))
 | .so=> ow B.so= .so∧Row w B.so A.G (fun g=> slc (B.si g) A.C (B.sc g))
 | .si g=> g < A.G→ow (B.si g)= .si g∧Row w (B.si g) (A.C * 3) (spt (A.spots g))
def StAt (w:World) (ow:Nat→SOwn) (B:STB) (A:ASt):Prop:=(∀ t,SPart w ow B A t)∧∀ b,ow b≠ .no→b < w.heap.size
section
variable {S:Nat→Prop} {w w' :World} {ow ow' :Nat→SOwn} {B B' :STB} {A A' :ASt} {t:SOwn}
theorem rowPartS {b N:Nat} {F:Nat→Value} (h:ow b=t∧Row w b N F) (hm:Mod S w w') (hs:∀ b,ow b=t→¬S b) (ho:∀ b,b < w.heap.size→ow' b=ow b):ow' b=t∧Row w' b N F:=
 ⟨by rw [ho _ h.2.lt,h.1],h.2.mod hm (hs _ h.1)⟩
theorem SPart.mod (h:SPart w ow B A t) (hm:Mod S w w') (hs:∀ b,ow b=t→t≠ .no→¬S b) (ho:∀ b,b < w.heap.size→ow' b=ow b):SPart w' ow' B A t:=by
 cases t with
 |no=> trivial
 |gb=> exact rowPartS h hm (fun b e=> hs b e (by simp)) ho
 |cl=> exact rowPartS h hm (fun b e=> hs b e (by simp)) ho
 |cu=> exact rowPartS h hm (fun b e=> hs b e (by simp)) ho
 |so=> exact rowPartS h hm (fun b e=> hs b e (by simp)) ho
 |tk=>
  simp only [SPart] at h ⊢
  split at h
  ·exact h
  ·obtain ⟨b,c,h1,h2⟩:=h
   exact ⟨b,c,h1,rowPartS h2 hm (fun b e=> hs b e (by simp)) ho⟩
 |si g=> exact fun hg=> rowPartS (h hg) hm (fun b e=> hs b e (by simp)) ho
theorem StAt.mod (h:StAt w ow B A) (hm:Mod S w w') (hs:∀ b,S b→ow b= .no):StAt w' ow B A:=
 ⟨fun t=> (h.1 t).mod hm (fun b e hn hS=> hn (by rw [←e,hs b hS])) (fun _ _=> rfl),fun b hb=> Nat.lt_of_lt_of_le (h.2 b hb) hm.size⟩
theorem StAt.no (h:StAt w ow B A) (hm:Mod No w w'):StAt w' ow B A:=h.mod hm (fun _ hb=> hb.elim)
theorem StAt.below (h:StAt w ow B A) (hm:Below w.heap.size w w'):StAt w' ow B A:=h.no (Mod.of_below hm _)
def extS (ow:Nat→SOwn) (w w' :World) (t:SOwn):Nat→SOwn:=fun b=> if b < w.heap.size then ow b else if b < w'.heap.size then t else .no
theorem extS_old {b:Nat} (h:b < w.heap.size):extS ow w w' t b=ow b:=if_pos h
theorem extS_new {b:Nat} (h:w.heap.size≤b) (h' :b < w'.heap.size):extS ow w w' t b=t:=by unfold extS;rw [if_neg (by omega),if_pos h']
theorem StAt.upd (h:StAt w ow B A) (t:SOwn) (hm:Mod (fun b=> ow b=t∧t≠ .no) w w') (ho:∀ b,b < w.heap.size→ow' b=ow b) (hl:∀ b,ow' b≠ .no→b < w'.heap.size) (hp:SPart w' ow' B' A' t)
  (hr:∀ t',t' ≠t→SPart w' ow' B A t' →SPart w' ow' B' A' t'):StAt w' ow' B' A' :=by
 refine ⟨fun t' => ?_,hl⟩
 by_cases e:t' =t
 ·exact e▸hp
 ·exact hr t' e ((h.1 t').mod hm (fun b eb hn hS=> e (eb.symm.trans hS.1)) ho)
theorem StAt.set (h:StAt w ow B A) (t:SOwn) (hm:Mod (fun b=> ow b=t∧t≠ .no) w w') (hp:SPart w' ow B' A' t)
  (hr:∀ t',t' ≠t→SPart w' ow B A t' →SPart w' ow B' A' t'):StAt w' ow B' A' :=
 h.upd t hm (fun _ _=> rfl) (fun b hb=> Nat.lt_of_lt_of_le (h.2 b hb) hm.size) hp hr
theorem StAt.gp (h:StAt w ow B A) {g:Nat} (hg:g < A.G):w.cell? ⟨B.gb,g * 2,none⟩=some (.int .i64 (A.par g))∧w.cell? ⟨B.gb,g * 2+1,none⟩=some (.int .i64 (A.wt g)):=by
 have r:=(h.1 .gb).2
 refine ⟨?_, ?_⟩
 ·rw [r.cell (by omega),grp_even]
 ·rw [r.cell (by omega),grp_odd]
theorem StAt.cp (h:StAt w ow B A) {c:Nat} (hc:c < A.C):w.cell? ⟨B.cl,c,none⟩=some (.int .i64 (A.clocks c))∧w.cell? ⟨B.cu,c,none⟩=some (.int .i64 (A.current c)):=
 ⟨(h.1 .cl).2.cell hc,(h.1 .cu).2.cell hc⟩
theorem StAt.sp (h:StAt w ow B A) {g c:Nat} (hg:g < A.G) (hc:c < A.C):w.cell? ⟨B.so,g,none⟩=some (slc (B.si g) A.C (B.sc g))∧w.cell? ⟨B.si g,c * 3,none⟩=some (.int .u64 (A.spots g c).1)∧w.cell? ⟨B.si g,c * 3+1,none⟩=some (.int .u32 (A.spots g c).2.1)∧w.cell? ⟨B.si g,c * 3+2,none⟩=some (.int .u64 (A.spots g c).2.2):=by
 have r:=(h.1 (.si g) hg).2
 refine ⟨(h.1 .so).2.cell hg, ?_, ?_, ?_⟩
 ·rw [r.cell (by omega),spt0]
 ·rw [r.cell (by omega),spt1]
 ·rw [r.cell (by omega),spt2]
theorem StAt.t0 (h:StAt w ow B A) (ht:A.task=none):∃ a c,B.tv= .slice a 0 c:=by
 have:=h.1 .tk
 simpa only [SPart,ht] using this
theorem StAt.t1 (h:StAt w ow B A) {t:TK} (ht:A.task=some t):∃ b c,B.tv=slc b 1 c∧ow b= .tk∧Row w b 8 (fl (tkc t)):=by
 have:=h.1 .tk
 simpa only [SPart,ht] using this
end
end Go.Q
namespace Go.Q
open Go.RowKit Go.Proofs
theorem ownsRow_mod {S:Nat→Prop} {w w' :World} {base:Nat} {e:TypeId} {size:Nat} {v:Value} {n:Nat} {xs:List Value} (h:w.ownsRow base e size v n xs) (hm:Mod S w w') (hs:∀ b,v.ownBlock=some b→¬S b):w'.ownsRow base e size v n xs:=by
 obtain ⟨h1,h2|⟨g,cap,cur,hv,hb,hg,r⟩⟩:=h
 ·exact ⟨h1, .inl h2⟩
 ·exact ⟨h1, .inr ⟨g,cap,cur,hv,hb,hm.heap hg (hs g (by rw [hv];rfl)),r⟩⟩
structure Appd (W W1:World) (B:Nat) (e:TypeId) (size:Nat) (v:Value) (n:Nat) (xs cs:List Value) (g cap:Nat):Prop where
 own:W1.ownsRow B e size (.slice (some ⟨g,0,none⟩) (n+1) cap) (n+1) (xs++cs)
 mod:Mod (fun b=> v.ownBlock=some b) W W1
 at_:v.ownBlock=some g∨W.heap.size≤g
 lt:g < W1.heap.size
 base:B≤g
theorem news_row {w:World} {b size:Nat} {cs:List Value} (hr:Row w b size (fl cs)) (hl:cs.length=size):∀ (j:Nat) (u:Value),cs[j]? =some u→w.cell? ((⟨b,0,none⟩:Addr).add j)=some u:=by
 intro j u hj
 have hjl:j < cs.length:=(List.getElem?_eq_some_iff.1 hj).1
 rw [Addr.add_lit,Nat.zero_add,hr.cell (by omega),fl,List.getD_eq_getElem?_getD,hj]
 rfl
section
variable {P:Program} {W:World} {ops:Array Oper} {rest:List Oper} {o:Oper} {a:Act} {Q:Exit→Act→World→Prop} {K:Act→World→Prop} {E:Prop}
theorem appd_of {e:TypeId} {size B:Nat} {v:Value} {n:Nat} {xs cs:List Value} {g cap:Nat} {w1:World} (hB:B≤W.heap.size) (hown0:W.ownsRow B e size v n xs)
  (hown:w1.ownsRow B e size (.slice (some ⟨g,0,none⟩) (n+1) cap) (n+1) (xs++cs)) (hgrow:W.grownBy w1 v.ownBlock) (hat:v.ownBlock=some g∨g=W.heap.size) (hlt:g < w1.heap.size):Appd W w1 B e size v n xs cs g cap:=by
 have hgs:=hgrow.size
 refine ⟨hown,⟨hgrow.os,hgrow.tape,hgrow.output,by omega,fun b hb hne=> hgrow.block b hb (fun e=> hne e.symm)⟩,hat.imp id (by omega),hlt, ?_⟩
 rcases hat with hat|rfl
 ·exact (hown0.lt g hat).1
 ·omega
theorem step_app_one (hgd:o.guard=none) (s x:Operand) (t:TypeId) (ho:o.op= .call { callee:= .builtin .append,args:= #[s,x],argTypes:= #[t,t] })
  (e:TypeId) (i:TypeInfo) (z:Value) (size bytes:Nat) (ht:P.underlying t=some (.slice e)) (hi:P.info? e=some i) (hz:i.zero=some z) (hsize:i.size=size) (hby:i.bytes=bytes) (hzs:z.cells.size=size) (hsz:0 < size) (hbb:bytes≤1000)
  (cs:List Value) (hl:cs.length=size) (h1:∀ u∈cs,u.oneCell' =true) (B:Nat) (v:Value) (n:Nat) (xs:List Value) (b c:Nat) (hs:a.eval s=v) (hx:a.eval x= .slice (some ⟨b,0,none⟩) 1 c) (hB:B≤W.heap.size) (hn:n≤1000000000) (hown0:W.ownsRow B e size v n xs) (hr:Row W b size (fl cs))
  (h:∀ g cap w1,Appd W w1 B e size v n xs cs g cap→K (a.put o.dst (.slice (some ⟨g,0,none⟩) (n+1) cap)) w1):
  if Region.wanted o (yielded ops a.tmps)=true then Oper.wp P o a W K Q else E:=
 step_append_lies _ hgd s x t ho B e i z size bytes ht hi hz hsize hby hzs hsz _ n xs hs hown0 ⟨b,0,none⟩ 1 c cs hx (by omega) (news_row hr hl) h1 (by omega) (by simp only [maxLen];omega) (by have:(n+1) * bytes≤1000000001 * 1000:=Nat.mul_le_mul (by omega) hbb;omega) hB _ rfl
  fun g cap w1 h2 h3 h4 h5=> h g cap w1 (appd_of hB hown0 h2 h3 h4 h5)
theorem wpList_app_one (hgd:o.guard=none) (s x:Operand) (t:TypeId) (ho:o.op= .call { callee:= .builtin .append,args:= #[s,x],argTypes:= #[t,t] })
  (e:TypeId) (i:TypeInfo) (z:Value) (size bytes:Nat) (ht:P.underlying t=some (.slice e)) (hi:P.info? e=some i) (hz:i.zero=some z) (hsize:i.size=size) (hby:i.bytes=bytes) (hzs:z.cells.size=size) (hsz:0 < size) (hbb:bytes≤1000)
  (cs:List Value) (hl:cs.length=size) (h1:∀ u∈cs,u.oneCell' =true) (B:Nat) (v:Value) (n:Nat) (xs:List Value) (b c:Nat) (hs:a.eval s=v) (hx:a.eval x= .slice (some ⟨b,0,none⟩) 1 c) (hB:B≤W.heap.size) (hn:n≤1000000000) (hown0:W.ownsRow B e size v n xs) (hr:Row W b size (fl cs))
  (h:∀ g cap w1,Appd W w1 B e size v n xs cs g cap→wpList P ops Q rest (a.put o.dst (.slice (some ⟨g,0,none⟩) (n+1) cap)) w1):wpList P ops Q (o::rest) a W:=
 wpList_append_lies _ hgd s x t ho B e i z size bytes ht hi hz hsize hby hzs hsz _ n xs hs hown0 ⟨b,0,none⟩ 1 c cs hx (by omega) (news_row hr hl) h1 (by omega) (by simp only [maxLen];omega) (by have:(n+1) * bytes≤1000000001 * 1000:=Nat.mul_le_mul (by omega) hbb;omega) hB _ rfl
  fun g cap w1 h2 h3 h4 h5=> h g cap w1 (appd_of hB hown0 h2 h3 h4 h5)
theorem step_app_c (e:TypeId) (z:Value) (size bytes:Nat) (hinfo:(P.info? e).map (fun i=> (i.zero,i.size,i.bytes))=some (some z,size,bytes)) (hgd:o.guard=none) (s x:Operand) (t:TypeId) (ho:o.op= .call { callee:= .builtin .append,args:= #[s,x],argTypes:= #[t,t] })
  (ht:P.underlying t=some (.slice e)) (hzs:z.cells.size=size) (hsz:0 < size) (hbb:bytes≤1000)
  (cs:List Value) (hl:cs.length=size) (h1:∀ u∈cs,u.oneCell' =true) (B:Nat) (v:Value) (n:Nat) (xs:List Value) (b c:Nat) (hs:a.eval s=v) (hx:a.eval x= .slice (some ⟨b,0,none⟩) 1 c) (hB:B≤W.heap.size) (hn:n≤1000000000) (hown0:W.ownsRow B e size v n xs) (hr:Row W b size (fl cs))
  (h:∀ g cap w1,Appd W w1 B e size v n xs cs g cap→K (a.put o.dst (.slice (some ⟨g,0,none⟩) (n+1) cap)) w1):
  if Region.wanted o (yielded ops a.tmps)=true then Oper.wp P o a W K Q else E:=by
 obtain ⟨i,hi,hz,hsize,hby⟩:=info_parts hinfo
 exact step_app_one hgd s x t ho e i z size bytes ht hi hz hsize hby hzs hsz hbb cs hl h1 B v n xs b c hs hx hB hn hown0 hr h
theorem wpList_app_c (e:TypeId) (z:Value) (size bytes:Nat) (hinfo:(P.info? e).map (fun i=> (i.zero,i.size,i.bytes))=some (some z,size,bytes)) (hgd:o.guard=none) (s x:Operand) (t:TypeId) (ho:o.op= .call { callee:= .builtin .append,args:= #[s,x],argTypes:= #[t,t] })
  (ht:P.underlying t=some (.slice e)) (hzs:z.cells.size=size) (hsz:0 < size) (hbb:bytes≤1000)
  (cs:List Value) (hl:cs.length=size) (h1:∀ u∈cs,u.oneCell' =true) (B:Nat) (v:Value) (n:Nat) (xs:List Value) (b c:Nat) (hs:a.eval s=v) (hx:a.eval x= .slice (some ⟨b,0,none⟩) 1 c) (hB:B≤W.heap.size) (hn:n≤1000000000) (hown0:W.ownsRow B e size v n xs) (hr:Row W b size (fl cs))
  (h:∀ g cap w1,Appd W w1 B e size v n xs cs g cap→wpList P ops Q rest (a.put o.dst (.slice (some ⟨g,0,none⟩) (n+1) cap)) w1):wpList P ops Q (o::rest) a W:=by
 obtain ⟨i,hi,hz,hsize,hby⟩:=info_parts hinfo
 exact wpList_app_one hgd s x t ho e i z size bytes ht hi hz hsize hby hzs hsz hbb cs hl h1 B v n xs b c hs hx hB hn hown0 hr h
end
theorem Appd.row {W W1:World} {B:Nat} {e:TypeId} {size:Nat} {v:Value} {n:Nat} {xs cs:List Value} {g cap:Nat} (h:Appd W W1 B e size v n xs cs g cap) {b N:Nat} {F:Nat→Value} (hr:Row W b N F) (hb:v.ownBlock≠some b):Row W1 b N F:=hr.mod h.mod hb
theorem row_one (w:World) (b:Nat) (x:Value) (t:TypeId) (hb:b=w.heap.size):Row (w.alloc (.cells #[x] t)) b 1 (fl [x]):=row_newL' w b [x] t hb
end Go.Q
namespace Go.Q
open Go.RowKit Go.Proofs
theorem Tryz.infoEnt:(Tryz.prog.info? 138).map (fun i=> (i.zero,i.size,i.bytes))=some (some (.agg #[.int .u64 0, .int .u32 0, .int .u32 0]),3,16):=by kernel_rfl
theorem Tryz.infoPQ:(Tryz.prog.info? 134).map (fun i=> (i.zero,i.size,i.bytes))=some (some (.pointer none),1,8):=by kernel_rfl
theorem Tryz.infoSPQ:(Tryz.prog.info? 132).map (fun i=> (i.zero,i.size,i.bytes))=some (some (.slice none 0 0),1,24):=by kernel_rfl
theorem Tryz.infoSEnt:(Tryz.prog.info? 133).map (fun i=> (i.zero,i.size,i.bytes))=some (some (.slice none 0 0),1,24):=by kernel_rfl
theorem ent0 (i:Nat):(#[.int .u64 0, .int .u32 0, .int .u32 0]:Array Value)[i % (#[.int .u64 0, .int .u32 0, .int .u32 0]:Array Value).size]! =asd (fun _=> (0,0)) 0 i:=by
 have h3:i % 3=0∨i % 3=1∨i % 3=2:=by omega
 unfold asd
 rcases h3 with h|h|h <;> simp [h]
def asw (W:Int) (k:Nat):Nat→Value:=fun i=> if i % 3=2 then .int .u32 (if i / 3 < k then W else 0) else asd (fun _=> (0,0)) 0 i
theorem asw_zero (W:Int) (i:Nat):asd (fun _=> (0,0)) 0 i=asw W 0 i:=by
 unfold asw
 split
 ·rename_i h;unfold asd;simp [h]
 ·rfl
theorem asw_full (W:Int) (k i:Nat) (hi:i < k * 3):asw W k i=asd (fun _=> (0,0)) W i:=by
 unfold asw
 split
 ·rename_i h;unfold asd;rw [if_pos (by omega)];simp [h]
 ·unfold asd;have h3:i % 3=0∨i % 3=1:=by omega
  rcases h3 with h|h <;> simp [h]
theorem asw_succ (W:Int) (k i:Nat):(if i=k * 3+2 then .int .u32 W else asw W k i)=asw W (k+1) i:=by
 unfold asw
 by_cases h:i=k * 3+2
 ·subst h
  rw [if_pos rfl,if_pos (by omega),if_pos (by omega)]
 ·rw [if_neg h]
  by_cases h2:i % 3=2
  ·rw [if_pos h2,if_pos h2]
   by_cases h3:i / 3 < k
   ·rw [if_pos h3,if_pos (by omega)]
   ·rw [if_neg h3,if_neg (by omega)]
  ·rw [if_neg h2,if_neg h2]
structure NInv (w0 w:World) (x:Nat) (B:SB) (C G K:Nat) (cr:Int) (par wt:Nat→Int) (ow:Nat→Own) (qv av:Value):Prop where
 row:ow x= .x∧Row w x 10 (fl [.int .i64 C, .int .u64 cr,slc B.gb G B.gcap,slc B.cb C C,slc B.ub C C, .map (some B.tb),qv,av,slc B.lb C C, .int .i64 0])
 gb:ow B.gb= .gb∧Row w B.gb (G * 2) (grp par wt)
 cb:ow B.cb= .cb∧Row w B.cb C (ints fun _=> 0)
 ub:ow B.ub= .ub∧Row w B.ub C (ints fun _=> 0)
 lb:ow B.lb= .lb∧Row w B.lb C (ints fun _=> 0)
 tb:ow B.tb= .tb∧IMap w .i64 B.tb []
 q:w.ownsRow w0.heap.size 132 1 qv K ((List.range K).map fun g=> slc (B.qi g) C C)
 a:w.ownsRow w0.heap.size 133 1 av K ((List.range K).map fun g=> slc (B.ai g) C C)
 qown:∀ b,qv.ownBlock=some b→ow b= .qo
 aown:∀ b,av.ownBlock=some b→ow b= .ao
 qi:∀ g,g < K→ow (B.qi g)= .qi g∧Row w (B.qi g) C (fun c=> ptr (B.q g c))
 ai:∀ g,g < K→ow (B.ai g)= .ai g∧Row w (B.ai g) (C * 3) (asd (fun _=> (0,0)) (wt g))
 qs:∀ g c,g < K→c < C→QAt w ow (.q g c) (B.q g c) (.e 0 0)
 lt:∀ b,ow b≠ .no→w0.heap.size≤b∧b < w.heap.size
 mod:Mod No w0 w
section
variable {S:Nat→Prop} {w0 w w' :World} {x:Nat} {B:SB} {C G K:Nat} {cr:Int} {par wt:Nat→Int} {ow ow' :Nat→Own} {qv av:Value}
theorem NInv.move (h:NInv w0 w x B C G K cr par wt ow qv av) (hm:Mod S w w') (hs:∀ b,S b→ow b= .no) (hS:∀ b,S b→w0.heap.size≤b):NInv w0 w' x B C G K cr par wt ow qv av:=by
 have H:∀ b t,t≠ .no→ow b=t→¬S b:=fun b t ht e hb=> ht (by rw [←e,hs b hb])
 refine ⟨⟨h.row.1,h.row.2.mod hm (H _ .x (by simp) h.row.1)⟩,⟨h.gb.1,h.gb.2.mod hm (H _ .gb (by simp) h.gb.1)⟩,⟨h.cb.1,h.cb.2.mod hm (H _ .cb (by simp) h.cb.1)⟩,⟨h.ub.1,h.ub.2.mod hm (H _ .ub (by simp) h.ub.1)⟩,
  ⟨h.lb.1,h.lb.2.mod hm (H _ .lb (by simp) h.lb.1)⟩,⟨h.tb.1,h.tb.2.mod hm (H _ .tb (by simp) h.tb.1)⟩,ownsRow_mod h.q hm (fun b hb=> H _ .qo (by simp) (h.qown b hb)),ownsRow_mod h.a hm (fun b hb=> H _ .ao (by simp) (h.aown b hb)),h.qown,h.aown,
  fun g hg=> ⟨(h.qi g hg).1,(h.qi g hg).2.mod hm (H _ (.qi g) (by simp) (h.qi g hg).1)⟩,fun g hg=> ⟨(h.ai g hg).1,(h.ai g hg).2.mod hm (H _ (.ai g) (by simp) (h.ai g hg).1)⟩,
  fun g c hg hc=> (h.qs g c hg hc).mod hm (fun b e=> H b (.q g c) (by simp) e) (fun _ _=> rfl),fun b hb=> ⟨(h.lt b hb).1,Nat.lt_of_lt_of_le (h.lt b hb).2 hm.size⟩,
  Mod.trans h.mod hm (fun b hb hSb=> by have:=hS b hSb;omega)⟩
theorem NInv.own (h:NInv w0 w x B C G K cr par wt ow qv av) (ho:∀ b,ow b≠ .no→ow' b=ow b) (hl:∀ b,ow' b≠ .no→w0.heap.size≤b∧b < w.heap.size):NInv w0 w x B C G K cr par wt ow' qv av:=by
 have H:∀ b t,t≠ .no→ow b=t→ow' b=t:=fun b t ht e=> by rw [ho b (by rw [e];exact ht),e]
 refine ⟨⟨H _ _ (by simp) h.row.1,h.row.2⟩,⟨H _ _ (by simp) h.gb.1,h.gb.2⟩,⟨H _ _ (by simp) h.cb.1,h.cb.2⟩,⟨H _ _ (by simp) h.ub.1,h.ub.2⟩,⟨H _ _ (by simp) h.lb.1,h.lb.2⟩,⟨H _ _ (by simp) h.tb.1,h.tb.2⟩,h.q,h.a,fun b hb=> H _ _ (by simp) (h.qown b hb),fun b hb=> H _ _ (by simp) (h.aown b hb),
  fun g hg=> ⟨H _ _ (by simp) (h.qi g hg).1,(h.qi g hg).2⟩,fun g hg=> ⟨H _ _ (by simp) (h.ai g hg).1,(h.ai g hg).2⟩,fun g c hg hc=> ?_,hl,h.mod⟩
 obtain ⟨h1,p1,e1,X,r0,r1,r2,r3⟩:=h.qs g c hg hc
 exact ⟨h1,p1,e1,X,H _ _ (by simp) r0,H _ _ (by simp) r1,H _ _ (by simp) r2,H _ _ (by simp) r3⟩
end
end Go.Q
namespace Go.Q
open Go.RowKit Go.Proofs
theorem ownsRow_row {w:World} {base:Nat} {e:TypeId} {size g n cap:Nat} {xs:List Value} (h:w.ownsRow base e size (slc g n cap) n xs):Row w g (n * size) (fl xs):=by
 obtain ⟨hl,h2|⟨g',cap',cur,hv,hb,hg,hn,hm,hs,ht⟩⟩:=h
 ·simp at h2
 ·obtain ⟨rfl,rfl⟩:g=g' ∧cap=cap' :=by simpa using hv
  have hle:n * size≤cap * size:=Nat.mul_le_mul_right _ hn
  refine ⟨cur,e,hg,by omega,fun i hi=> ?_⟩
  have:cur.toList[i]? =xs[i]? :=by rw [←ht,List.getElem?_take_of_lt hi]
  rw [←Array.getElem?_toList,this,fl,List.getD_eq_getElem?_getD,List.getElem?_eq_getElem (by omega)]
  rfl
section
variable {w0 w w' :World} {x:Nat} {B:SB} {C G K:Nat} {cr:Int} {par wt:Nat→Int} {ow:Nat→Own} {qv av:Value}
theorem NInv.next (I:NInv w0 w x B C G K cr par wt ow qv av) {qb ab:Nat} {qn:Nat→Nat} (oq:ow qb= .qi K) (oa:ow ab= .ai K) (Q8:Row w qb C (fun c=> ptr (qn c))) (A8:Row w ab (C * 3) (asd (fun _=> (0,0)) (wt K)))
  (hq:∀ c,c < C→QAt w ow (.q K c) (qn c) (.e 0 0)) {gq ga capq capa:Nat} (M:Mod (fun b=> b=x∨qv.ownBlock=some b∨av.ownBlock=some b) w w')
  (R:Row w' x 10 (fun i=> if i=7 then slc ga (K+1) capa else if i=6 then slc gq (K+1) capq else fl [.int .i64 C, .int .u64 cr,slc B.gb G B.gcap,slc B.cb C C,slc B.ub C C, .map (some B.tb),qv,av,slc B.lb C C, .int .i64 0] i))
  (Oq:w'.ownsRow w0.heap.size 132 1 (slc gq (K+1) capq) (K+1) (((List.range K).map fun g=> slc (B.qi g) C C)++ [slc qb C C])) (Oa:w'.ownsRow w0.heap.size 133 1 (slc ga (K+1) capa) (K+1) (((List.range K).map fun g=> slc (B.ai g) C C)++ [slc ab C C]))
  (aq:qv.ownBlock=some gq∨w.heap.size≤gq) (aa:av.ownBlock=some ga∨w.heap.size≤ga) (ne:gq≠ga):
  ∃ ow',NInv w0 w' x { B with qi:=fun g=> if g=K then qb else B.qi g,ai:=fun g=> if g=K then ab else B.ai g,q:=fun g c=> if g=K then qn c else B.q g c } C G (K+1) cr par wt ow' (slc gq (K+1) capq) (slc ga (K+1) capa)∧∀ b,b < w.heap.size→ow' b=ow b:=by
 have hz:=M.size
 have hq' :∀ b,qv.ownBlock=some b→ow b= .qo:=I.qown
 have ha' :∀ b,av.ownBlock=some b→ow b= .ao:=I.aown
 have ho:∀ b,b < w.heap.size→(if b=gq then Own.qo else if b=ga then .ao else ow b)=ow b:=by
  intro b hb
  split
  ·rename_i h;subst h
   rcases aq with h|h
   ·rw [hq' _ h]
   ·omega
  split
  ·rename_i h;subst h
   rcases aa with h|h
   ·rw [ha' _ h]
   ·omega
  rfl
 have H:∀ b t,t≠ .x→t≠ .qo→t≠ .ao→ow b=t→¬(b=x∨qv.ownBlock=some b∨av.ownBlock=some b):=by
  rintro b t h1 h2 h3 e (rfl|h|h)
  ·exact h1 (by rw [←e,I.row.1])
  ·exact h2 (by rw [←e,hq' _ h])
  ·exact h3 (by rw [←e,ha' _ h])
 have rw_:∀ {b N:Nat} {F:Nat→Value} {t:Own},t≠ .x→t≠ .qo→t≠ .ao→ow b=t∧Row w b N F→(if b=gq then Own.qo else if b=ga then .ao else ow b)=t∧Row w' b N F:=
  fun h1 h2 h3 h=> ⟨by rw [ho _ h.2.lt,h.1],h.2.mod M (H _ _ h1 h2 h3 h.1)⟩
 refine ⟨fun b=> if b=gq then .qo else if b=ga then .ao else ow b, ?_,ho⟩
 refine ⟨⟨by rw [ho _ I.row.2.lt,I.row.1],R.congr (fun i hi=> ?_)⟩,rw_ (by simp) (by simp) (by simp) I.gb,rw_ (by simp) (by simp) (by simp) I.cb,rw_ (by simp) (by simp) (by simp) I.ub,rw_ (by simp) (by simp) (by simp) I.lb,
  ⟨by rw [ho _ I.tb.2.lt,I.tb.1],I.tb.2.mod M (H _ .tb (by simp) (by simp) (by simp) I.tb.1)⟩, ?_, ?_, ?_, ?_, ?_, ?_, ?_, ?_, ?_⟩
 ·rcases (by omega:i=0∨i=1∨i=2∨i=3∨i=4∨i=5∨i=6∨i=7∨i=8∨i=9) with rfl|rfl|rfl|rfl|rfl|rfl|rfl|rfl|rfl|rfl <;> rfl
 ·have:((List.range (K+1)).map fun g=> slc (if g=K then qb else B.qi g) C C)=((List.range K).map fun g=> slc (B.qi g) C C)++ [slc qb C C]:=by
   rw [List.range_succ,List.map_append]
   congr 1
   ·refine List.map_congr_left (fun g hg=> ?_)
    have:=List.mem_range.1 hg
    rw [if_neg (by omega)]
   ·simp
  rw [this];exact Oq
 ·have:((List.range (K+1)).map fun g=> slc (if g=K then ab else B.ai g) C C)=((List.range K).map fun g=> slc (B.ai g) C C)++ [slc ab C C]:=by
   rw [List.range_succ,List.map_append]
   congr 1
   ·refine List.map_congr_left (fun g hg=> ?_)
    have:=List.mem_range.1 hg
    rw [if_neg (by omega)]
   ·simp
  rw [this];exact Oa
 ·intro b hb
  obtain rfl:gq=b:=Option.some.inj hb
  simp
 ·intro b hb
  obtain rfl:ga=b:=Option.some.inj hb
  simp only [if_neg ne.symm,if_true]
 ·intro g hg
  try dsimp only
  by_cases e:g=K
  ·subst e;simp only [if_true];exact rw_ (by simp) (by simp) (by simp) ⟨oq,Q8⟩
  ·simp only [if_neg e];exact rw_ (by simp) (by simp) (by simp) (I.qi g (by omega))
 ·intro g hg
  try dsimp only
  by_cases e:g=K
  ·subst e;simp only [if_true];exact rw_ (by simp) (by simp) (by simp) ⟨oa,A8⟩
  ·simp only [if_neg e];exact rw_ (by simp) (by simp) (by simp) (I.ai g (by omega))
 ·intro g c hg hc
  try dsimp only
  by_cases e:g=K
  ·subst e;simp only [if_true];exact (hq c hc).mod M (fun b e=> H b _ (by simp) (by simp) (by simp) e) ho
  ·simp only [if_neg e];exact (I.qs g c (by omega) hc).mod M (fun b e=> H b _ (by simp) (by simp) (by simp) e) ho
 ·intro b hb
  try dsimp only at hb
  split at hb
  ·rename_i h;subst h;exact Oq.lt _ rfl
  split at hb
  ·rename_i h;subst h;exact Oa.lt _ rfl
  have:=I.lt b hb;omega
 ·refine Mod.trans I.mod M ?_
  rintro b hb (rfl|h|h)
  ·exact absurd hb (by have:=(I.lt b (by rw [I.row.1];simp)).1;omega)
  ·exact absurd hb (by have:=(I.lt b (by rw [hq' _ h];simp)).1;omega)
  ·exact absurd hb (by have:=(I.lt b (by rw [ha' _ h];simp)).1;omega)
def fresh (C G:Nat) (cr:Int) (par wt:Nat→Int):SSt:= { C:=C,G:=G,cr:=cr,par:=par,wt:=wt,clocks:=fun _=> 0,current:=fun _=> 0,loads:=fun _=> 0,work:=0,task:=none,qs:=fun _ _=> .e 0 0,aside:=fun _ _=> (0,0) }
theorem NInv.done (I:NInv w0 w x B C G G cr par wt ow qv av) (hG:0 < G):∃ B',SAt w ow x B' (fresh C G cr par wt)∧(∀ b,ow b≠ .no→w0.heap.size≤b):=by
 obtain ⟨_,⟨_,h0⟩|⟨gq,capq,_,hv,_⟩⟩:=I.q
 ·omega
 obtain ⟨_,⟨_,h0⟩|⟨ga,capa,_,hv',_⟩⟩:=I.a
 ·omega
 have Oq:=I.q
 have Oa:=I.a
 rw [hv] at Oq
 rw [hv'] at Oa
 have Rq:=ownsRow_row Oq
 have Ra:=ownsRow_row Oa
 have X:=I.row
 rw [hv,hv'] at X
 refine ⟨{ B with qo:=gq,qcap:=capq,ao:=ga,acap:=capa,ccap:=C,ucap:=C,lcap:=C },⟨fun t=> ?_,fun b hb=> (I.lt b hb).2⟩,fun b hb=> (I.lt b hb).1⟩
 cases t with
 |no=> trivial
 |x=> exact X
 |gb=> exact I.gb
 |cb=> exact I.cb
 |ub=> exact I.ub
 |lb=> exact I.lb
 |tb=> exact I.tb
 |tk=> intro t ht;simp [fresh] at ht
 |qo=>
  refine ⟨I.qown gq (by rw [hv];rfl),(Rq.take (M:=G) (by omega)).congr (fun i hi=> ?_)⟩
  simp [fl,fresh,hi]
 |ao=>
  refine ⟨I.aown ga (by rw [hv'];rfl),(Ra.take (M:=G) (by omega)).congr (fun i hi=> ?_)⟩
  simp [fl,fresh,hi]
 |qi g=> exact I.qi g
 |ai g=> exact I.ai g
 |q g c=> exact I.qs g c
end
end Go.Q
namespace Go.Q
open Go.RowKit Go.Proofs
theorem Tryz.infoSSpot:(Tryz.prog.info? 103).map (fun i=> (i.zero,i.size,i.bytes))=some (some (.slice none 0 0),1,24):=by kernel_rfl
def TkAt (w:World) (ow:Nat→SOwn) (tv:Value):Option TK→Prop
 |none=> ∃ a c,tv= .slice a 0 c
 |some t=> ∃ b c,tv=slc b 1 c∧ow b= .tk∧Row w b 8 (fl (tkc t))
def spl (f:Nat→Int×Int×Int) (k:Nat):List Value:=(List.range k).flatMap fun c=> [.int .u64 (f c).1, .int .u32 (f c).2.1, .int .u64 (f c).2.2]
theorem spl_zero (f:Nat→Int×Int×Int):spl f 0= []:=rfl
theorem spl_succ (f:Nat→Int×Int×Int) (k:Nat):spl f (k+1)=spl f k++ [.int .u64 (f k).1, .int .u32 (f k).2.1, .int .u64 (f k).2.2]:=by
 simp [spl,List.range_succ]
theorem spl_len (f:Nat→Int×Int×Int) (k:Nat):(spl f k).length=k * 3:=by
 induction k with
 |zero=> rfl
 |succ k ih=> rw [spl_succ,List.length_append,ih];simp;omega
theorem spl_get (f:Nat→Int×Int×Int) (k i:Nat) (hi:i < k * 3):fl (spl f k) i=spt f i:=by
 induction k with
 |zero=> omega
 |succ k ih=>
  unfold fl at *
  rw [spl_succ,List.getD_eq_getElem?_getD]
  by_cases h:i < k * 3
  ·rw [List.getElem?_append_left (by rw [spl_len];exact h),←List.getD_eq_getElem?_getD,ih h]
  ·rw [List.getElem?_append_right (by rw [spl_len];omega),spl_len]
   have:i=k * 3∨i=k * 3+1∨i=k * 3+2:=by omega
   rcases this with rfl|rfl|rfl
   ·simp [spt0]
   ·rw [spt1];simp
   ·rw [spt2];simp
structure GInv (w0 w:World) (xs:Nat) (B:STB) (A:ASt) (K:Nat) (tk:Option TK) (tv:Value) (ow:Nat→SOwn) (sv:Value):Prop where
 row:Row w xs 7 (fl [.int .i64 A.C, .int .u64 A.cr,slc B.gb A.G B.gcap,slc B.cl A.C B.ccap,slc B.cu A.C B.ucap,tv,sv])
 xno:ow xs= .no
 xge:w0.heap.size≤xs
 gb:ow B.gb= .gb∧Row w B.gb (A.G * 2) (grp A.par A.wt)
 cl:ow B.cl= .cl∧Row w B.cl A.C (ints A.clocks)
 cu:ow B.cu= .cu∧Row w B.cu A.C (ints A.current)
 tk:TkAt w ow tv tk
 s:w.ownsRow w0.heap.size 103 1 sv K ((List.range K).map fun g=> slc (B.si g) A.C (B.sc g))
 sown:∀ b,sv.ownBlock=some b→ow b= .so
 si:∀ g,g < K→ow (B.si g)= .si g∧Row w (B.si g) (A.C * 3) (spt (A.spots g))
 lt:∀ b,ow b≠ .no→w0.heap.size≤b∧b < w.heap.size
 mod:Mod No w0 w
 gc:A.G≤B.gcap
section
variable {S:Nat→Prop} {w0 w w' :World} {xs:Nat} {B:STB} {A:ASt} {K:Nat} {tk:Option TK} {tv:Value} {ow:Nat→SOwn} {sv:Value}
theorem TkAt.mod {ow' :Nat→SOwn} (h:TkAt w ow tv tk) (hm:Mod S w w') (hs:∀ b,ow b= .tk→¬S b) (ho:∀ b,b < w.heap.size→ow' b=ow b):TkAt w' ow' tv tk:=by
 cases tk with
 |none=> exact h
 |some t=>
  obtain ⟨b,c,h1,h2⟩:=h
  exact ⟨b,c,h1,rowPartS h2 hm hs ho⟩
theorem GInv.move (h:GInv w0 w xs B A K tk tv ow sv) (hm:Mod S w w') (hs:∀ b,S b→ow b= .no∧b≠xs) (hS:∀ b,S b→w0.heap.size≤b):GInv w0 w' xs B A K tk tv ow sv:=by
 have H:∀ b t,t≠ .no→ow b=t→¬S b:=fun b t ht e hb=> ht (by rw [←e,(hs b hb).1])
 refine ⟨h.row.mod hm (fun hx=> (hs _ hx).2 rfl),h.xno,h.xge,⟨h.gb.1,h.gb.2.mod hm (H _ .gb (by simp) h.gb.1)⟩,⟨h.cl.1,h.cl.2.mod hm (H _ .cl (by simp) h.cl.1)⟩,⟨h.cu.1,h.cu.2.mod hm (H _ .cu (by simp) h.cu.1)⟩,
  h.tk.mod hm (fun b e=> H b .tk (by simp) e) (fun _ _=> rfl),ownsRow_mod h.s hm (fun b hb=> H _ .so (by simp) (h.sown b hb)),h.sown,fun g hg=> ⟨(h.si g hg).1,(h.si g hg).2.mod hm (H _ (.si g) (by simp) (h.si g hg).1)⟩,fun b hb=> ⟨(h.lt b hb).1,Nat.lt_of_lt_of_le (h.lt b hb).2 hm.size⟩,Mod.trans h.mod hm (fun b hb hSb=> by have:=hS b hSb;omega),h.gc⟩
theorem GInv.no (h:GInv w0 w xs B A K tk tv ow sv) (hm:Mod No w w'):GInv w0 w' xs B A K tk tv ow sv:=h.move hm (fun _ hb=> hb.elim) (fun _ hb=> hb.elim)
theorem GInv.next (I:GInv w0 w xs B A K tk tv ow sv) {sg scp:Nat} (hn:ow sg= .no) (hx:sg≠xs) (hge:w0.heap.size≤sg) (R:Row w sg (A.C * 3) (spt (A.spots K))) {gs cap:Nat} (M:Mod (fun b=> b=xs∨sv.ownBlock=some b) w w')
  (X:Row w' xs 7 (fl [.int .i64 A.C, .int .u64 A.cr,slc B.gb A.G B.gcap,slc B.cl A.C B.ccap,slc B.cu A.C B.ucap,tv,slc gs (K+1) cap]))
  (O:w'.ownsRow w0.heap.size 103 1 (slc gs (K+1) cap) (K+1) (((List.range K).map fun g=> slc (B.si g) A.C (B.sc g))++ [slc sg A.C scp])) (at_:sv.ownBlock=some gs∨w.heap.size≤gs) (hsv:sv.ownBlock≠some xs):
  ∃ ow',GInv w0 w' xs { B with si:=fun g=> if g=K then sg else B.si g,sc:=fun g=> if g=K then scp else B.sc g } A (K+1) tk tv ow' (slc gs (K+1) cap)∧(∀ b,b < w.heap.size→b≠sg→ow' b=ow b):=by
 have hz:=M.size
 have lsg:=R.lt
 have lx:=I.row.lt
 have hgs:gs≠sg:=by
  rintro rfl
  rcases at_ with h|h
  ·rw [I.sown _ h] at hn;simp at hn
  ·omega
 have ho:∀ b,b < w.heap.size→ow b≠ .no→(if b=gs then SOwn.so else if b=sg then .si K else ow b)=ow b:=by
  intro b hb hne
  split
  ·rename_i h;subst h
   rcases at_ with h|h
   ·rw [I.sown _ h]
   ·omega
  split
  ·rename_i h;subst h;exact absurd hn hne
  rfl
 have H:∀ b t,t≠ .no→t≠ .so→ow b=t→¬(b=xs∨sv.ownBlock=some b):=by
  rintro b t h1 h2 e (rfl|h)
  ·exact h1 (by rw [←e,I.xno])
  ·exact h2 (by rw [←e,I.sown _ h])
 have rw_:∀ {b N:Nat} {F:Nat→Value} {t:SOwn},t≠ .no→t≠ .so→ow b=t∧Row w b N F→(if b=gs then SOwn.so else if b=sg then .si K else ow b)=t∧Row w' b N F:=
  fun h1 h2 h3=> ⟨by rw [ho _ h3.2.lt (by rw [h3.1];exact h1),h3.1],h3.2.mod M (H _ _ h1 h2 h3.1)⟩
 have hsm:¬(sg=xs∨sv.ownBlock=some sg):=by
  rintro (h|h)
  ·exact hx h
  ·rw [I.sown _ h] at hn;simp at hn
 have hxs:xs≠gs:=by
  rintro rfl
  rcases at_ with h|h
  ·exact hsv h
  ·omega
 refine ⟨fun b=> if b=gs then .so else if b=sg then .si K else ow b,⟨X, ?_,I.xge,rw_ (by simp) (by simp) I.gb,rw_ (by simp) (by simp) I.cl,rw_ (by simp) (by simp) I.cu, ?_, ?_, ?_, ?_, ?_, ?_,I.gc⟩, ?_⟩
 ·rw [if_neg hxs,if_neg (Ne.symm hx),I.xno]
 ·have ht:=I.tk
  cases tk with
  |none=> exact ht
  |some t=>
   obtain ⟨b,c,h1,h2⟩:=ht
   exact ⟨b,c,h1,rw_ (by simp) (by simp) h2⟩
 ·have:((List.range (K+1)).map fun g=> slc (if g=K then sg else B.si g) A.C (if g=K then scp else B.sc g))=((List.range K).map fun g=> slc (B.si g) A.C (B.sc g))++ [slc sg A.C scp]:=by
   rw [List.range_succ,List.map_append]
   congr 1
   ·refine List.map_congr_left (fun g hg=> ?_)
    have:=List.mem_range.1 hg
    rw [if_neg (by omega),if_neg (by omega)]
   ·simp
  rw [this];exact O
 ·intro b hb
  obtain rfl:gs=b:=Option.some.inj hb
  simp
 ·intro g hg
  try dsimp only
  by_cases e:g=K
  ·subst e
   simp only [if_true,if_neg hgs.symm]
   exact ⟨trivial,R.mod M hsm⟩
  ·simp only [if_neg e];exact rw_ (by simp) (by simp) (I.si g (by omega))
 ·intro b hb
  try dsimp only at hb
  split at hb
  ·rename_i h;subst h;exact O.lt _ rfl
  split at hb
  ·rename_i h;subst h;omega
  have:=I.lt b hb;omega
 ·refine Mod.trans I.mod M ?_
  rintro b hb (rfl|h)
  ·exact absurd hb (by have:=I.xge;omega)
  ·exact absurd hb (by have:=(I.lt b (by rw [I.sown _ h];simp)).1;omega)
 ·intro b hb hbs
  show (if b=gs then SOwn.so else if b=sg then .si K else ow b)=ow b
  rw [if_neg hbs]
  split
  ·rename_i e;subst e
   rcases at_ with h|h
   ·rw [I.sown _ h]
   ·omega
  ·rfl
theorem GInv.setTask (I:GInv w0 w xs B A K none tv ow sv) (t:TK) {tb tc:Nat} (htb:w.heap.size≤tb) (R:Row w' tb 8 (fl (tkc t))) (M:Mod (fun b=> b=xs) w w')
  (X:Row w' xs 7 (fl [.int .i64 A.C, .int .u64 A.cr,slc B.gb A.G B.gcap,slc B.cl A.C B.ccap,slc B.cu A.C B.ucap,slc tb 1 tc,sv])):GInv w0 w' xs B A K (some t) (slc tb 1 tc) (fun b=> if b=tb then .tk else ow b) sv:=by
 have hz:=M.size
 have lx:=I.row.lt
 have lm:=I.mod.size
 have ho:∀ b,b < w.heap.size→(if b=tb then SOwn.tk else ow b)=ow b:=fun b hb=> if_neg (by omega)
 have H:∀ b t,t≠ .no→ow b=t→¬(b=xs):=by
  rintro b t h1 e rfl
  exact h1 (by rw [←e,I.xno])
 have rw_:∀ {b N:Nat} {F:Nat→Value} {t:SOwn},t≠ .no→ow b=t∧Row w b N F→(if b=tb then SOwn.tk else ow b)=t∧Row w' b N F:=
  fun h1 h3=> ⟨by rw [ho _ h3.2.lt,h3.1],h3.2.mod M (H _ _ h1 h3.1)⟩
 have hs:∀ b,sv.ownBlock=some b→b < w.heap.size:=fun b hb=> (I.lt b (by rw [I.sown _ hb];simp)).2
 refine ⟨X,by rw [ho _ lx,I.xno],I.xge,rw_ (by simp) I.gb,rw_ (by simp) I.cl,rw_ (by simp) I.cu,⟨tb,tc,rfl,by simp,R⟩,ownsRow_mod I.s M (fun b hb=> H b .so (by simp) (I.sown b hb)),fun b hb=> by rw [ho _ (hs b hb),I.sown _ hb],fun g hg=> rw_ (by simp) (I.si g hg), ?_,Mod.trans I.mod M (fun b hb e=> absurd hb (by have:=I.xge;rw [e];omega)),I.gc⟩
 intro b hb
 try dsimp only at hb
 split at hb
 ·rename_i h;rw [h];exact ⟨by omega,R.lt⟩
 ·have:=I.lt b hb;omega
theorem GInv.done (I:GInv w0 w xs B A A.G A.task tv ow sv) (hG:0 < A.G):∃ B',strow B' A= [.int .i64 A.C, .int .u64 A.cr,slc B.gb A.G B.gcap,slc B.cl A.C B.ccap,slc B.cu A.C B.ucap,tv,sv]∧StAt w ow B' A∧(∀ b,ow b≠ .no→w0.heap.size≤b)∧A.G≤B'.gcap:=by
 obtain ⟨_,⟨_,h0⟩|⟨gs,cap,_,hv,_⟩⟩:=I.s
 ·omega
 have O:=I.s
 rw [hv] at O
 have R:=ownsRow_row O
 refine ⟨{ B with tv:=tv,so:=gs,scap:=cap },by rw [hv];rfl,⟨fun t=> ?_,fun b hb=> (I.lt b hb).2⟩,fun b hb=> (I.lt b hb).1,I.gc⟩
 cases t with
 |no=> trivial
 |gb=> exact I.gb
 |cl=> exact I.cl
 |cu=> exact I.cu
 |tk=>
  have ht:=I.tk
  simp only [SPart]
  unfold TkAt at ht
  split at ht <;> rename_i hh <;> first|exact ht|(simp only [hh];exact ht)|(simp only [hh] at ht ⊢;exact ht)
 |so=>
  refine ⟨I.sown gs (by rw [hv];rfl),(R.take (M:=A.G) (by omega)).congr (fun i hi=> ?_)⟩
  simp [fl,hi]
 |si g=> exact fun hg=> I.si g hg
end
end Go.Q
namespace Go.Q
open Go.RowKit Go.Proofs
theorem Tryz.infoMember:(Tryz.prog.info? 231).map (fun i=> (i.zero,i.size,i.bytes))=some (some (.agg #[.int .u64 0, .int .i64 0, .int .i64 0]),3,24):=by kernel_rfl
def memb (A:ASt) (d g c:Nat):Option (Int×Int×Int):=
 match A.task with
 |none=> none
 |some t=> if (c:Int)=t.cpu then
   match chn A.par A.wt d t.group.toNat t.id 0 g with
   |none=> none
   |some (m,_)=> if m < 65536 then some (t.v,0,t.id) else some ((A.spots (m - 65536).toNat c).1,1,m - 65536)
  else none
structure One1 (A:ASt) (d:Nat):Prop where
 T:Tree A.G A.par A.wt
 ok:∀ t,A.task=some t→t.ready=true∧0≤t.group∧t.group < A.G∧Dep A.par t.group.toNat d∧1≤t.id∧t.id < 65536
theorem chn_weight (par wt:Nat→Int):∀ (d g:Nat) (m k k' :Int) (x:Nat),(chn par wt d g m k x).map (·.1)=(chn par wt d g m k' x).map (·.1)
 |0,g,m,k,k',x=> by rw [chn_zero,chn_zero];split <;> rfl
 |d+1,g,m,k,k',x=> by rw [chn_succ,chn_succ];split <;> rfl
def MemAt (w:World) (v:Value):Option (Int×Int×Int)→Prop
 |none=> v= .slice none 0 0
 |some p=> ∃ b cap,v=slc b 1 cap∧Row w b 3 (fl [.int .u64 p.1, .int .i64 p.2.1, .int .i64 p.2.2])
section
variable {A:ASt} {d:Nat}
theorem memb_task (h:One1 A d) {t:TK} (ht:A.task=some t) {g c:Nat} (hg:t.group=g) (hc:t.cpu=c):memb A d g c=some (t.v,0,t.id):=by
 obtain ⟨_,h0,h1,h2,h3,h4⟩:=h.ok t ht
 unfold memb
 rw [ht]
 simp only [hc,if_true]
 have:chn A.par A.wt d t.group.toNat t.id 0 g=some (t.id,0):=by
  rw [show t.group.toNat=g from by omega]
  cases d <;> simp [chn]
 rw [this]
 simp only [h4,if_true]
theorem memb_up (h:One1 A d) {g c x:Nat} (hx:0 < x) (hxG:x < A.G) (hp:A.par x=g) (hm:memb A d x c≠none):memb A d g c=some ((A.spots x c).1,1,(x:Int)):=by
 unfold memb at hm ⊢
 cases ht:A.task with
 |none=> rw [ht] at hm;exact absurd rfl hm
 |some t=>
  rw [ht] at hm
  obtain ⟨_,h0,h1,h2,h3,h4⟩:=h.ok t ht
  simp only at hm ⊢
  split at hm
  ·rename_i hc
   rw [if_pos hc]
   cases hch:chn A.par A.wt d t.group.toNat t.id 0 x with
   |none=> rw [hch] at hm;exact absurd rfl hm
   |some p=>
    have:=chn_par (G:=A.G) h.T.parOk d t.group.toNat t.id 0 x p.1 p.2 (by omega) h2 hx hch
    rw [hp] at this
    simp only [Int.toNat_natCast] at this
    rw [this]
    simp only
    rw [if_neg (by omega)]
    have e1:(65536+(x:Int) - 65536)=x:=by omega
    rw [e1]
    simp
  ·exact absurd rfl hm
theorem memb_inv (h:One1 A d) {g c:Nat} {p:Int×Int×Int} (hm:memb A d g c=some p):(∃ t,A.task=some t∧t.group=g∧t.cpu=c∧p=(t.v,0,t.id))∨(∃ x,0 < x∧x < A.G∧A.par x=g∧g < x∧memb A d x c≠none∧p=((A.spots x c).1,1,(x:Int))):=by
 unfold memb at hm
 cases ht:A.task with
 |none=> rw [ht] at hm;exact absurd hm (by simp)
 |some t=>
  rw [ht] at hm
  obtain ⟨_,h0,h1,h2,h3,h4⟩:=h.ok t ht
  simp only at hm
  split at hm
  ·rename_i hc
   cases hch:chn A.par A.wt d t.group.toNat t.id 0 g with
   |none=> rw [hch] at hm;exact absurd hm (by simp)
   |some q=>
    obtain ⟨m,k⟩:=q
    rw [hch] at hm
    rcases chn_mem (G:=A.G) h.T.parOk d t.group.toNat t.id 0 g m k (by omega) h2 hch with ⟨e1,e2,e3⟩|⟨hlt,x,a1,a2,a3,a4,a5,m2,k2,a6⟩
    ·left
     simp only at hm
     rw [if_pos (by omega)] at hm
     exact ⟨t,rfl,by omega,by omega,(Option.some.inj hm).symm⟩
    ·right
     simp only at hm
     rw [if_neg (by omega)] at hm
     have hpx:=h.T.parOk x a1 (by omega)
     refine ⟨x,a1,by omega,a5,by omega, ?_, ?_⟩
     ·unfold memb
      rw [ht]
      simp only
      rw [if_pos hc,a6]
      simp only
      split <;> simp
     ·rw [←Option.some.inj hm,a3]
      have e1:(65536+(x:Int) - 65536)=x:=by omega
      rw [e1]
      simp
  ·exact absurd hm (by simp)
end
end Go.Q
