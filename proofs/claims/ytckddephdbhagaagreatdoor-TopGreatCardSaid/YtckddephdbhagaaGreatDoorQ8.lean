/- A part of the proof that TopGreat answers true: what some of the functions on its road compute. -/
import Derived.Test.YtckddephdbhagaaGreatDoorQ0
import Derived.Test.YtckddephdbhagaaGreatDoorQ2
import Derived.Test.YtckddephdbhagaaGreatDoorQ6
import Derived.Test.YtckddephdbhagaaGreatDoorQ7
set_option linter.unusedVariables false
set_option linter.unusedSimpArgs false
namespace Go.Q
open Go.RowKit Go.Proofs
section
variable {P:Program} {w:World} {ops:Array Oper} {rest:List Oper} {o:Oper} {a:Act} {K:Act→World→Prop} {Q:Exit→Act→World→Prop} {q:IntKind} {b:Nat} {l:List (Int×Value)}
theorem wp_insert (m x u:Operand) (t:TypeId) (hop:o.op=Op.insert t m x u) (k e:TypeId) (ht:P.underlying t=some (.map k e)) (hk:P.underlying k=some (.int q))
  (h:IMap w q b l) (i:Int) (v:Value) (hm:a.eval m= .map (some b)) (hx:a.eval x= .int q i) (hv:a.eval u=v)
  (hK:∀ w1,Put w w1 b→IMap w1 q b (pt l i v)→K (a.put o.dst undef) w1):o.wp P a w K Q:=by
 obtain ⟨o',hrun,hmap⟩:=run_mapUpdate (P:=P) ht hk h i v
 unfold Oper.wp
 simp [execOp,hop,hm,hx,hv,hrun,Result.andThen]
 exact hK _ (put_setObj w b o') hmap
theorem wpList_insert (hg:o.guard=none) (m x u:Operand) (t:TypeId) (hop:o.op=Op.insert t m x u) (k e:TypeId) (ht:P.underlying t=some (.map k e)) (hk:P.underlying k=some (.int q))
  (h:IMap w q b l) (i:Int) (v:Value) (hm:a.eval m= .map (some b)) (hx:a.eval x= .int q i) (hv:a.eval u=v)
  (hK:∀ w1,Put w w1 b→IMap w1 q b (pt l i v)→wpList P ops Q rest (a.put o.dst undef) w1):wpList P ops Q (o::rest) a w:=
 wpList_plain hg fun _ hK' => wp_insert m x u t hop k e ht hk h i v hm hx hv fun w1 h1 h2=> hK' _ _ (hK w1 h1 h2)
end
abbrev fn (f:Nat):Value:= .func (.func f) #[] #[]
set_option maxRecDepth 100000 in
set_option maxHeartbeats 1000000 in
theorem fields_ok (w:World):Calls Tryz.prog 125 #[] w fun e w' => ∃ b l,e= .returned (.map (some b))∧w.heap.size≤b∧IMap w' .u8 b l∧Mod No w w' ∧
  (∃ s1,lk l 1=some (slc s1 4 4)∧w.heap.size≤s1∧s1≠b∧Row w' s1 4 (fl [fn 196,fn 197,fn 198,fn 199]))∧
  (∃ s5,lk l 5=some (slc s5 2 2)∧w.heap.size≤s5∧s5≠b∧Row w' s5 2 (fl [fn 202,fn 200]))∧
  (∃ s6,lk l 6=some (slc s6 1 1)∧w.heap.size≤s6∧s6≠b∧Row w' s6 1 (fl [fn 202])):=by
 have hmm:= @run_makeMap Tryz.prog
 have h0:IMap (w.alloc (.map #[] 0)) .u8 w.heap.size []:=IMap.new w .u8
 go_enter Tryz.func125,Tryz.ntmps125
 go_wp2_with (refine wpList_insert rfl _ _ _ _ rfl _ _ Tryz.underlying154 Tryz.underlying5 (q:= .u8) (b:=w.heap.size) (IMap.alloc (by assumption) _) _ _ rfl rfl rfl ?_;intro w1 hp hi)
 rename_i W1 p1 i1 W2 p2 i2 W3 p3 i3 W4 p4 i4 W5 p5 i5 W6 p6 i6 W7 p7 i7 W8 p8 i8 W9 p9 i9
 have Q1:=p1.mod
 have Q2:=p2.mod
 have Q3:=p3.mod
 have Q4:=p4.mod
 have Q5:=p5.mod
 have Q6:=p6.mod
 have Q7:=p7.mod
 have Q8:=p8.mod
 have Q9:=p9.mod
 have Q10:=hp.mod
 have z1:=Q1.size
 have z2:=Q2.size
 have z3:=Q3.size
 have z4:=Q4.size
 have z5:=Q5.size
 have z6:=Q6.size
 have z7:=Q7.size
 have z8:=Q8.size
 have z9:=Q9.size
 have z10:=Q10.size
 simp only [World.size_alloc] at z1 z2 z3 z4 z5 z6 z7 z8 z9 z10
 clear i1 i2 i3 i4 i5 i6 i7 i8 i9 p1 p2 p3 p4 p5 p6 p7 p8 p9
 have n1:w.heap.size+1≠w.heap.size:=by omega
 have n4:W4.heap.size≠w.heap.size:=by omega
 have n5:W5.heap.size≠w.heap.size:=by omega
 have R1:Row W1 (w.heap.size+1) 4 (fl [fn 196,fn 197,fn 198,fn 199]):=(row_newL' _ _ [_,_,_,_] _ (by simp)).mod Q1 n1
 have R5:Row W5 W4.heap.size 2 (fl [fn 202,fn 200]):=(row_newL W4 [_,_] _).mod Q5 n4
 have R6:Row W6 W5.heap.size 1 (fl [fn 202]):=(row_newL W5 [_] _).mod Q6 n5
 have R5' :=(R5.alloc _).mod Q6 n4
 have R1' :=(((((((((R1.alloc _).mod Q2 n1).alloc _).mod Q3 n1).alloc _).mod Q4 n1).alloc _).mod Q5 n1).alloc _).mod Q6 n1
 have RR:=fun {b N F} (hb:b≠w.heap.size) (R:Row W6 b N F)=> (((((((R.alloc _).mod Q7 hb).alloc _).mod Q8 hb).alloc _).mod Q9 hb).alloc _).mod Q10 hb
 have sub:∀ b,b < w.heap.size→b=w.heap.size→False:=by omega
 have M1:Mod No w W1:=Mod.trans (((Mod.refl No w).alloc _).alloc _) Q1 sub
 have M2:Mod No w W2:=Mod.trans (M1.alloc _) Q2 sub
 have M3:Mod No w W3:=Mod.trans (M2.alloc _) Q3 sub
 have M4:Mod No w W4:=Mod.trans (M3.alloc _) Q4 sub
 have M5:Mod No w W5:=Mod.trans (M4.alloc _) Q5 sub
 have M6:Mod No w W6:=Mod.trans (M5.alloc _) Q6 sub
 have M7:Mod No w W7:=Mod.trans (M6.alloc _) Q7 sub
 have M8:Mod No w W8:=Mod.trans (M7.alloc _) Q8 sub
 have M9:Mod No w W9:=Mod.trans (M8.alloc _) Q9 sub
 refine bodyPost_ret (v:= .map (some w.heap.size)) (by simp [results,Tryz.results125,go_sem, *]) rfl ⟨w.heap.size,_,rfl,Nat.le_refl _,hi,Mod.trans (M9.alloc _) Q10 sub,⟨w.heap.size+1,by simp [pt,lk];rfl,by omega,n1,RR n1 R1'⟩,⟨W4.heap.size,by simp [pt,lk];rfl,by omega,n4,RR n4 R5'⟩,⟨W5.heap.size,by simp [pt,lk];rfl,by omega,n5,RR n5 R6⟩⟩
end Go.Q
namespace Go.Q
open Go.RowKit Go.Proofs
abbrev evl (seq time cpu kind task group tO weight ticks mask got:Int):List Value:= [.int .i64 seq, .int .i64 time, .int .u8 cpu, .int .u8 kind, .int .i64 task, .int .i64 group, .int .i64 tO, .int .i64 weight, .int .i64 ticks, .int .u64 mask, .int .i64 got]
theorem le6 {P:Nat→Prop} (h0:P 0) (h1:P 1) (h2:P 2) (h3:P 3) (h4:P 4) (h5:P 5):∀ i,i < 6→P i:=by
 intro i hi
 rcases (by omega:i=0∨i=1∨i=2∨i=3∨i=4∨i=5) with rfl|rfl|rfl|rfl|rfl|rfl <;> assumption
theorem le7 {P:Nat→Prop} (h0:P 0) (h1:P 1) (h2:P 2) (h3:P 3) (h4:P 4) (h5:P 5) (h6:P 6):∀ i,i < 7→P i:=by
 intro i hi
 rcases (by omega:i=0∨i=1∨i=2∨i=3∨i=4∨i=5∨i=6) with rfl|rfl|rfl|rfl|rfl|rfl|rfl <;> assumption
theorem le11 {P:Nat→Prop} (h0:P 0) (h1:P 1) (h2:P 2) (h3:P 3) (h4:P 4) (h5:P 5) (h6:P 6) (h7:P 7) (h8:P 8) (h9:P 9) (h10:P 10):∀ i,i < 11→P i:=by
 intro i hi
 rcases (by omega:i=0∨i=1∨i=2∨i=3∨i=4∨i=5∨i=6∨i=7∨i=8∨i=9∨i=10) with rfl|rfl|rfl|rfl|rfl|rfl|rfl|rfl|rfl|rfl|rfl <;> assumption
theorem le12 {P:Nat→Prop} (h0:P 0) (h1:P 1) (h2:P 2) (h3:P 3) (h4:P 4) (h5:P 5) (h6:P 6) (h7:P 7) (h8:P 8) (h9:P 9) (h10:P 10) (h11:P 11):∀ i,i < 12→P i:=by
 intro i hi
 rcases (by omega:i=0∨i=1∨i=2∨i=3∨i=4∨i=5∨i=6∨i=7∨i=8∨i=9∨i=10∨i=11) with rfl|rfl|rfl|rfl|rfl|rfl|rfl|rfl|rfl|rfl|rfl|rfl <;> assumption
section
variable {w:World} {e:Nat} {seq time cpu kind task group tO weight ticks mask got:Int} (k c t g wt to' ti m r:Int)
theorem fld1 (R:Row w e 11 (fl (evl seq time cpu kind task group tO weight ticks mask got))):Calls Tryz.prog 196 #[ptr e,opv k c t g wt to' ti m, .int .i64 r] w fun x w' => x= .returned (.tuple #[])∧
  Row w' e 11 (fl (evl seq time cpu kind t group tO weight ticks mask got))∧Mod (One e) w w' :=by
 have l:=R.lt
 have c4:=R.cL 4 _ (by omega) rfl
 have z:=R.free 4
 go_enter Tryz.func196,Tryz.ntmps196
 go_wp2
 go_end0
 exact ⟨rfl,((R.set (i:=4) (by omega) _).congr (by apply le11 <;> rfl)).alloc _,((Mod.refl (One e) w).setCell (p:=⟨e,4,none⟩) (.inr rfl) _).alloc _⟩
theorem fld2 (R:Row w e 11 (fl (evl seq time cpu kind task group tO weight ticks mask got))):Calls Tryz.prog 197 #[ptr e,opv k c t g wt to' ti m, .int .i64 r] w fun x w' => x= .returned (.tuple #[])∧
  Row w' e 11 (fl (evl seq time cpu kind task g tO weight ticks mask got))∧Mod (One e) w w' :=by
 have l:=R.lt
 have c4:=R.cL 5 _ (by omega) rfl
 have z:=R.free 5
 go_enter Tryz.func197,Tryz.ntmps197
 go_wp2
 go_end0
 exact ⟨rfl,((R.set (i:=5) (by omega) _).congr (by apply le11 <;> rfl)).alloc _,((Mod.refl (One e) w).setCell (p:=⟨e,5,none⟩) (.inr rfl) _).alloc _⟩
theorem fld3 (R:Row w e 11 (fl (evl seq time cpu kind task group tO weight ticks mask got))):Calls Tryz.prog 198 #[ptr e,opv k c t g wt to' ti m, .int .i64 r] w fun x w' => x= .returned (.tuple #[])∧
  Row w' e 11 (fl (evl seq time cpu kind task group tO wt ticks mask got))∧Mod (One e) w w' :=by
 have l:=R.lt
 have c4:=R.cL 7 _ (by omega) rfl
 have z:=R.free 7
 go_enter Tryz.func198,Tryz.ntmps198
 go_wp2
 go_end0
 exact ⟨rfl,((R.set (i:=7) (by omega) _).congr (by apply le11 <;> rfl)).alloc _,((Mod.refl (One e) w).setCell (p:=⟨e,7,none⟩) (.inr rfl) _).alloc _⟩
theorem fld4 (R:Row w e 11 (fl (evl seq time cpu kind task group tO weight ticks mask got))):Calls Tryz.prog 199 #[ptr e,opv k c t g wt to' ti m, .int .i64 r] w fun x w' => x= .returned (.tuple #[])∧
  Row w' e 11 (fl (evl seq time cpu kind task group tO weight ticks m got))∧Mod (One e) w w' :=by
 have l:=R.lt
 have c4:=R.cL 9 _ (by omega) rfl
 have z:=R.free 9
 go_enter Tryz.func199,Tryz.ntmps199
 go_wp2
 go_end0
 exact ⟨rfl,((R.set (i:=9) (by omega) _).congr (by apply le11 <;> rfl)).alloc _,((Mod.refl (One e) w).setCell (p:=⟨e,9,none⟩) (.inr rfl) _).alloc _⟩
theorem fld5 (R:Row w e 11 (fl (evl seq time cpu kind task group tO weight ticks mask got))):Calls Tryz.prog 200 #[ptr e,opv k c t g wt to' ti m, .int .i64 r] w fun x w' => x= .returned (.tuple #[])∧
  Row w' e 11 (fl (evl seq time cpu kind task group tO weight ti mask got))∧Mod (One e) w w' :=by
 have l:=R.lt
 have c4:=R.cL 8 _ (by omega) rfl
 have z:=R.free 8
 go_enter Tryz.func200,Tryz.ntmps200
 go_wp2
 go_end0
 exact ⟨rfl,((R.set (i:=8) (by omega) _).congr (by apply le11 <;> rfl)).alloc _,((Mod.refl (One e) w).setCell (p:=⟨e,8,none⟩) (.inr rfl) _).alloc _⟩
theorem fld7 (R:Row w e 11 (fl (evl seq time cpu kind task group tO weight ticks mask got))):Calls Tryz.prog 202 #[ptr e,opv k c t g wt to' ti m, .int .i64 r] w fun x w' => x= .returned (.tuple #[])∧
  Row w' e 11 (fl (evl seq time cpu kind task group tO weight ticks mask r))∧Mod (One e) w w' :=by
 have l:=R.lt
 have c4:=R.cL 10 _ (by omega) rfl
 have z:=R.free 10
 go_enter Tryz.func202,Tryz.ntmps202
 go_wp2
 go_end0
 exact ⟨rfl,((R.set (i:=10) (by omega) _).congr (by apply le11 <;> rfl)).alloc _,((Mod.refl (One e) w).setCell (p:=⟨e,10,none⟩) (.inr rfl) _).alloc _⟩
end
end Go.Q
namespace Go.Q
open Go.RowKit Go.Proofs
theorem le8 {P:Nat→Prop} (h0:P 0) (h1:P 1) (h2:P 2) (h3:P 3) (h4:P 4) (h5:P 5) (h6:P 6) (h7:P 7):∀ i,i < 8→P i:=by
 intro i hi
 rcases (by omega:i=0∨i=1∨i=2∨i=3∨i=4∨i=5∨i=6∨i=7) with rfl|rfl|rfl|rfl|rfl|rfl|rfl|rfl <;> assumption
theorem le3 {P:Nat→Prop} (h0:P 0) (h1:P 1) (h2:P 2):∀ i,i < 3→P i:=by
 intro i hi
 rcases (by omega:i=0∨i=1∨i=2) with rfl|rfl|rfl <;> assumption
section
variable {w:World} {ow:Nat→SOwn} {B:STB} {A:ASt}
theorem StAt.setTask (h:StAt w ow B A) {t:TK} (ht:A.task=some t) {tb tc:Nat} (htv:B.tv=slc tb 1 tc) (t' :TK):
  StAt ((((((((w.setCell ⟨tb,0,none⟩ (.int .i64 t'.id)).setCell ⟨tb,1,none⟩ (.int .i64 t'.group)).setCell ⟨tb,2,none⟩ (.int .i64 t'.weight)).setCell ⟨tb,3,none⟩ (.int .i64 t'.cpu)).setCell ⟨tb,4,none⟩ (.int .u64 t'.mask)).setCell ⟨tb,5,none⟩ (.bool t'.ready)).setCell ⟨tb,6,none⟩ (.int .u64 t'.v)).setCell ⟨tb,7,none⟩ (.int .u32 t'.r)) ow B { A with task:=some t' }∧
  Mod (fun b=> ow b≠ .no) w ((((((((w.setCell ⟨tb,0,none⟩ (.int .i64 t'.id)).setCell ⟨tb,1,none⟩ (.int .i64 t'.group)).setCell ⟨tb,2,none⟩ (.int .i64 t'.weight)).setCell ⟨tb,3,none⟩ (.int .i64 t'.cpu)).setCell ⟨tb,4,none⟩ (.int .u64 t'.mask)).setCell ⟨tb,5,none⟩ (.bool t'.ready)).setCell ⟨tb,6,none⟩ (.int .u64 t'.v)).setCell ⟨tb,7,none⟩ (.int .u32 t'.r)):=by
 obtain ⟨b,c,h1,h2,R⟩:=h.t1 ht
 have e:tb=b:=by rw [htv] at h1;simpa using (by injection h1 with h1 _ _;injection h1 with h1;injection h1)
 subst e
 have M:∀ S:Nat→Prop,S tb→Mod S w ((((((((w.setCell ⟨tb,0,none⟩ (.int .i64 t'.id)).setCell ⟨tb,1,none⟩ (.int .i64 t'.group)).setCell ⟨tb,2,none⟩ (.int .i64 t'.weight)).setCell ⟨tb,3,none⟩ (.int .i64 t'.cpu)).setCell ⟨tb,4,none⟩ (.int .u64 t'.mask)).setCell ⟨tb,5,none⟩ (.bool t'.ready)).setCell ⟨tb,6,none⟩ (.int .u64 t'.v)).setCell ⟨tb,7,none⟩ (.int .u32 t'.r)):=fun S hS=> by
  repeat (refine Mod.setCell ?_ (.inr hS) _)
  exact Mod.refl _ _
 refine ⟨h.set .tk (M _ ⟨h2,by simp⟩) ?_ ?_,M _ (by show ow tb≠ .no;rw [h2];simp)⟩
 ·refine ⟨tb,tc,htv,h2,((((((((R.set (i:=0) (by omega) _).set (i:=1) (by omega) _).set (i:=2) (by omega) _).set (i:=3) (by omega) _).set (i:=4) (by omega) _).set (i:=5) (by omega) _).set (i:=6) (by omega) _).set (i:=7) (by omega) _).congr (by apply le8 <;> rfl)⟩
 ·intro t1 hne hp
  cases t1 with
  |tk=> exact absurd rfl hne
  |_=> exact hp
end
def chg (n:Int) (p:Int×Int×Int) (k:Int):Int×Int×Int:=(p.1+(n * 1048576+p.2.1) / k,(n * 1048576+p.2.1) % k,p.2.2)
def tkS (A:ASt) (n:Int) (d g0 c y:Nat):Nat→Nat→Int×Int×Int:=fun g c' => if c' =c∧y < g∧chn A.par A.wt d g0 0 0 g≠none then chg n (A.spots g c') (A.wt g) else A.spots g c'
theorem chn_some {par wt:Nat→Int}:∀ (d g:Nat) (m k m' k' :Int) (x:Nat),chn par wt d g m k x≠none↔chn par wt d g m' k' x≠none
 |0,g,m,k,m',k',x=> by rw [chn_zero,chn_zero];split <;> simp
 |d+1,g,m,k,m',k',x=> by rw [chn_succ,chn_succ];split <;> simp
theorem chn_self {par wt:Nat→Int} (d g:Nat) (m k:Int):chn par wt d g m k g≠none:=by cases d <;> simp [chn]
theorem chn_gap {par wt:Nat→Int} {G:Nat} (hpar:∀ g,0 < g→g < G→0≤par g∧par g < g):∀ (d g:Nat) (m k:Int) (y x:Nat),g < G→Dep par g d→chn par wt d g m k y≠none→chn par wt d g m k x≠none→(par y).toNat < x→x < y→False
 |0,g,m,k,y,x,hg,hd,hy,hx,h1,h2=> by
  rw [chn_zero] at hy hx
  split at hy
  ·split at hx
   ·omega
   ·exact hx rfl
  ·exact hy rfl
 |d+1,g,m,k,y,x,hg,hd,hy,hx,h1,h2=> by
  obtain ⟨h0,h3,h4⟩:=hd.up'
  have hp:=hpar g h0 hg
  rw [chn_succ] at hy hx
  split at hx
  ·rename_i e;subst e
   split at hy
   ·omega
   ·have:=chn_le hpar d _ _ _ y (by omega) h4 hy;omega
  ·split at hy
   ·rename_i e;subst e
    have:=chn_le hpar d _ _ _ x (by omega) h4 hx;omega
   ·exact chn_gap hpar d _ _ _ y x (by omega) h4 hy hx h1 h2
theorem chn_up {par wt:Nat→Int} {G:Nat} (hpar:∀ g,0 < g→g < G→0≤par g∧par g < g) {d g:Nat} {m k:Int} {y:Nat} (hg:g < G) (hd:Dep par g d) (h0:0 < y) (hy:chn par wt d g m k y≠none):chn par wt d g m k (par y).toNat≠none:=by
 cases h:chn par wt d g m k y with
 |none=> exact absurd h hy
 |some p=>
  rw [chn_par hpar d g m k y p.1 p.2 hg hd h0 h];simp
theorem tkS_top (A:ASt) (n:Int) (d g0 c:Nat) (T:Tree A.G A.par A.wt) (hg:g0 < A.G) (hd:Dep A.par g0 d) (g c' :Nat):tkS A n d g0 c g0 g c' =A.spots g c' :=by
 unfold tkS
 rw [if_neg]
 rintro ⟨_,h1,h2⟩
 have:=chn_le T.parOk d g0 0 0 g hg hd h2
 omega
theorem tkS_step (A:ASt) (n:Int) (d g0 c y:Nat) (T:Tree A.G A.par A.wt) (hg:g0 < A.G) (hd:Dep A.par g0 d) (h0:0 < y) (hy:y < A.G) (hon:chn A.par A.wt d g0 0 0 y≠none) (g c' :Nat):
  tkS A n d g0 c (A.par y).toNat g c' =if g=y∧c' =c then chg n (A.spots y c) (A.wt y) else tkS A n d g0 c y g c' :=by
 have hp:=T.parOk y h0 hy
 unfold tkS
 by_cases hc:c' =c
 ·subst hc
  by_cases hgy:g=y
  ·subst hgy
   rw [if_pos ⟨rfl,by omega,hon⟩,if_pos ⟨rfl,rfl⟩]
  ·rw [if_neg (show ¬(g=y∧c' =c') from fun h=> hgy h.1)]
   by_cases hch:chn A.par A.wt d g0 0 0 g≠none
   ·by_cases hlt:y < g
    ·rw [if_pos ⟨rfl,by omega,hch⟩,if_pos ⟨rfl,hlt,hch⟩]
    ·have:¬(A.par y).toNat < g:=fun h=> chn_gap T.parOk d g0 0 0 y g hg hd hon hch h (by omega)
     rw [if_neg (fun h=> this h.2.1),if_neg (fun h=> hlt h.2.1)]
   ·rw [if_neg (fun h=> hch h.2.2),if_neg (fun h=> hch h.2.2)]
 ·rw [if_neg (fun h=> hc h.1),if_neg (fun h=> hc h.2),if_neg (fun h=> hc h.1)]
theorem tkS_on (A:ASt) (n:Int) (d g0 c y:Nat):tkS A n d g0 c y y c=A.spots y c:=by
 unfold tkS
 rw [if_neg]
 rintro ⟨_,h,_⟩
 omega
end Go.Q
namespace Go.Q
open Go.RowKit Go.Proofs
set_option maxRecDepth 100000 in
theorem m_cpu (m C:Nat) (cpu:Int) (h0:0≤cpu) (h1:cpu < C) (w:World) (c:w.cell? ⟨m,0,none⟩=some (.int .i64 C)):Calls Tryz.prog 140 #[ptr m, .int .i64 cpu] w fun e w' => e= .returned (.bool true)∧w=w' :=by
 go_enter Tryz.func140,Tryz.ntmps140
 go_wp2
 go_ret
 exact ⟨by simp,rfl⟩
set_option maxRecDepth 100000 in
theorem m_task (n:Int) (h1:1≤n) (h2:n≤65535) (w:World):Calls Tryz.prog 141 #[.int .i64 n] w fun e w' => e= .returned (.bool true)∧w=w' :=by
 go_enter Tryz.func141,Tryz.ntmps141
 go_wp2
 go_ret
 exact ⟨by simp,rfl⟩
set_option maxRecDepth 100000 in
theorem m_weighs (n:Int) (h1:1≤n) (h2:n≤65536) (w:World):Calls Tryz.prog 142 #[.int .i64 n] w fun e w' => e= .returned (.bool true)∧w=w' :=by
 go_enter Tryz.func142,Tryz.ntmps142
 go_wp2
 go_ret
 exact ⟨by simp,rfl⟩
set_option maxRecDepth 100000 in
theorem m_wide (m:Int) (h0:0≤m) (h1:m < 18446744073709551616) (w:World):Calls Tryz.prog 143 #[.int .u64 m, .int .i64 64] w fun e w' => e= .returned (.bool false)∧w=w' :=by
 have k5:(m.fdiv (2 ^ min (IntKind.i64.wrap 63).toNat 64) / 2 !=0)=false:=by
  rw [show (2:Int) ^ min (IntKind.i64.wrap 63).toNat 64=9223372036854775808 from by decide,Int.fdiv_eq_ediv_of_nonneg _ (by decide)]
  simp
  omega
 go_enter Tryz.func143,Tryz.ntmps143
 go_wp2
 go_ret
 exact ⟨by simp;omega,rfl⟩
set_option maxRecDepth 100000 in
theorem m_entity (v r k:Int) (h1:1≤k) (h2:k≤65536) (w:World):Calls Tryz.prog 153 #[.int .u64 v, .int .u32 r, .int .i64 k] w fun e w' => e= .returned (ent v r k)∧Below w.heap.size w w' :=by
 go_enter Tryz.func153,Tryz.ntmps153
 go_wp2
 exact bodyPost_ret (v:=ent v r k) (by simp [results,Tryz.results153,go_sem]) rfl ⟨rfl,belowX⟩
set_option maxRecDepth 100000 in
theorem m_put (tb:Nat) (id g wt cpu m v r v' r' k' :Int) (rd:Bool) (h1:1≤k') (h2:k' ≤65536) (w:World) (R:Row w tb 8 (fl [.int .i64 id, .int .i64 g, .int .i64 wt, .int .i64 cpu, .int .u64 m, .bool rd, .int .u64 v, .int .u32 r])):
  Calls Tryz.prog 147 #[ptr tb,ent v' r' k'] w fun e w' => e= .returned (.tuple #[])∧Row w' tb 8 (fl [.int .i64 id, .int .i64 g, .int .i64 k', .int .i64 cpu, .int .u64 m, .bool rd, .int .u64 v', .int .u32 r'])∧Mod (One tb) w w' :=by
 have hwk:IntKind.i64.wrap k' =k' :=by rw [IntKind.wrap_i64];omega
 have lR:=R.lt
 have f2:=R.free 2
 have f6:=R.free 6
 have f7:=R.free 7
 have q2:=R.cL 2 _ (by omega) rfl
 have q6:=R.cL 6 _ (by omega) rfl
 have q7:=R.cL 7 _ (by omega) rfl
 go_enter Tryz.func147,Tryz.ntmps147
 go_upto_region 1 with fail
 refine wp_region_chain (fun w' => w'.cell? ⟨w.heap.size,0,none⟩=some (.int .u64 v')∧w'.cell? ⟨w.heap.size,1,none⟩=some (.int .u32 r')∧w'.cell? ⟨w.heap.size,2,none⟩=some (.int .u32 k')) [12,15,18] [13,14,16,17] [18] (rds [0,1,2,3,4,5,6,7,8,9,10,11] (.ef 12 (rds [13,14] (.ef 15 (rds [16,17] (.ef 18 .nil)))))) (by kernel_rfl) (by kernel_rfl) ⟨by go_simp,by go_simp,by go_simp⟩ ?_
 intro O hO
 have HO:=Lib.hid hO
 clear hO
 simp only [rds]
 (repeat (first|(refine lxp HO (v:=?_) (fun w'=> ?_) ?_;rotate_left;(focus (go_simp;(try exact rfl);done));try go_simp)|(refine lxr HO (v:=?_) (fun w' hC'=> ?_) ?_;rotate_left;(focus (obtain ⟨c1,c2,c3⟩:=hC';go_simp;(try exact rfl);done));try go_simp)|(refine lxo HO ?_;try go_simp)))
 (refine lxe HO (fun K hK=> ?_);go_simp;refine hK _ _ ?_ ?_;all_goals clear hK K)
 ·exact .inr ⟨by go_simp,by go_simp,by go_simp⟩
 (repeat (first|(refine lxp HO (v:=?_) (fun w'=> ?_) ?_;rotate_left;(focus (go_simp;(try exact rfl);done));try go_simp)|(refine lxr HO (v:=?_) (fun w' hC'=> ?_) ?_;rotate_left;(focus (obtain ⟨c1,c2,c3⟩:=hC';go_simp;(try exact rfl);done));try go_simp)|(refine lxo HO ?_;try go_simp)))
 (refine lxe HO (fun K hK=> ?_);go_simp;refine hK _ _ ?_ ?_;all_goals clear hK K)
 ·exact .inr ⟨by go_simp,by go_simp,by go_simp⟩
 (repeat (first|(refine lxp HO (v:=?_) (fun w'=> ?_) ?_;rotate_left;(focus (go_simp;(try exact rfl);done));try go_simp)|(refine lxr HO (v:=?_) (fun w' hC'=> ?_) ?_;rotate_left;(focus (obtain ⟨c1,c2,c3⟩:=hC';go_simp;(try exact rfl);done));try go_simp)|(refine lxo HO ?_;try go_simp)))
 (refine lxe HO (fun K hK=> ?_);go_simp;refine hK _ _ (.inl (by rfl)) ?_;clear hK K)
 refine wpL_nil ?_
 go_wp2
 go_end0
 refine ⟨rfl, ?_, ?_⟩
 ·exact ((((R.set (i:=6) (by omega) _).set (i:=7) (by omega) _).set (i:=2) (by omega) _).congr (by apply le8 <;> rfl)).alloc _
 ·exact ((((Mod.refl (One tb) w).setCell (p:=⟨tb,6,none⟩) (.inr rfl) _).setCell (p:=⟨tb,7,none⟩) (.inr rfl) _).setCell (p:=⟨tb,2,none⟩) (.inr rfl) _).alloc _|>.drew
/-! ### find -/
set_option maxRecDepth 100000 in
theorem find1_ok (t:TK) (id:Int) (w:World):Calls Tryz.prog 209 #[tkv t, .int .i64 id] w fun e w' => e= .returned (.int .i64 (cmpI t.id id))∧Below w.heap.size w w' :=by
 go_enter Tryz.func209,Tryz.ntmps209
 go_wp2_with fail
 refine (comparei_any t.id id _).mono ?_;rintro e w1 ⟨rfl,rfl⟩
 go_wp2
 go_ret
 exact ⟨rfl,belowX⟩
set_option maxRecDepth 100000 in
theorem bsearch0 (a:Option Addr) (c:Nat) (id:Int) (w:World):Calls Tryz.prog 208 #[.slice a 0 c, .int .i64 id, .func (.func 209) #[] #[]] w fun e w' => e= .returned (.tuple #[.int .i64 0, .bool false])∧w=w' :=by
 go_enter Tryz.func208,Tryz.ntmps208
 go_wp2
 go_loopw [9,10] (fun s9 s10 wr=> s9= .int .i64 0∧s10= .int .i64 0∧wr=w) (fun _ _ _=> 0)
 case atStart=> exact ⟨rfl,rfl,rfl⟩
 case round=>
  obtain ⟨rfl,rfl,rfl⟩:=hrel
  go_wp2
  go_ret2
  exact ⟨rfl,rfl⟩
set_option maxRecDepth 100000 in
theorem bsearch1 (b c:Nat) (t:TK) (id:Int) (hid:id≤t.id) (w:World) (R:Row w b 8 (fl (tkc t))):Calls Tryz.prog 208 #[slc b 1 c, .int .i64 id, .func (.func 209) #[] #[]] w fun e w' => e= .returned (.tuple #[.int .i64 0, .bool (t.id==id)])∧Below w.heap.size w w' :=by
 have e0:0≤cmpI t.id id:=by unfold cmpI;split;omega;split <;> omega
 have e1:decide (cmpI t.id id < 0)=false:=by simp;omega
 have e2:(cmpI t.id id==0)=(t.id==id):=by
  unfold cmpI
  rw [if_neg (by omega)]
  split
  ·rename_i h;rw [show (t.id==id)=false from by simp;omega];rfl
  ·rename_i h;rw [show (t.id==id)=true from by simp;omega];rfl
 have he2:=Lib.hid e2
 clear e2 hid
 go_enter Tryz.func208,Tryz.ntmps208
 go_wp2
 go_loopw [9,10] (fun s9 s10 wr=> ∃ j:Int,s9= .int .i64 0∧s10= .int .i64 j∧(j=0∨j=1)∧Mod No w wr) (fun _ s10 _=> (RowKit.intOf s10).toNat)
 case atStart=> exact ⟨1,rfl,rfl, .inr rfl,Mod.refl _ _⟩
 case round=>
  obtain ⟨wk,rfl⟩:∃ W,W=wr:=⟨wr,rfl⟩
  obtain ⟨j,rfl,rfl,hj,hm⟩:=hrel
  have R1:=R.mod hm (fun h=> h)
  have lR:=R1.lt
  have q0:wk.cell? ⟨b,0,none⟩=some (.int .i64 t.id):=R1.cL 0 _ (by omega) rfl
  have q1:wk.cell? ⟨b,1,none⟩=some (.int .i64 t.group):=R1.cL 1 _ (by omega) rfl
  have q2:wk.cell? ⟨b,2,none⟩=some (.int .i64 t.weight):=R1.cL 2 _ (by omega) rfl
  have q3:wk.cell? ⟨b,3,none⟩=some (.int .i64 t.cpu):=R1.cL 3 _ (by omega) rfl
  have q4:wk.cell? ⟨b,4,none⟩=some (.int .u64 t.mask):=R1.cL 4 _ (by omega) rfl
  have q5:wk.cell? ⟨b,5,none⟩=some (.bool t.ready):=R1.cL 5 _ (by omega) rfl
  have q6:wk.cell? ⟨b,6,none⟩=some (.int .u64 t.v):=R1.cL 6 _ (by omega) rfl
  have q7:wk.cell? ⟨b,7,none⟩=some (.int .u32 t.r):=R1.cL 7 _ (by omega) rfl
  rcases hj with rfl|rfl
  ·go_wp2_with fail
   refine (find1_ok t id _).mono ?_;rintro e w1 ⟨rfl,hb⟩
   go_wp2
   go_ret2
   exact ⟨by rw [←he2.out];rfl,Mod.below (by (repeat first|(with_reducible exact (Mod.trans hm (Mod.of_below hb No) (fun _ _ h=> h)))|(with_reducible refine Mod.alloc ?_ _)|(with_reducible refine Mod.drew ?_)|(with_reducible refine Mod.drewN ?_ _)|(with_reducible refine Mod.sc ?_)))⟩
  ·go_wp2_with fail
   refine (find1_ok t id _).mono ?_;rintro e w1 ⟨rfl,hb⟩
   go_wp2
   refine ⟨⟨0,rfl,rfl, .inl rfl,Mod.trans hm (Mod.of_below hb No) (fun _ _ h=> h)⟩,by simp [RowKit.intOf]⟩
set_option maxRecDepth 100000 in
theorem m_find0 (m:Nat) (a:Option Addr) (n:Nat) (id:Int) (w:World) (c5:w.cell? ⟨m,5,none⟩=some (.slice a 0 n)):Calls Tryz.prog 144 #[ptr m, .int .i64 id] w fun e w' => e= .returned (.int .i64 (-1))∧w=w' :=by
 go_enter Tryz.func144,Tryz.ntmps144
 go_wp2_with fail
 refine (bsearch0 a n id _).mono ?_;rintro e w1 ⟨rfl,rfl⟩
 go_wp2
 go_ret
 exact ⟨rfl,rfl⟩
set_option maxRecDepth 100000 in
theorem m_find1 (m b n:Nat) (t:TK) (id:Int) (hid:id=t.id) (w:World) (R:Row w b 8 (fl (tkc t))) (c5:w.cell? ⟨m,5,none⟩=some (slc b 1 n)):Calls Tryz.prog 144 #[ptr m, .int .i64 id] w fun e w' => e= .returned (.int .i64 0)∧Below w.heap.size w w' :=by
 have e1:(t.id==id)=true:=by simp [hid]
 have h1:id≤t.id:=by omega
 clear hid
 go_enter Tryz.func144,Tryz.ntmps144
 go_wp2_with fail
 refine (bsearch1 b n t id h1 _ R).mono ?_;rintro e w1 ⟨rfl,hb⟩
 go_wp2
 go_ret
 exact ⟨rfl,hb⟩
set_option maxRecDepth 100000 in
theorem m_find2 (m b n:Nat) (t:TK) (id:Int) (hid:id < t.id) (w:World) (R:Row w b 8 (fl (tkc t))) (c5:w.cell? ⟨m,5,none⟩=some (slc b 1 n)):Calls Tryz.prog 144 #[ptr m, .int .i64 id] w fun e w' => e= .returned (.int .i64 (-1))∧Below w.heap.size w w' :=by
 have e1:(t.id==id)=false:=by simp;omega
 have h1:id≤t.id:=by omega
 clear hid
 go_enter Tryz.func144,Tryz.ntmps144
 go_wp2_with fail
 refine (bsearch1 b n t id h1 _ R).mono ?_;rintro e w1 ⟨rfl,hb⟩
 go_wp2
 go_ret
 exact ⟨rfl,hb⟩
end Go.Q
