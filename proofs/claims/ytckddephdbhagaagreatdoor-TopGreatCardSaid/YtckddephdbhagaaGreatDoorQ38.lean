/- A part of the proof that TopGreat answers true: what some of the functions on its road compute. -/
import Derived.Test.YtckddephdbhagaaGreatDoorQ22
import Derived.Test.YtckddephdbhagaaGreatDoorQ24
import Derived.Test.YtckddephdbhagaaGreatDoorQ27
import Derived.Test.YtckddephdbhagaaGreatDoorQ29
import Derived.Test.YtckddephdbhagaaGreatDoorQ30
import Derived.Test.YtckddephdbhagaaGreatDoorQ33
import Derived.Test.YtckddephdbhagaaGreatDoorQ34
import Derived.Test.YtckddephdbhagaaGreatDoorQ37
set_option linter.unusedVariables false
set_option linter.unusedSimpArgs false
set_option linter.unnecessarySimpa false
namespace Go.Q
open Go.RowKit Go.Proofs
def opF (g0 c0:Nat) (k n mask:Int):Nat→Value:=fun i=> fl [.int .u8 (oK (i / 8)), .int .i64 c0, .int .i64 (oT (i / 8)), .int .i64 (oG g0 (i / 8)), .int .i64 (oW k (i / 8)), .int .i64 0, .int .i64 (oN n (i / 8)), .int .u64 (oM mask (i / 8))] (i % 8)
theorem opF_at (g0 c0:Nat) (k n mask:Int) (i j:Nat) (hj:j < 8):opF g0 c0 k n mask (i * 8+j)=fl [.int .u8 (oK i), .int .i64 c0, .int .i64 (oT i), .int .i64 (oG g0 i), .int .i64 (oW k i), .int .i64 0, .int .i64 (oN n i), .int .u64 (oM mask i)] j:=by
 unfold opF
 rw [show (i * 8+j) / 8=i from by omega,show (i * 8+j) % 8=j from by omega]
theorem opF_lit (g0 c0:Nat) (k n mask:Int):∀ i,i < 24→fl [.int .u8 1, .int .i64 c0, .int .i64 5, .int .i64 g0, .int .i64 k, .int .i64 0, .int .i64 0, .int .u64 mask, .int .u8 6, .int .i64 c0, .int .i64 0, .int .i64 0, .int .i64 0, .int .i64 0, .int .i64 0, .int .u64 0, .int .u8 5, .int .i64 c0, .int .i64 0, .int .i64 0, .int .i64 0, .int .i64 0, .int .i64 n, .int .u64 0] i=opF g0 c0 k n mask i:=by
 intro i hi
 rcases (by omega:i=0∨i=1∨i=2∨i=3∨i=4∨i=5∨i=6∨i=7∨i=8∨i=9∨i=10∨i=11∨i=12∨i=13∨i=14∨i=15∨i=16∨i=17∨i=18∨i=19∨i=20∨i=21∨i=22∨i=23) with rfl|rfl|rfl|rfl|rfl|rfl|rfl|rfl|rfl|rfl|rfl|rfl|rfl|rfl|rfl|rfl|rfl|rfl|rfl|rfl|rfl|rfl|rfl|rfl <;> rfl
abbrev wrw (B:STB) (v:Value):List Value:= [.int .i64 64, .int .u64 0,slc B.gb 256 B.gcap,slc B.cl 64 B.ccap,slc B.cu 64 B.ucap,v,slc B.so 256 B.scap]
theorem PA_stv (par wt:Nat→Int) (d g0 c0:Nat) (k n mask:Int) (i:Nat) (B:STB) {o:Option Addr} {n' c:Nat} (hv:B.tv= .slice o n' c):stv B (PA par wt d g0 c0 k n mask i)= .agg #[.int .i64 64, .int .u64 0,slc B.gb 256 B.gcap,slc B.cl 64 B.ccap,slc B.cu 64 B.ucap, .slice o n' c,slc B.so 256 B.scap]:=by
 obtain ⟨h1,h2,h3⟩:=PA_shape par wt d g0 c0 k n mask i
 rw [stv,h1,h2,h3,hv]
 rfl
def Lp (w:World) (par wt:Nat→Int) (d g0 c0:Nat) (k n mask:Int) (xs m dd wb sl:Nat) (i:Nat) (W:World):Prop:=
 ∃ BR owR BS owS ss BM owM xd BD owD sd D E,TI w.heap.size W c0 (PA par wt d g0 c0 k n mask i) (PS par wt d g0 c0 k n mask i) (PA par wt d g0 c0 k n mask i) (PS par wt d g0 c0 k n mask i) ((1+i:Nat):Int) i BR owR xs BS owS ss m BM owM xd BD owD sd D E∧
  D.d=dd∧E wb∧E sl∧Row W wb 7 (fl (wrw BR BR.tv))∧Row W sl 24 (opF g0 c0 k n mask)∧Mod No w W
abbrev TA (deep:Bool) (d g0 c0 wn:Nat) (mask:Int):ASt:=AT4 (parW deep) wtW d g0 c0 (1+(wn:Int)) (1000+(wn:Int)) mask
abbrev TT (g0 c0 wn:Nat) (mask:Int):TK:=tk3 g0 c0 (1+(wn:Int)) (1000+(wn:Int)) mask
abbrev srw (B:STB) (v:Value):List Value:= [.int .i64 4, .int .i64 64, .int .u64 0,slc B.gb 256 B.gcap,slc B.cl 64 B.ccap,slc B.cu 64 B.ucap,v,slc B.so 256 B.scap]
theorem TA_stv (deep:Bool) (d g0 c0 wn:Nat) (mask:Int) (B:STB) {o:Option Addr} {n' c:Nat} (hv:B.tv= .slice o n' c):stv B (TA deep d g0 c0 wn mask)= .agg #[.int .i64 64, .int .u64 0,slc B.gb 256 B.gcap,slc B.cl 64 B.ccap,slc B.cu 64 B.ucap, .slice o n' c,slc B.so 256 B.scap]:=by rw [stv,hv];rfl
theorem TA_snv (deep:Bool) (d g0 c0 wn:Nat) (mask:Int) (B:STB) {o:Option Addr} {n' c:Nat} (hv:B.tv= .slice o n' c):snv 4 B (TA deep d g0 c0 wn mask)= .agg #[.int .i64 4, .int .i64 64, .int .u64 0,slc B.gb 256 B.gcap,slc B.cl 64 B.ccap,slc B.cu 64 B.ucap, .slice o n' c,slc B.so 256 B.scap]:=by rw [snv,hv];rfl
set_option maxRecDepth 100000 in
set_option maxHeartbeats 4000000 in
theorem top_ok (H:Nat→Nat) (hH:∀ i,i < 16→H i < 4294967296) (cpu g0 wn:Nat) (deep:Bool) (h1:cpu < 256) (h2:g0 < 256) (h3:wn < 256) (w:World) (RH:Row w 1 16 (fun i=> .int .u32 (H i:Nat))):
  Calls Tryz.prog 4 #[.int .u8 cpu, .int .u8 g0, .int .u8 wn, .bool deep] w fun e w' => e= .returned (.bool true)∧Mod No w w' :=by
 obtain ⟨c0,hc0⟩:∃ c,c=cpu % 64:=⟨_,rfl⟩
 have hc:c0 < 64:=by omega
 obtain ⟨d,N⟩:=numsW deep g0 c0 wn h2 hc h3
 obtain ⟨mask,hmask⟩:∃ x:Int,x=((2 ^ c0:Nat):Int):=⟨_,rfl⟩
 rw [←hmask] at N
 have v7:IntKind.u64.wrap (2 ^ c0)=mask:=by
  have h1:=N.m1
  have h2:=N.m2
  rw [show (2:Int) ^ c0=mask from by rw [hmask];simp,IntKind.wrap_u64];omega
 clear hmask
 have T:=treeW deep
 have HN:=Lib.hid (And.intro N (And.intro T (And.intro hH RH)))
 clear N T hH RH
 go_enter Tryz.func4,Tryz.ntmps4
 go_upto_region 1 with fail
 refine wp_world (fun V=> Mod No w V∧Row V w.heap.size 1 (fl [.bool deep])) ⟨(Mod.refl No w).alloc _,row_newL w [_] _⟩ ?_
 intro V0 ⟨m0,D0⟩
 obtain ⟨b,hb⟩:∃ n,n=w.heap.size:=⟨_,rfl⟩
 rw [←hb] at D0 ⊢
 have lb:=D0.lt
 have LB:=Lib.hid hb
 clear hb
 go_wp2_with fail
 refine (made_ok b deep _ D0).mono ?_;rintro e w1 ⟨gb1,cap1,rfl,n1,lo1,R1⟩
 go_wp2_with fail
 refine (r_New 64 0 gb1 256 cap1 (parW deep) wtW (by omega) (by omega) (by omega) (by omega) _ R1).mono ?_;rintro e w2 ⟨BR,owR,rfl,n2,S2,o2⟩
 obtain ⟨ta,tc,hv2⟩:=S2.t0 rfl
 have e2:stv BR (AZ 64 256 0 (parW deep) wtW)= .agg #[.int .i64 64, .int .u64 0,slc BR.gb 256 BR.gcap,slc BR.cl 64 BR.ccap,slc BR.cu 64 BR.ucap, .slice ta 0 tc,slc BR.so 256 BR.scap]:=by rw [←hv2];rfl
 rw [e2]
 have HV2:=Lib.hid hv2
 clear e2 hv2
 go_upto_region 3 with fail
 refine wp_world (fun V=> Mod No w2 V∧Row V w2.heap.size 7 (fl [.int .i64 64, .int .u64 0,slc BR.gb 256 BR.gcap,slc BR.cl 64 BR.ccap,slc BR.cu 64 BR.ucap, .slice ta 0 tc,slc BR.so 256 BR.scap])) ⟨(Mod.refl No w2).alloc _,row_newL w2 [_,_,_,_,_,_,_] _⟩ ?_
 intro V3 ⟨n3,W3⟩
 obtain ⟨wb,hwb⟩:∃ n,n=w2.heap.size:=⟨_,rfl⟩
 rw [←hwb] at W3 ⊢
 have lW3:=W3.lt
 have HWB:=Lib.hid hwb
 clear hwb
 have m3:Mod No V0 V3:=Mod.trans (Mod.trans n1 n2 (fun _ _ h=> h)) n3 (fun _ _ h=> h)
 go_wp2_with fail
 refine (made_ok b deep _ (D0.mod m3 (fun h=> h))).mono ?_;rintro e w4 ⟨gb2,cap2,rfl,n4,lo4,R4⟩
 go_wp2_with fail
 refine (schedNew 64 0 gb2 256 cap2 (parW deep) wtW (by omega) (by omega) (by omega) (by omega) HN.out.2.1 _ R4).mono ?_;rintro e w5 ⟨xs,BS,owS,rfl,n5,S5,o5⟩
 have m5:Mod No V3 w5:=Mod.trans n4 n5 (fun _ _ h=> h)
 go_wp2_with fail
 refine (made_ok b deep _ ((D0.mod m3 (fun h=> h)).mod m5 (fun h=> h))).mono ?_;rintro e w6 ⟨gb3,cap3,rfl,n6,lo6,R6⟩
 go_wp2_with fail
 refine (m_New 64 0 gb3 256 cap3 (parW deep) wtW (by omega) (by omega) (by omega) (by omega) HN.out.2.1 _ R6).mono ?_;rintro e w7 ⟨m,BM,owM,rfl,n7,M7,o7,l7,hv7⟩
 have m7:Mod No V3 w7:=Mod.trans (Mod.trans m5 n6 (fun _ _ h=> h)) n7 (fun _ _ h=> h)
 go_wp2_with fail
 refine (made_ok b deep _ ((D0.mod m3 (fun h=> h)).mod m7 (fun h=> h))).mono ?_;rintro e w8 ⟨gb4,cap4,rfl,n8,lo8,R8⟩
 go_wp2_with fail
 refine (drv_New 64 rfl 0 gb4 256 cap4 c0 hc (parW deep) wtW (by omega) (by omega) HN.out.2.1 _ R8).mono ?_;rintro e w9 ⟨xd,BD,owD,D,rfl,n9,S9,o9,D9,d9⟩
 have m9:Mod No V3 w9:=Mod.trans (Mod.trans m7 n8 (fun _ _ h=> h)) n9 (fun _ _ h=> h)
 have v1:IntKind.i64.wrap (cpu:Int)=cpu:=by rw [IntKind.wrap_i64];omega
 have v2:IntKind.i64.wrap (g0:Int)=g0:=by rw [IntKind.wrap_i64];omega
 have v3:IntKind.i64.wrap (wn:Int)=wn:=by rw [IntKind.wrap_i64];omega
 have v4:IntKind.i64.wrap (1+(wn:Int))=1+(wn:Int):=by rw [IntKind.wrap_i64];omega
 have v5:IntKind.i64.wrap (1000+(wn:Int))=1000+(wn:Int):=by rw [IntKind.wrap_i64];omega
 have v6:(cpu:Int).tmod 64=c0:=by rw [Int.tmod_eq_emod_of_nonneg (by omega),hc0];rfl
 have HC:=Lib.hid hc0
 clear hc0
 go_upto_block 0 with fail
 refine wp_world (fun V=> Mod No w9 V∧w9.heap.size < V.heap.size∧Row V w9.heap.size 24 (opF g0 c0 (1+(wn:Int)) (1000+(wn:Int)) mask)) ⟨(Mod.refl No w9).alloc _,by simp,(row_newL w9 [_,_,_,_,_,_,_,_,_,_,_,_,_,_,_,_,_,_,_,_,_,_,_,_] _).congr (opF_lit _ _ _ _ _)⟩ ?_
 intro V9 ⟨n10,z10,L9⟩
 have TI0:Lp w (parW deep) wtW d g0 c0 (1+(wn:Int)) (1000+(wn:Int)) mask xs m D.d wb w9.heap.size 0 V9:=by
  have hwb:=HWB.out
  have hwW:=LB.out
  have za:=m0.size
  have zb:=n1.size
  have zc:=n2.size
  have zd:=W3.lt
  have ze:=n4.size
  have zf:=n5.size
  have zg:=n6.size
  have zh:=n7.size
  have zi:=n8.size
  have zj:=n9.size
  have lm:=M7.row.lt
  have m10:Mod No V3 V9:=Mod.trans m9 n10 (fun _ _ h=> h)
  have k4:Mod No w5 V9:=Mod.trans (Mod.trans n6 n7 (fun _ _ h=> h)) (Mod.trans (Mod.trans n8 n9 (fun _ _ h=> h)) n10 (fun _ _ h=> h)) (fun _ _ h=> h)
  have k5:Mod No w7 V9:=Mod.trans (Mod.trans n8 n9 (fun _ _ h=> h)) n10 (fun _ _ h=> h)
  refine ⟨BR,owR,BS,owS,_,BM,owM,xd,BD,owD,_,D,fun b=> b=wb∨b=w9.heap.size,⟨?_,(S2.no n3).no m10,S5.no k4,rfl,M7.no k5,fun _=> hv7,S9.no n10,rfl,D9.mod n10 (fun _ _ h=> h) D9.own⟩,rfl, .inl rfl, .inr rfl, ?_,L9, ?_⟩
  ·refine Own4.mk5 w1.heap.size wb w4.heap.size w5.heap.size w6.heap.size w7.heap.size w8.heap.size w9.heap.size (by omega) (by omega) (by omega) (by omega) (by omega) (by omega) (by omega) (by omega) z10 (fun b h=> ?_) (fun b h=> ?_) (fun b h=> ?_) (fun b h=> ?_) (fun b h=> h) (fun i b h=> h)
   ·have:=o2 b h;have:=S2.2 b h;omega
   ·exact ⟨o5 b h,S5.2 b h⟩
   ·rcases h with h|h
    ·exact ⟨o7 b h,M7.st.2 b h⟩
    ·subst h;exact ⟨l7,lm⟩
   ·rcases h with h|h
    ·exact ⟨o9 b h,S9.2 b h⟩
    ·exact ⟨d9 b h,D9.lt b h⟩
  ·rw [HV2.out]
   exact W3.mod m10 (fun h=> h)
  ·exact Mod.trans (Mod.trans m0 m3 (fun _ _ h=> h)) m10 (fun _ _ h=> h)
 obtain ⟨dd,hdd⟩:∃ n,n=D.d:=⟨_,rfl⟩
 rw [←hdd] at TI0 ⊢
 obtain ⟨sl,hsl⟩:∃ n,n=w9.heap.size:=⟨_,rfl⟩
 rw [←hsl] at TI0 ⊢
 have hws:wb < sl:=by have:=m9.size;omega
 have HT:=Lib.hid TI0
 clear TI0 hdd hsl n10 z10 L9 n1 lo1 R1 n2 S2 o2 HV2 n3 W3 lW3 HWB m3 n4 lo4 R4 n5 S5 o5 m5 n6 lo6 R6 n7 M7 o7 l7 hv7 m7 n8 lo8 R8 n9 S9 o9 D9 d9 m9 LB lb D0 m0 v2 v3 v4 v5 v6 v7
 go_wp2
 go_loopw [106] (fun s106 wr=> ∃ i:Nat,s106= .int .i64 i∧i≤3∧Lp w (parW deep) wtW d g0 c0 (1+(wn:Int)) (1000+(wn:Int)) mask xs m dd wb sl i wr) (fun s106 _=> 3 - (RowKit.intOf s106).toNat)
 case atStart=> exact ⟨0,rfl,by omega,HT.out⟩
 case round=>
  obtain ⟨wk,rfl⟩:∃ W,W=wr:=⟨wr,rfl⟩
  obtain ⟨i,rfl,hi,hL⟩:=hrel
  clear HT
  by_cases hi3:i < 3
  ·have j0:(0:Int)≤i:=by omega
   have j1:(i:Int) < 3:=by omega
   obtain ⟨BR1,owR1,BS1,owS1,ss1,BM1,owM1,xd1,BD1,owD1,sd1,D1,E1,T1,hdd1,Ewb,Esl,WB,SL,mW⟩:=hL
   obtain ⟨o1,n1,c1,hv1⟩:=T1.R.tvo
   rw [hv1] at WB
   have lW:=WB.lt
   have lS:=SL.lt
   have q0:wk.cell? ⟨sl,i * 8,none⟩=some (.int .u8 (oK i)):=by rw [SL.cell (by omega)];exact congrArg some (opF_at _ _ _ _ _ i 0 (by omega))
   have q1:wk.cell? ⟨sl,i * 8+1,none⟩=some (.int .i64 c0):=by rw [SL.cell (by omega)];exact congrArg some (opF_at _ _ _ _ _ i 1 (by omega))
   have q2:wk.cell? ⟨sl,i * 8+2,none⟩=some (.int .i64 (oT i)):=by rw [SL.cell (by omega)];exact congrArg some (opF_at _ _ _ _ _ i 2 (by omega))
   have q3:wk.cell? ⟨sl,i * 8+3,none⟩=some (.int .i64 (oG g0 i)):=by rw [SL.cell (by omega)];exact congrArg some (opF_at _ _ _ _ _ i 3 (by omega))
   have q4:wk.cell? ⟨sl,i * 8+4,none⟩=some (.int .i64 (oW (1+(wn:Int)) i)):=by rw [SL.cell (by omega)];exact congrArg some (opF_at _ _ _ _ _ i 4 (by omega))
   have q5:wk.cell? ⟨sl,i * 8+5,none⟩=some (.int .i64 0):=by rw [SL.cell (by omega)];exact congrArg some (opF_at _ _ _ _ _ i 5 (by omega))
   have q6:wk.cell? ⟨sl,i * 8+6,none⟩=some (.int .i64 (oN (1000+(wn:Int)) i)):=by rw [SL.cell (by omega)];exact congrArg some (opF_at _ _ _ _ _ i 6 (by omega))
   have q7:wk.cell? ⟨sl,i * 8+7,none⟩=some (.int .u64 (oM mask i)):=by rw [SL.cell (by omega)];exact congrArg some (opF_at _ _ _ _ _ i 7 (by omega))
   go_upto_region 12 with fail
   refine wp_world (fun V=> Mod No wk V∧wk.heap.size < V.heap.size∧Row V wk.heap.size 8 (fl [.int .u8 (oK i), .int .i64 c0, .int .i64 (oT i), .int .i64 (oG g0 i), .int .i64 (oW (1+(wn:Int)) i), .int .i64 0, .int .i64 (oN (1000+(wn:Int)) i), .int .u64 (oM mask i)])) ⟨(Mod.refl No wk).alloc _,by simp,row_newL wk [_,_,_,_,_,_,_,_] _⟩ ?_
   intro VO ⟨nO,zO,OP⟩
   obtain ⟨ob,hob⟩:∃ n,n=wk.heap.size:=⟨_,rfl⟩
   rw [←hob] at OP ⊢
   have lob:wk.heap.size≤ob:=by omega
   clear hob q0 q1 q2 q3 q4 q5 q6 q7 lS
   have WBo:=WB.mod nO (fun h=> h)
   have TO:=T1.no nO
   have e1:=PA_stv (parW deep) wtW d g0 c0 (1+(wn:Int)) (1000+(wn:Int)) mask i BR1 hv1
   have HTO:=Lib.hid (And.intro TO (And.intro hv1 (And.intro e1 (And.intro WB (And.intro SL (And.intro mW (And.intro nO T1)))))))
   clear TO hv1 e1 WB SL mW nO T1
   have lW:=WBo.lt
   have a0:=WBo.cL 0 _ (by omega) rfl
   have a1:=WBo.cL 1 _ (by omega) rfl
   have a2:=WBo.cL 2 _ (by omega) rfl
   have a3:=WBo.cL 3 _ (by omega) rfl
   have a4:=WBo.cL 4 _ (by omega) rfl
   have a5:=WBo.cL 5 _ (by omega) rfl
   have a6:=WBo.cL 6 _ (by omega) rfl
   have lO:=OP.lt
   have p0:=OP.cL 0 _ (by omega) rfl
   have p1:=OP.cL 1 _ (by omega) rfl
   have p2:=OP.cL 2 _ (by omega) rfl
   have p3:=OP.cL 3 _ (by omega) rfl
   have p4:=OP.cL 4 _ (by omega) rfl
   have p5:=OP.cL 5 _ (by omega) rfl
   have p6:=OP.cL 6 _ (by omega) rfl
   have p7:=OP.cL 7 _ (by omega) rfl
   go_wp2_with fail
   refine (show Calls Tryz.prog 21 #[.agg #[.int .i64 64, .int .u64 0,slc BR1.gb 256 BR1.gcap,slc BR1.cl 64 BR1.ccap,slc BR1.cu 64 BR1.ucap, .slice o1 n1 c1,slc BR1.so 256 BR1.scap],opk g0 c0 (1+(wn:Int)) (1000+(wn:Int)) mask i] VO _ from by rw [←HTO.out.2.2.1];exact HN.out.1.ref i hi3 VO owR1 BR1 HTO.out.1.R).mono ?_;rintro e w2 ⟨B2,ow2,rfl,S2,n2,o2⟩
   obtain ⟨o3,n3,c3,hv2⟩:=S2.tvo
   rw [PA_stv (parW deep) wtW d g0 c0 (1+(wn:Int)) (1000+(wn:Int)) mask (i+1) B2 hv2]
   have T2:=HTO.out.1.ref n2 S2 o2
   have OP2:=OP.mod n2 (fun h=> h)
   have HT2:=Lib.hid (And.intro T2 (And.intro hv2 n2))
   clear a0 a1 a2 a3 a4 a5 a6 p0 p1 p2 p3 p4 p5 p6 p7 lO lW OP WBo T2 hv2 n2 S2 o2
   go_upto_region 13 with fail
   refine wp_world (fun V=> Mod No w2 V∧w2.heap.size < V.heap.size∧Row V w2.heap.size 7 (fl (wrw B2 (.slice o3 n3 c3)))) ⟨(Mod.refl No w2).alloc _,by simp,row_newL w2 [_,_,_,_,_,_,_] _⟩ ?_
   intro V3 ⟨n3',z3,NX⟩
   obtain ⟨nb,hnb⟩:∃ n,n=w2.heap.size:=⟨_,rfl⟩
   rw [←hnb] at NX ⊢
   have lnb:ob < nb:=by have:=OP2.lt;omega
   clear hnb
   have T3:=HT2.out.1.no n3'
   have OP3:=OP2.mod n3' (fun h=> h)
   have HT3:=Lib.hid (And.intro T3 n3')
   clear T3 n3' OP2
   have lO:=OP3.lt
   have p0:=OP3.cL 0 _ (by omega) rfl
   have p1:=OP3.cL 1 _ (by omega) rfl
   have p2:=OP3.cL 2 _ (by omega) rfl
   have p3:=OP3.cL 3 _ (by omega) rfl
   have p4:=OP3.cL 4 _ (by omega) rfl
   have p5:=OP3.cL 5 _ (by omega) rfl
   have p6:=OP3.cL 6 _ (by omega) rfl
   have p7:=OP3.cL 7 _ (by omega) rfl
   go_wp2_with fail
   refine (HN.out.1.sch i hi3 V3 owS1 xs BS1 ss1 HT3.out.1.SP HT3.out.1.S).mono ?_;rintro e w4 ⟨rfl,m4,ow4,B4,s4,ho4,S4,hC4,P4⟩
   have nS:∀ b,wk.heap.size≤b→¬owS1 b≠ .no:=fun b hb=> HTO.out.2.2.2.2.2.2.2.notO 1 b hb
   have T4:=HT3.out.1.sched m4 ho4 S4 P4
   have OP4:=OP3.mod m4 (nS ob lob)
   have NX4:=NX.mod m4 (nS nb (by omega))
   have HT4:=Lib.hid (And.intro T4 m4)
   clear T4 m4 ho4 S4 P4 OP3 NX nS p0 p1 p2 p3 p4 p5 p6 p7 lO hC4
   have lO:=OP4.lt
   have p0:=OP4.cL 0 _ (by omega) rfl
   have p1:=OP4.cL 1 _ (by omega) rfl
   have p2:=OP4.cL 2 _ (by omega) rfl
   have p3:=OP4.cL 3 _ (by omega) rfl
   have p4:=OP4.cL 4 _ (by omega) rfl
   have p5:=OP4.cL 5 _ (by omega) rfl
   have p6:=OP4.cL 6 _ (by omega) rfl
   have p7:=OP4.cL 7 _ (by omega) rfl
   go_wp2_with fail
   refine (HN.out.1.mod i hi3 w4 m owM1 BM1 HT4.out.1.M HT4.out.1.mt).mono ?_;rintro e w5 ⟨B5,ow5,rfl,M5,m5,ho5⟩
   have nM:∀ b,wk.heap.size≤b→¬(owM1 b≠ .no∨b=m):=fun b hb=> HTO.out.2.2.2.2.2.2.2.notO 2 b hb
   have T5:=HT4.out.1.model m5 ho5 M5 (fun e=> by
    match i,hi3,e with
    |0,_,e=> cases e
    |1,_,e=> cases e
    |2,_,e=> cases e)
   have OP5:=OP4.mod m5 (nM ob lob)
   have NX5:=NX4.mod m5 (nM nb (by omega))
   have HT5:=Lib.hid (And.intro T5 m5)
   clear T5 m5 ho5 M5 OP4 NX4 nM p0 p1 p2 p3 p4 p5 p6 p7 lO
   have lO:=OP5.lt
   have p0:=OP5.cL 0 _ (by omega) rfl
   have p1:=OP5.cL 1 _ (by omega) rfl
   have p2:=OP5.cL 2 _ (by omega) rfl
   have p3:=OP5.cL 3 _ (by omega) rfl
   have p4:=OP5.cL 4 _ (by omega) rfl
   have p5:=OP5.cL 5 _ (by omega) rfl
   have p6:=OP5.cL 6 _ (by omega) rfl
   have p7:=OP5.cL 7 _ (by omega) rfl
   go_wp2_with fail
   refine (show Calls Tryz.prog 24 #[ptr dd,opk g0 c0 (1+(wn:Int)) (1000+(wn:Int)) mask i] w5 _ from by rw [←hdd1];exact HN.out.1.drv i hi3 w5 owD1 xd1 BD1 sd1 D1 HT5.out.1.XP HT5.out.1.X HT5.out.1.D).mono ?_;rintro e w6 ⟨tm,ow6,B6,D6,s6,rfl,S6,P6,D6',hd6,m6,ho6,hn6⟩
   have nD:∀ b,wk.heap.size≤b→¬(owD1 b≠ .no∨DOwn D1 b):=fun b hb=> HTO.out.2.2.2.2.2.2.2.notO 3 b hb
   have T6:=HT5.out.1.drv S6 P6 D6' m6 ho6 hn6
   have OP6:=OP5.mod m6 (nD ob lob)
   have NX6:=NX5.mod m6 (nD nb (by omega))
   have HT6:=Lib.hid (And.intro T6 (And.intro m6 hd6))
   clear T6 m6 ho6 hn6 S6 P6 D6' OP5 NX5 nD p0 p1 p2 p3 p4 p5 p6 p7 lO hd6
   go_upto_region 16 with fail
   refine wp_world (fun V=> Mod No w6 V∧Row V w6.heap.size 11 (fl [.int .i64 (1+(i:Int)), .int .i64 tm, .int .u8 c0, .int .u8 (oK i), .int .i64 (oT i), .int .i64 (oG g0 i), .int .i64 0, .int .i64 (oW (1+(wn:Int)) i), .int .i64 (oN (1000+(wn:Int)) i), .int .u64 (oM mask i), .int .i64 (oR i)])) ⟨(Mod.refl No w6).alloc _,row_newL w6 [_,_,_,_,_,_,_,_,_,_,_] _⟩ ?_
   intro V7 ⟨n7,EV⟩
   obtain ⟨eb,heb⟩:∃ n,n=w6.heap.size:=⟨_,rfl⟩
   rw [←heb] at EV ⊢
   clear heb
   have NX7:=NX6.mod n7 (fun h=> h)
   have WB7:Row V7 wb 7 (fl (wrw BR1 (.slice o1 n1 c1)))∧Row V7 sl 24 (opF g0 c0 (1+(wn:Int)) (1000+(wn:Int)) mask)∧Mod No w V7:=by
    obtain ⟨_,_,_,WB,SL,mW,nO,T1⟩:=HTO.out
    obtain ⟨_,_,n2⟩:=HT2.out
    obtain ⟨_,n3⟩:=HT3.out
    obtain ⟨_,m4⟩:=HT4.out
    obtain ⟨_,m5⟩:=HT5.out
    obtain ⟨_,m6,_⟩:=HT6.out
    have k:∀ x,E1 x→∀ F N,Row wk x N F→Row V7 x N F:=fun x hx F N R=>
     (((((((R.mod nO (fun h=> h)).mod n2 (fun h=> h)).mod n3 (fun h=> h)).mod m4 (T1.notE 1 x (by decide) hx)).mod m5 (T1.notE 2 x (by decide) hx)).mod m6 (T1.notE 3 x (by decide) hx)).mod n7 (fun h=> h))
    refine ⟨k wb Ewb _ _ WB,k sl Esl _ _ SL, ?_⟩
    have a1:Mod No w V3:=Mod.trans (Mod.trans (Mod.trans mW nO (fun _ _ h=> h)) n2 (fun _ _ h=> h)) n3 (fun _ _ h=> h)
    have a2:Mod No w w4:=Mod.trans a1 m4 (fun b hb e=> by have:=T1.own.lo 1 b e;omega)
    have a3:Mod No w w5:=Mod.trans a2 m5 (fun b hb e=> by have:=T1.own.lo 2 b e;omega)
    have a4:Mod No w w6:=Mod.trans a3 m6 (fun b hb e=> by have:=T1.own.lo 3 b e;omega)
    exact Mod.trans a4 n7 (fun _ _ h=> h)
   obtain ⟨WB7,SL7,m7⟩:=WB7
   have T7:=HT6.out.1.no n7
   rw [show ((1+i:Nat):Int)+1=((1+(i+1):Nat):Int) from by omega] at T7
   have HF:=Lib.hid (And.intro T7 (And.intro SL7 (And.intro m7 (And.intro WB7 (And.intro (HT6.out.2.2.trans hdd1) HT2.out.2.1)))))
   have lW:=WB7.lt
   have lN:=NX7.lt
   have lE:=EV.lt
   have f0:=WB7.free 0
   have f1:=WB7.free 1
   have f2:=WB7.free 2
   have f3:=WB7.free 3
   have f4:=WB7.free 4
   have f5:=WB7.free 5
   have f6:=WB7.free 6
   have y0:=WB7.cL 0 _ (by omega) rfl
   have y1:=WB7.cL 1 _ (by omega) rfl
   have y2:=WB7.cL 2 _ (by omega) rfl
   have y3:=WB7.cL 3 _ (by omega) rfl
   have y4:=WB7.cL 4 _ (by omega) rfl
   have y5:=WB7.cL 5 _ (by omega) rfl
   have y6:=WB7.cL 6 _ (by omega) rfl
   have b0:=NX7.cL 0 _ (by omega) rfl
   have b1:=NX7.cL 1 _ (by omega) rfl
   have b2:=NX7.cL 2 _ (by omega) rfl
   have b3:=NX7.cL 3 _ (by omega) rfl
   have b4:=NX7.cL 4 _ (by omega) rfl
   have b5:=NX7.cL 5 _ (by omega) rfl
   have b6:=NX7.cL 6 _ (by omega) rfl
   have e10:=EV.cL 10 _ (by omega) rfl
   have d0:(oR i !=oR i)=false:=by simp
   clear WB7 SL7 m7 T7 HT2 HT3 HT4 HT5 HT6 hdd1 NX7 EV NX6 OP6 n7
   go_wp2
   obtain ⟨T7,SL7,m7,WB7,hdd,hv⟩:=HF.out
   have hm:=h7_mod wb V7 (.int .i64 64) (.int .u64 0) (slc B2.gb 256 B2.gcap) (slc B2.cl 64 B2.ccap) (slc B2.cu 64 B2.ucap) (.slice o3 n3 c3) (slc B2.so 256 B2.scap)
   have hmE:Mod E1 V7 _:=hm.mono (T:=E1) (fun b _ e=> by have e' :b=wb:=e;rw [e'];exact Ewb)
   have T8:=T7.ext (E' :=E1) hmE (fun b h=> .inl h) (fun b h=> by have:=T7.own.lt 4 b h;have:=hmE.size;omega)
   have hnw:wb≠sl:=by omega
   refine ⟨⟨i+1,by go_num,by omega,B2,ow2,B4,ow4,s4,B5,ow5,xd1,B6,ow6,s6,D6,E1,T8,hdd,Ewb,Esl, ?_,SL7.mod hm (fun e=> hnw e.symm),Mod.trans m7 hmE (fun b hb e=> by have:=T7.own.lo 4 b e;omega)⟩,by simp only [RowKit.intOf];omega⟩
   rw [hv]
   exact h7_row WB7 _ _ _ _ _ _ _
  ·obtain rfl:i=3:=by omega
   obtain ⟨BR1,owR1,BS1,owS1,ss1,BM1,owM1,xd1,BD1,owD1,sd1,D1,E1,T1,hdd1,Ewb,Esl,WB,SL,mW⟩:=hL
   obtain ⟨o1,n1,c1,hv1⟩:=T1.R.tvo
   rw [hv1] at WB
   have cS:∀ W,Mod No wk W→Calls Tryz.prog 25 #[ptr xs] W fun e w' => ∃ B' ow',e= .returned (.tuple #[stv B' (TA deep d g0 c0 wn mask), .int .i64 0])∧StAt w' ow' B' (TA deep d g0 c0 wn mask)∧Mod No W w' ∧(∀ b,ow' b≠ .no→W.heap.size≤b)∧256≤B'.gcap:=fun W hW=> by
    obtain ⟨kS,hS⟩:=T1.SP
    have SS:=T1.S
    rw [hS] at SS
    exact HN.out.1.state3 W owS1 xs BS1 _ kS (SS.no hW)
   have cX:∀ W,Mod No wk W→Calls Tryz.prog 25 #[ptr xd1] W fun e w' => ∃ B' ow',e= .returned (.tuple #[stv B' (TA deep d g0 c0 wn mask), .int .i64 0])∧StAt w' ow' B' (TA deep d g0 c0 wn mask)∧Mod No W w' ∧(∀ b,ow' b≠ .no→W.heap.size≤b)∧256≤B'.gcap:=fun W hW=> by
    obtain ⟨kX,hX⟩:=T1.XP
    have SX:=T1.X
    rw [hX] at SX
    exact HN.out.1.state3 W owD1 xd1 BD1 _ kX (SX.no hW)
   have SR:StAt wk owR1 BR1 (TA deep d g0 c0 wn mask):=T1.R
   have SM:MAt wk m owM1 BM1 (TA deep d g0 c0 wn mask):=T1.M
   have SD:DAt wk owD1 xd1 D1 ((4:Nat):Int) c0 3:=T1.D
   have ew:=TA_stv deep d g0 c0 wn mask BR1 hv1
   have HX:=Lib.hid (And.intro cS (And.intro cX (And.intro SR (And.intro SM (And.intro SD (And.intro ew mW))))))
   clear cS cX SR SM SD ew mW SL T1 hv1 Ewb Esl
   go_wp2_with fail
   refine (HX.out.1 _ (Mod.refl No wk)).mono ?_;rintro e w20 ⟨Ba,oa,rfl,Sa,na,la,ga⟩
   obtain ⟨tba,tca,hva,_,_⟩:=Sa.t1 rfl
   rw [TA_stv deep d g0 c0 wn mask Ba hva]
   go_upto_region 21 with fail
   refine wp_world (fun V=> Mod No w20 V∧Row V w20.heap.size 7 (fl (wrw Ba (slc tba 1 tca)))) ⟨(Mod.refl No w20).alloc _,row_newL w20 [_,_,_,_,_,_,_] _⟩ ?_
   intro V20 ⟨na',RA⟩
   obtain ⟨ab,hab⟩:∃ n,n=w20.heap.size:=⟨_,rfl⟩
   rw [←hab] at RA ⊢
   clear hab la ga
   have kA:Mod No wk V20:=Mod.trans na na' (fun _ _ h=> h)
   have HA:=Lib.hid (And.intro (Sa.no na') (TA_stv deep d g0 c0 wn mask Ba hva))
   clear Sa hva na na'
   go_wp2_with fail
   refine (m_State V20 m owM1 BM1 (HX.out.2.2.2.1.no kA) (fun e=> by cases e) (by show 0 < 64;omega) (by show 64≤64;omega) (by show 0 < 256;omega) (by show 256≤256;omega)).mono ?_;rintro e w21 ⟨Bb,ob,rfl,Sb,nb,lb⟩
   obtain ⟨tbb,tcb,hvb,_,_⟩:=Sb.t1 rfl
   rw [TA_stv deep d g0 c0 wn mask Bb hvb]
   go_upto_region 22 with fail
   refine wp_world (fun V=> Mod No w21 V∧Row V w21.heap.size 7 (fl (wrw Bb (slc tbb 1 tcb)))) ⟨(Mod.refl No w21).alloc _,row_newL w21 [_,_,_,_,_,_,_] _⟩ ?_
   intro V21 ⟨nb',RB⟩
   obtain ⟨bb,hbb⟩:∃ n,n=w21.heap.size:=⟨_,rfl⟩
   rw [←hbb] at RB ⊢
   clear hbb lb
   have kB:Mod No V20 V21:=Mod.trans nb nb' (fun _ _ h=> h)
   have HB:=Lib.hid (And.intro (Sb.no nb') (TA_stv deep d g0 c0 wn mask Bb hvb))
   clear Sb hvb nb nb'
   go_wp2_with fail
   refine (show Calls Tryz.prog 27 #[ptr dd] V21 _ from by rw [←hdd1];exact drv_Snapshot (HX.out.2.2.2.2.1.mod (Mod.trans kA kB (fun _ _ h=> h)) (fun _ _ h=> h) HX.out.2.2.2.2.1.own) (TA deep d g0 c0 wn mask) (fun W hW=> HX.out.2.1 W (Mod.trans (Mod.trans kA kB (fun _ _ h=> h)) hW (fun _ _ h=> h)))).mono ?_;rintro e w22 ⟨Bc,oc,rfl,Sc,nc,lc,gc⟩
   obtain ⟨tbc,tcc,hvc,_,_⟩:=Sc.t1 rfl
   rw [TA_snv deep d g0 c0 wn mask Bc hvc]
   go_upto_region 23 with fail
   refine wp_world (fun V=> Mod No w22 V∧Row V w22.heap.size 8 (fl (srw Bc (slc tbc 1 tcc)))) ⟨(Mod.refl No w22).alloc _,row_newL w22 [_,_,_,_,_,_,_,_] _⟩ ?_
   intro V22 ⟨nc',RC⟩
   obtain ⟨cb,hcb⟩:∃ n,n=w22.heap.size:=⟨_,rfl⟩
   rw [←hcb] at RC ⊢
   clear hcb lc
   have kC:Mod No V21 V22:=Mod.trans nc nc' (fun _ _ h=> h)
   have kBC:Mod No V20 V22:=Mod.trans kB kC (fun _ _ h=> h)
   have kABC:Mod No wk V22:=Mod.trans kA kBC (fun _ _ h=> h)
   have RA2:=RA.mod kBC (fun h=> h)
   have RB2:=RB.mod kC (fun h=> h)
   have RW2:=WB.mod kABC (fun h=> h)
   have HC2:=Lib.hid (And.intro (HA.out.1.no kBC) (And.intro (HB.out.1.no kC) (And.intro (Sc.no nc') (And.intro (TA_snv deep d g0 c0 wn mask Bc hvc) (And.intro (TA_stv deep d g0 c0 wn mask Bc hvc) (And.intro gc (HX.out.2.2.1.no kABC)))))))
   have HK:=Lib.hid kABC
   clear RA RB WB kA kB kC kBC kABC Sc hvc nc nc' gc
   have lA:=RA2.lt
   have lB:=RB2.lt
   have lC:=RC.lt
   have lW:=RW2.lt
   have x0:=RA2.cL 0 _ (by omega) rfl
   have x1:=RA2.cL 1 _ (by omega) rfl
   have x2:=RA2.cL 2 _ (by omega) rfl
   have x3:=RA2.cL 3 _ (by omega) rfl
   have x4:=RA2.cL 4 _ (by omega) rfl
   have x5:=RA2.cL 5 _ (by omega) rfl
   have x6:=RA2.cL 6 _ (by omega) rfl
   have y0:=RW2.cL 0 _ (by omega) rfl
   have y1:=RW2.cL 1 _ (by omega) rfl
   have y2:=RW2.cL 2 _ (by omega) rfl
   have y3:=RW2.cL 3 _ (by omega) rfl
   have y4:=RW2.cL 4 _ (by omega) rfl
   have y5:=RW2.cL 5 _ (by omega) rfl
   have y6:=RW2.cL 6 _ (by omega) rfl
   go_wp2_with fail
   refine (show Calls Tryz.prog 10 #[.agg #[.int .i64 64, .int .u64 0,slc Ba.gb 256 Ba.gcap,slc Ba.cl 64 Ba.ccap,slc Ba.cu 64 Ba.ucap,slc tba 1 tca,slc Ba.so 256 Ba.scap], .agg #[.int .i64 64, .int .u64 0,slc BR1.gb 256 BR1.gcap,slc BR1.cl 64 BR1.ccap,slc BR1.cu 64 BR1.ucap, .slice o1 n1 c1,slc BR1.so 256 BR1.scap]] V22 _ from by rw [←HA.out.2,←HX.out.2.2.2.2.2.1];exact same_State V22 oa owR1 Ba BR1 (TA deep d g0 c0 wn mask) HC2.out.1 HC2.out.2.2.2.2.2.2 (by show 256≤256;omega) (by show 64≤64;omega)).mono ?_;rintro e w23 ⟨rfl,hb23⟩
   have n23:=Mod.of_below hb23 No
   have RB3:=RB2.mod n23 (fun h=> h)
   have RW3:=RW2.mod n23 (fun h=> h)
   have RC3:=RC.mod n23 (fun h=> h)
   clear x0 x1 x2 x3 x4 x5 x6 y0 y1 y2 y3 y4 y5 y6
   clear RA2 RB2 RW2 RC lA lB lC lW hb23
   have lB:=RB3.lt
   have lC:=RC3.lt
   have lW:=RW3.lt
   have x0:=RB3.cL 0 _ (by omega) rfl
   have x1:=RB3.cL 1 _ (by omega) rfl
   have x2:=RB3.cL 2 _ (by omega) rfl
   have x3:=RB3.cL 3 _ (by omega) rfl
   have x4:=RB3.cL 4 _ (by omega) rfl
   have x5:=RB3.cL 5 _ (by omega) rfl
   have x6:=RB3.cL 6 _ (by omega) rfl
   have y0:=RW3.cL 0 _ (by omega) rfl
   have y1:=RW3.cL 1 _ (by omega) rfl
   have y2:=RW3.cL 2 _ (by omega) rfl
   have y3:=RW3.cL 3 _ (by omega) rfl
   have y4:=RW3.cL 4 _ (by omega) rfl
   have y5:=RW3.cL 5 _ (by omega) rfl
   have y6:=RW3.cL 6 _ (by omega) rfl
   go_wp2_with fail
   refine (show Calls Tryz.prog 10 #[.agg #[.int .i64 64, .int .u64 0,slc Bb.gb 256 Bb.gcap,slc Bb.cl 64 Bb.ccap,slc Bb.cu 64 Bb.ucap,slc tbb 1 tcb,slc Bb.so 256 Bb.scap], .agg #[.int .i64 64, .int .u64 0,slc BR1.gb 256 BR1.gcap,slc BR1.cl 64 BR1.ccap,slc BR1.cu 64 BR1.ucap, .slice o1 n1 c1,slc BR1.so 256 BR1.scap]] w23 _ from by rw [←HB.out.2,←HX.out.2.2.2.2.2.1];exact same_State w23 ob owR1 Bb BR1 (TA deep d g0 c0 wn mask) (HC2.out.2.1.no n23) (HC2.out.2.2.2.2.2.2.no n23) (by show 256≤256;omega) (by show 64≤64;omega)).mono ?_;rintro e w24 ⟨rfl,hb24⟩
   have n24:=Mod.of_below hb24 No
   have RW4:=RW3.mod n24 (fun h=> h)
   have RC4:=RC3.mod n24 (fun h=> h)
   have k24:Mod No V22 w24:=Mod.trans n23 n24 (fun _ _ h=> h)
   clear x0 x1 x2 x3 x4 x5 x6 y0 y1 y2 y3 y4 y5 y6
   clear RB3 RW3 RC3 lB lC lW hb24 n23 n24
   have lC:=RC4.lt
   have lW:=RW4.lt
   have x0:=RC4.cL 0 _ (by omega) rfl
   have x1:=RC4.cL 1 _ (by omega) rfl
   have x2:=RC4.cL 2 _ (by omega) rfl
   have x3:=RC4.cL 3 _ (by omega) rfl
   have x4:=RC4.cL 4 _ (by omega) rfl
   have x5:=RC4.cL 5 _ (by omega) rfl
   have x6:=RC4.cL 6 _ (by omega) rfl
   have x7:=RC4.cL 7 _ (by omega) rfl
   have y0:=RW4.cL 0 _ (by omega) rfl
   have y1:=RW4.cL 1 _ (by omega) rfl
   have y2:=RW4.cL 2 _ (by omega) rfl
   have y3:=RW4.cL 3 _ (by omega) rfl
   have y4:=RW4.cL 4 _ (by omega) rfl
   have y5:=RW4.cL 5 _ (by omega) rfl
   have y6:=RW4.cL 6 _ (by omega) rfl
   go_wp2_with fail
   refine (show Calls Tryz.prog 10 #[.agg #[.int .i64 64, .int .u64 0,slc Bc.gb 256 Bc.gcap,slc Bc.cl 64 Bc.ccap,slc Bc.cu 64 Bc.ucap,slc tbc 1 tcc,slc Bc.so 256 Bc.scap], .agg #[.int .i64 64, .int .u64 0,slc BR1.gb 256 BR1.gcap,slc BR1.cl 64 BR1.ccap,slc BR1.cu 64 BR1.ucap, .slice o1 n1 c1,slc BR1.so 256 BR1.scap]] w24 _ from by rw [←HC2.out.2.2.2.2.1,←HX.out.2.2.2.2.2.1];exact same_State w24 oc owR1 Bc BR1 (TA deep d g0 c0 wn mask) (HC2.out.2.2.1.no k24) (HC2.out.2.2.2.2.2.2.no k24) (by show 256≤256;omega) (by show 64≤64;omega)).mono ?_;rintro e w25 ⟨rfl,hb25⟩
   have n25:=Mod.of_below hb25 No
   have RC5:=RC4.mod n25 (fun h=> h)
   have k25:Mod No V22 w25:=Mod.trans k24 n25 (fun _ _ h=> h)
   have H25:=Lib.hid (And.intro (HC2.out.2.2.1.no k25) k25)
   clear x0 x1 x2 x3 x4 x5 x6 x7 y0 y1 y2 y3 y4 y5 y6
   clear RW4 RC4 lC lW hb25 n25 k24 k25
   have lC:=RC5.lt
   have x0:=RC5.cL 0 _ (by omega) rfl
   have x1:=RC5.cL 1 _ (by omega) rfl
   have x2:=RC5.cL 2 _ (by omega) rfl
   have x3:=RC5.cL 3 _ (by omega) rfl
   have x4:=RC5.cL 4 _ (by omega) rfl
   have x5:=RC5.cL 5 _ (by omega) rfl
   have x6:=RC5.cL 6 _ (by omega) rfl
   have x7:=RC5.cL 7 _ (by omega) rfl
   have hCk:∀ W ow B,StAt W ow B (TA deep d g0 c0 wn mask)→Calls Tryz.prog 98 #[snv 4 B (TA deep d g0 c0 wn mask)] W fun e W' => e= .returned (.int .i64 0)∧Below W.heap.size W W' :=fun W ow B hS=> canCheck_ok (TT g0 c0 wn mask) g0 c0 HN.out.1.rok 4 (by omega) (by omega) W ow B hS
   have HCK:=Lib.hid hCk
   clear hCk
   have kw:Mod No w w25:=Mod.trans (Mod.trans HX.out.2.2.2.2.2.2 HK.out (fun _ _ h=> h)) H25.out.2 (fun _ _ h=> h)
   have RH5:=HN.out.2.2.2.mod kw (fun h=> h)
   have HKW:=Lib.hid (And.intro kw RH5)
   clear kw RH5
   go_wp2_with fail
   refine (show Calls Tryz.prog 28 #[.agg #[.int .i64 4, .int .i64 64, .int .u64 0,slc Bc.gb 256 Bc.gcap,slc Bc.cl 64 Bc.ccap,slc Bc.cu 64 Bc.ucap,slc tbc 1 tcc,slc Bc.so 256 Bc.scap]] w25 _ from by rw [←HC2.out.2.2.2.1];exact write_ok H HN.out.2.2.1 w25 oc Bc (TA deep d g0 c0 wn mask) 4 HN.out.1.rg HC2.out.2.2.2.2.2.1 (by omega) (fun t e=> by cases e;rfl) H25.out.1 HKW.out.2 (fun W hS=> HCK.out W oc Bc hS)).mono ?_;rintro e w26 ⟨gt,capt,rfl,Rt,hct,lgt,n26⟩
   obtain ⟨M,hM⟩:∃ M,M=(body 4 (TA deep d g0 c0 wn mask)).length+4:=⟨_,rfl⟩
   rw [←hM] at Rt hct ⊢
   have RC6:=RC5.mod n26 (fun h=> h)
   have H26:=Lib.hid (And.intro hM (And.intro Rt (And.intro hct n26)))
   clear Rt hct lgt n26 hM RC5 lC
   clear x0 x1 x2 x3 x4 x5 x6 x7
   go_wp2_with fail
   refine (pread_ok H HN.out.2.2.1 gt M capt 4 (TA deep d g0 c0 wn mask) HN.out.1.rg HN.out.2.1.p0 HN.out.2.1.w0 HN.out.1.rok.s0 (by omega) H26.out.1 H26.out.2.2.1 (fun W ow B hS _=> HCK.out W ow B hS) w26 (HKW.out.2.mod H26.out.2.2.2 (fun h=> h)) H26.out.2.1).mono ?_;rintro e w27 ⟨Be,oe,rfl,Se,n27,le,ge⟩
   obtain ⟨tbe,tce,hve,_,_⟩:=Se.t1 rfl
   rw [TA_snv deep d g0 c0 wn mask Be hve]
   go_upto_region 27 with fail
   refine wp_world (fun V=> Mod No w27 V∧Row V w27.heap.size 8 (fl (srw Be (slc tbe 1 tce)))) ⟨(Mod.refl No w27).alloc _,row_newL w27 [_,_,_,_,_,_,_,_] _⟩ ?_
   intro V27 ⟨n27',RE⟩
   obtain ⟨eb,heb⟩:∃ n,n=w27.heap.size:=⟨_,rfl⟩
   rw [←heb] at RE ⊢
   clear heb le ge
   have RC7:=(RC6.mod n27 (fun h=> h)).mod n27' (fun h=> h)
   have k27:Mod No w25 V27:=Mod.trans (Mod.trans H26.out.2.2.2 n27 (fun _ _ h=> h)) n27' (fun _ _ h=> h)
   have HE:=Lib.hid (And.intro (Se.no n27') (And.intro (TA_snv deep d g0 c0 wn mask Be hve) (And.intro k27 (H25.out.1.no k27))))
   clear RC6 n27 n27' Se hve k27
   have lE:=RE.lt
   have lC:=RC7.lt
   have x0:=RE.cL 0 _ (by omega) rfl
   have x1:=RE.cL 1 _ (by omega) rfl
   have x2:=RE.cL 2 _ (by omega) rfl
   have x3:=RE.cL 3 _ (by omega) rfl
   have x4:=RE.cL 4 _ (by omega) rfl
   have x5:=RE.cL 5 _ (by omega) rfl
   have x6:=RE.cL 6 _ (by omega) rfl
   have x7:=RE.cL 7 _ (by omega) rfl
   go_wp2_with fail
   refine (show Calls Tryz.prog 30 #[.agg #[.int .i64 4, .int .i64 64, .int .u64 0,slc Be.gb 256 Be.gcap,slc Be.cl 64 Be.ccap,slc Be.cu 64 Be.ucap,slc tbe 1 tce,slc Be.so 256 Be.scap], .int .i64 4, .int .i64 10] V27 _ from by rw [←HE.out.2.1];exact drv_Resume (TT g0 c0 wn mask) g0 c0 HN.out.1.rok 4 (by omega) (by omega) c0 hc V27 oe Be HE.out.1).mono ?_;rintro e w28 ⟨xe,Bf,owf,Df,rfl,n28,Sf,lf,DF,df⟩
   have RE8:=RE.mod n28 (fun h=> h)
   have RC8:=RC7.mod n28 (fun h=> h)
   have HF:=Lib.hid (And.intro n28 (And.intro Sf DF))
   clear RE RC7 lE lC n28 Sf lf DF df
   clear x0 x1 x2 x3 x4 x5 x6 x7
   have lE:=RE8.lt
   have lC:=RC8.lt
   have x0:=RE8.cL 0 _ (by omega) rfl
   have x1:=RE8.cL 1 _ (by omega) rfl
   have x2:=RE8.cL 2 _ (by omega) rfl
   have x3:=RE8.cL 3 _ (by omega) rfl
   have x4:=RE8.cL 4 _ (by omega) rfl
   have x5:=RE8.cL 5 _ (by omega) rfl
   have x6:=RE8.cL 6 _ (by omega) rfl
   have x7:=RE8.cL 7 _ (by omega) rfl
   have y0:=RC8.cL 0 _ (by omega) rfl
   have y1:=RC8.cL 1 _ (by omega) rfl
   have y2:=RC8.cL 2 _ (by omega) rfl
   have y3:=RC8.cL 3 _ (by omega) rfl
   have y4:=RC8.cL 4 _ (by omega) rfl
   have y5:=RC8.cL 5 _ (by omega) rfl
   have y6:=RC8.cL 6 _ (by omega) rfl
   have y7:=RC8.cL 7 _ (by omega) rfl
   go_wp2_with fail
   refine (show Calls Tryz.prog 31 #[.agg #[.int .i64 4, .int .i64 64, .int .u64 0,slc Be.gb 256 Be.gcap,slc Be.cl 64 Be.ccap,slc Be.cu 64 Be.ucap,slc tbe 1 tce,slc Be.so 256 Be.scap], .agg #[.int .i64 4, .int .i64 64, .int .u64 0,slc Bc.gb 256 Bc.gcap,slc Bc.cl 64 Bc.ccap,slc Bc.cu 64 Bc.ucap,slc tbc 1 tcc,slc Bc.so 256 Bc.scap]] w28 _ from by rw [←HE.out.2.1,←HC2.out.2.2.2.1];exact canSame_ok w28 oe oc Be Bc (TA deep d g0 c0 wn mask) (TT g0 c0 wn mask) rfl 4 (by omega) (HE.out.1.no HF.out.1) (HE.out.2.2.2.no HF.out.1) (by show 256≤256;omega) (by show 64≤64;omega)).mono ?_;rintro e w29 ⟨rfl,hb29⟩
   have n29:=Mod.of_below hb29 No
   have RC9:=RC8.mod n29 (fun h=> h)
   have H29:=Lib.hid n29
   clear RE8 RC8 lE lC hb29 n29
   clear x0 x1 x2 x3 x4 x5 x6 x7 y0 y1 y2 y3 y4 y5 y6 y7
   go_wp2_with fail
   refine (drv_Snapshot (HF.out.2.2.mod H29.out (fun _ _ h=> h) HF.out.2.2.own) (TA deep d g0 c0 wn mask) (fun W hW=> stateL HN.out.1.rok (fun g c hg _=> (HN.out.1.fl4b g c hg).1) W owf xe Bf _ ((HF.out.2.1.no H29.out).no hW))).mono ?_;rintro e w30 ⟨Bg,og,rfl,Sg,n30,lg,gg⟩
   obtain ⟨tbg,tcg,hvg,_,_⟩:=Sg.t1 rfl
   rw [TA_snv deep d g0 c0 wn mask Bg hvg]
   go_upto_region 31 with fail
   refine wp_world (fun V=> Mod No w30 V∧Row V w30.heap.size 8 (fl (srw Bg (slc tbg 1 tcg)))) ⟨(Mod.refl No w30).alloc _,row_newL w30 [_,_,_,_,_,_,_,_] _⟩ ?_
   intro V30 ⟨n30',RG⟩
   obtain ⟨gb,hgb⟩:∃ n,n=w30.heap.size:=⟨_,rfl⟩
   rw [←hgb] at RG ⊢
   clear hgb lg gg
   have RC10:=(RC9.mod n30 (fun h=> h)).mod n30' (fun h=> h)
   have k30:Mod No V27 V30:=Mod.trans (Mod.trans (Mod.trans HF.out.1 H29.out (fun _ _ h=> h)) n30 (fun _ _ h=> h)) n30' (fun _ _ h=> h)
   have HG:=Lib.hid (And.intro (Sg.no n30') (And.intro (TA_snv deep d g0 c0 wn mask Bg hvg) k30))
   clear RC9 n30 n30' Sg hvg k30
   have lG:=RG.lt
   have lC:=RC10.lt
   have x0:=RG.cL 0 _ (by omega) rfl
   have x1:=RG.cL 1 _ (by omega) rfl
   have x2:=RG.cL 2 _ (by omega) rfl
   have x3:=RG.cL 3 _ (by omega) rfl
   have x4:=RG.cL 4 _ (by omega) rfl
   have x5:=RG.cL 5 _ (by omega) rfl
   have x6:=RG.cL 6 _ (by omega) rfl
   have x7:=RG.cL 7 _ (by omega) rfl
   have y0:=RC10.cL 0 _ (by omega) rfl
   have y1:=RC10.cL 1 _ (by omega) rfl
   have y2:=RC10.cL 2 _ (by omega) rfl
   have y3:=RC10.cL 3 _ (by omega) rfl
   have y4:=RC10.cL 4 _ (by omega) rfl
   have y5:=RC10.cL 5 _ (by omega) rfl
   have y6:=RC10.cL 6 _ (by omega) rfl
   have y7:=RC10.cL 7 _ (by omega) rfl
   go_wp2_with fail
   refine (show Calls Tryz.prog 31 #[.agg #[.int .i64 4, .int .i64 64, .int .u64 0,slc Bg.gb 256 Bg.gcap,slc Bg.cl 64 Bg.ccap,slc Bg.cu 64 Bg.ucap,slc tbg 1 tcg,slc Bg.so 256 Bg.scap], .agg #[.int .i64 4, .int .i64 64, .int .u64 0,slc Bc.gb 256 Bc.gcap,slc Bc.cl 64 Bc.ccap,slc Bc.cu 64 Bc.ucap,slc tbc 1 tcc,slc Bc.so 256 Bc.scap]] V30 _ from by rw [←HG.out.2.1,←HC2.out.2.2.2.1];exact canSame_ok V30 og oc Bg Bc (TA deep d g0 c0 wn mask) (TT g0 c0 wn mask) rfl 4 (by omega) HG.out.1 (HE.out.2.2.2.no HG.out.2.2) (by show 256≤256;omega) (by show 64≤64;omega)).mono ?_;rintro e w31 ⟨rfl,hb31⟩
   go_wp2
   go_ret
   exact ⟨rfl,Mod.trans (Mod.trans (Mod.trans HKW.out.1 HE.out.2.2.1 (fun _ _ h=> h)) HG.out.2.2 (fun _ _ h=> h)) (Mod.of_below hb31 No) (fun _ _ h=> h)⟩
end Go.Q
