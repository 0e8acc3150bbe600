/- A part of the proof that TopGreat answers true: what some of the functions on its road compute. -/
import Derived.Deep.DeepCutAuto
import Derived.Test.YtckddephdbhagaaGreatDoorQ0
import Derived.Test.YtckddephdbhagaaGreatDoorQ3
import Derived.Test.YtckddephdbhagaaGreatDoorQ5
import Derived.Test.YtckddephdbhagaaGreatDoorQ33
set_option linter.unusedVariables false
set_option linter.unusedSimpArgs false
namespace Go.Q
open Go.RowKit Go.Proofs
set_option maxRecDepth 100000 in
theorem same_groups (a b m ca cb:Nat) (par wt:Nat→Int) (w:World) (ha:Row w a (m * 2) (grp par wt)) (hb:Row w b (m * 2) (grp par wt)) (hm:m≤1000000):
  Calls Tryz.prog 191 #[slc a m ca,slc b m cb] w fun e w' => e= .returned (.bool true)∧Below w.heap.size w w' :=by
 have la:=ha.lt
 have lb:=hb.lt
 have k0:((m:Int) !=m)=false:=by simp
 go_enter Tryz.func191,Tryz.ntmps191
 go_wp2
 go_loopw [5] (fun v wr=> ∃ k:Nat,v= .int .i64 k∧k≤m∧Mod No w wr) (fun v _=> m - (RowKit.intOf v).toNat)
 case atStart=> exact ⟨0,rfl,by omega,by (repeat first|(with_reducible exact (Mod.refl No w))|(with_reducible refine Mod.alloc ?_ _)|(with_reducible refine Mod.drew ?_)|(with_reducible refine Mod.drewN ?_ _)|(with_reducible refine Mod.sc ?_))⟩
 case round=>
  obtain ⟨wk,rfl⟩:∃ W,W=wr:=⟨wr,rfl⟩
  obtain ⟨k,rfl,hk,hmod⟩:=hrel
  by_cases hlt:k < m
  ·have i0:(k:Int) < m:=by omega
   have i1:(0:Int)≤k:=by omega
   have A:=ha.mod hmod (fun h=> h)
   have B:=hb.mod hmod (fun h=> h)
   have lA:=A.lt
   have lB:=B.lt
   have a0:=A.cell (i:=k * 2) (by omega)
   rw [grp_even] at a0
   have a1:=A.cell (i:=k * 2+1) (by omega)
   rw [grp_odd] at a1
   have b0:=B.cell (i:=k * 2) (by omega)
   rw [grp_even] at b0
   have b1:=B.cell (i:=k * 2+1) (by omega)
   rw [grp_odd] at b1
   go_upto_region 6 with fail
   go_quiet (fail)
   go_wp2
   go_roundw
   case rel=> exact ⟨k+1,by go_num,by omega,by (repeat first|(with_reducible exact hmod)|(with_reducible refine Mod.alloc ?_ _)|(with_reducible refine Mod.drew ?_)|(with_reducible refine Mod.drewN ?_ _)|(with_reducible refine Mod.sc ?_))⟩
   case measure=> simp only [RowKit.intOf];omega
  ·have i0:(m:Int)≤k:=by omega
   go_wp2
   go_ret
   exact ⟨rfl,Mod.below (by (repeat first|(with_reducible exact hmod)|(with_reducible refine Mod.alloc ?_ _)|(with_reducible refine Mod.drew ?_)|(with_reducible refine Mod.drewN ?_ _)|(with_reducible refine Mod.sc ?_)))⟩
set_option maxRecDepth 100000 in
theorem same_spots (a b m ca cb:Nat) (f:Nat→Int×Int×Int) (w:World) (ha:Row w a (m * 3) (spt f)) (hb:Row w b (m * 3) (spt f)) (hm:m≤1000000):
  Calls Tryz.prog 117 #[slc a m ca,slc b m cb] w fun e w' => e= .returned (.bool true)∧Below w.heap.size w w' :=by
 have la:=ha.lt
 have lb:=hb.lt
 have k0:((m:Int) !=m)=false:=by simp
 go_enter Tryz.func117,Tryz.ntmps117
 go_wp2
 go_loopw [5] (fun v wr=> ∃ k:Nat,v= .int .i64 k∧k≤m∧Mod No w wr) (fun v _=> m - (RowKit.intOf v).toNat)
 case atStart=> exact ⟨0,rfl,by omega,by (repeat first|(with_reducible exact (Mod.refl No w))|(with_reducible refine Mod.alloc ?_ _)|(with_reducible refine Mod.drew ?_)|(with_reducible refine Mod.drewN ?_ _)|(with_reducible refine Mod.sc ?_))⟩
 case round=>
  obtain ⟨wk,rfl⟩:∃ W,W=wr:=⟨wr,rfl⟩
  obtain ⟨k,rfl,hk,hmod⟩:=hrel
  by_cases hlt:k < m
  ·have i0:(k:Int) < m:=by omega
   have i1:(0:Int)≤k:=by omega
   have A:=ha.mod hmod (fun h=> h)
   have B:=hb.mod hmod (fun h=> h)
   have lA:=A.lt
   have lB:=B.lt
   have a0:=A.cell (i:=k * 3) (by omega)
   rw [spt0] at a0
   have a1:=A.cell (i:=k * 3+1) (by omega)
   rw [spt1] at a1
   have a2:=A.cell (i:=k * 3+2) (by omega)
   rw [spt2] at a2
   have b0:=B.cell (i:=k * 3) (by omega)
   rw [spt0] at b0
   have b1:=B.cell (i:=k * 3+1) (by omega)
   rw [spt1] at b1
   have b2:=B.cell (i:=k * 3+2) (by omega)
   rw [spt2] at b2
   go_upto_region 6 with fail
   go_quiet (fail)
   go_wp2
   go_roundw
   case rel=> exact ⟨k+1,by go_num,by omega,by (repeat first|(with_reducible exact hmod)|(with_reducible refine Mod.alloc ?_ _)|(with_reducible refine Mod.drew ?_)|(with_reducible refine Mod.drewN ?_ _)|(with_reducible refine Mod.sc ?_))⟩
   case measure=> simp only [RowKit.intOf];omega
  ·have i0:(m:Int)≤k:=by omega
   go_wp2
   go_ret
   exact ⟨rfl,Mod.below (by (repeat first|(with_reducible exact hmod)|(with_reducible refine Mod.alloc ?_ _)|(with_reducible refine Mod.drew ?_)|(with_reducible refine Mod.drewN ?_ _)|(with_reducible refine Mod.sc ?_)))⟩
set_option maxRecDepth 100000 in
theorem same_ints (a b m ca cb:Nat) (f:Nat→Int) (w:World) (ha:Row w a (m * 1) (ints f)) (hb:Row w b (m * 1) (ints f)) (hm:m≤1000000):
  Calls Tryz.prog 41 #[slc a m ca,slc b m cb] w fun e w' => e= .returned (.bool true)∧Below w.heap.size w w' :=by
 have la:=ha.lt
 have lb:=hb.lt
 have k0:((m:Int) !=m)=false:=by simp
 go_enter Tryz.func41,Tryz.ntmps41
 go_wp2
 go_loopw [5] (fun v wr=> ∃ k:Nat,v= .int .i64 k∧k≤m∧Mod No w wr) (fun v _=> m - (RowKit.intOf v).toNat)
 case atStart=> exact ⟨0,rfl,by omega,by (repeat first|(with_reducible exact (Mod.refl No w))|(with_reducible refine Mod.alloc ?_ _)|(with_reducible refine Mod.drew ?_)|(with_reducible refine Mod.drewN ?_ _)|(with_reducible refine Mod.sc ?_))⟩
 case round=>
  obtain ⟨wk,rfl⟩:∃ W,W=wr:=⟨wr,rfl⟩
  obtain ⟨k,rfl,hk,hmod⟩:=hrel
  by_cases hlt:k < m
  ·have i0:(k:Int) < m:=by omega
   have i1:(0:Int)≤k:=by omega
   have A:=ha.mod hmod (fun h=> h)
   have B:=hb.mod hmod (fun h=> h)
   have lA:=A.lt
   have lB:=B.lt
   have a0:=A.cell (i:=k) (by omega)
   have b0:=B.cell (i:=k) (by omega)
   simp only [ints] at a0 b0
   go_upto_region 6 with fail
   go_quiet (fail)
   go_wp2
   go_roundw
   case rel=> exact ⟨k+1,by go_num,by omega,by (repeat first|(with_reducible exact hmod)|(with_reducible refine Mod.alloc ?_ _)|(with_reducible refine Mod.drew ?_)|(with_reducible refine Mod.drewN ?_ _)|(with_reducible refine Mod.sc ?_))⟩
   case measure=> simp only [RowKit.intOf];omega
  ·have i0:(m:Int)≤k:=by omega
   go_wp2
   go_ret
   exact ⟨rfl,Mod.below (by (repeat first|(with_reducible exact hmod)|(with_reducible refine Mod.alloc ?_ _)|(with_reducible refine Mod.drew ?_)|(with_reducible refine Mod.drewN ?_ _)|(with_reducible refine Mod.sc ?_)))⟩
set_option maxRecDepth 100000 in
theorem same_tasks0 (a b:Option Addr) (ca cb:Nat) (w:World):
  Calls Tryz.prog 116 #[.slice a 0 ca, .slice b 0 cb] w fun e w' => e= .returned (.bool true)∧Below w.heap.size w w' :=by
 go_enter Tryz.func116,Tryz.ntmps116
 go_wp2
 go_loopw [5] (fun v wr=> v= .int .i64 0∧Mod No w wr) (fun _ _=> 0)
 case atStart=> exact ⟨rfl,by (repeat first|(with_reducible exact (Mod.refl No w))|(with_reducible refine Mod.alloc ?_ _)|(with_reducible refine Mod.drew ?_)|(with_reducible refine Mod.drewN ?_ _)|(with_reducible refine Mod.sc ?_))⟩
 case round=>
  obtain ⟨rfl,hmod⟩:=hrel
  go_wp2
  go_ret
  exact ⟨rfl,Mod.below (by (repeat first|(with_reducible exact hmod)|(with_reducible refine Mod.alloc ?_ _)|(with_reducible refine Mod.drew ?_)|(with_reducible refine Mod.drewN ?_ _)|(with_reducible refine Mod.sc ?_)))⟩
set_option maxRecDepth 100000 in
theorem same_tasks1 (a b ca cb:Nat) (t:TK) (w:World) (ha:Row w a 8 (fl (tkc t))) (hb:Row w b 8 (fl (tkc t))):
  Calls Tryz.prog 116 #[slc a 1 ca,slc b 1 cb] w fun e w' => e= .returned (.bool true)∧Below w.heap.size w w' :=by
 go_enter Tryz.func116,Tryz.ntmps116
 go_wp2
 go_loopw [5] (fun v wr=> ∃ k:Nat,v= .int .i64 k∧k≤1∧Mod No w wr) (fun v _=> 1 - (RowKit.intOf v).toNat)
 case atStart=> exact ⟨0,rfl,by omega,by (repeat first|(with_reducible exact (Mod.refl No w))|(with_reducible refine Mod.alloc ?_ _)|(with_reducible refine Mod.drew ?_)|(with_reducible refine Mod.drewN ?_ _)|(with_reducible refine Mod.sc ?_))⟩
 case round=>
  obtain ⟨wk,rfl⟩:∃ W,W=wr:=⟨wr,rfl⟩
  obtain ⟨k,rfl,hk,hmod⟩:=hrel
  by_cases hlt:k < 1
  ·obtain rfl:k=0:=by omega
   have A:=ha.mod hmod (fun h=> h)
   have B:=hb.mod hmod (fun h=> h)
   have lA:=A.lt
   have lB:=B.lt
   have a0:wk.cell? ⟨a,0,none⟩=some (.int .i64 t.id):=A.cL 0 _ (by omega) rfl
   have b0:wk.cell? ⟨b,0,none⟩=some (.int .i64 t.id):=B.cL 0 _ (by omega) rfl
   have a1:wk.cell? ⟨a,1,none⟩=some (.int .i64 t.group):=A.cL 1 _ (by omega) rfl
   have b1:wk.cell? ⟨b,1,none⟩=some (.int .i64 t.group):=B.cL 1 _ (by omega) rfl
   have a2:wk.cell? ⟨a,2,none⟩=some (.int .i64 t.weight):=A.cL 2 _ (by omega) rfl
   have b2:wk.cell? ⟨b,2,none⟩=some (.int .i64 t.weight):=B.cL 2 _ (by omega) rfl
   have a3:wk.cell? ⟨a,3,none⟩=some (.int .i64 t.cpu):=A.cL 3 _ (by omega) rfl
   have b3:wk.cell? ⟨b,3,none⟩=some (.int .i64 t.cpu):=B.cL 3 _ (by omega) rfl
   have a4:wk.cell? ⟨a,4,none⟩=some (.int .u64 t.mask):=A.cL 4 _ (by omega) rfl
   have b4:wk.cell? ⟨b,4,none⟩=some (.int .u64 t.mask):=B.cL 4 _ (by omega) rfl
   have a5:wk.cell? ⟨a,5,none⟩=some (.bool t.ready):=A.cL 5 _ (by omega) rfl
   have b5:wk.cell? ⟨b,5,none⟩=some (.bool t.ready):=B.cL 5 _ (by omega) rfl
   have a6:wk.cell? ⟨a,6,none⟩=some (.int .u64 t.v):=A.cL 6 _ (by omega) rfl
   have b6:wk.cell? ⟨b,6,none⟩=some (.int .u64 t.v):=B.cL 6 _ (by omega) rfl
   have a7:wk.cell? ⟨a,7,none⟩=some (.int .u32 t.r):=A.cL 7 _ (by omega) rfl
   have b7:wk.cell? ⟨b,7,none⟩=some (.int .u32 t.r):=B.cL 7 _ (by omega) rfl
   go_upto_region 6 with fail
   go_quiet (fail)
   go_wp2
   go_roundw
   case rel=> exact ⟨1,by go_num,by omega,by (repeat first|(with_reducible exact hmod)|(with_reducible refine Mod.alloc ?_ _)|(with_reducible refine Mod.drew ?_)|(with_reducible refine Mod.drewN ?_ _)|(with_reducible refine Mod.sc ?_))⟩
   case measure=> simp only [RowKit.intOf];omega
  ·obtain rfl:k=1:=by omega
   go_wp2
   go_ret
   exact ⟨rfl,Mod.below (by (repeat first|(with_reducible exact hmod)|(with_reducible refine Mod.alloc ?_ _)|(with_reducible refine Mod.drew ?_)|(with_reducible refine Mod.drewN ?_ _)|(with_reducible refine Mod.sc ?_)))⟩
theorem same_Groups (a b m ca cb:Nat) (par wt:Nat→Int) (w:World) (ha:Row w a (m * 2) (grp par wt)) (hb:Row w b (m * 2) (grp par wt)) (hm:m≤1000000):
  Calls Tryz.prog 115 #[slc a m ca,slc b m cb] w fun e w' => e= .returned (.bool true)∧Below w.heap.size w w' :=by
 go_enter Tryz.func115,Tryz.ntmps115
 go_wp2_with fail
 refine (same_groups a b m ca cb par wt _ ha hb hm).mono ?_;rintro e w1 ⟨rfl,hb1⟩
 go_wp2
 go_ret
 exact ⟨rfl,hb1⟩
theorem same_Spots (a b m ca cb:Nat) (f:Nat→Int×Int×Int) (w:World) (ha:Row w a (m * 3) (spt f)) (hb:Row w b (m * 3) (spt f)) (hm:m≤1000000):
  Calls Tryz.prog 43 #[slc a m ca,slc b m cb] w fun e w' => e= .returned (.bool true)∧Below w.heap.size w w' :=by
 go_enter Tryz.func43,Tryz.ntmps43
 go_wp2_with fail
 refine (same_spots a b m ca cb f _ ha hb hm).mono ?_;rintro e w1 ⟨rfl,hb1⟩
 go_wp2
 go_ret
 exact ⟨rfl,hb1⟩
theorem same_Tasks0 (a b:Option Addr) (ca cb:Nat) (w:World):
  Calls Tryz.prog 42 #[.slice a 0 ca, .slice b 0 cb] w fun e w' => e= .returned (.bool true)∧Below w.heap.size w w' :=by
 go_enter Tryz.func42,Tryz.ntmps42
 go_wp2_with fail
 refine (same_tasks0 a b ca cb _).mono ?_;rintro e w1 ⟨rfl,hb1⟩
 go_wp2
 go_ret
 exact ⟨rfl,hb1⟩
theorem same_Tasks1 (a b ca cb:Nat) (t:TK) (w:World) (ha:Row w a 8 (fl (tkc t))) (hb:Row w b 8 (fl (tkc t))):
  Calls Tryz.prog 42 #[slc a 1 ca,slc b 1 cb] w fun e w' => e= .returned (.bool true)∧Below w.heap.size w w' :=by
 go_enter Tryz.func42,Tryz.ntmps42
 go_wp2_with fail
 refine (same_tasks1 a b ca cb t _ ha hb).mono ?_;rintro e w1 ⟨rfl,hb1⟩
 go_wp2
 go_ret
 exact ⟨rfl,hb1⟩
theorem same_Config (C:Nat) (cr:Int) (a b m ca cb:Nat) (par wt:Nat→Int) (w:World) (ha:Row w a (m * 2) (grp par wt)) (hb:Row w b (m * 2) (grp par wt)) (hm:m≤1000000):
  Calls Tryz.prog 40 #[.agg #[.int .i64 C, .int .u64 cr,slc a m ca], .agg #[.int .i64 C, .int .u64 cr,slc b m cb]] w fun e w' => e= .returned (.bool true)∧Below w.heap.size w w' :=by
 have k0:((C:Int)==C)=true:=by simp
 have k1:(cr==cr)=true:=by simp
 go_enter Tryz.func40,Tryz.ntmps40
 go_wp2_with fail
 refine (same_Groups a b m ca cb par wt _ ((ha.alloc _).alloc _) ((hb.alloc _).alloc _) hm).mono ?_;rintro e w1 ⟨rfl,hb1⟩
 go_wp2
 go_ret
 exact ⟨rfl,Mod.below (Mod.trans (((Mod.refl No w).alloc _).alloc _) (Mod.of_below hb1 No) (fun _ _ h=> h))⟩
set_option maxRecDepth 100000 in
set_option maxHeartbeats 1000000 in
theorem same_State (w:World) (o1 o2:Nat→SOwn) (B1 B2:STB) (A:ASt) (h1:StAt w o1 B1 A) (h2:StAt w o2 B2 A) (hG:A.G≤256) (hC:A.C≤64):
  Calls Tryz.prog 10 #[stv B1 A,stv B2 A] w fun e w' => e= .returned (.bool true)∧Below w.heap.size w w' :=by
 have ht:∀ w',Mod No w w' →Calls Tryz.prog 42 #[B1.tv,B2.tv] w' fun e w'' => e= .returned (.bool true)∧Below w'.heap.size w' w'' :=by
  intro w' hm
  cases hA:A.task with
  |none=>
   obtain ⟨a,c,e1⟩:=h1.t0 hA
   obtain ⟨a',c',e2⟩:=h2.t0 hA
   rw [e1,e2]
   exact same_Tasks0 _ _ _ _ _
  |some t=>
   obtain ⟨a,c,e1,_,r1⟩:=h1.t1 hA
   obtain ⟨a',c',e2,_,r2⟩:=h2.t1 hA
   rw [e1,e2]
   exact same_Tasks1 _ _ _ _ t _ (r1.mod hm (fun h=> h)) (r2.mod hm (fun h=> h))
 have k0:((A.G:Int) !=A.G)=false:=by simp
 go_enter Tryz.func10,Tryz.ntmps10
 have m0:Mod No w ((w.alloc (.cells #[.int .i64 A.C, .int .u64 A.cr,slc B1.gb A.G B1.gcap,slc B1.cl A.C B1.ccap,slc B1.cu A.C B1.ucap,B1.tv,slc B1.so A.G B1.scap] 48)).alloc (.cells #[.int .i64 A.C, .int .u64 A.cr,slc B2.gb A.G B2.gcap,slc B2.cl A.C B2.ccap,slc B2.cu A.C B2.ucap,B2.tv,slc B2.so A.G B2.scap] 48)):=((Mod.refl No w).alloc _).alloc _
 have X0:Row ((w.alloc (.cells #[.int .i64 A.C, .int .u64 A.cr,slc B1.gb A.G B1.gcap,slc B1.cl A.C B1.ccap,slc B1.cu A.C B1.ucap,B1.tv,slc B1.so A.G B1.scap] 48)).alloc (.cells #[.int .i64 A.C, .int .u64 A.cr,slc B2.gb A.G B2.gcap,slc B2.cl A.C B2.ccap,slc B2.cu A.C B2.ucap,B2.tv,slc B2.so A.G B2.scap] 48)) w.heap.size 7 (fl [.int .i64 A.C, .int .u64 A.cr,slc B1.gb A.G B1.gcap,slc B1.cl A.C B1.ccap,slc B1.cu A.C B1.ucap,B1.tv,slc B1.so A.G B1.scap]):=(row_newL w [_,_,_,_,_,_,_] _).alloc _
 have Y0:Row ((w.alloc (.cells #[.int .i64 A.C, .int .u64 A.cr,slc B1.gb A.G B1.gcap,slc B1.cl A.C B1.ccap,slc B1.cu A.C B1.ucap,B1.tv,slc B1.so A.G B1.scap] 48)).alloc (.cells #[.int .i64 A.C, .int .u64 A.cr,slc B2.gb A.G B2.gcap,slc B2.cl A.C B2.ccap,slc B2.cu A.C B2.ucap,B2.tv,slc B2.so A.G B2.scap] 48)) (w.heap.size+1) 7 (fl [.int .i64 A.C, .int .u64 A.cr,slc B2.gb A.G B2.gcap,slc B2.cl A.C B2.ccap,slc B2.cu A.C B2.ucap,B2.tv,slc B2.so A.G B2.scap]):=row_newL' _ _ [_,_,_,_,_,_,_] _ (by simp)
 have a0:=h1.no m0
 have b0:=h2.no m0
 go_wp2_with fail
 refine (same_Config A.C A.cr B1.gb B2.gb A.G B1.gcap B2.gcap A.par A.wt _ (a0.1 .gb).2 (b0.1 .gb).2 (by omega)).mono ?_;rintro e w1 ⟨rfl,hb1⟩
 have m1:Mod No w w1:=Mod.trans m0 (Mod.of_below hb1 No) (fun _ _ h=> h)
 have X1:=X0.mod (Mod.of_below hb1 No) (fun h=> h)
 have Y1:=Y0.mod (Mod.of_below hb1 No) (fun h=> h)
 have a1:=h1.no m1
 have b1:=h2.no m1
 have lX:=X1.lt
 have lY:=Y1.lt
 have x3:=X1.cL 3 _ (by omega) rfl
 have x4:=X1.cL 4 _ (by omega) rfl
 have x5:=X1.cL 5 _ (by omega) rfl
 have x6:=X1.cL 6 _ (by omega) rfl
 have y3:=Y1.cL 3 _ (by omega) rfl
 have y4:=Y1.cL 4 _ (by omega) rfl
 have y5:=Y1.cL 5 _ (by omega) rfl
 have y6:=Y1.cL 6 _ (by omega) rfl
 go_wp2_with fail
 refine (same_ints B1.cl B2.cl A.C B1.ccap B2.ccap A.clocks _ (by rw [Nat.mul_one];exact (a1.1 .cl).2) (by rw [Nat.mul_one];exact (b1.1 .cl).2) (by omega)).mono ?_;rintro e w2 ⟨rfl,hb2⟩
 have m2:Mod No w w2:=Mod.trans m1 (Mod.of_below hb2 No) (fun _ _ h=> h)
 have X2:=X1.mod (Mod.of_below hb2 No) (fun h=> h)
 have Y2:=Y1.mod (Mod.of_below hb2 No) (fun h=> h)
 have a2:=h1.no m2
 have b2:=h2.no m2
 clear x3 x4 x5 x6 y3 y4 y5 y6
 have lX2:=X2.lt
 have lY2:=Y2.lt
 have x3:=X2.cL 3 _ (by omega) rfl
 have x4:=X2.cL 4 _ (by omega) rfl
 have x5:=X2.cL 5 _ (by omega) rfl
 have x6:=X2.cL 6 _ (by omega) rfl
 have y3:=Y2.cL 3 _ (by omega) rfl
 have y4:=Y2.cL 4 _ (by omega) rfl
 have y5:=Y2.cL 5 _ (by omega) rfl
 have y6:=Y2.cL 6 _ (by omega) rfl
 go_wp2_with fail
 refine (same_ints B1.cu B2.cu A.C B1.ucap B2.ucap A.current _ (by rw [Nat.mul_one];exact (a2.1 .cu).2) (by rw [Nat.mul_one];exact (b2.1 .cu).2) (by omega)).mono ?_;rintro e w3 ⟨rfl,hb3⟩
 have m3:Mod No w w3:=Mod.trans m2 (Mod.of_below hb3 No) (fun _ _ h=> h)
 have X3:=X2.mod (Mod.of_below hb3 No) (fun h=> h)
 have Y3:=Y2.mod (Mod.of_below hb3 No) (fun h=> h)
 clear x3 x4 x5 x6 y3 y4 y5 y6
 have lX3:=X3.lt
 have lY3:=Y3.lt
 have x3:=X3.cL 3 _ (by omega) rfl
 have x4:=X3.cL 4 _ (by omega) rfl
 have x5:=X3.cL 5 _ (by omega) rfl
 have x6:=X3.cL 6 _ (by omega) rfl
 have y3:=Y3.cL 3 _ (by omega) rfl
 have y4:=Y3.cL 4 _ (by omega) rfl
 have y5:=Y3.cL 5 _ (by omega) rfl
 have y6:=Y3.cL 6 _ (by omega) rfl
 go_wp2_with fail
 refine (ht _ m3).mono ?_;rintro e w4 ⟨rfl,hb4⟩
 have m4:Mod No w w4:=Mod.trans m3 (Mod.of_below hb4 No) (fun _ _ h=> h)
 have X4:=X3.mod (Mod.of_below hb4 No) (fun h=> h)
 have Y4:=Y3.mod (Mod.of_below hb4 No) (fun h=> h)
 clear x3 x4 x5 x6 y3 y4 y5 y6
 have lX4:=X4.lt
 have lY4:=Y4.lt
 have x3:=X4.cL 3 _ (by omega) rfl
 have x4:=X4.cL 4 _ (by omega) rfl
 have x5:=X4.cL 5 _ (by omega) rfl
 have x6:=X4.cL 6 _ (by omega) rfl
 have y3:=Y4.cL 3 _ (by omega) rfl
 have y4:=Y4.cL 4 _ (by omega) rfl
 have y5:=Y4.cL 5 _ (by omega) rfl
 have y6:=Y4.cL 6 _ (by omega) rfl
 go_wp2
 clear x3 x4 x5 x6 y3 y4 y5 y6
 go_loopw [5] (fun v wr=> ∃ k:Nat,v= .int .i64 k∧k≤A.G∧Mod No w wr∧Row wr w.heap.size 7 (fl [.int .i64 A.C, .int .u64 A.cr,slc B1.gb A.G B1.gcap,slc B1.cl A.C B1.ccap,slc B1.cu A.C B1.ucap,B1.tv,slc B1.so A.G B1.scap])∧Row wr (w.heap.size+1) 7 (fl [.int .i64 A.C, .int .u64 A.cr,slc B2.gb A.G B2.gcap,slc B2.cl A.C B2.ccap,slc B2.cu A.C B2.ucap,B2.tv,slc B2.so A.G B2.scap])) (fun v _=> A.G - (RowKit.intOf v).toNat)
 case atStart=> exact ⟨0,rfl,by omega,m4,X4,Y4⟩
 case round=>
  obtain ⟨wk,rfl⟩:∃ W,W=wr:=⟨wr,rfl⟩
  obtain ⟨k,rfl,hk,hmod,X,Y⟩:=hrel
  have a5:=h1.no hmod
  have b5:=h2.no hmod
  have lX5:=X.lt
  have lY5:=Y.lt
  have x6:=X.cL 6 _ (by omega) rfl
  have y6:=Y.cL 6 _ (by omega) rfl
  by_cases hlt:k < A.G
  ·have i0:(k:Int) < A.G:=by omega
   have i1:(0:Int)≤k:=by omega
   have s0:=(a5.1 .so).2.cell hlt
   have s1:=(b5.1 .so).2.cell hlt
   go_upto_region 6 with fail
   refine wp_region_chain (fun w' => w'.cell? ⟨w.heap.size,6,none⟩=some (slc B1.so A.G B1.scap)∧w'.cell? ⟨w.heap.size+1,6,none⟩=some (slc B2.so A.G B2.scap)∧w'.cell? ⟨B1.so,k,none⟩=some (slc (B1.si k) A.C (B1.sc k))∧w'.cell? ⟨B2.so,k,none⟩=some (slc (B2.si k) A.C (B2.sc k))) [10] [11] [] (rds [0,1,2,3,4,5,6,7,8,9] (.ef 10 (rds [11] .nil))) (by kernel_rfl) (by kernel_rfl) ⟨x6,y6,s0,s1⟩ ?_
   intro O hO
   have HO:=Lib.hid hO
   clear hO
   simp only [rds]
   (repeat (first|(refine lxp HO (v:=?_) (fun w'=> ?_) ?_;rotate_left;(focus (go_simp;(try exact rfl);done));try go_simp)|(refine lxr HO (v:=?_) (fun w' hC'=> ?_) ?_;rotate_left;(focus (obtain ⟨c1,c2,c3,c4⟩:=hC';go_simp;(try exact rfl);done));try go_simp)|(refine lxo HO ?_;try go_simp)))
   refine lxe HO (fun Kx hKx=> ?_)
   go_simp
   refine (same_Spots (B1.si k) (B2.si k) A.C (B1.sc k) (B2.sc k) (A.spots k) _ (a5.1 (.si k) hlt).2.drew (b5.1 (.si k) hlt).2.drew (by omega)).mono ?_;rintro e w6 ⟨rfl,hb6⟩
   have mm:Mod No wk w6:=Mod.trans (Mod.refl No wk).drew (Mod.of_below hb6 No) (fun _ _ h=> h)
   have X6:=X.mod mm (fun h=> h)
   have Y6:=Y.mod mm (fun h=> h)
   have m6:Mod No w w6:=Mod.trans hmod mm (fun _ _ h=> h)
   refine hKx _ _ (.inr ⟨X6.cL 6 _ (by omega) rfl,Y6.cL 6 _ (by omega) rfl,((h1.no m6).1 .so).2.cell hlt,((h2.no m6).1 .so).2.cell hlt⟩) ?_
   clear hKx Kx x6 y6 s0 s1
   (repeat (first|(refine lxp HO (v:=?_) (fun w'=> ?_) ?_;rotate_left;(focus (go_simp;(try exact rfl);done));try go_simp)|(refine lxr HO (v:=?_) (fun w' hC'=> ?_) ?_;rotate_left;(focus (obtain ⟨c1,c2,c3,c4⟩:=hC';go_simp;(try exact rfl);done));try go_simp)|(refine lxo HO ?_;try go_simp)))
   refine wpL_nil ?_
   go_wp2
   go_roundw
   case rel=> exact ⟨k+1,by go_num,by omega,m6,X6,Y6⟩
   case measure=> simp only [RowKit.intOf];omega
  ·have i0:(A.G:Int)≤k:=by omega
   go_wp2
   go_ret
   exact ⟨rfl,Mod.below hmod⟩
end Go.Q
namespace Go.Q
open Go.RowKit Go.Proofs
set_option maxRecDepth 100000 in
theorem eq_groups (a b m ca cb:Nat) (par wt:Nat→Int) (w:World) (ha:Row w a (m * 2) (grp par wt)) (hb:Row w b (m * 2) (grp par wt)) (hm:m≤1000000):
  Calls Tryz.prog 101 #[slc a m ca,slc b m cb] w fun e w' => e= .returned (.bool true)∧Below w.heap.size w w' :=by
 have la:=ha.lt
 have lb:=hb.lt
 have k0:((m:Int) !=m)=false:=by simp
 go_enter Tryz.func101,Tryz.ntmps101
 go_wp2
 go_loopw [13] (fun v wr=> ∃ k:Nat,v= .int .i64 k∧k≤m∧Mod No w wr) (fun v _=> m - (RowKit.intOf v).toNat)
 case atStart=> exact ⟨0,rfl,by omega,by (repeat first|(with_reducible exact (Mod.refl No w))|(with_reducible refine Mod.alloc ?_ _)|(with_reducible refine Mod.drew ?_)|(with_reducible refine Mod.drewN ?_ _)|(with_reducible refine Mod.sc ?_))⟩
 case round=>
  obtain ⟨wk,rfl⟩:∃ W,W=wr:=⟨wr,rfl⟩
  obtain ⟨k,rfl,hk,hmod⟩:=hrel
  by_cases hlt:k < m
  ·have i0:(k:Int) < m:=by omega
   have i1:(0:Int)≤k:=by omega
   have A:=ha.mod hmod (fun h=> h)
   have B:=hb.mod hmod (fun h=> h)
   have lA:=A.lt
   have lB:=B.lt
   have a0:=A.cell (i:=k * 2) (by omega)
   rw [grp_even] at a0
   have a1:=A.cell (i:=k * 2+1) (by omega)
   rw [grp_odd] at a1
   have b0:=B.cell (i:=k * 2) (by omega)
   rw [grp_even] at b0
   have b1:=B.cell (i:=k * 2+1) (by omega)
   rw [grp_odd] at b1
   go_upto_region 6 with fail
   go_quiet (fail)
   go_wp2
   go_roundw
   case rel=> exact ⟨k+1,by go_num,by omega,by (repeat first|(with_reducible exact hmod)|(with_reducible refine Mod.alloc ?_ _)|(with_reducible refine Mod.drew ?_)|(with_reducible refine Mod.drewN ?_ _)|(with_reducible refine Mod.sc ?_))⟩
   case measure=> simp only [RowKit.intOf];omega
  ·have i0:(m:Int)≤k:=by omega
   go_wp2
   go_ret
   exact ⟨rfl,Mod.below (by (repeat first|(with_reducible exact hmod)|(with_reducible refine Mod.alloc ?_ _)|(with_reducible refine Mod.drew ?_)|(with_reducible refine Mod.drewN ?_ _)|(with_reducible refine Mod.sc ?_)))⟩
set_option maxRecDepth 100000 in
theorem eq_spots (a b m ca cb:Nat) (f:Nat→Int×Int×Int) (w:World) (ha:Row w a (m * 3) (spt f)) (hb:Row w b (m * 3) (spt f)) (hm:m≤1000000):
  Calls Tryz.prog 105 #[slc a m ca,slc b m cb] w fun e w' => e= .returned (.bool true)∧Below w.heap.size w w' :=by
 have la:=ha.lt
 have lb:=hb.lt
 have k0:((m:Int) !=m)=false:=by simp
 go_enter Tryz.func105,Tryz.ntmps105
 go_wp2
 go_loopw [13] (fun v wr=> ∃ k:Nat,v= .int .i64 k∧k≤m∧Mod No w wr) (fun v _=> m - (RowKit.intOf v).toNat)
 case atStart=> exact ⟨0,rfl,by omega,by (repeat first|(with_reducible exact (Mod.refl No w))|(with_reducible refine Mod.alloc ?_ _)|(with_reducible refine Mod.drew ?_)|(with_reducible refine Mod.drewN ?_ _)|(with_reducible refine Mod.sc ?_))⟩
 case round=>
  obtain ⟨wk,rfl⟩:∃ W,W=wr:=⟨wr,rfl⟩
  obtain ⟨k,rfl,hk,hmod⟩:=hrel
  by_cases hlt:k < m
  ·have i0:(k:Int) < m:=by omega
   have i1:(0:Int)≤k:=by omega
   have A:=ha.mod hmod (fun h=> h)
   have B:=hb.mod hmod (fun h=> h)
   have lA:=A.lt
   have lB:=B.lt
   have a0:=A.cell (i:=k * 3) (by omega)
   rw [spt0] at a0
   have a1:=A.cell (i:=k * 3+1) (by omega)
   rw [spt1] at a1
   have a2:=A.cell (i:=k * 3+2) (by omega)
   rw [spt2] at a2
   have b0:=B.cell (i:=k * 3) (by omega)
   rw [spt0] at b0
   have b1:=B.cell (i:=k * 3+1) (by omega)
   rw [spt1] at b1
   have b2:=B.cell (i:=k * 3+2) (by omega)
   rw [spt2] at b2
   go_upto_region 6 with fail
   go_quiet (fail)
   go_wp2
   go_roundw
   case rel=> exact ⟨k+1,by go_num,by omega,by (repeat first|(with_reducible exact hmod)|(with_reducible refine Mod.alloc ?_ _)|(with_reducible refine Mod.drew ?_)|(with_reducible refine Mod.drewN ?_ _)|(with_reducible refine Mod.sc ?_))⟩
   case measure=> simp only [RowKit.intOf];omega
  ·have i0:(m:Int)≤k:=by omega
   go_wp2
   go_ret
   exact ⟨rfl,Mod.below (by (repeat first|(with_reducible exact hmod)|(with_reducible refine Mod.alloc ?_ _)|(with_reducible refine Mod.drew ?_)|(with_reducible refine Mod.drewN ?_ _)|(with_reducible refine Mod.sc ?_)))⟩
set_option maxRecDepth 100000 in
theorem eq_ints (a b m ca cb:Nat) (f:Nat→Int) (w:World) (ha:Row w a (m * 1) (ints f)) (hb:Row w b (m * 1) (ints f)) (hm:m≤1000000):
  Calls Tryz.prog 102 #[slc a m ca,slc b m cb] w fun e w' => e= .returned (.bool true)∧Below w.heap.size w w' :=by
 have la:=ha.lt
 have lb:=hb.lt
 have k0:((m:Int) !=m)=false:=by simp
 go_enter Tryz.func102,Tryz.ntmps102
 go_wp2
 go_loopw [13] (fun v wr=> ∃ k:Nat,v= .int .i64 k∧k≤m∧Mod No w wr) (fun v _=> m - (RowKit.intOf v).toNat)
 case atStart=> exact ⟨0,rfl,by omega,by (repeat first|(with_reducible exact (Mod.refl No w))|(with_reducible refine Mod.alloc ?_ _)|(with_reducible refine Mod.drew ?_)|(with_reducible refine Mod.drewN ?_ _)|(with_reducible refine Mod.sc ?_))⟩
 case round=>
  obtain ⟨wk,rfl⟩:∃ W,W=wr:=⟨wr,rfl⟩
  obtain ⟨k,rfl,hk,hmod⟩:=hrel
  by_cases hlt:k < m
  ·have i0:(k:Int) < m:=by omega
   have i1:(0:Int)≤k:=by omega
   have A:=ha.mod hmod (fun h=> h)
   have B:=hb.mod hmod (fun h=> h)
   have lA:=A.lt
   have lB:=B.lt
   have a0:=A.cell (i:=k) (by omega)
   have b0:=B.cell (i:=k) (by omega)
   simp only [ints] at a0 b0
   go_upto_region 6 with fail
   go_quiet (fail)
   go_wp2
   go_roundw
   case rel=> exact ⟨k+1,by go_num,by omega,by (repeat first|(with_reducible exact hmod)|(with_reducible refine Mod.alloc ?_ _)|(with_reducible refine Mod.drew ?_)|(with_reducible refine Mod.drewN ?_ _)|(with_reducible refine Mod.sc ?_))⟩
   case measure=> simp only [RowKit.intOf];omega
  ·have i0:(m:Int)≤k:=by omega
   go_wp2
   go_ret
   exact ⟨rfl,Mod.below (by (repeat first|(with_reducible exact hmod)|(with_reducible refine Mod.alloc ?_ _)|(with_reducible refine Mod.drew ?_)|(with_reducible refine Mod.drewN ?_ _)|(with_reducible refine Mod.sc ?_)))⟩
set_option maxRecDepth 100000 in
theorem eq_tasks1 (a b ca cb:Nat) (t:TK) (w:World) (ha:Row w a 8 (fl (tkc t))) (hb:Row w b 8 (fl (tkc t))):
  Calls Tryz.prog 103 #[slc a 1 ca,slc b 1 cb] w fun e w' => e= .returned (.bool true)∧Below w.heap.size w w' :=by
 go_enter Tryz.func103,Tryz.ntmps103
 go_wp2
 go_loopw [13] (fun v wr=> ∃ k:Nat,v= .int .i64 k∧k≤1∧Mod No w wr) (fun v _=> 1 - (RowKit.intOf v).toNat)
 case atStart=> exact ⟨0,rfl,by omega,by (repeat first|(with_reducible exact (Mod.refl No w))|(with_reducible refine Mod.alloc ?_ _)|(with_reducible refine Mod.drew ?_)|(with_reducible refine Mod.drewN ?_ _)|(with_reducible refine Mod.sc ?_))⟩
 case round=>
  obtain ⟨wk,rfl⟩:∃ W,W=wr:=⟨wr,rfl⟩
  obtain ⟨k,rfl,hk,hmod⟩:=hrel
  by_cases hlt:k < 1
  ·obtain rfl:k=0:=by omega
   have A:=ha.mod hmod (fun h=> h)
   have B:=hb.mod hmod (fun h=> h)
   have lA:=A.lt
   have lB:=B.lt
   have a0:wk.cell? ⟨a,0,none⟩=some (.int .i64 t.id):=A.cL 0 _ (by omega) rfl
   have b0:wk.cell? ⟨b,0,none⟩=some (.int .i64 t.id):=B.cL 0 _ (by omega) rfl
   have a1:wk.cell? ⟨a,1,none⟩=some (.int .i64 t.group):=A.cL 1 _ (by omega) rfl
   have b1:wk.cell? ⟨b,1,none⟩=some (.int .i64 t.group):=B.cL 1 _ (by omega) rfl
   have a2:wk.cell? ⟨a,2,none⟩=some (.int .i64 t.weight):=A.cL 2 _ (by omega) rfl
   have b2:wk.cell? ⟨b,2,none⟩=some (.int .i64 t.weight):=B.cL 2 _ (by omega) rfl
   have a3:wk.cell? ⟨a,3,none⟩=some (.int .i64 t.cpu):=A.cL 3 _ (by omega) rfl
   have b3:wk.cell? ⟨b,3,none⟩=some (.int .i64 t.cpu):=B.cL 3 _ (by omega) rfl
   have a4:wk.cell? ⟨a,4,none⟩=some (.int .u64 t.mask):=A.cL 4 _ (by omega) rfl
   have b4:wk.cell? ⟨b,4,none⟩=some (.int .u64 t.mask):=B.cL 4 _ (by omega) rfl
   have a5:wk.cell? ⟨a,5,none⟩=some (.bool t.ready):=A.cL 5 _ (by omega) rfl
   have b5:wk.cell? ⟨b,5,none⟩=some (.bool t.ready):=B.cL 5 _ (by omega) rfl
   have a6:wk.cell? ⟨a,6,none⟩=some (.int .u64 t.v):=A.cL 6 _ (by omega) rfl
   have b6:wk.cell? ⟨b,6,none⟩=some (.int .u64 t.v):=B.cL 6 _ (by omega) rfl
   have a7:wk.cell? ⟨a,7,none⟩=some (.int .u32 t.r):=A.cL 7 _ (by omega) rfl
   have b7:wk.cell? ⟨b,7,none⟩=some (.int .u32 t.r):=B.cL 7 _ (by omega) rfl
   go_upto_region 6 with fail
   go_quiet (fail)
   go_wp2
   go_roundw
   case rel=> exact ⟨1,by go_num,by omega,by (repeat first|(with_reducible exact hmod)|(with_reducible refine Mod.alloc ?_ _)|(with_reducible refine Mod.drew ?_)|(with_reducible refine Mod.drewN ?_ _)|(with_reducible refine Mod.sc ?_))⟩
   case measure=> simp only [RowKit.intOf];omega
  ·obtain rfl:k=1:=by omega
   go_wp2
   go_ret
   exact ⟨rfl,Mod.below (by (repeat first|(with_reducible exact hmod)|(with_reducible refine Mod.alloc ?_ _)|(with_reducible refine Mod.drew ?_)|(with_reducible refine Mod.drewN ?_ _)|(with_reducible refine Mod.sc ?_)))⟩
set_option maxRecDepth 100000 in
theorem eq_rows (w:World) (o1 o2:Nat→SOwn) (B1 B2:STB) (A:ASt) (h1:StAt w o1 B1 A) (h2:StAt w o2 B2 A) (hG:A.G≤256) (hC:A.C≤64):
  Calls Tryz.prog 104 #[slc B1.so A.G B1.scap,slc B2.so A.G B2.scap, .func (.func 105) #[] #[]] w fun e w' => e= .returned (.bool true)∧Below w.heap.size w w' :=by
 have k0:((A.G:Int) !=A.G)=false:=by simp
 go_enter Tryz.func104,Tryz.ntmps104
 go_wp2
 go_loopw [17] (fun v wr=> ∃ k:Nat,v= .int .i64 k∧k≤A.G∧Mod No w wr) (fun v _=> A.G - (RowKit.intOf v).toNat)
 case atStart=> exact ⟨0,rfl,by omega,by (repeat first|(with_reducible exact (Mod.refl No w))|(with_reducible refine Mod.alloc ?_ _)|(with_reducible refine Mod.drew ?_)|(with_reducible refine Mod.drewN ?_ _)|(with_reducible refine Mod.sc ?_))⟩
 case round=>
  obtain ⟨wk,rfl⟩:∃ W,W=wr:=⟨wr,rfl⟩
  obtain ⟨k,rfl,hk,hmod⟩:=hrel
  by_cases hlt:k < A.G
  ·have i0:(k:Int) < A.G:=by omega
   have i1:(0:Int)≤k:=by omega
   have S1:=h1.no hmod
   have S2:=h2.no hmod
   have q1:wk.cell? ⟨B1.so,k,none⟩=some (slc (B1.si k) A.C (B1.sc k)):=(S1.1 .so).2.cell hlt
   have q2:wk.cell? ⟨B2.so,k,none⟩=some (slc (B2.si k) A.C (B2.sc k)):=(S2.1 .so).2.cell hlt
   go_wp2_with fail
   refine (eq_spots (B1.si k) (B2.si k) A.C (B1.sc k) (B2.sc k) (A.spots k) _ (S1.1 (.si k) hlt).2 (S2.1 (.si k) hlt).2 (by omega)).mono ?_;rintro e w5 ⟨rfl,hb5⟩
   have m5:Mod No w w5:=Mod.trans hmod (Mod.of_below hb5 No) (fun _ _ h=> h)
   go_wp2
   refine ⟨⟨k+1,by go_num,by omega,m5⟩,by simp only [RowKit.intOf];omega⟩
  ·obtain rfl:k=A.G:=by omega
   have i0:(A.G:Int)≤A.G:=by omega
   go_wp2
   go_ret
   exact ⟨rfl,Mod.below (by (repeat first|(with_reducible exact hmod)|(with_reducible refine Mod.alloc ?_ _)|(with_reducible refine Mod.drew ?_)|(with_reducible refine Mod.drewN ?_ _)|(with_reducible refine Mod.sc ?_)))⟩
end Go.Q
set_option linter.unnecessarySimpa false
namespace Go.Q
open Go.RowKit Go.Proofs
set_option maxRecDepth 100000 in
set_option maxHeartbeats 4000000 in
theorem canSame_ok (w:World) (o1 o2:Nat→SOwn) (B1 B2:STB) (A:ASt) (t:TK) (ht:A.task=some t) (nx:Nat) (n1:nx≤1000) (h1:StAt w o1 B1 A) (h2:StAt w o2 B2 A) (hG:A.G≤256) (hC:A.C≤64):
  Calls Tryz.prog 31 #[snv nx B1 A,snv nx B2 A] w fun e w' => e= .returned (.bool true)∧Below w.heap.size w w' :=by
 obtain ⟨tb,tc,hv1,_,R1⟩:=h1.t1 ht
 obtain ⟨ub,uc,hv2,_,R2⟩:=h2.t1 ht
 have e1:((nx:Int)==nx)=true:=by simp
 have e2:((A.C:Int)==A.C)=true:=by simp
 have e3:(A.cr==A.cr)=true:=by simp
 rw [show snv nx B1 A= .agg #[.int .i64 nx, .int .i64 A.C, .int .u64 A.cr,slc B1.gb A.G B1.gcap,slc B1.cl A.C B1.ccap,slc B1.cu A.C B1.ucap,slc tb 1 tc,slc B1.so A.G B1.scap] from by rw [←hv1],show snv nx B2 A= .agg #[.int .i64 nx, .int .i64 A.C, .int .u64 A.cr,slc B2.gb A.G B2.gcap,slc B2.cl A.C B2.ccap,slc B2.cu A.C B2.ucap,slc ub 1 uc,slc B2.so A.G B2.scap] from by rw [←hv2]]
 clear hv1 hv2
 go_enter Tryz.func31,Tryz.ntmps31
 go_upto_region 1 with fail
 refine wp_world (fun V=> Mod No w V∧Row V w.heap.size 8 (fl [.int .i64 nx, .int .i64 A.C, .int .u64 A.cr,slc B1.gb A.G B1.gcap,slc B1.cl A.C B1.ccap,slc B1.cu A.C B1.ucap,slc tb 1 tc,slc B1.so A.G B1.scap])∧Row V (w.heap.size+1) 8 (fl [.int .i64 nx, .int .i64 A.C, .int .u64 A.cr,slc B2.gb A.G B2.gcap,slc B2.cl A.C B2.ccap,slc B2.cu A.C B2.ucap,slc ub 1 uc,slc B2.so A.G B2.scap])) ⟨((Mod.refl No w).alloc _).alloc _,(row_newL w [_,_,_,_,_,_,_,_] _).alloc _,row_newL' _ _ [_,_,_,_,_,_,_,_] _ (by simp)⟩ ?_
 intro V ⟨mV,XV,YV⟩
 have lX:=XV.lt
 have lY:=YV.lt
 have mS:∀ w',Mod No V w' →w'.cell? ⟨w.heap.size,1,none⟩=some (.int .i64 A.C)∧w'.cell? ⟨w.heap.size,2,none⟩=some (.int .u64 A.cr)∧w'.cell? ⟨w.heap.size,3,none⟩=some (slc B1.gb A.G B1.gcap)∧w'.cell? ⟨w.heap.size,4,none⟩=some (slc B1.cl A.C B1.ccap)∧w'.cell? ⟨w.heap.size,5,none⟩=some (slc B1.cu A.C B1.ucap)∧w'.cell? ⟨w.heap.size,6,none⟩=some (slc tb 1 tc)∧w'.cell? ⟨w.heap.size,7,none⟩=some (slc B1.so A.G B1.scap)∧w'.cell? ⟨w.heap.size+1,1,none⟩=some (.int .i64 A.C)∧w'.cell? ⟨w.heap.size+1,2,none⟩=some (.int .u64 A.cr)∧w'.cell? ⟨w.heap.size+1,3,none⟩=some (slc B2.gb A.G B2.gcap)∧w'.cell? ⟨w.heap.size+1,4,none⟩=some (slc B2.cl A.C B2.ccap)∧w'.cell? ⟨w.heap.size+1,5,none⟩=some (slc B2.cu A.C B2.ucap)∧w'.cell? ⟨w.heap.size+1,6,none⟩=some (slc ub 1 uc)∧w'.cell? ⟨w.heap.size+1,7,none⟩=some (slc B2.so A.G B2.scap):=fun w' hm=> by
  have X:=XV.mod hm (fun h=> h)
  have Y:=YV.mod hm (fun h=> h)
  exact ⟨X.cL 1 _ (by omega) rfl,X.cL 2 _ (by omega) rfl,X.cL 3 _ (by omega) rfl,X.cL 4 _ (by omega) rfl,X.cL 5 _ (by omega) rfl,X.cL 6 _ (by omega) rfl,X.cL 7 _ (by omega) rfl,Y.cL 1 _ (by omega) rfl,Y.cL 2 _ (by omega) rfl,Y.cL 3 _ (by omega) rfl,Y.cL 4 _ (by omega) rfl,Y.cL 5 _ (by omega) rfl,Y.cL 6 _ (by omega) rfl,Y.cL 7 _ (by omega) rfl⟩
 go_cut [5,6] (fun s5 s6 wx=> ∃ x y,s5=ptr x∧s6=ptr y∧Row wx x 7 (fl [.int .i64 A.C, .int .u64 A.cr,slc B1.gb A.G B1.gcap,slc B1.cl A.C B1.ccap,slc B1.cu A.C B1.ucap,slc tb 1 tc,slc B1.so A.G B1.scap])∧Row wx y 7 (fl [.int .i64 A.C, .int .u64 A.cr,slc B2.gb A.G B2.gcap,slc B2.cl A.C B2.ccap,slc B2.cu A.C B2.ucap,slc ub 1 uc,slc B2.so A.G B2.scap])∧Mod No V wx)
 case first=>
  refine wp_region_chain (fun w' => w'.cell? ⟨w.heap.size,1,none⟩=some (.int .i64 A.C)∧w'.cell? ⟨w.heap.size,2,none⟩=some (.int .u64 A.cr)∧w'.cell? ⟨w.heap.size,3,none⟩=some (slc B1.gb A.G B1.gcap)∧w'.cell? ⟨w.heap.size,4,none⟩=some (slc B1.cl A.C B1.ccap)∧w'.cell? ⟨w.heap.size,5,none⟩=some (slc B1.cu A.C B1.ucap)∧w'.cell? ⟨w.heap.size,6,none⟩=some (slc tb 1 tc)∧w'.cell? ⟨w.heap.size,7,none⟩=some (slc B1.so A.G B1.scap)∧w'.cell? ⟨w.heap.size+1,1,none⟩=some (.int .i64 A.C)∧w'.cell? ⟨w.heap.size+1,2,none⟩=some (.int .u64 A.cr)∧w'.cell? ⟨w.heap.size+1,3,none⟩=some (slc B2.gb A.G B2.gcap)∧w'.cell? ⟨w.heap.size+1,4,none⟩=some (slc B2.cl A.C B2.ccap)∧w'.cell? ⟨w.heap.size+1,5,none⟩=some (slc B2.cu A.C B2.ucap)∧w'.cell? ⟨w.heap.size+1,6,none⟩=some (slc ub 1 uc)∧w'.cell? ⟨w.heap.size+1,7,none⟩=some (slc B2.so A.G B2.scap)) [4,5,6,7] [] [7] (rds [0,1,2,3] (.ef2 4 (.ef 5 (.ef 6 (.ef 7 .nil))) 5 (.ef 4 (.ef 6 (.ef 7 .nil))))) (by kernel_rfl) (by kernel_rfl) (mS _ (Mod.refl No V).drew) ?_
  intro OO hO
  have HO:=Lib.hid hO
  clear hO
  simp only [rds]
  (repeat (first|(refine lxp HO (v:=?_) (fun w'=> ?_) ?_;rotate_left;(focus (go_simp;(try exact rfl);done));try go_simp)|(refine lxr HO (v:=?_) (fun w' hC'=> ?_) ?_;rotate_left;(focus (obtain ⟨c1,c2,c3,c4,c5,c6,c7,c8,c9,c10,c11,c12,c13,c14⟩:=hC';go_simp;(try exact rfl);done));try go_simp)|(refine lxo HO ?_;try go_simp)))
  refine wpL_eff2 ?a1 ?a2
  case a1=>
   (refine lxe HO (fun K hK=> ?_);go_simp;refine hK _ _ ?_ ?_;all_goals clear hK K)
   ·exact .inr (mS _ (by (repeat first|(with_reducible exact (Mod.refl No V))|(with_reducible refine Mod.alloc ?_ _)|(with_reducible refine Mod.drew ?_)|(with_reducible refine Mod.drewN ?_ _)|(with_reducible refine Mod.sc ?_))))
   (refine lxe HO (fun K hK=> ?_);go_simp;refine hK _ _ ?_ ?_;all_goals clear hK K)
   ·exact .inr (mS _ (by (repeat first|(with_reducible exact (Mod.refl No V))|(with_reducible refine Mod.alloc ?_ _)|(with_reducible refine Mod.drew ?_)|(with_reducible refine Mod.drewN ?_ _)|(with_reducible refine Mod.sc ?_))))
   (refine lxe HO (fun K hK=> ?_);go_simp;refine hK _ _ ?_ ?_;all_goals clear hK K)
   ·exact .inr (mS _ (by (repeat first|(with_reducible exact (Mod.refl No V))|(with_reducible refine Mod.alloc ?_ _)|(with_reducible refine Mod.drew ?_)|(with_reducible refine Mod.drewN ?_ _)|(with_reducible refine Mod.sc ?_))))
   (refine lxe HO (fun K hK=> ?_);go_simp;refine hK _ _ (.inl (by rfl)) ?_;clear hK K)
   refine wpL_nil ?_
   go_wp2_with fail
   go_meet
   refine ⟨V.heap.size,V.heap.size+1,rfl,rfl, ?_, ?_,by (repeat first|(with_reducible exact (Mod.refl No V))|(with_reducible refine Mod.alloc ?_ _)|(with_reducible refine Mod.drew ?_)|(with_reducible refine Mod.drewN ?_ _)|(with_reducible refine Mod.sc ?_))⟩
   ·repeat (first|(refine row_newL' _ _ [_,_,_,_,_,_,_] _ ?_;(simp;done))|refine Row.alloc ?_ _|refine Row.drew ?_)
   ·repeat (first|(refine row_newL' _ _ [_,_,_,_,_,_,_] _ ?_;(simp;done))|refine Row.alloc ?_ _|refine Row.drew ?_)
  case a2=>
   (refine lxe HO (fun K hK=> ?_);go_simp;refine hK _ _ ?_ ?_;all_goals clear hK K)
   ·exact .inr (mS _ (by (repeat first|(with_reducible exact (Mod.refl No V))|(with_reducible refine Mod.alloc ?_ _)|(with_reducible refine Mod.drew ?_)|(with_reducible refine Mod.drewN ?_ _)|(with_reducible refine Mod.sc ?_))))
   (refine lxe HO (fun K hK=> ?_);go_simp;refine hK _ _ ?_ ?_;all_goals clear hK K)
   ·exact .inr (mS _ (by (repeat first|(with_reducible exact (Mod.refl No V))|(with_reducible refine Mod.alloc ?_ _)|(with_reducible refine Mod.drew ?_)|(with_reducible refine Mod.drewN ?_ _)|(with_reducible refine Mod.sc ?_))))
   (refine lxe HO (fun K hK=> ?_);go_simp;refine hK _ _ ?_ ?_;all_goals clear hK K)
   ·exact .inr (mS _ (by (repeat first|(with_reducible exact (Mod.refl No V))|(with_reducible refine Mod.alloc ?_ _)|(with_reducible refine Mod.drew ?_)|(with_reducible refine Mod.drewN ?_ _)|(with_reducible refine Mod.sc ?_))))
   (refine lxe HO (fun K hK=> ?_);go_simp;refine hK _ _ (.inl (by rfl)) ?_;clear hK K)
   refine wpL_nil ?_
   go_wp2_with fail
   go_meet
   refine ⟨V.heap.size+1,V.heap.size,rfl,rfl, ?_, ?_,by (repeat first|(with_reducible exact (Mod.refl No V))|(with_reducible refine Mod.alloc ?_ _)|(with_reducible refine Mod.drew ?_)|(with_reducible refine Mod.drewN ?_ _)|(with_reducible refine Mod.sc ?_))⟩
   ·repeat (first|(refine row_newL' _ _ [_,_,_,_,_,_,_] _ ?_;(simp;done))|refine Row.alloc ?_ _|refine Row.drew ?_)
   ·repeat (first|(refine row_newL' _ _ [_,_,_,_,_,_,_] _ ?_;(simp;done))|refine Row.alloc ?_ _|refine Row.drew ?_)
 case rest=>
 obtain ⟨x,y,rfl,rfl,RX,RY,mx⟩:=hcut
 have m0:Mod No w wc:=Mod.trans mV mx (fun _ _ h=> h)
 have p0:=(XV.mod mx (fun h=> h)).cL 0 _ (by have:=(XV.mod mx (fun h=> h)).lt;omega) rfl
 have p1:=(YV.mod mx (fun h=> h)).cL 0 _ (by have:=(YV.mod mx (fun h=> h)).lt;omega) rfl
 have S1:=h1.no m0
 have S2:=h2.no m0
 have T1:=R1.mod m0 (fun h=> h)
 have T2:=R2.mod m0 (fun h=> h)
 clear mS
 have lx:=RX.lt
 have ly:=RY.lt
 have lxx:=(XV.mod mx (fun h=> h)).lt
 have lyy:=(YV.mod mx (fun h=> h)).lt
 have x0:=RX.cL 0 _ (by omega) rfl
 have x1:=RX.cL 1 _ (by omega) rfl
 have x2:=RX.cL 2 _ (by omega) rfl
 have x3:=RX.cL 3 _ (by omega) rfl
 have x4:=RX.cL 4 _ (by omega) rfl
 have x5:=RX.cL 5 _ (by omega) rfl
 have x6:=RX.cL 6 _ (by omega) rfl
 have y0:=RY.cL 0 _ (by omega) rfl
 have y1:=RY.cL 1 _ (by omega) rfl
 have y2:=RY.cL 2 _ (by omega) rfl
 have y3:=RY.cL 3 _ (by omega) rfl
 have y4:=RY.cL 4 _ (by omega) rfl
 have y5:=RY.cL 5 _ (by omega) rfl
 have y6:=RY.cL 6 _ (by omega) rfl
 go_wp2_with fail
 refine (eq_groups B1.gb B2.gb A.G B1.gcap B2.gcap A.par A.wt _ (S1.1 .gb).2 (S2.1 .gb).2 (by omega)).mono ?_;rintro e w1 ⟨rfl,hb1⟩
 have n1:=Mod.of_below hb1 No
 replace m0:=Mod.trans m0 n1 (fun _ _ h=> h)
 replace S1:=S1.no n1
 replace S2:=S2.no n1
 replace T1:=T1.mod n1 (fun h=> h)
 replace T2:=T2.mod n1 (fun h=> h)
 replace RX:=RX.mod n1 (fun h=> h)
 replace RY:=RY.mod n1 (fun h=> h)
 clear hb1 n1 x0 x1 x2 x3 x4 x5 x6 y0 y1 y2 y3 y4 y5 y6 lx ly
 have lx:=RX.lt
 have ly:=RY.lt
 have x0:=RX.cL 0 _ (by omega) rfl
 have x1:=RX.cL 1 _ (by omega) rfl
 have x2:=RX.cL 2 _ (by omega) rfl
 have x3:=RX.cL 3 _ (by omega) rfl
 have x4:=RX.cL 4 _ (by omega) rfl
 have x5:=RX.cL 5 _ (by omega) rfl
 have x6:=RX.cL 6 _ (by omega) rfl
 have y0:=RY.cL 0 _ (by omega) rfl
 have y1:=RY.cL 1 _ (by omega) rfl
 have y2:=RY.cL 2 _ (by omega) rfl
 have y3:=RY.cL 3 _ (by omega) rfl
 have y4:=RY.cL 4 _ (by omega) rfl
 have y5:=RY.cL 5 _ (by omega) rfl
 have y6:=RY.cL 6 _ (by omega) rfl
 go_wp2_with fail
 refine (eq_ints B1.cl B2.cl A.C B1.ccap B2.ccap A.clocks _ (by rw [Nat.mul_one];exact (S1.1 .cl).2) (by rw [Nat.mul_one];exact (S2.1 .cl).2) (by omega)).mono ?_;rintro e w2 ⟨rfl,hb2⟩
 have n2:=Mod.of_below hb2 No
 replace m0:=Mod.trans m0 n2 (fun _ _ h=> h)
 replace S1:=S1.no n2
 replace S2:=S2.no n2
 replace T1:=T1.mod n2 (fun h=> h)
 replace T2:=T2.mod n2 (fun h=> h)
 replace RX:=RX.mod n2 (fun h=> h)
 replace RY:=RY.mod n2 (fun h=> h)
 clear hb2 n2 x0 x1 x2 x3 x4 x5 x6 y0 y1 y2 y3 y4 y5 y6 lx ly
 have lx:=RX.lt
 have ly:=RY.lt
 have x0:=RX.cL 0 _ (by omega) rfl
 have x1:=RX.cL 1 _ (by omega) rfl
 have x2:=RX.cL 2 _ (by omega) rfl
 have x3:=RX.cL 3 _ (by omega) rfl
 have x4:=RX.cL 4 _ (by omega) rfl
 have x5:=RX.cL 5 _ (by omega) rfl
 have x6:=RX.cL 6 _ (by omega) rfl
 have y0:=RY.cL 0 _ (by omega) rfl
 have y1:=RY.cL 1 _ (by omega) rfl
 have y2:=RY.cL 2 _ (by omega) rfl
 have y3:=RY.cL 3 _ (by omega) rfl
 have y4:=RY.cL 4 _ (by omega) rfl
 have y5:=RY.cL 5 _ (by omega) rfl
 have y6:=RY.cL 6 _ (by omega) rfl
 go_wp2_with fail
 refine (eq_ints B1.cu B2.cu A.C B1.ucap B2.ucap A.current _ (by rw [Nat.mul_one];exact (S1.1 .cu).2) (by rw [Nat.mul_one];exact (S2.1 .cu).2) (by omega)).mono ?_;rintro e w3 ⟨rfl,hb3⟩
 have n3:=Mod.of_below hb3 No
 replace m0:=Mod.trans m0 n3 (fun _ _ h=> h)
 replace S1:=S1.no n3
 replace S2:=S2.no n3
 replace T1:=T1.mod n3 (fun h=> h)
 replace T2:=T2.mod n3 (fun h=> h)
 replace RX:=RX.mod n3 (fun h=> h)
 replace RY:=RY.mod n3 (fun h=> h)
 clear hb3 n3 x0 x1 x2 x3 x4 x5 x6 y0 y1 y2 y3 y4 y5 y6 lx ly
 have lx:=RX.lt
 have ly:=RY.lt
 have x0:=RX.cL 0 _ (by omega) rfl
 have x1:=RX.cL 1 _ (by omega) rfl
 have x2:=RX.cL 2 _ (by omega) rfl
 have x3:=RX.cL 3 _ (by omega) rfl
 have x4:=RX.cL 4 _ (by omega) rfl
 have x5:=RX.cL 5 _ (by omega) rfl
 have x6:=RX.cL 6 _ (by omega) rfl
 have y0:=RY.cL 0 _ (by omega) rfl
 have y1:=RY.cL 1 _ (by omega) rfl
 have y2:=RY.cL 2 _ (by omega) rfl
 have y3:=RY.cL 3 _ (by omega) rfl
 have y4:=RY.cL 4 _ (by omega) rfl
 have y5:=RY.cL 5 _ (by omega) rfl
 have y6:=RY.cL 6 _ (by omega) rfl
 go_wp2_with fail
 refine (eq_tasks1 tb ub tc uc t _ T1 T2).mono ?_;rintro e w4 ⟨rfl,hb4⟩
 have n4:=Mod.of_below hb4 No
 replace m0:=Mod.trans m0 n4 (fun _ _ h=> h)
 replace S1:=S1.no n4
 replace S2:=S2.no n4
 replace T1:=T1.mod n4 (fun h=> h)
 replace T2:=T2.mod n4 (fun h=> h)
 replace RX:=RX.mod n4 (fun h=> h)
 replace RY:=RY.mod n4 (fun h=> h)
 clear hb4 n4 x0 x1 x2 x3 x4 x5 x6 y0 y1 y2 y3 y4 y5 y6 lx ly
 have lx:=RX.lt
 have ly:=RY.lt
 have x0:=RX.cL 0 _ (by omega) rfl
 have x1:=RX.cL 1 _ (by omega) rfl
 have x2:=RX.cL 2 _ (by omega) rfl
 have x3:=RX.cL 3 _ (by omega) rfl
 have x4:=RX.cL 4 _ (by omega) rfl
 have x5:=RX.cL 5 _ (by omega) rfl
 have x6:=RX.cL 6 _ (by omega) rfl
 have y0:=RY.cL 0 _ (by omega) rfl
 have y1:=RY.cL 1 _ (by omega) rfl
 have y2:=RY.cL 2 _ (by omega) rfl
 have y3:=RY.cL 3 _ (by omega) rfl
 have y4:=RY.cL 4 _ (by omega) rfl
 have y5:=RY.cL 5 _ (by omega) rfl
 have y6:=RY.cL 6 _ (by omega) rfl
 go_wp2_with fail
 refine (eq_rows _ o1 o2 B1 B2 A S1 S2 hG hC).mono ?_;rintro e w5 ⟨rfl,hb5⟩
 go_wp2
 go_ret
 exact ⟨rfl,Mod.below (Mod.trans m0 (Mod.of_below hb5 No) (fun _ _ h=> h))⟩
end Go.Q
