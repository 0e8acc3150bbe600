/- A part of the proof that TopGreat answers true: what some of the functions on its road compute. -/
import Derived.Deep.DeepCutAuto
import Derived.Test.YtckddephdbhagaaGreatDoorQ11
set_option linter.unusedVariables false
set_option linter.unusedSimpArgs false
namespace Go.Q
open Go.RowKit Go.Proofs
structure ROk (A:ASt) (d:Nat) (t:TK) (g0 c0:Nat):Prop where
 T:Tree A.G A.par A.wt
 one:One1 A d
 vok:VOk A
 ht:A.task=some t
 htg:t.group=g0
 hg0:g0 < A.G
 htc:t.cpu=c0
 hc0:c0 < A.C
 C:A.C=64
 cr:0≤A.cr∧A.cr≤1099511627776
 cl:∀ c,c < A.C→0≤A.clocks c∧A.clocks c≤281474976710656
 sp:∀ g c,g < A.G→c < A.C→REnt (A.spots g c).1 (A.spots g c).2.1 (A.wt g)
 s0:∀ c,c < A.C→(A.spots 0 c).1=0∧(A.spots 0 c).2.1=0
 w1:1≤t.weight
 w2:t.weight≤65536
 m0:0≤t.mask
 m1:t.mask < 18446744073709551616
 m2:bits BinOp.and IntKind.u64 (t.mask / 2 ^ c0) 1=1
 ent:REnt t.v t.r t.weight
 cu:∀ c,c < A.C→A.current c=0∨(A.current c=t.id∧c=c0)
 fl:∀ g c p,g < A.G→c < A.C→memb A d g c=some p→p.1≤(A.spots g c).2.2
section
variable {A:ASt} {d:Nat}
set_option maxRecDepth 100000 in
set_option maxHeartbeats 4000000 in
theorem shaped_ok (t:TK) (g0 c0:Nat) (h:ROk A d t g0 c0) (w:World) (ow:Nat→SOwn) (B:STB) (hs:StAt w ow B A):
  Calls Tryz.prog 245 #[stv B A] w fun e w' => e= .returned (.bool true)∧Below w.heap.size w w' :=by
 obtain ⟨tb,tc,htv,_,RT⟩:=hs.t1 h.ht
 have hG:=h.T.g2
 have hG1:=h.T.g1
 obtain ⟨hrd,_,_,_,id0,id1⟩:=h.one.ok t h.ht
 have hC64:A.C≤64:=by have:=h.C;omega
 have hC1:1≤A.C:=by have:=h.C;omega
 have HI:=Lib.hid (And.intro h hs)
 have hw1t:=h.w1
 have hw2t:=h.w2
 rw [show stv B A= .agg #[.int .i64 A.C, .int .u64 A.cr,slc B.gb A.G B.gcap,slc B.cl A.C B.ccap,slc B.cu A.C B.ucap,slc tb 1 tc,slc B.so A.G B.scap] from by rw [←htv]]
 clear htv h
 go_enter Tryz.func245,Tryz.ntmps245
 go_wp2_with fail
 refine (rightConfig_ok A.C A.cr B.gb A.G B.gcap A.par A.wt (by omega) (by omega) HI.out.1.cr.1 HI.out.1.cr.2 HI.out.1.T _ ((hs.1 .gb).2.alloc _)).mono ?_;rintro e w1 ⟨rfl,hb1⟩
 have m1:Mod No w w1:=Mod.trans ((Mod.refl No w).alloc _) (Mod.of_below hb1 No) (fun _ _ h=> h)
 have X1:Row w1 w.heap.size 7 (fl [.int .i64 A.C, .int .u64 A.cr,slc B.gb A.G B.gcap,slc B.cl A.C B.ccap,slc B.cu A.C B.ucap,slc tb 1 tc,slc B.so A.G B.scap]):=(row_newL w [_,_,_,_,_,_,_] _).below hb1 (by simp)
 have S1:=hs.no m1
 have lX:=X1.lt
 have x0:=X1.cL 0 _ (by omega) rfl
 have x2:=X1.cL 2 _ (by omega) rfl
 have x3:=X1.cL 3 _ (by omega) rfl
 have x4:=X1.cL 4 _ (by omega) rfl
 have x6:=X1.cL 6 _ (by omega) rfl
 go_wp2_with fail
 refine (containsI_ok B.cl A.C B.ccap A.clocks _ (S1.1 .cl).2 hC64 HI.out.1.cl).mono ?_;rintro e w2 ⟨rfl,hb2⟩
 have n2:=Mod.of_below hb2 No
 have m2:Mod No w w2:=Mod.trans m1 n2 (fun _ _ h=> h)
 have X2:=X1.mod n2 (fun h=> h)
 have RT2:=RT.mod m2 (fun h=> h)
 clear x0 x2 x3 x4 x6 lX X1 S1 hb1 hb2 n2 m1
 have lX:=X2.lt
 have x6:=X2.cL 6 _ (by omega) rfl
 have x5:=X2.cL 5 _ (by omega) rfl
 go_wp2
 go_loopw [47] (fun s47 wr=> ∃ K:Nat,s47= .int .i64 K∧K≤A.G∧Mod No w2 wr) (fun s47 _=> A.G - (RowKit.intOf s47).toNat)
 case atStart=> exact ⟨0,rfl,by omega,Mod.refl _ _⟩
 case round=>
  obtain ⟨wg,rfl⟩:∃ W,W=wr:=⟨wr,rfl⟩
  obtain ⟨K,rfl,hKG',mg⟩:=hrel
  have Xg:=X2.mod mg (fun h=> h)
  have Sg:=(hs.no m2).no mg
  by_cases hKG:K < A.G
  ·have i0:(0:Int)≤K:=by omega
   have i1:(K:Int) < A.G:=by omega
   have q:wg.cell? ⟨B.so,K,none⟩=some (slc (B.si K) A.C (B.sc K)):=(Sg.sp (g:=K) (c:=0) hKG (by omega)).1
   have g0' :=Xg.cL 0 _ (by omega) rfl
   have lXg:=Xg.lt
   have wK1:=(HI.out.1.T.wtOk K hKG).1
   have wK2:=(HI.out.1.T.wtOk K hKG).2
   go_wp2
   go_loopw [60] (fun s60 wr=> ∃ c:Nat,s60= .int .i64 c∧c≤A.C∧Mod No w2 wr) (fun s60 _=> A.C - (RowKit.intOf s60).toNat)
   case atStart=> exact ⟨0,rfl,by omega,mg⟩
   case round=>
   obtain ⟨wk,rfl⟩:∃ W,W=wr:=⟨wr,rfl⟩
   obtain ⟨c,rfl,hcC,mk⟩:=hrel
   clear q g0' lXg Xg Sg mg
   by_cases hc:c < A.C
   ·have j0:(0:Int)≤c:=by omega
    have j1:(c:Int) < A.C:=by omega
    have Sk:=(hs.no m2).no mk
    obtain ⟨_,q0,q1,q2⟩:=Sk.sp (g:=K) (c:=c) hKG hc
    go_upto_region 13 with fail
    refine wp_world (fun U=> Mod No wk U∧Row U wk.heap.size 3 (fl [.int .u64 (A.spots K c).1, .int .u32 (A.spots K c).2.1, .int .u64 (A.spots K c).2.2])) ⟨(Mod.refl No wk).alloc _,row_newL wk [_,_,_] _⟩ ?_
    intro U ⟨mU,XB⟩
    obtain ⟨xb,hxb⟩:∃ n,n=wk.heap.size:=⟨_,rfl⟩
    rw [←hxb] at XB ⊢
    clear hxb q0 q1 q2
    have lXB:=XB.lt
    have SU:=Sk.no mU
    have XU:=(X2.mod mk (fun h=> h)).mod mU (fun h=> h)
    have lXU:=XU.lt
    by_cases hK0:K=0
    ·have e0:((K:Int)==0)=true:=by simp;omega
     have z:=HI.out.1.s0 c hc
     rw [←hK0] at z
     have HZ:=Lib.hid (And.intro z hK0)
     clear z hK0
     have hRE:REnt 0 0 (A.wt K):=⟨wK1,wK2,by omega,by omega,by omega,by omega⟩
     have mS:∀ w',Mod No U w' →w'.cell? ⟨xb,0,none⟩=some (.int .u64 0)∧w'.cell? ⟨xb,1,none⟩=some (.int .u32 0)∧w'.cell? ⟨w.heap.size,2,none⟩=some (slc B.gb A.G B.gcap)∧w'.cell? ⟨B.gb,K * 2+1,none⟩=some (.int .i64 (A.wt K)):=fun w' hm=> by
      have Q1:=XB.mod hm (fun h=> h)
      have Q2:=XU.mod hm (fun h=> h)
      have Q4:=(SU.no hm).gp (g:=K) hKG
      refine ⟨?_, ?_,Q2.cL 2 _ (by omega) rfl,Q4.2⟩
      ·have q:w'.cell? ⟨xb,0,none⟩=some (.int .u64 (A.spots K c).1):=Q1.cL 0 _ (by omega) rfl
       rw [q,HZ.out.1.1]
      ·have q:w'.cell? ⟨xb,1,none⟩=some (.int .u32 (A.spots K c).2.1):=Q1.cL 1 _ (by omega) rfl
       rw [q,HZ.out.1.2]
     refine wp_region_chain (fun w' => w'.cell? ⟨xb,0,none⟩=some (.int .u64 0)∧w'.cell? ⟨xb,1,none⟩=some (.int .u32 0)∧w'.cell? ⟨w.heap.size,2,none⟩=some (slc B.gb A.G B.gcap)∧w'.cell? ⟨B.gb,K * 2+1,none⟩=some (.int .i64 (A.wt K))) [11,12] [] [] (rds [0,1,2,3,4,5,6,7,8,9,10] (.ef 11 (.ef 12 (rds [13,14,15,16,17,18,19,20,21,22,23,24,25,26,27] .nil)))) (by kernel_rfl) (by kernel_rfl) (mS _ (Mod.refl No U).drew) ?_
     intro OO hO
     have HO:=Lib.hid hO
     clear hO
     simp only [rds]
     (repeat (first|(refine lxp HO (v:=?_) (fun w'=> ?_) ?_;rotate_left;(focus (go_simp;(try exact rfl);done));try go_simp)|(refine lxr HO (v:=?_) (fun w' hC'=> ?_) ?_;rotate_left;(focus (obtain ⟨c1,c2,c3,c4⟩:=hC';go_simp;(try exact rfl);done));try go_simp)|(refine lxo HO ?_;try go_simp)))
     refine lxe HO (fun Kx hKx=> ?_)
     go_simp
     refine (m_entity 0 0 (A.wt K) wK1 wK2 _).mono ?_;rintro e w6 ⟨rfl,hb6⟩
     have m6:Mod No U w6:=Mod.trans (Mod.refl No U).drew (Mod.of_below hb6 No) (fun _ _ h=> h)
     refine hKx _ _ (.inr (mS _ m6)) ?_
     clear hKx Kx
     refine lxe HO (fun Kx hKx=> ?_)
     go_simp
     refine (right_yes 0 0 (A.wt K) hRE _).mono ?_;rintro e w7 ⟨rfl,rfl⟩
     have m7:Mod No U _:=m6.alloc (.cells #[.int .u64 0, .int .u32 0, .int .u32 (A.wt K)] 138)
     refine hKx _ _ (.inr (mS _ m7)) ?_
     clear hKx Kx
     (repeat (first|(refine lxp HO (v:=?_) (fun w'=> ?_) ?_;rotate_left;(focus (go_simp;(try exact rfl);done));try go_simp)|(refine lxr HO (v:=?_) (fun w' hC'=> ?_) ?_;rotate_left;(focus (obtain ⟨c1,c2,c3,c4⟩:=hC';go_simp;(try exact rfl);done));try go_simp)|(refine lxo HO ?_;try go_simp)))
     refine wpL_nil ?_
     clear HO mS
     go_wp2
     refine ⟨⟨c+1,by go_num,by omega,Mod.trans mk (Mod.trans mU m7 (fun _ _ h=> h)) (fun _ _ h=> h)⟩,by simp only [RowKit.intOf];omega⟩
    ·have e0:((K:Int)==0)=false:=by simp;omega
     have HZ:=Lib.hid (HI.out.1.sp K c hKG hc)
     clear hK0
     have mS:∀ w',Mod No U w' →w'.cell? ⟨xb,0,none⟩=some (.int .u64 (A.spots K c).1)∧w'.cell? ⟨xb,1,none⟩=some (.int .u32 (A.spots K c).2.1)∧w'.cell? ⟨w.heap.size,2,none⟩=some (slc B.gb A.G B.gcap)∧w'.cell? ⟨B.gb,K * 2+1,none⟩=some (.int .i64 (A.wt K)):=fun w' hm=> by
      have Q1:=XB.mod hm (fun h=> h)
      have Q2:=XU.mod hm (fun h=> h)
      have Q4:=(SU.no hm).gp (g:=K) hKG
      refine ⟨?_, ?_,Q2.cL 2 _ (by omega) rfl,Q4.2⟩
      ·have q:w'.cell? ⟨xb,0,none⟩=some (.int .u64 (A.spots K c).1):=Q1.cL 0 _ (by omega) rfl
       exact q
      ·have q:w'.cell? ⟨xb,1,none⟩=some (.int .u32 (A.spots K c).2.1):=Q1.cL 1 _ (by omega) rfl
       exact q
     refine wp_region_chain (fun w' => w'.cell? ⟨xb,0,none⟩=some (.int .u64 (A.spots K c).1)∧w'.cell? ⟨xb,1,none⟩=some (.int .u32 (A.spots K c).2.1)∧w'.cell? ⟨w.heap.size,2,none⟩=some (slc B.gb A.G B.gcap)∧w'.cell? ⟨B.gb,K * 2+1,none⟩=some (.int .i64 (A.wt K))) [11,12] [] [] (rds [0,1,2,3,4,5,6,7,8,9,10] (.ef 11 (.ef 12 (rds [13,14,15,16,17,18,19,20,21,22,23,24,25,26,27] .nil)))) (by kernel_rfl) (by kernel_rfl) (mS _ (Mod.refl No U).drew) ?_
     intro OO hO
     have HO:=Lib.hid hO
     clear hO
     simp only [rds]
     (repeat (first|(refine lxp HO (v:=?_) (fun w'=> ?_) ?_;rotate_left;(focus (go_simp;(try exact rfl);done));try go_simp)|(refine lxr HO (v:=?_) (fun w' hC'=> ?_) ?_;rotate_left;(focus (obtain ⟨c1,c2,c3,c4⟩:=hC';go_simp;(try exact rfl);done));try go_simp)|(refine lxo HO ?_;try go_simp)))
     refine lxe HO (fun Kx hKx=> ?_)
     go_simp
     refine (m_entity (A.spots K c).1 (A.spots K c).2.1 (A.wt K) wK1 wK2 _).mono ?_;rintro e w6 ⟨rfl,hb6⟩
     have m6:Mod No U w6:=Mod.trans (Mod.refl No U).drew (Mod.of_below hb6 No) (fun _ _ h=> h)
     refine hKx _ _ (.inr (mS _ m6)) ?_
     clear hKx Kx
     refine lxe HO (fun Kx hKx=> ?_)
     go_simp
     refine (right_yes (A.spots K c).1 (A.spots K c).2.1 (A.wt K) HZ.out _).mono ?_;rintro e w7 ⟨rfl,rfl⟩
     have m7:Mod No U _:=m6.alloc (.cells #[.int .u64 (A.spots K c).1, .int .u32 (A.spots K c).2.1, .int .u32 (A.wt K)] 138)
     refine hKx _ _ (.inr (mS _ m7)) ?_
     clear hKx Kx
     (repeat (first|(refine lxp HO (v:=?_) (fun w'=> ?_) ?_;rotate_left;(focus (go_simp;(try exact rfl);done));try go_simp)|(refine lxr HO (v:=?_) (fun w' hC'=> ?_) ?_;rotate_left;(focus (obtain ⟨c1,c2,c3,c4⟩:=hC';go_simp;(try exact rfl);done));try go_simp)|(refine lxo HO ?_;try go_simp)))
     refine wpL_nil ?_
     clear HO mS
     go_wp2
     refine ⟨⟨c+1,by go_num,by omega,Mod.trans mk (Mod.trans mU m7 (fun _ _ h=> h)) (fun _ _ h=> h)⟩,by simp only [RowKit.intOf];omega⟩
   ·obtain rfl:c=A.C:=by omega
    have j1:(A.C:Int)≤A.C:=by omega
    go_wp2
    refine ⟨⟨K+1,by go_num,by omega,mk⟩,by simp only [RowKit.intOf];omega⟩
  ·obtain rfl:K=A.G:=by omega
   have i1:(A.G:Int)≤A.G:=by omega
   have g5:=Xg.cL 5 _ (by omega) rfl
   have lXg:=Xg.lt
   have RTg:=RT2.mod mg (fun h=> h)
   clear x5 x6
   go_wp2
   go_loopw [97] (fun s97 wr=> ∃ j:Int,s97= .int .i64 j∧(j=0∨j=1)∧Mod No w2 wr) (fun s97 _=> 1 - (RowKit.intOf s97).toNat)
   case atStart=> exact ⟨0,rfl, .inl rfl,mg⟩
   case round=>
   obtain ⟨wk,rfl⟩:∃ W,W=wr:=⟨wr,rfl⟩
   obtain ⟨j,rfl,hj,mk⟩:=hrel
   clear g5 lXg Xg Sg RTg mg
   have RTk:=RT2.mod mk (fun h=> h)
   have Xk:=X2.mod mk (fun h=> h)
   have lT:=RTk.lt
   have lXk:=Xk.lt
   rcases hj with rfl|rfl
   ·have y0:wk.cell? ⟨tb,0,none⟩=some (.int .i64 t.id):=RTk.cL 0 _ (by omega) rfl
    have y1:wk.cell? ⟨tb,1,none⟩=some (.int .i64 t.group):=RTk.cL 1 _ (by omega) rfl
    have y2:wk.cell? ⟨tb,2,none⟩=some (.int .i64 t.weight):=RTk.cL 2 _ (by omega) rfl
    have y3:wk.cell? ⟨tb,3,none⟩=some (.int .i64 c0):=by have:=RTk.cL 3 _ (by omega) rfl;rw [this];exact congrArg (fun x=> some (Value.int .i64 x)) HI.out.1.htc
    have y4:wk.cell? ⟨tb,4,none⟩=some (.int .u64 t.mask):=RTk.cL 4 _ (by omega) rfl
    have y5:wk.cell? ⟨tb,5,none⟩=some (.bool true):=by have:=RTk.cL 5 _ (by omega) rfl;rw [this];exact congrArg (fun x=> some (Value.bool x)) hrd
    have y6:wk.cell? ⟨tb,6,none⟩=some (.int .u64 t.v):=RTk.cL 6 _ (by omega) rfl
    have y7:wk.cell? ⟨tb,7,none⟩=some (.int .u32 t.r):=RTk.cL 7 _ (by omega) rfl
    go_upto_region 20 with fail
    refine wp_world (fun U=> Mod No wk U∧Row U wk.heap.size 8 (fl [.int .i64 t.id, .int .i64 t.group, .int .i64 t.weight, .int .i64 c0, .int .u64 t.mask, .bool true, .int .u64 t.v, .int .u32 t.r])) ⟨(Mod.refl No wk).alloc _,row_newL wk [_,_,_,_,_,_,_,_] _⟩ ?_
    intro U ⟨mU,XB⟩
    obtain ⟨xb,hxb⟩:∃ n,n=wk.heap.size:=⟨_,rfl⟩
    rw [←hxb] at XB ⊢
    clear hxb y0 y1 y2 y3 y4 y5 y6 y7
    have lXB:=XB.lt
    have XU:=Xk.mod mU (fun h=> h)
    have lXU:=XU.lt
    refine wp_region_chain (fun w' => w'.cell? ⟨w.heap.size,0,none⟩=some (.int .i64 A.C)∧w'.cell? ⟨w.heap.size,1,none⟩=some (.int .u64 A.cr)∧w'.cell? ⟨w.heap.size,2,none⟩=some (slc B.gb A.G B.gcap)∧w'.cell? ⟨w.heap.size,3,none⟩=some (slc B.cl A.C B.ccap)∧w'.cell? ⟨w.heap.size,4,none⟩=some (slc B.cu A.C B.ucap)∧w'.cell? ⟨w.heap.size,5,none⟩=some (slc tb 1 tc)∧w'.cell? ⟨w.heap.size,6,none⟩=some (slc B.so A.G B.scap)∧w'.cell? ⟨xb,0,none⟩=some (.int .i64 t.id)∧w'.cell? ⟨xb,1,none⟩=some (.int .i64 t.group)∧w'.cell? ⟨xb,2,none⟩=some (.int .i64 t.weight)∧w'.cell? ⟨xb,3,none⟩=some (.int .i64 c0)∧w'.cell? ⟨xb,4,none⟩=some (.int .u64 t.mask)∧w'.cell? ⟨xb,5,none⟩=some (.bool true)∧w'.cell? ⟨xb,6,none⟩=some (.int .u64 t.v)∧w'.cell? ⟨xb,7,none⟩=some (.int .u32 t.r)) [17] [] [] (rds [0,1,2,3,4,5,6,7,8,9,10,11,12,13,14,15,16] (.ef 17 (rds [18,19] .nil))) (by kernel_rfl) (by kernel_rfl) ⟨XU.cL 0 _ (by omega) rfl,XU.cL 1 _ (by omega) rfl,XU.cL 2 _ (by omega) rfl,XU.cL 3 _ (by omega) rfl,XU.cL 4 _ (by omega) rfl,XU.cL 5 _ (by omega) rfl,XU.cL 6 _ (by omega) rfl,XB.cL 0 _ (by omega) rfl,XB.cL 1 _ (by omega) rfl,XB.cL 2 _ (by omega) rfl,XB.cL 3 _ (by omega) rfl,XB.cL 4 _ (by omega) rfl,XB.cL 5 _ (by omega) rfl,XB.cL 6 _ (by omega) rfl,XB.cL 7 _ (by omega) rfl⟩ ?_
    intro OO hO
    have HO:=Lib.hid hO
    clear hO
    simp only [rds]
    (repeat (first|(refine lxp HO (v:=?_) (fun w'=> ?_) ?_;rotate_left;(focus (go_simp;(try exact rfl);done));try go_simp)|(refine lxr HO (v:=?_) (fun w' hC'=> ?_) ?_;rotate_left;(focus (obtain ⟨c1,c2,c3,c4,c5,c6,c7,c8,c9,c10,c11,c12,c13,c14,c15⟩:=hC';go_simp;(try exact rfl);done));try go_simp)|(refine lxo HO ?_;try go_simp)))
    refine lxe HO (fun Kx hKx=> ?_)
    rw [if_pos (by first|rfl|(rw [HO.out];rfl))]
    go_simp
    refine (rightTask_ok B A HI.out.1.C t.id t.group t.weight t.mask t.v t.r c0 true (some ⟨tb,0,none⟩) 1 tc id0 id1 (by rw [HI.out.1.htg];omega) (by rw [HI.out.1.htg];have:=HI.out.1.hg0;omega) HI.out.1.hc0 hw1t hw2t HI.out.1.m0 HI.out.1.m1 HI.out.1.m2 HI.out.1.ent _).mono ?_;rintro e w6 ⟨rfl,hb6⟩
    have m6:Mod No U w6:=Mod.trans (Mod.refl No U).drew (Mod.of_below hb6 No) (fun _ _ h=> h)
    have X6:=XU.mod m6 (fun h=> h)
    have Y6:=XB.mod m6 (fun h=> h)
    have lX6:=X6.lt
    have lY6:=Y6.lt
    refine hKx _ _ (.inr ⟨X6.cL 0 _ (by omega) rfl,X6.cL 1 _ (by omega) rfl,X6.cL 2 _ (by omega) rfl,X6.cL 3 _ (by omega) rfl,X6.cL 4 _ (by omega) rfl,X6.cL 5 _ (by omega) rfl,X6.cL 6 _ (by omega) rfl,Y6.cL 0 _ (by omega) rfl,Y6.cL 1 _ (by omega) rfl,Y6.cL 2 _ (by omega) rfl,Y6.cL 3 _ (by omega) rfl,Y6.cL 4 _ (by omega) rfl,Y6.cL 5 _ (by omega) rfl,Y6.cL 6 _ (by omega) rfl,Y6.cL 7 _ (by omega) rfl⟩) ?_
    clear hKx Kx
    (repeat (first|(refine lxp HO (v:=?_) (fun w'=> ?_) ?_;rotate_left;(focus (go_simp;(try exact rfl);done));try go_simp)|(refine lxr HO (v:=?_) (fun w' hC'=> ?_) ?_;rotate_left;(focus (obtain ⟨c1,c2,c3,c4,c5,c6,c7,c8,c9,c10,c11,c12,c13,c14,c15⟩:=hC';go_simp;(try exact rfl);done));try go_simp)|(refine lxo HO ?_;try go_simp)))
    refine wpL_nil ?_
    clear HO
    go_wp2
    refine ⟨⟨1,rfl, .inr rfl,Mod.trans mk (Mod.trans mU m6 (fun _ _ h=> h)) (fun _ _ h=> h)⟩,by simp [RowKit.intOf]⟩
   ·go_wp2
    go_ret
    exact ⟨rfl,Mod.below (Mod.trans m2 mk (fun _ _ h=> h))⟩
end
end Go.Q
namespace Go.Q
open Go.RowKit Go.Proofs
section
variable {A:ASt} {d:Nat}
set_option maxRecDepth 100000 in
set_option maxHeartbeats 4000000 in
theorem right_ok (t:TK) (g0 c0:Nat) (h:ROk A d t g0 c0) (w:World) (ow:Nat→SOwn) (B:STB) (hs:StAt w ow B A):
  Calls Tryz.prog 184 #[stv B A] w fun e w' => e= .returned (.bool true)∧Below w.heap.size w w' :=by
 obtain ⟨tb,tc,htv,_,RT⟩:=hs.t1 h.ht
 have hG:=h.T.g2
 have hG1:=h.T.g1
 obtain ⟨hrd,_,_,_,id0,id1⟩:=h.one.ok t h.ht
 have hC64:A.C≤64:=by have:=h.C;omega
 have hC1:1≤A.C:=by have:=h.C;omega
 have HI:=Lib.hid (And.intro h (And.intro hs htv))
 rw [show stv B A= .agg #[.int .i64 A.C, .int .u64 A.cr,slc B.gb A.G B.gcap,slc B.cl A.C B.ccap,slc B.cu A.C B.ucap,slc tb 1 tc,slc B.so A.G B.scap] from by rw [←htv]]
 clear htv h
 go_enter Tryz.func184,Tryz.ntmps184
 go_upto_region 1 with fail
 refine wp_world (fun V=> Mod No w V∧Row V w.heap.size 7 (fl [.int .i64 A.C, .int .u64 A.cr,slc B.gb A.G B.gcap,slc B.cl A.C B.ccap,slc B.cu A.C B.ucap,slc tb 1 tc,slc B.so A.G B.scap])) ⟨(Mod.refl No w).alloc _,row_newL w [_,_,_,_,_,_,_] _⟩ ?_
 intro V0 ⟨mV0,XV0⟩
 have lX0:=XV0.lt
 have u0:=XV0.cL 0 _ (by omega) rfl
 have u1:=XV0.cL 1 _ (by omega) rfl
 have u2:=XV0.cL 2 _ (by omega) rfl
 have u3:=XV0.cL 3 _ (by omega) rfl
 have u4:=XV0.cL 4 _ (by omega) rfl
 have u5:=XV0.cL 5 _ (by omega) rfl
 have u6:=XV0.cL 6 _ (by omega) rfl
 go_wp2_with fail
 refine (show Calls Tryz.prog 245 #[.agg #[.int .i64 A.C, .int .u64 A.cr,slc B.gb A.G B.gcap,slc B.cl A.C B.ccap,slc B.cu A.C B.ucap,slc tb 1 tc,slc B.so A.G B.scap]] V0 _ from by rw [←HI.out.2.2];exact shaped_ok t g0 c0 HI.out.1 V0 ow B (hs.no mV0)).mono ?_;rintro e w1 ⟨rfl,hb1⟩
 have n1:=Mod.of_below hb1 No
 have m1:Mod No w w1:=Mod.trans mV0 n1 (fun _ _ h=> h)
 have X1:Row w1 w.heap.size 7 (fl [.int .i64 A.C, .int .u64 A.cr,slc B.gb A.G B.gcap,slc B.cl A.C B.ccap,slc B.cu A.C B.ucap,slc tb 1 tc,slc B.so A.G B.scap]):=XV0.mod n1 (fun h=> h)
 clear u0 u1 u2 u3 u4 u5 u6 lX0 XV0 mV0 n1
 have lX:=X1.lt
 have x0:=X1.cL 0 _ (by omega) rfl
 have x1:=X1.cL 1 _ (by omega) rfl
 have x2:=X1.cL 2 _ (by omega) rfl
 have x3:=X1.cL 3 _ (by omega) rfl
 have x4:=X1.cL 4 _ (by omega) rfl
 have x5:=X1.cL 5 _ (by omega) rfl
 have x6:=X1.cL 6 _ (by omega) rfl
 go_upto_region 4 with fail
 refine wp_world (fun V=> Mod No w V∧Row V w.heap.size 7 (fl [.int .i64 A.C, .int .u64 A.cr,slc B.gb A.G B.gcap,slc B.cl A.C B.ccap,slc B.cu A.C B.ucap,slc tb 1 tc,slc B.so A.G B.scap])∧MAt V w1.heap.size ow B A) ⟨m1.alloc _,X1.alloc _, ?_, ?_,hs.no (m1.alloc _)⟩ ?_
 ·show Row _ _ 8 (fl [.int .i64 A.C, .int .u64 A.cr,slc B.gb A.G B.gcap,slc B.cl A.C B.ccap,slc B.cu A.C B.ucap,B.tv,slc B.so A.G B.scap, .bool true])
  rw [HI.out.2.2]
  exact row_newL' _ _ [_,_,_,_,_,_,_,_] _ rfl
 ·exact Classical.byContradiction fun hh=> by have:=hs.2 _ hh;have:=m1.size;omega
 intro V ⟨mV,XV,MV⟩
 obtain ⟨mb,hmb⟩:∃ n,n=w1.heap.size:=⟨_,rfl⟩
 rw [←hmb] at MV ⊢
 clear hmb x0 x1 x2 x3 x4 x5 x6 lX X1 hb1 m1
 have lX:=XV.lt
 have x4:=XV.cL 4 _ (by omega) rfl
 go_wp2
 go_loopw [20] (fun s20 wr=> ∃ c:Nat,s20= .int .i64 c∧c≤A.C∧Mod No V wr) (fun s20 _=> A.C - (RowKit.intOf s20).toNat)
 case atStart=> exact ⟨0,rfl,by omega,Mod.refl _ _⟩
 case round=>
  obtain ⟨wg,rfl⟩:∃ W,W=wr:=⟨wr,rfl⟩
  obtain ⟨c,rfl,hcC',mg⟩:=hrel
  have Mg:=MV.no mg
  have Xg:=XV.mod mg (fun h=> h)
  have lXg:=Xg.lt
  by_cases hc:c < A.C
  ·have i0:(0:Int)≤c:=by omega
   have i1:(c:Int) < A.C:=by omega
   have qc:wg.cell? ⟨B.cu,c,none⟩=some (.int .i64 (A.current c)):=(Mg.st.cp hc).2
   have c5:wg.cell? ⟨mb,5,none⟩=some (slc tb 1 tc):=by rw [Mg.look.2.2.2.2.2.1];exact congrArg some HI.out.2.2
   have RTg:Row wg tb 8 (fl (tkc t)):=(RT.mod mV (fun h=> h)).mod mg (fun h=> h)
   clear x4
   rcases HI.out.1.cu c hc with hcu|⟨hcu,hcc⟩
   ·rw [hcu] at qc
    clear hcu
    go_wp2_with fail
    refine (m_find2 mb tb tc t 0 (by omega) _ RTg c5).mono ?_;rintro e w3 ⟨rfl,hb3⟩
    have mf:Mod No V w3:=Mod.trans mg (Mod.of_below hb3 No) (fun _ _ h=> h)
    have Xf:=XV.mod mf (fun h=> h)
    have lXf:=Xf.lt
    have x6:=Xf.cL 6 _ (by omega) rfl
    go_upto_block 2 with fail
    go_wp2
    go_loopw [56] (fun s56 wr=> ∃ K:Nat,s56= .int .i64 K∧K≤A.G∧Mod No V wr) (fun s56 _=> A.G - (RowKit.intOf s56).toNat)
    case atStart=> exact ⟨0,rfl,by omega,mf⟩
    case round=>
     obtain ⟨wk,rfl⟩:∃ W,W=wr:=⟨wr,rfl⟩
     obtain ⟨K,rfl,hKG',mk⟩:=hrel
     by_cases hKG:K < A.G
     ·have k0:(0:Int)≤K:=by omega
      have k1:(K:Int) < A.G:=by omega
      have Mk:=MV.no mk
      have q:wk.cell? ⟨B.so,K,none⟩=some (slc (B.si K) A.C (B.sc K)):=(Mk.st.sp (g:=K) (c:=c) hKG hc).1
      have lsi:=(Mk.st.1 (.si K) hKG).2.lt
      go_wp2_with fail
      refine (m_least HI.out.1.one HI.out.1.vok 256 K c wk mb ow B (by omega) hKG hc Mk).mono ?_;rintro e w5 ⟨rfl,hb5⟩
      have m5:Mod No wk w5:=Mod.of_below hb5 No
      have mS:∀ w',Mod No wk w' →w'.cell? ⟨B.si K,c * 3+2,none⟩=some (.int .u64 (A.spots K c).2.2):=fun w' hm=> ((Mk.no hm).st.sp (g:=K) (c:=c) hKG hc).2.2.2
      cases hp:memb A d K c with
      |none=>
       clear hp
       simp only [lvv,lvl,Option.isSome_none]
       go_upto_region 14 with fail
       refine wp_region_chain (fun w' => w'.cell? ⟨B.si K,c * 3+2,none⟩=some (.int .u64 (A.spots K c).2.2)) [3] [] [] (rds [0,1,2,4,5,6,7,8] (.ef 3 (rds [9,10] .nil))) (by kernel_rfl) (by kernel_rfl) (mS _ ((m5.alloc _).drew)) ?_
       intro OO hO
       have HO:=Lib.hid hO
       clear hO
       simp only [rds]
       (repeat (first|(refine lxp HO (v:=?_) (fun w'=> ?_) ?_;rotate_left;(focus (go_simp;(try exact rfl);done));try go_simp)|(refine lxr HO (v:=?_) (fun w' hC'=> ?_) ?_;rotate_left;(focus (obtain c1:=hC';go_simp;(try exact rfl);done));try go_simp)|(refine lxo HO ?_;try go_simp)))
       refine wpL_skip (by rw [HO.out];rfl) (by first|rfl|(rw [HO.out];rfl)) ?_
       try go_simp
       (repeat (first|(refine lxp HO (v:=?_) (fun w'=> ?_) ?_;rotate_left;(focus (go_simp;(try exact rfl);done));try go_simp)|(refine lxr HO (v:=?_) (fun w' hC'=> ?_) ?_;rotate_left;(focus (obtain c1:=hC';go_simp;(try exact rfl);done));try go_simp)|(refine lxo HO ?_;try go_simp)))
       refine wpL_nil ?_
       clear HO
       go_wp2
       refine ⟨⟨K+1,by go_num,by omega,Mod.trans mk ((m5.alloc _).drew) (fun _ _ h=> h)⟩,by simp only [RowKit.intOf];omega⟩
      |some p=>
       have hle:=HI.out.1.fl K c p hKG hc hp
       clear hp
       simp only [lvv,lvl,Option.isSome_some]
       go_upto_region 14 with fail
       refine wp_world (fun U=> Mod No wk U∧Row U w5.heap.size 3 (fl [.int .u64 p.1, .int .u64 p.2.1, .int .u64 p.2.2])) ⟨m5.alloc _,row_newL w5 [_,_,_] _⟩ ?_
       intro U ⟨mU,XB⟩
       obtain ⟨xb,hxb⟩:∃ n,n=w5.heap.size:=⟨_,rfl⟩
       rw [←hxb] at XB ⊢
       clear hxb
       have lXB:=XB.lt
       refine wp_region_chain (fun w' => w'.cell? ⟨B.si K,c * 3+2,none⟩=some (.int .u64 (A.spots K c).2.2)∧w'.cell? ⟨xb,0,none⟩=some (.int .u64 p.1)∧w'.cell? ⟨xb,1,none⟩=some (.int .u64 p.2.1)∧w'.cell? ⟨xb,2,none⟩=some (.int .u64 p.2.2)) [3] [] [] (rds [0,1,2,4,5,6,7,8] (.ef 3 (rds [9,10] .nil))) (by kernel_rfl) (by kernel_rfl) ⟨mS _ mU.drew,XB.cL 0 _ (by omega) rfl,XB.cL 1 _ (by omega) rfl,XB.cL 2 _ (by omega) rfl⟩ ?_
       intro OO hO
       have HO:=Lib.hid hO
       clear hO
       simp only [rds]
       (repeat (first|(refine lxp HO (v:=?_) (fun w'=> ?_) ?_;rotate_left;(focus (go_simp;(try exact rfl);done));try go_simp)|(refine lxr HO (v:=?_) (fun w' hC'=> ?_) ?_;rotate_left;(focus (obtain ⟨c1,c2,c3,c4⟩:=hC';go_simp;(try exact rfl);done));try go_simp)|(refine lxo HO ?_;try go_simp)))
       refine lxe HO (fun Kx hKx=> ?_)
       rw [if_pos (by first|rfl|(rw [HO.out];rfl))]
       go_simp
       refine (m_v p.1 p.2.1 p.2.2 _).mono ?_;rintro e w7 ⟨rfl,hb7⟩
       have n7:Mod No U w7:=Mod.trans (Mod.refl No U).drew (Mod.of_below hb7 No) (fun _ _ h=> h)
       have m7:Mod No wk w7:=Mod.trans mU n7 (fun _ _ h=> h)
       have X7:=XB.mod n7 (fun h=> h)
       have lX7:=X7.lt
       refine hKx _ _ (.inr ⟨mS _ m7,X7.cL 0 _ (by omega) rfl,X7.cL 1 _ (by omega) rfl,X7.cL 2 _ (by omega) rfl⟩) ?_
       clear hKx Kx
       (repeat (first|(refine lxp HO (v:=?_) (fun w'=> ?_) ?_;rotate_left;(focus (go_simp;(try exact rfl);done));try go_simp)|(refine lxr HO (v:=?_) (fun w' hC'=> ?_) ?_;rotate_left;(focus (obtain ⟨c1,c2,c3,c4⟩:=hC';go_simp;(try exact rfl);done));try go_simp)|(refine lxo HO ?_;try go_simp)))
       refine wpL_nil ?_
       clear HO mS
       go_wp2
       refine ⟨⟨K+1,by go_num,by omega,Mod.trans mk m7 (fun _ _ h=> h)⟩,by simp only [RowKit.intOf];omega⟩
     ·obtain rfl:K=A.G:=by omega
      have k1:(A.G:Int)≤A.G:=by omega
      go_wp2
      refine ⟨⟨c+1,by go_num,by omega,mk⟩,by simp only [RowKit.intOf];omega⟩
   ·rw [hcu] at qc
    have e1:(t.id !=0)=true:=by simp;omega
    have H3:=Lib.hid (show (c:Int)=c0 by rw [hcc])
    clear hcu hcc
    go_wp2_with fail
    refine (m_find1 mb tb tc t t.id rfl _ RTg c5).mono ?_;rintro e w3 ⟨rfl,hb3⟩
    have mf:Mod No V w3:=Mod.trans mg (Mod.of_below hb3 No) (fun _ _ h=> h)
    have Xf:=XV.mod mf (fun h=> h)
    have lXf:=Xf.lt
    have x6:=Xf.cL 6 _ (by omega) rfl
    have x5:=Xf.cL 5 _ (by omega) rfl
    have RTf:=RTg.mod (Mod.of_below hb3 No) (fun h=> h)
    have lTf:=RTf.lt
    have y5:w3.cell? ⟨tb,5,none⟩=some (.bool true):=by have:=RTf.cL 5 _ (by omega) rfl;rw [this];exact congrArg (fun x=> some (Value.bool x)) hrd
    have y3:w3.cell? ⟨tb,3,none⟩=some (.int .i64 c):=by have:=RTf.cL 3 _ (by omega) rfl;rw [this];exact congrArg (fun x=> some (Value.int .i64 x)) (HI.out.1.htc.trans H3.out.symm)
    go_upto_block 2 with fail
    go_wp2
    go_loopw [56] (fun s56 wr=> ∃ K:Nat,s56= .int .i64 K∧K≤A.G∧Mod No V wr) (fun s56 _=> A.G - (RowKit.intOf s56).toNat)
    case atStart=> exact ⟨0,rfl,by omega,mf⟩
    case round=>
     obtain ⟨wk,rfl⟩:∃ W,W=wr:=⟨wr,rfl⟩
     obtain ⟨K,rfl,hKG',mk⟩:=hrel
     by_cases hKG:K < A.G
     ·have k0:(0:Int)≤K:=by omega
      have k1:(K:Int) < A.G:=by omega
      have Mk:=MV.no mk
      have q:wk.cell? ⟨B.so,K,none⟩=some (slc (B.si K) A.C (B.sc K)):=(Mk.st.sp (g:=K) (c:=c) hKG hc).1
      have lsi:=(Mk.st.1 (.si K) hKG).2.lt
      go_wp2_with fail
      refine (m_least HI.out.1.one HI.out.1.vok 256 K c wk mb ow B (by omega) hKG hc Mk).mono ?_;rintro e w5 ⟨rfl,hb5⟩
      have m5:Mod No wk w5:=Mod.of_below hb5 No
      have mS:∀ w',Mod No wk w' →w'.cell? ⟨B.si K,c * 3+2,none⟩=some (.int .u64 (A.spots K c).2.2):=fun w' hm=> ((Mk.no hm).st.sp (g:=K) (c:=c) hKG hc).2.2.2
      cases hp:memb A d K c with
      |none=>
       clear hp
       simp only [lvv,lvl,Option.isSome_none]
       go_upto_region 14 with fail
       refine wp_region_chain (fun w' => w'.cell? ⟨B.si K,c * 3+2,none⟩=some (.int .u64 (A.spots K c).2.2)) [3] [] [] (rds [0,1,2,4,5,6,7,8] (.ef 3 (rds [9,10] .nil))) (by kernel_rfl) (by kernel_rfl) (mS _ ((m5.alloc _).drew)) ?_
       intro OO hO
       have HO:=Lib.hid hO
       clear hO
       simp only [rds]
       (repeat (first|(refine lxp HO (v:=?_) (fun w'=> ?_) ?_;rotate_left;(focus (go_simp;(try exact rfl);done));try go_simp)|(refine lxr HO (v:=?_) (fun w' hC'=> ?_) ?_;rotate_left;(focus (obtain c1:=hC';go_simp;(try exact rfl);done));try go_simp)|(refine lxo HO ?_;try go_simp)))
       refine wpL_skip (by rw [HO.out];rfl) (by first|rfl|(rw [HO.out];rfl)) ?_
       try go_simp
       (repeat (first|(refine lxp HO (v:=?_) (fun w'=> ?_) ?_;rotate_left;(focus (go_simp;(try exact rfl);done));try go_simp)|(refine lxr HO (v:=?_) (fun w' hC'=> ?_) ?_;rotate_left;(focus (obtain c1:=hC';go_simp;(try exact rfl);done));try go_simp)|(refine lxo HO ?_;try go_simp)))
       refine wpL_nil ?_
       clear HO
       go_wp2
       refine ⟨⟨K+1,by go_num,by omega,Mod.trans mk ((m5.alloc _).drew) (fun _ _ h=> h)⟩,by simp only [RowKit.intOf];omega⟩
      |some p=>
       have hle:=HI.out.1.fl K c p hKG hc hp
       clear hp
       simp only [lvv,lvl,Option.isSome_some]
       go_upto_region 14 with fail
       refine wp_world (fun U=> Mod No wk U∧Row U w5.heap.size 3 (fl [.int .u64 p.1, .int .u64 p.2.1, .int .u64 p.2.2])) ⟨m5.alloc _,row_newL w5 [_,_,_] _⟩ ?_
       intro U ⟨mU,XB⟩
       obtain ⟨xb,hxb⟩:∃ n,n=w5.heap.size:=⟨_,rfl⟩
       rw [←hxb] at XB ⊢
       clear hxb
       have lXB:=XB.lt
       refine wp_region_chain (fun w' => w'.cell? ⟨B.si K,c * 3+2,none⟩=some (.int .u64 (A.spots K c).2.2)∧w'.cell? ⟨xb,0,none⟩=some (.int .u64 p.1)∧w'.cell? ⟨xb,1,none⟩=some (.int .u64 p.2.1)∧w'.cell? ⟨xb,2,none⟩=some (.int .u64 p.2.2)) [3] [] [] (rds [0,1,2,4,5,6,7,8] (.ef 3 (rds [9,10] .nil))) (by kernel_rfl) (by kernel_rfl) ⟨mS _ mU.drew,XB.cL 0 _ (by omega) rfl,XB.cL 1 _ (by omega) rfl,XB.cL 2 _ (by omega) rfl⟩ ?_
       intro OO hO
       have HO:=Lib.hid hO
       clear hO
       simp only [rds]
       (repeat (first|(refine lxp HO (v:=?_) (fun w'=> ?_) ?_;rotate_left;(focus (go_simp;(try exact rfl);done));try go_simp)|(refine lxr HO (v:=?_) (fun w' hC'=> ?_) ?_;rotate_left;(focus (obtain ⟨c1,c2,c3,c4⟩:=hC';go_simp;(try exact rfl);done));try go_simp)|(refine lxo HO ?_;try go_simp)))
       refine lxe HO (fun Kx hKx=> ?_)
       rw [if_pos (by first|rfl|(rw [HO.out];rfl))]
       go_simp
       refine (m_v p.1 p.2.1 p.2.2 _).mono ?_;rintro e w7 ⟨rfl,hb7⟩
       have n7:Mod No U w7:=Mod.trans (Mod.refl No U).drew (Mod.of_below hb7 No) (fun _ _ h=> h)
       have m7:Mod No wk w7:=Mod.trans mU n7 (fun _ _ h=> h)
       have X7:=XB.mod n7 (fun h=> h)
       have lX7:=X7.lt
       refine hKx _ _ (.inr ⟨mS _ m7,X7.cL 0 _ (by omega) rfl,X7.cL 1 _ (by omega) rfl,X7.cL 2 _ (by omega) rfl⟩) ?_
       clear hKx Kx
       (repeat (first|(refine lxp HO (v:=?_) (fun w'=> ?_) ?_;rotate_left;(focus (go_simp;(try exact rfl);done));try go_simp)|(refine lxr HO (v:=?_) (fun w' hC'=> ?_) ?_;rotate_left;(focus (obtain ⟨c1,c2,c3,c4⟩:=hC';go_simp;(try exact rfl);done));try go_simp)|(refine lxo HO ?_;try go_simp)))
       refine wpL_nil ?_
       clear HO mS
       go_wp2
       refine ⟨⟨K+1,by go_num,by omega,Mod.trans mk m7 (fun _ _ h=> h)⟩,by simp only [RowKit.intOf];omega⟩
     ·obtain rfl:K=A.G:=by omega
      have k1:(A.G:Int)≤A.G:=by omega
      go_wp2
      refine ⟨⟨c+1,by go_num,by omega,mk⟩,by simp only [RowKit.intOf];omega⟩
  ·obtain rfl:c=A.C:=by omega
   have j1:(A.C:Int)≤A.C:=by omega
   go_wp2
   go_ret
   exact ⟨rfl,Mod.below (Mod.trans mV mg (fun _ _ h=> h))⟩
end
end Go.Q
