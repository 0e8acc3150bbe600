/- A part of the proof that TopGreat answers true: what some of the functions on its road compute. -/
import Derived.Deep.DeepCutAuto
import Derived.Deep.CutBlock
import Derived.Test.YtckddephdbhagaaGreatDoorQ2
import Derived.Test.YtckddephdbhagaaGreatDoorQ8
import Derived.Test.YtckddephdbhagaaGreatDoorQ13
import Derived.Test.YtckddephdbhagaaGreatDoorQ17
set_option linter.unusedVariables false
set_option linter.unusedSimpArgs false
namespace Go.Q
open Go.RowKit Go.Proofs
theorem Row.set12 {w:World} {b N u:Nat} {F:Nat→Value} (R:Row w b N F) (hu:u * 12+12≤N) (v0 v1 v2 v3 v4 v5 v6 v7 v8 v9 v10 v11:Value):Row ((((((((((((w.setCell ⟨b,u * 12,none⟩ v0).setCell ⟨b,u * 12+1,none⟩ v1).setCell ⟨b,u * 12+2,none⟩ v2).setCell ⟨b,u * 12+3,none⟩ v3).setCell ⟨b,u * 12+4,none⟩ v4).setCell ⟨b,u * 12+5,none⟩ v5).setCell ⟨b,u * 12+6,none⟩ v6).setCell ⟨b,u * 12+7,none⟩ v7).setCell ⟨b,u * 12+8,none⟩ v8).setCell ⟨b,u * 12+9,none⟩ v9).setCell ⟨b,u * 12+10,none⟩ v10).setCell ⟨b,u * 12+11,none⟩ v11) b N (fun i=> if i / 12=u then [v0,v1,v2,v3,v4,v5,v6,v7,v8,v9,v10,v11].getD (i % 12) undef else F i):=by
 refine ((((((((((((R.set (i:=u * 12) (by omega) v0).set (i:=u * 12+1) (by omega) v1).set (i:=u * 12+2) (by omega) v2).set (i:=u * 12+3) (by omega) v3).set (i:=u * 12+4) (by omega) v4).set (i:=u * 12+5) (by omega) v5).set (i:=u * 12+6) (by omega) v6).set (i:=u * 12+7) (by omega) v7).set (i:=u * 12+8) (by omega) v8).set (i:=u * 12+9) (by omega) v9).set (i:=u * 12+10) (by omega) v10).set (i:=u * 12+11) (by omega) v11).congr (fun i hi=> ?_)
 by_cases h:i / 12=u
 ·rw [if_pos h]
  obtain ⟨j,hj,rfl⟩:∃ j,j < 12∧i=u * 12+j:=⟨i % 12,by omega,by omega⟩
  rw [show (u * 12+j) % 12=j from by omega]
  rcases (by omega:j=0∨j=1∨j=2∨j=3∨j=4∨j=5∨j=6∨j=7∨j=8∨j=9∨j=10∨j=11) with rfl|rfl|rfl|rfl|rfl|rfl|rfl|rfl|rfl|rfl|rfl|rfl <;> simp
 ·rw [if_neg h]
  have n:∀ j,j < 12→i≠u * 12+j:=fun j hj e=> h (by omega)
  simp only [if_neg (n 1 (by omega)),if_neg (n 2 (by omega)),if_neg (n 3 (by omega)),if_neg (n 4 (by omega)),if_neg (n 5 (by omega)),if_neg (n 6 (by omega)),if_neg (n 7 (by omega)),if_neg (n 8 (by omega)),if_neg (n 9 (by omega)),if_neg (n 10 (by omega)),if_neg (n 11 (by omega))]
  simp only [if_neg (show ¬i=u * 12 from n 0 (by omega))]
theorem Mod.set12 {S:Nat→Prop} {w0 w:World} (h:Mod S w0 w) {b u:Nat} (hb:S b) (v0 v1 v2 v3 v4 v5 v6 v7 v8 v9 v10 v11:Value):Mod S w0 ((((((((((((w.setCell ⟨b,u * 12,none⟩ v0).setCell ⟨b,u * 12+1,none⟩ v1).setCell ⟨b,u * 12+2,none⟩ v2).setCell ⟨b,u * 12+3,none⟩ v3).setCell ⟨b,u * 12+4,none⟩ v4).setCell ⟨b,u * 12+5,none⟩ v5).setCell ⟨b,u * 12+6,none⟩ v6).setCell ⟨b,u * 12+7,none⟩ v7).setCell ⟨b,u * 12+8,none⟩ v8).setCell ⟨b,u * 12+9,none⟩ v9).setCell ⟨b,u * 12+10,none⟩ v10).setCell ⟨b,u * 12+11,none⟩ v11):=
 (((((((((((h.setCell (.inr hb) v0).setCell (.inr hb) v1).setCell (.inr hb) v2).setCell (.inr hb) v3).setCell (.inr hb) v4).setCell (.inr hb) v5).setCell (.inr hb) v6).setCell (.inr hb) v7).setCell (.inr hb) v8).setCell (.inr hb) v9).setCell (.inr hb) v10).setCell (.inr hb) v11
theorem Row.other12 {w:World} {b c N u:Nat} {F:Nat→Value} (h:Row w c N F) (hb:b≠c) (v0 v1 v2 v3 v4 v5 v6 v7 v8 v9 v10 v11:Value):Row ((((((((((((w.setCell ⟨b,u * 12,none⟩ v0).setCell ⟨b,u * 12+1,none⟩ v1).setCell ⟨b,u * 12+2,none⟩ v2).setCell ⟨b,u * 12+3,none⟩ v3).setCell ⟨b,u * 12+4,none⟩ v4).setCell ⟨b,u * 12+5,none⟩ v5).setCell ⟨b,u * 12+6,none⟩ v6).setCell ⟨b,u * 12+7,none⟩ v7).setCell ⟨b,u * 12+8,none⟩ v8).setCell ⟨b,u * 12+9,none⟩ v9).setCell ⟨b,u * 12+10,none⟩ v10).setCell ⟨b,u * 12+11,none⟩ v11) c N F:=
 (((((((((((h.setOther hb v0).setOther hb v1).setOther hb v2).setOther hb v3).setOther hb v4).setOther hb v5).setOther hb v6).setOther hb v7).setOther hb v8).setOther hb v9).setOther hb v10).setOther hb v11
structure RAt (w:World) (r sb L u:Nat) (f:Nat→Nat→Int):Prop where
 row:∃ sv cap,Row w r 7 (fl [sv, .int .i64 0, .int .i64 u, .int .i64 0, .int .i64 u, .int .i64 0, .int .i64 4])∧(L=0→sv= .slice none 0 0)∧(0 < L→sv=slc sb L cap)
 sl:0 < L→sb≠r∧∃ F,Row w sb (L * 12) F∧∀ i,i < u * 12→F i=evs f i
 uL:u≤L
 L4:L≤4
theorem RAt.mod {S:Nat→Prop} {w w' :World} {r sb L u:Nat} {f:Nat→Nat→Int} (h:RAt w r sb L u f) (hm:Mod S w w') (h1:¬S r) (h2:0 < L→¬S sb):RAt w' r sb L u f:=by
 obtain ⟨⟨sv,cap,R,a,b⟩,c,d,e⟩:=h
 exact ⟨⟨sv,cap,R.mod hm h1,a,b⟩,fun hL=> ⟨(c hL).1,let ⟨F,x,y⟩:=(c hL).2;⟨F,x.mod hm (h2 hL),y⟩⟩,d,e⟩
theorem each_ok (r:Nat) (w:World):Calls Tryz.prog 168 #[ptr r] w fun e w' => e= .returned (.func (.func 224) #[] #[ptr w.heap.size])∧w' =w.alloc (.cells #[ptr r] 163):=by
 go_enter Tryz.func168,Tryz.ntmps168
 go_wp2
 go_ret
 exact ⟨rfl,rfl⟩
theorem collect_ok (bp r sb L cap u:Nat) (sv:Value) (f:Nat→Nat→Int) (w:World) (hs:0 < u→sv=slc sb L cap∧u≤L) (hL:L≤4)
  (R0:Row w bp 1 (f1 (ptr r))) (R1:Row w r 7 (fl [sv, .int .i64 0, .int .i64 u, .int .i64 0, .int .i64 u, .int .i64 0, .int .i64 4])) (R2:0 < u→Row w sb (u * 12) (evs f)) (hu:u≤4):
  Calls Tryz.prog 167 #[.func (.func 224) #[] #[ptr bp]] w fun e w' => ∃ v,e= .returned v∧Mod No w w' ∧
   w'.ownsRow w.heap.size 278 12 v u (slots f u):=by
 go_enter Tryz.func167,Tryz.ntmps167
 go_wp2_with fail
 refine (appSeq_ok bp r sb L cap u sv f w hs hL R0 R1 R2 hu).mono ?_;rintro e w1 ⟨v,rfl,hm,hO⟩
 go_wp2
 go_ret
 exact ⟨v,rfl,hm,hO⟩
set_option maxRecDepth 100000 in
set_option maxHeartbeats 8000000 in
theorem put_ok (w:World) (r sb L u:Nat) (f:Nat→Nat→Int) (h:RAt w r sb L u f) (hu:u < 4) (seq time cpu kind task group tO weight ticks mask got:Int):
  Calls Tryz.prog 86 #[ptr r, .agg #[.int .i64 seq, .int .i64 time, .int .u8 cpu, .int .u8 kind, .int .i64 task, .int .i64 group, .int .i64 tO, .int .i64 weight, .int .i64 ticks, .int .u64 mask, .int .i64 got]] w fun e w' => e= .returned (.int .i64 0)∧
   Mod (fun b=> b=r∨b=sb∧0 < L) w w' ∧∃ sb' L' f',RAt w' r sb' L' (u+1) f' ∧0 < L' ∧((sb' =sb∧0 < L)∨w.heap.size≤sb'):=by
 obtain ⟨⟨sv,cap,R,hsv0,hsv1⟩,hsl,huL,hL4⟩:=h
 have lr:=R.lt
 have c6:=R.cL 6 _ (by omega) rfl
 have c2:=R.cL 2 _ (by omega) rfl
 have i0:(u:Int) < 4:=by omega
 have k0:((u:Int)==4)=false:=by simp;omega
 have HS:=Lib.hid (And.intro hsv0 (And.intro hsv1 hsl))
 clear hsv0 hsv1 hsl
 obtain ⟨so,sc0,hsvv⟩:∃ o c,sv= .slice o L c:=by
  by_cases h0:L=0
  ·subst h0;exact ⟨_,_,HS.out.1 rfl⟩
  ·exact ⟨_,_,HS.out.2.1 (by omega)⟩
 rw [hsvv] at R
 have HV:=Lib.hid hsvv;clear hsvv
 have D1:w.heap.size≠r:=by omega
 go_enter Tryz.func86,Tryz.ntmps86
 go_upto_region 1 with fail
 refine wp_world (fun V=> Mod No w V∧Row V r 7 (fl [.slice so L sc0, .int .i64 0, .int .i64 u, .int .i64 0, .int .i64 u, .int .i64 0, .int .i64 4])∧Row V w.heap.size 11 (fl (evl seq time cpu kind task group tO weight ticks mask got))) ⟨(Mod.refl No w).alloc _,R.alloc _,row_newL w [_,_,_,_,_,_,_,_,_,_,_] _⟩ ?_
 intro V ⟨mV,RV,XV⟩
 clear c6 c2
 have lV:=RV.lt
 have c6:=RV.cL 6 _ (by omega) rfl
 have c2:=RV.cL 2 _ (by omega) rfl
 have c0:=RV.cL 0 _ (by omega) rfl
 go_wp2_with fail
 refine (ringNone r 4 (by omega) _ c6).mono ?_;rintro e w1 ⟨rfl,rfl⟩
 go_upto_region 3 with fail
 go_quiet (fail)
 go_upto_region 7 with fail
 go_quiet (fail)
 go_upto_if 39 with fail
 have sz:=mV.size
 go_cut [] (fun wx=> ∃ (sb' L' cap' :Nat) (F:Nat→Value),Mod (fun b=> b=r) V wx∧Row wx r 7 (fl [slc sb' L' cap', .int .i64 0, .int .i64 u, .int .i64 0, .int .i64 u, .int .i64 0, .int .i64 4])∧u < L' ∧L' ≤4∧sb' ≠r∧((sb' =sb∧0 < L)∨V.heap.size≤sb')∧Row wx sb' (L' * 12) F∧∀ i,i < u * 12→F i=evs f i)
 case first=>
  by_cases huL' :u < L
  ·have j0:((u:Int)==(L:Int))=false:=by simp;omega
   go_wp2
   go_meet
   obtain ⟨hs0,hs1,hs2⟩:=HS.out
   obtain ⟨hne,F,RF,hF⟩:=hs2 (by omega)
   have hv:=HV.out
   rw [hs1 (by omega)] at hv
   obtain ⟨rfl,_,rfl⟩:some (⟨sb,0,none⟩:Addr)=so∧L=L∧cap=sc0:=by simpa using hv
   refine ⟨sb,L,cap,F,by (repeat first|(with_reducible exact (Mod.refl (fun b=> b=r) V))|(with_reducible refine Mod.alloc ?_ _)|(with_reducible refine Mod.drew ?_)|(with_reducible refine Mod.drewN ?_ _)|(with_reducible refine Mod.sc ?_)),by (repeat first|(with_reducible exact RV)|(with_reducible refine Row.drew ?_)|(with_reducible refine Row.drewN ?_ _)|(with_reducible refine Row.alloc ?_ _)),huL',hL4,hne, .inl ⟨rfl,by omega⟩,by (repeat first|(with_reducible exact (RF.mod mV (fun h=> h)))|(with_reducible refine Row.drew ?_)|(with_reducible refine Row.drewN ?_ _)|(with_reducible refine Row.alloc ?_ _)),hF⟩
  ·have hLu:L=u:=by omega
   subst hLu
   have hPQ:0 < L→(Value.slice so L sc0)=slc sb L cap∧L≤L:=fun h=> ⟨by rw [←HV.out,HS.out.2.1 h],Nat.le_refl _⟩
   have hPR:0 < L→Row V sb (L * 12) (evs f):=fun h=> by
    obtain ⟨_,F,RF,hF⟩:=HS.out.2.2 h
    exact (RF.mod mV (fun h=> h)).congr hF
   have HP:=Lib.hid (And.intro hPQ hPR)
   clear hPQ hPR
   have j0:((L:Int)==(L:Int))=true:=by simp
   go_wp2_with fail
   refine (each_ok r _).mono ?_;rintro e w1 ⟨rfl,rfl⟩
   go_wp2_with fail
   refine (collect_ok V.heap.size r sb L cap L (.slice so L sc0) f _ HP.out.1 hL4 (row_new1 (V.drewN _) (ptr r) _) ((RV.drewN _).alloc _) (fun h=> ((HP.out.2 h).drewN _).alloc _) hL4).mono ?_;rintro e w1 ⟨v,rfl,m1,hO⟩
   go_wp2_with fail
   refine (grow_ok w1 _ L v f hO hu m1.size).mono ?_;rintro e w2 ⟨g,cp,rfl,hcp,hbg,m2,F,RF,hF⟩
   have mV2:Mod No V w2:=Mod.trans (Mod.trans (((Mod.refl No V).drewN _).alloc _) m1 (fun _ _ h=> h)) m2 (fun _ _ h=> h)
   have R2:=RV.mod mV2 (fun h=> h)
   have lR2:=R2.lt
   have f0:=R2.free 0
   have f1' :=R2.free 1
   have q0:=R2.cL 0 _ (by omega) rfl
   have q1:=R2.cL 1 _ (by omega) rfl
   have q6:=R2.cL 6 _ (by omega) rfl
   clear c0 c2 c6
   go_upto_region 10 with fail
   refine wp_world (fun W=> Mod (fun b=> b=r) V W∧Row W r 7 (fl [slc g L cp, .int .i64 0, .int .i64 L, .int .i64 0, .int .i64 L, .int .i64 0, .int .i64 4])∧Row W g (cp * 12) F) ?_ ?_
   ·have hgr:¬r=g:=by have:=m1.size;simp at hbg;omega
    exact ⟨((mV2.no (fun b=> b=r)).setCell (.inr rfl) _).setCell (.inr rfl) _,((R2.set (i:=0) (by omega) _).set (i:=1) (by omega) _).congr (by apply le7 <;> rfl),(RF.setOther hgr _).setOther hgr _⟩
   intro W3 ⟨m3,R3,RF3⟩
   clear q0 q1 q6 f0 f1' R2 lR2
   have lR3:=R3.lt
   have d0:=R3.cL 0 _ (by omega) rfl
   have d6:=R3.cL 6 _ (by omega) rfl
   have g0:=R3.free 0
   have hcp1:(1:Int)≤cp:=by omega
   obtain ⟨m,hm1,hm2,hm3,hm4⟩:∃ m:Nat,m≤4∧m≤cp∧L < m∧min (cp:Int) 4=m:=⟨min cp 4,by omega,by omega,by omega,by omega⟩
   have hm5:(m:Int)≤cp:=by omega
   refine wp_region_chain (fun W=> W.cell? ⟨r,0,none⟩=some (slc g L cp)∧W.cell? ⟨r,6,none⟩=some (.int .i64 4)) [18] [16,17] [18] (rds [0,1,2,3,4,5,6,7,8,9,10,11,12,13,14,15,16,17] (.ef 18 .nil)) (by kernel_rfl) (by kernel_rfl) ⟨d0,d6⟩ (fun ops hO=> ?_)
   have HO:=Lib.hid hO
   clear hO
   simp only [rds]
   (repeat (first|(refine lxp HO (v:=?_) (fun w'=> ?_) ?_;rotate_left;(focus (go_simp;(try exact rfl);done));try go_simp)|(refine lxr HO (v:=?_) (fun w' hC'=> ?_) ?_;rotate_left;(focus (obtain ⟨d0,d6⟩:=hC';go_simp;(try exact rfl);done));try go_simp)|(refine lxo HO ?_;try go_simp)))
   refine lxe HO (fun Kx hKx=> ?_)
   go_simp
   refine hKx _ _ (.inl (by rfl)) ?_
   clear hKx Kx
   refine wpL_nil ?_
   go_wp2_with fail
   go_meet
   have hgr:¬r=g:=by have:=m1.size;simp at hbg;omega
   refine ⟨g,m,cp,F,m3.drew.setCell (.inr rfl) _,(R3.drew.set (i:=0) (by omega) _).congr (by apply le7 <;> rfl),hm3,hm1,fun h=> hgr h.symm, .inr ?_,(RF3.drew.setOther hgr _).take (Nat.mul_le_mul_right _ hm2),hF⟩
   have:=m1.size;simp at hbg;omega
 case rest=>
  obtain ⟨sb',L',cap',F,mx,RX,huL',hL4',hne,hor,RF,hF⟩:=hcut
  have XX:=XV.mod mx D1
  clear c0 c2 c6 RV XV HS HV R
  have lX:=XX.lt
  have lR:=RX.lt
  have lF:=RF.lt
  have q0:=RX.cL 0 _ (by omega) rfl
  have q1:=RX.cL 1 _ (by omega) rfl
  have q2:=RX.cL 2 _ (by omega) rfl
  have q3:=RX.cL 3 _ (by omega) rfl
  have q4:=RX.cL 4 _ (by omega) rfl
  have y0:=XX.cL 0 _ (by omega) rfl
  have y1:=XX.cL 1 _ (by omega) rfl
  have y2:=XX.cL 2 _ (by omega) rfl
  have y3:=XX.cL 3 _ (by omega) rfl
  have y4:=XX.cL 4 _ (by omega) rfl
  have y5:=XX.cL 5 _ (by omega) rfl
  have y6:=XX.cL 6 _ (by omega) rfl
  have y7:=XX.cL 7 _ (by omega) rfl
  have y8:=XX.cL 8 _ (by omega) rfl
  have y9:=XX.cL 9 _ (by omega) rfl
  have y10:=XX.cL 10 _ (by omega) rfl
  have hcell:∀ j,j < 12→wc.cell? ⟨sb',u * 12+j,none⟩=some (F (u * 12+j)):=fun j hj=> RF.cell (by omega)
  have z0:wc.cell? ⟨sb',u * 12,none⟩=some (F (u * 12)):=RF.cell (by omega)
  have z1:=hcell 1 (by omega)
  have z2:=hcell 2 (by omega)
  have z3:=hcell 3 (by omega)
  have z4:=hcell 4 (by omega)
  have z5:=hcell 5 (by omega)
  have z6:=hcell 6 (by omega)
  have z7:=hcell 7 (by omega)
  have z8:=hcell 8 (by omega)
  have z9:=hcell 9 (by omega)
  have z10:=hcell 10 (by omega)
  have z11:=hcell 11 (by omega)
  have fz:=fun j=> RF.free j
  have t2:=RX.free 2
  have t3:=RX.free 3
  have t4:=RX.free 4
  have i1:(u:Int) < L' :=by omega
  have i2:(0:Int)≤u:=by omega
  have i4:Int.tmod (u:Int) (L' :Int)=u:=Int.tmod_eq_of_lt i2 i1
  have i6:L' ≠0:=by omega
  have i7:IntKind.i64.wrap (u:Int)=u:=by rw [IntKind.wrap_i64];omega
  go_upto_region 11 with fail
  refine wp_region_chain (fun W=> W.cell? ⟨r,0,none⟩=some (slc sb' L' cap')∧W.cell? ⟨r,1,none⟩=some (.int .i64 0)∧W.cell? ⟨r,2,none⟩=some (.int .i64 u)∧W.cell? ⟨r,3,none⟩=some (.int .i64 0)∧W.cell? ⟨w.heap.size,0,none⟩=some (.int .i64 seq)∧W.cell? ⟨w.heap.size,1,none⟩=some (.int .i64 time)∧W.cell? ⟨w.heap.size,2,none⟩=some (.int .u8 cpu)∧W.cell? ⟨w.heap.size,3,none⟩=some (.int .u8 kind)
   ∧W.cell? ⟨w.heap.size,4,none⟩=some (.int .i64 task)∧W.cell? ⟨w.heap.size,5,none⟩=some (.int .i64 group)∧W.cell? ⟨w.heap.size,6,none⟩=some (.int .i64 tO)∧W.cell? ⟨w.heap.size,7,none⟩=some (.int .i64 weight)∧W.cell? ⟨w.heap.size,8,none⟩=some (.int .i64 ticks)∧W.cell? ⟨w.heap.size,9,none⟩=some (.int .u64 mask)∧W.cell? ⟨w.heap.size,10,none⟩=some (.int .i64 got))
   [26] [25] [26] (rds [0,1,2,3,4,5,6,7,8,9,10,11,12,13,14,15,16,17,18,19,20,21,22,23,24,25] (.ef 26 .nil)) (by kernel_rfl) (by kernel_rfl) ⟨q0,q1,q2,q3,y0,y1,y2,y3,y4,y5,y6,y7,y8,y9,y10⟩ (fun ops hO=> ?_)
  have HO:=Lib.hid hO
  clear hO
  simp only [rds]
  (repeat (first|(refine lxp HO (v:=?_) (fun w'=> ?_) ?_;rotate_left;(focus (go_simp;(try exact rfl);done));try go_simp)|(refine lxr HO (v:=?_) (fun w' hC'=> ?_) ?_;rotate_left;(focus (obtain ⟨q0,q1,q2,q3,y0,y1,y2,y3,y4,y5,y6,y7,y8,y9,y10⟩:=hC';go_simp;(try exact rfl);done));try go_simp)|(refine lxo HO ?_;try go_simp)))
  (refine lxe HO (fun K hK=> ?_);go_simp;refine hK _ _ (.inl (by rfl)) ?_;clear hK K)
  refine wpL_nil ?_
  have szx:=mx.size
  go_upto_region 12 with fail
  refine wp_world (fun W=> Mod (fun b=> b=r∨b=sb') V W∧Row W r 7 (fl [slc sb' L' cap', .int .i64 0, .int .i64 u, .int .i64 0, .int .i64 u, .int .i64 0, .int .i64 4])∧Row W sb' (L' * 12) (fun i=> if i / 12=u then [.int .i64 seq, .int .i64 time, .int .u8 cpu, .int .u8 kind, .int .i64 task, .int .i64 group, .int .i64 tO, .int .i64 weight, .int .i64 ticks, .int .u64 mask, .int .i64 got, .int .i64 0].getD (i % 12) undef else F i)) ?_ ?_
  ·refine ⟨?_, ?_, ?_⟩
   ·have m0:Mod (fun b=> b=r∨b=sb') V wc:=mx.mono (fun b _ h=> .inl h)
    exact (m0.set12 (.inr rfl) _ _ _ _ _ _ _ _ _ _ _ _).drew
   ·exact (RX.other12 hne _ _ _ _ _ _ _ _ _ _ _ _).drew
   ·exact (RF.set12 (by omega) _ _ _ _ _ _ _ _ _ _ _ _).drew
  intro W4 ⟨m4,R4,F4⟩
  clear q0 q1 q2 q3 q4 y0 y1 y2 y3 y4 y5 y6 y7 y8 y9 y10 hcell z0 z1 z2 z3 z4 z5 z6 z7 z8 z9 z10 z11 fz t2 t3 t4 HO
  have lR4:=R4.lt
  have q2:=R4.cL 2 _ (by omega) rfl
  have q3:=R4.cL 3 _ (by omega) rfl
  have q4:=R4.cL 4 _ (by omega) rfl
  have t2:=R4.free 2
  have t3:=R4.free 3
  have t4:=R4.free 4
  go_wp2
  go_ret
  refine ⟨rfl, ?_,sb',L',fun k j=> if k=u then ([seq,time,cpu,kind,task,group,tO,weight,ticks,mask,got,0]:List Int).getD j 0 else f k j,⟨⟨slc sb' L' cap',cap',((((R4.set (i:=2) (by omega) _).set (i:=3) (by omega) _).set (i:=4) (by omega) _)).congr (by apply le7 <;> rfl),fun h=> by omega,fun _=> rfl⟩,fun _=> ⟨hne,_,((F4.setOther (p:=⟨r,2,none⟩) (Ne.symm hne) _).setOther (p:=⟨r,3,none⟩) (Ne.symm hne) _).setOther (p:=⟨r,4,none⟩) (Ne.symm hne) _,fun i hi=> ?_⟩,by omega,hL4'⟩,by omega, ?_⟩
  ·refine Mod.trans (mV.no _) (((m4.setCell (p:=⟨r,2,none⟩) (.inr (.inl rfl)) _).setCell (p:=⟨r,3,none⟩) (.inr (.inl rfl)) _).setCell (p:=⟨r,4,none⟩) (.inr (.inl rfl)) _) ?_
   rintro b hb (h|h)
   ·exact .inl h
   ·rcases hor with ⟨h1,h2⟩|h1
    ·exact .inr ⟨h.trans h1,h2⟩
    ·omega
  ·try dsimp only
   by_cases h:i / 12=u
   ·rw [if_pos h]
    obtain ⟨j,hj,rfl⟩:∃ j,j < 12∧i=u * 12+j:=⟨i % 12,by omega,by omega⟩
    rw [evs_at _ u j hj,show (u * 12+j) % 12=j from by omega]
    rcases (by omega:j=0∨j=1∨j=2∨j=3∨j=4∨j=5∨j=6∨j=7∨j=8∨j=9∨j=10∨j=11) with rfl|rfl|rfl|rfl|rfl|rfl|rfl|rfl|rfl|rfl|rfl|rfl <;> simp [sc]
   ·rw [if_neg h,hF i (by omega)]
    simp only [evs,if_neg h]
  ·rcases hor with h1|h1
   ·exact .inl h1
   ·exact .inr (by omega)
end Go.Q
namespace Go.Q
open Go.RowKit Go.Proofs
theorem Tryz.infoRingP:(Tryz.prog.info? 163).map (fun i=> (i.zero,i.size,i.bytes))=some (some (.pointer none),1,8):=by kernel_rfl
structure DB where
 (d rb rcap pb s1 s5 s6 rg sb L:Nat)
 l:List (Int×Value)
def DOwn (D:DB) (b:Nat):Prop:=b=D.d∨b=D.rb∨b=D.pb∨b=D.s1∨b=D.s5∨b=D.s6∨b=D.rg∨(0 < D.L∧b=D.sb)
structure DAt (w:World) (ow:Nat→Own) (x:Nat) (D:DB) (nx:Int) (c u:Nat):Prop where
 row:Row w D.d 6 (fl [ptr x, .int .i64 nx, .int .i64 10,slc D.rb 64 D.rcap, .slice none 0 0, .map (some D.pb)])
 rgs:∃ F,Row w D.rb 64 F∧F c=ptr D.rg
 puts:IMap w .u8 D.pb D.l
 k1:lk D.l 1=some (slc D.s1 4 4)∧Row w D.s1 4 (fl [fn 196,fn 197,fn 198,fn 199])
 k5:lk D.l 5=some (slc D.s5 2 2)∧Row w D.s5 2 (fl [fn 202,fn 200])
 k6:lk D.l 6=some (slc D.s6 1 1)∧Row w D.s6 1 (fl [fn 202])
 ring:∃ f,RAt w D.rg D.sb D.L u f
 own:∀ b,DOwn D b→ow b= .no
 lt:∀ b,DOwn D b→b < w.heap.size
 a1:D.d≠D.rb∧D.d≠D.pb∧D.d≠D.s1∧D.d≠D.s5∧D.d≠D.s6∧D.d≠D.rg∧(0 < D.L→D.d≠D.sb)
 a2:D.rg≠D.rb∧D.rg≠D.pb∧D.rg≠D.s1∧D.rg≠D.s5∧D.rg≠D.s6
 a3:0 < D.L→D.sb≠D.rb∧D.sb≠D.pb∧D.sb≠D.s1∧D.sb≠D.s5∧D.sb≠D.s6
section
variable {S:Nat→Prop} {w w' :World} {ow ow' :Nat→Own} {x:Nat} {D:DB} {nx:Int} {c u:Nat}
theorem DAt.mod (h:DAt w ow x D nx c u) (hm:Mod S w w') (hs:∀ b,DOwn D b→¬S b) (ho:∀ b,DOwn D b→ow' b= .no):DAt w' ow' x D nx c u:=by
 obtain ⟨F,hF,e⟩:=h.rgs
 obtain ⟨f,hr⟩:=h.ring
 exact ⟨h.row.mod hm (hs _ (by simp [DOwn])),⟨F,hF.mod hm (hs _ (by simp [DOwn])),e⟩,h.puts.mod hm (hs _ (by simp [DOwn])),⟨h.k1.1,h.k1.2.mod hm (hs _ (by simp [DOwn]))⟩,⟨h.k5.1,h.k5.2.mod hm (hs _ (by simp [DOwn]))⟩,⟨h.k6.1,h.k6.2.mod hm (hs _ (by simp [DOwn]))⟩,
  ⟨f,hr.mod hm (hs _ (by simp [DOwn])) (fun h0=> hs _ (by simp [DOwn,h0]))⟩,ho,fun b hb=> Nat.lt_of_lt_of_le (h.lt b hb) hm.size,h.a1,h.a2,h.a3⟩
theorem DAt.next (h:DAt w ow x D nx c u) (v:Int):DAt (w.setCell ⟨D.d,1,none⟩ (.int .i64 v)) ow x D v c u:=by
 obtain ⟨F,hF,e⟩:=h.rgs
 obtain ⟨f,hr⟩:=h.ring
 obtain ⟨b1,b2,b3,b4,b5,b6,b7⟩:=h.a1
 have hm:Mod (fun b=> b=D.d) w (w.setCell ⟨D.d,1,none⟩ (.int .i64 v)):=(Mod.refl (fun b=> b=D.d) w).setCell (p:=⟨D.d,1,none⟩) (.inr rfl) _
 exact ⟨(h.row.set (i:=1) (by omega) _).congr (by apply le6 <;> rfl),⟨F,hF.mod hm (Ne.symm b1),e⟩,h.puts.mod hm (Ne.symm b2),⟨h.k1.1,h.k1.2.mod hm (Ne.symm b3)⟩,⟨h.k5.1,h.k5.2.mod hm (Ne.symm b4)⟩,⟨h.k6.1,h.k6.2.mod hm (Ne.symm b5)⟩,
  ⟨f,hr.mod hm (Ne.symm b6) (fun h0=> Ne.symm (b7 h0))⟩,h.own,fun b hb=> by have:=h.lt b hb;simpa using this,h.a1,h.a2,h.a3⟩
theorem DAt.put (h:DAt w ow x D nx c u) (ho:∀ b,ow b≠ .no→b < w.heap.size) {sb' L' :Nat} {f' :Nat→Nat→Int} (hm:Mod (fun b=> b=D.rg∨b=D.sb∧0 < D.L) w w') (hR:RAt w' D.rg sb' L' (u+1) f') (hL:0 < L') (hs:(sb' =D.sb∧0 < D.L)∨w.heap.size≤sb'):
  DAt w' ow x { D with sb:=sb',L:=L' } nx c (u+1):=by
 obtain ⟨F,hF,e⟩:=h.rgs
 obtain ⟨b1,b2,b3,b4,b5,b6,b7⟩:=h.a1
 obtain ⟨c1,c2,c3,c4,c5⟩:=h.a2
 obtain ⟨hr1,F',hr2,_⟩:=hR.sl hL
 have hz:=hm.size
 have kk:∀ b,b≠D.rg→(0 < D.L→b≠D.sb)→¬(b=D.rg∨b=D.sb∧0 < D.L):=fun b h1 h2 h3=> by rcases h3 with h3|⟨h3,h4⟩;exact h1 h3;exact h2 h4 h3
 have l1:=h.lt D.d (by simp [DOwn])
 have l2:=h.lt D.rb (by simp [DOwn])
 have l3:=h.lt D.pb (by simp [DOwn])
 have l4:=h.lt D.s1 (by simp [DOwn])
 have l5:=h.lt D.s5 (by simp [DOwn])
 have l6:=h.lt D.s6 (by simp [DOwn])
 have l7:=h.lt D.rg (by simp [DOwn])
 refine ⟨h.row.mod hm (kk _ b6 b7),⟨F,hF.mod hm (kk _ (Ne.symm c1) (fun h0=> Ne.symm (h.a3 h0).1)),e⟩,h.puts.mod hm (kk _ (Ne.symm c2) (fun h0=> Ne.symm (h.a3 h0).2.1)),⟨h.k1.1,h.k1.2.mod hm (kk _ (Ne.symm c3) (fun h0=> Ne.symm (h.a3 h0).2.2.1))⟩,⟨h.k5.1,h.k5.2.mod hm (kk _ (Ne.symm c4) (fun h0=> Ne.symm (h.a3 h0).2.2.2.1))⟩,⟨h.k6.1,h.k6.2.mod hm (kk _ (Ne.symm c5) (fun h0=> Ne.symm (h.a3 h0).2.2.2.2))⟩,⟨f',hR⟩, ?_, ?_, ?_,h.a2, ?_⟩
 ·rintro b (h1|h1|h1|h1|h1|h1|h1|⟨h0,h1⟩)
  ·exact h.own b (.inl h1)
  ·exact h.own b (.inr (.inl h1))
  ·exact h.own b (.inr (.inr (.inl h1)))
  ·exact h.own b (.inr (.inr (.inr (.inl h1))))
  ·exact h.own b (.inr (.inr (.inr (.inr (.inl h1)))))
  ·exact h.own b (.inr (.inr (.inr (.inr (.inr (.inl h1))))))
  ·exact h.own b (.inr (.inr (.inr (.inr (.inr (.inr (.inl h1)))))))
  ·dsimp only at h1
   subst h1
   rcases hs with ⟨h2,h3⟩|h2
   ·exact h.own _ (.inr (.inr (.inr (.inr (.inr (.inr (.inr ⟨h3,h2⟩)))))))
   ·exact Classical.byContradiction fun hh=> by have:=ho _ hh;omega
 ·rintro b (h1|h1|h1|h1|h1|h1|h1|⟨h0,h1⟩) <;> dsimp only at h1 <;> subst h1
  ·omega
  ·omega
  ·omega
  ·omega
  ·omega
  ·omega
  ·omega
  ·exact hr2.lt
 ·refine ⟨b1,b2,b3,b4,b5,b6,fun _=> ?_⟩
  dsimp only
  rcases hs with ⟨h2,h3⟩|h2
  ·rw [h2];exact b7 h3
  ·omega
 ·intro _
  dsimp only
  rcases hs with ⟨h2,h3⟩|h2
  ·rw [h2];exact h.a3 h3
  ·omega
end
set_option maxRecDepth 100000 in
theorem drvNew1 (bx:Nat) (C:Nat) (cr:Int) (gb G cap:Nat) (par wt:Nat→Int) (h1:1≤C) (h2:C≤64) (h3:0≤cr) (h4:cr≤1099511627776) (T:Tree G par wt) (w:World) (hb:Row w bx 3 (fl [.int .i64 C, .int .u64 cr,slc gb G cap])) (hr:Row w gb (G * 2) (grp par wt)):
  Calls Tryz.prog 61 #[ptr bx] w fun e w' => ∃ x B ow,e= .returned (.tuple #[ptr x, .int .i64 0])∧Mod No w w' ∧SAt w' ow x B (fresh C G cr par wt)∧(∀ b,ow b≠ .no→w.heap.size≤b):=by
 have c0:=hb.cL 0 _ (by omega) rfl
 have c1:=hb.cL 1 _ (by omega) rfl
 have c2:=hb.cL 2 _ (by omega) rfl
 have lb:=hb.lt
 go_enter Tryz.func61,Tryz.ntmps61
 go_wp2_with fail
 refine (schedNew C cr gb G cap par wt h1 h2 h3 h4 T _ hr).mono ?_;rintro e w1 ⟨x,B,ow,rfl,m1,S1,o1⟩
 go_wp2
 go_ret2
 exact ⟨x,B,ow,rfl,m1,S1,o1⟩
set_option maxRecDepth 100000 in
set_option maxHeartbeats 4000000 in
theorem begin_new (bx:Nat) (s:SSt) (nx:Int) (c:Nat) (hc:c < 64) (w:World) (hf:∀ W,Mod No w W→Calls Tryz.prog 61 #[ptr bx] W fun e w' => ∃ x B ow,e= .returned (.tuple #[ptr x, .int .i64 0])∧Mod No W w' ∧SAt w' ow x B s∧(∀ b,ow b≠ .no→W.heap.size≤b)):
  Calls Tryz.prog 60 #[.func (.func 61) #[] #[ptr bx], .int .i64 nx, .int .i64 64, .int .i64 4, .int .i64 10] w fun e w' => ∃ x B ow D,e= .returned (.tuple #[ptr D.d, .int .i64 0])∧Mod No w w' ∧SAt w' ow x B s∧(∀ b,ow b≠ .no→w.heap.size≤b)∧DAt w' ow x D nx c 0∧(∀ b,DOwn D b→w.heap.size≤b):=by
 have HF:=Lib.hid hf
 clear hf
 go_enter Tryz.func60,Tryz.ntmps60
 go_wp2_with fail
 refine (HF.out w (Mod.refl No w)).mono ?_;rintro e w1 ⟨x,B,ow,rfl,m1,S1,o1⟩
 go_wp2_with fail
 refine (fields_ok _).mono ?_;rintro e w2 ⟨pb,l,rfl,p1,p2,m2,⟨s1,e1,g1,n1,R1⟩,⟨s5,e5,g5,n5,R5⟩,⟨s6,e6,g6,n6,R6⟩⟩
 go_upto_block 0 with fail
 refine wp_world (fun V=> Mod No w2 V∧w2.heap.size < V.heap.size∧Row V w2.heap.size 6 (fl [ptr x, .int .i64 nx, .int .i64 10, .slice none 0 0, .slice none 0 0, .map (some pb)])) ⟨(Mod.refl No w2).alloc _,by simp,row_newL w2 [_,_,_,_,_,_] _⟩ ?_
 intro V ⟨mV,zV,XV⟩
 have sl1:∀ b:Nat,∀ u∈ [(ptr b:Value)],u.oneCell' =true:=fun b=> by simp [Value.oneCell']
 go_wp2
 go_loopw [39] (fun s39 wr=> ∃ (k:Nat) (ro:Option Addr) (rc:Nat) (rg:Nat→Nat),s39= .int .i64 k∧k≤64∧Row wr w2.heap.size 6 (fl [ptr x, .int .i64 nx, .int .i64 10, .slice ro k rc, .slice none 0 0, .map (some pb)])∧wr.ownsRow V.heap.size 163 1 (.slice ro k rc) k ((List.range k).map fun i=> ptr (rg i))∧
  (c < k→V.heap.size≤rg c∧(Value.slice ro k rc).ownBlock≠some (rg c)∧Row wr (rg c) 7 (fl [.slice none 0 0, .int .i64 0, .int .i64 0, .int .i64 0, .int .i64 0, .int .i64 0, .int .i64 4]))∧Mod No w2 wr∧V.heap.size≤wr.heap.size) (fun s39 _=> 64 - (RowKit.intOf s39).toNat)
 case atStart=> exact ⟨0,none,0,fun _=> 0,rfl,by omega,XV,World.ownsRow_nil _ _ _ _,fun h=> by omega,mV,Nat.le_refl _⟩
 case round=>
  obtain ⟨wk,rfl⟩:∃ W,W=wr:=⟨wr,rfl⟩
  obtain ⟨k,ro,rc,rg,rfl,hk,X,hO,hR,mk,lV⟩:=hrel
  have lX:=X.lt
  have x3:=X.cL 3 _ (by omega) rfl
  have no:(Value.slice ro k rc).ownBlock≠some w2.heap.size:=fun e=> by have:=(hO.lt _ e).1;omega
  by_cases hkG:k < 64
  ·have j0:(0:Int)≤k:=by omega
   have j1:(k:Int) < 64:=by omega
   have HR:=Lib.hid hR
   clear hR
   go_wp2_with fail
   refine (ringNew 4 (by decide) (by decide) _).mono ?_;rintro e w5 ⟨rfl,rfl⟩
   have X5:=X.alloc (.cells #[.slice none 0 0, .int .i64 0, .int .i64 0, .int .i64 0, .int .i64 0, .int .i64 0, .int .i64 4] 275)
   have R5:Row (wk.alloc (.cells #[.slice none 0 0, .int .i64 0, .int .i64 0, .int .i64 0, .int .i64 0, .int .i64 0, .int .i64 4] 275)) wk.heap.size 7 (fl [.slice none 0 0, .int .i64 0, .int .i64 0, .int .i64 0, .int .i64 0, .int .i64 0, .int .i64 4]):=row_newL wk [_,_,_,_,_,_,_] _
   go_wp2_with (at_builtin;go_must (refine wpList_app_c 163 _ 1 8 Tryz.infoRingP rfl _ _ 153 rfl Tryz.underlying153 rfl (by decide) (by decide) [ptr wk.heap.size] rfl (sl1 _) V.heap.size (.slice ro k rc) k ((List.range k).map fun i=> ptr (rg i)) _ _ rfl rfl ?_ ?_ ?_ ?_ ?_);go_must (· simp;omega);go_must (· omega);go_must (· (repeat first|(with_reducible exact hO)|(with_reducible refine World.ownsRow.drew ?_)|(with_reducible refine World.ownsRow.alloc ?_ _)));go_must (· exact row_one _ _ _ _ (by simp));go_must (intro gs cap wB hB);go_must (have nB:=Appd.row hB (X5.alloc _) (fun h=> no h));go_must (have lB:=nB.lt);go_must (have j3' :=nB.cL 3 _ (by omega) rfl);have f3' :=nB.free 3)
   have hR:=HR.out
   have aq:=hB.at_
   simp only [World.size_alloc] at aq
   have lR:c < k→rg c < wk.heap.size:=fun h=> (hR h).2.2.lt
   have lo:=hO.lt
   have ngw:gs≠wk.heap.size:=by
    rintro rfl
    rcases aq with h|h
    ·have:=(lo _ h).2;omega
    ·omega
   have ngx:gs≠w2.heap.size:=by
    rintro rfl
    rcases aq with h|h
    ·exact no h
    ·omega
   have ngc:c < k→gs≠rg c:=by
    rintro hck rfl
    rcases aq with h|h
    ·exact (hR hck).2.1 h
    ·have:=lR hck;omega
   have mC:Mod (fun b=> b=w2.heap.size) wB (wB.setCell ⟨w2.heap.size,3,none⟩ (slc gs (k+1) cap)):=(Mod.refl (fun b=> b=w2.heap.size) wB).setCell (p:=⟨w2.heap.size,3,none⟩) (.inr rfl) _
   have eL:((List.range (k+1)).map fun i=> ptr (if i=k then wk.heap.size else rg i))=((List.range k).map fun i=> ptr (rg i))++ [ptr wk.heap.size]:=by
    rw [List.range_succ,List.map_append]
    congr 1
    ·refine List.map_congr_left (fun g hg=> ?_)
     have:=List.mem_range.1 hg
     rw [if_neg (by omega)]
    ·simp
   have zB:=hB.mod.size
   simp only [World.size_alloc] at zB
   refine ⟨⟨k+1,some ⟨gs,0,none⟩,cap,fun i=> if i=k then wk.heap.size else rg i,by go_num,by omega,(nB.set (i:=3) (by omega) _).congr (by apply le6 <;> rfl), ?_, ?_, ?_, ?_⟩,by simp only [RowKit.intOf];omega⟩
   ·rw [eL]
    exact ownsRow_mod hB.own mC (by rintro b hb rfl;exact ngx (Option.some.inj hb))
   ·intro hck
    by_cases e:c=k
    ·subst e
     simp only [if_true]
     refine ⟨by omega,fun h=> ngw (Option.some.inj h),(Appd.row hB (R5.alloc _) (fun h=> by have:=(lo _ h).2;omega)).mod mC (by show ¬wk.heap.size=w2.heap.size;omega)⟩
    ·simp only [if_neg e]
     obtain ⟨r1,r2,r3⟩:=hR (by omega)
     have:=r3.lt
     exact ⟨r1,fun h=> ngc (by omega) (Option.some.inj h),(Appd.row hB ((r3.alloc _).alloc _) r2).mod mC (by show ¬rg c=w2.heap.size;omega)⟩
   ·refine Mod.trans mk (Mod.trans (Mod.trans (((Mod.refl No wk).alloc _).alloc _|>.no (fun b=> b=w2.heap.size∨(Value.slice ro k rc).ownBlock=some b)) (hB.mod.mono (T:=fun b=> b=w2.heap.size∨(Value.slice ro k rc).ownBlock=some b) (fun b _ h=> .inr h)) (fun _ _ h=> h)) (mC.mono (fun b _ h=> .inl h)) (fun _ _ h=> h)) ?_
    rintro b hb (h|h)
    ·omega
    ·have:=(lo _ h).1;omega
   ·simp only [World.size_setCell];omega
  ·obtain rfl:k=64:=by omega
   have hR' :=Lib.hid hR
   clear hR
   go_wp2
   obtain ⟨r1,r2,r3⟩:=hR'.out hc
   have hO2:=hO
   obtain ⟨_,⟨_,h0⟩|⟨rb,cap,cur,ee,hrb,_⟩⟩:=hO2
   ·omega
   simp only [Value.slice.injEq,true_and] at ee
   obtain ⟨rfl,rfl⟩:=ee
   have RB:=ownsRow_row hO
   have hz1:=m1.size
   have hz2:=m2.size
   have lr:=r3.lt
   have l1:=R1.lt
   have l5:=R5.lt
   have l6:=R6.lt
   have lp:=p2.lt
   have lrb:=RB.lt
   have nrb:rb≠rg c:=fun e=> r2 (by rw [←e];rfl)
   have mw2:Mod No w1 wk:=Mod.trans m2 mk (fun _ _ h=> h)
   have mw:Mod No w wk:=Mod.trans m1 mw2 (fun _ _ h=> h)
   have hno:∀ b,w1.heap.size≤b→ow b= .no:=fun b hb=> Classical.byContradiction fun hh=> by have:=S1.2 _ hh;omega
   refine bodyPost_ret (v:= .tuple #[ptr w2.heap.size, .int .i64 0]) (by simp [results,Tryz.results60,go_sem, *]) rfl ⟨x,B,ow,⟨w2.heap.size,rb,rc,pb,s1,s5,s6,rg c,0,0,l⟩,rfl,mw,S1.no mw2,o1,⟨X,⟨_,by rw [Nat.mul_one] at RB;exact RB,by simp [fl,hc]⟩,p2.mod mk (fun h=> h),⟨e1,R1.mod mk (fun h=> h)⟩,⟨e5,R5.mod mk (fun h=> h)⟩,⟨e6,R6.mod mk (fun h=> h)⟩,⟨fun _ _=> 0,⟨⟨.slice none 0 0,0,r3,fun _=> rfl,fun h=> absurd h (Nat.lt_irrefl 0)⟩,fun h=> absurd h (Nat.lt_irrefl 0),Nat.le_refl _,Nat.zero_le _⟩⟩, ?_, ?_, ?_, ?_,fun h=> absurd h (Nat.lt_irrefl 0)⟩, ?_⟩
   ·rintro b (h|h|h|h|h|h|h|h) <;> exact hno _ (by dsimp only at h;omega)
   ·rintro b (h|h|h|h|h|h|h|h) <;> (dsimp only at h;omega)
   ·refine ⟨?_, ?_, ?_, ?_, ?_, ?_,fun h=> absurd h (Nat.lt_irrefl 0)⟩ <;> (dsimp only;omega)
   ·refine ⟨?_, ?_, ?_, ?_, ?_⟩ <;> (dsimp only;omega)
   ·rintro b (h|h|h|h|h|h|h|h) <;> (dsimp only at h;omega)
end Go.Q
