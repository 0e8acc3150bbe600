/- A part of the proof that TopGreat answers true: what some of the functions on its road compute. -/
import Derived.Deep.DeepCutAuto
import Derived.Test.YtckddephdbhagaaGreatDoorQ8
import Derived.Test.YtckddephdbhagaaGreatDoorQ18
set_option linter.unusedVariables false
set_option linter.unusedSimpArgs false
namespace Go.Q
open Go.RowKit Go.Proofs
theorem Tryz.zputs (w:World):(zeroValue 159).run Tryz.prog w= .ok (.slice none 0 0) w:=by
 kernel_rfl
def h11 (x:Nat) (w:World) (v0 v1 v2 v3 v4 v5 v6 v7 v8 v9 v10:Value):World:=((((((((((w.setCell ⟨x,0,none⟩ v0).setCell ⟨x,1,none⟩ v1).setCell ⟨x,2,none⟩ v2).setCell ⟨x,3,none⟩ v3).setCell ⟨x,4,none⟩ v4).setCell ⟨x,5,none⟩ v5).setCell ⟨x,6,none⟩ v6).setCell ⟨x,7,none⟩ v7).setCell ⟨x,8,none⟩ v8).setCell ⟨x,9,none⟩ v9).setCell ⟨x,10,none⟩ v10
theorem h11_mod (x:Nat) (w:World) (v0 v1 v2 v3 v4 v5 v6 v7 v8 v9 v10:Value):Mod (fun b=> b=x) w (h11 x w v0 v1 v2 v3 v4 v5 v6 v7 v8 v9 v10):=
 (((((((((((Mod.refl (fun b=> b=x) w).setCell (p:=⟨x,0,none⟩) (.inr rfl) _).setCell (p:=⟨x,1,none⟩) (.inr rfl) _).setCell (p:=⟨x,2,none⟩) (.inr rfl) _).setCell (p:=⟨x,3,none⟩) (.inr rfl) _).setCell (p:=⟨x,4,none⟩) (.inr rfl) _).setCell (p:=⟨x,5,none⟩) (.inr rfl) _).setCell (p:=⟨x,6,none⟩) (.inr rfl) _).setCell (p:=⟨x,7,none⟩) (.inr rfl) _).setCell (p:=⟨x,8,none⟩) (.inr rfl) _).setCell (p:=⟨x,9,none⟩) (.inr rfl) _).setCell (p:=⟨x,10,none⟩) (.inr rfl) _
def DrvPost (w:World) (ow:Nat→Own) (x:Nat) (D:DB) (nx:Int) (c u:Nat) (P:SSt→Prop) (evf:Int→List Value) (e:Ending) (w' :World):Prop:=
 ∃ (tm:Int) (ow' :Nat→Own) (B' :SB) (D' :DB) (s' :SSt),e= .returned (.tuple #[.agg (evf tm).toArray, .bool true, .int .i64 0])∧SAt w' ow' x B' s' ∧P s' ∧DAt w' ow' x D' (nx+1) c (u+1)∧D'.d=D.d∧
  Mod (fun b=> ow b≠ .no∨DOwn D b) w w' ∧(∀ b,b < w.heap.size→ow' b=ow b)∧∀ b,DOwn D' b→DOwn D b∨w.heap.size≤b
section
variable {w:World} {ow:Nat→Own} {x:Nat} {B:SB} {s:SSt} {D:DB} {nx:Int} {c u:Nat}
set_option maxRecDepth 100000 in
set_option maxHeartbeats 4000000 in
theorem drv_do6 (h:SAt w ow x B s) (hd:DAt w ow x D nx c u) (hu:u < 4) (hc:c < 64) (n0:1≤nx) (n1:nx≤1000) (P:SSt→Prop) (task group weight tO ticks mask got:Int)
  (hDo:∀ W,Mod No w W→Calls Tryz.prog 22 #[ptr x,opv 6 c task group weight tO ticks mask] W fun e w' => e= .returned (.tuple #[.int .i64 got, .int .i64 0])∧Mod (fun b=> ow b≠ .no) W w' ∧∃ ow' B' s',(∀ b,b < W.heap.size→ow' b=ow b)∧SAt w' ow' x B' s' ∧s'.C=64∧P s'):
  Calls Tryz.prog 24 #[ptr D.d,opv 6 c task group weight tO ticks mask] w (DrvPost w ow x D nx c u P (fun tm=> (evl nx tm c 6 0 0 0 0 0 0 got))):=by
 have HD:=Lib.hid hDo
 clear hDo
 have i0:(0:Int)≤c:=by omega
 have i1:(c:Int) < 64:=by omega
 have ldd:=hd.lt D.d (by simp [DOwn])
 go_enter Tryz.func24,Tryz.ntmps24
 go_upto_region 1 with fail
 refine wp_world (fun V=> Mod No w V∧Row V w.heap.size 8 (fl [.int .u8 6, .int .i64 c, .int .i64 task, .int .i64 group, .int .i64 weight, .int .i64 tO, .int .i64 ticks, .int .u64 mask])∧Row V (w.heap.size+1) 11 (fl [.int .i64 0, .int .i64 0, .int .u8 0, .int .u8 0, .int .i64 0, .int .i64 0, .int .i64 0, .int .i64 0, .int .i64 0, .int .u64 0, .int .i64 0])) ⟨((Mod.refl No w).alloc _).alloc _,(row_newL w [_,_,_,_,_,_,_,_] _).alloc _,row_newL' _ _ [_,_,_,_,_,_,_,_,_,_,_] _ (by simp)⟩ ?_
 intro V ⟨mV,OV,ZV⟩
 have dV:DAt V ow x D nx c u:=hd.mod mV (fun _ _ h=> h) hd.own
 have zV:=mV.size
 have lZ:=ZV.lt
 have d0:=dV.row.cL 0 _ (by omega) rfl
 have d1:=dV.row.cL 1 _ (by omega) rfl
 have d3:=dV.row.cL 3 _ (by omega) rfl
 have p0:=OV.cL 0 _ (by omega) rfl
 have p1:=OV.cL 1 _ (by omega) rfl
 have p2:=OV.cL 2 _ (by omega) rfl
 have p3:=OV.cL 3 _ (by omega) rfl
 have p4:=OV.cL 4 _ (by omega) rfl
 have p5:=OV.cL 5 _ (by omega) rfl
 have p6:=OV.cL 6 _ (by omega) rfl
 have p7:=OV.cL 7 _ (by omega) rfl
 have lO:=OV.lt
 have ldV:=dV.row.lt
 go_wp2_with fail
 refine (drvNone D.d 64 D.rcap _ (by omega) _ d3).mono ?_;rintro e w1 ⟨rfl,rfl⟩
 go_wp2_with fail
 refine (drvCpu1 D.d 6 c task group weight tO ticks mask (by decide) V).mono ?_;rintro e w1 ⟨rfl,hb1⟩
 have n1V:=Mod.of_below hb1 No
 have m1:Mod No w w1:=Mod.trans mV n1V (fun _ _ h=> h)
 have O1:=OV.mod n1V (fun h=> h)
 have Z1:=ZV.mod n1V (fun h=> h)
 have D1:DAt w1 ow x D nx c u:=dV.mod n1V (fun _ _ h=> h) hd.own
 have z1:=n1V.size
 clear d0 d1 d3 p0 p1 p2 p3 p4 p5 p6 p7 lO ldV dV OV ZV n1V hb1 mV
 go_upto_region 6 with fail
 have cOf:∀ W,DAt W ow x D nx c u→Row W w.heap.size 8 (fl [.int .u8 6, .int .i64 c, .int .i64 task, .int .i64 group, .int .i64 weight, .int .i64 tO, .int .i64 ticks, .int .u64 mask])→W.cell? ⟨D.d,0,none⟩=some (ptr x)∧W.cell? ⟨w.heap.size,0,none⟩=some (.int .u8 6)∧W.cell? ⟨w.heap.size,1,none⟩=some (.int .i64 c)∧W.cell? ⟨w.heap.size,2,none⟩=some (.int .i64 task)∧W.cell? ⟨w.heap.size,3,none⟩=some (.int .i64 group)∧W.cell? ⟨w.heap.size,4,none⟩=some (.int .i64 weight)∧W.cell? ⟨w.heap.size,5,none⟩=some (.int .i64 tO)∧W.cell? ⟨w.heap.size,6,none⟩=some (.int .i64 ticks)∧W.cell? ⟨w.heap.size,7,none⟩=some (.int .u64 mask):=fun W hD hO=>
  ⟨hD.row.cL 0 _ (by omega) rfl,hO.cL 0 _ (by omega) rfl,hO.cL 1 _ (by omega) rfl,hO.cL 2 _ (by omega) rfl,hO.cL 3 _ (by omega) rfl,hO.cL 4 _ (by omega) rfl,hO.cL 5 _ (by omega) rfl,hO.cL 6 _ (by omega) rfl,hO.cL 7 _ (by omega) rfl⟩
 refine wp_region_chain (fun W=> W.cell? ⟨D.d,0,none⟩=some (ptr x)∧W.cell? ⟨w.heap.size,0,none⟩=some (.int .u8 6)∧W.cell? ⟨w.heap.size,1,none⟩=some (.int .i64 c)∧W.cell? ⟨w.heap.size,2,none⟩=some (.int .i64 task)∧W.cell? ⟨w.heap.size,3,none⟩=some (.int .i64 group)∧W.cell? ⟨w.heap.size,4,none⟩=some (.int .i64 weight)∧W.cell? ⟨w.heap.size,5,none⟩=some (.int .i64 tO)∧W.cell? ⟨w.heap.size,6,none⟩=some (.int .i64 ticks)∧W.cell? ⟨w.heap.size,7,none⟩=some (.int .u64 mask)) [5] [] [] (rds [0,1,2,3,4] (.ef 5 (rds [6,7,8,9,10] .nil))) (by kernel_rfl) (by kernel_rfl) (cOf _ (D1.mod (Mod.refl No w1).drew (fun _ _ h=> h) hd.own) O1.drew) ?_
 intro OO hO
 have HO:=Lib.hid hO
 clear hO
 simp only [rds]
 have lO:=O1.lt
 have ld:=D1.row.lt
 (repeat (first|(refine lxp HO (v:=?_) (fun w'=> ?_) ?_;rotate_left;(focus (go_simp;(try exact rfl);done));try go_simp)|(refine lxr HO (v:=?_) (fun w' hC'=> ?_) ?_;rotate_left;(focus (obtain ⟨c1,c2,c3,c4,c5,c6,c7,c8,c9⟩:=hC';go_simp;(try exact rfl);done));try go_simp)|(refine lxo HO ?_;try go_simp)))
 refine lxe HO (fun Kx hKx=> ?_)
 go_simp
 refine (HD.out _ m1.drew).mono ?_;rintro e w2 ⟨rfl,m2,ow2,B2,s2,ho2,S2,eC2,hP2⟩
 have hno:∀ b,w.heap.size≤b→ow b= .no:=fun b hb=> Classical.byContradiction fun hh=> by have:=h.2 b hh;omega
 have O2:=O1.drew.mod m2 (by show ¬ow w.heap.size≠ .no;rw [hno _ (Nat.le_refl _)];simp)
 have Z2:=Z1.drew.mod m2 (by show ¬ow (w.heap.size+1)≠ .no;rw [hno _ (by omega)];simp)
 have D2o:DAt w2 ow x D nx c u:=(D1.mod (Mod.refl No w1).drew (fun _ _ h=> h) hd.own).mod m2 (fun b hb=> by rw [hd.own b hb];simp) hd.own
 have z2:=m2.size
 simp only [World.size_drew] at z2
 have ho2' :∀ b,b < w1.heap.size→ow2 b=ow b:=fun b hb=> ho2 b (by simpa using hb)
 have D2:DAt w2 ow2 x D nx c u:=D2o.mod (Mod.refl No w2) (fun _ _ h=> h) (fun b hb=> by rw [ho2' b (by have:=hd.lt b hb;omega)];exact hd.own b hb)
 have mw2:Mod (fun b=> ow b≠ .no) w w2:=Mod.trans (m1.drew.no _) m2 (fun _ _ h=> h)
 refine hKx _ _ (.inr (cOf _ D2o O2)) ?_
 clear hKx Kx D2o m2 O1 Z1 D1 lO ld
 (repeat (first|(refine lxp HO (v:=?_) (fun w'=> ?_) ?_;rotate_left;(focus (go_simp;(try exact rfl);done));try go_simp)|(refine lxr HO (v:=?_) (fun w' hC'=> ?_) ?_;rotate_left;(focus (obtain ⟨c1,c2,c3,c4,c5,c6,c7,c8,c9⟩:=hC';go_simp;(try exact rfl);done));try go_simp)|(refine lxo HO ?_;try go_simp)))
 refine wpL_nil ?_
 clear HO
 have d0:=D2.row.cL 0 _ (by omega) rfl
 have ld:=D2.row.lt
 go_wp2_with fail
 refine (show Calls Tryz.prog 85 #[ptr x, .int .i64 c] w2 _ from clock_ok S2 c (by rw [eC2];exact hc)).mono ?_;rintro e w3 ⟨rfl,hb3⟩
 obtain ⟨tm,htm⟩:∃ tm,tm=s2.clocks c:=⟨_,rfl⟩
 rw [←htm]
 clear htm
 have n3:=Mod.of_below hb3 No
 have S3:=S2.no n3
 have O3:=O2.mod n3 (fun h=> h)
 have Z3:=Z2.mod n3 (fun h=> h)
 have D3:DAt w3 ow2 x D nx c u:=D2.mod n3 (fun _ _ h=> h) D2.own
 have mw3:Mod (fun b=> ow b≠ .no) w w3:=Mod.trans mw2 (n3.no _) (fun _ _ h=> h)
 have z3:=n3.size
 clear d0 ld S2 O2 Z2 D2 mw2 hb3 n3
 go_upto_region 10 with fail
 have hwc:IntKind.u8.wrap (c:Int)=c:=by rw [IntKind.wrap_u8];omega
 have e0:=D3.row.cL 1 _ (by omega) rfl
 have e1:=O3.cL 0 _ (by omega) rfl
 have ld:=D3.row.lt
 have lO:=O3.lt
 refine wp_region_chain (fun W=> W.cell? ⟨D.d,1,none⟩=some (.int .i64 nx)∧W.cell? ⟨w.heap.size,0,none⟩=some (.int .u8 6)) [10,11] [] [11] (rds [0,1,2,3,4,5,6,7,8,9] (.ef 10 (.ef 11 .nil))) (by kernel_rfl) (by kernel_rfl) ⟨e0,e1⟩ ?_
 intro OO hO
 have HO:=Lib.hid hO
 clear hO
 simp only [rds]
 (repeat (first|(refine lxp HO (v:=?_) (fun w'=> ?_) ?_;rotate_left;(focus (go_simp;(try exact rfl);done));try go_simp)|(refine lxr HO (v:=?_) (fun w' hC'=> ?_) ?_;rotate_left;(focus (obtain ⟨c1,c2⟩:=hC';go_simp;(try exact rfl);done));try go_simp)|(refine lxo HO ?_;try go_simp)))
 (refine lxe HO (fun K hK=> ?_);go_simp;refine hK _ _ ?_ ?_;all_goals clear hK K)
 ·exact .inr ⟨by go_simp,by go_simp⟩
 (refine lxe HO (fun K hK=> ?_);go_simp;refine hK _ _ (.inl (by rfl)) ?_;clear hK K)
 refine wpL_nil ?_
 clear HO
 go_upto_region 11 with fail
 refine wp_world (fun W=> Mod No w3 W∧Row W w3.heap.size 11 (fl (evl nx tm c 6 0 0 0 0 0 0 0))) ⟨((Mod.refl No w3).alloc _).drew,Row.drew (row_newL' w3 _ [_,_,_,_,_,_,_,_,_,_,_] _ rfl)⟩ ?_
 intro W ⟨mW,EW⟩
 have SW:=S3.no mW
 have OW:=O3.mod mW (fun h=> h)
 have ZW:=Z3.mod mW (fun h=> h)
 have DW:DAt W ow2 x D nx c u:=D3.mod mW (fun _ _ h=> h) D3.own
 have mwW:Mod (fun b=> ow b≠ .no) w W:=Mod.trans mw3 (mW.no _) (fun _ _ h=> h)
 have zW:=mW.size
 have o2z:∀ b,w1.heap.size≤b→b < w3.heap.size→True:=fun _ _ _=> trivial
 have oe:ow2 w3.heap.size= .no:=Classical.byContradiction fun hh=> by have:=S3.2 _ hh;omega
 have lD3:∀ b,DOwn D b→b < w3.heap.size:=D3.lt
 clear e0 e1 ld lO S3 O3 Z3 D3 mw3 mW o2z
 obtain ⟨eb,heb⟩:∃ eb,eb=w3.heap.size:=⟨_,rfl⟩
 rw [←heb] at EW oe lD3 zW z3 ⊢
 clear heb
 have d5:=DW.row.cL 5 _ (by omega) rfl
 have p0:=OW.cL 0 _ (by omega) rfl
 have ld:=DW.row.lt
 have lO:=OW.lt
 have hlk:(Instr.lookup 154 (.map (some D.pb)) (.int .u8 6) false).run Tryz.prog W.drew= .ok (slc D.s6 1 1) W.drew:=by
  have:=run_lookup (P:=Tryz.prog) (w:=W.drew) (q:= .u8) Tryz.underlying154 Tryz.underlying5 (Tryz.zputs _) (DW.puts.drew) 6
  rw [DW.k6.1] at this
  exact this
 refine wp_region_chain (fun W' => W' =W.drew) [] [] [] (rds [0,1,2,3,4,5,6,7,8] .nil) (by kernel_rfl) (by kernel_rfl) rfl ?_
 intro OO hO
 have HO:=Lib.hid hO
 clear hO
 simp only [rds]
 (repeat (first|(refine lxp HO (v:=?_) (fun w'=> ?_) ?_;rotate_left;(focus (go_simp;(try exact rfl);done));try go_simp)|(refine lxr HO (v:=?_) (fun w' hC'=> ?_) ?_;rotate_left;(focus (obtain rfl:=hC';go_simp;(try exact rfl);done));try go_simp)|(refine lxo HO ?_;try go_simp)))
 refine wpL_nil ?_
 clear HO hlk d5 p0 ld lO
 go_wp2
 go_loopw [69] (fun s69 wr=> ∃ j:Int,s69= .int .i64 j∧(j=0∨j=1)∧Row wr eb 11 (fl (if j=0 then (evl nx tm c 6 0 0 0 0 0 0 0) else (evl nx tm c 6 0 0 0 0 0 0 got)))∧Mod (fun b=> b=eb) W wr) (fun s69 _=> 1 - (RowKit.intOf s69).toNat)
 case atStart=> exact ⟨0,rfl, .inl rfl,by rw [if_pos rfl];exact EW.drew,(Mod.refl _ W).drew⟩
 case round=>
  obtain ⟨wk,rfl⟩:∃ W',W' =wr:=⟨wr,rfl⟩
  obtain ⟨j,rfl,hj,E,hm⟩:=hrel
  have zk:=hm.size
  have ebD:∀ b,DOwn D b→¬b=eb:=fun b hb=> by have:=lD3 b hb;omega
  have Dk:DAt wk ow2 x D nx c u:=DW.mod hm ebD DW.own
  have Ok:=OW.mod hm (by show ¬w.heap.size=eb;omega)
  have Zk:=ZW.mod hm (by show ¬w.heap.size+1=eb;omega)
  have lE:=E.lt
  have lO:=Ok.lt
  have p0:=Ok.cL 0 _ (by omega) rfl
  have p1:=Ok.cL 1 _ (by omega) rfl
  have p2:=Ok.cL 2 _ (by omega) rfl
  have p3:=Ok.cL 3 _ (by omega) rfl
  have p4:=Ok.cL 4 _ (by omega) rfl
  have p5:=Ok.cL 5 _ (by omega) rfl
  have p6:=Ok.cL 6 _ (by omega) rfl
  have p7:=Ok.cL 7 _ (by omega) rfl
  have RK:=Dk.k6.2
  have lK:=RK.lt
  rcases hj with rfl|rfl
  ·have E:Row wk eb 11 (fl (evl nx tm c 6 0 0 0 0 0 0 0)):=E
   have q:wk.cell? ⟨D.s6,0,none⟩=some (fn 202):=RK.cL 0 _ (by omega) rfl
   go_wp2_with fail
   refine (fld7 6 c task group weight tO ticks mask got E).mono ?_;rintro e w5 ⟨rfl,R5,m5⟩
   go_wp2
   refine ⟨⟨1,rfl,by decide,R5,Mod.trans hm m5 (fun _ _ h=> h)⟩,by simp [RowKit.intOf]⟩
  ·
   have E:Row wk eb 11 (fl (evl nx tm c 6 0 0 0 0 0 0 got)):=E
   have SK:SAt wk ow2 x B2 s2:=SW.mod hm (by rintro b rfl;exact oe)
   have mwk:Mod (fun b=> ow b≠ .no) w wk:=Mod.trans mwW hm (fun b hb e=> by have e' :b=eb:=e;omega)
   have q1:=Dk.row.cL 1 _ (by omega) rfl
   have qf:=Dk.row.free 1
   have ld:=Dk.row.lt
   clear p0 p1 p2 p3 p4 p5 p6 p7 lO RK lK mwW SW DW OW ZW EW
   have HH:=Lib.hid (And.intro Dk (And.intro SK (And.intro E (And.intro Zk mwk))))
   clear Dk SK E Zk mwk
   go_upto_region 17 with fail
   obtain ⟨Dk,SK,E,Zk,mwk⟩:=HH.out
   have ned:D.d≠eb:=ebD _ (by simp [DOwn])
   have ldd:=hd.lt D.d (by simp [DOwn])
   have hmN:Mod (fun b=> b=D.d) wk (wk.setCell ⟨D.d,1,none⟩ (.int .i64 (nx+1))):=(Mod.refl (fun b=> b=D.d) wk).setCell (p:=⟨D.d,1,none⟩) (.inr rfl) _
   refine wp_world (fun V=> DAt V ow2 x D (nx+1) c u∧SAt V ow2 x B2 s2∧Row V eb 11 (fl (evl nx tm c 6 0 0 0 0 0 0 got))∧Row V (w.heap.size+1) 11 (fl [.int .i64 0, .int .i64 0, .int .u8 0, .int .u8 0, .int .i64 0, .int .i64 0, .int .i64 0, .int .i64 0, .int .i64 0, .int .u64 0, .int .i64 0])∧Mod (fun b=> ow b≠ .no∨DOwn D b) w V∧wk.heap.size≤V.heap.size) ?_ ?_
   ·exact ⟨Dk.next (nx+1),SK.mod hmN (by rintro b rfl;exact Dk.own _ (by simp [DOwn])),E.mod hmN (by show ¬eb=D.d;omega),Zk.mod hmN (by show ¬w.heap.size+1=D.d;omega),Mod.trans (mwk.mono (fun b _ h=> .inl h)) hmN (fun b _ e=> .inr (.inl e)),by simp⟩
   intro V ⟨DV,SV,EV,ZV,mV,zV⟩
   clear q1 qf ld HH Dk SK E Zk mwk hm
   obtain ⟨F,hF,eF⟩:=DV.rgs
   obtain ⟨f,hR⟩:=DV.ring
   have lV:=DV.lt
   have lE:=EV.lt
   have lF:=hF.lt
   have clsOf:∀ W',Row W' eb 11 (fl (evl nx tm c 6 0 0 0 0 0 0 got))→W'.cell? ⟨D.d,3,none⟩=some (slc D.rb 64 D.rcap)→W'.cell? ⟨D.rb,c,none⟩=some (ptr D.rg)→W'.cell? ⟨eb,0,none⟩=some (.int .i64 nx)∧W'.cell? ⟨eb,1,none⟩=some (.int .i64 tm)∧W'.cell? ⟨eb,2,none⟩=some (.int .u8 c)∧W'.cell? ⟨eb,3,none⟩=some (.int .u8 6)∧W'.cell? ⟨eb,4,none⟩=some (.int .i64 0)∧W'.cell? ⟨eb,5,none⟩=some (.int .i64 0)∧W'.cell? ⟨eb,6,none⟩=some (.int .i64 0)∧W'.cell? ⟨eb,7,none⟩=some (.int .i64 0)∧W'.cell? ⟨eb,8,none⟩=some (.int .i64 0)∧W'.cell? ⟨eb,9,none⟩=some (.int .u64 0)∧W'.cell? ⟨eb,10,none⟩=some (.int .i64 got)∧W'.cell? ⟨D.d,3,none⟩=some (slc D.rb 64 D.rcap)∧W'.cell? ⟨D.rb,c,none⟩=some (ptr D.rg):=fun W' hE h1 h2=> ⟨hE.cL 0 _ (by omega) rfl,hE.cL 1 _ (by omega) rfl,hE.cL 2 _ (by omega) rfl,hE.cL 3 _ (by omega) rfl,hE.cL 4 _ (by omega) rfl,hE.cL 5 _ (by omega) rfl,hE.cL 6 _ (by omega) rfl,hE.cL 7 _ (by omega) rfl,hE.cL 8 _ (by omega) rfl,hE.cL 9 _ (by omega) rfl,hE.cL 10 _ (by omega) rfl,h1,h2⟩
   refine wp_region_chain (fun W' => W'.cell? ⟨eb,0,none⟩=some (.int .i64 nx)∧W'.cell? ⟨eb,1,none⟩=some (.int .i64 tm)∧W'.cell? ⟨eb,2,none⟩=some (.int .u8 c)∧W'.cell? ⟨eb,3,none⟩=some (.int .u8 6)∧W'.cell? ⟨eb,4,none⟩=some (.int .i64 0)∧W'.cell? ⟨eb,5,none⟩=some (.int .i64 0)∧W'.cell? ⟨eb,6,none⟩=some (.int .i64 0)∧W'.cell? ⟨eb,7,none⟩=some (.int .i64 0)∧W'.cell? ⟨eb,8,none⟩=some (.int .i64 0)∧W'.cell? ⟨eb,9,none⟩=some (.int .u64 0)∧W'.cell? ⟨eb,10,none⟩=some (.int .i64 got)∧W'.cell? ⟨D.d,3,none⟩=some (slc D.rb 64 D.rcap)∧W'.cell? ⟨D.rb,c,none⟩=some (ptr D.rg)) [9,11] [] [] (rds [0,1,2,3,4,5,6,7,8] (.ef 9 (rds [10] (.ef 11 (rds [12,13] .nil))))) (by kernel_rfl) (by kernel_rfl) (clsOf _ EV.drew (DV.row.cL 3 _ (by omega) rfl) (by have:=hF.cell hc;rw [eF] at this;exact this)) ?_
   intro OO hO
   have HO:=Lib.hid hO
   clear hO
   simp only [rds]
   (repeat (first|(refine lxp HO (v:=?_) (fun w'=> ?_) ?_;rotate_left;(focus (go_simp;(try exact rfl);done));try go_simp)|(refine lxr HO (v:=?_) (fun w' hC'=> ?_) ?_;rotate_left;(focus (obtain ⟨c1,c2,c3,c4,c5,c6,c7,c8,c9,c10,c11,c12,c13⟩:=hC';go_simp;(try exact rfl);done));try go_simp)|(refine lxo HO ?_;try go_simp)))
   refine lxe HO (fun Kx hKx=> ?_)
   go_simp
   refine (put_ok V.drew D.rg D.sb D.L u f (hR.mod (S:=No) (Mod.refl No V).drew (fun h=> h) (fun _ h=> h)) hu nx tm c 6 0 0 0 0 0 0 got).mono ?_;rintro e w6 ⟨rfl,m6,sb',L',f',hR6,hL6,hs6⟩
   have m6' :Mod (fun b=> b=D.rg∨b=D.sb∧0 < D.L) V w6:=Mod.trans ((Mod.refl No V).drew.no _) m6 (fun _ _ h=> h)
   have D6:=DV.put (fun b hb=> SV.2 b hb) m6' hR6 hL6 (hs6.imp id (fun h=> by simpa using h))
   have hOwn:∀ b,(b=D.rg∨b=D.sb∧0 < D.L)→DOwn D b:=fun b h=> by
    rcases h with h|⟨h,h2⟩
    ·exact .inr (.inr (.inr (.inr (.inr (.inr (.inl h))))))
    ·exact .inr (.inr (.inr (.inr (.inr (.inr (.inr ⟨h2,h⟩))))))
   have lZV:=ZV.lt
   have E6:=EV.mod m6' (fun h=> by have:=lD3 _ (hOwn _ h);omega)
   have Z6:=ZV.mod m6' (fun h=> by have:=hd.lt _ (hOwn _ h);omega)
   have F6:=hF.mod m6' (fun h=> by
    rcases h with h|⟨h,h2⟩
    ·exact DV.a2.1 h.symm
    ·exact (DV.a3 h2).1 h.symm)
   have S6:=SV.mod m6' (fun b h=> DV.own _ (hOwn _ h))
   have c6:=clsOf _ E6 (D6.row.cL 3 _ (by omega) rfl) (by have:=F6.cell hc;rw [eF] at this;exact this)
   have z6:=m6'.size
   have gl:=Z6.lt
   have lE6:=E6.lt
   have ld6:=D6.row.lt
   have lF6:=F6.lt
   have nfd:¬D.d=w.heap.size+1:=by omega
   have nfe:¬eb=w.heap.size+1:=by omega
   have nfb:¬D.rb=w.heap.size+1:=by have:=hd.lt D.rb (by simp [DOwn]);omega
   have g0:=Z6.cL 0 _ (by omega) rfl
   have gf0:=Z6.free 0
   have g1:=Z6.cL 1 _ (by omega) rfl
   have gf1:=Z6.free 1
   have g2:=Z6.cL 2 _ (by omega) rfl
   have gf2:=Z6.free 2
   have g3:=Z6.cL 3 _ (by omega) rfl
   have gf3:=Z6.free 3
   have g4:=Z6.cL 4 _ (by omega) rfl
   have gf4:=Z6.free 4
   have g5:=Z6.cL 5 _ (by omega) rfl
   have gf5:=Z6.free 5
   have g6:=Z6.cL 6 _ (by omega) rfl
   have gf6:=Z6.free 6
   have g7:=Z6.cL 7 _ (by omega) rfl
   have gf7:=Z6.free 7
   have g8:=Z6.cL 8 _ (by omega) rfl
   have gf8:=Z6.free 8
   have g9:=Z6.cL 9 _ (by omega) rfl
   have gf9:=Z6.free 9
   have g10:=Z6.cL 10 _ (by omega) rfl
   have gf10:=Z6.free 10
   have HX:=Lib.hid (And.intro D6 (And.intro S6 (And.intro hs6 (And.intro E6 (And.intro F6 (And.intro m6' (And.intro mV (And.intro hOwn clsOf))))))))
   refine hKx _ _ (.inr c6) ?_
   clear hKx Kx D6 S6 E6 F6 hs6 hR6 m6 m6' mV hR DV SV EV ZV hF c6 hOwn clsOf
   (repeat (first|(refine lxp HO (v:=?_) (fun w'=> ?_) ?_;rotate_left;(focus (go_simp;(try exact rfl);done));try go_simp)|(refine lxr HO (v:=?_) (fun w' hC'=> ?_) ?_;rotate_left;(focus (obtain ⟨c1,c2,c3,c4,c5,c6,c7,c8,c9,c10,c11,c12,c13⟩:=hC';go_simp;(try exact rfl);done));try go_simp)|(refine lxo HO ?_;try go_simp)))
   (refine lxe HO (fun K hK=> ?_);go_simp;refine hK _ _ ?_ ?_;all_goals clear hK K)
   ·obtain ⟨D6,S6,hs6,E6,F6,m6',mV,hOwn,clsOf⟩:=HX.out
    have hh:=h11_mod (w.heap.size+1) w6 (.int .i64 nx) (.int .i64 tm) (.int .u8 c) (.int .u8 6) (.int .i64 0) (.int .i64 0) (.int .i64 0) (.int .i64 0) (.int .i64 0) (.int .u64 0) (.int .i64 got)
    exact .inr (clsOf _ (E6.mod hh nfe) ((D6.row.mod hh nfd).cL 3 _ (by have:=D6.row.lt;omega) rfl) (by have:=(F6.mod hh nfb).cell hc;rw [eF] at this;exact this))
   (repeat (first|(refine lxp HO (v:=?_) (fun w'=> ?_) ?_;rotate_left;(focus (go_simp;(try exact rfl);done));try go_simp)|(refine lxr HO (v:=?_) (fun w' hC'=> ?_) ?_;rotate_left;(focus (obtain ⟨c1,c2,c3,c4,c5,c6,c7,c8,c9,c10,c11,c12,c13⟩:=hC';go_simp;(try exact rfl);done));try go_simp)|(refine lxo HO ?_;try go_simp)))
   refine wpL_nil ?_
   clear HO
   go_wp2
   obtain ⟨D6,S6,hs6,E6,F6,m6',mV,hOwn,clsOf⟩:=HX.out
   have hh:=h11_mod (w.heap.size+1) w6 (.int .i64 nx) (.int .i64 tm) (.int .u8 c) (.int .u8 6) (.int .i64 0) (.int .i64 0) (.int .i64 0) (.int .i64 0) (.int .i64 0) (.int .u64 0) (.int .i64 got)
   have hD:∀ b,DOwn D b→¬b=w.heap.size+1:=fun b hb=> by have:=hd.lt b hb;omega
   have hD' :∀ b,DOwn { D with sb:=sb',L:=L' } b→DOwn D b∨V.heap.size≤b:=by
    rintro b (h1|h1|h1|h1|h1|h1|h1|⟨h0,h1⟩)
    ·exact .inl (.inl h1)
    ·exact .inl (.inr (.inl h1))
    ·exact .inl (.inr (.inr (.inl h1)))
    ·exact .inl (.inr (.inr (.inr (.inl h1))))
    ·exact .inl (.inr (.inr (.inr (.inr (.inl h1)))))
    ·exact .inl (.inr (.inr (.inr (.inr (.inr (.inl h1))))))
    ·exact .inl (.inr (.inr (.inr (.inr (.inr (.inr (.inl h1)))))))
    ·dsimp only at h1
     subst h1
     rcases hs6 with ⟨h2,h3⟩|h2
     ·exact .inl (.inr (.inr (.inr (.inr (.inr (.inr (.inr ⟨h3,h2⟩)))))))
     ·exact .inr (by simpa using h2)
   have zV' :=mV.size
   refine bodyPost_ret (v:= .tuple #[.agg (evl nx tm c 6 0 0 0 0 0 0 got).toArray, .bool true, .int .i64 0]) (by simp [results,Tryz.results24,go_sem, *]) rfl ⟨tm,ow2,B2, { D with sb:=sb',L:=L' },s2,rfl, ?_,hP2, ?_,rfl, ?_, ?_, ?_⟩
   ·exact S6.mod hh (fun b e=> Classical.byContradiction fun hh' => by have e' :b=w.heap.size+1:=e;rw [e',ho2' _ (by omega)] at hh';exact hh' (hno _ (by omega)))
   ·exact D6.mod hh (fun b hb=> by rcases hD' b hb with h|h;exact hD b h;(show ¬b=w.heap.size+1;omega)) D6.own
   ·exact Mod.trans mV (Mod.trans (m6'.mono (T:=fun b=> DOwn D b∨b=w.heap.size+1) (fun b _ h=> .inl (hOwn b h))) (hh.mono (fun b _ e=> .inr e)) (fun _ _ h=> h)) (fun b hb h=> by
     rcases h with h|h
     ·exact .inr h
     ·omega)
   ·exact fun b hb=> ho2' b (by omega)
   ·exact fun b hb=> (hD' b hb).imp id (fun h=> by omega)
end
end Go.Q
namespace Go.Q
open Go.RowKit Go.Proofs
section
variable {w:World} {ow:Nat→Own} {x:Nat} {B:SB} {s:SSt} {D:DB} {nx:Int} {c u:Nat}
set_option maxRecDepth 100000 in
set_option maxHeartbeats 4000000 in
theorem drv_do5 (h:SAt w ow x B s) (hd:DAt w ow x D nx c u) (hu:u < 4) (hc:c < 64) (n0:1≤nx) (n1:nx≤1000) (P:SSt→Prop) (task group weight tO ticks mask got:Int)
  (hDo:∀ W,Mod No w W→Calls Tryz.prog 22 #[ptr x,opv 5 c task group weight tO ticks mask] W fun e w' => e= .returned (.tuple #[.int .i64 got, .int .i64 0])∧Mod (fun b=> ow b≠ .no) W w' ∧∃ ow' B' s',(∀ b,b < W.heap.size→ow' b=ow b)∧SAt w' ow' x B' s' ∧s'.C=64∧P s'):
  Calls Tryz.prog 24 #[ptr D.d,opv 5 c task group weight tO ticks mask] w (DrvPost w ow x D nx c u P (fun tm=> (evl nx tm c 5 0 0 0 0 ticks 0 got))):=by
 have HD:=Lib.hid hDo
 clear hDo
 have i0:(0:Int)≤c:=by omega
 have i1:(c:Int) < 64:=by omega
 have ldd:=hd.lt D.d (by simp [DOwn])
 go_enter Tryz.func24,Tryz.ntmps24
 go_upto_region 1 with fail
 refine wp_world (fun V=> Mod No w V∧Row V w.heap.size 8 (fl [.int .u8 5, .int .i64 c, .int .i64 task, .int .i64 group, .int .i64 weight, .int .i64 tO, .int .i64 ticks, .int .u64 mask])∧Row V (w.heap.size+1) 11 (fl [.int .i64 0, .int .i64 0, .int .u8 0, .int .u8 0, .int .i64 0, .int .i64 0, .int .i64 0, .int .i64 0, .int .i64 0, .int .u64 0, .int .i64 0])) ⟨((Mod.refl No w).alloc _).alloc _,(row_newL w [_,_,_,_,_,_,_,_] _).alloc _,row_newL' _ _ [_,_,_,_,_,_,_,_,_,_,_] _ (by simp)⟩ ?_
 intro V ⟨mV,OV,ZV⟩
 have dV:DAt V ow x D nx c u:=hd.mod mV (fun _ _ h=> h) hd.own
 have zV:=mV.size
 have lZ:=ZV.lt
 have d0:=dV.row.cL 0 _ (by omega) rfl
 have d1:=dV.row.cL 1 _ (by omega) rfl
 have d3:=dV.row.cL 3 _ (by omega) rfl
 have p0:=OV.cL 0 _ (by omega) rfl
 have p1:=OV.cL 1 _ (by omega) rfl
 have p2:=OV.cL 2 _ (by omega) rfl
 have p3:=OV.cL 3 _ (by omega) rfl
 have p4:=OV.cL 4 _ (by omega) rfl
 have p5:=OV.cL 5 _ (by omega) rfl
 have p6:=OV.cL 6 _ (by omega) rfl
 have p7:=OV.cL 7 _ (by omega) rfl
 have lO:=OV.lt
 have ldV:=dV.row.lt
 go_wp2_with fail
 refine (drvNone D.d 64 D.rcap _ (by omega) _ d3).mono ?_;rintro e w1 ⟨rfl,rfl⟩
 go_wp2_with fail
 refine (drvCpu1 D.d 5 c task group weight tO ticks mask (by decide) V).mono ?_;rintro e w1 ⟨rfl,hb1⟩
 have n1V:=Mod.of_below hb1 No
 have m1:Mod No w w1:=Mod.trans mV n1V (fun _ _ h=> h)
 have O1:=OV.mod n1V (fun h=> h)
 have Z1:=ZV.mod n1V (fun h=> h)
 have D1:DAt w1 ow x D nx c u:=dV.mod n1V (fun _ _ h=> h) hd.own
 have z1:=n1V.size
 clear d0 d1 d3 p0 p1 p2 p3 p4 p5 p6 p7 lO ldV dV OV ZV n1V hb1 mV
 go_upto_region 6 with fail
 have cOf:∀ W,DAt W ow x D nx c u→Row W w.heap.size 8 (fl [.int .u8 5, .int .i64 c, .int .i64 task, .int .i64 group, .int .i64 weight, .int .i64 tO, .int .i64 ticks, .int .u64 mask])→W.cell? ⟨D.d,0,none⟩=some (ptr x)∧W.cell? ⟨w.heap.size,0,none⟩=some (.int .u8 5)∧W.cell? ⟨w.heap.size,1,none⟩=some (.int .i64 c)∧W.cell? ⟨w.heap.size,2,none⟩=some (.int .i64 task)∧W.cell? ⟨w.heap.size,3,none⟩=some (.int .i64 group)∧W.cell? ⟨w.heap.size,4,none⟩=some (.int .i64 weight)∧W.cell? ⟨w.heap.size,5,none⟩=some (.int .i64 tO)∧W.cell? ⟨w.heap.size,6,none⟩=some (.int .i64 ticks)∧W.cell? ⟨w.heap.size,7,none⟩=some (.int .u64 mask):=fun W hD hO=>
  ⟨hD.row.cL 0 _ (by omega) rfl,hO.cL 0 _ (by omega) rfl,hO.cL 1 _ (by omega) rfl,hO.cL 2 _ (by omega) rfl,hO.cL 3 _ (by omega) rfl,hO.cL 4 _ (by omega) rfl,hO.cL 5 _ (by omega) rfl,hO.cL 6 _ (by omega) rfl,hO.cL 7 _ (by omega) rfl⟩
 refine wp_region_chain (fun W=> W.cell? ⟨D.d,0,none⟩=some (ptr x)∧W.cell? ⟨w.heap.size,0,none⟩=some (.int .u8 5)∧W.cell? ⟨w.heap.size,1,none⟩=some (.int .i64 c)∧W.cell? ⟨w.heap.size,2,none⟩=some (.int .i64 task)∧W.cell? ⟨w.heap.size,3,none⟩=some (.int .i64 group)∧W.cell? ⟨w.heap.size,4,none⟩=some (.int .i64 weight)∧W.cell? ⟨w.heap.size,5,none⟩=some (.int .i64 tO)∧W.cell? ⟨w.heap.size,6,none⟩=some (.int .i64 ticks)∧W.cell? ⟨w.heap.size,7,none⟩=some (.int .u64 mask)) [5] [] [] (rds [0,1,2,3,4] (.ef 5 (rds [6,7,8,9,10] .nil))) (by kernel_rfl) (by kernel_rfl) (cOf _ (D1.mod (Mod.refl No w1).drew (fun _ _ h=> h) hd.own) O1.drew) ?_
 intro OO hO
 have HO:=Lib.hid hO
 clear hO
 simp only [rds]
 have lO:=O1.lt
 have ld:=D1.row.lt
 (repeat (first|(refine lxp HO (v:=?_) (fun w'=> ?_) ?_;rotate_left;(focus (go_simp;(try exact rfl);done));try go_simp)|(refine lxr HO (v:=?_) (fun w' hC'=> ?_) ?_;rotate_left;(focus (obtain ⟨c1,c2,c3,c4,c5,c6,c7,c8,c9⟩:=hC';go_simp;(try exact rfl);done));try go_simp)|(refine lxo HO ?_;try go_simp)))
 refine lxe HO (fun Kx hKx=> ?_)
 go_simp
 refine (HD.out _ m1.drew).mono ?_;rintro e w2 ⟨rfl,m2,ow2,B2,s2,ho2,S2,eC2,hP2⟩
 have hno:∀ b,w.heap.size≤b→ow b= .no:=fun b hb=> Classical.byContradiction fun hh=> by have:=h.2 b hh;omega
 have O2:=O1.drew.mod m2 (by show ¬ow w.heap.size≠ .no;rw [hno _ (Nat.le_refl _)];simp)
 have Z2:=Z1.drew.mod m2 (by show ¬ow (w.heap.size+1)≠ .no;rw [hno _ (by omega)];simp)
 have D2o:DAt w2 ow x D nx c u:=(D1.mod (Mod.refl No w1).drew (fun _ _ h=> h) hd.own).mod m2 (fun b hb=> by rw [hd.own b hb];simp) hd.own
 have z2:=m2.size
 simp only [World.size_drew] at z2
 have ho2' :∀ b,b < w1.heap.size→ow2 b=ow b:=fun b hb=> ho2 b (by simpa using hb)
 have D2:DAt w2 ow2 x D nx c u:=D2o.mod (Mod.refl No w2) (fun _ _ h=> h) (fun b hb=> by rw [ho2' b (by have:=hd.lt b hb;omega)];exact hd.own b hb)
 have mw2:Mod (fun b=> ow b≠ .no) w w2:=Mod.trans (m1.drew.no _) m2 (fun _ _ h=> h)
 refine hKx _ _ (.inr (cOf _ D2o O2)) ?_
 clear hKx Kx D2o m2 O1 Z1 D1 lO ld
 (repeat (first|(refine lxp HO (v:=?_) (fun w'=> ?_) ?_;rotate_left;(focus (go_simp;(try exact rfl);done));try go_simp)|(refine lxr HO (v:=?_) (fun w' hC'=> ?_) ?_;rotate_left;(focus (obtain ⟨c1,c2,c3,c4,c5,c6,c7,c8,c9⟩:=hC';go_simp;(try exact rfl);done));try go_simp)|(refine lxo HO ?_;try go_simp)))
 refine wpL_nil ?_
 clear HO
 have d0:=D2.row.cL 0 _ (by omega) rfl
 have ld:=D2.row.lt
 go_wp2_with fail
 refine (show Calls Tryz.prog 85 #[ptr x, .int .i64 c] w2 _ from clock_ok S2 c (by rw [eC2];exact hc)).mono ?_;rintro e w3 ⟨rfl,hb3⟩
 obtain ⟨tm,htm⟩:∃ tm,tm=s2.clocks c:=⟨_,rfl⟩
 rw [←htm]
 clear htm
 have n3:=Mod.of_below hb3 No
 have S3:=S2.no n3
 have O3:=O2.mod n3 (fun h=> h)
 have Z3:=Z2.mod n3 (fun h=> h)
 have D3:DAt w3 ow2 x D nx c u:=D2.mod n3 (fun _ _ h=> h) D2.own
 have mw3:Mod (fun b=> ow b≠ .no) w w3:=Mod.trans mw2 (n3.no _) (fun _ _ h=> h)
 have z3:=n3.size
 clear d0 ld S2 O2 Z2 D2 mw2 hb3 n3
 go_upto_region 10 with fail
 have hwc:IntKind.u8.wrap (c:Int)=c:=by rw [IntKind.wrap_u8];omega
 have e0:=D3.row.cL 1 _ (by omega) rfl
 have e1:=O3.cL 0 _ (by omega) rfl
 have ld:=D3.row.lt
 have lO:=O3.lt
 refine wp_region_chain (fun W=> W.cell? ⟨D.d,1,none⟩=some (.int .i64 nx)∧W.cell? ⟨w.heap.size,0,none⟩=some (.int .u8 5)) [10,11] [] [11] (rds [0,1,2,3,4,5,6,7,8,9] (.ef 10 (.ef 11 .nil))) (by kernel_rfl) (by kernel_rfl) ⟨e0,e1⟩ ?_
 intro OO hO
 have HO:=Lib.hid hO
 clear hO
 simp only [rds]
 (repeat (first|(refine lxp HO (v:=?_) (fun w'=> ?_) ?_;rotate_left;(focus (go_simp;(try exact rfl);done));try go_simp)|(refine lxr HO (v:=?_) (fun w' hC'=> ?_) ?_;rotate_left;(focus (obtain ⟨c1,c2⟩:=hC';go_simp;(try exact rfl);done));try go_simp)|(refine lxo HO ?_;try go_simp)))
 (refine lxe HO (fun K hK=> ?_);go_simp;refine hK _ _ ?_ ?_;all_goals clear hK K)
 ·exact .inr ⟨by go_simp,by go_simp⟩
 (refine lxe HO (fun K hK=> ?_);go_simp;refine hK _ _ (.inl (by rfl)) ?_;clear hK K)
 refine wpL_nil ?_
 clear HO
 go_upto_region 11 with fail
 refine wp_world (fun W=> Mod No w3 W∧Row W w3.heap.size 11 (fl (evl nx tm c 5 0 0 0 0 0 0 0))) ⟨((Mod.refl No w3).alloc _).drew,Row.drew (row_newL' w3 _ [_,_,_,_,_,_,_,_,_,_,_] _ rfl)⟩ ?_
 intro W ⟨mW,EW⟩
 have SW:=S3.no mW
 have OW:=O3.mod mW (fun h=> h)
 have ZW:=Z3.mod mW (fun h=> h)
 have DW:DAt W ow2 x D nx c u:=D3.mod mW (fun _ _ h=> h) D3.own
 have mwW:Mod (fun b=> ow b≠ .no) w W:=Mod.trans mw3 (mW.no _) (fun _ _ h=> h)
 have zW:=mW.size
 have o2z:∀ b,w1.heap.size≤b→b < w3.heap.size→True:=fun _ _ _=> trivial
 have oe:ow2 w3.heap.size= .no:=Classical.byContradiction fun hh=> by have:=S3.2 _ hh;omega
 have lD3:∀ b,DOwn D b→b < w3.heap.size:=D3.lt
 clear e0 e1 ld lO S3 O3 Z3 D3 mw3 mW o2z
 obtain ⟨eb,heb⟩:∃ eb,eb=w3.heap.size:=⟨_,rfl⟩
 rw [←heb] at EW oe lD3 zW z3 ⊢
 clear heb
 have d5:=DW.row.cL 5 _ (by omega) rfl
 have p0:=OW.cL 0 _ (by omega) rfl
 have ld:=DW.row.lt
 have lO:=OW.lt
 have hlk:(Instr.lookup 154 (.map (some D.pb)) (.int .u8 5) false).run Tryz.prog W.drew= .ok (slc D.s5 2 2) W.drew:=by
  have:=run_lookup (P:=Tryz.prog) (w:=W.drew) (q:= .u8) Tryz.underlying154 Tryz.underlying5 (Tryz.zputs _) (DW.puts.drew) 5
  rw [DW.k5.1] at this
  exact this
 refine wp_region_chain (fun W' => W' =W.drew) [] [] [] (rds [0,1,2,3,4,5,6,7,8] .nil) (by kernel_rfl) (by kernel_rfl) rfl ?_
 intro OO hO
 have HO:=Lib.hid hO
 clear hO
 simp only [rds]
 (repeat (first|(refine lxp HO (v:=?_) (fun w'=> ?_) ?_;rotate_left;(focus (go_simp;(try exact rfl);done));try go_simp)|(refine lxr HO (v:=?_) (fun w' hC'=> ?_) ?_;rotate_left;(focus (obtain rfl:=hC';go_simp;(try exact rfl);done));try go_simp)|(refine lxo HO ?_;try go_simp)))
 refine wpL_nil ?_
 clear HO hlk d5 p0 ld lO
 go_wp2
 go_loopw [69] (fun s69 wr=> ∃ j:Int,s69= .int .i64 j∧(j=0∨j=1∨j=2)∧Row wr eb 11 (fl (if j=0 then (evl nx tm c 5 0 0 0 0 0 0 0) else if j=1 then (evl nx tm c 5 0 0 0 0 0 0 got) else (evl nx tm c 5 0 0 0 0 ticks 0 got)))∧Mod (fun b=> b=eb) W wr) (fun s69 _=> 2 - (RowKit.intOf s69).toNat)
 case atStart=> exact ⟨0,rfl, .inl rfl,by rw [if_pos rfl];exact EW.drew,(Mod.refl _ W).drew⟩
 case round=>
  obtain ⟨wk,rfl⟩:∃ W',W' =wr:=⟨wr,rfl⟩
  obtain ⟨j,rfl,hj,E,hm⟩:=hrel
  have zk:=hm.size
  have ebD:∀ b,DOwn D b→¬b=eb:=fun b hb=> by have:=lD3 b hb;omega
  have Dk:DAt wk ow2 x D nx c u:=DW.mod hm ebD DW.own
  have Ok:=OW.mod hm (by show ¬w.heap.size=eb;omega)
  have Zk:=ZW.mod hm (by show ¬w.heap.size+1=eb;omega)
  have lE:=E.lt
  have lO:=Ok.lt
  have p0:=Ok.cL 0 _ (by omega) rfl
  have p1:=Ok.cL 1 _ (by omega) rfl
  have p2:=Ok.cL 2 _ (by omega) rfl
  have p3:=Ok.cL 3 _ (by omega) rfl
  have p4:=Ok.cL 4 _ (by omega) rfl
  have p5:=Ok.cL 5 _ (by omega) rfl
  have p6:=Ok.cL 6 _ (by omega) rfl
  have p7:=Ok.cL 7 _ (by omega) rfl
  have RK:=Dk.k5.2
  have lK:=RK.lt
  rcases hj with rfl|rfl|rfl
  ·have E:Row wk eb 11 (fl (evl nx tm c 5 0 0 0 0 0 0 0)):=E
   have q:wk.cell? ⟨D.s5,0,none⟩=some (fn 202):=RK.cL 0 _ (by omega) rfl
   go_wp2_with fail
   refine (fld7 5 c task group weight tO ticks mask got E).mono ?_;rintro e w5 ⟨rfl,R5,m5⟩
   go_wp2
   refine ⟨⟨1,rfl,by decide,R5,Mod.trans hm m5 (fun _ _ h=> h)⟩,by simp [RowKit.intOf]⟩
  ·have E:Row wk eb 11 (fl (evl nx tm c 5 0 0 0 0 0 0 got)):=E
   have q:wk.cell? ⟨D.s5,1,none⟩=some (fn 200):=RK.cL 1 _ (by omega) rfl
   go_wp2_with fail
   refine (fld5 5 c task group weight tO ticks mask got E).mono ?_;rintro e w5 ⟨rfl,R5,m5⟩
   go_wp2
   refine ⟨⟨2,rfl,by decide,R5,Mod.trans hm m5 (fun _ _ h=> h)⟩,by simp [RowKit.intOf]⟩
  ·
   have E:Row wk eb 11 (fl (evl nx tm c 5 0 0 0 0 ticks 0 got)):=E
   have SK:SAt wk ow2 x B2 s2:=SW.mod hm (by rintro b rfl;exact oe)
   have mwk:Mod (fun b=> ow b≠ .no) w wk:=Mod.trans mwW hm (fun b hb e=> by have e' :b=eb:=e;omega)
   have q1:=Dk.row.cL 1 _ (by omega) rfl
   have qf:=Dk.row.free 1
   have ld:=Dk.row.lt
   clear p0 p1 p2 p3 p4 p5 p6 p7 lO RK lK mwW SW DW OW ZW EW
   have HH:=Lib.hid (And.intro Dk (And.intro SK (And.intro E (And.intro Zk mwk))))
   clear Dk SK E Zk mwk
   go_upto_region 17 with fail
   obtain ⟨Dk,SK,E,Zk,mwk⟩:=HH.out
   have ned:D.d≠eb:=ebD _ (by simp [DOwn])
   have ldd:=hd.lt D.d (by simp [DOwn])
   have hmN:Mod (fun b=> b=D.d) wk (wk.setCell ⟨D.d,1,none⟩ (.int .i64 (nx+1))):=(Mod.refl (fun b=> b=D.d) wk).setCell (p:=⟨D.d,1,none⟩) (.inr rfl) _
   refine wp_world (fun V=> DAt V ow2 x D (nx+1) c u∧SAt V ow2 x B2 s2∧Row V eb 11 (fl (evl nx tm c 5 0 0 0 0 ticks 0 got))∧Row V (w.heap.size+1) 11 (fl [.int .i64 0, .int .i64 0, .int .u8 0, .int .u8 0, .int .i64 0, .int .i64 0, .int .i64 0, .int .i64 0, .int .i64 0, .int .u64 0, .int .i64 0])∧Mod (fun b=> ow b≠ .no∨DOwn D b) w V∧wk.heap.size≤V.heap.size) ?_ ?_
   ·exact ⟨Dk.next (nx+1),SK.mod hmN (by rintro b rfl;exact Dk.own _ (by simp [DOwn])),E.mod hmN (by show ¬eb=D.d;omega),Zk.mod hmN (by show ¬w.heap.size+1=D.d;omega),Mod.trans (mwk.mono (fun b _ h=> .inl h)) hmN (fun b _ e=> .inr (.inl e)),by simp⟩
   intro V ⟨DV,SV,EV,ZV,mV,zV⟩
   clear q1 qf ld HH Dk SK E Zk mwk hm
   obtain ⟨F,hF,eF⟩:=DV.rgs
   obtain ⟨f,hR⟩:=DV.ring
   have lV:=DV.lt
   have lE:=EV.lt
   have lF:=hF.lt
   have clsOf:∀ W',Row W' eb 11 (fl (evl nx tm c 5 0 0 0 0 ticks 0 got))→W'.cell? ⟨D.d,3,none⟩=some (slc D.rb 64 D.rcap)→W'.cell? ⟨D.rb,c,none⟩=some (ptr D.rg)→W'.cell? ⟨eb,0,none⟩=some (.int .i64 nx)∧W'.cell? ⟨eb,1,none⟩=some (.int .i64 tm)∧W'.cell? ⟨eb,2,none⟩=some (.int .u8 c)∧W'.cell? ⟨eb,3,none⟩=some (.int .u8 5)∧W'.cell? ⟨eb,4,none⟩=some (.int .i64 0)∧W'.cell? ⟨eb,5,none⟩=some (.int .i64 0)∧W'.cell? ⟨eb,6,none⟩=some (.int .i64 0)∧W'.cell? ⟨eb,7,none⟩=some (.int .i64 0)∧W'.cell? ⟨eb,8,none⟩=some (.int .i64 ticks)∧W'.cell? ⟨eb,9,none⟩=some (.int .u64 0)∧W'.cell? ⟨eb,10,none⟩=some (.int .i64 got)∧W'.cell? ⟨D.d,3,none⟩=some (slc D.rb 64 D.rcap)∧W'.cell? ⟨D.rb,c,none⟩=some (ptr D.rg):=fun W' hE h1 h2=> ⟨hE.cL 0 _ (by omega) rfl,hE.cL 1 _ (by omega) rfl,hE.cL 2 _ (by omega) rfl,hE.cL 3 _ (by omega) rfl,hE.cL 4 _ (by omega) rfl,hE.cL 5 _ (by omega) rfl,hE.cL 6 _ (by omega) rfl,hE.cL 7 _ (by omega) rfl,hE.cL 8 _ (by omega) rfl,hE.cL 9 _ (by omega) rfl,hE.cL 10 _ (by omega) rfl,h1,h2⟩
   refine wp_region_chain (fun W' => W'.cell? ⟨eb,0,none⟩=some (.int .i64 nx)∧W'.cell? ⟨eb,1,none⟩=some (.int .i64 tm)∧W'.cell? ⟨eb,2,none⟩=some (.int .u8 c)∧W'.cell? ⟨eb,3,none⟩=some (.int .u8 5)∧W'.cell? ⟨eb,4,none⟩=some (.int .i64 0)∧W'.cell? ⟨eb,5,none⟩=some (.int .i64 0)∧W'.cell? ⟨eb,6,none⟩=some (.int .i64 0)∧W'.cell? ⟨eb,7,none⟩=some (.int .i64 0)∧W'.cell? ⟨eb,8,none⟩=some (.int .i64 ticks)∧W'.cell? ⟨eb,9,none⟩=some (.int .u64 0)∧W'.cell? ⟨eb,10,none⟩=some (.int .i64 got)∧W'.cell? ⟨D.d,3,none⟩=some (slc D.rb 64 D.rcap)∧W'.cell? ⟨D.rb,c,none⟩=some (ptr D.rg)) [9,11] [] [] (rds [0,1,2,3,4,5,6,7,8] (.ef 9 (rds [10] (.ef 11 (rds [12,13] .nil))))) (by kernel_rfl) (by kernel_rfl) (clsOf _ EV.drew (DV.row.cL 3 _ (by omega) rfl) (by have:=hF.cell hc;rw [eF] at this;exact this)) ?_
   intro OO hO
   have HO:=Lib.hid hO
   clear hO
   simp only [rds]
   (repeat (first|(refine lxp HO (v:=?_) (fun w'=> ?_) ?_;rotate_left;(focus (go_simp;(try exact rfl);done));try go_simp)|(refine lxr HO (v:=?_) (fun w' hC'=> ?_) ?_;rotate_left;(focus (obtain ⟨c1,c2,c3,c4,c5,c6,c7,c8,c9,c10,c11,c12,c13⟩:=hC';go_simp;(try exact rfl);done));try go_simp)|(refine lxo HO ?_;try go_simp)))
   refine lxe HO (fun Kx hKx=> ?_)
   go_simp
   refine (put_ok V.drew D.rg D.sb D.L u f (hR.mod (S:=No) (Mod.refl No V).drew (fun h=> h) (fun _ h=> h)) hu nx tm c 5 0 0 0 0 ticks 0 got).mono ?_;rintro e w6 ⟨rfl,m6,sb',L',f',hR6,hL6,hs6⟩
   have m6' :Mod (fun b=> b=D.rg∨b=D.sb∧0 < D.L) V w6:=Mod.trans ((Mod.refl No V).drew.no _) m6 (fun _ _ h=> h)
   have D6:=DV.put (fun b hb=> SV.2 b hb) m6' hR6 hL6 (hs6.imp id (fun h=> by simpa using h))
   have hOwn:∀ b,(b=D.rg∨b=D.sb∧0 < D.L)→DOwn D b:=fun b h=> by
    rcases h with h|⟨h,h2⟩
    ·exact .inr (.inr (.inr (.inr (.inr (.inr (.inl h))))))
    ·exact .inr (.inr (.inr (.inr (.inr (.inr (.inr ⟨h2,h⟩))))))
   have lZV:=ZV.lt
   have E6:=EV.mod m6' (fun h=> by have:=lD3 _ (hOwn _ h);omega)
   have Z6:=ZV.mod m6' (fun h=> by have:=hd.lt _ (hOwn _ h);omega)
   have F6:=hF.mod m6' (fun h=> by
    rcases h with h|⟨h,h2⟩
    ·exact DV.a2.1 h.symm
    ·exact (DV.a3 h2).1 h.symm)
   have S6:=SV.mod m6' (fun b h=> DV.own _ (hOwn _ h))
   have c6:=clsOf _ E6 (D6.row.cL 3 _ (by omega) rfl) (by have:=F6.cell hc;rw [eF] at this;exact this)
   have z6:=m6'.size
   have gl:=Z6.lt
   have lE6:=E6.lt
   have ld6:=D6.row.lt
   have lF6:=F6.lt
   have nfd:¬D.d=w.heap.size+1:=by omega
   have nfe:¬eb=w.heap.size+1:=by omega
   have nfb:¬D.rb=w.heap.size+1:=by have:=hd.lt D.rb (by simp [DOwn]);omega
   have g0:=Z6.cL 0 _ (by omega) rfl
   have gf0:=Z6.free 0
   have g1:=Z6.cL 1 _ (by omega) rfl
   have gf1:=Z6.free 1
   have g2:=Z6.cL 2 _ (by omega) rfl
   have gf2:=Z6.free 2
   have g3:=Z6.cL 3 _ (by omega) rfl
   have gf3:=Z6.free 3
   have g4:=Z6.cL 4 _ (by omega) rfl
   have gf4:=Z6.free 4
   have g5:=Z6.cL 5 _ (by omega) rfl
   have gf5:=Z6.free 5
   have g6:=Z6.cL 6 _ (by omega) rfl
   have gf6:=Z6.free 6
   have g7:=Z6.cL 7 _ (by omega) rfl
   have gf7:=Z6.free 7
   have g8:=Z6.cL 8 _ (by omega) rfl
   have gf8:=Z6.free 8
   have g9:=Z6.cL 9 _ (by omega) rfl
   have gf9:=Z6.free 9
   have g10:=Z6.cL 10 _ (by omega) rfl
   have gf10:=Z6.free 10
   have HX:=Lib.hid (And.intro D6 (And.intro S6 (And.intro hs6 (And.intro E6 (And.intro F6 (And.intro m6' (And.intro mV (And.intro hOwn clsOf))))))))
   refine hKx _ _ (.inr c6) ?_
   clear hKx Kx D6 S6 E6 F6 hs6 hR6 m6 m6' mV hR DV SV EV ZV hF c6 hOwn clsOf
   (repeat (first|(refine lxp HO (v:=?_) (fun w'=> ?_) ?_;rotate_left;(focus (go_simp;(try exact rfl);done));try go_simp)|(refine lxr HO (v:=?_) (fun w' hC'=> ?_) ?_;rotate_left;(focus (obtain ⟨c1,c2,c3,c4,c5,c6,c7,c8,c9,c10,c11,c12,c13⟩:=hC';go_simp;(try exact rfl);done));try go_simp)|(refine lxo HO ?_;try go_simp)))
   (refine lxe HO (fun K hK=> ?_);go_simp;refine hK _ _ ?_ ?_;all_goals clear hK K)
   ·obtain ⟨D6,S6,hs6,E6,F6,m6',mV,hOwn,clsOf⟩:=HX.out
    have hh:=h11_mod (w.heap.size+1) w6 (.int .i64 nx) (.int .i64 tm) (.int .u8 c) (.int .u8 5) (.int .i64 0) (.int .i64 0) (.int .i64 0) (.int .i64 0) (.int .i64 ticks) (.int .u64 0) (.int .i64 got)
    exact .inr (clsOf _ (E6.mod hh nfe) ((D6.row.mod hh nfd).cL 3 _ (by have:=D6.row.lt;omega) rfl) (by have:=(F6.mod hh nfb).cell hc;rw [eF] at this;exact this))
   (repeat (first|(refine lxp HO (v:=?_) (fun w'=> ?_) ?_;rotate_left;(focus (go_simp;(try exact rfl);done));try go_simp)|(refine lxr HO (v:=?_) (fun w' hC'=> ?_) ?_;rotate_left;(focus (obtain ⟨c1,c2,c3,c4,c5,c6,c7,c8,c9,c10,c11,c12,c13⟩:=hC';go_simp;(try exact rfl);done));try go_simp)|(refine lxo HO ?_;try go_simp)))
   refine wpL_nil ?_
   clear HO
   go_wp2
   obtain ⟨D6,S6,hs6,E6,F6,m6',mV,hOwn,clsOf⟩:=HX.out
   have hh:=h11_mod (w.heap.size+1) w6 (.int .i64 nx) (.int .i64 tm) (.int .u8 c) (.int .u8 5) (.int .i64 0) (.int .i64 0) (.int .i64 0) (.int .i64 0) (.int .i64 ticks) (.int .u64 0) (.int .i64 got)
   have hD:∀ b,DOwn D b→¬b=w.heap.size+1:=fun b hb=> by have:=hd.lt b hb;omega
   have hD' :∀ b,DOwn { D with sb:=sb',L:=L' } b→DOwn D b∨V.heap.size≤b:=by
    rintro b (h1|h1|h1|h1|h1|h1|h1|⟨h0,h1⟩)
    ·exact .inl (.inl h1)
    ·exact .inl (.inr (.inl h1))
    ·exact .inl (.inr (.inr (.inl h1)))
    ·exact .inl (.inr (.inr (.inr (.inl h1))))
    ·exact .inl (.inr (.inr (.inr (.inr (.inl h1)))))
    ·exact .inl (.inr (.inr (.inr (.inr (.inr (.inl h1))))))
    ·exact .inl (.inr (.inr (.inr (.inr (.inr (.inr (.inl h1)))))))
    ·dsimp only at h1
     subst h1
     rcases hs6 with ⟨h2,h3⟩|h2
     ·exact .inl (.inr (.inr (.inr (.inr (.inr (.inr (.inr ⟨h3,h2⟩)))))))
     ·exact .inr (by simpa using h2)
   have zV' :=mV.size
   refine bodyPost_ret (v:= .tuple #[.agg (evl nx tm c 5 0 0 0 0 ticks 0 got).toArray, .bool true, .int .i64 0]) (by simp [results,Tryz.results24,go_sem, *]) rfl ⟨tm,ow2,B2, { D with sb:=sb',L:=L' },s2,rfl, ?_,hP2, ?_,rfl, ?_, ?_, ?_⟩
   ·exact S6.mod hh (fun b e=> Classical.byContradiction fun hh' => by have e' :b=w.heap.size+1:=e;rw [e',ho2' _ (by omega)] at hh';exact hh' (hno _ (by omega)))
   ·exact D6.mod hh (fun b hb=> by rcases hD' b hb with h|h;exact hD b h;(show ¬b=w.heap.size+1;omega)) D6.own
   ·exact Mod.trans mV (Mod.trans (m6'.mono (T:=fun b=> DOwn D b∨b=w.heap.size+1) (fun b _ h=> .inl (hOwn b h))) (hh.mono (fun b _ e=> .inr e)) (fun _ _ h=> h)) (fun b hb h=> by
     rcases h with h|h
     ·exact .inr h
     ·omega)
   ·exact fun b hb=> ho2' b (by omega)
   ·exact fun b hb=> (hD' b hb).imp id (fun h=> by omega)
end
end Go.Q
