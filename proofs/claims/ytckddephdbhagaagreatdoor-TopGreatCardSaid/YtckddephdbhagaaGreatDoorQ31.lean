/- A part of the proof that TopGreat answers true: what some of the functions on its road compute. -/
import Derived.Test.YtckddephdbhagaaGreatDoorQ10
import Derived.Test.YtckddephdbhagaaGreatDoorQ17
import Derived.Test.YtckddephdbhagaaGreatDoorQ18
set_option linter.unusedVariables false
set_option linter.unusedSimpArgs false
namespace Go.Q
open Go.RowKit Go.Proofs
def h8 (x:Nat) (w:World) (v0 v1 v2 v3 v4 v5 v6 v7:Value):World:=(((((((w.setCell ⟨x,0,none⟩ v0).setCell ⟨x,1,none⟩ v1).setCell ⟨x,2,none⟩ v2).setCell ⟨x,3,none⟩ v3).setCell ⟨x,4,none⟩ v4).setCell ⟨x,5,none⟩ v5).setCell ⟨x,6,none⟩ v6).setCell ⟨x,7,none⟩ v7
theorem h8_mod (x:Nat) (w:World) (v0 v1 v2 v3 v4 v5 v6 v7:Value):Mod (fun b=> b=x) w (h8 x w v0 v1 v2 v3 v4 v5 v6 v7):=
 ((((((((Mod.refl (fun b=> b=x) w).setCell (p:=⟨x,0,none⟩) (.inr rfl) _).setCell (p:=⟨x,1,none⟩) (.inr rfl) _).setCell (p:=⟨x,2,none⟩) (.inr rfl) _).setCell (p:=⟨x,3,none⟩) (.inr rfl) _).setCell (p:=⟨x,4,none⟩) (.inr rfl) _).setCell (p:=⟨x,5,none⟩) (.inr rfl) _).setCell (p:=⟨x,6,none⟩) (.inr rfl) _).setCell (p:=⟨x,7,none⟩) (.inr rfl) _
set_option maxRecDepth 100000 in
set_option maxHeartbeats 4000000 in
theorem begin_res (bx:Nat) (s:SSt) (nx:Int) (c:Nat) (hc:c < 64) (w:World) (hf:∀ W,Mod No w W→Calls Tryz.prog 99 #[ptr bx] W fun e w' => ∃ x B ow,e= .returned (.tuple #[ptr x, .int .i64 0])∧Mod No W w' ∧SAt w' ow x B s∧(∀ b,ow b≠ .no→W.heap.size≤b)):
  Calls Tryz.prog 60 #[.func (.func 99) #[] #[ptr bx], .int .i64 nx, .int .i64 64, .int .i64 4, .int .i64 10] w fun e w' => ∃ x B ow D,e= .returned (.tuple #[ptr D.d, .int .i64 0])∧Mod No w w' ∧SAt w' ow x B s∧(∀ b,ow b≠ .no→w.heap.size≤b)∧DAt w' ow x D nx c 0∧(∀ b,DOwn D b→w.heap.size≤b):=by
 have HF:=Lib.hid hf
 clear hf
 go_enter Tryz.func60,Tryz.ntmps60
 go_wp2_with fail
 refine (HF.out w (Mod.refl No w)).mono ?_;rintro e w1 ⟨x,B,ow,rfl,m1,S1,o1⟩
 go_wp2_with fail
 refine (fields_ok _).mono ?_;rintro e w2 ⟨pb,l,rfl,p1,p2,m2,⟨s1,e1,g1,n1,R1⟩,⟨s5,e5,g5,n5,R5⟩,⟨s6,e6,g6,n6,R6⟩⟩
 go_upto_block 0 with fail
 refine wp_world (fun V=> Mod No w2 V∧w2.heap.size < V.heap.size∧Row V w2.heap.size 6 (fl [ptr x, .int .i64 nx, .int .i64 10, .slice none 0 0, .slice none 0 0, .map (some pb)])) ⟨(Mod.refl No w2).alloc _,by simp,row_newL w2 [_,_,_,_,_,_] _⟩ ?_
 intro V ⟨mV,zV,XV⟩
 have sl1:∀ b:Nat,∀ u∈ [(ptr b:Value)],u.oneCell' =true:=fun b=> by simp [Value.oneCell']
 go_wp2
 go_loopw [39] (fun s39 wr=> ∃ (k:Nat) (ro:Option Addr) (rc:Nat) (rg:Nat→Nat),s39= .int .i64 k∧k≤64∧Row wr w2.heap.size 6 (fl [ptr x, .int .i64 nx, .int .i64 10, .slice ro k rc, .slice none 0 0, .map (some pb)])∧wr.ownsRow V.heap.size 163 1 (.slice ro k rc) k ((List.range k).map fun i=> ptr (rg i))∧
  (c < k→V.heap.size≤rg c∧(Value.slice ro k rc).ownBlock≠some (rg c)∧Row wr (rg c) 7 (fl [.slice none 0 0, .int .i64 0, .int .i64 0, .int .i64 0, .int .i64 0, .int .i64 0, .int .i64 4]))∧Mod No w2 wr∧V.heap.size≤wr.heap.size) (fun s39 _=> 64 - (RowKit.intOf s39).toNat)
 case atStart=> exact ⟨0,none,0,fun _=> 0,rfl,by omega,XV,World.ownsRow_nil _ _ _ _,fun h=> by omega,mV,Nat.le_refl _⟩
 case round=>
  obtain ⟨wk,rfl⟩:∃ W,W=wr:=⟨wr,rfl⟩
  obtain ⟨k,ro,rc,rg,rfl,hk,X,hO,hR,mk,lV⟩:=hrel
  have lX:=X.lt
  have x3:=X.cL 3 _ (by omega) rfl
  have no:(Value.slice ro k rc).ownBlock≠some w2.heap.size:=fun e=> by have:=(hO.lt _ e).1;omega
  by_cases hkG:k < 64
  ·have j0:(0:Int)≤k:=by omega
   have j1:(k:Int) < 64:=by omega
   have HR:=Lib.hid hR
   clear hR
   go_wp2_with fail
   refine (ringNew 4 (by decide) (by decide) _).mono ?_;rintro e w5 ⟨rfl,rfl⟩
   have X5:=X.alloc (.cells #[.slice none 0 0, .int .i64 0, .int .i64 0, .int .i64 0, .int .i64 0, .int .i64 0, .int .i64 4] 275)
   have R5:Row (wk.alloc (.cells #[.slice none 0 0, .int .i64 0, .int .i64 0, .int .i64 0, .int .i64 0, .int .i64 0, .int .i64 4] 275)) wk.heap.size 7 (fl [.slice none 0 0, .int .i64 0, .int .i64 0, .int .i64 0, .int .i64 0, .int .i64 0, .int .i64 4]):=row_newL wk [_,_,_,_,_,_,_] _
   go_wp2_with (at_builtin;go_must (refine wpList_app_c 163 _ 1 8 Tryz.infoRingP rfl _ _ 153 rfl Tryz.underlying153 rfl (by decide) (by decide) [ptr wk.heap.size] rfl (sl1 _) V.heap.size (.slice ro k rc) k ((List.range k).map fun i=> ptr (rg i)) _ _ rfl rfl ?_ ?_ ?_ ?_ ?_);go_must (· simp;omega);go_must (· omega);go_must (· (repeat first|(with_reducible exact hO)|(with_reducible refine World.ownsRow.drew ?_)|(with_reducible refine World.ownsRow.alloc ?_ _)));go_must (· exact row_one _ _ _ _ (by simp));go_must (intro gs cap wB hB);go_must (have nB:=Appd.row hB (X5.alloc _) (fun h=> no h));go_must (have lB:=nB.lt);go_must (have j3' :=nB.cL 3 _ (by omega) rfl);have f3' :=nB.free 3)
   have hR:=HR.out
   have aq:=hB.at_
   simp only [World.size_alloc] at aq
   have lR:c < k→rg c < wk.heap.size:=fun h=> (hR h).2.2.lt
   have lo:=hO.lt
   have ngw:gs≠wk.heap.size:=by
    rintro rfl
    rcases aq with h|h
    ·have:=(lo _ h).2;omega
    ·omega
   have ngx:gs≠w2.heap.size:=by
    rintro rfl
    rcases aq with h|h
    ·exact no h
    ·omega
   have ngc:c < k→gs≠rg c:=by
    rintro hck rfl
    rcases aq with h|h
    ·exact (hR hck).2.1 h
    ·have:=lR hck;omega
   have mC:Mod (fun b=> b=w2.heap.size) wB (wB.setCell ⟨w2.heap.size,3,none⟩ (slc gs (k+1) cap)):=(Mod.refl (fun b=> b=w2.heap.size) wB).setCell (p:=⟨w2.heap.size,3,none⟩) (.inr rfl) _
   have eL:((List.range (k+1)).map fun i=> ptr (if i=k then wk.heap.size else rg i))=((List.range k).map fun i=> ptr (rg i))++ [ptr wk.heap.size]:=by
    rw [List.range_succ,List.map_append]
    congr 1
    ·refine List.map_congr_left (fun g hg=> ?_)
     have:=List.mem_range.1 hg
     rw [if_neg (by omega)]
    ·simp
   have zB:=hB.mod.size
   simp only [World.size_alloc] at zB
   refine ⟨⟨k+1,some ⟨gs,0,none⟩,cap,fun i=> if i=k then wk.heap.size else rg i,by go_num,by omega,(nB.set (i:=3) (by omega) _).congr (by apply le6 <;> rfl), ?_, ?_, ?_, ?_⟩,by simp only [RowKit.intOf];omega⟩
   ·rw [eL]
    exact ownsRow_mod hB.own mC (by rintro b hb rfl;exact ngx (Option.some.inj hb))
   ·intro hck
    by_cases e:c=k
    ·subst e
     simp only [if_true]
     refine ⟨by omega,fun h=> ngw (Option.some.inj h),(Appd.row hB (R5.alloc _) (fun h=> by have:=(lo _ h).2;omega)).mod mC (by show ¬wk.heap.size=w2.heap.size;omega)⟩
    ·simp only [if_neg e]
     obtain ⟨r1,r2,r3⟩:=hR (by omega)
     have:=r3.lt
     exact ⟨r1,fun h=> ngc (by omega) (Option.some.inj h),(Appd.row hB ((r3.alloc _).alloc _) r2).mod mC (by show ¬rg c=w2.heap.size;omega)⟩
   ·refine Mod.trans mk (Mod.trans (Mod.trans (((Mod.refl No wk).alloc _).alloc _|>.no (fun b=> b=w2.heap.size∨(Value.slice ro k rc).ownBlock=some b)) (hB.mod.mono (T:=fun b=> b=w2.heap.size∨(Value.slice ro k rc).ownBlock=some b) (fun b _ h=> .inr h)) (fun _ _ h=> h)) (mC.mono (fun b _ h=> .inl h)) (fun _ _ h=> h)) ?_
    rintro b hb (h|h)
    ·omega
    ·have:=(lo _ h).1;omega
   ·simp only [World.size_setCell];omega
  ·obtain rfl:k=64:=by omega
   have hR' :=Lib.hid hR
   clear hR
   go_wp2
   obtain ⟨r1,r2,r3⟩:=hR'.out hc
   have hO2:=hO
   obtain ⟨_,⟨_,h0⟩|⟨rb,cap,cur,ee,hrb,_⟩⟩:=hO2
   ·omega
   simp only [Value.slice.injEq,true_and] at ee
   obtain ⟨rfl,rfl⟩:=ee
   have RB:=ownsRow_row hO
   have hz1:=m1.size
   have hz2:=m2.size
   have lr:=r3.lt
   have l1:=R1.lt
   have l5:=R5.lt
   have l6:=R6.lt
   have lp:=p2.lt
   have lrb:=RB.lt
   have nrb:rb≠rg c:=fun e=> r2 (by rw [←e];rfl)
   have mw2:Mod No w1 wk:=Mod.trans m2 mk (fun _ _ h=> h)
   have mw:Mod No w wk:=Mod.trans m1 mw2 (fun _ _ h=> h)
   have hno:∀ b,w1.heap.size≤b→ow b= .no:=fun b hb=> Classical.byContradiction fun hh=> by have:=S1.2 _ hh;omega
   refine bodyPost_ret (v:= .tuple #[ptr w2.heap.size, .int .i64 0]) (by simp [results,Tryz.results60,go_sem, *]) rfl ⟨x,B,ow,⟨w2.heap.size,rb,rc,pb,s1,s5,s6,rg c,0,0,l⟩,rfl,mw,S1.no mw2,o1,⟨X,⟨_,by rw [Nat.mul_one] at RB;exact RB,by simp [fl,hc]⟩,p2.mod mk (fun h=> h),⟨e1,R1.mod mk (fun h=> h)⟩,⟨e5,R5.mod mk (fun h=> h)⟩,⟨e6,R6.mod mk (fun h=> h)⟩,⟨fun _ _=> 0,⟨⟨.slice none 0 0,0,r3,fun _=> rfl,fun h=> absurd h (Nat.lt_irrefl 0)⟩,fun h=> absurd h (Nat.lt_irrefl 0),Nat.le_refl _,Nat.zero_le _⟩⟩, ?_, ?_, ?_, ?_,fun h=> absurd h (Nat.lt_irrefl 0)⟩, ?_⟩
   ·rintro b (h|h|h|h|h|h|h|h) <;> exact hno _ (by dsimp only at h;omega)
   ·rintro b (h|h|h|h|h|h|h|h) <;> (dsimp only at h;omega)
   ·refine ⟨?_, ?_, ?_, ?_, ?_, ?_,fun h=> absurd h (Nat.lt_irrefl 0)⟩ <;> (dsimp only;omega)
   ·refine ⟨?_, ?_, ?_, ?_, ?_⟩ <;> (dsimp only;omega)
   ·rintro b (h|h|h|h|h|h|h|h) <;> (dsimp only at h;omega)
set_option maxRecDepth 100000 in
set_option maxHeartbeats 1000000 in
theorem drv_New (C:Nat) (hC:C=64) (cr:Int) (gb G cap c:Nat) (hc:c < 64) (par wt:Nat→Int) (h3:0≤cr) (h4:cr≤1099511627776) (T:Tree G par wt) (w:World) (hr:Row w gb (G * 2) (grp par wt)):
  Calls Tryz.prog 20 #[.agg #[.int .i64 64, .int .u64 cr,slc gb G cap], .int .i64 4, .int .i64 10] w fun e w' => ∃ x B ow D,e= .returned (.tuple #[ptr D.d, .int .i64 0])∧Mod No w w' ∧SAt w' ow x B (fresh 64 G cr par wt)∧(∀ b,ow b≠ .no→w.heap.size≤b)∧DAt w' ow x D 1 c 0∧(∀ b,DOwn D b→w.heap.size≤b):=by
 have HT:=Lib.hid (And.intro T h4)
 clear T h4
 go_enter Tryz.func20,Tryz.ntmps20
 go_upto_region 1 with fail
 refine wp_world (fun V=> Mod No w V∧Row V w.heap.size 3 (fl [.int .i64 64, .int .u64 cr,slc gb G cap])) ⟨(Mod.refl No w).alloc _,row_newL w [_,_,_] _⟩ ?_
 intro V ⟨mV,XV⟩
 have lX:=XV.lt
 have x0:=XV.cL 0 _ (by omega) rfl
 go_wp2_with fail
 refine (begin_new w.heap.size (fresh 64 G cr par wt) 1 c hc _ (fun W hW=> drvNew1 w.heap.size 64 cr gb G cap par wt (by omega) (by omega) h3 HT.out.2 HT.out.1 W (XV.mod hW (fun h=> h)) ((hr.mod mV (fun h=> h)).mod hW (fun h=> h)))).mono ?_;rintro e w1 ⟨x,B,ow,D,rfl,m1,S1,o1,D1,d1⟩
 have zV:=mV.size
 go_wp2
 go_ret2
 exact ⟨x,B,ow,D,rfl,Mod.trans mV m1 (fun _ _ h=> h),S1,fun b hb=> by have:=o1 b hb;omega,D1,fun b hb=> by have:=d1 b hb;omega⟩
section
variable {w:World} {ow:Nat→Own} {x:Nat} {B:SB} {s:SSt} {D:DB} {nx:Nat} {c u:Nat}
set_option maxRecDepth 100000 in
set_option maxHeartbeats 1000000 in
theorem drv_Snapshot (hd:DAt w ow x D nx c u) (A:ASt) (hSt:∀ W,Mod No w W→Calls Tryz.prog 25 #[ptr x] W fun e w' => ∃ B' ow',e= .returned (.tuple #[stv B' A, .int .i64 0])∧StAt w' ow' B' A∧Mod No W w' ∧(∀ b,ow' b≠ .no→W.heap.size≤b)∧A.G≤B'.gcap):
  Calls Tryz.prog 27 #[ptr D.d] w fun e w' => ∃ B' ow',e= .returned (.tuple #[snv nx B' A, .int .i64 0])∧StAt w' ow' B' A∧Mod No w w' ∧(∀ b,ow' b≠ .no→w.heap.size≤b)∧A.G≤B'.gcap:=by
 have HS:=Lib.hid hSt
 clear hSt
 have ldd:=hd.row.lt
 go_enter Tryz.func27,Tryz.ntmps27
 go_upto_region 1 with fail
 refine wp_world (fun V=> Mod No w V∧Row V w.heap.size 8 (fl [.int .i64 0, .int .i64 0, .int .u64 0, .slice none 0 0, .slice none 0 0, .slice none 0 0, .slice none 0 0, .slice none 0 0])) ⟨(Mod.refl No w).alloc _,row_newL w [_,_,_,_,_,_,_,_] _⟩ ?_
 intro V ⟨mV,ZV⟩
 have dV:DAt V ow x D nx c u:=hd.mod mV (fun _ _ h=> h) hd.own
 have d0:=dV.row.cL 0 _ (by have:=dV.row.lt;omega) rfl
 have d3:=dV.row.cL 3 _ (by have:=dV.row.lt;omega) rfl
 have ldV:=dV.row.lt
 have zV:=mV.size
 go_wp2_with fail
 refine (drvNone D.d 64 D.rcap _ (by omega) _ d3).mono ?_;rintro e w1 ⟨rfl,rfl⟩
 go_wp2_with fail
 refine (HS.out _ mV).mono ?_;rintro e w2 ⟨B2,ow2,rfl,S2,m2,o2,g2⟩
 obtain ⟨o5,n5,d5,hv⟩:=S2.tvo
 have e2:stv B2 A= .agg #[.int .i64 A.C, .int .u64 A.cr,slc B2.gb A.G B2.gcap,slc B2.cl A.C B2.ccap,slc B2.cu A.C B2.ucap, .slice o5 n5 d5,slc B2.so A.G B2.scap]:=by rw [←hv]
 have e3:snv nx B2 A= .agg #[.int .i64 nx, .int .i64 A.C, .int .u64 A.cr,slc B2.gb A.G B2.gcap,slc B2.cl A.C B2.ccap,slc B2.cu A.C B2.ucap, .slice o5 n5 d5,slc B2.so A.G B2.scap]:=by rw [←hv]
 rw [e2]
 have HE:=Lib.hid e3
 clear hv e2 e3 d0 d3
 go_upto_region 4 with fail
 have D2:=dV.mod m2 (fun _ _ h=> h) hd.own
 have Z2:=ZV.mod m2 (fun h=> h)
 have ox:ow2 w.heap.size= .no:=Classical.byContradiction fun hh=> by have:=o2 _ hh;have:=ZV.lt;omega
 refine wp_world (fun U=> Mod No w2 U∧Row U w2.heap.size 7 (fl [.int .i64 A.C, .int .u64 A.cr,slc B2.gb A.G B2.gcap,slc B2.cl A.C B2.ccap,slc B2.cu A.C B2.ucap, .slice o5 n5 d5,slc B2.so A.G B2.scap])) ⟨(Mod.refl No w2).alloc _,row_newL w2 [_,_,_,_,_,_,_] _⟩ ?_
 intro U ⟨mU,XU⟩
 have z2:=m2.size
 have hD1:(D2.mod mU (fun _ _ h=> h) hd.own).row=(D2.mod mU (fun _ _ h=> h) hd.own).row:=rfl
 have DU:=D2.mod mU (fun _ _ h=> h) hd.own
 have ZU:=Z2.mod mU (fun h=> h)
 obtain ⟨xb,hxb⟩:∃ n,n=w2.heap.size:=⟨_,rfl⟩
 rw [←hxb] at XU ⊢
 clear hD1
 have lxb:w.heap.size < xb:=by have:=Z2.lt;omega
 clear hxb
 have lX:=XU.lt
 have lZ:=ZU.lt
 have ldU:=DU.row.lt
 have z0:=ZU.cL 0 _ (by omega) rfl
 have z1:=ZU.cL 1 _ (by omega) rfl
 have z2:=ZU.cL 2 _ (by omega) rfl
 have z3:=ZU.cL 3 _ (by omega) rfl
 have z4:=ZU.cL 4 _ (by omega) rfl
 have z5:=ZU.cL 5 _ (by omega) rfl
 have z6:=ZU.cL 6 _ (by omega) rfl
 have z7:=ZU.cL 7 _ (by omega) rfl
 have gf0:=ZU.free 0
 have gf1:=ZU.free 1
 have gf2:=ZU.free 2
 have gf3:=ZU.free 3
 have gf4:=ZU.free 4
 have gf5:=ZU.free 5
 have gf6:=ZU.free 6
 have gf7:=ZU.free 7
 refine wp_region_chain (fun w' => w'.cell? ⟨D.d,1,none⟩=some (.int .i64 nx)∧w'.cell? ⟨xb,0,none⟩=some (.int .i64 A.C)∧w'.cell? ⟨xb,1,none⟩=some (.int .u64 A.cr)∧w'.cell? ⟨xb,2,none⟩=some (slc B2.gb A.G B2.gcap)∧w'.cell? ⟨xb,3,none⟩=some (slc B2.cl A.C B2.ccap)∧w'.cell? ⟨xb,4,none⟩=some (slc B2.cu A.C B2.ucap)∧w'.cell? ⟨xb,5,none⟩=some (.slice o5 n5 d5)∧w'.cell? ⟨xb,6,none⟩=some (slc B2.so A.G B2.scap)) [7] [6,8] [7] (rds [0,1,2,3,4,5,6] (.ef 7 (rds [8] .nil))) (by kernel_rfl) (by kernel_rfl) ⟨DU.row.cL 1 _ (by omega) rfl,XU.cL 0 _ (by omega) rfl,XU.cL 1 _ (by omega) rfl,XU.cL 2 _ (by omega) rfl,XU.cL 3 _ (by omega) rfl,XU.cL 4 _ (by omega) rfl,XU.cL 5 _ (by omega) rfl,XU.cL 6 _ (by omega) rfl⟩ ?_
 intro OO hO
 have HO:=Lib.hid hO
 clear hO
 simp only [rds]
 (repeat (first|(refine lxp HO (v:=?_) (fun w'=> ?_) ?_;rotate_left;(focus (go_simp;(try exact rfl);done));try go_simp)|(refine lxr HO (v:=?_) (fun w' hC'=> ?_) ?_;rotate_left;(focus (obtain ⟨c1,c2,c3,c4,c5,c6,c7,c8⟩:=hC';go_simp;(try exact rfl);done));try go_simp)|(refine lxo HO ?_;try go_simp)))
 (refine lxe HO (fun K hK=> ?_);go_simp;refine hK _ _ (.inl (by rfl)) ?_;clear hK K)
 (repeat (first|(refine lxp HO (v:=?_) (fun w'=> ?_) ?_;rotate_left;(focus (go_simp;(try exact rfl);done));try go_simp)|(refine lxr HO (v:=?_) (fun w' hC'=> ?_) ?_;rotate_left;(focus (obtain ⟨c1,c2,c3,c4,c5,c6,c7,c8⟩:=hC';go_simp;(try exact rfl);done));try go_simp)|(refine lxo HO ?_;try go_simp)))
 refine wpL_nil ?_
 clear HO
 have HX:=Lib.hid (And.intro (Mod.trans (Mod.trans mV m2 (fun _ _ h=> h)) mU (fun _ _ h=> h)) (And.intro (S2.no mU) (And.intro o2 (And.intro g2 ox))))
 clear S2 mU m2 mV o2 g2 ox
 go_wp2
 obtain ⟨mU,SU,o2,g2,ox⟩:=HX.out
 refine bodyPost_ret (v:= .tuple #[.agg #[.int .i64 nx, .int .i64 A.C, .int .u64 A.cr,slc B2.gb A.G B2.gcap,slc B2.cl A.C B2.ccap,slc B2.cu A.C B2.ucap, .slice o5 n5 d5,slc B2.so A.G B2.scap], .int .i64 0]) (by simp [results,Tryz.results27,go_sem, *]) rfl ⟨B2,ow2,by rw [←HE.out], ?_, ?_,fun b hb=> by have:=o2 b hb;omega,g2⟩
 ·have hm:=h8_mod w.heap.size U (.int .i64 nx) (.int .i64 A.C) (.int .u64 A.cr) (slc B2.gb A.G B2.gcap) (slc B2.cl A.C B2.ccap) (slc B2.cu A.C B2.ucap) (.slice o5 n5 d5) (slc B2.so A.G B2.scap)
  exact SU.mod hm.drew (by rintro b rfl;exact ox)
 ·have hm:=h8_mod w.heap.size U (.int .i64 nx) (.int .i64 A.C) (.int .u64 A.cr) (slc B2.gb A.G B2.gcap) (slc B2.cl A.C B2.ccap) (slc B2.cu A.C B2.ucap) (.slice o5 n5 d5) (slc B2.so A.G B2.scap)
  exact Mod.trans mU hm.drew (fun b hb e=> by have e' :b=w.heap.size:=e;omega)
end
end Go.Q
