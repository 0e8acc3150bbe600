/- A part of the proof that TopGreat answers true: what some of the functions on its road compute. -/
import Derived.Test.YtckddephdbhagaaGreatDoorQ16
import Derived.Test.YtckddephdbhagaaGreatDoorQ17
import Derived.Test.YtckddephdbhagaaGreatDoorQ19
import Derived.Test.YtckddephdbhagaaGreatDoorQ20
import Derived.Test.YtckddephdbhagaaGreatDoorQ21
import Derived.Test.YtckddephdbhagaaGreatDoorQ23
import Derived.Test.YtckddephdbhagaaGreatDoorQ24
import Derived.Test.YtckddephdbhagaaGreatDoorQ25
import Derived.Test.YtckddephdbhagaaGreatDoorQ26
set_option linter.unusedVariables false
set_option linter.unusedSimpArgs false
namespace Go.Q
open Go.RowKit Go.Proofs
section
variable {w:World} {ow:Nat→SOwn} {B:STB} {A:ASt}
variable {d:Nat}
set_option maxRecDepth 100000 in
set_option maxHeartbeats 4000000 in
theorem rDo_spawn (T:Tree A.G A.par A.wt) (ht:A.task=none) (hC:A.C=64) (id weight tO n mask:Int) (g c:Nat) (hc:c < A.C) (hg:g < A.G) (hd:Dep A.par g d)
  (hz:∀ g c,A.spots g c=(0,0,0)) (hcr:0≤A.cr) (h0:1≤id) (h1:id < 65536) (hk0:1≤weight) (hk1:weight≤65536) (hm1:1≤mask) (hm2:mask < 18446744073709551616) (hm3:(mask / 2 ^ c) % 2=1)
  (A1:ASt) (hA1:A1= { A with task:=some ⟨id,g,weight,c,mask,true,0,0⟩ })
  (w:World) (ow:Nat→SOwn) (B:STB) (hs:StAt w ow B A):
  Calls Tryz.prog 21 #[stv B A,opv 1 c id g weight tO n mask] w fun e w' => ∃ B' ow',e= .returned (.tuple #[stv B' A1, .int .i64 0, .int .i64 0])∧
   StAt w' ow' B' { A1 with spots:=rsp A1 d }∧Mod No w w' ∧∀ b,ow' b≠ .no→w.heap.size≤b:=by
 have hG:=T.g2
 have hG1:=T.g1
 have hC0:0 < A.C:=by omega
 have hC2:A.C≤64:=by omega
 have hh1:One1 A1 d:=by
  rw [hA1]
  refine ⟨T,fun t' e=> ?_⟩
  cases e
  exact ⟨rfl,by show (0:Int)≤g;omega,by show (g:Int) < A.G;omega,by show Dep A.par ((g:Int)).toNat d;simpa using hd,h0,h1⟩
 have eC:A1.C=A.C:=by rw [hA1]
 obtain ⟨o0,k0,c0,hv0⟩:=hs.tvo
 have HI:=Lib.hid (And.intro T (And.intro ht (And.intro hd (And.intro hz (And.intro hm3 (And.intro hm2 (And.intro hA1 (And.intro hh1 (And.intro hs (And.intro hv0 hC))))))))))
 rw [show stv B A= .agg #[.int .i64 A.C, .int .u64 A.cr,slc B.gb A.G B.gcap,slc B.cl A.C B.ccap,slc B.cu A.C B.ucap, .slice o0 k0 c0,slc B.so A.G B.scap] from by rw [←hv0]]
 have HC:=Lib.hid eC
 clear T ht hd hz hm3 hm2 hA1 hh1 eC hv0 hC
 go_enter Tryz.func21,Tryz.ntmps21
 go_upto_region 1 with fail
 refine wp_world (fun V=> StAt V ow B A∧Mod No w V∧Row V w.heap.size 7 (fl [.int .i64 A.C, .int .u64 A.cr,slc B.gb A.G B.gcap,slc B.cl A.C B.ccap,slc B.cu A.C B.ucap, .slice o0 k0 c0,slc B.so A.G B.scap])∧Row V (w.heap.size+1) 8 (fl [.int .u8 1, .int .i64 c, .int .i64 id, .int .i64 g, .int .i64 weight, .int .i64 tO, .int .i64 n, .int .u64 mask])∧Row V (w.heap.size+1+1) 7 (fl [.int .i64 0, .int .u64 0, .slice none 0 0, .slice none 0 0, .slice none 0 0, .slice none 0 0, .slice none 0 0])) ?_ ?_
 ·have m:=(((Mod.refl No w).alloc (.cells #[.int .i64 A.C, .int .u64 A.cr,slc B.gb A.G B.gcap,slc B.cl A.C B.ccap,slc B.cu A.C B.ucap, .slice o0 k0 c0,slc B.so A.G B.scap] 48)).alloc (.cells #[.int .u8 1, .int .i64 c, .int .i64 id, .int .i64 g, .int .i64 weight, .int .i64 tO, .int .i64 n, .int .u64 mask] 58)).alloc (.cells #[.int .i64 0, .int .u64 0, .slice none 0 0, .slice none 0 0, .slice none 0 0, .slice none 0 0, .slice none 0 0] 48)
  exact ⟨hs.no m,m,((row_newL w [_,_,_,_,_,_,_] _).alloc _).alloc _,(row_newL' _ _ [_,_,_,_,_,_,_,_] _ (by simp)).alloc _,row_newL' _ _ [_,_,_,_,_,_,_] _ (by simp)⟩
 intro V ⟨S1,m1,X1,O1,Z1⟩
 clear hs
 have x0:=X1.cL 0 _ (by omega) rfl
 have x1:=X1.cL 1 _ (by omega) rfl
 have x2:=X1.cL 2 _ (by omega) rfl
 have x3:=X1.cL 3 _ (by omega) rfl
 have x4:=X1.cL 4 _ (by omega) rfl
 have x5:=X1.cL 5 _ (by omega) rfl
 have x6:=X1.cL 6 _ (by omega) rfl
 have lX:=X1.lt
 go_wp2_with fail
 refine (show Calls Tryz.prog 55 #[.agg #[.int .i64 A.C, .int .u64 A.cr,slc B.gb A.G B.gcap,slc B.cl A.C B.ccap,slc B.cu A.C B.ucap, .slice o0 k0 c0,slc B.so A.G B.scap]] V _ from by rw [←HI.out.2.2.2.2.2.2.2.2.2.1];exact ref_copied_st V ow A B S1 hC0 hC2 (by omega) hG).mono ?_;rintro e w1 ⟨B1,ow1,rfl,T1,n1',hge1⟩
 obtain ⟨o1,k1,c1,hv1⟩:=T1.tvo
 have e1:stv B1 A= .agg #[.int .i64 A.C, .int .u64 A.cr,slc B1.gb A.G B1.gcap,slc B1.cl A.C B1.ccap,slc B1.cu A.C B1.ucap, .slice o1 k1 c1,slc B1.so A.G B1.scap]:=by rw [←hv1]
 rw [e1]
 have HV:=Lib.hid (And.intro e1 hv1)
 clear e1 hv1 x0 x1 x2 x3 x4 x5 x6 X1
 go_upto_region 2 with fail
 refine wp_world (fun U=> U.heap.size=w1.heap.size+1∧StAt U ow1 B1 A∧Mod No w U∧Row U w1.heap.size 7 (fl [.int .i64 A.C, .int .u64 A.cr,slc B1.gb A.G B1.gcap,slc B1.cl A.C B1.ccap,slc B1.cu A.C B1.ucap, .slice o1 k1 c1,slc B1.so A.G B1.scap])∧Row U (w.heap.size+1) 8 (fl [.int .u8 1, .int .i64 c, .int .i64 id, .int .i64 g, .int .i64 weight, .int .i64 tO, .int .i64 n, .int .u64 mask])∧Row U (w.heap.size+1+1) 7 (fl [.int .i64 0, .int .u64 0, .slice none 0 0, .slice none 0 0, .slice none 0 0, .slice none 0 0, .slice none 0 0])) ?_ ?_
 ·exact ⟨by simp,T1.no ((Mod.refl No w1).alloc _),(Mod.trans m1 n1' (fun _ _ h=> h)).alloc _,row_newL w1 [_,_,_,_,_,_,_] _,(O1.mod n1' (fun h=> h)).alloc _,(Z1.mod n1' (fun h=> h)).alloc _⟩
 intro U ⟨zU,SU,mU,XU,OU,ZU⟩
 have zV1:=n1'.size
 have lZ:=Z1.lt
 have onx:ow1 w1.heap.size= .no:=Classical.byContradiction fun hh=> by have:=T1.2 _ hh;omega
 have hno:∀ b,b < V.heap.size→ow1 b= .no:=fun b hb=> Classical.byContradiction fun hh=> by have:=hge1 b hh;omega
 clear O1 Z1 S1 T1
 obtain ⟨nb,hnb⟩:∃ nb,nb=w1.heap.size:=⟨_,rfl⟩
 rw [←hnb] at XU zU onx zV1 ⊢
 clear hnb
 have x0:=XU.cL 0 _ (by omega) rfl
 have x1:=XU.cL 1 _ (by omega) rfl
 have x2:=XU.cL 2 _ (by omega) rfl
 have x3:=XU.cL 3 _ (by omega) rfl
 have x4:=XU.cL 4 _ (by omega) rfl
 have x5:=XU.cL 5 _ (by omega) rfl
 have x6:=XU.cL 6 _ (by omega) rfl
 have lX:=XU.lt
 have p0:=OU.cL 0 _ (by omega) rfl
 have p1:=OU.cL 1 _ (by omega) rfl
 have p2:=OU.cL 2 _ (by omega) rfl
 have p3:=OU.cL 3 _ (by omega) rfl
 have p4:=OU.cL 4 _ (by omega) rfl
 have p5:=OU.cL 5 _ (by omega) rfl
 have p6:=OU.cL 6 _ (by omega) rfl
 have p7:=OU.cL 7 _ (by omega) rfl
 have lO:=OU.lt
 go_wp2_with fail
 refine (show Calls Tryz.prog 62 #[.agg #[.int .i64 A.C, .int .u64 A.cr,slc B1.gb A.G B1.gcap,slc B1.cl A.C B1.ccap,slc B1.cu A.C B1.ucap, .slice o1 k1 c1,slc B1.so A.G B1.scap],opv 1 c id g weight tO n mask] U _ from by rw [←HV.out.1];exact r_spawn A U ow1 B1 SU HI.out.1 HI.out.2.1 HI.out.2.2.2.2.2.2.2.2.2.2 id weight tO n mask g c hc hg HI.out.2.2.1 HI.out.2.2.2.1 hcr h0 h1 hk0 hk1 hm1 HI.out.2.2.2.2.2.1 HI.out.2.2.2.2.1).mono ?_;rintro e w2 ⟨B2,ow2,rfl,S2,m2,ho2⟩
 rw [←HI.out.2.2.2.2.2.2.1] at S2
 obtain ⟨o2,k2,c2,hv2⟩:=S2.tvo
 have e2:stv B2 A= .agg #[.int .i64 A.C, .int .u64 A.cr,slc B2.gb A.G B2.gcap,slc B2.cl A.C B2.ccap,slc B2.cu A.C B2.ucap, .slice o2 k2 c2,slc B2.so A.G B2.scap]:=by rw [←hv2]
 rw [e2]
 have on2:∀ b,b < U.heap.size→ow1 b= .no→ow2 b= .no:=fun b hb h=> by rw [ho2 b hb];exact h
 have onx2:=on2 nb (by omega) onx
 have hno2:∀ b,b < V.heap.size→ow2 b= .no:=fun b hb=> on2 b (by omega) (hno b hb)
 have hge2:∀ b,ow2 b≠ .no→V.heap.size≤b:=fun b hb=> Classical.byContradiction fun hh=> hb (hno2 b (by omega))
 have HW:=Lib.hid (And.intro e2 hv2)
 clear e2 hv2
 have X2:=XU.mod m2 (by show ¬ow1 nb≠ .no;rw [onx];simp)
 have Z2:=ZU.mod m2 (by show ¬ow1 (w.heap.size+1+1)≠ .no;rw [hno _ lZ];simp)
 have mw2:Mod No w w2:=Mod.trans mU m2 (fun b hb hh=> by have:=hge1 b hh;have:=m1.size;omega)
 clear x0 x1 x2 x3 x4 x5 x6 lX p0 p1 p2 p3 p4 p5 p6 p7 lO
 have x0:=X2.cL 0 _ (by have:=X2.lt;omega) rfl
 have x1:=X2.cL 1 _ (by have:=X2.lt;omega) rfl
 have x2:=X2.cL 2 _ (by have:=X2.lt;omega) rfl
 have x3:=X2.cL 3 _ (by have:=X2.lt;omega) rfl
 have x4:=X2.cL 4 _ (by have:=X2.lt;omega) rfl
 have x5:=X2.cL 5 _ (by have:=X2.lt;omega) rfl
 have x6:=X2.cL 6 _ (by have:=X2.lt;omega) rfl
 have gf0:=X2.free 0
 have gf1:=X2.free 1
 have gf2:=X2.free 2
 have gf3:=X2.free 3
 have gf4:=X2.free 4
 have gf5:=X2.free 5
 have gf6:=X2.free 6
 have lX:=X2.lt
 go_upto_region 26 with fail
 refine wp_world (fun W=> StAt W ow2 B2 A1∧Row W nb 7 (fl [.int .i64 A.C, .int .u64 A.cr,slc B2.gb A.G B2.gcap,slc B2.cl A.C B2.ccap,slc B2.cu A.C B2.ucap, .slice o2 k2 c2,slc B2.so A.G B2.scap])∧Row W (w.heap.size+1+1) 7 (fl [.int .i64 0, .int .u64 0, .slice none 0 0, .slice none 0 0, .slice none 0 0, .slice none 0 0, .slice none 0 0])∧Mod No w W) ?_ ?_
 ·have hm:=h7_mod nb w2 (.int .i64 A.C) (.int .u64 A.cr) (slc B2.gb A.G B2.gcap) (slc B2.cl A.C B2.ccap) (slc B2.cu A.C B2.ucap) (.slice o2 k2 c2) (slc B2.so A.G B2.scap)
  have nbw:w.heap.size+1+1 < nb:=by omega
  exact ⟨S2.mod hm (by rintro b rfl;exact onx2),h7_row X2 _ _ _ _ _ _ _,Z2.mod hm (by show ¬w.heap.size+1+1=nb;omega),Mod.trans mw2 hm (fun b hb e=> by have:b=nb:=e;omega)⟩
 intro W ⟨S3,X3,Z3,m3⟩
 clear S2 X2 Z2 mw2 m2 x0 x1 x2 x3 x4 x5 x6 lX gf0 gf1 gf2 gf3 gf4 gf5 gf6
 have x0:=X3.cL 0 _ (by have:=X3.lt;omega) rfl
 have x1:=X3.cL 1 _ (by have:=X3.lt;omega) rfl
 have x2:=X3.cL 2 _ (by have:=X3.lt;omega) rfl
 have x3:=X3.cL 3 _ (by have:=X3.lt;omega) rfl
 have x4:=X3.cL 4 _ (by have:=X3.lt;omega) rfl
 have x5:=X3.cL 5 _ (by have:=X3.lt;omega) rfl
 have x6:=X3.cL 6 _ (by have:=X3.lt;omega) rfl
 have lX:=X3.lt
 have eC1:=HC.out
 have eS:stv B2 A=stv B2 A1:=by rw [HI.out.2.2.2.2.2.2.1]
 have HS:=Lib.hid (And.intro eC1 eS)
 clear eC1 eS
 go_wp2_with fail
 refine (show Calls Tryz.prog 70 #[.agg #[.int .i64 A.C, .int .u64 A.cr,slc B2.gb A.G B2.gcap,slc B2.cl A.C B2.ccap,slc B2.cu A.C B2.ucap, .slice o2 k2 c2,slc B2.so A.G B2.scap]] W _ from by rw [←HW.out.1,HS.out.2];exact r_raised HI.out.2.2.2.2.2.2.2.1 W ow2 B2 S3 (by rw [HS.out.1];exact hC0) (by rw [HS.out.1];exact hC2)).mono ?_;rintro e w3 ⟨rfl,S4,m4⟩
 rw [←HS.out.2,HW.out.1]
 have Z4:=Z3.mod m4 (by show ¬ow2 (w.heap.size+1+1)≠ .no;rw [hno2 _ lZ];simp)
 have mw4:Mod No w w3:=Mod.trans m3 m4 (fun b hb hh=> by have:=hge2 b hh;have:=m1.size;omega)
 have z0:=Z4.cL 0 _ (by have:=Z4.lt;omega) rfl
 have z1:=Z4.cL 1 _ (by have:=Z4.lt;omega) rfl
 have z2:=Z4.cL 2 _ (by have:=Z4.lt;omega) rfl
 have z3:=Z4.cL 3 _ (by have:=Z4.lt;omega) rfl
 have z4:=Z4.cL 4 _ (by have:=Z4.lt;omega) rfl
 have z5:=Z4.cL 5 _ (by have:=Z4.lt;omega) rfl
 have z6:=Z4.cL 6 _ (by have:=Z4.lt;omega) rfl
 have gf0:=Z4.free 0
 have gf1:=Z4.free 1
 have gf2:=Z4.free 2
 have gf3:=Z4.free 3
 have gf4:=Z4.free 4
 have gf5:=Z4.free 5
 have gf6:=Z4.free 6
 have lZ4:=Z4.lt
 clear x0 x1 x2 x3 x4 x5 x6 lX X3 S3 Z3
 go_wp2
 have hm:=h7_mod (w.heap.size+1+1) w3 (.int .i64 A.C) (.int .u64 A.cr) (slc B2.gb A.G B2.gcap) (slc B2.cl A.C B2.ccap) (slc B2.cu A.C B2.ucap) (.slice o2 k2 c2) (slc B2.so A.G B2.scap)
 refine bodyPost_ret (v:= .tuple #[.agg #[.int .i64 A.C, .int .u64 A.cr,slc B2.gb A.G B2.gcap,slc B2.cl A.C B2.ccap,slc B2.cu A.C B2.ucap, .slice o2 k2 c2,slc B2.so A.G B2.scap], .int .i64 0, .int .i64 0]) (by simp [results,Tryz.results21,go_sem, *]) rfl ⟨B2,ow2,by rw [←HS.out.2,HW.out.1],S4.mod hm (by rintro b rfl;exact hno2 _ lZ),Mod.trans mw4 hm (fun b hb e=> by have:b=w.heap.size+1+1:=e;omega),fun b hb=> by have:=hge2 b hb;have:=m1.size;omega⟩
end
end Go.Q
set_option linter.unusedSectionVars false
namespace Go.Q
open Go.RowKit Go.Proofs
def oK:Nat→Int|0=> 1|1=> 6|_=> 5
def oT:Nat→Int|0=> 5|_=> 0
def oG (g0:Nat):Nat→Int|0=> g0|_=> 0
def oW (k:Int):Nat→Int|0=> k|_=> 0
def oN (n:Int):Nat→Int|2=> n|_=> 0
def oM (mask:Int):Nat→Int|0=> mask|_=> 0
def oR:Nat→Int|0=> 0|_=> 5
section
variable (par wt:Nat→Int) (d g0 c0:Nat) (k n mask:Int)
abbrev opk (i:Nat):Value:=opv (oK i) c0 (oT i) (oG g0 i) (oW k i) 0 (oN n i) (oM mask i)
def PA:Nat→ASt
 |0=> AZ 64 256 0 par wt
 |1=> AT1 par wt g0 c0 k mask
 |2=> AT2 par wt g0 c0 k mask
 |_=> AT4 par wt d g0 c0 k n mask
abbrev qs1:Nat→Nat→QSt:=entQ par wt (fun _ _=> (0,0)) c0 d g0 5 0 0 k (fun _ _=> .e 0 0)
abbrev tS:TSt:=⟨5,g0,k,c0,mask,true,0,0,k⟩
def PS:Nat→SSt→Prop
 |0,s=> s=fresh 64 256 0 par wt
 |1,s=> ∃ wk,s=⟨64,256,0,par,wt,fun _=> 0,fun _=> 0,upd1 (fun _=> 0) c0 k,wk,some (tS g0 c0 k mask),qs1 par wt d g0 c0 k,fun _ _=> (0,0)⟩
 |2,s=> ∃ wk,s=⟨64,256,0,par,wt,fun _=> 0,upd1 (fun _=> 0) c0 5,upd1 (fun _=> 0) c0 k,wk,some (tS g0 c0 k mask),qs1 par wt d g0 c0 k,fun _ _=> (0,0)⟩
 |_,s=> ∃ wk,s=⟨64,256,0,par,wt,upd1 (fun _=> 0) c0 n,upd1 (fun _=> 0) c0 5,upd1 (fun _=> 0) c0 k,wk,some (tS g0 c0 k mask),tickQ par c0 n d g0 (qs1 par wt d g0 c0 k),fun _ _=> (0,0)⟩
theorem PA_shape (i:Nat):(PA par wt d g0 c0 k n mask i).C=64∧(PA par wt d g0 c0 k n mask i).G=256∧(PA par wt d g0 c0 k n mask i).cr=0:=by
 match i with
 |0=> exact ⟨rfl,rfl,rfl⟩
 |1=> exact ⟨rfl,rfl,rfl⟩
 |2=> exact ⟨rfl,rfl,rfl⟩
 |_+3=> exact ⟨rfl,rfl,rfl⟩
end
section
variable {par wt:Nat→Int} {d g0 c0:Nat} {k n mask:Int} (N:Nums par wt d g0 c0 k n mask)
include N
theorem Nums.e1: { AT1 par wt g0 c0 k mask with spots:=rsp (AT1 par wt g0 c0 k mask) d }=AT1 par wt g0 c0 k mask:=rsp_zero _ _ rfl (fun t e=> by cases e;rfl)
theorem Nums.e2: { AT2 par wt g0 c0 k mask with spots:=rsp (AT2 par wt g0 c0 k mask) d }=AT2 par wt g0 c0 k mask:=rsp_zero _ _ rfl (fun t e=> by cases e;rfl)
theorem Nums.hE:REnt (tk1 g0 c0 k mask).v (tk1 g0 c0 k mask).r (tk1 g0 c0 k mask).weight∧(tk1 g0 c0 k mask).v≤1000000000000000:=by
 have:=N.k1
 have:=N.k2
 exact ⟨⟨by show 1≤k;omega,by show k≤_;omega,by show (0:Int)≤0;omega,by show 0 < k;omega,by show (0:Int)≤0;omega,by show (0:Int) < _;omega⟩,by show (0:Int)≤_;omega⟩
theorem Nums.hS (c:Nat):∀ g,0 < g→g < (AT2 par wt g0 c0 k mask).G→REnt ((AT2 par wt g0 c0 k mask).spots g c).1 ((AT2 par wt g0 c0 k mask).spots g c).2.1 ((AT2 par wt g0 c0 k mask).wt g)∧((AT2 par wt g0 c0 k mask).spots g c).1≤1000000000000000:=fun g _ hg=> by
 have w:=N.T.wtOk g hg
 exact ⟨⟨w.1,w.2,by show (0:Int)≤0;omega,by show (0:Int) < wt g;omega,by show (0:Int)≤0;omega,by show (0:Int) < _;omega⟩,by show (0:Int)≤_;omega⟩
theorem Nums.cur2:(AT2 par wt g0 c0 k mask).current c0=5:=by
 show upd1 (fun _=> (0:Int)) c0 5 c0=5
 simp [upd1]
theorem Nums.ref (i:Nat) (hi:i < 3) (w:World) (ow:Nat→SOwn) (B:STB) (hs:StAt w ow B (PA par wt d g0 c0 k n mask i)):
  Calls Tryz.prog 21 #[stv B (PA par wt d g0 c0 k n mask i),opk g0 c0 k n mask i] w fun e w' => ∃ B' ow',e= .returned (.tuple #[stv B' (PA par wt d g0 c0 k n mask (i+1)), .int .i64 (oR i), .int .i64 0])∧
   StAt w' ow' B' (PA par wt d g0 c0 k n mask (i+1))∧Mod No w w' ∧∀ b,ow' b≠ .no→w.heap.size≤b:=by
 have n1:=N.n1
 have n2:=N.n2
 match i,hi with
 |0,_=>
  refine (rDo_spawn N.T rfl rfl 5 k 0 0 mask g0 c0 N.hc N.hg N.dep (fun _ _=> rfl) (Int.le_refl 0) (by omega) (by omega) N.k1 N.k2 N.m1 N.m2 N.m4 (AT1 par wt g0 c0 k mask) rfl w ow B hs).mono ?_
  rintro e w' ⟨B',ow',h1,h2,h3⟩
  rw [N.e1] at h2
  exact ⟨B',ow',h1,h2,h3⟩
 |1,_=>
  refine (rDo_pick N.one1 (tk1 g0 c0 k mask) rfl 0 0 0 0 0 0 c0 N.hc rfl (AT2 par wt g0 c0 k mask) rfl (by show 0 < 64;omega) (by show 64≤64;omega) w ow B hs).mono ?_
  rintro e w' ⟨B',ow',h1,h2,h3⟩
  rw [N.e2] at h2
  exact ⟨B',ow',h1,h2,h3⟩
 |2,_=>
  refine (rDo_tick N.one2 (tk1 g0 c0 k mask) rfl 0 0 0 0 n 0 c0 g0 N.hc rfl N.hg N.dep N.cur2 rfl n1 (by omega) N.hE (N.hS c0) (AT3 par wt d g0 c0 k n mask) rfl (by show 0 < 64;omega) (by show 64≤64;omega) w ow B hs).mono ?_
  rintro e w' ⟨B',ow',h1,h2,h3⟩
  exact ⟨B',ow',h1,h2,h3⟩
theorem Nums.sch (i:Nat) (hi:i < 3) (w:World) (ow:Nat→Own) (x:Nat) (B:SB) (s:SSt) (hp:PS par wt d g0 c0 k n mask i s) (hs:SAt w ow x B s):
  Calls Tryz.prog 22 #[ptr x,opk g0 c0 k n mask i] w fun e w' => e= .returned (.tuple #[.int .i64 (oR i), .int .i64 0])∧Mod (fun b=> ow b≠ .no) w w' ∧∃ ow' B' s',(∀ b,b < w.heap.size→ow' b=ow b)∧SAt w' ow' x B' s' ∧s'.C=64∧PS par wt d g0 c0 k n mask (i+1) s' :=by
 have n1:=N.n1
 have n2:=N.n2
 match i,hi,hp with
 |0,_,hp=>
  cases hp
  refine (Do_spawn hs 5 k 0 0 mask g0 c0 d rfl rfl N.hc N.hg N.T N.dep (fun _ _=> rfl) (Int.le_refl 0) (fun _ _=> rfl) (by omega) (by omega) N.k1 N.k2 N.m1 N.m2 N.m3 N.d4 (fun _=> rfl)).mono ?_
  rintro e w' ⟨h1,h2,ow',B',h3,h4⟩
  exact ⟨h1,h2,ow',B',_,h3,h4,rfl,_,rfl⟩
 |1,_,hp=>
  obtain ⟨wk,rfl⟩:=hp
  refine (Do_pick hs c0 g0 d 5 k 0 0 0 0 0 0 N.hc N.hg N.T N.dep (by omega) (by omega) (fun x m' k' h=> ⟨_,_,_,_,_,N.ch1 x m' k' h⟩)).mono ?_
  rintro e w' ⟨h1,h2,wk',h4⟩
  exact ⟨h1,h2,ow,B,_,fun _ _=> rfl,h4,rfl,wk',rfl⟩
 |2,_,hp=>
  obtain ⟨wk,rfl⟩:=hp
  refine (Do_tick hs (tS g0 c0 k mask) c0 g0 d 5 k n 0 0 0 0 0 rfl rfl rfl N.hc N.hg N.T N.dep (by omega) (by omega) N.k1 N.k2 (by show upd1 (fun _=> (0:Int)) c0 5 c0=5;simp [upd1]) rfl n1 (by omega) N.d4 (fun x m' k' h=> N.ch1 x m' k' h)).mono ?_
  rintro e w' ⟨h1,h2,ow',wk',h3,h4⟩
  exact ⟨h1,h2,ow',B,_,h3,h4,rfl,wk',rfl⟩
theorem Nums.mod (i:Nat) (hi:i < 3) (w:World) (m:Nat) (ow:Nat→SOwn) (B:STB) (hs:MAt w m ow B (PA par wt d g0 c0 k n mask i)) (ht:(PA par wt d g0 c0 k n mask i).task=none→B.tv= .slice none 0 0):
  Calls Tryz.prog 23 #[ptr m,opk g0 c0 k n mask i] w fun e w' => ∃ B' ow',e= .returned (.tuple #[.int .i64 (oR i), .int .i64 0])∧MAt w' m ow' B' (PA par wt d g0 c0 k n mask (i+1))∧Mod (fun b=> ow b≠ .no∨b=m) w w' ∧∀ b,b < w.heap.size→ow' b=ow b:=by
 have n1:=N.n1
 have n2:=N.n2
 have d4:=N.d4
 match i,hi with
 |0,_=>
  have htv:=ht rfl
  by_cases hx:True
  ·refine (m_Do1 (AT1 par wt g0 c0 k mask) N.one1 N.vok1 (by show 0 < 64;omega) (by show 64≤64;omega) c0 5 g0 k 0 0 mask 0 w m ow B hs (fun W hW=> ?_)).mono ?_
   ·exact m_spawn N.T rfl rfl 5 k 0 0 mask g0 c0 N.hc N.hg N.dep (by omega) (fun _ _=> rfl) (Int.le_refl 0) (by omega) (by omega) N.k1 N.k2 N.m1 N.m2 N.m3 W m ow B hW htv
   ·rintro e w' ⟨B',ow',h1,h2,h3⟩
    rw [N.e1] at h2
    exact ⟨B',ow',h1,h2,h3⟩
  ·exact absurd trivial hx
 |1,_=>
  refine (m_Do6 (AT2 par wt g0 c0 k mask) N.one2 N.vok2 (by show 0 < 64;omega) (by show 64≤64;omega) c0 0 0 0 0 0 0 5 w m ow B hs (fun W hW=> ?_)).mono ?_
  ·refine (m_pick N.one1 N.vok1 (tk1 g0 c0 k mask) rfl c0 rfl N.hc 0 0 0 0 0 0 W m ow B hW).mono ?_
   rintro e w' ⟨h1,h2,h3⟩
   exact ⟨B,ow,h1,h2,h3.mono (fun _ _ h=> .inl h),fun _ _=> rfl⟩
  ·rintro e w' ⟨B',ow',h1,h2,h3⟩
   rw [N.e2] at h2
   exact ⟨B',ow',h1,h2,h3⟩
 |2,_=>
  refine (m_Do5 (AT3 par wt d g0 c0 k n mask) N.one3 N.vok3 (by show 0 < 64;omega) (by show 64≤64;omega) c0 0 0 0 0 n 0 5 w m ow B hs (fun W hW=> ?_)).mono ?_
  ·refine (m_tick N.one2 (tk1 g0 c0 k mask) rfl 5 0 0 0 0 n 0 c0 g0 N.hc rfl N.hg N.dep N.cur2 rfl n1 (by omega) N.hE (N.hS c0) W m ow B hW).mono ?_
   rintro e w' ⟨h1,h2,h3⟩
   exact ⟨B,ow,h1,h2,h3.mono (fun _ _ h=> .inl h),fun _ _=> rfl⟩
  ·rintro e w' ⟨B',ow',h1,h2,h3⟩
   exact ⟨B',ow',h1,h2,h3⟩
theorem Nums.drv (i:Nat) (hi:i < 3) (w:World) (ow:Nat→Own) (x:Nat) (B:SB) (s:SSt) (D:DB) (hp:PS par wt d g0 c0 k n mask i s) (hs:SAt w ow x B s) (hd:DAt w ow x D ((1+i:Nat):Int) c0 i):
  Calls Tryz.prog 24 #[ptr D.d,opk g0 c0 k n mask i] w (DrvPost w ow x D ((1+i:Nat):Int) c0 i (PS par wt d g0 c0 k n mask (i+1)) (fun tm=> evl ((1+i:Nat):Int) tm c0 (oK i) (oT i) (oG g0 i) 0 (oW k i) (oN n i) (oM mask i) (oR i))):=by
 have hS:∀ W,Mod No w W→Calls Tryz.prog 22 #[ptr x,opk g0 c0 k n mask i] W fun e w' => e= .returned (.tuple #[.int .i64 (oR i), .int .i64 0])∧Mod (fun b=> ow b≠ .no) W w' ∧∃ ow' B' s',(∀ b,b < W.heap.size→ow' b=ow b)∧SAt w' ow' x B' s' ∧s'.C=64∧PS par wt d g0 c0 k n mask (i+1) s' :=fun W hW=>
  N.sch i hi W ow x B s hp (hs.no hW)
 match i,hi,hS,hd with
 |0,_,hS,hd=> exact drv_do1 hs hd (by omega) N.hc (by omega) (by omega) _ 5 g0 k 0 0 mask 0 hS
 |1,_,hS,hd=> exact drv_do6 hs hd (by omega) N.hc (by omega) (by omega) _ 0 0 0 0 0 0 5 hS
 |2,_,hS,hd=> exact drv_do5 hs hd (by omega) N.hc (by omega) (by omega) _ 0 0 0 0 n 0 5 hS
end
end Go.Q
namespace Go.Q
open Go.RowKit Go.Proofs
section
variable {w:World} {ow:Nat→SOwn} {B:STB} {A:ASt} (nx:Nat)
theorem row_ints2 (w:World) (b:Nat) (x y:Int) (t:TypeId) (hb:b=w.heap.size):Row (w.alloc (.cells #[.int .i64 x, .int .i64 y] t)) b 2 (ints fun i=> if i=0 then x else y):=(row_newL' w b [_,_] t hb).congr (fun i hi=> by
 simp only [List.length_cons,List.length_nil] at hi
 rcases (by omega:i=0∨i=1) with rfl|rfl <;> rfl)
theorem row_ints4 (w:World) (b:Nat) (x y z u:Int) (t:TypeId) (hb:b=w.heap.size):Row (w.alloc (.cells #[.int .i64 x, .int .i64 y, .int .i64 z, .int .i64 u] t)) b 4 (ints fun i=> if i=0 then x else if i=1 then y else if i=2 then z else u):=(row_newL' w b [_,_,_,_] t hb).congr (fun i hi=> by
 simp only [List.length_cons,List.length_nil] at hi
 rcases (by omega:i=0∨i=1∨i=2∨i=3) with rfl|rfl|rfl|rfl <;> rfl)
set_option maxRecDepth 100000 in
theorem c_groups (R:Rg A) (hgc:A.G≤B.gcap) (h:StAt w ow B A):Calls Tryz.prog 231 #[snv nx B A] w fun e w' => ∃ v,e= .returned v∧PAt w' v (gnum A 1 (A.G - 1))∧Mod No w w' :=by
 have h1:=R.G1
 have h2:=R.G2
 have HR:=Lib.hid R
 have HS:=Lib.hid h
 clear R h
 have j0:(1:Int)≤A.G:=by omega
 have j1:B.gcap≠1:=by omega
 have j2:A.G≠0:=by omega
 go_enter Tryz.func231,Tryz.ntmps231
 go_wp2
 go_loopw [12,3] (fun s8 s3 wr=> ∃ k:Nat,s8= .int .i64 k∧k≤A.G - 1∧wr.ownsRow w.heap.size 37 1 s3 (2 * k) (ul (gnum A 1 k))∧Mod No w wr) (fun s8 _ _=> A.G - (RowKit.intOf s8).toNat)
 case atStart=> exact ⟨0,rfl,by omega,World.ownsRow_nil _ _ _ _,(Mod.refl _ _).alloc _⟩
 case round=>
  obtain ⟨wk,rfl⟩:∃ W,W=wr:=⟨wr,rfl⟩
  obtain ⟨k,rfl,hk,hO,hm⟩:=hrel
  obtain ⟨vo,vc,rfl⟩:=own_slice hO
  by_cases hkn:k < A.G - 1
  ·have i1:(k:Int) < ((A.G - 1:Nat):Int):=by omega
   have S1:=HS.out.no hm
   obtain ⟨p0,p1⟩:=S1.gp (g:=1+k) (by omega)
   have q:=HR.out.gr (1+k) (by omega)
   have c0:wk.cell? ⟨B.gb,2+k * 2,none⟩=some (.int .i64 (A.par (1+k))):=by rw [←p0];congr 2;omega
   have c1:wk.cell? ⟨B.gb,2+k * 2+1,none⟩=some (.int .i64 (A.wt (1+k))):=by rw [←p1];congr 2;omega
   have lb:=(S1.1 .gb).2.lt
   have lz:=hm.size
   go_wp2_with fail
   refine (numbers_ok _ 2 2 (fun i=> if i=0 then A.par (1+k) else A.wt (1+k)) (fun i _=> by first|(dsimp only;split <;> omega)|(split <;> omega)) (by omega) _ (row_ints2 _ _ _ _ 3 (by simp))).mono ?_;rintro e w1 ⟨v1,rfl,hO1,hm1⟩
   obtain ⟨g1,cp1,rfl,hg1,hg1'⟩:=own_pos hO1 (by omega)
   have hO2:w1.ownsRow w.heap.size 37 1 (.slice vo (2 * k) vc) (2 * k) (ul (gnum A 1 k)):=ownsRow_mod (hO.alloc _|>.alloc _) hm1 (fun b _ h=> h)
   have lz1:=hm1.size
   simp only [World.size_alloc] at lz1
   go_wp2_with (at_builtin;go_must (refine wpList_app_m 37 _ 1 8 Tryz.infoU64 rfl _ _ 172 rfl Tryz.underlying172 rfl (by decide) (by decide) 2 (ul (inum (fun i=> if i=0 then A.par (1+k) else A.wt (1+k)) 0 2)) (by simp [ul,inum]) (ul_one _) w.heap.size (.slice vo (2 * k) vc) (2 * k) (ul (gnum A 1 k)) _ _ rfl rfl (by decide) ?_ ?_ ?_ ?_ ?_);go_must (· omega);go_must (· omega);go_must (· (repeat first|(with_reducible exact hO2)|(with_reducible refine World.ownsRow.drew ?_)|(with_reducible refine World.ownsRow.alloc ?_ _)));go_must (· exact own_row1 hO1);go_must (intro gt ct wA hA))
   refine ⟨⟨k+1,by go_num,by omega, ?_, ?_⟩,by simp only [RowKit.intOf];omega⟩
   ·have hO3:=hA.own
    rw [gnum_snoc,ul_append]
    have e:inum (fun i=> if i=0 then A.par (1+k) else A.wt (1+k)) 0 2=gnumF A (1+k):=rfl
    rw [e] at hO3
    exact hO3
   ·refine Mod.trans hm (Mod.trans (Mod.trans (((Mod.refl No wk).alloc _).alloc _) hm1 (fun _ _ h=> h)|>.no _) hA.mod (fun _ _ h=> h)) (fun b hb h=> ?_)
    have:=(hO.lt b h).1
    omega
  ·obtain rfl:k=A.G - 1:=by omega
   have i1:((A.G - 1:Nat):Int)≤((A.G - 1:Nat):Int):=by omega
   go_wp2
   go_ret
   exact ⟨_,rfl,PAt.of hO (by omega) (gnum_len _ _ _),hm⟩
set_option maxRecDepth 100000 in
theorem c_tasks0 (h:StAt w ow B A) (hA:A.task=none):Calls Tryz.prog 234 #[snv nx B A] w fun e w' => ∃ v,e= .returned v∧PAt w' v (tnum A.task)∧Mod No w w' :=by
 obtain ⟨ta,tc,htv⟩:=h.t0 hA
 rw [hA]
 rw [show snv nx B A= .agg #[.int .i64 nx, .int .i64 A.C, .int .u64 A.cr,slc B.gb A.G B.gcap,slc B.cl A.C B.ccap,slc B.cu A.C B.ucap, .slice ta 0 tc,slc B.so A.G B.scap] from by rw [←htv]]
 clear htv
 go_enter Tryz.func234,Tryz.ntmps234
 go_wp2_with fail
 refine (numbers_ok _ 1 1 (fun _=> ((0:Nat):Int)) (fun i _=> by simp) (by omega) _ (row_ints1 _ _ 0 3 (by simp))).mono ?_;rintro e w1 ⟨v,rfl,hO,hm⟩
 have mm:Mod No w w1:=Mod.trans (((Mod.refl No w).alloc _).alloc _) hm (fun _ _ h=> h)
 have hP:PAt w1 v [0]:=PAt.of hO (by omega) (by simp [inum])
 obtain ⟨g1,cp1,rfl,hg1,hg1'⟩:=own_pos hO (by omega)
 have HP:=Lib.hid hP
 clear hO hP
 have lz:=hm.size
 have X1:Row w1 w.heap.size 8 (fl [.int .i64 nx, .int .i64 A.C, .int .u64 A.cr,slc B.gb A.G B.gcap,slc B.cl A.C B.ccap,slc B.cu A.C B.ucap, .slice ta 0 tc,slc B.so A.G B.scap]):=Row.mod (S:=No) ((row_newL w [_,_,_,_,_,_,_,_] _).alloc _) hm (fun h=> h)
 have x6:=X1.cL 6 _ (by omega) rfl
 go_wp2
 go_loopw [18,3] (fun s18 s3 wr=> s18= .int .i64 0∧s3=slc g1 1 cp1∧wr=w1) (fun _ _ _=> 0)
 case atStart=> exact ⟨rfl,rfl,rfl⟩
 case round=>
  obtain ⟨rfl,rfl,rfl⟩:=hrel
  go_wp2
  go_ret
  exact ⟨_,rfl,HP.out,mm⟩
theorem own_list {w:World} {base:Nat} {v:Value} {n:Nat} {L:List Nat} (h:w.ownsRow base 37 1 v n (ul L)):L.length=n:=by
 obtain ⟨h0,_⟩:=h
 simpa [ul] using h0
set_option maxRecDepth 100000 in
set_option maxHeartbeats 1000000 in
theorem c_tasks1 (R:Rg A) (h:StAt w ow B A) (t:TK) (hA:A.task=some t) (hrd:t.ready=true):Calls Tryz.prog 234 #[snv nx B A] w fun e w' => ∃ v,e= .returned v∧PAt w' v (tnum A.task)∧Mod No w w' :=by
 obtain ⟨tb,tc,htv,_,RT⟩:=h.t1 hA
 have q:=R.tk t hA
 have hG:=R.G2
 have hC:=R.C2
 rw [hA]
 rw [show snv nx B A= .agg #[.int .i64 nx, .int .i64 A.C, .int .u64 A.cr,slc B.gb A.G B.gcap,slc B.cl A.C B.ccap,slc B.cu A.C B.ucap,slc tb 1 tc,slc B.so A.G B.scap] from by rw [←htv]]
 have HA:=Lib.hid (And.intro hA (And.intro htv hrd))
 have HS:=Lib.hid h
 clear hA htv h R hrd
 go_enter Tryz.func234,Tryz.ntmps234
 go_wp2_with fail
 refine (numbers_ok _ 1 1 (fun _=> ((1:Nat):Int)) (fun i _=> by simp) (by omega) _ (row_ints1 _ _ 1 3 (by simp))).mono ?_;rintro e w1 ⟨v,rfl,hO,hm⟩
 have mm:Mod No w w1:=Mod.trans (((Mod.refl No w).alloc _).alloc _) hm (fun _ _ h=> h)
 have hO0:w1.ownsRow w.heap.size 37 1 v 1 (ul [1]):=own_weak hO (by simp;omega)
 obtain ⟨g1,cp1,rfl,hg1,hg1'⟩:=own_pos hO (by omega)
 have HO0:=Lib.hid hO0
 clear hO hO0
 have lz:=hm.size
 have RT1:=RT.mod mm (fun h=> h)
 have lT:=RT1.lt
 have X1:Row w1 w.heap.size 8 (fl [.int .i64 nx, .int .i64 A.C, .int .u64 A.cr,slc B.gb A.G B.gcap,slc B.cl A.C B.ccap,slc B.cu A.C B.ucap,slc tb 1 tc,slc B.so A.G B.scap]):=Row.mod (S:=No) ((row_newL w [_,_,_,_,_,_,_,_] _).alloc _) hm (fun h=> h)
 have x6:=X1.cL 6 _ (by omega) rfl
 go_wp2
 go_loopw [18,3,4] (fun s18 s3 s4 wr=> ∃ k:Nat,s18= .int .i64 k∧k≤1∧Mod No w wr∧((k=0∧s3=slc g1 1 cp1∧s4= .int .i64 0∧wr.ownsRow w.heap.size 37 1 s3 1 (ul [1]))∨(k=1∧wr.ownsRow w.heap.size 37 1 s3 9 (ul (tnum (some t)))))) (fun s18 _ _ _=> 1 - (RowKit.intOf s18).toNat)
 case atStart=> exact ⟨0,rfl,by omega,mm, .inl ⟨rfl,rfl,rfl,HO0.out⟩⟩
 case round=>
  obtain ⟨wk,rfl⟩:∃ W,W=wr:=⟨wr,rfl⟩
  obtain ⟨k,rfl,hk,hmk,⟨rfl,rfl,rfl,hO⟩|⟨rfl,hO⟩⟩:=hrel
  ·have RT2:=RT.mod hmk (fun h=> h)
   have lT2:=RT2.lt
   have y0:wk.cell? ⟨tb,0,none⟩=some (.int .i64 t.id):=RT2.cL 0 _ (by omega) rfl
   have y1:wk.cell? ⟨tb,1,none⟩=some (.int .i64 t.group):=RT2.cL 1 _ (by omega) rfl
   have y2:wk.cell? ⟨tb,2,none⟩=some (.int .i64 t.weight):=RT2.cL 2 _ (by omega) rfl
   have y3:wk.cell? ⟨tb,3,none⟩=some (.int .i64 t.cpu):=RT2.cL 3 _ (by omega) rfl
   have y4:wk.cell? ⟨tb,4,none⟩=some (.int .u64 t.mask):=RT2.cL 4 _ (by omega) rfl
   have y5:wk.cell? ⟨tb,5,none⟩=some (.bool true):=by have:=RT2.cL 5 _ (by omega) rfl;rw [this];exact congrArg (fun b=> some (Value.bool b)) HA.out.2.2
   have y6:wk.cell? ⟨tb,6,none⟩=some (.int .u64 t.v):=RT2.cL 6 _ (by omega) rfl
   have y7:wk.cell? ⟨tb,7,none⟩=some (.int .u32 t.r):=RT2.cL 7 _ (by omega) rfl
   have lz2:=hmk.size
   have lg1:g1 < wk.heap.size:=(hO.lt g1 rfl).2
   go_wp2_with fail
   refine (numbers_ok _ 4 4 (fun i=> if i=0 then t.id else if i=1 then t.group else if i=2 then t.weight else t.cpu) (fun i _=> by first|(dsimp only;split;omega;split;omega;split <;> omega)|(split;omega;split;omega;split <;> omega)) (by omega) _ (row_ints4 _ _ _ _ _ _ 3 (by simp))).mono ?_;rintro e w2 ⟨v2,rfl,hO1,hm1⟩
   obtain ⟨g2,cp2,rfl,hg2,hg2'⟩:=own_pos hO1 (by omega)
   have hO2:w2.ownsRow w.heap.size 37 1 (slc g1 1 cp1) 1 (ul [1]):=ownsRow_mod (hO.alloc _|>.alloc _) hm1 (fun b _ h=> h)
   have lz3:=hm1.size
   simp only [World.size_alloc] at lz3
   have XT:Row w2 wk.heap.size 8 (fl [.int .i64 t.id, .int .i64 t.group, .int .i64 t.weight, .int .i64 t.cpu, .int .u64 t.mask, .bool true, .int .u64 t.v, .int .u32 t.r]):=Row.mod (S:=No) ((row_newL wk [_,_,_,_,_,_,_,_] _).alloc _) hm1 (fun h=> h)
   have mm2:Mod No wk w2:=Mod.trans (((Mod.refl No wk).alloc _).alloc _) hm1 (fun _ _ h=> h)
   go_upto_region 10 with (at_builtin;go_must (refine wpList_app_m 37 _ 1 8 Tryz.infoU64 rfl _ _ 172 rfl Tryz.underlying172 rfl (by decide) (by decide) 4 (ul (inum (fun i=> if i=0 then t.id else if i=1 then t.group else if i=2 then t.weight else t.cpu) 0 4)) (by simp [ul,inum]) (ul_one _) w.heap.size (slc g1 1 cp1) 1 (ul [1]) _ _ rfl rfl (by decide) ?_ ?_ ?_ ?_ ?_);go_must (· omega);go_must (· omega);go_must (· (repeat first|(with_reducible exact hO2)|(with_reducible refine World.ownsRow.drew ?_)|(with_reducible refine World.ownsRow.alloc ?_ _)));go_must (· exact own_row1 hO1);go_must (intro gt ct wA hA))
   have XA:=XT.mod hA.mod (by show ¬(some g1=some wk.heap.size);simp;omega)
   have lA:=XA.lt
   have z0:=XA.cL 0 _ (by omega) rfl
   have z4:=XA.cL 4 _ (by omega) rfl
   have z6:=XA.cL 6 _ (by omega) rfl
   have z7:=XA.cL 7 _ (by omega) rfl
   have hOA:=hA.own
   have lwA:=hA.mod.size
   have lwA2:w.heap.size≤wA.heap.size:=by omega
   have hcv:∀ x:Int,0≤x→((x.toNat:Nat):Int)=x:=fun x h=> Int.toNat_of_nonneg h
   have e4: [Value.int .u64 t.mask, .int .u64 1, .int .u64 t.v, .int .u64 t.r]=ul [t.mask.toNat,1,t.v.toNat,t.r.toNat]:=by
    simp only [ul,List.map_cons,List.map_nil,hcv t.mask (by omega),hcv t.v (by omega),hcv t.r (by omega)];rfl
   have HOA:=Lib.hid hOA
   have hall:∀ u∈ [Value.int .u64 t.mask, .int .u64 1, .int .u64 t.v, .int .u64 t.r],u.oneCell' =true:=by rw [e4];exact ul_one _
   have hO5:wA.ownsRow w.heap.size 37 1 (.slice (some ⟨gt,0,none⟩) 5 ct) 5 _:=hOA
   obtain ⟨xs5,hxs5⟩:∃ xs5,xs5=ul [1]++ul (inum (fun i=> if i=0 then t.id else if i=1 then t.group else if i=2 then t.weight else t.cpu) 0 4):=⟨_,rfl⟩
   rw [←hxs5] at hO5
   have HE4:=Lib.hid e4
   have ngt:gt≠wk.heap.size:=by
    rcases hA.at_ with h|h
    ·simp [Value.ownBlock] at h;omega
    ·omega
   clear y0 y1 y2 y3 y4 y5 y6 y7 hcv hOA e4
   go_wp2_with (at_builtin;go_must (refine wpList_app_m 37 _ 1 8 Tryz.infoU64 rfl _ _ 172 rfl Tryz.underlying172 rfl (by decide) (by decide) 4 [.int .u64 t.mask, .int .u64 1, .int .u64 t.v, .int .u64 t.r] rfl hall w.heap.size (.slice (some ⟨gt,0,none⟩) 5 ct) 5 xs5 _ _ rfl rfl (by decide) ?_ ?_ ?_ ?_ ?_);go_must (· (simp;omega));go_must (· omega);go_must (· (repeat first|(with_reducible exact hO5)|(with_reducible refine World.ownsRow.drew ?_)|(with_reducible refine World.ownsRow.alloc ?_ _)));go_must (· exact row_newL _ [_,_,_,_] _);go_must (intro gt2 ct2 wB hB);go_must (have XB:=(XA.alloc _).mod hB.mod (by show ¬(some gt=some wk.heap.size);simp;omega));go_must (have lB:=XB.lt);go_must (have zb:=XB.cL 0 _ (by omega) rfl))
   refine ⟨⟨1,by go_num,by omega, ?_, .inr ⟨rfl, ?_⟩⟩,by simp [RowKit.intOf]⟩
   ·refine Mod.trans hmk (Mod.trans (Mod.trans (mm2.no _) hA.mod (fun _ _ h=> h)) (Mod.trans ((Mod.refl (fun b=> (slc gt 5 ct).ownBlock=some b) wA).alloc _) hB.mod (fun _ _ h=> h)) (fun b hb h=> ?_)) (fun b hb h=> ?_)
    ·rcases hA.at_ with h2|h2
     ·obtain rfl:gt=b:=Option.some.inj h
      exact h2
     ·obtain rfl:gt=b:=Option.some.inj h
      omega
    ·have:=(hO.lt b h).1
     omega
   ·have hO9:=hB.own
    rw [hxs5,HE4.out,←ul_append,←ul_append] at hO9
    have e9:([1]++inum (fun i=> if i=0 then t.id else if i=1 then t.group else if i=2 then t.weight else t.cpu) 0 4)++ [t.mask.toNat,1,t.v.toNat,t.r.toNat]=tnum (some t):=by
     simp only [tnum,HA.out.2.2,if_true];rfl
    rw [e9] at hO9
    exact hO9
  ·have i1:(1:Int)≤1:=by omega
   go_wp2
   go_ret
   exact ⟨_,rfl,PAt.of hO (by omega) rfl,hmk⟩
end
end Go.Q
namespace Go.Q
open Go.RowKit Go.Proofs
section
variable {w:World} {ow:Nat→SOwn} {B:STB} {A:ASt} (nx:Nat)
set_option maxRecDepth 100000 in
set_option maxHeartbeats 1000000 in
theorem c_spots (R:Rg A) (h:StAt w ow B A):Calls Tryz.prog 235 #[snv nx B A] w fun e w' => ∃ v,e= .returned v∧PAt w' v (snum A 0 A.G)∧Mod No w w' :=by
 have hG1:=R.G1
 have hG:=R.G2
 have hC:=R.C2
 have hC1:=R.C1
 have HR:=Lib.hid R
 have HS:=Lib.hid h
 clear R h
 go_enter Tryz.func235,Tryz.ntmps235
 go_wp2
 go_loopw [12,3] (fun s12 s3 wr=> ∃ (g m:Nat),s12= .int .i64 g∧g≤A.G∧wr.ownsRow w.heap.size 37 1 s3 m (ul (snum A 0 g))∧m≤g * 192∧Mod No w wr) (fun s12 _ _=> A.G - (RowKit.intOf s12).toNat)
 case atStart=> exact ⟨0,0,rfl,by omega,World.ownsRow_nil _ _ _ _,by omega,(Mod.refl _ _).alloc _⟩
 case round=>
  obtain ⟨wk,rfl⟩:∃ W,W=wr:=⟨wr,rfl⟩
  obtain ⟨g,m,rfl,hg,hO,hm192,hm⟩:=hrel
  obtain ⟨vo,vc,rfl⟩:=own_slice hO
  by_cases hgG:g < A.G
  ·have i1:(g:Int) < A.G:=by omega
   have S1:=HS.out.no hm
   have c0:=(S1.1 .so).2.cell hgG
   go_wp2
   go_loopw [19,3] (fun s19 s3 wr=> ∃ (c m:Nat),s19= .int .i64 c∧c≤A.C∧wr.ownsRow w.heap.size 37 1 s3 m (ul (snum A 0 g++srow A g 0 c))∧m≤g * 192+c * 3∧Mod No w wr) (fun s19 _ _=> A.C - (RowKit.intOf s19).toNat)
   case atStart=> exact ⟨0,m,rfl,by omega,by simpa [srow] using hO,by omega,hm⟩
   case round=>
    clear hO c0 S1 hm hm192
    obtain ⟨wj,rfl⟩:∃ W,W=wr:=⟨wr,rfl⟩
    obtain ⟨c,m,rfl,hc,hO,hm192,hm⟩:=hrel
    obtain ⟨vo,vc,rfl⟩:=own_slice hO
    by_cases hcC:c < A.C
    ·have j1:(c:Int) < A.C:=by omega
     have S1:=HS.out.no hm
     obtain ⟨_,c0,c1,c2⟩:=S1.sp hgG hcC
     obtain ⟨q1,q2,q3,q4,q5,q6⟩:=HR.out.sp g c hgG hcC
     have lb:=(S1.1 (.si g) hgG).2.lt
     have lz:=hm.size
     obtain ⟨v0,hv0,hv0'⟩:=nat_of _ q1
     obtain ⟨v1,hv1,hv1'⟩:=nat_of _ q3
     obtain ⟨v2,hv2,hv2'⟩:=nat_of _ q5
     rw [hv0] at c0;rw [hv1] at c1;rw [hv2] at c2
     have hw1:IntKind.u64.wrap (v1:Int)=v1:=by rw [IntKind.wrap_u64];omega
     have HM:=Lib.hid (And.intro hm192 (show m≤60000 by omega))
     clear hm192
     have HV:=Lib.hid (And.intro hv0' (And.intro hv1' hv2'))
     clear hv0 hv1 hv2 hv0' hv1' hv2' q1 q2 q3 q4 q5 q6
     by_cases hg0:g=0
     ·have g0:(g:Int)≤0:=by omega
      have hsn:snum A 0 g++srow A g 0 (c+1)=(snum A 0 g++srow A g 0 c)++ [v2]:=by
       rw [srow_snoc,Nat.zero_add,←List.append_assoc]
       simp only [snumF,if_pos hg0,HV.out.2.2]
      clear hg0
      have HN:=Lib.hid hsn
      clear hsn
      go_wp2_with (at_builtin;go_must (refine wpList_app_c 37 _ 1 8 Tryz.infoU64 rfl _ _ 172 rfl Tryz.underlying172 rfl (by decide) (by decide) [.int .u64 v2] rfl (by simp [Value.oneCell']) w.heap.size (.slice vo m vc) m (ul (snum A 0 g++srow A g 0 c)) _ _ rfl rfl ?_ ?_ ?_ ?_ ?_);go_must (· simp;omega);go_must (· (have:=HM.out.2;omega));go_must (· (repeat first|(with_reducible exact hO)|(with_reducible refine World.ownsRow.drew ?_)|(with_reducible refine World.ownsRow.alloc ?_ _)));go_must (· exact row_one _ _ _ _ (by simp));go_must (intro gt ct wA hA))
      refine ⟨⟨c+1,m+1,by go_num,by omega, ?_,by have:=HM.out.1;omega, ?_⟩,by simp only [RowKit.intOf];omega⟩
      ·have hO2:=hA.own
       rw [HN.out,ul_append]
       exact hO2
      ·refine Mod.trans hm (Mod.trans (((Mod.refl _ wj).alloc _).alloc _) hA.mod (fun _ _ h=> h)) (fun b hb h=> ?_)
       have:=(hO.lt b h).1
       omega
     ·have g0:(0:Int) < g:=by omega
      have hsn:snum A 0 g++srow A g 0 (c+1)=((snum A 0 g++srow A g 0 c)++ [v0,v1])++ [v2]:=by
       rw [srow_snoc,Nat.zero_add,←List.append_assoc]
       simp only [snumF,if_neg hg0,HV.out.1,HV.out.2.1,HV.out.2.2]
       simp
      have HN:=Lib.hid hsn
      clear hsn
      go_upto_region 10 with (at_builtin;go_must (refine wpList_app_m 37 _ 1 8 Tryz.infoU64 rfl _ _ 172 rfl Tryz.underlying172 rfl (by decide) (by decide) 2 [.int .u64 v0, .int .u64 v1] rfl (by simp [Value.oneCell']) w.heap.size (.slice vo m vc) m (ul (snum A 0 g++srow A g 0 c)) _ _ rfl rfl (by decide) ?_ ?_ ?_ ?_ ?_);go_must (· (simp;omega));go_must (· (have:=HM.out.2;omega));go_must (· (repeat first|(with_reducible exact hO)|(with_reducible refine World.ownsRow.drew ?_)|(with_reducible refine World.ownsRow.alloc ?_ _)));go_must (· exact row_newL' _ _ [_,_] _ (by simp));go_must (intro gt ct wA hA))
      have XT:Row wA wj.heap.size 3 (fl [.int .u64 v0, .int .u32 v1, .int .u64 v2]):=Row.mod ((row_newL wj [_,_,_] _).alloc _) hA.mod (fun h=> by have:=(hO.lt _ h).2;omega)
      have lA:=XT.lt
      have d2:=XT.cL 2 _ (by omega) rfl
      have hOA:=hA.own
      have hsz:=hA.mod.size
      simp only [World.size_alloc] at hsz
      have hull:ul (snum A 0 g++srow A g 0 c)++ [Value.int .u64 v0, .int .u64 v1]=ul ((snum A 0 g++srow A g 0 c)++ [v0,v1]):=by rw [ul_append (snum A 0 g++srow A g 0 c) [v0,v1]];rfl
      rw [hull] at hOA
      clear hull c0 c1 c2
      go_wp2_with (at_builtin;go_must (refine wpList_app_c 37 _ 1 8 Tryz.infoU64 rfl _ _ 172 rfl Tryz.underlying172 rfl (by decide) (by decide) [.int .u64 v2] rfl (by simp [Value.oneCell']) w.heap.size (.slice (some ⟨gt,0,none⟩) (m+2) ct) (m+2) (ul ((snum A 0 g++srow A g 0 c)++ [v0,v1])) _ _ rfl rfl ?_ ?_ ?_ ?_ ?_);go_must (· simp;omega);go_must (· (have:=HM.out.2;omega));go_must (· (repeat first|(with_reducible exact hOA)|(with_reducible refine World.ownsRow.drew ?_)|(with_reducible refine World.ownsRow.alloc ?_ _)));go_must (· exact row_one _ _ _ _ (by simp));go_must (intro gt2 ct2 wB hB))
      refine ⟨⟨c+1,m+2+1,by go_num,by omega, ?_,by have:=HM.out.1;omega, ?_⟩,by simp only [RowKit.intOf];omega⟩
      ·have hO2:=hB.own
       rw [HN.out,ul_append]
       exact hO2
      ·refine Mod.trans hm (Mod.trans (Mod.trans (((Mod.refl _ wj).alloc _).alloc _) hA.mod (fun _ _ h=> h)) (Mod.trans ((Mod.refl (fun b=> (Value.slice (some ⟨gt,0,none⟩) (m+2) ct).ownBlock=some b) wA).alloc _) hB.mod (fun _ _ h=> h)) (fun b hb h=> ?_)) (fun b hb h=> ?_)
       ·obtain rfl:gt=b:=Option.some.inj h
        rcases hA.at_ with h2|h2
        ·exact h2
        ·simp only [World.size_alloc] at h2;omega
       ·have:=(hO.lt b h).1
        omega
    ·obtain rfl:c=A.C:=by omega
     have j1:(A.C:Int)≤A.C:=by omega
     go_wp2
     refine ⟨⟨g+1,m,by go_num,by omega, ?_,by omega,hm⟩,by simp only [RowKit.intOf];omega⟩
     rw [snum_snoc,Nat.zero_add]
     exact hO
  ·obtain rfl:g=A.G:=by omega
   have i1:(A.G:Int)≤A.G:=by omega
   go_wp2
   go_ret
   refine ⟨_,rfl,PAt.of hO ?_ (own_list hO),hm⟩
   have:=own_list hO
   rw [snum_len0 _ _ (by omega)] at this
   omega
end
end Go.Q
/- QLexIn's law,where an effect may come behind its readers through others. -/
namespace Go.Q
open Go.RowKit
section
variable {F:Fence} {n:Nat} {P:Program} {ops:Array Oper} {md:Region.Mode} {C:World→Prop} {es pu fx:List Nat} {Q:Exit→Act→World→Prop}
def ancB (md:Region.Mode) (ops:Array Oper):Nat→Nat→Nat→Bool
 |0,_,_=> false
 |f+1,i,j=> match ops[i]? with
  |none=> false
  |some oi=> oi.after.any fun e=> Region.binds md e && (e.on==j||ancB md ops f e.on j)
def fxT (md:Region.Mode) (ops:Array Oper) (es pu fx:List Nat):Bool:=fx.all fun i=> (List.range ops.size).all fun j=> es.contains j||pu.contains j||ancB md ops ops.size i j
def Closed (md:Region.Mode) (ops:Array Oper) (listed:Array Bool):Prop:=∀ j oj,ops[j]? =some oj→listed.getD j false=true→∀ e∈oj.after,Region.binds md e=true→listed.getD e.on false=true
theorem getD_set_f {listed:Array Bool} {i j:Nat} (h:listed.getD j false=true):(listed.setIfInBounds i true).getD j false=true:=by
 simp only [Array.getD_eq_getD_getElem?,Array.getElem?_setIfInBounds] at *
 split
 ·rename_i e;subst e
  by_cases hi:i < listed.size
  ·simp [hi]
  ·simp [hi] at h
 ·exact h
theorem getD_set_of {listed:Array Bool} {i j:Nat} (h:(listed.setIfInBounds i true).getD j false=true) (hij:j≠i):listed.getD j false=true:=by
 simp only [Array.getD_eq_getD_getElem?,Array.getElem?_setIfInBounds,if_neg (Ne.symm hij)] at *
 exact h
theorem Closed.set {listed:Array Bool} (h:Closed md ops listed) {i:Nat} (hi:i∈Region.ready md ops listed):Closed md ops (listed.setIfInBounds i true):=by
 intro j oj hj hl e he hb
 obtain ⟨_,o2,ho2,hall⟩:=mem_ready.1 hi
 by_cases hij:j=i
 ·subst hij
  obtain rfl:oj=o2:=Option.some.inj (hj.symm.trans ho2)
  exact getD_set_f (hall e he hb)
 ·exact getD_set_f (h j oj hj (getD_set_of hl hij) e he hb)
theorem Closed.anc {listed:Array Bool} (h:Closed md ops listed):∀ (f i j:Nat),(∀ oi,ops[i]? =some oi→∀ e∈oi.after,Region.binds md e=true→listed.getD e.on false=true)→ancB md ops f i j=true→listed.getD j false=true
 |0,_,_,_,hb=> by simp [ancB] at hb
 |f+1,i,j,hi,hb=> by
  unfold ancB at hb
  cases ho:ops[i]? with
  |none=> rw [ho] at hb;simp at hb
  |some oi=>
   rw [ho] at hb
   rw [Array.any_eq_true'] at hb
   simp only [Bool.and_eq_true,Bool.or_eq_true,beq_iff_eq] at hb
   obtain ⟨e,he,hbi,hh⟩:=hb
   have hl:=hi oi ho e he hbi
   rcases hh with rfl|hh
   ·exact hl
   ·exact h.anc f e.on j (fun o' ho' e' he' hb' => h e.on o' ho' hl e' he' hb') hh
theorem wpAnyIn_of_T (hro:F.round=none) (hfx:fxT md ops es pu fx=true):∀ (fuel:Nat) (listed:Array Bool) (a:Act) (w:World),Closed md ops listed→Safe ops C es pu listed w→wpAnyI F n P md ops C es pu fx Q fuel listed a w→wpAnyIn F n P md ops Q fuel listed a w
 |0,_,_,_,_,_,h=> ⟨h.1,h.2⟩
 |fuel+1,listed,a,w,hcl,hS,h=> ⟨h.1,fun i hi=> by
   obtain ⟨o,ho,hr⟩:=h.2 i hi
   split at hr
   ·refine wpOpIn_of_eff ho (effIn_mono (fun a' w' hh=> wpAnyIn_of_T hro hfx fuel _ a' w' (hcl.set hi) ?_ hh.2) hr)
    rcases hh.1 with hf|hc
    ·refine .inr (fun j hj he hp=> getD_set_true' ?_)
     simp only [fxT,List.all_eq_true,List.mem_range,Bool.or_eq_true] at hfx
     have h1:=hfx i hf j hj
     rcases h1 with (h1|h1)|h1
     ·exact absurd (by simpa using h1) he
     ·exact absurd (by simpa using h1) hp
     ·obtain ⟨_,o2,ho2,hall⟩:=mem_ready.1 hi
      have h2:=hcl.anc ops.size i j (fun oi hoi e he hb=> by obtain rfl:oi=o2:=Option.some.inj (hoi.symm.trans ho2);exact hall e he hb) h1
      simp only [Array.getD_eq_getD_getElem?] at h2 ⊢
      cases hg:listed[j]? with
      |none=> rw [hg] at h2;simp at h2
      |some b=> rw [hg] at h2;simpa using h2
    ·exact .inl hc
   ·rename_i hie
    obtain ⟨v,hy,hh⟩:=hr
    have hc:i∈pu∨C w:=by
     by_cases hp:i∈pu
     ·exact .inl hp
     ·rcases hS with hc|hall
      ·exact .inr hc
      ·obtain ⟨h0,o2,ho2,_⟩:=mem_ready.1 hi
       have:=hall i (Array.getElem?_eq_some_iff.1 ho2).1 hie hp
       rw [h0] at this;cases this
    exact hy.wpOpIn (K:=fun a' w' => wpAnyIn F n P md ops Q fuel (listed.setIfInBounds i true) a' w') hro ho hc (wpAnyIn_of_T hro hfx fuel _ _ w (hcl.set hi) (hS.set i) hh)⟩
theorem wpIn_region_chainT {id:Nat} {a:Act} {w:World} (C:World→Prop) (es pu fx:List Nat) (ord:Ord) (hro:F.round=none) (hm:P.follows .mixedOrders=true)
  (hB:(Region.noSelect ops && ord.len==ops.size && fxT .any ops es pu fx && chainB .any ops es ord (Array.replicate ops.size false))=true) (hC:C w.drew) (h:∀ ops',ops' =ops→wpLI F n P ops' C pu fx Q ord a w.drew):(Code.region id ops true).wpIn F n P Q a w:=by
 have h:=h ops rfl
 simp only [Bool.and_eq_true,beq_iff_eq] at hB
 obtain ⟨⟨⟨h1,h2⟩,h4⟩,h3⟩:=hB
 refine wpIn_region_any hm ?_
 have:=wpAnyIn_of_T hro h4 _ _ _ _ (fun j oj _ hl=> by simp only [Array.getD_eq_getD_getElem?,Array.getElem?_replicate] at hl;split at hl <;> simp at hl) (.inl hC) (wpAnyI_of (F:=F) (n:=n) (P:=P) (C:=C) (Q:=Q) (pu:=pu) (fx:=fx) hro h1 ord _ a w.drew h3 h)
 rw [h2] at this
 exact this
end
end Go.Q
