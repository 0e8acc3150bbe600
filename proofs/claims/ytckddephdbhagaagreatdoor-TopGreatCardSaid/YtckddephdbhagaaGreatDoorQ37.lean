/- A part of the proof that TopGreat answers true: what some of the functions on its road compute. -/
import Derived.Test.YtckddephdbhagaaGreatDoorQ29
import Derived.Test.YtckddephdbhagaaGreatDoorQ36
set_option linter.unusedVariables false
set_option linter.unusedSimpArgs false
set_option linter.unnecessarySimpa false
namespace Go.Q
open Go.RowKit Go.Proofs
theorem nums_eq (nx:Nat) (A:ASt):nums nx A=nx::A.C::A.cr.toNat::A.G::Lgr A 0:=by
 simp [nums,Lgr,Lcl,Lt]
theorem nums_get (nx:Nat) (A:ASt) (hG:1≤A.G):(nums nx A)[1]? =some A.C∧(nums nx A)[3]? =some A.G∧(nums nx A)[4+2 * (A.G - 1)+A.C+A.C]? =some (ntk A):=by
 refine ⟨by rw [nums_eq];rfl,by rw [nums_eq];rfl, ?_⟩
 have:nums nx A=([nx,A.C,A.cr.toNat,A.G]++gnum A 1 (A.G - 1)++inum A.clocks 0 A.C++inum A.current 0 A.C)++(ntk A::Ltk A 0):=by
  rw [←Lt_eq];simp [nums,Lt]
 rw [this,List.getElem?_append_right (by simp [gnum_len,inum_len];omega)]
 simp [gnum_len,inum_len]
 have:4+2 * (A.G - 1)+A.C+A.C - (2 * (A.G - 1)+A.C+A.C+4)=0:=by omega
 first|(rw [this];rfl)|(have h0:∀ m,m=0→(ntk A::Ltk A 0)[m]? =some (ntk A):=(fun m hm=> by subst hm;rfl);exact h0 _ (by omega))
theorem nums_len' (nx:Nat) (A:ASt) (hG:1≤A.G):(nums nx A).length=4+2 * (A.G - 1)+A.C+A.C+1+8 * ntk A+(A.C+3 * A.C * (A.G - 1)):=by
 unfold nums
 simp only [List.length_append,List.length_cons,List.length_nil,gnum_len,inum_len,tnum_len,snum_len0 _ _ hG]
 have:(A.G - 1) * (3 * A.C)=3 * A.C * (A.G - 1):=Nat.mul_comm _ _
 unfold ntk
 omega
set_option maxRecDepth 100000 in
set_option maxHeartbeats 4000000 in
theorem pread_ok (H:Nat→Nat) (hH:∀ i,i < 16→H i < 4294967296) (g M cap nx:Nat) (A:ASt) (R:Rg A) (hp0:A.par 0=0) (hw0:A.wt 0=1) (hs0:∀ c,c < A.C→(A.spots 0 c).1=0∧(A.spots 0 c).2.1=0) (hnx:nx≤4611686018427387904) (hM:M=(body nx A).length+4) (hcap:M≤cap)
  (hCk:∀ W ow B,StAt W ow B A→A.G≤B.gcap→Calls Tryz.prog 98 #[snv nx B A] W fun e W' => e= .returned (.int .i64 0)∧Below W.heap.size W W')
  (w:World) (RH:Row w 1 16 (fun i=> .int .u32 (H i:Nat))) (Rb:Row w g M (fl (bl (body nx A++tail4 (crcV H (body nx A)))))):
  Calls Tryz.prog 29 #[slc g M cap] w fun e w' => ∃ B' ow',e= .returned (.tuple #[snv nx B' A, .int .i64 0])∧StAt w' ow' B' A∧Mod No w w' ∧(∀ b,ow' b≠ .no→w.heap.size≤b)∧A.G≤B'.gcap:=by
 have hb:body nx A= [113,115,1]++vbs (nums nx A):=rfl
 have hG1:=R.G1
 have hnl:=nums_len nx A R
 have hge:=vbs_ge (nums nx A)
 have hlen:=nums_len' nx A (by omega)
 have hC1:=R.C1
 have hC2:=R.C2
 have hG2:=R.G2
 have hng:=nums_get nx A (by omega)
 have hbl:=body_len nx A R hnx
 have hnt:ntk A≤1:=by unfold ntk;split <;> omega
 have hN3:11≤(body nx A).length:=by rw [hb,List.length_append];simp only [List.length_cons,List.length_nil];omega
 have HX:=Lib.hid (And.intro R (And.intro hp0 (And.intro hw0 (And.intro hs0 (And.intro hnx hCk)))))
 have hO:=open_ok H hH g (body nx A).length M cap (nums nx A) A.C A.G (ntk A) hM rfl (by omega) hN3 hcap (nums_lt nx A R hnx) hnl hng.1 hng.2.1 hng.2.2 hC1 hC2 (by omega) hG2 hnt hlen
 clear R hp0 hw0 hs0 hnx hCk hb hnl hge hlen hC1 hC2 hG2 hng hbl hnt hN3 hM hcap
 have HO:=Lib.hid hO
 clear hO
 go_enter Tryz.func29,Tryz.ntmps29
 go_wp2_with fail
 refine (HO.out _ (RH.alloc _) (Rb.alloc _)).mono ?_;rintro e w1 ⟨r,rfl,m1,s0,nv,n,oo,sv,R1,O1⟩
 have m1' :Mod No w w1:=Mod.trans ((Mod.refl No w).alloc _) m1 (fun _ _ h=> h)
 have Z1:Row w1 w.heap.size 8 (fl [.int .i64 0, .int .i64 0, .int .u64 0, .slice none 0 0, .slice none 0 0, .slice none 0 0, .slice none 0 0, .slice none 0 0]):=Row.mod (S:=No) (row_newL w [_,_,_,_,_,_,_,_] _) m1 (fun h=> h)
 have hn:=own_list O1
 have hpos:0 < n:=by rw [←hn,nums_eq];simp
 obtain ⟨gb,gc,rfl,hg1,hg2⟩:=own_pos O1 hpos
 have hcp:=own_cap O1
 have RN:=own_row1b O1
 have z1:=m1'.size
 have k2:=R1.cL 2 _ (by have:=R1.lt;omega) rfl
 have lr:=R1.lt
 have lz:=Z1.lt
 simp only [World.size_alloc] at hg1
 have HN:=Lib.hid (And.intro hn hcp)
 clear hn hcp O1 hpos
 go_upto_region 5 with fail
 refine wp_world (fun V=> V.heap.size=w1.heap.size+1∧Mod No w V∧SrcAt V w1.heap.size V.heap.size (nums nx A)∧Row V w.heap.size 8 (fl [.int .i64 0, .int .i64 0, .int .u64 0, .slice none 0 0, .slice none 0 0, .slice none 0 0, .slice none 0 0, .slice none 0 0])) ?_ ?_
 ·refine ⟨by simp,m1'.alloc _,⟨some ⟨gb,0,none⟩,gc, ?_,by have:=HN.out;omega,nums_len nx A HX.out.1,by simp,by simp,fun _=> ⟨gb,0,rfl,by omega,by simp;omega,fun i hi=> ?_⟩⟩,Z1.alloc _⟩
  ·rw [HN.out.1];exact row_newL w1 [_,_] _
  ·have hi' :i < n:=by have:=HN.out;omega
   have:=(RN.alloc (.cells #[.slice (some ⟨gb,0,none⟩) n gc, .bool true] 185)).cell hi'
   rw [Nat.zero_add,this]
   simp [fl,ul,hi]
 intro V ⟨zV,mV,TV,ZV⟩
 rw [nums_eq] at TV
 obtain ⟨sb,hsb⟩:∃ sb,sb=w1.heap.size:=⟨_,rfl⟩
 have zz:w.heap.size+1≤sb:=by have:=m1.size;simp only [World.size_alloc] at this;omega
 rw [←hsb] at TV zV ⊢
 clear Z1 R1 RN k2 lr lz m1 hsb hg2
 go_wp2_with fail
 refine (src_state A nx sb HX.out.1 HX.out.2.1 HX.out.2.2.1 HX.out.2.2.2.1 HX.out.2.2.2.2.1 V TV).mono ?_;rintro e w2 ⟨B',ow',rfl,St,m2,hge,hgc,T2⟩
 have hsn:snv nx B' A= .agg #[.int .i64 nx, .int .i64 A.C, .int .u64 A.cr,slc B'.gb A.G B'.gcap,slc B'.cl A.C B'.ccap,slc B'.cu A.C B'.ucap,B'.tv,slc B'.so A.G B'.scap]:=rfl
 obtain ⟨tO,tn,tc,etv⟩:∃ o n c,B'.tv= .slice o n c:=by
  have:=St.1 .tk
  simp only [SPart] at this
  split at this
  ·obtain ⟨a,c,h⟩:=this;exact ⟨_,_,_,h⟩
  ·obtain ⟨b,c,h,_⟩:=this;exact ⟨_,_,_,h⟩
 rw [etv] at hsn
 have HS:=Lib.hid (And.intro hsn etv)
 rw [hsn]
 clear hsn etv TV
 have Z2:=ZV.mod m2 (by show ¬w.heap.size=sb;omega)
 have z2:=m2.size
 have sn:ow' sb= .no:=Classical.byContradiction fun hh=> by have h9:V.heap.size≤sb:=hge _ hh;omega
 go_upto_region 6 with fail
 refine wp_world (fun U=> U.heap.size=w2.heap.size+1∧SrcAt U sb V.heap.size []∧StAt U ow' B' A∧Row U w2.heap.size 8 (fl [.int .i64 nx, .int .i64 A.C, .int .u64 A.cr,slc B'.gb A.G B'.gcap,slc B'.cl A.C B'.ccap,slc B'.cu A.C B'.ucap, .slice tO tn tc,slc B'.so A.G B'.scap])∧Mod (One sb) V U) ⟨by simp,T2.mod ((Mod.refl No w2).alloc _) (fun _ _ h=> h),St.no ((Mod.refl No w2).alloc _),row_newL w2 [_,_,_,_,_,_,_,_] _,m2.alloc _⟩ ?_
 intro U ⟨zU,TU,SU,XU,mU⟩
 obtain ⟨xb,hxb⟩:∃ xb,xb=w2.heap.size:=⟨_,rfl⟩
 rw [←hxb] at XU zU ⊢
 have k1:=TU.ok1.1
 have lU:=TU.lt
 have x0:=XU.cL 0 _ (by omega) rfl
 have x1:=XU.cL 1 _ (by omega) rfl
 have x2:=XU.cL 2 _ (by omega) rfl
 have x3:=XU.cL 3 _ (by omega) rfl
 have x4:=XU.cL 4 _ (by omega) rfl
 have x5:=XU.cL 5 _ (by omega) rfl
 have x6:=XU.cL 6 _ (by omega) rfl
 have x7:=XU.cL 7 _ (by omega) rfl
 have lx:=XU.lt
 clear T2 St hxb Z2
 go_wp2_with fail
 refine (show Calls Tryz.prog 98 #[.agg #[.int .i64 nx, .int .i64 A.C, .int .u64 A.cr,slc B'.gb A.G B'.gcap,slc B'.cl A.C B'.ccap,slc B'.cu A.C B'.ucap, .slice tO tn tc,slc B'.so A.G B'.scap]] U _ from by rw [←HS.out.1];exact HX.out.2.2.2.2.2 U ow' B' SU hgc).mono ?_;rintro e w3 ⟨rfl,hb3⟩
 have m3:Mod No U w3:=Mod.of_below hb3 No
 have S3:=SU.no m3
 have X3:=XU.mod m3 (fun h=> h)
 have mV3:Mod (One sb) V w3:=Mod.trans mU m3 (fun _ _ h=> h.elim)
 have Z3:=ZV.mod mV3 (by show ¬w.heap.size=sb;omega)
 have mw3:Mod No w w3:=Mod.trans mV mV3 (fun b hb e=> by have:b=sb:=e;omega)
 have zw3:=mw3.size
 have zv:=mV3.size
 have xz:xb≠w.heap.size:=by omega
 clear x0 x1 x2 x3 x4 x5 x6 x7 lx k1 lU
 have x0:=X3.cL 0 _ (by have:=X3.lt;omega) rfl
 have x1:=X3.cL 1 _ (by have:=X3.lt;omega) rfl
 have x2:=X3.cL 2 _ (by have:=X3.lt;omega) rfl
 have x3:=X3.cL 3 _ (by have:=X3.lt;omega) rfl
 have x4:=X3.cL 4 _ (by have:=X3.lt;omega) rfl
 have x5:=X3.cL 5 _ (by have:=X3.lt;omega) rfl
 have x6:=X3.cL 6 _ (by have:=X3.lt;omega) rfl
 have x7:=X3.cL 7 _ (by have:=X3.lt;omega) rfl
 have lx:=X3.lt
 have z0:=Z3.cL 0 _ (by have:=Z3.lt;omega) rfl
 have z1:=Z3.cL 1 _ (by have:=Z3.lt;omega) rfl
 have z2:=Z3.cL 2 _ (by have:=Z3.lt;omega) rfl
 have z3:=Z3.cL 3 _ (by have:=Z3.lt;omega) rfl
 have z4:=Z3.cL 4 _ (by have:=Z3.lt;omega) rfl
 have z5:=Z3.cL 5 _ (by have:=Z3.lt;omega) rfl
 have z6:=Z3.cL 6 _ (by have:=Z3.lt;omega) rfl
 have z7:=Z3.cL 7 _ (by have:=Z3.lt;omega) rfl
 have zf0:=Z3.free 0
 have zf1:=Z3.free 1
 have zf2:=Z3.free 2
 have zf3:=Z3.free 3
 have zf4:=Z3.free 4
 have zf5:=Z3.free 5
 have zf6:=Z3.free 6
 have zf7:=Z3.free 7
 have zl:=Z3.lt
 have zn:ow' w.heap.size= .no:=Classical.byContradiction fun hh=> by have h9:V.heap.size≤w.heap.size:=hge _ hh;omega
 clear X3 Z3
 go_wp2
 have hM:∀ v0 v1 v2 v3 v4 v5 v6 v7,Mod (fun b=> b=w.heap.size) w3 ((((((((w3.setCell ⟨w.heap.size,0,none⟩ v0).setCell ⟨w.heap.size,1,none⟩ v1).setCell ⟨w.heap.size,2,none⟩ v2).setCell ⟨w.heap.size,3,none⟩ v3).setCell ⟨w.heap.size,4,none⟩ v4).setCell ⟨w.heap.size,5,none⟩ v5).setCell ⟨w.heap.size,6,none⟩ v6).setCell ⟨w.heap.size,7,none⟩ v7):=fun v0 v1 v2 v3 v4 v5 v6 v7=> ((((((((Mod.refl (fun b=> b=w.heap.size) w3).setCell (p:=⟨w.heap.size,0,none⟩) (.inr rfl) _).setCell (p:=⟨w.heap.size,1,none⟩) (.inr rfl) _).setCell (p:=⟨w.heap.size,2,none⟩) (.inr rfl) _).setCell (p:=⟨w.heap.size,3,none⟩) (.inr rfl) _).setCell (p:=⟨w.heap.size,4,none⟩) (.inr rfl) _).setCell (p:=⟨w.heap.size,5,none⟩) (.inr rfl) _).setCell (p:=⟨w.heap.size,6,none⟩) (.inr rfl) _).setCell (p:=⟨w.heap.size,7,none⟩) (.inr rfl) _
 refine bodyPost_ret (v:= .tuple #[.agg #[.int .i64 nx, .int .i64 A.C, .int .u64 A.cr,slc B'.gb A.G B'.gcap,slc B'.cl A.C B'.ccap,slc B'.cu A.C B'.ucap, .slice tO tn tc,slc B'.so A.G B'.scap], .int .i64 0]) (by simp [results,Tryz.results29,go_sem, *]) rfl ⟨B',ow',by rw [HS.out.1],S3.mod (hM _ _ _ _ _ _ _ _) (by rintro b rfl;exact zn),Mod.trans mw3 (hM _ _ _ _ _ _ _ _) (fun b hb e=> by have:b=w.heap.size:=e;omega),fun b hb=> by have h9:V.heap.size≤b:=hge _ hb;have:=mV.size;omega,hgc⟩
end Go.Q
