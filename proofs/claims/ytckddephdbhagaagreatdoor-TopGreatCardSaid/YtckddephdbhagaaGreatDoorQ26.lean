/- A part of the proof that TopGreat answers true: what some of the functions on its road compute. -/
import Derived.Deep.Upon
import Derived.Lib.AppendZeros
import Derived.Test.YtckddephdbhagaaGreatDoorQ5
import Derived.Test.YtckddephdbhagaaGreatDoorQ6
import Derived.Test.YtckddephdbhagaaGreatDoorQ7
import Derived.Test.YtckddephdbhagaaGreatDoorQ10
set_option linter.unusedVariables false
set_option linter.unusedSimpArgs false
namespace Go.Q
open Go.RowKit Go.Proofs
section
variable {w:World} {ow:Nat→SOwn} {B:STB} {A:ASt}
variable {d:Nat}
set_option maxRecDepth 100000 in
set_option maxHeartbeats 4000000 in
theorem rDo_pick (h:One1 A d) (t:TK) (ht:A.task=some t) (task group weight tO n mask:Int) (c:Nat) (hc:c < A.C) (hcpu:t.cpu=c) (A1:ASt) (hA1:A1= { A with current:=upd1 A.current c t.id }) (hC:0 < A.C) (hC2:A.C≤64)
  (w:World) (ow:Nat→SOwn) (B:STB) (hs:StAt w ow B A):
  Calls Tryz.prog 21 #[stv B A,opv 6 c task group weight tO n mask] w fun e w' => ∃ B' ow',e= .returned (.tuple #[stv B' A1, .int .i64 t.id, .int .i64 0])∧
   StAt w' ow' B' { A1 with spots:=rsp A1 d }∧Mod No w w' ∧∀ b,ow' b≠ .no→w.heap.size≤b:=by
 have hG:=h.T.g2
 have hG1:=h.T.g1
 have h1:One1 A1 d:=by
  rw [hA1]
  exact ⟨h.T,h.ok⟩
 have eA:stv B A=stv B A1:=by rw [hA1]
 have eC:A1.C=A.C:=by rw [hA1]
 obtain ⟨o0,k0,c0,hv0⟩:=hs.tvo
 have HI:=Lib.hid (And.intro h (And.intro ht (And.intro hcpu (And.intro hA1 (And.intro h1 (And.intro hs hv0))))))
 have i0:(0:Int)≤c:=by omega
 have i1:(c:Int) < A.C:=by omega
 rw [show stv B A= .agg #[.int .i64 A.C, .int .u64 A.cr,slc B.gb A.G B.gcap,slc B.cl A.C B.ccap,slc B.cu A.C B.ucap, .slice o0 k0 c0,slc B.so A.G B.scap] from by rw [←hv0]]
 have HC:=Lib.hid eC
 clear h ht hcpu hA1 h1 eA eC hv0
 go_enter Tryz.func21,Tryz.ntmps21
 go_upto_region 1 with fail
 refine wp_world (fun V=> StAt V ow B A∧Mod No w V∧Row V w.heap.size 7 (fl [.int .i64 A.C, .int .u64 A.cr,slc B.gb A.G B.gcap,slc B.cl A.C B.ccap,slc B.cu A.C B.ucap, .slice o0 k0 c0,slc B.so A.G B.scap])∧Row V (w.heap.size+1) 8 (fl [.int .u8 6, .int .i64 c, .int .i64 task, .int .i64 group, .int .i64 weight, .int .i64 tO, .int .i64 n, .int .u64 mask])∧Row V (w.heap.size+1+1) 7 (fl [.int .i64 0, .int .u64 0, .slice none 0 0, .slice none 0 0, .slice none 0 0, .slice none 0 0, .slice none 0 0])) ?_ ?_
 ·have m:=(((Mod.refl No w).alloc (.cells #[.int .i64 A.C, .int .u64 A.cr,slc B.gb A.G B.gcap,slc B.cl A.C B.ccap,slc B.cu A.C B.ucap, .slice o0 k0 c0,slc B.so A.G B.scap] 48)).alloc (.cells #[.int .u8 6, .int .i64 c, .int .i64 task, .int .i64 group, .int .i64 weight, .int .i64 tO, .int .i64 n, .int .u64 mask] 58)).alloc (.cells #[.int .i64 0, .int .u64 0, .slice none 0 0, .slice none 0 0, .slice none 0 0, .slice none 0 0, .slice none 0 0] 48)
  exact ⟨hs.no m,m,((row_newL w [_,_,_,_,_,_,_] _).alloc _).alloc _,(row_newL' _ _ [_,_,_,_,_,_,_,_] _ (by simp)).alloc _,row_newL' _ _ [_,_,_,_,_,_,_] _ (by simp)⟩
 intro V ⟨S1,m1,X1,O1,Z1⟩
 clear hs
 have x0:=X1.cL 0 _ (by omega) rfl
 have x1:=X1.cL 1 _ (by omega) rfl
 have x2:=X1.cL 2 _ (by omega) rfl
 have x3:=X1.cL 3 _ (by omega) rfl
 have x4:=X1.cL 4 _ (by omega) rfl
 have x5:=X1.cL 5 _ (by omega) rfl
 have x6:=X1.cL 6 _ (by omega) rfl
 have lX:=X1.lt
 go_wp2_with fail
 refine (show Calls Tryz.prog 55 #[.agg #[.int .i64 A.C, .int .u64 A.cr,slc B.gb A.G B.gcap,slc B.cl A.C B.ccap,slc B.cu A.C B.ucap, .slice o0 k0 c0,slc B.so A.G B.scap]] V _ from by rw [←HI.out.2.2.2.2.2.2];exact ref_copied_st V ow A B S1 hC hC2 (by omega) hG).mono ?_;rintro e w1 ⟨B1,ow1,rfl,T1,n1',hge1⟩
 obtain ⟨o1,k1,c1,hv1⟩:=T1.tvo
 have e1:stv B1 A= .agg #[.int .i64 A.C, .int .u64 A.cr,slc B1.gb A.G B1.gcap,slc B1.cl A.C B1.ccap,slc B1.cu A.C B1.ucap, .slice o1 k1 c1,slc B1.so A.G B1.scap]:=by rw [←hv1]
 rw [e1]
 have HV:=Lib.hid (And.intro e1 hv1)
 clear e1 hv1 x0 x1 x2 x3 x4 x5 x6
 go_upto_region 2 with fail
 refine wp_world (fun U=> U.heap.size=w1.heap.size+1∧U.cell? ⟨w.heap.size,0,none⟩=some (.int .i64 A.C)∧StAt U ow1 B1 A∧Mod No w U∧Row U w1.heap.size 7 (fl [.int .i64 A.C, .int .u64 A.cr,slc B1.gb A.G B1.gcap,slc B1.cl A.C B1.ccap,slc B1.cu A.C B1.ucap, .slice o1 k1 c1,slc B1.so A.G B1.scap])∧Row U (w.heap.size+1) 8 (fl [.int .u8 6, .int .i64 c, .int .i64 task, .int .i64 group, .int .i64 weight, .int .i64 tO, .int .i64 n, .int .u64 mask])∧Row U (w.heap.size+1+1) 7 (fl [.int .i64 0, .int .u64 0, .slice none 0 0, .slice none 0 0, .slice none 0 0, .slice none 0 0, .slice none 0 0])) ?_ ?_
 ·exact ⟨by simp,((X1.mod n1' (fun h=> h)).alloc _).cL 0 _ (by omega) rfl,T1.no ((Mod.refl No w1).alloc _),(Mod.trans m1 n1' (fun _ _ h=> h)).alloc _,row_newL w1 [_,_,_,_,_,_,_] _,(O1.mod n1' (fun h=> h)).alloc _,(Z1.mod n1' (fun h=> h)).alloc _⟩
 intro U ⟨zU,kU,SU,mU,XU,OU,ZU⟩
 have zV1:=n1'.size
 have lZ:=Z1.lt
 have onx:ow1 w1.heap.size= .no:=Classical.byContradiction fun hh=> by have:=T1.2 _ hh;omega
 have hno:∀ b,b < V.heap.size→ow1 b= .no:=fun b hb=> Classical.byContradiction fun hh=> by have:=hge1 b hh;omega
 clear O1 Z1 S1 T1
 obtain ⟨nb,hnb⟩:∃ nb,nb=w1.heap.size:=⟨_,rfl⟩
 rw [←hnb] at XU zU onx zV1 ⊢
 clear hnb
 have x0:=XU.cL 0 _ (by omega) rfl
 have x1:=XU.cL 1 _ (by omega) rfl
 have x2:=XU.cL 2 _ (by omega) rfl
 have x3:=XU.cL 3 _ (by omega) rfl
 have x4:=XU.cL 4 _ (by omega) rfl
 have x5:=XU.cL 5 _ (by omega) rfl
 have x6:=XU.cL 6 _ (by omega) rfl
 have lX:=XU.lt
 have p0:=OU.cL 0 _ (by omega) rfl
 have p1:=OU.cL 1 _ (by omega) rfl
 have p2:=OU.cL 2 _ (by omega) rfl
 have p3:=OU.cL 3 _ (by omega) rfl
 have p4:=OU.cL 4 _ (by omega) rfl
 have p5:=OU.cL 5 _ (by omega) rfl
 have p6:=OU.cL 6 _ (by omega) rfl
 have p7:=OU.cL 7 _ (by omega) rfl
 have lO:=OU.lt
 go_wp2_with fail
 refine (show Calls Tryz.prog 66 #[.agg #[.int .i64 A.C, .int .u64 A.cr,slc B1.gb A.G B1.gcap,slc B1.cl A.C B1.ccap,slc B1.cu A.C B1.ucap, .slice o1 k1 c1,slc B1.so A.G B1.scap], .int .i64 c] U _ from by rw [←HV.out.1];exact r_first HI.out.1 t HI.out.2.1 c HI.out.2.2.1 hc U ow1 B1 SU).mono ?_;rintro e w2 ⟨rfl,hb2⟩
 have m2:=Mod.of_below hb2 No
 have S2:=SU.no m2
 have X2:=XU.mod m2 (fun h=> h)
 have O2:=OU.mod m2 (fun h=> h)
 have Z2:=ZU.mod m2 (fun h=> h)
 have mw2:Mod No w w2:=Mod.trans mU m2 (fun _ _ h=> h)
 clear x0 x1 x2 x3 x4 x5 x6 lX p0 p1 p2 p3 p4 p5 p6 p7 lO
 have x2:=X2.cL 2 _ (by have:=X2.lt;omega) rfl
 have x4:=X2.cL 4 _ (by have:=X2.lt;omega) rfl
 have p1:=O2.cL 1 _ (by have:=O2.lt;omega) rfl
 have lO:=O2.lt
 have cc:=(S2.1 .cu).2.cell hc
 have cf:=(S2.1 .cu).2.free c
 have cl:=(S2.1 .cu).2.lt
 have lX:=X2.lt
 go_upto_region 26 with fail
 refine wp_world (fun W=> StAt W ow1 B1 A1∧Row W nb 7 (fl [.int .i64 A.C, .int .u64 A.cr,slc B1.gb A.G B1.gcap,slc B1.cl A.C B1.ccap,slc B1.cu A.C B1.ucap, .slice o1 k1 c1,slc B1.so A.G B1.scap])∧Row W (w.heap.size+1+1) 7 (fl [.int .i64 0, .int .u64 0, .slice none 0 0, .slice none 0 0, .slice none 0 0, .slice none 0 0, .slice none 0 0])∧Mod No w W) ?_ ?_
 ·have hcu:=(S2.1 .cu).1
  have hm:Mod (fun b=> b=B1.cu) w2 (w2.setCell ⟨B1.cu,c,none⟩ (.int .i64 t.id)):=(Mod.refl (fun b=> b=B1.cu) w2).setCell (p:=⟨B1.cu,c,none⟩) (.inr rfl) _
  have n1:B1.cu≠nb:=fun e=> by rw [←e,hcu] at onx;simp at onx
  have n2:B1.cu≠w.heap.size+1+1:=fun e=> by have:=hno _ lZ;rw [←e,hcu] at this;simp at this
  refine ⟨by rw [HI.out.2.2.2.1];exact S2.setCur hc t.id,X2.mod hm (fun e=> n1 e.symm),Z2.mod hm (fun e=> n2 e.symm),Mod.trans mw2 hm (fun b hb e=> ?_)⟩
  have e' :b=B1.cu:=e
  have:=hge1 b (by rw [e',hcu];simp)
  have:=m1.size
  omega
 intro W ⟨S3,X3,Z3,m3⟩
 clear S2 X2 Z2 mw2 m2 x2 x4 lX cc cf cl p1 lO
 have x0:=X3.cL 0 _ (by have:=X3.lt;omega) rfl
 have x1:=X3.cL 1 _ (by have:=X3.lt;omega) rfl
 have x2:=X3.cL 2 _ (by have:=X3.lt;omega) rfl
 have x3:=X3.cL 3 _ (by have:=X3.lt;omega) rfl
 have x4:=X3.cL 4 _ (by have:=X3.lt;omega) rfl
 have x5:=X3.cL 5 _ (by have:=X3.lt;omega) rfl
 have x6:=X3.cL 6 _ (by have:=X3.lt;omega) rfl
 have lX:=X3.lt
 have eC1:=HC.out
 have eS:stv B1 A=stv B1 A1:=by rw [HI.out.2.2.2.1]
 have HS:=Lib.hid (And.intro eC1 eS)
 clear eC1 eS
 go_wp2_with fail
 refine (show Calls Tryz.prog 70 #[.agg #[.int .i64 A.C, .int .u64 A.cr,slc B1.gb A.G B1.gcap,slc B1.cl A.C B1.ccap,slc B1.cu A.C B1.ucap, .slice o1 k1 c1,slc B1.so A.G B1.scap]] W _ from by rw [←HV.out.1,HS.out.2];exact r_raised HI.out.2.2.2.2.1 W ow1 B1 S3 (by rw [HS.out.1];exact hC) (by rw [HS.out.1];exact hC2)).mono ?_;rintro e w3 ⟨rfl,S4,m4⟩
 rw [←HS.out.2,HV.out.1]
 have Z4:=Z3.mod m4 (by show ¬ow1 (w.heap.size+1+1)≠ .no;rw [hno _ lZ];simp)
 have mw4:Mod No w w3:=Mod.trans m3 m4 (fun b hb hh=> by have:=hge1 b hh;have:=m1.size;omega)
 have z0:=Z4.cL 0 _ (by have:=Z4.lt;omega) rfl
 have z1:=Z4.cL 1 _ (by have:=Z4.lt;omega) rfl
 have z2:=Z4.cL 2 _ (by have:=Z4.lt;omega) rfl
 have z3:=Z4.cL 3 _ (by have:=Z4.lt;omega) rfl
 have z4:=Z4.cL 4 _ (by have:=Z4.lt;omega) rfl
 have z5:=Z4.cL 5 _ (by have:=Z4.lt;omega) rfl
 have z6:=Z4.cL 6 _ (by have:=Z4.lt;omega) rfl
 have gf0:=Z4.free 0
 have gf1:=Z4.free 1
 have gf2:=Z4.free 2
 have gf3:=Z4.free 3
 have gf4:=Z4.free 4
 have gf5:=Z4.free 5
 have gf6:=Z4.free 6
 have lZ4:=Z4.lt
 clear x0 x1 x2 x3 x4 x5 x6 lX X3 S3 Z3
 go_wp2
 have hm:=h7_mod (w.heap.size+1+1) w3 (.int .i64 A.C) (.int .u64 A.cr) (slc B1.gb A.G B1.gcap) (slc B1.cl A.C B1.ccap) (slc B1.cu A.C B1.ucap) (.slice o1 k1 c1) (slc B1.so A.G B1.scap)
 refine bodyPost_ret (v:= .tuple #[.agg #[.int .i64 A.C, .int .u64 A.cr,slc B1.gb A.G B1.gcap,slc B1.cl A.C B1.ccap,slc B1.cu A.C B1.ucap, .slice o1 k1 c1,slc B1.so A.G B1.scap], .int .i64 t.id, .int .i64 0]) (by simp [results,Tryz.results21,go_sem, *]) rfl ⟨B1,ow1,by rw [←HS.out.2,HV.out.1],S4.mod hm (by rintro b rfl;exact hno _ lZ),Mod.trans mw4 hm (fun b hb e=> by have:b=w.heap.size+1+1:=e;omega),fun b hb=> by have:=hge1 b hb;have:=m1.size;omega⟩
end
end Go.Q
namespace Go.Q
open Go.RowKit Go.Proofs
theorem src_nothing {P:Program} (size:Nat) (tx e' :TypeId) (hk:P.underlying tx=some (.slice e')) (xa:Option Addr) (c:Nat) (w:World):Src P size tx (.slice xa 0 c) 0 [] w:=by
 refine ⟨.inl ⟨e',hk⟩,fun w' => ?_, ?_, ?_,by simp,by simp⟩
 ·simp [Builtin.lenOf]
 ·cases xa <;> simp [Builtin.firstCells,loadCells,loadCellsFrom]
 ·cases xa <;> simp [Builtin.firstCells,loadCells,loadCellsFrom]
theorem step_app_nothing {P:Program} {ops:Array Oper} {o:Oper} {a:Act} {w:World} {K:Act→World→Prop} {Q:Exit→Act→World→Prop} {E:Prop} (hgd:o.guard=none) (s x:Operand) (t:TypeId) (ho:o.op= .call { callee:= .builtin .append,args:= #[s,x],argTypes:= #[t,t] })
  (e:TypeId) (i:TypeInfo) (ht:P.underlying t=some (.slice e)) (hi:P.info? e=some i) (b:Option Addr) (sLen sCap:Nat) (hle:sLen≤sCap) (hs:a.eval s= .slice b sLen sCap) (xa:Option Addr) (c:Nat) (hx:a.eval x= .slice xa 0 c)
  (h:K (a.put o.dst (.slice b sLen sCap)) w):if Region.wanted o (yielded ops a.tmps)=true then Oper.wp P o a w K Q else E:=by
 have hw:Region.wanted o (yielded ops a.tmps)=true:=by simp [Region.wanted,hgd]
 rw [if_pos hw]
 exact Lib.wp_append_run w s x t t ho _ _ hs hx _ _ (run_append_nothing w t t o.type e i ht hi b sLen sCap hle _ (src_nothing i.size t e ht xa c w)) h
theorem own_zero (w:World) (base:Nat) (e ty:TypeId) (size:Nat) (h:base≤w.heap.size) (hty:e=ty):(w.alloc (.cells #[] ty)).ownsRow base e size (.slice (some ⟨w.heap.size,0,none⟩) 0 0) 0 []:=by
 subst hty
 refine ⟨by simp, .inr ⟨w.heap.size,0, #[],rfl,h, ?_,Nat.le_refl _,Nat.zero_le _,by simp,by simp⟩⟩
 exact Array.getElem?_push_size
end Go.Q
namespace Go.Q
open Go.RowKit Go.Proofs
section
variable {d:Nat}
set_option maxRecDepth 100000 in
set_option maxHeartbeats 4000000 in
theorem r_spawn (A:ASt) (w:World) (ow:Nat→SOwn) (B:STB) (hs:StAt w ow B A) (T:Tree A.G A.par A.wt) (ht:A.task=none) (hC:A.C=64) (id k tO n mask:Int) (g c:Nat) (hc:c < A.C) (hg:g < A.G) (hd:Dep A.par g d)
  (hz:∀ g c,A.spots g c=(0,0,0)) (hcr:0≤A.cr) (h0:1≤id) (h1:id < 65536) (hk0:1≤k) (hk1:k≤65536) (hm1:1≤mask) (hm2:mask < 18446744073709551616) (hm3:(mask / 2 ^ c) % 2=1):
  Calls Tryz.prog 62 #[stv B A,opv 1 c id g k tO n mask] w fun e w' => ∃ B' ow',e= .returned (.tuple #[stv B' A, .int .i64 0, .int .i64 0])∧
   StAt w' ow' B' { A with task:=some ⟨id,g,k,c,mask,true,0,0⟩ }∧Mod (fun b=> ow b≠ .no) w w' ∧∀ b,b < w.heap.size→ow' b=ow b:=by
 have hG:=T.g2
 have hG1:=T.g1
 obtain ⟨to0,tc0,hv0⟩:=hs.t0 ht
 have hm0:(mask==0)=false:=by simp;omega
 have HI:=Lib.hid (And.intro T (And.intro ht (And.intro hd (And.intro hz (And.intro hcr (And.intro hm3 (And.intro hs (And.intro hv0 hC))))))))
 have i0:(0:Int)≤c:=by omega
 have i1:(c:Int) < A.C:=by omega
 have i2:(0:Int)≤g:=by omega
 have i3:(g:Int) < A.G:=by omega
 have i4:id≤65535:=by omega
 rw [show stv B A= .agg #[.int .i64 A.C, .int .u64 A.cr,slc B.gb A.G B.gcap,slc B.cl A.C B.ccap,slc B.cu A.C B.ucap, .slice to0 0 tc0,slc B.so A.G B.scap] from by rw [←hv0]]
 clear T ht hd hz hcr hm3 hv0 hm2 hC
 obtain ⟨it,it0,it1,it2,it3⟩:=info_parts Tryz.infoTask
 go_enter Tryz.func62,Tryz.ntmps62
 go_upto_region 1 with fail
 refine wp_world (fun V=> StAt V ow B A∧Mod No w V∧Row V w.heap.size 7 (fl [.int .i64 A.C, .int .u64 A.cr,slc B.gb A.G B.gcap,slc B.cl A.C B.ccap,slc B.cu A.C B.ucap, .slice to0 0 tc0,slc B.so A.G B.scap])∧Row V (w.heap.size+1) 8 (fl [.int .u8 1, .int .i64 c, .int .i64 id, .int .i64 g, .int .i64 k, .int .i64 tO, .int .i64 n, .int .u64 mask])∧Row V (w.heap.size+1+1) 7 (fl [.int .i64 0, .int .u64 0, .slice none 0 0, .slice none 0 0, .slice none 0 0, .slice none 0 0, .slice none 0 0])) ?_ ?_
 ·have m:=(((Mod.refl No w).alloc (.cells #[.int .i64 A.C, .int .u64 A.cr,slc B.gb A.G B.gcap,slc B.cl A.C B.ccap,slc B.cu A.C B.ucap, .slice to0 0 tc0,slc B.so A.G B.scap] 48)).alloc (.cells #[.int .u8 1, .int .i64 c, .int .i64 id, .int .i64 g, .int .i64 k, .int .i64 tO, .int .i64 n, .int .u64 mask] 58)).alloc (.cells #[.int .i64 0, .int .u64 0, .slice none 0 0, .slice none 0 0, .slice none 0 0, .slice none 0 0, .slice none 0 0] 48)
  exact ⟨hs.no m,m,((row_newL w [_,_,_,_,_,_,_] _).alloc _).alloc _,(row_newL' _ _ [_,_,_,_,_,_,_,_] _ (by simp)).alloc _,row_newL' _ _ [_,_,_,_,_,_,_] _ (by simp)⟩
 intro V ⟨S1,m1,X1,O1,Z1⟩
 clear hs
 have x0:=X1.cL 0 _ (by omega) rfl
 have x1:=X1.cL 1 _ (by omega) rfl
 have x2:=X1.cL 2 _ (by omega) rfl
 have x3:=X1.cL 3 _ (by omega) rfl
 have x4:=X1.cL 4 _ (by omega) rfl
 have x5:=X1.cL 5 _ (by omega) rfl
 have x6:=X1.cL 6 _ (by omega) rfl
 have lX:=X1.lt
 have p1:=O1.cL 1 _ (by omega) rfl
 have p2:=O1.cL 2 _ (by omega) rfl
 have p3:=O1.cL 3 _ (by omega) rfl
 have p4:=O1.cL 4 _ (by omega) rfl
 have p7:=O1.cL 7 _ (by omega) rfl
 have lO:=O1.lt
 go_wp2_with fail
 refine (r_weight k hk0 hk1 V).mono ?_;rintro e w1 ⟨rfl,rfl⟩
 go_wp2_with fail
 refine (show Calls Tryz.prog 128 #[.int .u64 mask, .int .i64 A.C] V _ from by rw [HI.out.2.2.2.2.2.2.2.2];exact r_wide mask V).mono ?_;rintro e w1 ⟨rfl,rfl⟩
 go_wp2_with fail
 refine (r_find0 to0 tc0 id A.C A.cr (slc B.gb A.G B.gcap) (slc B.cl A.C B.ccap) (slc B.cu A.C B.ucap) (slc B.so A.G B.scap) V).mono ?_;rintro e w2 ⟨rfl,hb2⟩
 have m2:=Mod.of_below hb2 No
 have S2:=S1.no m2
 have X2:=X1.mod m2 (fun h=> h)
 have O2:=O1.mod m2 (fun h=> h)
 have Z2:=Z1.mod m2 (fun h=> h)
 have mw2:=Mod.trans m1 m2 (fun _ _ h=> h)
 have lV:=Z1.lt
 have k6:((mask / 2 ^ min c 64).tmod 2==0)=false:=by
  rw [Nat.min_eq_left (by have:=HI.out.2.2.2.2.2.2.2.2;omega),Int.tmod_eq_emod_of_nonneg (Int.ediv_nonneg (by omega) (Int.le_of_lt (Int.pow_pos (by decide)))),HI.out.2.2.2.2.2.1]
  rfl
 clear x0 x1 x2 x3 x4 x5 x6 lX p1 p2 p3 p4 p7 lO S1 X1 O1 Z1
 have x0:=X2.cL 0 _ (by have:=X2.lt;omega) rfl
 have x1:=X2.cL 1 _ (by have:=X2.lt;omega) rfl
 have x2:=X2.cL 2 _ (by have:=X2.lt;omega) rfl
 have x3:=X2.cL 3 _ (by have:=X2.lt;omega) rfl
 have x4:=X2.cL 4 _ (by have:=X2.lt;omega) rfl
 have x5:=X2.cL 5 _ (by have:=X2.lt;omega) rfl
 have x6:=X2.cL 6 _ (by have:=X2.lt;omega) rfl
 have lX:=X2.lt
 have p1:=O2.cL 1 _ (by have:=O2.lt;omega) rfl
 have p2:=O2.cL 2 _ (by have:=O2.lt;omega) rfl
 have p3:=O2.cL 3 _ (by have:=O2.lt;omega) rfl
 have p4:=O2.cL 4 _ (by have:=O2.lt;omega) rfl
 have p7:=O2.cL 7 _ (by have:=O2.lt;omega) rfl
 have lO:=O2.lt
 go_wp2_with fail
 refine (show Calls Tryz.prog 55 #[.agg #[.int .i64 A.C, .int .u64 A.cr,slc B.gb A.G B.gcap,slc B.cl A.C B.ccap,slc B.cu A.C B.ucap, .slice to0 0 tc0,slc B.so A.G B.scap]] w2 _ from by rw [←HI.out.2.2.2.2.2.2.2.1];exact ref_copied_st w2 ow A B S2 (by omega) (by have:=HI.out.2.2.2.2.2.2.2.2;omega) (by omega) hG).mono ?_;rintro e w3 ⟨B2,ow2,rfl,S3,m3,hge3⟩
 obtain ⟨to2,tc2,hv2⟩:=S3.t0 HI.out.2.1
 have e2:stv B2 A= .agg #[.int .i64 A.C, .int .u64 A.cr,slc B2.gb A.G B2.gcap,slc B2.cl A.C B2.ccap,slc B2.cu A.C B2.ucap, .slice to2 0 tc2,slc B2.so A.G B2.scap]:=by rw [←hv2]
 rw [e2]
 have HV:=Lib.hid (And.intro e2 hv2)
 clear e2 hv2 x0 x1 x2 x3 x4 x5 x6 lX p1 p2 p3 p4 p7 lO k6
 go_upto_region 14 with fail
 refine wp_world (fun U=> U.heap.size=w3.heap.size+1∧StAt U ow2 B2 A∧StAt U ow B A∧Mod No w U∧Row U w3.heap.size 7 (fl [.int .i64 A.C, .int .u64 A.cr,slc B2.gb A.G B2.gcap,slc B2.cl A.C B2.ccap,slc B2.cu A.C B2.ucap, .slice to2 0 tc2,slc B2.so A.G B2.scap])∧Row U w.heap.size 7 (fl [.int .i64 A.C, .int .u64 A.cr,slc B.gb A.G B.gcap,slc B.cl A.C B.ccap,slc B.cu A.C B.ucap, .slice to0 0 tc0,slc B.so A.G B.scap])∧Row U (w.heap.size+1) 8 (fl [.int .u8 1, .int .i64 c, .int .i64 id, .int .i64 g, .int .i64 k, .int .i64 tO, .int .i64 n, .int .u64 mask])∧Row U (w.heap.size+1+1) 7 (fl [.int .i64 0, .int .u64 0, .slice none 0 0, .slice none 0 0, .slice none 0 0, .slice none 0 0, .slice none 0 0])) ?_ ?_
 ·exact ⟨by simp,S3.no ((Mod.refl No w3).alloc _),(S2.no m3).no ((Mod.refl No w3).alloc _),(Mod.trans mw2 m3 (fun _ _ h=> h)).alloc _,row_newL w3 [_,_,_,_,_,_,_] _,(X2.mod m3 (fun h=> h)).alloc _,(O2.mod m3 (fun h=> h)).alloc _,(Z2.mod m3 (fun h=> h)).alloc _⟩
 intro U ⟨zU,SU2,SU,mU,XU2,XU,OU,ZU⟩
 have zV1:=m3.size
 have lZ:=Z2.lt
 have hno:∀ b,b < w2.heap.size→ow2 b= .no:=fun b hb=> Classical.byContradiction fun hh=> by have:=hge3 b hh;omega
 have onx:ow2 w3.heap.size= .no:=Classical.byContradiction fun hh=> by have:=S3.2 _ hh;omega
 have oxx:ow w3.heap.size= .no:=Classical.byContradiction fun hh=> by have:=S2.2 _ hh;omega
 obtain ⟨nb,hnb⟩:∃ nb,nb=w3.heap.size:=⟨_,rfl⟩
 rw [←hnb] at XU2 zU onx oxx zV1 ⊢
 clear hnb S3 S2 X2 O2 Z2
 have HN:=Lib.hid hno
 clear hno
 have mS:∀ w',Mod No U w' →w'.cell? ⟨w.heap.size+1,1,none⟩=some (.int .i64 c)∧w'.cell? ⟨w.heap.size+1,2,none⟩=some (.int .i64 id)∧w'.cell? ⟨w.heap.size+1,3,none⟩=some (.int .i64 g)∧w'.cell? ⟨w.heap.size+1,4,none⟩=some (.int .i64 k)∧w'.cell? ⟨w.heap.size+1,7,none⟩=some (.int .u64 mask)∧w'.cell? ⟨w.heap.size,6,none⟩=some (slc B.so A.G B.scap)∧w'.cell? ⟨B.so,g,none⟩=some (slc (B.si g) A.C (B.sc g))∧w'.cell? ⟨B.si g,c * 3+2,none⟩=some (.int .u64 0):=fun w' hm=> by
  have O:=OU.mod hm (fun h=> h)
  have X:=XU.mod hm (fun h=> h)
  have S:=SU.no hm
  refine ⟨O.cell (i:=1) (by omega),O.cell (i:=2) (by omega),O.cell (i:=3) (by omega),O.cell (i:=4) (by omega),O.cell (i:=7) (by omega),X.cell (i:=6) (by omega),(S.1 .so).2.cell hg, ?_⟩
  rw [(S.1 (.si g) hg).2.cell (i:=c * 3+2) (by omega),spt2,HI.out.2.2.2.1]
 have y:=mS _ (Mod.refl _ _).drew
 have lso:=(SU.1 .so).2.lt
 have lsi:=((SU.1 (.si g)) hg).2.lt
 have lU0:=XU.lt
 have lU1:=OU.lt
 refine wp_region_chain (fun w' => w'.cell? ⟨w.heap.size+1,1,none⟩=some (.int .i64 c)∧w'.cell? ⟨w.heap.size+1,2,none⟩=some (.int .i64 id)∧w'.cell? ⟨w.heap.size+1,3,none⟩=some (.int .i64 g)∧w'.cell? ⟨w.heap.size+1,4,none⟩=some (.int .i64 k)∧w'.cell? ⟨w.heap.size+1,7,none⟩=some (.int .u64 mask)∧w'.cell? ⟨w.heap.size,6,none⟩=some (slc B.so A.G B.scap)∧w'.cell? ⟨B.so,g,none⟩=some (slc (B.si g) A.C (B.sc g))∧w'.cell? ⟨B.si g,c * 3+2,none⟩=some (.int .u64 0)) [22,23] [] [23] (rds [0,1,2,3,4,5,6,7,8,9,10,11,12,13,14,15,16,17,18,19,20,21] (.ef 22 (.ef 23 .nil))) (by kernel_rfl) (by kernel_rfl) (mS _ (Mod.refl _ _).drew) ?_
 clear y
 intro OO hO
 have HO:=Lib.hid hO
 clear hO
 simp only [rds]
 (repeat (first|(refine lxp HO (v:=?_) (fun w'=> ?_) ?_;rotate_left;(focus (go_simp;(try exact rfl);done));try go_simp)|(refine lxr HO (v:=?_) (fun w' hC'=> ?_) ?_;rotate_left;(focus (obtain ⟨c1',c2',c3',c4',c5',c6',c7',c8'⟩:=hC';go_simp;(try exact rfl);done));try go_simp)|(refine lxo HO ?_;try go_simp)))
 (refine lxe HO (fun K hK=> ?_);go_simp;refine hK _ _ ?_ ?_;all_goals clear hK K)
 ·exact .inr (mS _ ((Mod.refl _ _).drew.alloc _))
 (refine lxe HO (fun K hK=> ?_);go_simp;refine hK _ _ (.inl (by rfl)) ?_;clear hK K)
 refine wpL_nil ?_
 go_upto_region 15 with fail
 refine wp_world (fun W=> W.heap.size=U.heap.size+1∧StAt W ow2 B2 A∧StAt W ow B A∧Mod No w W∧Row W nb 7 (fl [.int .i64 A.C, .int .u64 A.cr,slc B2.gb A.G B2.gcap,slc B2.cl A.C B2.ccap,slc B2.cu A.C B2.ucap, .slice to2 0 tc2,slc B2.so A.G B2.scap])∧Row W w.heap.size 7 (fl [.int .i64 A.C, .int .u64 A.cr,slc B.gb A.G B.gcap,slc B.cl A.C B.ccap,slc B.cu A.C B.ucap, .slice to0 0 tc0,slc B.so A.G B.scap])∧Row W (w.heap.size+1+1) 7 (fl [.int .i64 0, .int .u64 0, .slice none 0 0, .slice none 0 0, .slice none 0 0, .slice none 0 0, .slice none 0 0])∧Row W U.heap.size 8 (fl (tkc ⟨id,g,k,c,mask,true,0,0⟩))) ?_ ?_
 ·have m:=((Mod.refl No U).alloc (.cells #[.int .i64 id, .int .i64 g, .int .i64 k, .int .i64 c, .int .u64 mask, .bool true, .int .u64 0, .int .u32 0] 119)).drew
  exact ⟨by simp,SU2.no m,SU.no m,Mod.trans mU m (fun _ _ h=> h),XU2.mod m (fun h=> h),XU.mod m (fun h=> h),ZU.mod m (fun h=> h),(row_newL U [_,_,_,_,_,_,_,_] _).drew⟩
 intro W ⟨zW,SW2,SW,mW,XW2,XW,ZW,TW⟩
 clear SU SU2 mU XU XU2 OU ZU lU0 lU1 lso lsi mS
 rw [zU] at TW zW
 have zW1:nb+1+1≤W.heap.size:=by omega
 clear zU zW
 have x5:=XW.cL 5 _ (by have:=XW.lt;omega) rfl
 have lX:=XW.lt
 go_wp2
 go_loopw [9] (fun s9 wr=> s9= .int .i64 0∧wr=W) (fun _ _=> 0)
 case atStart=> exact ⟨rfl,rfl⟩
 case round=>
  obtain ⟨rfl,rfl⟩:=hrel
  go_upto_region 16 with fail
  refine wp_region_chain (fun w' => w'.cell? ⟨w.heap.size,5,none⟩=some (.slice to0 0 tc0)) [] [] [] (rds [0,1,2,3,4,5,6,7,8,9,10,11,12,13,14,15] .nil) (by kernel_rfl) (by kernel_rfl) x5 ?_
  intro OO hO
  have HO:=Lib.hid hO
  clear hO
  simp only [rds]
  (repeat (first|(refine lxp HO (v:=?_) (fun w'=> ?_) ?_;rotate_left;(focus (go_simp;(try exact rfl);done));try go_simp)|(refine lxr HO (v:=?_) (fun w' hC'=> ?_) ?_;rotate_left;(focus (obtain c1':=hC';go_simp;(try exact rfl);done));try go_simp)|(refine lxo HO ?_;try go_simp)))
  refine wpL_nil ?_
  go_upto_region 18 with fail
  have mS:∀ w',Mod No wr w' →w'.cell? ⟨w.heap.size,5,none⟩=some (.slice to0 0 tc0)∧w'.cell? ⟨nb+1,0,none⟩=some (.int .i64 id)∧w'.cell? ⟨nb+1,1,none⟩=some (.int .i64 g)∧w'.cell? ⟨nb+1,2,none⟩=some (.int .i64 k)∧w'.cell? ⟨nb+1,3,none⟩=some (.int .i64 c)∧w'.cell? ⟨nb+1,4,none⟩=some (.int .u64 mask)∧w'.cell? ⟨nb+1,5,none⟩=some (.bool true)∧w'.cell? ⟨nb+1,6,none⟩=some (.int .u64 0)∧w'.cell? ⟨nb+1,7,none⟩=some (.int .u32 0):=fun w' hm=> by
   have X:=XW.mod hm (fun h=> h)
   have K:=TW.mod hm (fun h=> h)
   exact ⟨X.cell (i:=5) (by omega),K.cell (i:=0) (by omega),K.cell (i:=1) (by omega),K.cell (i:=2) (by omega),K.cell (i:=3) (by omega),K.cell (i:=4) (by omega),K.cell (i:=5) (by omega),K.cell (i:=6) (by omega),K.cell (i:=7) (by omega)⟩
  have lK:=TW.lt
  go_cut [] (fun wx=> ∃ gb cb,wr.heap.size≤gb∧Row wx gb 8 (fl (tkc ⟨id,g,k,c,mask,true,0,0⟩))∧Row wx w.heap.size 7 (fl [.int .i64 A.C, .int .u64 A.cr,slc B.gb A.G B.gcap,slc B.cl A.C B.ccap,slc B.cu A.C B.ucap,slc gb 1 cb,slc B.so A.G B.scap])∧Mod (fun b=> b=w.heap.size) wr wx)
  case first=>
   refine wp_region_chain (fun w' => w'.cell? ⟨w.heap.size,5,none⟩=some (.slice to0 0 tc0)∧w'.cell? ⟨nb+1,0,none⟩=some (.int .i64 id)∧w'.cell? ⟨nb+1,1,none⟩=some (.int .i64 g)∧w'.cell? ⟨nb+1,2,none⟩=some (.int .i64 k)∧w'.cell? ⟨nb+1,3,none⟩=some (.int .i64 c)∧w'.cell? ⟨nb+1,4,none⟩=some (.int .u64 mask)∧w'.cell? ⟨nb+1,5,none⟩=some (.bool true)∧w'.cell? ⟨nb+1,6,none⟩=some (.int .u64 0)∧w'.cell? ⟨nb+1,7,none⟩=some (.int .u32 0)) [0,5,7,8,13,15] [14] [15] (rds [1,2,3,4,6,9,10,11,12] (.ef2 0 (.ef2 5 (.ef 7 (.ef 8 (.ef 13 (rds [14] (.ef 15 .nil))))) 7 (.ef 5 (.ef 8 (.ef 13 (rds [14] (.ef 15 .nil)))))) 7 (.ef 0 (.ef 5 (.ef 8 (.ef 13 (rds [14] (.ef 15 .nil)))))))) (by kernel_rfl) (by kernel_rfl) (mS _ (Mod.refl _ _).drew.drew) ?_
   intro OO hO
   have HO:=Lib.hid hO
   clear hO
   simp only [rds]
   (repeat (first|(refine lxp HO (v:=?_) (fun w'=> ?_) ?_;rotate_left;(focus (go_simp;(try exact rfl);done));try go_simp)|(refine lxr HO (v:=?_) (fun w' hC'=> ?_) ?_;rotate_left;(focus (obtain ⟨c1',c2',c3',c4',c5',c6',c7',c8',c9'⟩:=hC';go_simp;(try exact rfl);done));try go_simp)|(refine lxo HO ?_;try go_simp)))
   refine wpL_eff2 ?o1 ?o2
   case o1=>
    (refine lxe HO (fun K hK=> ?_);go_simp;refine hK _ _ ?_ ?_;all_goals clear hK K)
    ·exact .inr (mS _ ((Mod.refl No wr).drew.drew.alloc _))
    refine wpL_eff2 ?o3 ?o4
    case o3=>
     refine lxe HO (fun Kx hKx=> ?_)
     refine step_app_nothing rfl _ _ 45 rfl 119 it rfl it0 _ _ _ (Nat.le_refl _) rfl _ _ rfl ?_
     refine hKx _ _ (.inr (mS _ ((Mod.refl No wr).drew.drew.alloc (.cells #[] 119)))) ?_
     clear hKx Kx
     (refine lxe HO (fun K hK=> ?_);go_simp;refine hK _ _ ?_ ?_;all_goals clear hK K)
     ·exact .inr (mS _ (((Mod.refl No wr).drew.drew.alloc (.cells #[] 119)).alloc (.cells #[.int .i64 id, .int .i64 g, .int .i64 k, .int .i64 c, .int .u64 mask, .bool true, .int .u64 0, .int .u32 0] 119)))
     refine lxe HO (fun Kx hKx=> ?_)
     have hOw:((((wr.alloc (.cells #[] 119)).drew.drew).alloc (.cells #[.int .i64 id, .int .i64 g, .int .i64 k, .int .i64 c, .int .u64 mask, .bool true, .int .u64 0, .int .u32 0] 119))).ownsRow wr.heap.size 119 8 (.slice (some ⟨wr.heap.size,0,none⟩) 0 0) 0 []:=by (repeat first|(with_reducible exact (own_zero wr wr.heap.size 119 119 8 (Nat.le_refl _) rfl))|(with_reducible refine World.ownsRow.drew ?_)|(with_reducible refine World.ownsRow.alloc ?_ _))
     refine step_app_c 119 _ 8 64 Tryz.infoTask rfl _ _ 45 rfl Tryz.underlying45 rfl (by decide) (by decide) (tkc ⟨id,g,k,c,mask,true,0,0⟩) rfl (by simp [tkc,Value.oneCell']) wr.heap.size (.slice (some ⟨wr.heap.size,0,none⟩) 0 0) 0 [] _ _ rfl rfl (by (simp;omega)) (by omega) hOw (row_newL' (wr.alloc (.cells #[] 119)).drew.drew _ [_,_,_,_,_,_,_,_] _ (by simp)) ?_;intro gs ct wA hA
     have mA:Mod No wr wA:=Mod.trans (((Mod.refl No wr).drew.drew.alloc (.cells #[] 119)).alloc (.cells #[.int .i64 id, .int .i64 g, .int .i64 k, .int .i64 c, .int .u64 mask, .bool true, .int .u64 0, .int .u32 0] 119)) hA.mod (fun b hb e=> by have h9:wr.heap.size=b:=Option.some.inj e;omega)
     have XA:=XW.mod mA (fun h=> h)
     have fA:=XA.free 5
     have lA:=XA.lt
     have bA:wr.heap.size≤gs:=hA.base
     have eA:=mS _ mA
     refine hKx _ _ (.inr eA) ?_
     clear hKx Kx
     refine lxe HO (fun Kx hKx=> ?_)
     refine step_app_nothing rfl _ _ 45 rfl 119 it rfl it0 _ _ _ (own_cap hA.own) rfl _ _ rfl ?_
     refine hKx _ _ (.inr eA) ?_
     clear hKx Kx
     (repeat (first|(refine lxp HO (v:=?_) (fun w'=> ?_) ?_;rotate_left;(focus (go_simp;(try exact rfl);done));try go_simp)|(refine lxr HO (v:=?_) (fun w' hC'=> ?_) ?_;rotate_left;(focus (obtain ⟨c1',c2',c3',c4',c5',c6',c7',c8',c9'⟩:=hC';go_simp;(try exact rfl);done));try go_simp)|(refine lxo HO ?_;try go_simp)))
     (refine lxe HO (fun K hK=> ?_);go_simp;refine hK _ _ (.inl (by rfl)) ?_;clear hK K)
     refine wpL_nil ?_
     go_wp2_with fail
     go_meet
     have mm:Mod (fun b=> b=w.heap.size) wA (wA.setCell ⟨w.heap.size,5,none⟩ (slc gs 1 ct)):=(Mod.refl (fun b=> b=w.heap.size) wA).setCell (p:=⟨w.heap.size,5,none⟩) (.inr rfl) _
     have ngs:gs≠w.heap.size:=by omega
     refine ⟨gs,ct,bA,Row.mod (own_row hA.own) mm ngs,(XA.set (i:=5) (by omega) _).congr (fun i hi=> by rcases (by omega:i=0∨i=1∨i=2∨i=3∨i=4∨i=5∨i=6) with rfl|rfl|rfl|rfl|rfl|rfl|rfl <;> rfl),Mod.trans (mA.no _) mm (fun _ _ h=> h)⟩
    case o4=>
     (refine lxe HO (fun K hK=> ?_);go_simp;refine hK _ _ ?_ ?_;all_goals clear hK K)
     ·exact .inr (mS _ (((Mod.refl No wr).drew.drew.alloc (.cells #[] 119)).alloc (.cells #[.int .i64 id, .int .i64 g, .int .i64 k, .int .i64 c, .int .u64 mask, .bool true, .int .u64 0, .int .u32 0] 119)))
     refine lxe HO (fun Kx hKx=> ?_)
     refine step_app_nothing rfl _ _ 45 rfl 119 it rfl it0 _ _ _ (Nat.le_refl _) rfl _ _ rfl ?_
     refine hKx _ _ (.inr (mS _ (((Mod.refl No wr).drew.drew.alloc (.cells #[] 119)).alloc (.cells #[.int .i64 id, .int .i64 g, .int .i64 k, .int .i64 c, .int .u64 mask, .bool true, .int .u64 0, .int .u32 0] 119)))) ?_
     clear hKx Kx
     refine lxe HO (fun Kx hKx=> ?_)
     have hOw:((((wr.alloc (.cells #[] 119)).drew.drew).alloc (.cells #[.int .i64 id, .int .i64 g, .int .i64 k, .int .i64 c, .int .u64 mask, .bool true, .int .u64 0, .int .u32 0] 119))).ownsRow wr.heap.size 119 8 (.slice (some ⟨wr.heap.size,0,none⟩) 0 0) 0 []:=by (repeat first|(with_reducible exact (own_zero wr wr.heap.size 119 119 8 (Nat.le_refl _) rfl))|(with_reducible refine World.ownsRow.drew ?_)|(with_reducible refine World.ownsRow.alloc ?_ _))
     refine step_app_c 119 _ 8 64 Tryz.infoTask rfl _ _ 45 rfl Tryz.underlying45 rfl (by decide) (by decide) (tkc ⟨id,g,k,c,mask,true,0,0⟩) rfl (by simp [tkc,Value.oneCell']) wr.heap.size (.slice (some ⟨wr.heap.size,0,none⟩) 0 0) 0 [] _ _ rfl rfl (by (simp;omega)) (by omega) hOw (row_newL' (wr.alloc (.cells #[] 119)).drew.drew _ [_,_,_,_,_,_,_,_] _ (by simp)) ?_;intro gs ct wA hA
     have mA:Mod No wr wA:=Mod.trans (((Mod.refl No wr).drew.drew.alloc (.cells #[] 119)).alloc (.cells #[.int .i64 id, .int .i64 g, .int .i64 k, .int .i64 c, .int .u64 mask, .bool true, .int .u64 0, .int .u32 0] 119)) hA.mod (fun b hb e=> by have h9:wr.heap.size=b:=Option.some.inj e;omega)
     have XA:=XW.mod mA (fun h=> h)
     have fA:=XA.free 5
     have lA:=XA.lt
     have bA:wr.heap.size≤gs:=hA.base
     have eA:=mS _ mA
     refine hKx _ _ (.inr eA) ?_
     clear hKx Kx
     refine lxe HO (fun Kx hKx=> ?_)
     refine step_app_nothing rfl _ _ 45 rfl 119 it rfl it0 _ _ _ (own_cap hA.own) rfl _ _ rfl ?_
     refine hKx _ _ (.inr eA) ?_
     clear hKx Kx
     (repeat (first|(refine lxp HO (v:=?_) (fun w'=> ?_) ?_;rotate_left;(focus (go_simp;(try exact rfl);done));try go_simp)|(refine lxr HO (v:=?_) (fun w' hC'=> ?_) ?_;rotate_left;(focus (obtain ⟨c1',c2',c3',c4',c5',c6',c7',c8',c9'⟩:=hC';go_simp;(try exact rfl);done));try go_simp)|(refine lxo HO ?_;try go_simp)))
     (refine lxe HO (fun K hK=> ?_);go_simp;refine hK _ _ (.inl (by rfl)) ?_;clear hK K)
     refine wpL_nil ?_
     go_wp2_with fail
     go_meet
     have mm:Mod (fun b=> b=w.heap.size) wA (wA.setCell ⟨w.heap.size,5,none⟩ (slc gs 1 ct)):=(Mod.refl (fun b=> b=w.heap.size) wA).setCell (p:=⟨w.heap.size,5,none⟩) (.inr rfl) _
     have ngs:gs≠w.heap.size:=by omega
     refine ⟨gs,ct,bA,Row.mod (own_row hA.own) mm ngs,(XA.set (i:=5) (by omega) _).congr (fun i hi=> by rcases (by omega:i=0∨i=1∨i=2∨i=3∨i=4∨i=5∨i=6) with rfl|rfl|rfl|rfl|rfl|rfl|rfl <;> rfl),Mod.trans (mA.no _) mm (fun _ _ h=> h)⟩
   case o2=>
     (refine lxe HO (fun K hK=> ?_);go_simp;refine hK _ _ ?_ ?_;all_goals clear hK K)
     ·exact .inr (mS _ ((Mod.refl No wr).drew.drew.alloc (.cells #[.int .i64 id, .int .i64 g, .int .i64 k, .int .i64 c, .int .u64 mask, .bool true, .int .u64 0, .int .u32 0] 119)))
     (refine lxe HO (fun K hK=> ?_);go_simp;refine hK _ _ ?_ ?_;all_goals clear hK K)
     ·exact .inr (mS _ (((Mod.refl No wr).drew.drew.alloc (.cells #[.int .i64 id, .int .i64 g, .int .i64 k, .int .i64 c, .int .u64 mask, .bool true, .int .u64 0, .int .u32 0] 119)).alloc (.cells #[] 119)))
     refine lxe HO (fun Kx hKx=> ?_)
     refine step_app_nothing rfl _ _ 45 rfl 119 it rfl it0 _ _ _ (Nat.le_refl _) rfl _ _ rfl ?_
     refine hKx _ _ (.inr (mS _ (((Mod.refl No wr).drew.drew.alloc (.cells #[.int .i64 id, .int .i64 g, .int .i64 k, .int .i64 c, .int .u64 mask, .bool true, .int .u64 0, .int .u32 0] 119)).alloc (.cells #[] 119)))) ?_
     clear hKx Kx
     refine lxe HO (fun Kx hKx=> ?_)
     have hOw:(((wr.alloc (.cells #[.int .i64 id, .int .i64 g, .int .i64 k, .int .i64 c, .int .u64 mask, .bool true, .int .u64 0, .int .u32 0] 119)).alloc (.cells #[] 119)).drew.drew).ownsRow wr.heap.size 119 8 (.slice (some ⟨wr.heap.size+1,0,none⟩) 0 0) 0 []:=by
      have h9:=own_zero (wr.alloc (.cells #[.int .i64 id, .int .i64 g, .int .i64 k, .int .i64 c, .int .u64 mask, .bool true, .int .u64 0, .int .u32 0] 119)) wr.heap.size 119 119 8 (by simp) rfl
      simp only [World.size_alloc] at h9
      (repeat first|(with_reducible exact h9)|(with_reducible refine World.ownsRow.drew ?_)|(with_reducible refine World.ownsRow.alloc ?_ _))
     refine step_app_c 119 _ 8 64 Tryz.infoTask rfl _ _ 45 rfl Tryz.underlying45 rfl (by decide) (by decide) (tkc ⟨id,g,k,c,mask,true,0,0⟩) rfl (by simp [tkc,Value.oneCell']) wr.heap.size (.slice (some ⟨wr.heap.size+1,0,none⟩) 0 0) 0 [] _ _ rfl rfl (by (simp;omega)) (by omega) hOw (((row_newL wr [_,_,_,_,_,_,_,_] 119).alloc (.cells #[] 119)).drew.drew) ?_;intro gs ct wA hA
     have mA:Mod No wr wA:=Mod.trans (((Mod.refl No wr).drew.drew.alloc (.cells #[.int .i64 id, .int .i64 g, .int .i64 k, .int .i64 c, .int .u64 mask, .bool true, .int .u64 0, .int .u32 0] 119)).alloc (.cells #[] 119)) hA.mod (fun b hb e=> by have h9:wr.heap.size+1=b:=Option.some.inj e;omega)
     have XA:=XW.mod mA (fun h=> h)
     have fA:=XA.free 5
     have lA:=XA.lt
     have bA:wr.heap.size≤gs:=hA.base
     have eA:=mS _ mA
     refine hKx _ _ (.inr eA) ?_
     clear hKx Kx
     refine lxe HO (fun Kx hKx=> ?_)
     refine step_app_nothing rfl _ _ 45 rfl 119 it rfl it0 _ _ _ (own_cap hA.own) rfl _ _ rfl ?_
     refine hKx _ _ (.inr eA) ?_
     clear hKx Kx
     (repeat (first|(refine lxp HO (v:=?_) (fun w'=> ?_) ?_;rotate_left;(focus (go_simp;(try exact rfl);done));try go_simp)|(refine lxr HO (v:=?_) (fun w' hC'=> ?_) ?_;rotate_left;(focus (obtain ⟨c1',c2',c3',c4',c5',c6',c7',c8',c9'⟩:=hC';go_simp;(try exact rfl);done));try go_simp)|(refine lxo HO ?_;try go_simp)))
     (refine lxe HO (fun K hK=> ?_);go_simp;refine hK _ _ (.inl (by rfl)) ?_;clear hK K)
     refine wpL_nil ?_
     go_wp2_with fail
     go_meet
     have mm:Mod (fun b=> b=w.heap.size) wA (wA.setCell ⟨w.heap.size,5,none⟩ (slc gs 1 ct)):=(Mod.refl (fun b=> b=w.heap.size) wA).setCell (p:=⟨w.heap.size,5,none⟩) (.inr rfl) _
     have ngs:gs≠w.heap.size:=by omega
     refine ⟨gs,ct,bA,Row.mod (own_row hA.own) mm ngs,(XA.set (i:=5) (by omega) _).congr (fun i hi=> by rcases (by omega:i=0∨i=1∨i=2∨i=3∨i=4∨i=5∨i=6) with rfl|rfl|rfl|rfl|rfl|rfl|rfl <;> rfl),Mod.trans (mA.no _) mm (fun _ _ h=> h)⟩
  case rest=>
   obtain ⟨gb,cb,hgb,TG,XG,mG⟩:=hcut
   have hs0:=HI.out.2.2.2.2.2.2.1
   have oxw:ow w.heap.size= .no:=Classical.byContradiction fun hh=> by have:=hs0.2 _ hh;omega
   have oxw2:ow (w.heap.size+1+1)= .no:=Classical.byContradiction fun hh=> by have:=hs0.2 _ hh;omega
   have ogb:ow gb= .no:=Classical.byContradiction fun hh=> by have:=SW.2 _ hh;omega
   have ogb2:ow2 gb= .no:=Classical.byContradiction fun hh=> by have:=SW2.2 _ hh;omega
   have hzS:=mG.size
   obtain ⟨A2,hA2⟩:∃ A2:ASt,A2= { A with task:=some ⟨id,g,k,c,mask,true,0,0⟩ }:=⟨_,rfl⟩
   obtain ⟨B3,hB3⟩:∃ B3:STB,B3= { B with tv:=slc gb 1 cb }:=⟨_,rfl⟩
   obtain ⟨ow3,how3⟩:∃ ow3:Nat→SOwn,ow3=fun b=> if b=gb then .tk else ow b:=⟨_,rfl⟩
   have S3:StAt wc ow3 B3 A2:=by
    refine ⟨fun t=> ?_,fun b hb=> ?_⟩
    ·have h0:=(SW.1 t).mod (ow' :=ow3) mG (fun b e hn hb=> hn (by rw [←e,hb];exact oxw)) (fun b hb=> by rw [how3];exact if_neg (by omega))
     rw [hA2,hB3]
     cases t with
     |tk=> exact ⟨gb,cb,rfl,by rw [how3];exact if_pos rfl,TG⟩
     |no=> trivial
     |gb=> exact h0
     |cl=> exact h0
     |cu=> exact h0
     |so=> exact h0
     |si g=> exact h0
    ·by_cases e:b=gb
     ·subst e;exact TG.lt
     ·rw [how3] at hb;simp only [if_neg e] at hb;exact Nat.lt_of_lt_of_le (SW.2 b hb) mG.size
   have S32:StAt wc ow2 B2 A:=SW2.mod mG (by rintro b rfl;exact HN.out _ (by omega))
   have T3:Row wc (nb+1) 8 (fl (tkc ⟨id,g,k,c,mask,true,0,0⟩)):=TW.mod mG (by show ¬nb+1=w.heap.size;omega)
   have X32:=XW2.mod mG (by show ¬nb=w.heap.size;omega)
   have Z3:=ZW.mod mG (by show ¬w.heap.size+1+1=w.heap.size;omega)
   have hdis:∀ b,ow3 b≠ .no→ow2 b= .no:=fun b hb=> by
    by_cases e:b=gb
    ·rw [e];exact ogb2
    ·rw [how3] at hb
     simp only [if_neg e] at hb
     exact HN.out b (by have:=hs0.2 b hb;omega)
   have HJ:=Lib.hid (And.intro S3 (And.intro hdis (And.intro hA2 (And.intro hB3 (And.intro how3 S32)))))
   have HG:=Lib.hid hs0
   clear S3 hdis hA2 hB3 how3 S32 SW SW2 XW XW2 TW ZW hs0 x5 oxw TG
   have x0:=XG.cL 0 _ (by have:=XG.lt;omega) rfl
   have x1:=XG.cL 1 _ (by have:=XG.lt;omega) rfl
   have x2:=XG.cL 2 _ (by have:=XG.lt;omega) rfl
   have x3:=XG.cL 3 _ (by have:=XG.lt;omega) rfl
   have x4:=XG.cL 4 _ (by have:=XG.lt;omega) rfl
   have x5:=XG.cL 5 _ (by have:=XG.lt;omega) rfl
   have x6:=XG.cL 6 _ (by have:=XG.lt;omega) rfl
   have y0:=X32.cL 0 _ (by have:=X32.lt;omega) rfl
   have y1:=X32.cL 1 _ (by have:=X32.lt;omega) rfl
   have y2:=X32.cL 2 _ (by have:=X32.lt;omega) rfl
   have y3:=X32.cL 3 _ (by have:=X32.lt;omega) rfl
   have y4:=X32.cL 4 _ (by have:=X32.lt;omega) rfl
   have y5:=X32.cL 5 _ (by have:=X32.lt;omega) rfl
   have y6:=X32.cL 6 _ (by have:=X32.lt;omega) rfl
   have k1:wc.cell? ⟨nb+1,1,none⟩=some (.int .i64 g):=T3.cL 1 _ (by have:=T3.lt;omega) rfl
   have k3:wc.cell? ⟨nb+1,3,none⟩=some (.int .i64 c):=T3.cL 3 _ (by have:=T3.lt;omega) rfl
   have lXG:=XG.lt
   have lX32:=X32.lt
   have lT3:=T3.lt
   go_wp2_with fail
   refine (show Calls Tryz.prog 130 #[.agg #[.int .i64 A.C, .int .u64 A.cr,slc B.gb A.G B.gcap,slc B.cl A.C B.ccap,slc B.cu A.C B.ucap,slc gb 1 cb,slc B.so A.G B.scap], .agg #[.int .i64 A.C, .int .u64 A.cr,slc B2.gb A.G B2.gcap,slc B2.cl A.C B2.ccap,slc B2.cu A.C B2.ucap, .slice to2 0 tc2,slc B2.so A.G B2.scap], .int .i64 g, .int .i64 c] wc (fun e w' => e= .returned (stv B3 A2)∧StAt w' ow3 B3 A2∧Mod (fun b=> ow3 b≠ .no) wc w') from by
    obtain ⟨j1,j2,j3,j4,j5,j6⟩:=HJ.out
    have e2:=HV.out.1
    have e3:stv B3 A2= .agg #[.int .i64 A.C, .int .u64 A.cr,slc B.gb A.G B.gcap,slc B.cl A.C B.ccap,slc B.cu A.C B.ucap,slc gb 1 cb,slc B.so A.G B.scap]:=by rw [j3,j4]
    have eG:A.G=A2.G:=by rw [j3]
    have eC:A.C=A2.C:=by rw [j3]
    rw [←e2,←e3]
    exact r_wake (by rw [j3];exact HI.out.1) (d:=d) ⟨HI.out.1,fun t e=> by rw [HI.out.2.1] at e;cases e⟩ HI.out.2.1 wc ow3 ow2 B3 B2 j1 j6 j2 eG eC (by rw [←eC];have:=HI.out.2.2.2.2.2.2.2.2;omega) (fun g c=> by rw [HI.out.2.2.2.1]) (fun g c=> by rw [j3];show 0≤(A.spots g c).1;rw [HI.out.2.2.2.1];exact Int.le_refl 0) (by rw [j3];exact HI.out.2.2.2.2.1) g c (by omega) (by omega)).mono ?_;rintro e w7 ⟨rfl,S7,m7⟩
   have e3:stv B3 A2= .agg #[.int .i64 A.C, .int .u64 A.cr,slc B.gb A.G B.gcap,slc B.cl A.C B.ccap,slc B.cu A.C B.ucap,slc gb 1 cb,slc B.so A.G B.scap]:=by rw [HJ.out.2.2.1,HJ.out.2.2.2.1]
   rw [e3]
   have HE3:=Lib.hid e3
   clear e3 x0 x1 x2 x3 x4 x5 x6 y0 y1 y2 y3 y4 y5 y6 k1 k3
   have oz3:ow3 (w.heap.size+1+1)= .no:=by
    rw [HJ.out.2.2.2.2.1]
    simp only
    rw [if_neg (by omega)];exact oxw2
   have Z7:=Z3.mod m7 (by show ¬ow3 (w.heap.size+1+1)≠ .no;rw [oz3];simp)
   have z0:=Z7.cL 0 _ (by have:=Z7.lt;omega) rfl
   have z1:=Z7.cL 1 _ (by have:=Z7.lt;omega) rfl
   have z2:=Z7.cL 2 _ (by have:=Z7.lt;omega) rfl
   have z3:=Z7.cL 3 _ (by have:=Z7.lt;omega) rfl
   have z4:=Z7.cL 4 _ (by have:=Z7.lt;omega) rfl
   have z5:=Z7.cL 5 _ (by have:=Z7.lt;omega) rfl
   have z6:=Z7.cL 6 _ (by have:=Z7.lt;omega) rfl
   have gf0:=Z7.free 0
   have gf1:=Z7.free 1
   have gf2:=Z7.free 2
   have gf3:=Z7.free 3
   have gf4:=Z7.free 4
   have gf5:=Z7.free 5
   have gf6:=Z7.free 6
   have lZ7:=Z7.lt
   have HM:=Lib.hid (And.intro mW (And.intro mG (And.intro m7 (And.intro S7 oz3))))
   clear m7 S7 oz3 mG mW
   go_wp2
   obtain ⟨mW,mG,m7,S7,oz3⟩:=HM.out
   have hm:=h7_mod (w.heap.size+1+1) w7 (.int .i64 A.C) (.int .u64 A.cr) (slc B.gb A.G B.gcap) (slc B.cl A.C B.ccap) (slc B.cu A.C B.ucap) (slc gb 1 cb) (slc B.so A.G B.scap)
   have hs0:=HG.out
   refine bodyPost_ret (v:= .tuple #[.agg #[.int .i64 A.C, .int .u64 A.cr,slc B.gb A.G B.gcap,slc B.cl A.C B.ccap,slc B.cu A.C B.ucap,slc gb 1 cb,slc B.so A.G B.scap], .int .i64 0, .int .i64 0]) (by simp [results,Tryz.results62,go_sem, *]) rfl ⟨B3,ow3, ?_, ?_, ?_, ?_⟩
   ·rw [←HE3.out]
    have:stv B3 A2=stv B3 A:=by rw [HJ.out.2.2.1]
    rw [this]
   ·rw [←HJ.out.2.2.1]
    exact S7.mod hm (by rintro b rfl;exact oz3)
   ·refine Mod.trans (mW.no _) (Mod.trans (mG.mono (T:=fun b=> ow3 b≠ .no∨w.heap.size≤b) (fun b _ e=> .inr (by have:b=w.heap.size:=e;omega))) (Mod.trans (m7.mono (T:=fun b=> ow3 b≠ .no∨w.heap.size≤b) (fun b _ e=> .inl e)) (hm.mono (T:=fun b=> ow3 b≠ .no∨w.heap.size≤b) (fun b _ e=> .inr (by have:b=w.heap.size+1+1:=e;omega))) (fun _ _ h=> h)) (fun _ _ h=> h)) ?_
    intro b hb h
    rcases h with h|h
    ·rw [HJ.out.2.2.2.2.1] at h
     simp only [if_neg (show b≠gb by have:=mW.size;omega)] at h
     exact h
    ·omega
   ·intro b hb
    rw [HJ.out.2.2.2.2.1]
    exact if_neg (by have:=mW.size;omega)
end
end Go.Q
