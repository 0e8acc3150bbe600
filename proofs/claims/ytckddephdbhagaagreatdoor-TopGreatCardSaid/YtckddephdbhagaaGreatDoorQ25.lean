/- A part of the proof that TopGreat answers true: what some of the functions on its road compute. -/
import Derived.Test.YtckddephdbhagaaGreatDoorQ20
set_option linter.unusedVariables false
set_option linter.unusedSimpArgs false
namespace Go.Q
open Go.RowKit Go.Proofs
section
variable {w w' :World} {ow:Nat→SOwn} {B:STB} {A:ASt} {d:Nat}
theorem StAt.putTask (h:StAt w ow B A) {t:TK} (ht:A.task=some t) {tb tc:Nat} (htv:B.tv=slc tb 1 tc) (t' :TK) (hm:Mod (One tb) w w') (R:Row w' tb 8 (fl (tkc t'))):StAt w' ow B { A with task:=some t' }:=by
 obtain ⟨b,c,e,o,_⟩:=h.t1 ht
 rw [htv] at e
 simp only [Value.slice.injEq,Option.some.injEq,Addr.mk.injEq,and_true,true_and] at e
 obtain ⟨rfl,rfl⟩:=e
 refine h.set .tk (hm.mono (fun b _ e=> by have e' :b=tb:=e;subst e';exact ⟨o,by simp⟩)) ?_ (fun t'' ht'' hp=> ?_)
 ·exact ⟨tb,tc,htv,o,R⟩
 ·cases t'' with
  |tk=> exact absurd rfl ht''
  |no=> trivial
  |gb=> exact hp
  |cl=> exact hp
  |cu=> exact hp
  |so=> exact hp
  |si g=> exact hp
theorem StAt.oneMod (h:StAt w ow B A) {t:TK} (ht:A.task=some t) {tb tc:Nat} (htv:B.tv=slc tb 1 tc) (hm:Mod (One tb) w w'):Mod (fun b=> ow b≠ .no) w w' :=by
 obtain ⟨b,c,e,o,_⟩:=h.t1 ht
 rw [htv] at e
 simp only [Value.slice.injEq,Option.some.injEq,Addr.mk.injEq,and_true,true_and] at e
 obtain ⟨rfl,rfl⟩:=e
 exact hm.mono (fun b _ e=> by have e' :b=tb:=e;subst e';rw [o];simp)
set_option maxRecDepth 100000 in
set_option maxHeartbeats 4000000 in
theorem m_pick (h:One1 A d) (hv:VOk A) (t:TK) (ht:A.task=some t) (c:Nat) (hcpu:t.cpu=c) (hc:c < A.C) (task group weight tO n mask:Int) (w:World) (m:Nat) (ow:Nat→SOwn) (B:STB) (hs:MAt w m ow B A):
  Calls Tryz.prog 77 #[ptr m,opv 6 c task group weight tO n mask] w fun e w' => e= .returned (.tuple #[.int .i64 t.id, .int .i64 0])∧MAt w' m ow B { A with current:=upd1 A.current c t.id }∧Mod (fun b=> ow b≠ .no) w w' :=by
 have HI:=Lib.hid (And.intro h (And.intro hv (And.intro ht hcpu)))
 clear h hv ht hcpu
 have i0:(0:Int)≤c:=by omega
 have i1:(c:Int) < A.C:=by omega
 have lM:=hs.row.lt
 go_enter Tryz.func77,Tryz.ntmps77
 go_upto_region 1 with fail
 refine wp_world (fun V=> MAt V m ow B A∧Mod No w V∧Row V w.heap.size 8 (fl [.int .u8 6, .int .i64 c, .int .i64 task, .int .i64 group, .int .i64 weight, .int .i64 tO, .int .i64 n, .int .u64 mask])) ⟨hs.no ((Mod.refl No w).alloc _),(Mod.refl No w).alloc _,row_newL w [_,_,_,_,_,_,_,_] _⟩ ?_
 intro V ⟨MV,mV,OV⟩
 have lO:=OV.lt
 have o1:=OV.cL 1 _ (by omega) rfl
 have c0:=MV.look.1
 go_wp2_with fail
 refine (m_cpu m A.C c i0 i1 _ c0).mono ?_;rintro e w1 ⟨rfl,rfl⟩
 go_upto_region 3 with fail
 have mS:∀ w',Mod No V w' →w'.cell? ⟨m,4,none⟩=some (slc B.cu A.C B.ucap)∧w'.cell? ⟨w.heap.size,1,none⟩=some (.int .i64 c):=fun w' hm=> ⟨(MV.no hm).look.2.2.2.2.1,(OV.mod hm (fun h=> h)).cL 1 _ (by omega) rfl⟩
 refine wp_region_chain (fun w' => w'.cell? ⟨m,4,none⟩=some (slc B.cu A.C B.ucap)∧w'.cell? ⟨w.heap.size,1,none⟩=some (.int .i64 c)) [10,12] [11] [12] (rds [0,1,2,3,4,5,6,7,8,9] (.ef 10 (rds [11] (.ef 12 .nil)))) (by kernel_rfl) (by kernel_rfl) (mS _ (Mod.refl No V).drew) ?_
 intro OO hO
 have HO:=Lib.hid hO
 clear hO
 simp only [rds]
 (repeat (first|(refine lxp HO (v:=?_) (fun w'=> ?_) ?_;rotate_left;(focus (go_simp;(try exact rfl);done));try go_simp)|(refine lxr HO (v:=?_) (fun w' hC'=> ?_) ?_;rotate_left;(focus (obtain ⟨c1,c2⟩:=hC';go_simp;(try exact rfl);done));try go_simp)|(refine lxo HO ?_;try go_simp)))
 refine lxe HO (fun Kx hKx=> ?_)
 go_simp
 refine (m_first HI.out.1 HI.out.2.1 t HI.out.2.2.1 c HI.out.2.2.2 hc _ m ow B (MV.no (Mod.refl No V).drew)).mono ?_;rintro e w3 ⟨rfl,hb3⟩
 have m3:Mod No V w3:=Mod.trans (Mod.refl No V).drew (Mod.of_below hb3 No) (fun _ _ h=> h)
 have M3:=MV.no m3
 have fr:=(M3.st.1 .cu).2.free c
 have qc:=(M3.st.1 .cu).2.cell hc
 have lcu:=(M3.st.1 .cu).2.lt
 refine hKx _ _ (.inr (mS _ m3)) ?_
 clear hKx Kx
 (repeat (first|(refine lxp HO (v:=?_) (fun w'=> ?_) ?_;rotate_left;(focus (go_simp;(try exact rfl);done));try go_simp)|(refine lxr HO (v:=?_) (fun w' hC'=> ?_) ?_;rotate_left;(focus (obtain ⟨c1,c2⟩:=hC';go_simp;(try exact rfl);done));try go_simp)|(refine lxo HO ?_;try go_simp)))
 (refine lxe HO (fun K hK=> ?_);go_simp;refine hK _ _ (.inl (by rfl)) ?_;clear hK K)
 refine wpL_nil ?_
 clear HO
 have ocu:=(M3.st.1 .cu).1
 have ncm:B.cu≠m:=fun e=> by rw [e,hs.own] at ocu;simp at ocu
 have oO:ow w.heap.size= .no:=Classical.byContradiction fun hh=> by have:=hs.st.2 _ hh;omega
 have mC:Mod (fun b=> b=B.cu) w3 (w3.setCell ⟨B.cu,c,none⟩ (.int .i64 t.id)):=(Mod.refl (fun b=> b=B.cu) w3).setCell (p:=⟨B.cu,c,none⟩) (.inr rfl) _
 have MC:MAt (w3.setCell ⟨B.cu,c,none⟩ (.int .i64 t.id)) m ow B { A with current:=upd1 A.current c t.id }:=⟨M3.row.mod mC (Ne.symm ncm),hs.own,M3.st.setCur hc t.id⟩
 have OC:=(OV.mod m3 (fun h=> h)).mod mC (by show ¬w.heap.size=B.cu;intro e;rw [←e,oO] at ocu;simp at ocu)
 have mm:Mod (fun b=> ow b≠ .no) w (w3.setCell ⟨B.cu,c,none⟩ (.int .i64 t.id)):=Mod.trans ((Mod.trans mV m3 (fun _ _ h=> h)).no _) (mC.mono (fun b _ e=> by have e' :b=B.cu:=e;rw [e',ocu];simp)) (fun _ _ h=> h)
 clear fr qc
 go_upto_region 4 with fail
 refine wp_world (fun W=> MAt W m ow B { A with current:=upd1 A.current c t.id }∧Row W w.heap.size 8 (fl [.int .u8 6, .int .i64 c, .int .i64 task, .int .i64 group, .int .i64 weight, .int .i64 tO, .int .i64 n, .int .u64 mask])∧Mod (fun b=> ow b≠ .no) w W) ⟨MC,OC,mm⟩ ?_
 intro W ⟨MW,OW,mW⟩
 clear MC OC mm mC
 have q1:=MW.look.2.2.2.2.1
 have q2:=OW.cL 1 _ (by have:=OW.lt;omega) rfl
 have q3:W.cell? ⟨B.cu,c,none⟩=some (.int .i64 t.id):=by rw [(MW.st.1 .cu).2.cell hc];simp [ints,upd1]
 refine wp_region_chain (fun w' => w' =W.drew) [] [] [] (rds [0,1,2,3,4,5,6,7,8,9,10] .nil) (by kernel_rfl) (by kernel_rfl) rfl ?_
 intro OO hO
 have HO:=Lib.hid hO
 clear hO
 simp only [rds]
 (repeat (first|(refine lxp HO (v:=?_) (fun w'=> ?_) ?_;rotate_left;(focus (go_simp;(try exact rfl);done));try go_simp)|(refine lxr HO (v:=?_) (fun w' hC'=> ?_) ?_;rotate_left;(focus (obtain rfl:=hC';go_simp;(try exact rfl);done));try go_simp)|(refine lxo HO ?_;try go_simp)))
 refine wpL_nil ?_
 clear HO
 go_wp2
 go_ret2
 exact ⟨rfl,MW.no (Mod.refl No W).drew,mW.drew⟩
set_option maxRecDepth 100000 in
set_option maxHeartbeats 4000000 in
theorem m_tick (h:One1 A d) (t:TK) (ht:A.task=some t) (k task group weight tO n mask:Int) (c g0:Nat) (hc:c < A.C) (htg:t.group=g0) (hg0:g0 < A.G) (hd:Dep A.par g0 d) (hcur:A.current c=t.id) (hclk:A.clocks c=0) (n1:1≤n) (n2:n≤1000000)
  (hE:REnt t.v t.r t.weight∧t.v≤1000000000000000) (hS:∀ g,0 < g→g < A.G→REnt (A.spots g c).1 (A.spots g c).2.1 (A.wt g)∧(A.spots g c).1≤1000000000000000)
  (w:World) (m:Nat) (ow:Nat→SOwn) (B:STB) (hs:MAt w m ow B A):
  Calls Tryz.prog 76 #[ptr m,opv k c task group weight tO n mask] w fun e w' => e= .returned (.tuple #[.int .i64 t.id, .int .i64 0])∧
   MAt w' m ow B { A with clocks:=upd1 A.clocks c n,task:=some { t with v:=t.v+(n * 1048576+t.r) / t.weight,r:=(n * 1048576+t.r) % t.weight },spots:=tkS A n d g0 c 0 }∧Mod (fun b=> ow b≠ .no) w w' :=by
 obtain ⟨tb,tc,htv,howt,_⟩:=hs.st.t1 ht
 have hid:=(h.ok t ht).2.2.2.2
 have T:=h.T
 have hE1:=hE.1.w1
 have hE2:=hE.1.w2
 have HI:=Lib.hid (And.intro h (And.intro ht (And.intro htg (And.intro hS (And.intro hE hcur)))))
 have HD:=Lib.hid hd
 have HV:=Lib.hid htv
 have e0:(t.id==0)=false:=by simp;omega
 have HC:=Lib.hid (And.intro hclk hcur)
 have ON:=Lib.hid (show ∀ b,w.heap.size≤b→ow b= .no from fun b hb=> Classical.byContradiction fun hh=> by have:=hs.st.2 _ hh;omega)
 clear h ht htg hS hE hcur hd hclk htv
 have i0:(0:Int)≤c:=by omega
 have i1:(c:Int) < A.C:=by omega
 have hwn:IntKind.i64.wrap n=n:=by rw [IntKind.wrap_i64];omega
 have lM:=hs.row.lt
 have hown:=hs.own
 go_enter Tryz.func76,Tryz.ntmps76
 go_upto_region 1 with fail
 refine wp_world (fun V=> MAt V m ow B A∧Mod No w V∧Row V w.heap.size 8 (fl [.int .u8 k, .int .i64 c, .int .i64 task, .int .i64 group, .int .i64 weight, .int .i64 tO, .int .i64 n, .int .u64 mask])) ⟨hs.no ((Mod.refl No w).alloc _),(Mod.refl No w).alloc _,row_newL w [_,_,_,_,_,_,_,_] _⟩ ?_
 intro V ⟨MV,mV,OV⟩
 have lO:=OV.lt
 have lMV:=MV.row.lt
 have o1:=OV.cL 1 _ (by omega) rfl
 have o6:=OV.cL 6 _ (by omega) rfl
 have c0:=MV.look.1
 have c3:=MV.look.2.2.2.1
 have c4:=MV.look.2.2.2.2.1
 go_wp2_with fail
 refine (m_cpu m A.C c i0 i1 _ c0).mono ?_;rintro e w1 ⟨rfl,rfl⟩
 have k0:V.cell? ⟨B.cl,c,none⟩=some (.int .i64 0):=by rw [(MV.st.cp hc).1];exact congrArg (fun x=> some (Value.int .i64 x)) HC.out.1
 have lcl:=(MV.st.1 .cl).2.lt
 go_upto_region 6 with fail
 refine wp_region_chain (fun w' => w' =V.drew) [] [] [] (rds [0,1,2,3,4,5,6,7,8,9,10,11,12] .nil) (by kernel_rfl) (by kernel_rfl) rfl ?_
 intro OO hO
 have HO:=Lib.hid hO
 clear hO
 simp only [rds]
 (repeat (first|(refine lxp HO (v:=?_) (fun w'=> ?_) ?_;rotate_left;(focus (go_simp;(try exact rfl);done));try go_simp)|(refine lxr HO (v:=?_) (fun w' hC'=> ?_) ?_;rotate_left;(focus (obtain rfl:=hC';go_simp;(try exact rfl);done));try go_simp)|(refine lxo HO ?_;try go_simp)))
 refine wpL_nil ?_
 clear HO
 have fk:=(MV.st.1 .cl).2.free c
 go_upto_region 8 with fail
 refine wp_region_chain (fun w' => w' =V.drew.drew) [12] [11] [12] (rds [0,1,2,3,4,5,6,7,8,9,10,11] (.ef 12 .nil)) (by kernel_rfl) (by kernel_rfl) rfl ?_
 intro OO hO
 have HO:=Lib.hid hO
 clear hO
 simp only [rds]
 (repeat (first|(refine lxp HO (v:=?_) (fun w'=> ?_) ?_;rotate_left;(focus (go_simp;(try exact rfl);done));try go_simp)|(refine lxr HO (v:=?_) (fun w' hC'=> ?_) ?_;rotate_left;(focus (obtain rfl:=hC';go_simp;(try exact rfl);done));try go_simp)|(refine lxo HO ?_;try go_simp)))
 (refine lxe HO (fun K hK=> ?_);go_simp;refine hK _ _ (.inl (by rfl)) ?_;clear hK K)
 refine wpL_nil ?_
 clear HO
 go_upto_region 9 with fail
 have tcl:=(MV.st.1 .cl).1
 have ncm:B.cl≠m:=fun e=> by rw [e,hown] at tcl;simp at tcl
 refine wp_world (fun W=> MAt W m ow B { A with clocks:=upd1 A.clocks c n }∧Mod (fun b=> ow b≠ .no) V W) ?_ ?_
 ·have mC:Mod (fun b=> b=B.cl) V (V.setCell ⟨B.cl,c,none⟩ (.int .i64 n)):=(Mod.refl (fun b=> b=B.cl) V).setCell (p:=⟨B.cl,c,none⟩) (.inr rfl) _
  have MC:MAt (V.setCell ⟨B.cl,c,none⟩ (.int .i64 n)) m ow B { A with clocks:=upd1 A.clocks c n }:=⟨MV.row.mod mC (Ne.symm ncm),hown,MV.st.setClk hc n⟩
  exact ⟨MC.no (Mod.refl No _).drew.drew,(mC.mono (fun b _ e=> by have e' :b=B.cl:=e;rw [e',tcl];simp)).drew.drew⟩
 intro W ⟨MW,m2⟩
 have hzV:=mV.size
 have OW:=OV.mod m2 (fun h=> h (ON.out _ (by omega)))
 clear o1 o6 c0 c3 c4 k0 fk tcl lcl lO lMV ncm
 have hmW:Mod (fun b=> ow b≠ .no) w W:=Mod.trans (mV.no _) m2 (fun _ _ h=> h)
 have lO:=OW.lt
 have lMW:=MW.row.lt
 have q1:=MW.look.2.2.2.2.1
 have o1:=OW.cL 1 _ (by omega) rfl
 have cu:W.cell? ⟨B.cu,c,none⟩=some (.int .i64 t.id):=by rw [(MW.st.cp hc).2];exact congrArg (fun x=> some (Value.int .i64 x)) HC.out.2
 refine wp_region_chain (fun w' => w' =W.drew) [] [] [] (rds [0,1,2,3,4,5,6,7,8] .nil) (by kernel_rfl) (by kernel_rfl) rfl ?_
 intro OO hO
 have HO:=Lib.hid hO
 clear hO
 simp only [rds]
 (repeat (first|(refine lxp HO (v:=?_) (fun w'=> ?_) ?_;rotate_left;(focus (go_simp;(try exact rfl);done));try go_simp)|(refine lxr HO (v:=?_) (fun w' hC'=> ?_) ?_;rotate_left;(focus (obtain rfl:=hC';go_simp;(try exact rfl);done));try go_simp)|(refine lxo HO ?_;try go_simp)))
 refine wpL_nil ?_
 clear HO q1 o1 cu
 go_upto_region 12 with fail
 obtain ⟨tb',tc',htv',_,RT⟩:=MW.st.t1 HI.out.2.1
 obtain ⟨rfl,rfl⟩:tb=tb' ∧tc=tc' :=by rw [show (_:Value)=_ from HV.out] at htv';injection htv' with q1 _ q2;injection q1 with q1;injection q1 with q1;exact ⟨q1,q2⟩
 clear htv'
 have mS:∀ w',Mod No W w' →w'.cell? ⟨m,5,none⟩=some (slc tb 1 tc):=fun w' hm=> by have:=(MW.no hm).look.2.2.2.2.2.1;rw [this];exact congrArg some HV.out
 refine wp_region_chain (fun w' => w'.cell? ⟨m,5,none⟩=some (slc tb 1 tc)) [6] [] [] (rds [0,1,2,3,4,5] (.ef 6 (rds [7,8] .nil))) (by kernel_rfl) (by kernel_rfl) (mS _ (Mod.refl No W).drew.drew) ?_
 intro OO hO
 have HO:=Lib.hid hO
 clear hO
 simp only [rds]
 (repeat (first|(refine lxp HO (v:=?_) (fun w'=> ?_) ?_;rotate_left;(focus (go_simp;(try exact rfl);done));try go_simp)|(refine lxr HO (v:=?_) (fun w' hC'=> ?_) ?_;rotate_left;(focus (obtain c1:=hC';go_simp;(try exact rfl);done));try go_simp)|(refine lxo HO ?_;try go_simp)))
 refine lxe HO (fun Kx hKx=> ?_)
 go_simp
 refine (m_find1 m tb tc t t.id rfl _ (RT.drew.drew) (mS _ (Mod.refl No W).drew.drew)).mono ?_;rintro e w3 ⟨rfl,hb3⟩
 have m3:Mod No W w3:=Mod.trans (Mod.refl No W).drew.drew (Mod.of_below hb3 No) (fun _ _ h=> h)
 refine hKx _ _ (.inr (mS _ m3)) ?_
 clear hKx Kx
 (repeat (first|(refine lxp HO (v:=?_) (fun w'=> ?_) ?_;rotate_left;(focus (go_simp;(try exact rfl);done));try go_simp)|(refine lxr HO (v:=?_) (fun w' hC'=> ?_) ?_;rotate_left;(focus (obtain c1:=hC';go_simp;(try exact rfl);done));try go_simp)|(refine lxo HO ?_;try go_simp)))
 refine wpL_nil ?_
 clear HO mS
 have M3:=MW.no m3
 have O3:=OW.mod m3 (fun h=> h)
 have RT3:=RT.mod m3 (fun h=> h)
 clear MW OW RT lO lMW
 have lO:=O3.lt
 have lM3:=M3.row.lt
 have lT:=RT3.lt
 go_upto_region 13 with fail
 have mS:∀ w',Mod No w3 w' →w'.cell? ⟨tb,6,none⟩=some (.int .u64 t.v)∧w'.cell? ⟨tb,7,none⟩=some (.int .u32 t.r)∧w'.cell? ⟨tb,2,none⟩=some (.int .i64 t.weight)∧w'.cell? ⟨w.heap.size,6,none⟩=some (.int .i64 n):=fun w' hm=> by
  have Q1:=RT3.mod hm (fun h=> h)
  exact ⟨Q1.cL 6 _ (by omega) rfl,Q1.cL 7 _ (by omega) rfl,Q1.cL 2 _ (by omega) rfl,(O3.mod hm (fun h=> h)).cL 6 _ (by omega) rfl⟩
 go_cut [9] (fun s9 wx=> ∃ nb,s9=ptr nb∧w3.heap.size≤nb∧Row wx nb 3 (fl [.int .u64 (t.v+(n * 1048576+t.r) / t.weight), .int .u32 ((n * 1048576+t.r) % t.weight), .int .u32 t.weight])∧Mod No w3 wx)
 case first=>
  refine wp_region_chain (fun w' => w'.cell? ⟨tb,6,none⟩=some (.int .u64 t.v)∧w'.cell? ⟨tb,7,none⟩=some (.int .u32 t.r)∧w'.cell? ⟨tb,2,none⟩=some (.int .i64 t.weight)∧w'.cell? ⟨w.heap.size,6,none⟩=some (.int .i64 n)) [12,15,19,20] [18,21] [20] (rds [0,1,2,3,4,5,6,7,8,9,10,11,13,14] (.ef2 12 (.ef2 15 (rds [16,17,18] (.ef 19 (.ef 20 (rds [21] .nil)))) 19 (.ef 15 (rds [16,17,18] (.ef 20 (rds [21] .nil))))) 19 (.ef 12 (.ef 15 (rds [16,17,18] (.ef 20 (rds [21] .nil))))))) (by kernel_rfl) (by kernel_rfl) (mS _ (Mod.refl No w3).drew) ?_
  intro OO hO
  have HO:=Lib.hid hO
  clear hO
  simp only [rds]
  (repeat (first|(refine lxp HO (v:=?_) (fun w'=> ?_) ?_;rotate_left;(focus (go_simp;(try exact rfl);done));try go_simp)|(refine lxr HO (v:=?_) (fun w' hC'=> ?_) ?_;rotate_left;(focus (obtain ⟨c1,c2,c3,c4⟩:=hC';go_simp;(try exact rfl);done));try go_simp)|(refine lxo HO ?_;try go_simp)))
  refine wpL_eff2 ?o1 ?o2
  case o1=>
   refine lxe HO (fun Kx hKx=> ?_)
   go_simp
   refine (m_entity t.v t.r t.weight hE1 hE2 _).mono ?_;rintro e wx6 ⟨rfl,hx6⟩
   have mx6:Mod No w3 wx6:=Mod.trans (Mod.refl No w3).drew (Mod.of_below hx6 No) (fun _ _ h=> h)
   refine hKx _ _ (.inr (mS _ mx6)) ?_
   clear hKx Kx
   (repeat (first|(refine lxp HO (v:=?_) (fun w'=> ?_) ?_;rotate_left;(focus (go_simp;(try exact rfl);done));try go_simp)|(refine lxr HO (v:=?_) (fun w' hC'=> ?_) ?_;rotate_left;(focus (obtain ⟨c1,c2,c3,c4⟩:=hC';go_simp;(try exact rfl);done));try go_simp)|(refine lxo HO ?_;try go_simp)))
   refine wpL_eff2 ?o3 ?o4
   case o3=>
    refine lxe HO (fun Kx hKx=> ?_)
    go_simp
    refine (Add_ok t.v t.r t.weight n HI.out.2.2.2.2.1.1 (by omega) n2 HI.out.2.2.2.2.1.2 _).mono ?_;rintro e wx7 ⟨rfl,hx7⟩
    have mx7:Mod No w3 wx7:=Mod.trans mx6 (Mod.of_below hx7 No) (fun _ _ h=> h)
    refine hKx _ _ (.inr (mS _ mx7)) ?_
    clear hKx Kx
    (repeat (first|(refine lxp HO (v:=?_) (fun w'=> ?_) ?_;rotate_left;(focus (go_simp;(try exact rfl);done));try go_simp)|(refine lxr HO (v:=?_) (fun w' hC'=> ?_) ?_;rotate_left;(focus (obtain ⟨c1,c2,c3,c4⟩:=hC';go_simp;(try exact rfl);done));try go_simp)|(refine lxo HO ?_;try go_simp)))
    (refine lxe HO (fun K hK=> ?_);go_simp;refine hK _ _ ?_ ?_;all_goals clear hK K)
    ·exact .inr (mS _ (mx7.alloc _))
    (refine lxe HO (fun K hK=> ?_);go_simp;refine hK _ _ (.inl (by rfl)) ?_;clear hK K)
    (repeat (first|(refine lxp HO (v:=?_) (fun w'=> ?_) ?_;rotate_left;(focus (go_simp;(try exact rfl);done));try go_simp)|(refine lxr HO (v:=?_) (fun w' hC'=> ?_) ?_;rotate_left;(focus (obtain ⟨c1,c2,c3,c4⟩:=hC';go_simp;(try exact rfl);done));try go_simp)|(refine lxo HO ?_;try go_simp)))
    refine wpL_nil ?_
    go_wp2_with fail
    go_meet
    exact ⟨_,rfl,mx7.size,row_newL wx7 [_,_,_] _,mx7.alloc _⟩
   case o4=>
    (refine lxe HO (fun K hK=> ?_);go_simp;refine hK _ _ ?_ ?_;all_goals clear hK K)
    ·exact .inr (mS _ (mx6.alloc _))
    refine lxe HO (fun Kx hKx=> ?_)
    go_simp
    refine (Add_ok t.v t.r t.weight n HI.out.2.2.2.2.1.1 (by omega) n2 HI.out.2.2.2.2.1.2 _).mono ?_;rintro e wx7 ⟨rfl,hx7⟩
    have mx7:Mod No w3 wx7:=Mod.trans (mx6.alloc _) (Mod.of_below hx7 No) (fun _ _ h=> h)
    have z6:=mx6.size
    have N7:Row wx7 wx6.heap.size 3 (fl [.int .u64 0, .int .u32 0, .int .u32 0]):=Row.mod (row_newL wx6 [_,_,_] 138) (Mod.of_below hx7 No) (fun h=> h)
    have n0:=N7.cL 0 _ (by omega) rfl
    have n1:=N7.cL 1 _ (by omega) rfl
    have n2:=N7.cL 2 _ (by omega) rfl
    have nf0:=N7.free 0
    have nf1:=N7.free 1
    have nf2:=N7.free 2
    have nl:=N7.lt
    refine hKx _ _ (.inr (mS _ mx7)) ?_
    clear hKx Kx
    (repeat (first|(refine lxp HO (v:=?_) (fun w'=> ?_) ?_;rotate_left;(focus (go_simp;(try exact rfl);done));try go_simp)|(refine lxr HO (v:=?_) (fun w' hC'=> ?_) ?_;rotate_left;(focus (obtain ⟨c1,c2,c3,c4⟩:=hC';go_simp;(try exact rfl);done));try go_simp)|(refine lxo HO ?_;try go_simp)))
    (refine lxe HO (fun K hK=> ?_);go_simp;refine hK _ _ (.inl (by rfl)) ?_;clear hK K)
    (repeat (first|(refine lxp HO (v:=?_) (fun w'=> ?_) ?_;rotate_left;(focus (go_simp;(try exact rfl);done));try go_simp)|(refine lxr HO (v:=?_) (fun w' hC'=> ?_) ?_;rotate_left;(focus (obtain ⟨c1,c2,c3,c4⟩:=hC';go_simp;(try exact rfl);done));try go_simp)|(refine lxo HO ?_;try go_simp)))
    refine wpL_nil ?_
    go_wp2_with fail
    go_meet
    exact ⟨wx6.heap.size,rfl,z6,(((N7.set (i:=0) (by omega) _).set (i:=1) (by omega) _).set (i:=2) (by omega) _).congr (by apply le3 <;> rfl),by (repeat first|(with_reducible exact mx7)|(with_reducible refine Mod.alloc ?_ _)|(with_reducible refine Mod.drew ?_)|(with_reducible refine Mod.drewN ?_ _)|(with_reducible refine Mod.sc ?_))⟩
  case o2=>
   (refine lxe HO (fun K hK=> ?_);go_simp;refine hK _ _ ?_ ?_;all_goals clear hK K)
   ·exact .inr (mS _ ((Mod.refl No w3).drew.alloc _))
   refine lxe HO (fun Kx hKx=> ?_)
   go_simp
   refine (m_entity t.v t.r t.weight hE1 hE2 _).mono ?_;rintro e wx6 ⟨rfl,hx6⟩
   have mx6:Mod No w3 wx6:=Mod.trans ((Mod.refl No w3).drew.alloc _) (Mod.of_below hx6 No) (fun _ _ h=> h)
   have N6:Row wx6 w3.heap.size 3 (fl [.int .u64 0, .int .u32 0, .int .u32 0]):=Row.mod (row_newL' w3.drew w3.heap.size [_,_,_] 138 (by simp)) (Mod.of_below hx6 No) (fun h=> h)
   refine hKx _ _ (.inr (mS _ mx6)) ?_
   clear hKx Kx
   (repeat (first|(refine lxp HO (v:=?_) (fun w'=> ?_) ?_;rotate_left;(focus (go_simp;(try exact rfl);done));try go_simp)|(refine lxr HO (v:=?_) (fun w' hC'=> ?_) ?_;rotate_left;(focus (obtain ⟨c1,c2,c3,c4⟩:=hC';go_simp;(try exact rfl);done));try go_simp)|(refine lxo HO ?_;try go_simp)))
   refine lxe HO (fun Kx hKx=> ?_)
   go_simp
   refine (Add_ok t.v t.r t.weight n HI.out.2.2.2.2.1.1 (by omega) n2 HI.out.2.2.2.2.1.2 _).mono ?_;rintro e wx7 ⟨rfl,hx7⟩
   have mx7:Mod No w3 wx7:=Mod.trans mx6 (Mod.of_below hx7 No) (fun _ _ h=> h)
   have N7:=N6.mod (Mod.of_below hx7 No) (fun h=> h)
   have n0:=N7.cL 0 _ (by omega) rfl
   have n1:=N7.cL 1 _ (by omega) rfl
   have n2:=N7.cL 2 _ (by omega) rfl
   have nf0:=N7.free 0
   have nf1:=N7.free 1
   have nf2:=N7.free 2
   have nl:=N7.lt
   refine hKx _ _ (.inr (mS _ mx7)) ?_
   clear hKx Kx
   (repeat (first|(refine lxp HO (v:=?_) (fun w'=> ?_) ?_;rotate_left;(focus (go_simp;(try exact rfl);done));try go_simp)|(refine lxr HO (v:=?_) (fun w' hC'=> ?_) ?_;rotate_left;(focus (obtain ⟨c1,c2,c3,c4⟩:=hC';go_simp;(try exact rfl);done));try go_simp)|(refine lxo HO ?_;try go_simp)))
   (refine lxe HO (fun K hK=> ?_);go_simp;refine hK _ _ (.inl (by rfl)) ?_;clear hK K)
   (repeat (first|(refine lxp HO (v:=?_) (fun w'=> ?_) ?_;rotate_left;(focus (go_simp;(try exact rfl);done));try go_simp)|(refine lxr HO (v:=?_) (fun w' hC'=> ?_) ?_;rotate_left;(focus (obtain ⟨c1,c2,c3,c4⟩:=hC';go_simp;(try exact rfl);done));try go_simp)|(refine lxo HO ?_;try go_simp)))
   refine wpL_nil ?_
   go_wp2_with fail
   go_meet
   exact ⟨w3.heap.size,rfl,Nat.le_refl _,(((N7.set (i:=0) (by omega) _).set (i:=1) (by omega) _).set (i:=2) (by omega) _).congr (by apply le3 <;> rfl),by (repeat first|(with_reducible exact mx7)|(with_reducible refine Mod.alloc ?_ _)|(with_reducible refine Mod.drew ?_)|(with_reducible refine Mod.drewN ?_ _)|(with_reducible refine Mod.sc ?_))⟩
 case rest=>
 obtain ⟨nb,rfl,hnb,RB,mx⟩:=hcut
 have M4:=M3.no mx
 have O4:=O3.mod mx (fun h=> h)
 have RT4:=RT3.mod mx (fun h=> h)
 clear mS M3 O3 RT3 lO lM3 lT
 have b0:=RB.cL 0 _ (by have:=RB.lt;omega) rfl
 have b1:=RB.cL 1 _ (by have:=RB.lt;omega) rfl
 have b2:=RB.cL 2 _ (by have:=RB.lt;omega) rfl
 have lRB:=RB.lt
 go_wp2_with fail
 refine (m_put tb t.id t.group t.weight t.cpu t.mask t.v t.r (t.v+(n * 1048576+t.r) / t.weight) ((n * 1048576+t.r) % t.weight) t.weight t.ready hE1 hE2 _ RT4).mono ?_;rintro e w5 ⟨rfl,RT5,m5⟩
 have S5:=M4.st.putTask (t:=t) HI.out.2.1 HV.out { t with v:=t.v+(n * 1048576+t.r) / t.weight,r:=(n * 1048576+t.r) % t.weight } m5 RT5
 have m5' :=M4.st.oneMod (t:=t) HI.out.2.1 HV.out m5
 have R5:=M4.row.mod m5' (by rw [hown];simp)
 have O5:=O4.mod m5' (by rw [ON.out _ (Nat.le_refl _)];simp)
 have hm5:Mod (fun b=> ow b≠ .no) w w5:=Mod.trans (Mod.trans (Mod.trans hmW (m3.no _) (fun _ _ h=> h)) (mx.no _) (fun _ _ h=> h)) m5' (fun _ _ h=> h)
 have g0' :w5.cell? ⟨tb,1,none⟩=some (.int .i64 g0):=by have:=RT5.cL 1 _ (by have:=RT5.lt;omega) rfl;rw [this];exact congrArg (fun x=> some (Value.int .i64 x)) HI.out.2.2.1
 have lT5:=RT5.lt
 clear b0 b1 b2 lRB M4 O4 RT4 RB m5 m5'
 have HR:=Lib.hid (And.intro hs.row (And.intro O5 OV))
 go_wp2
 go_loopw [11] (fun s11 wr=> ∃ y:Nat,s11= .int .i64 y∧y < A.G∧chn A.par A.wt d g0 0 0 y≠none∧Mod (fun b=> ow b≠ .no) w wr∧Row wr w.heap.size 8 (fl [.int .u8 k, .int .i64 c, .int .i64 task, .int .i64 group, .int .i64 weight, .int .i64 tO, .int .i64 n, .int .u64 mask])∧Row wr m 8 (fl (mrow B A))
   ∧StAt wr ow B { A with clocks:=upd1 A.clocks c n,task:=some { t with v:=t.v+(n * 1048576+t.r) / t.weight,r:=(n * 1048576+t.r) % t.weight },spots:=tkS A n d g0 c y }) (fun s11 _=> (RowKit.intOf s11).toNat)
 case atStart=> exact ⟨g0,rfl,hg0,chn_self d g0 0 0,hm5,O5,R5,S5.spots_congr _ (fun g c' _ _=> (tkS_top A n d g0 c T hg0 HD.out g c').symm)⟩
 case round=>
  obtain ⟨wk,rfl⟩:∃ W,W=wr:=⟨wr,rfl⟩
  obtain ⟨y,rfl,hy,hon,mk,O,X,Sk⟩:=hrel
  clear g0' O5 R5 S5 RT5 lT5 hm5 mx m3 hmW m2 MV mV OV
  have HN:=Lib.hid hon
  clear hon
  have lX:=X.lt
  have lO:=O.lt
  have Mk:MAt wk m ow B { A with clocks:=upd1 A.clocks c n,task:=some { t with v:=t.v+(n * 1048576+t.r) / t.weight,r:=(n * 1048576+t.r) % t.weight },spots:=tkS A n d g0 c y }:=⟨X,hown,Sk⟩
  by_cases hy0:0 < y
  ·have j0:(0:Int) < y:=by omega
   have j00:(0:Int)≤y:=by omega
   have j1:(y:Int) < A.G:=by omega
   have wy1:=(T.wtOk y hy).1
   have wy2:=(T.wtOk y hy).2
   have HP:=Lib.hid (HI.out.2.2.2.1 y hy0 hy)
   have x6:wk.cell? ⟨m,6,none⟩=some (slc B.so A.G B.scap):=Mk.look.2.2.2.2.2.2.1
   have o1:=O.cL 1 _ (by omega) rfl
   have s0:wk.cell? ⟨B.so,y,none⟩=some (slc (B.si y) A.C (B.sc y)):=(Sk.sp (g:=y) (c:=c) hy hc).1
   go_upto_region 18 with fail
   refine wp_region_chain (fun w' => w' =wk.drew) [] [] [] (rds [0,1,2,3,4,5,6,7,8,9,10] .nil) (by kernel_rfl) (by kernel_rfl) rfl ?_
   intro OO hO
   have HO:=Lib.hid hO
   clear hO
   simp only [rds]
   (repeat (first|(refine lxp HO (v:=?_) (fun w'=> ?_) ?_;rotate_left;(focus (go_simp;(try exact rfl);done));try go_simp)|(refine lxr HO (v:=?_) (fun w' hC'=> ?_) ?_;rotate_left;(focus (obtain rfl:=hC';go_simp;(try exact rfl);done));try go_simp)|(refine lxo HO ?_;try go_simp)))
   refine wpL_nil ?_
   clear HO x6 o1 s0
   go_upto_region 19 with fail
   have lsi:=(Sk.1 (.si y) hy).2.lt
   have lgb:=(Sk.1 .gb).2.lt
   have mS:∀ w',Mod No wk w' →w'.cell? ⟨B.si y,c * 3,none⟩=some (.int .u64 (A.spots y c).1)∧w'.cell? ⟨B.si y,c * 3+1,none⟩=some (.int .u32 (A.spots y c).2.1)∧w'.cell? ⟨m,2,none⟩=some (slc B.gb A.G B.gcap)∧w'.cell? ⟨B.gb,y * 2+1,none⟩=some (.int .i64 (A.wt y))∧w'.cell? ⟨w.heap.size,6,none⟩=some (.int .i64 n):=fun w' hm=> by
    have hq:=(Sk.no hm).sp (g:=y) (c:=c) hy hc
    simp only [tkS_on] at hq
    exact ⟨hq.2.1,hq.2.2.1,(Mk.no hm).look.2.2.1,((Sk.no hm).gp (g:=y) hy).2,(O.mod hm (fun h=> h)).cL 6 _ (by omega) rfl⟩
   go_cut [13] (fun s13 wx=> ∃ nb,s13=ptr nb∧wk.heap.size≤nb∧Row wx nb 3 (fl [.int .u64 ((A.spots y c).1+(n * 1048576+(A.spots y c).2.1) / A.wt y), .int .u32 ((n * 1048576+(A.spots y c).2.1) % A.wt y), .int .u32 (A.wt y)])∧Mod No wk wx)
   case first=>
    refine wp_region_chain (fun w' => w'.cell? ⟨B.si y,c * 3,none⟩=some (.int .u64 (A.spots y c).1)∧w'.cell? ⟨B.si y,c * 3+1,none⟩=some (.int .u32 (A.spots y c).2.1)∧w'.cell? ⟨m,2,none⟩=some (slc B.gb A.G B.gcap)∧w'.cell? ⟨B.gb,y * 2+1,none⟩=some (.int .i64 (A.wt y))∧w'.cell? ⟨w.heap.size,6,none⟩=some (.int .i64 n)) [17,20,24,25] [23,26] [25] (rds [0,1,2,3,4,5,6,7,8,9,10,11,12,13,14,15,16,18,19] (.ef2 17 (.ef2 20 (rds [21,22,23] (.ef 24 (.ef 25 (rds [26] .nil)))) 24 (.ef 20 (rds [21,22,23] (.ef 25 (rds [26] .nil))))) 24 (.ef 17 (.ef 20 (rds [21,22,23] (.ef 25 (rds [26] .nil))))))) (by kernel_rfl) (by kernel_rfl) (mS _ (Mod.refl No wk).drew.drew) ?_
    intro OO hO
    have HO:=Lib.hid hO
    clear hO
    simp only [rds]
    (repeat (first|(refine lxp HO (v:=?_) (fun w'=> ?_) ?_;rotate_left;(focus (go_simp;(try exact rfl);done));try go_simp)|(refine lxr HO (v:=?_) (fun w' hC'=> ?_) ?_;rotate_left;(focus (obtain ⟨c1,c2,c3,c4,c5⟩:=hC';go_simp;(try exact rfl);done));try go_simp)|(refine lxo HO ?_;try go_simp)))
    refine wpL_eff2 ?p1 ?p2
    case p1=>
     refine lxe HO (fun Kx hKx=> ?_)
     go_simp
     refine (m_entity (A.spots y c).1 (A.spots y c).2.1 (A.wt y) wy1 wy2 _).mono ?_;rintro e wx6 ⟨rfl,hx6⟩
     have mx6:Mod No wk wx6:=Mod.trans (Mod.refl No wk).drew.drew (Mod.of_below hx6 No) (fun _ _ h=> h)
     refine hKx _ _ (.inr (mS _ mx6)) ?_
     clear hKx Kx
     (repeat (first|(refine lxp HO (v:=?_) (fun w'=> ?_) ?_;rotate_left;(focus (go_simp;(try exact rfl);done));try go_simp)|(refine lxr HO (v:=?_) (fun w' hC'=> ?_) ?_;rotate_left;(focus (obtain ⟨c1,c2,c3,c4,c5⟩:=hC';go_simp;(try exact rfl);done));try go_simp)|(refine lxo HO ?_;try go_simp)))
     refine wpL_eff2 ?p3 ?p4
     case p3=>
      refine lxe HO (fun Kx hKx=> ?_)
      go_simp
      refine (Add_ok (A.spots y c).1 (A.spots y c).2.1 (A.wt y) n HP.out.1 (by omega) n2 HP.out.2 _).mono ?_;rintro e wx7 ⟨rfl,hx7⟩
      have mx7:Mod No wk wx7:=Mod.trans mx6 (Mod.of_below hx7 No) (fun _ _ h=> h)
      refine hKx _ _ (.inr (mS _ mx7)) ?_
      clear hKx Kx
      (repeat (first|(refine lxp HO (v:=?_) (fun w'=> ?_) ?_;rotate_left;(focus (go_simp;(try exact rfl);done));try go_simp)|(refine lxr HO (v:=?_) (fun w' hC'=> ?_) ?_;rotate_left;(focus (obtain ⟨c1,c2,c3,c4,c5⟩:=hC';go_simp;(try exact rfl);done));try go_simp)|(refine lxo HO ?_;try go_simp)))
      (refine lxe HO (fun K hK=> ?_);go_simp;refine hK _ _ ?_ ?_;all_goals clear hK K)
      ·exact .inr (mS _ (mx7.alloc _))
      (refine lxe HO (fun K hK=> ?_);go_simp;refine hK _ _ (.inl (by rfl)) ?_;clear hK K)
      (repeat (first|(refine lxp HO (v:=?_) (fun w'=> ?_) ?_;rotate_left;(focus (go_simp;(try exact rfl);done));try go_simp)|(refine lxr HO (v:=?_) (fun w' hC'=> ?_) ?_;rotate_left;(focus (obtain ⟨c1,c2,c3,c4,c5⟩:=hC';go_simp;(try exact rfl);done));try go_simp)|(refine lxo HO ?_;try go_simp)))
      refine wpL_nil ?_
      go_wp2_with fail
      go_meet
      exact ⟨_,rfl,mx7.size,row_newL wx7 [_,_,_] _,mx7.alloc _⟩
     case p4=>
      (refine lxe HO (fun K hK=> ?_);go_simp;refine hK _ _ ?_ ?_;all_goals clear hK K)
      ·exact .inr (mS _ (mx6.alloc _))
      refine lxe HO (fun Kx hKx=> ?_)
      go_simp
      refine (Add_ok (A.spots y c).1 (A.spots y c).2.1 (A.wt y) n HP.out.1 (by omega) n2 HP.out.2 _).mono ?_;rintro e wx7 ⟨rfl,hx7⟩
      have mx7:Mod No wk wx7:=Mod.trans (mx6.alloc _) (Mod.of_below hx7 No) (fun _ _ h=> h)
      have z6:=mx6.size
      have N7:Row wx7 wx6.heap.size 3 (fl [.int .u64 0, .int .u32 0, .int .u32 0]):=Row.mod (row_newL wx6 [_,_,_] 138) (Mod.of_below hx7 No) (fun h=> h)
      have n0:=N7.cL 0 _ (by omega) rfl
      have n1:=N7.cL 1 _ (by omega) rfl
      have n2:=N7.cL 2 _ (by omega) rfl
      have nf0:=N7.free 0
      have nf1:=N7.free 1
      have nf2:=N7.free 2
      have nl:=N7.lt
      refine hKx _ _ (.inr (mS _ mx7)) ?_
      clear hKx Kx
      (repeat (first|(refine lxp HO (v:=?_) (fun w'=> ?_) ?_;rotate_left;(focus (go_simp;(try exact rfl);done));try go_simp)|(refine lxr HO (v:=?_) (fun w' hC'=> ?_) ?_;rotate_left;(focus (obtain ⟨c1,c2,c3,c4,c5⟩:=hC';go_simp;(try exact rfl);done));try go_simp)|(refine lxo HO ?_;try go_simp)))
      (refine lxe HO (fun K hK=> ?_);go_simp;refine hK _ _ (.inl (by rfl)) ?_;clear hK K)
      (repeat (first|(refine lxp HO (v:=?_) (fun w'=> ?_) ?_;rotate_left;(focus (go_simp;(try exact rfl);done));try go_simp)|(refine lxr HO (v:=?_) (fun w' hC'=> ?_) ?_;rotate_left;(focus (obtain ⟨c1,c2,c3,c4,c5⟩:=hC';go_simp;(try exact rfl);done));try go_simp)|(refine lxo HO ?_;try go_simp)))
      refine wpL_nil ?_
      go_wp2_with fail
      go_meet
      exact ⟨wx6.heap.size,rfl,z6,(((N7.set (i:=0) (by omega) _).set (i:=1) (by omega) _).set (i:=2) (by omega) _).congr (by apply le3 <;> rfl),by (repeat first|(with_reducible exact mx7)|(with_reducible refine Mod.alloc ?_ _)|(with_reducible refine Mod.drew ?_)|(with_reducible refine Mod.drewN ?_ _)|(with_reducible refine Mod.sc ?_))⟩
    case p2=>
     (refine lxe HO (fun K hK=> ?_);go_simp;refine hK _ _ ?_ ?_;all_goals clear hK K)
     ·exact .inr (mS _ ((Mod.refl No wk).drew.drew.alloc _))
     refine lxe HO (fun Kx hKx=> ?_)
     go_simp
     refine (m_entity (A.spots y c).1 (A.spots y c).2.1 (A.wt y) wy1 wy2 _).mono ?_;rintro e wx6 ⟨rfl,hx6⟩
     have mx6:Mod No wk wx6:=Mod.trans ((Mod.refl No wk).drew.drew.alloc _) (Mod.of_below hx6 No) (fun _ _ h=> h)
     have N6:Row wx6 wk.heap.size 3 (fl [.int .u64 0, .int .u32 0, .int .u32 0]):=Row.mod (row_newL' wk.drew.drew wk.heap.size [_,_,_] 138 (by simp)) (Mod.of_below hx6 No) (fun h=> h)
     refine hKx _ _ (.inr (mS _ mx6)) ?_
     clear hKx Kx
     (repeat (first|(refine lxp HO (v:=?_) (fun w'=> ?_) ?_;rotate_left;(focus (go_simp;(try exact rfl);done));try go_simp)|(refine lxr HO (v:=?_) (fun w' hC'=> ?_) ?_;rotate_left;(focus (obtain ⟨c1,c2,c3,c4,c5⟩:=hC';go_simp;(try exact rfl);done));try go_simp)|(refine lxo HO ?_;try go_simp)))
     refine lxe HO (fun Kx hKx=> ?_)
     go_simp
     refine (Add_ok (A.spots y c).1 (A.spots y c).2.1 (A.wt y) n HP.out.1 (by omega) n2 HP.out.2 _).mono ?_;rintro e wx7 ⟨rfl,hx7⟩
     have mx7:Mod No wk wx7:=Mod.trans mx6 (Mod.of_below hx7 No) (fun _ _ h=> h)
     have N7:=N6.mod (Mod.of_below hx7 No) (fun h=> h)
     have n0:=N7.cL 0 _ (by omega) rfl
     have n1:=N7.cL 1 _ (by omega) rfl
     have n2:=N7.cL 2 _ (by omega) rfl
     have nf0:=N7.free 0
     have nf1:=N7.free 1
     have nf2:=N7.free 2
     have nl:=N7.lt
     refine hKx _ _ (.inr (mS _ mx7)) ?_
     clear hKx Kx
     (repeat (first|(refine lxp HO (v:=?_) (fun w'=> ?_) ?_;rotate_left;(focus (go_simp;(try exact rfl);done));try go_simp)|(refine lxr HO (v:=?_) (fun w' hC'=> ?_) ?_;rotate_left;(focus (obtain ⟨c1,c2,c3,c4,c5⟩:=hC';go_simp;(try exact rfl);done));try go_simp)|(refine lxo HO ?_;try go_simp)))
     (refine lxe HO (fun K hK=> ?_);go_simp;refine hK _ _ (.inl (by rfl)) ?_;clear hK K)
     (repeat (first|(refine lxp HO (v:=?_) (fun w'=> ?_) ?_;rotate_left;(focus (go_simp;(try exact rfl);done));try go_simp)|(refine lxr HO (v:=?_) (fun w' hC'=> ?_) ?_;rotate_left;(focus (obtain ⟨c1,c2,c3,c4,c5⟩:=hC';go_simp;(try exact rfl);done));try go_simp)|(refine lxo HO ?_;try go_simp)))
     refine wpL_nil ?_
     go_wp2_with fail
     go_meet
     exact ⟨wk.heap.size,rfl,Nat.le_refl _,(((N7.set (i:=0) (by omega) _).set (i:=1) (by omega) _).set (i:=2) (by omega) _).congr (by apply le3 <;> rfl),by (repeat first|(with_reducible exact mx7)|(with_reducible refine Mod.alloc ?_ _)|(with_reducible refine Mod.drew ?_)|(with_reducible refine Mod.drewN ?_ _)|(with_reducible refine Mod.sc ?_))⟩
   case rest=>
   obtain ⟨nb,rfl,hnb,RB,mx⟩:=hcut
   have S7:=Sk.no mx
   have X7:=X.mod mx (fun h=> h)
   have O7:=O.mod mx (fun h=> h)
   clear mS
   have f0:=(S7.1 (.si y) hy).2.free (c * 3)
   have f1:=(S7.1 (.si y) hy).2.free (c * 3+1)
   have hsp:=S7.sp (g:=y) (c:=c) hy hc
   simp only [tkS_on] at hsp
   obtain ⟨q_,q0,q1,q2_⟩:=hsp
   try simp only at q_ q0 q1 q2_
   have lsi7:=(S7.1 (.si y) hy).2.lt
   have tsi:=(S7.1 (.si y) hy).1
   have lRB:=RB.lt
   have ne4:B.si y≠nb:=by omega
   have ne0:B.si y≠w.heap.size:=by intro hh;rw [hh,ON.out _ (Nat.le_refl _)] at tsi;simp at tsi
   have ne1:B.si y≠m:=by intro hh;rw [hh,hown] at tsi;simp at tsi
   have mS:∀ w',Row w' nb 3 (fl [.int .u64 ((A.spots y c).1+(n * 1048576+(A.spots y c).2.1) / A.wt y), .int .u32 ((n * 1048576+(A.spots y c).2.1) % A.wt y), .int .u32 (A.wt y)])→w'.cell? ⟨nb,0,none⟩=some (.int .u64 ((A.spots y c).1+(n * 1048576+(A.spots y c).2.1) / A.wt y))∧w'.cell? ⟨nb,1,none⟩=some (.int .u32 ((n * 1048576+(A.spots y c).2.1) % A.wt y)):=fun w' h4=> ⟨h4.cL 0 _ (by omega) rfl,h4.cL 1 _ (by omega) rfl⟩
   go_upto_region 20 with fail
   refine wp_region_chain (fun w' => w'.cell? ⟨nb,0,none⟩=some (.int .u64 ((A.spots y c).1+(n * 1048576+(A.spots y c).2.1) / A.wt y))∧w'.cell? ⟨nb,1,none⟩=some (.int .u32 ((n * 1048576+(A.spots y c).2.1) % A.wt y))) [8,11] [9,10] [11] (rds [0,1,2,3,4,5,6,7] (.ef 8 (rds [9,10] (.ef 11 .nil)))) (by kernel_rfl) (by kernel_rfl) (mS _ RB.drew) ?_
   intro O' hO
   have HO:=Lib.hid hO
   clear hO
   simp only [rds]
   (repeat (first|(refine lxp HO (v:=?_) (fun w'=> ?_) ?_;rotate_left;(focus (go_simp;(try exact rfl);done));try go_simp)|(refine lxr HO (v:=?_) (fun w' hC'=> ?_) ?_;rotate_left;(focus (obtain ⟨c1,c2⟩:=hC';go_simp;(try exact rfl);done));try go_simp)|(refine lxo HO ?_;try go_simp)))
   (refine lxe HO (fun K hK=> ?_);go_simp;refine hK _ _ ?_ ?_;all_goals clear hK K)
   ·exact .inr (mS _ (RB.drew.setOther (p:=⟨B.si y,c * 3,none⟩) ne4 _))
   (repeat (first|(refine lxp HO (v:=?_) (fun w'=> ?_) ?_;rotate_left;(focus (go_simp;(try exact rfl);done));try go_simp)|(refine lxr HO (v:=?_) (fun w' hC'=> ?_) ?_;rotate_left;(focus (obtain ⟨c1,c2⟩:=hC';go_simp;(try exact rfl);done));try go_simp)|(refine lxo HO ?_;try go_simp)))
   (refine lxe HO (fun K hK=> ?_);go_simp;refine hK _ _ (.inl (by rfl)) ?_;clear hK K)
   refine wpL_nil ?_
   clear f0 f1 q0 q1 mS
   have hp:=T.parOk y hy0 hy
   obtain ⟨up,hup⟩:∃ up:Nat,A.par y=up:=⟨(A.par y).toNat,(Int.toNat_of_nonneg hp.1).symm⟩
   have hupy:up < y:=by have:=hp.2;omega
   have honp:=chn_up T.parOk hg0 HD.out hy0 HN.out
   rw [hup,Int.toNat_natCast] at honp
   have HU:=Lib.hid hup
   have HON:=Lib.hid honp
   clear hup hp honp
   have SA:=S7.setV (g:=y) (c:=c) hy hc ((A.spots y c).1+(n * 1048576+(A.spots y c).2.1) / A.wt y)
   have SB:=SA.setR (g:=y) (c:=c) hy hc ((n * 1048576+(A.spots y c).2.1) % A.wt y)
   have SC:=SB.spots_congr (tkS A n d g0 c up) (fun g' c' hg' hc' => by
    have:=tkS_step A n d g0 c y T hg0 HD.out hy0 hy HN.out g' c'
    rw [HU.out,Int.toNat_natCast] at this
    rw [this]
    by_cases e:g' =y∧c' =c
    ·obtain ⟨rfl,rfl⟩:=e
     rw [if_pos ⟨rfl,rfl⟩]
     simp only [upd2_same,tkS_on,chg]
    ·rw [if_neg e]
     show upd2 (upd2 (tkS A n d g0 c y) y c _) y c _ g' c' =_
     rw [upd2_other _ _ _ _ _ _ e,upd2_other _ _ _ _ _ _ e])
   have mE:=Mod.trans (S7.modSi (g:=y) hy (c * 3) (.int .u64 ((A.spots y c).1+(n * 1048576+(A.spots y c).2.1) / A.wt y))) (SA.modSi (g:=y) hy (c * 3+1) (.int .u32 ((n * 1048576+(A.spots y c).2.1) % A.wt y))) (fun _ _ h=> h)
   go_upto_region 17 with fail
   have Xw:=(X7.setOther (p:=⟨B.si y,c * 3,none⟩) ne1 (.int .u64 ((A.spots y c).1+(n * 1048576+(A.spots y c).2.1) / A.wt y))).setOther (p:=⟨B.si y,c * 3+1,none⟩) ne1 (.int .u32 ((n * 1048576+(A.spots y c).2.1) % A.wt y))
   have Ow:=(O7.setOther (p:=⟨B.si y,c * 3,none⟩) ne0 (.int .u64 ((A.spots y c).1+(n * 1048576+(A.spots y c).2.1) / A.wt y))).setOther (p:=⟨B.si y,c * 3+1,none⟩) ne0 (.int .u32 ((n * 1048576+(A.spots y c).2.1) % A.wt y))
   refine wp_world (fun W=> StAt W ow B { A with clocks:=upd1 A.clocks c n,task:=some { t with v:=t.v+(n * 1048576+t.r) / t.weight,r:=(n * 1048576+t.r) % t.weight },spots:=tkS A n d g0 c up }∧Mod (fun b=> ow b≠ .no) w W∧Row W w.heap.size 8 (fl [.int .u8 k, .int .i64 c, .int .i64 task, .int .i64 group, .int .i64 weight, .int .i64 tO, .int .i64 n, .int .u64 mask])∧Row W m 8 (fl (mrow B A)))
    ⟨SC.no (Mod.refl No _).drew,(Mod.trans mk (Mod.trans (mx.no _) mE (fun _ _ h=> h)) (fun _ _ h=> h)).drew,Ow.drew,Xw.drew⟩ ?_
   intro W ⟨SW,mW,OW,XW⟩
   clear Xw Ow SA SB SC mE X7 O7 S7 RB lRB ne0 ne1 ne4 tsi lsi
   have lXW:=XW.lt
   have x2:W.cell? ⟨m,2,none⟩=some (slc B.gb A.G B.gcap):=XW.cL 2 _ (by omega) rfl
   have p0:=(SW.gp (g:=y) hy).1
   simp only at p0
   rw [HU.out] at p0
   go_wp2
   refine ⟨⟨up,rfl,by omega,HON.out,mW,OW,XW,SW⟩,by simp only [RowKit.intOf];omega⟩
  ·obtain rfl:y=0:=by omega
   go_wp2
   go_ret2
   exact ⟨rfl,Mk,mk⟩
end
end Go.Q
