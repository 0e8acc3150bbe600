/- A part of the proof that TopGreat answers true: what some of the functions on its road compute. -/
import Derived.Test.YtckddephdbhagaaGreatDoorQ8
set_option linter.unusedVariables false
set_option linter.unusedSimpArgs false
namespace Go.Q
open Go.RowKit Go.Proofs
section
variable {A:ASt} {d:Nat}
set_option maxRecDepth 100000 in
set_option maxHeartbeats 4000000 in
theorem r_tick (h:One1 A d) (t:TK) (ht:A.task=some t) (k task group weight tO n mask:Int) (c g0:Nat) (hc:c < A.C) (htg:t.group=g0) (hg0:g0 < A.G) (hd:Dep A.par g0 d) (hcur:A.current c=t.id) (hclk:A.clocks c=0) (n1:1≤n) (n2:n≤1000000)
  (hE:REnt t.v t.r t.weight∧t.v≤1000000000000000) (hS:∀ g,0 < g→g < A.G→REnt (A.spots g c).1 (A.spots g c).2.1 (A.wt g)∧(A.spots g c).1≤1000000000000000)
  (w:World) (ow:Nat→SOwn) (B:STB) (hs:StAt w ow B A):
  Calls Tryz.prog 65 #[stv B A,opv k c task group weight tO n mask] w fun e w' => e= .returned (.tuple #[stv B A, .int .i64 t.id, .int .i64 0])∧
   StAt w' ow B { A with clocks:=upd1 A.clocks c n,task:=some { t with v:=t.v+(n * 1048576+t.r) / t.weight,r:=(n * 1048576+t.r) % t.weight },spots:=tkS A n d g0 c 0 }∧Mod (fun b=> ow b≠ .no) w w' :=by
 obtain ⟨tb,tc,htv,howt,_⟩:=hs.t1 ht
 have hid:=(h.ok t ht).2.2.2.2
 have T:=h.T
 have hE1:=hE.1.w1
 have hE2:=hE.1.w2
 have HI:=Lib.hid (And.intro h (And.intro ht (And.intro htg (And.intro hS (And.intro hE hcur)))))
 have HD:=Lib.hid hd
 have HV:=Lib.hid htv
 have e0:(t.id==0)=false:=by simp;omega
 have e1:A.clocks c=0:=hclk
 have HC:=Lib.hid (And.intro hclk hcur)
 have ON:=Lib.hid (show ∀ b,w.heap.size≤b→ow b= .no from fun b hb=> Classical.byContradiction fun hh=> by have:=hs.2 _ hh;omega)
 clear h ht htg hS hE hcur hd hclk e1
 have i0:(0:Int)≤c:=by omega
 have i1:(c:Int) < A.C:=by omega
 have hwn:IntKind.i64.wrap n=n:=by rw [IntKind.wrap_i64];omega
 rw [show stv B A= .agg #[.int .i64 A.C, .int .u64 A.cr,slc B.gb A.G B.gcap,slc B.cl A.C B.ccap,slc B.cu A.C B.ucap,slc tb 1 tc,slc B.so A.G B.scap] from by rw [←htv]]
 clear htv
 go_enter Tryz.func65,Tryz.ntmps65
 go_upto_region 1 with fail
 refine wp_world (fun V=> StAt V ow B A∧Mod No w V∧Row V w.heap.size 7 (fl [.int .i64 A.C, .int .u64 A.cr,slc B.gb A.G B.gcap,slc B.cl A.C B.ccap,slc B.cu A.C B.ucap,slc tb 1 tc,slc B.so A.G B.scap])∧Row V (w.heap.size+1) 8 (fl [.int .u8 k, .int .i64 c, .int .i64 task, .int .i64 group, .int .i64 weight, .int .i64 tO, .int .i64 n, .int .u64 mask])∧Row V (w.heap.size+1+1) 7 (fl [.int .i64 0, .int .u64 0, .slice none 0 0, .slice none 0 0, .slice none 0 0, .slice none 0 0, .slice none 0 0])) ?_ ?_
 ·have m:=(((Mod.refl No w).alloc (.cells #[.int .i64 A.C, .int .u64 A.cr,slc B.gb A.G B.gcap,slc B.cl A.C B.ccap,slc B.cu A.C B.ucap,slc tb 1 tc,slc B.so A.G B.scap] 48)).alloc (.cells #[.int .u8 k, .int .i64 c, .int .i64 task, .int .i64 group, .int .i64 weight, .int .i64 tO, .int .i64 n, .int .u64 mask] 58)).alloc (.cells #[.int .i64 0, .int .u64 0, .slice none 0 0, .slice none 0 0, .slice none 0 0, .slice none 0 0, .slice none 0 0] 48)
  exact ⟨hs.no m,m,((row_newL w [_,_,_,_,_,_,_] _).alloc _).alloc _,(row_newL' _ _ [_,_,_,_,_,_,_,_] _ (by simp)).alloc _,row_newL' _ _ [_,_,_,_,_,_,_] _ (by simp)⟩
 intro V ⟨S1,m1,X1,O1,Z1⟩
 have HS:=Lib.hid hs
 clear hs
 have lX:=X1.lt
 have lO:=O1.lt
 have lZ:=Z1.lt
 have o1:=O1.cL 1 _ (by omega) rfl
 have o6:=O1.cL 6 _ (by omega) rfl
 have x0:=X1.cL 0 _ (by omega) rfl
 have x3:=X1.cL 3 _ (by omega) rfl
 have k0:V.cell? ⟨B.cl,c,none⟩=some (.int .i64 0):=by rw [(S1.cp hc).1];exact congrArg (fun x=> some (Value.int .i64 x)) HC.out.1
 have fk:=(S1.1 .cl).2.free c
 have tcl:=(S1.1 .cl).1
 have lcl:=(S1.1 .cl).2.lt
 go_upto_region 5 with fail
 go_quiet (fail)
 go_upto_region 7 with fail
 have mS:∀ m,(V.drewN m).cell? ⟨w.heap.size,3,none⟩=some (slc B.cl A.C B.ccap)∧(V.drewN m).cell? ⟨w.heap.size+1,1,none⟩=some (.int .i64 c)∧(V.drewN m).cell? ⟨w.heap.size+1,6,none⟩=some (.int .i64 n)∧(V.drewN m).cell? ⟨B.cl,c,none⟩=some (.int .i64 0):=fun m=> ⟨x3,o1,o6,k0⟩
 refine wp_region_chain (fun w' => w'.cell? ⟨w.heap.size,3,none⟩=some (slc B.cl A.C B.ccap)∧w'.cell? ⟨w.heap.size+1,1,none⟩=some (.int .i64 c)∧w'.cell? ⟨w.heap.size+1,6,none⟩=some (.int .i64 n)∧w'.cell? ⟨B.cl,c,none⟩=some (.int .i64 0)) [14] [13] [14] (rds [0,1,2,3,4,5,6,7,8,9,10,11,12,13] (.ef 14 .nil)) (by kernel_rfl) (by kernel_rfl) ⟨x3,o1,o6,k0⟩ (fun ops hO=> ?_)
 have HO:=Lib.hid hO
 clear hO
 simp only [rds]
 (repeat (first|(refine lxp HO (v:=?_) (fun w'=> ?_) ?_;rotate_left;(focus (go_simp;(try exact rfl);done));try go_simp)|(refine lxr HO (v:=?_) (fun w' hC'=> ?_) ?_;rotate_left;(focus (obtain ⟨c0,c1,c2,c3⟩:=hC';go_simp;(try exact rfl);done));try go_simp)|(refine lxo HO ?_;try go_simp)))
 (refine lxe HO (fun K hK=> ?_);go_simp;refine hK _ _ (.inl (by rfl)) ?_;clear hK K)
 refine wpL_nil ?_
 go_upto_region 8 with fail
 refine wp_world (fun W=> StAt W ow B { A with clocks:=upd1 A.clocks c n }∧Mod (fun b=> ow b≠ .no) V W) ⟨?_, ?_⟩ ?_
 ·first|exact (((S1.no ((Mod.refl No V).drewN _)).setClk hc n).no (Mod.refl No _).drew)|exact ((S1.no ((Mod.refl No V).drewN _).drew).setClk hc n)
 ·have hcl:(fun b=> ow b≠ .no) B.cl:=by show ow B.cl≠ .no;rw [tcl];simp
  first|exact (Mod.setCell ((Mod.refl _ V).drewN _) (p:=⟨B.cl,c,none⟩) (.inr hcl) (.int .i64 n)).drew|exact Mod.setCell ((Mod.refl _ V).drewN _).drew (p:=⟨B.cl,c,none⟩) (.inr hcl) (.int .i64 n)
 intro W ⟨S2,m2⟩
 have X2:=X1.mod m2 (fun h=> h (ON.out _ (by omega)))
 have O2:=O1.mod m2 (fun h=> h (ON.out _ (by omega)))
 have Z2:=Z1.mod m2 (fun h=> h (ON.out _ (by omega)))
 clear x0 x3 o1 o6 k0 fk tcl lcl lX lO lZ mS S1 X1 O1 Z1
 have lX:=X2.lt
 have lO:=O2.lt
 have lZ:=Z2.lt
 have x0:=X2.cL 0 _ (by omega) rfl
 have x1:=X2.cL 1 _ (by omega) rfl
 have x2:=X2.cL 2 _ (by omega) rfl
 have x3:=X2.cL 3 _ (by omega) rfl
 have x4:=X2.cL 4 _ (by omega) rfl
 have x5:=X2.cL 5 _ (by omega) rfl
 have x6:=X2.cL 6 _ (by omega) rfl
 have o1:=O2.cL 1 _ (by omega) rfl
 have cu:W.cell? ⟨B.cu,c,none⟩=some (.int .i64 t.id):=by rw [(S2.cp hc).2];exact congrArg (fun x=> some (Value.int .i64 x)) HC.out.2
 obtain ⟨tb',tc',htv',_,RT⟩:=S2.t1 HI.out.2.1
 obtain ⟨rfl,rfl⟩:tb=tb' ∧tc=tc' :=by rw [show (_:Value)=_ from HV.out] at htv';injection htv' with q1 _ q2;injection q1 with q1;injection q1 with q1;exact ⟨q1,q2⟩
 clear htv'
 go_wp2_with fail
 refine (r_find1 tb tc t A.C A.cr _ _ _ _ _ RT).mono ?_;rintro e w3 ⟨rfl,hb3⟩
 have m3:=Mod.of_below hb3 No
 have S3:=S2.no m3
 have X3:=X2.mod m3 (fun h=> h)
 have O3:=O2.mod m3 (fun h=> h)
 have Z3:=Z2.mod m3 (fun h=> h)
 have RT3:=RT.mod m3 (fun h=> h)
 clear x0 x1 x2 x3 x4 x5 x6 o1 cu lX lO lZ X2 O2 Z2 RT
 have lX:=X3.lt
 have lO:=O3.lt
 have lZ:=Z3.lt
 have lT:=RT3.lt
 have x5:=X3.cL 5 _ (by omega) rfl
 have y0:w3.cell? ⟨tb,0,none⟩=some (.int .i64 t.id):=RT3.cL 0 _ (by omega) rfl
 have y1:w3.cell? ⟨tb,1,none⟩=some (.int .i64 t.group):=RT3.cL 1 _ (by omega) rfl
 have y2:w3.cell? ⟨tb,2,none⟩=some (.int .i64 t.weight):=RT3.cL 2 _ (by omega) rfl
 have y3:w3.cell? ⟨tb,3,none⟩=some (.int .i64 t.cpu):=RT3.cL 3 _ (by omega) rfl
 have y4:w3.cell? ⟨tb,4,none⟩=some (.int .u64 t.mask):=RT3.cL 4 _ (by omega) rfl
 have y5:w3.cell? ⟨tb,5,none⟩=some (.bool t.ready):=RT3.cL 5 _ (by omega) rfl
 have y6:w3.cell? ⟨tb,6,none⟩=some (.int .u64 t.v):=RT3.cL 6 _ (by omega) rfl
 have y7:w3.cell? ⟨tb,7,none⟩=some (.int .u32 t.r):=RT3.cL 7 _ (by omega) rfl
 go_upto_region 13 with fail
 refine wp_world (fun U=> Mod No w3 U∧Row U w3.heap.size 8 (fl (tkc t))) ⟨(Mod.refl No w3).alloc _,row_newL w3 [_,_,_,_,_,_,_,_] _⟩ ?_
 intro U ⟨mU,XT⟩
 obtain ⟨xt,hxt⟩:∃ n,n=w3.heap.size:=⟨_,rfl⟩
 rw [←hxt] at XT ⊢
 have hle:w3.heap.size≤xt:=by omega
 have lXT:=XT.lt
 clear hxt x5 y0 y1 y2 y3 y4 y5 y6 y7 lX lO lZ lT
 have O4:=O3.mod mU (fun h=> h)
 have mS:∀ w',Mod No U w' →w'.cell? ⟨xt,6,none⟩=some (.int .u64 t.v)∧w'.cell? ⟨xt,7,none⟩=some (.int .u32 t.r)∧w'.cell? ⟨xt,2,none⟩=some (.int .i64 t.weight)∧w'.cell? ⟨w.heap.size+1,6,none⟩=some (.int .i64 n):=fun w' hm=> by
  have Q1:=XT.mod hm (fun h=> h)
  exact ⟨Q1.cL 6 _ (by omega) rfl,Q1.cL 7 _ (by omega) rfl,Q1.cL 2 _ (by omega) rfl,(O4.mod hm (fun h=> h)).cL 6 _ (by omega) rfl⟩
 go_cut [10] (fun s10 wx=> ∃ nb,s10=ptr nb∧U.heap.size≤nb∧Row wx nb 3 (fl [.int .u64 (t.v+(n * 1048576+t.r) / t.weight), .int .u32 ((n * 1048576+t.r) % t.weight), .int .u32 t.weight])∧Mod No U wx)
 case first=>
  refine wp_region_chain (fun w' => w'.cell? ⟨xt,6,none⟩=some (.int .u64 t.v)∧w'.cell? ⟨xt,7,none⟩=some (.int .u32 t.r)∧w'.cell? ⟨xt,2,none⟩=some (.int .i64 t.weight)∧w'.cell? ⟨w.heap.size+1,6,none⟩=some (.int .i64 n)) [6,9,13,14] [10,11,12,15] [14] (rds [0,1,2,3,4,5,7,8] (.ef2 6 (.ef2 9 (rds [10,11,12] (.ef 13 (.ef 14 (rds [15] .nil)))) 13 (.ef 9 (rds [10,11,12] (.ef 14 (rds [15] .nil))))) 13 (.ef 6 (.ef 9 (rds [10,11,12] (.ef 14 (rds [15] .nil))))))) (by kernel_rfl) (by kernel_rfl) (mS _ (Mod.refl No U).drew) ?_
  intro OPS hO
  have HO:=Lib.hid hO
  clear hO
  simp only [rds]
  (repeat (first|(refine lxp HO (v:=?_) (fun w'=> ?_) ?_;rotate_left;(focus (go_simp;(try exact rfl);done));try go_simp)|(refine lxr HO (v:=?_) (fun w' hC'=> ?_) ?_;rotate_left;(focus (obtain ⟨c0,c1,c2,c3⟩:=hC';go_simp;(try exact rfl);done));try go_simp)|(refine lxo HO ?_;try go_simp)))
  refine wpL_eff2 ?o1_6 ?o1_13
  case o1_6=>
   refine lxe HO (fun Kx hKx=> ?_)
   go_simp
   refine (r_entity t.v t.r t.weight hE1 hE2 _).mono ?_;rintro e wx1 ⟨rfl,hx1⟩
   have mx1:Mod No U wx1:=Mod.trans (Mod.refl No U).drew (Mod.of_below hx1 No) (fun _ _ h=> h)
   refine hKx _ _ (.inr (mS _ mx1)) ?_
   clear hKx Kx
   refine wpL_eff2 ?o2_9 ?o2_13
   case o2_9=>
    refine lxe HO (fun Kx hKx=> ?_)
    go_simp
    refine (r_add t.v t.r t.weight n HI.out.2.2.2.2.1.1 (by omega) n2 HI.out.2.2.2.2.1.2 _).mono ?_;rintro e wx2 ⟨rfl,hx2⟩
    have mx2:Mod No U wx2:=Mod.trans mx1 (Mod.of_below hx2 No) (fun _ _ h=> h)
    refine hKx _ _ (.inr (mS _ mx2)) ?_
    clear hKx Kx
    (repeat (first|(refine lxp HO (v:=?_) (fun w'=> ?_) ?_;rotate_left;(focus (go_simp;(try exact rfl);done));try go_simp)|(refine lxr HO (v:=?_) (fun w' hC'=> ?_) ?_;rotate_left;(focus (obtain ⟨c0,c1,c2,c3⟩:=hC';go_simp;(try exact rfl);done));try go_simp)|(refine lxo HO ?_;try go_simp)))
    (refine lxe HO (fun K hK=> ?_);go_simp;refine hK _ _ ?_ ?_;all_goals clear hK K)
    ·exact .inr (mS _ (Mod.alloc mx2 _))
    (refine lxe HO (fun K hK=> ?_);go_simp;refine hK _ _ (.inl (by rfl)) ?_;clear hK K)
    (repeat (first|(refine lxp HO (v:=?_) (fun w'=> ?_) ?_;rotate_left;(focus (go_simp;(try exact rfl);done));try go_simp)|(refine lxr HO (v:=?_) (fun w' hC'=> ?_) ?_;rotate_left;(focus (obtain ⟨c0,c1,c2,c3⟩:=hC';go_simp;(try exact rfl);done));try go_simp)|(refine lxo HO ?_;try go_simp)))
    refine wpL_nil ?_
    go_wp2_with fail
    go_meet
    exact ⟨wx2.heap.size,rfl,by have:=mx1.size;have:=mx2.size;(try simp only [World.size_drew]);(try omega),row_newL' wx2 wx2.heap.size [_,_,_] _ (by simp),by have:=mx1.size;have:=mx2.size;(try simp only [World.size_drew] at *);(repeat first|(with_reducible exact mx2)|(with_reducible refine Mod.alloc ?_ _)|(with_reducible refine Mod.drew ?_)|(with_reducible refine Mod.drewN ?_ _)|(with_reducible refine Mod.sc ?_))⟩
   case o2_13=>
    (refine lxe HO (fun K hK=> ?_);go_simp;refine hK _ _ ?_ ?_;all_goals clear hK K)
    ·exact .inr (mS _ (Mod.alloc mx1 _))
    refine lxe HO (fun Kx hKx=> ?_)
    go_simp
    refine (r_add t.v t.r t.weight n HI.out.2.2.2.2.1.1 (by omega) n2 HI.out.2.2.2.2.1.2 _).mono ?_;rintro e wx3 ⟨rfl,hx3⟩
    have mx3:Mod No U wx3:=Mod.trans (Mod.alloc mx1 _) (Mod.of_below hx3 No) (fun _ _ h=> h)
    have Na13_3:Row wx3 wx1.heap.size _ (fl [.int .u64 0, .int .u32 0, .int .u32 0]):=Row.mod (row_newL' wx1 wx1.heap.size [_,_,_] 223 (by simp)) (Mod.of_below hx3 No) (fun h=> h)
    have na13_3_0:=Na13_3.cL 0 _ (by simp) rfl
    have nf13_3_0:=Na13_3.free 0
    have na13_3_1:=Na13_3.cL 1 _ (by simp) rfl
    have nf13_3_1:=Na13_3.free 1
    have na13_3_2:=Na13_3.cL 2 _ (by simp) rfl
    have nf13_3_2:=Na13_3.free 2
    have nl13_3:=Na13_3.lt
    have hz3:=mx3.size
    refine hKx _ _ (.inr (mS _ mx3)) ?_
    clear hKx Kx
    (repeat (first|(refine lxp HO (v:=?_) (fun w'=> ?_) ?_;rotate_left;(focus (go_simp;(try exact rfl);done));try go_simp)|(refine lxr HO (v:=?_) (fun w' hC'=> ?_) ?_;rotate_left;(focus (obtain ⟨c0,c1,c2,c3⟩:=hC';go_simp;(try exact rfl);done));try go_simp)|(refine lxo HO ?_;try go_simp)))
    (refine lxe HO (fun K hK=> ?_);go_simp;refine hK _ _ (.inl (by rfl)) ?_;clear hK K)
    (repeat (first|(refine lxp HO (v:=?_) (fun w'=> ?_) ?_;rotate_left;(focus (go_simp;(try exact rfl);done));try go_simp)|(refine lxr HO (v:=?_) (fun w' hC'=> ?_) ?_;rotate_left;(focus (obtain ⟨c0,c1,c2,c3⟩:=hC';go_simp;(try exact rfl);done));try go_simp)|(refine lxo HO ?_;try go_simp)))
    refine wpL_nil ?_
    go_wp2_with fail
    go_meet
    exact ⟨wx1.heap.size,rfl,by have:=mx1.size;have:=mx3.size;(try simp only [World.size_drew]);(try omega),(((Na13_3.set (i:=0) (by simp) _).set (i:=1) (by simp) _).set (i:=2) (by simp) _).congr (by apply le3 <;> rfl),by have:=mx1.size;have:=mx3.size;(try simp only [World.size_drew] at *);(repeat first|(with_reducible exact mx3)|(with_reducible refine Mod.alloc ?_ _)|(with_reducible refine Mod.drew ?_)|(with_reducible refine Mod.drewN ?_ _)|(with_reducible refine Mod.sc ?_))⟩
  case o1_13=>
   (refine lxe HO (fun K hK=> ?_);go_simp;refine hK _ _ ?_ ?_;all_goals clear hK K)
   ·exact .inr (mS _ (Mod.alloc (Mod.refl No U).drew _))
   refine lxe HO (fun Kx hKx=> ?_)
   go_simp
   refine (r_entity t.v t.r t.weight hE1 hE2 _).mono ?_;rintro e wx4 ⟨rfl,hx4⟩
   have mx4:Mod No U wx4:=Mod.trans (Mod.alloc (Mod.refl No U).drew _) (Mod.of_below hx4 No) (fun _ _ h=> h)
   have Na13_4:Row wx4 U.heap.size _ (fl [.int .u64 0, .int .u32 0, .int .u32 0]):=Row.mod (row_newL' U.drew U.heap.size [_,_,_] 223 (by simp)) (Mod.of_below hx4 No) (fun h=> h)
   have na13_4_0:=Na13_4.cL 0 _ (by simp) rfl
   have nf13_4_0:=Na13_4.free 0
   have na13_4_1:=Na13_4.cL 1 _ (by simp) rfl
   have nf13_4_1:=Na13_4.free 1
   have na13_4_2:=Na13_4.cL 2 _ (by simp) rfl
   have nf13_4_2:=Na13_4.free 2
   have nl13_4:=Na13_4.lt
   have hz4:=mx4.size
   refine hKx _ _ (.inr (mS _ mx4)) ?_
   clear hKx Kx
   refine lxe HO (fun Kx hKx=> ?_)
   go_simp
   refine (r_add t.v t.r t.weight n HI.out.2.2.2.2.1.1 (by omega) n2 HI.out.2.2.2.2.1.2 _).mono ?_;rintro e wx5 ⟨rfl,hx5⟩
   have mx5:Mod No U wx5:=Mod.trans mx4 (Mod.of_below hx5 No) (fun _ _ h=> h)
   have Na13_5:=Na13_4.mod (Mod.of_below hx5 No) (fun h=> h)
   have na13_5_0:=Na13_5.cL 0 _ (by simp) rfl
   have nf13_5_0:=Na13_5.free 0
   have na13_5_1:=Na13_5.cL 1 _ (by simp) rfl
   have nf13_5_1:=Na13_5.free 1
   have na13_5_2:=Na13_5.cL 2 _ (by simp) rfl
   have nf13_5_2:=Na13_5.free 2
   have nl13_5:=Na13_5.lt
   have hz5:=mx5.size
   refine hKx _ _ (.inr (mS _ mx5)) ?_
   clear hKx Kx
   (repeat (first|(refine lxp HO (v:=?_) (fun w'=> ?_) ?_;rotate_left;(focus (go_simp;(try exact rfl);done));try go_simp)|(refine lxr HO (v:=?_) (fun w' hC'=> ?_) ?_;rotate_left;(focus (obtain ⟨c0,c1,c2,c3⟩:=hC';go_simp;(try exact rfl);done));try go_simp)|(refine lxo HO ?_;try go_simp)))
   (refine lxe HO (fun K hK=> ?_);go_simp;refine hK _ _ (.inl (by rfl)) ?_;clear hK K)
   (repeat (first|(refine lxp HO (v:=?_) (fun w'=> ?_) ?_;rotate_left;(focus (go_simp;(try exact rfl);done));try go_simp)|(refine lxr HO (v:=?_) (fun w' hC'=> ?_) ?_;rotate_left;(focus (obtain ⟨c0,c1,c2,c3⟩:=hC';go_simp;(try exact rfl);done));try go_simp)|(refine lxo HO ?_;try go_simp)))
   refine wpL_nil ?_
   go_wp2_with fail
   go_meet
   exact ⟨U.heap.size,rfl,by have:=mx4.size;have:=mx5.size;(try simp only [World.size_drew]);(try omega),(((Na13_5.set (i:=0) (by simp) _).set (i:=1) (by simp) _).set (i:=2) (by simp) _).congr (by apply le3 <;> rfl),by have:=mx4.size;have:=mx5.size;(try simp only [World.size_drew] at *);(repeat first|(with_reducible exact mx5)|(with_reducible refine Mod.alloc ?_ _)|(with_reducible refine Mod.drew ?_)|(with_reducible refine Mod.drewN ?_ _)|(with_reducible refine Mod.sc ?_))⟩
 case rest=>
  obtain ⟨nb,rfl,hnb,RB,mx⟩:=hcut
  have m4:Mod No w3 wc:=Mod.trans mU mx (fun _ _ h=> h)
  have S4:=S3.no m4
  have X4:=X3.mod m4 (fun h=> h)
  have O4' :=O3.mod m4 (fun h=> h)
  have Z4:=Z3.mod m4 (fun h=> h)
  have XT4:=XT.mod mx (fun h=> h)
  have RT4:=RT3.mod m4 (fun h=> h)
  clear mS O4
  have hw1:=hE1
  have mS:∀ w',Mod No wc w' →w'.cell? ⟨w.heap.size,5,none⟩=some (slc tb 1 tc)∧w'.cell? ⟨xt,0,none⟩=some (.int .i64 t.id)∧w'.cell? ⟨xt,1,none⟩=some (.int .i64 t.group)∧w'.cell? ⟨xt,2,none⟩=some (.int .i64 t.weight)∧w'.cell? ⟨xt,3,none⟩=some (.int .i64 t.cpu)∧w'.cell? ⟨xt,4,none⟩=some (.int .u64 t.mask)∧w'.cell? ⟨xt,5,none⟩=some (.bool t.ready)∧w'.cell? ⟨xt,6,none⟩=some (.int .u64 t.v)∧w'.cell? ⟨xt,7,none⟩=some (.int .u32 t.r)
    ∧w'.cell? ⟨nb,0,none⟩=some (.int .u64 (t.v+(n * 1048576+t.r) / t.weight))∧w'.cell? ⟨nb,1,none⟩=some (.int .u32 ((n * 1048576+t.r) % t.weight))∧w'.cell? ⟨nb,2,none⟩=some (.int .u32 t.weight):=fun w' hm=> by
   have Q1:=XT4.mod hm (fun h=> h)
   have Q2:=RB.mod hm (fun h=> h)
   exact ⟨(X4.mod hm (fun h=> h)).cL 5 _ (by omega) rfl,Q1.cL 0 _ (by omega) rfl,Q1.cL 1 _ (by omega) rfl,Q1.cL 2 _ (by omega) rfl,Q1.cL 3 _ (by omega) rfl,Q1.cL 4 _ (by omega) rfl,Q1.cL 5 _ (by omega) rfl,Q1.cL 6 _ (by omega) rfl,Q1.cL 7 _ (by omega) rfl,Q2.cL 0 _ (by omega) rfl,Q2.cL 1 _ (by omega) rfl,Q2.cL 2 _ (by omega) rfl⟩
  go_upto_region 14 with fail
  refine wp_region_chain (fun w' => w'.cell? ⟨w.heap.size,5,none⟩=some (slc tb 1 tc)∧w'.cell? ⟨xt,0,none⟩=some (.int .i64 t.id)∧w'.cell? ⟨xt,1,none⟩=some (.int .i64 t.group)∧w'.cell? ⟨xt,2,none⟩=some (.int .i64 t.weight)∧w'.cell? ⟨xt,3,none⟩=some (.int .i64 t.cpu)∧w'.cell? ⟨xt,4,none⟩=some (.int .u64 t.mask)∧w'.cell? ⟨xt,5,none⟩=some (.bool t.ready)∧w'.cell? ⟨xt,6,none⟩=some (.int .u64 t.v)∧w'.cell? ⟨xt,7,none⟩=some (.int .u32 t.r)
    ∧w'.cell? ⟨nb,0,none⟩=some (.int .u64 (t.v+(n * 1048576+t.r) / t.weight))∧w'.cell? ⟨nb,1,none⟩=some (.int .u32 ((n * 1048576+t.r) % t.weight))∧w'.cell? ⟨nb,2,none⟩=some (.int .u32 t.weight)) [5,7] [6] [7] (rds [0,1,2,3,4] (.ef 5 (rds [6] (.ef 7 .nil)))) (by kernel_rfl) (by kernel_rfl) (mS _ (Mod.refl No wc).drew) (fun ops hO=> ?_)
  have HO:=Lib.hid hO
  clear hO
  simp only [rds]
  (repeat (first|(refine lxp HO (v:=?_) (fun w'=> ?_) ?_;rotate_left;(focus (go_simp;(try exact rfl);done));try go_simp)|(refine lxr HO (v:=?_) (fun w' hC'=> ?_) ?_;rotate_left;(focus (obtain ⟨c0,c1,c2,c3,c4,c5,c6,c7,c8,c9,c10,c11⟩:=hC';go_simp;(try exact rfl);done));try go_simp)|(refine lxo HO ?_;try go_simp)))
  refine lxe HO (fun Kx hKx=> ?_)
  go_simp
  refine (r_put t.id t.group t.weight t.cpu t.mask t.v t.r (t.v+(n * 1048576+t.r) / t.weight) ((n * 1048576+t.r) % t.weight) t.weight t.ready hE1 hE2 _).mono ?_;rintro e w5 ⟨rfl,hb5⟩
  have m5:Mod No wc w5:=Mod.trans (Mod.refl No wc).drew (Mod.of_below hb5 No) (fun _ _ h=> h)
  have RT5:=RT4.mod m5 (fun h=> h)
  have lT5:=RT5.lt
  have y0:w5.cell? ⟨tb,0,none⟩=some (.int .i64 t.id):=RT5.cL 0 _ (by omega) rfl
  have f0:=RT5.free 0
  have y1:w5.cell? ⟨tb,1,none⟩=some (.int .i64 t.group):=RT5.cL 1 _ (by omega) rfl
  have f1:=RT5.free 1
  have y2:w5.cell? ⟨tb,2,none⟩=some (.int .i64 t.weight):=RT5.cL 2 _ (by omega) rfl
  have f2:=RT5.free 2
  have y3:w5.cell? ⟨tb,3,none⟩=some (.int .i64 t.cpu):=RT5.cL 3 _ (by omega) rfl
  have f3:=RT5.free 3
  have y4:w5.cell? ⟨tb,4,none⟩=some (.int .u64 t.mask):=RT5.cL 4 _ (by omega) rfl
  have f4:=RT5.free 4
  have y5:w5.cell? ⟨tb,5,none⟩=some (.bool t.ready):=RT5.cL 5 _ (by omega) rfl
  have f5:=RT5.free 5
  have y6:w5.cell? ⟨tb,6,none⟩=some (.int .u64 t.v):=RT5.cL 6 _ (by omega) rfl
  have f6:=RT5.free 6
  have y7:w5.cell? ⟨tb,7,none⟩=some (.int .u32 t.r):=RT5.cL 7 _ (by omega) rfl
  have f7:=RT5.free 7
  refine hKx _ _ (.inr (mS _ m5)) ?_
  clear hKx Kx
  (repeat (first|(refine lxp HO (v:=?_) (fun w'=> ?_) ?_;rotate_left;(focus (go_simp;(try exact rfl);done));try go_simp)|(refine lxr HO (v:=?_) (fun w' hC'=> ?_) ?_;rotate_left;(focus (obtain ⟨c0,c1,c2,c3,c4,c5,c6,c7,c8,c9,c10,c11⟩:=hC';go_simp;(try exact rfl);done));try go_simp)|(refine lxo HO ?_;try go_simp)))
  (refine lxe HO (fun K hK=> ?_);go_simp;refine hK _ _ (.inl (by rfl)) ?_;clear hK K)
  refine wpL_nil ?_
  obtain ⟨S6,m6⟩:=(S4.no m5).setTask HI.out.2.1 HV.out { t with v:=t.v+(n * 1048576+t.r) / t.weight,r:=(n * 1048576+t.r) % t.weight }
  clear y0 y1 y2 y3 y4 y5 y6 y7 f0 f1 f2 f3 f4 f5 f6 f7 mS
  dsimp only at S6 m6
  go_upto_region 15 with fail
  refine wp_world (fun U=> StAt U ow B { A with clocks:=upd1 A.clocks c n,task:=some { t with v:=t.v+(n * 1048576+t.r) / t.weight,r:=(n * 1048576+t.r) % t.weight } }∧Mod (fun b=> ow b≠ .no) w5 U) ⟨S6,m6⟩ ?_
  intro U6 ⟨S6,m6⟩
  have mm6:Mod (fun b=> ow b≠ .no) V U6:=Mod.trans (Mod.trans (Mod.trans (Mod.trans m2 (m3.no _) (fun _ _ h=> h)) (m4.no _) (fun _ _ h=> h)) (m5.no _) (fun _ _ h=> h)) m6 (fun _ _ h=> h)
  have lwV:=m1.size
  have X6:=(X4.mod m5 (fun h=> h)).mod m6 (fun h=> h (ON.out _ (by omega)))
  have O6:=(O4'.mod m5 (fun h=> h)).mod m6 (fun h=> h (ON.out _ (by omega)))
  have Z6:=(Z4.mod m5 (fun h=> h)).mod m6 (fun h=> h (ON.out _ (by omega)))
  have lV3:V.heap.size≤xt:=by have:=m2.size;have:=m3.size;omega
  have XT6:=(XT4.mod m5 (fun h=> h)).mod m6 (fun h=> h (ON.out _ (by omega)))
  have g0' :U6.cell? ⟨xt,1,none⟩=some (.int .i64 g0):=by have:=XT6.cL 1 _ (by omega) rfl;rw [this];exact congrArg (fun x=> some (Value.int .i64 x)) HI.out.2.2.1
  have lXT6:=XT6.lt
  clear X4 O4' Z4 XT4 RT4 RT5 RB S4 X3 O3 Z3 RT3 S3 S2
  go_wp2
  go_loopw [12] (fun s12 wr=> ∃ y:Nat,s12= .int .i64 y∧y < A.G∧chn A.par A.wt d g0 0 0 y≠none∧Mod (fun b=> ow b≠ .no) w wr∧Row wr w.heap.size 7 (fl [.int .i64 A.C, .int .u64 A.cr,slc B.gb A.G B.gcap,slc B.cl A.C B.ccap,slc B.cu A.C B.ucap,slc tb 1 tc,slc B.so A.G B.scap])∧Row wr (w.heap.size+1) 8 (fl [.int .u8 k, .int .i64 c, .int .i64 task, .int .i64 group, .int .i64 weight, .int .i64 tO, .int .i64 n, .int .u64 mask])∧Row wr (w.heap.size+1+1) 7 (fl [.int .i64 0, .int .u64 0, .slice none 0 0, .slice none 0 0, .slice none 0 0, .slice none 0 0, .slice none 0 0])
   ∧StAt wr ow B { A with clocks:=upd1 A.clocks c n,task:=some { t with v:=t.v+(n * 1048576+t.r) / t.weight,r:=(n * 1048576+t.r) % t.weight },spots:=tkS A n d g0 c y }) (fun s12 _=> (RowKit.intOf s12).toNat)
  case atStart=>
   exact ⟨g0,rfl,hg0,chn_self d g0 0 0,Mod.trans (m1.no _) mm6 (fun _ _ h=> h),X6,O6,Z6,S6.spots_congr _ (fun g c' _ _=> (tkS_top A n d g0 c T hg0 HD.out g c').symm)⟩
  case round=>
   obtain ⟨wk,rfl⟩:∃ W,W=wr:=⟨wr,rfl⟩
   obtain ⟨y,rfl,hy,hon,mk,X,O,Z,Sk⟩:=hrel
   clear g0' X6 O6 Z6 XT6 S6 lXT6 lXT mm6 m6 m5 m4 m3 m2 m1 mx mU
   have HN:=Lib.hid hon
   clear hon
   have lX:=X.lt
   have lO:=O.lt
   have lZ:=Z.lt
   have x2:=X.cL 2 _ (by omega) rfl
   have x6:=X.cL 6 _ (by omega) rfl
   have o1:=O.cL 1 _ (by omega) rfl
   have o6:=O.cL 6 _ (by omega) rfl
   by_cases hy0:0 < y
   ·have j0:(0:Int) < y:=by omega
    have j1:(y:Int) < A.G:=by omega
    have wy1:=(T.wtOk y hy).1
    have wy2:=(T.wtOk y hy).2
    have HP:=Lib.hid (HI.out.2.2.2.1 y hy0 hy)
    have hsp:=Sk.sp (g:=y) (c:=c) hy hc
    simp only [tkS_on] at hsp
    obtain ⟨s0,s1,s2,s3⟩:=hsp
    obtain ⟨p0,p1⟩:=Sk.gp (g:=y) hy
    simp only at p0 p1 s0 s1 s2 s3
    go_upto_region 18 with fail
    have lsi:=(Sk.1 (.si y) hy).2.lt
    have mS18:∀ w',Mod No wk w' →w'.cell? ⟨w.heap.size,6,none⟩=some (slc B.so A.G B.scap)∧w'.cell? ⟨B.so,y,none⟩=some (slc (B.si y) A.C (B.sc y))∧w'.cell? ⟨w.heap.size+1,1,none⟩=some (.int .i64 c)∧w'.cell? ⟨B.si y,c * 3,none⟩=some (.int .u64 (A.spots y c).1)∧w'.cell? ⟨B.si y,c * 3+1,none⟩=some (.int .u32 (A.spots y c).2.1)∧w'.cell? ⟨B.si y,c * 3+2,none⟩=some (.int .u64 (A.spots y c).2.2):=fun w' hm=> by
     have hq:=(Sk.no hm).sp (g:=y) (c:=c) hy hc
     simp only [tkS_on] at hq
     exact ⟨(X.mod hm (fun h=> h)).cL 6 _ (by omega) rfl,hq.1,(O.mod hm (fun h=> h)).cL 1 _ (by omega) rfl,hq.2.1,hq.2.2.1,hq.2.2.2⟩
    refine wp_region_chain (fun w' => w'.cell? ⟨w.heap.size,6,none⟩=some (slc B.so A.G B.scap)∧w'.cell? ⟨B.so,y,none⟩=some (slc (B.si y) A.C (B.sc y))∧w'.cell? ⟨w.heap.size+1,1,none⟩=some (.int .i64 c)∧w'.cell? ⟨B.si y,c * 3,none⟩=some (.int .u64 (A.spots y c).1)∧w'.cell? ⟨B.si y,c * 3+1,none⟩=some (.int .u32 (A.spots y c).2.1)∧w'.cell? ⟨B.si y,c * 3+2,none⟩=some (.int .u64 (A.spots y c).2.2)) [9,10] [] [10] (rds [0,1,2,3,4,5,6,7,8] (.ef 9 (.ef 10 .nil))) (by kernel_rfl) (by kernel_rfl) (⟨x6,s0,o1,s1,s2,s3⟩) ?_
    intro OPS hO
    have HO:=Lib.hid hO
    clear hO
    simp only [rds]
    (repeat (first|(refine lxp HO (v:=?_) (fun w'=> ?_) ?_;rotate_left;(focus (go_simp;(try exact rfl);done));try go_simp)|(refine lxr HO (v:=?_) (fun w' hC'=> ?_) ?_;rotate_left;(focus (obtain ⟨c0,c1,c2,c3,c4,c5⟩:=hC';go_simp;(try exact rfl);done));try go_simp)|(refine lxo HO ?_;try go_simp)))
    (refine lxe HO (fun K hK=> ?_);go_simp;refine hK _ _ ?_ ?_;all_goals clear hK K)
    ·exact .inr (mS18 _ (Mod.alloc (Mod.refl No wk).drew _))
    (refine lxe HO (fun K hK=> ?_);go_simp;refine hK _ _ (.inl (by rfl)) ?_;clear hK K)
    refine wpL_nil ?_
    go_upto_region 19 with fail
    refine wp_world (fun U=> Mod No wk U∧Row U wk.heap.size 3 (fl [.int .u64 (A.spots y c).1, .int .u32 (A.spots y c).2.1, .int .u64 (A.spots y c).2.2])) ⟨by (repeat first|(with_reducible exact (Mod.refl No wk))|(with_reducible refine Mod.alloc ?_ _)|(with_reducible refine Mod.drew ?_)|(with_reducible refine Mod.drewN ?_ _)|(with_reducible refine Mod.sc ?_)),by (repeat first|(with_reducible exact (row_newL' _ wk.heap.size [_,_,_] _ (by simp)))|exact (row_newL' _ wk.heap.size [_,_,_] _ (by simp))|(with_reducible refine Row.drew ?_)|(with_reducible refine Row.drewN ?_ _))⟩ ?_
    intro U ⟨mU,XB⟩
    obtain ⟨xb,hxb⟩:∃ n,n=wk.heap.size:=⟨_,rfl⟩
    rw [←hxb] at XB ⊢
    have hle:wk.heap.size≤xb:=by omega
    have lXB:=XB.lt
    clear hxb x2 x6 o1 o6 s0 s1 s2 s3 p0 p1 lX lO lZ
    have mS:∀ w',Mod No U w' →w'.cell? ⟨xb,0,none⟩=some (.int .u64 (A.spots y c).1)∧w'.cell? ⟨xb,1,none⟩=some (.int .u32 (A.spots y c).2.1)∧w'.cell? ⟨w.heap.size,2,none⟩=some (slc B.gb A.G B.gcap)∧w'.cell? ⟨B.gb,y * 2+1,none⟩=some (.int .i64 (A.wt y))∧w'.cell? ⟨w.heap.size+1,6,none⟩=some (.int .i64 n):=fun w' hm=> by
     have Q1:=XB.mod hm (fun h=> h)
     have Q2:=(X.mod mU (fun h=> h)).mod hm (fun h=> h)
     have Q3:=(O.mod mU (fun h=> h)).mod hm (fun h=> h)
     have Q4:=((Sk.no mU).no hm).gp (g:=y) hy
     exact ⟨Q1.cL 0 _ (by omega) rfl,Q1.cL 1 _ (by omega) rfl,Q2.cL 2 _ (by omega) rfl,Q4.2,Q3.cL 6 _ (by omega) rfl⟩
    go_cut [14] (fun s14 wx=> ∃ nb,s14=ptr nb∧U.heap.size≤nb∧Row wx nb 3 (fl [.int .u64 ((A.spots y c).1+(n * 1048576+(A.spots y c).2.1) / A.wt y), .int .u32 ((n * 1048576+(A.spots y c).2.1) % A.wt y), .int .u32 (A.wt y)])∧Mod No U wx)
    case first=>
     refine wp_region_chain (fun w' => w'.cell? ⟨xb,0,none⟩=some (.int .u64 (A.spots y c).1)∧w'.cell? ⟨xb,1,none⟩=some (.int .u32 (A.spots y c).2.1)∧w'.cell? ⟨w.heap.size,2,none⟩=some (slc B.gb A.G B.gcap)∧w'.cell? ⟨B.gb,y * 2+1,none⟩=some (.int .i64 (A.wt y))∧w'.cell? ⟨w.heap.size+1,6,none⟩=some (.int .i64 n)) [11,14,18,19] [15,16,17,20] [19] (rds [0,1,2,3,4,5,6,7,8,9,10,12,13] (.ef2 11 (.ef2 14 (rds [15,16,17] (.ef 18 (.ef 19 (rds [20] .nil)))) 18 (.ef 14 (rds [15,16,17] (.ef 19 (rds [20] .nil))))) 18 (.ef 11 (.ef 14 (rds [15,16,17] (.ef 19 (rds [20] .nil))))))) (by kernel_rfl) (by kernel_rfl) (mS _ (Mod.refl No U).drew) ?_
     intro OPS hO
     have HO:=Lib.hid hO
     clear hO
     simp only [rds]
     (repeat (first|(refine lxp HO (v:=?_) (fun w'=> ?_) ?_;rotate_left;(focus (go_simp;(try exact rfl);done));try go_simp)|(refine lxr HO (v:=?_) (fun w' hC'=> ?_) ?_;rotate_left;(focus (obtain ⟨c0,c1,c2,c3,c4⟩:=hC';go_simp;(try exact rfl);done));try go_simp)|(refine lxo HO ?_;try go_simp)))
     refine wpL_eff2 ?o3_11 ?o3_18
     case o3_11=>
      refine lxe HO (fun Kx hKx=> ?_)
      go_simp
      refine (r_entity (A.spots y c).1 (A.spots y c).2.1 (A.wt y) wy1 wy2 _).mono ?_;rintro e wx1 ⟨rfl,hx1⟩
      have mx1:Mod No U wx1:=Mod.trans (Mod.refl No U).drew (Mod.of_below hx1 No) (fun _ _ h=> h)
      refine hKx _ _ (.inr (mS _ mx1)) ?_
      clear hKx Kx
      refine wpL_eff2 ?o4_14 ?o4_18
      case o4_14=>
       refine lxe HO (fun Kx hKx=> ?_)
       go_simp
       refine (r_add (A.spots y c).1 (A.spots y c).2.1 (A.wt y) n HP.out.1 (by omega) n2 HP.out.2 _).mono ?_;rintro e wx2 ⟨rfl,hx2⟩
       have mx2:Mod No U wx2:=Mod.trans mx1 (Mod.of_below hx2 No) (fun _ _ h=> h)
       refine hKx _ _ (.inr (mS _ mx2)) ?_
       clear hKx Kx
       (repeat (first|(refine lxp HO (v:=?_) (fun w'=> ?_) ?_;rotate_left;(focus (go_simp;(try exact rfl);done));try go_simp)|(refine lxr HO (v:=?_) (fun w' hC'=> ?_) ?_;rotate_left;(focus (obtain ⟨c0,c1,c2,c3,c4⟩:=hC';go_simp;(try exact rfl);done));try go_simp)|(refine lxo HO ?_;try go_simp)))
       (refine lxe HO (fun K hK=> ?_);go_simp;refine hK _ _ ?_ ?_;all_goals clear hK K)
       ·exact .inr (mS _ (Mod.alloc mx2 _))
       (refine lxe HO (fun K hK=> ?_);go_simp;refine hK _ _ (.inl (by rfl)) ?_;clear hK K)
       (repeat (first|(refine lxp HO (v:=?_) (fun w'=> ?_) ?_;rotate_left;(focus (go_simp;(try exact rfl);done));try go_simp)|(refine lxr HO (v:=?_) (fun w' hC'=> ?_) ?_;rotate_left;(focus (obtain ⟨c0,c1,c2,c3,c4⟩:=hC';go_simp;(try exact rfl);done));try go_simp)|(refine lxo HO ?_;try go_simp)))
       refine wpL_nil ?_
       go_wp2_with fail
       go_meet
       exact ⟨wx2.heap.size,rfl,by have:=mx1.size;have:=mx2.size;(try simp only [World.size_drew]);(try omega),row_newL' wx2 wx2.heap.size [_,_,_] _ (by simp),by have:=mx1.size;have:=mx2.size;(try simp only [World.size_drew] at *);(repeat first|(with_reducible exact mx2)|(with_reducible refine Mod.alloc ?_ _)|(with_reducible refine Mod.drew ?_)|(with_reducible refine Mod.drewN ?_ _)|(with_reducible refine Mod.sc ?_))⟩
      case o4_18=>
       (refine lxe HO (fun K hK=> ?_);go_simp;refine hK _ _ ?_ ?_;all_goals clear hK K)
       ·exact .inr (mS _ (Mod.alloc mx1 _))
       refine lxe HO (fun Kx hKx=> ?_)
       go_simp
       refine (r_add (A.spots y c).1 (A.spots y c).2.1 (A.wt y) n HP.out.1 (by omega) n2 HP.out.2 _).mono ?_;rintro e wx3 ⟨rfl,hx3⟩
       have mx3:Mod No U wx3:=Mod.trans (Mod.alloc mx1 _) (Mod.of_below hx3 No) (fun _ _ h=> h)
       have Na18_3:Row wx3 wx1.heap.size _ (fl [.int .u64 0, .int .u32 0, .int .u32 0]):=Row.mod (row_newL' wx1 wx1.heap.size [_,_,_] 223 (by simp)) (Mod.of_below hx3 No) (fun h=> h)
       have na18_3_0:=Na18_3.cL 0 _ (by simp) rfl
       have nf18_3_0:=Na18_3.free 0
       have na18_3_1:=Na18_3.cL 1 _ (by simp) rfl
       have nf18_3_1:=Na18_3.free 1
       have na18_3_2:=Na18_3.cL 2 _ (by simp) rfl
       have nf18_3_2:=Na18_3.free 2
       have nl18_3:=Na18_3.lt
       have hz3:=mx3.size
       refine hKx _ _ (.inr (mS _ mx3)) ?_
       clear hKx Kx
       (repeat (first|(refine lxp HO (v:=?_) (fun w'=> ?_) ?_;rotate_left;(focus (go_simp;(try exact rfl);done));try go_simp)|(refine lxr HO (v:=?_) (fun w' hC'=> ?_) ?_;rotate_left;(focus (obtain ⟨c0,c1,c2,c3,c4⟩:=hC';go_simp;(try exact rfl);done));try go_simp)|(refine lxo HO ?_;try go_simp)))
       (refine lxe HO (fun K hK=> ?_);go_simp;refine hK _ _ (.inl (by rfl)) ?_;clear hK K)
       (repeat (first|(refine lxp HO (v:=?_) (fun w'=> ?_) ?_;rotate_left;(focus (go_simp;(try exact rfl);done));try go_simp)|(refine lxr HO (v:=?_) (fun w' hC'=> ?_) ?_;rotate_left;(focus (obtain ⟨c0,c1,c2,c3,c4⟩:=hC';go_simp;(try exact rfl);done));try go_simp)|(refine lxo HO ?_;try go_simp)))
       refine wpL_nil ?_
       go_wp2_with fail
       go_meet
       exact ⟨wx1.heap.size,rfl,by have:=mx1.size;have:=mx3.size;(try simp only [World.size_drew]);(try omega),(((Na18_3.set (i:=0) (by simp) _).set (i:=1) (by simp) _).set (i:=2) (by simp) _).congr (by apply le3 <;> rfl),by have:=mx1.size;have:=mx3.size;(try simp only [World.size_drew] at *);(repeat first|(with_reducible exact mx3)|(with_reducible refine Mod.alloc ?_ _)|(with_reducible refine Mod.drew ?_)|(with_reducible refine Mod.drewN ?_ _)|(with_reducible refine Mod.sc ?_))⟩
     case o3_18=>
      (refine lxe HO (fun K hK=> ?_);go_simp;refine hK _ _ ?_ ?_;all_goals clear hK K)
      ·exact .inr (mS _ (Mod.alloc (Mod.refl No U).drew _))
      refine lxe HO (fun Kx hKx=> ?_)
      go_simp
      refine (r_entity (A.spots y c).1 (A.spots y c).2.1 (A.wt y) wy1 wy2 _).mono ?_;rintro e wx4 ⟨rfl,hx4⟩
      have mx4:Mod No U wx4:=Mod.trans (Mod.alloc (Mod.refl No U).drew _) (Mod.of_below hx4 No) (fun _ _ h=> h)
      have Na18_4:Row wx4 U.heap.size _ (fl [.int .u64 0, .int .u32 0, .int .u32 0]):=Row.mod (row_newL' U.drew U.heap.size [_,_,_] 223 (by simp)) (Mod.of_below hx4 No) (fun h=> h)
      have na18_4_0:=Na18_4.cL 0 _ (by simp) rfl
      have nf18_4_0:=Na18_4.free 0
      have na18_4_1:=Na18_4.cL 1 _ (by simp) rfl
      have nf18_4_1:=Na18_4.free 1
      have na18_4_2:=Na18_4.cL 2 _ (by simp) rfl
      have nf18_4_2:=Na18_4.free 2
      have nl18_4:=Na18_4.lt
      have hz4:=mx4.size
      refine hKx _ _ (.inr (mS _ mx4)) ?_
      clear hKx Kx
      refine lxe HO (fun Kx hKx=> ?_)
      go_simp
      refine (r_add (A.spots y c).1 (A.spots y c).2.1 (A.wt y) n HP.out.1 (by omega) n2 HP.out.2 _).mono ?_;rintro e wx5 ⟨rfl,hx5⟩
      have mx5:Mod No U wx5:=Mod.trans mx4 (Mod.of_below hx5 No) (fun _ _ h=> h)
      have Na18_5:=Na18_4.mod (Mod.of_below hx5 No) (fun h=> h)
      have na18_5_0:=Na18_5.cL 0 _ (by simp) rfl
      have nf18_5_0:=Na18_5.free 0
      have na18_5_1:=Na18_5.cL 1 _ (by simp) rfl
      have nf18_5_1:=Na18_5.free 1
      have na18_5_2:=Na18_5.cL 2 _ (by simp) rfl
      have nf18_5_2:=Na18_5.free 2
      have nl18_5:=Na18_5.lt
      have hz5:=mx5.size
      refine hKx _ _ (.inr (mS _ mx5)) ?_
      clear hKx Kx
      (repeat (first|(refine lxp HO (v:=?_) (fun w'=> ?_) ?_;rotate_left;(focus (go_simp;(try exact rfl);done));try go_simp)|(refine lxr HO (v:=?_) (fun w' hC'=> ?_) ?_;rotate_left;(focus (obtain ⟨c0,c1,c2,c3,c4⟩:=hC';go_simp;(try exact rfl);done));try go_simp)|(refine lxo HO ?_;try go_simp)))
      (refine lxe HO (fun K hK=> ?_);go_simp;refine hK _ _ (.inl (by rfl)) ?_;clear hK K)
      (repeat (first|(refine lxp HO (v:=?_) (fun w'=> ?_) ?_;rotate_left;(focus (go_simp;(try exact rfl);done));try go_simp)|(refine lxr HO (v:=?_) (fun w' hC'=> ?_) ?_;rotate_left;(focus (obtain ⟨c0,c1,c2,c3,c4⟩:=hC';go_simp;(try exact rfl);done));try go_simp)|(refine lxo HO ?_;try go_simp)))
      refine wpL_nil ?_
      go_wp2_with fail
      go_meet
      exact ⟨U.heap.size,rfl,by have:=mx4.size;have:=mx5.size;(try simp only [World.size_drew]);(try omega),(((Na18_5.set (i:=0) (by simp) _).set (i:=1) (by simp) _).set (i:=2) (by simp) _).congr (by apply le3 <;> rfl),by have:=mx4.size;have:=mx5.size;(try simp only [World.size_drew] at *);(repeat first|(with_reducible exact mx5)|(with_reducible refine Mod.alloc ?_ _)|(with_reducible refine Mod.drew ?_)|(with_reducible refine Mod.drewN ?_ _)|(with_reducible refine Mod.sc ?_))⟩
    case rest=>
     obtain ⟨nb,rfl,hnb,RB,mx⟩:=hcut
     have m7:Mod No wk wc:=Mod.trans mU mx (fun _ _ h=> h)
     have X7:=X.mod m7 (fun h=> h)
     have O7:=O.mod m7 (fun h=> h)
     have Z7:=Z.mod m7 (fun h=> h)
     have S7:=Sk.no m7
     clear mS
     have tsi:=(S7.1 (.si y) hy).1
     have lsi:=(S7.1 (.si y) hy).2.lt
     have tso:=(S7.1 .so).1
     have f0:=(S7.1 (.si y) hy).2.free (c * 3)
     have f1:=(S7.1 (.si y) hy).2.free (c * 3+1)
     have hsp:=S7.sp (g:=y) (c:=c) hy hc
     simp only [tkS_on] at hsp
     obtain ⟨q_,q0,q1,q2_⟩:=hsp
     try simp only at q_ q0 q1 q2_
     have lzk:=mk.size
     have lzU:=mU.size
     have ne0:B.si y≠w.heap.size:=by intro hh;rw [hh,ON.out _ (Nat.le_refl _)] at tsi;simp at tsi
     have ne1:B.si y≠w.heap.size+1:=by intro hh;rw [hh,ON.out _ (by omega)] at tsi;simp at tsi
     have ne2:B.si y≠w.heap.size+1+1:=by intro hh;rw [hh,ON.out _ (by omega)] at tsi;simp at tsi
     have ne3:B.si y≠B.so:=by intro hh;rw [hh,tso] at tsi;simp at tsi
     have ne4:B.si y≠nb:=by intro hh;rw [hh,ON.out _ (by omega)] at tsi;simp at tsi
     have SO:=(S7.1 .so).2
     have lX7:=X7.lt
     have lO7:=O7.lt
     have lRB:=RB.lt
     have lSO:=SO.lt
     have mS:∀ w',Row w' w.heap.size 7 (fl [.int .i64 A.C, .int .u64 A.cr,slc B.gb A.G B.gcap,slc B.cl A.C B.ccap,slc B.cu A.C B.ucap,slc tb 1 tc,slc B.so A.G B.scap])→Row w' (w.heap.size+1) 8 (fl [.int .u8 k, .int .i64 c, .int .i64 task, .int .i64 group, .int .i64 weight, .int .i64 tO, .int .i64 n, .int .u64 mask])→Row w' B.so A.G (fun g=> slc (B.si g) A.C (B.sc g))→Row w' nb 3 (fl [.int .u64 ((A.spots y c).1+(n * 1048576+(A.spots y c).2.1) / A.wt y), .int .u32 ((n * 1048576+(A.spots y c).2.1) % A.wt y), .int .u32 (A.wt y)])→
       w'.cell? ⟨w.heap.size,6,none⟩=some (slc B.so A.G B.scap)∧w'.cell? ⟨B.so,y,none⟩=some (slc (B.si y) A.C (B.sc y))∧w'.cell? ⟨w.heap.size+1,1,none⟩=some (.int .i64 c)∧w'.cell? ⟨nb,0,none⟩=some (.int .u64 ((A.spots y c).1+(n * 1048576+(A.spots y c).2.1) / A.wt y))∧w'.cell? ⟨nb,1,none⟩=some (.int .u32 ((n * 1048576+(A.spots y c).2.1) % A.wt y)):=fun w' h1 h2 h3 h4=>
      ⟨h1.cL 6 _ (by omega) rfl,h3.cell hy,h2.cL 1 _ (by omega) rfl,h4.cL 0 _ (by omega) rfl,h4.cL 1 _ (by omega) rfl⟩
     go_upto_region 20 with fail
     refine wp_region_chain (fun w' => w'.cell? ⟨w.heap.size,6,none⟩=some (slc B.so A.G B.scap)∧w'.cell? ⟨B.so,y,none⟩=some (slc (B.si y) A.C (B.sc y))∧w'.cell? ⟨w.heap.size+1,1,none⟩=some (.int .i64 c)∧w'.cell? ⟨nb,0,none⟩=some (.int .u64 ((A.spots y c).1+(n * 1048576+(A.spots y c).2.1) / A.wt y))∧w'.cell? ⟨nb,1,none⟩=some (.int .u32 ((n * 1048576+(A.spots y c).2.1) % A.wt y))) [20,23] [21,22] [23] (rds [0,1,2,3,4,5,6,7,8,9,10,11,12,13,14,15,16,17,18,19] (.ef 20 (rds [21,22] (.ef 23 .nil)))) (by kernel_rfl) (by kernel_rfl) (mS _ X7.drew O7.drew SO.drew RB.drew) ?_
     intro O' hO
     have HO:=Lib.hid hO
     clear hO
     simp only [rds]
     (repeat (first|(refine lxp HO (v:=?_) (fun w'=> ?_) ?_;rotate_left;(focus (go_simp;(try exact rfl);done));try go_simp)|(refine lxr HO (v:=?_) (fun w' hC'=> ?_) ?_;rotate_left;(focus (obtain ⟨c1,c2,c3,c4,c5⟩:=hC';go_simp;(try exact rfl);done));try go_simp)|(refine lxo HO ?_;try go_simp)))
     (refine lxe HO (fun K hK=> ?_);go_simp;refine hK _ _ ?_ ?_;all_goals clear hK K)
     ·exact .inr (mS _ (X7.drew.setOther (p:=⟨B.si y,c * 3,none⟩) ne0 _) (O7.drew.setOther (p:=⟨B.si y,c * 3,none⟩) ne1 _) (SO.drew.setOther (p:=⟨B.si y,c * 3,none⟩) ne3 _) (RB.drew.setOther (p:=⟨B.si y,c * 3,none⟩) ne4 _))
     (repeat (first|(refine lxp HO (v:=?_) (fun w'=> ?_) ?_;rotate_left;(focus (go_simp;(try exact rfl);done));try go_simp)|(refine lxr HO (v:=?_) (fun w' hC'=> ?_) ?_;rotate_left;(focus (obtain ⟨c1,c2,c3,c4,c5⟩:=hC';go_simp;(try exact rfl);done));try go_simp)|(refine lxo HO ?_;try go_simp)))
     (refine lxe HO (fun K hK=> ?_);go_simp;refine hK _ _ (.inl (by rfl)) ?_;clear hK K)
     refine wpL_nil ?_
     clear f0 f1 q0 q1 mS
     have hp:=T.parOk y hy0 hy
     obtain ⟨up,hup⟩:∃ up:Nat,A.par y=up:=⟨(A.par y).toNat,(Int.toNat_of_nonneg hp.1).symm⟩
     have hupy:up < y:=by have:=hp.2;omega
     have honp:=chn_up T.parOk hg0 HD.out hy0 HN.out
     rw [hup,Int.toNat_natCast] at honp
     have HU:=Lib.hid hup
     have HON:=Lib.hid honp
     clear hup hp honp
     have SA:=S7.setV (g:=y) (c:=c) hy hc ((A.spots y c).1+(n * 1048576+(A.spots y c).2.1) / A.wt y)
     have SB:=SA.setR (g:=y) (c:=c) hy hc ((n * 1048576+(A.spots y c).2.1) % A.wt y)
     have SC:=SB.spots_congr (tkS A n d g0 c up) (fun g' c' hg' hc' => by
      have:=tkS_step A n d g0 c y T hg0 HD.out hy0 hy HN.out g' c'
      rw [HU.out,Int.toNat_natCast] at this
      rw [this]
      by_cases e:g' =y∧c' =c
      ·obtain ⟨rfl,rfl⟩:=e
       rw [if_pos ⟨rfl,rfl⟩]
       simp only [upd2_same,tkS_on,chg]
      ·rw [if_neg e]
       show upd2 (upd2 (tkS A n d g0 c y) y c _) y c _ g' c' =_
       rw [upd2_other _ _ _ _ _ _ e,upd2_other _ _ _ _ _ _ e])
     have mE:=Mod.trans (S7.modSi (g:=y) hy (c * 3) (.int .u64 ((A.spots y c).1+(n * 1048576+(A.spots y c).2.1) / A.wt y))) (SA.modSi (g:=y) hy (c * 3+1) (.int .u32 ((n * 1048576+(A.spots y c).2.1) % A.wt y))) (fun _ _ h=> h)
     go_upto_region 17 with fail
     have Xw:=(X7.setOther (p:=⟨B.si y,c * 3,none⟩) ne0 (.int .u64 ((A.spots y c).1+(n * 1048576+(A.spots y c).2.1) / A.wt y))).setOther (p:=⟨B.si y,c * 3+1,none⟩) ne0 (.int .u32 ((n * 1048576+(A.spots y c).2.1) % A.wt y))
     have Ow:=(O7.setOther (p:=⟨B.si y,c * 3,none⟩) ne1 (.int .u64 ((A.spots y c).1+(n * 1048576+(A.spots y c).2.1) / A.wt y))).setOther (p:=⟨B.si y,c * 3+1,none⟩) ne1 (.int .u32 ((n * 1048576+(A.spots y c).2.1) % A.wt y))
     have Zw:=(Z7.setOther (p:=⟨B.si y,c * 3,none⟩) ne2 (.int .u64 ((A.spots y c).1+(n * 1048576+(A.spots y c).2.1) / A.wt y))).setOther (p:=⟨B.si y,c * 3+1,none⟩) ne2 (.int .u32 ((n * 1048576+(A.spots y c).2.1) % A.wt y))
     refine wp_world (fun W=> StAt W ow B { A with clocks:=upd1 A.clocks c n,task:=some { t with v:=t.v+(n * 1048576+t.r) / t.weight,r:=(n * 1048576+t.r) % t.weight },spots:=tkS A n d g0 c up }∧Mod (fun b=> ow b≠ .no) w W∧Row W w.heap.size 7 (fl [.int .i64 A.C, .int .u64 A.cr,slc B.gb A.G B.gcap,slc B.cl A.C B.ccap,slc B.cu A.C B.ucap,slc tb 1 tc,slc B.so A.G B.scap])∧Row W (w.heap.size+1) 8 (fl [.int .u8 k, .int .i64 c, .int .i64 task, .int .i64 group, .int .i64 weight, .int .i64 tO, .int .i64 n, .int .u64 mask])∧Row W (w.heap.size+1+1) 7 (fl [.int .i64 0, .int .u64 0, .slice none 0 0, .slice none 0 0, .slice none 0 0, .slice none 0 0, .slice none 0 0]))
      ⟨SC.no (Mod.refl No _).drew,(Mod.trans mk (Mod.trans (m7.no _) mE (fun _ _ h=> h)) (fun _ _ h=> h)).drew,Xw.drew,Ow.drew,Zw.drew⟩ ?_
     intro W ⟨SW,mW,XW,OW,ZW⟩
     clear Xw Ow Zw SA SB SC mE X7 O7 Z7 S7 SO RB lX7 lO7 lRB lSO ne0 ne1 ne2 ne3 ne4 tsi tso lsi
     have lXW:=XW.lt
     have x2:=XW.cL 2 _ (by omega) rfl
     have p0:=(SW.gp (g:=y) hy).1
     simp only at p0
     rw [HU.out] at p0
     go_wp2
     refine ⟨⟨up,rfl,by omega,HON.out,mW,XW,OW,ZW,SW⟩,by simp only [RowKit.intOf];omega⟩
   ·obtain rfl:y=0:=by omega
    have x0:=X.cL 0 _ (by omega) rfl
    have x1:=X.cL 1 _ (by omega) rfl
    have x3:=X.cL 3 _ (by omega) rfl
    have x4:=X.cL 4 _ (by omega) rfl
    have x5:=X.cL 5 _ (by omega) rfl
    have z0:=Z.cL 0 _ (by omega) rfl
    have z1:=Z.cL 1 _ (by omega) rfl
    have z2:=Z.cL 2 _ (by omega) rfl
    have z3:=Z.cL 3 _ (by omega) rfl
    have z4:=Z.cL 4 _ (by omega) rfl
    have z5:=Z.cL 5 _ (by omega) rfl
    have z6:=Z.cL 6 _ (by omega) rfl
    have zf0:=Z.free 0
    have zf1:=Z.free 1
    have zf2:=Z.free 2
    have zf3:=Z.free 3
    have zf4:=Z.free 4
    have zf5:=Z.free 5
    have zf6:=Z.free 6
    go_wp2
    have ZZ:=((((((Z.set (i:=0) (by omega) (.int .i64 A.C)).set (i:=1) (by omega) (.int .u64 A.cr)).set (i:=2) (by omega) (slc B.gb A.G B.gcap)).set (i:=3) (by omega) (slc B.cl A.C B.ccap)).set (i:=4) (by omega) (slc B.cu A.C B.ucap)).set (i:=5) (by omega) (slc tb 1 tc)).set (i:=6) (by omega) (slc B.so A.G B.scap)
    have ZZ' :=Row.congr (G:=fl [.int .i64 A.C, .int .u64 A.cr,slc B.gb A.G B.gcap,slc B.cl A.C B.ccap,slc B.cu A.C B.ucap,slc tb 1 tc,slc B.so A.G B.scap]) ZZ (by apply le7 <;> rfl)
    have mZ:∀ (S:Nat→Prop) (w0:World),(w0.heap.size≤w.heap.size+1+1∨S (w.heap.size+1+1))→Mod S w0 wk→Mod S w0 _:=fun S w0 hS m=> ((((((m.setCell (p:=⟨w.heap.size+1+1,0,none⟩) hS (.int .i64 A.C)).setCell (p:=⟨w.heap.size+1+1,1,none⟩) hS (.int .u64 A.cr)).setCell (p:=⟨w.heap.size+1+1,2,none⟩) hS (slc B.gb A.G B.gcap)).setCell (p:=⟨w.heap.size+1+1,3,none⟩) hS (slc B.cl A.C B.ccap)).setCell (p:=⟨w.heap.size+1+1,4,none⟩) hS (slc B.cu A.C B.ucap)).setCell (p:=⟨w.heap.size+1+1,5,none⟩) hS (slc tb 1 tc)).setCell (p:=⟨w.heap.size+1+1,6,none⟩) hS (slc B.so A.G B.scap)
    have SZ:=Sk.mod (mZ (fun b=> b=w.heap.size+1+1) wk (.inr rfl) (Mod.refl _ _)) (fun b hb=> by rw [hb];exact ON.out _ (by omega))
    have MZ:=mZ _ w (.inl (by omega)) mk
    refine bodyPost_world (fun W=> StAt W ow B { A with clocks:=upd1 A.clocks c n,task:=some { t with v:=t.v+(n * 1048576+t.r) / t.weight,r:=(n * 1048576+t.r) % t.weight },spots:=tkS A n d g0 c 0 }∧Mod (fun b=> ow b≠ .no) w W∧Row W (w.heap.size+1+1) 7 (fl [.int .i64 A.C, .int .u64 A.cr,slc B.gb A.G B.gcap,slc B.cl A.C B.ccap,slc B.cu A.C B.ucap,slc tb 1 tc,slc B.so A.G B.scap])) ⟨SZ,MZ,ZZ'⟩ ?_
    intro W ⟨SW,MW,ZW⟩
    clear ZZ ZZ' mZ SZ MZ z0 z1 z2 z3 z4 z5 z6 zf0 zf1 zf2 zf3 zf4 zf5 zf6 x0 x1 x2 x3 x4 x5 x6 o1 o6
    have z0:=ZW.cL 0 _ (by omega) rfl
    have z1:=ZW.cL 1 _ (by omega) rfl
    have z2:=ZW.cL 2 _ (by omega) rfl
    have z3:=ZW.cL 3 _ (by omega) rfl
    have z4:=ZW.cL 4 _ (by omega) rfl
    have z5:=ZW.cL 5 _ (by omega) rfl
    have z6:=ZW.cL 6 _ (by omega) rfl
    refine bodyPost_ret (v:= .tuple #[.agg #[.int .i64 A.C, .int .u64 A.cr,slc B.gb A.G B.gcap,slc B.cl A.C B.ccap,slc B.cu A.C B.ucap,slc tb 1 tc,slc B.so A.G B.scap], .int .i64 t.id, .int .i64 0]) (by rw [results_cell_tmp2 rfl];go_simp) rfl ⟨rfl,SW,MW⟩
end
end Go.Q
