/- A part of the proof that TopGreat answers true: what some of the functions on its road compute. -/
import Derived.Deep.DeepCutAuto
import Derived.Test.YtckddephdbhagaaGreatDoorQ2
import Derived.Test.YtckddephdbhagaaGreatDoorQ21
set_option linter.unusedVariables false
set_option linter.unusedSimpArgs false
namespace Go.Q
open Go.RowKit Go.Proofs
def cutW (w:World) (n:Nat):World:= { w with heap:=w.heap.extract 0 n }
theorem cutW_size (w:World) (n:Nat) (h:n≤w.heap.size):(cutW w n).heap.size=n:=by simp [cutW];omega
theorem cutW_mod (w:World) (n:Nat) (h:n≤w.heap.size):Mod No (cutW w n) w:=by
 refine ⟨rfl,rfl,rfl,by rw [cutW_size w n h];exact h,fun b hb _=> ?_⟩
 rw [cutW_size w n h] at hb
 simp only [cutW]
 rw [Array.getElem?_extract]
 simp
 omega
theorem spt_zero (i:Nat):(#[.int .u64 0, .int .u32 0, .int .u64 0]:Array Value)[i % (#[.int .u64 0, .int .u32 0, .int .u64 0]:Array Value).size]! =spt (fun _=> (0,0,0)) i:=by
 unfold spt
 have:i % 3=0∨i % 3=1∨i % 3=2:=by omega
 rcases this with h|h|h <;> simp [h]
abbrev AZ (C G:Nat) (cr:Int) (par wt:Nat→Int):ASt:=⟨C,G,cr,par,wt,fun _=> 0,fun _=> 0,none,fun _ _=> (0,0,0)⟩
set_option maxRecDepth 100000 in
set_option maxHeartbeats 4000000 in
theorem m_New (C:Nat) (cr:Int) (gb G cap:Nat) (par wt:Nat→Int) (h1:1≤C) (h2:C≤64) (h3:0≤cr) (h4:cr≤1099511627776) (T:Tree G par wt) (w:World) (hr:Row w gb (G * 2) (grp par wt)):
  Calls Tryz.prog 19 #[cfgv C cr gb G cap] w fun e w' => ∃ m B ow,e= .returned (.tuple #[ptr m, .int .i64 0])∧Mod No w w' ∧MAt w' m ow B (AZ C G cr par wt)∧(∀ b,ow b≠ .no→w.heap.size≤b)∧w.heap.size≤m∧B.tv= .slice none 0 0:=by
 have hG:=T.g2
 have hG1:=T.g1
 have HT:=Lib.hid (And.intro T h4)
 go_enter Tryz.func19,Tryz.ntmps19
 go_wp2_with fail
 refine (rightConfig_ok C cr gb G cap par wt (by omega) (by omega) h3 h4 T _ (hr.alloc _)).mono ?_;rintro e w1 ⟨rfl,hb1⟩
 have X1:Row w1 w.heap.size 3 (fl [.int .i64 C, .int .u64 cr,slc gb G cap]):=(row_newL w [_,_,_] _).below hb1 (by simp)
 have R1:=(hr.alloc _).below hb1 (by have:=hr.lt;simp;omega)
 have m1:Mod No w w1:=Mod.trans ((Mod.refl No w).alloc _) (Mod.of_below hb1 No) (fun _ _ h=> h)
 clear T h4
 have lX:=X1.lt
 have lR:=R1.lt
 have lgw:=hr.lt
 have mS:∀ w',Mod No w1 w' →w'.cell? ⟨w.heap.size,0,none⟩=some (.int .i64 C)∧w'.cell? ⟨w.heap.size,1,none⟩=some (.int .u64 cr)∧w'.cell? ⟨w.heap.size,2,none⟩=some (slc gb G cap):=fun w' hm=> by
  have X:=X1.mod hm (fun h=> h)
  exact ⟨X.cL 0 _ (by omega) rfl,X.cL 1 _ (by omega) rfl,X.cL 2 _ (by omega) rfl⟩
 have hms:=mk_fact (P:=Tryz.prog) 44 3 (.int .i64 0) 1 8 Tryz.underlying44 Tryz.infoInt C (by omega) (by omega)
 go_upto_region 3 with fail
 go_cut [4] (fun s4 wx=> ∃ xs cl cu,s4=ptr xs∧Row wx xs 7 (fl [.int .i64 C, .int .u64 cr,slc gb G cap,slc cl C C,slc cu C C, .slice none 0 0, .slice none 0 0])∧Row wx cl C (ints fun _=> 0)∧Row wx cu C (ints fun _=> 0)∧Mod No w1 wx∧w1.heap.size≤cl∧w1.heap.size≤cu∧w1.heap.size≤xs∧cl≠cu∧xs≠cl∧xs≠cu)
 case first=>
  refine wp_region_chain (fun w' => w'.cell? ⟨w.heap.size,0,none⟩=some (.int .i64 C)∧w'.cell? ⟨w.heap.size,1,none⟩=some (.int .u64 cr)∧w'.cell? ⟨w.heap.size,2,none⟩=some (slc gb G cap)) [3,6,8,9] [7] [9] (rds [0,1,2,4,5] (.ef3 3 (.ef2 6 (rds [7] (.ef 8 (.ef 9 .nil))) 8 (.ef 6 (rds [7] (.ef 9 .nil)))) 6 (.ef2 3 (rds [7] (.ef 8 (.ef 9 .nil))) 8 (.ef 3 (rds [7] (.ef 9 .nil)))) 8 (.ef2 3 (.ef 6 (rds [7] (.ef 9 .nil))) 6 (.ef 3 (rds [7] (.ef 9 .nil)))))) (by kernel_rfl) (by kernel_rfl) (mS _ (Mod.refl No w1).drew) ?_
  intro O hO
  have HO:=Lib.hid hO
  clear hO
  simp only [rds]
  (repeat (first|(refine lxp HO (v:=?_) (fun w'=> ?_) ?_;rotate_left;(focus (go_simp;(try exact rfl);done));try go_simp)|(refine lxr HO (v:=?_) (fun w' hC'=> ?_) ?_;rotate_left;(focus (obtain ⟨c1,c2,c3⟩:=hC';go_simp;(try exact rfl);done));try go_simp)|(refine lxo HO ?_;try go_simp)))
  refine wpL_eff3 ?q1 ?q2 ?q3
  case q1=>
   (refine lxe HO (fun K hK=> ?_);go_simp;refine hK _ _ ?_ ?_;all_goals clear hK K)
   ·exact .inr (mS _ ((Mod.refl No w1).drew.alloc _))
   refine wpL_eff2 ?q4 ?q5
   case q4=>
    (refine lxe HO (fun K hK=> ?_);go_simp;refine hK _ _ ?_ ?_;all_goals clear hK K)
    ·exact .inr (mS _ (((Mod.refl No w1).drew.alloc _).alloc _))
    (repeat (first|(refine lxp HO (v:=?_) (fun w'=> ?_) ?_;rotate_left;(focus (go_simp;(try exact rfl);done));try go_simp)|(refine lxr HO (v:=?_) (fun w' hC'=> ?_) ?_;rotate_left;(focus (obtain ⟨c1,c2,c3⟩:=hC';go_simp;(try exact rfl);done));try go_simp)|(refine lxo HO ?_;try go_simp)))
    (refine lxe HO (fun K hK=> ?_);go_simp;refine hK _ _ ?_ ?_;all_goals clear hK K)
    ·exact .inr (mS _ ((((Mod.refl No w1).drew.alloc _).alloc _).alloc _))
    (refine lxe HO (fun K hK=> ?_);go_simp;refine hK _ _ (.inl (by rfl)) ?_;clear hK K)
    refine wpL_nil ?_
    go_wp2_with fail
    go_meet
    refine ⟨w1.heap.size+1+1,w1.heap.size,w1.heap.size+1,rfl, ?r1, ?r2, ?r3,((((Mod.refl No w1).alloc _).alloc _).alloc _).drew,by omega,by omega,by omega,by omega,by omega,by omega⟩
    case r1=> refine Row.drew ?_;repeat (first|(refine row_newL' _ _ [_,_,_,_,_,_,_] _ ?_;(simp;done))|refine Row.alloc ?_ _)
    case r2=> refine Row.drew ?_;repeat (first|(refine row_made' _ _ _ _ _ _ ?hb ?hh;(case hb=> (simp;done));(case hh=> (intro i _;simp [ints,Nat.mod_one])))|refine Row.alloc ?_ _)
    case r3=> refine Row.drew ?_;repeat (first|(refine row_made' _ _ _ _ _ _ ?hb ?hh;(case hb=> (simp;done));(case hh=> (intro i _;simp [ints,Nat.mod_one])))|refine Row.alloc ?_ _)
   case q5=>
    (refine lxe HO (fun K hK=> ?_);go_simp;refine hK _ _ ?_ ?_;all_goals clear hK K)
    ·exact .inr (mS _ (((Mod.refl No w1).drew.alloc _).alloc _))
    (refine lxe HO (fun K hK=> ?_);go_simp;refine hK _ _ ?_ ?_;all_goals clear hK K)
    ·exact .inr (mS _ ((((Mod.refl No w1).drew.alloc _).alloc _).alloc _))
    (repeat (first|(refine lxp HO (v:=?_) (fun w'=> ?_) ?_;rotate_left;(focus (go_simp;(try exact rfl);done));try go_simp)|(refine lxr HO (v:=?_) (fun w' hC'=> ?_) ?_;rotate_left;(focus (obtain ⟨c1,c2,c3⟩:=hC';go_simp;(try exact rfl);done));try go_simp)|(refine lxo HO ?_;try go_simp)))
    (refine lxe HO (fun K hK=> ?_);go_simp;refine hK _ _ (.inl (by rfl)) ?_;clear hK K)
    refine wpL_nil ?_
    go_wp2_with fail
    go_meet
    refine ⟨w1.heap.size+1,w1.heap.size,w1.heap.size+1+1,rfl, ?r1, ?r2, ?r3,((((Mod.refl No w1).alloc _).alloc _).alloc _).drew,by omega,by omega,by omega,by omega,by omega,by omega⟩
    case r1=> refine Row.drew ?_;repeat (first|(refine row_newL' _ _ [_,_,_,_,_,_,_] _ ?_;(simp;done))|refine Row.alloc ?_ _)
    case r2=> refine Row.drew ?_;repeat (first|(refine row_made' _ _ _ _ _ _ ?hb ?hh;(case hb=> (simp;done));(case hh=> (intro i _;simp [ints,Nat.mod_one])))|refine Row.alloc ?_ _)
    case r3=> refine Row.drew ?_;repeat (first|(refine row_made' _ _ _ _ _ _ ?hb ?hh;(case hb=> (simp;done));(case hh=> (intro i _;simp [ints,Nat.mod_one])))|refine Row.alloc ?_ _)
  case q2=>
   (refine lxe HO (fun K hK=> ?_);go_simp;refine hK _ _ ?_ ?_;all_goals clear hK K)
   ·exact .inr (mS _ ((Mod.refl No w1).drew.alloc _))
   refine wpL_eff2 ?q6 ?q7
   case q6=>
    (refine lxe HO (fun K hK=> ?_);go_simp;refine hK _ _ ?_ ?_;all_goals clear hK K)
    ·exact .inr (mS _ (((Mod.refl No w1).drew.alloc _).alloc _))
    (repeat (first|(refine lxp HO (v:=?_) (fun w'=> ?_) ?_;rotate_left;(focus (go_simp;(try exact rfl);done));try go_simp)|(refine lxr HO (v:=?_) (fun w' hC'=> ?_) ?_;rotate_left;(focus (obtain ⟨c1,c2,c3⟩:=hC';go_simp;(try exact rfl);done));try go_simp)|(refine lxo HO ?_;try go_simp)))
    (refine lxe HO (fun K hK=> ?_);go_simp;refine hK _ _ ?_ ?_;all_goals clear hK K)
    ·exact .inr (mS _ ((((Mod.refl No w1).drew.alloc _).alloc _).alloc _))
    (refine lxe HO (fun K hK=> ?_);go_simp;refine hK _ _ (.inl (by rfl)) ?_;clear hK K)
    refine wpL_nil ?_
    go_wp2_with fail
    go_meet
    refine ⟨w1.heap.size+1+1,w1.heap.size+1,w1.heap.size,rfl, ?r1, ?r2, ?r3,((((Mod.refl No w1).alloc _).alloc _).alloc _).drew,by omega,by omega,by omega,by omega,by omega,by omega⟩
    case r1=> refine Row.drew ?_;repeat (first|(refine row_newL' _ _ [_,_,_,_,_,_,_] _ ?_;(simp;done))|refine Row.alloc ?_ _)
    case r2=> refine Row.drew ?_;repeat (first|(refine row_made' _ _ _ _ _ _ ?hb ?hh;(case hb=> (simp;done));(case hh=> (intro i _;simp [ints,Nat.mod_one])))|refine Row.alloc ?_ _)
    case r3=> refine Row.drew ?_;repeat (first|(refine row_made' _ _ _ _ _ _ ?hb ?hh;(case hb=> (simp;done));(case hh=> (intro i _;simp [ints,Nat.mod_one])))|refine Row.alloc ?_ _)
   case q7=>
    (refine lxe HO (fun K hK=> ?_);go_simp;refine hK _ _ ?_ ?_;all_goals clear hK K)
    ·exact .inr (mS _ (((Mod.refl No w1).drew.alloc _).alloc _))
    (refine lxe HO (fun K hK=> ?_);go_simp;refine hK _ _ ?_ ?_;all_goals clear hK K)
    ·exact .inr (mS _ ((((Mod.refl No w1).drew.alloc _).alloc _).alloc _))
    (repeat (first|(refine lxp HO (v:=?_) (fun w'=> ?_) ?_;rotate_left;(focus (go_simp;(try exact rfl);done));try go_simp)|(refine lxr HO (v:=?_) (fun w' hC'=> ?_) ?_;rotate_left;(focus (obtain ⟨c1,c2,c3⟩:=hC';go_simp;(try exact rfl);done));try go_simp)|(refine lxo HO ?_;try go_simp)))
    (refine lxe HO (fun K hK=> ?_);go_simp;refine hK _ _ (.inl (by rfl)) ?_;clear hK K)
    refine wpL_nil ?_
    go_wp2_with fail
    go_meet
    refine ⟨w1.heap.size+1,w1.heap.size+1+1,w1.heap.size,rfl, ?r1, ?r2, ?r3,((((Mod.refl No w1).alloc _).alloc _).alloc _).drew,by omega,by omega,by omega,by omega,by omega,by omega⟩
    case r1=> refine Row.drew ?_;repeat (first|(refine row_newL' _ _ [_,_,_,_,_,_,_] _ ?_;(simp;done))|refine Row.alloc ?_ _)
    case r2=> refine Row.drew ?_;repeat (first|(refine row_made' _ _ _ _ _ _ ?hb ?hh;(case hb=> (simp;done));(case hh=> (intro i _;simp [ints,Nat.mod_one])))|refine Row.alloc ?_ _)
    case r3=> refine Row.drew ?_;repeat (first|(refine row_made' _ _ _ _ _ _ ?hb ?hh;(case hb=> (simp;done));(case hh=> (intro i _;simp [ints,Nat.mod_one])))|refine Row.alloc ?_ _)
  case q3=>
   (refine lxe HO (fun K hK=> ?_);go_simp;refine hK _ _ ?_ ?_;all_goals clear hK K)
   ·exact .inr (mS _ ((Mod.refl No w1).drew.alloc _))
   refine wpL_eff2 ?q8 ?q9
   case q8=>
    (refine lxe HO (fun K hK=> ?_);go_simp;refine hK _ _ ?_ ?_;all_goals clear hK K)
    ·exact .inr (mS _ (((Mod.refl No w1).drew.alloc _).alloc _))
    (refine lxe HO (fun K hK=> ?_);go_simp;refine hK _ _ ?_ ?_;all_goals clear hK K)
    ·exact .inr (mS _ ((((Mod.refl No w1).drew.alloc _).alloc _).alloc _))
    (repeat (first|(refine lxp HO (v:=?_) (fun w'=> ?_) ?_;rotate_left;(focus (go_simp;(try exact rfl);done));try go_simp)|(refine lxr HO (v:=?_) (fun w' hC'=> ?_) ?_;rotate_left;(focus (obtain ⟨c1,c2,c3⟩:=hC';go_simp;(try exact rfl);done));try go_simp)|(refine lxo HO ?_;try go_simp)))
    (refine lxe HO (fun K hK=> ?_);go_simp;refine hK _ _ (.inl (by rfl)) ?_;clear hK K)
    refine wpL_nil ?_
    go_wp2_with fail
    go_meet
    refine ⟨w1.heap.size,w1.heap.size+1,w1.heap.size+1+1,rfl, ?r1, ?r2, ?r3,((((Mod.refl No w1).alloc _).alloc _).alloc _).drew,by omega,by omega,by omega,by omega,by omega,by omega⟩
    case r1=> refine Row.drew ?_;repeat (first|(refine row_newL' _ _ [_,_,_,_,_,_,_] _ ?_;(simp;done))|refine Row.alloc ?_ _)
    case r2=> refine Row.drew ?_;repeat (first|(refine row_made' _ _ _ _ _ _ ?hb ?hh;(case hb=> (simp;done));(case hh=> (intro i _;simp [ints,Nat.mod_one])))|refine Row.alloc ?_ _)
    case r3=> refine Row.drew ?_;repeat (first|(refine row_made' _ _ _ _ _ _ ?hb ?hh;(case hb=> (simp;done));(case hh=> (intro i _;simp [ints,Nat.mod_one])))|refine Row.alloc ?_ _)
   case q9=>
    (refine lxe HO (fun K hK=> ?_);go_simp;refine hK _ _ ?_ ?_;all_goals clear hK K)
    ·exact .inr (mS _ (((Mod.refl No w1).drew.alloc _).alloc _))
    (refine lxe HO (fun K hK=> ?_);go_simp;refine hK _ _ ?_ ?_;all_goals clear hK K)
    ·exact .inr (mS _ ((((Mod.refl No w1).drew.alloc _).alloc _).alloc _))
    (repeat (first|(refine lxp HO (v:=?_) (fun w'=> ?_) ?_;rotate_left;(focus (go_simp;(try exact rfl);done));try go_simp)|(refine lxr HO (v:=?_) (fun w' hC'=> ?_) ?_;rotate_left;(focus (obtain ⟨c1,c2,c3⟩:=hC';go_simp;(try exact rfl);done));try go_simp)|(refine lxo HO ?_;try go_simp)))
    (refine lxe HO (fun K hK=> ?_);go_simp;refine hK _ _ (.inl (by rfl)) ?_;clear hK K)
    refine wpL_nil ?_
    go_wp2_with fail
    go_meet
    refine ⟨w1.heap.size,w1.heap.size+1+1,w1.heap.size+1,rfl, ?r1, ?r2, ?r3,((((Mod.refl No w1).alloc _).alloc _).alloc _).drew,by omega,by omega,by omega,by omega,by omega,by omega⟩
    case r1=> refine Row.drew ?_;repeat (first|(refine row_newL' _ _ [_,_,_,_,_,_,_] _ ?_;(simp;done))|refine Row.alloc ?_ _)
    case r2=> refine Row.drew ?_;repeat (first|(refine row_made' _ _ _ _ _ _ ?hb ?hh;(case hb=> (simp;done));(case hh=> (intro i _;simp [ints,Nat.mod_one])))|refine Row.alloc ?_ _)
    case r3=> refine Row.drew ?_;repeat (first|(refine row_made' _ _ _ _ _ _ ?hb ?hh;(case hb=> (simp;done));(case hh=> (intro i _;simp [ints,Nat.mod_one])))|refine Row.alloc ?_ _)
 case rest=>
  obtain ⟨xs,cl,cu,rfl,XS,CL,CU,mx,l1,l2,l3,n1,n2,n3⟩:=hcut
  have lXS:=XS.lt
  have lCL:=CL.lt
  have lCU:=CU.lt
  have mc:Mod No w wc:=Mod.trans m1 mx (fun _ _ h=> h)
  have hzw:=m1.size
  have e0:=cutW_size w gb (by omega)
  have G0:GP (cutW w gb) wc ⟨gb,cap,cl,C,cu,C, .slice none 0 0,0,0,fun _=> 0,fun _=> 0⟩ (AZ C G cr par wt) 0 none (.slice none 0 0) (fun b=> if b=gb then .gb else if b=cl then .cl else if b=cu then .cu else .no) (.slice none 0 0):=by
   refine ⟨⟨if_pos rfl,R1.mod mx (fun h=> h)⟩,⟨by (try dsimp only);rw [if_neg (by omega),if_pos rfl],CL⟩,⟨by (try dsimp only);rw [if_neg (by omega),if_neg (by omega),if_pos rfl],CU⟩,⟨none,0,rfl⟩,World.ownsRow_nil _ _ _ _,fun b hb=> by simp [Value.ownBlock] at hb,fun g hg=> by omega,fun b hb=> ?_,Mod.trans (cutW_mod w gb (by omega)) mc (fun _ _ h=> h)⟩
   rw [e0]
   try dsimp only at hb
   split at hb
   ·omega
   split at hb
   ·omega
   split at hb
   ·omega
   exact absurd rfl hb
  have XC:=X1.mod mx (fun h=> h)
  have q2:=XC.cL 2 _ (by omega) rfl
  have hms2:=mk_fact (P:=Tryz.prog) 103 122 _ 3 24 Tryz.underlying103 Tryz.infoSpot C (by omega) (by omega)
  clear mS hms hb1 CL CU R1 X1
  go_wp2
  go_loopw [19] (fun s19 wr=> ∃ (k:Nat) (B' :STB) (ow' :Nat→SOwn) (so:Option Addr) (sc:Nat),s19= .int .i64 k∧k≤G∧GP (cutW w gb) wr B' (AZ C G cr par wt) k none (.slice none 0 0) ow' (.slice so k sc)∧(B'.gb=gb∧B'.gcap=cap∧B'.cl=cl∧B'.ccap=C∧B'.cu=cu∧B'.ucap=C)∧Row wr xs 7 (fl [.int .i64 C, .int .u64 cr,slc gb G cap,slc cl C C,slc cu C C, .slice none 0 0, .slice so k sc])∧Row wr w.heap.size 3 (fl [.int .i64 C, .int .u64 cr,slc gb G cap])∧ow' xs= .no∧ow' w.heap.size= .no∧Mod No w wr∧∀ b,(Value.slice so k sc).ownBlock=some b→w.heap.size≤b) (fun s19 _=> G - (RowKit.intOf s19).toNat)
  case atStart=> exact ⟨0,_,_,none,0,rfl,by omega,G0,⟨rfl,rfl,rfl,rfl,rfl,rfl⟩,XS,XC,by (try dsimp only);rw [if_neg (by omega),if_neg (by omega),if_neg (by omega)],by (try dsimp only);rw [if_neg (by omega),if_neg (by omega),if_neg (by omega)],mc,fun b hb=> by simp [Value.ownBlock] at hb⟩
  case round=>
   obtain ⟨wk,rfl⟩:∃ W,W=wr:=⟨wr,rfl⟩
   obtain ⟨k,B',ow',so,sc,rfl,hk,I,hB,X,XB,ox,ow_,mk,hsb⟩:=hrel
   clear G0 XS XC q2
   have lX:=X.lt
   have lXB:=XB.lt
   by_cases hkG:k < G
   ·have j0:(0:Int)≤k:=by omega
    have j1:(k:Int) < G:=by omega
    have HB:=Lib.hid (And.intro I (And.intro hB (And.intro ox ow_)))
    clear hB ox ow_
    have mS:∀ w',Mod No wk w' →w'.cell? ⟨xs,6,none⟩=some (.slice so k sc)∧w'.cell? ⟨w.heap.size,0,none⟩=some (.int .i64 C):=fun w' hm=> by
     exact ⟨(X.mod hm (fun h=> h)).cL 6 _ (by omega) rfl,(XB.mod hm (fun h=> h)).cL 0 _ (by omega) rfl⟩
    go_upto_region 6 with fail
    refine wp_region_chain (fun w' => w'.cell? ⟨xs,6,none⟩=some (.slice so k sc)∧w'.cell? ⟨w.heap.size,0,none⟩=some (.int .i64 C)) [4,5,6,8] [7] [8] (rds [0,1,2,3] (.ef 4 (.ef 5 (.ef 6 (rds [7] (.ef 8 .nil)))))) (by kernel_rfl) (by kernel_rfl) (mS _ (Mod.refl No wk).drew) ?_
    intro O hO
    have HO:=Lib.hid hO
    clear hO
    simp only [rds]
    (repeat (first|(refine lxp HO (v:=?_) (fun w'=> ?_) ?_;rotate_left;(focus (go_simp;(try exact rfl);done));try go_simp)|(refine lxr HO (v:=?_) (fun w' hC'=> ?_) ?_;rotate_left;(focus (obtain ⟨c1,c2⟩:=hC';go_simp;(try exact rfl);done));try go_simp)|(refine lxo HO ?_;try go_simp)))
    (refine lxe HO (fun K hK=> ?_);go_simp;refine hK _ _ ?_ ?_;all_goals clear hK K)
    ·exact .inr (mS _ ((Mod.refl No wk).drew.alloc _))
    (refine lxe HO (fun K hK=> ?_);go_simp;refine hK _ _ ?_ ?_;all_goals clear hK K)
    ·exact .inr (mS _ (((Mod.refl No wk).drew.alloc _).alloc _))
    refine lxe HO (fun Kx hKx=> ?_)
    refine step_app_c 103 _ 1 24 Tryz.infoSSpot rfl _ _ 46 rfl Tryz.underlying46 rfl (by decide) (by decide) [slc wk.heap.size C C] rfl (by simp [Value.oneCell']) (cutW w gb).heap.size (.slice so k sc) k ((List.range k).map fun g=> slc (B'.si g) C (B'.sc g)) _ _ rfl rfl ?hB (by omega) ?hOw ?hR ?hh
    case hB=>
     rw [e0]
     simp
     omega
    case hOw=> (repeat first|(with_reducible exact I.s)|(with_reducible refine World.ownsRow.drew ?_)|(with_reducible refine World.ownsRow.alloc ?_ _))
    case hR=> first|exact row_newL' _ _ [_] _ (by simp)|exact Row.drew (row_newL' _ _ [_] _ (by simp))
    case hh=>
     intro gs ct wA hA
     obtain ⟨I,hB,ox,ow_⟩:=HB.out
     have nx:(Value.slice so k sc).ownBlock≠some xs:=fun e=> by have:=I.sown _ e;rw [ox] at this;cases this
     have nw:(Value.slice so k sc).ownBlock≠some w.heap.size:=fun e=> by have:=I.sown _ e;rw [ow_] at this;cases this
     have XA:=Appd.row hA (X.mod (S:=No) (by (repeat first|(with_reducible exact (Mod.refl No wk))|(with_reducible refine Mod.alloc ?_ _)|(with_reducible refine Mod.drew ?_)|(with_reducible refine Mod.drewN ?_ _)|(with_reducible refine Mod.sc ?_))) (fun h=> h)) nx
     have YA:=Appd.row hA (XB.mod (S:=No) (by (repeat first|(with_reducible exact (Mod.refl No wk))|(with_reducible refine Mod.alloc ?_ _)|(with_reducible refine Mod.drew ?_)|(with_reducible refine Mod.drewN ?_ _)|(with_reducible refine Mod.sc ?_))) (fun h=> h)) nw
     have fA:=XA.free 6
     have qA:=XA.cL 6 _ (by omega) rfl
     have lXA:=XA.lt
     have sA:Row (((wk.alloc (.cells (madeCells #[.int .u64 0, .int .u32 0, .int .u64 0] (C * 3)) 122)).alloc (.cells #[slc wk.heap.size C C] 103)).drew) wk.heap.size (C * 3) (spt fun _=> (0,0,0)):=((row_made wk #[.int .u64 0, .int .u32 0, .int .u64 0] (C * 3) 122 (spt fun _=> (0,0,0)) (fun i _=> spt_zero i)).alloc _).drew
     have HA:=Lib.hid (And.intro I (And.intro hB (And.intro ox (And.intro ow_ (And.intro hA (And.intro nx nw))))))
     refine hKx _ _ (.inr ⟨qA,YA.cL 0 _ (by omega) rfl⟩) ?_
     clear hKx Kx I hB ox ow_ hA nx nw
     (repeat (first|(refine lxp HO (v:=?_) (fun w'=> ?_) ?_;rotate_left;(focus (go_simp;(try exact rfl);done));try go_simp)|(refine lxr HO (v:=?_) (fun w' hC'=> ?_) ?_;rotate_left;(focus (obtain ⟨c1,c2⟩:=hC';go_simp;(try exact rfl);done));try go_simp)|(refine lxo HO ?_;try go_simp)))
     (refine lxe HO (fun K hK=> ?_);go_simp;refine hK _ _ (.inl (by rfl)) ?_;clear hK K)
     refine wpL_nil ?_
     go_wp2
     obtain ⟨I,hB,ox,ow_,hA,nx,nw⟩:=HA.out
     have mW:Mod No wk (((wk.alloc (.cells (madeCells #[.int .u64 0, .int .u32 0, .int .u64 0] (C * 3)) 122)).alloc (.cells #[slc wk.heap.size C C] 103)).drew):=((Mod.refl No wk).alloc _).alloc _|>.drew
     have hzA:=hA.mod.size
     have hzk:=mk.size
     simp only [World.size_alloc,World.size_drew] at hzA
     have aq:=hA.at_
     have ngx:gs≠xs:=by
      rintro rfl
      rcases aq with h|h
      ·exact nx h
      ·simp only [World.size_alloc,World.size_drew] at h;omega
     have mC:Mod (fun b=> b=xs) wA (wA.setCell ⟨xs,6,none⟩ (slc gs (k+1) ct)):=(Mod.refl (fun b=> b=xs) wA).setCell (p:=⟨xs,6,none⟩) (.inr rfl) _
     have hnk:ow' wk.heap.size= .no:=Classical.byContradiction fun hh=> by have:=(I.lt _ hh).2;omega
     obtain ⟨ow2,I2,ho2⟩:=(I.no mW).next (S:=fun b=> b=xs) (sg:=wk.heap.size) (scp:=C) hnk (by rw [e0];omega) sA (Mod.trans (hA.mod.mono (T:=fun b=> b=xs∨(Value.slice so k sc).ownBlock=some b) (fun b _ h=> .inr h)) (mC.mono (fun b _ h=> .inl h)) (fun _ _ h=> h)) (by rintro b rfl;exact ⟨ox,by omega,by rw [e0];omega⟩) (ownsRow_mod hA.own mC (by rintro b hb rfl;exact ngx (Option.some.inj hb))) aq
     refine ⟨⟨k+1,_,ow2,some ⟨gs,0,none⟩,ct,by go_num,by omega,I2,hB,(XA.set (i:=6) (by omega) _).congr (by apply le7c <;> rfl),YA.setOther (p:=⟨xs,6,none⟩) (by show xs≠w.heap.size;omega) _,by rw [ho2 _ (by simp;omega) (by omega)];exact ox,by rw [ho2 _ (by simp;omega) (by omega)];exact ow_,Mod.trans mk (Mod.trans (mW.no _) (Mod.trans (hA.mod.mono (T:=fun b=> b=xs∨(Value.slice so k sc).ownBlock=some b) (fun b _ h=> .inr h)) (mC.mono (fun b _ h=> .inl h)) (fun _ _ h=> h)) (fun _ _ h=> h)) (fun b hb h=> ?_),fun b hb=> ?_⟩,by simp only [RowKit.intOf];omega⟩
     ·rcases h with h|h
      ·omega
      ·have:=hsb b h;omega
     ·have e:gs=b:=Option.some.inj hb
      subst e
      rcases aq with h|h
      ·exact hsb _ h
      ·simp only [World.size_alloc,World.size_drew] at h;omega
   ·obtain rfl:k=G:=by omega
    have j1:(k:Int)≤k:=by omega
    have x0:=X.cL 0 _ (by omega) rfl
    have x1:=X.cL 1 _ (by omega) rfl
    have x2:=X.cL 2 _ (by omega) rfl
    have x3:=X.cL 3 _ (by omega) rfl
    have x4:=X.cL 4 _ (by omega) rfl
    have x5:=X.cL 5 _ (by omega) rfl
    have x6:=X.cL 6 _ (by omega) rfl
    obtain ⟨hb1,hb2,hb3,hb4,hb5,hb6⟩:=hB
    obtain ⟨B9,hB9,S9,hlo9⟩:=I.done (by show 0 < k;omega)
    have e9:stv B9 (AZ C k cr par wt)= .agg #[.int .i64 C, .int .u64 cr,slc gb k cap,slc cl C C,slc cu C C, .slice none 0 0, .slice so k sc]:=by
     have:=congrArg (fun l=> Value.agg l.toArray) hB9
     simp only [hb1,hb2,hb3,hb4,hb5,hb6] at this
     exact this
    have t9:B9.tv= .slice none 0 0:=by
     have:=congrArg (fun l=> l.getD 5 undef) hB9
     exact this
    have HB:=Lib.hid (And.intro I (And.intro e9 (And.intro t9 (And.intro S9 (And.intro ox ow_)))))
    clear hb1 hb2 hb3 hb4 hb5 hb6 hB9 S9 e9 t9 ox ow_ hlo9 I
    go_wp2_with fail
    refine (show Calls Tryz.prog 59 #[.agg #[.int .i64 C, .int .u64 cr,slc gb k cap,slc cl C C,slc cu C C, .slice none 0 0, .slice so k sc]] wk _ from by rw [←HB.out.2.1];exact m_copied _ wk ow' B9 HB.out.2.2.2.1 (fun _=> HB.out.2.2.1) (by show 0 < C;omega) h2 (by show 0 < k;omega) (by show k≤256;omega)).mono ?_;rintro e w5 ⟨B5,ow5,rfl,S5,m5,hlo5,ht5⟩
    have t5:=ht5 rfl
    rw [show stv B5 (AZ C k cr par wt)= .agg #[.int .i64 C, .int .u64 cr,slc B5.gb k B5.gcap,slc B5.cl C B5.ccap,slc B5.cu C B5.ucap, .slice none 0 0,slc B5.so k B5.scap] from by rw [←t5]]
    clear x0 x1 x2 x3 x4 x5 x6
    go_wp2
    refine bodyPost_ret (v:= .tuple #[ptr w5.heap.size, .int .i64 0]) (by simp [results,Tryz.results19,go_sem, *]) rfl ⟨w5.heap.size,B5,ow5,rfl,Mod.trans mk (m5.alloc _) (fun _ _ h=> h),⟨?_, ?_,S5.no ((Mod.refl No w5).alloc _)⟩,fun b hb=> by have:=hlo5 b hb;have:=mk.size;omega,by have:=mk.size;have:=m5.size;omega,t5⟩
    ·show Row _ _ 8 (fl [.int .i64 C, .int .u64 cr,slc B5.gb k B5.gcap,slc B5.cl C B5.ccap,slc B5.cu C B5.ucap,B5.tv,slc B5.so k B5.scap, .bool true])
     rw [t5]
     exact row_newL' _ _ [_,_,_,_,_,_,_,_] _ (by simp)
    ·exact Classical.byContradiction fun hh=> by have:=S5.2 _ hh;omega
end Go.Q
