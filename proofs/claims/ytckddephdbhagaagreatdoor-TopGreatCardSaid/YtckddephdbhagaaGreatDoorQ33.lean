/- A part of the proof that TopGreat answers true: what some of the functions on its road compute. -/
import Derived.Test.YtckddephdbhagaaGreatDoorQ10
import Derived.Test.YtckddephdbhagaaGreatDoorQ12
import Derived.Test.YtckddephdbhagaaGreatDoorQ17
import Derived.Test.YtckddephdbhagaaGreatDoorQ24
import Derived.Test.YtckddephdbhagaaGreatDoorQ31
import Derived.Test.YtckddephdbhagaaGreatDoorQ32
set_option linter.unusedVariables false
set_option linter.unusedSimpArgs false
namespace Go.Q
open Go.RowKit Go.Proofs
section
variable {A:ASt} {d:Nat}
set_option maxRecDepth 100000 in
set_option maxHeartbeats 1000000 in
theorem canCheck_ok (t:TK) (g0 c0:Nat) (h:ROk A d t g0 c0) (nx:Nat) (n0:1≤nx) (n1:nx≤1000) (w:World) (ow:Nat→SOwn) (B:STB) (hs:StAt w ow B A):
  Calls Tryz.prog 98 #[snv nx B A] w fun e w' => e= .returned (.int .i64 0)∧Below w.heap.size w w' :=by
 obtain ⟨o5,n5,d5,hv⟩:=hs.tvo
 have HI:=Lib.hid (And.intro h (And.intro hs hv))
 have i0:(1:Int)≤nx:=by omega
 have i1:(nx:Int)≤1000:=by omega
 have e1:decide ((nx:Int) < 1)=false:=by simp;omega
 have e2:decide ((281474976710657:Int) < nx)=false:=by simp;omega
 rw [show snv nx B A= .agg #[.int .i64 nx, .int .i64 A.C, .int .u64 A.cr,slc B.gb A.G B.gcap,slc B.cl A.C B.ccap,slc B.cu A.C B.ucap, .slice o5 n5 d5,slc B.so A.G B.scap] from by rw [←hv]]
 clear h hv n1
 go_enter Tryz.func98,Tryz.ntmps98
 go_upto_region 1 with fail
 refine wp_world (fun V=> Mod No w V∧Row V w.heap.size 8 (fl [.int .i64 nx, .int .i64 A.C, .int .u64 A.cr,slc B.gb A.G B.gcap,slc B.cl A.C B.ccap,slc B.cu A.C B.ucap, .slice o5 n5 d5,slc B.so A.G B.scap])) ⟨(Mod.refl No w).alloc _,row_newL w [_,_,_,_,_,_,_,_] _⟩ ?_
 intro V ⟨mV,XV⟩
 have lX:=XV.lt
 have x0:=XV.cL 0 _ (by omega) rfl
 have x1:=XV.cL 1 _ (by omega) rfl
 have x2:=XV.cL 2 _ (by omega) rfl
 have x3:=XV.cL 3 _ (by omega) rfl
 have x4:=XV.cL 4 _ (by omega) rfl
 have x5:=XV.cL 5 _ (by omega) rfl
 have x6:=XV.cL 6 _ (by omega) rfl
 have x7:=XV.cL 7 _ (by omega) rfl
 go_wp2_with fail
 refine (show Calls Tryz.prog 184 #[.agg #[.int .i64 A.C, .int .u64 A.cr,slc B.gb A.G B.gcap,slc B.cl A.C B.ccap,slc B.cu A.C B.ucap, .slice o5 n5 d5,slc B.so A.G B.scap]] V _ from by rw [←HI.out.2.2];exact right_ok t g0 c0 HI.out.1 V ow B (hs.no mV)).mono ?_;rintro e w1 ⟨rfl,hb1⟩
 go_wp2
 go_ret
 exact ⟨rfl,Mod.below (Mod.trans mV (Mod.of_below hb1 No) (fun _ _ h=> h))⟩
end
end Go.Q
namespace Go.Q
open Go.RowKit Go.Proofs
section
variable {A:ASt} {d:Nat}
set_option maxRecDepth 100000 in
theorem drvResume1 (bx nx:Nat) (t:TK) (g0 c0:Nat) (H:ROk A d t g0 c0) (o5:Option Addr) (n5 d5:Nat) (ows:Nat→SOwn) (BS:STB) (hv:BS.tv= .slice o5 n5 d5) (w:World) (hs:StAt w ows BS A)
  (hb:Row w bx 8 (fl [.int .i64 nx, .int .i64 64, .int .u64 A.cr,slc BS.gb A.G BS.gcap,slc BS.cl A.C BS.ccap,slc BS.cu A.C BS.ucap, .slice o5 n5 d5,slc BS.so A.G BS.scap])):
  Calls Tryz.prog 99 #[ptr bx] w fun e w' => ∃ x B ow,e= .returned (.tuple #[ptr x, .int .i64 0])∧Mod No w w' ∧SAt w' ow x B (lst A d t g0 c0 (upd1 (fun _=> 0) c0 t.weight) 0 0)∧(∀ b,ow b≠ .no→w.heap.size≤b):=by
 have lb:=hb.lt
 have c0' :=hb.cL 0 _ (by omega) rfl
 have c1:=hb.cL 1 _ (by omega) rfl
 have c2:=hb.cL 2 _ (by omega) rfl
 have c3:=hb.cL 3 _ (by omega) rfl
 have c4:=hb.cL 4 _ (by omega) rfl
 have c5:=hb.cL 5 _ (by omega) rfl
 have c6:=hb.cL 6 _ (by omega) rfl
 have c7:=hb.cL 7 _ (by omega) rfl
 have eC:(64:Int)=((A.C:Nat):Int):=by have:=H.C;omega
 have HI:=Lib.hid (And.intro H (And.intro hs (And.intro hv eC)))
 clear H hs hv eC hb
 go_enter Tryz.func99,Tryz.ntmps99
 go_wp2_with fail
 refine (show Calls Tryz.prog 100 #[.agg #[.int .i64 64, .int .u64 A.cr,slc BS.gb A.G BS.gcap,slc BS.cl A.C BS.ccap,slc BS.cu A.C BS.ucap, .slice o5 n5 d5,slc BS.so A.G BS.scap]] w _ from by rw [←HI.out.2.2.1,HI.out.2.2.2];exact Load_ok t g0 c0 HI.out.1 w ows BS HI.out.2.1).mono ?_;rintro e w1 ⟨x,B,ow,rfl,m1,S1,o1⟩
 go_wp2
 go_ret2
 exact ⟨x,B,ow,rfl,m1,S1,o1⟩
set_option maxRecDepth 100000 in
set_option maxHeartbeats 1000000 in
theorem drv_Resume (t:TK) (g0 c0:Nat) (H:ROk A d t g0 c0) (nx:Nat) (n0:1≤nx) (n1:nx≤1000) (c:Nat) (hc:c < 64) (w:World) (ows:Nat→SOwn) (BS:STB) (hs:StAt w ows BS A):
  Calls Tryz.prog 30 #[snv nx BS A, .int .i64 4, .int .i64 10] w fun e w' => ∃ x B ow D,e= .returned (.tuple #[ptr D.d, .int .i64 0])∧Mod No w w' ∧SAt w' ow x B (lst A d t g0 c0 (upd1 (fun _=> 0) c0 t.weight) 0 0)∧(∀ b,ow b≠ .no→w.heap.size≤b)∧DAt w' ow x D nx c 0∧(∀ b,DOwn D b→w.heap.size≤b):=by
 obtain ⟨o5,n5,d5,hv⟩:=hs.tvo
 have eC:(64:Int)=((A.C:Nat):Int):=by have:=H.C;omega
 rw [show snv nx BS A= .agg #[.int .i64 nx, .int .i64 64, .int .u64 A.cr,slc BS.gb A.G BS.gcap,slc BS.cl A.C BS.ccap,slc BS.cu A.C BS.ucap, .slice o5 n5 d5,slc BS.so A.G BS.scap] from by rw [eC,←hv]]
 have HI:=Lib.hid (And.intro H (And.intro hs (And.intro hv (And.intro eC (And.intro n0 n1)))))
 clear H hs hv eC n0 n1
 go_enter Tryz.func30,Tryz.ntmps30
 go_upto_region 1 with fail
 refine wp_world (fun V=> Mod No w V∧Row V w.heap.size 8 (fl [.int .i64 nx, .int .i64 64, .int .u64 A.cr,slc BS.gb A.G BS.gcap,slc BS.cl A.C BS.ccap,slc BS.cu A.C BS.ucap, .slice o5 n5 d5,slc BS.so A.G BS.scap])) ⟨(Mod.refl No w).alloc _,row_newL w [_,_,_,_,_,_,_,_] _⟩ ?_
 intro V ⟨mV,XV⟩
 obtain ⟨bx,hbx⟩:∃ n,n=w.heap.size:=⟨_,rfl⟩
 rw [←hbx] at XV ⊢
 have lX:=XV.lt
 have x0:=XV.cL 0 _ (by omega) rfl
 have x1:=XV.cL 1 _ (by omega) rfl
 have x2:=XV.cL 2 _ (by omega) rfl
 have x3:=XV.cL 3 _ (by omega) rfl
 have x4:=XV.cL 4 _ (by omega) rfl
 have x5:=XV.cL 5 _ (by omega) rfl
 have x6:=XV.cL 6 _ (by omega) rfl
 have x7:=XV.cL 7 _ (by omega) rfl
 have HB:=Lib.hid hbx
 clear hbx
 go_wp2_with fail
 refine (show Calls Tryz.prog 98 #[.agg #[.int .i64 nx, .int .i64 64, .int .u64 A.cr,slc BS.gb A.G BS.gcap,slc BS.cl A.C BS.ccap,slc BS.cu A.C BS.ucap, .slice o5 n5 d5,slc BS.so A.G BS.scap]] V _ from by rw [←HI.out.2.2.1,HI.out.2.2.2.1];exact canCheck_ok t g0 c0 HI.out.1 nx HI.out.2.2.2.2.1 HI.out.2.2.2.2.2 V ows BS (HI.out.2.1.no mV)).mono ?_;rintro e w1 ⟨rfl,hb1⟩
 have n1:=Mod.of_below hb1 No
 have m1:Mod No w w1:=Mod.trans mV n1 (fun _ _ h=> h)
 have X1:=XV.mod n1 (fun h=> h)
 clear x0 x1 x2 x3 x4 x5 x6 x7 lX XV mV n1 hb1
 have lX:=X1.lt
 have x0:=X1.cL 0 _ (by omega) rfl
 have x1:=X1.cL 1 _ (by omega) rfl
 go_wp2_with fail
 refine (begin_res bx (lst A d t g0 c0 (upd1 (fun _=> 0) c0 t.weight) 0 0) nx c hc _ (fun W hW=> drvResume1 bx nx t g0 c0 HI.out.1 o5 n5 d5 ows BS HI.out.2.2.1 W ((HI.out.2.1.no m1).no hW) (X1.mod hW (fun h=> h)))).mono ?_;rintro e w2 ⟨x,B,ow,D,rfl,m2,S2,o2,D2,d2⟩
 have z1:=m1.size
 go_wp2
 go_ret2
 exact ⟨x,B,ow,D,rfl,Mod.trans m1 m2 (fun _ _ h=> h),S2,fun b hb=> by have:=o2 b hb;omega,D2,fun b hb=> by have:=d2 b hb;omega⟩
end
end Go.Q
namespace Go.Q
open Go.RowKit Go.Proofs
theorem own_mono {w:World} {base base' :Nat} {e:TypeId} {size:Nat} {v:Value} {n:Nat} {xs:List Value} (h:w.ownsRow base e size v n xs) (hb:base' ≤base):w.ownsRow base' e size v n xs:=by
 obtain ⟨h1,h2|⟨g,cap,cur,a,b,r⟩⟩:=h
 ·exact ⟨h1, .inl h2⟩
 ·exact ⟨h1, .inr ⟨g,cap,cur,a,Nat.le_trans hb b,r⟩⟩
theorem GP.base {wz w0 w:World} {B:STB} {A:ASt} {K:Nat} {tk:Option TK} {tv:Value} {ow:Nat→SOwn} {sv:Value} (m:Mod No wz w0) (h:GP w0 w B A K tk tv ow sv):GP wz w B A K tk tv ow sv:=
 ⟨h.gb,h.cl,h.cu,h.tk,own_mono h.s m.size,h.sown,h.si,fun b hb=> ⟨Nat.le_trans m.size (h.lt b hb).1,(h.lt b hb).2⟩,Mod.trans m h.mod (fun _ _ h=> h)⟩
set_option maxRecDepth 100000 in
theorem r_copied0 (C:Nat) (cr:Int) (gb G cap:Nat) (par wt:Nat→Int) (cl cu:Nat) (h1:1≤C) (h2:C≤64) (hG0:0 < G) (hG:G≤256) (w:World) (hg:Row w gb (G * 2) (grp par wt)) (hc:Row w cl C (ints fun _=> 0)) (hu:Row w cu C (ints fun _=> 0)):
  Calls Tryz.prog 55 #[.agg #[.int .i64 C, .int .u64 cr,slc gb G cap,slc cl C C,slc cu C C, .slice none 0 0, .slice none 0 0]] w fun e w' => ∃ B' ta tc so sc ow',e= .returned (.agg #[.int .i64 C, .int .u64 cr,slc B'.gb G B'.gcap,slc B'.cl C B'.ccap,slc B'.cu C B'.ucap, .slice ta 0 tc, .slice so 0 sc])∧GP w w' B' (AZ C G cr par wt) 0 none (.slice ta 0 tc) ow' (.slice so 0 sc):=by
 refine (ref_copied w (AZ C G cr par wt) ⟨gb,cap,cl,C,cu,C, .slice none 0 0,0,0,fun _=> 0,fun _=> 0⟩ 0 (.slice none 0 0) hg hc hu ⟨fun _=> .no,none,0,rfl⟩ (.inl ⟨rfl,rfl⟩) (by show 0 < C;omega) h2 hG0 hG).mono ?_
 rintro e w' ⟨B',tv',sv',ow',rfl,I⟩
 obtain ⟨ta,tc,e1⟩:=I.tk
 subst e1
 have hs:=I.s
 obtain ⟨_,⟨e2,_⟩|⟨gs,cap',_,e2,_⟩⟩:=hs
 ·subst e2;exact ⟨B',ta,tc,none,0,ow',rfl,I⟩
 ·subst e2;exact ⟨B',ta,tc,_,_,ow',rfl,I⟩
set_option maxRecDepth 100000 in
set_option maxHeartbeats 4000000 in
theorem r_New (C:Nat) (cr:Int) (gb G cap:Nat) (par wt:Nat→Int) (h1:1≤C) (h2:C≤64) (hG0:0 < G) (hG:G≤256) (w:World) (hr:Row w gb (G * 2) (grp par wt)):
  Calls Tryz.prog 17 #[cfgv C cr gb G cap] w fun e w' => ∃ B ow,e= .returned (stv B (AZ C G cr par wt))∧Mod No w w' ∧StAt w' ow B (AZ C G cr par wt)∧(∀ b,ow b≠ .no→w.heap.size≤b):=by
 have hms:=mk_fact (P:=Tryz.prog) 44 3 (.int .i64 0) 1 8 Tryz.underlying44 Tryz.infoInt C (by omega) (by omega)
 go_enter Tryz.func17,Tryz.ntmps17
 go_upto_region 1 with fail
 refine wp_world (fun V=> Mod No w V∧Row V w.heap.size 3 (fl [.int .i64 C, .int .u64 cr,slc gb G cap])∧Row V (w.heap.size+1) 7 (fl [.int .i64 0, .int .u64 0, .slice none 0 0, .slice none 0 0, .slice none 0 0, .slice none 0 0, .slice none 0 0])) ?_ ?_
 ·exact ⟨((Mod.refl No w).alloc _).alloc _,(row_newL w [_,_,_] _).alloc _,row_newL' _ _ [_,_,_,_,_,_,_] _ (by simp)⟩
 intro w1 ⟨m1,X1,Z1⟩
 have R1:=hr.mod m1 (fun h=> h)
 have lX:=X1.lt
 have lZ:=Z1.lt
 have lR:=R1.lt
 have lgw:=hr.lt
 have mS:∀ w',Mod No w1 w' →w'.cell? ⟨w.heap.size,0,none⟩=some (.int .i64 C)∧w'.cell? ⟨w.heap.size,1,none⟩=some (.int .u64 cr)∧w'.cell? ⟨w.heap.size,2,none⟩=some (slc gb G cap):=fun w' hm=> by
  have X:=X1.mod hm (fun h=> h)
  exact ⟨X.cL 0 _ (by omega) rfl,X.cL 1 _ (by omega) rfl,X.cL 2 _ (by omega) rfl⟩
 go_cut [3] (fun s3 wx=> ∃ xs B5 ta tc so sc ow5,s3=ptr xs∧GP w1 wx B5 (AZ C G cr par wt) 0 none (.slice ta 0 tc) ow5 (.slice so 0 sc)∧Row wx xs 7 (fl [.int .i64 C, .int .u64 cr,slc B5.gb G B5.gcap,slc B5.cl C B5.ccap,slc B5.cu C B5.ucap, .slice ta 0 tc, .slice so 0 sc])∧ow5 xs= .no∧w1.heap.size≤xs)
 case first=>
  refine wp_region_chain (fun w' => w'.cell? ⟨w.heap.size,0,none⟩=some (.int .i64 C)∧w'.cell? ⟨w.heap.size,1,none⟩=some (.int .u64 cr)∧w'.cell? ⟨w.heap.size,2,none⟩=some (slc gb G cap)) [3,6,8,9,10] [7] [10] (rds [0,1,2,4,5] (.ef3 3 (.ef2 6 (rds [7] (.ef2 8 (.ef 9 (.ef 10 .nil)) 9 (.ef 8 (.ef 10 .nil)))) 9 (.ef 6 (rds [7] (.ef 8 (.ef 10 .nil))))) 6 (.ef2 3 (rds [7] (.ef2 8 (.ef 9 (.ef 10 .nil)) 9 (.ef 8 (.ef 10 .nil)))) 9 (.ef 3 (rds [7] (.ef 8 (.ef 10 .nil))))) 9 (.ef2 3 (.ef 6 (rds [7] (.ef 8 (.ef 10 .nil)))) 6 (.ef 3 (rds [7] (.ef 8 (.ef 10 .nil))))))) (by kernel_rfl) (by kernel_rfl) (mS _ (Mod.refl No w1).drew) ?_
  intro O hO
  have HO:=Lib.hid hO
  clear hO
  simp only [rds]
  (repeat (first|(refine lxp HO (v:=?_) (fun w'=> ?_) ?_;rotate_left;(focus (go_simp;(try exact rfl);done));try go_simp)|(refine lxr HO (v:=?_) (fun w' hC'=> ?_) ?_;rotate_left;(focus (obtain ⟨c1,c2,c3⟩:=hC';go_simp;(try exact rfl);done));try go_simp)|(refine lxo HO ?_;try go_simp)))
  refine wpL_eff3 ?q1 ?q2 ?q3
  case q1=>
   (refine lxe HO (fun K hK=> ?_);go_simp;refine hK _ _ ?_ ?_;all_goals clear hK K)
   ·exact .inr (mS _ ((Mod.refl No w1).drew.alloc _))
   refine wpL_eff2 ?q4 ?q5
   case q4=>
    (refine lxe HO (fun K hK=> ?_);go_simp;refine hK _ _ ?_ ?_;all_goals clear hK K)
    ·exact .inr (mS _ (((Mod.refl No w1).drew.alloc _).alloc _))
    (repeat (first|(refine lxp HO (v:=?_) (fun w'=> ?_) ?_;rotate_left;(focus (go_simp;(try exact rfl);done));try go_simp)|(refine lxr HO (v:=?_) (fun w' hC'=> ?_) ?_;rotate_left;(focus (obtain ⟨c1,c2,c3⟩:=hC';go_simp;(try exact rfl);done));try go_simp)|(refine lxo HO ?_;try go_simp)))
    refine wpL_eff2 ?q6 ?q7
    case q6=>
     refine lxe HO (fun Kx hKx=> ?_)
     go_simp
     refine (r_copied0 C cr gb G cap par wt (w1.heap.size) (w1.heap.size+1) h1 h2 hG0 hG _ ?g1 ?g2 ?g3).mono ?_
     case g1=> exact R1.mod (S:=No) (((Mod.refl No w1).drew.alloc _).alloc _) (fun h=> h)
     case g2=> repeat (first|(refine row_made' _ _ _ _ _ _ ?hb ?hh;(case hb=> (simp;done));(case hh=> (intro i _;simp [ints,Nat.mod_one])))|refine Row.alloc ?_ _|refine Row.drew ?_)
     case g3=> repeat (first|(refine row_made' _ _ _ _ _ _ ?hb ?hh;(case hb=> (simp;done));(case hh=> (intro i _;simp [ints,Nat.mod_one])))|refine Row.alloc ?_ _|refine Row.drew ?_)
     rintro e w5 ⟨B5,ta,tc,so,sc,ow5,rfl,G5⟩
     have m5:Mod No w1 w5:=Mod.trans (by exact (((Mod.refl No w1).drew.alloc _).alloc _)) G5.mod (fun _ _ h=> h)
     have z5:=G5.mod.size
     simp only [World.size_alloc,World.size_drew] at z5
     have GV:=G5.base (by exact (((Mod.refl No w1).drew.alloc _).alloc _))
     have HG:=Lib.hid (And.intro GV trivial)
     clear GV G5
     refine hKx _ _ (.inr (mS _ m5)) ?_
     clear hKx Kx
     (refine lxe HO (fun K hK=> ?_);go_simp;refine hK _ _ ?_ ?_;all_goals clear hK K)
     ·exact .inr (mS _ (m5.alloc _))
     (refine lxe HO (fun K hK=> ?_);go_simp;refine hK _ _ (.inl (by rfl)) ?_;clear hK K)
     refine wpL_nil ?_
     go_wp2_with fail
     go_meet
     obtain ⟨GV,_⟩:=HG.out
     refine ⟨w5.heap.size,B5,ta,tc,so,sc,ow5,rfl,GV.no ((Mod.refl No w5).alloc _),row_newL' _ _ [_,_,_,_,_,_,_] _ (by simp),Classical.byContradiction fun hh=> by have:=(GV.lt _ hh).2;omega,by have:=m5.size;omega⟩
    case q7=>
     (refine lxe HO (fun K hK=> ?_);go_simp;refine hK _ _ ?_ ?_;all_goals clear hK K)
     ·exact .inr (mS _ ((((Mod.refl No w1).drew.alloc _).alloc _).alloc _))
     refine lxe HO (fun Kx hKx=> ?_)
     go_simp
     refine (r_copied0 C cr gb G cap par wt (w1.heap.size) (w1.heap.size+1) h1 h2 hG0 hG _ ?g1 ?g2 ?g3).mono ?_
     case g1=> exact R1.mod (S:=No) ((((Mod.refl No w1).drew.alloc _).alloc _).alloc _) (fun h=> h)
     case g2=> repeat (first|(refine row_made' _ _ _ _ _ _ ?hb ?hh;(case hb=> (simp;done));(case hh=> (intro i _;simp [ints,Nat.mod_one])))|refine Row.alloc ?_ _|refine Row.drew ?_)
     case g3=> repeat (first|(refine row_made' _ _ _ _ _ _ ?hb ?hh;(case hb=> (simp;done));(case hh=> (intro i _;simp [ints,Nat.mod_one])))|refine Row.alloc ?_ _|refine Row.drew ?_)
     rintro e w5 ⟨B5,ta,tc,so,sc,ow5,rfl,G5⟩
     have m5:Mod No w1 w5:=Mod.trans (by exact ((((Mod.refl No w1).drew.alloc _).alloc _).alloc _)) G5.mod (fun _ _ h=> h)
     have z5:=G5.mod.size
     simp only [World.size_alloc,World.size_drew] at z5
     have N5:Row w5 (w1.heap.size+1+1) 7 (fl [.int .i64 0, .int .u64 0, .slice none 0 0, .slice none 0 0, .slice none 0 0, .slice none 0 0, .slice none 0 0]):=Row.mod (S:=No) (by repeat (first|(refine row_newL' _ _ [_,_,_,_,_,_,_] _ ?_;(simp;done))|refine Row.alloc ?_ _|refine Row.drew ?_)) G5.mod (fun h=> h)
     have n0:=N5.cL 0 _ (by omega) rfl
     have n1:=N5.cL 1 _ (by omega) rfl
     have n2:=N5.cL 2 _ (by omega) rfl
     have n3:=N5.cL 3 _ (by omega) rfl
     have n4:=N5.cL 4 _ (by omega) rfl
     have n5:=N5.cL 5 _ (by omega) rfl
     have n6:=N5.cL 6 _ (by omega) rfl
     have nf0:=N5.free 0
     have nf1:=N5.free 1
     have nf2:=N5.free 2
     have nf3:=N5.free 3
     have nf4:=N5.free 4
     have nf5:=N5.free 5
     have nf6:=N5.free 6
     have ln5:=N5.lt
     have ox:ow5 (w1.heap.size+1+1)= .no:=Classical.byContradiction fun hh=> by have:=(G5.lt _ hh).1;simp only [World.size_alloc,World.size_drew] at this;omega
     have GV:=G5.base (by exact ((((Mod.refl No w1).drew.alloc _).alloc _).alloc _))
     have HG:=Lib.hid (And.intro GV (And.intro N5 ox))
     clear GV G5 ox
     refine hKx _ _ (.inr (mS _ m5)) ?_
     clear hKx Kx
     (refine lxe HO (fun K hK=> ?_);go_simp;refine hK _ _ (.inl (by rfl)) ?_;clear hK K)
     refine wpL_nil ?_
     go_wp2_with fail
     go_meet
     obtain ⟨GV,N5,ox⟩:=HG.out
     refine ⟨w1.heap.size+1+1,B5,ta,tc,so,sc,ow5,rfl,GV.move (h7_mod (w1.heap.size+1+1) w5 _ _ _ _ _ _ _) (by rintro b rfl;exact ox) (by rintro b rfl;omega),h7_row N5 _ _ _ _ _ _ _,ox,by omega⟩
   case q5=>
    (refine lxe HO (fun K hK=> ?_);go_simp;refine hK _ _ ?_ ?_;all_goals clear hK K)
    ·exact .inr (mS _ (((Mod.refl No w1).drew.alloc _).alloc _))
    (refine lxe HO (fun K hK=> ?_);go_simp;refine hK _ _ ?_ ?_;all_goals clear hK K)
    ·exact .inr (mS _ ((((Mod.refl No w1).drew.alloc _).alloc _).alloc _))
    (repeat (first|(refine lxp HO (v:=?_) (fun w'=> ?_) ?_;rotate_left;(focus (go_simp;(try exact rfl);done));try go_simp)|(refine lxr HO (v:=?_) (fun w' hC'=> ?_) ?_;rotate_left;(focus (obtain ⟨c1,c2,c3⟩:=hC';go_simp;(try exact rfl);done));try go_simp)|(refine lxo HO ?_;try go_simp)))
    refine lxe HO (fun Kx hKx=> ?_)
    go_simp
    refine (r_copied0 C cr gb G cap par wt (w1.heap.size) (w1.heap.size+1+1) h1 h2 hG0 hG _ ?g1 ?g2 ?g3).mono ?_
    case g1=> exact R1.mod (S:=No) ((((Mod.refl No w1).drew.alloc _).alloc _).alloc _) (fun h=> h)
    case g2=> repeat (first|(refine row_made' _ _ _ _ _ _ ?hb ?hh;(case hb=> (simp;done));(case hh=> (intro i _;simp [ints,Nat.mod_one])))|refine Row.alloc ?_ _|refine Row.drew ?_)
    case g3=> repeat (first|(refine row_made' _ _ _ _ _ _ ?hb ?hh;(case hb=> (simp;done));(case hh=> (intro i _;simp [ints,Nat.mod_one])))|refine Row.alloc ?_ _|refine Row.drew ?_)
    rintro e w5 ⟨B5,ta,tc,so,sc,ow5,rfl,G5⟩
    have m5:Mod No w1 w5:=Mod.trans (by exact ((((Mod.refl No w1).drew.alloc _).alloc _).alloc _)) G5.mod (fun _ _ h=> h)
    have z5:=G5.mod.size
    simp only [World.size_alloc,World.size_drew] at z5
    have N5:Row w5 (w1.heap.size+1) 7 (fl [.int .i64 0, .int .u64 0, .slice none 0 0, .slice none 0 0, .slice none 0 0, .slice none 0 0, .slice none 0 0]):=Row.mod (S:=No) (by repeat (first|(refine row_newL' _ _ [_,_,_,_,_,_,_] _ ?_;(simp;done))|refine Row.alloc ?_ _|refine Row.drew ?_)) G5.mod (fun h=> h)
    have n0:=N5.cL 0 _ (by omega) rfl
    have n1:=N5.cL 1 _ (by omega) rfl
    have n2:=N5.cL 2 _ (by omega) rfl
    have n3:=N5.cL 3 _ (by omega) rfl
    have n4:=N5.cL 4 _ (by omega) rfl
    have n5:=N5.cL 5 _ (by omega) rfl
    have n6:=N5.cL 6 _ (by omega) rfl
    have nf0:=N5.free 0
    have nf1:=N5.free 1
    have nf2:=N5.free 2
    have nf3:=N5.free 3
    have nf4:=N5.free 4
    have nf5:=N5.free 5
    have nf6:=N5.free 6
    have ln5:=N5.lt
    have ox:ow5 (w1.heap.size+1)= .no:=Classical.byContradiction fun hh=> by have:=(G5.lt _ hh).1;simp only [World.size_alloc,World.size_drew] at this;omega
    have GV:=G5.base (by exact ((((Mod.refl No w1).drew.alloc _).alloc _).alloc _))
    have HG:=Lib.hid (And.intro GV (And.intro N5 ox))
    clear GV G5 ox
    refine hKx _ _ (.inr (mS _ m5)) ?_
    clear hKx Kx
    (refine lxe HO (fun K hK=> ?_);go_simp;refine hK _ _ (.inl (by rfl)) ?_;clear hK K)
    refine wpL_nil ?_
    go_wp2_with fail
    go_meet
    obtain ⟨GV,N5,ox⟩:=HG.out
    refine ⟨w1.heap.size+1,B5,ta,tc,so,sc,ow5,rfl,GV.move (h7_mod (w1.heap.size+1) w5 _ _ _ _ _ _ _) (by rintro b rfl;exact ox) (by rintro b rfl;omega),h7_row N5 _ _ _ _ _ _ _,ox,by omega⟩
  case q2=>
   (refine lxe HO (fun K hK=> ?_);go_simp;refine hK _ _ ?_ ?_;all_goals clear hK K)
   ·exact .inr (mS _ ((Mod.refl No w1).drew.alloc _))
   refine wpL_eff2 ?q8 ?q9
   case q8=>
    (refine lxe HO (fun K hK=> ?_);go_simp;refine hK _ _ ?_ ?_;all_goals clear hK K)
    ·exact .inr (mS _ (((Mod.refl No w1).drew.alloc _).alloc _))
    (repeat (first|(refine lxp HO (v:=?_) (fun w'=> ?_) ?_;rotate_left;(focus (go_simp;(try exact rfl);done));try go_simp)|(refine lxr HO (v:=?_) (fun w' hC'=> ?_) ?_;rotate_left;(focus (obtain ⟨c1,c2,c3⟩:=hC';go_simp;(try exact rfl);done));try go_simp)|(refine lxo HO ?_;try go_simp)))
    refine wpL_eff2 ?q10 ?q11
    case q10=>
     refine lxe HO (fun Kx hKx=> ?_)
     go_simp
     refine (r_copied0 C cr gb G cap par wt (w1.heap.size+1) (w1.heap.size) h1 h2 hG0 hG _ ?g1 ?g2 ?g3).mono ?_
     case g1=> exact R1.mod (S:=No) (((Mod.refl No w1).drew.alloc _).alloc _) (fun h=> h)
     case g2=> repeat (first|(refine row_made' _ _ _ _ _ _ ?hb ?hh;(case hb=> (simp;done));(case hh=> (intro i _;simp [ints,Nat.mod_one])))|refine Row.alloc ?_ _|refine Row.drew ?_)
     case g3=> repeat (first|(refine row_made' _ _ _ _ _ _ ?hb ?hh;(case hb=> (simp;done));(case hh=> (intro i _;simp [ints,Nat.mod_one])))|refine Row.alloc ?_ _|refine Row.drew ?_)
     rintro e w5 ⟨B5,ta,tc,so,sc,ow5,rfl,G5⟩
     have m5:Mod No w1 w5:=Mod.trans (by exact (((Mod.refl No w1).drew.alloc _).alloc _)) G5.mod (fun _ _ h=> h)
     have z5:=G5.mod.size
     simp only [World.size_alloc,World.size_drew] at z5
     have GV:=G5.base (by exact (((Mod.refl No w1).drew.alloc _).alloc _))
     have HG:=Lib.hid (And.intro GV trivial)
     clear GV G5
     refine hKx _ _ (.inr (mS _ m5)) ?_
     clear hKx Kx
     (refine lxe HO (fun K hK=> ?_);go_simp;refine hK _ _ ?_ ?_;all_goals clear hK K)
     ·exact .inr (mS _ (m5.alloc _))
     (refine lxe HO (fun K hK=> ?_);go_simp;refine hK _ _ (.inl (by rfl)) ?_;clear hK K)
     refine wpL_nil ?_
     go_wp2_with fail
     go_meet
     obtain ⟨GV,_⟩:=HG.out
     refine ⟨w5.heap.size,B5,ta,tc,so,sc,ow5,rfl,GV.no ((Mod.refl No w5).alloc _),row_newL' _ _ [_,_,_,_,_,_,_] _ (by simp),Classical.byContradiction fun hh=> by have:=(GV.lt _ hh).2;omega,by have:=m5.size;omega⟩
    case q11=>
     (refine lxe HO (fun K hK=> ?_);go_simp;refine hK _ _ ?_ ?_;all_goals clear hK K)
     ·exact .inr (mS _ ((((Mod.refl No w1).drew.alloc _).alloc _).alloc _))
     refine lxe HO (fun Kx hKx=> ?_)
     go_simp
     refine (r_copied0 C cr gb G cap par wt (w1.heap.size+1) (w1.heap.size) h1 h2 hG0 hG _ ?g1 ?g2 ?g3).mono ?_
     case g1=> exact R1.mod (S:=No) ((((Mod.refl No w1).drew.alloc _).alloc _).alloc _) (fun h=> h)
     case g2=> repeat (first|(refine row_made' _ _ _ _ _ _ ?hb ?hh;(case hb=> (simp;done));(case hh=> (intro i _;simp [ints,Nat.mod_one])))|refine Row.alloc ?_ _|refine Row.drew ?_)
     case g3=> repeat (first|(refine row_made' _ _ _ _ _ _ ?hb ?hh;(case hb=> (simp;done));(case hh=> (intro i _;simp [ints,Nat.mod_one])))|refine Row.alloc ?_ _|refine Row.drew ?_)
     rintro e w5 ⟨B5,ta,tc,so,sc,ow5,rfl,G5⟩
     have m5:Mod No w1 w5:=Mod.trans (by exact ((((Mod.refl No w1).drew.alloc _).alloc _).alloc _)) G5.mod (fun _ _ h=> h)
     have z5:=G5.mod.size
     simp only [World.size_alloc,World.size_drew] at z5
     have N5:Row w5 (w1.heap.size+1+1) 7 (fl [.int .i64 0, .int .u64 0, .slice none 0 0, .slice none 0 0, .slice none 0 0, .slice none 0 0, .slice none 0 0]):=Row.mod (S:=No) (by repeat (first|(refine row_newL' _ _ [_,_,_,_,_,_,_] _ ?_;(simp;done))|refine Row.alloc ?_ _|refine Row.drew ?_)) G5.mod (fun h=> h)
     have n0:=N5.cL 0 _ (by omega) rfl
     have n1:=N5.cL 1 _ (by omega) rfl
     have n2:=N5.cL 2 _ (by omega) rfl
     have n3:=N5.cL 3 _ (by omega) rfl
     have n4:=N5.cL 4 _ (by omega) rfl
     have n5:=N5.cL 5 _ (by omega) rfl
     have n6:=N5.cL 6 _ (by omega) rfl
     have nf0:=N5.free 0
     have nf1:=N5.free 1
     have nf2:=N5.free 2
     have nf3:=N5.free 3
     have nf4:=N5.free 4
     have nf5:=N5.free 5
     have nf6:=N5.free 6
     have ln5:=N5.lt
     have ox:ow5 (w1.heap.size+1+1)= .no:=Classical.byContradiction fun hh=> by have:=(G5.lt _ hh).1;simp only [World.size_alloc,World.size_drew] at this;omega
     have GV:=G5.base (by exact ((((Mod.refl No w1).drew.alloc _).alloc _).alloc _))
     have HG:=Lib.hid (And.intro GV (And.intro N5 ox))
     clear GV G5 ox
     refine hKx _ _ (.inr (mS _ m5)) ?_
     clear hKx Kx
     (refine lxe HO (fun K hK=> ?_);go_simp;refine hK _ _ (.inl (by rfl)) ?_;clear hK K)
     refine wpL_nil ?_
     go_wp2_with fail
     go_meet
     obtain ⟨GV,N5,ox⟩:=HG.out
     refine ⟨w1.heap.size+1+1,B5,ta,tc,so,sc,ow5,rfl,GV.move (h7_mod (w1.heap.size+1+1) w5 _ _ _ _ _ _ _) (by rintro b rfl;exact ox) (by rintro b rfl;omega),h7_row N5 _ _ _ _ _ _ _,ox,by omega⟩
   case q9=>
    (refine lxe HO (fun K hK=> ?_);go_simp;refine hK _ _ ?_ ?_;all_goals clear hK K)
    ·exact .inr (mS _ (((Mod.refl No w1).drew.alloc _).alloc _))
    (refine lxe HO (fun K hK=> ?_);go_simp;refine hK _ _ ?_ ?_;all_goals clear hK K)
    ·exact .inr (mS _ ((((Mod.refl No w1).drew.alloc _).alloc _).alloc _))
    (repeat (first|(refine lxp HO (v:=?_) (fun w'=> ?_) ?_;rotate_left;(focus (go_simp;(try exact rfl);done));try go_simp)|(refine lxr HO (v:=?_) (fun w' hC'=> ?_) ?_;rotate_left;(focus (obtain ⟨c1,c2,c3⟩:=hC';go_simp;(try exact rfl);done));try go_simp)|(refine lxo HO ?_;try go_simp)))
    refine lxe HO (fun Kx hKx=> ?_)
    go_simp
    refine (r_copied0 C cr gb G cap par wt (w1.heap.size+1+1) (w1.heap.size) h1 h2 hG0 hG _ ?g1 ?g2 ?g3).mono ?_
    case g1=> exact R1.mod (S:=No) ((((Mod.refl No w1).drew.alloc _).alloc _).alloc _) (fun h=> h)
    case g2=> repeat (first|(refine row_made' _ _ _ _ _ _ ?hb ?hh;(case hb=> (simp;done));(case hh=> (intro i _;simp [ints,Nat.mod_one])))|refine Row.alloc ?_ _|refine Row.drew ?_)
    case g3=> repeat (first|(refine row_made' _ _ _ _ _ _ ?hb ?hh;(case hb=> (simp;done));(case hh=> (intro i _;simp [ints,Nat.mod_one])))|refine Row.alloc ?_ _|refine Row.drew ?_)
    rintro e w5 ⟨B5,ta,tc,so,sc,ow5,rfl,G5⟩
    have m5:Mod No w1 w5:=Mod.trans (by exact ((((Mod.refl No w1).drew.alloc _).alloc _).alloc _)) G5.mod (fun _ _ h=> h)
    have z5:=G5.mod.size
    simp only [World.size_alloc,World.size_drew] at z5
    have N5:Row w5 (w1.heap.size+1) 7 (fl [.int .i64 0, .int .u64 0, .slice none 0 0, .slice none 0 0, .slice none 0 0, .slice none 0 0, .slice none 0 0]):=Row.mod (S:=No) (by repeat (first|(refine row_newL' _ _ [_,_,_,_,_,_,_] _ ?_;(simp;done))|refine Row.alloc ?_ _|refine Row.drew ?_)) G5.mod (fun h=> h)
    have n0:=N5.cL 0 _ (by omega) rfl
    have n1:=N5.cL 1 _ (by omega) rfl
    have n2:=N5.cL 2 _ (by omega) rfl
    have n3:=N5.cL 3 _ (by omega) rfl
    have n4:=N5.cL 4 _ (by omega) rfl
    have n5:=N5.cL 5 _ (by omega) rfl
    have n6:=N5.cL 6 _ (by omega) rfl
    have nf0:=N5.free 0
    have nf1:=N5.free 1
    have nf2:=N5.free 2
    have nf3:=N5.free 3
    have nf4:=N5.free 4
    have nf5:=N5.free 5
    have nf6:=N5.free 6
    have ln5:=N5.lt
    have ox:ow5 (w1.heap.size+1)= .no:=Classical.byContradiction fun hh=> by have:=(G5.lt _ hh).1;simp only [World.size_alloc,World.size_drew] at this;omega
    have GV:=G5.base (by exact ((((Mod.refl No w1).drew.alloc _).alloc _).alloc _))
    have HG:=Lib.hid (And.intro GV (And.intro N5 ox))
    clear GV G5 ox
    refine hKx _ _ (.inr (mS _ m5)) ?_
    clear hKx Kx
    (refine lxe HO (fun K hK=> ?_);go_simp;refine hK _ _ (.inl (by rfl)) ?_;clear hK K)
    refine wpL_nil ?_
    go_wp2_with fail
    go_meet
    obtain ⟨GV,N5,ox⟩:=HG.out
    refine ⟨w1.heap.size+1,B5,ta,tc,so,sc,ow5,rfl,GV.move (h7_mod (w1.heap.size+1) w5 _ _ _ _ _ _ _) (by rintro b rfl;exact ox) (by rintro b rfl;omega),h7_row N5 _ _ _ _ _ _ _,ox,by omega⟩
  case q3=>
   (refine lxe HO (fun K hK=> ?_);go_simp;refine hK _ _ ?_ ?_;all_goals clear hK K)
   ·exact .inr (mS _ ((Mod.refl No w1).drew.alloc _))
   refine wpL_eff2 ?q12 ?q13
   case q12=>
    (refine lxe HO (fun K hK=> ?_);go_simp;refine hK _ _ ?_ ?_;all_goals clear hK K)
    ·exact .inr (mS _ (((Mod.refl No w1).drew.alloc _).alloc _))
    (refine lxe HO (fun K hK=> ?_);go_simp;refine hK _ _ ?_ ?_;all_goals clear hK K)
    ·exact .inr (mS _ ((((Mod.refl No w1).drew.alloc _).alloc _).alloc _))
    (repeat (first|(refine lxp HO (v:=?_) (fun w'=> ?_) ?_;rotate_left;(focus (go_simp;(try exact rfl);done));try go_simp)|(refine lxr HO (v:=?_) (fun w' hC'=> ?_) ?_;rotate_left;(focus (obtain ⟨c1,c2,c3⟩:=hC';go_simp;(try exact rfl);done));try go_simp)|(refine lxo HO ?_;try go_simp)))
    refine lxe HO (fun Kx hKx=> ?_)
    go_simp
    refine (r_copied0 C cr gb G cap par wt (w1.heap.size+1) (w1.heap.size+1+1) h1 h2 hG0 hG _ ?g1 ?g2 ?g3).mono ?_
    case g1=> exact R1.mod (S:=No) ((((Mod.refl No w1).drew.alloc _).alloc _).alloc _) (fun h=> h)
    case g2=> repeat (first|(refine row_made' _ _ _ _ _ _ ?hb ?hh;(case hb=> (simp;done));(case hh=> (intro i _;simp [ints,Nat.mod_one])))|refine Row.alloc ?_ _|refine Row.drew ?_)
    case g3=> repeat (first|(refine row_made' _ _ _ _ _ _ ?hb ?hh;(case hb=> (simp;done));(case hh=> (intro i _;simp [ints,Nat.mod_one])))|refine Row.alloc ?_ _|refine Row.drew ?_)
    rintro e w5 ⟨B5,ta,tc,so,sc,ow5,rfl,G5⟩
    have m5:Mod No w1 w5:=Mod.trans (by exact ((((Mod.refl No w1).drew.alloc _).alloc _).alloc _)) G5.mod (fun _ _ h=> h)
    have z5:=G5.mod.size
    simp only [World.size_alloc,World.size_drew] at z5
    have N5:Row w5 (w1.heap.size) 7 (fl [.int .i64 0, .int .u64 0, .slice none 0 0, .slice none 0 0, .slice none 0 0, .slice none 0 0, .slice none 0 0]):=Row.mod (S:=No) (by repeat (first|(refine row_newL' _ _ [_,_,_,_,_,_,_] _ ?_;(simp;done))|refine Row.alloc ?_ _|refine Row.drew ?_)) G5.mod (fun h=> h)
    have n0:=N5.cL 0 _ (by omega) rfl
    have n1:=N5.cL 1 _ (by omega) rfl
    have n2:=N5.cL 2 _ (by omega) rfl
    have n3:=N5.cL 3 _ (by omega) rfl
    have n4:=N5.cL 4 _ (by omega) rfl
    have n5:=N5.cL 5 _ (by omega) rfl
    have n6:=N5.cL 6 _ (by omega) rfl
    have nf0:=N5.free 0
    have nf1:=N5.free 1
    have nf2:=N5.free 2
    have nf3:=N5.free 3
    have nf4:=N5.free 4
    have nf5:=N5.free 5
    have nf6:=N5.free 6
    have ln5:=N5.lt
    have ox:ow5 (w1.heap.size)= .no:=Classical.byContradiction fun hh=> by have:=(G5.lt _ hh).1;simp only [World.size_alloc,World.size_drew] at this;omega
    have GV:=G5.base (by exact ((((Mod.refl No w1).drew.alloc _).alloc _).alloc _))
    have HG:=Lib.hid (And.intro GV (And.intro N5 ox))
    clear GV G5 ox
    refine hKx _ _ (.inr (mS _ m5)) ?_
    clear hKx Kx
    (refine lxe HO (fun K hK=> ?_);go_simp;refine hK _ _ (.inl (by rfl)) ?_;clear hK K)
    refine wpL_nil ?_
    go_wp2_with fail
    go_meet
    obtain ⟨GV,N5,ox⟩:=HG.out
    refine ⟨w1.heap.size,B5,ta,tc,so,sc,ow5,rfl,GV.move (h7_mod (w1.heap.size) w5 _ _ _ _ _ _ _) (by rintro b rfl;exact ox) (by rintro b rfl;omega),h7_row N5 _ _ _ _ _ _ _,ox,by omega⟩
   case q13=>
    (refine lxe HO (fun K hK=> ?_);go_simp;refine hK _ _ ?_ ?_;all_goals clear hK K)
    ·exact .inr (mS _ (((Mod.refl No w1).drew.alloc _).alloc _))
    (refine lxe HO (fun K hK=> ?_);go_simp;refine hK _ _ ?_ ?_;all_goals clear hK K)
    ·exact .inr (mS _ ((((Mod.refl No w1).drew.alloc _).alloc _).alloc _))
    (repeat (first|(refine lxp HO (v:=?_) (fun w'=> ?_) ?_;rotate_left;(focus (go_simp;(try exact rfl);done));try go_simp)|(refine lxr HO (v:=?_) (fun w' hC'=> ?_) ?_;rotate_left;(focus (obtain ⟨c1,c2,c3⟩:=hC';go_simp;(try exact rfl);done));try go_simp)|(refine lxo HO ?_;try go_simp)))
    refine lxe HO (fun Kx hKx=> ?_)
    go_simp
    refine (r_copied0 C cr gb G cap par wt (w1.heap.size+1+1) (w1.heap.size+1) h1 h2 hG0 hG _ ?g1 ?g2 ?g3).mono ?_
    case g1=> exact R1.mod (S:=No) ((((Mod.refl No w1).drew.alloc _).alloc _).alloc _) (fun h=> h)
    case g2=> repeat (first|(refine row_made' _ _ _ _ _ _ ?hb ?hh;(case hb=> (simp;done));(case hh=> (intro i _;simp [ints,Nat.mod_one])))|refine Row.alloc ?_ _|refine Row.drew ?_)
    case g3=> repeat (first|(refine row_made' _ _ _ _ _ _ ?hb ?hh;(case hb=> (simp;done));(case hh=> (intro i _;simp [ints,Nat.mod_one])))|refine Row.alloc ?_ _|refine Row.drew ?_)
    rintro e w5 ⟨B5,ta,tc,so,sc,ow5,rfl,G5⟩
    have m5:Mod No w1 w5:=Mod.trans (by exact ((((Mod.refl No w1).drew.alloc _).alloc _).alloc _)) G5.mod (fun _ _ h=> h)
    have z5:=G5.mod.size
    simp only [World.size_alloc,World.size_drew] at z5
    have N5:Row w5 (w1.heap.size) 7 (fl [.int .i64 0, .int .u64 0, .slice none 0 0, .slice none 0 0, .slice none 0 0, .slice none 0 0, .slice none 0 0]):=Row.mod (S:=No) (by repeat (first|(refine row_newL' _ _ [_,_,_,_,_,_,_] _ ?_;(simp;done))|refine Row.alloc ?_ _|refine Row.drew ?_)) G5.mod (fun h=> h)
    have n0:=N5.cL 0 _ (by omega) rfl
    have n1:=N5.cL 1 _ (by omega) rfl
    have n2:=N5.cL 2 _ (by omega) rfl
    have n3:=N5.cL 3 _ (by omega) rfl
    have n4:=N5.cL 4 _ (by omega) rfl
    have n5:=N5.cL 5 _ (by omega) rfl
    have n6:=N5.cL 6 _ (by omega) rfl
    have nf0:=N5.free 0
    have nf1:=N5.free 1
    have nf2:=N5.free 2
    have nf3:=N5.free 3
    have nf4:=N5.free 4
    have nf5:=N5.free 5
    have nf6:=N5.free 6
    have ln5:=N5.lt
    have ox:ow5 (w1.heap.size)= .no:=Classical.byContradiction fun hh=> by have:=(G5.lt _ hh).1;simp only [World.size_alloc,World.size_drew] at this;omega
    have GV:=G5.base (by exact ((((Mod.refl No w1).drew.alloc _).alloc _).alloc _))
    have HG:=Lib.hid (And.intro GV (And.intro N5 ox))
    clear GV G5 ox
    refine hKx _ _ (.inr (mS _ m5)) ?_
    clear hKx Kx
    (refine lxe HO (fun K hK=> ?_);go_simp;refine hK _ _ (.inl (by rfl)) ?_;clear hK K)
    refine wpL_nil ?_
    go_wp2_with fail
    go_meet
    obtain ⟨GV,N5,ox⟩:=HG.out
    refine ⟨w1.heap.size,B5,ta,tc,so,sc,ow5,rfl,GV.move (h7_mod (w1.heap.size) w5 _ _ _ _ _ _ _) (by rintro b rfl;exact ox) (by rintro b rfl;omega),h7_row N5 _ _ _ _ _ _ _,ox,by omega⟩
 case rest=>
  obtain ⟨xs,B5,ta,tc,so0,sc0,ow5,rfl,G0,XS,ox0,lxs⟩:=hcut
  have mc:=G0.mod
  have XC:=X1.mod mc (fun h=> h)
  have ZC:=Z1.mod mc (fun h=> h)
  have hms2:=mk_fact (P:=Tryz.prog) 103 122 _ 3 24 Tryz.underlying103 Tryz.infoSpot C (by omega) (by omega)
  clear mS hms R1 X1 Z1
  go_wp2
  go_loopw [4] (fun s4 wr=> ∃ (k:Nat) (B' :STB) (ow' :Nat→SOwn) (so:Option Addr) (sc:Nat),s4= .int .i64 k∧k≤G∧GP w1 wr B' (AZ C G cr par wt) k none (.slice ta 0 tc) ow' (.slice so k sc)∧(B'.gb=B5.gb∧B'.gcap=B5.gcap∧B'.cl=B5.cl∧B'.ccap=B5.ccap∧B'.cu=B5.cu∧B'.ucap=B5.ucap)∧Row wr xs 7 (fl [.int .i64 C, .int .u64 cr,slc B5.gb G B5.gcap,slc B5.cl C B5.ccap,slc B5.cu C B5.ucap, .slice ta 0 tc, .slice so k sc])∧Row wr w.heap.size 3 (fl [.int .i64 C, .int .u64 cr,slc gb G cap])∧Row wr (w.heap.size+1) 7 (fl [.int .i64 0, .int .u64 0, .slice none 0 0, .slice none 0 0, .slice none 0 0, .slice none 0 0, .slice none 0 0])∧ow' xs= .no) (fun s4 _=> G - (RowKit.intOf s4).toNat)
  case atStart=> exact ⟨0,_,_,so0,sc0,rfl,by omega,G0,⟨rfl,rfl,rfl,rfl,rfl,rfl⟩,XS,XC,ZC,ox0⟩
  case round=>
   obtain ⟨wk,rfl⟩:∃ W,W=wr:=⟨wr,rfl⟩
   obtain ⟨k,B',ow',so,sc,rfl,hk,I,hB,X,XB,Z,ox⟩:=hrel
   clear G0 XS XC ZC
   have lX:=X.lt
   have lXB:=XB.lt
   have lZk:=Z.lt
   have q2:=XB.cL 2 _ (by omega) rfl
   by_cases hkG:k < G
   ·have j0:(0:Int)≤k:=by omega
    have j1:(k:Int) < G:=by omega
    have HB:=Lib.hid (And.intro I (And.intro hB ox))
    clear hB ox
    have mS:∀ w',Mod No wk w' →w'.cell? ⟨xs,6,none⟩=some (.slice so k sc)∧w'.cell? ⟨w.heap.size,0,none⟩=some (.int .i64 C):=fun w' hm=> by
     exact ⟨(X.mod hm (fun h=> h)).cL 6 _ (by omega) rfl,(XB.mod hm (fun h=> h)).cL 0 _ (by omega) rfl⟩
    go_upto_region 5 with fail
    refine wp_region_chain (fun w' => w'.cell? ⟨xs,6,none⟩=some (.slice so k sc)∧w'.cell? ⟨w.heap.size,0,none⟩=some (.int .i64 C)) [4,5,6,8] [7] [8] (rds [0,1,2,3] (.ef 4 (.ef 5 (.ef 6 (rds [7] (.ef 8 .nil)))))) (by kernel_rfl) (by kernel_rfl) (mS _ (Mod.refl No wk).drew) ?_
    intro O hO
    have HO:=Lib.hid hO
    clear hO
    simp only [rds]
    (repeat (first|(refine lxp HO (v:=?_) (fun w'=> ?_) ?_;rotate_left;(focus (go_simp;(try exact rfl);done));try go_simp)|(refine lxr HO (v:=?_) (fun w' hC'=> ?_) ?_;rotate_left;(focus (obtain ⟨c1,c2⟩:=hC';go_simp;(try exact rfl);done));try go_simp)|(refine lxo HO ?_;try go_simp)))
    (refine lxe HO (fun K hK=> ?_);go_simp;refine hK _ _ ?_ ?_;all_goals clear hK K)
    ·exact .inr (mS _ ((Mod.refl No wk).drew.alloc _))
    (refine lxe HO (fun K hK=> ?_);go_simp;refine hK _ _ ?_ ?_;all_goals clear hK K)
    ·exact .inr (mS _ (((Mod.refl No wk).drew.alloc _).alloc _))
    refine lxe HO (fun Kx hKx=> ?_)
    refine step_app_c 103 _ 1 24 Tryz.infoSSpot rfl _ _ 46 rfl Tryz.underlying46 rfl (by decide) (by decide) [slc wk.heap.size C C] rfl (by simp [Value.oneCell']) w1.heap.size (.slice so k sc) k ((List.range k).map fun g=> slc (B'.si g) C (B'.sc g)) _ _ rfl rfl ?hB (by omega) ?hOw ?hR ?hh
    case hB=>
     simp
     omega
    case hOw=> (repeat first|(with_reducible exact I.s)|(with_reducible refine World.ownsRow.drew ?_)|(with_reducible refine World.ownsRow.alloc ?_ _))
    case hR=> first|exact row_newL' _ _ [_] _ (by simp)|exact Row.drew (row_newL' _ _ [_] _ (by simp))
    case hh=>
     intro gs ct wA hA
     obtain ⟨I,hB,ox⟩:=HB.out
     have nx:(Value.slice so k sc).ownBlock≠some xs:=fun e=> by have:=I.sown _ e;rw [ox] at this;cases this
     have nw:(Value.slice so k sc).ownBlock≠some w.heap.size:=fun e=> by have:=(I.s.lt _ e).1;omega
     have nz:(Value.slice so k sc).ownBlock≠some (w.heap.size+1):=fun e=> by have:=(I.s.lt _ e).1;omega
     have ZA:=Appd.row hA (Z.mod (S:=No) (by (repeat first|(with_reducible exact (Mod.refl No wk))|(with_reducible refine Mod.alloc ?_ _)|(with_reducible refine Mod.drew ?_)|(with_reducible refine Mod.drewN ?_ _)|(with_reducible refine Mod.sc ?_))) (fun h=> h)) nz
     have XA:=Appd.row hA (X.mod (S:=No) (by (repeat first|(with_reducible exact (Mod.refl No wk))|(with_reducible refine Mod.alloc ?_ _)|(with_reducible refine Mod.drew ?_)|(with_reducible refine Mod.drewN ?_ _)|(with_reducible refine Mod.sc ?_))) (fun h=> h)) nx
     have YA:=Appd.row hA (XB.mod (S:=No) (by (repeat first|(with_reducible exact (Mod.refl No wk))|(with_reducible refine Mod.alloc ?_ _)|(with_reducible refine Mod.drew ?_)|(with_reducible refine Mod.drewN ?_ _)|(with_reducible refine Mod.sc ?_))) (fun h=> h)) nw
     have fA:=XA.free 6
     have qA:=XA.cL 6 _ (by omega) rfl
     have lXA:=XA.lt
     have sA:Row (((wk.alloc (.cells (madeCells #[.int .u64 0, .int .u32 0, .int .u64 0] (C * 3)) 122)).alloc (.cells #[slc wk.heap.size C C] 103)).drew) wk.heap.size (C * 3) (spt fun _=> (0,0,0)):=((row_made wk #[.int .u64 0, .int .u32 0, .int .u64 0] (C * 3) 122 (spt fun _=> (0,0,0)) (fun i _=> spt_zero i)).alloc _).drew
     have HA:=Lib.hid (And.intro I (And.intro hB (And.intro ox (And.intro hA (And.intro nx nw)))))
     refine hKx _ _ (.inr ⟨qA,YA.cL 0 _ (by omega) rfl⟩) ?_
     clear hKx Kx I hB ox hA nx nw nz
     (repeat (first|(refine lxp HO (v:=?_) (fun w'=> ?_) ?_;rotate_left;(focus (go_simp;(try exact rfl);done));try go_simp)|(refine lxr HO (v:=?_) (fun w' hC'=> ?_) ?_;rotate_left;(focus (obtain ⟨c1,c2⟩:=hC';go_simp;(try exact rfl);done));try go_simp)|(refine lxo HO ?_;try go_simp)))
     (refine lxe HO (fun K hK=> ?_);go_simp;refine hK _ _ (.inl (by rfl)) ?_;clear hK K)
     refine wpL_nil ?_
     go_wp2
     obtain ⟨I,hB,ox,hA,nx,nw⟩:=HA.out
     have mk:=I.mod
     have mW:Mod No wk (((wk.alloc (.cells (madeCells #[.int .u64 0, .int .u32 0, .int .u64 0] (C * 3)) 122)).alloc (.cells #[slc wk.heap.size C C] 103)).drew):=((Mod.refl No wk).alloc _).alloc _|>.drew
     have hzA:=hA.mod.size
     have hzk:=mk.size
     simp only [World.size_alloc,World.size_drew] at hzA
     have aq:=hA.at_
     have ngx:gs≠xs:=by
      rintro rfl
      rcases aq with h|h
      ·exact nx h
      ·simp only [World.size_alloc,World.size_drew] at h;omega
     have mC:Mod (fun b=> b=xs) wA (wA.setCell ⟨xs,6,none⟩ (slc gs (k+1) ct)):=(Mod.refl (fun b=> b=xs) wA).setCell (p:=⟨xs,6,none⟩) (.inr rfl) _
     have hnk:ow' wk.heap.size= .no:=Classical.byContradiction fun hh=> by have:=(I.lt _ hh).2;omega
     obtain ⟨ow2,I2,ho2⟩:=(I.no mW).next (S:=fun b=> b=xs) (sg:=wk.heap.size) (scp:=C) hnk (by omega) sA (Mod.trans (hA.mod.mono (T:=fun b=> b=xs∨(Value.slice so k sc).ownBlock=some b) (fun b _ h=> .inr h)) (mC.mono (fun b _ h=> .inl h)) (fun _ _ h=> h)) (by rintro b rfl;exact ⟨ox,by omega,by omega⟩) (ownsRow_mod hA.own mC (by rintro b hb rfl;exact ngx (Option.some.inj hb))) aq
     refine ⟨⟨k+1,_,ow2,some ⟨gs,0,none⟩,ct,by go_num,by omega,I2,hB,(XA.set (i:=6) (by omega) _).congr (by apply le7c <;> rfl),YA.setOther (p:=⟨xs,6,none⟩) (by show xs≠w.heap.size;omega) _,ZA.setOther (p:=⟨xs,6,none⟩) (by show xs≠w.heap.size+1;omega) _,by rw [ho2 _ (by simp;omega) (by omega)];exact ox⟩,by simp only [RowKit.intOf];omega⟩
   ·obtain rfl:k=G:=by omega
    have j1:(k:Int)≤k:=by omega
    have x0:=X.cL 0 _ (by omega) rfl
    have x1:=X.cL 1 _ (by omega) rfl
    have x2:=X.cL 2 _ (by omega) rfl
    have x3:=X.cL 3 _ (by omega) rfl
    have x4:=X.cL 4 _ (by omega) rfl
    have x5:=X.cL 5 _ (by omega) rfl
    have x6:=X.cL 6 _ (by omega) rfl
    have z0:=Z.cL 0 _ (by omega) rfl
    have z1:=Z.cL 1 _ (by omega) rfl
    have z2:=Z.cL 2 _ (by omega) rfl
    have z3:=Z.cL 3 _ (by omega) rfl
    have z4:=Z.cL 4 _ (by omega) rfl
    have z5:=Z.cL 5 _ (by omega) rfl
    have z6:=Z.cL 6 _ (by omega) rfl
    have gf0:=Z.free 0
    have gf1:=Z.free 1
    have gf2:=Z.free 2
    have gf3:=Z.free 3
    have gf4:=Z.free 4
    have gf5:=Z.free 5
    have gf6:=Z.free 6
    obtain ⟨hb1,hb2,hb3,hb4,hb5,hb6⟩:=hB
    obtain ⟨B9,hB9,S9,hlo9⟩:=I.done (by show 0 < k;omega)
    have e9:stv B9 (AZ C k cr par wt)= .agg #[.int .i64 C, .int .u64 cr,slc B5.gb k B5.gcap,slc B5.cl C B5.ccap,slc B5.cu C B5.ucap, .slice ta 0 tc, .slice so k sc]:=by
     have:=congrArg (fun l=> Value.agg l.toArray) hB9
     simp only [hb1,hb2,hb3,hb4,hb5,hb6] at this
     exact this
    have oz:ow' (w.heap.size+1)= .no:=Classical.byContradiction fun hh=> by have:=(I.lt _ hh).1;omega
    have mk:=I.mod
    have HB:=Lib.hid (And.intro I (And.intro e9 (And.intro S9 (And.intro oz (And.intro hlo9 mk)))))
    clear hb1 hb2 hb3 hb4 hb5 hb6 hB9 S9 e9 ox oz hlo9 I mk
    go_wp2
    obtain ⟨I,e9,S9,oz,hlo9,mk⟩:=HB.out
    have hm:=h7_mod (w.heap.size+1) wk (.int .i64 C) (.int .u64 cr) (slc B5.gb k B5.gcap) (slc B5.cl C B5.ccap) (slc B5.cu C B5.ucap) (.slice ta 0 tc) (.slice so k sc)
    refine bodyPost_ret (v:= .agg #[.int .i64 C, .int .u64 cr,slc B5.gb k B5.gcap,slc B5.cl C B5.ccap,slc B5.cu C B5.ucap, .slice ta 0 tc, .slice so k sc]) (by simp [results,Tryz.results17,go_sem, *]) rfl ⟨B9,ow',by rw [←e9],Mod.trans m1 (Mod.trans (mk.no _) hm (fun _ _ h=> h)) (fun b hb e=> by have e' :b=w.heap.size+1:=e;omega),S9.mod hm (by rintro b rfl;exact oz),fun b hb=> by have:=hlo9 b hb;have:=m1.size;omega⟩
end Go.Q
