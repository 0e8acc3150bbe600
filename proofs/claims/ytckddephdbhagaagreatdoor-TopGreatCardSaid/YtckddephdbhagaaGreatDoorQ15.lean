/- A part of the proof that TopGreat answers true: what some of the functions on its road compute. -/
import Derived.Lib.VarintBits
import Derived.Lib.Varint
import Derived.Test.YtckddephdbhagaaGreatDoorQ4
import Derived.Test.YtckddephdbhagaaGreatDoorQ5
import Derived.Test.YtckddephdbhagaaGreatDoorQ14
set_option linter.unusedVariables false
set_option linter.unusedSimpArgs false
namespace Go.Q
open Go.RowKit Go.Proofs
section
variable {w:World} {ow:Nat→Own} {x:Nat} {B:SB} {s:SSt}
set_option maxRecDepth 100000 in
set_option maxHeartbeats 4000000 in
theorem State_ok (h:SAt w ow x B s) (t:TSt) (c0 g0:Nat) (f0 ld v r k:Int) (sv:Nat→Nat→Int×Int×Int) (kf:Nat→Nat→Int) (ht:s.task=some t) (htg:t.group=g0) (htc:t.cpu=c0) (hrd:t.ready=true) (hc0:c0 < s.C) (hg0:g0 < s.G) (h0:0≤t.id) (h1:t.id < 65536) (hq:s.qs g0 c0= .o f0 ld t.id v r k)
  (hsp:∀ g c,g < s.G→c < s.C→∀ w',SAt w' ow x B s→Calls Tryz.prog 91 #[ptr x, .int .i64 g, .int .i64 c] w' fun e w'' => e= .returned (ent (sv g c).1 (sv g c).2.1 (kf g c))∧Below w'.heap.size w' w'')
  (hfl:∀ g c,g < s.G→c < s.C→(s.qs g c).fl=(sv g c).2.2) (hC:0 < s.C) (hC2:s.C≤64) (hG:0 < s.G) (hG2:s.G≤256):
  Calls Tryz.prog 25 #[ptr x] w fun e w' => ∃ B' ow',e= .returned (.tuple #[stv B' ⟨s.C,s.G,s.cr,s.par,s.wt,s.clocks,s.current,some ⟨t.id,t.group,t.weight,t.cpu,t.mask,t.ready,v,r⟩,sv⟩, .int .i64 0])∧
   StAt w' ow' B' ⟨s.C,s.G,s.cr,s.par,s.wt,s.clocks,s.current,some ⟨t.id,t.group,t.weight,t.cpu,t.mask,t.ready,v,r⟩,sv⟩∧Mod No w w' ∧(∀ b,ow' b≠ .no→w.heap.size≤b)∧s.G≤B'.gcap:=by
 have HV:=Lib.hid (And.intro hsp (And.intro hfl (And.intro ht (And.intro htg (And.intro htc (And.intro hrd hq))))))
 clear hsp hfl ht htg htc hrd hq
 go_enter Tryz.func25,Tryz.ntmps25
 go_wp2_with fail
 refine (schedSome x _ s.C B.ccap hC _ (h.no ((Mod.refl No w).alloc _)).look.2.2.2.1).mono ?_;rintro e w1 ⟨rfl,rfl⟩
 go_upto_region 3 with fail
 refine wp_world (fun V=> SAt V ow x B s∧Mod No w V∧Row V w.heap.size 7 (fl [.int .i64 0, .int .u64 0, .slice none 0 0, .slice none 0 0, .slice none 0 0, .slice none 0 0, .slice none 0 0])) ?_ ?_
 ·have m:=(Mod.refl No w).alloc (.cells #[.int .i64 0, .int .u64 0, .slice none 0 0, .slice none 0 0, .slice none 0 0, .slice none 0 0, .slice none 0 0] 48)
  exact ⟨h.no m,m,row_newL w [_,_,_,_,_,_,_] _⟩
 intro V ⟨S1,m1,Z1⟩
 have lZ:=Z1.lt
 have mS:∀ w',Mod No V w' →w'.cell? ⟨x,0,none⟩=some (.int .i64 s.C)∧w'.cell? ⟨x,1,none⟩=some (.int .u64 s.cr)∧w'.cell? ⟨x,2,none⟩=some (slc B.gb s.G B.gcap)∧w'.cell? ⟨x,3,none⟩=some (slc B.cb s.C B.ccap)∧w'.cell? ⟨x,4,none⟩=some (slc B.ub s.C B.ucap):=fun w' hm=> by
  have S2:=S1.no hm
  exact ⟨S2.look.1,S2.look.2.1,S2.look.2.2.1,S2.look.2.2.2.1,S2.look.2.2.2.2.1⟩
 go_cut [4] (fun s4 wx=> ∃ nb g1 c1 g2 c2,s4=ptr nb∧V.heap.size≤nb∧V.heap.size≤g1∧V.heap.size≤g2∧nb≠g1∧nb≠g2∧g1≠g2∧Row wx nb 7 (fl [.int .i64 s.C, .int .u64 s.cr,slc B.gb s.G B.gcap,slc g1 s.C c1,slc g2 s.C c2, .slice none 0 0, .slice none 0 0])∧Row wx g1 s.C (ints s.clocks)∧Row wx g2 s.C (ints s.current)∧Mod No V wx)
 case first=>
  refine wp_region_chain (fun w' => w'.cell? ⟨x,0,none⟩=some (.int .i64 s.C)∧w'.cell? ⟨x,1,none⟩=some (.int .u64 s.cr)∧w'.cell? ⟨x,2,none⟩=some (slc B.gb s.G B.gcap)∧w'.cell? ⟨x,3,none⟩=some (slc B.cb s.C B.ccap)∧w'.cell? ⟨x,4,none⟩=some (slc B.ub s.C B.ucap)) [8,13,15,16] [14] [16] (rds [0,1,2,3,4,5,6,7,9,10,11,12] (.ef2 8 (.ef2 13 (rds [14] (.ef 15 (.ef 16 .nil))) 15 (.ef 13 (rds [14] (.ef 16 .nil)))) 15 (.ef 8 (.ef 13 (rds [14] (.ef 16 .nil)))))) (by kernel_rfl) (by kernel_rfl) (mS _ (Mod.refl No V).drew) ?_
  intro O hO
  have HO:=Lib.hid hO
  clear hO
  simp only [rds]
  (repeat (first|(refine wpL_pure (v:=?_) (by rw [HO.out];rfl) (by first|rfl|(rw [HO.out];rfl)) (fun w'=> ?_) ?_;rotate_left;(focus (go_simp;(try exact rfl);done));try go_simp)|(refine wpL_read (v:=?_) (by rw [HO.out];rfl) (by rfl) (by first|rfl|(rw [HO.out];rfl)) (fun w' hC'=> ?_) ?_;rotate_left;(focus (obtain ⟨c1',c2',c3',c4',c5'⟩:=hC';go_simp;(try exact rfl);done));try go_simp)|(refine wpL_off (by rw [HO.out];rfl) (by first|rfl|(rw [HO.out];rfl)) ?_;try go_simp)))
  refine wpL_eff2 ?o1 ?o2
  case o1=>
   refine wpL_eff (by rw [HO.out];rfl) (fun Kx hKx=> ?_)
   go_simp
   refine (cloneInts B.cb s.C B.ccap (ints s.clocks) _ (by rw [Nat.mul_one];exact ((S1.no (Mod.refl No V).drew).1 .cb).2) hC (by omega) (fun i _=> rfl)).mono ?_;rintro e w4 ⟨g1,c1,rfl,a1,a2,a3,a4,a5⟩
   have m4:Mod No V w4:=Mod.trans (Mod.refl No V).drew a5 (fun _ _ h=> h)
   refine hKx _ _ (.inr (mS _ m4)) ?_
   clear hKx Kx
   (repeat (first|(refine wpL_pure (v:=?_) (by rw [HO.out];rfl) (by first|rfl|(rw [HO.out];rfl)) (fun w'=> ?_) ?_;rotate_left;(focus (go_simp;(try exact rfl);done));try go_simp)|(refine wpL_read (v:=?_) (by rw [HO.out];rfl) (by rfl) (by first|rfl|(rw [HO.out];rfl)) (fun w' hC'=> ?_) ?_;rotate_left;(focus (obtain ⟨c1',c2',c3',c4',c5'⟩:=hC';go_simp;(try exact rfl);done));try go_simp)|(refine wpL_off (by rw [HO.out];rfl) (by first|rfl|(rw [HO.out];rfl)) ?_;try go_simp)))
   refine wpL_eff2 ?o3 ?o4
   case o3=>
    refine wpL_eff (by rw [HO.out];rfl) (fun Kx hKx=> ?_)
    go_simp
    refine (cloneInts B.ub s.C B.ucap (ints s.current) _ (by rw [Nat.mul_one];exact ((S1.no m4).1 .ub).2) hC (by omega) (fun i _=> rfl)).mono ?_;rintro e w5 ⟨g2,c2,rfl,b1,b2,b3,b4,b5⟩
    have m5:Mod No V w5:=Mod.trans m4 b5 (fun _ _ h=> h)
    refine hKx _ _ (.inr (mS _ m5)) ?_
    clear hKx Kx
    (repeat (first|(refine wpL_pure (v:=?_) (by rw [HO.out];rfl) (by first|rfl|(rw [HO.out];rfl)) (fun w'=> ?_) ?_;rotate_left;(focus (go_simp;(try exact rfl);done));try go_simp)|(refine wpL_read (v:=?_) (by rw [HO.out];rfl) (by rfl) (by first|rfl|(rw [HO.out];rfl)) (fun w' hC'=> ?_) ?_;rotate_left;(focus (obtain ⟨c1',c2',c3',c4',c5'⟩:=hC';go_simp;(try exact rfl);done));try go_simp)|(refine wpL_off (by rw [HO.out];rfl) (by first|rfl|(rw [HO.out];rfl)) ?_;try go_simp)))
    (refine lxe HO (fun K hK=> ?_);go_simp;refine hK _ _ ?_ ?_;all_goals clear hK K)
    ·exact .inr (mS _ (m5.alloc _))
    (refine lxe HO (fun K hK=> ?_);go_simp;refine hK _ _ (.inl (by rfl)) ?_;clear hK K)
    refine wpL_nil ?_
    go_wp2_with fail
    go_meet
    rw [Nat.mul_one] at a4 b4
    simp only [World.size_alloc,World.size_drew] at a1 b1
    have z4:=m4.size
    exact ⟨w5.heap.size,g1,c1,g2,c2,rfl,by omega,by omega,by omega,by omega,by omega,by omega,row_newL w5 [_,_,_,_,_,_,_] _,(a4.mod b5 (fun h=> h)).alloc _,b4.alloc _,m5.alloc _⟩
   case o4=>
    (refine lxe HO (fun K hK=> ?_);go_simp;refine hK _ _ ?_ ?_;all_goals clear hK K)
    ·exact .inr (mS _ (m4.alloc _))
    refine wpL_eff (by rw [HO.out];rfl) (fun Kx hKx=> ?_)
    go_simp
    refine (cloneInts B.ub s.C B.ucap (ints s.current) _ (by rw [Nat.mul_one];exact ((S1.no (m4.alloc _)).1 .ub).2) hC (by omega) (fun i _=> rfl)).mono ?_;rintro e w5 ⟨g2,c2,rfl,b1,b2,b3,b4,b5⟩
    have m5:Mod No V w5:=Mod.trans (m4.alloc _) b5 (fun _ _ h=> h)
    have N5:Row w5 w4.heap.size 7 (fl [.int .i64 0, .int .u64 0, .slice none 0 0, .slice none 0 0, .slice none 0 0, .slice none 0 0, .slice none 0 0]):=Row.mod (row_newL w4 [_,_,_,_,_,_,_] 48) b5 (fun h=> h)
    have b5' :Mod No w4 w5:=Mod.trans ((Mod.refl No w4).alloc _) b5 (fun _ _ h=> h)
    have n0:=N5.cL 0 _ (by omega) rfl
    have n1:=N5.cL 1 _ (by omega) rfl
    have n2:=N5.cL 2 _ (by omega) rfl
    have n3:=N5.cL 3 _ (by omega) rfl
    have n4:=N5.cL 4 _ (by omega) rfl
    have n5:=N5.cL 5 _ (by omega) rfl
    have n6:=N5.cL 6 _ (by omega) rfl
    have n_:=N5.free
    have nf0:=n_ 0
    have nf1:=n_ 1
    have nf2:=n_ 2
    have nf3:=n_ 3
    have nf4:=n_ 4
    have nf5:=n_ 5
    have nf6:=n_ 6
    clear n_
    have nl:=N5.lt
    refine hKx _ _ (.inr (mS _ m5)) ?_
    clear hKx Kx
    (repeat (first|(refine wpL_pure (v:=?_) (by rw [HO.out];rfl) (by first|rfl|(rw [HO.out];rfl)) (fun w'=> ?_) ?_;rotate_left;(focus (go_simp;(try exact rfl);done));try go_simp)|(refine wpL_read (v:=?_) (by rw [HO.out];rfl) (by rfl) (by first|rfl|(rw [HO.out];rfl)) (fun w' hC'=> ?_) ?_;rotate_left;(focus (obtain ⟨c1',c2',c3',c4',c5'⟩:=hC';go_simp;(try exact rfl);done));try go_simp)|(refine wpL_off (by rw [HO.out];rfl) (by first|rfl|(rw [HO.out];rfl)) ?_;try go_simp)))
    (refine lxe HO (fun K hK=> ?_);go_simp;refine hK _ _ (.inl (by rfl)) ?_;clear hK K)
    refine wpL_nil ?_
    go_wp2_with fail
    go_meet
    rw [Nat.mul_one] at a4 b4
    simp only [World.size_alloc,World.size_drew] at a1 b1
    have z4:=m4.size
    exact ⟨w4.heap.size,g1,c1,g2,c2,rfl,by omega,by omega,by omega,by omega,by omega,by omega,(((((((N5.set (i:=0) (by omega) _).set (i:=1) (by omega) _).set (i:=2) (by omega) _).set (i:=3) (by omega) _).set (i:=4) (by omega) _).set (i:=5) (by omega) _).set (i:=6) (by omega) _).congr (fun i hi=> by rcases (by omega:i=0∨i=1∨i=2∨i=3∨i=4∨i=5∨i=6) with rfl|rfl|rfl|rfl|rfl|rfl|rfl <;> rfl),(((((((a4.mod b5' (fun h=> h)).setOther (by show w4.heap.size≠g1;omega) _).setOther (by show w4.heap.size≠g1;omega) _).setOther (by show w4.heap.size≠g1;omega) _).setOther (by show w4.heap.size≠g1;omega) _).setOther (by show w4.heap.size≠g1;omega) _).setOther (by show w4.heap.size≠g1;omega) _).setOther (by show w4.heap.size≠g1;omega) _,(((((((b4).setOther (by show w4.heap.size≠g2;omega) _).setOther (by show w4.heap.size≠g2;omega) _).setOther (by show w4.heap.size≠g2;omega) _).setOther (by show w4.heap.size≠g2;omega) _).setOther (by show w4.heap.size≠g2;omega) _).setOther (by show w4.heap.size≠g2;omega) _).setOther (by show w4.heap.size≠g2;omega) _,by (repeat first|(with_reducible exact m5)|(with_reducible refine Mod.alloc ?_ _)|(with_reducible refine Mod.drew ?_)|(with_reducible refine Mod.drewN ?_ _)|(with_reducible refine Mod.sc ?_))⟩
  case o2=>
   (refine lxe HO (fun K hK=> ?_);go_simp;refine hK _ _ ?_ ?_;all_goals clear hK K)
   ·exact .inr (mS _ ((Mod.refl No V).drew.alloc _))
   refine wpL_eff (by rw [HO.out];rfl) (fun Kx hKx=> ?_)
   go_simp
   refine (cloneInts B.cb s.C B.ccap (ints s.clocks) _ (by rw [Nat.mul_one];exact ((S1.no ((Mod.refl No V).drew.alloc _)).1 .cb).2) hC (by omega) (fun i _=> rfl)).mono ?_;rintro e w4 ⟨g1,c1,rfl,a1,a2,a3,a4,a5⟩
   have m4:Mod No V w4:=Mod.trans ((Mod.refl No V).drew.alloc _) a5 (fun _ _ h=> h)
   have N4:Row w4 V.heap.size 7 (fl [.int .i64 0, .int .u64 0, .slice none 0 0, .slice none 0 0, .slice none 0 0, .slice none 0 0, .slice none 0 0]):=Row.mod (row_newL' V.drew V.heap.size [_,_,_,_,_,_,_] 48 (by simp)) a5 (fun h=> h)
   refine hKx _ _ (.inr (mS _ m4)) ?_
   clear hKx Kx
   (repeat (first|(refine wpL_pure (v:=?_) (by rw [HO.out];rfl) (by first|rfl|(rw [HO.out];rfl)) (fun w'=> ?_) ?_;rotate_left;(focus (go_simp;(try exact rfl);done));try go_simp)|(refine wpL_read (v:=?_) (by rw [HO.out];rfl) (by rfl) (by first|rfl|(rw [HO.out];rfl)) (fun w' hC'=> ?_) ?_;rotate_left;(focus (obtain ⟨c1',c2',c3',c4',c5'⟩:=hC';go_simp;(try exact rfl);done));try go_simp)|(refine wpL_off (by rw [HO.out];rfl) (by first|rfl|(rw [HO.out];rfl)) ?_;try go_simp)))
   refine wpL_eff (by rw [HO.out];rfl) (fun Kx hKx=> ?_)
   go_simp
   refine (cloneInts B.ub s.C B.ucap (ints s.current) _ (by rw [Nat.mul_one];exact ((S1.no m4).1 .ub).2) hC (by omega) (fun i _=> rfl)).mono ?_;rintro e w5 ⟨g2,c2,rfl,b1,b2,b3,b4,b5⟩
   have m5:Mod No V w5:=Mod.trans m4 b5 (fun _ _ h=> h)
   have N5:=N4.mod b5 (fun h=> h)
   have n0:=N5.cL 0 _ (by omega) rfl
   have n1:=N5.cL 1 _ (by omega) rfl
   have n2:=N5.cL 2 _ (by omega) rfl
   have n3:=N5.cL 3 _ (by omega) rfl
   have n4:=N5.cL 4 _ (by omega) rfl
   have n5:=N5.cL 5 _ (by omega) rfl
   have n6:=N5.cL 6 _ (by omega) rfl
   have n_:=N5.free
   have nf0:=n_ 0
   have nf1:=n_ 1
   have nf2:=n_ 2
   have nf3:=n_ 3
   have nf4:=n_ 4
   have nf5:=n_ 5
   have nf6:=n_ 6
   clear n_
   have nl:=N5.lt
   refine hKx _ _ (.inr (mS _ m5)) ?_
   clear hKx Kx
   (repeat (first|(refine wpL_pure (v:=?_) (by rw [HO.out];rfl) (by first|rfl|(rw [HO.out];rfl)) (fun w'=> ?_) ?_;rotate_left;(focus (go_simp;(try exact rfl);done));try go_simp)|(refine wpL_read (v:=?_) (by rw [HO.out];rfl) (by rfl) (by first|rfl|(rw [HO.out];rfl)) (fun w' hC'=> ?_) ?_;rotate_left;(focus (obtain ⟨c1',c2',c3',c4',c5'⟩:=hC';go_simp;(try exact rfl);done));try go_simp)|(refine wpL_off (by rw [HO.out];rfl) (by first|rfl|(rw [HO.out];rfl)) ?_;try go_simp)))
   (refine lxe HO (fun K hK=> ?_);go_simp;refine hK _ _ (.inl (by rfl)) ?_;clear hK K)
   refine wpL_nil ?_
   go_wp2_with fail
   go_meet
   rw [Nat.mul_one] at a4 b4
   simp only [World.size_alloc,World.size_drew] at a1 b1
   have z4:=m4.size
   exact ⟨V.heap.size,g1,c1,g2,c2,rfl,by omega,by omega,by omega,by omega,by omega,by omega,(((((((N5.set (i:=0) (by omega) _).set (i:=1) (by omega) _).set (i:=2) (by omega) _).set (i:=3) (by omega) _).set (i:=4) (by omega) _).set (i:=5) (by omega) _).set (i:=6) (by omega) _).congr (fun i hi=> by rcases (by omega:i=0∨i=1∨i=2∨i=3∨i=4∨i=5∨i=6) with rfl|rfl|rfl|rfl|rfl|rfl|rfl <;> rfl),(((((((a4.mod b5 (fun h=> h)).setOther (by show V.heap.size≠g1;omega) _).setOther (by show V.heap.size≠g1;omega) _).setOther (by show V.heap.size≠g1;omega) _).setOther (by show V.heap.size≠g1;omega) _).setOther (by show V.heap.size≠g1;omega) _).setOther (by show V.heap.size≠g1;omega) _).setOther (by show V.heap.size≠g1;omega) _,(((((((b4).setOther (by show V.heap.size≠g2;omega) _).setOther (by show V.heap.size≠g2;omega) _).setOther (by show V.heap.size≠g2;omega) _).setOther (by show V.heap.size≠g2;omega) _).setOther (by show V.heap.size≠g2;omega) _).setOther (by show V.heap.size≠g2;omega) _).setOther (by show V.heap.size≠g2;omega) _,by (repeat first|(with_reducible exact m5)|(with_reducible refine Mod.alloc ?_ _)|(with_reducible refine Mod.drew ?_)|(with_reducible refine Mod.drewN ?_ _)|(with_reducible refine Mod.sc ?_))⟩
 case rest=>
 obtain ⟨nb,g1,c1,g2,c2,rfl,d1,d2,d3,d4,d5,d6,N1,G1,G2,mx⟩:=hcut
 have S3:=S1.no mx
 have Z3:=Z1.mod mx (fun h=> h)
 clear mS
 have x2:=S3.look.2.2.1
 have lx:=S3.cx.2.lt
 have lN:=N1.lt
 have n2:=N1.cL 2 _ (by omega) rfl
 have f2:=N1.free 2
 have RG:=(S3.1 .gb).2
 go_wp2_with fail
 refine (cloneGroups B.gb s.G B.gcap (grp s.par s.wt) _ RG hG (by omega) (fun i _=> by unfold grp;split <;> rfl)).mono ?_;rintro e w6 ⟨g3,c3,rfl,a1,a2,a3,a4,a5⟩
 have S4:=S3.no a5
 have Z4:=Z3.mod a5 (fun h=> h)
 have N4:=N1.mod a5 (fun h=> h)
 have G14:=G1.mod a5 (fun h=> h)
 have G24:=G2.mod a5 (fun h=> h)
 have n2' :=N4.cL 2 _ (by omega) rfl
 have f2' :=N4.free 2
 have lN4:=N4.lt
 have x5:=S4.look.2.2.2.2.2.1
 have lx4:=S4.cx.2.lt
 have xnb:nb≠x:=by have:=S1.cx.2.lt;omega
 clear n2 f2 x2 lx
 go_wp2_with fail
 have onb:ow nb= .no:=Classical.byContradiction fun hh=> by have:=S1.2 _ hh;omega
 have mnb:Mod (fun b=> b=nb) w6 (w6.setCell ⟨nb,2,none⟩ (slc g3 s.G c3)):=(Mod.refl (fun b=> b=nb) w6).setCell (p:=⟨nb,2,none⟩) (.inr rfl) _
 have S5:=S4.mod mnb (by rintro b rfl;exact onb)
 have Z5:=Z4.mod mnb (by show ¬w.heap.size=nb;omega)
 have z6:V.heap.size≤w6.heap.size:=by have:=mx.size;have:=a5.size;omega
 have zx:=mx.size
 have N5:Row (w6.setCell ⟨nb,2,none⟩ (slc g3 s.G c3)) nb 7 (fl [.int .i64 s.C, .int .u64 s.cr,slc g3 s.G c3,slc g1 s.C c1,slc g2 s.C c2, .slice none 0 0, .slice none 0 0]):=(N4.set (i:=2) (by omega) _).congr (fun i hi=> by rcases (by omega:i=0∨i=1∨i=2∨i=3∨i=4∨i=5∨i=6) with rfl|rfl|rfl|rfl|rfl|rfl|rfl <;> rfl)
 have lg1:=G1.lt
 have lg2:=G2.lt
 have lnx:=N1.lt
 have I5:GInv w (w6.setCell ⟨nb,2,none⟩ (slc g3 s.G c3)) nb ⟨g3,c3,g1,c1,g2,c2, .slice none 0 0,0,0,fun _=> 0,fun _=> 0⟩ ⟨s.C,s.G,s.cr,s.par,s.wt,s.clocks,s.current,some ⟨t.id,t.group,t.weight,t.cpu,t.mask,t.ready,v,r⟩,sv⟩ 0 none (.slice none 0 0) (fun b=> if b=g3 then .gb else if b=g1 then .cl else if b=g2 then .cu else .no) (.slice none 0 0):=by
  have mz:=m1.size
  refine ⟨N5, ?_,by omega,⟨by simp,a4.mod mnb (by show ¬g3=nb;omega)⟩,⟨?_,G14.mod mnb (by show ¬g1=nb;omega)⟩,⟨?_,G24.mod mnb (by show ¬g2=nb;omega)⟩,⟨none,0,rfl⟩,World.ownsRow_nil _ _ _ _,fun b hb=> by simp [Value.ownBlock] at hb,fun g hg=> by omega, ?_, ?_,a3⟩
  ·show (if nb=g3 then SOwn.gb else if nb=g1 then .cl else if nb=g2 then .cu else .no)= .no
   rw [if_neg (by omega),if_neg (by omega),if_neg (by omega)]
  ·show (if g1=g3 then SOwn.gb else if g1=g1 then .cl else if g1=g2 then .cu else .no)= .cl
   rw [if_neg (by omega),if_pos rfl]
  ·show (if g2=g3 then SOwn.gb else if g2=g1 then .cl else if g2=g2 then .cu else .no)= .cu
   rw [if_neg (by omega),if_neg (by omega),if_pos rfl]
  ·intro b hb
   try dsimp only at hb
   simp only [World.size_setCell]
   split at hb
   ·omega
   split at hb
   ·omega
   split at hb
   ·omega
   exact absurd rfl hb
  ·refine Mod.trans (Mod.trans (Mod.trans m1 mx (fun _ _ h=> h)) a5 (fun _ _ h=> h)) mnb ?_
   rintro b hb rfl
   omega
 have hT:=S5.1 .tb
 simp only [Part,tmapv,HV.out.2.2.1] at hT
 have HT5:=Lib.hid hT.2
 clear hT
 refine (keysOf (some B.tb) _).mono ?_;rintro e w7 ⟨rfl,rfl⟩
 go_wp2_with fail
 refine (sortedOf' HT5.out h0 h1 (by simp)).mono ?_;rintro e w8 ⟨gk,ck,rfl,R8,hgk,b8⟩
 have m8:Mod No (w6.setCell ⟨nb,2,none⟩ (slc g3 s.G c3)) w8:=by
  have m7:=(Mod.refl No (w6.setCell ⟨nb,2,none⟩ (slc g3 s.G c3))).alloc (.cells #[.map (some B.tb)] 127)
  exact Mod.trans m7 (Mod.of_below (b8.mono (by simp)) No) (fun _ _ h=> h)
 have S8:=S5.no m8
 have Z8:=Z5.mod m8 (fun h=> h)
 have I8:=I5.no m8
 have gkn:gk≠nb:=by simp at hgk;omega
 have hk1:∀ b,b < w.heap.size+1→(if b=g3 then SOwn.gb else if b=g1 then .cl else if b=g2 then .cu else .no)= .no:=fun b hb=> by rw [if_neg (by omega),if_neg (by omega),if_neg (by omega)]
 clear mnb S5 Z5 I5 N5 N4 G14 G24 G1 G2 N1 Z4 S4 Z3 S3 n2' f2' x5
 go_wp2
 go_loopw [47] (fun sk wr=> ∃ (kk:Nat) (tv:Value) (ow' :Nat→SOwn),sk= .int .i64 kk∧kk≤1∧SAt wr ow x B s∧Row wr w.heap.size 7 (fl [.int .i64 0, .int .u64 0, .slice none 0 0, .slice none 0 0, .slice none 0 0, .slice none 0 0, .slice none 0 0])∧Row wr gk 1 (fun _=> .int .i64 t.id)∧((kk=0∧tv= .slice none 0 0∧GInv w wr nb ⟨g3,c3,g1,c1,g2,c2, .slice none 0 0,0,0,fun _=> 0,fun _=> 0⟩ ⟨s.C,s.G,s.cr,s.par,s.wt,s.clocks,s.current,some ⟨t.id,t.group,t.weight,t.cpu,t.mask,t.ready,v,r⟩,sv⟩ 0 none tv ow' (.slice none 0 0))∨(kk=1∧GInv w wr nb ⟨g3,c3,g1,c1,g2,c2, .slice none 0 0,0,0,fun _=> 0,fun _=> 0⟩ ⟨s.C,s.G,s.cr,s.par,s.wt,s.clocks,s.current,some ⟨t.id,t.group,t.weight,t.cpu,t.mask,t.ready,v,r⟩,sv⟩ 0 (some ⟨t.id,t.group,t.weight,t.cpu,t.mask,t.ready,v,r⟩) tv ow' (.slice none 0 0)))∧(∀ b,b < w.heap.size+1→ow' b= .no)) (fun sk _=> 1 - (RowKit.intOf sk).toNat)
 case atStart=>
  exact ⟨0,_,_,rfl,by omega,S8,Z8,R8, .inl ⟨rfl,rfl,I8⟩,hk1⟩
 case round=>
  obtain ⟨kk,tv,ow',rfl,hkk,Sr,Zr,Rr,hI,hno⟩:=hrel
  clear S8 Z8 R8 I8 hk1 HT5
  rcases hI with ⟨rfl,rfl,I⟩|⟨rfl,I⟩
  ·have r0:=Rr.cell (i:=0) (by omega)
   have lgk:=Rr.lt
   have j0:=I.row.cL 5 _ (by omega) rfl
   have lnb:=I.row.lt
   go_upto_region 8 with fail
   refine wp_region_chain (fun w' => w'.cell? ⟨nb,5,none⟩=some (.slice none 0 0)) [4,5,6,8] [7] [8] (rds [0,1,2,3] (.ef 4 (.ef 5 (.ef 6 (rds [7] (.ef 8 .nil)))))) (by kernel_rfl) (by kernel_rfl) j0 ?_
   intro O hO
   have HO:=Lib.hid hO
   clear hO
   simp only [rds]
   (repeat (first|(refine wpL_pure (v:=?_) (by rw [HO.out];rfl) (by first|rfl|(rw [HO.out];rfl)) (fun w'=> ?_) ?_;rotate_left;(focus (go_simp;(try exact rfl);done));try go_simp)|(refine wpL_read (v:=?_) (by rw [HO.out];rfl) (by rfl) (by first|rfl|(rw [HO.out];rfl)) (fun w' hC'=> ?_) ?_;rotate_left;(focus (obtain c1':=hC';go_simp;(try exact rfl);done));try go_simp)|(refine wpL_off (by rw [HO.out];rfl) (by first|rfl|(rw [HO.out];rfl)) ?_;try go_simp)))
   refine wpL_eff (by rw [HO.out];rfl) (fun Kx hKx=> ?_)
   go_simp
   refine (view_ok (Sr.no (Mod.refl No wr).drew) t c0 g0 f0 ld v r k HV.out.2.2.1 HV.out.2.2.2.1 HV.out.2.2.2.2.1 HV.out.2.2.2.2.2.1 hc0 hg0 h0 h1 HV.out.2.2.2.2.2.2).mono ?_;rintro e w9 ⟨rfl,hb9⟩
   have m9:Mod No wr w9:=Mod.trans (Mod.refl No wr).drew (Mod.of_below hb9 No) (fun _ _ h=> h)
   have I9:=I.no m9
   have q5:=I9.row.cL 5 _ (by have:=I9.row.lt;omega) rfl
   have ln9:=I9.row.lt
   refine hKx _ _ (.inr q5) ?_
   clear hKx Kx
   (refine lxe HO (fun K hK=> ?_);go_simp;refine hK _ _ ?_ ?_;all_goals clear hK K)
   ·exact .inr (by go_simp)
   refine wpL_eff (by rw [HO.out];rfl) (fun Kx hKx=> ?_)
   have l9:w.heap.size≤w9.heap.size:=I9.mod.size
   refine step_app_c 119 _ 8 64 Tryz.infoTask rfl _ _ 45 rfl Tryz.underlying45 rfl (by decide) (by decide) (tkc ⟨t.id,t.group,t.weight,t.cpu,t.mask,t.ready,v,r⟩) rfl (by simp [tkc,Value.oneCell']) w.heap.size (.slice none 0 0) 0 [] _ _ rfl rfl (by (simp;omega)) (by omega) (World.ownsRow_nil _ _ _ _) (row_newL' w9 _ _ _ rfl) ?_;intro gt ct wA hA
   have mA:Mod No w9 wA:=Mod.trans ((Mod.refl No w9).alloc _) (hA.mod.mono (fun b _ h=> by simp [Value.ownBlock] at h)) (fun _ _ h=> h)
   have IA:=I9.no mA
   have qA:=IA.row.cL 5 _ (by have:=IA.row.lt;omega) rfl
   have lnA:=IA.row.lt
   have fA:=IA.row.free 5
   refine hKx _ _ (.inr qA) ?_
   clear hKx Kx
   (repeat (first|(refine wpL_pure (v:=?_) (by rw [HO.out];rfl) (by first|rfl|(rw [HO.out];rfl)) (fun w'=> ?_) ?_;rotate_left;(focus (go_simp;(try exact rfl);done));try go_simp)|(refine wpL_read (v:=?_) (by rw [HO.out];rfl) (by rfl) (by first|rfl|(rw [HO.out];rfl)) (fun w' hC'=> ?_) ?_;rotate_left;(focus (obtain c1':=hC';go_simp;(try exact rfl);done));try go_simp)|(refine wpL_off (by rw [HO.out];rfl) (by first|rfl|(rw [HO.out];rfl)) ?_;try go_simp)))
   (refine lxe HO (fun K hK=> ?_);go_simp;refine hK _ _ (.inl (by rfl)) ?_;clear hK K)
   refine wpL_nil ?_
   have hgt:w9.heap.size≤gt:=by
    rcases hA.at_ with h|h
    ·simp [Value.ownBlock] at h
    ·simp only [World.size_alloc] at h;omega
   have RA:=own_row hA.own
   go_wp2
   have mB:Mod (fun b=> b=nb) wA (wA.setCell ⟨nb,5,none⟩ (slc gt 1 ct)):=(Mod.refl (fun b=> b=nb) wA).setCell (p:=⟨nb,5,none⟩) (.inr rfl) _
   have m9A:Mod No wr wA:=Mod.trans m9 mA (fun _ _ h=> h)
   have lxr:=I.xge
   have z9:=m9.size
   have hnr:=I.row.lt
   refine ⟨⟨1,slc gt 1 ct,_,rfl,by omega,(Sr.no m9A).mod mB (by rintro b rfl;exact onb),(Zr.mod m9A (fun h=> h)).mod mB (by show ¬w.heap.size=nb;omega),(Rr.mod m9A (fun h=> h)).mod mB gkn, .inr ⟨rfl,I9.setTask ⟨t.id,t.group,t.weight,t.cpu,t.mask,t.ready,v,r⟩ (tb:=gt) (tc:=ct) hgt (Row.setOther RA (by show nb≠gt;omega) _) (Mod.trans (mA.no _) mB (fun _ _ h=> h)) ?_⟩, ?_⟩,by simp [RowKit.intOf]⟩
   ·refine (IA.row.set (i:=5) (by omega) _).congr (fun i hi=> ?_)
    rcases (by omega:i=0∨i=1∨i=2∨i=3∨i=4∨i=5∨i=6) with rfl|rfl|rfl|rfl|rfl|rfl|rfl <;> rfl
   ·intro b hb
    show (if b=gt then SOwn.tk else ow' b)= .no
    rw [if_neg (by omega),hno b hb]
  ·have x6:=Sr.look.2.2.2.2.2.2.1
   have lxr:=Sr.cx.2.lt
   have gG:(0:Int) < s.G:=by omega
   go_wp2
   clear x6 Rr
   go_loopw [65] (fun sk wg=> ∃ (kk:Nat) (Bk:STB) (svv:Value) (owk:Nat→SOwn),sk= .int .i64 kk∧kk≤s.G∧SAt wg ow x B s∧Row wg w.heap.size 7 (fl [.int .i64 0, .int .u64 0, .slice none 0 0, .slice none 0 0, .slice none 0 0, .slice none 0 0, .slice none 0 0])∧GInv w wg nb Bk ⟨s.C,s.G,s.cr,s.par,s.wt,s.clocks,s.current,some ⟨t.id,t.group,t.weight,t.cpu,t.mask,t.ready,v,r⟩,sv⟩ kk (some ⟨t.id,t.group,t.weight,t.cpu,t.mask,t.ready,v,r⟩) tv owk svv∧owk w.heap.size= .no) (fun sk _=> s.G - (RowKit.intOf sk).toNat)
   case atStart=>
    exact ⟨0,_,_,ow',rfl,by omega,Sr,Zr,I,hno _ (by omega)⟩
   case round=>
    obtain ⟨wg,rfl⟩:∃ W,W=wr:=⟨wr,rfl⟩
    obtain ⟨kk,Bk,svv,owk,rfl,hkG,Sg,Zg,Ig,nz⟩:=hrel
    clear Sr Zr I
    by_cases hk:kk < s.G
    ·have i0:(0:Int)≤kk:=by omega
     have i1:(kk:Int) < s.G:=by omega
     have q0:=(Sg.1 .qo).2.cell hk
     go_wp2
     go_loopw [72,9] (fun sc v9 wi=> ∃ (cc:Nat) (vv:Value),sc= .int .i64 cc∧v9=vv∧cc≤s.C∧Mod No wg wi∧wi.ownsRow wg.heap.size 122 3 vv cc (spl (sv kk) cc)) (fun sc _ _=> s.C - (RowKit.intOf sc).toNat)
     case atStart=> exact ⟨0,_,rfl,rfl,by omega,Mod.refl _ _,World.ownsRow_nil _ _ _ _⟩
     case round=>
      obtain ⟨wi,rfl⟩:∃ W,W=wr:=⟨wr,rfl⟩
      obtain ⟨cc,vv,rfl,hvv,hcC,mi,Oi⟩:=hrel
      have hvv' :=hvv.symm
      subst hvv'
      have Si:=Sg.no mi
      by_cases hc:cc < s.C
      ·have j0:(0:Int)≤cc:=by omega
       have j1:(cc:Int) < s.C:=by omega
       obtain ⟨p0,p1⟩:=Si.qp (g:=kk) (c:=cc) hk hc
       go_wp2_with fail
       refine (HV.out.1 kk cc hk hc _ Si).mono ?_;rintro e w9 ⟨rfl,hb9⟩
       have m9:Mod No wg w9:=Mod.trans mi (Mod.of_below hb9 No) (fun _ _ h=> h)
       have O9:=ownsRow_mod Oi (Mod.of_below hb9 No) (fun _ _ h=> h)
       have S9:=Sg.no m9
       go_upto_region 18 with fail
       refine wp_region_chain (fun w' => w'.cell? ⟨w9.heap.size,0,none⟩=some (.int .u64 (sv kk cc).1)∧w'.cell? ⟨w9.heap.size,1,none⟩=some (.int .u32 (sv kk cc).2.1)) [6,8,9] [7,10] [] (rds [0,1,2,3,4,5] (.ef 6 (rds [7] (.ef 8 (.ef 9 (rds [10] .nil)))))) (by kernel_rfl) (by kernel_rfl) ⟨by go_simp,by go_simp⟩ ?_
       intro O hO
       have HO:=Lib.hid hO
       clear hO
       simp only [rds]
       (repeat (first|(refine wpL_pure (v:=?_) (by rw [HO.out];rfl) (by first|rfl|(rw [HO.out];rfl)) (fun w'=> ?_) ?_;rotate_left;(focus (go_simp;(try exact rfl);done));try go_simp)|(refine wpL_read (v:=?_) (by rw [HO.out];rfl) (by rfl) (by first|rfl|(rw [HO.out];rfl)) (fun w' hC'=> ?_) ?_;rotate_left;(focus (obtain ⟨c1',c2'⟩:=hC';go_simp;(try exact rfl);done));try go_simp)|(refine wpL_off (by rw [HO.out];rfl) (by first|rfl|(rw [HO.out];rfl)) ?_;try go_simp)))
       refine wpL_eff (by rw [HO.out];rfl) (fun Kx hKx=> ?_)
       go_simp
       refine (sFloor (S9.no ((Mod.refl No w9).alloc _).drew) hk hc).mono ?_;rintro e w10 ⟨rfl,rfl⟩
       rw [HV.out.2.1 kk cc hk hc]
       refine hKx _ _ (.inr ⟨by go_simp,by go_simp⟩) ?_
       clear hKx Kx
       (repeat (first|(refine wpL_pure (v:=?_) (by rw [HO.out];rfl) (by first|rfl|(rw [HO.out];rfl)) (fun w'=> ?_) ?_;rotate_left;(focus (go_simp;(try exact rfl);done));try go_simp)|(refine wpL_read (v:=?_) (by rw [HO.out];rfl) (by rfl) (by first|rfl|(rw [HO.out];rfl)) (fun w' hC'=> ?_) ?_;rotate_left;(focus (obtain ⟨c1',c2'⟩:=hC';go_simp;(try exact rfl);done));try go_simp)|(refine wpL_off (by rw [HO.out];rfl) (by first|rfl|(rw [HO.out];rfl)) ?_;try go_simp)))
       (refine lxe HO (fun K hK=> ?_);go_simp;refine hK _ _ ?_ ?_;all_goals clear hK K)
       ·exact .inr ⟨by go_simp,by go_simp⟩
       refine wpL_eff (by rw [HO.out];rfl) (fun Kx hKx=> ?_)
       have z9:=m9.size
       have vlt:∀ b,vv.ownBlock=some b→wg.heap.size≤b∧b < w9.heap.size:=fun b hb=> O9.lt b hb
       refine step_app_c 122 _ 3 24 Tryz.infoSpot rfl _ _ 103 rfl Tryz.underlying103 rfl (by decide) (by decide) [.int .u64 (sv kk cc).1, .int .u32 (sv kk cc).2.1, .int .u64 (sv kk cc).2.2] rfl (by simp [Value.oneCell']) wg.heap.size vv cc (spl (sv kk) cc) _ _ rfl rfl (by (simp;omega)) (by omega) (by (repeat first|(with_reducible exact O9)|(with_reducible refine World.ownsRow.drew ?_)|(with_reducible refine World.ownsRow.alloc ?_ _))) (row_newL' _ _ [_,_,_] _ (by simp)) ?_;intro gt ct wA hA
       have nA:Row wA w9.heap.size 3 (fl [.int .u64 (sv kk cc).1, .int .u32 (sv kk cc).2.1, .int .u32 (kf kk cc)]):=Row.mod (((row_newL w9 [_,_,_] 138).drew).alloc _) hA.mod (fun hx=> by have:=(vlt _ hx).2;omega)
       have lA:=nA.lt
       refine hKx _ _ (.inr ⟨nA.cL 0 _ (by omega) rfl,nA.cL 1 _ (by omega) rfl⟩) ?_
       clear hKx Kx
       (repeat (first|(refine wpL_pure (v:=?_) (by rw [HO.out];rfl) (by first|rfl|(rw [HO.out];rfl)) (fun w'=> ?_) ?_;rotate_left;(focus (go_simp;(try exact rfl);done));try go_simp)|(refine wpL_read (v:=?_) (by rw [HO.out];rfl) (by rfl) (by first|rfl|(rw [HO.out];rfl)) (fun w' hC'=> ?_) ?_;rotate_left;(focus (obtain ⟨c1',c2'⟩:=hC';go_simp;(try exact rfl);done));try go_simp)|(refine wpL_off (by rw [HO.out];rfl) (by first|rfl|(rw [HO.out];rfl)) ?_;try go_simp)))
       refine wpL_nil ?_
       have oA:=hA.own
       rw [←spl_succ] at oA
       have mA:Mod No wg wA:=Mod.trans (((m9.alloc _).drew).alloc _) hA.mod (fun b hb hx=> by have:=(vlt _ hx).1;omega)
       clear p0 p1
       go_wp2
       refine ⟨⟨cc+1,slc gt (cc+1) ct,by go_num,by go_num,by omega,mA,oA⟩,by simp only [RowKit.intOf];omega⟩
      ·obtain rfl:cc=s.C:=by omega
       have j1:(s.C:Int)≤s.C:=by omega
       obtain ⟨_,⟨_,h00⟩|⟨sg,scp,_,hv9,hge,_⟩⟩:=id Oi
       ·omega
       have R9:Row wi sg (s.C * 3) (spt (sv kk)):=by
        rw [hv9] at Oi
        exact (ownsRow_row Oi).congr (fun i hi=> spl_get _ _ _ hi)
       have Igi:=Ig.no mi
       have j6:=Igi.row.cL 6 _ (by have:=Igi.row.lt;omega) rfl
       have ln:=Igi.row.lt
       have lw:w.heap.size≤wi.heap.size:=Igi.mod.size
       have svx:svv.ownBlock≠some nb:=fun hx=> by have:=Igi.sown _ hx;rw [Igi.xno] at this;simp at this
       have zi:=mi.size
       have sgn:owk sg= .no:=Classical.byContradiction fun hh=> by have:=(Ig.lt _ hh).2;omega
       have sgx:sg≠nb:=by have:=Ig.row.lt;omega
       subst hv9
       have Is:=Igi.s
       dsimp only at Is
       go_upto_region 20 with fail
       have Xr:=Igi.row
       dsimp only at Xr
       refine st20 _ rfl w wi nb sg scp s.C kk svv _ _ _ _ _ _ _ _ _ _ _ _ _ _ _ _ _ _ _ _ _ _ _ _ _ _ _ _ _ _ _ _ _ _ _ _ _ _ _ _ _ _ _ _ _ _ _ _ _ _ _ _ _ _ _ _ _ _ _ _ _ _ _ _ _ _ _ _ _ _ _ _ _ _ _ _ _ _ _ _ _ _ _ _ _ _ _ _ _ _ _ _ _ _ _ _ _ _ _ _ _ Xr rfl Is (by omega) lw svx ?_
       intro v92 v93 v94 v95 v96 v97 gs2 cs2 w20 M20 X20 O20 a20
       have svs:∀ b,svv.ownBlock=some b→owk b= .so:=Igi.sown
       obtain ⟨ow2,I2,ho2⟩:=Igi.next (sg:=sg) (scp:=scp) sgn sgx (by have:=Igi.mod.size;have:=Ig.mod.size;omega) R9 M20 (X20.congr (fun i hi=> by rcases (by omega:i=0∨i=1∨i=2∨i=3∨i=4∨i=5∨i=6) with rfl|rfl|rfl|rfl|rfl|rfl|rfl <;> rfl)) O20 a20 svx
       have bad:∀ b,(b=nb∨svv.ownBlock=some b)→ow b= .no:=fun b hb=> Classical.byContradiction fun hh=> by
        have hb2:=h.2 b hh
        rcases hb with hx|hx
        ·omega
        ·have:=(Igi.lt b (by rw [svs b hx];simp)).1;omega
       clear j6 Xr Is
       go_wp2
       refine ⟨⟨kk+1,_,_,ow2,by go_num,by omega,(Sg.no mi).mod M20 bad,(Zg.mod mi (fun h=> h)).mod M20 ?_,I2, ?_⟩,by simp only [RowKit.intOf];omega⟩
       ·rintro (hx|hx)
        ·omega
        ·have:=svs _ hx;rw [nz] at this;simp at this
       ·rw [ho2 _ (by have:=Zg.lt;omega) (by have:=Zg.lt;omega),nz]
    ·obtain rfl:kk=s.G:=by omega
     have j1:(s.G:Int)≤s.G:=by omega
     obtain ⟨tb,tc,htv,_⟩:=id Ig.tk
     subst htv
     obtain ⟨_,⟨_,h00⟩|⟨gs,cap,_,hsv,_⟩⟩:=id Ig.s
     ·omega
     subst hsv
     have j0:=Ig.row.cL 0 _ (by omega) rfl
     have j1:=Ig.row.cL 1 _ (by omega) rfl
     have j2:=Ig.row.cL 2 _ (by omega) rfl
     have j3:=Ig.row.cL 3 _ (by omega) rfl
     have j4:=Ig.row.cL 4 _ (by omega) rfl
     have j5:=Ig.row.cL 5 _ (by omega) rfl
     have j6:=Ig.row.cL 6 _ (by omega) rfl
     have j_:=Ig.row.free
     have jf0:=j_ 0
     have jf1:=j_ 1
     have jf2:=j_ 2
     have jf3:=j_ 3
     have jf4:=j_ 4
     have jf5:=j_ 5
     have jf6:=j_ 6
     clear j_
     have jl:=Ig.row.lt
     have z0:=Zg.cL 0 _ (by omega) rfl
     have z1:=Zg.cL 1 _ (by omega) rfl
     have z2:=Zg.cL 2 _ (by omega) rfl
     have z3:=Zg.cL 3 _ (by omega) rfl
     have z4:=Zg.cL 4 _ (by omega) rfl
     have z5:=Zg.cL 5 _ (by omega) rfl
     have z6:=Zg.cL 6 _ (by omega) rfl
     have z_:=Zg.free
     have zf0:=z_ 0
     have zf1:=z_ 1
     have zf2:=z_ 2
     have zf3:=z_ 3
     have zf4:=z_ 4
     have zf5:=z_ 5
     have zf6:=z_ 6
     clear z_
     have zl:=Zg.lt
     obtain ⟨B',eB,St,hSt,hgc⟩:=GInv.done (A:=⟨s.C,s.G,s.cr,s.par,s.wt,s.clocks,s.current,some ⟨t.id,t.group,t.weight,t.cpu,t.mask,t.ready,v,r⟩,sv⟩) Ig hG
     have HB:=Lib.hid eB
     clear eB
     have mI:=Ig.mod
     go_wp2
     have mF:Mod (fun b=> b=w.heap.size) wg (((((((wg.setCell ⟨w.heap.size,0,none⟩ (.int .i64 s.C)).setCell ⟨w.heap.size,1,none⟩ (.int .u64 s.cr)).setCell ⟨w.heap.size,2,none⟩ (slc Bk.gb s.G Bk.gcap)).setCell ⟨w.heap.size,3,none⟩ (slc Bk.cl s.C Bk.ccap)).setCell ⟨w.heap.size,4,none⟩ (slc Bk.cu s.C Bk.ucap)).setCell ⟨w.heap.size,5,none⟩ (slc tb 1 tc)).setCell ⟨w.heap.size,6,none⟩ (slc gs s.G cap)):=((((((((Mod.refl (fun b=> b=w.heap.size) wg).setCell (p:=⟨w.heap.size,0,none⟩) (.inr rfl) _).setCell (p:=⟨w.heap.size,1,none⟩) (.inr rfl) _).setCell (p:=⟨w.heap.size,2,none⟩) (.inr rfl) _).setCell (p:=⟨w.heap.size,3,none⟩) (.inr rfl) _).setCell (p:=⟨w.heap.size,4,none⟩) (.inr rfl) _).setCell (p:=⟨w.heap.size,5,none⟩) (.inr rfl) _).setCell (p:=⟨w.heap.size,6,none⟩) (.inr rfl) _)
     have eV:stv B' ⟨s.C,s.G,s.cr,s.par,s.wt,s.clocks,s.current,some ⟨t.id,t.group,t.weight,t.cpu,t.mask,t.ready,v,r⟩,sv⟩= .agg #[.int .i64 s.C, .int .u64 s.cr,slc Bk.gb s.G Bk.gcap,slc Bk.cl s.C Bk.ccap,slc Bk.cu s.C Bk.ucap,slc tb 1 tc,slc gs s.G cap]:=congrArg (fun l=> Value.agg l.toArray) HB.out
     refine bodyPost_ret (v:= .tuple #[.agg #[.int .i64 s.C, .int .u64 s.cr,slc Bk.gb s.G Bk.gcap,slc Bk.cl s.C Bk.ccap,slc Bk.cu s.C Bk.ucap,slc tb 1 tc,slc gs s.G cap], .int .i64 0]) (by simp [results,Tryz.results25,go_sem, *]) rfl ⟨B',by rw [eV],owk,St.mod mF (by rintro b rfl;exact nz), ?_,hSt,hgc⟩
     refine Mod.trans mI mF ?_
     rintro b hb rfl
     omega
end
end Go.Q
/- Plain laws,no program:numbers as bytes and back;the numbers of a snapshot. -/
namespace Go.Q
def vb (x:Nat):List Nat:=if h:x < 128 then [x] else (x % 128+128)::vb (x / 128)
termination_by x
decreasing_by omega
theorem vb_small {x:Nat} (h:x < 128):vb x= [x]:=by rw [vb,dif_pos h]
theorem vb_big {x:Nat} (h:128≤x):vb x=(x % 128+128)::vb (x / 128):=by rw [vb,dif_neg (by omega)]
theorem vb_pos (x:Nat):1≤(vb x).length:=by
 by_cases hx:x < 128
 ·rw [vb_small hx];simp
 ·rw [vb_big (by omega)];simp
theorem vb_len:∀ (k x:Nat),x < 128 ^ (k+1)→(vb x).length≤k+1
 |0,x,h=> by rw [vb_small (by simpa using h)];simp
 |k+1,x,h=> by
  by_cases hx:x < 128
  ·rw [vb_small hx];simp
  ·rw [vb_big (by omega),List.length_cons]
   have:=vb_len k (x / 128) (by rw [Nat.pow_succ] at h;exact Nat.div_lt_of_lt_mul (by rw [Nat.mul_comm];exact h))
   omega
theorem vb_len64 {x:Nat} (h:x < 18446744073709551616):(vb x).length≤10:=vb_len 9 x (Nat.lt_of_lt_of_le h (by decide))
theorem vb_byte:∀ (n x:Nat),x≤n→∀ b∈vb x,b < 256
 |n,x,hx,b,hb=> by
  by_cases h:x < 128
  ·rw [vb_small h] at hb
   obtain rfl:b=x:=by simpa using hb
   omega
  ·rw [vb_big (by omega)] at hb
   rcases List.mem_cons.1 hb with rfl|hb
   ·omega
   ·match n with
    |0=> omega
    |n+1=> exact vb_byte n (x / 128) (by omega) b hb
theorem vb_drop:∀ (i x:Nat),i < (vb x).length→(vb x).drop i=vb (x / 128 ^ i)∧(0 < i→0 < x / 128 ^ i)
 |0,x,_=> by simp
 |i+1,x,h=> by
  by_cases hx:x < 128
  ·rw [vb_small hx] at h;simp at h
  ·rw [vb_big (by omega)] at h ⊢
   have e:x / 128 ^ (i+1)=x / 128 / 128 ^ i:=by rw [Nat.pow_succ,Nat.mul_comm,Nat.div_div_eq_div_mul]
   obtain ⟨h1,h2⟩:=vb_drop i (x / 128) (by simpa using h)
   refine ⟨by rw [List.drop_succ_cons,h1,e],fun _=> ?_⟩
   rw [e]
   rcases Nat.eq_zero_or_pos i with rfl|hi
   ·simp;omega
   ·exact h2 hi
theorem vb_get {x i:Nat} (h:i < (vb x).length):(vb x).getD i 0=(x / 128 ^ i) % 128+(if i+1 < (vb x).length then 128 else 0)∧(i+1 < (vb x).length↔128≤x / 128 ^ i)∧(0 < i→0 < x / 128 ^ i):=by
 obtain ⟨h1,h2⟩:=vb_drop i x h
 have e:(vb x).getD i 0=(vb (x / 128 ^ i)).getD 0 0:=by
  rw [←h1,List.getD_eq_getElem?_getD,List.getD_eq_getElem?_getD,List.getElem?_drop];simp
 have l:(vb x).length=i+(vb (x / 128 ^ i)).length:=by rw [←h1,List.length_drop];omega
 refine ⟨?_, ?_,h2⟩
 ·rw [e,l]
  by_cases hx:x / 128 ^ i < 128
  ·rw [vb_small hx]
   simp only [List.getD_cons_zero,List.length_cons,List.length_nil]
   rw [if_neg (by omega),Nat.mod_eq_of_lt hx,Nat.add_zero]
  ·have hp:=vb_pos (x / 128 ^ i / 128)
   rw [vb_big (by omega)]
   simp only [List.getD_cons_zero,List.length_cons]
   rw [if_pos (by omega)]
 ·rw [l]
  by_cases hx:x / 128 ^ i < 128
  ·rw [vb_small hx];simp;omega
  ·have hp:=vb_pos (x / 128 ^ i / 128)
   rw [vb_big (by omega)]
   simp only [List.length_cons]
   omega
theorem vb_last {x:Nat} (L:Nat) (h:(vb x).length=L):x < 128 ^ L:=by
 have hp:=vb_pos x
 obtain ⟨L,rfl⟩:∃ m,L=m+1:=⟨L - 1,by omega⟩
 obtain ⟨h1,h2,_⟩:=vb_get (x:=x) (i:=L) (by omega)
 have h3:¬128≤x / 128 ^ L:=fun hh=> by have:=h2.2 hh;omega
 have h4:x / 128 ^ L < 128:=by omega
 have:=(Nat.div_lt_iff_lt_mul (Nat.pow_pos (by decide))).1 h4
 rw [Nat.pow_succ,Nat.mul_comm]
 exact this
theorem mod_step (x i:Nat):x % 128 ^ (i+1)=x % 128 ^ i+(x / 128 ^ i % 128) * 128 ^ i:=by
 rw [Nat.pow_succ,Nat.mod_mul,Nat.mul_comm (128 ^ i)]
theorem or_step (x i:Nat) (hx:x < 18446744073709551616) (hi:i < 10):bits .or .u64 ((x % 128 ^ i:Nat):Int) (IntKind.u64.wrap (((x / 128 ^ i % 128:Nat):Int) * 2 ^ (7 * i)))=((x % 128 ^ (i+1):Nat):Int):=by
 have hp:(128:Nat) ^ i=2 ^ (7 * i):=by rw [show (128:Nat)=2 ^ 7 from rfl,←Nat.pow_mul]
 have hle:(x / 128 ^ i % 128) * 128 ^ i≤x:=Nat.le_trans (Nat.mul_le_mul_right _ (Nat.mod_le _ _)) (Nat.div_mul_le_self _ _)
 have e:(((x / 128 ^ i % 128:Nat):Int) * 2 ^ (7 * i))=(((x / 128 ^ i % 128) * 128 ^ i:Nat):Int):=by rw [hp];push_cast;rfl
 have hm:x % 128 ^ i < 128 ^ i:=Nat.mod_lt _ (Nat.pow_pos (by decide))
 have hm2:x % 128 ^ i≤x:=Nat.mod_le _ _
 rw [e,wraps_u64 _ (by omega) (by omega),mod_step]
 rw [bits_join_low .u64 64 (by decide) wraps_u64 (7 * i) _ _ (by omega) (by rw [hp] at hm;exact_mod_cast (by simpa [hp] using hm)) (by omega) (by omega) ?_ (by omega)]
 ·omega
 ·rw [hp]
  push_cast
  exact Int.mul_emod_left _ _
end Go.Q
/- Plain laws:the numbers of a snapshot,as a list that is written from the front and read from the front. -/
namespace Go.Q
def gnumF (A:ASt) (g:Nat):List Nat:= [(A.par g).toNat,(A.wt g).toNat]
def snumF (A:ASt) (g c:Nat):List Nat:=if g=0 then [(A.spots g c).2.2.toNat] else [(A.spots g c).1.toNat,(A.spots g c).2.1.toNat,(A.spots g c).2.2.toNat]
def gnum (A:ASt) (a k:Nat):List Nat:=(List.range' a k).flatMap (gnumF A)
def inum (f:Nat→Int) (a k:Nat):List Nat:=(List.range' a k).map fun c=> (f c).toNat
def tnum (t:Option TK):List Nat:=match t with
 |none=> [0]
 |some t=> [1,t.id.toNat,t.group.toNat,t.weight.toNat,t.cpu.toNat,t.mask.toNat,if t.ready then 1 else 0,t.v.toNat,t.r.toNat]
def srow (A:ASt) (g a k:Nat):List Nat:=(List.range' a k).flatMap (snumF A g)
def snum (A:ASt) (a k:Nat):List Nat:=(List.range' a k).flatMap fun g=> srow A g 0 A.C
def nums (nx:Nat) (A:ASt):List Nat:= [nx]++ [A.C,A.cr.toNat,A.G]++gnum A 1 (A.G - 1)++inum A.clocks 0 A.C++inum A.current 0 A.C++tnum A.task++snum A 0 A.G
section
variable (A:ASt) (f:Nat→Int) (g a k:Nat)
theorem gnum_zero:gnum A a 0= []:=rfl
theorem inum_zero:inum f a 0= []:=rfl
theorem srow_zero:srow A g a 0= []:=rfl
theorem snum_zero:snum A a 0= []:=rfl
theorem gnum_snoc:gnum A a (k+1)=gnum A a k++gnumF A (a+k):=by simp [gnum,List.range'_concat]
theorem inum_snoc:inum f a (k+1)=inum f a k++ [(f (a+k)).toNat]:=by simp [inum,List.range'_concat]
theorem srow_snoc:srow A g a (k+1)=srow A g a k++snumF A g (a+k):=by simp [srow,List.range'_concat]
theorem snum_snoc:snum A a (k+1)=snum A a k++srow A (a+k) 0 A.C:=by simp [snum,List.range'_concat]
theorem gnum_cons:gnum A a (k+1)=gnumF A a++gnum A (a+1) k:=by simp [gnum,List.range'_succ]
theorem inum_cons:inum f a (k+1)=(f a).toNat::inum f (a+1) k:=by simp [inum,List.range'_succ]
theorem srow_cons:srow A g a (k+1)=snumF A g a++srow A g (a+1) k:=by simp [srow,List.range'_succ]
theorem snum_cons:snum A a (k+1)=srow A a 0 A.C++snum A (a+1) k:=by simp [snum,List.range'_succ]
theorem gnum_len:(gnum A a k).length=2 * k:=by
 induction k with
 |zero=> rfl
 |succ k ih=> rw [gnum_snoc,List.length_append,ih];simp [gnumF];omega
theorem inum_len:(inum f a k).length=k:=by simp [inum]
theorem srow_len:(srow A g a k).length=if g=0 then k else 3 * k:=by
 induction k with
 |zero=> simp [srow]
 |succ k ih=>
  rw [srow_snoc,List.length_append,ih]
  unfold snumF
  split <;> simp <;> omega
theorem snum_len (hk:0 < a):(snum A a k).length=k * (3 * A.C):=by
 induction k with
 |zero=> simp [snum]
 |succ k ih=>
  rw [snum_snoc,List.length_append,ih,srow_len,if_neg (by omega),Nat.add_mul,Nat.one_mul]
theorem snum_len0 (hk:0 < k):(snum A 0 k).length=A.C+(k - 1) * (3 * A.C):=by
 obtain ⟨k,rfl⟩:∃ j,k=j+1:=⟨k - 1,by omega⟩
 rw [snum_cons,List.length_append,srow_len,if_pos rfl,snum_len _ _ _ (by omega)]
 simp
theorem tnum_len (t:Option TK):(tnum t).length=1+8 * (if t.isSome then 1 else 0):=by cases t <;> simp [tnum]
end
def vbs (l:List Nat):List Nat:=l.flatMap vb
theorem vbs_nil:vbs []= []:=rfl
theorem vbs_cons (x:Nat) (l:List Nat):vbs (x::l)=vb x++vbs l:=rfl
theorem vbs_append (l m:List Nat):vbs (l++m)=vbs l++vbs m:=List.flatMap_append
theorem vbs_byte (l:List Nat):∀ b∈vbs l,b < 256:=fun b hb=> by
 obtain ⟨x,_,h⟩:=List.mem_flatMap.1 hb
 exact vb_byte x x (Nat.le_refl _) b h
theorem vbs_le (l:List Nat) (h:∀ x∈l,x < 18446744073709551616):(vbs l).length≤10 * l.length:=by
 induction l with
 |nil=> simp [vbs]
 |cons x l ih=>
  rw [vbs_cons,List.length_append,List.length_cons]
  have:=ih (fun y hy=> h y (List.mem_cons_of_mem _ hy))
  have:=vb_len64 (h x (List.mem_cons_self ..))
  omega
theorem vbs_ge (l:List Nat):l.length≤(vbs l).length:=by
 induction l with
 |nil=> simp [vbs]
 |cons x l ih=>
  rw [vbs_cons,List.length_append,List.length_cons]
  have:=vb_pos x
  omega
end Go.Q
