/- A part of the proof that TopGreat answers true: what some of the functions on its road compute. -/
import Derived.DeepKeys3
import Derived.WideKeyMaps
import Derived.Deep.DeepCutAuto
import Derived.Deep.Upon
import Derived.WideKeyArr
import Derived.WideKeyEntry
import Derived.Test.YtckddephdbhagaaGreatDoorQ0
import Derived.Test.YtckddephdbhagaaGreatDoorQ3
set_option linter.unusedVariables false
set_option linter.unusedSimpArgs false
namespace Go.Q
open Go.RowKit Go.Proofs
theorem sGet_one' {w:World} {ow:Nat→Own} {x:Nat} {B:SB} {s:SSt} (h:SAt w ow x B s) {g c:Nat} (hg:g < s.G) (hc:c < s.C) (fl ld id v r k idv:Int) (hs:s.qs g c= .o fl ld id v r k) (h0:0≤id) (h1:id < 65792) (he:idv=id):Calls Tryz.prog 175 #[ptr (B.q g c), .int .i64 idv] w fun e w' => e= .returned (.tuple #[ent v r k, .bool true])∧Below w.heap.size w w' :=he▸sGet_one h hg hc fl ld id v r k hs h0 h1
section
variable {w:World} {ow:Nat→Own} {x:Nat} {B:SB} {s:SSt}
set_option maxRecDepth 100000 in
set_option maxHeartbeats 2000000 in
theorem ran_ok (h:SAt w ow x B s) (t:TSt) (c g:Nat) (f0 ld v r k:Int) (ht:s.task=some t) (htg:t.group=g) (htc:t.cpu=c) (hrd:t.ready=true) (hc:c < s.C) (hg:g < s.G) (h0:0≤t.id) (h1:t.id < 65536)
  (hq:s.qs g c= .o f0 ld t.id v r k):
  Calls Tryz.prog 172 #[ptr x, .int .i64 t.id,ptr B.tk] w fun e w' => e= .returned (ent v r k)∧Below w.heap.size w w' :=by
 have x6:=h.look.2.2.2.2.2.2.1
 obtain ⟨q0,q1⟩:=h.qp (g:=g) (c:=c) hg hc
 obtain ⟨p0,p1,p2,p3,p4,p5,p6,p7⟩:=h.tp (t:=t) ht
 rw [htg] at p0
 rw [htc] at p2
 rw [hrd] at p4
 have lx:=h.cx.2.lt
 have lt:=(h.1 .tk t ht).2.lt
 have lq:=(h.1 .qo).2.lt
 have lqi:=(h.1 (.qi g) hg).2.lt
 have i0:(0:Int)≤c:=by omega
 have i1:(c:Int) < s.C:=by omega
 have i2:(0:Int)≤g:=by omega
 have i3:(g:Int) < s.G:=by omega
 have HT:=Lib.hid (And.intro ht (And.intro htg (And.intro htc (And.intro hrd hq))))
 clear ht htg htc hrd hq
 go_enter Tryz.func172,Tryz.ntmps172
 go_upto_region 3 with fail
 have S1:=(h.no ((Mod.refl No w).alloc (.cells #[.int .u64 0, .int .u32 0, .int .u32 0] 138))).no (Mod.refl No _).drew
 have ob:ow w.heap.size= .no:=Classical.byContradiction fun hh=> by have:=h.2 _ hh;omega
 have RO:Row (w.alloc (.cells #[.int .u64 0, .int .u32 0, .int .u32 0] 138)).drew w.heap.size 3 (fl [.int .u64 0, .int .u32 0, .int .u32 0]):=Row.drew (row_newL w [_,_,_] _)
 refine wp_region_chain (fun w' => w'.cell? ⟨x,6,none⟩=some (slc B.qo s.G B.qcap)∧w'.cell? ⟨B.qo,g,none⟩=some (slc (B.qi g) s.C s.C)∧w'.cell? ⟨B.qi g,c,none⟩=some (ptr (B.q g c))∧w'.cell? ⟨B.tk,0,none⟩=some (.int .i64 g)∧w'.cell? ⟨B.tk,2,none⟩=some (.int .i64 c)) [17,21,22] [16,18,19,20,23] [22] (rds [0,1,2,3,4,5,6,7,8,9,10,11,12,13,14,15,16] (.ef2 17 (rds [18,19,20] (.ef 21 (.ef 22 (rds [23] .nil)))) 21 (.ef 17 (rds [18,19,20] (.ef 22 (rds [23] .nil)))))) (by kernel_rfl) (by kernel_rfl) ⟨S1.look.2.2.2.2.2.2.1,(S1.qp hg hc).1,(S1.qp hg hc).2,by rw [(S1.tp HT.out.1).1,HT.out.2.1],by rw [(S1.tp HT.out.1).2.2.1,HT.out.2.2.1]⟩ ?_
 intro O hO
 have HO:=Lib.hid hO
 clear hO
 simp only [rds]
 (repeat (first|(refine lxp HO (v:=?_) (fun w'=> ?_) ?_;rotate_left;(focus (go_simp;(try exact rfl);done));try go_simp)|(refine lxr HO (v:=?_) (fun w' hC'=> ?_) ?_;rotate_left;(focus (obtain ⟨c1,c2,c3,c4,c5⟩:=hC';go_simp;(try exact rfl);done));try go_simp)|(refine lxo HO ?_;try go_simp)))
 have mS:∀ w',Mod No w w' →w'.cell? ⟨x,6,none⟩=some (slc B.qo s.G B.qcap)∧w'.cell? ⟨B.qo,g,none⟩=some (slc (B.qi g) s.C s.C)∧w'.cell? ⟨B.qi g,c,none⟩=some (ptr (B.q g c))∧w'.cell? ⟨B.tk,0,none⟩=some (.int .i64 g)∧w'.cell? ⟨B.tk,2,none⟩=some (.int .i64 c):=fun w' hm=> by
  have S2:=h.no hm
  exact ⟨S2.look.2.2.2.2.2.2.1,(S2.qp hg hc).1,(S2.qp hg hc).2,by rw [(S2.tp HT.out.1).1,HT.out.2.1],by rw [(S2.tp HT.out.1).2.2.1,HT.out.2.2.1]⟩
 refine wpL_eff2 ?o1 ?o2
 case o1=>
  refine lxe HO (fun Kx hKx=> ?_)
  go_simp
  refine (sGet_one S1 (g:=g) (c:=c) hg hc f0 ld t.id v r k HT.out.2.2.2.2 h0 (by omega)).mono ?_;rintro e w3 ⟨rfl,hb3⟩
  have m3:Mod No w w3:=Mod.trans (((Mod.refl No w).alloc _).drew) (Mod.of_below hb3 No) (fun _ _ h=> h)
  have R3:=RO.below hb3 (by simp)
  have e0:=R3.cL 0 _ (by omega) rfl
  have e1:=R3.cL 1 _ (by omega) rfl
  have e2:=R3.cL 2 _ (by omega) rfl
  have g0:=R3.free 0
  have g1:=R3.free 1
  have g2:=R3.free 2
  have l3:=R3.lt
  have hz:=hb3.size
  simp only [World.size_alloc,World.size_drew] at hz
  refine hKx _ _ (.inr (mS _ m3)) ?_
  clear hKx Kx
  (repeat (first|(refine lxp HO (v:=?_) (fun w'=> ?_) ?_;rotate_left;(focus (go_simp;(try exact rfl);done));try go_simp)|(refine lxr HO (v:=?_) (fun w' hC'=> ?_) ?_;rotate_left;(focus (obtain ⟨c1,c2,c3,c4,c5⟩:=hC';go_simp;(try exact rfl);done));try go_simp)|(refine lxo HO ?_;try go_simp)))
  (refine lxe HO (fun K hK=> ?_);go_simp;refine hK _ _ ?_ ?_;all_goals clear hK K)
  ·exact .inr (mS _ (m3.alloc _))
  (refine lxe HO (fun K hK=> ?_);go_simp;refine hK _ _ (.inl (by rfl)) ?_;clear hK K)
  (repeat (first|(refine lxp HO (v:=?_) (fun w'=> ?_) ?_;rotate_left;(focus (go_simp;(try exact rfl);done));try go_simp)|(refine lxr HO (v:=?_) (fun w' hC'=> ?_) ?_;rotate_left;(focus (obtain ⟨c1,c2,c3,c4,c5⟩:=hC';go_simp;(try exact rfl);done));try go_simp)|(refine lxo HO ?_;try go_simp)))
  refine wpL_nil ?_
  go_wp2
  exact bodyPost_ret (v:=ent v r k) (by simp [results,Tryz.results172,go_sem, *]) rfl ⟨rfl,Mod.below (by (repeat first|(with_reducible exact m3)|(with_reducible refine Mod.alloc ?_ _)|(with_reducible refine Mod.drew ?_)|(with_reducible refine Mod.drewN ?_ _)|(with_reducible refine Mod.sc ?_)))⟩
 case o2=>
  (refine lxe HO (fun K hK=> ?_);go_simp;refine hK _ _ ?_ ?_;all_goals clear hK K)
  ·exact .inr (mS _ (((Mod.refl No w).alloc _).drew.alloc _))
  refine lxe HO (fun Kx hKx=> ?_)
  go_simp
  refine (sGet_one (S1.no ((Mod.refl No _).alloc _)) (g:=g) (c:=c) hg hc f0 ld t.id v r k HT.out.2.2.2.2 h0 (by omega)).mono ?_;rintro e w3 ⟨rfl,hb3⟩
  have m3:Mod No w w3:=Mod.trans ((((Mod.refl No w).alloc _).drew).alloc _) (Mod.of_below hb3 No) (fun _ _ h=> h)
  have R3:=(RO.alloc (.cells #[.int .u64 0, .int .u32 0, .int .u32 0] 138)).below hb3 (by simp;omega)
  have N3:Row w3 (w.heap.size+1) 3 (fl [.int .u64 0, .int .u32 0, .int .u32 0]):=Row.below (row_newL' (w.alloc (.cells #[.int .u64 0, .int .u32 0, .int .u32 0] 138)).drew (w.heap.size+1) [_,_,_] _ (by simp)) hb3 (by simp)
  have e0:=R3.cL 0 _ (by omega) rfl
  have e1:=R3.cL 1 _ (by omega) rfl
  have e2:=R3.cL 2 _ (by omega) rfl
  have g0:=R3.free 0
  have g1:=R3.free 1
  have g2:=R3.free 2
  have n0:=N3.cL 0 _ (by omega) rfl
  have n1:=N3.cL 1 _ (by omega) rfl
  have n2:=N3.cL 2 _ (by omega) rfl
  have k0:=N3.free 0
  have k1:=N3.free 1
  have k2:=N3.free 2
  have l3:=R3.lt
  have ln3:=N3.lt
  refine hKx _ _ (.inr (mS _ m3)) ?_
  clear hKx Kx
  (repeat (first|(refine lxp HO (v:=?_) (fun w'=> ?_) ?_;rotate_left;(focus (go_simp;(try exact rfl);done));try go_simp)|(refine lxr HO (v:=?_) (fun w' hC'=> ?_) ?_;rotate_left;(focus (obtain ⟨c1,c2,c3,c4,c5⟩:=hC';go_simp;(try exact rfl);done));try go_simp)|(refine lxo HO ?_;try go_simp)))
  (refine lxe HO (fun K hK=> ?_);go_simp;refine hK _ _ (.inl (by rfl)) ?_;clear hK K)
  (repeat (first|(refine lxp HO (v:=?_) (fun w'=> ?_) ?_;rotate_left;(focus (go_simp;(try exact rfl);done));try go_simp)|(refine lxr HO (v:=?_) (fun w' hC'=> ?_) ?_;rotate_left;(focus (obtain ⟨c1,c2,c3,c4,c5⟩:=hC';go_simp;(try exact rfl);done));try go_simp)|(refine lxo HO ?_;try go_simp)))
  refine wpL_nil ?_
  go_wp2
  exact bodyPost_ret (v:=ent v r k) (by simp [results,Tryz.results172,go_sem, *]) rfl ⟨rfl,Mod.below (by (repeat first|(with_reducible exact m3)|(with_reducible refine Mod.alloc ?_ _)|(with_reducible refine Mod.drew ?_)|(with_reducible refine Mod.drewN ?_ _)|(with_reducible refine Mod.sc ?_)))⟩
set_option maxRecDepth 100000 in
set_option maxHeartbeats 2000000 in
theorem view_ok (h:SAt w ow x B s) (t:TSt) (c g:Nat) (f0 ld v r k:Int) (ht:s.task=some t) (htg:t.group=g) (htc:t.cpu=c) (hrd:t.ready=true) (hc:c < s.C) (hg:g < s.G) (h0:0≤t.id) (h1:t.id < 65536)
  (hq:s.qs g c= .o f0 ld t.id v r k):
  Calls Tryz.prog 90 #[ptr x, .int .i64 t.id] w fun e w' => e= .returned (.agg #[.int .i64 t.id, .int .i64 t.group, .int .i64 t.weight, .int .i64 t.cpu, .int .u64 t.mask, .bool t.ready, .int .u64 v, .int .u32 r])∧Below w.heap.size w w' :=by
 have S1:=h.no ((Mod.refl No w).alloc (.cells #[.int .i64 0, .int .i64 0, .int .i64 0, .int .i64 0, .int .u64 0, .bool false, .int .u64 0, .int .u32 0] 119))
 have x5:=S1.look.2.2.2.2.2.1
 have lx:=h.cx.2.lt
 have hlk:(Instr.lookup 127 (.map (some B.tb)) (.int .i64 t.id) false).run Tryz.prog (w.alloc (.cells #[.int .i64 0, .int .i64 0, .int .i64 0, .int .i64 0, .int .u64 0, .bool false, .int .u64 0, .int .u32 0] 119))= .ok (ptr B.tk) (w.alloc (.cells #[.int .i64 0, .int .i64 0, .int .i64 0, .int .i64 0, .int .u64 0, .bool false, .int .u64 0, .int .u32 0] 119)):=by
  have hT:=S1.1 .tb
  simp only [Part,tmapv,ht] at hT
  refine (run_lookup (P:=Tryz.prog) Tryz.underlying127 Tryz.underlying3 (Tryz.zeroValue168 _) hT.2 t.id).trans ?_
  simp [lk]
 go_enter Tryz.func90,Tryz.ntmps90
 go_wp2_with fail
 refine (ran_ok S1 t c g f0 ld v r k ht htg htc hrd hc hg h0 h1 hq).mono ?_;rintro e w1 ⟨rfl,hb1⟩
 have m1:Mod No w w1:=Mod.trans ((Mod.refl No w).alloc _) (Mod.of_below hb1 No) (fun _ _ h=> h)
 have S2:=h.no m1
 have R1:Row w1 w.heap.size 8 (fl [.int .i64 0, .int .i64 0, .int .i64 0, .int .i64 0, .int .u64 0, .bool false, .int .u64 0, .int .u32 0]):=Row.below (row_newL w [_,_,_,_,_,_,_,_] _) hb1 (by simp)
 obtain ⟨p0,p1,p2,p3,p4,p5,p6,p7⟩:=S2.tp (t:=t) ht
 have l1:=R1.lt
 have lt1:=(S2.1 .tk t ht).2.lt
 have e0:=R1.cL 0 _ (by omega) rfl
 have e1:=R1.cL 1 _ (by omega) rfl
 have e2:=R1.cL 2 _ (by omega) rfl
 have e3:=R1.cL 3 _ (by omega) rfl
 have e4:=R1.cL 4 _ (by omega) rfl
 have e5:=R1.cL 5 _ (by omega) rfl
 have e6:=R1.cL 6 _ (by omega) rfl
 have e7:=R1.cL 7 _ (by omega) rfl
 have g_:=R1.free
 have g0:=g_ 0
 have g1:=g_ 1
 have g2:=g_ 2
 have g3:=g_ 3
 have g4:=g_ 4
 have g5:=g_ 5
 have g6:=g_ 6
 have g7:=g_ 7
 go_upto_region 3 with fail
 (refine wp_region_tail 26 (by kernel_rfl) (by kernel_rfl) ?_;simp only [List.take_succ_cons,List.take_zero,List.drop_succ_cons,List.drop_zero];repeat still_step);refine wpStill_nil ?_
 go_wp2
 exact bodyPost_ret (v:= .agg #[.int .i64 t.id, .int .i64 t.group, .int .i64 t.weight, .int .i64 t.cpu, .int .u64 t.mask, .bool t.ready, .int .u64 v, .int .u32 r]) (by simp [results,Tryz.results90,go_sem, *]) rfl ⟨rfl,Mod.below (by (repeat first|(with_reducible exact m1)|(with_reducible refine Mod.alloc ?_ _)|(with_reducible refine Mod.drew ?_)|(with_reducible refine Mod.drewN ?_ _)|(with_reducible refine Mod.sc ?_)))⟩
set_option maxRecDepth 100000 in
set_option maxHeartbeats 2000000 in
theorem spot_off (h:SAt w ow x B s) (g c:Nat) (hc:c < s.C) (hg:g < s.G) (hq:g=0∨(s.qs g c).len=0):
  Calls Tryz.prog 91 #[ptr x, .int .i64 g, .int .i64 c] w fun e w' => e= .returned (ent (s.aside g c).1 (s.aside g c).2 (s.wt g))∧Below w.heap.size w w' :=by
 have i0:(0:Int)≤c:=by omega
 have i1:(c:Int) < s.C:=by omega
 have i2:(0:Int)≤g:=by omega
 have i3:(g:Int) < s.G:=by omega
 have S1:=h.no ((Mod.refl No w).alloc (.cells #[.int .u64 0, .int .u32 0, .int .u32 0] 138))
 have x6:=S1.look.2.2.2.2.2.2.1
 have x7:=S1.look.2.2.2.2.2.2.2.1
 obtain ⟨q0,q1⟩:=S1.qp (g:=g) (c:=c) hg hc
 obtain ⟨a0,a1,a2,a3⟩:=S1.ap (g:=g) (c:=c) hg hc
 have lx:=h.cx.2.lt
 by_cases hg0:g=0
 ·subst hg0
  go_enter Tryz.func91,Tryz.ntmps91
  go_wp2
  exact bodyPost_ret (v:=ent (s.aside 0 c).1 (s.aside 0 c).2 (s.wt 0)) (by simp [results,Tryz.results91,go_sem, *]) rfl ⟨rfl,Mod.below (by (repeat first|(with_reducible exact (Mod.refl No w))|(with_reducible refine Mod.alloc ?_ _)|(with_reducible refine Mod.drew ?_)|(with_reducible refine Mod.drewN ?_ _)|(with_reducible refine Mod.sc ?_)))⟩
 ·have hl:=hq.resolve_left hg0
  have g0:(0:Int) < g:=by omega
  go_enter Tryz.func91,Tryz.ntmps91
  go_wp2_with fail
  refine (sLen S1 hg hc).mono ?_;rintro e w1 ⟨rfl,rfl⟩
  rw [hl]
  go_wp2
  exact bodyPost_ret (v:=ent (s.aside g c).1 (s.aside g c).2 (s.wt g)) (by simp [results,Tryz.results91,go_sem, *]) rfl ⟨rfl,Mod.below (by (repeat first|(with_reducible exact (Mod.refl No w))|(with_reducible refine Mod.alloc ?_ _)|(with_reducible refine Mod.drew ?_)|(with_reducible refine Mod.drewN ?_ _)|(with_reducible refine Mod.sc ?_)))⟩
set_option maxRecDepth 100000 in
set_option maxHeartbeats 2000000 in
theorem spot_on (h:SAt w ow x B s) (g p c:Nat) (f0 ld v r k:Int) (T:Tree s.G s.par s.wt) (hc:c < s.C) (hg:g < s.G) (hg0:0 < g) (hp:s.par g=p) (hl:(s.qs g c).len=1) (hq:s.qs p c= .o f0 ld (65536+g) v r k):
  Calls Tryz.prog 91 #[ptr x, .int .i64 g, .int .i64 c] w fun e w' => e= .returned (ent v r k)∧Below w.heap.size w w' :=by
 have i0:(0:Int)≤c:=by omega
 have i1:(c:Int) < s.C:=by omega
 have i2:(0:Int)≤g:=by omega
 have i3:(g:Int) < s.G:=by omega
 have g0:(0:Int) < g:=by omega
 have g256:(g:Int) < 256:=by have:=T.g2;omega
 have hpg:p < s.G:=by have:=(T.parOk g hg0 hg).2;omega
 have j0:(0:Int)≤p:=by omega
 have j1:(p:Int) < s.G:=by omega
 have m1:Mod No w (w.alloc (.cells #[.int .u64 0, .int .u32 0, .int .u32 0] 138)):=(Mod.refl No w).alloc _
 have S1:=h.no m1
 have x6:=S1.look.2.2.2.2.2.2.1
 obtain ⟨q0,q1⟩:=S1.qp (g:=g) (c:=c) hg hc
 have lx:=h.cx.2.lt
 have R1:Row (w.alloc (.cells #[.int .u64 0, .int .u32 0, .int .u32 0] 138)) w.heap.size 3 (fl [.int .u64 0, .int .u32 0, .int .u32 0]):=row_newL w [_,_,_] _
 have mS:∀ w',Mod No w w' →w'.cell? ⟨x,6,none⟩=some (slc B.qo s.G B.qcap)∧w'.cell? ⟨B.qo,p,none⟩=some (slc (B.qi p) s.C s.C)∧w'.cell? ⟨B.qi p,c,none⟩=some (ptr (B.q p c)):=fun w' hm=> by
  have S2:=h.no hm
  exact ⟨S2.look.2.2.2.2.2.2.1,(S2.qp hpg hc).1,(S2.qp hpg hc).2⟩
 have HP:=Lib.hid (And.intro hp hq)
 clear hp hq
 go_enter Tryz.func91,Tryz.ntmps91
 go_wp2_with fail
 refine (sLen S1 hg hc).mono ?_;rintro e w1 ⟨rfl,rfl⟩
 rw [hl]
 go_upto_region 2 with fail
 clear x6 q0 q1
 refine wp_region_chain (fun w' => w'.cell? ⟨x,6,none⟩=some (slc B.qo s.G B.qcap)∧w'.cell? ⟨B.qo,p,none⟩=some (slc (B.qi p) s.C s.C)∧w'.cell? ⟨B.qi p,c,none⟩=some (ptr (B.q p c))) [6,14,18,19] [15,16,17,20] [19] (rds [0,1,2,3,4,5,9,12,13] (.ef2 6 (rds [7,8,10,11] (.ef2 14 (rds [15,16,17] (.ef 18 (.ef 19 (rds [20] .nil)))) 18 (.ef 14 (rds [15,16,17] (.ef 19 (rds [20] .nil)))))) 18 (.ef 6 (rds [7,8,10,11] (.ef 14 (rds [15,16,17] (.ef 19 (rds [20] .nil)))))))) (by kernel_rfl) (by kernel_rfl) (mS _ m1.drew) ?_
 intro O hO
 have HO:=Lib.hid hO
 clear hO
 simp only [rds]
 (repeat (first|(refine lxp HO (v:=?_) (fun w'=> ?_) ?_;rotate_left;(focus (go_simp;(try exact rfl);done));try go_simp)|(refine lxr HO (v:=?_) (fun w' hC'=> ?_) ?_;rotate_left;(focus (obtain ⟨c1,c2,c3⟩:=hC';go_simp;(try exact rfl);done));try go_simp)|(refine lxo HO ?_;try go_simp)))
 refine wpL_eff2 ?o1 ?o2
 case o1=>
  refine lxe HO (fun Kx hKx=> ?_)
  go_simp
  refine (sParent (h.no m1.drew) (g:=g) _ rfl hg).mono ?_;rintro e w4 ⟨rfl,rfl⟩
  rw [HP.out.1]
  refine hKx _ _ (.inr (mS _ m1.drew)) ?_
  clear hKx Kx
  (repeat (first|(refine lxp HO (v:=?_) (fun w'=> ?_) ?_;rotate_left;(focus (go_simp;(try exact rfl);done));try go_simp)|(refine lxr HO (v:=?_) (fun w' hC'=> ?_) ?_;rotate_left;(focus (obtain ⟨c1,c2,c3⟩:=hC';go_simp;(try exact rfl);done));try go_simp)|(refine lxo HO ?_;try go_simp)))
  refine wpL_eff2 ?o3 ?o4
  case o3=>
   refine lxe HO (fun Kx hKx=> ?_)
   go_simp
   refine (sGet_one' (h.no m1.drew) (g:=p) (c:=c) hpg hc f0 ld (65536+g) v r k _ HP.out.2 (by omega) (by omega) (by first|rfl|(rw [IntKind.wrap_i64];omega))).mono ?_;rintro e w3 ⟨rfl,hb3⟩
   have m3:Mod No w w3:=Mod.trans m1.drew (Mod.of_below hb3 No) (fun _ _ h=> h)
   have R3:Row w3 w.heap.size 3 (fl [.int .u64 0, .int .u32 0, .int .u32 0]):=R1.drew.below hb3 (by simp)
   have e0:=R3.cL 0 _ (by omega) rfl
   have e1:=R3.cL 1 _ (by omega) rfl
   have e2:=R3.cL 2 _ (by omega) rfl
   have f0' :=R3.free 0
   have f1' :=R3.free 1
   have f2' :=R3.free 2
   have l3:=R3.lt
   refine hKx _ _ (.inr (mS _ m3)) ?_
   clear hKx Kx
   (repeat (first|(refine lxp HO (v:=?_) (fun w'=> ?_) ?_;rotate_left;(focus (go_simp;(try exact rfl);done));try go_simp)|(refine lxr HO (v:=?_) (fun w' hC'=> ?_) ?_;rotate_left;(focus (obtain ⟨c1,c2,c3⟩:=hC';go_simp;(try exact rfl);done));try go_simp)|(refine lxo HO ?_;try go_simp)))
   (refine lxe HO (fun K hK=> ?_);go_simp;refine hK _ _ ?_ ?_;all_goals clear hK K)
   ·exact .inr (mS _ (m3.alloc _))
   (refine lxe HO (fun K hK=> ?_);go_simp;refine hK _ _ (.inl (by rfl)) ?_;clear hK K)
   (repeat (first|(refine lxp HO (v:=?_) (fun w'=> ?_) ?_;rotate_left;(focus (go_simp;(try exact rfl);done));try go_simp)|(refine lxr HO (v:=?_) (fun w' hC'=> ?_) ?_;rotate_left;(focus (obtain ⟨c1,c2,c3⟩:=hC';go_simp;(try exact rfl);done));try go_simp)|(refine lxo HO ?_;try go_simp)))
   refine wpL_nil ?_
   go_wp2
   exact bodyPost_ret (v:=ent v r k) (by simp [results,Tryz.results91,go_sem, *]) rfl ⟨rfl,Mod.below (by (repeat first|(with_reducible exact m3)|(with_reducible refine Mod.alloc ?_ _)|(with_reducible refine Mod.drew ?_)|(with_reducible refine Mod.drewN ?_ _)|(with_reducible refine Mod.sc ?_)))⟩
  case o4=>
   (refine lxe HO (fun K hK=> ?_);go_simp;refine hK _ _ ?_ ?_;all_goals clear hK K)
   ·exact .inr (mS _ (m1.drew.alloc _))
   refine lxe HO (fun Kx hKx=> ?_)
   go_simp
   refine (sGet_one' (h.no (m1.drew.alloc _)) (g:=p) (c:=c) hpg hc f0 ld (65536+g) v r k _ HP.out.2 (by omega) (by omega) (by first|rfl|(rw [IntKind.wrap_i64];omega))).mono ?_;rintro e w3 ⟨rfl,hb3⟩
   have m3:Mod No w w3:=Mod.trans (m1.drew.alloc _) (Mod.of_below hb3 No) (fun _ _ h=> h)
   have R3:Row w3 w.heap.size 3 (fl [.int .u64 0, .int .u32 0, .int .u32 0]):=(R1.drew.alloc _).below hb3 (by simp;omega)
   have e0:=R3.cL 0 _ (by omega) rfl
   have e1:=R3.cL 1 _ (by omega) rfl
   have e2:=R3.cL 2 _ (by omega) rfl
   have f0' :=R3.free 0
   have f1' :=R3.free 1
   have f2' :=R3.free 2
   have l3:=R3.lt
   have N3:Row w3 (w.heap.size+1) 3 (fl [.int .u64 0, .int .u32 0, .int .u32 0]):=Row.below (row_newL' (w.alloc (.cells #[.int .u64 0, .int .u32 0, .int .u32 0] 138)).drew (w.heap.size+1) [_,_,_] _ (by simp)) hb3 (by simp)
   have n0:=N3.cL 0 _ (by omega) rfl
   have n1:=N3.cL 1 _ (by omega) rfl
   have n2:=N3.cL 2 _ (by omega) rfl
   have k0:=N3.free 0
   have k1:=N3.free 1
   have k2:=N3.free 2
   have ln3:=N3.lt
   refine hKx _ _ (.inr (mS _ m3)) ?_
   clear hKx Kx
   (repeat (first|(refine lxp HO (v:=?_) (fun w'=> ?_) ?_;rotate_left;(focus (go_simp;(try exact rfl);done));try go_simp)|(refine lxr HO (v:=?_) (fun w' hC'=> ?_) ?_;rotate_left;(focus (obtain ⟨c1,c2,c3⟩:=hC';go_simp;(try exact rfl);done));try go_simp)|(refine lxo HO ?_;try go_simp)))
   (refine lxe HO (fun K hK=> ?_);go_simp;refine hK _ _ (.inl (by rfl)) ?_;clear hK K)
   (repeat (first|(refine lxp HO (v:=?_) (fun w'=> ?_) ?_;rotate_left;(focus (go_simp;(try exact rfl);done));try go_simp)|(refine lxr HO (v:=?_) (fun w' hC'=> ?_) ?_;rotate_left;(focus (obtain ⟨c1,c2,c3⟩:=hC';go_simp;(try exact rfl);done));try go_simp)|(refine lxo HO ?_;try go_simp)))
   refine wpL_nil ?_
   go_wp2
   exact bodyPost_ret (v:=ent v r k) (by simp [results,Tryz.results91,go_sem, *]) rfl ⟨rfl,Mod.below (by (repeat first|(with_reducible exact m3)|(with_reducible refine Mod.alloc ?_ _)|(with_reducible refine Mod.drew ?_)|(with_reducible refine Mod.drewN ?_ _)|(with_reducible refine Mod.sc ?_)))⟩
 case o2=>
  (refine lxe HO (fun K hK=> ?_);go_simp;refine hK _ _ ?_ ?_;all_goals clear hK K)
  ·exact .inr (mS _ (m1.drew.alloc _))
  refine lxe HO (fun Kx hKx=> ?_)
  go_simp
  refine (sParent (h.no (m1.drew.alloc _)) (g:=g) _ rfl hg).mono ?_;rintro e w4 ⟨rfl,rfl⟩
  rw [HP.out.1]
  refine hKx _ _ (.inr (mS _ (m1.drew.alloc _))) ?_
  clear hKx Kx
  (repeat (first|(refine lxp HO (v:=?_) (fun w'=> ?_) ?_;rotate_left;(focus (go_simp;(try exact rfl);done));try go_simp)|(refine lxr HO (v:=?_) (fun w' hC'=> ?_) ?_;rotate_left;(focus (obtain ⟨c1,c2,c3⟩:=hC';go_simp;(try exact rfl);done));try go_simp)|(refine lxo HO ?_;try go_simp)))
  refine lxe HO (fun Kx hKx=> ?_)
  go_simp
  refine (sGet_one' (h.no (m1.drew.alloc _)) (g:=p) (c:=c) hpg hc f0 ld (65536+g) v r k _ HP.out.2 (by omega) (by omega) (by first|rfl|(rw [IntKind.wrap_i64];omega))).mono ?_;rintro e w3 ⟨rfl,hb3⟩
  have m3:Mod No w w3:=Mod.trans (m1.drew.alloc _) (Mod.of_below hb3 No) (fun _ _ h=> h)
  have R3:Row w3 w.heap.size 3 (fl [.int .u64 0, .int .u32 0, .int .u32 0]):=(R1.drew.alloc _).below hb3 (by simp;omega)
  have e0:=R3.cL 0 _ (by omega) rfl
  have e1:=R3.cL 1 _ (by omega) rfl
  have e2:=R3.cL 2 _ (by omega) rfl
  have f0' :=R3.free 0
  have f1' :=R3.free 1
  have f2' :=R3.free 2
  have l3:=R3.lt
  have N3:Row w3 (w.heap.size+1) 3 (fl [.int .u64 0, .int .u32 0, .int .u32 0]):=Row.below (row_newL' (w.alloc (.cells #[.int .u64 0, .int .u32 0, .int .u32 0] 138)).drew (w.heap.size+1) [_,_,_] _ (by simp)) hb3 (by simp)
  have n0:=N3.cL 0 _ (by omega) rfl
  have n1:=N3.cL 1 _ (by omega) rfl
  have n2:=N3.cL 2 _ (by omega) rfl
  have k0:=N3.free 0
  have k1:=N3.free 1
  have k2:=N3.free 2
  have ln3:=N3.lt
  refine hKx _ _ (.inr (mS _ m3)) ?_
  clear hKx Kx
  (repeat (first|(refine lxp HO (v:=?_) (fun w'=> ?_) ?_;rotate_left;(focus (go_simp;(try exact rfl);done));try go_simp)|(refine lxr HO (v:=?_) (fun w' hC'=> ?_) ?_;rotate_left;(focus (obtain ⟨c1,c2,c3⟩:=hC';go_simp;(try exact rfl);done));try go_simp)|(refine lxo HO ?_;try go_simp)))
  (refine lxe HO (fun K hK=> ?_);go_simp;refine hK _ _ (.inl (by rfl)) ?_;clear hK K)
  (repeat (first|(refine lxp HO (v:=?_) (fun w'=> ?_) ?_;rotate_left;(focus (go_simp;(try exact rfl);done));try go_simp)|(refine lxr HO (v:=?_) (fun w' hC'=> ?_) ?_;rotate_left;(focus (obtain ⟨c1,c2,c3⟩:=hC';go_simp;(try exact rfl);done));try go_simp)|(refine lxo HO ?_;try go_simp)))
  refine wpL_nil ?_
  go_wp2
  exact bodyPost_ret (v:=ent v r k) (by simp [results,Tryz.results91,go_sem, *]) rfl ⟨rfl,Mod.below (by (repeat first|(with_reducible exact m3)|(with_reducible refine Mod.alloc ?_ _)|(with_reducible refine Mod.drew ?_)|(with_reducible refine Mod.drewN ?_ _)|(with_reducible refine Mod.sc ?_)))⟩
end
end Go.Q
/- Plain lemmas on maps with any keys of which the kit has a law:a look-up,a store. -/
namespace Go.Q
open Go.RowKit
structure KeyOk {κ:Type} (P:Program) (k:TypeId) (K:κ→Value):Prop where
 inj:∀ x y,K x=K y→x=y
 check:∀ (w:World) (em:Bool) (x:κ),(Instr.checkKey em 10000 k (K x)).run P w= .ok () w
 find:∀ (w:World) (x:κ) (es:List MapEntry),(∀ e∈es,∃ y,e.key=K y)→
  ((Instr.findKey k (K x) es).run P w= .ok none w∧∀ e∈es,e.key≠K x)∨∃ j e,(Instr.findKey k (K x) es).run P w= .ok (some (j,e.val)) w∧es[j]? =some e∧e.key=K x
 stays:∀ (w:World) (x:κ),(Instr.keyThatStays (K x) (K x)).run P w= .ok (K x) w
theorem KeyOk.of {κ:Type} {P:Program} {k:TypeId} {K:κ→Value} (L:WideMaps.KeyLaw P k) (hi:∀ x y,K x=K y→x=y) (hk:∀ x,∃ l,keyOf P k (K x)=some l):KeyOk P k K where
 inj:=hi
 check:=fun w em x=> by obtain ⟨l,h⟩:=hk x;exact L.check w em h
 find:=fun w x es h=> by
  obtain ⟨l,hl⟩:=hk x
  exact L.find w hl es (fun e he=> by obtain ⟨y,e1⟩:=h e he;rw [e1];exact hk y)
 stays:=fun w x=> by obtain ⟨l,h⟩:=hk x;exact L.stays w h
def GMap {κ:Type} (w:World) (K:κ→Value) (b:Nat) (f:κ→Option Value):Prop:=
 ∃ es clock,w.heap[b]? =some (.map es clock)∧(∀ e∈es.toList,∃ y,e.key=K y)∧(es.toList.map (·.key)).Nodup∧
  (∀ e∈es.toList,∀ y,e.key=K y→f y=some e.val)∧∀ y v,f y=some v→∃ e∈es.toList,e.key=K y
section
variable {κ:Type} {S:Nat→Prop} {w w' :World} {K:κ→Value} {b:Nat} {f:κ→Option Value} {P:Program}
theorem GMap.lt (h:GMap w K b f):b < w.heap.size:=by obtain ⟨es,c,hb,_⟩:=h;exact lt_of_block hb
theorem GMap.mod (h:GMap w K b f) (hm:Mod S w w') (hs:¬S b):GMap w' K b f:=by
 obtain ⟨es,c,hb,r⟩:=h
 exact ⟨es,c,hm.heap hb hs,r⟩
theorem GMap.new (w:World) (K:κ→Value) (b:Nat) (hb:b=w.heap.size):GMap (w.alloc (.map #[] 0)) K b (fun _=> none):=
 ⟨#[],0,by rw [hb];exact heap_alloc_new w _,by simp,by simp,by simp,by simp⟩
theorem GMap.look {t k e:TypeId} {z:Value} (ht:P.underlying t=some (.map k e)) (hk:KeyOk P k K) (hz:(zeroValue e).run P w= .ok z w) (h:GMap w K b f) (x:κ):
  (Instr.lookup t (.map (some b)) (K x) false).run P w= .ok ((f x).getD z) w:=by
 obtain ⟨es,c,hb,h1,h2,h3,h4⟩:=h
 rcases hk.find w x es.toList h1 with ⟨g1,g2⟩|⟨j,e0,g1,g2,g3⟩
 ·have hn:f x=none:=by
   cases hf:f x with
   |none=> rfl
   |some v=> obtain ⟨e1,m1,m2⟩:=h4 x v hf;exact absurd m2 (g2 e1 m1)
  simp [Instr.lookup,run_underlying ht,run_getObj_at hb,hk.check,g1,hz,hn]
 ·have hf:=h3 e0 (List.mem_of_getElem? g2) x g3
  simp [Instr.lookup,run_underlying ht,run_getObj_at hb,hk.check,g1,hf]
theorem GMap.put [DecidableEq κ] {t k e:TypeId} (ht:P.underlying t=some (.map k e)) (hk:KeyOk P k K) (h:GMap w K b f) (x:κ) (u:Value):
  ∃ o,(Instr.mapUpdate t (.map (some b)) (K x) u).run P w= .ok () { w with heap:=w.heap.setIfInBounds b o }∧GMap { w with heap:=w.heap.setIfInBounds b o } K b (fun y=> if y=x then some u else f y):=by
 obtain ⟨es,c,hb,h1,h2,h3,h4⟩:=h
 have hlb:=lt_of_block hb
 rcases hk.find w x es.toList h1 with ⟨g1,g2⟩|⟨j,e0,g1,g2,g3⟩
 ·refine ⟨.map (es.push { key:=K x,val:=u,born:=c }) (c+1), ?_,es.push { key:=K x,val:=u,born:=c },c+1,by simp [hlb], ?_, ?_, ?_, ?_⟩
  ·simp [Instr.mapUpdate,run_underlying ht,run_getObj_at hb,hk.check,g1,run_setObj_at' _ hb]
  ·intro e he
   simp only [Array.toList_push,List.mem_append,List.mem_singleton] at he
   rcases he with he|rfl
   ·exact h1 e he
   ·exact ⟨x,rfl⟩
  ·simp only [Array.toList_push,List.map_append,List.map_cons,List.map_nil]
   refine List.nodup_append.2 ⟨h2,by simp, ?_⟩
   intro a ha b' hb' e
   simp only [List.mem_singleton] at hb'
   obtain ⟨e1,he,rfl⟩:=List.mem_map.1 ha
   exact g2 e1 he (e.trans hb')
  ·intro e he y hy
   simp only [Array.toList_push,List.mem_append,List.mem_singleton] at he
   try dsimp only
   rcases he with he|rfl
   ·rw [if_neg (by rintro rfl;exact g2 e he hy)];exact h3 e he y hy
   ·rw [if_pos (hk.inj _ _ hy).symm]
  ·intro y v hv
   try dsimp only at hv
   split at hv
   ·rename_i e;subst e;exact ⟨{ key:=K y,val:=u,born:=c },by simp,rfl⟩
   ·obtain ⟨e1,m1,m2⟩:=h4 y v hv
    exact ⟨e1,by simp [m1],m2⟩
 ·have hj:j < es.toList.length:=(List.getElem?_eq_some_iff.1 g2).1
  have hm:∀ e,e∈es.toList.modify j (fun e=> { e with key:=K x,val:=u })→(e.key=K x∧e.val=u)∨(e∈es.toList∧e.key≠K x):=by
   intro e he
   obtain ⟨i,hi,rfl⟩:=List.getElem_of_mem he
   have hi' :i < es.toList.length:=by simpa using hi
   rw [List.getElem_modify]
   split
   ·exact .inl ⟨rfl,rfl⟩
   ·rename_i hne
    refine .inr ⟨List.getElem_mem hi',fun e1=> hne ?_⟩
    have hd:=List.pairwise_iff_getElem.1 h2
    have e5:(es.toList.map (·.key))[i]'(by simpa using hi')=(es.toList.map (·.key))[j]'(by simpa using hj):=by
     simp only [List.getElem_map]
     have h5:=(List.getElem?_eq_some_iff.1 g2).2
     rw [e1,h5,g3]
    rcases Nat.lt_trichotomy i j with h5|h5|h5
    ·exact absurd e5 (hd i j _ _ h5)
    ·exact h5.symm
    ·exact absurd e5.symm (hd j i _ _ h5)
  refine ⟨.map (es.modify j fun e=> { e with key:=K x,val:=u }) c, ?_,es.modify j fun e=> { e with key:=K x,val:=u },c,by simp [hlb], ?_, ?_, ?_, ?_⟩
  ·have hg:es[j]? =some e0:=by simpa using g2
   simp [Instr.mapUpdate,run_underlying ht,run_getObj_at hb,hk.check,g1,run_setObj_at' _ hb,hg,g3,hk.stays]
  ·intro e he
   rw [Array.toList_modify] at he
   rcases hm e he with h|h
   ·exact ⟨x,h.1⟩
   ·exact h1 e h.1
  ·have:(es.modify j fun e=> { e with key:=K x,val:=u }).toList.map (·.key)=es.toList.map (·.key):=by
    simp only [Array.toList_modify]
    apply List.ext_getElem?
    intro i
    simp only [List.getElem?_map,List.getElem?_modify]
    by_cases hi:j=i
    ·subst hi;rw [g2];simp [g3]
    ·simp [hi]
   rw [this];exact h2
  ·intro e he y hy
   rw [Array.toList_modify] at he
   try dsimp only
   rcases hm e he with h|h
   ·rw [if_pos (hk.inj _ _ (hy.symm.trans h.1)),h.2]
   ·rw [if_neg (by rintro rfl;exact h.2 hy)];exact h3 e h.1 y hy
  ·intro y v hv
   try dsimp only at hv
   by_cases e:y=x
   ·subst e
    refine ⟨{ e0 with key:=K y,val:=u }, ?_,rfl⟩
    rw [Array.toList_modify]
    refine List.mem_of_getElem? (i:=j) ?_
    rw [List.getElem?_modify,g2];simp
   ·rw [if_neg e] at hv
    obtain ⟨e1,m1,m2⟩:=h4 y v hv
    obtain ⟨i,hi,he⟩:=List.getElem_of_mem m1
    refine ⟨e1, ?_,m2⟩
    rw [Array.toList_modify]
    refine List.mem_of_getElem? (i:=i) ?_
    have hne:j≠i:=by
     rintro rfl
     have h5:=(List.getElem?_eq_some_iff.1 g2).2
     rw [he] at h5
     rw [h5] at m2
     exact e (hk.inj _ _ (m2.symm.trans g3))
    rw [List.getElem?_modify,List.getElem?_eq_getElem hi,he]
    simp [hne]
end
end Go.Q
namespace Go.Q
open Go.RowKit Go.Proofs
set_option maxRecDepth 100000 in
set_option maxHeartbeats 2000000 in
theorem bits64 (n:Nat) (hn:n≤1) (w:World):Calls Tryz.prog 272 #[.int .u64 n] w fun e w' => e= .returned (.int .i64 n)∧Below w.heap.size w w' :=by
 rcases (by omega:n=0∨n=1) with rfl|rfl
 ·go_enter Tryz.func272,Tryz.ntmps272
  go_wp2
  exact bodyPost_ret (v:= .int .i64 0) (by simp [results,Tryz.results272,go_sem] <;> kernel_rfl) rfl ⟨rfl,belowX⟩
 ·go_enter Tryz.func272,Tryz.ntmps272
  go_wp2
  exact bodyPost_ret (v:= .int .i64 1) (by simp [results,Tryz.results272,go_sem] <;> kernel_rfl) rfl ⟨rfl,belowX⟩
set_option maxRecDepth 100000 in
set_option maxHeartbeats 2000000 in
theorem bitsLen (n:Nat) (hn:n≤1) (w:World):Calls Tryz.prog 227 #[.int .u64 n] w fun e w' => e= .returned (.int .i64 n)∧Below w.heap.size w w' :=by
 go_enter Tryz.func227,Tryz.ntmps227
 go_wp2_with fail
 refine (bits64 n hn w).mono ?_;rintro e w1 ⟨rfl,hb1⟩
 go_wp2
 exact bodyPost_ret (v:= .int .i64 n) (by simp [results,Tryz.results227,go_sem]) rfl ⟨rfl,belowX⟩
set_option maxRecDepth 100000 in
set_option maxHeartbeats 2000000 in
theorem insSort0 (n:Nat) (f:Value) (hn:n≤1) (sv:Value) (w:World):Calls Tryz.prog 299 #[sv, .int .i64 0, .int .i64 n,f] w fun e w' => e= .returned (.tuple #[])∧Below w.heap.size w w' :=by
 have h1:¬(1:Int) < n:=by omega
 go_enter Tryz.func299,Tryz.ntmps299
 go_wp2
 go_loopw [8] (fun s8 wr=> s8= .int .i64 1∧Below w.heap.size w wr) (fun _ _=> 0)
 case atStart=> exact ⟨rfl,Below.refl _ _⟩
 case round=>
  obtain ⟨rfl,hb⟩:=hrel
  go_wp2
  go_end0
  exact ⟨rfl,hb⟩
set_option maxRecDepth 100000 in
set_option maxHeartbeats 2000000 in
theorem pdq0 (n:Nat) (f:Value) (hn:n≤1) (sv:Value) (w:World):Calls Tryz.prog 280 #[sv, .int .i64 0, .int .i64 n, .int .i64 n,f] w fun e w' => e= .returned (.tuple #[])∧Below w.heap.size w w' :=by
 have h1:(n:Int)≤12:=by omega
 go_enter Tryz.func280,Tryz.ntmps280
 go_wp2
 go_loopw [1,2] (fun s1 s2 wr=> s1= .int .i64 0∧s2= .int .i64 n∧wr=w) (fun _ _ _=> 0)
 case atStart=> exact ⟨rfl,rfl,rfl⟩
 case round=>
  obtain ⟨rfl,rfl,rfl⟩:=hrel
  go_wp2_with fail
  refine (insSort0 n f hn sv _).mono ?_;rintro e w1 ⟨rfl,hb1⟩
  go_wp2
  exact bodyPost_ret (v:= .tuple #[]) (by simp [results,Tryz.results280,go_sem]) rfl ⟨rfl,hb1⟩
set_option maxRecDepth 100000 in
set_option maxHeartbeats 2000000 in
theorem sort0 (n:Nat) (f:Value) (hn:n≤1) (o:Option Addr) (c:Nat) (w:World):Calls Tryz.prog 246 #[.slice o n c,f] w fun e w' => e= .returned (.tuple #[])∧Below w.heap.size w w' :=by
 have h1:IntKind.u64.wrap (n:Int)=n:=by rw [IntKind.wrap_u64];omega
 go_enter Tryz.func246,Tryz.ntmps246
 go_wp2_with fail
 refine (bitsLen n hn w).mono ?_;rintro e w1 ⟨rfl,hb1⟩
 go_wp2_with fail
 refine (pdq0 n f hn _ _).mono ?_;rintro e w2 ⟨rfl,hb2⟩
 go_wp2
 go_end0
 exact ⟨rfl,belowX⟩
section
variable {w:World} {ow:Nat→Own} {x:Nat} {B:SB} {s:SSt}
def QSt.raise (f:Int):QSt→QSt| .e fl ld=> .e (mxI fl f) ld| .o fl ld id v r k=> .o (mxI fl f) ld id v r k
theorem sRaise (h:SAt w ow x B s) {g c:Nat} (hg:g < s.G) (hc:c < s.C) (f:Int):
  Calls Tryz.prog 186 #[ptr (B.q g c), .int .u64 f] w fun e w' => e= .returned (.int .i64 0)∧Mod (fun b=> ow b= .q g c) w w' ∧SAt w' (ext ow w w' (.q g c)) x B { s with qs:=upd2 s.qs g c ((s.qs g c).raise f) }:=by
 have hq:=h.1 (.q g c) hg hc
 cases hs:s.qs g c with
 |e fl ld=>
  rw [hs] at hq
  obtain ⟨hb,pb,eb,X,o0,o1,o2,o3⟩:=hq
  refine (qRaise _ 65792 fl f _ _ _ (by omega) w X.row).mono ?_
  rintro e w' ⟨rfl,hm,R⟩
  obtain ⟨l0,l1,l2,l3⟩:=X.lts
  have hm' :Mod (fun b=> ow b= .q g c) w w' :=hm.mono (by rintro b _ rfl;exact o0)
  have m0:∀ b,b≠B.q g c→¬One (B.q g c) b:=fun b hb e=> hb e
  exact ⟨rfl,hm',h.updq _ hm' ⟨hb,pb,eb,⟨R,X.ents.mod hm (m0 _ X.d3.symm),X.heap.mod hm (m0 _ X.d1.symm) (m0 _ X.d2.symm),X.d1,X.d2,X.d3,X.d4,X.d5⟩,by rw [ext_old l0,o0],by rw [ext_old l1,o1],by rw [ext_old l2,o2],by rw [ext_old l3,o3]⟩⟩
 |o fl ld id v r k=>
  rw [hs] at hq
  obtain ⟨hb,pb,eb,ib,X,o0,o1,o2,o3,o4⟩:=hq
  refine (qRaise _ 65792 fl f _ _ _ (by omega) w X.row).mono ?_
  rintro e w' ⟨rfl,hm,R⟩
  obtain ⟨l0,l1,l2,l3,l4⟩:=X.lts
  have hm' :Mod (fun b=> ow b= .q g c) w w' :=hm.mono (by rintro b _ rfl;exact o0)
  have m0:∀ b,b≠B.q g c→¬One (B.q g c) b:=fun b hb e=> hb e
  obtain ⟨xr,xe,xh,d1,d2,d3,d4,d5,d6,d7⟩:=X
  refine ⟨rfl,hm',h.updq _ hm' ⟨hb,pb,eb,ib,⟨R,xe.mod hm (m0 _ d3.symm),xh.mod hm (m0 _ d1.symm) (m0 _ d2.symm) (m0 _ ?_),d1,d2,d3,d4,d5,d6,d7⟩,by rw [ext_old l0,o0],by rw [ext_old l1,o1],by rw [ext_old l2,o2],by rw [ext_old l3,o3],by rw [ext_old l4,o4]⟩⟩
  exact d6.symm
theorem SAt.setAside (h:SAt w ow x B s) {g c:Nat} (hg:g < s.G) (hc:c < s.C) (V R:Int):
  SAt ((w.setCell ⟨B.ai g,c * 3,none⟩ (.int .u64 V)).setCell ⟨B.ai g,c * 3+1,none⟩ (.int .u32 R)) ow x B { s with aside:=upd2 s.aside g c (V,R) }:=by
 have hp:=h.1 (.ai g) hg
 refine h.set (.ai g) (((Mod.refl _ w).setCell (p:=⟨B.ai g,c * 3,none⟩) (.inr ⟨hp.1,by simp⟩) _).setCell (p:=⟨B.ai g,c * 3+1,none⟩) (.inr ⟨hp.1,by simp⟩) _) (fun _=> ⟨hp.1, ?_⟩) ?_
 ·refine (((hp.2.set (i:=c * 3) (by omega) _).set (i:=c * 3+1) (by omega) _)).congr (fun i hi=> ?_)
  simp only [asd,upd2]
  by_cases e1:i=c * 3+1
  ·subst e1
   simp [show (c * 3+1) % 3=1 from by omega,show (c * 3+1) / 3=c from by omega]
  by_cases e0:i=c * 3
  ·subst e0
   simp [show c * 3 % 3=0 from by omega,show c * 3 / 3=c from by omega]
  rw [if_neg e1,if_neg e0]
  by_cases e2:i=c * 3+2
  ·subst e2
   simp [show (c * 3+2) % 3=2 from by omega]
  ·rw [if_neg (show ¬(True∧i / 3=c) from fun hh=> by omega)]
 ·intro t' ht' hp'
  cases t' with
  |ai g' =>
   intro hg'
   have:=hp' hg'
   simp only [Part] at this ⊢
   refine ⟨this.1,this.2.congr (fun i hi=> ?_)⟩
   have e:g' ≠g:=fun e=> ht' (by rw [e])
   simp only [asd,upd2,if_neg (show ¬(g' =g∧i / 3=c) from fun hh=> e hh.1)]
  |_=> exact hp'
end
end Go.Q
namespace Go.Q
open Go.RowKit Go.Proofs
abbrev K2:=Fin 256×Fin 64
abbrev k2v (p:K2):Value:= .agg #[.int .i64 p.1.val, .int .i64 p.2.val]
theorem k2_arr:WideMaps.ArrKey Tryz.prog 300 3 2:=⟨by kernel_rfl,by kernel_rfl,by kernel_rfl,by kernel_rfl⟩
theorem k2_inj (x y:K2) (h:k2v x=k2v y):x=y:=by
 obtain ⟨⟨a,ha⟩,⟨b,hb⟩⟩:=x
 obtain ⟨⟨a',ha'⟩,⟨b',hb'⟩⟩:=y
 simp [k2v] at h
 simp
 omega
theorem k2_lits (d:Nat) (a b:Nat) (ha:a < 256) (hb:b < 64):Tryz.prog.keyLits (d+2) 300 [.int .i64 a, .int .i64 b]=some [.int .i64 a, .int .i64 b]:=by
 have hi:∀ n:Nat,n < 256→Tryz.prog.keyLits (d+1) 3 [.int .i64 n]=some [.int .i64 n]:=fun n hn=> by
  unfold Program.keyLits
  rw [Tryz.underlying3]
  simp only [true_and]
  rw [if_pos]
  simp [Lit.wf,IntKind.min,IntKind.max,IntKind.signed,IntKind.bits]
  omega
 unfold Program.keyLits
 rw [k2_arr.hu]
 simp only [k2_arr.one,k2_arr.size]
 simp [List.range_succ,hi a ha,hi b (by omega)]
theorem k2_size:Tryz.prog.types.size=(Tryz.prog.types.size - 1)+1:=by kernel_rfl
theorem k2_key (x:K2):∃ l,keyOf Tryz.prog 300 (k2v x)=some l:=by
 obtain ⟨⟨a,ha⟩,⟨b,hb⟩⟩:=x
 have e1:=k2_arr.hu
 obtain ⟨d,hd⟩:∃ d,Tryz.prog.types.size=d+1:=⟨_,k2_size⟩
 have hk:=k2_arr.keyType ⟨d,hd⟩
 have hf:(k2v (⟨a,ha⟩,⟨b,hb⟩)).formed Tryz.prog 300=true:=by
  unfold Value.formed k2v
  simp only [e1,k2_arr.size]
  rfl
 unfold keyOf
 rw [e1]
 dsimp only
 rw [hk,hf,hd]
 exact ⟨_,by rw [show (k2v (⟨a,ha⟩,⟨b,hb⟩)).cells.toList= [.int .i64 a, .int .i64 b] from rfl,k2_lits d a b ha hb];rfl⟩
theorem k2_ok:KeyOk Tryz.prog 300 k2v:=KeyOk.of k2_arr.law k2_inj k2_key
theorem modify_last' {α:Type} (f:α→α) (a:α):∀ l:List α,(l++ [a]).modify l.length f=l++ [f a]
 | []=> by simp
 |b::r=> by simpa using modify_last' f a r
def BMap {κ:Type} (w:World) (K:κ→Value) (b:Nat) (f:κ→Option Value):Prop:=
 ∃ es clock,w.heap[b]? =some (.map es clock)∧(∀ e∈es.toList,e.born < clock)∧(∀ e∈es.toList,∃ y,e.key=K y)∧(es.toList.map (·.key)).Nodup∧
  (∀ e∈es.toList,∀ y,e.key=K y→f y=some e.val)∧∀ y v,f y=some v→∃ e∈es.toList,e.key=K y
section
variable {κ:Type} {S:Nat→Prop} {w w' :World} {K:κ→Value} {b:Nat} {f:κ→Option Value} {P:Program}
theorem BMap.g (h:BMap w K b f):GMap w K b f:=by obtain ⟨es,c,hb,_,r⟩:=h;exact ⟨es,c,hb,r⟩
theorem BMap.mod (h:BMap w K b f) (hm:Mod S w w') (hs:¬S b):BMap w' K b f:=by
 obtain ⟨es,c,hb,r⟩:=h
 exact ⟨es,c,hm.heap hb hs,r⟩
theorem BMap.new (w:World) (K:κ→Value) (b:Nat) (hb:b=w.heap.size):BMap (w.alloc (.map #[] 0)) K b (fun _=> none):=
 ⟨#[],0,by rw [hb];exact heap_alloc_new w _,by simp,by simp,by simp,by simp,by simp⟩
theorem BMap.entry [DecidableEq κ] {t k e:TypeId} {z:Value} (ht:P.underlying t=some (.map k e)) (hk:KeyOk P k K) (hz:∀ u:World,(zeroValue e).run P u= .ok z u) (h:BMap w K b f) (x:κ) (hx:f x=none):
  ∃ (st:Nat) (o:Obj),(Instr.mapEntry t (.map (some b)) (K x)).run P w= .ok (.tuple #[z, .int .i64 st]) { w with heap:=w.heap.setIfInBounds b o }∧
   ∀ (w2:World) (u:Value),w2.heap[b]? =some o→∃ o',(Instr.entryStore t (.map (some b)) (.int .i64 st) u).run P w2= .ok () { w2 with heap:=w2.heap.setIfInBounds b o' }∧
    BMap { w2 with heap:=w2.heap.setIfInBounds b o' } K b (fun y=> if y=x then some u else f y):=by
 obtain ⟨es,c,hb,h0,h1,h2,h3,h4⟩:=h
 have hlb:=lt_of_block hb
 rcases hk.find w x es.toList h1 with ⟨g1,g2⟩|⟨j,e0,g1,g2,g3⟩
 ·refine ⟨c, .map (es.push { key:=K x,val:=z,born:=c }) (c+1), ?_,fun w2 u hw2=> ⟨.map (es.push { key:=K x,val:=u,born:=c }) (c+1), ?_,es.push { key:=K x,val:=u,born:=c },c+1,by simp [lt_of_block hw2], ?_, ?_, ?_, ?_, ?_⟩⟩
  ·simp [Instr.mapEntry,run_underlying ht,run_getObj_at hb,hk.check,g1,hz,run_setObj_at' _ hb,goInt]
  ·have hlt:∀ e∈es.toList,e.born≠c:=fun e he=> by have:=h0 e he;omega
   have hidx:(es.push { key:=K x,val:=z,born:=c }).findIdx? (fun e=> ((e.born:Nat):Int)==((c:Nat):Int))=some es.size:=by
    rw [Array.findIdx?_push]
    have:es.findIdx? (fun e=> ((e.born:Nat):Int)==((c:Nat):Int))=none:=by
     rw [Array.findIdx?_eq_none_iff]
     intro e he
     have:=hlt e (by simpa using he)
     simp
     omega
    rw [this]
    simp
   have hmod:(es.push { key:=K x,val:=z,born:=c }).modify es.size (fun e=> { e with val:=u })=es.push { key:=K x,val:=u,born:=c }:=by
    apply Array.ext'
    rw [Array.toList_modify,Array.toList_push,Array.toList_push,←Array.length_toList,modify_last']
   simp [Instr.entryStore,run_getObj_at hw2,asInt,asIntOf,goInt,hidx,hmod,run_setObj_at' _ hw2]
  ·intro e he
   simp only [Array.toList_push,List.mem_append,List.mem_singleton] at he
   rcases he with he|rfl
   ·have:=h0 e he;omega
   ·dsimp only;omega
  ·intro e he
   simp only [Array.toList_push,List.mem_append,List.mem_singleton] at he
   rcases he with he|rfl
   ·exact h1 e he
   ·exact ⟨x,rfl⟩
  ·simp only [Array.toList_push,List.map_append,List.map_cons,List.map_nil]
   refine List.nodup_append.2 ⟨h2,by simp, ?_⟩
   intro a ha b' hb' e
   simp only [List.mem_singleton] at hb'
   obtain ⟨e1,he,rfl⟩:=List.mem_map.1 ha
   exact g2 e1 he (e.trans hb')
  ·intro e he y hy
   simp only [Array.toList_push,List.mem_append,List.mem_singleton] at he
   try dsimp only
   rcases he with he|rfl
   ·rw [if_neg (by rintro rfl;exact g2 e he hy)];exact h3 e he y hy
   ·rw [if_pos (hk.inj _ _ hy).symm]
  ·intro y v hv
   try dsimp only at hv
   split at hv
   ·rename_i e;subst e;exact ⟨{ key:=K y,val:=u,born:=c },by simp,rfl⟩
   ·obtain ⟨e1,m1,m2⟩:=h4 y v hv
    exact ⟨e1,by simp [m1],m2⟩
 ·have:=h3 e0 (List.mem_of_getElem? g2) x g3
  rw [hx] at this
  cases this
end
end Go.Q
namespace Go.Q
open Go.RowKit Go.Proofs
section
variable {w:World} {ow:Nat→Own} {x:Nat} {B:SB} {s:SSt}
set_option maxRecDepth 100000 in
set_option maxHeartbeats 2000000 in
theorem fill_none (q:Nat) (w:World):Calls Tryz.prog 185 #[ptr q, .slice none 0 0] w fun e w' => e= .returned (.tuple #[])∧Below w.heap.size w w' :=by
 go_enter Tryz.func185,Tryz.ntmps185
 go_wp2_with fail
 refine (sort0 0 _ (by omega) none 0 w).mono ?_;rintro e w1 ⟨rfl,hb1⟩
 go_wp2
 go_loopw [10] (fun s10 wr=> s10= .int .i64 0∧Below w.heap.size w wr) (fun _ _=> 0)
 case atStart=> exact ⟨rfl,hb1⟩
 case round=>
  obtain ⟨rfl,hb⟩:=hrel
  go_wp2
  go_end0
  exact ⟨rfl,hb⟩
set_option maxRecDepth 100000 in
set_option maxHeartbeats 2000000 in
theorem fill_one (h:SAt w ow x B s) {g c:Nat} (hg:g < s.G) (hc:c < s.C) (b cap:Nat) (id v r k:Int) (hs:s.qs g c= .e 0 0) (h0:0≤id) (h1:id < 65792) (he:REnt v r k) (hr:Row w b 4 (fl [.int .i64 id, .int .u64 v, .int .u32 r, .int .u32 k])) (hb:ow b= .no):
  Calls Tryz.prog 185 #[ptr (B.q g c),slc b 1 cap] w fun e w' => e= .returned (.tuple #[])∧Mod (fun b=> ow b= .q g c) w w' ∧∃ ow',(∀ b,b < w.heap.size→ow' b=ow b)∧SAt w' ow' x B { s with qs:=upd2 s.qs g c (.o (mxI 0 v) (0+k) id v r k) }:=by
 have HH:=Lib.hid (And.intro hs he)
 clear hs he
 go_enter Tryz.func185,Tryz.ntmps185
 go_wp2_with fail
 refine (sort0 1 _ (by omega) (some ⟨b,0,none⟩) cap w).mono ?_;rintro e w1 ⟨rfl,hb1⟩
 have n1:=Mod.of_below hb1 No
 have S1:=h.no n1
 have R1:=hr.mod n1 (fun h=> h)
 have z1:=n1.size
 go_wp2
 go_loopw [10] (fun s10 wr=> ∃ (i:Nat),s10= .int .i64 i∧((i=0∧wr=w1)∨(i=1∧Mod (fun b=> ow b= .q g c) w wr∧∃ ow',(∀ b,b < w.heap.size→ow' b=ow b)∧SAt wr ow' x B { s with qs:=upd2 s.qs g c (.o (mxI 0 v) (0+k) id v r k) }))) (fun s10 _=> 1 - (intOf s10).toNat)
 case atStart=> exact ⟨0,rfl, .inl ⟨rfl,rfl⟩⟩
 case round=>
  obtain ⟨i,rfl,⟨rfl,rfl⟩|⟨rfl,hm,hS⟩⟩:=hrel
  ·have r0:=R1.cL 0 _ (by omega) rfl
   have r1:=R1.cL 1 _ (by omega) rfl
   have r2:=R1.cL 2 _ (by omega) rfl
   have r3:=R1.cL 3 _ (by omega) rfl
   have lR:=R1.lt
   go_wp2_with fail
   refine (sEnter (S1.no ((Mod.refl No wr).alloc _)) hg hc 0 0 id v r k HH.out.1 h0 h1 HH.out.2 (by omega) (by omega)).mono ?_;rintro e w3 ⟨rfl,m3,S3⟩
   have mwW:Mod No w (wr.alloc (.cells #[.int .i64 id, .int .u64 v, .int .u32 r, .int .u32 k] 303)):=n1.alloc _
   have hz:=mwW.size
   have HS:=Lib.hid (And.intro S3 m3)
   clear S3 m3
   go_wp2
   obtain ⟨S3,m3⟩:=HS.out
   refine ⟨⟨1,by go_num, .inr ⟨rfl,Mod.trans (mwW.no _) m3 (fun _ _ h=> h),_,fun b hb=> ext_old (by omega),S3⟩⟩,by simp [intOf]⟩
  ·have HS:=Lib.hid (And.intro hm hS)
   clear hm hS
   go_wp2
   go_end0
   exact ⟨rfl,HS.out⟩
end
end Go.Q
