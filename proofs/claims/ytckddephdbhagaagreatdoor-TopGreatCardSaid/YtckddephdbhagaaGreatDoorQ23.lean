/- A part of the proof that TopGreat answers true: what some of the functions on its road compute. -/
import Derived.Test.YtckddephdbhagaaGreatDoorQ3
import Derived.Test.YtckddephdbhagaaGreatDoorQ19
import Derived.Test.YtckddephdbhagaaGreatDoorQ22
set_option linter.unusedVariables false
set_option linter.unusedSimpArgs false
namespace Go.Q
open Go.RowKit Go.Proofs
section
variable {w:World} {ow:Nat→Own} {x:Nat} {B:SB} {s:SSt}
set_option maxRecDepth 100000 in
set_option maxHeartbeats 1000000 in
theorem tick_do (h:SAt w ow x B s) (t:TSt) (c g d:Nat) (id k0 tk task group weight tO mask:Int) (ht:s.task=some t) (hid:t.id=id) (htg:t.group=g) (hc:c < s.C) (hg:g < s.G) (T:Tree s.G s.par s.wt) (hd:Dep s.par g d) (h0:1≤id) (h1:id < 65536) (hk0:1≤k0) (hk1:k0≤65536)
  (hcur:s.current c=id) (hclk:s.clocks c=0) (t1:1≤tk) (t2:tk≤1000000) (hw0:0≤s.work) (hw1:s.work≤1000000) (hd4:d≤4)
  (hq:∀ x m' k',chn s.par s.wt d g id k0 x=some (m',k')→s.qs x c= .o 0 k' m' 0 0 k'):
  Calls Tryz.prog 363 #[opv 5 c task group weight tO tk mask,ptr x] w fun e w' => e= .returned (.tuple #[.int .i64 id, .int .i64 0])∧Mod (fun b=> ow b≠ .no) w w' ∧∃ ow' wk,(∀ b,b < w.heap.size→ow' b=ow b)∧SAt w' ow' x B { s with clocks:=upd1 s.clocks c tk,work:=wk,qs:=tickQ s.par c tk d g s.qs }:=by
 obtain ⟨x0,x1,x2,x3,x4,x5,x6,x7,x8,x9⟩:=h.look
 obtain ⟨u0,u1,u2⟩:=h.cp hc
 rw [hclk] at u0
 rw [hcur] at u1
 have fu:=(h.1 .cb).2.free c
 have lu:=(h.1 .cb).2.lt
 have lx:=h.cx.2.lt
 have i0:(0:Int)≤c:=by omega
 have i1:(c:Int) < s.C:=by omega
 have hid0:(id==0)=false:=by simp;omega
 have dt1:decide (tk < 1)=false:=by simp;omega
 have dt2:decide (4294967295 < tk)=false:=by simp;omega
 have dt3:decide (281474976710656 - tk < 0)=false:=by simp;omega
 have HQ:=Lib.hid hq
 have HT:=Lib.hid (And.intro ht (And.intro hid (And.intro htg (And.intro hcur hclk))))
 clear hq ht hid htg hcur hclk
 go_enter Tryz.func363,Tryz.ntmps363
 go_upto_region 3 with fail
 go_quiet (fail)
 go_upto_region 5 with fail
 (refine wp_region_tail 15 (by kernel_rfl) (by kernel_rfl) ?_;simp only [List.take_succ_cons,List.take_zero,List.drop_succ_cons,List.drop_zero];repeat still_step);refine wpStill_nil ?_
 go_upto_region 6 with fail
 refine wp_world (fun W=> SAt W ow x B { s with clocks:=upd1 s.clocks c tk }∧Row W w.heap.size 8 (fl [.int .u8 5, .int .i64 c, .int .i64 task, .int .i64 group, .int .i64 weight, .int .i64 tO, .int .i64 tk, .int .u64 mask])∧Mod (fun b=> ow b≠ .no) w W) ?_ ?_
 ·have ma:=((Mod.refl No w).alloc (.cells #[.int .u8 5, .int .i64 c, .int .i64 task, .int .i64 group, .int .i64 weight, .int .i64 tO, .int .i64 tk, .int .u64 mask] 244)).drewN (nq+1)
  have Sa:=h.no ma
  refine ⟨Sa.setClk hc tk, ?_,Mod.trans (ma.no _) (Sa.modC c _) (fun _ _ h=> h)⟩
  exact Row.setOther (Row.drewN (row_newL w [_,_,_,_,_,_,_,_] _) _) (by show B.cb≠w.heap.size;omega) _
 intro W ⟨S1,O1,m1⟩
 have lO:=O1.lt
 clear x0 x1 x2 x3 x4 x5 x6 x7 x8 x9 u0 u1 u2 fu lu lx
 obtain ⟨x0,x1,x2,x3,x4,x5,x6,x7,x8,x9⟩:=S1.look
 obtain ⟨u0,u1,u2⟩:=S1.cp hc
 dsimp only at x4 u1
 rw [HT.out.2.2.2.1] at u1
 have o1:=O1.cL 1 _ (by omega) rfl
 have o6:=O1.cL 6 _ (by omega) rfl
 go_quiet (fail)
 have S1' :=S1.no ((Mod.refl No W).drewN nq)
 have hlk:(Instr.lookup 127 (.map (some B.tb)) (.int .i64 id) false).run Tryz.prog (W.drewN nq)= .ok (ptr B.tk) (W.drewN nq):=by
  have hT:=S1'.1 .tb
  simp only [Part,tmapv,HT.out.1] at hT
  refine (run_lookup (P:=Tryz.prog) Tryz.underlying127 Tryz.underlying3 (Tryz.zeroValue168 _) hT.2 id).trans ?_
  rw [HT.out.2.1]
  simp [lk]
 obtain ⟨p0,p1,p2,p3,p4,p5,p6,p7⟩:=S1.tp (t:=t) HT.out.1
 rw [HT.out.2.2.1] at p0
 have D1:=S1'.cx.2.lt
 have T1:=S1'
 have P1:=O1.drewN nq
 have m2:=m1.drewN nq
 have lt2:=(S1.1 .tk t HT.out.1).2.lt
 go_wp2
 clear x0 x1 x2 x3 x4 x5 x6 x7 x8 x9 u0 u1 u2 o1 o6 p0 p1 p2 p3 p4 p5 p6 p7 S1 S1' O1 m1 hlk
 go_loopw [7,8] (fun s7 s8 wr=> ∃ (dd gg:Nat) (m k:Int) (f:Nat→Nat→QSt) (ow' :Nat→Own) (wk:Int),s7= .int .i64 m∧s8= .int .i64 gg∧Dep s.par gg dd∧dd≤d∧gg≤g∧tickQ s.par c tk dd gg f=tickQ s.par c tk d g s.qs∧(∀ g',g' ≤gg→f g' c=s.qs g' c)∧chn s.par s.wt d g id k0 gg=some (m,k)∧0≤m∧m < 65792∧1≤k∧k≤65536∧0≤wk∧wk≤1000000+(d - dd:Nat)∧
   SAt wr ow' x B { s with clocks:=upd1 s.clocks c tk,work:=wk,qs:=f }∧Row wr w.heap.size 8 (fl [.int .u8 5, .int .i64 c, .int .i64 task, .int .i64 group, .int .i64 weight, .int .i64 tO, .int .i64 tk, .int .u64 mask])∧ow' w.heap.size= .no∧Mod (fun b=> ow b≠ .no) w wr∧(∀ b,b < w.heap.size→ow' b=ow b)) (fun _ v _=> (RowKit.intOf v).toNat)
 case atStart=>
  refine ⟨d,g,id,k0,s.qs,ow,s.work,rfl,rfl,hd,by omega,by omega,rfl,fun _ _=> rfl, ?_,by omega,by omega,hk0,hk1,hw0,by omega,T1,P1, ?_,m2,fun _ _=> rfl⟩
  ·cases d <;> simp [chn]
  ·exact Classical.byContradiction fun hh=> by have:=h.2 _ hh;omega
 case round=>
  obtain ⟨dd,gg,m,k,f,ow',wk,rfl,rfl,hD,hdd,hgg,hE,hf,hch,hm0,hm1,hk0',hk1',hwk0,hwk1,S3,O3,bn,M3,ho⟩:=hrel
  clear T1 P1 m2
  have hG:gg < s.G:=by omega
  have hfg:=hf gg (Nat.le_refl _)
  rw [HQ.out gg m k hch] at hfg
  have HE:=Lib.hid (And.intro hE (And.intro hf (And.intro hch hfg)))
  clear hE hf hch hfg
  have g256:(gg:Int) < 256:=by have:=T.g2;omega
  have x6:=S3.look.2.2.2.2.2.2.1
  obtain ⟨q0,q1⟩:=S3.qp (g:=gg) (c:=c) hG hc
  have o1:=O3.cL 1 _ (by omega) rfl
  have o6:=O3.cL 6 _ (by omega) rfl
  have lO3:=O3.lt
  have j0:(0:Int)≤gg:=by omega
  have j1:(gg:Int) < s.G:=by omega
  dsimp only at x6 q0 q1
  go_upto_region 12 with fail
  refine wp_region_chain (fun w' => w'.cell? ⟨x,6,none⟩=some (slc B.qo s.G B.qcap)∧w'.cell? ⟨B.qo,gg,none⟩=some (slc (B.qi gg) s.C s.C)∧w'.cell? ⟨B.qi gg,c,none⟩=some (ptr (B.q gg c))∧w'.cell? ⟨w.heap.size,1,none⟩=some (.int .i64 c)∧w'.cell? ⟨w.heap.size,6,none⟩=some (.int .i64 tk)) [18] [] [] (rds [0,1,2,3,4,5,6,7,8,9,10,11,12,13,14,15,16,17] (.ef 18 .nil)) (by kernel_rfl) (by kernel_rfl) ⟨x6,q0,q1,o1,o6⟩ ?_
  intro O hO
  have HO:=Lib.hid hO
  clear hO
  simp only [rds]
  (repeat (first|(refine lxp HO (v:=?_) (fun w'=> ?_) ?_;rotate_left;(focus (go_simp;(try exact rfl);done));try go_simp)|(refine lxr HO (v:=?_) (fun w' hC'=> ?_) ?_;rotate_left;(focus (obtain ⟨c1,c2,c3,c4,c5⟩:=hC';go_simp;(try exact rfl);done));try go_simp)|(refine lxo HO ?_;try go_simp)))
  refine lxe HO (fun Kx hKx=> ?_)
  go_simp
  refine (sCharge (S3.no (Mod.refl No wr).drew) (g:=gg) (c:=c) hG hc 0 k m 0 0 k tk HE.out.2.2.2 hm0 hm1 ⟨hk0',hk1',by omega,by omega,by omega,by omega⟩ (by omega) (by omega) t2 (by omega) (by omega)).mono ?_;rintro e w5 ⟨rfl,m5,S5⟩
  have O5:=O3.mod (Mod.trans ((Mod.refl No wr).drew.no (fun b=> ow' b= .q gg c)) m5 (fun _ _ h=> h)) (by rw [bn];simp)
  have z6:=S5.look.2.2.2.2.2.2.1
  obtain ⟨z0,z1⟩:=S5.qp (g:=gg) (c:=c) hG hc
  refine hKx _ _ (.inr ⟨z6,z0,z1,O5.cL 1 _ (by omega) rfl,O5.cL 6 _ (by omega) rfl⟩) ?_
  clear hKx Kx x6 q0 q1 o1 o6
  refine wpL_nil ?_
  have x9:=S5.look.2.2.2.2.2.2.2.2.2
  have f9:=S5.cx.2.free 9
  have lx5:=S5.cx.2.lt
  dsimp only at x9
  have M5:Mod (fun b=> ow b≠ .no) w w5:=Mod.trans M3.drew m5 (fun b hb e=> by show ow b≠ .no;rw [←ho b hb,e];simp)
  have ob5:ext ow' wr.drew w5 (.q gg c) w.heap.size= .no:=by rw [ext_old (by simpa using lO3),bn]
  have zw:=m5.size
  go_upto_region 14 with fail
  refine wp_world (fun W=> SAt W (ext ow' wr.drew w5 (.q gg c)) x B { s with clocks:=upd1 s.clocks c tk,qs:=upd2 f gg c (chargeQ tk (f gg c)),work:=wk+1 }∧Row W w.heap.size 8 (fl [.int .u8 5, .int .i64 c, .int .i64 task, .int .i64 group, .int .i64 weight, .int .i64 tO, .int .i64 tk, .int .u64 mask])∧Mod (fun b=> ow b≠ .no) w W∧W.heap.size=w5.heap.size) ?_ ?_
  ·have S6:=S5.setWork (wk+1)
   have hx:=S5.cx.1
   refine ⟨?_,O5.setOther (by rintro rfl;rw [ob5] at hx;simp at hx) _, ?_,by simp⟩
   ·have e1:chargeQ tk (f gg c)= .o (mxI 0 (0+(tk * 1048576+0) / k)) k m (0+(tk * 1048576+0) / k) ((tk * 1048576+0) % k) k:=by rw [HE.out.2.2.2];rfl
    rw [e1]
    exact S6
   ·refine Mod.trans M5 ((Mod.refl (fun b=> b=x) w5).setCell (p:=⟨x,9,none⟩) (.inr rfl) _) ?_
    intro b hb e
    show ow b≠ .no
    rw [show b=x from e] at hb ⊢
    rw [ext_old (by simp;omega),ho _ hb] at hx
    rw [hx];simp
  intro V6 ⟨S6,O6,M6,z6'⟩
  clear x9 f9 lx5 S5 O5 M5 S3 O3 M3 z6 z0 z1
  by_cases hg0:gg=0
  ·subst hg0
   have hd0:dd=0:=by cases dd with
    |zero=> rfl
    |succ n=> exact absurd hD.up'.1 (by omega)
   subst hd0
   go_wp2
   go_ret2
   refine ⟨rfl,M6,ext ow' wr.drew w5 (.q 0 c),wk+1,fun b hb=> by rw [ext_old (by simp;omega),ho b hb], ?_⟩
   rw [←HE.out.1]
   exact S6
  ·have g0:(0:Int) < gg:=by omega
   have k3:((gg:Int)==0)=false:=by simp;omega
   go_wp2_with fail
   refine (sParent S6 (g:=gg) _ rfl hG).mono ?_;rintro e w7 ⟨rfl,rfl⟩
   obtain ⟨n,rfl⟩:∃ n,dd=n+1:=by cases dd with
    |zero=> exact absurd hD.zero hg0
    |succ n=> exact ⟨n,rfl⟩
   obtain ⟨p0,p1,p2⟩:=hD.up'
   have p3:=(T.parOk gg p0 hG).2
   have wk3:=T.wtOk gg hG
   go_wp2
   go_roundw
   case measure=>
    simp only [RowKit.intOf]
    omega
   case rel=>
    refine ⟨n,(s.par gg).toNat,65536+gg,s.wt gg,upd2 f gg c (chargeQ tk (f gg c)),ext ow' wr.drew w5 (.q gg c),wk+1,congrArg (Value.int .i64) (by first|rfl|(rw [IntKind.wrap_i64];omega)), ?_,p2,by omega,by omega, ?_, ?_, ?_,by omega,by omega,wk3.1,wk3.2,by omega,by omega,S6,O6,ob5,M6,fun b hb=> by rw [ext_old (by simp;omega),ho b hb]⟩
    ·exact congrArg (Value.int .i64) (Int.toNat_of_nonneg p1).symm
    ·exact HE.out.1
    ·intro g' hg'
     rw [upd2_other _ _ _ _ _ _ (by omega)]
     exact HE.out.2.1 g' (by omega)
    ·exact chn_par (G:=s.G) T.parOk d g id k0 gg m k hg hd p0 HE.out.2.2.1
end
end Go.Q
namespace Go.Q
open Go.RowKit Go.Proofs
section
variable {w:World} {ow:Nat→Own} {x:Nat} {B:SB} {s:SSt}
set_option maxRecDepth 100000 in
theorem first_ok (h:SAt w ow x B s) (c g d:Nat) (id k:Int) (hc:c < s.C) (hg:g < s.G) (T:Tree s.G s.par s.wt) (hd:Dep s.par g d) (h0:1≤id) (h1:id < 65536)
  (hq:∀ x m' k',chn s.par s.wt d g id k x=some (m',k')→∃ fl ld v r kk,s.qs x c= .o fl ld m' v r kk):
  Calls Tryz.prog 368 #[ptr x, .int .i64 c] w fun e w' => ∃ a:Int,e= .returned (.tuple #[.int .i64 id, .int .i64 a])∧0≤a∧a≤256∧Below w.heap.size w w' :=by
 have HQ:=Lib.hid hq
 clear hq
 have g2:=T.g2
 have i0:(0:Int)≤c:=by omega
 have i1:(c:Int) < s.C:=by omega
 have lx:=h.cx.2.lt
 go_enter Tryz.func368,Tryz.ntmps368
 go_wp2
 go_loopw [6,7] (fun s6 s7 wr=> ∃ (y a:Nat),s6= .int .i64 y∧s7= .int .i64 a∧a≤y∧y≤g∧chn s.par s.wt d g id k y≠none∧Below w.heap.size w wr) (fun s6 _ _=> s.G - (RowKit.intOf s6).toNat)
 case atStart=>
  obtain ⟨m',k',hr⟩:=chn_root (wt:=s.wt) d g id k hd
  exact ⟨0,0,rfl,rfl,by omega,by omega,by rw [hr];simp,belowX⟩
 case round=>
  obtain ⟨y,a,rfl,rfl,hay,hyg,hch,hb⟩:=hrel
  have S1:=h.no (Mod.trans (Mod.refl No w) (Mod.of_below hb No) (fun _ _ h=> h))
  have hy:y < s.G:=by omega
  obtain ⟨q0,q1⟩:=S1.qp (g:=y) (c:=c) hy hc
  have x6:=S1.look.2.2.2.2.2.2.1
  have j0:(0:Int)≤y:=by omega
  have j1:(y:Int) < s.G:=by omega
  obtain ⟨m',k',hm⟩:∃ m' k',chn s.par s.wt d g id k y=some (m',k'):=by
   cases hh:chn s.par s.wt d g id k y with
   |none=> exact absurd hh hch
   |some p=> exact ⟨p.1,p.2,rfl⟩
  obtain ⟨fl',ld,v,r,kk,hqs⟩:=HQ.out y m' k' hm
  have hmem:=chn_mem (G:=s.G) T.parOk d g id k y m' k' hg hd hm
  have HM:=Lib.hid hm
  have HH:=Lib.hid hmem
  have HS:=Lib.hid hqs
  clear hm hqs hch hmem
  go_wp2_with fail
  refine (sFirst_one S1 (g:=y) (c:=c) hy hc fl' ld m' v r kk HS.out).mono ?_;rintro e w3 ⟨rfl,hb3⟩
  have hbb:Below w.heap.size w w3:=hb.trans (hb3.mono hb.size)
  clear x6 q0 q1
  rcases HH.out with ⟨e1,e2,e3⟩|⟨e0,h',e1,e2,e3,e4,e5,m2,k2,e6⟩
  ·subst e2
   have h65:m' < 65536:=h1
   go_wp2
   go_ret2
   exact ⟨_,rfl,by omega,by omega,hbb⟩
  ·have h65:65536≤m' :=by omega
   have h66:m' ≤66000:=by omega
   have E:=Lib.hid (And.intro e2 (And.intro e3 (And.intro e5 e6)))
   clear e2 e3 e4 e5 e6
   go_wp2
   go_roundw
   case rel=>
    obtain ⟨e2,e3,e5,e6⟩:=E.out
    have e7:=T.parOk h' e1 (by omega)
    exact ⟨h',a+1,by go_num,by go_num,by omega,by omega,by rw [e6];simp,hbb⟩
   case measure=>
    obtain ⟨e2,e3,e5,e6⟩:=E.out
    have e7:=T.parOk h' e1 (by omega)
    simp only [RowKit.intOf]
    omega
set_option maxRecDepth 100000 in
theorem pick_do (h:SAt w ow x B s) (c g d:Nat) (id k task group weight tO ticks mask:Int) (hc:c < s.C) (hg:g < s.G) (T:Tree s.G s.par s.wt) (hd:Dep s.par g d) (h0:1≤id) (h1:id < 65536)
  (hq:∀ x m' k',chn s.par s.wt d g id k x=some (m',k')→∃ fl ld v r kk,s.qs x c= .o fl ld m' v r kk):
  Calls Tryz.prog 367 #[opv 6 c task group weight tO ticks mask,ptr x] w fun e w' => e= .returned (.tuple #[.int .i64 id, .int .i64 0])∧Mod (fun b=> ow b≠ .no) w w' ∧∃ wk,SAt w' ow x B { s with current:=upd1 s.current c id,work:=wk }:=by
 have HQ:=Lib.hid hq
 clear hq
 have lx:=h.cx.2.lt
 have i0:(0:Int)≤c:=by omega
 have i1:(c:Int) < s.C:=by omega
 go_enter Tryz.func367,Tryz.ntmps367
 go_wp2_with fail
 refine (first_ok (h.no ((Mod.refl No w).alloc _)) c g d id k hc hg T hd h0 h1 HQ.out).mono ?_;rintro e w1 ⟨a,rfl,a0,a1,hb1⟩
 have m1:Mod No w w1:=Mod.trans ((Mod.refl No w).alloc _) (Mod.of_below hb1 No) (fun _ _ h=> h)
 have S1:=h.no m1
 have O1:Row w1 w.heap.size 8 (fl [.int .u8 6, .int .i64 c, .int .i64 task, .int .i64 group, .int .i64 weight, .int .i64 tO, .int .i64 ticks, .int .u64 mask]):=Row.below (row_newL w [_,_,_,_,_,_,_,_] _) hb1 (by simp)
 have o1:=O1.cL 1 _ (by omega) rfl
 have lo:=O1.lt
 obtain ⟨x0,x1,x2,x3,x4,x5,x6,x7,x8,x9⟩:=S1.look
 obtain ⟨u0,u1,u2⟩:=S1.cp hc
 have fu:=(S1.1 .ub).2.free c
 have lu:=(S1.1 .ub).2.lt
 go_upto_region 2 with fail
 (refine wp_region_tail 9 (by kernel_rfl) (by kernel_rfl) ?_;simp only [List.take_succ_cons,List.take_zero,List.drop_succ_cons,List.drop_zero];repeat still_step);refine wpStill_nil ?_
 have S2:=(S1.setCur hc id).no (Mod.refl No _).drew
 have m2:=Mod.trans (m1.no (fun b=> ow b≠ .no)) (S1.modU c (.int .i64 id)).drew (fun _ _ h=> h)
 have lx2:=S2.cx.2.lt
 have x9' :=S2.look.2.2.2.2.2.2.2.2.2
 have f9:=S2.cx.2.free 9
 go_wp2
 go_ret2
 exact ⟨rfl,Mod.trans m2 (S2.modX 9 _) (fun _ _ h=> h),a,S2.setWork a⟩
end
end Go.Q
namespace Go.Q
open Go.RowKit Go.Proofs
section
variable {w:World} {ow:Nat→Own} {x:Nat} {B:SB} {s:SSt}
set_option maxRecDepth 100000 in
set_option maxHeartbeats 1000000 in
theorem Do_pick (h:SAt w ow x B s) (c g d:Nat) (id k task group weight tO ticks mask:Int) (hc:c < s.C) (hg:g < s.G) (T:Tree s.G s.par s.wt) (hd:Dep s.par g d) (h0:1≤id) (h1:id < 65536)
  (hq:∀ x m' k',chn s.par s.wt d g id k x=some (m',k')→∃ fl ld v r kk,s.qs x c= .o fl ld m' v r kk):
  Calls Tryz.prog 22 #[ptr x,opv 6 c task group weight tO ticks mask] w fun e w' => e= .returned (.tuple #[.int .i64 id, .int .i64 0])∧Mod (fun b=> ow b≠ .no) w w' ∧∃ wk,SAt w' ow x B { s with current:=upd1 s.current c id,work:=wk }:=by
 have hta:∀ W v,(Instr.typeAssert (.iface 245 v) 145 148 true).run Tryz.prog W= .ok (.tuple #[.iface 245 v, .bool true]) W:=fun W v=> by kernel_rfl
 have hme1:∀ W,(method 562 245 (opv 6 c task group weight tO ticks mask) "quantum/sched.check").run Tryz.prog W= .ok (351,opv 6 c task group weight tO ticks mask) W:=fun W=> by kernel_rfl
 have hme2:∀ W,(method 562 245 (opv 6 c task group weight tO ticks mask) "quantum/sched.do").run Tryz.prog W= .ok (367,opv 6 c task group weight tO ticks mask) W:=fun W=> by kernel_rfl
 have hC0:0 < s.C:=by omega
 have i0:(0:Int)≤c:=by omega
 have i1:(c:Int) < s.C:=by omega
 have S0:=h.no ((Mod.refl No w).alloc (.cells #[.int .u8 6, .int .i64 c, .int .i64 task, .int .i64 group, .int .i64 weight, .int .i64 tO, .int .i64 ticks, .int .u64 mask] 58))
 have lx:=S0.cx.2.lt
 have x9:=S0.look.2.2.2.2.2.2.2.2.2
 have f9:=S0.cx.2.free 9
 have HQ:=Lib.hid hq
 clear hq
 go_enter Tryz.func22,Tryz.ntmps22
 go_wp2_with fail
 refine (schedSome x _ s.C B.ccap hC0 _ S0.look.2.2.2.1).mono ?_;rintro e w1 ⟨rfl,rfl⟩
 have S1:=S0.setWork 0
 have M1:=Mod.trans (((Mod.refl No w).alloc (.cells #[.int .u8 6, .int .i64 c, .int .i64 task, .int .i64 group, .int .i64 weight, .int .i64 tO, .int .i64 ticks, .int .u64 mask] 58)).no (fun b=> ow b≠ .no)) (S0.modX 9 (.int .i64 0)) (fun _ _ h=> h)
 go_wp2_with fail
 refine (kind_pick c task group weight tO ticks mask _).mono ?_;rintro e w2 ⟨rfl,hb2⟩
 have m2:=Mod.of_below hb2 No
 have S2:=S1.no m2
 go_wp2_with fail
 refine (check_cpu x s.C B.ccap _ 6 c task group weight tO ticks mask i0 i1 _ S2.cx.2.lt S2.look.2.2.2.1).mono ?_;rintro e w3 ⟨rfl,hb3⟩
 have m3:=Mod.of_below hb3 No
 have S3:=S2.no m3
 have M3:=Mod.trans (Mod.trans M1 (m2.no _) (fun _ _ h=> h)) (m3.no _) (fun _ _ h=> h)
 go_wp2_with fail
 refine (pick_do S3 c g d id k task group weight tO ticks mask hc hg T hd h0 h1 HQ.out).mono ?_;rintro e w4 ⟨rfl,m4,wk,S4⟩
 go_wp2
 go_ret2
 exact ⟨rfl,Mod.trans M3 m4 (fun _ _ h=> h),wk,S4⟩
set_option maxRecDepth 100000 in
set_option maxHeartbeats 1000000 in
theorem Do_tick (h:SAt w ow x B s) (t:TSt) (c g d:Nat) (id k0 ticks task group weight tO mask:Int) (ht:s.task=some t) (hid:t.id=id) (htg:t.group=g) (hc:c < s.C) (hg:g < s.G) (T:Tree s.G s.par s.wt) (hd:Dep s.par g d) (h0:1≤id) (h1:id < 65536) (hk0:1≤k0) (hk1:k0≤65536)
  (hcur:s.current c=id) (hclk:s.clocks c=0) (t1:1≤ticks) (t2:ticks≤1000000) (hd4:d≤4)
  (hq:∀ x m' k',chn s.par s.wt d g id k0 x=some (m',k')→s.qs x c= .o 0 k' m' 0 0 k'):
  Calls Tryz.prog 22 #[ptr x,opv 5 c task group weight tO ticks mask] w fun e w' => e= .returned (.tuple #[.int .i64 id, .int .i64 0])∧Mod (fun b=> ow b≠ .no) w w' ∧∃ ow' wk,(∀ b,b < w.heap.size→ow' b=ow b)∧SAt w' ow' x B { s with clocks:=upd1 s.clocks c ticks,work:=wk,qs:=tickQ s.par c ticks d g s.qs }:=by
 have hta:∀ W v,(Instr.typeAssert (.iface 244 v) 145 148 true).run Tryz.prog W= .ok (.tuple #[.iface 244 v, .bool true]) W:=fun W v=> by kernel_rfl
 have hme1:∀ W,(method 562 244 (opv 5 c task group weight tO ticks mask) "quantum/sched.check").run Tryz.prog W= .ok (351,opv 5 c task group weight tO ticks mask) W:=fun W=> by kernel_rfl
 have hme2:∀ W,(method 562 244 (opv 5 c task group weight tO ticks mask) "quantum/sched.do").run Tryz.prog W= .ok (363,opv 5 c task group weight tO ticks mask) W:=fun W=> by kernel_rfl
 have hC0:0 < s.C:=by omega
 have i0:(0:Int)≤c:=by omega
 have i1:(c:Int) < s.C:=by omega
 have S0:=h.no ((Mod.refl No w).alloc (.cells #[.int .u8 5, .int .i64 c, .int .i64 task, .int .i64 group, .int .i64 weight, .int .i64 tO, .int .i64 ticks, .int .u64 mask] 58))
 have lx:=S0.cx.2.lt
 have x9:=S0.look.2.2.2.2.2.2.2.2.2
 have f9:=S0.cx.2.free 9
 have HQ:=Lib.hid hq
 clear hq
 go_enter Tryz.func22,Tryz.ntmps22
 go_wp2_with fail
 refine (schedSome x _ s.C B.ccap hC0 _ S0.look.2.2.2.1).mono ?_;rintro e w1 ⟨rfl,rfl⟩
 have S1:=S0.setWork 0
 have M1:=Mod.trans (((Mod.refl No w).alloc (.cells #[.int .u8 5, .int .i64 c, .int .i64 task, .int .i64 group, .int .i64 weight, .int .i64 tO, .int .i64 ticks, .int .u64 mask] 58)).no (fun b=> ow b≠ .no)) (S0.modX 9 (.int .i64 0)) (fun _ _ h=> h)
 go_wp2_with fail
 refine (kind_tick c task group weight tO ticks mask _).mono ?_;rintro e w2 ⟨rfl,hb2⟩
 have m2:=Mod.of_below hb2 No
 have S2:=S1.no m2
 go_wp2_with fail
 refine (check_cpu x s.C B.ccap _ 5 c task group weight tO ticks mask i0 i1 _ S2.cx.2.lt S2.look.2.2.2.1).mono ?_;rintro e w3 ⟨rfl,hb3⟩
 have m3:=Mod.of_below hb3 No
 have S3:=S2.no m3
 have M3:=Mod.trans (Mod.trans M1 (m2.no _) (fun _ _ h=> h)) (m3.no _) (fun _ _ h=> h)
 go_wp2_with fail
 refine (tick_do S3 t c g d id k0 ticks task group weight tO mask ht hid htg hc hg T hd h0 h1 hk0 hk1 hcur hclk t1 t2 (by show (0:Int)≤0;omega) (by show (0:Int)≤1000000;omega) hd4 HQ.out).mono ?_;rintro e w4 ⟨rfl,m4,ow4,wk,ho4,S4⟩
 go_wp2
 go_ret2
 exact ⟨rfl,Mod.trans M3 m4 (fun _ _ h=> h),ow4,wk,fun b hb=> ho4 b (by have:=M3.size;omega),S4⟩
set_option maxRecDepth 100000 in
set_option maxHeartbeats 1000000 in
theorem Do_spawn (h:SAt w ow x B s) (task weight tO ticks mask:Int) (group c d:Nat) (ht:s.task=none) (hC:s.C=64) (hc:c < s.C) (hg:group < s.G) (T:Tree s.G s.par s.wt) (hd:Dep s.par group d)
  (hq:∀ g' c',s.qs g' c' = .e 0 0) (hcr:0≤s.cr) (haz:∀ g c,s.aside g c=(0,0)) (h0:1≤task) (h1:task < 65536) (hk0:1≤weight) (hk1:weight≤65536) (hm1:1≤mask) (hm2:mask < 18446744073709551616) (hm3:bits BinOp.and IntKind.u64 (mask / 2 ^ c) 1=1) (hd4:d≤4) (hl:∀ c,s.loads c=0):
  Calls Tryz.prog 22 #[ptr x,opv 1 c task group weight tO ticks mask] w fun e w' => e= .returned (.tuple #[.int .i64 0, .int .i64 0])∧Mod (fun b=> ow b≠ .no) w w' ∧∃ ow' B',(∀ b,b < w.heap.size→ow' b=ow b)∧
   SAt w' ow' x B' { s with loads:=upd1 s.loads c weight,work:=d+1,task:=some { id:=task,group:=group,weight:=weight,cpu:=c,mask:=mask,ready:=true,v:=0,r:=0,k:=weight },qs:=entQ s.par s.wt s.aside c d group task 0 0 weight s.qs }:=by
 have hta:∀ W v,(Instr.typeAssert (.iface 238 v) 145 148 true).run Tryz.prog W= .ok (.tuple #[.iface 238 v, .bool true]) W:=fun W v=> by kernel_rfl
 have hme1:∀ W,(method 562 238 (opv 1 c task group weight tO ticks mask) "quantum/sched.check").run Tryz.prog W= .ok (351,opv 1 c task group weight tO ticks mask) W:=fun W=> by kernel_rfl
 have hme2:∀ W,(method 562 238 (opv 1 c task group weight tO ticks mask) "quantum/sched.do").run Tryz.prog W= .ok (352,opv 1 c task group weight tO ticks mask) W:=fun W=> by kernel_rfl
 have hC0:0 < s.C:=by omega
 have i0:(0:Int)≤c:=by omega
 have i1:(c:Int) < s.C:=by omega
 have S0:=h.no ((Mod.refl No w).alloc (.cells #[.int .u8 1, .int .i64 c, .int .i64 task, .int .i64 group, .int .i64 weight, .int .i64 tO, .int .i64 ticks, .int .u64 mask] 58))
 have lx:=S0.cx.2.lt
 have x9:=S0.look.2.2.2.2.2.2.2.2.2
 have f9:=S0.cx.2.free 9
 have HQ:=Lib.hid hq
 clear hq
 go_enter Tryz.func22,Tryz.ntmps22
 go_wp2_with fail
 refine (schedSome x _ s.C B.ccap hC0 _ S0.look.2.2.2.1).mono ?_;rintro e w1 ⟨rfl,rfl⟩
 have S1:=S0.setWork 0
 have M1:=Mod.trans (((Mod.refl No w).alloc (.cells #[.int .u8 1, .int .i64 c, .int .i64 task, .int .i64 group, .int .i64 weight, .int .i64 tO, .int .i64 ticks, .int .u64 mask] 58)).no (fun b=> ow b≠ .no)) (S0.modX 9 (.int .i64 0)) (fun _ _ h=> h)
 go_wp2_with fail
 refine (kind_spawn c task group weight tO ticks mask _).mono ?_;rintro e w2 ⟨rfl,hb2⟩
 have m2:=Mod.of_below hb2 No
 have S2:=S1.no m2
 go_wp2_with fail
 refine (check_cpu x s.C B.ccap _ 1 c task group weight tO ticks mask i0 i1 _ S2.cx.2.lt S2.look.2.2.2.1).mono ?_;rintro e w3 ⟨rfl,hb3⟩
 have m3:=Mod.of_below hb3 No
 have S3:=S2.no m3
 have M3:=Mod.trans (Mod.trans M1 (m2.no _) (fun _ _ h=> h)) (m3.no _) (fun _ _ h=> h)
 go_wp2_with fail
 refine (spawn_do w3 ow x B { s with work:=0 } task weight tO ticks mask group c d S3 ht hC hc hg T hd HQ.out hcr haz h0 h1 hk0 hk1 hm1 hm2 hm3 hd4 hl rfl).mono ?_;rintro e w4 ⟨rfl,m4,ow4,B4,ho4,S4⟩
 go_wp2
 go_ret2
 exact ⟨rfl,Mod.trans M3 m4 (fun _ _ h=> h),ow4,B4,fun b hb=> ho4 b (by have:=M3.size;omega),S4⟩
end
end Go.Q
namespace Go.Q
open Go.RowKit Go.Proofs
section
variable {w:World} {ow:Nat→Own} {x:Nat} {B:SB} {s:SSt} {D:DB} {nx:Int} {c u:Nat}
set_option maxRecDepth 100000 in
set_option maxHeartbeats 4000000 in
theorem drv_do1 (h:SAt w ow x B s) (hd:DAt w ow x D nx c u) (hu:u < 4) (hc:c < 64) (n0:1≤nx) (n1:nx≤1000) (P:SSt→Prop) (task group weight tO ticks mask got:Int)
  (hDo:∀ W,Mod No w W→Calls Tryz.prog 22 #[ptr x,opv 1 c task group weight tO ticks mask] W fun e w' => e= .returned (.tuple #[.int .i64 got, .int .i64 0])∧Mod (fun b=> ow b≠ .no) W w' ∧∃ ow' B' s',(∀ b,b < W.heap.size→ow' b=ow b)∧SAt w' ow' x B' s' ∧s'.C=64∧P s'):
  Calls Tryz.prog 24 #[ptr D.d,opv 1 c task group weight tO ticks mask] w (DrvPost w ow x D nx c u P (fun tm=> (evl nx tm c 1 task group 0 weight 0 mask 0))):=by
 have HD:=Lib.hid hDo
 clear hDo
 have i0:(0:Int)≤c:=by omega
 have i1:(c:Int) < 64:=by omega
 have ldd:=hd.lt D.d (by simp [DOwn])
 go_enter Tryz.func24,Tryz.ntmps24
 go_upto_region 1 with fail
 refine wp_world (fun V=> Mod No w V∧Row V w.heap.size 8 (fl [.int .u8 1, .int .i64 c, .int .i64 task, .int .i64 group, .int .i64 weight, .int .i64 tO, .int .i64 ticks, .int .u64 mask])∧Row V (w.heap.size+1) 11 (fl [.int .i64 0, .int .i64 0, .int .u8 0, .int .u8 0, .int .i64 0, .int .i64 0, .int .i64 0, .int .i64 0, .int .i64 0, .int .u64 0, .int .i64 0])) ⟨((Mod.refl No w).alloc _).alloc _,(row_newL w [_,_,_,_,_,_,_,_] _).alloc _,row_newL' _ _ [_,_,_,_,_,_,_,_,_,_,_] _ (by simp)⟩ ?_
 intro V ⟨mV,OV,ZV⟩
 have dV:DAt V ow x D nx c u:=hd.mod mV (fun _ _ h=> h) hd.own
 have zV:=mV.size
 have lZ:=ZV.lt
 have d0:=dV.row.cL 0 _ (by omega) rfl
 have d1:=dV.row.cL 1 _ (by omega) rfl
 have d3:=dV.row.cL 3 _ (by omega) rfl
 have p0:=OV.cL 0 _ (by omega) rfl
 have p1:=OV.cL 1 _ (by omega) rfl
 have p2:=OV.cL 2 _ (by omega) rfl
 have p3:=OV.cL 3 _ (by omega) rfl
 have p4:=OV.cL 4 _ (by omega) rfl
 have p5:=OV.cL 5 _ (by omega) rfl
 have p6:=OV.cL 6 _ (by omega) rfl
 have p7:=OV.cL 7 _ (by omega) rfl
 have lO:=OV.lt
 have ldV:=dV.row.lt
 go_wp2_with fail
 refine (drvNone D.d 64 D.rcap _ (by omega) _ d3).mono ?_;rintro e w1 ⟨rfl,rfl⟩
 go_wp2_with fail
 refine (drvCpu1 D.d 1 c task group weight tO ticks mask (by decide) V).mono ?_;rintro e w1 ⟨rfl,hb1⟩
 have n1V:=Mod.of_below hb1 No
 have m1:Mod No w w1:=Mod.trans mV n1V (fun _ _ h=> h)
 have O1:=OV.mod n1V (fun h=> h)
 have Z1:=ZV.mod n1V (fun h=> h)
 have D1:DAt w1 ow x D nx c u:=dV.mod n1V (fun _ _ h=> h) hd.own
 have z1:=n1V.size
 clear d0 d1 d3 p0 p1 p2 p3 p4 p5 p6 p7 lO ldV dV OV ZV n1V hb1 mV
 go_upto_region 6 with fail
 have cOf:∀ W,DAt W ow x D nx c u→Row W w.heap.size 8 (fl [.int .u8 1, .int .i64 c, .int .i64 task, .int .i64 group, .int .i64 weight, .int .i64 tO, .int .i64 ticks, .int .u64 mask])→W.cell? ⟨D.d,0,none⟩=some (ptr x)∧W.cell? ⟨w.heap.size,0,none⟩=some (.int .u8 1)∧W.cell? ⟨w.heap.size,1,none⟩=some (.int .i64 c)∧W.cell? ⟨w.heap.size,2,none⟩=some (.int .i64 task)∧W.cell? ⟨w.heap.size,3,none⟩=some (.int .i64 group)∧W.cell? ⟨w.heap.size,4,none⟩=some (.int .i64 weight)∧W.cell? ⟨w.heap.size,5,none⟩=some (.int .i64 tO)∧W.cell? ⟨w.heap.size,6,none⟩=some (.int .i64 ticks)∧W.cell? ⟨w.heap.size,7,none⟩=some (.int .u64 mask):=fun W hD hO=>
  ⟨hD.row.cL 0 _ (by omega) rfl,hO.cL 0 _ (by omega) rfl,hO.cL 1 _ (by omega) rfl,hO.cL 2 _ (by omega) rfl,hO.cL 3 _ (by omega) rfl,hO.cL 4 _ (by omega) rfl,hO.cL 5 _ (by omega) rfl,hO.cL 6 _ (by omega) rfl,hO.cL 7 _ (by omega) rfl⟩
 refine wp_region_chain (fun W=> W.cell? ⟨D.d,0,none⟩=some (ptr x)∧W.cell? ⟨w.heap.size,0,none⟩=some (.int .u8 1)∧W.cell? ⟨w.heap.size,1,none⟩=some (.int .i64 c)∧W.cell? ⟨w.heap.size,2,none⟩=some (.int .i64 task)∧W.cell? ⟨w.heap.size,3,none⟩=some (.int .i64 group)∧W.cell? ⟨w.heap.size,4,none⟩=some (.int .i64 weight)∧W.cell? ⟨w.heap.size,5,none⟩=some (.int .i64 tO)∧W.cell? ⟨w.heap.size,6,none⟩=some (.int .i64 ticks)∧W.cell? ⟨w.heap.size,7,none⟩=some (.int .u64 mask)) [5] [] [] (rds [0,1,2,3,4] (.ef 5 (rds [6,7,8,9,10] .nil))) (by kernel_rfl) (by kernel_rfl) (cOf _ (D1.mod (Mod.refl No w1).drew (fun _ _ h=> h) hd.own) O1.drew) ?_
 intro OO hO
 have HO:=Lib.hid hO
 clear hO
 simp only [rds]
 have lO:=O1.lt
 have ld:=D1.row.lt
 (repeat (first|(refine lxp HO (v:=?_) (fun w'=> ?_) ?_;rotate_left;(focus (go_simp;(try exact rfl);done));try go_simp)|(refine lxr HO (v:=?_) (fun w' hC'=> ?_) ?_;rotate_left;(focus (obtain ⟨c1,c2,c3,c4,c5,c6,c7,c8,c9⟩:=hC';go_simp;(try exact rfl);done));try go_simp)|(refine lxo HO ?_;try go_simp)))
 refine lxe HO (fun Kx hKx=> ?_)
 go_simp
 refine (HD.out _ m1.drew).mono ?_;rintro e w2 ⟨rfl,m2,ow2,B2,s2,ho2,S2,eC2,hP2⟩
 have hno:∀ b,w.heap.size≤b→ow b= .no:=fun b hb=> Classical.byContradiction fun hh=> by have:=h.2 b hh;omega
 have O2:=O1.drew.mod m2 (by show ¬ow w.heap.size≠ .no;rw [hno _ (Nat.le_refl _)];simp)
 have Z2:=Z1.drew.mod m2 (by show ¬ow (w.heap.size+1)≠ .no;rw [hno _ (by omega)];simp)
 have D2o:DAt w2 ow x D nx c u:=(D1.mod (Mod.refl No w1).drew (fun _ _ h=> h) hd.own).mod m2 (fun b hb=> by rw [hd.own b hb];simp) hd.own
 have z2:=m2.size
 simp only [World.size_drew] at z2
 have ho2' :∀ b,b < w1.heap.size→ow2 b=ow b:=fun b hb=> ho2 b (by simpa using hb)
 have D2:DAt w2 ow2 x D nx c u:=D2o.mod (Mod.refl No w2) (fun _ _ h=> h) (fun b hb=> by rw [ho2' b (by have:=hd.lt b hb;omega)];exact hd.own b hb)
 have mw2:Mod (fun b=> ow b≠ .no) w w2:=Mod.trans (m1.drew.no _) m2 (fun _ _ h=> h)
 refine hKx _ _ (.inr (cOf _ D2o O2)) ?_
 clear hKx Kx D2o m2 O1 Z1 D1 lO ld
 (repeat (first|(refine lxp HO (v:=?_) (fun w'=> ?_) ?_;rotate_left;(focus (go_simp;(try exact rfl);done));try go_simp)|(refine lxr HO (v:=?_) (fun w' hC'=> ?_) ?_;rotate_left;(focus (obtain ⟨c1,c2,c3,c4,c5,c6,c7,c8,c9⟩:=hC';go_simp;(try exact rfl);done));try go_simp)|(refine lxo HO ?_;try go_simp)))
 refine wpL_nil ?_
 clear HO
 have d0:=D2.row.cL 0 _ (by omega) rfl
 have ld:=D2.row.lt
 go_wp2_with fail
 refine (show Calls Tryz.prog 85 #[ptr x, .int .i64 c] w2 _ from clock_ok S2 c (by rw [eC2];exact hc)).mono ?_;rintro e w3 ⟨rfl,hb3⟩
 obtain ⟨tm,htm⟩:∃ tm,tm=s2.clocks c:=⟨_,rfl⟩
 rw [←htm]
 clear htm
 have n3:=Mod.of_below hb3 No
 have S3:=S2.no n3
 have O3:=O2.mod n3 (fun h=> h)
 have Z3:=Z2.mod n3 (fun h=> h)
 have D3:DAt w3 ow2 x D nx c u:=D2.mod n3 (fun _ _ h=> h) D2.own
 have mw3:Mod (fun b=> ow b≠ .no) w w3:=Mod.trans mw2 (n3.no _) (fun _ _ h=> h)
 have z3:=n3.size
 clear d0 ld S2 O2 Z2 D2 mw2 hb3 n3
 go_upto_region 10 with fail
 have hwc:IntKind.u8.wrap (c:Int)=c:=by rw [IntKind.wrap_u8];omega
 have e0:=D3.row.cL 1 _ (by omega) rfl
 have e1:=O3.cL 0 _ (by omega) rfl
 have ld:=D3.row.lt
 have lO:=O3.lt
 refine wp_region_chain (fun W=> W.cell? ⟨D.d,1,none⟩=some (.int .i64 nx)∧W.cell? ⟨w.heap.size,0,none⟩=some (.int .u8 1)) [10,11] [] [11] (rds [0,1,2,3,4,5,6,7,8,9] (.ef 10 (.ef 11 .nil))) (by kernel_rfl) (by kernel_rfl) ⟨e0,e1⟩ ?_
 intro OO hO
 have HO:=Lib.hid hO
 clear hO
 simp only [rds]
 (repeat (first|(refine lxp HO (v:=?_) (fun w'=> ?_) ?_;rotate_left;(focus (go_simp;(try exact rfl);done));try go_simp)|(refine lxr HO (v:=?_) (fun w' hC'=> ?_) ?_;rotate_left;(focus (obtain ⟨c1,c2⟩:=hC';go_simp;(try exact rfl);done));try go_simp)|(refine lxo HO ?_;try go_simp)))
 (refine lxe HO (fun K hK=> ?_);go_simp;refine hK _ _ ?_ ?_;all_goals clear hK K)
 ·exact .inr ⟨by go_simp,by go_simp⟩
 (refine lxe HO (fun K hK=> ?_);go_simp;refine hK _ _ (.inl (by rfl)) ?_;clear hK K)
 refine wpL_nil ?_
 clear HO
 go_upto_region 11 with fail
 refine wp_world (fun W=> Mod No w3 W∧Row W w3.heap.size 11 (fl (evl nx tm c 1 0 0 0 0 0 0 0))) ⟨((Mod.refl No w3).alloc _).drew,Row.drew (row_newL' w3 _ [_,_,_,_,_,_,_,_,_,_,_] _ rfl)⟩ ?_
 intro W ⟨mW,EW⟩
 have SW:=S3.no mW
 have OW:=O3.mod mW (fun h=> h)
 have ZW:=Z3.mod mW (fun h=> h)
 have DW:DAt W ow2 x D nx c u:=D3.mod mW (fun _ _ h=> h) D3.own
 have mwW:Mod (fun b=> ow b≠ .no) w W:=Mod.trans mw3 (mW.no _) (fun _ _ h=> h)
 have zW:=mW.size
 have o2z:∀ b,w1.heap.size≤b→b < w3.heap.size→True:=fun _ _ _=> trivial
 have oe:ow2 w3.heap.size= .no:=Classical.byContradiction fun hh=> by have:=S3.2 _ hh;omega
 have lD3:∀ b,DOwn D b→b < w3.heap.size:=D3.lt
 clear e0 e1 ld lO S3 O3 Z3 D3 mw3 mW o2z
 obtain ⟨eb,heb⟩:∃ eb,eb=w3.heap.size:=⟨_,rfl⟩
 rw [←heb] at EW oe lD3 zW z3 ⊢
 clear heb
 have d5:=DW.row.cL 5 _ (by omega) rfl
 have p0:=OW.cL 0 _ (by omega) rfl
 have ld:=DW.row.lt
 have lO:=OW.lt
 have hlk:(Instr.lookup 154 (.map (some D.pb)) (.int .u8 1) false).run Tryz.prog W.drew= .ok (slc D.s1 4 4) W.drew:=by
  have:=run_lookup (P:=Tryz.prog) (w:=W.drew) (q:= .u8) Tryz.underlying154 Tryz.underlying5 (Tryz.zputs _) (DW.puts.drew) 1
  rw [DW.k1.1] at this
  exact this
 refine wp_region_chain (fun W' => W' =W.drew) [] [] [] (rds [0,1,2,3,4,5,6,7,8] .nil) (by kernel_rfl) (by kernel_rfl) rfl ?_
 intro OO hO
 have HO:=Lib.hid hO
 clear hO
 simp only [rds]
 (repeat (first|(refine lxp HO (v:=?_) (fun w'=> ?_) ?_;rotate_left;(focus (go_simp;(try exact rfl);done));try go_simp)|(refine lxr HO (v:=?_) (fun w' hC'=> ?_) ?_;rotate_left;(focus (obtain rfl:=hC';go_simp;(try exact rfl);done));try go_simp)|(refine lxo HO ?_;try go_simp)))
 refine wpL_nil ?_
 clear HO hlk d5 p0 ld lO
 go_wp2
 go_loopw [69] (fun s69 wr=> ∃ j:Int,s69= .int .i64 j∧(j=0∨j=1∨j=2∨j=3∨j=4)∧Row wr eb 11 (fl (if j=0 then (evl nx tm c 1 0 0 0 0 0 0 0) else if j=1 then (evl nx tm c 1 task 0 0 0 0 0 0) else if j=2 then (evl nx tm c 1 task group 0 0 0 0 0) else if j=3 then (evl nx tm c 1 task group 0 weight 0 0 0) else (evl nx tm c 1 task group 0 weight 0 mask 0)))∧Mod (fun b=> b=eb) W wr) (fun s69 _=> 4 - (RowKit.intOf s69).toNat)
 case atStart=> exact ⟨0,rfl, .inl rfl,by rw [if_pos rfl];exact EW.drew,(Mod.refl _ W).drew⟩
 case round=>
  obtain ⟨wk,rfl⟩:∃ W',W' =wr:=⟨wr,rfl⟩
  obtain ⟨j,rfl,hj,E,hm⟩:=hrel
  have zk:=hm.size
  have ebD:∀ b,DOwn D b→¬b=eb:=fun b hb=> by have:=lD3 b hb;omega
  have Dk:DAt wk ow2 x D nx c u:=DW.mod hm ebD DW.own
  have Ok:=OW.mod hm (by show ¬w.heap.size=eb;omega)
  have Zk:=ZW.mod hm (by show ¬w.heap.size+1=eb;omega)
  have lE:=E.lt
  have lO:=Ok.lt
  have p0:=Ok.cL 0 _ (by omega) rfl
  have p1:=Ok.cL 1 _ (by omega) rfl
  have p2:=Ok.cL 2 _ (by omega) rfl
  have p3:=Ok.cL 3 _ (by omega) rfl
  have p4:=Ok.cL 4 _ (by omega) rfl
  have p5:=Ok.cL 5 _ (by omega) rfl
  have p6:=Ok.cL 6 _ (by omega) rfl
  have p7:=Ok.cL 7 _ (by omega) rfl
  have RK:=Dk.k1.2
  have lK:=RK.lt
  rcases hj with rfl|rfl|rfl|rfl|rfl
  ·have E:Row wk eb 11 (fl (evl nx tm c 1 0 0 0 0 0 0 0)):=E
   have q:wk.cell? ⟨D.s1,0,none⟩=some (fn 196):=RK.cL 0 _ (by omega) rfl
   go_wp2_with fail
   refine (fld1 1 c task group weight tO ticks mask got E).mono ?_;rintro e w5 ⟨rfl,R5,m5⟩
   go_wp2
   refine ⟨⟨1,rfl,by decide,R5,Mod.trans hm m5 (fun _ _ h=> h)⟩,by simp [RowKit.intOf]⟩
  ·have E:Row wk eb 11 (fl (evl nx tm c 1 task 0 0 0 0 0 0)):=E
   have q:wk.cell? ⟨D.s1,1,none⟩=some (fn 197):=RK.cL 1 _ (by omega) rfl
   go_wp2_with fail
   refine (fld2 1 c task group weight tO ticks mask got E).mono ?_;rintro e w5 ⟨rfl,R5,m5⟩
   go_wp2
   refine ⟨⟨2,rfl,by decide,R5,Mod.trans hm m5 (fun _ _ h=> h)⟩,by simp [RowKit.intOf]⟩
  ·have E:Row wk eb 11 (fl (evl nx tm c 1 task group 0 0 0 0 0)):=E
   have q:wk.cell? ⟨D.s1,2,none⟩=some (fn 198):=RK.cL 2 _ (by omega) rfl
   go_wp2_with fail
   refine (fld3 1 c task group weight tO ticks mask got E).mono ?_;rintro e w5 ⟨rfl,R5,m5⟩
   go_wp2
   refine ⟨⟨3,rfl,by decide,R5,Mod.trans hm m5 (fun _ _ h=> h)⟩,by simp [RowKit.intOf]⟩
  ·have E:Row wk eb 11 (fl (evl nx tm c 1 task group 0 weight 0 0 0)):=E
   have q:wk.cell? ⟨D.s1,3,none⟩=some (fn 199):=RK.cL 3 _ (by omega) rfl
   go_wp2_with fail
   refine (fld4 1 c task group weight tO ticks mask got E).mono ?_;rintro e w5 ⟨rfl,R5,m5⟩
   go_wp2
   refine ⟨⟨4,rfl,by decide,R5,Mod.trans hm m5 (fun _ _ h=> h)⟩,by simp [RowKit.intOf]⟩
  ·
   have E:Row wk eb 11 (fl (evl nx tm c 1 task group 0 weight 0 mask 0)):=E
   have SK:SAt wk ow2 x B2 s2:=SW.mod hm (by rintro b rfl;exact oe)
   have mwk:Mod (fun b=> ow b≠ .no) w wk:=Mod.trans mwW hm (fun b hb e=> by have e' :b=eb:=e;omega)
   have q1:=Dk.row.cL 1 _ (by omega) rfl
   have qf:=Dk.row.free 1
   have ld:=Dk.row.lt
   clear p0 p1 p2 p3 p4 p5 p6 p7 lO RK lK mwW SW DW OW ZW EW
   have HH:=Lib.hid (And.intro Dk (And.intro SK (And.intro E (And.intro Zk mwk))))
   clear Dk SK E Zk mwk
   go_upto_region 17 with fail
   obtain ⟨Dk,SK,E,Zk,mwk⟩:=HH.out
   have ned:D.d≠eb:=ebD _ (by simp [DOwn])
   have ldd:=hd.lt D.d (by simp [DOwn])
   have hmN:Mod (fun b=> b=D.d) wk (wk.setCell ⟨D.d,1,none⟩ (.int .i64 (nx+1))):=(Mod.refl (fun b=> b=D.d) wk).setCell (p:=⟨D.d,1,none⟩) (.inr rfl) _
   refine wp_world (fun V=> DAt V ow2 x D (nx+1) c u∧SAt V ow2 x B2 s2∧Row V eb 11 (fl (evl nx tm c 1 task group 0 weight 0 mask 0))∧Row V (w.heap.size+1) 11 (fl [.int .i64 0, .int .i64 0, .int .u8 0, .int .u8 0, .int .i64 0, .int .i64 0, .int .i64 0, .int .i64 0, .int .i64 0, .int .u64 0, .int .i64 0])∧Mod (fun b=> ow b≠ .no∨DOwn D b) w V∧wk.heap.size≤V.heap.size) ?_ ?_
   ·exact ⟨Dk.next (nx+1),SK.mod hmN (by rintro b rfl;exact Dk.own _ (by simp [DOwn])),E.mod hmN (by show ¬eb=D.d;omega),Zk.mod hmN (by show ¬w.heap.size+1=D.d;omega),Mod.trans (mwk.mono (fun b _ h=> .inl h)) hmN (fun b _ e=> .inr (.inl e)),by simp⟩
   intro V ⟨DV,SV,EV,ZV,mV,zV⟩
   clear q1 qf ld HH Dk SK E Zk mwk hm
   obtain ⟨F,hF,eF⟩:=DV.rgs
   obtain ⟨f,hR⟩:=DV.ring
   have lV:=DV.lt
   have lE:=EV.lt
   have lF:=hF.lt
   have clsOf:∀ W',Row W' eb 11 (fl (evl nx tm c 1 task group 0 weight 0 mask 0))→W'.cell? ⟨D.d,3,none⟩=some (slc D.rb 64 D.rcap)→W'.cell? ⟨D.rb,c,none⟩=some (ptr D.rg)→W'.cell? ⟨eb,0,none⟩=some (.int .i64 nx)∧W'.cell? ⟨eb,1,none⟩=some (.int .i64 tm)∧W'.cell? ⟨eb,2,none⟩=some (.int .u8 c)∧W'.cell? ⟨eb,3,none⟩=some (.int .u8 1)∧W'.cell? ⟨eb,4,none⟩=some (.int .i64 task)∧W'.cell? ⟨eb,5,none⟩=some (.int .i64 group)∧W'.cell? ⟨eb,6,none⟩=some (.int .i64 0)∧W'.cell? ⟨eb,7,none⟩=some (.int .i64 weight)∧W'.cell? ⟨eb,8,none⟩=some (.int .i64 0)∧W'.cell? ⟨eb,9,none⟩=some (.int .u64 mask)∧W'.cell? ⟨eb,10,none⟩=some (.int .i64 0)∧W'.cell? ⟨D.d,3,none⟩=some (slc D.rb 64 D.rcap)∧W'.cell? ⟨D.rb,c,none⟩=some (ptr D.rg):=fun W' hE h1 h2=> ⟨hE.cL 0 _ (by omega) rfl,hE.cL 1 _ (by omega) rfl,hE.cL 2 _ (by omega) rfl,hE.cL 3 _ (by omega) rfl,hE.cL 4 _ (by omega) rfl,hE.cL 5 _ (by omega) rfl,hE.cL 6 _ (by omega) rfl,hE.cL 7 _ (by omega) rfl,hE.cL 8 _ (by omega) rfl,hE.cL 9 _ (by omega) rfl,hE.cL 10 _ (by omega) rfl,h1,h2⟩
   refine wp_region_chain (fun W' => W'.cell? ⟨eb,0,none⟩=some (.int .i64 nx)∧W'.cell? ⟨eb,1,none⟩=some (.int .i64 tm)∧W'.cell? ⟨eb,2,none⟩=some (.int .u8 c)∧W'.cell? ⟨eb,3,none⟩=some (.int .u8 1)∧W'.cell? ⟨eb,4,none⟩=some (.int .i64 task)∧W'.cell? ⟨eb,5,none⟩=some (.int .i64 group)∧W'.cell? ⟨eb,6,none⟩=some (.int .i64 0)∧W'.cell? ⟨eb,7,none⟩=some (.int .i64 weight)∧W'.cell? ⟨eb,8,none⟩=some (.int .i64 0)∧W'.cell? ⟨eb,9,none⟩=some (.int .u64 mask)∧W'.cell? ⟨eb,10,none⟩=some (.int .i64 0)∧W'.cell? ⟨D.d,3,none⟩=some (slc D.rb 64 D.rcap)∧W'.cell? ⟨D.rb,c,none⟩=some (ptr D.rg)) [9,11] [] [] (rds [0,1,2,3,4,5,6,7,8] (.ef 9 (rds [10] (.ef 11 (rds [12,13] .nil))))) (by kernel_rfl) (by kernel_rfl) (clsOf _ EV.drew (DV.row.cL 3 _ (by omega) rfl) (by have:=hF.cell hc;rw [eF] at this;exact this)) ?_
   intro OO hO
   have HO:=Lib.hid hO
   clear hO
   simp only [rds]
   (repeat (first|(refine lxp HO (v:=?_) (fun w'=> ?_) ?_;rotate_left;(focus (go_simp;(try exact rfl);done));try go_simp)|(refine lxr HO (v:=?_) (fun w' hC'=> ?_) ?_;rotate_left;(focus (obtain ⟨c1,c2,c3,c4,c5,c6,c7,c8,c9,c10,c11,c12,c13⟩:=hC';go_simp;(try exact rfl);done));try go_simp)|(refine lxo HO ?_;try go_simp)))
   refine lxe HO (fun Kx hKx=> ?_)
   go_simp
   refine (put_ok V.drew D.rg D.sb D.L u f (hR.mod (S:=No) (Mod.refl No V).drew (fun h=> h) (fun _ h=> h)) hu nx tm c 1 task group 0 weight 0 mask 0).mono ?_;rintro e w6 ⟨rfl,m6,sb',L',f',hR6,hL6,hs6⟩
   have m6' :Mod (fun b=> b=D.rg∨b=D.sb∧0 < D.L) V w6:=Mod.trans ((Mod.refl No V).drew.no _) m6 (fun _ _ h=> h)
   have D6:=DV.put (fun b hb=> SV.2 b hb) m6' hR6 hL6 (hs6.imp id (fun h=> by simpa using h))
   have hOwn:∀ b,(b=D.rg∨b=D.sb∧0 < D.L)→DOwn D b:=fun b h=> by
    rcases h with h|⟨h,h2⟩
    ·exact .inr (.inr (.inr (.inr (.inr (.inr (.inl h))))))
    ·exact .inr (.inr (.inr (.inr (.inr (.inr (.inr ⟨h2,h⟩))))))
   have lZV:=ZV.lt
   have E6:=EV.mod m6' (fun h=> by have:=lD3 _ (hOwn _ h);omega)
   have Z6:=ZV.mod m6' (fun h=> by have:=hd.lt _ (hOwn _ h);omega)
   have F6:=hF.mod m6' (fun h=> by
    rcases h with h|⟨h,h2⟩
    ·exact DV.a2.1 h.symm
    ·exact (DV.a3 h2).1 h.symm)
   have S6:=SV.mod m6' (fun b h=> DV.own _ (hOwn _ h))
   have c6:=clsOf _ E6 (D6.row.cL 3 _ (by omega) rfl) (by have:=F6.cell hc;rw [eF] at this;exact this)
   have z6:=m6'.size
   have gl:=Z6.lt
   have lE6:=E6.lt
   have ld6:=D6.row.lt
   have lF6:=F6.lt
   have nfd:¬D.d=w.heap.size+1:=by omega
   have nfe:¬eb=w.heap.size+1:=by omega
   have nfb:¬D.rb=w.heap.size+1:=by have:=hd.lt D.rb (by simp [DOwn]);omega
   have g0:=Z6.cL 0 _ (by omega) rfl
   have gf0:=Z6.free 0
   have g1:=Z6.cL 1 _ (by omega) rfl
   have gf1:=Z6.free 1
   have g2:=Z6.cL 2 _ (by omega) rfl
   have gf2:=Z6.free 2
   have g3:=Z6.cL 3 _ (by omega) rfl
   have gf3:=Z6.free 3
   have g4:=Z6.cL 4 _ (by omega) rfl
   have gf4:=Z6.free 4
   have g5:=Z6.cL 5 _ (by omega) rfl
   have gf5:=Z6.free 5
   have g6:=Z6.cL 6 _ (by omega) rfl
   have gf6:=Z6.free 6
   have g7:=Z6.cL 7 _ (by omega) rfl
   have gf7:=Z6.free 7
   have g8:=Z6.cL 8 _ (by omega) rfl
   have gf8:=Z6.free 8
   have g9:=Z6.cL 9 _ (by omega) rfl
   have gf9:=Z6.free 9
   have g10:=Z6.cL 10 _ (by omega) rfl
   have gf10:=Z6.free 10
   have HX:=Lib.hid (And.intro D6 (And.intro S6 (And.intro hs6 (And.intro E6 (And.intro F6 (And.intro m6' (And.intro mV (And.intro hOwn clsOf))))))))
   refine hKx _ _ (.inr c6) ?_
   clear hKx Kx D6 S6 E6 F6 hs6 hR6 m6 m6' mV hR DV SV EV ZV hF c6 hOwn clsOf
   (repeat (first|(refine lxp HO (v:=?_) (fun w'=> ?_) ?_;rotate_left;(focus (go_simp;(try exact rfl);done));try go_simp)|(refine lxr HO (v:=?_) (fun w' hC'=> ?_) ?_;rotate_left;(focus (obtain ⟨c1,c2,c3,c4,c5,c6,c7,c8,c9,c10,c11,c12,c13⟩:=hC';go_simp;(try exact rfl);done));try go_simp)|(refine lxo HO ?_;try go_simp)))
   (refine lxe HO (fun K hK=> ?_);go_simp;refine hK _ _ ?_ ?_;all_goals clear hK K)
   ·obtain ⟨D6,S6,hs6,E6,F6,m6',mV,hOwn,clsOf⟩:=HX.out
    have hh:=h11_mod (w.heap.size+1) w6 (.int .i64 nx) (.int .i64 tm) (.int .u8 c) (.int .u8 1) (.int .i64 task) (.int .i64 group) (.int .i64 0) (.int .i64 weight) (.int .i64 0) (.int .u64 mask) (.int .i64 0)
    exact .inr (clsOf _ (E6.mod hh nfe) ((D6.row.mod hh nfd).cL 3 _ (by have:=D6.row.lt;omega) rfl) (by have:=(F6.mod hh nfb).cell hc;rw [eF] at this;exact this))
   (repeat (first|(refine lxp HO (v:=?_) (fun w'=> ?_) ?_;rotate_left;(focus (go_simp;(try exact rfl);done));try go_simp)|(refine lxr HO (v:=?_) (fun w' hC'=> ?_) ?_;rotate_left;(focus (obtain ⟨c1,c2,c3,c4,c5,c6,c7,c8,c9,c10,c11,c12,c13⟩:=hC';go_simp;(try exact rfl);done));try go_simp)|(refine lxo HO ?_;try go_simp)))
   refine wpL_nil ?_
   clear HO
   go_wp2
   obtain ⟨D6,S6,hs6,E6,F6,m6',mV,hOwn,clsOf⟩:=HX.out
   have hh:=h11_mod (w.heap.size+1) w6 (.int .i64 nx) (.int .i64 tm) (.int .u8 c) (.int .u8 1) (.int .i64 task) (.int .i64 group) (.int .i64 0) (.int .i64 weight) (.int .i64 0) (.int .u64 mask) (.int .i64 0)
   have hD:∀ b,DOwn D b→¬b=w.heap.size+1:=fun b hb=> by have:=hd.lt b hb;omega
   have hD' :∀ b,DOwn { D with sb:=sb',L:=L' } b→DOwn D b∨V.heap.size≤b:=by
    rintro b (h1|h1|h1|h1|h1|h1|h1|⟨h0,h1⟩)
    ·exact .inl (.inl h1)
    ·exact .inl (.inr (.inl h1))
    ·exact .inl (.inr (.inr (.inl h1)))
    ·exact .inl (.inr (.inr (.inr (.inl h1))))
    ·exact .inl (.inr (.inr (.inr (.inr (.inl h1)))))
    ·exact .inl (.inr (.inr (.inr (.inr (.inr (.inl h1))))))
    ·exact .inl (.inr (.inr (.inr (.inr (.inr (.inr (.inl h1)))))))
    ·dsimp only at h1
     subst h1
     rcases hs6 with ⟨h2,h3⟩|h2
     ·exact .inl (.inr (.inr (.inr (.inr (.inr (.inr (.inr ⟨h3,h2⟩)))))))
     ·exact .inr (by simpa using h2)
   have zV' :=mV.size
   refine bodyPost_ret (v:= .tuple #[.agg (evl nx tm c 1 task group 0 weight 0 mask 0).toArray, .bool true, .int .i64 0]) (by simp [results,Tryz.results24,go_sem, *]) rfl ⟨tm,ow2,B2, { D with sb:=sb',L:=L' },s2,rfl, ?_,hP2, ?_,rfl, ?_, ?_, ?_⟩
   ·exact S6.mod hh (fun b e=> Classical.byContradiction fun hh' => by have e' :b=w.heap.size+1:=e;rw [e',ho2' _ (by omega)] at hh';exact hh' (hno _ (by omega)))
   ·exact D6.mod hh (fun b hb=> by rcases hD' b hb with h|h;exact hD b h;(show ¬b=w.heap.size+1;omega)) D6.own
   ·exact Mod.trans mV (Mod.trans (m6'.mono (T:=fun b=> DOwn D b∨b=w.heap.size+1) (fun b _ h=> .inl (hOwn b h))) (hh.mono (fun b _ e=> .inr e)) (fun _ _ h=> h)) (fun b hb h=> by
     rcases h with h|h
     ·exact .inr h
     ·omega)
   ·exact fun b hb=> ho2' b (by omega)
   ·exact fun b hb=> (hD' b hb).imp id (fun h=> by omega)
end
end Go.Q
