/- A part of the proof that TopGreat answers true: what some of the functions on its road compute. -/
import Derived.Test.YtckddephdbhagaaGreatDoorQ27
import Derived.Test.YtckddephdbhagaaGreatDoorQ35
set_option linter.unusedVariables false
set_option linter.unusedSimpArgs false
set_option linter.unnecessarySimpa false
namespace Go.Q
open Go.RowKit Go.Proofs
def Lt (A:ASt):List Nat:=tnum A.task++snum A 0 A.G
def Lcl (A:ASt) (i:Nat):List Nat:=inum A.clocks i (A.C - i)++(inum A.current 0 A.C++Lt A)
def Lcu (A:ASt) (i:Nat):List Nat:=inum A.current i (A.C - i)++Lt A
def Lgr (A:ASt) (i:Nat):List Nat:=gnum A (max 1 i) (A.G - max 1 i)++Lcl A 0
theorem Lgr_cons (A:ASt) (k:Nat) (h0:0 < k) (hk:k < A.G):Lgr A k=(A.par k).toNat::(A.wt k).toNat::Lgr A (k+1):=by
 unfold Lgr
 rw [Nat.max_eq_right (by omega),Nat.max_eq_right (by omega),show A.G - k=A.G - (k+1)+1 from by omega,gnum_cons]
 rfl
theorem Lgr_zero (A:ASt) (k:Nat) (h0:k=0):Lgr A k=Lgr A (k+1):=by subst h0;rfl
theorem Lgr_end (A:ASt):Lgr A A.G=Lcl A 0:=by
 unfold Lgr
 rw [show A.G - max 1 A.G=0 from by omega]
 rfl
theorem Lcl_cons (A:ASt) (k:Nat) (hk:k < A.C):Lcl A k=(A.clocks k).toNat::Lcl A (k+1):=by
 unfold Lcl
 rw [show A.C - k=A.C - (k+1)+1 from by omega,inum_cons]
 rfl
theorem Lcu_cons (A:ASt) (k:Nat) (hk:k < A.C):Lcu A k=(A.current k).toNat::Lcu A (k+1):=by
 unfold Lcu
 rw [show A.C - k=A.C - (k+1)+1 from by omega,inum_cons]
 rfl
theorem Lcl_end (A:ASt):Lcl A A.C=Lcu A 0:=by
 unfold Lcl
 rw [Nat.sub_self]
 rfl
theorem Lcu_end (A:ASt):Lcu A A.C=Lt A:=by
 unfold Lcu
 rw [Nat.sub_self]
 rfl
def ntk (A:ASt):Nat:=if A.task.isSome then 1 else 0
def Ltk (A:ASt) (j:Nat):List Nat:=if j=0 then (tnum A.task).tail++snum A 0 A.G else snum A 0 A.G
theorem Lt_eq (A:ASt):Lt A=ntk A::Ltk A 0:=by
 unfold Lt ntk Ltk
 cases A.task <;> rfl
theorem Ltk_end (A:ASt):Ltk A (ntk A)=snum A 0 A.G:=by
 unfold ntk Ltk
 cases A.task <;> rfl
theorem Ltk_cons (A:ASt) (t:TK) (h:A.task=some t):Ltk A 0=t.id.toNat::t.group.toNat::t.weight.toNat::t.cpu.toNat::t.mask.toNat::(if t.ready then 1 else 0)::t.v.toNat::t.r.toNat::Ltk A 1:=by
 unfold Ltk
 rw [h]
 rfl
theorem SrcAt.setOk {w:World} {s base:Nat} {L:List Nat} (h:SrcAt w s base L):SrcAt (w.setCell ⟨s,1,none⟩ (.bool true)) s base L:=by
 obtain ⟨p,c,R,hc,h6,hs,hb,hx⟩:=h
 refine ⟨p,c,(R.set (i:=1) (by omega) _).congr (fun i hi=> by rcases (by omega:i=0∨i=1) with rfl|rfl <;> rfl),hc,h6,hs,by simpa using hb,fun hL=> ?_⟩
 obtain ⟨b,o,e,hbs,hl,hcell⟩:=hx hL
 exact ⟨b,o,e,hbs,hl,fun i hi=> by rw [World.cell?_setCell_far _ _ _ _ (Ne.symm hbs)];exact hcell i hi⟩
theorem SrcAt.ok1 {w:World} {s base:Nat} {L:List Nat} (h:SrcAt w s base L):w.cell? ⟨s,1,none⟩=some (.bool true)∧w.frozen? ⟨s,1,none⟩=false:=by
 obtain ⟨p,c,R,_⟩:=h
 exact ⟨R.cell (i:=1) (by omega),R.free 1⟩
def Lsp (A:ASt) (g:Nat):List Nat:=snum A g (A.G - g)
def Lsq (A:ASt) (g c:Nat):List Nat:=srow A g c (A.C - c)++Lsp A (g+1)
theorem Lsp_cons (A:ASt) (g:Nat) (hg:g < A.G):Lsp A g=Lsq A g 0:=by
 unfold Lsp Lsq
 rw [show A.G - g=A.G - (g+1)+1 from by omega,snum_cons]
 rfl
theorem Lsp_end (A:ASt):Lsp A A.G= []:=by
 unfold Lsp
 rw [Nat.sub_self]
 rfl
theorem Lsq_end (A:ASt) (g:Nat):Lsq A g A.C=Lsp A (g+1):=by
 unfold Lsq
 rw [Nat.sub_self]
 rfl
theorem Lsq_cons (A:ASt) (g c:Nat) (hc:c < A.C) (hg:0 < g):Lsq A g c=(A.spots g c).1.toNat::(A.spots g c).2.1.toNat::(A.spots g c).2.2.toNat::Lsq A g (c+1):=by
 unfold Lsq
 rw [show A.C - c=A.C - (c+1)+1 from by omega,srow_cons]
 unfold snumF
 rw [if_neg (by omega)]
 rfl
theorem Lsq_zero (A:ASt) (g c:Nat) (hc:c < A.C) (hg:g=0):Lsq A g c=(A.spots g c).2.2.toNat::Lsq A g (c+1):=by
 unfold Lsq
 rw [show A.C - c=A.C - (c+1)+1 from by omega,srow_cons]
 unfold snumF
 rw [if_pos hg]
 rfl
set_option maxRecDepth 100000 in
set_option maxHeartbeats 4000000 in
theorem src_state (A:ASt) (nx s:Nat) (R:Rg A) (hp0:A.par 0=0) (hw0:A.wt 0=1) (hs0:∀ c,c < A.C→(A.spots 0 c).1=0∧(A.spots 0 c).2.1=0) (hnx:nx≤4611686018427387904) (w:World) (h:SrcAt w s w.heap.size (nx::A.C::A.cr.toNat::A.G::Lgr A 0)):
  Calls Tryz.prog 97 #[ptr s] w fun e w' => ∃ B' ow',e= .returned (snv nx B' A)∧StAt w' ow' B' A∧Mod (One s) w w' ∧(∀ b,ow' b≠ .no→w.heap.size≤b)∧A.G≤B'.gcap∧SrcAt w' s w.heap.size []:=by
 have h1:=R.C2
 have h2:=R.G2
 have h3:=R.cr
 have HR:=Lib.hid (And.intro R (And.intro hp0 (And.intro hw0 (And.intro hs0 hnx))))
 have ls:=h.lt
 clear R hp0 hw0 hs0 hnx
 go_enter Tryz.func97,Tryz.ntmps97
 go_wp2_with fail
 refine (whole_ok s w.heap.size nx _ HR.out.2.2.2.2 _ (h.mod ((Mod.refl No w).alloc _) (fun _ _ h=> h))).mono ?_;rintro e w1 ⟨rfl,T1,m1⟩
 have m1' :Mod (One s) w w1:=Mod.trans ((Mod.refl (One s) w).alloc _) m1 (fun _ _ h=> h)
 have z1:=m1.size
 simp only [World.size_alloc] at z1
 have B0:Row w1 w.heap.size 8 (fl [.int .i64 0, .int .i64 0, .int .u64 0, .slice none 0 0, .slice none 0 0, .slice none 0 0, .slice none 0 0, .slice none 0 0]):=Row.mod (S:=One s) (row_newL w [_,_,_,_,_,_,_,_] _) m1 (by show ¬w.heap.size=s;omega)
 clear h
 go_upto_region 3 with fail
 refine wp_world (fun V=> V.heap.size=w1.heap.size+1∧Mod (One s) w V∧SrcAt V s w.heap.size (A.C::A.cr.toNat::A.G::Lgr A 0)∧Row V w.heap.size 8 (fl [.int .i64 0, .int .i64 0, .int .u64 0, .slice none 0 0, .slice none 0 0, .slice none 0 0, .slice none 0 0, .slice none 0 0])∧Row V w1.heap.size 8 (fl [.int .i64 nx, .int .i64 0, .int .u64 0, .slice none 0 0, .slice none 0 0, .slice none 0 0, .slice none 0 0, .slice none 0 0])) ⟨by simp,m1'.alloc _,T1.mod ((Mod.refl No w1).alloc _) (fun _ _ h=> h),B0.alloc _,row_newL w1 [_,_,_,_,_,_,_,_] _⟩ ?_
 intro V ⟨zV,mV,TV,B1,X1⟩
 clear B0 T1 m1' m1
 obtain ⟨xs,hxs⟩:∃ xs,xs=w1.heap.size:=⟨_,rfl⟩
 rw [←hxs] at X1 zV z1 ⊢
 have hxe:xs+1=V.heap.size:=zV.symm
 clear hxs
 have lx:=X1.lt
 go_wp2_with fail
 refine (whole_ok s w.heap.size A.C _ (by omega) _ TV).mono ?_;rintro e w2 ⟨rfl,T2,m2⟩
 go_wp2_with fail
 refine (next_i s w.heap.size A.cr 18446744073709551615 _ h3.1 (by omega) _ T2).mono ?_;rintro e w3 ⟨rfl,T3,m3⟩
 have m23:=Mod.trans m2 m3 (fun _ _ h=> h)
 have X3:=X1.mod m23 (by show ¬xs=s;omega)
 have B3:=B1.mod m23 (by show ¬w.heap.size=s;omega)
 have m13:=Mod.trans mV m23 (fun _ _ h=> h)
 have y0:=X3.cL 0 _ (by have:=m23.size;omega) rfl
 have y1:=X3.cL 1 _ (by have:=m23.size;omega) rfl
 have y2:=X3.cL 2 _ (by have:=m23.size;omega) rfl
 have g1:=X3.free 1
 have g2:=X3.free 2
 have lx3:=X3.lt
 clear T2 TV X1 B1 mV m2 m3
 go_upto_region 4 with fail
 refine wp_world (fun U=> SI w U s xs w.heap.size nx A (cn A.C 0 0 0 0 0 0 0) (fun _=> .slice none 0 0) (fun _=> .no) (A.G::Lgr A 0)) ?_ ?_
 ·have mm:Mod (fun b=> b=xs) w3 ((w3.setCell { block:=xs,off:=1 } (Value.int IntKind.i64 A.C)).setCell { block:=xs,off:=2 } (Value.int IntKind.u64 A.cr)):=((Mod.refl (fun b=> b=xs) w3).setCell (p:=⟨xs,1,none⟩) (.inr rfl) _).setCell (p:=⟨xs,2,none⟩) (.inr rfl) _
  refine ⟨PI.start ls (Mod.trans m13 mm (fun b hb e=> by have:b=xs:=e;omega)) (by omega) _ (fun t=> by cases t <;> simp [cn]), ?_,T3.mod mm (fun b hb e=> by have:b=xs:=e;omega),B3.mod mm (by show ¬w.heap.size=xs;omega),rfl,Nat.le_refl _,by omega⟩
  exact (((X3.set (i:=1) (by omega) _).set (i:=2) (by omega) _).congr (fun i hi=> by rcases (by omega:i=0∨i=1∨i=2∨i=3∨i=4∨i=5∨i=6∨i=7) with rfl|rfl|rfl|rfl|rfl|rfl|rfl|rfl <;> rfl))
 intro U IU
 clear T3 m23 X3 B3 m13 y0 y1 y2 g1 g2 lx3 zV hxe lx
 go_wp2_with fail
 refine (whole_ok s w.heap.size A.G _ (by omega) _ IU.src).mono ?_;rintro e w4 ⟨rfl,T4,m4⟩
 have I4:=IU.next m4 T4
 clear IU T4 m4 U V w2 w3
 go_wp2
 go_loopw [30] (fun s30 wr=> ∃ (k:Nat) (pv:SOwn→Value) (ow:Nat→SOwn),s30= .int .i64 k∧k≤A.G∧SI w wr s xs w.heap.size nx A (cn A.C k 0 0 0 0 0 0) pv ow (Lgr A k)∧∀ g,pv (.si g)= .slice none 0 0) (fun s30 _=> A.G - (RowKit.intOf s30).toNat)
 case atStart=> exact ⟨0,_,_,rfl,by omega,I4,fun _=> rfl⟩
 case round=>
  obtain ⟨wk,rfl⟩:∃ W,W=wr:=⟨wr,rfl⟩
  obtain ⟨k,pv,ow,rfl,hk,I,hpn⟩:=hrel
  clear I4
  by_cases hkn:k < A.G
  ·have i1:(k:Int) < A.G:=by omega
   have hq:=HR.out.1.gr k hkn
   have lzw:=I.z.lt
   have i2:IntKind.i64.wrap ((k:Int)+1)=k+1:=by rw [IntKind.wrap_i64];omega
   obtain ⟨vo,vc,ev,O0,nx0,_⟩:=I.own .gb (n:=k) rfl
   have ol:∀ b,(Value.slice vo k vc).ownBlock=some b→b < wk.heap.size:=fun b hb=> (I.own_lt .gb (by rw [ev];exact hb)).1
   go_upto_if 35 with fail
   go_cut [6] (fun s6 wx=> s6=ptr wk.heap.size∧Row wx wk.heap.size 2 (fl [.int .i64 (A.par k), .int .i64 (A.wt k)])∧Mod (One s) wk wx∧SrcAt wx s w.heap.size (Lgr A (k+1)))
   case first=>
    by_cases hk0:0 < k
    ·have d1:(0:Int) < k:=by omega
     have LL:=I.src
     rw [Lgr_cons A k hk0 hkn] at LL
     go_wp2_with fail
     refine (whole_i s w.heap.size (A.par k) _ hq.1 (by omega) _ (LL.mod ((Mod.refl No wk).alloc _) (fun _ _ h=> h))).mono ?_;rintro e w5 ⟨rfl,T5,m5⟩
     go_wp2_with fail
     refine (whole_i s w.heap.size (A.wt k) _ hq.2.2.1 (by omega) _ T5).mono ?_;rintro e w6 ⟨rfl,T6,m6⟩
     have m56:=Mod.trans m5 m6 (fun _ _ h=> h)
     have X6:Row w6 wk.heap.size 2 (fl [.int .i64 0, .int .i64 1]):=Row.mod (S:=One s) (row_newL wk [_,_] _) m56 (by show ¬wk.heap.size=s;omega)
     have y0:=X6.cL 0 _ (by omega) rfl
     have y1:=X6.cL 1 _ (by omega) rfl
     have g0:=X6.free 0
     have g1:=X6.free 1
     have lx:=X6.lt
     go_wp2_with fail
     go_meet
     have mm:Mod (fun b=> b=wk.heap.size) w6 ((w6.setCell { block:=wk.heap.size,off:=0 } (Value.int IntKind.i64 (A.par k))).setCell { block:=wk.heap.size,off:=1 } (Value.int IntKind.i64 (A.wt k))):=((Mod.refl (fun b=> b=wk.heap.size) w6).setCell (p:=⟨wk.heap.size,0,none⟩) (.inr rfl) _).setCell (p:=⟨wk.heap.size,1,none⟩) (.inr rfl) _
     have hws:=I.p.mod.size
     refine ⟨rfl,((X6.set (i:=0) (by omega) _).set (i:=1) (by omega) _).congr (fun i hi=> by rcases (by omega:i=0∨i=1) with rfl|rfl <;> rfl),Mod.trans (Mod.trans ((Mod.refl (One s) wk).alloc _) m56 (fun _ _ h=> h)) mm (fun b hb e=> by have:b=wk.heap.size:=e;omega),T6.mod mm (fun b hb e=> by have:b=wk.heap.size:=e;omega)⟩
    ·have d1:¬(0:Int) < k:=by omega
     have LL:=I.src
     rw [Lgr_zero A k (by omega)] at LL
     have HK:=Lib.hid (show k=0 by omega)
     have HE:=Lib.hid (show A.par k=0∧A.wt k=1 by rw [show k=0 by omega];exact ⟨HR.out.2.1,HR.out.2.2.1⟩)
     clear hk0
     go_wp2_with fail
     go_meet
     exact ⟨rfl,by rw [HE.out.1,HE.out.2];exact row_newL wk [_,_] _,(Mod.refl _ _).alloc _,LL.mod ((Mod.refl No wk).alloc _) (fun _ _ h=> h)⟩
   case rest=>
    obtain ⟨wx,rfl⟩:∃ W,W=wc:=⟨wc,rfl⟩
    obtain ⟨rfl,RG,mx,Tx⟩:=hcut
    have Ix:=I.next mx Tx
    have hh:=Ix.hd
    unfold HD at hh
    rw [ev] at hh
    have y3:=hh.cL 3 _ (by have:=Ix.hd.lt;omega) rfl
    have lx:=Row.lt hh
    have q0:=RG.cL 0 _ (by omega) rfl
    have q1:=RG.cL 1 _ (by omega) rfl
    have lg:=RG.lt
    clear hh
    have mS:∀ w',Mod (fun b=> (Value.slice vo k vc).ownBlock=some b) wx w' →w'.cell? ⟨xs,3,none⟩=some (.slice vo k vc)∧w'.cell? ⟨wk.heap.size,0,none⟩=some (.int .i64 (A.par k))∧w'.cell? ⟨wk.heap.size,1,none⟩=some (.int .i64 (A.wt k)):=fun w' hm=> by
     have H1:=Ix.hd.mod hm nx0
     have R1:=RG.mod hm (fun h=> by have:=ol _ h;omega)
     unfold HD at H1
     rw [ev] at H1
     exact ⟨H1.cell (i:=3) (by omega),R1.cell (i:=0) (by omega),R1.cell (i:=1) (by omega)⟩
    have O1:wx.ownsRow w.heap.size 71 2 (.slice vo k vc) k (gpl A k):=ownsRow_mod O0 mx (fun b hb e=> by have:=(I.own_lt .gb (b:=b) (by rw [ev];exact hb)).2;have:b=s:=e;omega)
    have lwx:w.heap.size≤wx.heap.size:=by have:=Ix.p.mod.size;omega
    go_upto_region 10 with fail
    refine wp_region_chain (fun w' => w'.cell? ⟨xs,3,none⟩=some (.slice vo k vc)∧w'.cell? ⟨wk.heap.size,0,none⟩=some (.int .i64 (A.par k))∧w'.cell? ⟨wk.heap.size,1,none⟩=some (.int .i64 (A.wt k))) [7,8,12] [9,10,11] [12] (rds [0,1,2,3,4,5,6] (.ef 7 (.ef 8 (rds [9,10,11] (.ef 12 .nil))))) (by kernel_rfl) (by kernel_rfl) ⟨y3,q0,q1⟩ ?_
    intro OO hO
    have HO:=Lib.hid hO
    clear hO
    simp only [rds]
    (repeat (first|(refine lxp HO (v:=?_) (fun w'=> ?_) ?_;rotate_left;(focus (go_simp;(try exact rfl);done));try go_simp)|(refine lxr HO (v:=?_) (fun w' hC'=> ?_) ?_;rotate_left;(focus (obtain ⟨c1',c2',c3'⟩:=hC';go_simp;(try exact rfl);done));try go_simp)|(refine lxo HO ?_;try go_simp)))
    (refine lxe HO (fun K hK=> ?_);go_simp;refine hK _ _ ?_ ?_;all_goals clear hK K)
    ·exact .inr (mS _ ((Mod.refl _ _).drew.alloc _))
    refine lxe HO (fun Kx hKx=> ?_)
    refine step_app_c 71 _ 2 16 Tryz.infoGroup rfl _ _ 38 rfl Tryz.underlying38 rfl (by decide) (by decide) [.int .i64 (A.par k), .int .i64 (A.wt k)] rfl (by simp [Value.oneCell']) w.heap.size (.slice vo k vc) k (gpl A k) _ _ rfl rfl (by simp;omega) (by omega) (by (repeat first|(with_reducible exact O1)|(with_reducible refine World.ownsRow.drew ?_)|(with_reducible refine World.ownsRow.alloc ?_ _))) (row_newL' wx.drew _ [_,_] _ rfl) ?_;intro gs ct wA hA
    have mA:Mod (fun b=> (Value.slice vo k vc).ownBlock=some b) wx wA:=Mod.trans ((Mod.refl _ _).drew.alloc _) hA.mod (fun _ _ h=> h)
    have HA:=Ix.hd.mod mA nx0
    have lA:=Row.lt HA
    have fA:=Row.free HA 3
    have eA:=mS _ mA
    refine hKx _ _ (.inr eA) ?_
    clear hKx Kx
    (repeat (first|(refine lxp HO (v:=?_) (fun w'=> ?_) ?_;rotate_left;(focus (go_simp;(try exact rfl);done));try go_simp)|(refine lxr HO (v:=?_) (fun w' hC'=> ?_) ?_;rotate_left;(focus (obtain ⟨c1',c2',c3'⟩:=hC';go_simp;(try exact rfl);done));try go_simp)|(refine lxo HO ?_;try go_simp)))
    (refine lxe HO (fun K hK=> ?_);go_simp;refine hK _ _ (.inl (by rfl)) ?_;clear hK K)
    refine wpL_nil ?_
    obtain ⟨pv',ow',J,hpv⟩:=Ix.push .gb (by decide) ev (n:=k) rfl (W:=(wx.drew.alloc (.cells #[.int .i64 (A.par k), .int .i64 (A.wt k)] 71))) ((Mod.refl No wx).drew.alloc _) hA (gpl_succ A k) (cnt' :=cn A.C (k+1) 0 0 0 0 0 0) (fun u=> by cases u <;> simp [cn])
    go_wp2
    exact ⟨⟨k+1,pv',ow',by go_num,by omega,J,fun g=> by rw [hpv];exact hpn g⟩,by simp only [RowKit.intOf];omega⟩
  ·obtain rfl:k=A.G:=by omega
   have i1:¬((A.G:Int) < A.G):=by omega
   have c1:=I.hd.cL 1 _ (by have:=I.hd.lt;omega) rfl
   have lx:=Row.lt I.hd
   rw [Lgr_end] at I
   go_wp2
   go_loopw [60] (fun sk wr=> ∃ (k:Nat) (pv:SOwn→Value) (ow:Nat→SOwn),sk= .int .i64 k∧k≤A.C∧SI w wr s xs w.heap.size nx A (cn A.C A.G k 0 0 0 0 0) pv ow (Lcl A k)∧∀ g,pv (.si g)= .slice none 0 0) (fun sk _=> A.C - (RowKit.intOf sk).toNat)
   case atStart=> exact ⟨0,pv,ow,rfl,by omega,I,hpn⟩
   case round=>
    clear I
    obtain ⟨wk,rfl⟩:∃ W,W=wr:=⟨wr,rfl⟩
    obtain ⟨k,pv,ow,rfl,hk,I,hpn⟩:=hrel
    by_cases hkn:k < A.C
    ·have i1:(k:Int) < A.C:=by omega
     have hq:=HR.out.1.cl k hkn
     have i2:IntKind.i64.wrap ((k:Int)+1)=k+1:=by rw [IntKind.wrap_i64];omega
     obtain ⟨vo,vc,ev,O0,nx0,_⟩:=I.own .cl (n:=k) rfl
     have ol:∀ b,(Value.slice vo k vc).ownBlock=some b→b < wk.heap.size∧w.heap.size≤b:=fun b hb=> I.own_lt .cl (by rw [ev];exact hb)
     have LL:=I.src
     rw [Lcl_cons A k hkn] at LL
     have mS:∀ w',Mod (fun b=> b=s∨(Value.slice vo k vc).ownBlock=some b) wk w' →w'.cell? ⟨xs,4,none⟩=some (.slice vo k vc):=fun w' hm=> by
      have H1:=I.hd.mod hm (fun h=> h.elim (fun h=> by omega) nx0)
      unfold HD at H1
      rw [ev] at H1
      exact H1.cell (i:=4) (by omega)
     have y4:=mS _ (Mod.refl _ wk)
     have lx:=Row.lt I.hd
     have lwk:w.heap.size≤wk.heap.size:=by have:=I.p.mod.size;omega
     go_upto_region 14 with fail
     refine wp_region_chain (fun w' => w'.cell? ⟨xs,4,none⟩=some (.slice vo k vc)) [6,7,8,11] [9,10] [11] (rds [0,1,2,3,4,5] (.ef 6 (.ef 7 (.ef 8 (rds [9,10] (.ef 11 .nil)))))) (by kernel_rfl) (by kernel_rfl) y4 ?_
     intro OO hO
     have HO:=Lib.hid hO
     clear hO
     simp only [rds]
     (repeat (first|(refine lxp HO (v:=?_) (fun w'=> ?_) ?_;rotate_left;(focus (go_simp;(try exact rfl);done));try go_simp)|(refine lxr HO (v:=?_) (fun w' hC'=> ?_) ?_;rotate_left;(focus (obtain c1':=hC';go_simp;(try exact rfl);done));try go_simp)|(refine lxo HO ?_;try go_simp)))
     refine lxe HO (fun Kx hKx=> ?_)
     go_simp
     refine (whole_i s w.heap.size (A.clocks k) _ hq.1 (by omega) _ (LL.mod (Mod.refl No wk).drew (fun _ _ h=> h))).mono ?_;rintro e w5 ⟨rfl,T5,m5⟩
     have m5' :Mod (One s) wk w5:=Mod.trans (Mod.refl (One s) wk).drew m5 (fun _ _ h=> h)
     have I5:=I.next m5' T5
     have O5:w5.ownsRow w.heap.size 3 1 (.slice vo k vc) k (ipl A.clocks k):=ownsRow_mod O0 m5' (fun b hb e=> by have:=ol b hb;have:b=s:=e;omega)
     have q4:=mS _ (m5'.mono (fun b _ h=> .inl h))
     have lx5:=Row.lt I5.hd
     have z5:=m5'.size
     refine hKx _ _ (.inr q4) ?_
     clear hKx Kx
     (refine lxe HO (fun K hK=> ?_);go_simp;refine hK _ _ ?_ ?_;all_goals clear hK K)
     ·exact .inr (by go_simp)
     refine lxe HO (fun Kx hKx=> ?_)
     refine step_app_c 3 _ 1 8 Tryz.infoInt rfl _ _ 44 rfl Tryz.underlying44 rfl (by decide) (by decide) [.int .i64 (A.clocks k)] rfl (by simp [Value.oneCell']) w.heap.size (.slice vo k vc) k (ipl A.clocks k) _ _ rfl rfl (by simp;omega) (by omega) (by (repeat first|(with_reducible exact O5)|(with_reducible refine World.ownsRow.drew ?_)|(with_reducible refine World.ownsRow.alloc ?_ _))) (row_newL' w5 _ [_] _ rfl) ?_;intro gs ct wA hA
     have mA:Mod (fun b=> b=s∨(Value.slice vo k vc).ownBlock=some b) wk wA:=Mod.trans ((m5'.mono (fun b _ h=> Or.inl h)).alloc (.cells #[.int .i64 (A.clocks k)] 3)) (hA.mod.mono (fun b _ h=> Or.inr h)) (fun _ _ h=> h)
     have HA:=I.hd.mod mA (fun h=> h.elim (fun h=> by omega) nx0)
     have lA:=Row.lt HA
     have fA:=Row.free HA 4
     have eA:=mS _ mA
     refine hKx _ _ (.inr eA) ?_
     clear hKx Kx
     (repeat (first|(refine lxp HO (v:=?_) (fun w'=> ?_) ?_;rotate_left;(focus (go_simp;(try exact rfl);done));try go_simp)|(refine lxr HO (v:=?_) (fun w' hC'=> ?_) ?_;rotate_left;(focus (obtain c1':=hC';go_simp;(try exact rfl);done));try go_simp)|(refine lxo HO ?_;try go_simp)))
     (refine lxe HO (fun K hK=> ?_);go_simp;refine hK _ _ (.inl (by rfl)) ?_;clear hK K)
     refine wpL_nil ?_
     obtain ⟨pv',ow',J,hpv⟩:=I5.push .cl (by decide) ev (n:=k) rfl (W:=(w5.alloc (.cells #[.int .i64 (A.clocks k)] 3))) ((Mod.refl No w5).alloc _) hA (ipl_succ _ k) (cnt' :=cn A.C A.G (k+1) 0 0 0 0 0) (fun u=> by cases u <;> simp [cn])
     go_wp2
     exact ⟨⟨k+1,pv',ow',by go_num,by omega,J,fun g=> by rw [hpv];exact hpn g⟩,by simp only [RowKit.intOf];omega⟩
    ·obtain rfl:k=A.C:=by omega
     have i1:¬((A.C:Int) < A.C):=by omega
     have c1:=I.hd.cL 1 _ (by have:=I.hd.lt;omega) rfl
     have lx:=Row.lt I.hd
     rw [Lcl_end] at I
     go_wp2
     go_loopw [79] (fun sk wr=> ∃ (k:Nat) (pv:SOwn→Value) (ow:Nat→SOwn),sk= .int .i64 k∧k≤A.C∧SI w wr s xs w.heap.size nx A (cn A.C A.G A.C k 0 0 0 0) pv ow (Lcu A k)∧∀ g,pv (.si g)= .slice none 0 0) (fun sk _=> A.C - (RowKit.intOf sk).toNat)
     case atStart=> exact ⟨0,pv,ow,rfl,by omega,I,hpn⟩
     case round=>
      clear I
      obtain ⟨wk,rfl⟩:∃ W,W=wr:=⟨wr,rfl⟩
      obtain ⟨k,pv,ow,rfl,hk,I,hpn⟩:=hrel
      by_cases hkn:k < A.C
      ·have i1:(k:Int) < A.C:=by omega
       have hq:=HR.out.1.cu k hkn
       have i2:IntKind.i64.wrap ((k:Int)+1)=k+1:=by rw [IntKind.wrap_i64];omega
       obtain ⟨vo,vc,ev,O0,nx0,_⟩:=I.own .cu (n:=k) rfl
       have ol:∀ b,(Value.slice vo k vc).ownBlock=some b→b < wk.heap.size∧w.heap.size≤b:=fun b hb=> I.own_lt .cu (by rw [ev];exact hb)
       have LL:=I.src
       rw [Lcu_cons A k hkn] at LL
       have mS:∀ w',Mod (fun b=> b=s∨(Value.slice vo k vc).ownBlock=some b) wk w' →w'.cell? ⟨xs,5,none⟩=some (.slice vo k vc):=fun w' hm=> by
        have H1:=I.hd.mod hm (fun h=> h.elim (fun h=> by omega) nx0)
        unfold HD at H1
        rw [ev] at H1
        exact H1.cell (i:=5) (by omega)
       have y4:=mS _ (Mod.refl _ wk)
       have lx:=Row.lt I.hd
       have lwk:w.heap.size≤wk.heap.size:=by have:=I.p.mod.size;omega
       go_upto_region 18 with fail
       refine wp_region_chain (fun w' => w'.cell? ⟨xs,5,none⟩=some (.slice vo k vc)) [6,7,8,11] [9,10] [11] (rds [0,1,2,3,4,5] (.ef 6 (.ef 7 (.ef 8 (rds [9,10] (.ef 11 .nil)))))) (by kernel_rfl) (by kernel_rfl) y4 ?_
       intro OO hO
       have HO:=Lib.hid hO
       clear hO
       simp only [rds]
       (repeat (first|(refine lxp HO (v:=?_) (fun w'=> ?_) ?_;rotate_left;(focus (go_simp;(try exact rfl);done));try go_simp)|(refine lxr HO (v:=?_) (fun w' hC'=> ?_) ?_;rotate_left;(focus (obtain c1':=hC';go_simp;(try exact rfl);done));try go_simp)|(refine lxo HO ?_;try go_simp)))
       refine lxe HO (fun Kx hKx=> ?_)
       go_simp
       refine (whole_i s w.heap.size (A.current k) _ hq.1 (by omega) _ (LL.mod (Mod.refl No wk).drew (fun _ _ h=> h))).mono ?_;rintro e w5 ⟨rfl,T5,m5⟩
       have m5' :Mod (One s) wk w5:=Mod.trans (Mod.refl (One s) wk).drew m5 (fun _ _ h=> h)
       have I5:=I.next m5' T5
       have O5:w5.ownsRow w.heap.size 3 1 (.slice vo k vc) k (ipl A.current k):=ownsRow_mod O0 m5' (fun b hb e=> by have:=ol b hb;have:b=s:=e;omega)
       have q4:=mS _ (m5'.mono (fun b _ h=> .inl h))
       have lx5:=Row.lt I5.hd
       have z5:=m5'.size
       refine hKx _ _ (.inr q4) ?_
       clear hKx Kx
       (refine lxe HO (fun K hK=> ?_);go_simp;refine hK _ _ ?_ ?_;all_goals clear hK K)
       ·exact .inr (by go_simp)
       refine lxe HO (fun Kx hKx=> ?_)
       refine step_app_c 3 _ 1 8 Tryz.infoInt rfl _ _ 44 rfl Tryz.underlying44 rfl (by decide) (by decide) [.int .i64 (A.current k)] rfl (by simp [Value.oneCell']) w.heap.size (.slice vo k vc) k (ipl A.current k) _ _ rfl rfl (by simp;omega) (by omega) (by (repeat first|(with_reducible exact O5)|(with_reducible refine World.ownsRow.drew ?_)|(with_reducible refine World.ownsRow.alloc ?_ _))) (row_newL' w5 _ [_] _ rfl) ?_;intro gs ct wA hA
       have mA:Mod (fun b=> b=s∨(Value.slice vo k vc).ownBlock=some b) wk wA:=Mod.trans ((m5'.mono (fun b _ h=> Or.inl h)).alloc (.cells #[.int .i64 (A.current k)] 3)) (hA.mod.mono (fun b _ h=> Or.inr h)) (fun _ _ h=> h)
       have HA:=I.hd.mod mA (fun h=> h.elim (fun h=> by omega) nx0)
       have lA:=Row.lt HA
       have fA:=Row.free HA 5
       have eA:=mS _ mA
       refine hKx _ _ (.inr eA) ?_
       clear hKx Kx
       (repeat (first|(refine lxp HO (v:=?_) (fun w'=> ?_) ?_;rotate_left;(focus (go_simp;(try exact rfl);done));try go_simp)|(refine lxr HO (v:=?_) (fun w' hC'=> ?_) ?_;rotate_left;(focus (obtain c1':=hC';go_simp;(try exact rfl);done));try go_simp)|(refine lxo HO ?_;try go_simp)))
       (refine lxe HO (fun K hK=> ?_);go_simp;refine hK _ _ (.inl (by rfl)) ?_;clear hK K)
       refine wpL_nil ?_
       obtain ⟨pv',ow',J,hpv⟩:=I5.push .cu (by decide) ev (n:=k) rfl (W:=(w5.alloc (.cells #[.int .i64 (A.current k)] 3))) ((Mod.refl No w5).alloc _) hA (ipl_succ _ k) (cnt' :=cn A.C A.G A.C (k+1) 0 0 0 0) (fun u=> by cases u <;> simp [cn])
       go_wp2
       exact ⟨⟨k+1,pv',ow',by go_num,by omega,J,fun g=> by rw [hpv];exact hpn g⟩,by simp only [RowKit.intOf];omega⟩
      ·obtain rfl:k=A.C:=by omega
       have i1:¬((A.C:Int) < A.C):=by omega
       have LL:=I.src
       rw [Lcu_end,Lt_eq] at LL
       have hnt:ntk A≤1:=by unfold ntk;split <;> omega
       go_wp2_with fail
       refine (whole_ok s w.heap.size (ntk A) _ (by omega) _ LL).mono ?_;rintro e w5 ⟨rfl,T5,m5⟩
       have I5:=I.next m5 T5
       clear I LL T5 m5
       go_wp2
       go_loopw [95,7] (fun sk s7 wr=> ∃ (j:Nat) (v7:Int) (pv:SOwn→Value) (ow:Nat→SOwn),sk= .int .i64 j∧s7= .int .i64 v7∧j≤ntk A∧(j=0→v7=0)∧SI w wr s xs w.heap.size nx A (cn A.C A.G A.C A.C j 0 0 0) pv ow (Ltk A j)∧∀ g,pv (.si g)= .slice none 0 0) (fun sk _ _=> ntk A - (RowKit.intOf sk).toNat)
       case atStart=> exact ⟨0,0,pv,ow,rfl,rfl,by omega,fun _=> rfl,I5,hpn⟩
       case round=>
        clear I5
        obtain ⟨wk,rfl⟩:∃ W,W=wr:=⟨wr,rfl⟩
        obtain ⟨j,v7,pv,ow,rfl,rfl,hj,hv7,I,hpn⟩:=hrel
        by_cases hjn:j < ntk A
        ·have i1:(j:Int) < ntk A:=by omega
         obtain rfl:v7=0:=hv7 (by omega)
         have hj0:j=0:=by omega
         obtain ⟨t,ht⟩:∃ t,A.task=some t:=by
          cases hA:A.task with
          |none=> unfold ntk at hjn;rw [hA] at hjn;simp at hjn
          |some t=> exact ⟨t,rfl⟩
         have HT:=Lib.hid (And.intro ht (HR.out.1.tk t ht))
         have i2:IntKind.i64.wrap ((j:Int)+1)=j+1:=by rw [IntKind.wrap_i64];omega
         have i3:wrap64 t.id=t.id:=by have:=HT.out;simp only [wrap64];omega
         have i4:IntKind.u32.wrap t.r=t.r:=by rw [IntKind.wrap_u32];have:=HT.out;omega
         have i5:t.id≤65535:=HT.out.2.2.1
         have i6:(if t.id≤65535 then t.id else 65535)=t.id:=if_pos i5
         obtain ⟨vo,vc,ev,O0,nx0,_⟩:=I.own .tk (n:=j) rfl
         have ol:∀ b,(Value.slice vo j vc).ownBlock=some b→b < wk.heap.size∧w.heap.size≤b:=fun b hb=> I.own_lt .tk (by rw [ev];exact hb)
         have LL:=I.src
         have HJ:=Lib.hid hj0
         rw [hj0,Ltk_cons A t ht] at LL
         clear ht hj0 hv7
         obtain ⟨xr,hxr⟩:∃ xr:Int,xr=if t.ready then 1 else 0:=⟨_,rfl⟩
         have e0:(if t.ready=true then 1 else 0:Nat)=xr.toNat:=by rw [hxr];split <;> rfl
         have d1:decide (xr=1)=t.ready:=by rw [hxr];cases t.ready <;> rfl
         have d2:(xr==1)=t.ready:=by rw [hxr];cases t.ready <;> rfl
         have hx0:0≤xr∧xr≤1:=by rw [hxr];split <;> omega
         rw [e0] at LL
         clear hxr e0
         go_wp2_with fail
         refine (whole_i s w.heap.size t.id _ (by have:=HT.out;omega) (by omega) _ LL).mono ?_;rintro e wa ⟨rfl,Ta,ma⟩
         clear LL
         go_wp2_with fail
         refine (whole_i s w.heap.size t.group _ (by have:=HT.out;omega) (by have:=HT.out;omega) _ Ta).mono ?_;rintro e wb ⟨rfl,Tb,mb⟩
         have m:=Mod.trans ma mb (fun _ _ h=> h)
         clear Ta ma mb
         go_wp2_with fail
         refine (whole_i s w.heap.size t.weight _ (by have:=HT.out;omega) (by have:=HT.out;omega) _ Tb).mono ?_;rintro e wd ⟨rfl,Ta,ma⟩
         have m' :=Mod.trans m ma (fun _ _ h=> h)
         clear Tb m ma
         go_wp2_with fail
         refine (whole_i s w.heap.size t.cpu _ (by have:=HT.out;omega) (by have:=HT.out;omega) _ Ta).mono ?_;rintro e we ⟨rfl,Tb,mb⟩
         have m:=Mod.trans m' mb (fun _ _ h=> h)
         clear Ta m' mb
         go_wp2_with fail
         refine (next_i s w.heap.size t.mask 18446744073709551615 _ (by have:=HT.out;omega) (by have:=HT.out;omega) _ Tb).mono ?_;rintro e wf ⟨rfl,Ta,ma⟩
         have m' :=Mod.trans m ma (fun _ _ h=> h)
         clear Tb m ma
         go_upto_region 25 with fail
         have X0:Row (wf.alloc (.cells #[.int .i64 t.id, .int .i64 t.group, .int .i64 t.weight, .int .i64 t.cpu, .int .u64 t.mask, .bool false, .int .u64 0, .int .u32 0] 119)) wf.heap.size 8 (fl [.int .i64 t.id, .int .i64 t.group, .int .i64 t.weight, .int .i64 t.cpu, .int .u64 t.mask, .bool false, .int .u64 0, .int .u32 0]):=row_newL wf [_,_,_,_,_,_,_,_] _
         refine wp_world (fun V=> V.heap.size=wf.heap.size+1∧Mod (One s) wk V∧SrcAt V s w.heap.size (xr.toNat::t.v.toNat::t.r.toNat::Ltk A 1)∧Row V wf.heap.size 8 (fl [.int .i64 t.id, .int .i64 t.group, .int .i64 t.weight, .int .i64 t.cpu, .int .u64 t.mask, .bool false, .int .u64 0, .int .u32 0])) ⟨by simp,m'.alloc _,Ta.mod ((Mod.refl No wf).alloc _) (fun _ _ h=> h),X0⟩ ?_
         intro V ⟨zV,mV,TV,XV⟩
         obtain ⟨tb,htb⟩:∃ tb,tb=wf.heap.size:=⟨_,rfl⟩
         have htk:wk.heap.size≤tb:=by rw [htb];exact m'.size
         rw [←htb] at XV zV ⊢
         have lwk:w.heap.size≤wk.heap.size:=by have:=I.p.mod.size;omega
         clear htb Ta m' X0 wa wb wd we wf
         go_wp2_with fail
         refine (next_i s w.heap.size xr 1 _ hx0.1 hx0.2 _ TV).mono ?_;rintro e wa ⟨rfl,Ta,ma⟩
         clear TV
         go_wp2_with fail
         refine (next_i s w.heap.size t.v 18446744073709551615 _ (by have:=HT.out;omega) (by have:=HT.out;omega) _ Ta).mono ?_;rintro e wb ⟨rfl,Tb,mb⟩
         have m:=Mod.trans ma mb (fun _ _ h=> h)
         clear Ta ma mb
         go_wp2_with fail
         refine (next_i s w.heap.size t.r 4294967295 _ (by have:=HT.out;omega) (by have:=HT.out;omega) _ Tb).mono ?_;rintro e wd ⟨rfl,Ta,ma⟩
         have m' :=Mod.trans m ma (fun _ _ h=> h)
         clear Tb m ma
         have XD:=XV.mod m' (by show ¬tb=s;omega)
         have y5:=XD.cL 5 _ (by have:=XD.lt;omega) rfl
         have y6:=XD.cL 6 _ (by have:=XD.lt;omega) rfl
         have y7:=XD.cL 7 _ (by have:=XD.lt;omega) rfl
         have g5:=XD.free 5
         have g6:=XD.free 6
         have g7:=XD.free 7
         have lxd:=XD.lt
         go_upto_region 26 with fail
         have hz:=m'.size
         refine wp_world (fun U=> SI w U s xs w.heap.size nx A (cn A.C A.G A.C A.C j 0 0 0) pv ow (Ltk A 1)∧Row U tb 8 (fl (tkc t))∧U.ownsRow w.heap.size 119 8 (.slice vo j vc) j (tpl A j)) ?_ ?_
         ·have mm:Mod (fun b=> b=tb) wd (((wd.setCell { block:=tb,off:=5 } (Value.bool t.ready)).setCell { block:=tb,off:=6 } (Value.int IntKind.u64 t.v)).setCell { block:=tb,off:=7 } (Value.int IntKind.u32 t.r)):=(((Mod.refl (fun b=> b=tb) wd).setCell (p:=⟨tb,5,none⟩) (.inr rfl) _).setCell (p:=⟨tb,6,none⟩) (.inr rfl) _).setCell (p:=⟨tb,7,none⟩) (.inr rfl) _
          have mk:Mod (One s) wk (((wd.setCell { block:=tb,off:=5 } (Value.bool t.ready)).setCell { block:=tb,off:=6 } (Value.int IntKind.u64 t.v)).setCell { block:=tb,off:=7 } (Value.int IntKind.u32 t.r)):=Mod.trans (Mod.trans mV m' (fun _ _ h=> h)) mm (fun b hb e=> by have:b=tb:=e;omega)
          refine ⟨I.next mk (Ta.mod mm (fun b hb e=> by have:b=tb:=e;omega)), ?_,ownsRow_mod O0 mk (fun b hb e=> by have:=ol b hb;have:b=s:=e;omega)⟩
          exact ((((XD.set (i:=5) (by omega) _).set (i:=6) (by omega) _).set (i:=7) (by omega) _).congr (fun i hi=> by rcases (by omega:i=0∨i=1∨i=2∨i=3∨i=4∨i=5∨i=6∨i=7) with rfl|rfl|rfl|rfl|rfl|rfl|rfl|rfl <;> rfl))
         intro U ⟨IU,XU,OU⟩
         have lxk:=Row.lt I.hd
         clear XD y5 y6 y7 g5 g6 g7 lxd I O0 Ta XV
         have mS:∀ w',Mod (fun b=> (Value.slice vo j vc).ownBlock=some b) U w' →w'.cell? ⟨xs,6,none⟩=some (.slice vo j vc)∧w'.cell? ⟨tb,0,none⟩=some (.int .i64 t.id)∧w'.cell? ⟨tb,1,none⟩=some (.int .i64 t.group)∧w'.cell? ⟨tb,2,none⟩=some (.int .i64 t.weight)∧w'.cell? ⟨tb,3,none⟩=some (.int .i64 t.cpu)∧w'.cell? ⟨tb,4,none⟩=some (.int .u64 t.mask)∧w'.cell? ⟨tb,5,none⟩=some (.bool t.ready)∧w'.cell? ⟨tb,6,none⟩=some (.int .u64 t.v)∧w'.cell? ⟨tb,7,none⟩=some (.int .u32 t.r):=fun w' hm=> by
          have H1:=IU.hd.mod hm nx0
          have R1:=XU.mod hm (fun h=> by have:=ol _ h;omega)
          unfold HD at H1
          rw [ev] at H1
          exact ⟨H1.cell (i:=6) (by omega),R1.cell (i:=0) (by omega),R1.cell (i:=1) (by omega),R1.cell (i:=2) (by omega),R1.cell (i:=3) (by omega),R1.cell (i:=4) (by omega),R1.cell (i:=5) (by omega),R1.cell (i:=6) (by omega),R1.cell (i:=7) (by omega)⟩
         have yy:=mS _ (Mod.refl _ U)
         have lxu:=Row.lt IU.hd
         have ltu:=XU.lt
         have lwU:w.heap.size≤U.heap.size:=by have:=IU.p.mod.size;omega
         refine wp_region_chain (fun w' => w'.cell? ⟨xs,6,none⟩=some (.slice vo j vc)∧w'.cell? ⟨tb,0,none⟩=some (.int .i64 t.id)∧w'.cell? ⟨tb,1,none⟩=some (.int .i64 t.group)∧w'.cell? ⟨tb,2,none⟩=some (.int .i64 t.weight)∧w'.cell? ⟨tb,3,none⟩=some (.int .i64 t.cpu)∧w'.cell? ⟨tb,4,none⟩=some (.int .u64 t.mask)∧w'.cell? ⟨tb,5,none⟩=some (.bool t.ready)∧w'.cell? ⟨tb,6,none⟩=some (.int .u64 t.v)∧w'.cell? ⟨tb,7,none⟩=some (.int .u32 t.r)) [6,7,10] [8,9] [10] (rds [0,1,2,3,4,5] (.ef 6 (.ef 7 (rds [8,9] (.ef 10 .nil))))) (by kernel_rfl) (by kernel_rfl) yy ?_
         clear yy
         intro OO hO
         have HO:=Lib.hid hO
         clear hO
         simp only [rds]
         (repeat (first|(refine lxp HO (v:=?_) (fun w'=> ?_) ?_;rotate_left;(focus (go_simp;(try exact rfl);done));try go_simp)|(refine lxr HO (v:=?_) (fun w' hC'=> ?_) ?_;rotate_left;(focus (obtain ⟨c1',c2',c3',c4',c5',c6',c7',c8',c9'⟩:=hC';go_simp;(try exact rfl);done));try go_simp)|(refine lxo HO ?_;try go_simp)))
         (refine lxe HO (fun K hK=> ?_);go_simp;refine hK _ _ ?_ ?_;all_goals clear hK K)
         ·exact .inr (mS _ ((Mod.refl _ _).drew.alloc _))
         refine lxe HO (fun Kx hKx=> ?_)
         refine step_app_c 119 _ 8 64 Tryz.infoTask rfl _ _ 45 rfl Tryz.underlying45 rfl (by decide) (by decide) (tkc t) rfl (by simp [tkc,Value.oneCell']) w.heap.size (.slice vo j vc) j (tpl A j) _ _ rfl rfl (by simp;omega) (by omega) (by (repeat first|(with_reducible exact OU)|(with_reducible refine World.ownsRow.drew ?_)|(with_reducible refine World.ownsRow.alloc ?_ _))) (row_newL' U.drew _ [_,_,_,_,_,_,_,_] _ rfl) ?_;intro gs ct wA hA
         have mA:Mod (fun b=> (Value.slice vo j vc).ownBlock=some b) U wA:=Mod.trans ((Mod.refl _ _).drew.alloc _) hA.mod (fun _ _ h=> h)
         have HA:=IU.hd.mod mA nx0
         have lA:=Row.lt HA
         have fA:=Row.free HA 6
         have eA:=mS _ mA
         refine hKx _ _ (.inr eA) ?_
         clear hKx Kx
         (repeat (first|(refine lxp HO (v:=?_) (fun w'=> ?_) ?_;rotate_left;(focus (go_simp;(try exact rfl);done));try go_simp)|(refine lxr HO (v:=?_) (fun w' hC'=> ?_) ?_;rotate_left;(focus (obtain ⟨c1',c2',c3',c4',c5',c6',c7',c8',c9'⟩:=hC';go_simp;(try exact rfl);done));try go_simp)|(refine lxo HO ?_;try go_simp)))
         (refine lxe HO (fun K hK=> ?_);go_simp;refine hK _ _ (.inl (by rfl)) ?_;clear hK K)
         refine wpL_nil ?_
         have hcsz:tpl A (j+1)=tpl A j++tkc t:=by
          unfold tpl
          rw [if_neg (by omega),if_pos HJ.out,HT.out.1]
          rfl
         obtain ⟨pv',ow',J,hpv⟩:=IU.push .tk (by decide) ev (n:=j) rfl (W:=(U.drew.alloc (.cells #[.int .i64 t.id, .int .i64 t.group, .int .i64 t.weight, .int .i64 t.cpu, .int .u64 t.mask, .bool t.ready, .int .u64 t.v, .int .u32 t.r] 119))) ((Mod.refl No U).drew.alloc _) hA hcsz (cnt' :=cn A.C A.G A.C A.C (j+1) 0 0 0) (fun u=> by cases u <;> simp [cn])
         clear eA HA fA lA mA hA mS XU OU IU
         go_upto_region 27 with fail
         refine wp_world (fun U=> SI w U s xs w.heap.size nx A (cn A.C A.G A.C A.C (j+1) 0 0 0) pv' ow' (Ltk A 1)) J ?_
         clear J
         intro V JV
         have k1:=JV.src.ok1.1
         have k2:=JV.src.ok1.2
         have k3:=JV.src.lt
         go_wp2
         exact ⟨⟨j+1,_,pv',ow',by go_num,rfl,by omega,fun h=> by omega,by rw [HJ.out];exact (by rw [HJ.out] at JV;exact JV.next ((Mod.refl (One s) V).setCell (p:=⟨s,1,none⟩) (.inr rfl) _) JV.src.setOk),fun g=> by rw [hpv];exact hpn g⟩,by simp only [RowKit.intOf];omega⟩
        ·obtain rfl:j=ntk A:=by omega
         have i1:¬((ntk A:Int) < ntk A):=by omega
         rw [Ltk_end] at I
         obtain ⟨po,pc,pe,_⟩:=I.own .gb (n:=A.G) rfl
         have hh:=I.hd
         unfold HD at hh
         rw [pe] at hh
         have c3:=hh.cL 3 _ (by have:=I.hd.lt;omega) rfl
         have lx:=Row.lt I.hd
         have IL:SI w wk s xs w.heap.size nx A (cn A.C A.G A.C A.C (ntk A) 0 0 0) pv ow (Lsp A 0):=I
         clear hh I
         go_wp2
         go_loopw [152] (fun sk wr=> ∃ (K:Nat) (pv:SOwn→Value) (ow:Nat→SOwn),sk= .int .i64 K∧K≤A.G∧SI w wr s xs w.heap.size nx A (cn A.C A.G A.C A.C (ntk A) K K 0) pv ow (Lsp A K)∧∀ g,K≤g→pv (.si g)= .slice none 0 0) (fun sk _=> A.G - (RowKit.intOf sk).toNat)
         case atStart=> exact ⟨0,pv,ow,rfl,by omega,IL,fun g _=> hpn g⟩
         case round=>
          clear IL pe c3 lx hv7 hpn
          obtain ⟨wk,rfl⟩:∃ W,W=wr:=⟨wr,rfl⟩
          obtain ⟨K,pv,ow,rfl,hK,I,hpn⟩:=hrel
          by_cases hKn:K < A.G
          ·have i3:(K:Int) < A.G:=by omega
           have i2:IntKind.i64.wrap ((K:Int)+1)=K+1:=by rw [IntKind.wrap_i64];omega
           have c1:=I.hd.cL 1 _ (by have:=I.hd.lt;omega) rfl
           have lx:=Row.lt I.hd
           rw [Lsp_cons A K hKn] at I
           go_wp2
           go_loopw [160,10] (fun sk s10 wr=> ∃ (c:Nat) (pv:SOwn→Value) (ow:Nat→SOwn) (o:Option Addr) (cc:Nat),sk= .int .i64 c∧s10= .slice o c cc∧pv (.si K)= .slice o c cc∧c≤A.C∧SI w wr s xs w.heap.size nx A (cn A.C A.G A.C A.C (ntk A) K K c) pv ow (Lsq A K c)∧∀ g,K < g→pv (.si g)= .slice none 0 0) (fun sk _ _=> A.C - (RowKit.intOf sk).toNat)
           case atStart=> exact ⟨0,pv,ow,_,_,rfl,rfl,hpn K (Nat.le_refl _),by omega,I,fun g hg=> hpn g (by omega)⟩
           case round=>
            clear I c1 lx hpn
            obtain ⟨wk,rfl⟩:∃ W,W=wr:=⟨wr,rfl⟩
            obtain ⟨c,pv,ow,o,cc,rfl,rfl,pe,hc,I,hpn⟩:=hrel
            by_cases hcn:c < A.C
            ·have j1:(c:Int) < A.C:=by omega
             have j2:IntKind.i64.wrap ((c:Int)+1)=c+1:=by rw [IntKind.wrap_i64];omega
             have hq:=Lib.hid (HR.out.1.sp K c hKn hcn)
             have O0:wk.ownsRow w.heap.size 122 3 (.slice o c cc) c (spl (A.spots K) c):=by
              have:=I.p.own (.si K)
              rw [pe,show cn A.C A.G A.C A.C (ntk A) K K c (.si K)=c from by simp [cn]] at this
              exact this
             have ol:∀ b,(Value.slice o c cc).ownBlock=some b→b < wk.heap.size∧w.heap.size≤b:=fun b hb=> I.own_lt (.si K) (by rw [pe];exact hb)
             have lwk:w.heap.size≤wk.heap.size:=by have:=I.p.mod.size;omega
             have i4:IntKind.u32.wrap (A.spots K c).2.1=(A.spots K c).2.1:=by rw [IntKind.wrap_u32];have:=hq.out;omega
             obtain ⟨q1,hq1⟩:∃ q1,q1=(A.spots K c).1:=⟨_,rfl⟩
             obtain ⟨q2,hq2⟩:∃ q2,q2=(A.spots K c).2.1:=⟨_,rfl⟩
             obtain ⟨q3,hq3⟩:∃ q3,q3=(A.spots K c).2.2:=⟨_,rfl⟩
             have HQ:=Lib.hid (And.intro hq1 (And.intro hq2 hq3))
             rw [←hq2] at i4
             rw [←hq1,←hq2,←hq3] at hq
             clear hq1 hq2 hq3
             have lsz:wk.heap.size≠s:=by omega
             go_upto_if 163 with fail
             go_cut [11] (fun s11 wx=> s11=ptr wk.heap.size∧Row wx wk.heap.size 3 (fl [.int .u64 q1, .int .u32 q2, .int .u64 0])∧Mod (One s) wk wx∧SrcAt wx s w.heap.size (q3.toNat::Lsq A K (c+1)))
             case first=>
              by_cases hk0:0 < K
              ·have d1:(0:Int) < K:=by omega
               have LL:=I.src
               rw [Lsq_cons A K c hcn hk0,←HQ.out.1,←HQ.out.2.1,←HQ.out.2.2] at LL
               go_wp2_with fail
               refine (next_i s w.heap.size q1 18446744073709551615 _ (by have:=hq.out;omega) (by have:=hq.out;omega) _ (LL.mod ((Mod.refl No wk).alloc _) (fun _ _ h=> h))).mono ?_;rintro e w5 ⟨rfl,T5,m5⟩
               go_wp2_with fail
               refine (next_i s w.heap.size q2 4294967295 _ (by have:=hq.out;omega) (by have:=hq.out;omega) _ T5).mono ?_;rintro e w6 ⟨rfl,T6,m6⟩
               have m56:=Mod.trans m5 m6 (fun _ _ h=> h)
               have X6:Row w6 wk.heap.size 3 (fl [.int .u64 0, .int .u32 0, .int .u64 0]):=Row.mod (S:=One s) (row_newL wk [_,_,_] _) m56 (by show ¬wk.heap.size=s;omega)
               have y0:=X6.cL 0 _ (by omega) rfl
               have y1:=X6.cL 1 _ (by omega) rfl
               have g0:=X6.free 0
               have g1:=X6.free 1
               have lx:=X6.lt
               go_wp2_with fail
               go_meet
               have mm:Mod (fun b=> b=wk.heap.size) w6 ((w6.setCell { block:=wk.heap.size,off:=0 } (Value.int IntKind.u64 q1)).setCell { block:=wk.heap.size,off:=1 } (Value.int IntKind.u32 q2)):=((Mod.refl (fun b=> b=wk.heap.size) w6).setCell (p:=⟨wk.heap.size,0,none⟩) (.inr rfl) _).setCell (p:=⟨wk.heap.size,1,none⟩) (.inr rfl) _
               refine ⟨rfl,((X6.set (i:=0) (by omega) _).set (i:=1) (by omega) _).congr (fun i hi=> by rcases (by omega:i=0∨i=1∨i=2) with rfl|rfl|rfl <;> rfl),Mod.trans (Mod.trans ((Mod.refl (One s) wk).alloc _) m56 (fun _ _ h=> h)) mm (fun b hb e=> by have:b=wk.heap.size:=e;omega),T6.mod mm (fun b hb e=> by have:b=wk.heap.size:=e;omega)⟩
              ·have d1:¬(0:Int) < K:=by omega
               have LL:=I.src
               rw [Lsq_zero A K c hcn (by omega),←HQ.out.2.2] at LL
               have HE:=Lib.hid (show q1=0∧q2=0 by rw [HQ.out.1,HQ.out.2.1,show K=0 by omega];exact HR.out.2.2.2.1 c hcn)
               clear hk0
               go_wp2_with fail
               go_meet
               exact ⟨rfl,by rw [HE.out.1,HE.out.2];exact row_newL wk [_,_,_] _,(Mod.refl _ _).alloc _,LL.mod ((Mod.refl No wk).alloc _) (fun _ _ h=> h)⟩
             case rest=>
              obtain ⟨wx,rfl⟩:∃ W,W=wc:=⟨wc,rfl⟩
              obtain ⟨rfl,RG,mx,Tx⟩:=hcut
              go_wp2_with fail
              refine (next_i s w.heap.size q3 18446744073709551615 _ (by have:=hq.out;omega) (by have:=hq.out;omega) _ Tx).mono ?_;rintro e w7 ⟨rfl,T7,m7⟩
              have m7' :=Mod.trans mx m7 (fun _ _ h=> h)
              have R7:=RG.mod m7 lsz
              have y0:=R7.cL 0 _ (by have:=R7.lt;omega) rfl
              have y1:=R7.cL 1 _ (by have:=R7.lt;omega) rfl
              have y2:=R7.cL 2 _ (by have:=R7.lt;omega) rfl
              have g2:=R7.free 2
              have l7:=R7.lt
              have I7:=I.next m7' T7
              have O7:w7.ownsRow w.heap.size 122 3 (.slice o c cc) c (spl (A.spots K) c):=ownsRow_mod O0 m7' (fun b hb e=> by have:=ol b hb;have:b=s:=e;omega)
              have lxk:=Row.lt I.hd
              have I_lt:=I.p.lt
              clear mx Tx m7 RG I O0 T7
              go_upto_region 40 with fail
              have hz7:=m7'.size
              refine wp_world (fun U=> SI w U s xs w.heap.size nx A (cn A.C A.G A.C A.C (ntk A) K K c) pv ow (Lsq A K (c+1))∧Row U wk.heap.size 3 (fl [.int .u64 q1, .int .u32 q2, .int .u64 q3])∧U.ownsRow w.heap.size 122 3 (.slice o c cc) c (spl (A.spots K) c)) ?_ ?_
              ·have mm:Mod (fun b=> b=wk.heap.size) w7 (w7.setCell { block:=wk.heap.size,off:=2 } (Value.int IntKind.u64 q3)):=(Mod.refl (fun b=> b=wk.heap.size) w7).setCell (p:=⟨wk.heap.size,2,none⟩) (.inr rfl) _
               have hn:ow wk.heap.size= .no:=Classical.byContradiction fun hh=> by have:=(I_lt _ hh).2;omega
               refine ⟨⟨I7.p.move mm (fun b e=> by have:b=wk.heap.size:=e;rw [this];exact hn) (fun b e=> by have:b=wk.heap.size:=e;omega),I7.hd.mod mm (by show ¬xs=wk.heap.size;omega),I7.src.mod mm (fun b hb e=> by have:b=wk.heap.size:=e;omega),I7.z.mod mm (by show ¬w.heap.size=wk.heap.size;omega),I7.zo,I7.zg,I7.zx⟩, ?_,ownsRow_mod O7 mm (fun b hb e=> by have:=ol b hb;have:b=wk.heap.size:=e;omega)⟩
               exact ((R7.set (i:=2) (by omega) _).congr (fun i hi=> by rcases (by omega:i=0∨i=1∨i=2) with rfl|rfl|rfl <;> rfl))
              intro U ⟨IU,XU,OU⟩
              clear R7 y0 y1 y2 g2 l7 I7 O7
              have y0:=XU.cL 0 _ (by have:=XU.lt;omega) rfl
              have y1:=XU.cL 1 _ (by have:=XU.lt;omega) rfl
              have y2:=XU.cL 2 _ (by have:=XU.lt;omega) rfl
              have l7:=XU.lt
              have sl1:∀ u∈ [Value.int .u64 q1, .int .u32 q2, .int .u64 q3],u.oneCell' =true:=by simp [Value.oneCell']
              have lwU:w.heap.size≤U.heap.size:=by have:=IU.p.mod.size;omega
              have hcs:spl (A.spots K) (c+1)=spl (A.spots K) c++ [.int .u64 q1, .int .u32 q2, .int .u64 q3]:=by rw [spl_succ,HQ.out.1,HQ.out.2.1,HQ.out.2.2]
              have HC:=Lib.hid hcs
              clear hcs
              go_wp2_with (at_builtin;go_must (refine wpList_app_c 122 _ 3 24 Tryz.infoSpot rfl _ _ 103 rfl Tryz.underlying103 rfl (by decide) (by decide) [.int .u64 q1, .int .u32 q2, .int .u64 q3] rfl sl1 w.heap.size (.slice o c cc) c (spl (A.spots K) c) _ _ rfl rfl ?_ ?_ ?_ ?_ ?_);go_must (· simp;omega);go_must (· omega);go_must (· (repeat first|(with_reducible exact OU)|(with_reducible refine World.ownsRow.drew ?_)|(with_reducible refine World.ownsRow.alloc ?_ _)));go_must (· exact row_newL' U _ [_,_,_] _ rfl);go_must (intro gs ct wA hA))
              obtain ⟨pv',ow',J,hpK,hpv⟩:=IU.pushS K pe (n:=c) (by simp [cn]) (by simp [cn]) (W:=U.alloc (.cells #[.int .u64 q1, .int .u32 q2, .int .u64 q3] 122)) ((Mod.refl No U).alloc _) hA HC.out (cnt' :=cn A.C A.G A.C A.C (ntk A) K K (c+1)) (fun u=> by
               cases u with
               |si g=>
                by_cases hg:g=K
                ·subst hg;simp [cn]
                ·simp [cn,hg]
               |_=> simp [cn])
              exact ⟨⟨c+1,pv',ow',_,_,by go_num,rfl,hpK,by omega,J,fun g hg=> by rw [hpv _ (by simp;omega)];exact hpn g hg⟩,by simp only [RowKit.intOf];omega⟩
            ·obtain rfl:c=A.C:=by omega
             have j1:¬((A.C:Int) < A.C):=by omega
             rw [Lsq_end] at I
             obtain ⟨vo,vc,ev,O0,nx0,_⟩:=I.own .so (n:=K) rfl
             have hh:=I.hd
             unfold HD at hh
             rw [ev] at hh
             have c7:=hh.cL 7 _ (by have:=I.hd.lt;omega) rfl
             have lx:=Row.lt I.hd
             have lwk:w.heap.size≤wk.heap.size:=by have:=I.p.mod.size;omega
             clear hh
             have sl1:∀ u∈ [Value.slice o A.C cc],u.oneCell' =true:=by simp [Value.oneCell']
             have OS:wk.ownsRow w.heap.size 103 1 (.slice vo K vc) K (spsl pv K):=O0
             have hcs:spsl pv (K+1)=spsl pv K++ [.slice o A.C cc]:=by rw [spsl_succ,pe]
             have HC:=Lib.hid hcs
             have hX:=I.hd
             clear hcs
             go_wp2_with (at_builtin;go_must (refine wpList_app_c 103 _ 1 24 Tryz.infoSSpot rfl _ _ 46 rfl Tryz.underlying46 rfl (by decide) (by decide) [.slice o A.C cc] rfl sl1 w.heap.size (.slice vo K vc) K (spsl pv K) _ _ rfl rfl ?_ ?_ ?_ ?_ ?_);go_must (· simp;omega);go_must (· omega);go_must (· (repeat first|(with_reducible exact OS)|(with_reducible refine World.ownsRow.drew ?_)|(with_reducible refine World.ownsRow.alloc ?_ _)));go_must (· exact row_one wk _ _ _ rfl);go_must (intro gs ct wA hA);go_must (have nB:=Appd.row hA (Row.alloc hX _) (fun h=> nx0 h));go_must (have lB:=nB.lt);go_must (have fB:=nB.free 7);have j7:=nB.cell (i:=7) (by omega))
             obtain ⟨pv',ow',J,hpv⟩:=I.push .so (by decide) ev (n:=K) rfl (W:=wk.alloc (.cells #[.slice o A.C cc] 103)) ((Mod.refl No wk).alloc _) hA HC.out (cnt' :=cn A.C A.G A.C A.C (ntk A) (K+1) (K+1) 0) (fun u=> by
               cases u with
               |si g=>
                by_cases hg:g=K
                ·subst hg;simp [cn]
                ·by_cases hg2:g < K
                 ·simp [cn,hg2,show g < K+1 by omega]
                 ·simp [cn,hg2,hg,show ¬g < K+1 by omega]
               |_=> simp [cn])
             refine ⟨⟨K+1,pv',ow',by go_num,by omega,J,fun g hg=> by rw [hpv];exact hpn g (by omega)⟩,by simp only [RowKit.intOf];omega⟩
          ·obtain rfl:K=A.G:=by omega
           have i3:¬((A.G:Int) < A.G):=by omega
           rw [Lsp_end] at I
           have hR:=HR.out.1
           have hG1:=hR.G1
           have hC1:=hR.C1
           obtain ⟨B',eB,St,hge,hgc⟩:=I.p.done (by omega) (by omega) rfl rfl rfl rfl rfl (fun g hg=> if_pos hg)
           obtain ⟨o1,k1,e1,_⟩:=I.own .gb (n:=A.G) rfl
           obtain ⟨o2,k2,e2,_⟩:=I.own .cl (n:=A.C) rfl
           obtain ⟨o3,k3,e3,_⟩:=I.own .cu (n:=A.C) rfl
           obtain ⟨o4,k4,e4,_⟩:=I.own .tk (n:=ntk A) rfl
           obtain ⟨o5,k5,e5,_⟩:=I.own .so (n:=A.G) rfl
           have hX:=I.hd
           unfold HD at hX
           rw [e1,e2,e3,e4,e5] at hX eB
           have j0:=hX.cL 0 _ (by omega) rfl
           have j1:=hX.cL 1 _ (by omega) rfl
           have j2:=hX.cL 2 _ (by omega) rfl
           have j3:=hX.cL 3 _ (by omega) rfl
           have j4:=hX.cL 4 _ (by omega) rfl
           have j5:=hX.cL 5 _ (by omega) rfl
           have j6:=hX.cL 6 _ (by omega) rfl
           have j7:=hX.cL 7 _ (by omega) rfl
           have jl:=hX.lt
           have zR:=I.z
           have z0:=zR.cL 0 _ (by omega) rfl
           have z1:=zR.cL 1 _ (by omega) rfl
           have z2:=zR.cL 2 _ (by omega) rfl
           have z3:=zR.cL 3 _ (by omega) rfl
           have z4:=zR.cL 4 _ (by omega) rfl
           have z5:=zR.cL 5 _ (by omega) rfl
           have z6:=zR.cL 6 _ (by omega) rfl
           have z7:=zR.cL 7 _ (by omega) rfl
           have zf0:=zR.free 0
           have zf1:=zR.free 1
           have zf2:=zR.free 2
           have zf3:=zR.free 3
           have zf4:=zR.free 4
           have zf5:=zR.free 5
           have zf6:=zR.free 6
           have zf7:=zR.free 7
           have zl:=zR.lt
           have HB:=Lib.hid (And.intro eB (And.intro e1 (And.intro e2 (And.intro e3 (And.intro e4 e5)))))
           clear eB e1 e2 e3 e4 e5 hX zR
           go_wp2
           have hM:∀ v0 v1 v2 v3 v4 v5 v6 v7,Mod (fun b=> b=w.heap.size) wk ((((((((wk.setCell ⟨w.heap.size,0,none⟩ v0).setCell ⟨w.heap.size,1,none⟩ v1).setCell ⟨w.heap.size,2,none⟩ v2).setCell ⟨w.heap.size,3,none⟩ v3).setCell ⟨w.heap.size,4,none⟩ v4).setCell ⟨w.heap.size,5,none⟩ v5).setCell ⟨w.heap.size,6,none⟩ v6).setCell ⟨w.heap.size,7,none⟩ v7):=fun v0 v1 v2 v3 v4 v5 v6 v7=> ((((((((Mod.refl (fun b=> b=w.heap.size) wk).setCell (p:=⟨w.heap.size,0,none⟩) (.inr rfl) _).setCell (p:=⟨w.heap.size,1,none⟩) (.inr rfl) _).setCell (p:=⟨w.heap.size,2,none⟩) (.inr rfl) _).setCell (p:=⟨w.heap.size,3,none⟩) (.inr rfl) _).setCell (p:=⟨w.heap.size,4,none⟩) (.inr rfl) _).setCell (p:=⟨w.heap.size,5,none⟩) (.inr rfl) _).setCell (p:=⟨w.heap.size,6,none⟩) (.inr rfl) _).setCell (p:=⟨w.heap.size,7,none⟩) (.inr rfl) _
           have eV:snv nx B' A= .agg #[.int .i64 nx, .int .i64 A.C, .int .u64 A.cr, .slice o1 A.G k1, .slice o2 A.C k2, .slice o3 A.C k3, .slice o4 (ntk A) k4, .slice o5 A.G k5]:=congrArg (fun l=> Value.agg (#[.int .i64 nx]++l.toArray)) HB.out.1
           refine bodyPost_ret (v:= .agg #[.int .i64 nx, .int .i64 A.C, .int .u64 A.cr, .slice o1 A.G k1, .slice o2 A.C k2, .slice o3 A.C k3, .slice o4 (ntk A) k4, .slice o5 A.G k5]) (by simp [results,Tryz.results97,go_sem, *]) rfl ⟨B',by rw [eV],ow,St.mod (hM _ _ _ _ _ _ _ _) (by rintro b rfl;exact I.zo),Mod.trans I.p.mod (hM _ _ _ _ _ _ _ _) (fun b hb e=> by have:b=w.heap.size:=e;omega),hge,hgc,I.src.mod (hM _ _ _ _ _ _ _ _) (fun b hb e=> by have:b=w.heap.size:=e;omega)⟩
end Go.Q
