/- A part of the proof that TopGreat answers true: what some of the functions on its road compute. -/
import Derived.Test.YtckddephdbhagaaGreatDoorQ3
import Derived.Test.YtckddephdbhagaaGreatDoorQ6
import Derived.Test.YtckddephdbhagaaGreatDoorQ11
set_option linter.unusedVariables false
set_option linter.unusedSimpArgs false
namespace Go.Q
open Go.RowKit Go.Proofs
def ILs (w:World) (lo:Nat) (o:Option Addr) (l:List Nat) (ow:Nat→SOwn):Prop:=0 < l.length→∃ b,o=some ⟨b,0,none⟩∧Row w b l.length (fl (l.map fun x=> .int .i64 (x:Nat)))∧ow b= .no∧lo≤b
section
variable {A:ASt} {d:Nat}
set_option maxRecDepth 100000 in
set_option maxHeartbeats 4000000 in
theorem m_wake (T:Tree A.G A.par A.wt) (hz:∀ g c,A.spots g c=(0,0,0)) (hcr:0≤A.cr) (w:World) (m:Nat) (ow:Nat→SOwn) (B:STB) (hs:MAt w m ow B A) (l:List Nat) (hl:∀ x∈l,0 < x∧x < A.G) (hll:l.length≤100) (o:Option Addr) (cp lo:Nat) (hO:ILs w lo o l ow) (c:Nat) (hc:c < A.C):
  Calls Tryz.prog 151 #[ptr m, .slice o l.length cp, .int .i64 c] w fun e w' => e= .returned (.tuple #[])∧MAt w' m ow B A∧Mod (fun b=> ow b≠ .no) w w' :=by
 have HI:=Lib.hid hz
 have hG:=T.g2
 have hown:=hs.own
 have HM:=Lib.hid hs.row
 have j0:(0:Int)≤c:=by omega
 have j1:(c:Int) < A.C:=by omega
 have HO:=Lib.hid hO
 clear hz hO
 go_enter Tryz.func151,Tryz.ntmps151
 go_wp2
 go_loopw [14] (fun s14 wr=> ∃ k:Nat,s14= .int .i64 k∧k≤l.length∧StAt wr ow B A∧Mod (fun b=> ow b≠ .no) w wr) (fun s14 _=> l.length - (RowKit.intOf s14).toNat)
 case atStart=> exact ⟨0,rfl,by omega,hs.st,Mod.refl _ _⟩
 case round=>
  obtain ⟨wk,rfl⟩:∃ W,W=wr:=⟨wr,rfl⟩
  obtain ⟨k,rfl,hk,Sk,mk⟩:=hrel
  by_cases hkl:k < l.length
  ·obtain ⟨bl,rfl,RL,obl,_⟩:=HO.out (by omega)
   obtain ⟨y,hy⟩:∃ y,y=l.getD k 0:=⟨_,rfl⟩
   have hmem:y∈l:=by rw [hy,List.getD_eq_getElem?_getD,List.getElem?_eq_getElem hkl];exact List.getElem_mem hkl
   obtain ⟨hy0,hyG⟩:=hl y hmem
   have RLk:=RL.mod mk (by rw [obl];simp)
   have ql:wk.cell? ⟨bl,k,none⟩=some (.int .i64 y):=by
    rw [RLk.cell hkl,hy]
    unfold fl
    simp only [List.getD_eq_getElem?_getD,List.getElem?_map,List.getElem?_eq_getElem hkl,Option.map_some,Option.getD_some]
   have k0:(0:Int)≤k:=by omega
   have k1:(k:Int) < l.length:=by omega
   have i0:(0:Int) < y:=by omega
   have i00:(0:Int)≤y:=by omega
   have i1:(y:Int) < A.G:=by omega
   have hp:=T.parOk y hy0 hyG
   obtain ⟨up,hup⟩:∃ up:Nat,A.par y=up:=⟨(A.par y).toNat,(Int.toNat_of_nonneg hp.1).symm⟩
   have hupy:up < y:=by have:=hp.2;omega
   have wt0:=(T.wtOk y hyG).1
   have wt1:=(T.wtOk y hyG).2
   have HU:=Lib.hid (And.intro hup hy)
   clear hup hp hy hmem
   have Mk:MAt wk m ow B A:=⟨HM.out.mod mk (by rw [hown];simp),hown,Sk⟩
   have c1:=Mk.look.2.1
   have c2:=Mk.look.2.2.1
   have c6:=Mk.look.2.2.2.2.2.2.1
   have lM:=Mk.row.lt
   obtain ⟨p0,p1⟩:=Sk.gp hyG
   rw [HU.out.1] at p0
   obtain ⟨s0,s1,s2,s3⟩:=Sk.sp hyG hc
   have lsi:=(Sk.1 (.si y) hyG).2.lt
   have lso:=(Sk.1 .so).2.lt
   have lgb:=(Sk.1 .gb).2.lt
   go_upto_region 5 with fail
   refine wp_world (fun V=> Mod No wk V∧Row V wk.heap.size 2 (fl [.int .i64 up, .int .i64 (A.wt y)])) ⟨(Mod.refl No wk).alloc _,row_newL wk [_,_] _⟩ ?_
   intro V ⟨mV,XB⟩
   obtain ⟨xb,hxb⟩:∃ n,n=wk.heap.size:=⟨_,rfl⟩
   rw [←hxb] at XB ⊢
   have hle:wk.heap.size≤xb:=by omega
   have lXB:=XB.lt
   clear hxb c1 c2 c6 p0 p1 s0 s1 s2 s3 ql
   have k2:(up:Int) < A.G:=by omega
   have k3:(0:Int)≤up:=by omega
   have mS:∀ w',Mod No V w' →w'.cell? ⟨B.si y,c * 3,none⟩=some (.int .u64 0)∧w'.cell? ⟨B.si y,c * 3+1,none⟩=some (.int .u32 0)∧w'.cell? ⟨xb,0,none⟩=some (.int .i64 up)∧w'.cell? ⟨xb,1,none⟩=some (.int .i64 (A.wt y))∧w'.cell? ⟨m,6,none⟩=some (slc B.so A.G B.scap)∧w'.cell? ⟨B.so,up,none⟩=some (slc (B.si up) A.C (B.sc up))∧w'.cell? ⟨B.si up,c * 3+2,none⟩=some (.int .u64 0)∧w'.cell? ⟨m,1,none⟩=some (.int .u64 A.cr):=fun w' hm=> by
    have M2:=(Mk.no mV).no hm
    have Q1:=XB.mod hm (fun h=> h)
    have Q2:=M2.st.sp hyG hc
    have Q5:=M2.st.sp (g:=up) (c:=c) (by omega) hc
    rw [HI.out] at Q2 Q5
    exact ⟨Q2.2.1,Q2.2.2.1,Q1.cL 0 _ (by omega) rfl,Q1.cL 1 _ (by omega) rfl,M2.look.2.2.2.2.2.2.1,Q5.1,Q5.2.2.2,M2.look.2.1⟩
   have hRE:REnt 0 0 (A.wt y):=⟨wt0,wt1,by omega,by omega,by omega,by omega⟩
   have lMV:m < V.heap.size:=by have:=mV.size;omega
   go_cut [10] (fun s10 wx=> ∃ nb,s10=ptr nb∧wk.heap.size≤nb∧Row wx nb 3 (fl [.int .u64 0, .int .u32 0, .int .u32 (A.wt y)])∧Mod No wk wx)
   case first=>
    refine wp_region_chain (fun w' => w'.cell? ⟨B.si y,c * 3,none⟩=some (.int .u64 0)∧w'.cell? ⟨B.si y,c * 3+1,none⟩=some (.int .u32 0)∧w'.cell? ⟨xb,0,none⟩=some (.int .i64 up)∧w'.cell? ⟨xb,1,none⟩=some (.int .i64 (A.wt y))∧w'.cell? ⟨m,6,none⟩=some (slc B.so A.G B.scap)∧w'.cell? ⟨B.so,up,none⟩=some (slc (B.si up) A.C (B.sc up))∧w'.cell? ⟨B.si up,c * 3+2,none⟩=some (.int .u64 0)∧w'.cell? ⟨m,1,none⟩=some (.int .u64 A.cr)) [10,30,34,35] [33,36] [35] (rds [0,1,2,3,4,5,6,7,8,9,11,12,13,14,15,16,17,18,19,20,21,22,23,24,25,26,27,28,29] (.ef2 10 (.ef2 30 (rds [31,32,33] (.ef 34 (.ef 35 (rds [36] .nil)))) 34 (.ef 30 (rds [31,32,33] (.ef 35 (rds [36] .nil))))) 34 (.ef 10 (.ef 30 (rds [31,32,33] (.ef 35 (rds [36] .nil))))))) (by kernel_rfl) (by kernel_rfl) (mS _ (Mod.refl No V).drew) ?_
    intro OO hO
    have HOO:=Lib.hid hO
    clear hO
    simp only [rds]
    (repeat (first|(refine lxp HOO (v:=?_) (fun w'=> ?_) ?_;rotate_left;(focus (go_simp;(try exact rfl);done));try go_simp)|(refine lxr HOO (v:=?_) (fun w' hC'=> ?_) ?_;rotate_left;(focus (obtain ⟨c1,c2,c3,c4,c5,c6,c7,c8⟩:=hC';go_simp;(try exact rfl);done));try go_simp)|(refine lxo HOO ?_;try go_simp)))
    refine wpL_eff2 ?o1 ?o2
    case o1=>
     refine lxe HOO (fun Kx hKx=> ?_)
     go_simp
     refine (m_entity 0 0 (A.wt y) wt0 wt1 _).mono ?_;rintro e w6 ⟨rfl,hb6⟩
     have m6:Mod No V w6:=Mod.trans (Mod.refl No V).drew (Mod.of_below hb6 No) (fun _ _ h=> h)
     refine hKx _ _ (.inr (mS _ m6)) ?_
     clear hKx Kx
     (repeat (first|(refine lxp HOO (v:=?_) (fun w'=> ?_) ?_;rotate_left;(focus (go_simp;(try exact rfl);done));try go_simp)|(refine lxr HOO (v:=?_) (fun w' hC'=> ?_) ?_;rotate_left;(focus (obtain ⟨c1,c2,c3,c4,c5,c6,c7,c8⟩:=hC';go_simp;(try exact rfl);done));try go_simp)|(refine lxo HOO ?_;try go_simp)))
     refine wpL_eff2 ?o3 ?o4
     case o3=>
      refine lxe HOO (fun Kx hKx=> ?_)
      go_simp
      refine (woken_same 0 0 (A.wt y) 0 A.cr hRE (by omega) hcr _).mono ?_;rintro e w7 ⟨rfl,hb7⟩
      have m7:Mod No V w7:=Mod.trans m6 (Mod.of_below hb7 No) (fun _ _ h=> h)
      refine hKx _ _ (.inr (mS _ m7)) ?_
      clear hKx Kx
      (repeat (first|(refine lxp HOO (v:=?_) (fun w'=> ?_) ?_;rotate_left;(focus (go_simp;(try exact rfl);done));try go_simp)|(refine lxr HOO (v:=?_) (fun w' hC'=> ?_) ?_;rotate_left;(focus (obtain ⟨c1,c2,c3,c4,c5,c6,c7,c8⟩:=hC';go_simp;(try exact rfl);done));try go_simp)|(refine lxo HOO ?_;try go_simp)))
      (refine lxe HOO (fun K hK=> ?_);go_simp;refine hK _ _ ?_ ?_;all_goals clear hK K)
      ·exact .inr (mS _ (m7.alloc _))
      (refine lxe HOO (fun K hK=> ?_);go_simp;refine hK _ _ (.inl (by rfl)) ?_;clear hK K)
      (repeat (first|(refine lxp HOO (v:=?_) (fun w'=> ?_) ?_;rotate_left;(focus (go_simp;(try exact rfl);done));try go_simp)|(refine lxr HOO (v:=?_) (fun w' hC'=> ?_) ?_;rotate_left;(focus (obtain ⟨c1,c2,c3,c4,c5,c6,c7,c8⟩:=hC';go_simp;(try exact rfl);done));try go_simp)|(refine lxo HOO ?_;try go_simp)))
      refine wpL_nil ?_
      go_wp2_with fail
      go_meet
      exact ⟨_,rfl,by have:=mV.size;have:=m7.size;omega,row_newL w7 [_,_,_] _,Mod.trans mV (m7.alloc _) (fun _ _ h=> h)⟩
     case o4=>
      (refine lxe HOO (fun K hK=> ?_);go_simp;refine hK _ _ ?_ ?_;all_goals clear hK K)
      ·exact .inr (mS _ (m6.alloc _))
      refine lxe HOO (fun Kx hKx=> ?_)
      go_simp
      refine (woken_same 0 0 (A.wt y) 0 A.cr hRE (by omega) hcr _).mono ?_;rintro e w7 ⟨rfl,hb7⟩
      have m7:Mod No V w7:=Mod.trans (m6.alloc _) (Mod.of_below hb7 No) (fun _ _ h=> h)
      have hz6:=m6.size
      have N7:Row w7 w6.heap.size 3 (fl [.int .u64 0, .int .u32 0, .int .u32 0]):=Row.mod (row_newL w6 [_,_,_] 138) (Mod.of_below hb7 No) (fun h=> h)
      have n0:=N7.cL 0 _ (by omega) rfl
      have n1:=N7.cL 1 _ (by omega) rfl
      have n2:=N7.cL 2 _ (by omega) rfl
      have n_:=N7.free
      have nf0:=n_ 0
      have nf1:=n_ 1
      have nf2:=n_ 2
      clear n_
      have nl:=N7.lt
      refine hKx _ _ (.inr (mS _ m7)) ?_
      clear hKx Kx
      (repeat (first|(refine lxp HOO (v:=?_) (fun w'=> ?_) ?_;rotate_left;(focus (go_simp;(try exact rfl);done));try go_simp)|(refine lxr HOO (v:=?_) (fun w' hC'=> ?_) ?_;rotate_left;(focus (obtain ⟨c1,c2,c3,c4,c5,c6,c7,c8⟩:=hC';go_simp;(try exact rfl);done));try go_simp)|(refine lxo HOO ?_;try go_simp)))
      (refine lxe HOO (fun K hK=> ?_);go_simp;refine hK _ _ (.inl (by rfl)) ?_;clear hK K)
      (repeat (first|(refine lxp HOO (v:=?_) (fun w'=> ?_) ?_;rotate_left;(focus (go_simp;(try exact rfl);done));try go_simp)|(refine lxr HOO (v:=?_) (fun w' hC'=> ?_) ?_;rotate_left;(focus (obtain ⟨c1,c2,c3,c4,c5,c6,c7,c8⟩:=hC';go_simp;(try exact rfl);done));try go_simp)|(refine lxo HOO ?_;try go_simp)))
      refine wpL_nil ?_
      go_wp2_with fail
      go_meet
      exact ⟨w6.heap.size,rfl,by have:=mV.size;(try have:=m6.size);omega,(((N7.set (i:=0) (by omega) _).set (i:=1) (by omega) _).set (i:=2) (by omega) _).congr (by apply le3 <;> rfl),Mod.trans mV (by (repeat first|(with_reducible exact m7)|(with_reducible refine Mod.alloc ?_ _)|(with_reducible refine Mod.drew ?_)|(with_reducible refine Mod.drewN ?_ _)|(with_reducible refine Mod.sc ?_))) (fun _ _ h=> h)⟩
    case o2=>
     (refine lxe HOO (fun K hK=> ?_);go_simp;refine hK _ _ ?_ ?_;all_goals clear hK K)
     ·exact .inr (mS _ ((Mod.refl No V).drew.alloc _))
     refine lxe HOO (fun Kx hKx=> ?_)
     go_simp
     refine (m_entity 0 0 (A.wt y) wt0 wt1 _).mono ?_;rintro e w6 ⟨rfl,hb6⟩
     have m6:Mod No V w6:=Mod.trans ((Mod.refl No V).drew.alloc _) (Mod.of_below hb6 No) (fun _ _ h=> h)
     have N6:Row w6 V.heap.size 3 (fl [.int .u64 0, .int .u32 0, .int .u32 0]):=Row.mod (row_newL' V.drew V.heap.size [_,_,_] 138 (by simp)) (Mod.of_below hb6 No) (fun h=> h)
     refine hKx _ _ (.inr (mS _ m6)) ?_
     clear hKx Kx
     (repeat (first|(refine lxp HOO (v:=?_) (fun w'=> ?_) ?_;rotate_left;(focus (go_simp;(try exact rfl);done));try go_simp)|(refine lxr HOO (v:=?_) (fun w' hC'=> ?_) ?_;rotate_left;(focus (obtain ⟨c1,c2,c3,c4,c5,c6,c7,c8⟩:=hC';go_simp;(try exact rfl);done));try go_simp)|(refine lxo HOO ?_;try go_simp)))
     refine lxe HOO (fun Kx hKx=> ?_)
     go_simp
     refine (woken_same 0 0 (A.wt y) 0 A.cr hRE (by omega) hcr _).mono ?_;rintro e w7 ⟨rfl,hb7⟩
     have m7:Mod No V w7:=Mod.trans m6 (Mod.of_below hb7 No) (fun _ _ h=> h)
     have hz6:=m6.size
     have N7:=N6.mod (Mod.of_below hb7 No) (fun h=> h)
     have n0:=N7.cL 0 _ (by omega) rfl
     have n1:=N7.cL 1 _ (by omega) rfl
     have n2:=N7.cL 2 _ (by omega) rfl
     have n_:=N7.free
     have nf0:=n_ 0
     have nf1:=n_ 1
     have nf2:=n_ 2
     clear n_
     have nl:=N7.lt
     refine hKx _ _ (.inr (mS _ m7)) ?_
     clear hKx Kx
     (repeat (first|(refine lxp HOO (v:=?_) (fun w'=> ?_) ?_;rotate_left;(focus (go_simp;(try exact rfl);done));try go_simp)|(refine lxr HOO (v:=?_) (fun w' hC'=> ?_) ?_;rotate_left;(focus (obtain ⟨c1,c2,c3,c4,c5,c6,c7,c8⟩:=hC';go_simp;(try exact rfl);done));try go_simp)|(refine lxo HOO ?_;try go_simp)))
     (refine lxe HOO (fun K hK=> ?_);go_simp;refine hK _ _ (.inl (by rfl)) ?_;clear hK K)
     (repeat (first|(refine lxp HOO (v:=?_) (fun w'=> ?_) ?_;rotate_left;(focus (go_simp;(try exact rfl);done));try go_simp)|(refine lxr HOO (v:=?_) (fun w' hC'=> ?_) ?_;rotate_left;(focus (obtain ⟨c1,c2,c3,c4,c5,c6,c7,c8⟩:=hC';go_simp;(try exact rfl);done));try go_simp)|(refine lxo HOO ?_;try go_simp)))
     refine wpL_nil ?_
     go_wp2_with fail
     go_meet
     exact ⟨V.heap.size,rfl,by have:=mV.size;(try have:=m6.size);omega,(((N7.set (i:=0) (by omega) _).set (i:=1) (by omega) _).set (i:=2) (by omega) _).congr (by apply le3 <;> rfl),Mod.trans mV (by (repeat first|(with_reducible exact m7)|(with_reducible refine Mod.alloc ?_ _)|(with_reducible refine Mod.drew ?_)|(with_reducible refine Mod.drewN ?_ _)|(with_reducible refine Mod.sc ?_))) (fun _ _ h=> h)⟩
   case rest=>
   obtain ⟨nb,rfl,hnb,RB,mx⟩:=hcut
   have S7:=Sk.no mx
   clear mS
   have f0:=(S7.1 (.si y) hyG).2.free (c * 3)
   have f1:=(S7.1 (.si y) hyG).2.free (c * 3+1)
   have q0:=(S7.sp hyG hc).2.1
   have q1:=(S7.sp hyG hc).2.2.1
   have lsi7:=(S7.1 (.si y) hyG).2.lt
   have lRB:=RB.lt
   have ne4:B.si y≠nb:=by omega
   have mS:∀ w',Row w' nb 3 (fl [.int .u64 0, .int .u32 0, .int .u32 (A.wt y)])→w'.cell? ⟨nb,0,none⟩=some (.int .u64 0)∧w'.cell? ⟨nb,1,none⟩=some (.int .u32 0):=fun w' h3=> ⟨h3.cL 0 _ (by omega) rfl,h3.cL 1 _ (by omega) rfl⟩
   go_upto_region 6 with fail
   refine wp_region_chain (fun w' => w'.cell? ⟨nb,0,none⟩=some (.int .u64 0)∧w'.cell? ⟨nb,1,none⟩=some (.int .u32 0)) [8,11] [9,10] [11] (rds [0,1,2,3,4,5,6,7] (.ef 8 (rds [9,10] (.ef 11 .nil)))) (by kernel_rfl) (by kernel_rfl) (mS _ RB.drew) ?_
   intro OO hO
   have HOO:=Lib.hid hO
   clear hO
   simp only [rds]
   (repeat (first|(refine lxp HOO (v:=?_) (fun w'=> ?_) ?_;rotate_left;(focus (go_simp;(try exact rfl);done));try go_simp)|(refine lxr HOO (v:=?_) (fun w' hC'=> ?_) ?_;rotate_left;(focus (obtain ⟨c1,c2⟩:=hC';go_simp;(try exact rfl);done));try go_simp)|(refine lxo HOO ?_;try go_simp)))
   (refine lxe HOO (fun K hK=> ?_);go_simp;refine hK _ _ ?_ ?_;all_goals clear hK K)
   ·exact .inr (mS _ (RB.drew.setOther (p:=⟨B.si y,c * 3,none⟩) ne4 _))
   (repeat (first|(refine lxp HOO (v:=?_) (fun w'=> ?_) ?_;rotate_left;(focus (go_simp;(try exact rfl);done));try go_simp)|(refine lxr HOO (v:=?_) (fun w' hC'=> ?_) ?_;rotate_left;(focus (obtain ⟨c1,c2⟩:=hC';go_simp;(try exact rfl);done));try go_simp)|(refine lxo HOO ?_;try go_simp)))
   (refine lxe HOO (fun K hK=> ?_);go_simp;refine hK _ _ (.inl (by rfl)) ?_;clear hK K)
   refine wpL_nil ?_
   clear f0 f1 q0 q1 mS
   have SA:=(S7.no (Mod.refl No _).drew).setV (g:=y) (c:=c) hyG hc 0
   have SB:=SA.setR (g:=y) (c:=c) hyG hc 0
   have SC:=SB.spots_congr A.spots (fun g' c' hg' hc' => by
    show upd2 (upd2 A.spots y c (0,(A.spots y c).2.1,(A.spots y c).2.2)) y c ((upd2 A.spots y c (0,(A.spots y c).2.1,(A.spots y c).2.2) y c).1,0,(upd2 A.spots y c (0,(A.spots y c).2.1,(A.spots y c).2.2) y c).2.2) g' c' =_
    by_cases e:g' =y∧c' =c
    ·obtain ⟨rfl,rfl⟩:=e
     rw [upd2_same,upd2_same,HI.out]
    ·rw [upd2_other _ _ _ _ _ _ e,upd2_other _ _ _ _ _ _ e])
   have mE:=Mod.trans ((S7.no (Mod.refl No _).drew).modSi (g:=y) hyG (c * 3) (.int .u64 0)) (SA.modSi (g:=y) hyG (c * 3+1) (.int .u32 0)) (fun _ _ h=> h)
   have mW:Mod No wk wc.drew:=mx.drew
   go_wp2
   refine ⟨⟨k+1,by go_num,by omega,SC,Mod.trans mk (Mod.trans (mW.no _) mE (fun _ _ h=> h)) (fun _ _ h=> h)⟩,by simp only [RowKit.intOf];omega⟩
  ·obtain rfl:k=l.length:=by omega
   have i1:(l.length:Int)≤l.length:=by omega
   go_wp2
   go_end0
   exact ⟨rfl,⟨HM.out.mod mk (by rw [hown];simp),hown,Sk⟩,mk⟩
end
end Go.Q
namespace Go.Q
open Go.RowKit Go.Proofs
set_option maxRecDepth 100000 in
theorem m_index0 (f:Value) (w:World):Calls Tryz.prog 148 #[.slice none 0 0,f] w fun e w' => e= .returned (.int .i64 (-1))∧w=w' :=by
 go_enter Tryz.func148,Tryz.ntmps148
 go_wp2
 go_loopw [8] (fun s8 wr=> s8= .int .i64 0∧wr=w) (fun _ _=> 0)
 case atStart=> exact ⟨rfl,rfl⟩
 case round=>
  obtain ⟨rfl,rfl⟩:=hrel
  go_wp2
  go_ret
  exact ⟨rfl,rfl⟩
set_option maxRecDepth 100000 in
theorem m_insert (b c:Nat) (t:TK) (w:World) (R:Row w b 8 (fl (tkc t))):
  Calls Tryz.prog 150 #[.slice none 0 0, .int .i64 0,slc b 1 c] w fun e w' => ∃ g cap,e= .returned (slc g 1 cap)∧Mod No w w' ∧w.heap.size≤g∧Row w' g 8 (fl (tkc t)):=by
 have h1:∀ u∈tkc t,u.oneCell' =true:=by simp [tkc,Value.oneCell']
 go_enter Tryz.func150,Tryz.ntmps150
 go_wp2_with (at_builtin;go_must (refine wpList_app_c 119 _ 8 64 Tryz.infoTask rfl _ _ 45 rfl Tryz.underlying45 rfl (by decide) (by decide) (tkc t) rfl h1 w.heap.size (.slice none 0 0) 0 [] b c rfl rfl ?_ ?_ ?_ ?_ ?_);go_must (· omega);go_must (· omega);go_must (· exact World.ownsRow_nil _ _ _ _);go_must (· exact R);go_must (intro gs ct wA hA))
 go_ret
 have aq:=hA.at_
 simp [Value.ownBlock] at aq
 exact ⟨gs,ct,rfl,hA.mod.mono (fun b _ h=> by simp [Value.ownBlock] at h),aq,own_row hA.own⟩
theorem own_ILs {w:World} {base:Nat} {o:Option Addr} {k cp:Nat} {l:List Nat} {ow:Nat→SOwn} (h:w.ownsRow base 3 1 (.slice o k cp) l.length (l.map fun x=> .int .i64 (x:Nat))) (hno:∀ b,base≤b→ow b= .no):k=l.length∧ILs w base o l ow:=by
 have h2:=h
 obtain ⟨_,⟨e,h0⟩|⟨g,cap,cur,e,hb,_⟩⟩:=h2
 ·simp only [Value.slice.injEq] at e
  exact ⟨by omega,fun hl=> by omega⟩
 ·simp only [Value.slice.injEq] at e
  obtain ⟨rfl,rfl,rfl⟩:=e
  refine ⟨rfl,fun _=> ⟨g,rfl, ?_,hno g hb,hb⟩⟩
  have:=ownsRow_row h
  rwa [Nat.mul_one] at this
theorem ILs.mod {S:Nat→Prop} {w w' :World} {lo:Nat} {o:Option Addr} {l:List Nat} {ow ow' :Nat→SOwn} (h:ILs w lo o l ow) (hm:Mod S w w') (hs:∀ b,ow b= .no→b < w.heap.size→lo≤b→¬S b) (ho:∀ b,b < w.heap.size→ow' b=ow b):ILs w' lo o l ow' :=fun hl=> by
 obtain ⟨b,e,R,hb,hlo⟩:=h hl
 exact ⟨b,e,R.mod hm (hs b hb R.lt hlo),by rw [ho b R.lt];exact hb,hlo⟩
section
variable {A:ASt} {d:Nat}
set_option maxRecDepth 100000 in
set_option maxHeartbeats 4000000 in
theorem m_spawn (T:Tree A.G A.par A.wt) (ht:A.task=none) (hC:A.C=64) (id k tO n mask:Int) (g c:Nat) (hc:c < A.C) (hg:g < A.G) (hd:Dep A.par g d) (hd4:d≤100)
  (hz:∀ g c,A.spots g c=(0,0,0)) (hcr:0≤A.cr) (h0:1≤id) (h1:id < 65536) (hk0:1≤k) (hk1:k≤65536) (hm1:1≤mask) (hm2:mask < 18446744073709551616) (hm3:bits BinOp.and IntKind.u64 (mask / 2 ^ c) 1=1)
  (w:World) (m:Nat) (ow:Nat→SOwn) (B:STB) (hs:MAt w m ow B A) (htv:B.tv= .slice none 0 0):
  Calls Tryz.prog 73 #[ptr m,opv 1 c id g k tO n mask] w fun e w' => ∃ B' ow',e= .returned (.tuple #[.int .i64 0, .int .i64 0])∧
   MAt w' m ow' B' { A with task:=some ⟨id,g,k,c,mask,true,0,0⟩ }∧Mod (fun b=> ow b≠ .no∨b=m) w w' ∧∀ b,b < w.heap.size→ow' b=ow b:=by
 have hG:=T.g2
 have hm0:(mask==0)=false:=by simp;omega
 have i0:(0:Int)≤c:=by omega
 have i1:(c:Int) < A.C:=by omega
 have i2:(0:Int)≤g:=by omega
 have i3:(g:Int) < A.G:=by omega
 have i4:id≤65535:=by omega
 have i5:c < 64:=by omega
 have i6:(c:Int) < 64:=by omega
 have d1:decide ((g:Int) < 0)=false:=by simp
 have d2:decide ((A.G:Int)≤g)=false:=by simp;omega
 have k6:(bits BinOp.and IntKind.u64 (mask / 2 ^ c) 1==0)=false:=by rw [hm3];rfl
 have hOne:One1 A d:=⟨T,fun t e=> by rw [ht] at e;cases e⟩
 have hv:VOk A:=⟨fun t e=> (by rw [ht] at e;cases e),fun g c=> by rw [hz];decide⟩
 have HI:=Lib.hid (And.intro T (And.intro ht (And.intro hC (And.intro hd (And.intro hz (And.intro htv (And.intro hOne (And.intro hv (And.intro hm2 hcr)))))))))
 have hown:=hs.own
 have ON:=Lib.hid (show ∀ b,w.heap.size≤b→ow b= .no from fun b hb=> Classical.byContradiction fun hh=> by have:=hs.st.2 _ hh;omega)
 clear T ht hC hd hz htv hOne hv hm3 hm2 hcr
 have lM:=hs.row.lt
 go_enter Tryz.func73,Tryz.ntmps73
 go_upto_region 1 with fail
 refine wp_world (fun V=> MAt V m ow B A∧Mod No w V∧Row V w.heap.size 8 (fl [.int .u8 1, .int .i64 c, .int .i64 id, .int .i64 g, .int .i64 k, .int .i64 tO, .int .i64 n, .int .u64 mask])) ⟨hs.no ((Mod.refl No w).alloc _),(Mod.refl No w).alloc _,row_newL w [_,_,_,_,_,_,_,_] _⟩ ?_
 intro V ⟨MV,mV,OV⟩
 have lO:=OV.lt
 have lMV:=MV.row.lt
 have o1:=OV.cL 1 _ (by omega) rfl
 have o2:=OV.cL 2 _ (by omega) rfl
 have o3:=OV.cL 3 _ (by omega) rfl
 have o4:=OV.cL 4 _ (by omega) rfl
 have o7:=OV.cL 7 _ (by omega) rfl
 have c0:=MV.look.1
 have c6:=MV.look.2.2.2.2.2.2.1
 go_wp2_with fail
 refine (m_cpu m A.C c i0 i1 _ c0).mono ?_;rintro e w1 ⟨rfl,rfl⟩
 go_wp2_with fail
 refine (m_task id h0 i4 V).mono ?_;rintro e w1 ⟨rfl,rfl⟩
 go_upto_region 6 with fail
 refine wp_region_chain (fun w' => w' =V.drew) [] [] [] (rds [0,1,2,3,4,5,6,7,8,9,10,11,12,13] .nil) (by kernel_rfl) (by kernel_rfl) rfl ?_
 intro OO hO
 have HO:=Lib.hid hO
 clear hO
 simp only [rds]
 (repeat (first|(refine lxp HO (v:=?_) (fun w'=> ?_) ?_;rotate_left;(focus (go_simp;(try exact rfl);done));try go_simp)|(refine lxr HO (v:=?_) (fun w' hC'=> ?_) ?_;rotate_left;(focus (obtain rfl:=hC';go_simp;(try exact rfl);done));try go_simp)|(refine lxo HO ?_;try go_simp)))
 refine wpL_nil ?_
 clear HO
 go_upto_region 8 with fail
 have c0' :V.cell? ⟨m,0,none⟩=some (.int .i64 64):=by rw [c0];exact congrArg (fun x:Nat=> some (Value.int .i64 (x:Int))) HI.out.2.2.1
 refine wp_region_chain (fun w' => w' =V.drew.drew) [2,17] [] [] (rds [0,1] (.ef 2 (rds [3,4,5,6,7,8,9,10,11,12,13,14,15,16] (.ef 17 (rds [18,19] .nil))))) (by kernel_rfl) (by kernel_rfl) rfl ?_
 intro OO hO
 have HO:=Lib.hid hO
 clear hO
 simp only [rds]
 clear c0
 (repeat (first|(refine lxp HO (v:=?_) (fun w'=> ?_) ?_;rotate_left;(focus (go_simp;(try exact rfl);done));try go_simp)|(refine lxr HO (v:=?_) (fun w' hC'=> ?_) ?_;rotate_left;(focus (obtain rfl:=hC';go_simp;(try exact rfl);done));try go_simp)|(refine lxo HO ?_;try go_simp)))
 refine lxe HO (fun Kx hKx=> ?_)
 go_simp
 refine (m_weighs k hk0 hk1 _).mono ?_;rintro e w1 ⟨rfl,rfl⟩
 refine hKx _ _ (.inr rfl) ?_
 clear hKx Kx
 (repeat (first|(refine lxp HO (v:=?_) (fun w'=> ?_) ?_;rotate_left;(focus (go_simp;(try exact rfl);done));try go_simp)|(refine lxr HO (v:=?_) (fun w' hC'=> ?_) ?_;rotate_left;(focus (obtain rfl:=hC';go_simp;(try exact rfl);done));try go_simp)|(refine lxo HO ?_;try go_simp)))
 refine lxe HO (fun Kx hKx=> ?_)
 rw [if_pos (by first|rfl|(rw [HO.out];rfl))]
 go_simp
 refine (m_wide mask (by omega) HI.out.2.2.2.2.2.2.2.2.1 _).mono ?_;rintro e w1 ⟨rfl,rfl⟩
 refine hKx _ _ (.inr rfl) ?_
 clear hKx Kx
 (repeat (first|(refine lxp HO (v:=?_) (fun w'=> ?_) ?_;rotate_left;(focus (go_simp;(try exact rfl);done));try go_simp)|(refine lxr HO (v:=?_) (fun w' hC'=> ?_) ?_;rotate_left;(focus (obtain rfl:=hC';go_simp;(try exact rfl);done));try go_simp)|(refine lxo HO ?_;try go_simp)))
 refine wpL_nil ?_
 clear HO
 have c5:V.cell? ⟨m,5,none⟩=some (.slice none 0 0):=by rw [MV.look.2.2.2.2.2.1];exact congrArg some HI.out.2.2.2.2.2.1
 go_wp2_with fail
 refine (m_find0 m none 0 id V.drew.drew c5).mono ?_;rintro e w1 ⟨rfl,rfl⟩
 go_wp2_with fail
 refine (m_empty HI.out.2.2.2.2.2.2.1 HI.out.2.1 _ m ow B (MV.no (Mod.refl No V).drew.drew) g c d hg hc HI.out.2.2.2.1 hd4 HI.out.2.2.2.2.2.2.2.1).mono ?_;rintro e w2 ⟨oe,ke,ce,rfl,m2,hOw⟩
 obtain ⟨rfl,hL⟩:=own_ILs hOw (ow:=ow) (fun b hb=> ON.out b (by have:=mV.size;simp only [World.size_drew] at hb;omega))
 obtain ⟨l,hl⟩:∃ l,l=gpath A.par d g:=⟨_,rfl⟩
 rw [←hl] at hL ⊢
 have hmem:∀ x∈l,0 < x∧x < A.G:=by rw [hl];exact gpath_mem HI.out.1 d g hg HI.out.2.2.2.1
 have hlen:l.length≤100:=by
  rw [hl]
  have:∀ (d g:Nat),(gpath A.par d g).length=d:=by
   intro d
   induction d with
   |zero=> intro g;rfl
   |succ d ih=> intro g;simp [gpath,ih]
  rw [this];exact hd4
 have m2' :Mod No V w2:=Mod.trans (Mod.refl No V).drew.drew m2 (fun _ _ h=> h)
 have M2:=MV.no m2'
 have O2:=OV.mod m2' (fun h=> h)
 have HL:=Lib.hid (And.intro hl (And.intro hmem (And.intro hlen hL)))
 clear hl hmem hlen hL hOw m2 o1 o2 o3 o4 o7 c0' c6 c5 lO lMV k6
 have mw2:Mod No w w2:=Mod.trans mV m2' (fun _ _ h=> h)
 have lO:=O2.lt
 have lM2:=M2.row.lt
 have o1:=O2.cL 1 _ (by omega) rfl
 have o2:=O2.cL 2 _ (by omega) rfl
 have o3:=O2.cL 3 _ (by omega) rfl
 have o7:=O2.cL 7 _ (by omega) rfl
 go_upto_region 16 with fail
 refine wp_world (fun U=> Mod No w2 U∧Row U w2.heap.size 8 (fl [.int .i64 id, .int .i64 g, .int .i64 0, .int .i64 c, .int .u64 mask, .bool true, .int .u64 0, .int .u32 0])) ⟨(Mod.refl No w2).alloc _,row_newL w2 [_,_,_,_,_,_,_,_] _⟩ ?_
 intro U ⟨mU,KU⟩
 obtain ⟨kb,hkb⟩:∃ n,n=w2.heap.size:=⟨_,rfl⟩
 rw [←hkb] at KU ⊢
 have hle:w2.heap.size≤kb:=by omega
 have lKU:=KU.lt
 clear hkb o1 o2 o3 o7
 have MU:=M2.no mU
 have OU:=O2.mod mU (fun h=> h)
 have lOU:=OU.lt
 have mS:∀ w',Mod No U w' →w'.cell? ⟨m,6,none⟩=some (slc B.so A.G B.scap)∧w'.cell? ⟨B.so,g,none⟩=some (slc (B.si g) A.C (B.sc g))∧w'.cell? ⟨B.si g,c * 3+2,none⟩=some (.int .u64 0)∧w'.cell? ⟨w.heap.size,1,none⟩=some (.int .i64 c)∧w'.cell? ⟨w.heap.size,3,none⟩=some (.int .i64 g)∧w'.cell? ⟨w.heap.size,4,none⟩=some (.int .i64 k):=fun w' hm=> by
  have M:=MU.no hm
  have O:=OU.mod hm (fun h=> h)
  have q:=M.st.sp hg hc
  rw [HI.out.2.2.2.2.1] at q
  exact ⟨M.look.2.2.2.2.2.2.1,q.1,q.2.2.2,O.cL 1 _ (by omega) rfl,O.cL 3 _ (by omega) rfl,O.cL 4 _ (by omega) rfl⟩
 go_cut [9] (fun s9 wx=> ∃ nb,s9=ptr nb∧U.heap.size≤nb∧Row wx nb 3 (fl [.int .u64 0, .int .u32 0, .int .u32 k])∧Mod No U wx)
 case first=>
  refine wp_region_chain (fun w' => w'.cell? ⟨m,6,none⟩=some (slc B.so A.G B.scap)∧w'.cell? ⟨B.so,g,none⟩=some (slc (B.si g) A.C (B.sc g))∧w'.cell? ⟨B.si g,c * 3+2,none⟩=some (.int .u64 0)∧w'.cell? ⟨w.heap.size,1,none⟩=some (.int .i64 c)∧w'.cell? ⟨w.heap.size,3,none⟩=some (.int .i64 g)∧w'.cell? ⟨w.heap.size,4,none⟩=some (.int .i64 k)) [15,19,20] [18,21] [20] (rds [0,1,2,3,4,5,6,7,8,9,10,11,12,13,14] (.ef2 15 (rds [16,17,18] (.ef 19 (.ef 20 (rds [21] .nil)))) 19 (.ef 15 (rds [16,17,18] (.ef 20 (rds [21] .nil)))))) (by kernel_rfl) (by kernel_rfl) (mS _ (Mod.refl No U).drew) ?_
  intro OO hO
  have HO:=Lib.hid hO
  clear hO
  simp only [rds]
  (repeat (first|(refine lxp HO (v:=?_) (fun w'=> ?_) ?_;rotate_left;(focus (go_simp;(try exact rfl);done));try go_simp)|(refine lxr HO (v:=?_) (fun w' hC'=> ?_) ?_;rotate_left;(focus (obtain ⟨c1,c2,c3,c4,c5,c6⟩:=hC';go_simp;(try exact rfl);done));try go_simp)|(refine lxo HO ?_;try go_simp)))
  refine wpL_eff2 ?a1 ?a2
  case a1=>
   refine lxe HO (fun Kx hKx=> ?_)
   go_simp
   refine (placeNew_ok k hk0 hk1 _).mono ?_;rintro e w7 ⟨rfl,hb7⟩
   have m7:Mod No U w7:=Mod.trans (Mod.refl No U).drew (Mod.of_below hb7 No) (fun _ _ h=> h)
   refine hKx _ _ (.inr (mS _ m7)) ?_
   clear hKx Kx
   (repeat (first|(refine lxp HO (v:=?_) (fun w'=> ?_) ?_;rotate_left;(focus (go_simp;(try exact rfl);done));try go_simp)|(refine lxr HO (v:=?_) (fun w' hC'=> ?_) ?_;rotate_left;(focus (obtain ⟨c1,c2,c3,c4,c5,c6⟩:=hC';go_simp;(try exact rfl);done));try go_simp)|(refine lxo HO ?_;try go_simp)))
   (refine lxe HO (fun K hK=> ?_);go_simp;refine hK _ _ ?_ ?_;all_goals clear hK K)
   ·exact .inr (mS _ (m7.alloc _))
   (refine lxe HO (fun K hK=> ?_);go_simp;refine hK _ _ (.inl (by rfl)) ?_;clear hK K)
   (repeat (first|(refine lxp HO (v:=?_) (fun w'=> ?_) ?_;rotate_left;(focus (go_simp;(try exact rfl);done));try go_simp)|(refine lxr HO (v:=?_) (fun w' hC'=> ?_) ?_;rotate_left;(focus (obtain ⟨c1,c2,c3,c4,c5,c6⟩:=hC';go_simp;(try exact rfl);done));try go_simp)|(refine lxo HO ?_;try go_simp)))
   refine wpL_nil ?_
   go_wp2_with fail
   go_meet
   exact ⟨_,rfl,m7.size,row_newL w7 [_,_,_] _,m7.alloc _⟩
  case a2=>
   (refine lxe HO (fun K hK=> ?_);go_simp;refine hK _ _ ?_ ?_;all_goals clear hK K)
   ·exact .inr (mS _ ((Mod.refl No U).drew.alloc _))
   refine lxe HO (fun Kx hKx=> ?_)
   go_simp
   refine (placeNew_ok k hk0 hk1 _).mono ?_;rintro e w7 ⟨rfl,hb7⟩
   have m7:Mod No U w7:=Mod.trans ((Mod.refl No U).drew.alloc _) (Mod.of_below hb7 No) (fun _ _ h=> h)
   have N7:Row w7 U.heap.size 3 (fl [.int .u64 0, .int .u32 0, .int .u32 0]):=Row.mod (row_newL' U.drew U.heap.size [_,_,_] 138 (by simp)) (Mod.of_below hb7 No) (fun h=> h)
   have n0:=N7.cL 0 _ (by omega) rfl
   have n1:=N7.cL 1 _ (by omega) rfl
   have n2:=N7.cL 2 _ (by omega) rfl
   have n_:=N7.free
   have nf0:=n_ 0
   have nf1:=n_ 1
   have nf2:=n_ 2
   clear n_
   have nl:=N7.lt
   refine hKx _ _ (.inr (mS _ m7)) ?_
   clear hKx Kx
   (repeat (first|(refine lxp HO (v:=?_) (fun w'=> ?_) ?_;rotate_left;(focus (go_simp;(try exact rfl);done));try go_simp)|(refine lxr HO (v:=?_) (fun w' hC'=> ?_) ?_;rotate_left;(focus (obtain ⟨c1,c2,c3,c4,c5,c6⟩:=hC';go_simp;(try exact rfl);done));try go_simp)|(refine lxo HO ?_;try go_simp)))
   (refine lxe HO (fun K hK=> ?_);go_simp;refine hK _ _ (.inl (by rfl)) ?_;clear hK K)
   (repeat (first|(refine lxp HO (v:=?_) (fun w'=> ?_) ?_;rotate_left;(focus (go_simp;(try exact rfl);done));try go_simp)|(refine lxr HO (v:=?_) (fun w' hC'=> ?_) ?_;rotate_left;(focus (obtain ⟨c1,c2,c3,c4,c5,c6⟩:=hC';go_simp;(try exact rfl);done));try go_simp)|(refine lxo HO ?_;try go_simp)))
   refine wpL_nil ?_
   go_wp2_with fail
   go_meet
   exact ⟨U.heap.size,rfl,Nat.le_refl _,(((N7.set (i:=0) (by omega) _).set (i:=1) (by omega) _).set (i:=2) (by omega) _).congr (by apply le3 <;> rfl),by (repeat first|(with_reducible exact m7)|(with_reducible refine Mod.alloc ?_ _)|(with_reducible refine Mod.drew ?_)|(with_reducible refine Mod.drewN ?_ _)|(with_reducible refine Mod.sc ?_))⟩
 case rest=>
 obtain ⟨nb,rfl,hnb,RB,mx⟩:=hcut
 have M4:=MU.no mx
 have O4:=OU.mod mx (fun h=> h)
 have K4:=KU.mod mx (fun h=> h)
 clear mS
 have b0:=RB.cL 0 _ (by have:=RB.lt;omega) rfl
 have b1:=RB.cL 1 _ (by have:=RB.lt;omega) rfl
 have b2:=RB.cL 2 _ (by have:=RB.lt;omega) rfl
 have lRB:=RB.lt
 go_wp2_with fail
 refine (m_put kb id g 0 c mask 0 0 0 0 k true hk0 hk1 _ K4).mono ?_;rintro e w5 ⟨rfl,K5,m5⟩
 have K5:Row w5 kb 8 (fl (tkc ⟨id,g,k,c,mask,true,0,0⟩)):=K5
 have hzz:=mw2.size
 have okb:ow kb= .no:=ON.out kb (by omega)
 have M5:MAt w5 m ow B A:=M4.mod m5 (by show ¬m=kb;omega) (by rintro b rfl;exact okb)
 have O5:=O4.mod m5 (by show ¬w.heap.size=kb;omega)
 have c5:w5.cell? ⟨m,5,none⟩=some (.slice none 0 0):=by rw [M5.look.2.2.2.2.2.1];exact congrArg some HI.out.2.2.2.2.2.1
 have lM5:=M5.row.lt
 clear b0 b1 b2 lRB RB
 go_wp2_with fail
 refine (m_index0 _ w5).mono ?_;rintro e w6 ⟨rfl,rfl⟩
 go_upto_region 21 with fail
 have mS:∀ w',Mod No w5 w' →w'.cell? ⟨m,5,none⟩=some (.slice none 0 0)∧w'.cell? ⟨kb,0,none⟩=some (.int .i64 id)∧w'.cell? ⟨kb,1,none⟩=some (.int .i64 g)∧w'.cell? ⟨kb,2,none⟩=some (.int .i64 k)∧w'.cell? ⟨kb,3,none⟩=some (.int .i64 c)∧w'.cell? ⟨kb,4,none⟩=some (.int .u64 mask)∧w'.cell? ⟨kb,5,none⟩=some (.bool true)∧w'.cell? ⟨kb,6,none⟩=some (.int .u64 0)∧w'.cell? ⟨kb,7,none⟩=some (.int .u32 0):=fun w' hm=> by
  have K:=K5.mod hm (fun h=> h)
  exact ⟨by rw [(M5.no hm).look.2.2.2.2.2.1];exact congrArg some HI.out.2.2.2.2.2.1,K.cL 0 _ (by omega) rfl,K.cL 1 _ (by omega) rfl,K.cL 2 _ (by omega) rfl,K.cL 3 _ (by omega) rfl,K.cL 4 _ (by omega) rfl,K.cL 5 _ (by omega) rfl,K.cL 6 _ (by omega) rfl,K.cL 7 _ (by omega) rfl⟩
 refine wp_region_chain (fun w' => w'.cell? ⟨m,5,none⟩=some (.slice none 0 0)∧w'.cell? ⟨kb,0,none⟩=some (.int .i64 id)∧w'.cell? ⟨kb,1,none⟩=some (.int .i64 g)∧w'.cell? ⟨kb,2,none⟩=some (.int .i64 k)∧w'.cell? ⟨kb,3,none⟩=some (.int .i64 c)∧w'.cell? ⟨kb,4,none⟩=some (.int .u64 mask)∧w'.cell? ⟨kb,5,none⟩=some (.bool true)∧w'.cell? ⟨kb,6,none⟩=some (.int .u64 0)∧w'.cell? ⟨kb,7,none⟩=some (.int .u32 0)) [7,8,11] [9,10] [11] (rds [0,1,2,3,4,5,6] (.ef 7 (.ef 8 (rds [9,10] (.ef 11 .nil))))) (by kernel_rfl) (by kernel_rfl) (mS _ (Mod.refl No w5).drew) ?_
 intro OO hO
 have HO:=Lib.hid hO
 clear hO
 simp only [rds]
 (repeat (first|(refine lxp HO (v:=?_) (fun w'=> ?_) ?_;rotate_left;(focus (go_simp;(try exact rfl);done));try go_simp)|(refine lxr HO (v:=?_) (fun w' hC'=> ?_) ?_;rotate_left;(focus (obtain ⟨c1,c2,c3,c4,c5,c6,c7,c8,c9⟩:=hC';go_simp;(try exact rfl);done));try go_simp)|(refine lxo HO ?_;try go_simp)))
 (refine lxe HO (fun K hK=> ?_);go_simp;refine hK _ _ ?_ ?_;all_goals clear hK K)
 ·exact .inr (mS _ ((Mod.refl No w5).drew.alloc _))
 refine lxe HO (fun Kx hKx=> ?_)
 go_simp
 refine (m_insert w5.heap.size 1 ⟨id,g,k,c,mask,true,0,0⟩ _ (by exact row_newL' _ _ [_,_,_,_,_,_,_,_] _ (by simp))).mono ?_;rintro e w8 ⟨gI,cI,rfl,m8,hgI,RI⟩
 have m8' :Mod No w5 w8:=Mod.trans ((Mod.refl No w5).drew.alloc _) m8 (fun _ _ h=> h)
 have hgI' :w5.heap.size≤gI:=by simp only [World.size_alloc,World.size_drew] at hgI;omega
 have M8:=M5.no m8'
 have O8:=O5.mod m8' (fun h=> h)
 have fm:=M8.row.free 5
 have lM8:=M8.row.lt
 refine hKx _ _ (.inr (mS _ m8')) ?_
 clear hKx Kx
 have qm:w8.cell? ⟨m,5,none⟩=some (.slice none 0 0):=(mS _ m8').1
 (repeat (first|(refine lxp HO (v:=?_) (fun w'=> ?_) ?_;rotate_left;(focus (go_simp;(try exact rfl);done));try go_simp)|(refine lxr HO (v:=?_) (fun w' hC'=> ?_) ?_;rotate_left;(focus (obtain ⟨c1,c2,c3,c4,c5,c6,c7,c8,c9⟩:=hC';go_simp;(try exact rfl);done));try go_simp)|(refine lxo HO ?_;try go_simp)))
 (refine lxe HO (fun K hK=> ?_);go_simp;refine hK _ _ (.inl (by rfl)) ?_;clear hK K)
 refine wpL_nil ?_
 clear HO mS fm qm
 obtain ⟨A2,hA2⟩:∃ A2:ASt,A2= { A with task:=some ⟨id,g,k,c,mask,true,0,0⟩ }:=⟨_,rfl⟩
 obtain ⟨B3,hB3⟩:∃ B3:STB,B3= { B with tv:=slc gI 1 cI }:=⟨_,rfl⟩
 obtain ⟨ow3,how3⟩:∃ ow3:Nat→SOwn,ow3=fun b=> if b=gI then .tk else ow b:=⟨_,rfl⟩
 have hz5:=m5.size
 have hzU:=mU.size
 have hzx:=mx.size
 have hz8:=m8'.size
 have ho3:∀ b,b < w5.heap.size→ow3 b=ow b:=fun b hb=> by rw [how3];exact if_neg (by omega)
 have mC:Mod (fun b=> b=m) w8 (w8.setCell ⟨m,5,none⟩ (slc gI 1 cI)):=(Mod.refl (fun b=> b=m) w8).setCell (p:=⟨m,5,none⟩) (.inr rfl) _
 have m58:Mod (fun b=> b=m) w5 (w8.setCell ⟨m,5,none⟩ (slc gI 1 cI)):=Mod.trans (m8'.no _) mC (fun _ _ h=> h)
 have S3:StAt (w8.setCell ⟨m,5,none⟩ (slc gI 1 cI)) ow3 B3 A2:=by
  refine ⟨fun t=> ?_,fun b hb=> ?_⟩
  ·have h0:=(M5.st.1 t).mod (ow' :=ow3) m58 (fun b e hn hb=> hn (by rw [←e,hb];exact hown)) ho3
   rw [hA2,hB3]
   cases t with
   |tk=> exact ⟨gI,cI,rfl,by rw [how3];exact if_pos rfl,RI.mod mC (by show ¬gI=m;omega)⟩
   |no=> trivial
   |gb=> exact h0
   |cl=> exact h0
   |cu=> exact h0
   |so=> exact h0
   |si g=> exact h0
  ·by_cases e:b=gI
   ·subst e;simpa using RI.lt
   ·rw [how3] at hb;simp only [if_neg e] at hb;exact Nat.lt_of_lt_of_le (M5.st.2 b hb) m58.size
 have X3:Row (w8.setCell ⟨m,5,none⟩ (slc gI 1 cI)) m 8 (fl (mrow B3 A2)):=by rw [hA2,hB3];exact (M8.row.set (i:=5) (by omega) _).congr (by apply le8 <;> rfl)
 have M3:MAt (w8.setCell ⟨m,5,none⟩ (slc gI 1 cI)) m ow3 B3 A2:=⟨X3,by rw [ho3 m (by omega)];exact hown,S3⟩
 have O9:=O8.mod mC (by show ¬w.heap.size=m;omega)
 have L9:ILs (w8.setCell ⟨m,5,none⟩ (slc gI 1 cI)) V.drew.drew.heap.size oe l ow3:=by
  refine ILs.mod (ow:=ow) (S:=fun b=> b=m∨b=kb) HL.out.2.2.2 (Mod.trans (Mod.trans ((Mod.trans mU mx (fun _ _ h=> h)).no _) (m5.mono (T:=fun b=> b=m∨b=kb) (fun b _ e=> .inr e)) (fun _ _ h=> h)) (m58.mono (fun b _ e=> .inl e)) (fun _ _ h=> h)) (fun b hb hlt hlo hh=> ?_) (fun b hb=> ho3 b (by omega))
  simp only [World.size_drew] at hlo
  rcases hh with hh|hh
  ·have:=mV.size;omega
  ·omega
 have p1:=O9.cL 1 _ (by have:=O9.lt;omega) rfl
 have lO9:=O9.lt
 have eC:A2.C=A.C:=by rw [hA2]
 have HZ:=Lib.hid (And.intro (show Tree A2.G A2.par A2.wt by rw [hA2];exact HI.out.1) (And.intro (show ∀ g c,A2.spots g c=(0,0,0) by rw [hA2];exact HI.out.2.2.2.2.1) (And.intro (show 0≤A2.cr by rw [hA2];exact HI.out.2.2.2.2.2.2.2.2.2) (And.intro (show ∀ x∈l,0 < x∧x < A2.G by rw [hA2];exact HL.out.2.1) (And.intro M3 (And.intro L9 (And.intro hA2 (And.intro how3 eC))))))))
 clear hA2 hB3 how3 S3 X3 M3 L9 eC
 go_wp2_with fail
 obtain ⟨z1,z2,z3,z4,M3,L9,hA2,how3,eC⟩:=HZ.out
 refine (m_wake (A:=A2) z1 z2 z3 _ m ow3 B3 (M3.no (by (repeat first|(with_reducible exact (Mod.refl No _))|(with_reducible refine Mod.alloc ?_ _)|(with_reducible refine Mod.drew ?_)|(with_reducible refine Mod.drewN ?_ _)|(with_reducible refine Mod.sc ?_)))) l z4 HL.out.2.2.1 oe ce V.drew.drew.heap.size (ILs.mod (S:=No) L9 (by (repeat first|(with_reducible exact (Mod.refl No _))|(with_reducible refine Mod.alloc ?_ _)|(with_reducible refine Mod.drew ?_)|(with_reducible refine Mod.drewN ?_ _)|(with_reducible refine Mod.sc ?_))) (fun _ _ _ _ h=> h) (fun _ _=> rfl)) c (by omega)).mono ?_;rintro e w9 ⟨rfl,M9,m9⟩
 go_wp2
 go_ret2
 refine ⟨B3,ow3,rfl,by rw [←hA2];exact M9, ?_,fun b hb=> ho3 b (by omega)⟩
 have q1:Mod No w U:=Mod.trans mw2 mU (fun _ _ h=> h)
 have q2:Mod No w _:=Mod.trans q1 mx (fun _ _ h=> h)
 have q3:=Mod.trans (q2.no (fun b=> ow b≠ .no∨b=m∨w.heap.size≤b)) (m5.mono (T:=fun b=> ow b≠ .no∨b=m∨w.heap.size≤b) (fun b _ e=> .inr (.inr (by have e' :b=kb:=e;omega)))) (fun _ _ h=> h)
 have q4:=Mod.trans q3 (m58.mono (T:=fun b=> ow b≠ .no∨b=m∨w.heap.size≤b) (fun b _ e=> .inr (.inl e))) (fun _ _ h=> h)
 have q5:=Mod.trans q4 (m9.mono (T:=fun b=> ow b≠ .no∨b=m∨w.heap.size≤b) (fun b _ e=> by
  by_cases e' :b=gI
  ·exact .inr (.inr (by omega))
  ·rw [how3] at e;simp only [if_neg e'] at e;exact .inl e)) (fun _ _ h=> h)
 exact q5.mono (fun b hb h=> by rcases h with h|h|h;exact .inl h;exact .inr h;omega)
end
end Go.Q
