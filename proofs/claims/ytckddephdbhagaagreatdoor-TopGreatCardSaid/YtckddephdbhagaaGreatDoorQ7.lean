/- A part of the proof that TopGreat answers true: what some of the functions on its road compute. -/
import Derived.Laws.ResultCell
import Derived.Test.YtckddephdbhagaaGreatDoorQ3
import Derived.Test.YtckddephdbhagaaGreatDoorQ6
set_option linter.unusedVariables false
set_option linter.unusedSimpArgs false
namespace Go.Q
open Go.RowKit Go.Proofs
def Ar (A:ASt) (d K k:Nat):ASt:= { A with spots:=fun g c=> if g < K∨(g=K∧c < k) then rsp A d g c else A.spots g c }
section
variable {A:ASt} {d:Nat}
theorem StAt.spots_congr {w:World} {ow:Nat→SOwn} {B:STB} {A:ASt} (h:StAt w ow B A) (f:Nat→Nat→Int×Int×Int) (hf:∀ g c,g < A.G→c < A.C→A.spots g c=f g c):StAt w ow B { A with spots:=f }:=by
 refine ⟨fun t=> ?_,h.2⟩
 have hp:=h.1 t
 cases t with
 |si g=>
  intro hg
  obtain ⟨h1,h2⟩:=hp hg
  refine ⟨h1,h2.congr (fun i hi=> ?_)⟩
  have e:A.spots g (i / 3)=f g (i / 3):=hf g _ hg (by omega)
  simp only [spt,e]
 |_=> exact hp
theorem Ar_memb (g c K k:Nat):memb (Ar A d K k) d g c=memb A d g c:=by
 refine memb_floor A _ (fun g c=> ?_) d g c
 split
 ·unfold rsp
  split <;> rfl
 ·rfl
theorem Ar_one (h:One1 A d) (K k:Nat):One1 (Ar A d K k) d:=⟨h.T,h.ok⟩
set_option maxRecDepth 100000 in
set_option maxHeartbeats 2000000 in
theorem r_raised (h:One1 A d) (w:World) (ow:Nat→SOwn) (B:STB) (hs:StAt w ow B A) (hC:0 < A.C) (hC2:A.C≤64):
  Calls Tryz.prog 70 #[stv B A] w fun e w' => e= .returned (stv B A)∧StAt w' ow B { A with spots:=rsp A d }∧Mod (fun b=> ow b≠ .no) w w' :=by
 have HI:=Lib.hid h
 have hG:=h.T.g2
 have hG1:=h.T.g1
 clear h
 have on0:ow w.heap.size= .no:=Classical.byContradiction fun hh=> by have:=hs.2 _ hh;omega
 have on1:ow (w.heap.size+1)= .no:=Classical.byContradiction fun hh=> by have:=hs.2 _ hh;omega
 go_enter Tryz.func70,Tryz.ntmps70
 go_wp2
 go_loopw [3] (fun s3 wr=> ∃ K:Nat,s3= .int .i64 K∧K≤A.G∧StAt wr ow B (Ar A d K 0)∧Mod (fun b=> ow b≠ .no) w wr∧Row wr w.heap.size 7 (fl [.int .i64 A.C, .int .u64 A.cr,slc B.gb A.G B.gcap,slc B.cl A.C B.ccap,slc B.cu A.C B.ucap,B.tv,slc B.so A.G B.scap])∧Row wr (w.heap.size+1) 7 (fl [.int .i64 0, .int .u64 0, .slice none 0 0, .slice none 0 0, .slice none 0 0, .slice none 0 0, .slice none 0 0])) (fun s3 _=> A.G - (RowKit.intOf s3).toNat)
 case atStart=>
  have m0:=((Mod.refl No w).alloc (.cells #[.int .i64 A.C, .int .u64 A.cr,slc B.gb A.G B.gcap,slc B.cl A.C B.ccap,slc B.cu A.C B.ucap,B.tv,slc B.so A.G B.scap] 48)).alloc (.cells #[.int .i64 0, .int .u64 0, .slice none 0 0, .slice none 0 0, .slice none 0 0, .slice none 0 0, .slice none 0 0] 48)
  refine ⟨0,rfl,by omega,(hs.no m0).spots_congr _ (fun g c _ _=> by rw [if_neg (by omega)]),m0.no _,(row_newL w [_,_,_,_,_,_,_] _).alloc _,row_newL' _ _ [_,_,_,_,_,_,_] _ (by simp)⟩
 case round=>
  obtain ⟨wg,rfl⟩:∃ W,W=wr:=⟨wr,rfl⟩
  obtain ⟨K,rfl,hKG,Sg,mg,Xg,Zg⟩:=hrel
  have lXg:=Xg.lt
  have g0:=Xg.cL 0 _ (by omega) rfl
  have g6:=Xg.cL 6 _ (by omega) rfl
  by_cases hK:K < A.G
  ·have i0:(0:Int)≤K:=by omega
   have i1:(K:Int) < A.G:=by omega
   go_wp2
   clear g0 g6
   go_loopw [4] (fun s4 wr=> ∃ c:Nat,s4= .int .i64 c∧c≤A.C∧StAt wr ow B (Ar A d K c)∧Mod (fun b=> ow b≠ .no) w wr∧Row wr w.heap.size 7 (fl [.int .i64 A.C, .int .u64 A.cr,slc B.gb A.G B.gcap,slc B.cl A.C B.ccap,slc B.cu A.C B.ucap,B.tv,slc B.so A.G B.scap])∧Row wr (w.heap.size+1) 7 (fl [.int .i64 0, .int .u64 0, .slice none 0 0, .slice none 0 0, .slice none 0 0, .slice none 0 0, .slice none 0 0])) (fun s4 _=> A.C - (RowKit.intOf s4).toNat)
   case atStart=> exact ⟨0,rfl,by omega,Sg,mg,Xg,Zg⟩
   case round=>
   obtain ⟨wk,rfl⟩:∃ W,W=wr:=⟨wr,rfl⟩
   obtain ⟨c,rfl,hcC,Sk,mk,X,Z⟩:=hrel
   clear Sg mg Xg Zg lXg
   have lX:=X.lt
   have lZ:=Z.lt
   have x0:=X.cL 0 _ (by omega) rfl
   have x1:=X.cL 1 _ (by omega) rfl
   have x2:=X.cL 2 _ (by omega) rfl
   have x3:=X.cL 3 _ (by omega) rfl
   have x4:=X.cL 4 _ (by omega) rfl
   have x5:=X.cL 5 _ (by omega) rfl
   have x6:=X.cL 6 _ (by omega) rfl
   by_cases hc:c < A.C
   ·have j0:(0:Int)≤c:=by omega
    have j1:(c:Int) < A.C:=by omega
    have spK:(Ar A d K c).spots K c=A.spots K c:=by show (if _ then _ else _)=_;rw [if_neg (by omega)]
    have mS:∀ w',Mod No wk w' →w'.cell? ⟨w.heap.size,6,none⟩=some (slc B.so A.G B.scap)∧w'.cell? ⟨B.so,K,none⟩=some (slc (B.si K) A.C (B.sc K))∧w'.cell? ⟨B.si K,c * 3+2,none⟩=some (.int .u64 (A.spots K c).2.2):=fun w' hm=> by
     have S2:=Sk.no hm
     have X2:=X.mod hm (fun h=> h)
     have q:=S2.sp (g:=K) (c:=c) hK hc
     rw [spK] at q
     exact ⟨X2.cL 6 _ (by have:=X2.lt;omega) rfl,q.1,q.2.2.2⟩
    go_wp2_with fail
    refine (members_ok (Ar_one HI.out K c) 256 K c wk ow B (by show A.G - K≤256;omega) hK hc Sk).mono ?_;rintro e w5 ⟨v5,rfl,hM,hb5⟩
    rw [Ar_memb] at hM
    have m5:Mod No wk w5:=Mod.of_below hb5 No
    have X5:=X.mod m5 (fun h=> h)
    have Z5:=Z.mod m5 (fun h=> h)
    have S5:=Sk.no m5
    clear x0 x1 x2 x3 x4 x5 x6
    cases hp:memb A d K c with
    |none=>
     rw [hp] at hM
     simp only [MemAt] at hM
     subst hM
     have hr:rsp A d K c=A.spots K c:=by unfold rsp;rw [hp]
     have HR:=Lib.hid hr
     clear hp hr
     go_upto_region 8 with fail
     refine wp_region_chain (fun w' => w'.cell? ⟨w.heap.size,6,none⟩=some (slc B.so A.G B.scap)∧w'.cell? ⟨B.so,K,none⟩=some (slc (B.si K) A.C (B.sc K))∧w'.cell? ⟨B.si K,c * 3+2,none⟩=some (.int .u64 (A.spots K c).2.2)) [5] [] [] (rds [0,1,2,3,4,7,8,9,10,11,12,13,14,15] (.ef 5 (rds [6,16,17] .nil))) (by kernel_rfl) (by kernel_rfl) (mS _ m5.drew) ?_
     intro O hO
     have HO:=Lib.hid hO
     clear hO
     simp only [rds]
     (repeat (first|(refine lxp HO (v:=?_) (fun w'=> ?_) ?_;rotate_left;(focus (go_simp;(try exact rfl);done));try go_simp)|(refine lxr HO (v:=?_) (fun w' hC'=> ?_) ?_;rotate_left;(focus (obtain ⟨c1,c2,c3⟩:=hC';go_simp;(try exact rfl);done));try go_simp)|(refine lxo HO ?_;try go_simp)))
     refine wpL_skip (by rw [HO.out];rfl) (by first|rfl|(rw [HO.out];rfl)) ?_
     try go_simp
     (repeat (first|(refine lxp HO (v:=?_) (fun w'=> ?_) ?_;rotate_left;(focus (go_simp;(try exact rfl);done));try go_simp)|(refine lxr HO (v:=?_) (fun w' hC'=> ?_) ?_;rotate_left;(focus (obtain ⟨c1,c2,c3⟩:=hC';go_simp;(try exact rfl);done));try go_simp)|(refine lxo HO ?_;try go_simp)))
     refine wpL_nil ?_
     have S6:StAt w5.drew ow B (Ar A d K (c+1)):=(S5.no (Mod.refl No _).drew).spots_congr (fun g c' => if g < K∨(g=K∧c' < c+1) then rsp A d g c' else A.spots g c') (fun g c' hg hc' => by
      show (if g < K∨(g=K∧c' < c) then rsp A d g c' else A.spots g c')=_
      by_cases e:g=K∧c' =c
      ·obtain ⟨rfl,rfl⟩:=e
       rw [if_neg (by omega),if_pos (by omega),HR.out]
      ·have:(g < K∨(g=K∧c' < c))↔(g < K∨(g=K∧c' < c+1)):=by omega
       simp only [this])
     go_wp2
     refine ⟨⟨c+1,by go_num,by omega,S6,Mod.trans mk (m5.drew.no _) (fun _ _ h=> h),X5,Z5⟩,by simp only [RowKit.intOf];omega⟩
    |some p=>
     rw [hp] at hM
     obtain ⟨b5,c5,rfl,R5⟩:=hM
     have HP:=Lib.hid hp
     clear hp
     go_upto_region 8 with fail
     have R5' :=R5.drew
     refine wp_region_chain (fun w' => w'.cell? ⟨w.heap.size,6,none⟩=some (slc B.so A.G B.scap)∧w'.cell? ⟨B.so,K,none⟩=some (slc (B.si K) A.C (B.sc K))∧w'.cell? ⟨B.si K,c * 3+2,none⟩=some (.int .u64 (A.spots K c).2.2)) [5] [] [] (rds [0,1,2,3,4,7,8,9,10,11,12,13,14,15] (.ef 5 (rds [6,16,17] .nil))) (by kernel_rfl) (by kernel_rfl) (mS _ m5.drew) ?_
     intro O hO
     have HO:=Lib.hid hO
     clear hO
     simp only [rds]
     (repeat (first|(refine lxp HO (v:=?_) (fun w'=> ?_) ?_;rotate_left;(focus (go_simp;(try exact rfl);done));try go_simp)|(refine lxr HO (v:=?_) (fun w' hC'=> ?_) ?_;rotate_left;(focus (obtain ⟨c1,c2,c3⟩:=hC';go_simp;(try exact rfl);done));try go_simp)|(refine lxo HO ?_;try go_simp)))
     refine lxe HO (fun Kx hKx=> ?_)
     rw [if_pos (by first|rfl|(rw [HO.out];rfl))]
     go_simp
     refine (r_least b5 c5 p.1 p.2.1 p.2.2 _ R5').mono ?_;rintro e w6 ⟨rfl,hb6⟩
     have m6:Mod No wk w6:=Mod.trans m5.drew (Mod.of_below hb6 No) (fun _ _ h=> h)
     have X6:=X.mod m6 (fun h=> h)
     have Z6:=Z.mod m6 (fun h=> h)
     have S6:=Sk.no m6
     have R6:Row w6 b5 3 (fl [.int .u64 p.1, .int .i64 p.2.1, .int .i64 p.2.2]):=R5'.below hb6 R5'.lt
     have lX6:=X6.lt
     have lZ6:=Z6.lt
     have mS6:=mS w6 m6
     refine hKx _ _ (.inr mS6) ?_
     clear hKx Kx
     by_cases hgt:(A.spots K c).2.2 < p.1
     ·have hr:rsp A d K c=((A.spots K c).1,(A.spots K c).2.1,p.1):=by unfold rsp;rw [HP.out];simp only [mxI,if_pos hgt]
      (repeat (first|(refine lxp HO (v:=?_) (fun w'=> ?_) ?_;rotate_left;(focus (go_simp;(try exact rfl);done));try go_simp)|(refine lxr HO (v:=?_) (fun w' hC'=> ?_) ?_;rotate_left;(focus (obtain ⟨c1,c2,c3⟩:=hC';go_simp;(try exact rfl);done));try go_simp)|(refine lxo HO ?_;try go_simp)))
      refine wpL_nil ?_
      obtain ⟨q1,q2,q3⟩:=mS6
      have HR:=Lib.hid hr
      clear hr
      go_upto_region 9 with fail
      refine wp_region_chain (fun w' => w'.cell? ⟨w.heap.size,6,none⟩=some (slc B.so A.G B.scap)∧w'.cell? ⟨B.so,K,none⟩=some (slc (B.si K) A.C (B.sc K))) [7,11] [9,10] [11] (rds [0,1,2,3,4,5,6] (.ef 7 (rds [8,9,10] (.ef 11 .nil)))) (by kernel_rfl) (by kernel_rfl) ⟨q1,q2⟩ ?_
      intro O hO
      have HO:=Lib.hid hO
      clear hO
      simp only [rds]
      (repeat (first|(refine lxp HO (v:=?_) (fun w'=> ?_) ?_;rotate_left;(focus (go_simp;(try exact rfl);done));try go_simp)|(refine lxr HO (v:=?_) (fun w' hC'=> ?_) ?_;rotate_left;(focus (obtain ⟨c1,c2⟩:=hC';go_simp;(try exact rfl);done));try go_simp)|(refine lxo HO ?_;try go_simp)))
      refine lxe HO (fun Kx hKx=> ?_)
      go_simp
      refine (r_least b5 c5 p.1 p.2.1 p.2.2 _ R6.drew).mono ?_;rintro e w7 ⟨rfl,hb7⟩
      have m7:Mod No wk w7:=Mod.trans m6.drew (Mod.of_below hb7 No) (fun _ _ h=> h)
      have X7:=X.mod m7 (fun h=> h)
      have Z7:=Z.mod m7 (fun h=> h)
      have S7:=Sk.no m7
      obtain ⟨r1,r2,r3⟩:=mS w7 m7
      have fr:=(S7.1 (.si K) hK).2.free (c * 3+2)
      have lsi:=(S7.1 (.si K) hK).2.lt
      have tsi:=(S7.1 (.si K) hK).1
      refine hKx _ _ (.inr ⟨r1,r2⟩) ?_
      clear hKx Kx q1 q2 q3
      (repeat (first|(refine lxp HO (v:=?_) (fun w'=> ?_) ?_;rotate_left;(focus (go_simp;(try exact rfl);done));try go_simp)|(refine lxr HO (v:=?_) (fun w' hC'=> ?_) ?_;rotate_left;(focus (obtain ⟨c1,c2⟩:=hC';go_simp;(try exact rfl);done));try go_simp)|(refine lxo HO ?_;try go_simp)))
      (refine lxe HO (fun K hK=> ?_);go_simp;refine hK _ _ (.inl (by rfl)) ?_;clear hK K)
      refine wpL_nil ?_
      have S8:=S7.setFloor (g:=K) (c:=c) hK hc p.1
      have ne0:w.heap.size≠B.si K:=by intro hh;rw [←hh,on0] at tsi;simp at tsi
      have ne1:w.heap.size+1≠B.si K:=by intro hh;rw [←hh,on1] at tsi;simp at tsi
      have X8:=X7.setOther (p:=⟨B.si K,c * 3+2,none⟩) (Ne.symm ne0) (.int .u64 p.1)
      have Z8:=Z7.setOther (p:=⟨B.si K,c * 3+2,none⟩) (Ne.symm ne1) (.int .u64 p.1)
      have m8:=S7.modSi (g:=K) hK (c * 3+2) (.int .u64 p.1)
      have S9:StAt (w7.setCell ⟨B.si K,c * 3+2,none⟩ (.int .u64 p.1)) ow B (Ar A d K (c+1)):=S8.spots_congr (fun g c' => if g < K∨(g=K∧c' < c+1) then rsp A d g c' else A.spots g c') (fun g c' hg hc' => by
       show upd2 (Ar A d K c).spots K c (((Ar A d K c).spots K c).1,((Ar A d K c).spots K c).2.1,p.1) g c' =_
       by_cases e:g=K∧c' =c
       ·obtain ⟨rfl,rfl⟩:=e
        rw [upd2_same,spK,if_pos (by omega),HR.out]
       ·rw [upd2_other _ _ _ _ _ _ e]
        show (if g < K∨(g=K∧c' < c) then rsp A d g c' else A.spots g c')=_
        have:(g < K∨(g=K∧c' < c))↔(g < K∨(g=K∧c' < c+1)):=by omega
        simp only [this])
      clear r1 r2 r3 fr
      go_wp2
      refine ⟨⟨c+1,by go_num,by omega,S9,Mod.trans mk (Mod.trans (m7.no _) m8 (fun _ _ h=> h)) (fun _ _ h=> h),X8,Z8⟩,by simp only [RowKit.intOf];omega⟩
     ·have hr:rsp A d K c=A.spots K c:=by unfold rsp;rw [HP.out];simp only [mxI,if_neg hgt]
      have hle:p.1≤(A.spots K c).2.2:=by omega
      have HR:=Lib.hid hr
      clear hr
      (repeat (first|(refine lxp HO (v:=?_) (fun w'=> ?_) ?_;rotate_left;(focus (go_simp;(try exact rfl);done));try go_simp)|(refine lxr HO (v:=?_) (fun w' hC'=> ?_) ?_;rotate_left;(focus (obtain ⟨c1,c2,c3⟩:=hC';go_simp;(try exact rfl);done));try go_simp)|(refine lxo HO ?_;try go_simp)))
      refine wpL_nil ?_
      have S7:StAt w6 ow B (Ar A d K (c+1)):=(S6).spots_congr (fun g c' => if g < K∨(g=K∧c' < c+1) then rsp A d g c' else A.spots g c') (fun g c' hg hc' => by
       show (if g < K∨(g=K∧c' < c) then rsp A d g c' else A.spots g c')=_
       by_cases e:g=K∧c' =c
       ·obtain ⟨rfl,rfl⟩:=e
        rw [if_neg (by omega),if_pos (by omega),HR.out]
       ·have:(g < K∨(g=K∧c' < c))↔(g < K∨(g=K∧c' < c+1)):=by omega
        simp only [this])
      go_wp2
      refine ⟨⟨c+1,by go_num,by omega,S7,Mod.trans mk (m6.no _) (fun _ _ h=> h),X6,Z6⟩,by simp only [RowKit.intOf];omega⟩
   ·obtain rfl:c=A.C:=by omega
    have j1:(A.C:Int)≤A.C:=by omega
    go_wp2
    have S6:StAt wk ow B (Ar A d (K+1) 0):=Sk.spots_congr (fun g c' => if g < K+1∨(g=K+1∧c' < 0) then rsp A d g c' else A.spots g c') (fun g c' hg hc' => by
     have hc2:c' < A.C:=hc'
     show (if g < K∨(g=K∧c' < A.C) then rsp A d g c' else A.spots g c')=_
     have:(g < K∨(g=K∧c' < A.C))↔(g < K+1∨(g=K+1∧c' < 0)):=by omega
     simp only [this])
    refine ⟨⟨K+1,by go_num,by omega,S6,mk,X,Z⟩,by simp only [RowKit.intOf];omega⟩
  ·obtain rfl:K=A.G:=by omega
   obtain ⟨o5,n5,d5,hB5⟩:∃ o m d,B.tv= .slice o m d:=by
    cases hA:A.task with
    |none=> obtain ⟨a,c,h1⟩:=hs.t0 hA;exact ⟨_,_,_,h1⟩
    |some t=> obtain ⟨a,c,h1,_⟩:=hs.t1 hA;exact ⟨_,_,_,h1⟩
   have lZg:=Zg.lt
   clear g0 g6
   have j0:=Xg.cL 0 _ (by omega) rfl
   have j1:=Xg.cL 1 _ (by omega) rfl
   have j2:=Xg.cL 2 _ (by omega) rfl
   have j3:=Xg.cL 3 _ (by omega) rfl
   have j4:=Xg.cL 4 _ (by omega) rfl
   have j5:wg.cell? ⟨w.heap.size,5,none⟩=some (.slice o5 n5 d5):=by have:=Xg.cL 5 _ (by omega) rfl;rw [this];exact congrArg some hB5
   have j6:=Xg.cL 6 _ (by omega) rfl
   have j_:=Xg.free
   have jf0:=j_ 0
   have jf1:=j_ 1
   have jf2:=j_ 2
   have jf3:=j_ 3
   have jf4:=j_ 4
   have jf5:=j_ 5
   have jf6:=j_ 6
   clear j_
   have jl:=Xg.lt
   have z0:=Zg.cL 0 _ (by omega) rfl
   have z1:=Zg.cL 1 _ (by omega) rfl
   have z2:=Zg.cL 2 _ (by omega) rfl
   have z3:=Zg.cL 3 _ (by omega) rfl
   have z4:=Zg.cL 4 _ (by omega) rfl
   have z5:=Zg.cL 5 _ (by omega) rfl
   have z6:=Zg.cL 6 _ (by omega) rfl
   have z_:=Zg.free
   have zf0:=z_ 0
   have zf1:=z_ 1
   have zf2:=z_ 2
   have zf3:=z_ 3
   have zf4:=z_ 4
   have zf5:=z_ 5
   have zf6:=z_ 6
   clear z_
   have zl:=Zg.lt
   have HB5:=Lib.hid hB5
   clear hB5
   have i1:(A.G:Int)≤A.G:=by omega
   go_wp2
   have mF:Mod (fun b=> b=w.heap.size+1) wg ((((((((wg).setCell ⟨w.heap.size+1,0,none⟩ (.int .i64 A.C)).setCell ⟨w.heap.size+1,1,none⟩ (.int .u64 A.cr)).setCell ⟨w.heap.size+1,2,none⟩ (slc B.gb A.G B.gcap)).setCell ⟨w.heap.size+1,3,none⟩ (slc B.cl A.C B.ccap)).setCell ⟨w.heap.size+1,4,none⟩ (slc B.cu A.C B.ucap)).setCell ⟨w.heap.size+1,5,none⟩ (.slice o5 n5 d5)).setCell ⟨w.heap.size+1,6,none⟩ (slc B.so A.G B.scap)):=((((((((Mod.refl (fun b=> b=w.heap.size+1) wg).setCell (p:=⟨w.heap.size+1,0,none⟩) (.inr rfl) _).setCell (p:=⟨w.heap.size+1,1,none⟩) (.inr rfl) _).setCell (p:=⟨w.heap.size+1,2,none⟩) (.inr rfl) _).setCell (p:=⟨w.heap.size+1,3,none⟩) (.inr rfl) _).setCell (p:=⟨w.heap.size+1,4,none⟩) (.inr rfl) _).setCell (p:=⟨w.heap.size+1,5,none⟩) (.inr rfl) _).setCell (p:=⟨w.heap.size+1,6,none⟩) (.inr rfl) _)
   have e5:=HB5.out
   refine bodyPost_ret (v:= .agg #[.int .i64 A.C, .int .u64 A.cr,slc B.gb A.G B.gcap,slc B.cl A.C B.ccap,slc B.cu A.C B.ucap, .slice o5 n5 d5,slc B.so A.G B.scap]) (by simp [results,Tryz.results70,go_sem, *]) rfl ⟨?_, ?_, ?_⟩
   ·show _=Ending.returned (.agg #[_,_,_,_,_,B.tv,_]);rw [e5]
   ·refine ((Sg.mod mF (by rintro b rfl;exact on1)).spots_congr (rsp A d) (fun g c hg hc=> ?_))
    show (if g < A.G∨(g=A.G∧c < 0) then rsp A d g c else A.spots g c)=_
    rw [if_pos (.inl hg)]
   ·refine Mod.trans mg mF ?_
    rintro b hb rfl
    omega
end
end Go.Q
namespace Go.Q
open Go.RowKit Go.Proofs
section
variable {A A2:ASt} {d:Nat}
set_option maxRecDepth 100000 in
set_option maxHeartbeats 4000000 in
theorem r_wake (T:Tree A.G A.par A.wt) (h2:One1 A2 d) (ht2:A2.task=none) (w:World) (ow ow2:Nat→SOwn) (B B2:STB) (hs:StAt w ow B A) (hs2:StAt w ow2 B2 A2) (hdis:∀ b,ow b≠ .no→ow2 b= .no) (eG:A2.G=A.G) (eC:A2.C=A.C) (hC2:A.C≤64)
  (hf:∀ g c,(A2.spots g c).2.2=0) (hv:∀ g c,0≤(A.spots g c).1) (hcr:0≤A.cr) (g c:Nat) (hg:g < A.G) (hc:c < A.C):
  Calls Tryz.prog 130 #[stv B A,stv B2 A2, .int .i64 g, .int .i64 c] w fun e w' => e= .returned (stv B A)∧StAt w' ow B A∧Mod (fun b=> ow b≠ .no) w w' :=by
 have HI:=Lib.hid (And.intro h2 (And.intro ht2 (And.intro hf hv)))
 have hG:=T.g2
 have mn:∀ y,memb A2 d y c=none:=fun y=> by unfold memb;rw [ht2]
 have HN:=Lib.hid mn
 clear h2 ht2 hf hv mn
 have on0:ow w.heap.size= .no:=Classical.byContradiction fun hh=> by have:=hs.2 _ hh;omega
 have on1:ow (w.heap.size+1)= .no:=Classical.byContradiction fun hh=> by have:=hs.2 _ hh;omega
 have on2:ow (w.heap.size+1+1)= .no:=Classical.byContradiction fun hh=> by have:=hs.2 _ hh;omega
 have j0:(0:Int)≤c:=by omega
 have j1:(c:Int) < A.C:=by omega
 have HE:=Lib.hid (And.intro eG eC)
 clear eG eC
 go_enter Tryz.func130,Tryz.ntmps130
 go_wp2
 go_loopw [2] (fun s2 wr=> ∃ y:Nat,s2= .int .i64 y∧y < A.G∧StAt wr ow B A∧Mod (fun b=> ow b≠ .no) w wr∧Row wr w.heap.size 7 (fl [.int .i64 A.C, .int .u64 A.cr,slc B.gb A.G B.gcap,slc B.cl A.C B.ccap,slc B.cu A.C B.ucap,B.tv,slc B.so A.G B.scap])∧Row wr (w.heap.size+1) 7 (fl [.int .i64 A2.C, .int .u64 A2.cr,slc B2.gb A2.G B2.gcap,slc B2.cl A2.C B2.ccap,slc B2.cu A2.C B2.ucap,B2.tv,slc B2.so A2.G B2.scap])∧Row wr (w.heap.size+1+1) 7 (fl [.int .i64 0, .int .u64 0, .slice none 0 0, .slice none 0 0, .slice none 0 0, .slice none 0 0, .slice none 0 0])) (fun s2 _=> (RowKit.intOf s2).toNat)
 case atStart=>
  have m0:=(((Mod.refl No w).alloc (.cells #[.int .i64 A.C, .int .u64 A.cr,slc B.gb A.G B.gcap,slc B.cl A.C B.ccap,slc B.cu A.C B.ucap,B.tv,slc B.so A.G B.scap] 48)).alloc (.cells #[.int .i64 A2.C, .int .u64 A2.cr,slc B2.gb A2.G B2.gcap,slc B2.cl A2.C B2.ccap,slc B2.cu A2.C B2.ucap,B2.tv,slc B2.so A2.G B2.scap] 48)).alloc (.cells #[.int .i64 0, .int .u64 0, .slice none 0 0, .slice none 0 0, .slice none 0 0, .slice none 0 0, .slice none 0 0] 48)
  exact ⟨g,rfl,hg,hs.no m0,m0.no _,((row_newL w [_,_,_,_,_,_,_] _).alloc _).alloc _,(row_newL' _ _ [_,_,_,_,_,_,_] _ (by simp)).alloc _,row_newL' _ _ [_,_,_,_,_,_,_] _ (by simp)⟩
 case round=>
  obtain ⟨wk,rfl⟩:∃ W,W=wr:=⟨wr,rfl⟩
  obtain ⟨y,rfl,hy,Sk,mk,X,Y,Z⟩:=hrel
  have hs2' :=hs2.mod mk (fun b hb=> hdis b hb)
  have lX:=X.lt
  have lY:=Y.lt
  have lZ:=Z.lt
  by_cases hy0:0 < y
  ·have i0:(0:Int) < y:=by omega
   have i1:(y:Int) < A.G:=by omega
   have hp:=T.parOk y hy0 hy
   obtain ⟨up,hup⟩:∃ up:Nat,A.par y=up:=⟨(A.par y).toNat,(Int.toNat_of_nonneg hp.1).symm⟩
   have hupy:up < y:=by have:=hp.2;omega
   have HU:=Lib.hid hup
   clear hup hp
   have y0:=Y.cL 0 _ (by omega) rfl
   have y1:=Y.cL 1 _ (by omega) rfl
   have y2:=Y.cL 2 _ (by omega) rfl
   have y3:=Y.cL 3 _ (by omega) rfl
   have y4:=Y.cL 4 _ (by omega) rfl
   have y5:=Y.cL 5 _ (by omega) rfl
   have y6:=Y.cL 6 _ (by omega) rfl
   go_wp2_with fail
   refine (members_ok HI.out.1 256 y c wk ow2 B2 (by have:=HE.out.1;omega) (by have:=HE.out.1;omega) (by have:=HE.out.2;omega) hs2').mono ?_;rintro e w5 ⟨v5,rfl,hM,hb5⟩
   rw [HN.out] at hM
   simp only [MemAt] at hM
   subst hM
   have m5:Mod No wk w5:=Mod.of_below hb5 No
   have X5:=X.mod m5 (fun h=> h)
   have Y5:=Y.mod m5 (fun h=> h)
   have Z5:=Z.mod m5 (fun h=> h)
   have S5:=Sk.no m5
   have T5:=hs2'.no m5
   clear y0 y1 y2 y3 y4 y5 y6 lX lY lZ
   have lX:=X5.lt
   have x2:=X5.cL 2 _ (by omega) rfl
   have x6:=X5.cL 6 _ (by omega) rfl
   obtain ⟨p0,p1⟩:=S5.gp hy
   rw [HU.out] at p0
   obtain ⟨s0,s1,s2,s3⟩:=S5.sp hy hc
   have wt0:=(T.wtOk y hy).1
   have wt1:=(T.wtOk y hy).2
   go_upto_region 4 with fail
   refine wp_world (fun V=> Mod No w5 V∧Row V w5.heap.size 3 (fl [.int .u64 (A.spots y c).1, .int .u32 (A.spots y c).2.1, .int .u64 (A.spots y c).2.2])) ⟨(Mod.refl No w5).alloc _,row_newL w5 [_,_,_] _⟩ ?_
   intro V ⟨mV,XB⟩
   obtain ⟨xb,hxb⟩:∃ n,n=w5.heap.size:=⟨_,rfl⟩
   rw [←hxb] at XB ⊢
   have hle:w5.heap.size≤xb:=by omega
   have lXB:=XB.lt
   clear hxb
   have mS:∀ w',Mod No V w' →w'.cell? ⟨xb,0,none⟩=some (.int .u64 (A.spots y c).1)∧w'.cell? ⟨xb,1,none⟩=some (.int .u32 (A.spots y c).2.1)∧w'.cell? ⟨w.heap.size,1,none⟩=some (.int .u64 A.cr)∧w'.cell? ⟨w.heap.size,2,none⟩=some (slc B.gb A.G B.gcap)∧w'.cell? ⟨B.gb,y * 2+1,none⟩=some (.int .i64 (A.wt y))∧w'.cell? ⟨w.heap.size+1,6,none⟩=some (slc B2.so A2.G B2.scap)∧w'.cell? ⟨B2.so,up,none⟩=some (slc (B2.si up) A2.C (B2.sc up))∧w'.cell? ⟨B2.si up,c * 3+2,none⟩=some (.int .u64 0):=fun w' hm=> by
    have Q1:=XB.mod hm (fun h=> h)
    have Q2:=(X5.mod mV (fun h=> h)).mod hm (fun h=> h)
    have Q3:=(Y5.mod mV (fun h=> h)).mod hm (fun h=> h)
    have Q4:=((S5.no mV).no hm).gp hy
    have Q5:=((T5.no mV).no hm).sp (g:=up) (c:=c) (by have:=HE.out.1;omega) (by have:=HE.out.2;omega)
    rw [HI.out.2.2.1] at Q5
    exact ⟨Q1.cL 0 _ (by omega) rfl,Q1.cL 1 _ (by omega) rfl,Q2.cL 1 _ (by omega) rfl,Q2.cL 2 _ (by omega) rfl,Q4.2,Q3.cL 6 _ (by omega) rfl,Q5.1,Q5.2.2.2⟩
   have e1:=HE.out.1
   have e2:=HE.out.2
   have k1:(up:Int) < A2.G:=by omega
   have k2:(c:Int) < A2.C:=by omega
   clear e1 e2
   go_cut [11] (fun s11 wx=> ∃ nb,s11=ptr nb∧w5.heap.size≤nb∧Row wx nb 3 (fl [.int .u64 (A.spots y c).1, .int .u32 (A.spots y c).2.1, .int .u32 (A.wt y)])∧Mod No w5 wx)
   case first=>
    refine wp_region_chain (fun w' => w'.cell? ⟨xb,0,none⟩=some (.int .u64 (A.spots y c).1)∧w'.cell? ⟨xb,1,none⟩=some (.int .u32 (A.spots y c).2.1)∧w'.cell? ⟨w.heap.size,1,none⟩=some (.int .u64 A.cr)∧w'.cell? ⟨w.heap.size,2,none⟩=some (slc B.gb A.G B.gcap)∧w'.cell? ⟨B.gb,y * 2+1,none⟩=some (.int .i64 (A.wt y))∧w'.cell? ⟨w.heap.size+1,6,none⟩=some (slc B2.so A2.G B2.scap)∧w'.cell? ⟨B2.so,up,none⟩=some (slc (B2.si up) A2.C (B2.sc up))∧w'.cell? ⟨B2.si up,c * 3+2,none⟩=some (.int .u64 0)) [11,24,25,26] [] [26] (rds [0,1,2,3,4,5,6,7,8,9,10,12,13,14,15,16,17,18,19,20,21,22,23] (.ef2 11 (.ef2 24 (.ef 25 (.ef 26 .nil)) 25 (.ef 24 (.ef 26 .nil))) 25 (.ef 11 (.ef 24 (.ef 26 .nil))))) (by kernel_rfl) (by kernel_rfl) (mS _ (Mod.refl No V).drew) ?_
    intro O hO
    have HO:=Lib.hid hO
    clear hO
    simp only [rds]
    (repeat (first|(refine lxp HO (v:=?_) (fun w'=> ?_) ?_;rotate_left;(focus (go_simp;(try exact rfl);done));try go_simp)|(refine lxr HO (v:=?_) (fun w' hC'=> ?_) ?_;rotate_left;(focus (obtain ⟨c1,c2,c3,c4,c5,c6,c7,c8⟩:=hC';go_simp;(try exact rfl);done));try go_simp)|(refine lxo HO ?_;try go_simp)))
    refine wpL_eff2 ?o1 ?o2
    case o1=>
     refine lxe HO (fun Kx hKx=> ?_)
     go_simp
     refine (r_entity (A.spots y c).1 (A.spots y c).2.1 (A.wt y) wt0 wt1 _).mono ?_;rintro e w6 ⟨rfl,hb6⟩
     have m6:Mod No V w6:=Mod.trans (Mod.refl No V).drew (Mod.of_below hb6 No) (fun _ _ h=> h)
     refine hKx _ _ (.inr (mS _ m6)) ?_
     clear hKx Kx
     (repeat (first|(refine lxp HO (v:=?_) (fun w'=> ?_) ?_;rotate_left;(focus (go_simp;(try exact rfl);done));try go_simp)|(refine lxr HO (v:=?_) (fun w' hC'=> ?_) ?_;rotate_left;(focus (obtain ⟨c1,c2,c3,c4,c5,c6,c7,c8⟩:=hC';go_simp;(try exact rfl);done));try go_simp)|(refine lxo HO ?_;try go_simp)))
     refine wpL_eff2 ?o3 ?o4
     case o3=>
      refine lxe HO (fun Kx hKx=> ?_)
      go_simp
      refine (r_woken (A.spots y c).1 (A.spots y c).2.1 (A.wt y) A.cr (HI.out.2.2.2 y c) hcr _).mono ?_;rintro e w7 ⟨rfl,hb7⟩
      have m7:Mod No V w7:=Mod.trans m6 (Mod.of_below hb7 No) (fun _ _ h=> h)
      refine hKx _ _ (.inr (mS _ m7)) ?_
      clear hKx Kx
      (repeat (first|(refine lxp HO (v:=?_) (fun w'=> ?_) ?_;rotate_left;(focus (go_simp;(try exact rfl);done));try go_simp)|(refine lxr HO (v:=?_) (fun w' hC'=> ?_) ?_;rotate_left;(focus (obtain ⟨c1,c2,c3,c4,c5,c6,c7,c8⟩:=hC';go_simp;(try exact rfl);done));try go_simp)|(refine lxo HO ?_;try go_simp)))
      (refine lxe HO (fun K hK=> ?_);go_simp;refine hK _ _ ?_ ?_;all_goals clear hK K)
      ·exact .inr (mS _ (m7.alloc _))
      (refine lxe HO (fun K hK=> ?_);go_simp;refine hK _ _ (.inl (by rfl)) ?_;clear hK K)
      refine wpL_nil ?_
      go_wp2_with fail
      go_meet
      exact ⟨_,rfl,by have:=mV.size;have:=m7.size;omega,row_newL w7 [_,_,_] _,Mod.trans mV (m7.alloc _) (fun _ _ h=> h)⟩
     case o4=>
      (refine lxe HO (fun K hK=> ?_);go_simp;refine hK _ _ ?_ ?_;all_goals clear hK K)
      ·exact .inr (mS _ (m6.alloc _))
      refine lxe HO (fun Kx hKx=> ?_)
      go_simp
      refine (r_woken (A.spots y c).1 (A.spots y c).2.1 (A.wt y) A.cr (HI.out.2.2.2 y c) hcr _).mono ?_;rintro e w7 ⟨rfl,hb7⟩
      have m7:Mod No V w7:=Mod.trans (m6.alloc _) (Mod.of_below hb7 No) (fun _ _ h=> h)
      have hz6:=m6.size
      have N7:Row w7 w6.heap.size 3 (fl [.int .u64 0, .int .u32 0, .int .u32 0]):=Row.mod (row_newL w6 [_,_,_] 223) (Mod.of_below hb7 No) (fun h=> h)
      have n0:=N7.cL 0 _ (by omega) rfl
      have n1:=N7.cL 1 _ (by omega) rfl
      have n2:=N7.cL 2 _ (by omega) rfl
      have n_:=N7.free
      have nf0:=n_ 0
      have nf1:=n_ 1
      have nf2:=n_ 2
      clear n_
      have nl:=N7.lt
      refine hKx _ _ (.inr (mS _ m7)) ?_
      clear hKx Kx
      (repeat (first|(refine lxp HO (v:=?_) (fun w'=> ?_) ?_;rotate_left;(focus (go_simp;(try exact rfl);done));try go_simp)|(refine lxr HO (v:=?_) (fun w' hC'=> ?_) ?_;rotate_left;(focus (obtain ⟨c1,c2,c3,c4,c5,c6,c7,c8⟩:=hC';go_simp;(try exact rfl);done));try go_simp)|(refine lxo HO ?_;try go_simp)))
      (refine lxe HO (fun K hK=> ?_);go_simp;refine hK _ _ (.inl (by rfl)) ?_;clear hK K)
      refine wpL_nil ?_
      go_wp2_with fail
      go_meet
      exact ⟨w6.heap.size,rfl,by have:=mV.size;(try have:=m6.size);omega,(((N7.set (i:=0) (by omega) _).set (i:=1) (by omega) _).set (i:=2) (by omega) _).congr (fun i hi=> by rcases (by omega:i=0∨i=1∨i=2) with rfl|rfl|rfl <;> rfl),Mod.trans mV (by (repeat first|(with_reducible exact m7)|(with_reducible refine Mod.alloc ?_ _)|(with_reducible refine Mod.drew ?_)|(with_reducible refine Mod.drewN ?_ _)|(with_reducible refine Mod.sc ?_))) (fun _ _ h=> h)⟩
    case o2=>
     (refine lxe HO (fun K hK=> ?_);go_simp;refine hK _ _ ?_ ?_;all_goals clear hK K)
     ·exact .inr (mS _ ((Mod.refl No V).drew.alloc _))
     refine lxe HO (fun Kx hKx=> ?_)
     go_simp
     refine (r_entity (A.spots y c).1 (A.spots y c).2.1 (A.wt y) wt0 wt1 _).mono ?_;rintro e w6 ⟨rfl,hb6⟩
     have m6:Mod No V w6:=Mod.trans ((Mod.refl No V).drew.alloc _) (Mod.of_below hb6 No) (fun _ _ h=> h)
     have N6:Row w6 V.heap.size 3 (fl [.int .u64 0, .int .u32 0, .int .u32 0]):=Row.mod (row_newL' V.drew V.heap.size [_,_,_] 223 (by simp)) (Mod.of_below hb6 No) (fun h=> h)
     refine hKx _ _ (.inr (mS _ m6)) ?_
     clear hKx Kx
     (repeat (first|(refine lxp HO (v:=?_) (fun w'=> ?_) ?_;rotate_left;(focus (go_simp;(try exact rfl);done));try go_simp)|(refine lxr HO (v:=?_) (fun w' hC'=> ?_) ?_;rotate_left;(focus (obtain ⟨c1,c2,c3,c4,c5,c6,c7,c8⟩:=hC';go_simp;(try exact rfl);done));try go_simp)|(refine lxo HO ?_;try go_simp)))
     refine lxe HO (fun Kx hKx=> ?_)
     go_simp
     refine (r_woken (A.spots y c).1 (A.spots y c).2.1 (A.wt y) A.cr (HI.out.2.2.2 y c) hcr _).mono ?_;rintro e w7 ⟨rfl,hb7⟩
     have m7:Mod No V w7:=Mod.trans m6 (Mod.of_below hb7 No) (fun _ _ h=> h)
     have hz6:=m6.size
     have N7:=N6.mod (Mod.of_below hb7 No) (fun h=> h)
     have n0:=N7.cL 0 _ (by omega) rfl
     have n1:=N7.cL 1 _ (by omega) rfl
     have n2:=N7.cL 2 _ (by omega) rfl
     have n_:=N7.free
     have nf0:=n_ 0
     have nf1:=n_ 1
     have nf2:=n_ 2
     clear n_
     have nl:=N7.lt
     refine hKx _ _ (.inr (mS _ m7)) ?_
     clear hKx Kx
     (repeat (first|(refine lxp HO (v:=?_) (fun w'=> ?_) ?_;rotate_left;(focus (go_simp;(try exact rfl);done));try go_simp)|(refine lxr HO (v:=?_) (fun w' hC'=> ?_) ?_;rotate_left;(focus (obtain ⟨c1,c2,c3,c4,c5,c6,c7,c8⟩:=hC';go_simp;(try exact rfl);done));try go_simp)|(refine lxo HO ?_;try go_simp)))
     (refine lxe HO (fun K hK=> ?_);go_simp;refine hK _ _ (.inl (by rfl)) ?_;clear hK K)
     refine wpL_nil ?_
     go_wp2_with fail
     go_meet
     exact ⟨V.heap.size,rfl,by have:=mV.size;(try have:=m6.size);omega,(((N7.set (i:=0) (by omega) _).set (i:=1) (by omega) _).set (i:=2) (by omega) _).congr (fun i hi=> by rcases (by omega:i=0∨i=1∨i=2) with rfl|rfl|rfl <;> rfl),Mod.trans mV (by (repeat first|(with_reducible exact m7)|(with_reducible refine Mod.alloc ?_ _)|(with_reducible refine Mod.drew ?_)|(with_reducible refine Mod.drewN ?_ _)|(with_reducible refine Mod.sc ?_))) (fun _ _ h=> h)⟩
   case rest=>
   obtain ⟨nb,rfl,hnb,RB,mx⟩:=hcut
   have X7:=X5.mod mx (fun h=> h)
   have Y7:=Y5.mod mx (fun h=> h)
   have Z7:=Z5.mod mx (fun h=> h)
   have S7:=S5.no mx
   clear x2 x6 p0 p1 s0 s1 s2 s3 lX mS
   have tsi:=(S7.1 (.si y) hy).1
   have lsi:=(S7.1 (.si y) hy).2.lt
   have tso:=(S7.1 .so).1
   have f0:=(S7.1 (.si y) hy).2.free (c * 3)
   have f1:=(S7.1 (.si y) hy).2.free (c * 3+1)
   have q0:=(S7.sp hy hc).2.1
   have q1:=(S7.sp hy hc).2.2.1
   have ne0:B.si y≠w.heap.size:=by intro hh;rw [hh,on0] at tsi;simp at tsi
   have ne1:B.si y≠w.heap.size+1:=by intro hh;rw [hh,on1] at tsi;simp at tsi
   have ne2:B.si y≠w.heap.size+1+1:=by intro hh;rw [hh,on2] at tsi;simp at tsi
   have ne3:B.si y≠B.so:=by intro hh;rw [hh,tso] at tsi;simp at tsi
   have ne4:B.si y≠nb:=by
    intro hh
    have:=(S5.1 (.si y) hy).2.lt
    omega
   have SO:=(S7.1 .so).2
   have lX7:=X7.lt
   have lRB:=RB.lt
   have lSO:=SO.lt
   have mS:∀ w',Row w' w.heap.size 7 (fl [.int .i64 A.C, .int .u64 A.cr,slc B.gb A.G B.gcap,slc B.cl A.C B.ccap,slc B.cu A.C B.ucap,B.tv,slc B.so A.G B.scap])→Row w' B.so A.G (fun g=> slc (B.si g) A.C (B.sc g))→Row w' nb 3 (fl [.int .u64 (A.spots y c).1, .int .u32 (A.spots y c).2.1, .int .u32 (A.wt y)])→w'.cell? ⟨w.heap.size,6,none⟩=some (slc B.so A.G B.scap)∧w'.cell? ⟨B.so,y,none⟩=some (slc (B.si y) A.C (B.sc y))∧w'.cell? ⟨nb,0,none⟩=some (.int .u64 (A.spots y c).1)∧w'.cell? ⟨nb,1,none⟩=some (.int .u32 (A.spots y c).2.1):=fun w' h1 h2 h3=>
    ⟨h1.cL 6 _ (by omega) rfl,h2.cell hy,h3.cL 0 _ (by omega) rfl,h3.cL 1 _ (by omega) rfl⟩
   go_upto_region 5 with fail
   refine wp_region_chain (fun w' => w'.cell? ⟨w.heap.size,6,none⟩=some (slc B.so A.G B.scap)∧w'.cell? ⟨B.so,y,none⟩=some (slc (B.si y) A.C (B.sc y))∧w'.cell? ⟨nb,0,none⟩=some (.int .u64 (A.spots y c).1)∧w'.cell? ⟨nb,1,none⟩=some (.int .u32 (A.spots y c).2.1)) [18,21] [19,20] [21] (rds [0,1,2,3,4,5,6,7,8,9,10,11,12,13,14,15,16,17] (.ef 18 (rds [19,20] (.ef 21 .nil)))) (by kernel_rfl) (by kernel_rfl) (mS _ X7.drew SO.drew RB.drew) ?_
   intro O hO
   have HO:=Lib.hid hO
   clear hO
   simp only [rds]
   (repeat (first|(refine lxp HO (v:=?_) (fun w'=> ?_) ?_;rotate_left;(focus (go_simp;(try exact rfl);done));try go_simp)|(refine lxr HO (v:=?_) (fun w' hC'=> ?_) ?_;rotate_left;(focus (obtain ⟨c1,c2,c3,c4⟩:=hC';go_simp;(try exact rfl);done));try go_simp)|(refine lxo HO ?_;try go_simp)))
   (refine lxe HO (fun K hK=> ?_);go_simp;refine hK _ _ ?_ ?_;all_goals clear hK K)
   ·exact .inr (mS _ (X7.drew.setOther (p:=⟨B.si y,c * 3,none⟩) ne0 _) (SO.drew.setOther (p:=⟨B.si y,c * 3,none⟩) ne3 _) (RB.drew.setOther (p:=⟨B.si y,c * 3,none⟩) ne4 _))
   (repeat (first|(refine lxp HO (v:=?_) (fun w'=> ?_) ?_;rotate_left;(focus (go_simp;(try exact rfl);done));try go_simp)|(refine lxr HO (v:=?_) (fun w' hC'=> ?_) ?_;rotate_left;(focus (obtain ⟨c1,c2,c3,c4⟩:=hC';go_simp;(try exact rfl);done));try go_simp)|(refine lxo HO ?_;try go_simp)))
   (refine lxe HO (fun K hK=> ?_);go_simp;refine hK _ _ (.inl (by rfl)) ?_;clear hK K)
   refine wpL_nil ?_
   clear f0 f1 q0 q1 mS
   have SA:=(S7.no (Mod.refl No _).drew).setV (g:=y) (c:=c) hy hc (A.spots y c).1
   have SB:=SA.setR (g:=y) (c:=c) hy hc (A.spots y c).2.1
   have SC:=SB.spots_congr A.spots (fun g' c' hg' hc' => by
    show upd2 (upd2 A.spots y c ((A.spots y c).1,(A.spots y c).2.1,(A.spots y c).2.2)) y c ((upd2 A.spots y c ((A.spots y c).1,(A.spots y c).2.1,(A.spots y c).2.2) y c).1,(A.spots y c).2.1,(upd2 A.spots y c ((A.spots y c).1,(A.spots y c).2.1,(A.spots y c).2.2) y c).2.2) g' c' =_
    by_cases e:g' =y∧c' =c
    ·obtain ⟨rfl,rfl⟩:=e
     rw [upd2_same,upd2_same]
    ·rw [upd2_other _ _ _ _ _ _ e,upd2_other _ _ _ _ _ _ e])
   have mE:=Mod.trans ((S7.no (Mod.refl No _).drew).modSi (g:=y) hy (c * 3) (.int .u64 (A.spots y c).1)) (SA.modSi (g:=y) hy (c * 3+1) (.int .u32 (A.spots y c).2.1)) (fun _ _ h=> h)
   have mW:Mod No wk wc.drew:=(Mod.trans m5 mx (fun _ _ h=> h)).drew
   go_wp2
   refine ⟨⟨up,rfl,by omega,SC,Mod.trans mk (Mod.trans (mW.no _) mE (fun _ _ h=> h)) (fun _ _ h=> h),(X7.drew.setOther (p:=⟨B.si y,c * 3,none⟩) ne0 _).setOther (p:=⟨B.si y,c * 3+1,none⟩) ne0 _,(Y7.drew.setOther (p:=⟨B.si y,c * 3,none⟩) ne1 _).setOther (p:=⟨B.si y,c * 3+1,none⟩) ne1 _,(Z7.drew.setOther (p:=⟨B.si y,c * 3,none⟩) ne2 _).setOther (p:=⟨B.si y,c * 3+1,none⟩) ne2 _⟩,by simp only [RowKit.intOf];omega⟩
  ·obtain rfl:y=0:=by omega
   obtain ⟨o5,n5,d5,hB5⟩:∃ o m d,B.tv= .slice o m d:=by
    cases hA:A.task with
    |none=> obtain ⟨a,c,h1⟩:=hs.t0 hA;exact ⟨_,_,_,h1⟩
    |some t=> obtain ⟨a,c,h1,_⟩:=hs.t1 hA;exact ⟨_,_,_,h1⟩
   have a0:=X.cL 0 _ (by omega) rfl
   have a1:=X.cL 1 _ (by omega) rfl
   have j2:=X.cL 2 _ (by omega) rfl
   have j3:=X.cL 3 _ (by omega) rfl
   have j4:=X.cL 4 _ (by omega) rfl
   have j5:wk.cell? ⟨w.heap.size,5,none⟩=some (.slice o5 n5 d5):=by have:=X.cL 5 _ (by omega) rfl;rw [this];exact congrArg some hB5
   have j6:=X.cL 6 _ (by omega) rfl
   have j_:=X.free
   have jf0:=j_ 0
   have jf1:=j_ 1
   have jf2:=j_ 2
   have jf3:=j_ 3
   have jf4:=j_ 4
   have jf5:=j_ 5
   have jf6:=j_ 6
   clear j_
   have jl:=X.lt
   have z0:=Z.cL 0 _ (by omega) rfl
   have z1:=Z.cL 1 _ (by omega) rfl
   have z2:=Z.cL 2 _ (by omega) rfl
   have z3:=Z.cL 3 _ (by omega) rfl
   have z4:=Z.cL 4 _ (by omega) rfl
   have z5:=Z.cL 5 _ (by omega) rfl
   have z6:=Z.cL 6 _ (by omega) rfl
   have z_:=Z.free
   have zf0:=z_ 0
   have zf1:=z_ 1
   have zf2:=z_ 2
   have zf3:=z_ 3
   have zf4:=z_ 4
   have zf5:=z_ 5
   have zf6:=z_ 6
   clear z_
   have zl:=Z.lt
   have HB5:=Lib.hid hB5
   clear hB5
   go_wp2
   have mF:Mod (fun b=> b=w.heap.size+1+1) wk ((((((((wk).setCell ⟨w.heap.size+1+1,0,none⟩ (.int .i64 A.C)).setCell ⟨w.heap.size+1+1,1,none⟩ (.int .u64 A.cr)).setCell ⟨w.heap.size+1+1,2,none⟩ (slc B.gb A.G B.gcap)).setCell ⟨w.heap.size+1+1,3,none⟩ (slc B.cl A.C B.ccap)).setCell ⟨w.heap.size+1+1,4,none⟩ (slc B.cu A.C B.ucap)).setCell ⟨w.heap.size+1+1,5,none⟩ (.slice o5 n5 d5)).setCell ⟨w.heap.size+1+1,6,none⟩ (slc B.so A.G B.scap)):=((((((((Mod.refl (fun b=> b=w.heap.size+1+1) wk).setCell (p:=⟨w.heap.size+1+1,0,none⟩) (.inr rfl) _).setCell (p:=⟨w.heap.size+1+1,1,none⟩) (.inr rfl) _).setCell (p:=⟨w.heap.size+1+1,2,none⟩) (.inr rfl) _).setCell (p:=⟨w.heap.size+1+1,3,none⟩) (.inr rfl) _).setCell (p:=⟨w.heap.size+1+1,4,none⟩) (.inr rfl) _).setCell (p:=⟨w.heap.size+1+1,5,none⟩) (.inr rfl) _).setCell (p:=⟨w.heap.size+1+1,6,none⟩) (.inr rfl) _)
   have e5:=HB5.out
   refine bodyPost_ret (v:= .agg #[.int .i64 A.C, .int .u64 A.cr,slc B.gb A.G B.gcap,slc B.cl A.C B.ccap,slc B.cu A.C B.ucap, .slice o5 n5 d5,slc B.so A.G B.scap]) (by simp [results,Tryz.results130,go_sem, *]) rfl ⟨?_, ?_, ?_⟩
   ·show _=Ending.returned (.agg #[_,_,_,_,_,B.tv,_]);rw [e5]
   ·exact Sk.mod mF (by rintro b rfl;exact on2)
   ·refine Mod.trans mk mF ?_
    rintro b hb rfl
    omega
end
end Go.Q
namespace Go.Q
open Go.RowKit Go.Proofs
theorem bodyPost_world {P:Program} {fn:Func} {R:Ending→World→Prop} {e:Exit} {a:Act} {w:World} (I:World→Prop) (h:I w) (k:∀ w',I w' →bodyPost P fn R e a w'):bodyPost P fn R e a w:=k w h
theorem results_cell {fn:Func} {p:Tmp} {ty:TypeId} (h:fn.results= #[.cell p ty]) (tmps:Array Value) (P:Program) (w:World):
  (results fn tmps).run P w=((asAddr (tmps.getD p undef)).run P w).andThen fun a w₁=> (loadVar ty a).run P w₁:=by
 simp only [results,h]
 simp [Sem.run_bind,Result.andThen]
theorem results_cell_tmp2 {fn:Func} {p u v:Tmp} {ty:TypeId} (h:fn.results= #[.cell p ty, .tmp u, .tmp v]) (tmps:Array Value) (P:Program) (w:World):
  (results fn tmps).run P w=
   ((asAddr (tmps.getD p undef)).run P w).andThen fun a w₁=> ((loadVar ty a).run P w₁).andThen fun x w₂=> .ok (.tuple #[x,tmps.getD u undef,tmps.getD v undef]) w₂:=by
 simp only [results,h]
 simp [Sem.run_bind,Result.andThen]
end Go.Q
namespace Go.Q
open Go.RowKit Go.Proofs
theorem drvNone (x n cap:Nat) (ra:Option Addr) (hn:0 < n) (w:World) (c:w.cell? ⟨x,3,none⟩=some (.slice ra n cap)):Calls Tryz.prog 83 #[ptr x] w fun e w' => e= .returned (.bool false)∧w=w' :=by
 have k0:((n:Int)==0)=false:=by simp;omega
 go_enter Tryz.func83,Tryz.ntmps83
 go_wp2
 go_ret
 exact ⟨by simp,rfl⟩
theorem ringNone (x:Nat) (n:Int) (hn:0 < n) (w:World) (c:w.cell? ⟨x,6,none⟩=some (.int .i64 n)):Calls Tryz.prog 165 #[ptr x] w fun e w' => e= .returned (.bool false)∧w=w' :=by
 have k0:(n==0)=false:=by simp;omega
 go_enter Tryz.func165,Tryz.ntmps165
 go_wp2
 go_ret
 exact ⟨by simp,rfl⟩
set_option maxRecDepth 100000 in
theorem ringNew (n:Int) (h1:1≤n) (h2:n≤65536) (w:World):Calls Tryz.prog 126 #[.int .i64 n] w fun e w' => e= .returned (.tuple #[ptr w.heap.size, .int .i64 0])∧w' =w.alloc (.cells #[.slice none 0 0, .int .i64 0, .int .i64 0, .int .i64 0, .int .i64 0, .int .i64 0, .int .i64 n] 275):=by
 go_enter Tryz.func126,Tryz.ntmps126
 go_wp2
 go_ret2
 exact ⟨rfl,rfl⟩
set_option maxRecDepth 100000 in
theorem drvCpu1 (d k:Nat) (cpu task group weight tO ticks mask:Int) (hk:k=1∨k=5∨k=6) (w:World):Calls Tryz.prog 84 #[ptr d,opv k cpu task group weight tO ticks mask] w fun e w' => e= .returned (.int .i64 cpu)∧Below w.heap.size w w' :=by
 rcases hk with rfl|rfl|rfl
 ·go_enter Tryz.func84,Tryz.ntmps84
  go_wp2
  go_ret
  exact ⟨rfl,belowX⟩
 ·go_enter Tryz.func84,Tryz.ntmps84
  go_wp2
  go_ret
  exact ⟨rfl,belowX⟩
 ·go_enter Tryz.func84,Tryz.ntmps84
  go_wp2
  go_ret
  exact ⟨rfl,belowX⟩
section
variable {w:World} {ow:Nat→Own} {x:Nat} {B:SB} {s:SSt}
set_option maxRecDepth 100000 in
theorem clock1 (h:SAt w ow x B s) (c p q:Nat) (hc:c < s.C) (hp:w.cell? ⟨p,0,none⟩=some (ptr x)) (hq:w.cell? ⟨q,0,none⟩=some (.int .i64 c)):
  Calls Tryz.prog 164 #[ptr p,ptr q] w fun e w' => e= .returned (.int .i64 (s.clocks c))∧Below w.heap.size w w' :=by
 have x3:=h.look.2.2.2.1
 have u0:=(h.cp hc).1
 have i0:(0:Int)≤c:=by omega
 have i1:(c:Int) < s.C:=by omega
 go_enter Tryz.func164,Tryz.ntmps164
 go_upto_region 1 with fail
 go_quiet (fail)
 go_wp2
 go_ret
 exact ⟨rfl,belowX⟩
set_option maxRecDepth 100000 in
theorem asks_clock (h:SAt w ow x B s) (c p q:Nat) (hc:c < s.C) (hp:w.cell? ⟨p,0,none⟩=some (ptr x)) (hq:w.cell? ⟨q,0,none⟩=some (.int .i64 c)) (lp:p < w.heap.size) (lq:q < w.heap.size):
  Calls Tryz.prog 163 #[ptr x, .int .i64 c, .func (.func 164) #[] #[ptr p,ptr q]] w fun e w' => e= .returned (.tuple #[.int .i64 (s.clocks c), .int .i64 0])∧Below w.heap.size w w' :=by
 have hC:0 < s.C:=by omega
 go_enter Tryz.func163,Tryz.ntmps163
 go_wp2_with fail
 refine (schedSome x _ s.C B.ccap hC _ h.look.2.2.2.1).mono ?_;rintro e w1 ⟨rfl,rfl⟩
 go_wp2_with fail
 refine (schedCpu x _ s.C B.ccap c (by omega) (by omega) _ h.look.2.2.2.1).mono ?_;rintro e w1 ⟨rfl,hb1⟩
 have S1:=h.no (Mod.of_below hb1 No)
 have hp1:w1.cell? ⟨p,0,none⟩=some (ptr x):=by rw [(bcell hb1).1 p 0 lp,hp]
 have hq1:w1.cell? ⟨q,0,none⟩=some (.int .i64 c):=by rw [(bcell hb1).1 q 0 lq,hq]
 go_wp2_with fail
 refine (clock1 S1 c p q hc hp1 hq1).mono ?_;rintro e w2 ⟨rfl,hb2⟩
 go_wp2
 go_ret2
 exact ⟨rfl,hb1.trans (hb2.mono hb1.size)⟩
set_option maxRecDepth 100000 in
theorem clock_ok (h:SAt w ow x B s) (c:Nat) (hc:c < s.C):
  Calls Tryz.prog 85 #[ptr x, .int .i64 c] w fun e w' => e= .returned (.tuple #[.int .i64 (s.clocks c), .int .i64 0])∧Below w.heap.size w w' :=by
 have m0:=((Mod.refl No w).alloc (.cells #[ptr x] 74)).alloc (.cells #[.int .i64 c] 3)
 have S0:=h.no m0
 have P0:Row ((w.alloc (.cells #[ptr x] 74)).alloc (.cells #[.int .i64 c] 3)) w.heap.size 1 (fl [ptr x]):=(row_newL w [_] _).alloc _
 have Q0:Row ((w.alloc (.cells #[ptr x] 74)).alloc (.cells #[.int .i64 c] 3)) (w.heap.size+1) 1 (fl [.int .i64 c]):=row_newL' _ _ [_] _ (by simp)
 go_enter Tryz.func85,Tryz.ntmps85
 go_wp2_with fail
 refine (asks_clock S0 c w.heap.size (w.heap.size+1) hc (P0.cL 0 _ (by omega) rfl) (Q0.cL 0 _ (by omega) rfl) P0.lt Q0.lt).mono ?_;rintro e w1 ⟨rfl,hb1⟩
 go_wp2
 go_ret2
 exact ⟨rfl,Mod.below (Mod.trans m0 (Mod.of_below hb1 No) (fun _ _ h=> h))⟩
end
end Go.Q
