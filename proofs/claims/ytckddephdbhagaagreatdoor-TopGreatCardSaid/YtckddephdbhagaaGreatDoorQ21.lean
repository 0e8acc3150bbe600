/- A part of the proof that TopGreat answers true: what some of the functions on its road compute. -/
import Derived.Test.YtckddephdbhagaaGreatDoorQ2
import Derived.Test.YtckddephdbhagaaGreatDoorQ10
import Derived.Test.YtckddephdbhagaaGreatDoorQ11
import Derived.Test.YtckddephdbhagaaGreatDoorQ20
set_option linter.unusedVariables false
set_option linter.unusedSimpArgs false
namespace Go.Q
open Go.RowKit Go.Proofs
theorem le7c {P:Nat→Prop} (h0:P 0) (h1:P 1) (h2:P 2) (h3:P 3) (h4:P 4) (h5:P 5) (h6:P 6):∀ i,i < 7→P i:=fun i hi=> by
 rcases (by omega:i=0∨i=1∨i=2∨i=3∨i=4∨i=5∨i=6) with rfl|rfl|rfl|rfl|rfl|rfl|rfl <;> assumption
def TNew (w:World) (lo:Nat) (v:Value) (tb:Nat):Option TK→Prop
 |none=> v= .slice none 0 0
 |some t=> ∃ c,v=slc tb 1 c∧lo≤tb∧Row w tb 8 (fl (tkc t))
theorem TNew.mod {S:Nat→Prop} {w w' :World} {lo tb:Nat} {v:Value} {t:Option TK} (h:TNew w lo v tb t) (hm:Mod S w w') (hs:∀ b,lo≤b→¬S b):TNew w' lo v tb t:=by
 cases t with
 |none=> exact h
 |some t=> obtain ⟨c,h1,h2,h3⟩:=h;exact ⟨c,h1,h2,h3.mod hm (hs _ h2)⟩
structure CP (w0 w:World) (nb:Nat) (B:STB) (A:ASt) (k:Nat) (tv:Value) (ow:Nat→SOwn):Prop where
 gb:ow B.gb= .gb∧Row w B.gb (A.G * 2) (grp A.par A.wt)
 cl:ow B.cl= .cl∧Row w B.cl A.C (ints A.clocks)
 cu:ow B.cu= .cu∧Row w B.cu A.C (ints A.current)
 tk:TkAt w ow tv A.task
 so:ow nb= .so∧Row w nb A.G (fun g=> if g < k then slc (B.si g) A.C (B.sc g) else .slice none 0 0)
 si:∀ g,g < k→ow (B.si g)= .si g∧Row w (B.si g) (A.C * 3) (spt (A.spots g))
 lt:∀ b,ow b≠ .no→w0.heap.size≤b∧b < w.heap.size
 mod:Mod No w0 w
section
variable {w0 w w1:World} {nb:Nat} {B:STB} {A:ASt} {k:Nat} {tv:Value} {ow:Nat→SOwn}
theorem CP.next (I:CP w0 w nb B A k tv ow) (hk:k < A.G) {sg scp:Nat} (m1:Mod No w w1) (hge:w.heap.size≤sg) (R:Row w1 sg (A.C * 3) (spt (A.spots k))):
  ∃ ow',CP w0 (w1.setCell ⟨nb,k,none⟩ (slc sg A.C scp)) nb { B with si:=fun g=> if g=k then sg else B.si g,sc:=fun g=> if g=k then scp else B.sc g } A (k+1) tv ow' ∧∀ b,b < w.heap.size→ow' b=ow b:=by
 have M:Mod (fun b=> b=nb) w (w1.setCell ⟨nb,k,none⟩ (slc sg A.C scp)):=Mod.trans (m1.no _) ((Mod.refl (fun b=> b=nb) w1).setCell (p:=⟨nb,k,none⟩) (.inr rfl) _) (fun _ _ h=> h)
 have hnb:=I.so.2.lt
 have ho:∀ b,b < w.heap.size→(if b=sg then SOwn.si k else ow b)=ow b:=fun b hb=> if_neg (by omega)
 have rw_:∀ {b N:Nat} {F:Nat→Value} {t:SOwn},t≠ .so→ow b=t∧Row w b N F→(if b=sg then SOwn.si k else ow b)=t∧Row (w1.setCell ⟨nb,k,none⟩ (slc sg A.C scp)) b N F:=
  fun h1 h3=> ⟨by rw [ho _ h3.2.lt,h3.1],h3.2.mod M (fun e=> h1 (by rw [←h3.1,e,I.so.1]))⟩
 refine ⟨fun b=> if b=sg then .si k else ow b,⟨rw_ (by simp) I.gb,rw_ (by simp) I.cl,rw_ (by simp) I.cu, ?_,⟨by rw [ho _ hnb];exact I.so.1, ?_⟩, ?_, ?_, ?_⟩,ho⟩
 ·have ht:=I.tk
  show TkAt _ _ _ A.task
  cases hA:A.task with
  |none=> rw [hA] at ht;exact ht
  |some t=>
   rw [hA] at ht
   obtain ⟨b,c,h1,h2⟩:=ht
   exact ⟨b,c,h1,rw_ (by simp) h2⟩
 ·refine ((I.so.2.mod m1 (fun h=> h)).set (i:=k) hk _).congr (fun i hi=> ?_)
  try dsimp only
  by_cases e:i=k
  ·subst e;simp
  ·simp only [if_neg e]
   by_cases h:i < k
   ·rw [if_pos h,if_pos (by omega)]
   ·rw [if_neg h,if_neg (by omega)]
 ·intro g hg
  try dsimp only
  by_cases e:g=k
  ·subst e
   simp only [if_true]
   exact ⟨trivial,R.setOther (p:=⟨nb,g,none⟩) (by show nb≠sg;omega) _⟩
  ·simp only [if_neg e]
   exact rw_ (by simp) (I.si g (by omega))
 ·intro b hb
  try dsimp only at hb
  have hz:=M.size
  split at hb
  ·rename_i e;subst e
   have:=R.lt
   have h1:=I.mod.size
   simp only [World.size_setCell] at hz ⊢
   omega
  ·have:=I.lt b hb;omega
 ·exact Mod.trans I.mod M (fun b hb e=> by have h1:b=nb:=e;have:=(I.lt nb (by rw [I.so.1];simp)).1;omega)
theorem CP.done (I:CP w0 w nb B A A.G tv ow) (c:Nat):StAt w ow { B with tv:=tv,so:=nb,scap:=c } A:=by
 refine ⟨fun t=> ?_,fun b hb=> (I.lt b hb).2⟩
 cases t with
 |no=> trivial
 |gb=> exact I.gb
 |cl=> exact I.cl
 |cu=> exact I.cu
 |tk=>
  have ht:=I.tk
  simp only [SPart]
  unfold TkAt at ht
  split at ht <;> rename_i hh <;> first|exact ht|(simp only [hh];exact ht)|(simp only [hh] at ht ⊢;exact ht)
 |so=> exact ⟨I.so.1,I.so.2.congr (fun i hi=> if_pos hi)⟩
 |si g=> exact fun hg=> I.si g hg
theorem CP.start {gg cc uu tb:Nat} {gc kc uc:Nat} (hg:Row w gg (A.G * 2) (grp A.par A.wt)) (hc:Row w cc A.C (ints A.clocks)) (hu:Row w uu A.C (ints A.current)) (hn:Row w nb A.G (fun _=> .slice none 0 0)) {lo:Nat} (ht:TNew w lo tv tb A.task)
  (h1:w0.heap.size≤gg) (h2:gg < cc) (h3:cc < uu) (h4:uu < lo) (h5:tb < nb) (h6:uu < nb) (m:Mod No w0 w):∃ ow,CP w0 w nb { B with gb:=gg,gcap:=gc,cl:=cc,ccap:=kc,cu:=uu,ucap:=uc } A 0 tv ow∧∀ b,b < gg→ow b= .no:=by
 have lg:=hg.lt
 have lc:=hc.lt
 have lu:=hu.lt
 have ln:=hn.lt
 cases hA:A.task with
 |none=>
  rw [hA] at ht
  refine ⟨fun b=> if b=gg then .gb else if b=cc then .cl else if b=uu then .cu else if b=nb then .so else .no,⟨⟨if_pos rfl,hg⟩,⟨by (try dsimp only);rw [if_neg (by omega),if_pos rfl],hc⟩,⟨by (try dsimp only);rw [if_neg (by omega),if_neg (by omega),if_pos rfl],hu⟩,by rw [hA];exact ⟨none,0,ht⟩,
   ⟨by (try dsimp only);rw [if_neg (by omega),if_neg (by omega),if_neg (by omega),if_pos rfl],hn.congr (fun i _=> by simp)⟩,fun g hg=> by omega,fun b hb=> ?_,m⟩,fun b hb=> by (try dsimp only);repeat (rw [if_neg (by omega)])⟩
  try dsimp only at hb
  split at hb
  ·omega
  split at hb
  ·omega
  split at hb
  ·omega
  split at hb
  ·omega
  exact absurd rfl hb
 |some t=>
  rw [hA] at ht
  obtain ⟨c,ht1,ht2,ht3⟩:=ht
  have lt:=ht3.lt
  refine ⟨fun b=> if b=gg then .gb else if b=cc then .cl else if b=uu then .cu else if b=tb then .tk else if b=nb then .so else .no,⟨⟨if_pos rfl,hg⟩,⟨by (try dsimp only);rw [if_neg (by omega),if_pos rfl],hc⟩,⟨by (try dsimp only);rw [if_neg (by omega),if_neg (by omega),if_pos rfl],hu⟩,
   by rw [hA];exact ⟨tb,c,ht1,by (try dsimp only);rw [if_neg (by omega),if_neg (by omega),if_neg (by omega),if_pos rfl],ht3⟩,
   ⟨by (try dsimp only);rw [if_neg (by omega),if_neg (by omega),if_neg (by omega),if_neg (by omega),if_pos rfl],hn.congr (fun i _=> by simp)⟩,fun g hg=> by omega,fun b hb=> ?_,m⟩,fun b hb=> by (try dsimp only);repeat (rw [if_neg (by omega)])⟩
  try dsimp only at hb
  split at hb
  ·omega
  split at hb
  ·omega
  split at hb
  ·omega
  split at hb
  ·omega
  split at hb
  ·omega
  exact absurd rfl hb
set_option maxRecDepth 100000 in
set_option maxHeartbeats 4000000 in
theorem m_copied (A:ASt) (w:World) (ow:Nat→SOwn) (B:STB) (h:StAt w ow B A) (htv:A.task=none→B.tv= .slice none 0 0) (hC:0 < A.C) (hC2:A.C≤64) (hG:0 < A.G) (hG2:A.G≤256):
  Calls Tryz.prog 59 #[stv B A] w fun e w' => ∃ B' ow',e= .returned (stv B' A)∧StAt w' ow' B' A∧Mod No w w' ∧(∀ b,ow' b≠ .no→w.heap.size≤b)∧(A.task=none→B'.tv= .slice none 0 0):=by
 obtain ⟨o5,n5,d5,hv5⟩:=h.tvo
 have hT:∀ W,StAt W ow B A→Calls Tryz.prog 123 #[.slice o5 n5 d5] W fun e w' => ∃ o n c tb,e= .returned (.slice o n c)∧Mod No W w' ∧TNew w' W.heap.size (.slice o n c) tb A.task∧tb < w'.heap.size:=fun W hW=> by
  cases hA:A.task with
  |none=>
   have e:=htv hA
   rw [hv5] at e
   simp only [Value.slice.injEq] at e
   obtain ⟨rfl,rfl,rfl⟩:=e
   refine (cloneTasks_nil 0 0 W).mono ?_
   rintro e w' ⟨rfl,rfl⟩
   obtain ⟨b,hb⟩:∃ b,b=B.gb:=⟨_,rfl⟩
   exact ⟨none,0,0,B.gb,rfl,Mod.refl _ _,rfl,(hW.1 .gb).2.lt⟩
  |some t=>
   obtain ⟨b,c,e,_,R⟩:=hW.t1 hA
   rw [hv5] at e
   simp only [Value.slice.injEq] at e
   obtain ⟨rfl,rfl,rfl⟩:=e
   refine (cloneTasks b 1 d5 (fl (tkc t)) W R (by omega) (by omega) (by apply le8 <;> rfl)).mono ?_
   rintro e w' ⟨g,cap,rfl,h1,h2,h3,h4,h5⟩
   exact ⟨_,_,_,g,rfl,h5,⟨cap,rfl,h1,h4⟩,h2⟩
 have HI:=Lib.hid (And.intro hT (And.intro hv5 htv))
 clear hT htv
 rw [show stv B A= .agg #[.int .i64 A.C, .int .u64 A.cr,slc B.gb A.G B.gcap,slc B.cl A.C B.ccap,slc B.cu A.C B.ucap, .slice o5 n5 d5,slc B.so A.G B.scap] from by rw [←hv5]]
 clear hv5
 go_enter Tryz.func59,Tryz.ntmps59
 go_wp2_with fail
 refine (cloneGroups B.gb A.G B.gcap (grp A.par A.wt) _ (((h.1 .gb).2.alloc _).alloc _) (by omega) (by omega) (fun i _=> by unfold grp;split <;> rfl)).mono ?_;rintro e w1 ⟨gg,gc,rfl,g1,g2,g3,RG,n1⟩
 have lw1:w.heap.size+1+1≤gg:=by simp only [World.size_alloc] at g1;exact g1
 have m1:Mod No w w1:=Mod.trans (((Mod.refl No w).alloc _).alloc _) n1 (fun _ _ h=> h)
 have X1:Row w1 w.heap.size 7 (fl [.int .i64 A.C, .int .u64 A.cr,slc B.gb A.G B.gcap,slc B.cl A.C B.ccap,slc B.cu A.C B.ucap, .slice o5 n5 d5,slc B.so A.G B.scap]):=((row_newL w [_,_,_,_,_,_,_] _).alloc _).mod n1 (fun h=> h)
 have Z1:Row w1 (w.heap.size+1) 7 (fl [.int .i64 0, .int .u64 0, .slice none 0 0, .slice none 0 0, .slice none 0 0, .slice none 0 0, .slice none 0 0]):=(row_newL' _ _ [_,_,_,_,_,_,_] _ (by simp)).mod n1 (fun h=> h)
 have q2:=X1.cL 2 _ (by omega) rfl
 have f2:=X1.free 2
 have lX:=X1.lt
 go_upto_region 2 with fail
 refine wp_world (fun V=> StAt V ow B A∧Mod No w V∧Row V w.heap.size 7 (fl [.int .i64 A.C, .int .u64 A.cr,slc gg A.G gc,slc B.cl A.C B.ccap,slc B.cu A.C B.ucap, .slice o5 n5 d5,slc B.so A.G B.scap])∧Row V (w.heap.size+1) 7 (fl [.int .i64 0, .int .u64 0, .slice none 0 0, .slice none 0 0, .slice none 0 0, .slice none 0 0, .slice none 0 0])∧Row V gg (A.G * 2) (grp A.par A.wt)) ?_ ?_
 ·have m:Mod (fun b=> b=w.heap.size) w1 (w1.setCell ⟨w.heap.size,2,none⟩ (slc gg A.G gc)):=(Mod.refl (fun b=> b=w.heap.size) w1).setCell (p:=⟨w.heap.size,2,none⟩) (.inr rfl) _
  exact ⟨(h.no m1).mod m (fun b e=> Classical.byContradiction fun hh=> by have:=h.2 b hh;have e' :b=w.heap.size:=e;omega),Mod.trans m1 m (fun b hb e=> by have e' :b=w.heap.size:=e;omega),(X1.set (i:=2) (by omega) _).congr (by apply le7c <;> rfl),Z1.mod m (by show ¬w.heap.size+1=w.heap.size;omega),RG.mod m (by show ¬gg=w.heap.size;omega)⟩
 intro V ⟨SV,mV,XV,ZV,GV⟩
 clear X1 Z1 q2 f2 lX RG n1 g3
 have lX:=XV.lt
 have lZ:=ZV.lt
 have lG:=GV.lt
 have mS:∀ w',Mod No V w' →w'.cell? ⟨w.heap.size,3,none⟩=some (slc B.cl A.C B.ccap)∧w'.cell? ⟨w.heap.size,4,none⟩=some (slc B.cu A.C B.ucap)∧w'.cell? ⟨w.heap.size,5,none⟩=some (.slice o5 n5 d5):=fun w' hm=> by
  have X:=XV.mod hm (fun h=> h)
  exact ⟨X.cL 3 _ (by omega) rfl,X.cL 4 _ (by omega) rfl,X.cL 5 _ (by omega) rfl⟩
 refine wp_region_chain (fun w' => w'.cell? ⟨w.heap.size,3,none⟩=some (slc B.cl A.C B.ccap)∧w'.cell? ⟨w.heap.size,4,none⟩=some (slc B.cu A.C B.ucap)∧w'.cell? ⟨w.heap.size,5,none⟩=some (.slice o5 n5 d5)) [2,5,8,10,12,14] [9,11,13] [10,12,14] (rds [0,1,3,4,6,7] (.ef 2 (rds [9] (.ef 5 (.ef 8 (.ef 10 (rds [11] (.ef 12 (rds [13] (.ef 14 .nil)))))))))) (by kernel_rfl) (by kernel_rfl) (mS _ (Mod.refl No V).drew) ?_
 intro O hO
 have HO:=Lib.hid hO
 clear hO
 simp only [rds]
 (repeat (first|(refine lxp HO (v:=?_) (fun w'=> ?_) ?_;rotate_left;(focus (go_simp;(try exact rfl);done));try go_simp)|(refine lxr HO (v:=?_) (fun w' hC'=> ?_) ?_;rotate_left;(focus (obtain ⟨c1,c2,c3⟩:=hC';go_simp;(try exact rfl);done));try go_simp)|(refine lxo HO ?_;try go_simp)))
 refine lxe HO (fun Kx hKx=> ?_)
 go_simp
 refine (cloneInts B.cl A.C B.ccap (ints A.clocks) _ (by rw [Nat.mul_one];exact ((SV.no (Mod.refl No V).drew).1 .cl).2) (by omega) (by omega) (fun i _=> by rfl)).mono ?_;rintro e w2 ⟨cc,kc,rfl,h1,h2,h3,RC,n2⟩
 have m2:Mod No V w2:=Mod.trans (Mod.refl No V).drew n2 (fun _ _ h=> h)
 refine hKx _ _ (.inr (mS _ m2)) ?_
 clear hKx Kx
 (repeat (first|(refine lxp HO (v:=?_) (fun w'=> ?_) ?_;rotate_left;(focus (go_simp;(try exact rfl);done));try go_simp)|(refine lxr HO (v:=?_) (fun w' hC'=> ?_) ?_;rotate_left;(focus (obtain ⟨c1,c2,c3⟩:=hC';go_simp;(try exact rfl);done));try go_simp)|(refine lxo HO ?_;try go_simp)))
 refine lxe HO (fun Kx hKx=> ?_)
 go_simp
 refine (cloneInts B.cu A.C B.ucap (ints A.current) _ (by rw [Nat.mul_one];exact ((SV.no m2).1 .cu).2) (by omega) (by omega) (fun i _=> by rfl)).mono ?_;rintro e w3 ⟨uu,uc,rfl,h4,h5,h6,RU,n3⟩
 have m3:Mod No V w3:=Mod.trans m2 n3 (fun _ _ h=> h)
 refine hKx _ _ (.inr (mS _ m3)) ?_
 clear hKx Kx
 (repeat (first|(refine lxp HO (v:=?_) (fun w'=> ?_) ?_;rotate_left;(focus (go_simp;(try exact rfl);done));try go_simp)|(refine lxr HO (v:=?_) (fun w' hC'=> ?_) ?_;rotate_left;(focus (obtain ⟨c1,c2,c3⟩:=hC';go_simp;(try exact rfl);done));try go_simp)|(refine lxo HO ?_;try go_simp)))
 refine lxe HO (fun Kx hKx=> ?_)
 go_simp
 refine (HI.out.1 w3 (SV.no m3)).mono ?_;rintro e w4 ⟨to4,tn4,tc4,tb,rfl,n4,TN,ltb⟩
 have m4:Mod No V w4:=Mod.trans m3 n4 (fun _ _ h=> h)
 refine hKx _ _ (.inr (mS _ m4)) ?_
 clear hKx Kx
 have X4:=XV.mod m4 (fun h=> h)
 have q3:=X4.cL 3 _ (by omega) rfl
 have q4:=X4.cL 4 _ (by omega) rfl
 have q5:=X4.cL 5 _ (by omega) rfl
 have f3:=X4.free 3
 have f4:=X4.free 4
 have f5:=X4.free 5
 have lX4:=X4.lt
 (repeat (first|(refine lxp HO (v:=?_) (fun w'=> ?_) ?_;rotate_left;(focus (go_simp;(try exact rfl);done));try go_simp)|(refine lxr HO (v:=?_) (fun w' hC'=> ?_) ?_;rotate_left;(focus (obtain ⟨c1,c2,c3⟩:=hC';go_simp;(try exact rfl);done));try go_simp)|(refine lxo HO ?_;try go_simp)))
 (refine lxe HO (fun K hK=> ?_);go_simp;refine hK _ _ (.inl (by rfl)) ?_;clear hK K)
 (repeat (first|(refine lxp HO (v:=?_) (fun w'=> ?_) ?_;rotate_left;(focus (go_simp;(try exact rfl);done));try go_simp)|(refine lxr HO (v:=?_) (fun w' hC'=> ?_) ?_;rotate_left;(focus (obtain ⟨c1,c2,c3⟩:=hC';go_simp;(try exact rfl);done));try go_simp)|(refine lxo HO ?_;try go_simp)))
 (refine lxe HO (fun K hK=> ?_);go_simp;refine hK _ _ (.inl (by rfl)) ?_;clear hK K)
 (repeat (first|(refine lxp HO (v:=?_) (fun w'=> ?_) ?_;rotate_left;(focus (go_simp;(try exact rfl);done));try go_simp)|(refine lxr HO (v:=?_) (fun w' hC'=> ?_) ?_;rotate_left;(focus (obtain ⟨c1,c2,c3⟩:=hC';go_simp;(try exact rfl);done));try go_simp)|(refine lxo HO ?_;try go_simp)))
 (refine lxe HO (fun K hK=> ?_);go_simp;refine hK _ _ (.inl (by rfl)) ?_;clear hK K)
 refine wpL_nil ?_
 go_upto_region 3 with fail
 refine wp_world (fun W=> StAt W ow B A∧Mod No w W∧Row W w.heap.size 7 (fl [.int .i64 A.C, .int .u64 A.cr,slc gg A.G gc,slc cc A.C kc,slc uu A.C uc, .slice to4 tn4 tc4,slc B.so A.G B.scap])∧Row W (w.heap.size+1) 7 (fl [.int .i64 0, .int .u64 0, .slice none 0 0, .slice none 0 0, .slice none 0 0, .slice none 0 0, .slice none 0 0])∧Row W gg (A.G * 2) (grp A.par A.wt)∧Row W cc A.C (ints A.clocks)∧Row W uu A.C (ints A.current)∧TNew W w3.heap.size (.slice to4 tn4 tc4) tb A.task∧tb < W.heap.size) ?_ ?_
 ·have hm:Mod (fun b=> b=w.heap.size) w4 (((w4.setCell ⟨w.heap.size,3,none⟩ (slc cc A.C kc)).setCell ⟨w.heap.size,4,none⟩ (slc uu A.C uc)).setCell ⟨w.heap.size,5,none⟩ (.slice to4 tn4 tc4)):=(((Mod.refl (fun b=> b=w.heap.size) w4).setCell (p:=⟨w.heap.size,3,none⟩) (.inr rfl) _).setCell (p:=⟨w.heap.size,4,none⟩) (.inr rfl) _).setCell (p:=⟨w.heap.size,5,none⟩) (.inr rfl) _
  have s2:=mV.size
  have s3:=m2.size
  have s4:=m3.size
  have y1:V.heap.size≤cc:=h1
  have y2:w2.heap.size≤uu:=h4
  rw [Nat.mul_one] at RC RU
  refine ⟨(SV.no m4).mod hm (fun b e=> Classical.byContradiction fun hh=> by have:=h.2 b hh;have e' :b=w.heap.size:=e;omega),Mod.trans (Mod.trans mV m4 (fun _ _ h=> h)) hm (fun b hb e=> by have e' :b=w.heap.size:=e;omega),((X4.set (i:=3) (by omega) _).set (i:=4) (by omega) _).set (i:=5) (by omega) _|>.congr (by apply le7c <;> rfl),(ZV.mod m4 (fun h=> h)).mod hm (by show ¬w.heap.size+1=w.heap.size;omega),(GV.mod m4 (fun h=> h)).mod hm (by show ¬gg=w.heap.size;omega),((RC.mod n3 (fun h=> h)).mod n4 (fun h=> h)).mod hm (by show ¬cc=w.heap.size;omega),(RU.mod n4 (fun h=> h)).mod hm (by show ¬uu=w.heap.size;omega),TN.mod hm (fun b hb e=> by have e' :b=w.heap.size:=e;omega),by simp only [World.size_setCell];exact ltb⟩
 intro W ⟨SW,mW,XW,ZW,GW,CW,UW,TW,ltW⟩
 have dd1:gg < cc:=by have y1:V.heap.size≤cc:=h1;omega
 have dd2:cc < uu:=by omega
 have dd3:uu < w3.heap.size:=by omega
 clear X4 q3 q4 q5 f3 f4 f5 lX4 TN ltb n4 n3 n2 m4 m3 m2 h1 h2 h3 h4 h5 h6 RC RU mS lX lZ lG XV ZV GV SV mV
 have lX:=XW.lt
 have lG:=GW.lt
 have lU:=UW.lt
 have q6:=XW.cL 6 _ (by omega) rfl
 have hms:=mk_fact (P:=Tryz.prog) 46 103 _ 1 24 Tryz.underlying46 Tryz.infoSSpot A.G (by omega) (by omega)
 go_upto_block 0 with fail
 refine wp_world (fun R=> StAt R ow B A∧Mod No w R∧Row R w.heap.size 7 (fl [.int .i64 A.C, .int .u64 A.cr,slc gg A.G gc,slc cc A.C kc,slc uu A.C uc, .slice to4 tn4 tc4,slc B.so A.G B.scap])∧Row R (w.heap.size+1) 7 (fl [.int .i64 0, .int .u64 0, .slice none 0 0, .slice none 0 0, .slice none 0 0, .slice none 0 0, .slice none 0 0])∧∃ ow',CP w R W.heap.size { B with gb:=gg,gcap:=gc,cl:=cc,ccap:=kc,cu:=uu,ucap:=uc } A 0 (.slice to4 tn4 tc4) ow' ∧∀ b,b < gg→ow' b= .no) ?_ ?_
 ·have N0:Row (W.alloc (.cells (madeCells #[.slice none 0 0] A.G) 103)) W.heap.size A.G (fun _=> .slice none 0 0):=by
   exact row_made W #[.slice none 0 0] A.G 103 (fun _=> .slice none 0 0) (fun i _=> by simp [Nat.mod_one])
  exact ⟨SW.no ((Mod.refl No W).alloc _),mW.alloc _,XW.alloc _,ZW.alloc _,CP.start (GW.alloc _) (CW.alloc _) (UW.alloc _) N0 (TW.mod ((Mod.refl No W).alloc _) (fun _ _ h=> h)) (by omega) dd1 dd2 dd3 ltW lU (mW.alloc _)⟩
 have hTV:A.task=none→(.slice to4 tn4 tc4:Value)= .slice none 0 0:=fun hA=> by rw [hA] at TW;exact TW
 have HTV:=Lib.hid hTV
 clear hTV
 intro R ⟨SR,mR,XR,ZR,ow0,CR,ho0⟩
 obtain ⟨nb,hnb⟩:∃ nb,nb=W.heap.size:=⟨_,rfl⟩
 rw [←hnb] at CR ⊢
 have hnb' :w.heap.size+1 < nb:=by rw [hnb];exact ZW.lt
 clear hnb XW ZW GW CW UW TW SW mW q6 lX hms lG lU
 go_wp2
 go_loopw [31] (fun s31 wr=> ∃ (k:Nat) (B' :STB) (ow' :Nat→SOwn),s31= .int .i64 k∧k≤A.G∧CP w wr nb B' A k (.slice to4 tn4 tc4) ow' ∧(B'.gb=gg∧B'.gcap=gc∧B'.cl=cc∧B'.ccap=kc∧B'.cu=uu∧B'.ucap=uc)∧Row wr w.heap.size 7 (fl [.int .i64 A.C, .int .u64 A.cr,slc gg A.G gc,slc cc A.C kc,slc uu A.C uc, .slice to4 tn4 tc4,slc B.so A.G B.scap])∧Row wr (w.heap.size+1) 7 (fl [.int .i64 0, .int .u64 0, .slice none 0 0, .slice none 0 0, .slice none 0 0, .slice none 0 0, .slice none 0 0])∧(ow' w.heap.size= .no∧ow' (w.heap.size+1)= .no)) (fun s31 _=> A.G - (RowKit.intOf s31).toNat)
 case atStart=> exact ⟨0,_,ow0,rfl,by omega,CR,⟨rfl,rfl,rfl,rfl,rfl,rfl⟩,XR,ZR,ho0 _ (by omega),ho0 _ (by omega)⟩
 case round=>
  obtain ⟨wk,rfl⟩:∃ W,W=wr:=⟨wr,rfl⟩
  obtain ⟨k,B',ow',rfl,hk,I,hB,X,Z,hox⟩:=hrel
  clear CR XR ZR SR mR
  have S:=h.no I.mod
  have lX:=X.lt
  have lZ:=Z.lt
  have ln:=I.so.2.lt
  by_cases hkG:k < A.G
  ·have j0:(0:Int)≤k:=by omega
   have j1:(k:Int) < A.G:=by omega
   obtain ⟨s0,_⟩:=S.sp hkG (c:=0) hC
   go_wp2_with fail
   refine (cloneSpots (B.si k) A.C (B.sc k) (spt (A.spots k)) _ (S.1 (.si k) hkG).2 (by omega) (by omega) (fun i _=> by unfold spt;split;rfl;split <;> rfl)).mono ?_;rintro e w5 ⟨sg,scp,rfl,a1,a2,a3,RS,n5⟩
   have f0:=(I.so.2.mod n5 (fun h=> h)).free k
   have p0:=(I.so.2.mod n5 (fun h=> h)).cell hkG
   rw [if_neg (by omega)] at p0
   have ln5:=(I.so.2.mod n5 (fun h=> h)).lt
   clear s0
   go_wp2
   obtain ⟨ow2,I2,ho2⟩:=I.next hkG (scp:=scp) n5 a1 RS
   refine ⟨⟨k+1,_,ow2,by go_num,by omega,I2,hB,(X.mod n5 (fun h=> h)).setOther (p:=⟨nb,k,none⟩) (by show nb≠w.heap.size;omega) _,(Z.mod n5 (fun h=> h)).setOther (p:=⟨nb,k,none⟩) (by show nb≠w.heap.size+1;omega) _,by rw [ho2 _ (by omega)];exact hox.1,by rw [ho2 _ (by omega)];exact hox.2⟩,by simp only [RowKit.intOf];omega⟩
  ·obtain rfl:k=A.G:=by omega
   have j1:(A.G:Int)≤A.G:=by omega
   have x0:=X.cL 0 _ (by omega) rfl
   have x1:=X.cL 1 _ (by omega) rfl
   have x2:=X.cL 2 _ (by omega) rfl
   have x3:=X.cL 3 _ (by omega) rfl
   have x4:=X.cL 4 _ (by omega) rfl
   have x5:=X.cL 5 _ (by omega) rfl
   have x6:=X.cL 6 _ (by omega) rfl
   have f6:=X.free 6
   have z0:=Z.cL 0 _ (by omega) rfl
   have z1:=Z.cL 1 _ (by omega) rfl
   have z2:=Z.cL 2 _ (by omega) rfl
   have z3:=Z.cL 3 _ (by omega) rfl
   have z4:=Z.cL 4 _ (by omega) rfl
   have z5:=Z.cL 5 _ (by omega) rfl
   have z6:=Z.cL 6 _ (by omega) rfl
   have gf0:=Z.free 0
   have gf1:=Z.free 1
   have gf2:=Z.free 2
   have gf3:=Z.free 3
   have gf4:=Z.free 4
   have gf5:=Z.free 5
   have gf6:=Z.free 6
   have HF:=Lib.hid (And.intro I (And.intro hB HI.out.2.2))
   clear I hB S
   go_wp2
   obtain ⟨I,⟨hb1,hb2,hb3,hb4,hb5,hb6⟩,ht⟩:=HF.out
   have hm:=h7_mod (w.heap.size+1) (wk.setCell ⟨w.heap.size,6,none⟩ (slc nb A.G A.G)) (.int .i64 A.C) (.int .u64 A.cr) (slc gg A.G gc) (slc cc A.C kc) (slc uu A.C uc) (.slice to4 tn4 tc4) (slc nb A.G A.G)
   have hx:Mod (fun b=> b=w.heap.size∨b=w.heap.size+1) wk (h7 (w.heap.size+1) (wk.setCell ⟨w.heap.size,6,none⟩ (slc nb A.G A.G)) (.int .i64 A.C) (.int .u64 A.cr) (slc gg A.G gc) (slc cc A.C kc) (slc uu A.C uc) (.slice to4 tn4 tc4) (slc nb A.G A.G)):=Mod.trans ((Mod.refl (fun b=> b=w.heap.size∨b=w.heap.size+1) wk).setCell (p:=⟨w.heap.size,6,none⟩) (.inr (.inl rfl)) _) hm (fun b _ e=> .inr e)
   have S9:=I.done A.G
   have ox:∀ b,b=w.heap.size∨b=w.heap.size+1→ow' b= .no:=fun b e=> by rcases e with rfl|rfl;exact hox.1;exact hox.2
   refine bodyPost_ret (v:= .agg #[.int .i64 A.C, .int .u64 A.cr,slc gg A.G gc,slc cc A.C kc,slc uu A.C uc, .slice to4 tn4 tc4,slc nb A.G A.G]) (by simp [results,Tryz.results59,go_sem, *]) rfl ⟨{ B' with tv:= .slice to4 tn4 tc4,so:=nb,scap:=A.G },ow',by rw [←hb1,←hb2,←hb3,←hb4,←hb5,←hb6],S9.mod hx ox,Mod.trans I.mod hx (fun b hb e=> by omega),fun b hb=> (I.lt b hb).1, ?_⟩
   exact HTV.out
end
end Go.Q
namespace Go.Q
open Go.RowKit Go.Proofs
section
variable {A:ASt} {d:Nat}
set_option maxRecDepth 100000 in
set_option maxHeartbeats 4000000 in
theorem m_Do1 (A1:ASt) (h1:One1 A1 d) (hv1:VOk A1) (hC:0 < A1.C) (hC2:A1.C≤64) (c task group weight tO n mask got:Int) (w:World) (m:Nat) (ow:Nat→SOwn) (B:STB) (hs:MAt w m ow B A)
  (hOp:∀ W,MAt W m ow B A→Calls Tryz.prog 73 #[ptr m,opv 1 c task group weight tO n mask] W fun e w' => ∃ B' ow',e= .returned (.tuple #[.int .i64 got, .int .i64 0])∧MAt w' m ow' B' A1∧Mod (fun b=> ow b≠ .no∨b=m) W w' ∧∀ b,b < W.heap.size→ow' b=ow b):
  Calls Tryz.prog 23 #[ptr m,opv 1 c task group weight tO n mask] w fun e w' => ∃ B' ow',e= .returned (.tuple #[.int .i64 got, .int .i64 0])∧MAt w' m ow' B' { A1 with spots:=rsp A1 d }∧Mod (fun b=> ow b≠ .no∨b=m) w w' ∧∀ b,b < w.heap.size→ow' b=ow b:=by
 have HOp:=Lib.hid hOp
 have ON:=Lib.hid (show ∀ b,w.heap.size≤b→ow b= .no from fun b hb=> Classical.byContradiction fun hh=> by have:=hs.st.2 _ hh;omega)
 clear hOp
 have lM:=hs.row.lt
 have c7:=hs.look.2.2.2.2.2.2.2
 go_enter Tryz.func23,Tryz.ntmps23
 go_upto_region 4 with fail
 refine wp_world (fun V=> MAt V m ow B A∧Mod No w V∧Row V w.heap.size 8 (fl [.int .u8 1, .int .i64 c, .int .i64 task, .int .i64 group, .int .i64 weight, .int .i64 tO, .int .i64 n, .int .u64 mask])∧Row V (w.heap.size+1) 10 (fl [.func (.func 73) #[ptr m] #[], .func (.func 74) #[ptr m] #[], .func (.func 75) #[ptr m] #[], .func (.func 75) #[ptr m] #[], .func (.func 76) #[ptr m] #[], .func (.func 77) #[ptr m] #[], .func (.func 78) #[ptr m] #[], .func (.func 79) #[ptr m] #[], .func (.func 80) #[ptr m] #[], .func (.func 81) #[ptr m] #[]])) ⟨hs.no (((Mod.refl No w).alloc _).alloc _),((Mod.refl No w).alloc _).alloc _,(row_newL w [_,_,_,_,_,_,_,_] _).alloc _,row_newL' _ _ [_,_,_,_,_,_,_,_,_,_] _ (by simp)⟩ ?_
 intro V ⟨MV,mV,OV,FV⟩
 clear c7
 have lO:=OV.lt
 have lF:=FV.lt
 have o0:=OV.cL 0 _ (by omega) rfl
 have hw0:IntKind.u8.wrap 0=0:=by decide
 go_upto_region 6 with fail
 have clsOf:∀ w',Row w' w.heap.size 8 (fl [.int .u8 1, .int .i64 c, .int .i64 task, .int .i64 group, .int .i64 weight, .int .i64 tO, .int .i64 n, .int .u64 mask])→Row w' (w.heap.size+1) 10 (fl [.func (.func 73) #[ptr m] #[], .func (.func 74) #[ptr m] #[], .func (.func 75) #[ptr m] #[], .func (.func 75) #[ptr m] #[], .func (.func 76) #[ptr m] #[], .func (.func 77) #[ptr m] #[], .func (.func 78) #[ptr m] #[], .func (.func 79) #[ptr m] #[], .func (.func 80) #[ptr m] #[], .func (.func 81) #[ptr m] #[]])→w'.cell? ⟨w.heap.size,0,none⟩=some (.int .u8 1)∧w'.cell? ⟨w.heap.size,1,none⟩=some (.int .i64 c)∧w'.cell? ⟨w.heap.size,2,none⟩=some (.int .i64 task)∧w'.cell? ⟨w.heap.size,3,none⟩=some (.int .i64 group)∧w'.cell? ⟨w.heap.size,4,none⟩=some (.int .i64 weight)∧w'.cell? ⟨w.heap.size,5,none⟩=some (.int .i64 tO)∧w'.cell? ⟨w.heap.size,6,none⟩=some (.int .i64 n)∧w'.cell? ⟨w.heap.size,7,none⟩=some (.int .u64 mask)∧w'.cell? ⟨w.heap.size+1,0,none⟩=some (.func (.func 73) #[ptr m] #[]):=fun w' O F=> by
  exact ⟨O.cL 0 _ (by omega) rfl,O.cL 1 _ (by omega) rfl,O.cL 2 _ (by omega) rfl,O.cL 3 _ (by omega) rfl,O.cL 4 _ (by omega) rfl,O.cL 5 _ (by omega) rfl,O.cL 6 _ (by omega) rfl,O.cL 7 _ (by omega) rfl,F.cL 0 _ (by omega) rfl⟩
 refine wp_region_chain (fun w' => w'.cell? ⟨w.heap.size,0,none⟩=some (.int .u8 1)∧w'.cell? ⟨w.heap.size,1,none⟩=some (.int .i64 c)∧w'.cell? ⟨w.heap.size,2,none⟩=some (.int .i64 task)∧w'.cell? ⟨w.heap.size,3,none⟩=some (.int .i64 group)∧w'.cell? ⟨w.heap.size,4,none⟩=some (.int .i64 weight)∧w'.cell? ⟨w.heap.size,5,none⟩=some (.int .i64 tO)∧w'.cell? ⟨w.heap.size,6,none⟩=some (.int .i64 n)∧w'.cell? ⟨w.heap.size,7,none⟩=some (.int .u64 mask)∧w'.cell? ⟨w.heap.size+1,0,none⟩=some (.func (.func 73) #[ptr m] #[])) [7] [] [] (rds [0,1,2,3,4,5,6] (.ef 7 (rds [8,9,10,11,12] .nil))) (by kernel_rfl) (by kernel_rfl) (clsOf _ OV.drew FV.drew) ?_
 intro OO hO
 have HO:=Lib.hid hO
 clear hO
 simp only [rds]
 (repeat (first|(refine lxp HO (v:=?_) (fun w'=> ?_) ?_;rotate_left;(focus (go_simp;(try exact rfl);done));try go_simp)|(refine lxr HO (v:=?_) (fun w' hC'=> ?_) ?_;rotate_left;(focus (obtain ⟨c1,c2,c3,c4,c5,c6,c7,c8,c9⟩:=hC';go_simp;(try exact rfl);done));try go_simp)|(refine lxo HO ?_;try go_simp)))
 refine lxe HO (fun Kx hKx=> ?_)
 go_simp
 refine (HOp.out _ (MV.no (Mod.refl No V).drew)).mono ?_;rintro e w3 ⟨B3,ow3,rfl,M3,m3,ho3⟩
 have O3:=OV.drew.mod m3 (by rintro (h|h);exact h (ON.out _ (Nat.le_refl _));omega)
 have F3:=FV.drew.mod m3 (by rintro (h|h);exact h (ON.out _ (by omega));omega)
 refine hKx _ _ (.inr (clsOf _ O3 F3)) ?_
 clear hKx Kx
 (repeat (first|(refine lxp HO (v:=?_) (fun w'=> ?_) ?_;rotate_left;(focus (go_simp;(try exact rfl);done));try go_simp)|(refine lxr HO (v:=?_) (fun w' hC'=> ?_) ?_;rotate_left;(focus (obtain ⟨c1,c2,c3,c4,c5,c6,c7,c8,c9⟩:=hC';go_simp;(try exact rfl);done));try go_simp)|(refine lxo HO ?_;try go_simp)))
 refine wpL_nil ?_
 clear HO
 go_wp2_with fail
 refine (m_rise h1 hv1 w3 m ow3 B3 M3 hC hC2).mono ?_;rintro e w4 ⟨rfl,M4,m4⟩
 go_wp2
 go_ret2
 have hzV:=mV.size
 refine ⟨B3,ow3,rfl,M4, ?_,fun b hb=> ho3 b (by simp only [World.size_drew];omega)⟩
 refine (Mod.trans (Mod.trans ((mV.drew).no (fun b=> ow b≠ .no∨b=m∨w.heap.size≤b)) (m3.mono (T:=fun b=> ow b≠ .no∨b=m∨w.heap.size≤b) (fun b _ e=> by rcases e with e|e;exact .inl e;exact .inr (.inl e))) (fun _ _ h=> h)) (m4.mono (T:=fun b=> ow b≠ .no∨b=m∨w.heap.size≤b) (fun b _ e=> ?_)) (fun _ _ h=> h)).mono (fun b hb h=> by rcases h with h|h|h;exact .inl h;exact .inr h;omega)
 by_cases hb:b < V.heap.size
 ·rw [ho3 b (by simpa using hb)] at e;exact .inl e
 ·exact .inr (.inr (by omega))
set_option maxRecDepth 100000 in
set_option maxHeartbeats 4000000 in
theorem m_Do5 (A1:ASt) (h1:One1 A1 d) (hv1:VOk A1) (hC:0 < A1.C) (hC2:A1.C≤64) (c task group weight tO n mask got:Int) (w:World) (m:Nat) (ow:Nat→SOwn) (B:STB) (hs:MAt w m ow B A)
  (hOp:∀ W,MAt W m ow B A→Calls Tryz.prog 76 #[ptr m,opv 5 c task group weight tO n mask] W fun e w' => ∃ B' ow',e= .returned (.tuple #[.int .i64 got, .int .i64 0])∧MAt w' m ow' B' A1∧Mod (fun b=> ow b≠ .no∨b=m) W w' ∧∀ b,b < W.heap.size→ow' b=ow b):
  Calls Tryz.prog 23 #[ptr m,opv 5 c task group weight tO n mask] w fun e w' => ∃ B' ow',e= .returned (.tuple #[.int .i64 got, .int .i64 0])∧MAt w' m ow' B' { A1 with spots:=rsp A1 d }∧Mod (fun b=> ow b≠ .no∨b=m) w w' ∧∀ b,b < w.heap.size→ow' b=ow b:=by
 have HOp:=Lib.hid hOp
 have ON:=Lib.hid (show ∀ b,w.heap.size≤b→ow b= .no from fun b hb=> Classical.byContradiction fun hh=> by have:=hs.st.2 _ hh;omega)
 clear hOp
 have lM:=hs.row.lt
 have c7:=hs.look.2.2.2.2.2.2.2
 go_enter Tryz.func23,Tryz.ntmps23
 go_upto_region 4 with fail
 refine wp_world (fun V=> MAt V m ow B A∧Mod No w V∧Row V w.heap.size 8 (fl [.int .u8 5, .int .i64 c, .int .i64 task, .int .i64 group, .int .i64 weight, .int .i64 tO, .int .i64 n, .int .u64 mask])∧Row V (w.heap.size+1) 10 (fl [.func (.func 73) #[ptr m] #[], .func (.func 74) #[ptr m] #[], .func (.func 75) #[ptr m] #[], .func (.func 75) #[ptr m] #[], .func (.func 76) #[ptr m] #[], .func (.func 77) #[ptr m] #[], .func (.func 78) #[ptr m] #[], .func (.func 79) #[ptr m] #[], .func (.func 80) #[ptr m] #[], .func (.func 81) #[ptr m] #[]])) ⟨hs.no (((Mod.refl No w).alloc _).alloc _),((Mod.refl No w).alloc _).alloc _,(row_newL w [_,_,_,_,_,_,_,_] _).alloc _,row_newL' _ _ [_,_,_,_,_,_,_,_,_,_] _ (by simp)⟩ ?_
 intro V ⟨MV,mV,OV,FV⟩
 clear c7
 have lO:=OV.lt
 have lF:=FV.lt
 have o0:=OV.cL 0 _ (by omega) rfl
 have hw0:IntKind.u8.wrap 4=4:=by decide
 go_upto_region 6 with fail
 have clsOf:∀ w',Row w' w.heap.size 8 (fl [.int .u8 5, .int .i64 c, .int .i64 task, .int .i64 group, .int .i64 weight, .int .i64 tO, .int .i64 n, .int .u64 mask])→Row w' (w.heap.size+1) 10 (fl [.func (.func 73) #[ptr m] #[], .func (.func 74) #[ptr m] #[], .func (.func 75) #[ptr m] #[], .func (.func 75) #[ptr m] #[], .func (.func 76) #[ptr m] #[], .func (.func 77) #[ptr m] #[], .func (.func 78) #[ptr m] #[], .func (.func 79) #[ptr m] #[], .func (.func 80) #[ptr m] #[], .func (.func 81) #[ptr m] #[]])→w'.cell? ⟨w.heap.size,0,none⟩=some (.int .u8 5)∧w'.cell? ⟨w.heap.size,1,none⟩=some (.int .i64 c)∧w'.cell? ⟨w.heap.size,2,none⟩=some (.int .i64 task)∧w'.cell? ⟨w.heap.size,3,none⟩=some (.int .i64 group)∧w'.cell? ⟨w.heap.size,4,none⟩=some (.int .i64 weight)∧w'.cell? ⟨w.heap.size,5,none⟩=some (.int .i64 tO)∧w'.cell? ⟨w.heap.size,6,none⟩=some (.int .i64 n)∧w'.cell? ⟨w.heap.size,7,none⟩=some (.int .u64 mask)∧w'.cell? ⟨w.heap.size+1,4,none⟩=some (.func (.func 76) #[ptr m] #[]):=fun w' O F=> by
  exact ⟨O.cL 0 _ (by omega) rfl,O.cL 1 _ (by omega) rfl,O.cL 2 _ (by omega) rfl,O.cL 3 _ (by omega) rfl,O.cL 4 _ (by omega) rfl,O.cL 5 _ (by omega) rfl,O.cL 6 _ (by omega) rfl,O.cL 7 _ (by omega) rfl,F.cL 4 _ (by omega) rfl⟩
 refine wp_region_chain (fun w' => w'.cell? ⟨w.heap.size,0,none⟩=some (.int .u8 5)∧w'.cell? ⟨w.heap.size,1,none⟩=some (.int .i64 c)∧w'.cell? ⟨w.heap.size,2,none⟩=some (.int .i64 task)∧w'.cell? ⟨w.heap.size,3,none⟩=some (.int .i64 group)∧w'.cell? ⟨w.heap.size,4,none⟩=some (.int .i64 weight)∧w'.cell? ⟨w.heap.size,5,none⟩=some (.int .i64 tO)∧w'.cell? ⟨w.heap.size,6,none⟩=some (.int .i64 n)∧w'.cell? ⟨w.heap.size,7,none⟩=some (.int .u64 mask)∧w'.cell? ⟨w.heap.size+1,4,none⟩=some (.func (.func 76) #[ptr m] #[])) [7] [] [] (rds [0,1,2,3,4,5,6] (.ef 7 (rds [8,9,10,11,12] .nil))) (by kernel_rfl) (by kernel_rfl) (clsOf _ OV.drew FV.drew) ?_
 intro OO hO
 have HO:=Lib.hid hO
 clear hO
 simp only [rds]
 (repeat (first|(refine lxp HO (v:=?_) (fun w'=> ?_) ?_;rotate_left;(focus (go_simp;(try exact rfl);done));try go_simp)|(refine lxr HO (v:=?_) (fun w' hC'=> ?_) ?_;rotate_left;(focus (obtain ⟨c1,c2,c3,c4,c5,c6,c7,c8,c9⟩:=hC';go_simp;(try exact rfl);done));try go_simp)|(refine lxo HO ?_;try go_simp)))
 refine lxe HO (fun Kx hKx=> ?_)
 go_simp
 refine (HOp.out _ (MV.no (Mod.refl No V).drew)).mono ?_;rintro e w3 ⟨B3,ow3,rfl,M3,m3,ho3⟩
 have O3:=OV.drew.mod m3 (by rintro (h|h);exact h (ON.out _ (Nat.le_refl _));omega)
 have F3:=FV.drew.mod m3 (by rintro (h|h);exact h (ON.out _ (by omega));omega)
 refine hKx _ _ (.inr (clsOf _ O3 F3)) ?_
 clear hKx Kx
 (repeat (first|(refine lxp HO (v:=?_) (fun w'=> ?_) ?_;rotate_left;(focus (go_simp;(try exact rfl);done));try go_simp)|(refine lxr HO (v:=?_) (fun w' hC'=> ?_) ?_;rotate_left;(focus (obtain ⟨c1,c2,c3,c4,c5,c6,c7,c8,c9⟩:=hC';go_simp;(try exact rfl);done));try go_simp)|(refine lxo HO ?_;try go_simp)))
 refine wpL_nil ?_
 clear HO
 go_wp2_with fail
 refine (m_rise h1 hv1 w3 m ow3 B3 M3 hC hC2).mono ?_;rintro e w4 ⟨rfl,M4,m4⟩
 go_wp2
 go_ret2
 have hzV:=mV.size
 refine ⟨B3,ow3,rfl,M4, ?_,fun b hb=> ho3 b (by simp only [World.size_drew];omega)⟩
 refine (Mod.trans (Mod.trans ((mV.drew).no (fun b=> ow b≠ .no∨b=m∨w.heap.size≤b)) (m3.mono (T:=fun b=> ow b≠ .no∨b=m∨w.heap.size≤b) (fun b _ e=> by rcases e with e|e;exact .inl e;exact .inr (.inl e))) (fun _ _ h=> h)) (m4.mono (T:=fun b=> ow b≠ .no∨b=m∨w.heap.size≤b) (fun b _ e=> ?_)) (fun _ _ h=> h)).mono (fun b hb h=> by rcases h with h|h|h;exact .inl h;exact .inr h;omega)
 by_cases hb:b < V.heap.size
 ·rw [ho3 b (by simpa using hb)] at e;exact .inl e
 ·exact .inr (.inr (by omega))
set_option maxRecDepth 100000 in
set_option maxHeartbeats 4000000 in
theorem m_Do6 (A1:ASt) (h1:One1 A1 d) (hv1:VOk A1) (hC:0 < A1.C) (hC2:A1.C≤64) (c task group weight tO n mask got:Int) (w:World) (m:Nat) (ow:Nat→SOwn) (B:STB) (hs:MAt w m ow B A)
  (hOp:∀ W,MAt W m ow B A→Calls Tryz.prog 77 #[ptr m,opv 6 c task group weight tO n mask] W fun e w' => ∃ B' ow',e= .returned (.tuple #[.int .i64 got, .int .i64 0])∧MAt w' m ow' B' A1∧Mod (fun b=> ow b≠ .no∨b=m) W w' ∧∀ b,b < W.heap.size→ow' b=ow b):
  Calls Tryz.prog 23 #[ptr m,opv 6 c task group weight tO n mask] w fun e w' => ∃ B' ow',e= .returned (.tuple #[.int .i64 got, .int .i64 0])∧MAt w' m ow' B' { A1 with spots:=rsp A1 d }∧Mod (fun b=> ow b≠ .no∨b=m) w w' ∧∀ b,b < w.heap.size→ow' b=ow b:=by
 have HOp:=Lib.hid hOp
 have ON:=Lib.hid (show ∀ b,w.heap.size≤b→ow b= .no from fun b hb=> Classical.byContradiction fun hh=> by have:=hs.st.2 _ hh;omega)
 clear hOp
 have lM:=hs.row.lt
 have c7:=hs.look.2.2.2.2.2.2.2
 go_enter Tryz.func23,Tryz.ntmps23
 go_upto_region 4 with fail
 refine wp_world (fun V=> MAt V m ow B A∧Mod No w V∧Row V w.heap.size 8 (fl [.int .u8 6, .int .i64 c, .int .i64 task, .int .i64 group, .int .i64 weight, .int .i64 tO, .int .i64 n, .int .u64 mask])∧Row V (w.heap.size+1) 10 (fl [.func (.func 73) #[ptr m] #[], .func (.func 74) #[ptr m] #[], .func (.func 75) #[ptr m] #[], .func (.func 75) #[ptr m] #[], .func (.func 76) #[ptr m] #[], .func (.func 77) #[ptr m] #[], .func (.func 78) #[ptr m] #[], .func (.func 79) #[ptr m] #[], .func (.func 80) #[ptr m] #[], .func (.func 81) #[ptr m] #[]])) ⟨hs.no (((Mod.refl No w).alloc _).alloc _),((Mod.refl No w).alloc _).alloc _,(row_newL w [_,_,_,_,_,_,_,_] _).alloc _,row_newL' _ _ [_,_,_,_,_,_,_,_,_,_] _ (by simp)⟩ ?_
 intro V ⟨MV,mV,OV,FV⟩
 clear c7
 have lO:=OV.lt
 have lF:=FV.lt
 have o0:=OV.cL 0 _ (by omega) rfl
 have hw0:IntKind.u8.wrap 5=5:=by decide
 go_upto_region 6 with fail
 have clsOf:∀ w',Row w' w.heap.size 8 (fl [.int .u8 6, .int .i64 c, .int .i64 task, .int .i64 group, .int .i64 weight, .int .i64 tO, .int .i64 n, .int .u64 mask])→Row w' (w.heap.size+1) 10 (fl [.func (.func 73) #[ptr m] #[], .func (.func 74) #[ptr m] #[], .func (.func 75) #[ptr m] #[], .func (.func 75) #[ptr m] #[], .func (.func 76) #[ptr m] #[], .func (.func 77) #[ptr m] #[], .func (.func 78) #[ptr m] #[], .func (.func 79) #[ptr m] #[], .func (.func 80) #[ptr m] #[], .func (.func 81) #[ptr m] #[]])→w'.cell? ⟨w.heap.size,0,none⟩=some (.int .u8 6)∧w'.cell? ⟨w.heap.size,1,none⟩=some (.int .i64 c)∧w'.cell? ⟨w.heap.size,2,none⟩=some (.int .i64 task)∧w'.cell? ⟨w.heap.size,3,none⟩=some (.int .i64 group)∧w'.cell? ⟨w.heap.size,4,none⟩=some (.int .i64 weight)∧w'.cell? ⟨w.heap.size,5,none⟩=some (.int .i64 tO)∧w'.cell? ⟨w.heap.size,6,none⟩=some (.int .i64 n)∧w'.cell? ⟨w.heap.size,7,none⟩=some (.int .u64 mask)∧w'.cell? ⟨w.heap.size+1,5,none⟩=some (.func (.func 77) #[ptr m] #[]):=fun w' O F=> by
  exact ⟨O.cL 0 _ (by omega) rfl,O.cL 1 _ (by omega) rfl,O.cL 2 _ (by omega) rfl,O.cL 3 _ (by omega) rfl,O.cL 4 _ (by omega) rfl,O.cL 5 _ (by omega) rfl,O.cL 6 _ (by omega) rfl,O.cL 7 _ (by omega) rfl,F.cL 5 _ (by omega) rfl⟩
 refine wp_region_chain (fun w' => w'.cell? ⟨w.heap.size,0,none⟩=some (.int .u8 6)∧w'.cell? ⟨w.heap.size,1,none⟩=some (.int .i64 c)∧w'.cell? ⟨w.heap.size,2,none⟩=some (.int .i64 task)∧w'.cell? ⟨w.heap.size,3,none⟩=some (.int .i64 group)∧w'.cell? ⟨w.heap.size,4,none⟩=some (.int .i64 weight)∧w'.cell? ⟨w.heap.size,5,none⟩=some (.int .i64 tO)∧w'.cell? ⟨w.heap.size,6,none⟩=some (.int .i64 n)∧w'.cell? ⟨w.heap.size,7,none⟩=some (.int .u64 mask)∧w'.cell? ⟨w.heap.size+1,5,none⟩=some (.func (.func 77) #[ptr m] #[])) [7] [] [] (rds [0,1,2,3,4,5,6] (.ef 7 (rds [8,9,10,11,12] .nil))) (by kernel_rfl) (by kernel_rfl) (clsOf _ OV.drew FV.drew) ?_
 intro OO hO
 have HO:=Lib.hid hO
 clear hO
 simp only [rds]
 (repeat (first|(refine lxp HO (v:=?_) (fun w'=> ?_) ?_;rotate_left;(focus (go_simp;(try exact rfl);done));try go_simp)|(refine lxr HO (v:=?_) (fun w' hC'=> ?_) ?_;rotate_left;(focus (obtain ⟨c1,c2,c3,c4,c5,c6,c7,c8,c9⟩:=hC';go_simp;(try exact rfl);done));try go_simp)|(refine lxo HO ?_;try go_simp)))
 refine lxe HO (fun Kx hKx=> ?_)
 go_simp
 refine (HOp.out _ (MV.no (Mod.refl No V).drew)).mono ?_;rintro e w3 ⟨B3,ow3,rfl,M3,m3,ho3⟩
 have O3:=OV.drew.mod m3 (by rintro (h|h);exact h (ON.out _ (Nat.le_refl _));omega)
 have F3:=FV.drew.mod m3 (by rintro (h|h);exact h (ON.out _ (by omega));omega)
 refine hKx _ _ (.inr (clsOf _ O3 F3)) ?_
 clear hKx Kx
 (repeat (first|(refine lxp HO (v:=?_) (fun w'=> ?_) ?_;rotate_left;(focus (go_simp;(try exact rfl);done));try go_simp)|(refine lxr HO (v:=?_) (fun w' hC'=> ?_) ?_;rotate_left;(focus (obtain ⟨c1,c2,c3,c4,c5,c6,c7,c8,c9⟩:=hC';go_simp;(try exact rfl);done));try go_simp)|(refine lxo HO ?_;try go_simp)))
 refine wpL_nil ?_
 clear HO
 go_wp2_with fail
 refine (m_rise h1 hv1 w3 m ow3 B3 M3 hC hC2).mono ?_;rintro e w4 ⟨rfl,M4,m4⟩
 go_wp2
 go_ret2
 have hzV:=mV.size
 refine ⟨B3,ow3,rfl,M4, ?_,fun b hb=> ho3 b (by simp only [World.size_drew];omega)⟩
 refine (Mod.trans (Mod.trans ((mV.drew).no (fun b=> ow b≠ .no∨b=m∨w.heap.size≤b)) (m3.mono (T:=fun b=> ow b≠ .no∨b=m∨w.heap.size≤b) (fun b _ e=> by rcases e with e|e;exact .inl e;exact .inr (.inl e))) (fun _ _ h=> h)) (m4.mono (T:=fun b=> ow b≠ .no∨b=m∨w.heap.size≤b) (fun b _ e=> ?_)) (fun _ _ h=> h)).mono (fun b hb h=> by rcases h with h|h|h;exact .inl h;exact .inr h;omega)
 by_cases hb:b < V.heap.size
 ·rw [ho3 b (by simpa using hb)] at e;exact .inl e
 ·exact .inr (.inr (by omega))
set_option maxRecDepth 100000 in
set_option maxHeartbeats 4000000 in
theorem m_State (w:World) (m:Nat) (ow:Nat→SOwn) (B:STB) (hs:MAt w m ow B A) (htv:A.task=none→B.tv= .slice none 0 0) (hC:0 < A.C) (hC2:A.C≤64) (hG:0 < A.G) (hG2:A.G≤256):
  Calls Tryz.prog 26 #[ptr m] w fun e w' => ∃ B' ow',e= .returned (.tuple #[stv B' A, .int .i64 0])∧StAt w' ow' B' A∧Mod No w w' ∧∀ b,ow' b≠ .no→w.heap.size≤b:=by
 obtain ⟨o5,n5,d5,hv5⟩:=hs.st.tvo
 have HI:=Lib.hid (And.intro hs (And.intro htv hv5))
 have lM:=hs.row.lt
 obtain ⟨c0,c1,c2,c3,c4,c5,c6,c7⟩:=hs.look
 rw [hv5] at c5
 clear hs htv hv5
 go_enter Tryz.func26,Tryz.ntmps26
 go_wp2_with fail
 refine (show Calls Tryz.prog 59 #[.agg #[.int .i64 A.C, .int .u64 A.cr,slc B.gb A.G B.gcap,slc B.cl A.C B.ccap,slc B.cu A.C B.ucap, .slice o5 n5 d5,slc B.so A.G B.scap]] _ _ from by rw [←HI.out.2.2];exact m_copied A _ ow B (HI.out.1.no (by (repeat first|(with_reducible exact (Mod.refl No w))|(with_reducible refine Mod.alloc ?_ _)|(with_reducible refine Mod.drew ?_)|(with_reducible refine Mod.drewN ?_ _)|(with_reducible refine Mod.sc ?_)))).st HI.out.2.1 hC hC2 hG hG2).mono ?_;rintro e w1 ⟨B1,ow1,rfl,S1,n1,o1,_⟩
 have Z1:Row w1 w.heap.size 7 (fl [.int .i64 0, .int .u64 0, .slice none 0 0, .slice none 0 0, .slice none 0 0, .slice none 0 0, .slice none 0 0]):=(row_newL w [_,_,_,_,_,_,_] _).mod n1 (fun h=> h)
 obtain ⟨o6,n6,d6,hv6⟩:=S1.tvo
 have e6:stv B1 A= .agg #[.int .i64 A.C, .int .u64 A.cr,slc B1.gb A.G B1.gcap,slc B1.cl A.C B1.ccap,slc B1.cu A.C B1.ucap, .slice o6 n6 d6,slc B1.so A.G B1.scap]:=by rw [←hv6]
 rw [e6]
 have HE:=Lib.hid e6
 clear e6 hv6 c0 c1 c2 c3 c4 c5 c6 c7
 have ox:ow1 w.heap.size= .no:=Classical.byContradiction fun hh=> by have:=o1 _ hh;simp only [World.size_alloc] at this;omega
 have z0:=Z1.cL 0 _ (by omega) rfl
 have z1:=Z1.cL 1 _ (by omega) rfl
 have z2:=Z1.cL 2 _ (by omega) rfl
 have z3:=Z1.cL 3 _ (by omega) rfl
 have z4:=Z1.cL 4 _ (by omega) rfl
 have z5:=Z1.cL 5 _ (by omega) rfl
 have z6:=Z1.cL 6 _ (by omega) rfl
 have gf0:=Z1.free 0
 have gf1:=Z1.free 1
 have gf2:=Z1.free 2
 have gf3:=Z1.free 3
 have gf4:=Z1.free 4
 have gf5:=Z1.free 5
 have gf6:=Z1.free 6
 have lZ:=Z1.lt
 have HS:=Lib.hid (And.intro S1 (And.intro n1 (And.intro o1 ox)))
 clear S1 n1 o1 ox
 go_wp2
 obtain ⟨S1,n1,o1,ox⟩:=HS.out
 have hm:=h7_mod w.heap.size w1 (.int .i64 A.C) (.int .u64 A.cr) (slc B1.gb A.G B1.gcap) (slc B1.cl A.C B1.ccap) (slc B1.cu A.C B1.ucap) (.slice o6 n6 d6) (slc B1.so A.G B1.scap)
 refine bodyPost_ret (v:= .tuple #[.agg #[.int .i64 A.C, .int .u64 A.cr,slc B1.gb A.G B1.gcap,slc B1.cl A.C B1.ccap,slc B1.cu A.C B1.ucap, .slice o6 n6 d6,slc B1.so A.G B1.scap], .int .i64 0]) (by simp [results,Tryz.results26,go_sem, *]) rfl ⟨B1,ow1,by rw [←HE.out],S1.mod hm (by rintro b rfl;exact ox),Mod.trans (Mod.trans ((Mod.refl No w).alloc _) n1 (fun _ _ h=> h)) hm (fun b hb e=> by have e' :b=w.heap.size:=e;omega),fun b hb=> by have:=o1 b hb;simp only [World.size_alloc] at this;omega⟩
end
end Go.Q
